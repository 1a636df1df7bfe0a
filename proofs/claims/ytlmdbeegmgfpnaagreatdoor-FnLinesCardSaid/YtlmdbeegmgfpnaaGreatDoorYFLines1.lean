/- FnLines, part 1 of 4: what the law's functions come to, plain laws on it, and the row; no condition -/
import Derived.Test.YtlmdbeegmgfpnaaGreatDoorProg
import Derived.Shelf.Strconv.Atoi
import Derived.Shelf.LaysM
import Derived.Shelf.Strconv.Itoa3
import Derived.Shelf.Strings.Search3
import Derived.Shelf.Strings.Count
import Derived.Deep.Slices
import Derived.Deep.Fields
import Derived.ChangeSame
import Derived.Lib.SmallJoins
import Derived.WalkKit
import Derived.ProofKit
import Derived.OpenShut
import Derived.ShutString
import Derived.ChangeOld
import Derived.SizedLaws
import Derived.Lib.Bytealg
import Derived.Lib.ItoaNum
import Derived.Lib.Atoi
import Derived.Test.YtlmdbeegmgfpnaaGreatDoorMC2
/- The machine's table of this seat's types, and that it fits the program; no condition. -/
namespace Go.Proofs.YtlmdbeegmgfpnaaGreatDoor.AM
set_option linter.unusedVariables false
open Go.AM

def tab : Tab := [
  (1, ⟨.fn, 1, 8, false, [.nilf], [none]⟩),
  (2, ⟨.int .i64, 1, 8, false, [.int .i64 0], [none]⟩),
  (3, ⟨.int .i64, 1, 8, false, [.int .i64 0], [none]⟩),
  (4, ⟨.bool, 1, 1, false, [.bool false], [none]⟩),
  (5, ⟨.int .u8, 1, 1, false, [.int .u8 0], [none]⟩),
  (9, ⟨.str, 1, 16, false, [.str ByteArray.empty], [none]⟩),
  (15, ⟨.ptr, 1, 8, false, [.nilp], [none]⟩),
  (16, ⟨.ptr, 1, 8, false, [.nilp], [none]⟩),
  (17, ⟨.ptr, 1, 8, false, [.nilp], [none]⟩),
  (21, ⟨.int .i32, 1, 4, false, [.int .i32 0], [none]⟩),
  (22, ⟨.fn, 1, 8, false, [.nilf], [none]⟩),
  (23, ⟨.fn, 1, 8, false, [.nilf], [none]⟩),
  (24, ⟨.sl (.int .u8) 5, 1, 24, false, [.nil], [some (.int .u8)]⟩),
  (25, ⟨.fn, 1, 8, false, [.nilf], [none]⟩),
  (26, ⟨.fn, 1, 8, false, [.nilf], [none]⟩),
  (27, ⟨.sl (.str) 9, 1, 24, false, [.nil], [some (.str)]⟩),
  (28, ⟨.fn, 1, 8, false, [.nilf], [none]⟩),
  (29, ⟨.sl (.mv) 43, 1, 24, false, [.nil], [some (.mv)]⟩),
  (30, ⟨.sl (.int .i64) 3, 1, 24, false, [.nil], [some (.int .i64)]⟩),
  (32, ⟨.st [(0, 1, false), (1, 1, false), (2, 1, false), (3, 1, false)] false, 4, 64, true, [.int .i64 0, .int .i64 0, .nil, .nil], [none, none, some .mv, some (.int .i64)]⟩),
  (34, ⟨.fn, 1, 8, false, [.nilf], [none]⟩),
  (35, ⟨.fn, 1, 8, false, [.nilf], [none]⟩),
  (36, ⟨.ptr, 1, 8, false, [.nilp], [none]⟩),
  (38, ⟨.st [(0, 4, true)] false, 4, 64, true, [.int .i64 0, .int .i64 0, .nil, .nil], [none, none, some .mv, some (.int .i64)]⟩),
  (39, ⟨.ptr, 1, 8, false, [.nilp], [none]⟩),
  (40, ⟨.fn, 1, 8, false, [.nilf], [none]⟩),
  (41, ⟨.fn, 1, 8, false, [.nilf], [none]⟩),
  (43, ⟨.st [(0, 1, false), (1, 1, false), (2, 1, false), (3, 1, false), (4, 1, false), (5, 1, false)] true, 6, 56, true, [.str ByteArray.empty, .bool false, .int .i64 0, .int .i64 0, .int .i64 0, .int .i64 0], [none, none, none, none, none, none]⟩),
  (44, ⟨.fn, 1, 8, false, [.nilf], [none]⟩),
  (45, ⟨.fn, 1, 8, false, [.nilf], [none]⟩),
  (46, ⟨.fn, 1, 8, false, [.nilf], [none]⟩),
  (47, ⟨.fn, 1, 8, false, [.nilf], [none]⟩),
  (48, ⟨.fn, 1, 8, false, [.nilf], [none]⟩),
  (50, ⟨.fn, 1, 8, false, [.nilf], [none]⟩),
  (51, ⟨.fn, 1, 8, false, [.nilf], [none]⟩),
  (53, ⟨.fn, 1, 8, false, [.nilf], [none]⟩),
  (54, ⟨.fn, 1, 8, false, [.nilf], [none]⟩),
  (55, ⟨.fn, 1, 8, false, [.nilf], [none]⟩),
  (56, ⟨.fn, 1, 8, false, [.nilf], [none]⟩),
  (57, ⟨.fn, 1, 8, false, [.nilf], [none]⟩),
  (58, ⟨.arr 3 1 false, 3, 24, true, [.int .i64 0, .int .i64 0, .int .i64 0], [none, none, none]⟩),
  (60, ⟨.fn, 1, 8, false, [.nilf], [none]⟩),
  (61, ⟨.fn, 1, 8, false, [.nilf], [none]⟩),
  (62, ⟨.fn, 1, 8, false, [.nilf], [none]⟩),
  (64, ⟨.st [(0, 1, false), (1, 1, false)] false, 2, 32, true, [.nil, .int .i64 0], [some (.int .u8), none]⟩),
  (65, ⟨.fn, 1, 8, false, [.nilf], [none]⟩),
  (66, ⟨.fn, 1, 8, false, [.nilf], [none]⟩),
  (67, ⟨.fn, 1, 8, false, [.nilf], [none]⟩),
  (68, ⟨.fn, 1, 8, false, [.nilf], [none]⟩),
  (69, ⟨.fn, 1, 8, false, [.nilf], [none]⟩),
  (70, ⟨.fn, 1, 8, false, [.nilf], [none]⟩),
  (71, ⟨.fn, 1, 8, false, [.nilf], [none]⟩),
  (72, ⟨.fn, 1, 8, false, [.nilf], [none]⟩),
  (74, ⟨.fn, 1, 8, false, [.nilf], [none]⟩),
  (76, ⟨.fn, 1, 8, false, [.nilf], [none]⟩),
  (78, ⟨.fn, 1, 8, false, [.nilf], [none]⟩),
  (79, ⟨.fn, 1, 8, false, [.nilf], [none]⟩),
  (80, ⟨.fn, 1, 8, false, [.nilf], [none]⟩),
  (81, ⟨.fn, 1, 8, false, [.nilf], [none]⟩),
  (85, ⟨.fn, 1, 8, false, [.nilf], [none]⟩),
  (86, ⟨.fn, 1, 8, false, [.nilf], [none]⟩),
  (87, ⟨.fn, 1, 8, false, [.nilf], [none]⟩),
  (88, ⟨.fn, 1, 8, false, [.nilf], [none]⟩),
  (89, ⟨.fn, 1, 8, false, [.nilf], [none]⟩),
  (90, ⟨.fn, 1, 8, false, [.nilf], [none]⟩),
  (91, ⟨.fn, 1, 8, false, [.nilf], [none]⟩),
  (92, ⟨.fn, 1, 8, false, [.nilf], [none]⟩),
  (94, ⟨.fn, 1, 8, false, [.nilf], [none]⟩),
  (95, ⟨.fn, 1, 8, false, [.nilf], [none]⟩),
  (97, ⟨.fn, 1, 8, false, [.nilf], [none]⟩),
  (98, ⟨.fn, 1, 8, false, [.nilf], [none]⟩),
  (99, ⟨.fn, 1, 8, false, [.nilf], [none]⟩),
  (100, ⟨.fn, 1, 8, false, [.nilf], [none]⟩),
  (101, ⟨.fn, 1, 8, false, [.nilf], [none]⟩),
  (105, ⟨.st [(0, 1, false), (1, 1, false), (2, 1, false)] false, 3, 24, true, [.nilp, .nilp, .int .u64 0], [none, none, none]⟩),
  (106, ⟨.fn, 1, 8, false, [.nilf], [none]⟩),
  (107, ⟨.fn, 1, 8, false, [.nilf], [none]⟩),
  (108, ⟨.fn, 1, 8, false, [.nilf], [none]⟩),
  (109, ⟨.fn, 1, 8, false, [.nilf], [none]⟩),
  (110, ⟨.fn, 1, 8, false, [.nilf], [none]⟩),
  (111, ⟨.int .u64, 1, 8, false, [.int .u64 0], [none]⟩),
  (112, ⟨.fn, 1, 8, false, [.nilf], [none]⟩),
  (114, ⟨.st [(0, 1, false), (1, 1, false)] false, 2, 16, true, [.nilf, .nilf], [none, none]⟩),
  (115, ⟨.fn, 1, 8, false, [.nilf], [none]⟩),
  (116, ⟨.fn, 1, 8, false, [.nilf], [none]⟩),
  (117, ⟨.fn, 1, 8, false, [.nilf], [none]⟩),
  (118, ⟨.sl (.ints) 30, 1, 24, false, [.nil], [some (.ints)]⟩),
  (119, ⟨.fn, 1, 8, false, [.nilf], [none]⟩),
  (120, ⟨.fn, 1, 8, false, [.nilf], [none]⟩),
  (121, ⟨.fn, 1, 8, false, [.nilf], [none]⟩),
  (122, ⟨.fn, 1, 8, false, [.nilf], [none]⟩),
  (124, ⟨.fn, 1, 8, false, [.nilf], [none]⟩),
  (127, ⟨.fn, 1, 8, false, [.nilf], [none]⟩),
  (128, ⟨.ptr, 1, 8, false, [.nilp], [none]⟩),
  (129, ⟨.fn, 1, 8, false, [.nilf], [none]⟩),
  (130, ⟨.fn, 1, 8, false, [.nilf], [none]⟩),
  (131, ⟨.fn, 1, 8, false, [.nilf], [none]⟩),
  (132, ⟨.fn, 1, 8, false, [.nilf], [none]⟩),
  (135, ⟨.ptr, 1, 8, false, [.nilp], [none]⟩),
  (136, ⟨.fn, 1, 8, false, [.nilf], [none]⟩),
  (137, ⟨.int .u32, 1, 4, false, [.int .u32 0], [none]⟩),
  (138, ⟨.fn, 1, 8, false, [.nilf], [none]⟩),
  (139, ⟨.int .u64, 1, 8, false, [.int .u64 0], [none]⟩),
  (140, ⟨.fn, 1, 8, false, [.nilf], [none]⟩),
  (143, ⟨.fn, 1, 8, false, [.nilf], [none]⟩),
  (144, ⟨.fn, 1, 8, false, [.nilf], [none]⟩),
  (145, ⟨.fn, 1, 8, false, [.nilf], [none]⟩),
  (146, ⟨.fn, 1, 8, false, [.nilf], [none]⟩),
  (147, ⟨.fn, 1, 8, false, [.nilf], [none]⟩),
  (148, ⟨.fn, 1, 8, false, [.nilf], [none]⟩),
  (149, ⟨.fn, 1, 8, false, [.nilf], [none]⟩),
  (150, ⟨.fn, 1, 8, false, [.nilf], [none]⟩),
  (156, ⟨.fn, 1, 8, false, [.nilf], [none]⟩),
  (158, ⟨.fn, 1, 8, false, [.nilf], [none]⟩),
  (161, ⟨.fn, 1, 8, false, [.nilf], [none]⟩),
  (163, ⟨.fn, 1, 8, false, [.nilf], [none]⟩),
  (165, ⟨.fn, 1, 8, false, [.nilf], [none]⟩),
  (167, ⟨.fn, 1, 8, false, [.nilf], [none]⟩),
  (168, ⟨.fn, 1, 8, false, [.nilf], [none]⟩),
  (169, ⟨.fn, 1, 8, false, [.nilf], [none]⟩),
  (170, ⟨.ptr, 1, 8, false, [.nilp], [none]⟩),
  (171, ⟨.fn, 1, 8, false, [.nilf], [none]⟩),
  (172, ⟨.fn, 1, 8, false, [.nilf], [none]⟩),
  (173, ⟨.fn, 1, 8, false, [.nilf], [none]⟩),
  (174, ⟨.fn, 1, 8, false, [.nilf], [none]⟩),
  (175, ⟨.fn, 1, 8, false, [.nilf], [none]⟩),
  (176, ⟨.fn, 1, 8, false, [.nilf], [none]⟩),
  (177, ⟨.ptr, 1, 8, false, [.nilp], [none]⟩),
  (178, ⟨.ptr, 1, 8, false, [.nilp], [none]⟩),
  (181, ⟨.fn, 1, 8, false, [.nilf], [none]⟩),
  (184, ⟨.fn, 1, 8, false, [.nilf], [none]⟩),
  (185, ⟨.ptr, 1, 8, false, [.nilp], [none]⟩),
  (186, ⟨.fn, 1, 8, false, [.nilf], [none]⟩),
  (187, ⟨.fn, 1, 8, false, [.nilf], [none]⟩),
  (188, ⟨.sl (.bool) 4, 1, 24, false, [.nil], [some (.bool)]⟩),
  (198, ⟨.fn, 1, 8, false, [.nilf], [none]⟩)]
theorem tabOk : TabOk Tryz.prog tab :=
  (.cons (ty_fn (by kernel_rfl) Tryz.underlying1)
  (.cons (ty_int .i64 (by kernel_rfl) Tryz.underlying2)
  (.cons (ty_int .i64 (by kernel_rfl) Tryz.underlying3)
  (.cons (ty_bool (by kernel_rfl) Tryz.underlying4)
  (.cons (ty_int .u8 (by kernel_rfl) Tryz.underlying5)
  (.cons (ty_str (by kernel_rfl) Tryz.underlying9)
  (.cons (ty_ptr (by kernel_rfl) Tryz.underlying15)
  (.cons (ty_ptr (by kernel_rfl) Tryz.underlying16)
  (.cons (ty_ptr (by kernel_rfl) Tryz.underlying17)
  (.cons (ty_int .i32 (by kernel_rfl) Tryz.underlying21)
  (.cons (ty_fn (by kernel_rfl) Tryz.underlying22)
  (.cons (ty_fn (by kernel_rfl) Tryz.underlying23)
  (.cons (ty_sl (.int .u8) (b' := 1) (by kernel_rfl) Tryz.underlying24 (by kernel_rfl) (zero_int _) Tryz.underlying5)
  (.cons (ty_fn (by kernel_rfl) Tryz.underlying25)
  (.cons (ty_fn (by kernel_rfl) Tryz.underlying26)
  (.cons (ty_sl (.str) (b' := 16) (by kernel_rfl) Tryz.underlying27 (by kernel_rfl) (zero_str) True.intro)
  (.cons (ty_fn (by kernel_rfl) Tryz.underlying28)
  (.cons (ty_sl (.mv) (b' := 56) (by kernel_rfl) Tryz.underlying29 (by kernel_rfl) (zero_mv) True.intro)
  (.cons (ty_sl (.int .i64) (b' := 8) (by kernel_rfl) Tryz.underlying30 (by kernel_rfl) (zero_int _) Tryz.underlying3)
  (.cons (ty_st (z := .agg #[.int .i64 0, .int .i64 0, .slice none 0 0, .slice none 0 0]) (by kernel_rfl) (fun μ w G => by simp [repAs, repA, Value.cells]) rfl Tryz.underlying32 (by kernel_rfl) (by kernel_rfl))
  (.cons (ty_fn (by kernel_rfl) Tryz.underlying34)
  (.cons (ty_fn (by kernel_rfl) Tryz.underlying35)
  (.cons (ty_ptr (by kernel_rfl) Tryz.underlying36)
  (.cons (ty_st (z := .agg #[.int .i64 0, .int .i64 0, .slice none 0 0, .slice none 0 0]) (by kernel_rfl) (fun μ w G => by simp [repAs, repA, Value.cells]) rfl Tryz.underlying38 (by kernel_rfl) (by kernel_rfl))
  (.cons (ty_ptr (by kernel_rfl) Tryz.underlying39)
  (.cons (ty_fn (by kernel_rfl) Tryz.underlying40)
  (.cons (ty_fn (by kernel_rfl) Tryz.underlying41)
  (.cons (ty_mv (by kernel_rfl) Tryz.underlying43 (by kernel_rfl) (by kernel_rfl) (by kernel_rfl) (by kernel_rfl) Tryz.underlying9 Tryz.underlying4 Tryz.underlying3 Tryz.underlying3 Tryz.underlying3 Tryz.underlying3)
  (.cons (ty_fn (by kernel_rfl) Tryz.underlying44)
  (.cons (ty_fn (by kernel_rfl) Tryz.underlying45)
  (.cons (ty_fn (by kernel_rfl) Tryz.underlying46)
  (.cons (ty_fn (by kernel_rfl) Tryz.underlying47)
  (.cons (ty_fn (by kernel_rfl) Tryz.underlying48)
  (.cons (ty_fn (by kernel_rfl) Tryz.underlying50)
  (.cons (ty_fn (by kernel_rfl) Tryz.underlying51)
  (.cons (ty_fn (by kernel_rfl) Tryz.underlying53)
  (.cons (ty_fn (by kernel_rfl) Tryz.underlying54)
  (.cons (ty_fn (by kernel_rfl) Tryz.underlying55)
  (.cons (ty_fn (by kernel_rfl) Tryz.underlying56)
  (.cons (ty_fn (by kernel_rfl) Tryz.underlying57)
  (.cons (ty_arr (z' := .int .i64 0) (b' := 8) (z := .agg #[.int .i64 0, .int .i64 0, .int .i64 0]) (by kernel_rfl) (fun μ w G => by simp [repAs, repA, Value.cells]) rfl Tryz.underlying58 (by kernel_rfl))
  (.cons (ty_fn (by kernel_rfl) Tryz.underlying60)
  (.cons (ty_fn (by kernel_rfl) Tryz.underlying61)
  (.cons (ty_fn (by kernel_rfl) Tryz.underlying62)
  (.cons (ty_st (z := .agg #[.slice none 0 0, .int .i64 0]) (by kernel_rfl) (fun μ w G => by simp [repAs, repA, Value.cells]) rfl Tryz.underlying64 (by kernel_rfl) (by kernel_rfl))
  (.cons (ty_fn (by kernel_rfl) Tryz.underlying65)
  (.cons (ty_fn (by kernel_rfl) Tryz.underlying66)
  (.cons (ty_fn (by kernel_rfl) Tryz.underlying67)
  (.cons (ty_fn (by kernel_rfl) Tryz.underlying68)
  (.cons (ty_fn (by kernel_rfl) Tryz.underlying69)
  (.cons (ty_fn (by kernel_rfl) Tryz.underlying70)
  (.cons (ty_fn (by kernel_rfl) Tryz.underlying71)
  (.cons (ty_fn (by kernel_rfl) Tryz.underlying72)
  (.cons (ty_fn (by kernel_rfl) Tryz.underlying74)
  (.cons (ty_fn (by kernel_rfl) Tryz.underlying76)
  (.cons (ty_fn (by kernel_rfl) Tryz.underlying78)
  (.cons (ty_fn (by kernel_rfl) Tryz.underlying79)
  (.cons (ty_fn (by kernel_rfl) Tryz.underlying80)
  (.cons (ty_fn (by kernel_rfl) Tryz.underlying81)
  (.cons (ty_fn (by kernel_rfl) Tryz.underlying85)
  (.cons (ty_fn (by kernel_rfl) Tryz.underlying86)
  (.cons (ty_fn (by kernel_rfl) Tryz.underlying87)
  (.cons (ty_fn (by kernel_rfl) Tryz.underlying88)
  (.cons (ty_fn (by kernel_rfl) Tryz.underlying89)
  (.cons (ty_fn (by kernel_rfl) Tryz.underlying90)
  (.cons (ty_fn (by kernel_rfl) Tryz.underlying91)
  (.cons (ty_fn (by kernel_rfl) Tryz.underlying92)
  (.cons (ty_fn (by kernel_rfl) Tryz.underlying94)
  (.cons (ty_fn (by kernel_rfl) Tryz.underlying95)
  (.cons (ty_fn (by kernel_rfl) Tryz.underlying97)
  (.cons (ty_fn (by kernel_rfl) Tryz.underlying98)
  (.cons (ty_fn (by kernel_rfl) Tryz.underlying99)
  (.cons (ty_fn (by kernel_rfl) Tryz.underlying100)
  (.cons (ty_fn (by kernel_rfl) Tryz.underlying101)
  (.cons (ty_st (z := .agg #[.pointer none, .pointer none, .int .u64 0]) (by kernel_rfl) (fun μ w G => by simp [repAs, repA, Value.cells]) rfl Tryz.underlying105 (by kernel_rfl) (by kernel_rfl))
  (.cons (ty_fn (by kernel_rfl) Tryz.underlying106)
  (.cons (ty_fn (by kernel_rfl) Tryz.underlying107)
  (.cons (ty_fn (by kernel_rfl) Tryz.underlying108)
  (.cons (ty_fn (by kernel_rfl) Tryz.underlying109)
  (.cons (ty_fn (by kernel_rfl) Tryz.underlying110)
  (.cons (ty_int .u64 (by kernel_rfl) Tryz.underlying111)
  (.cons (ty_fn (by kernel_rfl) Tryz.underlying112)
  (.cons (ty_st (z := .agg #[.nilFunc, .nilFunc]) (by kernel_rfl) (fun μ w G => by simp [repAs, repA, Value.cells]) rfl Tryz.underlying114 (by kernel_rfl) (by kernel_rfl))
  (.cons (ty_fn (by kernel_rfl) Tryz.underlying115)
  (.cons (ty_fn (by kernel_rfl) Tryz.underlying116)
  (.cons (ty_fn (by kernel_rfl) Tryz.underlying117)
  (.cons (ty_sl (.ints) (b' := 24) (by kernel_rfl) Tryz.underlying118 (by kernel_rfl) (zero_ints) True.intro)
  (.cons (ty_fn (by kernel_rfl) Tryz.underlying119)
  (.cons (ty_fn (by kernel_rfl) Tryz.underlying120)
  (.cons (ty_fn (by kernel_rfl) Tryz.underlying121)
  (.cons (ty_fn (by kernel_rfl) Tryz.underlying122)
  (.cons (ty_fn (by kernel_rfl) Tryz.underlying124)
  (.cons (ty_fn (by kernel_rfl) Tryz.underlying127)
  (.cons (ty_ptr (by kernel_rfl) Tryz.underlying128)
  (.cons (ty_fn (by kernel_rfl) Tryz.underlying129)
  (.cons (ty_fn (by kernel_rfl) Tryz.underlying130)
  (.cons (ty_fn (by kernel_rfl) Tryz.underlying131)
  (.cons (ty_fn (by kernel_rfl) Tryz.underlying132)
  (.cons (ty_ptr (by kernel_rfl) Tryz.underlying135)
  (.cons (ty_fn (by kernel_rfl) Tryz.underlying136)
  (.cons (ty_int .u32 (by kernel_rfl) Tryz.underlying137)
  (.cons (ty_fn (by kernel_rfl) Tryz.underlying138)
  (.cons (ty_int .u64 (by kernel_rfl) Tryz.underlying139)
  (.cons (ty_fn (by kernel_rfl) Tryz.underlying140)
  (.cons (ty_fn (by kernel_rfl) Tryz.underlying143)
  (.cons (ty_fn (by kernel_rfl) Tryz.underlying144)
  (.cons (ty_fn (by kernel_rfl) Tryz.underlying145)
  (.cons (ty_fn (by kernel_rfl) Tryz.underlying146)
  (.cons (ty_fn (by kernel_rfl) Tryz.underlying147)
  (.cons (ty_fn (by kernel_rfl) Tryz.underlying148)
  (.cons (ty_fn (by kernel_rfl) Tryz.underlying149)
  (.cons (ty_fn (by kernel_rfl) Tryz.underlying150)
  (.cons (ty_fn (by kernel_rfl) Tryz.underlying156)
  (.cons (ty_fn (by kernel_rfl) Tryz.underlying158)
  (.cons (ty_fn (by kernel_rfl) Tryz.underlying161)
  (.cons (ty_fn (by kernel_rfl) Tryz.underlying163)
  (.cons (ty_fn (by kernel_rfl) Tryz.underlying165)
  (.cons (ty_fn (by kernel_rfl) Tryz.underlying167)
  (.cons (ty_fn (by kernel_rfl) Tryz.underlying168)
  (.cons (ty_fn (by kernel_rfl) Tryz.underlying169)
  (.cons (ty_ptr (by kernel_rfl) Tryz.underlying170)
  (.cons (ty_fn (by kernel_rfl) Tryz.underlying171)
  (.cons (ty_fn (by kernel_rfl) Tryz.underlying172)
  (.cons (ty_fn (by kernel_rfl) Tryz.underlying173)
  (.cons (ty_fn (by kernel_rfl) Tryz.underlying174)
  (.cons (ty_fn (by kernel_rfl) Tryz.underlying175)
  (.cons (ty_fn (by kernel_rfl) Tryz.underlying176)
  (.cons (ty_ptr (by kernel_rfl) Tryz.underlying177)
  (.cons (ty_ptr (by kernel_rfl) Tryz.underlying178)
  (.cons (ty_fn (by kernel_rfl) Tryz.underlying181)
  (.cons (ty_fn (by kernel_rfl) Tryz.underlying184)
  (.cons (ty_ptr (by kernel_rfl) Tryz.underlying185)
  (.cons (ty_fn (by kernel_rfl) Tryz.underlying186)
  (.cons (ty_fn (by kernel_rfl) Tryz.underlying187)
  (.cons (ty_sl (.bool) (b' := 1) (by kernel_rfl) Tryz.underlying188 (by kernel_rfl) (zero_bool) True.intro)
  (.cons (ty_fn (by kernel_rfl) Tryz.underlying198) .nil))))))))))))))))))))))))))))))))))))))))))))))))))))))))))))))))))))))))))))))))))))))))))))))))))))))))))))))))))))))))))))))))))))))))
theorem mixed : Tryz.prog.follows .mixedOrders = true := by kernel_rfl
end Go.Proofs.YtlmdbeegmgfpnaaGreatDoor.AM

/- What all walks of this seat share; no condition. -/
namespace Go.Proofs.YtlmdbeegmgfpnaaGreatDoor.AM
open Go.AM Go.RowKit
set_option linter.unusedVariables false
set_option maxRecDepth 100000

/-- What a call hands over for good. -/
def sigs : List (Nat × List Bool) := [
  (156, [true, true]),
  (59, [true, true]),
  (86, [true]),
  (87, [true]),
  (15, [true, true]),
  (62, [true]),
  (63, [true]),
  (0, [])]
def sig (f : FuncId) : List Bool := match lk f sigs with
  | some l => l
  | none => []
noncomputable def mk (f : Func) (m : Nat) : FnI := ⟨tab, sig, bodyOf f, f.results.toList, m, f.ntmps⟩
noncomputable abbrev P := Tryz.prog
theorem in_ok (a b c : Int) : Ok P 51 [.one (.int .i64 a), .one (.int .i64 b), .one (.int .i64 c)] [] (.one (.bool (decide (b ≤ a ∧ a ≤ c)))) [] := by
  refine Ok.of_run (F := mk Tryz.f51 0) Tryz.func51 rfl rfl tabOk mixed rfl rfl rfl rfl rfl (Nat.le_of_ble_eq_true rfl) (Nat.le_of_ble_eq_true rfl) (.go 5000 ?_)
  repeat' (conv => arg 4; whnf); first | refine Run.ret ⟨?_, rfl⟩ | refine Run.condT ?_ | refine Run.condf ?_ | refine Run.condD (fun h => ?_) (fun h => ?_) | refine Run.condN (fun h => ?_) (fun h => ?_) | refine Run.condE (fun h => ?_) (fun h => ?_) | refine Run.condF (fun h => ?_) (fun h => ?_) | refine Run.condM (fun h => ?_) (fun h => ?_) | refine Run.condB (fun h => ?_) (fun h => ?_) | refine Run.check1 ?_
  · simp [h]
  · simp [h]
end Go.Proofs.YtlmdbeegmgfpnaaGreatDoor.AM

/- Contracts of the library at this program, laid by the kit's tool (lay-plain.mjs); no condition. -/
namespace Go.Proofs
open Go.Shelf
def Tryz.lays172_ren : Go.Shelf.Ren := ⟨fun | 172 => 52 | 244 => 79 | 245 => 80 | 247 => 105 | 279 => 106 | 280 => 107 | 281 => 108 | 282 => 109 | 287 => 143 | 316 => 144 | 171 => 53 | 205 => 145 | 321 => 162 | 322 => 163 | 243 => 81 | 246 => 110 | 283 => 146 | 284 => 147 | 285 => 148 | 286 => 149 | 129 => 123 | 317 => 164 | 318 => 165 | 319 => 166 | 320 => 167 | 337 => 171 | 338 => 172 | n => n, fun | 9 => 9 | 3 => 3 | 75 => 83 | 76 => 84 | 4 => 4 | 5 => 5 | 167 => 125 | 37 => 24 | 0 => 0 | 85 => 126 | 2 => 2 | 168 => 128 | 53 => 139 | 175 => 157 | 46 => 111 | 210 => 160 | 127 => 177 | 145 => 180 | 143 => 178 | 21 => 21 | 171 => 162 | 173 => 164 | 212 => 182 | 51 => 137 | 20 => 20 | 213 => 183 | 232 => 189 | 233 => 190 | 80 => 62 | n => n, fun | 15 => 3 | 16 => 4 | 17 => 5 | 18 => 6 | 19 => 7 | n => n⟩
theorem Tryz.lays172 : Go.Proofs.Lays.n172 Tryz.prog Tryz.lays172_ren := {
  mixed := by kernel_rfl
  f129 := Tryz.func123.trans (congrArg some (by kernel_rfl))
  f171 := Tryz.func53.trans (congrArg some (by kernel_rfl))
  f172 := Tryz.func52.trans (congrArg some (by kernel_rfl))
  f205 := Tryz.func145.trans (congrArg some (by kernel_rfl))
  f243 := Tryz.func81.trans (congrArg some (by kernel_rfl))
  f244 := Tryz.func79.trans (congrArg some (by kernel_rfl))
  f245 := Tryz.func80.trans (congrArg some (by kernel_rfl))
  f246 := Tryz.func110.trans (congrArg some (by kernel_rfl))
  f247 := Tryz.func105.trans (congrArg some (by kernel_rfl))
  f279 := Tryz.func106.trans (congrArg some (by kernel_rfl))
  f280 := Tryz.func107.trans (congrArg some (by kernel_rfl))
  f281 := Tryz.func108.trans (congrArg some (by kernel_rfl))
  f282 := Tryz.func109.trans (congrArg some (by kernel_rfl))
  f283 := Tryz.func146.trans (congrArg some (by kernel_rfl))
  f284 := Tryz.func147.trans (congrArg some (by kernel_rfl))
  f285 := Tryz.func148.trans (congrArg some (by kernel_rfl))
  f286 := Tryz.func149.trans (congrArg some (by kernel_rfl))
  f287 := Tryz.func143.trans (congrArg some (by kernel_rfl))
  f316 := Tryz.func144.trans (congrArg some (by kernel_rfl))
  f317 := Tryz.func164.trans (congrArg some (by kernel_rfl))
  f318 := Tryz.func165.trans (congrArg some (by kernel_rfl))
  f319 := Tryz.func166.trans (congrArg some (by kernel_rfl))
  f320 := Tryz.func167.trans (congrArg some (by kernel_rfl))
  f321 := Tryz.func162.trans (congrArg some (by kernel_rfl))
  f322 := Tryz.func163.trans (congrArg some (by kernel_rfl))
  f337 := Tryz.func171.trans (congrArg some (by kernel_rfl))
  f338 := Tryz.func172.trans (congrArg some (by kernel_rfl))
  t0 := Tryz.underlying0
  a0 := Tryz.isAgg0
  z0 := Tryz.sizeOf0
  v0 := Tryz.zeroValue0
  t2 := Tryz.underlying2
  a2 := Tryz.isAgg2
  z2 := Tryz.sizeOf2
  v2 := Tryz.zeroValue2
  t3 := Tryz.underlying3
  a3 := Tryz.isAgg3
  z3 := Tryz.sizeOf3
  v3 := Tryz.zeroValue3
  t4 := Tryz.underlying4
  a4 := Tryz.isAgg4
  z4 := Tryz.sizeOf4
  v4 := Tryz.zeroValue4
  t5 := Tryz.underlying5
  a5 := Tryz.isAgg5
  z5 := Tryz.sizeOf5
  v5 := Tryz.zeroValue5
  t9 := Tryz.underlying9
  a9 := Tryz.isAgg9
  z9 := Tryz.sizeOf9
  v9 := Tryz.zeroValue9
  t20 := Tryz.underlying20
  a20 := Tryz.isAgg20
  z20 := Tryz.sizeOf20
  v20 := Tryz.zeroValue20
  t21 := Tryz.underlying21
  a21 := Tryz.isAgg21
  z21 := Tryz.sizeOf21
  v21 := Tryz.zeroValue21
  t37 := Tryz.underlying24
  a37 := Tryz.isAgg24
  z37 := Tryz.sizeOf24
  v37 := Tryz.zeroValue24
  t46 := Tryz.underlying111
  a46 := Tryz.isAgg111
  z46 := Tryz.sizeOf111
  v46 := Tryz.zeroValue111
  t51 := Tryz.underlying137
  a51 := Tryz.isAgg137
  z51 := Tryz.sizeOf137
  v51 := Tryz.zeroValue137
  t53 := Tryz.underlying139
  a53 := Tryz.isAgg139
  z53 := Tryz.sizeOf139
  v53 := Tryz.zeroValue139
  t75 := Tryz.underlying83
  a75 := Tryz.isAgg83
  z75 := Tryz.sizeOf83
  v75 := Tryz.zeroValue83
  t76 := Tryz.underlying84
  a76 := Tryz.isAgg84
  z76 := Tryz.sizeOf84
  v76 := Tryz.zeroValue84
  t85 := Tryz.underlying126
  a85 := Tryz.isAgg126
  z85 := Tryz.sizeOf126
  v85 := Tryz.zeroValue126
  t127 := Tryz.underlying177
  a127 := Tryz.isAgg177
  z127 := Tryz.sizeOf177
  v127 := Tryz.zeroValue177
  t143 := Tryz.underlying178
  a143 := Tryz.isAgg178
  z143 := Tryz.sizeOf178
  v143 := Tryz.zeroValue178
  t145 := Tryz.underlying180
  a145 := Tryz.isAgg180
  z145 := Tryz.sizeOf180
  v145 := Tryz.zeroValue180
  t167 := Tryz.underlying125
  a167 := Tryz.isAgg125
  z167 := Tryz.sizeOf125
  v167 := Tryz.zeroValue125
  t168 := Tryz.underlying128
  a168 := Tryz.isAgg128
  z168 := Tryz.sizeOf128
  v168 := Tryz.zeroValue128
  t171 := Tryz.underlying162
  a171 := Tryz.isAgg162
  z171 := Tryz.sizeOf162
  v171 := Tryz.zeroValue162
  t173 := Tryz.underlying164
  a173 := Tryz.isAgg164
  z173 := Tryz.sizeOf164
  v173 := Tryz.zeroValue164
  t175 := Tryz.underlying157
  a175 := Tryz.isAgg157
  z175 := Tryz.sizeOf157
  v175 := Tryz.zeroValue157
  t210 := Tryz.underlying160
  a210 := Tryz.isAgg160
  z210 := Tryz.sizeOf160
  v210 := Tryz.zeroValue160
  t212 := Tryz.underlying182
  a212 := Tryz.isAgg182
  z212 := Tryz.sizeOf182
  v212 := Tryz.zeroValue182
  t213 := Tryz.underlying183
  a213 := Tryz.isAgg183
  z213 := Tryz.sizeOf183
  t232 := Tryz.underlying189
  a232 := Tryz.isAgg189
  z232 := Tryz.sizeOf189
  v232 := Tryz.zeroValue189
  t233 := Tryz.underlying190
  a233 := Tryz.isAgg190
  z233 := Tryz.sizeOf190
  v233 := Tryz.zeroValue190
  g15 := by kernel_rfl
  g16 := by kernel_rfl
  g17 := by kernel_rfl
  g18 := by kernel_rfl
  g19 := by kernel_rfl }
open Go.RowKit in
theorem Tryz.strconv_Atoi (s : ByteArray) (n : Int) (hl : s.size ≤ 18) (h : Lib.atoi s.data.toList = some n) (w : World) :
    Calls Tryz.prog 52 #[.string s] w fun e w' => e = .returned (.tuple #[.int .i64 n, .nilIface]) ∧ ∃ t, w' = Lib.bytesWorld w 5 t := Any.strconv_Atoi Tryz.lays172 s n hl h w
def Tryz.laysM171_ren : Go.Shelf.Ren := ⟨fun | 171 => 53 | 243 => 81 | 246 => 110 | 283 => 146 | 284 => 147 | 285 => 148 | 286 => 149 | 129 => 123 | 317 => 164 | 318 => 165 | 319 => 166 | 320 => 167 | 337 => 171 | 338 => 172 | n => n, fun | 3 => 3 | 9 => 9 | 2 => 2 | 4 => 4 | 171 => 162 | 0 => 0 | 53 => 139 | 37 => 24 | 5 => 5 | 173 => 164 | 212 => 182 | 51 => 137 | 20 => 20 | 213 => 183 | 46 => 111 | 232 => 189 | 233 => 190 | n => n, fun | 17 => 5 | 18 => 6 | 19 => 7 | n => n⟩
theorem Tryz.laysM171 : Go.Proofs.LaysM.n171 Tryz.prog Tryz.laysM171_ren := {
  mixed := by kernel_rfl
  f129 := Tryz.func123.trans (congrArg some (by kernel_rfl))
  f171 := Tryz.func53.trans (congrArg some (by kernel_rfl))
  f243 := Tryz.func81.trans (congrArg some (by kernel_rfl))
  f246 := Tryz.func110.trans (congrArg some (by kernel_rfl))
  f283 := Tryz.func146.trans (congrArg some (by kernel_rfl))
  f284 := Tryz.func147.trans (congrArg some (by kernel_rfl))
  f285 := Tryz.func148.trans (congrArg some (by kernel_rfl))
  f286 := Tryz.func149.trans (congrArg some (by kernel_rfl))
  f317 := Tryz.func164.trans (congrArg some (by kernel_rfl))
  f318 := Tryz.func165.trans (congrArg some (by kernel_rfl))
  f319 := Tryz.func166.trans (congrArg some (by kernel_rfl))
  f320 := Tryz.func167.trans (congrArg some (by kernel_rfl))
  f337 := Tryz.func171.trans (congrArg some (by kernel_rfl))
  f338 := Tryz.func172.trans (congrArg some (by kernel_rfl))
  t0 := Tryz.underlying0
  a0 := Tryz.isAgg0
  z0 := Tryz.sizeOf0
  v0 := Tryz.zeroValue0
  t2 := Tryz.underlying2
  a2 := Tryz.isAgg2
  z2 := Tryz.sizeOf2
  v2 := Tryz.zeroValue2
  t3 := Tryz.underlying3
  a3 := Tryz.isAgg3
  z3 := Tryz.sizeOf3
  v3 := Tryz.zeroValue3
  t4 := Tryz.underlying4
  a4 := Tryz.isAgg4
  z4 := Tryz.sizeOf4
  v4 := Tryz.zeroValue4
  t5 := Tryz.underlying5
  a5 := Tryz.isAgg5
  z5 := Tryz.sizeOf5
  v5 := Tryz.zeroValue5
  t9 := Tryz.underlying9
  a9 := Tryz.isAgg9
  z9 := Tryz.sizeOf9
  v9 := Tryz.zeroValue9
  t20 := Tryz.underlying20
  a20 := Tryz.isAgg20
  z20 := Tryz.sizeOf20
  v20 := Tryz.zeroValue20
  t37 := Tryz.underlying24
  a37 := Tryz.isAgg24
  z37 := Tryz.sizeOf24
  v37 := Tryz.zeroValue24
  t46 := Tryz.underlying111
  a46 := Tryz.isAgg111
  z46 := Tryz.sizeOf111
  v46 := Tryz.zeroValue111
  t51 := Tryz.underlying137
  a51 := Tryz.isAgg137
  z51 := Tryz.sizeOf137
  v51 := Tryz.zeroValue137
  t53 := Tryz.underlying139
  a53 := Tryz.isAgg139
  z53 := Tryz.sizeOf139
  v53 := Tryz.zeroValue139
  t171 := Tryz.underlying162
  a171 := Tryz.isAgg162
  z171 := Tryz.sizeOf162
  v171 := Tryz.zeroValue162
  t173 := Tryz.underlying164
  a173 := Tryz.isAgg164
  z173 := Tryz.sizeOf164
  v173 := Tryz.zeroValue164
  t212 := Tryz.underlying182
  a212 := Tryz.isAgg182
  z212 := Tryz.sizeOf182
  v212 := Tryz.zeroValue182
  t213 := Tryz.underlying183
  a213 := Tryz.isAgg183
  z213 := Tryz.sizeOf183
  t232 := Tryz.underlying189
  a232 := Tryz.isAgg189
  z232 := Tryz.sizeOf189
  v232 := Tryz.zeroValue189
  t233 := Tryz.underlying190
  a233 := Tryz.isAgg190
  z233 := Tryz.sizeOf190
  v233 := Tryz.zeroValue190
  g17 := by kernel_rfl
  g18 := by kernel_rfl
  g19 := by kernel_rfl
  i0 := by kernel_rfl
  i2 := by kernel_rfl
  i3 := by kernel_rfl
  i4 := by kernel_rfl
  i5 := by kernel_rfl
  i9 := by kernel_rfl
  i20 := by kernel_rfl
  i37 := by kernel_rfl
  i46 := by kernel_rfl
  i51 := by kernel_rfl
  i53 := by kernel_rfl
  i171 := by kernel_rfl
  i173 := by kernel_rfl
  i212 := by kernel_rfl
  i232 := by kernel_rfl
  i233 := by kernel_rfl
  m17 := by kernel_rfl
  m18 := by kernel_rfl
  m19 := by kernel_rfl }
open Go.RowKit Go.Sort Go.Lib in
theorem Tryz.strconv_Itoa (n : Int) (h0 : -9223372036854775808 ≤ n) (h1 : n ≤ 9223372036854775807) (w : World) (htab : Lib.TabIs Tryz.prog w "internal/strconv.uint64pow10" .u64 Lib.pow10Tab) :
    Calls Tryz.prog 53 #[.int .i64 n] w fun e w' => e = .returned (.string ⟨(Lib.itoa n).toArray⟩) ∧ ∃ k os, w' = grow (w.drewN k) os := Any.strconv_Itoa Tryz.laysM171 n h0 h1 w htab
def Tryz.lays143_ren : Go.Shelf.Ren := ⟨fun | 143 => 50 | 219 => 78 | 217 => 101 | 225 => 102 | 224 => 103 | 267 => 104 | 266 => 141 | 314 => 142 | n => n, fun | 9 => 9 | 3 => 3 | 4 => 4 | 5 => 5 | 46 => 111 | 146 => 155 | 51 => 137 | n => n, fun | 1 => 0 | n => n⟩
theorem Tryz.lays143 : Go.Proofs.Lays.n143 Tryz.prog Tryz.lays143_ren := {
  mixed := by kernel_rfl
  f143 := Tryz.func50.trans (congrArg some (by kernel_rfl))
  f217 := Tryz.func101.trans (congrArg some (by kernel_rfl))
  f219 := Tryz.func78.trans (congrArg some (by kernel_rfl))
  f224 := Tryz.func103.trans (congrArg some (by kernel_rfl))
  f225 := Tryz.func102.trans (congrArg some (by kernel_rfl))
  f266 := Tryz.func141.trans (congrArg some (by kernel_rfl))
  f267 := Tryz.func104.trans (congrArg some (by kernel_rfl))
  f314 := Tryz.func142.trans (congrArg some (by kernel_rfl))
  t3 := Tryz.underlying3
  a3 := Tryz.isAgg3
  z3 := Tryz.sizeOf3
  v3 := Tryz.zeroValue3
  t4 := Tryz.underlying4
  a4 := Tryz.isAgg4
  z4 := Tryz.sizeOf4
  v4 := Tryz.zeroValue4
  t5 := Tryz.underlying5
  a5 := Tryz.isAgg5
  z5 := Tryz.sizeOf5
  v5 := Tryz.zeroValue5
  t9 := Tryz.underlying9
  a9 := Tryz.isAgg9
  z9 := Tryz.sizeOf9
  v9 := Tryz.zeroValue9
  t46 := Tryz.underlying111
  a46 := Tryz.isAgg111
  z46 := Tryz.sizeOf111
  v46 := Tryz.zeroValue111
  t51 := Tryz.underlying137
  a51 := Tryz.isAgg137
  z51 := Tryz.sizeOf137
  v51 := Tryz.zeroValue137
  t146 := Tryz.underlying155
  a146 := Tryz.isAgg155
  z146 := Tryz.sizeOf155
  v146 := Tryz.zeroValue155
  g1 := by kernel_rfl }
open Go.RowKit Go.Lib in
theorem Tryz.strings_Index_one (s : ByteArray) (c : UInt8) (w : World) :
    Calls Tryz.prog 50 #[.string s, .string ⟨#[c]⟩] w fun e w' => e = .returned (.int .i64 (Lib.indexByte s.data.toList c)) ∧ w' = w := Any.strings_Index_one Tryz.lays143 s c w
def Tryz.lays138_ren : Go.Shelf.Ren := ⟨fun | 138 => 49 | 195 => 75 | 218 => 77 | 143 => 50 | 219 => 78 | 217 => 101 | 225 => 102 | 224 => 103 | 267 => 104 | 266 => 141 | 314 => 142 | n => n, fun | 9 => 9 | 3 => 3 | 4 => 4 | 5 => 5 | 0 => 0 | 46 => 111 | 146 => 155 | 51 => 137 | n => n, fun | 1 => 0 | n => n⟩
theorem Tryz.lays138 : Go.Proofs.Lays.n138 Tryz.prog Tryz.lays138_ren := {
  mixed := by kernel_rfl
  f138 := Tryz.func49.trans (congrArg some (by kernel_rfl))
  f143 := Tryz.func50.trans (congrArg some (by kernel_rfl))
  f195 := Tryz.func75.trans (congrArg some (by kernel_rfl))
  f217 := Tryz.func101.trans (congrArg some (by kernel_rfl))
  f218 := Tryz.func77.trans (congrArg some (by kernel_rfl))
  f219 := Tryz.func78.trans (congrArg some (by kernel_rfl))
  f224 := Tryz.func103.trans (congrArg some (by kernel_rfl))
  f225 := Tryz.func102.trans (congrArg some (by kernel_rfl))
  f266 := Tryz.func141.trans (congrArg some (by kernel_rfl))
  f267 := Tryz.func104.trans (congrArg some (by kernel_rfl))
  f314 := Tryz.func142.trans (congrArg some (by kernel_rfl))
  t0 := Tryz.underlying0
  a0 := Tryz.isAgg0
  z0 := Tryz.sizeOf0
  v0 := Tryz.zeroValue0
  t3 := Tryz.underlying3
  a3 := Tryz.isAgg3
  z3 := Tryz.sizeOf3
  v3 := Tryz.zeroValue3
  t4 := Tryz.underlying4
  a4 := Tryz.isAgg4
  z4 := Tryz.sizeOf4
  v4 := Tryz.zeroValue4
  t5 := Tryz.underlying5
  a5 := Tryz.isAgg5
  z5 := Tryz.sizeOf5
  v5 := Tryz.zeroValue5
  t9 := Tryz.underlying9
  a9 := Tryz.isAgg9
  z9 := Tryz.sizeOf9
  v9 := Tryz.zeroValue9
  t46 := Tryz.underlying111
  a46 := Tryz.isAgg111
  z46 := Tryz.sizeOf111
  v46 := Tryz.zeroValue111
  t51 := Tryz.underlying137
  a51 := Tryz.isAgg137
  z51 := Tryz.sizeOf137
  v51 := Tryz.zeroValue137
  t146 := Tryz.underlying155
  a146 := Tryz.isAgg155
  z146 := Tryz.sizeOf155
  v146 := Tryz.zeroValue155
  g1 := by kernel_rfl }
open Go.RowKit Go.Lib in
theorem Tryz.strings_Count_one (s : ByteArray) (c : UInt8) (w : World) :
    Calls Tryz.prog 49 #[.string s, .string ⟨#[c]⟩] w fun e w' => e = .returned (.int .i64 (Lib.countByte s.data.toList c)) ∧ w' = w := Any.strings_Count_one Tryz.lays138 s c w
end Go.Proofs

/- Plain models: moves that are ok, gaps; no condition. -/
namespace Go.AM
set_option linter.unusedVariables false
set_option linter.unusedSimpArgs false
open Go.RowKit

theorem wrap_eq {x : Int} (h : -9223372036854775808 ≤ x) (h' : x ≤ 9223372036854775807) : wrap64 x = x := by unfold wrap64; omega
def okB (c : Int) : Bool := decide (97 ≤ c ∧ c ≤ 122 ∨ 48 ≤ c ∧ c ≤ 57 ∨ c = 45)
def allB (s : ByteArray) : Nat → Int → Bool
  | 0, _ => true
  | d + 1, i => okB (bt s i) && allB s d (i + 1)
theorem allB_succ (s : ByteArray) (d : Nat) (i : Int) : allB s (d + 1) i = (okB (bt s i) && allB s d (i + 1)) := rfl
def nameOk (s : ByteArray) : Bool := decide (1 ≤ s.size ∧ s.size ≤ 8) && allB s s.size 0
/-- What a move's other parts must be. -/
def MoveP (m : Mv) : Prop := 1 ≤ m.f2 ∧ m.f2 ≤ 3 ∧ 0 ≤ m.f3 ∧ m.f3 ≤ m.f4 ∧ m.f4 ≤ 10000 ∧ (m.f5 = -1 ∨ m.f3 ≤ m.f5 ∧ m.f5 ≤ m.f4)
instance (m : Mv) : Decidable (MoveP m) := by unfold MoveP; infer_instance
def mvOk (m : Mv) : Bool := nameOk m.f0 && decide (MoveP m)
def gap (a b : Mv) : Int := (if a.f1 = true then 2 else 1) + (if 1 ≤ a.f2 ∧ a.f2 ≤ 3 ∧ 1 ≤ b.f2 ∧ b.f2 ≤ 3 ∧ b.f2 < a.f2 then a.f2 - b.f2 else 0)
theorem gap_range (a b : Mv) : 1 ≤ gap a b ∧ gap a b ≤ 4 := by
  unfold gap
  split <;> split <;> omega

theorem vb {b c : Bool} (h : b = true ↔ c = true) : V.one (A.bool b) = V.one (A.bool c) := by rw [Bool.eq_iff_iff.mpr h]
theorem vi {k : IntKind} {a b : Int} (h : a = b) : V.one (A.int k a) = V.one (A.int k b) := by rw [h]
theorem mvOk_true {m : Mv} : mvOk m = true ↔ nameOk m.f0 = true ∧ 1 ≤ m.f2 ∧ m.f2 ≤ 3 ∧ 0 ≤ m.f3 ∧ m.f3 ≤ m.f4 ∧ m.f4 ≤ 10000 ∧ (m.f5 = -1 ∨ m.f3 ≤ m.f5 ∧ m.f5 ≤ m.f4) := by
  simp only [mvOk, Bool.and_eq_true, decide_eq_true_eq]
  rfl
theorem nameOk_true {s : ByteArray} : nameOk s = true ↔ (1 ≤ s.size ∧ s.size ≤ 8) ∧ allB s s.size 0 = true := by
  simp only [nameOk, Bool.and_eq_true, decide_eq_true_eq]
end Go.AM

/- Plain models: moves that are ok together, ticks that fit, costs; no condition. -/
namespace Go.AM
set_option linter.unusedVariables false
set_option linter.unusedSimpArgs false
open Go.RowKit

def at' (l : List Mv) (i : Nat) : Mv := l.getD i Mv.z
def tk (t : List Int) (i : Nat) : Int := t.getD i 0
theorem rdM_nat (l : List Mv) (i : Nat) : rdM l (i : Int) = at' l i := by simp [rdM, at']
theorem rd_nat (l : List Int) (i : Nat) : rd l (i : Int) = tk l i := by simp [rd, tk]
def ltN (a b : ByteArray) : Bool := Op.bytesLess a.toList b.toList
/-- Place i is ok, and above the one ahead. -/
def OkAt (l : List Mv) (i : Nat) : Prop := mvOk (at' l i) = true ∧ (0 < i → ltN (at' l (i - 1)).f0 (at' l i).f0 = true)
instance (l : List Mv) (i : Nat) : Decidable (OkAt l i) := by unfold OkAt; infer_instance
def MovesOk (l : List Mv) : Prop := l.length ≤ 6 ∧ ∀ i, i < l.length → OkAt l i
instance (l : List Mv) : Decidable (MovesOk l) := by unfold MovesOk; infer_instance
def W64 (n : Int) : Prop := -9223372036854775808 ≤ n ∧ n ≤ 9223372036854775807
def TkWf (t : List Int) : Prop := ∀ i, i < t.length → W64 (tk t i)
/-- Tick i is within its move's bounds. -/
def InR (l : List Mv) (t : List Int) (i : Nat) : Prop := ((at' l i).f3 ≤ tk t i ∧ tk t i ≤ (at' l i).f4) ∧ (0 ≤ (at' l i).f5 → tk t i = (at' l i).f5)
/-- Place k is far enough behind place i, if it is behind. -/
def Ap (l : List Mv) (t : List Int) (i k : Nat) : Prop := tk t i ≠ tk t k ∧ (tk t i < tk t k → gap (at' l i) (at' l k) ≤ tk t k - tk t i)
instance (l : List Mv) (t : List Int) (i : Nat) : Decidable (InR l t i) := by unfold InR; infer_instance
instance (l : List Mv) (t : List Int) (i k : Nat) : Decidable (Ap l t i k) := by unfold Ap; infer_instance
def FitsAt (l : List Mv) (t : List Int) (i : Nat) : Prop := InR l t i ∧ ∀ k, k < l.length → k ≠ i → Ap l t i k
instance (l : List Mv) (t : List Int) (i : Nat) : Decidable (FitsAt l t i) := by unfold FitsAt; infer_instance
def Fits (l : List Mv) (t : List Int) : Prop := MovesOk l ∧ t.length = l.length ∧ ∀ i, i < l.length → FitsAt l t i
instance (l : List Mv) (t : List Int) : Decidable (Fits l t) := by unfold Fits; infer_instance
theorem mvOk_range {m : Mv} (h : mvOk m = true) : 1 ≤ m.f0.size ∧ m.f0.size ≤ 8 ∧ 1 ≤ m.f2 ∧ m.f2 ≤ 3 ∧ 0 ≤ m.f3 ∧ m.f3 ≤ m.f4 ∧ m.f4 ≤ 10000 ∧ (m.f5 = -1 ∨ m.f3 ≤ m.f5 ∧ m.f5 ≤ m.f4) := by
  rw [mvOk_true, nameOk_true] at h
  exact ⟨h.1.1.1, h.1.1.2, h.2⟩
/-- What the reference asks at a place. -/
def FitsSp (l : List Mv) (t : List Int) (i : Nat) : Prop := InR l t i ∧ ∀ k, k < i → Ap l t k i ∧ Ap l t i k
theorem fitsSp_iff (l : List Mv) (t : List Int) : (∀ i, i < l.length → FitsSp l t i) ↔ ∀ i, i < l.length → FitsAt l t i := by
  constructor
  · intro h i hi
    refine ⟨(h i hi).1, fun k hk hne => ?_⟩
    rcases Nat.lt_or_ge k i with hlt | hge
    · exact ((h i hi).2 k hlt).2
    · exact ((h k hk).2 i (by omega)).1
  · intro h i hi
    exact ⟨(h i hi).1, fun k hk => ⟨(h k (by omega)).2 i hi (by omega), (h i hi).2 k (by omega) (by omega)⟩⟩
theorem fits_no {l : List Mv} {t : List Int} (h : ¬ Fits l t) : V.one (A.bool false) = V.one (A.bool (decide (Fits l t))) := by rw [decide_eq_false h]
theorem fits_yes {l : List Mv} {t : List Int} (h : Fits l t) : V.one (A.bool true) = V.one (A.bool (decide (Fits l t))) := by rw [decide_eq_true h]

theorem inR_range {l : List Mv} {t : List Int} {i : Nat} (hm : MovesOk l) (hi : i < l.length) (h : InR l t i) : 0 ≤ tk t i ∧ tk t i ≤ 10000 := by
  have hmi := mvOk_range (hm.2 i hi).1
  have hir := h.1
  omega

/-- d steps from place i on. -/
def foldFrom {σ : Type} (step : Nat → σ → σ) : Nat → Nat → σ → σ
  | _, 0, s => s
  | i, d + 1, s => foldFrom step (i + 1) d (step i s)
theorem foldFrom_last {σ : Type} (step : Nat → σ → σ) (d : Nat) : ∀ i s, foldFrom step i (d + 1) s = step (i + d) (foldFrom step i d s) := by
  induction d with
  | zero => intro i s; rfl
  | succ d ih =>
    intro i s
    show foldFrom step (i + 1) (d + 1) (step i s) = _
    rw [ih, show i + 1 + d = i + (d + 1) by omega]
    rfl
theorem foldFrom_inv {σ : Type} {step : Nat → σ → σ} (I : Nat → σ → Prop) {n : Nat} (hI : ∀ i s, i < n → I i s → I (i + 1) (step i s)) : ∀ d i s, i + d ≤ n → I i s → I (i + d) (foldFrom step i d s) := by
  intro d
  induction d with
  | zero => intro i s _ h; exact h
  | succ d ih =>
    intro i s hd h
    have := ih (i + 1) (step i s) (by omega) (hI i s (by omega) h)
    rwa [show i + 1 + d = i + (d + 1) by omega] at this
theorem foldFrom_congr {σ : Type} {f g : Nat → σ → σ} : ∀ d i s, (∀ j s, i ≤ j → j < i + d → f j s = g j s) → foldFrom f i d s = foldFrom g i d s := by
  intro d
  induction d with
  | zero => intro i s _; rfl
  | succ d ih =>
    intro i s h
    show foldFrom f (i + 1) d (f i s) = foldFrom g (i + 1) d (g i s)
    rw [h i s (Nat.le_refl _) (by omega)]
    exact ih _ _ fun j s h1 h2 => h j s (by omega) (by omega)
/-- How late a place is. -/
def dl (l : List Mv) (t : List Int) (i : Nat) : Int := tk t i - (at' l i).f3
def cStep (l : List Mv) (t : List Int) (i : Nat) (s : Int × Int) : Int × Int := (s.1 + dl l t i, max s.2 (dl l t i))
def costM (l : List Mv) (t : List Int) : Int × Int := foldFrom (cStep l t) 0 l.length (0, 0)
def CInv (i : Nat) (s : Int × Int) : Prop := 0 ≤ s.1 ∧ s.1 ≤ (i : Int) * 10000 ∧ 0 ≤ s.2 ∧ s.2 ≤ 10000
theorem cInv_step {l : List Mv} {t : List Int} {i : Nat} {s : Int × Int} (hd : 0 ≤ dl l t i ∧ dl l t i ≤ 10000) (h : CInv i s) : CInv (i + 1) (cStep l t i s) := by
  unfold CInv cStep at *
  dsimp only
  omega
/-- What holds of moves and ticks that are not ahead of them. -/
def DlOk (l : List Mv) (t : List Int) : Prop := t.length = l.length ∧ l.length ≤ 6 ∧ ∀ i, i < l.length → 0 ≤ dl l t i ∧ dl l t i ≤ 10000
theorem fits_dl {l : List Mv} {t : List Int} (h : Fits l t) : DlOk l t := by
  refine ⟨h.2.1, h.1.1, fun i hi => ?_⟩
  have hmi := mvOk_range (h.1.2 i hi).1
  have hir := (h.2.2 i hi).1.1
  unfold dl
  omega
theorem costM_inv {l : List Mv} {t : List Int} (h : DlOk l t) : CInv l.length (costM l t) := by
  have := foldFrom_inv (step := cStep l t) CInv (n := l.length) (fun i s hi hs => cInv_step (h.2.2 i hi) hs) l.length 0 (0, 0) (by omega) (by unfold CInv; simp)
  simpa [costM] using this
def costF (l : List Mv) (t : List Int) : Int × Int := if Fits l t then costM l t else (0, 0)
def ap2 (a : Mv) (s : Int) (b : Mv) (t : Int) : Prop := s ≠ t ∧ (s < t → gap a b ≤ t - s) ∧ (t < s → gap b a ≤ s - t)
instance (a : Mv) (s : Int) (b : Mv) (t : Int) : Decidable (ap2 a s b t) := by unfold ap2; infer_instance
end Go.AM

/- Plain models: what the exact laws' helpers do; no condition. -/
namespace Go.AM
set_option linter.unusedVariables false
set_option linter.unusedSimpArgs false
open Go.RowKit

theorem list_eq_getD {α : Type} {a b : List α} (d : α) (hl : a.length = b.length) (h : ∀ j, j < a.length → a.getD j d = b.getD j d) : a = b := by
  refine List.ext_getElem hl fun j h1 h2 => ?_
  have := h j h1
  simpa [List.getD_eq_getElem?_getD, List.getElem?_eq_getElem h1, List.getElem?_eq_getElem h2] using this
theorem getD_set {α : Type} (s : List α) (d : α) (i j : Nat) (x : α) : (s.set i x).getD j d = if i = j ∧ j < s.length then x else s.getD j d := by
  simp only [List.getD_eq_getElem?_getD, List.getElem?_set]
  by_cases h : i = j
  · subst h
    by_cases h2 : i < s.length
    · simp [h2]
    · simp [h2]
  · simp [h]
/-- The first i places have been copied. -/
def Cp {α : Type} (d : α) (t s : List α) (i : Nat) : Prop := s.length = t.length ∧ ∀ j, j < i → s.getD j d = t.getD j d
theorem cp_step {α : Type} {d : α} {t s : List α} {i : Nat} (h : Cp d t s i) (hi : i < t.length) : Cp d t (s.set i (t.getD i d)) (i + 1) := by
  refine ⟨by simpa using h.1, fun j hj => ?_⟩
  rw [getD_set]
  split
  · rename_i e; rw [e.1]
  · rename_i e
    refine h.2 j ?_
    have := h.1
    rcases Nat.lt_or_ge j i with h1 | h1
    · exact h1
    · exact absurd ⟨by omega, by omega⟩ e
theorem cp_end {α : Type} {d : α} {t s : List α} {i : Nat} (h : Cp d t s i) (hi : t.length ≤ i) : s = t := list_eq_getD d h.1 fun j hj => h.2 j (by have := h.1; omega)
def szM (m : Mv) (left : Int) : Int := if left - m.f0.size < 0 then -1 else left - m.f0.size
def szFrom (l : List Mv) : Nat → Nat → Int → Int
  | 0, _, s => s
  | d + 1, i, s => if szM (at' l i) s < 0 then -1 else szFrom l d (i + 1) (szM (at' l i) s)
def szMs (l : List Mv) (left : Int) : Int := if left - l.length < 0 then -1 else szFrom l l.length 0 (left - l.length)
def szIs (l : List Int) (left : Int) : Int := if left - l.length < 0 then -1 else left - l.length
theorem szM_le {m : Mv} {left : Int} (h : 0 ≤ left) : szM m left ≤ left := by unfold szM; split <;> omega
theorem szFrom_le {l : List Mv} : ∀ (d i : Nat) (s : Int), 0 ≤ s → szFrom l d i s ≤ s
  | 0, i, s, _ => Int.le_refl _
  | d + 1, i, s, h => by
    unfold szFrom
    split
    · omega
    · have := szFrom_le (l := l) d (i + 1) (szM (at' l i) s) (by omega)
      have := szM_le (m := at' l i) h
      omega
theorem szMs_le {l : List Mv} {left : Int} (h : 0 ≤ left) : szMs l left ≤ left ∧ (0 ≤ szMs l left → (l.length : Int) ≤ left) := by
  unfold szMs
  split
  · omega
  · have := szFrom_le (l := l) l.length 0 (left - l.length) (by omega)
    omega

/-- A book. -/
structure Bk where
  now : Int
  shift : Int
  ms : List Mv
  ts : List Int
/-- A book whose lists are only read; a book whose lists are its own. -/
def Bk.lent (b : Bk) : V := .agg [.int .i64 b.now, .int .i64 b.shift, .lst .mv b.ms false, .lst (.int .i64) b.ts false]
def Bk.own (b : Bk) (l l' : L) : V := .agg [.int .i64 b.now, .int .i64 b.shift, .own l, .own l']
def szB (b : Bk) (left : Int) : Int := if szMs b.ms left < 0 then -1 else if szIs b.ts (szMs b.ms left) < 0 then -1 else szIs b.ts (szMs b.ms left)
theorem szB_le {b : Bk} {left : Int} (h : 0 ≤ left) (h' : ¬ szB b left < 0) : (b.ms.length : Int) ≤ left ∧ (b.ts.length : Int) ≤ left := by
  have := szMs_le (l := b.ms) h
  unfold szB szIs at h'
  split at h'
  · omega
  · split at h'
    · omega
    · rename_i h1 h2
      first | omega | (split at h2 <;> omega)
end Go.AM

/- What comes in as a slice reads as a list that is only read; condition: the argument reads as data of its type. -/
namespace Go.AM
set_option linter.unusedVariables false
set_option linter.unusedSimpArgs false
open Go.Joins Go.ChangeShapes Go.WideShapes Go.RowKit Go.Deep
variable {H : Type} {enc : TypeId × Value → H} {P : Program} {w : World} {base : Nat} {spare : Nat → Bool} {held : Bool}

/-- All blocks that are there. -/
def Old (w : World) (b : Nat) : Prop := b < w.heap.size
theorem cell_old {a : Addr} {v : Value} (h : w.cell? a = some v) : a = ⟨a.block, a.off, none⟩ ∧ Old w a.block := by
  have hs := World.cell?_spot h
  refine ⟨by cases a; simp_all, ?_⟩
  unfold World.cell? at h
  split at h
  · rename_i c e f hb
    exact (Array.getElem?_eq_some_iff.1 hb).1
  · cases h
theorem wf64 {x : Int} (h : (Lit.int .i64 x).wf = true) : W64 x := bounds_i64 h
theorem open_sl (e : El) {μ : Mu} {t et : TypeId} {fuel : Nat} {cs : List Value} {x : DataW H × List MemPlace} (ht : P.underlying t = some (.slice et)) (hC : P.cellsOf et = e.sz) (he : 0 < e.sz) (Wf : e.T → Prop)
    (hel : ∀ n cs' y, DataW.trod enc P w base spare held n et cs' = some y → cs'.length = e.sz → ∃ z : e.T, All2 (rep1 w (Old w)) (e.enc z) cs' ∧ Wf z) (h : DataW.trod enc P w base spare held fuel t cs = some x) :
    ∃ (v : Value) (xs : List e.T), cs = [v] ∧ repA μ w (Old w) (.lst e xs false) v ∧ xs.length ≤ maxLen ∧ ∀ z ∈ xs, Wf z := by
  classical
  rcases open_slice ht h with ⟨h0, _⟩ | ⟨a, len, cap, m, n, D, Pl, hcs, hb, hl, hm, hmm, hx, hi⟩
  · refine ⟨.slice none 0 0, [], by simpa using h0, ?_, by simp [maxLen], fun z hz => by simp at hz⟩
    simp only [repA]
    exact ⟨none, 0, rfl, Nat.le_refl _, by simp, fun h => absurd rfl h⟩
  · have hlm : len ≤ m := by rw [hmm]; split <;> omega
    have key : ∀ i, i < len → ∃ z : e.T, Wf z ∧ ∃ cs', All2 (rep1 w (Old w)) (e.enc z) cs' ∧ cs'.length = e.sz ∧ ∀ j u, cs'[j]? = some u → w.cell? (a.add (i * e.sz + j)) = some u := by
      intro i hil
      obtain ⟨cs', hc, ht'⟩ := hi i (by omega)
      obtain ⟨_, hcl, hat⟩ := World.cells?_some hc
      rw [hC] at hcl hat
      obtain ⟨z, hz, hw⟩ := hel _ _ _ ht' hcl
      refine ⟨z, hw, cs', hz, hcl, fun j u hu => ?_⟩
      have hj : j < e.sz := by
        have := (List.getElem?_eq_some_iff.1 hu).1
        omega
      have h1 := hat j hj
      rw [Go.Deep.add_add] at h1
      rw [h1, hu]
    let xs : List e.T := (List.range len).pmap (fun i h => Classical.choose (key i h)) (fun i hi => List.mem_range.1 hi)
    have hxl : xs.length = len := by simp [xs]
    have hxi : ∀ i (h : i < len), xs[i]? = some (Classical.choose (key i h)) := by
      intro i h
      have hh : i < xs.length := by omega
      rw [List.getElem?_eq_getElem hh]
      simp [xs]
    refine ⟨.slice (some a) xs.length cap, xs, by rw [hcs, hxl], ?_, by omega, fun z hz => ?_⟩
    · simp only [repA]
      refine ⟨some a, cap, rfl, by omega, by simp, fun hne => ?_⟩
      have hpos : 0 < len := by rw [← hxl]; exact List.length_pos_iff.mpr hne
      have ha : a = ⟨a.block, a.off, none⟩ ∧ Old w a.block := by
        obtain ⟨_, cs', h1, h2, h3⟩ := Classical.choose_spec (key 0 hpos)
        have h4 := h3 0 (cs'[0]'(by omega)) (List.getElem?_eq_getElem _)
        have h5 : a.add (0 * e.sz + 0) = a := by simp [Addr.add]
        rw [h5] at h4
        exact cell_old h4
      refine ⟨a.block, a.off, by rw [← ha.1], ha.2, fun i z hz => ?_⟩
      have hil : i < len := by
        have := (List.getElem?_eq_some_iff.1 hz).1
        omega
      have e1 := hxi i hil
      rw [hz] at e1
      obtain rfl := Option.some.inj e1
      obtain ⟨_, cs', h1, h2, h3⟩ := Classical.choose_spec (key i hil)
      refine ⟨cs', h1, fun j u hu => ?_⟩
      have := h3 j u hu
      rw [ha.1, Addr.add_mid] at this
      rw [Nat.add_assoc]
      exact this
    · obtain ⟨j, hj, e1⟩ := List.getElem_of_mem hz
      have hjl : j < len := by omega
      have e2 := hxi j hjl
      rw [List.getElem?_eq_getElem hj, e1] at e2
      injection e2 with e2
      subst e2
      exact (Classical.choose_spec (key j hjl)).1

/-- A call that answers true and has been handed nothing for good leaves all that was there. -/
theorem calls_true {f : FuncId} {fn : Func} {c : Code} {args : List V} {cargs : Array Value} (hfn : P.funcs[f]? = some fn) (hbd : fn.body = some c) (hnm : (fn.name == "runtime.NumGoroutine") = false) (h : Ok P f args [] (.one (.bool true)) []) (hv : repVs (fun _ => none) w (Old w) args cargs.toList) (htab : Tabs (Old w) w := by exact ⟨fun b hb => by cases hb⟩) : Calls P f cargs w fun e w' => e = .returned (.bool true) ∧ Below w.heap.size w w' := by
  have hr : HR (fun _ => none) (Old w) (argSto 0 []) w := ⟨fun l c hc => by simp [argSto, lkC, lkL] at hc, fun l B hB => (by cases hB), fun l l' c c' B B' hc => by simp [argSto, lkC, lkL] at hc, fun b hb => hb, htab⟩
  rcases h.2 w _ _ cargs hr hv with ⟨_, _, _, _, _, hcl⟩ | ⟨u, w', hx, _⟩
  case inr =>
    have : (callFunc f cargs).run P w = .ok (.enter f cargs) w := by
      simp only [callFunc, Sem.run_bind, Sem.run_pure, Result.andThen_ok, run_program, hfn, hnm, Bool.false_eq_true, if_false, hbd, Option.isNone_some]

    rw [this] at hx
    cases hx
  refine hcl.mono ?_
  rintro e w' ⟨u, rfl, μ', G', hrv, hp⟩
  simp only [repV, repA] at hrv
  subst hrv
  refine ⟨rfl, ⟨hp.os, hp.tape, hp.output, hp.size, fun k hk => hp.frame k hk ?_⟩⟩
  rintro ⟨l, c, B, hc, _⟩
  simp [argSto, lkC, lkL] at hc
/-- What is known of a move that comes in. -/
def MvWf (m : Mv) : Prop := m.f0.size ≤ maxLen ∧ W64 m.f2 ∧ W64 m.f3 ∧ W64 m.f4 ∧ W64 m.f5
theorem rep_mv {μ : Mu} (m : Mv) : repV μ w (Old w) (.agg (encMv m)) (.agg #[.string m.f0, .bool m.f1, .int .i64 m.f2, .int .i64 m.f3, .int .i64 m.f4, .int .i64 m.f5]) := by
  simp only [repV]
  refine ⟨_, rfl, ?_⟩
  simp [encMv, repAs, repA]
theorem tkWf_of {t : List Int} (h : ∀ z ∈ t, W64 z) : TkWf t := fun i hi => by
  unfold tk
  rw [List.getD_eq_getElem?_getD, List.getElem?_eq_getElem hi]
  exact h _ (List.getElem_mem hi)
theorem mvWf_at {l : List Mv} (h : ∀ z ∈ l, MvWf z) : ∀ i, i < l.length → MvWf (at' l i) := fun i hi => by
  unfold at'
  rw [List.getD_eq_getElem?_getD, List.getElem?_eq_getElem hi]
  exact h _ (List.getElem_mem hi)
end Go.AM

/- Contracts of the shelf as contracts of the machine; condition: the contract. -/
namespace Go.AM
set_option linter.unusedVariables false
set_option linter.unusedSimpArgs false
open Go.RowKit
variable {P : Program}

theorem HR.below {μ : Mu} {G : Nat → Prop} {w w' : World} (h : HR μ G (argSto 0 []) w) (hb : Below w.heap.size w w') : HR μ G (argSto 0 []) w' :=
  ⟨fun l c hc => by simp [argSto, lkC, lkL] at hc, h.known, fun l l' c c' B B' hc => by simp [argSto, lkC, lkL] at hc, fun b hg => Nat.lt_of_lt_of_le (h.good b hg) hb.size,
    h.tab.mono (fun b hg => hb.block b (h.good b hg)) fun _ h => h⟩
theorem Pst.below {μ : Mu} {G : Nat → Prop} {w w' : World} (h : HR μ G (argSto 0 []) w) (hb : Below w.heap.size w w') : Pst μ G (argSto 0 []) w (argSto 0 []) μ G w' :=
  ⟨h.below hb, fun _ _ => rfl, fun _ h => .inl h, fun b hlt _ => hb.block b hlt, hb.size, hb.os, hb.tape, hb.output, fun _ _ h => .inl h, fun b hl => by
    obtain ⟨l, c, B, h1, _⟩ := hl
    simp [argSto, lkC, lkL] at h1⟩
/-- A contract over plain values, whose world only grows. -/
theorem Ok.of_calls {f : FuncId} {fn : Func} (hf : P.funcs[f]? = some fn) (hb : fn.body.isSome = true) (hn : (fn.name == "runtime.NumGoroutine") = false) {args : List V} {vals : List Value} {res : V} {v : Value}
    (ha : ∀ (μ : Mu) (w : World) (G : Nat → Prop) (us : List Value), repVs μ w G args us → us = vals) (hr : ∀ (μ : Mu) (w : World) (G : Nat → Prop), repV μ w G res v)
    (hc : ∀ w, (∃ G, Tabs G w) → Calls P f vals.toArray w fun e w' => e = .returned v ∧ Below w.heap.size w w') : Ok P f args [] res [] := by
  obtain ⟨c, hb⟩ := Option.isSome_iff_exists.mp hb
  refine ⟨by simp, fun w μ G cargs h hv => .inl ⟨fn, c, hf, hb, hn, ?_⟩⟩
  obtain rfl : cargs = vals.toArray := by rw [← ha _ _ _ _ hv]
  refine (hc w ⟨G, h.tab⟩).mono ?_
  rintro e w' ⟨rfl, hbl⟩
  exact ⟨v, rfl, μ, G, hr _ _ _, Pst.below h hbl⟩
theorem rep_1str {μ : Mu} {w : World} {G : Nat → Prop} {s : ByteArray} {us : List Value} (h : repVs μ w G [.one (.str s)] us) : us = [.string s] := by
  simp only [repVs, repV, repA] at h
  obtain ⟨u, us', rfl, rfl, rfl⟩ := h
  rfl
theorem rep_1int {μ : Mu} {w : World} {G : Nat → Prop} {n : Int} {us : List Value} (h : repVs μ w G [.one (.int .i64 n)] us) : us = [.int .i64 n] := by
  simp only [repVs, repV, repA] at h
  obtain ⟨u, us', rfl, rfl, rfl⟩ := h
  rfl
theorem rep_2str {μ : Mu} {w : World} {G : Nat → Prop} {s t : ByteArray} {us : List Value} (h : repVs μ w G [.one (.str s), .one (.str t)] us) : us = [.string s, .string t] := by
  simp only [repVs, repV, repA] at h
  obtain ⟨u, us', rfl, rfl, u2, us2, rfl, rfl, rfl⟩ := h
  rfl
end Go.AM

/- Plain models: books that are ok; no condition. -/
namespace Go.AM
set_option linter.unusedVariables false
set_option linter.unusedSimpArgs false
open Go.RowKit

def SoonAt (b : Bk) (i : Nat) : Prop := b.now ≤ tk b.ts i ∧ (tk b.ts i < b.now + 4 → 0 ≤ (at' b.ms i).f5)
instance (b : Bk) (i : Nat) : Decidable (SoonAt b i) := by unfold SoonAt; infer_instance
def BkOk (b : Bk) : Prop := (0 ≤ b.now ∧ b.now ≤ 10000) ∧ (0 ≤ b.shift ∧ b.shift ≤ 6) ∧ Fits b.ms b.ts ∧ ∀ i, i < b.ts.length → SoonAt b i
instance (b : Bk) : Decidable (BkOk b) := by unfold BkOk; infer_instance
theorem bk_no {b : Bk} (h : ¬ BkOk b) : V.one (A.bool false) = V.one (A.bool (decide (BkOk b))) := by rw [decide_eq_false h]
theorem bk_yes {b : Bk} (h : BkOk b) : V.one (A.bool true) = V.one (A.bool (decide (BkOk b))) := by rw [decide_eq_true h]

/-- What a tick does to a move. -/
def soon (now : Int) (m : Mv) (t : Int) : Mv := if t < now + 1 + 4 then { m with f5 := t } else m
def tickStep (b : Bk) (i : Nat) (s : List Mv × List Int × List ByteArray) : List Mv × List Int × List ByteArray :=
  if tk b.ts i = b.now then (s.1, s.2.1, s.2.2 ++ [(at' b.ms i).f0]) else (s.1 ++ [soon b.now (at' b.ms i) (tk b.ts i)], s.2.1 ++ [tk b.ts i], s.2.2)
def tickF (b : Bk) : List Mv × List Int × List ByteArray := foldFrom (tickStep b) 0 b.ms.length ([], [], [])
def tickR (b : Bk) : Bk × List ByteArray × Int :=
  if BkOk b then (if b.now = 10000 then (b, [], 2) else (⟨b.now + 1, b.shift, (tickF b).1, (tickF b).2.1⟩, (tickF b).2.2, 0)) else (⟨0, 0, [], []⟩, [], 1)
def Len3 (i : Nat) (s : List Mv × List Int × List ByteArray) : Prop := s.1.length ≤ i ∧ s.2.1.length ≤ i ∧ s.2.2.length ≤ i
theorem len3_step {b : Bk} {i : Nat} {s : List Mv × List Int × List ByteArray} (h : Len3 i s) : Len3 (i + 1) (tickStep b i s) := by
  obtain ⟨h1, h2, h3⟩ := h
  unfold tickStep Len3
  split <;> simp <;> omega

theorem tickF_len (b : Bk) : Len3 b.ms.length (tickF b) := by
  have := foldFrom_inv (step := tickStep b) Len3 (n := b.ms.length) (fun i s hi hs => len3_step hs) b.ms.length 0 ([], [], []) (by omega) ⟨Nat.le_refl _, Nat.le_refl _, Nat.le_refl _⟩
  rwa [Nat.zero_add] at this
theorem tickR_len {b : Bk} (hl : b.ms.length ≤ 1048576) (ht : b.ts.length ≤ 1048576) : (tickR b).1.ms.length ≤ 1048576 ∧ (tickR b).1.ts.length ≤ 1048576 ∧ (tickR b).2.1.length ≤ 1048576 := by
  obtain ⟨h1, h2, h3⟩ := tickF_len b
  unfold tickR
  split
  · split
    · exact ⟨hl, ht, by simp⟩
    · exact ⟨by simp only; omega, by simp only; omega, by simp only; omega⟩
  · exact ⟨by simp, by simp, by simp⟩
end Go.AM

/- Plain models: orders and shifts; no condition. -/
namespace Go.AM
set_option linter.unusedVariables false
set_option linter.unusedSimpArgs false
open Go.RowKit

/-- Each of 0 to its length - 1 once. -/
def IsOrd (a : List Int) : Prop := ∀ i, i < a.length → (0 ≤ a.getD i 0 ∧ a.getD i 0 ≤ (a.length : Int) - 1) ∧ ∀ k, k < i → a.getD k 0 ≠ a.getD i 0
instance (a : List Int) : Decidable (IsOrd a) := by unfold IsOrd; infer_instance

/-- What the program's test has seen. -/
def Seen (a : List Int) (n i : Nat) (s : List Bool) : Prop := s.length = n ∧ ∀ v : Nat, v < n → (s.getD v false = true ↔ ∃ j, j < i ∧ a.getD j 0 = v)
theorem seen_set {a : List Int} {n i : Nat} {s : List Bool} (h : Seen a n i s) {v : Nat} (hv : v < n) (e : a.getD i 0 = v) : Seen a n (i + 1) (s.set v true) := by
  refine ⟨by rw [List.length_set]; exact h.1, fun u hu => ?_⟩
  have hs := h.1
  by_cases huv : u = v
  · subst huv
    constructor
    · exact fun _ => ⟨i, by omega, e⟩
    · intro _
      rw [List.getD_eq_getElem?_getD, List.getElem?_set_self (by omega)]
      rfl
  · rw [List.getD_eq_getElem?_getD, List.getElem?_set_ne (fun h => huv h.symm), ← List.getD_eq_getElem?_getD, h.2 u hu]
    constructor
    · rintro ⟨j, hj, e2⟩
      exact ⟨j, by omega, e2⟩
    · rintro ⟨j, hj, e2⟩
      by_cases hji : j = i
      · subst hji
        omega
      · exact ⟨j, by omega, e2⟩

/-- Where a value stands first from place i on, -1 if nowhere. -/
def posFrom (b : List Int) (v : Int) : Nat → Nat → Int
  | _, 0 => -1
  | i, d + 1 => if v = b.getD i 0 then (i : Int) else posFrom b v (i + 1) d
def pos (b : List Int) (v : Int) : Int := posFrom b v 0 b.length
theorem posFrom_range (b : List Int) (v : Int) : ∀ d i, i + d = b.length → (posFrom b v i d = -1 ∧ ∀ j, i ≤ j → j < b.length → b.getD j 0 ≠ v) ∨ (∃ j : Nat, posFrom b v i d = j ∧ i ≤ j ∧ j < b.length ∧ b.getD j 0 = v) := by
  intro d
  induction d with
  | zero => exact fun i hi => .inl ⟨rfl, fun j h1 h2 => absurd h1 (by omega)⟩
  | succ d ih =>
    intro i hi
    unfold posFrom
    by_cases h : v = b.getD i 0
    · rw [if_pos h]
      exact .inr ⟨i, rfl, Nat.le_refl _, by omega, h.symm⟩
    · rw [if_neg h]
      rcases ih (i + 1) (by omega) with ⟨h1, h2⟩ | ⟨j, h1, h2, h3, h4⟩
      · refine .inl ⟨h1, fun j hj hl => ?_⟩
        by_cases e : j = i
        · exact e ▸ fun h' => h h'.symm
        · exact h2 j (by omega) hl
      · exact .inr ⟨j, h1, by omega, h3, h4⟩
theorem pos_range (b : List Int) (v : Int) : (pos b v = -1 ∧ ∀ j, j < b.length → b.getD j 0 ≠ v) ∨ (∃ j : Nat, pos b v = j ∧ j < b.length ∧ b.getD j 0 = v) := by
  rcases posFrom_range b v b.length 0 (by omega) with ⟨h1, h2⟩ | ⟨j, h1, _, h3, h4⟩
  · exact .inl ⟨h1, fun j hj => h2 j (by omega) hj⟩
  · exact .inr ⟨j, h1, h3, h4⟩

/-- One step of the shift. -/
def shStep (a b : List Int) (i : Nat) (s : Int) : Int := max (max s ((i : Int) - pos b (a.getD i 0))) (pos b (a.getD i 0) - (i : Int))
def shiftM (a b : List Int) : Int := if a.length = b.length ∧ IsOrd a ∧ IsOrd b then foldFrom (shStep a b) 0 a.length 0 else -1

theorem ord_inj {b : List Int} (h : IsOrd b) {i j : Nat} (hi : i < b.length) (hj : j < b.length) (e : b.getD i 0 = b.getD j 0) : i = j := by
  rcases Nat.lt_trichotomy i j with hlt | he | hgt
  · exact absurd e ((h j hj).2 i hlt)
  · exact he
  · exact absurd e.symm ((h i hi).2 j hgt)

/-- What the reference's inner loop does with one place. -/
def shUpd (a b : List Int) (i j : Nat) (s : Int) : Int := if a.getD i 0 = b.getD j 0 then max (max s ((i : Int) - j)) ((j : Int) - i) else s
theorem shUpd_none (a b : List Int) (i : Nat) : ∀ d j s, (∀ q, j ≤ q → q < j + d → b.getD q 0 ≠ a.getD i 0) → foldFrom (shUpd a b i) j d s = s := by
  intro d
  induction d with
  | zero => exact fun _ _ _ => rfl
  | succ d ih =>
    intro j s h
    show foldFrom (shUpd a b i) (j + 1) d (shUpd a b i j s) = s
    have e : shUpd a b i j s = s := if_neg (fun e => h j (Nat.le_refl _) (by omega) e.symm)
    rw [e]
    exact ih _ _ fun q h1 h2 => h q (by omega) (by omega)
theorem foldFrom_split {σ : Type} (step : Nat → σ → σ) (d e : Nat) : ∀ i s, foldFrom step i (d + e) s = foldFrom step (i + d) e (foldFrom step i d s) := by
  induction d with
  | zero => intro i s; rw [Nat.zero_add]; rfl
  | succ d ih =>
    intro i s
    rw [show d + 1 + e = (d + e) + 1 by omega]
    show foldFrom step (i + 1) (d + e) (step i s) = _
    rw [ih, show i + 1 + d = i + (d + 1) by omega]
    rfl
theorem shUpd_all (a b : List Int) (hb : IsOrd b) (i : Nat) (hs : ∀ s, 0 ≤ s → 0 ≤ shStep a b i s) (hex : ∃ j, j < b.length ∧ b.getD j 0 = a.getD i 0) (s : Int) : foldFrom (shUpd a b i) 0 b.length s = shStep a b i s := by
  obtain ⟨j, hj, e⟩ := hex
  have hp : pos b (a.getD i 0) = j := by
    rcases pos_range b (a.getD i 0) with ⟨_, h⟩ | ⟨q, h, hq, hv⟩
    · exact absurd e (h j hj)
    · rw [h, ord_inj hb hq hj (by rw [hv, e])]
  rw [show b.length = j + (1 + (b.length - j - 1)) by omega, foldFrom_split, foldFrom_split]
  rw [shUpd_none a b i j 0 s (fun q _ h2 h => by
    have := ord_inj hb (show q < b.length by omega) hj (by rw [h, e])
    omega)]
  rw [shUpd_none a b i (b.length - j - 1) (0 + j + 1) _ (fun q h1 h2 h => by
    have := ord_inj hb (show q < b.length by omega) hj (by rw [h, e])
    omega)]
  show shUpd a b i (0 + j) s = _
  rw [Nat.zero_add]
  unfold shUpd shStep
  rw [if_pos e.symm, hp]

/-- Places below n, each once: every number below n is there. -/
theorem ord_onto {b : List Int} (h : IsOrd b) (v : Nat) (hv : v < b.length) : ∃ j, j < b.length ∧ b.getD j 0 = v := by
  classical
  by_cases hx : ∃ j, j < b.length ∧ b.getD j 0 = v
  · exact hx
  · exfalso
    let l : List Nat := b.map Int.toNat
    have hnd : l.Nodup := by
      refine List.pairwise_iff_getElem.2 ?_
      intro i j hi hj hij e
      have hjl : j < b.length := by simpa [l] using hj
      have hil : i < b.length := by omega
      have e' : (b.getD i 0).toNat = (b.getD j 0).toNat := by
        simpa [l, List.getD_eq_getElem?_getD, List.getElem?_eq_getElem hil, List.getElem?_eq_getElem hjl] using e
      have h1 := (h i hil).1
      have h2 := (h j hjl).1
      exact (h j hjl).2 i hij (by omega)
    have hsub : ∀ x ∈ l, x ∈ (List.range b.length).erase v := by
      intro x hxm
      obtain ⟨y, hy, rfl⟩ := List.mem_map.1 hxm
      obtain ⟨j, hj, e⟩ := List.getElem_of_mem hy
      have e2 : b.getD j 0 = y := by rw [List.getD_eq_getElem?_getD, List.getElem?_eq_getElem hj, e]; rfl
      have h1 := (h j hj).1
      rw [e2] at h1
      refine (List.mem_erase_of_ne (fun he => hx ⟨j, hj, ?_⟩)).2 (List.mem_range.2 (by omega))
      rw [e2, ← he]
      omega
    have hlen := List.Nodup.length_le_of_subset (l₁ := l) hnd hsub
    rw [List.length_erase_of_mem (List.mem_range.2 hv), List.length_range] at hlen
    simp [l] at hlen
    omega

end Go.AM

/- Plain models: ticks in an order; no condition. -/
namespace Go.AM
set_option linter.unusedVariables false
set_option linter.unusedSimpArgs false
open Go.RowKit

def pl (o : List Int) (i : Nat) : Nat := (o.getD i 0).toNat
def lStep (l : List Mv) (o ts : List Int) (m : Mv) (q : Nat) (t : Int) : Int := max t (tk ts (pl o q) + gap (at' l (pl o q)) m)
/-- The least tick of the move at i, behind all that come ahead. -/
def leastT (l : List Mv) (o ts : List Int) (i : Nat) : Int := foldFrom (lStep l o ts (at' l (pl o i))) 0 i (at' l (pl o i)).f3
/-- Its tick, if there is one. -/
def tickOf (m : Mv) (t : Int) : Option Int := if m.f5 ≥ 0 then (if t > m.f5 then none else if m.f5 > m.f4 then none else some m.f5) else if t > m.f4 then none else some t
def ordFrom (l : List Mv) (o : List Int) : Nat → Nat → List Int → List Int × Bool
  | 0, _, ts => (ts, true)
  | d + 1, i, ts => match tickOf (at' l (pl o i)) (leastT l o ts i) with
    | none => ([], false)
    | some t => ordFrom l o d (i + 1) (ts.set (pl o i) t)
def ordM (l : List Mv) (o : List Int) : List Int × Bool := ordFrom l o l.length 0 (List.replicate l.length 0)
def AllOk (l : List Mv) : Prop := ∀ i, i < l.length → mvOk (at' l i) = true
def Ts (n : Nat) (ts : List Int) : Prop := ts.length = n ∧ ∀ j, j < n → 0 ≤ tk ts j ∧ tk ts j ≤ 10000
theorem ts_set {n : Nat} {ts : List Int} (h : Ts n ts) (p : Nat) {t : Int} (h0 : 0 ≤ t) (h1 : t ≤ 10000) : Ts n (ts.set p t) := by
  refine ⟨by rw [List.length_set]; exact h.1, fun j hj => ?_⟩
  unfold tk
  by_cases e : p = j
  · subst e
    rw [List.getD_eq_getElem?_getD, List.getElem?_set_self (by have := h.1; omega)]
    exact ⟨h0, h1⟩
  · rw [List.getD_eq_getElem?_getD, List.getElem?_set_ne e, ← List.getD_eq_getElem?_getD]
    exact h.2 j hj
theorem tickOf_range {m : Mv} {t u : Int} (hm : mvOk m = true) (h : tickOf m t = some u) (ht : 0 ≤ t) : 0 ≤ u ∧ u ≤ 10000 ∧ m.f3 ≤ m.f4 ∧ u ≤ m.f4 ∧ t ≤ u := by
  have := mvOk_range hm
  unfold tickOf at h
  (repeat' split at h) <;> simp at h <;> omega
theorem lStep_inv {l : List Mv} {o ts : List Int} {m : Mv} {q : Nat} {t : Int} (h : 0 ≤ tk ts (pl o q) ∧ tk ts (pl o q) ≤ 10000) (ht : 0 ≤ t ∧ t ≤ 10004) : 0 ≤ lStep l o ts m q t ∧ lStep l o ts m q t ≤ 10004 ∧ t ≤ lStep l o ts m q t := by
  have := gap_range (at' l (pl o q)) m
  unfold lStep
  omega
theorem pl_lt {o : List Int} (h : IsOrd o) {i : Nat} (hi : i < o.length) : pl o i < o.length ∧ (pl o i : Int) = o.getD i 0 := by
  have := (h i hi).1
  unfold pl
  omega
theorem rdO {o : List Int} (h : IsOrd o) {i : Nat} (hi : i < o.length) : rd o (i : Int) = (pl o i : Int) := by rw [rd_nat, (pl_lt h hi).2]; rfl

def ordF (l : List Mv) (o : List Int) : List Int × Bool := if MovesOk l ∧ o.length = l.length ∧ IsOrd o then ordM l o else ([], false)
theorem movesOk_all {l : List Mv} (h : MovesOk l) : AllOk l := fun i hi => (h.2 i hi).1
theorem ordFrom_len (l : List Mv) (o : List Int) : ∀ d i ts, ts.length ≤ l.length → (ordFrom l o d i ts).1.length ≤ l.length := by
  intro d
  induction d with
  | zero => exact fun i ts h => h
  | succ d ih =>
    intro i ts h
    unfold ordFrom
    split
    · simp
    · exact ih _ _ (by rw [List.length_set]; exact h)
theorem ordF_len (l : List Mv) (o : List Int) : (ordF l o).1.length ≤ l.length := by
  unfold ordF ordM
  split
  · exact ordFrom_len l o _ _ _ (by simp)
  · simp
end Go.AM

/- Plain models: orders of texts, insertion, the order in which moves come by themselves; no condition. -/
namespace Go.AM
set_option linter.unusedVariables false
set_option linter.unusedSimpArgs false
open Go.RowKit

theorem bl_irr : ∀ x : List UInt8, Op.bytesLess x x = false
  | [] => by simp [Op.bytesLess]
  | a :: x => by simp [Op.bytesLess, bl_irr x]
theorem bl_trans : ∀ {x y z : List UInt8}, Op.bytesLess x y = true → Op.bytesLess y z = true → Op.bytesLess x z = true
  | x, y, [], _, h => by cases y <;> simp [Op.bytesLess] at h
  | x, [], _ :: _, h, _ => by cases x <;> simp [Op.bytesLess] at h
  | [], b :: y, c :: z, _, _ => by simp [Op.bytesLess]
  | a :: x, b :: y, c :: z, h1, h2 => by
    simp only [Op.bytesLess, Bool.or_eq_true, Bool.and_eq_true, decide_eq_true_eq, beq_iff_eq, UInt8.lt_iff_toNat_lt] at *
    rcases h1 with h1 | ⟨rfl, h1⟩ <;> rcases h2 with h2 | ⟨rfl, h2⟩
    · exact .inl (by omega)
    · exact .inl h1
    · exact .inl h2
    · exact .inr ⟨rfl, bl_trans h1 h2⟩
theorem bl_tri : ∀ {x y : List UInt8}, Op.bytesLess x y = false → Op.bytesLess y x = false → x = y
  | [], [], _, _ => rfl
  | [], b :: y, h, _ => by simp [Op.bytesLess] at h
  | a :: x, [], _, h => by simp [Op.bytesLess] at h
  | a :: x, b :: y, h1, h2 => by
    simp only [Op.bytesLess, Bool.or_eq_false_iff, Bool.and_eq_false_iff, decide_eq_false_iff_not, beq_eq_false_iff_ne, UInt8.lt_iff_toNat_lt] at *
    have e : a = b := UInt8.toNat_inj.1 (by omega)
    subst e
    rw [bl_tri (h1.2.resolve_left (by simp)) (h2.2.resolve_left (by simp))]
theorem ltN_irr (s : ByteArray) : ltN s s = false := bl_irr _
theorem ltN_trans {a b c : ByteArray} (h : ltN a b = true) (k : ltN b c = true) : ltN a c = true := bl_trans h k
theorem ltN_asymm {a b : ByteArray} (h : ltN a b = true) : ltN b a = false := by
  cases k : ltN b a with
  | false => rfl
  | true => have := ltN_trans h k; rw [ltN_irr] at this; cases this
theorem toList_inj {a b : ByteArray} (h : a.toList = b.toList) : a = b := by
  have h1 : (a == b) = true := by rw [beq_toListBytes, h]; simp
  have h2 : (a.data == b.data) = true := h1
  exact ByteArray.ext (eq_of_beq h2)
theorem ltN_tri {a b : ByteArray} (h : ltN a b = false) (k : ltN b a = false) : a = b := toList_inj (bl_tri h k)
theorem ltN_le {a b : ByteArray} : (ltN a b || a.toList == b.toList) = !ltN b a := by
  cases h : ltN a b with
  | true => rw [ltN_asymm h]; rfl
  | false =>
    cases k : ltN b a with
    | true =>
      have : (a.toList == b.toList) = false := by
        rw [beq_eq_false_iff_ne]
        intro e
        rw [toList_inj e, ltN_irr] at k
        cases k
      rw [this]; rfl
    | false =>
      rw [ltN_tri h k]; simp

/-- Insertion behind all that 'p' tells. -/
def insA {α : Type} (p : α → Bool) (x : α) : List α → List α
  | [] => [x]
  | y :: ys => if p y = true then y :: insA p x ys else x :: y :: ys
theorem insA_at {α : Type} {p : α → Bool} {x d : α} : ∀ {ys : List α} {k : Nat}, k ≤ ys.length → (∀ q, q < k → p (ys.getD q d) = true) → (k < ys.length → p (ys.getD k d) = false) → insA p x ys = ys.take k ++ x :: ys.drop k
  | [], k, hk, _, _ => by simp [insA]
  | y :: ys, 0, hk, _, h => by
    have := h (by simp)
    simp only [List.getD_cons_zero] at this
    simp [insA, this]
  | y :: ys, k + 1, hk, h, h' => by
    have e := h 0 (by omega)
    simp only [List.getD_cons_zero] at e
    simp only [insA, e, if_true, List.take_succ_cons, List.drop_succ_cons, List.cons_append]
    rw [insA_at (k := k) (d := d) (by simpa using hk) (fun q hq => by simpa using h (q + 1) (by omega)) (fun hk => by simpa using h' (by simpa using hk))]
theorem insA_perm {α : Type} {p : α → Bool} {x : α} : ∀ {ys : List α}, (insA p x ys).Perm (x :: ys)
  | [] => .refl _
  | y :: ys => by
    unfold insA
    split
    · exact (List.Perm.cons y insA_perm).trans (.swap x y ys)
    · exact .refl _
theorem insA_len {α : Type} {p : α → Bool} {x : α} {ys : List α} : (insA p x ys).length = ys.length + 1 := by simpa using insA_perm.length_eq
/-- A way to compare that sorts. -/
structure Srt {α : Type} (lt : α → α → Bool) : Prop where
  asymm : ∀ a b, lt a b = true → lt b a = false
  trans : ∀ a b c, lt b a = false → lt c b = false → lt c a = false
def Sorted {α : Type} (lt : α → α → Bool) (l : List α) : Prop := l.Pairwise fun a b => lt b a = false
theorem insA_sorted {α : Type} {lt : α → α → Bool} (hs : Srt lt) {x : α} : ∀ {ys : List α}, Sorted lt ys → Sorted lt (insA (fun y => !lt x y) x ys)
  | [], _ => List.pairwise_singleton _ _
  | y :: ys, h => by
    unfold Sorted at h ⊢
    rw [List.pairwise_cons] at h
    unfold insA
    split
    · rename_i e
      rw [List.pairwise_cons]
      refine ⟨fun z hz => ?_, insA_sorted hs h.2⟩
      rcases List.mem_cons.1 (insA_perm.mem_iff.1 hz) with rfl | hz
      · simpa using e
      · exact h.1 z hz
    · rename_i e
      have e : lt x y = true := by simpa using e
      rw [List.pairwise_cons, List.pairwise_cons]
      refine ⟨fun z hz => ?_, h⟩
      rcases List.mem_cons.1 hz with rfl | hz
      · exact hs.asymm _ _ e
      · exact hs.trans _ _ _ (hs.asymm _ _ e) (h.1 z hz)
/-- Insertion sort, the first i of a list. -/
def isortA {α : Type} (lt : α → α → Bool) (d : α) (xs : List α) (i : Nat) (s : List α) : List α := insA (fun y => !lt (xs.getD i d) y) (xs.getD i d) s
def isort {α : Type} (lt : α → α → Bool) (d : α) (xs : List α) (n : Nat) : List α := foldFrom (isortA lt d xs) 0 n []
theorem isort_succ {α : Type} {lt : α → α → Bool} {d : α} {xs : List α} {n : Nat} : isort lt d xs (n + 1) = isortA lt d xs n (isort lt d xs n) := by
  unfold isort
  rw [foldFrom_last, Nat.zero_add]
theorem isort_len {α : Type} {lt : α → α → Bool} {d : α} {xs : List α} : ∀ {n : Nat}, (isort lt d xs n).length = n
  | 0 => rfl
  | n + 1 => by rw [isort_succ, isortA, insA_len, isort_len]
theorem isort_sorted {α : Type} {lt : α → α → Bool} (hs : Srt lt) {d : α} {xs : List α} : ∀ {n : Nat}, Sorted lt (isort lt d xs n)
  | 0 => .nil
  | n + 1 => by rw [isort_succ]; exact insA_sorted hs (isort_sorted hs)
theorem isort_perm {α : Type} {lt : α → α → Bool} {d : α} {xs : List α} : ∀ {n : Nat}, n ≤ xs.length → (isort lt d xs n).Perm (xs.take n)
  | 0, _ => by simp [isort, foldFrom]
  | n + 1, h => by
    rw [isort_succ, isortA, List.take_succ_eq_append_getElem (by omega)]
    refine insA_perm.trans ((List.Perm.cons _ (isort_perm (by omega))).trans ?_)
    rw [List.getD_eq_getElem?_getD, List.getElem?_eq_getElem (by omega)]
    exact (List.perm_append_singleton _ _).symm
theorem sorted_get {α : Type} {lt : α → α → Bool} {l : List α} (h : Sorted lt l) (d : α) {i j : Nat} (hij : i < j) (hj : j < l.length) : lt (l.getD j d) (l.getD i d) = false := by
  have := (List.pairwise_iff_getElem.1 h) i j (by omega) hj hij
  simpa [List.getD_eq_getElem?_getD, List.getElem?_eq_getElem hj, List.getElem?_eq_getElem (show i < l.length by omega)] using this
/-- What the program's insertion has in hand: the sorted part, one that is on its way, the rest. -/
def wayRow {α : Type} (pre : List α) (x : α) (rest : List α) (j : Nat) : List α := pre.take j ++ x :: (pre.drop j ++ rest)
theorem wayRow_len {α : Type} {pre : List α} {x : α} {rest : List α} {j : Nat} : (wayRow pre x rest j).length = pre.length + 1 + rest.length := by
  simp [wayRow]; omega
theorem wayRow_here {α : Type} {pre : List α} {x d : α} {rest : List α} {j : Nat} (hj : j ≤ pre.length) : (wayRow pre x rest j).getD j d = x := by
  unfold wayRow
  rw [List.getD_eq_getElem?_getD, List.getElem?_append_right (by simp; omega)]
  simp [Nat.min_eq_left hj]
theorem wayRow_ahead {α : Type} {pre : List α} {x d : α} {rest : List α} {j q : Nat} (hq : q < j) (hj : j ≤ pre.length) : (wayRow pre x rest j).getD q d = pre.getD q d := by
  unfold wayRow
  rw [List.getD_eq_getElem?_getD, List.getElem?_append_left (by simp; omega), List.getElem?_take_of_lt hq, List.getD_eq_getElem?_getD]
theorem wayRow_swap {α : Type} {pre : List α} {x : α} {rest : List α} {j : Nat} {y : α} (hj : j + 1 ≤ pre.length) (hy : pre[j]? = some y) : ((wayRow pre x rest (j + 1)).set (j + 1) y).set j x = wayRow pre x rest j := by
  have hjl : j < pre.length := by omega
  have hy' : pre[j] = y := by rw [List.getElem?_eq_getElem hjl] at hy; exact Option.some.inj hy
  have e1 : pre.take (j + 1) = pre.take j ++ [y] := by rw [List.take_succ_eq_append_getElem hjl, hy']
  have e2 : pre.drop j = y :: pre.drop (j + 1) := by rw [List.drop_eq_getElem_cons hjl, hy']
  unfold wayRow
  rw [e1, e2]
  have hl : (pre.take j).length = j := by simp; omega
  rw [show pre.take j ++ [y] ++ x :: (pre.drop (j + 1) ++ rest) = pre.take j ++ (y :: x :: (pre.drop (j + 1) ++ rest)) by simp]
  rw [List.set_append_right _ _ (by omega), List.set_append_right _ _ (by omega), hl]
  simp [show j + 1 - j = 1 by omega]
/-- An insertion that has come to its end. -/
theorem wayRow_end {α : Type} {lt : α → α → Bool} (hs : Srt lt) {pre : List α} {x d : α} {rest : List α} {j : Nat} (hp : Sorted lt pre) (hj : j ≤ pre.length) (hb : ∀ q, j ≤ q → q < pre.length → lt x (pre.getD q d) = true) (ha : 0 < j → lt x (pre.getD (j - 1) d) = false) :
    wayRow pre x rest j = insA (fun y => !lt x y) x pre ++ rest := by
  rw [insA_at (k := j) (d := d) hj (fun q hq => ?_) (fun h => ?_)]
  · simp [wayRow]
  · simp only [Bool.not_eq_true']
    by_cases e : q = j - 1
    · rw [e]; exact ha (by omega)
    · exact hs.trans _ _ _ (sorted_get hp d (show q < j - 1 by omega) (by omega)) (ha (by omega))
  · simpa using hb j (Nat.le_refl _) h

def key (m : Mv) : Int := if 0 ≤ m.f5 then m.f5 else m.f3
def lessM (a b : Mv) : Bool := decide (key a < key b) || (key a == key b && ltN a.f0 b.f0)
theorem lessM_srt {α : Type} (f : α → Mv) : Srt fun a b => lessM (f a) (f b) := by
  constructor
  · intro a b h
    unfold lessM at *
    simp only [Bool.or_eq_true, Bool.and_eq_true, decide_eq_true_eq, beq_iff_eq, Bool.or_eq_false_iff, Bool.and_eq_false_iff, decide_eq_false_iff_not, beq_eq_false_iff_ne] at *
    rcases h with h | ⟨h, k⟩
    · exact ⟨by omega, .inl (by omega)⟩
    · exact ⟨by omega, .inr (ltN_asymm k)⟩
  · intro a b c h1 h2
    unfold lessM at *
    simp only [Bool.or_eq_false_iff, Bool.and_eq_false_iff, decide_eq_false_iff_not, beq_eq_false_iff_ne] at *
    obtain ⟨h1, k1⟩ := h1
    obtain ⟨h2, k2⟩ := h2
    refine ⟨by omega, ?_⟩
    by_cases e : key (f c) = key (f a)
    · refine .inr ?_
      have k1 := k1.resolve_left (by simp; omega)
      have k2 := k2.resolve_left (by simp; omega)
      cases h : ltN (f c).f0 (f a).f0 with
      | false => rfl
      | true =>
        cases h' : ltN (f a).f0 (f b).f0 with
        | true => rw [ltN_trans h h'] at k2; cases k2
        | false => rw [← ltN_tri h' k1, h] at k2; cases k2
    · exact .inl e
theorem lessM_not {a b : Mv} : (decide (key a < key b) || (key a == key b && (ltN a.f0 b.f0 || a.f0.toList == b.f0.toList))) = !lessM b a := by
  rw [ltN_le]
  unfold lessM
  by_cases h : key a < key b
  · have : ¬ key b < key a := by omega
    have : ¬ key b = key a := by omega
    simp [*]
  · by_cases h' : key a = key b
    · simp [h']
    · have : key b < key a := by omega
      simp [*]
def ltP (l : List Mv) (a b : Int) : Bool := lessM (at' l a.toNat) (at' l b.toNat)
def upTo (n : Nat) : List Int := (List.range n).map fun i : Nat => (i : Int)
theorem upTo_len (n : Nat) : (upTo n).length = n := by simp [upTo]
theorem upTo_at {n i : Nat} (h : i < n) : (upTo n).getD i 0 = i := by simp [upTo, List.getD_eq_getElem?_getD, h]
theorem upTo_succ (n : Nat) : upTo (n + 1) = upTo n ++ [(n : Int)] := by simp [upTo, List.range_succ]
def firstM (l : List Mv) : List Int := isort (ltP l) 0 (upTo l.length) l.length
theorem firstM_perm (l : List Mv) : (firstM l).Perm (upTo l.length) := by
  have := isort_perm (lt := ltP l) (d := 0) (xs := upTo l.length) (n := l.length) (by rw [upTo_len]; exact Nat.le_refl _)
  rwa [List.take_of_length_le (by rw [upTo_len]; exact Nat.le_refl _)] at this
theorem isOrd_iff {a : List Int} : IsOrd a ↔ a.Nodup ∧ ∀ x ∈ a, 0 ≤ x ∧ x ≤ (a.length : Int) - 1 := by
  constructor
  · intro h
    refine ⟨List.pairwise_iff_getElem.2 fun i j hi hj hij => ?_, fun x hx => ?_⟩
    · have := (h j hj).2 i hij
      simpa [List.getD_eq_getElem?_getD, List.getElem?_eq_getElem hi, List.getElem?_eq_getElem hj] using this
    · obtain ⟨j, hj, rfl⟩ := List.getElem_of_mem hx
      have := (h j hj).1
      simpa [List.getD_eq_getElem?_getD, List.getElem?_eq_getElem hj] using this
  · rintro ⟨h1, h2⟩ i hi
    have e : a.getD i 0 = a[i] := by simp [List.getD_eq_getElem?_getD, List.getElem?_eq_getElem hi]
    refine ⟨by rw [e]; exact h2 _ (List.getElem_mem hi), fun k hk => ?_⟩
    have := (List.pairwise_iff_getElem.1 h1) k i (by omega) hi hk
    rw [e]
    simpa [List.getD_eq_getElem?_getD, List.getElem?_eq_getElem (show k < a.length by omega)] using this
theorem isOrd_perm {a b : List Int} (h : a.Perm b) (hb : IsOrd b) : IsOrd a := by
  rw [isOrd_iff] at hb ⊢
  exact ⟨h.nodup_iff.2 hb.1, fun x hx => by rw [h.length_eq]; exact hb.2 x (h.mem_iff.1 hx)⟩
theorem isOrd_upTo (n : Nat) : IsOrd (upTo n) := by
  intro i hi
  rw [upTo_len] at hi ⊢
  rw [upTo_at hi]
  refine ⟨by omega, fun k hk => ?_⟩
  rw [upTo_at (by omega)]
  omega
theorem firstM_ord (l : List Mv) : IsOrd (firstM l) := isOrd_perm (firstM_perm l) (isOrd_upTo _)
theorem firstM_len (l : List Mv) : (firstM l).length = l.length := isort_len
end Go.AM

/- Plain models: all orders, the best ticks; no condition. -/
namespace Go.AM
set_option linter.unusedVariables false
set_option linter.unusedSimpArgs false
open Go.RowKit

def bump (f p : Int) : Int := if f ≤ p then p + 1 else p
/-- All orders of n, in order. -/
def allM : Nat → List (List Int)
  | 0 => [[]]
  | n + 1 => (List.range (n + 1)).flatMap fun f : Nat => (allM n).map fun o => (f : Int) :: o.map (bump f)
/-- All orders that go on from some places. -/
def ext (n : Nat) : Nat → List Int → List (List Int)
  | 0, ahead => [ahead]
  | d + 1, ahead => (List.range n).flatMap fun i : Nat => if ((i : Int) ∈ ahead) then [] else ext n d (ahead ++ [(i : Int)])
theorem ext_all : ∀ n, n ≤ 6 → ext n n [] = allM n := by
  intro n hn
  have : n = 0 ∨ n = 1 ∨ n = 2 ∨ n = 3 ∨ n = 4 ∨ n = 5 ∨ n = 6 := by omega
  rcases this with rfl | rfl | rfl | rfl | rfl | rfl | rfl <;> decide +kernel
theorem bump_ne {f p q : Int} (h : p ≠ q) : bump f p ≠ bump f q := by unfold bump; split <;> split <;> omega
theorem bump_f {f p : Int} : bump f p ≠ f := by unfold bump; split <;> omega
theorem bump_range {f p n : Int} (hp : 0 ≤ p ∧ p ≤ n - 1) : 0 ≤ bump f p ∧ bump f p ≤ n := by unfold bump; split <;> omega
def unbump (f p : Int) : Int := if f < p then p - 1 else p
theorem bump_unbump {f p : Int} (h : p ≠ f) : bump f (unbump f p) = p := by unfold bump unbump; split <;> split <;> omega
/-- The orders are those that are ok. -/
theorem allM_ord : ∀ {n : Nat} {o : List Int}, o ∈ allM n → o.length = n ∧ IsOrd o
  | 0, o, h => by
    simp only [allM, List.mem_singleton] at h
    subst h
    exact ⟨rfl, fun i hi => by simp at hi⟩
  | n + 1, o, h => by
    simp only [allM, List.mem_flatMap, List.mem_range, List.mem_map] at h
    obtain ⟨f, hf, q, hq, rfl⟩ := h
    obtain ⟨h1, h2⟩ := allM_ord hq
    rw [isOrd_iff] at h2 ⊢
    refine ⟨by simp [h1], List.nodup_cons.2 ⟨fun hm => ?_, ?_⟩, fun x hx => ?_⟩
    · obtain ⟨p, _, hp⟩ := List.mem_map.1 hm
      exact bump_f hp
    · exact List.Pairwise.map _ (fun a b h => bump_ne h) h2.1
    · rcases List.mem_cons.1 hx with rfl | hx
      · simp [h1]; omega
      · obtain ⟨p, hp, rfl⟩ := List.mem_map.1 hx
        have := h2.2 p hp
        have := bump_range (f := f) this
        simp [h1]
        rw [h1] at this
        exact this
theorem allM_mem : ∀ {n : Nat} {o : List Int}, o.length = n → IsOrd o → o ∈ allM n
  | 0, o, h, _ => by
    obtain rfl := List.eq_nil_of_length_eq_zero h
    simp [allM]
  | n + 1, [], h, _ => by simp at h
  | n + 1, f :: o, h, ho => by
    rw [isOrd_iff] at ho
    obtain ⟨h1, h2⟩ := ho
    rw [List.nodup_cons] at h1
    have hl : o.length = n := by simpa using h
    have hf := h2 f List.mem_cons_self
    simp only [List.length_cons, hl] at hf h2
    have hu : (o.map (unbump f)).map (bump f) = o := by
      rw [List.map_map]
      refine (List.map_congr_left fun p hp => ?_).trans (List.map_id o)
      exact bump_unbump fun e => h1.1 (e ▸ hp)
    simp only [allM, List.mem_flatMap, List.mem_range, List.mem_map]
    refine ⟨f.toNat, by omega, o.map (unbump f), allM_mem (by simp [hl]) ?_, ?_⟩
    · rw [isOrd_iff]
      refine ⟨?_, fun x hx => ?_⟩
      · have : ((o.map (unbump f)).map (bump f)).Nodup := by rw [hu]; exact h1.2
        exact (List.pairwise_map.1 this).imp fun hab e => hab (by rw [e])
      · obtain ⟨p, hp, rfl⟩ := List.mem_map.1 hx
        have := h2 p (List.mem_cons_of_mem _ hp)
        have hne : p ≠ f := fun e => h1.1 (e ▸ hp)
        simp only [List.length_map, hl]
        unfold unbump
        split <;> omega
    · rw [Int.toNat_of_nonneg hf.1, hu]
theorem shiftM_symm (a b : List Int) : shiftM a b = shiftM b a := by
  by_cases hc : a.length = b.length ∧ IsOrd a ∧ IsOrd b
  · have hc' : b.length = a.length ∧ IsOrd b ∧ IsOrd a := ⟨hc.1.symm, hc.2.2, hc.2.1⟩
    unfold shiftM
    rw [if_pos hc, if_pos hc']
    have key : ∀ (a b : List Int), a.length = b.length → IsOrd a → IsOrd b → ∀ m : Int, 0 ≤ m → (foldFrom (shStep a b) 0 a.length 0 ≤ m ↔ ∀ i j, i < a.length → j < b.length → a.getD i 0 = b.getD j 0 → (i : Int) - j ≤ m ∧ (j : Int) - i ≤ m) := by
      intro a b hl ha hb m hm
      have gen : ∀ d i s, i + d = a.length → (foldFrom (shStep a b) i d s ≤ m ↔ s ≤ m ∧ ∀ i' j, i ≤ i' → i' < a.length → j < b.length → a.getD i' 0 = b.getD j 0 → (i' : Int) - j ≤ m ∧ (j : Int) - i' ≤ m) := by
        intro d
        induction d with
        | zero =>
          intro i s hi
          exact ⟨fun h => ⟨h, fun i' j h1 h2 => absurd h1 (by omega)⟩, fun h => h.1⟩
        | succ d ih =>
          intro i s hi
          show foldFrom (shStep a b) (i + 1) d (shStep a b i s) ≤ m ↔ _
          rw [ih (i + 1) _ (by omega)]
          have hv := (ha i (by omega)).1
          obtain ⟨q, hq, eq⟩ := ord_onto hb (a.getD i 0).toNat (by omega)
          have hp : pos b (a.getD i 0) = q := by
            rcases pos_range b (a.getD i 0) with ⟨_, h⟩ | ⟨q', h, hq', hv'⟩
            · exact absurd (by omega) (h q hq)
            · rw [h, ord_inj hb hq' hq (by omega)]
          unfold shStep
          rw [hp]
          constructor
          · rintro ⟨h1, h2⟩
            refine ⟨by omega, fun i' j h3 h4 h5 h6 => ?_⟩
            by_cases e : i' = i
            · subst e
              obtain rfl := ord_inj hb h5 hq (by omega)
              omega
            · exact h2 i' j (by omega) h4 h5 h6
          · rintro ⟨h1, h2⟩
            have := h2 i q (Nat.le_refl _) (by omega) hq (by omega)
            exact ⟨by omega, fun i' j h3 => h2 i' j (by omega)⟩
      have := gen a.length 0 0 (by omega)
      rw [this]
      exact ⟨fun h i j h1 h2 h3 => h.2 i j (by omega) h1 h2 h3, fun h => ⟨hm, fun i j _ h1 h2 h3 => h i j h1 h2 h3⟩⟩
    have nn : ∀ (a b : List Int), 0 ≤ foldFrom (shStep a b) 0 a.length 0 := by
      intro a b
      have := foldFrom_inv (step := shStep a b) (fun _ s => 0 ≤ s) (n := a.length) (fun i s _ h => by unfold shStep; omega) a.length 0 0 (by omega) (by omega)
      exact this
    have h1 := (key a b hc.1 hc.2.1 hc.2.2 _ (nn b a)).2 fun i j hi hj e => (((key b a hc.1.symm hc.2.2 hc.2.1 _ (nn b a)).1 (Int.le_refl _)) j i hj hi e.symm).symm
    have h2 := (key b a hc.1.symm hc.2.2 hc.2.1 _ (nn a b)).2 fun i j hi hj e => (((key a b hc.1 hc.2.1 hc.2.2 _ (nn a b)).1 (Int.le_refl _)) j i hj hi e.symm).symm
    omega
  · have hc' : ¬ (b.length = a.length ∧ IsOrd b ∧ IsOrd a) := fun h => hc ⟨h.1.symm, h.2.2, h.2.1⟩
    unfold shiftM
    rw [if_neg hc, if_neg hc']

/-- Whether ticks are ahead of others, place by place. -/
def lexFrom (a b : List Int) : Nat → Nat → Bool
  | _, 0 => false
  | i, d + 1 => if tk a i = tk b i then lexFrom a b (i + 1) d else decide (tk a i < tk b i)
def lexB (a b : List Int) : Bool := lexFrom a b 0 a.length
def better (l : List Mv) (a b : List Int) : Bool :=
  if (costM l a).1 = (costM l b).1 then (if (costM l a).2 = (costM l b).2 then lexB a b else decide ((costM l a).2 < (costM l b).2)) else decide ((costM l a).1 < (costM l b).1)
def bestStep (l : List Mv) (first : List Int) (shift : Int) (s : Option (List Int)) (o : List Int) : Option (List Int) :=
  if shift < shiftM first o then s else if (ordM l o).2 = true then (match s with
    | none => some (ordM l o).1
    | some b => if better l (ordM l o).1 b = true then some (ordM l o).1 else some b) else s
def bestO (l : List Mv) (shift : Int) : Option (List Int) := (allM l.length).foldl (bestStep l (firstM l) shift) none
def retO : Option (List Int) → List Int × Bool
  | none => ([], false)
  | some t => (t, true)
def bestM (l : List Mv) (shift : Int) : List Int × Bool := retO (bestO l shift)
def bestF (l : List Mv) (shift : Int) : List Int × Bool := if MovesOk l ∧ 0 ≤ shift ∧ shift ≤ 6 then bestM l shift else ([], false)
end Go.AM

/- Plain models: plans, who goes round, books that are sure; no condition. -/
namespace Go.AM
set_option linter.unusedVariables false
set_option linter.unusedSimpArgs false
open Go.RowKit

theorem at'_map {f : Mv → Mv} {l : List Mv} {i : Nat} (h : i < l.length) : at' (l.map f) i = f (at' l i) := by
  simp [at', List.getD_eq_getElem?_getD, List.getElem?_eq_getElem h]
theorem at'_mem {l : List Mv} {i : Nat} (h : i < l.length) : at' l i ∈ l := by
  simp [at', List.getD_eq_getElem?_getD, List.getElem?_eq_getElem h]
theorem mem_at' {l : List Mv} {m : Mv} (h : m ∈ l) : ∃ i, i < l.length ∧ at' l i = m := by
  obtain ⟨j, hj, rfl⟩ := List.getElem_of_mem h
  exact ⟨j, hj, by simp [at', List.getD_eq_getElem?_getD, List.getElem?_eq_getElem hj]⟩
theorem movesOk_lt {l : List Mv} (h : MovesOk l) {i k : Nat} (hik : i < k) (hk : k < l.length) : ltN (at' l i).f0 (at' l k).f0 = true := by
  induction k with
  | zero => omega
  | succ k ih =>
    have := (h.2 (k + 1) hk).2 (by omega)
    rw [Nat.add_sub_cancel] at this
    by_cases e : i = k
    · rw [e]; exact this
    · exact ltN_trans (ih (by omega) (by omega)) this
def Asc (l : List Mv) : Prop := l.Pairwise fun a b => ltN a.f0 b.f0 = true
theorem movesOk_iff {l : List Mv} : MovesOk l ↔ l.length ≤ 6 ∧ (∀ m ∈ l, mvOk m = true) ∧ Asc l := by
  constructor
  · intro h
    refine ⟨h.1, fun m hm => ?_, List.pairwise_iff_getElem.2 fun i j hi hj hij => ?_⟩
    · obtain ⟨i, hi, rfl⟩ := mem_at' hm
      exact (h.2 i hi).1
    · have := movesOk_lt h hij hj
      simpa [at', List.getD_eq_getElem?_getD, List.getElem?_eq_getElem hj, List.getElem?_eq_getElem hi] using this
  · rintro ⟨h1, h2, h3⟩
    refine ⟨h1, fun i hi => ⟨h2 _ (at'_mem hi), fun h0 => ?_⟩⟩
    have := (List.pairwise_iff_getElem.1 h3) (i - 1) i (by omega) hi (by omega)
    simpa [at', List.getD_eq_getElem?_getD, List.getElem?_eq_getElem hi, List.getElem?_eq_getElem (show i - 1 < l.length by omega)] using this

def laterMv (u : Int) (m : Mv) : Mv := if m.f5 < 0 then { m with f3 := max m.f3 u } else m
def LaterAt (u : Int) (m : Mv) : Prop := m.f5 < 0 → max m.f3 u ≤ m.f4
def LaterOk (u : Int) (l : List Mv) : Prop := ∀ i, i < l.length → LaterAt u (at' l i)
instance (u : Int) (m : Mv) : Decidable (LaterAt u m) := by unfold LaterAt; infer_instance
instance (u : Int) (l : List Mv) : Decidable (LaterOk u l) := by unfold LaterOk; infer_instance
def laterL (u : Int) (l : List Mv) : List Mv := l.map (laterMv u)
def planM (l : List Mv) (now shift : Int) : List Int × Bool := if LaterOk (now + 4) l then bestM (laterL (now + 4) l) shift else ([], false)
theorem laterMv_name (u : Int) (m : Mv) : (laterMv u m).f0 = m.f0 := by unfold laterMv; split <;> rfl
theorem later_mvOk {u : Int} {m : Mv} (h : mvOk m = true) (hu : 0 ≤ u) (hl : LaterAt u m) : mvOk (laterMv u m) = true := by
  unfold LaterAt at hl
  rw [mvOk_true] at h ⊢
  unfold laterMv
  split
  · refine ⟨h.1, ?_⟩
    have := h.2
    have := hl (by omega)
    dsimp only
    omega
  · exact h
theorem later_movesOk {u : Int} {l : List Mv} (h : MovesOk l) (hu : 0 ≤ u) (hl : LaterOk u l) : MovesOk (laterL u l) := by
  rw [movesOk_iff] at h ⊢
  refine ⟨by simpa [laterL] using h.1, fun m hm => ?_, ?_⟩
  · obtain ⟨a, ha, rfl⟩ := List.mem_map.1 hm
    obtain ⟨i, hi, rfl⟩ := mem_at' ha
    exact later_mvOk (h.2.1 _ ha) hu (hl i hi)
  · exact List.Pairwise.map _ (fun a b hab => by rw [laterMv_name, laterMv_name]; exact hab) h.2.2

/-- A move that goes round at a tick. -/
def goneMv (t : Int) (m : Mv) : Mv := { m with f3 := t + 6, f5 := -1 }
def thenStep (b : Bk) (a : Nat) (k : Nat) (s : List Mv) : List Mv :=
  if k = a then s ++ [goneMv (tk b.ts a) (at' b.ms k)] else if tk b.ts k < tk b.ts a then s else if tk b.ts k < tk b.ts a + 4 then s ++ [{ at' b.ms k with f5 := tk b.ts k }] else s ++ [at' b.ms k]
def thenL (b : Bk) (a : Nat) : List Mv := foldFrom (thenStep b a) 0 b.ms.length []
def GoneOk (b : Bk) (a : Nat) : Prop := tk b.ts a + 6 ≤ (at' b.ms a).f4
instance (b : Bk) (a : Nat) : Decidable (GoneOk b a) := by unfold GoneOk; infer_instance
def roundP (b : Bk) (a : Nat) : List Int × Bool := planM (thenL b a) (tk b.ts a) 6
def RoundOk (b : Bk) (a : Nat) : Prop := GoneOk b a ∧ (roundP b a).2 = true
instance (b : Bk) (a : Nat) : Decidable (RoundOk b a) := by unfold RoundOk; infer_instance
def Bk.z : Bk := ⟨0, 0, [], []⟩
def roundB (b : Bk) (a : Nat) : Bk := ⟨tk b.ts a, b.shift, thenL b a, (roundP b a).1⟩
/-- What the program's round gives, and the reference's. -/
def roundI (b : Bk) (a : Nat) : Bk × Bool := if GoneOk b a then (roundB b a, (roundP b a).2) else (Bk.z, false)
def roundS (b : Bk) (a : Nat) : Bk × Bool := if RoundOk b a then (roundB b a, true) else (Bk.z, false)
def SureM (b : Bk) : Prop := BkOk b ∧ ∀ i, i < b.ms.length → (at' b.ms i).f1 = true → RoundOk b i
instance (b : Bk) : Decidable (SureM b) := by unfold SureM; infer_instance
theorem thenStep_len {b : Bk} {a k : Nat} {s : List Mv} (h : s.length ≤ k) : (thenStep b a k s).length ≤ k + 1 := by
  unfold thenStep
  (repeat' split) <;> first | omega | (simp only [List.length_append, List.length_cons, List.length_nil]; omega)
theorem thenL_len (b : Bk) (a : Nat) : (thenL b a).length ≤ b.ms.length := by
  have := foldFrom_inv (step := thenStep b a) (fun i s => s.length ≤ i) (n := b.ms.length) (fun i s _ h => thenStep_len h) b.ms.length 0 [] (by omega) (by simp)
  simpa [thenL] using this
theorem bk_tick {b : Bk} (hb : BkOk b) {i : Nat} (hi : i < b.ms.length) : b.ts.length = b.ms.length ∧ InR b.ms b.ts i ∧ mvOk (at' b.ms i) = true ∧ SoonAt b i ∧ 0 ≤ tk b.ts i ∧ tk b.ts i ≤ 10000 := by
  have hf := hb.2.2.1
  have h1 := hf.2.1
  have h2 := (hf.2.2 i hi).1
  exact ⟨h1, h2, (hf.1.2 i hi).1, hb.2.2.2 i (by omega), inR_range hf.1 hi h2⟩
/-- What a round makes of one who stays. -/
def stayMv (t : Int) (m : Mv) (u : Int) : Mv := if u < t + 4 then { m with f5 := u } else m
theorem stay_mvOk {m : Mv} {t u : Int} (h : mvOk m = true) (hu : m.f3 ≤ u ∧ u ≤ m.f4) : mvOk (stayMv t m u) = true := by
  rw [mvOk_true] at h ⊢
  unfold stayMv
  split
  · refine ⟨h.1, ?_⟩
    have := h.2
    dsimp only
    omega
  · exact h
theorem gone_mvOk {m : Mv} {t : Int} (h : mvOk m = true) (ht : 0 ≤ t) (hg : t + 6 ≤ m.f4) : mvOk (goneMv t m) = true := by
  rw [mvOk_true] at h ⊢
  refine ⟨h.1, ?_⟩
  have := h.2
  unfold goneMv
  dsimp only
  omega
theorem thenStep_eq (b : Bk) (a k : Nat) (s : List Mv) : thenStep b a k s = if k = a then s ++ [goneMv (tk b.ts a) (at' b.ms k)] else if tk b.ts k < tk b.ts a then s else s ++ [stayMv (tk b.ts a) (at' b.ms k) (tk b.ts k)] := by
  unfold thenStep stayMv
  (repeat' split) <;> rfl
theorem then_movesOk {b : Bk} (hb : BkOk b) {a : Nat} (ha : a < b.ms.length) (hg : GoneOk b a) : MovesOk (thenL b a) := by
  have hm := hb.2.2.1.1
  have := foldFrom_inv (step := thenStep b a) (fun i s => (∀ m ∈ s, mvOk m = true) ∧ Asc s ∧ ∀ m ∈ s, ∀ k, i ≤ k → k < b.ms.length → ltN m.f0 (at' b.ms k).f0 = true) (n := b.ms.length) (fun i s hi h => by
    obtain ⟨h1, h2, h3⟩ := h
    have add : ∀ m : Mv, mvOk m = true → m.f0 = (at' b.ms i).f0 → (∀ m' ∈ s ++ [m], mvOk m' = true) ∧ Asc (s ++ [m]) ∧ ∀ m' ∈ s ++ [m], ∀ k, i + 1 ≤ k → k < b.ms.length → ltN m'.f0 (at' b.ms k).f0 = true := by
      intro m hmo hn
      refine ⟨fun m' hm' => ?_, List.pairwise_append.2 ⟨h2, List.pairwise_singleton _ _, fun x hx y hy => ?_⟩, fun m' hm' k hk hk2 => ?_⟩
      · rcases List.mem_append.1 hm' with h | h
        · exact h1 m' h
        · rw [List.mem_singleton.1 h]; exact hmo
      · rw [List.mem_singleton.1 hy, hn]
        exact h3 x hx i (Nat.le_refl _) hi
      · rcases List.mem_append.1 hm' with h | h
        · exact h3 m' h k (by omega) hk2
        · rw [List.mem_singleton.1 h, hn]
          exact movesOk_lt hm (by omega) hk2
    obtain ⟨k1, k2, k3, k4, k5, k6⟩ := bk_tick hb hi
    rw [thenStep_eq]
    split
    · rename_i e
      subst e
      exact add _ (gone_mvOk k3 k5 hg) rfl
    · split
      · exact ⟨h1, h2, fun m hm k hk hk2 => h3 m hm k (by omega) hk2⟩
      · refine add _ (stay_mvOk k3 k2.1) ?_
        unfold stayMv
        split <;> rfl) b.ms.length 0 [] (by omega) ⟨fun m h => by simp at h, .nil, fun m h => by simp at h⟩
  have hl := thenL_len b a
  rw [movesOk_iff]
  exact ⟨by have := hm.1; omega, this.1, this.2.1⟩
/-- A plan of moves that are ok is the best of moves that are ok. -/
theorem planM_eq {l : List Mv} (h : MovesOk l) {now shift : Int} (hn : 0 ≤ now) (hs : 0 ≤ shift ∧ shift ≤ 6) : planM l now shift = if LaterOk (now + 4) l then bestF (laterL (now + 4) l) shift else ([], false) := by
  unfold planM
  split
  · rename_i hl
    unfold bestF
    rw [if_pos ⟨later_movesOk h (by omega) hl, hs⟩]
  · rfl

/-- The place of a name, -1 if it is not there. -/
def atFrom (l : List Mv) (s : ByteArray) : Nat → Nat → Int
  | _, 0 => -1
  | i, d + 1 => if (at' l i).f0.toList == s.toList then (i : Int) else atFrom l s (i + 1) d
def atN (l : List Mv) (s : ByteArray) : Int := atFrom l s 0 l.length
theorem atFrom_range (l : List Mv) (s : ByteArray) : ∀ d i, i + d = l.length → (atFrom l s i d = -1 ∧ ∀ j, i ≤ j → j < l.length → (at' l j).f0 ≠ s) ∨ (∃ j : Nat, atFrom l s i d = j ∧ i ≤ j ∧ j < l.length ∧ (at' l j).f0 = s) := by
  intro d
  induction d with
  | zero => exact fun i hi => .inl ⟨rfl, fun j h1 h2 => absurd h1 (by omega)⟩
  | succ d ih =>
    intro i hi
    unfold atFrom
    by_cases h : (at' l i).f0 = s
    · rw [if_pos (by rw [h]; simp)]
      exact .inr ⟨i, rfl, Nat.le_refl _, by omega, h⟩
    · rw [if_neg (by simpa using fun e => h (toList_inj e))]
      rcases ih (i + 1) (by omega) with ⟨h1, h2⟩ | ⟨j, h1, h2, h3, h4⟩
      · refine .inl ⟨h1, fun j hj hl => ?_⟩
        by_cases e : j = i
        · exact e ▸ h
        · exact h2 j (by omega) hl
      · exact .inr ⟨j, h1, by omega, h3, h4⟩
theorem atN_range (l : List Mv) (s : ByteArray) : (atN l s = -1 ∧ ∀ j, j < l.length → (at' l j).f0 ≠ s) ∨ (∃ j : Nat, atN l s = j ∧ j < l.length ∧ (at' l j).f0 = s) := by
  rcases atFrom_range l s l.length 0 (by omega) with ⟨h1, h2⟩ | ⟨j, h1, _, h3, h4⟩
  · exact .inl ⟨h1, fun j hj => h2 j (by omega) hj⟩
  · exact .inr ⟨j, h1, h3, h4⟩

/-- A move among others, in order. -/
def putM (l : List Mv) (m : Mv) : List Mv := insA (fun y => ltN y.f0 m.f0) m l
def addR (b : Bk) (m : Mv) : Bk × Int :=
  if ¬ BkOk b then (Bk.z, 1) else if ¬ (mvOk m = true ∧ m.f5 = -1) then (b, 2) else if 0 ≤ atN b.ms m.f0 then (b, 3) else if b.ms.length = 6 then (b, 4)
  else if (planM (putM b.ms m) b.now b.shift).2 = false then (b, 5) else if ¬ SureM ⟨b.now, b.shift, putM b.ms m, (planM (putM b.ms m) b.now b.shift).1⟩ then (b, 6)
  else (⟨b.now, b.shift, putM b.ms m, (planM (putM b.ms m) b.now b.shift).1⟩, 0)
def dropL {α : Type} (l : List α) (a : Nat) : List α := l.take a ++ l.drop (a + 1)
def NoLater (a b : List Int) : Prop := ∀ i, i < a.length → tk a i ≤ tk b i
instance (a b : List Int) : Decidable (NoLater a b) := by unfold NoLater; infer_instance
def dropB (b : Bk) (a : Nat) : Bk := ⟨b.now, b.shift, dropL b.ms a, dropL b.ts a⟩
def dropP (b : Bk) (a : Nat) : List Int × Bool := planM (dropL b.ms a) b.now b.shift
def dropR (b : Bk) (s : ByteArray) : Bk × Int :=
  if ¬ BkOk b then (Bk.z, 1) else if atN b.ms s < 0 then (b, 3)
  else if (dropP b (atN b.ms s).toNat).2 = true ∧ NoLater (dropP b (atN b.ms s).toNat).1 (dropL b.ts (atN b.ms s).toNat) ∧ SureM ⟨b.now, b.shift, dropL b.ms (atN b.ms s).toNat, (dropP b (atN b.ms s).toNat).1⟩
  then (⟨b.now, b.shift, dropL b.ms (atN b.ms s).toNat, (dropP b (atN b.ms s).toNat).1⟩, 0) else (dropB b (atN b.ms s).toNat, 0)
def roundR (b : Bk) (s : ByteArray) : Bk × Int :=
  if ¬ BkOk b then (Bk.z, 1) else if ¬ (0 ≤ atN b.ms s ∧ (at' b.ms (atN b.ms s).toNat).f1 = true) then (b, 3) else if tk b.ts (atN b.ms s).toNat ≠ b.now then (b, 6)
  else if RoundOk b (atN b.ms s).toNat then (roundB b (atN b.ms s).toNat, 0) else (b, 5)
end Go.AM

/- Answers that are nil in one case: ticks and whether there are any; no condition. -/
namespace Go.AM
set_option linter.unusedVariables false
set_option linter.unusedSimpArgs false
open Go.RowKit
variable {P : Program}

/-- What omega is not to see. -/
structure Fact (p : Prop) : Prop where
  h : p
theorem fs {i : Nat} (h : i < 9223372036854775807) : Fact (wrap64 ((i : Int) + 1) = ((i + 1 : Nat) : Int)) := ⟨wrap_eq (by omega) (by omega)⟩
theorem fw {x : Int} (h : -9223372036854775808 ≤ x ∧ x ≤ 9223372036854775807) : Fact (wrap64 x = x) := ⟨wrap_eq h.1 h.2⟩
/-- Ticks of its own, or nil. -/
def NilR (p : List Int × Bool) (v : V) (s : List (Option C)) : Prop :=
  (v = .tup [.one (.own (.k 0)), .one (.bool p.2)] ∧ s = [some (.row (.int .i64) p.1)]) ∨ (p.2 = false ∧ v = .tup [.one .nil, .one (.bool false)] ∧ s = [])
theorem nilR_len {p : List Int × Bool} {v : V} {s : List (Option C)} (h : NilR p v s) : 0 ≤ s.length := Nat.zero_le _
theorem nilR_ok {p : List Int × Bool} (hp : p.2 = false → p.1 = []) {f : FuncId} {args : List V} (h : ∃ v s, NilR p v s ∧ Ok P f args [] v s) : Ok P f args [] (.tup [.one (.own (.k 0)), .one (.bool p.2)]) [some (.row (.int .i64) p.1)] := by
  obtain ⟨v, s, (⟨rfl, rfl⟩ | ⟨h1, rfl, rfl⟩), k⟩ := h
  · exact k
  · rw [h1, hp h1]
    exact k.virt (.int .i64) rfl
theorem ordFrom_nil (l : List Mv) (o : List Int) : ∀ d i ts, (ordFrom l o d i ts).2 = false → (ordFrom l o d i ts).1 = [] := by
  intro d
  induction d with
  | zero => intro i ts h; cases h
  | succ d ih =>
    intro i ts h
    unfold ordFrom at h ⊢
    split
    · rfl
    · rename_i u hu
      rw [hu] at h
      exact ih _ _ h
theorem ordM_nil (l : List Mv) (o : List Int) : (ordM l o).2 = false → (ordM l o).1 = [] := ordFrom_nil l o _ _ _
theorem ordF_nil (l : List Mv) (o : List Int) : (ordF l o).2 = false → (ordF l o).1 = [] := by
  unfold ordF
  split
  · exact ordM_nil l o
  · exact fun _ => rfl
theorem ordFrom_ts {l : List Mv} {o : List Int} {d i : Nat} {ts : List Int} {r : List Int × Bool} (he : ordFrom l o (d + 1) i ts = r) {m : Mv} (hm : m = at' l (pl o i)) (hok : mvOk m = true) (hts : Ts l.length ts) {t : Int} (ht : t = leastT l o ts i) (h0 : 0 ≤ t) :
    (tickOf m t = none → r.2 = false) ∧ ∀ u, tickOf m t = some u → ordFrom l o d (i + 1) (ts.set (pl o i) u) = r ∧ Ts l.length (ts.set (pl o i) u) := by
  subst hm ht
  unfold ordFrom at he
  constructor
  · intro h
    rw [h] at he
    rw [← he]
  · intro u h
    rw [h] at he
    have := tickOf_range hok h h0
    exact ⟨he, ts_set hts _ this.1 this.2.1⟩
end Go.AM

/- Texts cut at a byte; plain facts; no condition. -/
namespace Go.AM
set_option linter.unusedVariables false
set_option linter.unusedSimpArgs false
open Go.RowKit

/-- A row of bytes cut at a byte. -/
def splL (c : UInt8) : List UInt8 → List (List UInt8)
  | [] => [[]]
  | x :: xs => if x = c then [] :: splL c xs else match splL c xs with
    | p :: ps => (x :: p) :: ps
    | [] => [[x]]
theorem splL_cons (c x : UInt8) (xs : List UInt8) : splL c (x :: xs) = if x = c then [] :: splL c xs else match splL c xs with
    | p :: ps => (x :: p) :: ps
    | [] => [[x]] := rfl
def ofL (l : List UInt8) : ByteArray := ⟨l.toArray⟩
def cutM (c : UInt8) (s : ByteArray) : List ByteArray := (splL c s.data.toList).map ofL
theorem ofL_toL (s : ByteArray) : ofL s.data.toList = s := by
  cases s; rfl
theorem splL_ne (c : UInt8) : ∀ l, splL c l ≠ []
  | [] => by simp [splL]
  | x :: xs => by
    have := splL_ne c xs
    unfold splL
    split
    · simp
    · cases h : splL c xs <;> simp
theorem splL_none {c : UInt8} : ∀ {l : List UInt8}, c ∉ l → splL c l = [l]
  | [], _ => rfl
  | x :: xs, h => by
    simp only [List.mem_cons, not_or] at h
    unfold splL
    rw [if_neg (fun e => h.1 e.symm), splL_none h.2]
theorem splL_app {c : UInt8} : ∀ {l r : List UInt8}, c ∉ l → splL c (l ++ c :: r) = l :: splL c r
  | [], r, _ => by simp [splL]
  | x :: xs, r, h => by
    simp only [List.mem_cons, not_or] at h
    rw [List.cons_append, splL_cons, if_neg (fun e => h.1 e.symm), splL_app h.2]
theorem splL_len (c : UInt8) : ∀ l, (splL c l).length = l.count c + 1
  | [] => rfl
  | x :: xs => by
    have ih := splL_len c xs
    unfold splL
    split
    · rename_i h
      subst h
      simp [ih]
    · rename_i h
      rw [List.count_cons_of_ne h, ← ih]
      cases h : splL c xs <;> simp
      exact absurd h (splL_ne c xs)
theorem splL_one {c : UInt8} : ∀ {l p : List UInt8}, splL c l = [p] → p = l
  | [], p, h => by simp only [splL, List.cons.injEq, and_true] at h; exact h.symm
  | x :: xs, p, h => by
    unfold splL at h
    split at h
    · simp only [List.cons.injEq] at h
      exact absurd h.2 (splL_ne c xs)
    · cases h' : splL c xs with
      | nil => exact absurd h' (splL_ne c xs)
      | cons q qs =>
        rw [h'] at h
        simp only [List.cons.injEq] at h
        obtain ⟨h1, rfl⟩ := h
        rw [← h1, splL_one h']
theorem cutM_len (c : UInt8) (s : ByteArray) : (cutM c s).length = s.data.toList.count c + 1 := by
  unfold cutM; rw [List.length_map, splL_len]
theorem cutM_pos (c : UInt8) (s : ByteArray) : 1 ≤ (cutM c s).length := by rw [cutM_len]; omega
theorem count_size (c : UInt8) (s : ByteArray) : s.data.toList.count c ≤ s.size := List.count_le_length
theorem cutM_le (c : UInt8) (s : ByteArray) : (cutM c s).length ≤ s.size + 1 := by rw [cutM_len]; have := count_size c s; omega
theorem cutM_none {c : UInt8} {s : ByteArray} (h : c ∉ s.data.toList) : cutM c s = [s] := by
  unfold cutM; rw [splL_none h]; simp [ofL_toL]
theorem cutM_one {c : UInt8} {s w : ByteArray} (h : cutM c s = [w]) : w = s := by
  unfold cutM at h
  cases h' : splL c s.data.toList with
  | nil => exact absurd h' (splL_ne c _)
  | cons q qs =>
    rw [h'] at h
    simp only [List.map_cons, List.cons.injEq, List.map_eq_nil_iff] at h
    obtain ⟨h1, rfl⟩ := h
    rw [← h1, splL_one h', ofL_toL]
theorem ext_list (s : ByteArray) (a b : Nat) : (s.extract a b).data.toList = (s.data.toList.drop a).take (b - a) := by
  rw [ByteArray.data_extract, Array.toList_extract]
theorem ext_size (s : ByteArray) {a b : Nat} (h : a ≤ b) (h2 : b ≤ s.size) : (s.extract a b).size = b - a := by
  rw [ByteArray.size_extract]; omega
/-- The byte that is found, and what stands on its two sides. -/
theorem cutM_at {c : UInt8} {s : ByteArray} {a i : Nat} (ha : a ≤ i) (hi : i < s.size) (hc : s.data.toList[i]? = some c) (hn : ∀ j, a ≤ j → j < i → s.data.toList[j]? ≠ some c) :
    cutM c (s.extract a s.size) = s.extract a i :: cutM c (s.extract (i + 1) s.size) := by
  have hsz : s.data.toList.length = s.size := rfl
  have e : (s.extract a s.size).data.toList = (s.extract a i).data.toList ++ c :: (s.extract (i + 1) s.size).data.toList := by
    rw [ext_list, ext_list, ext_list]
    have h1 : s.data.toList.drop a = (s.data.toList.drop a).take (i - a) ++ (s.data.toList.drop a).drop (i - a) := (List.take_append_drop _ _).symm
    have h2 : (s.data.toList.drop a).drop (i - a) = s.data.toList.drop i := by rw [List.drop_drop]; congr 1; omega
    have hil : i < s.data.toList.length := by omega
    have h3 : s.data.toList.drop i = c :: s.data.toList.drop (i + 1) := by
      rw [List.drop_eq_getElem_cons hil]
      rw [List.getElem?_eq_getElem hil] at hc
      rw [Option.some.inj hc]
    rw [List.take_of_length_le (l := s.data.toList.drop a) (by rw [List.length_drop]; omega), List.take_of_length_le (l := s.data.toList.drop (i + 1)) (by rw [List.length_drop]; omega), ← h3, ← h2]
    exact h1
  have hnm : c ∉ (s.extract a i).data.toList := by
    intro hm
    rw [ext_list] at hm
    obtain ⟨j, hj⟩ := List.mem_iff_getElem?.1 hm
    rw [List.getElem?_take] at hj
    split at hj
    · rw [List.getElem?_drop] at hj
      exact hn (a + j) (by omega) (by omega) hj
    · cases hj
  unfold cutM
  rw [e, splL_app hnm, List.map_cons, ofL_toL]
theorem cutM_rest {c : UInt8} {s : ByteArray} {a : Nat} (hn : ∀ j, a ≤ j → j < s.size → s.data.toList[j]? ≠ some c) : cutM c (s.extract a s.size) = [s.extract a s.size] := by
  refine cutM_none fun hm => ?_
  rw [ext_list] at hm
  obtain ⟨j, hj⟩ := List.mem_iff_getElem?.1 hm
  rw [List.getElem?_take] at hj
  split at hj
  · rw [List.getElem?_drop] at hj
    exact hn (a + j) (by omega) (by have := (List.getElem?_eq_some_iff.1 hj).1; have h2 : s.data.toList.length = s.size := rfl; omega) hj
  · cases hj
theorem bext_all (s : ByteArray) : s.extract 0 s.size = s := by
  have : (s.extract 0 s.size).data.toList = s.data.toList := by rw [ext_list]; simp; exact List.take_of_length_le (Nat.le_refl _)
  cases s with | mk d => cases h : (ByteArray.mk d).extract 0 (ByteArray.mk d).size with | mk e =>
    rw [h] at this
    congr 1
    exact Array.toList_inj.mp this
/-- The byte at a place, as a number. -/
theorem bt_get {s : ByteArray} {i : Nat} (h : i < s.size) (c : UInt8) : bt s (i : Int) = (c.toNat : Int) ↔ s.data.toList[i]? = some c := by
  have hl : i < s.data.toList.length := h
  unfold bt
  rw [dif_pos (by simpa using h), List.getElem?_eq_getElem hl]
  constructor
  · intro e
    congr 1
    exact UInt8.toNat_inj.mp (Int.ofNat.inj e)
  · intro e
    have := Option.some.inj e
    rw [← this]
    rfl
/-- The first place of a byte. -/
theorem index_found {c : UInt8} : ∀ {l : List UInt8} {m : Int}, Lib.indexByte l c = m → 0 ≤ m → l[m.toNat]? = some c ∧ (∀ j, j < m.toNat → l[j]? ≠ some c) ∧ m.toNat < l.length
  | [], m, h, h0 => by simp only [Lib.indexByte] at h; omega
  | x :: xs, m, h, h0 => by
    simp only [Lib.indexByte] at h
    split at h
    · rename_i e
      have e : x = c := by simpa using e
      subst e; subst h
      exact ⟨rfl, fun j hj => absurd hj (by simp), by simp⟩
    · rename_i e
      have e : x ≠ c := by simpa using e
      split at h
      · omega
      · rename_i e2
        have hge := Lib.indexByte_ge xs c
        have e2 : Lib.indexByte xs c ≠ -1 := by simpa using e2
        obtain ⟨k1, k2, k3⟩ := index_found (c := c) (l := xs) (m := Lib.indexByte xs c) rfl (by omega)
        have hm : m.toNat = (Lib.indexByte xs c).toNat + 1 := by omega
        rw [hm]
        refine ⟨by simpa using k1, fun j hj => ?_, by simp; omega⟩
        cases j with
        | zero => simpa using e
        | succ j => simpa using k2 j (by omega)
theorem index_none {c : UInt8} : ∀ {l : List UInt8}, Lib.indexByte l c < 0 → c ∉ l
  | [], _ => by simp
  | x :: xs, h => by
    simp only [Lib.indexByte] at h
    split at h
    · omega
    · rename_i e
      have e : x ≠ c := by simpa using e
      split at h
      · rename_i e2
        have e2 : Lib.indexByte xs c = -1 := by simpa using e2
        have := index_none (l := xs) (c := c) (by rw [e2]; decide)
        simp only [List.mem_cons, not_or]
        exact ⟨fun q => e q.symm, this⟩
      · have hge := Lib.indexByte_ge xs c
        omega
end Go.AM

/- Numbers in decimals, plain facts; no condition. -/
namespace Go.AM
set_option linter.unusedVariables false
set_option linter.unusedSimpArgs false
open Go.RowKit

def decM (n : Int) : ByteArray := ⟨(Lib.itoa n).toArray⟩
theorem nDigits_le : ∀ (k u : Nat), u < 10 ^ (k + 1) → Lib.nDigits u ≤ k + 1
  | 0, u, h => by rw [Lib.nDigits_small (by simpa using h)]; exact Nat.le_refl _
  | k + 1, u, h => by
    by_cases h1 : u < 10
    · rw [Lib.nDigits_small h1]; omega
    · rw [Lib.nDigits_big h1]
      have := nDigits_le k (u / 10) (by rw [Nat.pow_succ] at h; omega)
      omega
theorem decM_size {n : Int} (h : W64 n) : (decM n).size ≤ 20 := by
  show (Lib.itoa n).toArray.size ≤ 20
  rw [List.size_toArray]
  have h1 : ∀ u : Nat, u < 10 ^ 19 → (Lib.decDigits u).length ≤ 19 := fun u hu => by rw [Lib.decDigits_length]; exact nDigits_le 18 u hu
  unfold Lib.itoa
  unfold W64 at h
  split
  · have := h1 n.natAbs (by omega)
    simp only [List.length_cons]
    omega
  · have := h1 n.toNat (by omega)
    omega
theorem decM_digit {n : Int} (h : 0 ≤ n ∧ n < 10) : ofBytes [48 + n] = decM n := by
  obtain ⟨u, rfl⟩ := Int.eq_ofNat_of_zero_le h.1
  unfold ofBytes decM Lib.itoa
  rw [if_neg (by omega), Int.toNat_natCast, Lib.decDigits_one (by omega)]
  simp only [List.map_cons, List.map_nil, show (48 + (u : Int)).toNat = 48 + u by omega]
theorem decM_step {n : Int} (h : 10 ≤ n) : decM (n.tdiv 10) ++ ofBytes [48 + n.tmod 10] = decM n := by
  obtain ⟨u, rfl⟩ := Int.eq_ofNat_of_zero_le (show 0 ≤ n by omega)
  have e1 : (u : Int).tdiv 10 = ((u / 10 : Nat) : Int) := rfl
  have e2 : (u : Int).tmod 10 = ((u % 10 : Nat) : Int) := rfl
  rw [e1, e2]
  unfold ofBytes decM Lib.itoa
  rw [if_neg (by omega), if_neg (by omega), Int.toNat_natCast, Int.toNat_natCast]
  conv => rhs; rw [Lib.decDigits, dif_neg (by omega)]
  have : (48 + ((u % 10 : Nat) : Int)).toNat = 48 + u % 10 := by omega
  simp only [List.map_cons, List.map_nil, this]
  apply ByteArray.ext
  simp [ByteArray.data_append]
theorem decM_neg {n : Int} (h : n < 0) : (⟨#[45]⟩ : ByteArray) ++ decM (0 - n) = decM n := by
  unfold decM Lib.itoa
  rw [if_neg (by omega), if_pos h, show (0 - n).toNat = n.natAbs by omega]
  apply ByteArray.ext
  simp [ByteArray.data_append]
/-- The number of a decimal of at most five digits, -1 of any other text. -/
def numC (s : ByteArray) : Prop := 1 ≤ s.size ∧ s.size ≤ 5 ∧ ¬ (1 < s.size ∧ bt s 0 = 48)
instance (s : ByteArray) : Decidable (numC s) := by unfold numC; infer_instance
def numI (s : ByteArray) : Int := if numC s then (match Lib.decFrom 0 s.data.toList with | some n => (n : Int) | none => -1) else -1
theorem numI_ge (s : ByteArray) : -1 ≤ numI s := by
  unfold numI
  split
  · split <;> omega
  · omega
def NumInv (s : ByteArray) (i n : Nat) : Prop := Lib.decFrom 0 (s.data.toList.take i) = some n
theorem numInv_lt {s : ByteArray} {i n : Nat} (h : NumInv s i n) (hs : s.size ≤ 5) : n < 100000 := by
  have h1 := Lib.decFrom_lt _ _ _ h
  have h2 : (s.data.toList.take i).length ≤ 5 := by rw [List.length_take]; have : s.data.toList.length = s.size := rfl; omega
  have h3 : 10 ^ (s.data.toList.take i).length ≤ 10 ^ 5 := Nat.pow_le_pow_right (by decide) h2
  omega
theorem numI_lt (s : ByteArray) : numI s < 100000 := by
  unfold numI
  split
  · rename_i hc
    split
    · rename_i n hn
      have := numInv_lt (s := s) (i := s.data.toList.length) (n := n) (by unfold NumInv; rw [List.take_length]; exact hn) hc.2.1
      omega
    · omega
  · omega
theorem bt_rng (s : ByteArray) (i : Int) : 0 ≤ bt s i ∧ bt s i ≤ 255 := by
  unfold bt
  split
  · rename_i h
    have := UInt8.toNat_lt (s[i.toNat]'h)
    omega
  · omega
theorem numInv_zero (s : ByteArray) : NumInv s 0 0 := by simp [NumInv, Lib.decFrom]
theorem bt_digit {s : ByteArray} {i : Nat} (hi : i < s.size) : ∃ b : UInt8, s.data.toList[i]? = some b ∧ bt s (i : Int) = (b.toNat : Int) := by
  have hl : i < s.data.toList.length := hi
  exact ⟨s.data.toList[i], List.getElem?_eq_getElem hl, (bt_get hi _).2 (List.getElem?_eq_getElem hl)⟩
theorem numInv_step {s : ByteArray} {i n : Nat} (h : NumInv s i n) (hi : i < s.size) (h1 : 48 ≤ bt s (i : Int)) (h2 : bt s (i : Int) ≤ 57) : NumInv s (i + 1) (n * 10 + (bt s (i : Int) - 48).toNat) := by
  obtain ⟨b, hb, he⟩ := bt_digit hi
  refine Lib.decFrom_take _ _ _ _ b _ h hb ?_
  rw [he] at h1 h2 ⊢
  unfold Lib.digitVal
  rw [if_pos (by omega)]
  congr 1
  omega
theorem numI_bad {s : ByteArray} {i : Nat} (hi : i < s.size) (h : ¬ (48 ≤ bt s (i : Int) ∧ bt s (i : Int) ≤ 57)) : numI s = -1 := by
  unfold numI
  split
  · split
    · rename_i n hn
      obtain ⟨b, hb, he⟩ := bt_digit hi
      obtain ⟨d, hd⟩ := Lib.digit_of_decFrom _ _ _ hn i b hb
      unfold Lib.digitVal at hd
      split at hd
      · rw [he] at h; omega
      · cases hd
    · rfl
  · rfl
theorem numI_end {s : ByteArray} {n : Nat} (hc : numC s) (h : NumInv s s.size n) : numI s = (n : Int) := by
  unfold numI
  rw [if_pos hc]
  have : Lib.decFrom 0 s.data.toList = some n := by
    unfold NumInv at h
    rwa [show s.size = s.data.toList.length from rfl, List.take_length] at h
  rw [this]
theorem numI_no {s : ByteArray} (hc : ¬ numC s) : numI s = -1 := by unfold numI; rw [if_neg hc]
theorem numI_atoi {s : ByteArray} (h : 0 ≤ numI s) : Lib.atoi s.data.toList = some (numI s) ∧ s.size ≤ 18 := by
  unfold numI at h ⊢
  split at h
  · rename_i hc
    rw [if_pos hc]
    cases hn : Lib.decFrom 0 s.data.toList with
    | none => rw [hn] at h; simp at h
    | some n =>
      have hl : s.data.toList.length = s.size := rfl
      refine ⟨?_, by have := hc.2.1; omega⟩
      cases hs : s.data.toList with
      | nil => rw [hs] at hl; have := hc.1; simp at hl; omega
      | cons b r =>
        rw [hs] at hn
        obtain ⟨d, hd⟩ := Lib.digit_of_decFrom _ _ _ hn 0 b rfl
        have hb : 48 ≤ b.toNat := by
          unfold Lib.digitVal at hd
          split at hd
          · omega
          · cases hd
        have b1 : (b == 45) = false := by
          rw [beq_eq_false_iff_ne]; rintro rfl; simp at hb
        have b2 : (b == 43) = false := by
          rw [beq_eq_false_iff_ne]; rintro rfl; simp at hb
        simp only [Lib.atoi, b1, b2, Lib.decNat, List.isEmpty_cons, hn]
        rfl
  · omega
def numsM : List ByteArray → List Int × Bool
  | [] => ([], true)
  | w :: ws => if numI w < 0 then ([], false) else (numI w :: (numsM ws).1, (numsM ws).2)
theorem numsM_at {ws : List ByteArray} {i : Nat} (h : i < ws.length) : numsM (ws.drop i) = if numI (ws.getD i ByteArray.empty) < 0 then ([], false) else (numI (ws.getD i ByteArray.empty) :: (numsM (ws.drop (i + 1))).1, (numsM (ws.drop (i + 1))).2) := by
  rw [List.drop_eq_getElem_cons h, numsM, List.getD_eq_getElem?_getD, List.getElem?_eq_getElem h]
  rfl
end Go.AM

/- The library's functions behind sessions, by the shelf; condition: the arguments. -/
namespace Go.Proofs.YtlmdbeegmgfpnaaGreatDoor.AM
open Go.AM Go.RowKit
set_option linter.unusedVariables false
set_option linter.unusedSimpArgs false
set_option maxRecDepth 100000

theorem tab_is {w : World} (h : ∃ G, Tabs G w) : Lib.TabIs P w "internal/strconv.uint64pow10" .u64 Lib.pow10Tab := by
  obtain ⟨G, h⟩ := h
  obtain ⟨te, fz, h5⟩ := (h.has 5 rfl).2
  have hg : Program.globalNamed P "internal/strconv.uint64pow10" = some 5 := by kernel_rfl
  unfold Lib.TabIs World.var?
  rw [hg]
  simp only [Option.bind_some, h5]
theorem below_grow (w : World) (k : Nat) (os : Array Obj) : Below w.heap.size w (Go.Sort.grow (w.drewN k) os) := by
  refine ⟨rfl, rfl, rfl, ?_, fun b hb => ?_⟩
  · show w.heap.size ≤ (w.heap ++ os).size
    simp
  · show (w.heap ++ os)[b]? = w.heap[b]?
    rw [Array.getElem?_append_left hb]
theorem itoa_ok (n : Int) (h : W64 n) : Ok P 53 [.one (.int .i64 n)] [] (.one (.str (decM n))) [] := by
  refine Ok.of_calls Tryz.func53 (by kernel_rfl) (by kernel_rfl) (v := .string (decM n)) (fun _ _ _ _ h => rep_1int h) (fun _ _ _ => by simp only [repV, repA]) fun w ht => ?_
  refine (Tryz.strconv_Itoa n (by have := h.1; omega) (by have := h.2; omega) w (tab_is ht)).mono ?_
  rintro e w' ⟨rfl, k, os, rfl⟩
  exact ⟨rfl, below_grow w k os⟩
theorem indexOne_ok (s : ByteArray) (c : UInt8) : Ok P 50 [.one (.str s), .one (.str ⟨#[c]⟩)] [] (.one (.int .i64 (Lib.indexByte s.data.toList c))) [] := by
  refine Ok.of_calls Tryz.func50 (by kernel_rfl) (by kernel_rfl) (v := .int .i64 (Lib.indexByte s.data.toList c)) (fun _ _ _ _ h => rep_2str h) (fun _ _ _ => by simp only [repV, repA]) fun w ht => ?_
  refine (Tryz.strings_Index_one s c w).mono ?_
  rintro e w' ⟨rfl, rfl⟩
  exact ⟨rfl, Below.refl _ _⟩
theorem countOne_ok (s : ByteArray) (c : UInt8) : Ok P 49 [.one (.str s), .one (.str ⟨#[c]⟩)] [] (.one (.int .i64 (Lib.countByte s.data.toList c))) [] := by
  refine Ok.of_calls Tryz.func49 (by kernel_rfl) (by kernel_rfl) (v := .int .i64 (Lib.countByte s.data.toList c)) (fun _ _ _ _ h => rep_2str h) (fun _ _ _ => by simp only [repV, repA]) fun w ht => ?_
  refine (Tryz.strings_Count_one s c w).mono ?_
  rintro e w' ⟨rfl, rfl⟩
  exact ⟨rfl, Below.refl _ _⟩
theorem below_bytes (w : World) (t : TypeId) (s : ByteArray) : Below w.heap.size w (Lib.bytesWorld w t s) := by
  refine ⟨?_, ?_, ?_, by rw [Lib.bytesWorld_size]; omega, fun b hb => Lib.bytesWorld_at_old w t s b hb⟩
  all_goals
    unfold Lib.bytesWorld World.freeze
    split <;> rfl
theorem atoi_ok (s : ByteArray) (n : Int) (hl : s.size ≤ 18) (h : Lib.atoi s.data.toList = some n) : Ok P 52 [.one (.str s)] [] (.tup [.one (.int .i64 n), .one .any]) [] := by
  refine Ok.of_calls Tryz.func52 (by kernel_rfl) (by kernel_rfl) (v := .tuple #[.int .i64 n, .nilIface]) (fun _ _ _ _ h => rep_1str h) (fun _ _ _ => ?_) fun w ht => ?_
  · simp only [repV, repVs, repA]
    exact ⟨_, rfl, _, _, rfl, rfl, _, _, rfl, .inr rfl, rfl⟩
  refine (Tryz.strconv_Atoi s n hl h w).mono ?_
  rintro e w' ⟨rfl, t, rfl⟩
  exact ⟨rfl, below_bytes w _ _⟩
end Go.Proofs.YtlmdbeegmgfpnaaGreatDoor.AM

/- The whole of a row, as the row; no condition. -/
namespace Go.AM
set_option linter.unusedVariables false
set_option linter.unusedSimpArgs false
open Go.RowKit
variable {P : Program}

theorem Ok.whole {f : FuncId} {args : List V} {e : El} {xs : List e.T} {n : Nat} (h : Ok P f args [] (.one (.sub (.k 0) 0 n)) [some (.row e xs)]) (hn : n = xs.length) (hne : 0 < xs.length) :
    Ok P f args [] (.one (.own (.k 0))) [some (.row e xs)] := by
  obtain ⟨h1, h2⟩ := h
  refine ⟨h1, fun w μ G cargs hr hrep => (h2 w μ G cargs hr hrep).mono fun u w' ⟨μ', G', k1, k2⟩ => ?_⟩
  have hl0 : lkC (.k 0) (argSto 0 [some (.row e xs)]) = some (.row e xs) := rfl
  obtain ⟨B, b1, b2, b3⟩ := k2.hr.live _ _ hl0
  obtain ⟨c1, c2, c3, c4, c5⟩ := b2
  have hv : B.virt = false := by
    cases hq : B.virt with
    | false => rfl
    | true => rw [(c4 hq).1] at hne; simp at hne
  obtain ⟨d1, arr, te, d2, d3, d4⟩ := c5 hv
  refine ⟨μ', G', ?_, k2⟩
  simp only [repV, repA] at k1 ⊢
  obtain ⟨C, o, q1, q2, q3, q4⟩ := k1
  rw [b1] at q1
  obtain rfl := Option.some.inj q1
  refine ⟨B, b1, ?_⟩
  rw [q2, q4 (by omega), d1, c1, hn]
  simp
end Go.AM

/- Texts cut at a byte, on both sides; condition: the size. -/
namespace Go.Proofs.YtlmdbeegmgfpnaaGreatDoor.AM
open Go.AM Go.RowKit
set_option linter.unusedVariables false
set_option linter.unusedSimpArgs false
set_option maxRecDepth 100000

theorem scut_ok (s : ByteArray) (c : UInt8) (hs : s.size ≤ 1073741824) (z : Int) (hz : z = (c.toNat : Int)) : Ok P 8 [.one (.str s), .one (.int .u8 z)] [] (.one (.own (.k 0))) [some (.row .str (cutM c s))] := by
  subst hz
  refine Ok.of_run (F := mk Tryz.f8 0) Tryz.func8 rfl rfl tabOk mixed rfl rfl rfl rfl rfl (Nat.le_of_ble_eq_true rfl) (Nat.le_of_ble_eq_true rfl) (.go 5000 ?_)
  have loop : ∀ (d i a : Nat) (z y : Int) (o : List ByteArray), z = i → y = a → i + d = s.size → a ≤ i → (∀ j, a ≤ j → j < i → s.data.toList[j]? ≠ some c) → o.length ≤ a → o ++ cutM c (s.extract a s.size) = cutM c s → Run P (mk Tryz.f8 0) (fun v st => v = .one (.own (.k 0)) ∧ st = [some (.row .str (cutM c s))]) (.loop ⟨[(0, .one (.str s)), (1, .one (.int .u8 (c.toNat : Int))), (5, .one (.own (.t 1000 0))), (6, .one (.int .i64 y)), (7, .one (.int .i64 z))], [(.t 1000 0, some (.row .str o))], [.lp [0, 1, 0, 1, 1, 1], .blk 0, .code [1, 1, 1, 1]], none⟩) := by
    intro d
    induction d with
    | zero =>
      intro i a z y o hz hy hd ha hn ho he
      subst hz hy
      rw [cutM_rest (fun j h1 h2 => hn j h1 (by omega))] at he
      refine Run.loop ?_
      repeat' (conv => arg 4; whnf); first | refine Run.ret ⟨?_, rfl⟩ | refine Run.condT ?_ | refine Run.condf ?_ | refine Run.condD (fun h => ?_) (fun h => ?_) | refine Run.condN (fun h => ?_) (fun h => ?_) | refine Run.condE (fun h => ?_) (fun h => ?_) | refine Run.condF (fun h => ?_) (fun h => ?_) | refine Run.condM (fun h => ?_) (fun h => ?_) | refine Run.condB (fun h => ?_) (fun h => ?_) | refine Run.check1 ?_ | refine Run.need1 (by simp only [allP, true_and, and_true, List.length_cons, List.length_nil]; omega) ?_ | (refine Run.ret ⟨rfl, ?_⟩) | (exfalso; omega)
      all_goals first | (exfalso; omega) | (simp only [Int.toNat_natCast]; rw [he]) | trace_state
    | succ d ih =>
      intro i a z y o hz hy hd ha hn ho he
      subst hz hy
      have hi : i < s.size := by omega
      have e := fs (i := i) (by omega)
      have hf : bt s (i : Int) = (c.toNat : Int) → o ++ [s.extract a i] ++ cutM c (s.extract (i + 1) s.size) = cutM c s := fun h => by
        rw [← he, cutM_at ha hi ((bt_get hi c).1 h) hn, List.append_assoc]
        rfl
      have hnf : ¬ bt s (i : Int) = (c.toNat : Int) → ∀ j, a ≤ j → j < i + 1 → s.data.toList[j]? ≠ some c := fun h j h1 h2 q => by
        rcases Nat.lt_or_ge j i with h3 | h3
        · exact hn j h1 h3 q
        · obtain rfl : j = i := by omega
          exact h ((bt_get hi c).2 q)
      refine Run.loop ?_
      repeat' (conv => arg 4; whnf); first | refine Run.ret ⟨?_, rfl⟩ | refine Run.condT ?_ | refine Run.condf ?_ | refine Run.condD (fun h => ?_) (fun h => ?_) | refine Run.condN (fun h => ?_) (fun h => ?_) | refine Run.condE (fun h => ?_) (fun h => ?_) | refine Run.condF (fun h => ?_) (fun h => ?_) | refine Run.condM (fun h => ?_) (fun h => ?_) | refine Run.condB (fun h => ?_) (fun h => ?_) | refine Run.check1 ?_ | refine Run.need1 (by simp only [allP, true_and, and_true, List.length_cons, List.length_nil]; omega) ?_ | refine Run.round ⟨[(.t 26 0, .t 1000 0)], [], []⟩ (ih (i + 1) (i + 1) _ _ _ e.h e.h (by omega) (by omega) (fun j h1 h2 => absurd h1 (by omega)) ?_ ?_) rfl (by (repeat' (first | exact wkEnv_nil | refine wkEnv_cons rfl ?_ | exact wkSto_nil | refine wkSto_none ?_ | refine wkSto_some rfl ?_)); done) (by (repeat' (first | exact wkEnv_nil | refine wkEnv_cons rfl ?_ | exact wkSto_nil | refine wkSto_none ?_ | refine wkSto_some rfl ?_)); done) | refine Run.round ⟨[(.t 1000 0, .t 1000 0)], [], []⟩ (ih (i + 1) a _ _ _ e.h rfl (by omega) (by omega) ?_ ho he) rfl (by (repeat' (first | exact wkEnv_nil | refine wkEnv_cons rfl ?_ | exact wkSto_nil | refine wkSto_none ?_ | refine wkSto_some rfl ?_)); done) (by (repeat' (first | exact wkEnv_nil | refine wkEnv_cons rfl ?_ | exact wkSto_nil | refine wkSto_none ?_ | refine wkSto_some rfl ?_)); done) | (exfalso; omega)
      all_goals first | (exfalso; omega) | (simp only [List.length_append, List.length_cons, List.length_nil]; omega) | exact hf h | exact hnf h | trace_state
  repeat' (conv => arg 4; whnf); first | refine Run.ret ⟨?_, rfl⟩ | refine Run.condT ?_ | refine Run.condf ?_ | refine Run.condD (fun h => ?_) (fun h => ?_) | refine Run.condN (fun h => ?_) (fun h => ?_) | refine Run.condE (fun h => ?_) (fun h => ?_) | refine Run.condF (fun h => ?_) (fun h => ?_) | refine Run.condM (fun h => ?_) (fun h => ?_) | refine Run.condB (fun h => ?_) (fun h => ?_) | refine Run.check1 ?_ | refine Run.round ⟨[(.t 8 0, .t 1000 0)], [], []⟩ (loop s.size 0 0 _ _ _ rfl rfl (by omega) (by omega) (fun j h1 h2 => absurd h2 (by omega)) (Nat.zero_le _) ?_) rfl (by (repeat' (first | exact wkEnv_nil | refine wkEnv_cons rfl ?_ | exact wkSto_nil | refine wkSto_none ?_ | refine wkSto_some rfl ?_)); done) (by (repeat' (first | exact wkEnv_nil | refine wkEnv_cons rfl ?_ | exact wkSto_nil | refine wkSto_none ?_ | refine wkSto_some rfl ?_)); done)
  all_goals first | (rw [bext_all, List.nil_append]) | trace_state
theorem one_ne (c : UInt8) : (((⟨#[c]⟩ : ByteArray).toList == (⟨#[]⟩ : ByteArray).toList) = true) → False := by
  intro h
  have h1 := eq_of_beq h
  have e1 : (⟨#[c]⟩ : ByteArray).toList = [c] := by
    rw [ByteArray.toList, ByteArray.toList.loop, ByteArray.toList.loop]
    rfl
  have e2 : (⟨#[]⟩ : ByteArray).toList = [] := by
    rw [ByteArray.toList, ByteArray.toList.loop]
    rfl
  rw [e1, e2] at h1
  cases h1
theorem gen_ok0 (s : ByteArray) (c : UInt8) (hs : s.size ≤ 1073741824) : Ok P 27 [.one (.str s), .one (.str ⟨#[c]⟩), .one (.int .i64 0), .one (.int .i64 (-1))] [] (.one (.sub (.k 0) 0 (cutM c s).length)) [some (.row .str (cutM c s))] := by
  have nosep := one_ne c
  have hcnt := count_size c s
  have hcl := cutM_len c s
  have hco := countOne_ok s c
  rw [show Lib.countByte s.data.toList c = s.data.toList.count c from rfl] at hco
  generalize hk : s.data.toList.count c = k at *
  have wa : Fact (min (wrap64 ((k : Int) + 1)) (wrap64 ((s.size : Int) + 1)) = (k : Int) + 1) := ⟨by
    rw [wrap_eq (x := (k : Int) + 1) (by omega) (by omega), wrap_eq (x := (s.size : Int) + 1) (by omega) (by omega)]; omega⟩
  have wb : Fact (wrap64 (min (wrap64 ((k : Int) + 1)) (wrap64 ((s.size : Int) + 1)) - 1) = (k : Int)) := ⟨by rw [wa.h]; exact (wrap_eq (by omega) (by omega)).trans (by omega)⟩
  refine Ok.of_run (F := mk Tryz.f27 0) Tryz.func27 rfl rfl tabOk mixed rfl rfl rfl rfl rfl (Nat.le_of_ble_eq_true rfl) (Nat.le_of_ble_eq_true rfl) (.go 5000 ?_)
  have loop : ∀ (d i : Nat) (z y : Int) (t : ByteArray) (o pre : List ByteArray), z = i → y = k → i + d = k → t.size ≤ s.size → t.data.toList.count c = d → pre.length = i → o = pre ++ List.replicate (d + 1) ByteArray.empty → pre ++ cutM c t = cutM c s → Run P (mk Tryz.f27 0) (fun v st => v = .one (.sub (.k 0) 0 (cutM c s).length) ∧ st = [some (.row .str (cutM c s))])
      (.loop ⟨[(0, .one (.str t)), (1, .one (.str ⟨#[c]⟩)), (2, .one (.int .i64 0)), (3, .one (.int .i64 y)), (9, .one (.own (.t 31 0))), (10, .one (.int .i64 z))], [(.t 31 0, some (.row .str o))], [.lp [0, 0, 1, 1, 1, 1, 1, 1, 1, 1], .blk 0, .code [1, 1, 1, 1, 1, 1, 1, 1, 1]], none⟩) := by
    intro d
    induction d with
    | zero =>
      intro i z y t o pre hz hy hd hts hct hp ho he
      subst hz hy
      obtain rfl : i = k := by omega
      have hol : o.length = i + 1 := by rw [ho]; simp [hp]
      have hct1 : cutM c t = [t] := cutM_none (fun hm => by have := List.count_pos_iff.2 hm; omega)
      have wi : Fact (wrap64 ((i : Int) + 1) = ((cutM c s).length : Int)) := ⟨by rw [hcl]; exact (wrap_eq (by omega) (by omega)).trans (by omega)⟩
      have hset : o.set i t = cutM c s := by
        rw [ho, ← he, hct1, ← hp]
        simp
      refine Run.loop ?_
      repeat' (conv => arg 4; whnf); first | refine Run.ret ⟨?_, rfl⟩ | refine Run.condT ?_ | refine Run.condf ?_ | refine Run.condD (fun h => ?_) (fun h => ?_) | refine Run.condN (fun h => ?_) (fun h => ?_) | refine Run.condE (fun h => ?_) (fun h => ?_) | refine Run.condF (fun h => ?_) (fun h => ?_) | refine Run.condM (fun h => ?_) (fun h => ?_) | refine Run.condB (fun h => ?_) (fun h => ?_) | refine Run.check1 ?_ | refine Run.need1 (by simp only [allP, true_and, and_true]; omega) ?_ | refine Run.need1 (by simp only [allP, true_and, and_true, wi.h, hcl, List.length_set, hol]; omega) ?_ | (refine Run.ret ⟨?_, ?_⟩) | (exfalso; omega)
      all_goals first | (exfalso; omega) | (rw [wi.h]; simp only [Int.toNat_natCast]; done) | (simp only [Int.toNat_natCast]; rw [hset]) | trace_state
    | succ d ih =>
      intro i z y t o pre hz hy hd hts hct hp ho he
      subst hz hy
      have e := fs (i := i) (by omega)
      have hol : o.length = i + d + 2 := by rw [ho]; simp [hp]; omega
      have hix := indexOne_ok t c
      have hm0 : 0 ≤ Lib.indexByte t.data.toList c := by
        rcases Int.lt_or_le (Lib.indexByte t.data.toList c) 0 with h | h
        · have h1 := index_none h
          have h2 := List.count_eq_zero.2 h1
          omega
        · exact h
      obtain ⟨k1, k2, k3⟩ := index_found (c := c) rfl hm0
      generalize Lib.indexByte t.data.toList c = m at *
      have k3 : m.toNat < t.size := k3
      have w1 : Fact (wrap64 (m + 0) = m) := ⟨(wrap_eq (by omega) (by omega)).trans (by omega)⟩
      have w2 : Fact (wrap64 (m + ((⟨#[c]⟩ : ByteArray).size : Int)) = ((m.toNat + 1 : Nat) : Int)) := ⟨by
        rw [show ((⟨#[c]⟩ : ByteArray).size : Int) = 1 from rfl]
        exact (wrap_eq (by omega) (by omega)).trans (by omega)⟩
      have hcut : cutM c t = t.extract 0 m.toNat :: cutM c (t.extract (m.toNat + 1) t.size) := by
        have := cutM_at (c := c) (s := t) (a := 0) (i := m.toNat) (Nat.zero_le _) k3 k1 (fun j _ h => k2 j h)
        rwa [bext_all] at this
      have hcnt2 : (t.extract (m.toNat + 1) t.size).data.toList.count c = d := by
        have h1 := cutM_len c t
        have h2 := cutM_len c (t.extract (m.toNat + 1) t.size)
        rw [hcut, List.length_cons] at h1
        omega
      have hsz : (t.extract (m.toNat + 1) t.size).size ≤ s.size := by rw [ext_size t (by omega) (Nat.le_refl _)]; omega
      have hset : o.set i (t.extract 0 m.toNat) = (pre ++ [t.extract 0 m.toNat]) ++ List.replicate (d + 1) ByteArray.empty := by
        rw [ho, ← hp, List.set_append_right _ _ (Nat.le_refl _), Nat.sub_self, List.replicate_succ, List.set_cons_zero, List.append_assoc]
        rfl
      have he2 : (pre ++ [t.extract 0 m.toNat]) ++ cutM c (t.extract (m.toNat + 1) t.size) = cutM c s := by rw [← he, hcut, List.append_assoc]; rfl
      refine Run.loop ?_
      repeat' (conv => arg 4; whnf); first | refine Run.ret ⟨?_, rfl⟩ | refine Run.condT ?_ | refine Run.condf ?_ | refine Run.condD (fun h => ?_) (fun h => ?_) | refine Run.condN (fun h => ?_) (fun h => ?_) | refine Run.condE (fun h => ?_) (fun h => ?_) | refine Run.condF (fun h => ?_) (fun h => ?_) | refine Run.condM (fun h => ?_) (fun h => ?_) | refine Run.condB (fun h => ?_) (fun h => ?_) | refine Run.check1 ?_ | refine Run.call (hix) rfl ?_ | refine Run.need1 (by simp only [allP, true_and, and_true]; omega) ?_ | refine Run.need1 (by simp only [allP, true_and, and_true, w1.h, w2.h]; omega) ?_ | refine Run.round ⟨[(.t 31 0, .t 31 0)], [], []⟩ (ih (i + 1) _ _ _ _ (pre ++ [t.extract 0 m.toNat]) e.h rfl (by omega) ?_ ?_ ?_ ?_ ?_) rfl (by (repeat' (first | exact wkEnv_nil | refine wkEnv_cons rfl ?_ | exact wkSto_nil | refine wkSto_none ?_ | refine wkSto_some rfl ?_)); done) (by (repeat' (first | exact wkEnv_nil | refine wkEnv_cons rfl ?_ | exact wkSto_nil | refine wkSto_none ?_ | refine wkSto_some rfl ?_)); done) | (exfalso; omega)
      all_goals first
        | (exfalso; omega)
        | (rw [List.length_append, hp]; rfl)
        | (rw [w2.h, Int.toNat_natCast]; exact hsz)
        | (rw [w2.h, Int.toNat_natCast]; exact hcnt2)
        | (rw [w1.h, Int.toNat_natCast]; exact hset)
        | (rw [w2.h, Int.toNat_natCast]; exact he2)
        | trace_state
  repeat' (conv => arg 4; whnf); first | refine Run.ret ⟨?_, rfl⟩ | refine Run.condT ?_ | refine Run.condf ?_ | refine Run.condD (fun h => ?_) (fun h => ?_) | refine Run.condN (fun h => ?_) (fun h => ?_) | refine Run.condE (fun h => ?_) (fun h => ?_) | refine Run.condF (fun h => ?_) (fun h => ?_) | refine Run.condM (fun h => ?_) (fun h => ?_) | refine Run.condB (fun h => ?_) (fun h => ?_) | refine Run.check1 ?_ | (exfalso; exact nosep ‹_›) | refine Run.call (hco) rfl ?_ | refine Run.need1 (by simp only [allP, true_and, and_true]; omega) ?_ | refine Run.need1 (by simp only [allP, true_and, and_true, wa.h]; omega) ?_ | refine Run.round ⟨[(.t 31 0, .t 31 0)], [], []⟩ (loop k 0 _ _ _ _ [] rfl wb.h (by omega) (Nat.le_refl _) hk rfl ?_ rfl) rfl (by (repeat' (first | exact wkEnv_nil | refine wkEnv_cons rfl ?_ | exact wkSto_nil | refine wkSto_none ?_ | refine wkSto_some rfl ?_)); done) (by (repeat' (first | exact wkEnv_nil | refine wkEnv_cons rfl ?_ | exact wkSto_nil | refine wkSto_none ?_ | refine wkSto_some rfl ?_)); done)
  all_goals first | (rw [wa.h]; rfl) | trace_state
theorem split_ok (s : ByteArray) (c : UInt8) (hs : s.size ≤ 1073741824) : Ok P 10 [.one (.str s), .one (.str ⟨#[c]⟩)] [] (.one (.own (.k 0))) [some (.row .str (cutM c s))] := by
  have hg := Ok.whole (gen_ok0 s c hs) rfl (by have := cutM_pos c s; omega)
  refine Ok.of_run (F := mk Tryz.f10 0) Tryz.func10 rfl rfl tabOk mixed rfl rfl rfl rfl rfl (Nat.le_of_ble_eq_true rfl) (Nat.le_of_ble_eq_true rfl) (.go 5000 ?_)
  repeat' (conv => arg 4; whnf); first | refine Run.ret ⟨?_, rfl⟩ | refine Run.condT ?_ | refine Run.condf ?_ | refine Run.condD (fun h => ?_) (fun h => ?_) | refine Run.condN (fun h => ?_) (fun h => ?_) | refine Run.condE (fun h => ?_) (fun h => ?_) | refine Run.condF (fun h => ?_) (fun h => ?_) | refine Run.condM (fun h => ?_) (fun h => ?_) | refine Run.condB (fun h => ?_) (fun h => ?_) | refine Run.check1 ?_ | refine Run.call (hg) rfl ?_
  all_goals first | rfl | trace_state
end Go.Proofs.YtlmdbeegmgfpnaaGreatDoor.AM

/- StripMoveOk, the program's and the reference's; gaps; no condition. -/
namespace Go.Proofs.YtlmdbeegmgfpnaaGreatDoor.AM
open Go.AM Go.RowKit
set_option linter.unusedVariables false
set_option maxRecDepth 100000
set_option linter.unusedSimpArgs false

theorem sin_ok (a b c : Int) : Ok P 68 [.one (.int .i64 a), .one (.int .i64 b), .one (.int .i64 c)] [] (.one (.bool (decide (b ≤ a ∧ a ≤ c)))) [] := by
  refine Ok.of_run (F := mk Tryz.f68 0) Tryz.func68 rfl rfl tabOk mixed rfl rfl rfl rfl rfl (Nat.le_of_ble_eq_true rfl) (Nat.le_of_ble_eq_true rfl) (.go 5000 ?_)
  repeat' (conv => arg 4; whnf); first | refine Run.ret ⟨?_, rfl⟩ | refine Run.condT ?_ | refine Run.condf ?_ | refine Run.condD (fun h => ?_) (fun h => ?_) | refine Run.condN (fun h => ?_) (fun h => ?_) | refine Run.condE (fun h => ?_) (fun h => ?_) | refine Run.condF (fun h => ?_) (fun h => ?_) | refine Run.condM (fun h => ?_) (fun h => ?_) | refine Run.condB (fun h => ?_) (fun h => ?_) | refine Run.check1 ?_
  · simp [h]
  · simp [h]
theorem gap_ok (a b : Mv) : Ok P 112 [.agg (encMv a), .agg (encMv b)] [] (.one (.int .i64 (gap a b))) [] := by
  refine Ok.of_run (F := mk Tryz.f112 0) Tryz.func112 rfl rfl tabOk mixed rfl rfl rfl rfl rfl (Nat.le_of_ble_eq_true rfl) (Nat.le_of_ble_eq_true rfl) (.go 5000 ?_)
  repeat' (conv => arg 4; whnf); first | refine Run.ret ⟨?_, rfl⟩ | refine Run.condT ?_ | refine Run.condf ?_ | refine Run.condD (fun h => ?_) (fun h => ?_) | refine Run.condN (fun h => ?_) (fun h => ?_) | refine Run.condE (fun h => ?_) (fun h => ?_) | refine Run.condF (fun h => ?_) (fun h => ?_) | refine Run.condM (fun h => ?_) (fun h => ?_) | refine Run.condB (fun h => ?_) (fun h => ?_) | refine Run.check1 ?_ | refine Run.call (in_ok _ _ _) rfl ?_
  all_goals (refine congrArg (fun n => V.one (.int .i64 n)) ?_; simp only [gap, wrap64, *]; (repeat' split) <;> first | omega | simp_all)
theorem sgap_ok (a b : Mv) : Ok P 138 [.agg (encMv a), .agg (encMv b)] [] (.one (.int .i64 (gap a b))) [] := by
  refine Ok.of_run (F := mk Tryz.f138 0) Tryz.func138 rfl rfl tabOk mixed rfl rfl rfl rfl rfl (Nat.le_of_ble_eq_true rfl) (Nat.le_of_ble_eq_true rfl) (.go 5000 ?_)
  repeat' (conv => arg 4; whnf); first | refine Run.ret ⟨?_, rfl⟩ | refine Run.condT ?_ | refine Run.condf ?_ | refine Run.condD (fun h => ?_) (fun h => ?_) | refine Run.condN (fun h => ?_) (fun h => ?_) | refine Run.condE (fun h => ?_) (fun h => ?_) | refine Run.condF (fun h => ?_) (fun h => ?_) | refine Run.condM (fun h => ?_) (fun h => ?_) | refine Run.condB (fun h => ?_) (fun h => ?_) | refine Run.check1 ?_ | refine Run.call (sin_ok _ _ _) rfl ?_
  all_goals (refine congrArg (fun n => V.one (.int .i64 n)) ?_; simp only [gap, wrap64, *]; (repeat' split) <;> first | omega | simp_all)
theorem name_ok (s : ByteArray) : Ok P 70 [.one (.str s)] [] (.one (.bool (nameOk s))) [] := by
  refine Ok.of_run (F := mk Tryz.f70 0) Tryz.func70 rfl rfl tabOk mixed rfl rfl rfl rfl rfl (Nat.le_of_ble_eq_true rfl) (Nat.le_of_ble_eq_true rfl) (.go 5000 ?_)
  by_cases hs : 1 ≤ (s.size : Int) ∧ (s.size : Int) ≤ 8
  · have loop : ∀ (d : Nat) (i : Int), 0 ≤ i → (s.size : Int) - i = d → allB s d i = nameOk s → Run P (mk Tryz.f70 0) (fun v st => v = .one (.bool (nameOk s)) ∧ st = []) (.loop ⟨[(0, .one (.str s)), (3, .one (.int .i64 i))], [], [.lp [0, 1, 0, 1, 1], .blk 0, .code [1, 1, 1]], none⟩) := by
      intro d
      induction d with
      | zero =>
        intro i h0 hd he
        refine Run.loop ?_
        repeat' (conv => arg 4; whnf); first | refine Run.ret ⟨?_, rfl⟩ | refine Run.condT ?_ | refine Run.condf ?_ | refine Run.condD (fun h => ?_) (fun h => ?_) | refine Run.condN (fun h => ?_) (fun h => ?_) | refine Run.condE (fun h => ?_) (fun h => ?_) | refine Run.condF (fun h => ?_) (fun h => ?_) | refine Run.condM (fun h => ?_) (fun h => ?_) | refine Run.condB (fun h => ?_) (fun h => ?_) | refine Run.check1 ?_ | (exfalso; omega)
        rw [← he]; rfl
      | succ d ih =>
        intro i h0 hd he
        have e : wrap64 (i + 1) = i + 1 := wrap_eq (by omega) (by omega)
        rw [allB_succ] at he
        refine Run.loop ?_
        repeat' (conv => arg 4; whnf); first | refine Run.ret ⟨?_, rfl⟩ | refine Run.condT ?_ | refine Run.condf ?_ | refine Run.condD (fun h => ?_) (fun h => ?_) | refine Run.condN (fun h => ?_) (fun h => ?_) | refine Run.condE (fun h => ?_) (fun h => ?_) | refine Run.condF (fun h => ?_) (fun h => ?_) | refine Run.condM (fun h => ?_) (fun h => ?_) | refine Run.condB (fun h => ?_) (fun h => ?_) | refine Run.check1 ?_ | (exfalso; omega) | refine Run.need1 (⟨h0, ‹_›⟩) ?_ | refine Run.round ⟨[], [], []⟩ (ih _ ?_ ?_ ?_) rfl (by (repeat' (first | exact wkEnv_nil | refine wkEnv_cons rfl ?_ | exact wkSto_nil | refine wkSto_none ?_ | refine wkSto_some rfl ?_)); done) (by (repeat' (first | exact wkEnv_nil | refine wkEnv_cons rfl ?_ | exact wkSto_nil | refine wkSto_none ?_ | refine wkSto_some rfl ?_)); done)
        all_goals first
          | (exfalso; omega)
          | (rw [e]; omega)
          | (have ok : okB (bt s i) = true := by simp only [okB, decide_eq_true_eq]; omega
             rw [e, ← he, ok]; rfl)
          | (have ok : okB (bt s i) = false := by simp only [okB, decide_eq_false_iff_not]; omega
             rw [← he, ok]; rfl)
    repeat' (conv => arg 4; whnf); first | refine Run.ret ⟨?_, rfl⟩ | refine Run.condT ?_ | refine Run.condf ?_ | refine Run.condD (fun h => ?_) (fun h => ?_) | refine Run.condN (fun h => ?_) (fun h => ?_) | refine Run.condE (fun h => ?_) (fun h => ?_) | refine Run.condF (fun h => ?_) (fun h => ?_) | refine Run.condM (fun h => ?_) (fun h => ?_) | refine Run.condB (fun h => ?_) (fun h => ?_) | refine Run.check1 ?_ | refine Run.call (sin_ok _ _ _) rfl ?_ | refine Run.round ⟨[], [], []⟩ (loop s.size 0 ?_ ?_ ?_) rfl (by (repeat' (first | exact wkEnv_nil | refine wkEnv_cons rfl ?_ | exact wkSto_nil | refine wkSto_none ?_ | refine wkSto_some rfl ?_)); done) (by (repeat' (first | exact wkEnv_nil | refine wkEnv_cons rfl ?_ | exact wkSto_nil | refine wkSto_none ?_ | refine wkSto_some rfl ?_)); done)
    all_goals first | omega | (simp only [nameOk]; rw [decide_eq_true (by omega)]; rfl)
  · have : nameOk s = false := by simp only [nameOk]; rw [decide_eq_false (by omega)]; rfl
    rw [this]
    repeat' (conv => arg 4; whnf); first | refine Run.ret ⟨?_, rfl⟩ | refine Run.condT ?_ | refine Run.condf ?_ | refine Run.condD (fun h => ?_) (fun h => ?_) | refine Run.condN (fun h => ?_) (fun h => ?_) | refine Run.condE (fun h => ?_) (fun h => ?_) | refine Run.condF (fun h => ?_) (fun h => ?_) | refine Run.condM (fun h => ?_) (fun h => ?_) | refine Run.condB (fun h => ?_) (fun h => ?_) | refine Run.check1 ?_ | refine Run.call (sin_ok _ _ _) rfl ?_ | (exfalso; omega)
    all_goals rfl
theorem smoveOk_ok (m : Mv) : Ok P 39 [.agg (encMv m)] [] (.one (.bool (mvOk m))) [] := by
  refine Ok.of_run (F := mk Tryz.f39 0) Tryz.func39 rfl rfl tabOk mixed rfl rfl rfl rfl rfl (Nat.le_of_ble_eq_true rfl) (Nat.le_of_ble_eq_true rfl) (.go 5000 ?_)
  repeat' (conv => arg 4; whnf); first | refine Run.ret ⟨?_, rfl⟩ | refine Run.condT ?_ | refine Run.condf ?_ | refine Run.condD (fun h => ?_) (fun h => ?_) | refine Run.condN (fun h => ?_) (fun h => ?_) | refine Run.condE (fun h => ?_) (fun h => ?_) | refine Run.condF (fun h => ?_) (fun h => ?_) | refine Run.condM (fun h => ?_) (fun h => ?_) | refine Run.condB (fun h => ?_) (fun h => ?_) | refine Run.check1 ?_ | refine Run.call (sin_ok _ _ _) rfl ?_ | refine Run.call (name_ok _) rfl ?_
  all_goals (refine vb ?_; rw [mvOk_true]; cases hn : nameOk m.f0 <;> simp_all <;> omega)
theorem moveOk_ok (m : Mv) : Ok P 56 [.agg (encMv m)] [] (.one (.bool (mvOk m))) [] := by
  refine Ok.of_run (F := mk Tryz.f56 0) Tryz.func56 rfl rfl tabOk mixed rfl rfl rfl rfl rfl (Nat.le_of_ble_eq_true rfl) (Nat.le_of_ble_eq_true rfl) (.go 5000 ?_)
  have loop : 1 ≤ m.f0.size ∧ m.f0.size ≤ 8 → 1 ≤ m.f2 ∧ m.f2 ≤ 3 → 0 ≤ m.f3 → m.f3 ≤ m.f4 → m.f4 ≤ 10000 → ∀ (d : Nat) (i : Int), 0 ≤ i → (m.f0.size : Int) - i = d → allB m.f0 d i = allB m.f0 m.f0.size 0 →
      Run P (mk Tryz.f56 0) (fun v st => v = .one (.bool (mvOk m)) ∧ st = []) (.loop ⟨[(1, .one (.ptr (.t 1 0) 0)), (3, .one (.int .i64 i))], [(.t 1 0, some (.cells (encMv m)))], [.lp [0, 1, 0, 1, 1], .blk 0, .code [1, 1, 1]], none⟩) := by
    intro hs h2 h3 h4 h5 d
    have hn : nameOk m.f0 = allB m.f0 m.f0.size 0 := by
      unfold nameOk
      rw [decide_eq_true hs]
      rfl
    induction d with
    | zero =>
      intro i h0 hd he
      have hn : nameOk m.f0 = true := by rw [hn, ← he]; rfl
      refine Run.loop ?_
      repeat' (conv => arg 4; whnf); first | refine Run.ret ⟨?_, rfl⟩ | refine Run.condT ?_ | refine Run.condf ?_ | refine Run.condD (fun h => ?_) (fun h => ?_) | refine Run.condN (fun h => ?_) (fun h => ?_) | refine Run.condE (fun h => ?_) (fun h => ?_) | refine Run.condF (fun h => ?_) (fun h => ?_) | refine Run.condM (fun h => ?_) (fun h => ?_) | refine Run.condB (fun h => ?_) (fun h => ?_) | refine Run.check1 ?_ | refine Run.call (in_ok _ _ _) rfl ?_ | (exfalso; omega)
      all_goals first
        | (exfalso; omega)
        | (refine vb ?_; rw [mvOk_true, hn]; simp <;> omega)
    | succ d ih =>
      intro i h0 hd he
      have e : wrap64 (i + 1) = i + 1 := wrap_eq (by omega) (by omega)
      rw [allB_succ] at he
      refine Run.loop ?_
      repeat' (conv => arg 4; whnf); first | refine Run.ret ⟨?_, rfl⟩ | refine Run.condT ?_ | refine Run.condf ?_ | refine Run.condD (fun h => ?_) (fun h => ?_) | refine Run.condN (fun h => ?_) (fun h => ?_) | refine Run.condE (fun h => ?_) (fun h => ?_) | refine Run.condF (fun h => ?_) (fun h => ?_) | refine Run.condM (fun h => ?_) (fun h => ?_) | refine Run.condB (fun h => ?_) (fun h => ?_) | refine Run.check1 ?_ | refine Run.call (in_ok _ _ _) rfl ?_ | refine Run.need1 (⟨h0, ‹_›⟩) ?_ | refine Run.round ⟨[(.t 1 0, .t 1 0)], [], []⟩ (ih _ ?_ ?_ ?_) rfl (by (repeat' (first | exact wkEnv_nil | refine wkEnv_cons rfl ?_ | exact wkSto_nil | refine wkSto_none ?_ | refine wkSto_some rfl ?_)); done) (by (repeat' (first | exact wkEnv_nil | refine wkEnv_cons rfl ?_ | exact wkSto_nil | refine wkSto_none ?_ | refine wkSto_some rfl ?_)); done) | (exfalso; omega)
      all_goals first
        | (exfalso; omega)
        | (rw [e]; omega)
        | (have ok : okB (bt m.f0 i) = true := by simp only [okB, decide_eq_true_eq]; omega
           rw [e, ← he, ok]; rfl)
        | (have ok : okB (bt m.f0 i) = false := by simp only [okB, decide_eq_false_iff_not]; omega
           have hn : nameOk m.f0 = false := by rw [hn, ← he, ok]; rfl
           unfold mvOk; rw [hn]; rfl)
  repeat' (conv => arg 4; whnf); first | refine Run.ret ⟨?_, rfl⟩ | refine Run.condT ?_ | refine Run.condf ?_ | refine Run.condD (fun h => ?_) (fun h => ?_) | refine Run.condN (fun h => ?_) (fun h => ?_) | refine Run.condE (fun h => ?_) (fun h => ?_) | refine Run.condF (fun h => ?_) (fun h => ?_) | refine Run.condM (fun h => ?_) (fun h => ?_) | refine Run.condB (fun h => ?_) (fun h => ?_) | refine Run.check1 ?_ | refine Run.call (in_ok _ _ _) rfl ?_ | refine Run.round ⟨[(.t 1 0, .t 1 0)], [], []⟩ (loop ?_ ?_ ?_ ?_ ?_ m.f0.size 0 ?_ ?_ ?_) rfl (by (repeat' (first | exact wkEnv_nil | refine wkEnv_cons rfl ?_ | exact wkSto_nil | refine wkSto_none ?_ | refine wkSto_some rfl ?_)); done) (by (repeat' (first | exact wkEnv_nil | refine wkEnv_cons rfl ?_ | exact wkSto_nil | refine wkSto_none ?_ | refine wkSto_some rfl ?_)); done)
  all_goals first
    | omega
    | rfl
    | (refine vb ?_; rw [mvOk_true, nameOk_true]; simp only [Bool.false_eq_true, false_iff]; omega)
    | trace_state
end Go.Proofs.YtlmdbeegmgfpnaaGreatDoor.AM

/- StripMovesOk, the program's and the reference's; no condition. -/
namespace Go.Proofs.YtlmdbeegmgfpnaaGreatDoor.AM
open Go.AM Go.RowKit
set_option linter.unusedVariables false
set_option linter.unusedSimpArgs false
set_option maxRecDepth 100000

theorem movesOk_ok (l : List Mv) : Ok P 111 [.one (.lst .mv l false)] [] (.one (.bool (decide (MovesOk l)))) [] := by
  refine Ok.of_run (F := mk Tryz.f111 0) Tryz.func111 rfl rfl tabOk mixed rfl rfl rfl rfl rfl (Nat.le_of_ble_eq_true rfl) (Nat.le_of_ble_eq_true rfl) (.go 5000 ?_)
  have loop : l.length ≤ 6 → ∀ (d i : Nat) (z : Int), z = i → i + d = l.length → (∀ j, j < i → OkAt l j) → Run P (mk Tryz.f111 0) (fun v st => v = .one (.bool (decide (MovesOk l))) ∧ st = []) (.loop ⟨[(0, .one (.lst .mv l false)), (8, .one (.lst .mv l false)), (9, .one (.int .i64 (l.length : Int))), (10, .one (.int .i64 z))], [], [.lp [0, 1, 0, 1, 1], .blk 0, .code [1, 1, 1]], none⟩) := by
    intro h6 d
    induction d with
    | zero =>
      intro i z hz hd hall
      subst hz
      refine Run.loop ?_
      repeat' (conv => arg 4; whnf); first | refine Run.ret ⟨?_, rfl⟩ | refine Run.condT ?_ | refine Run.condf ?_ | refine Run.condD (fun h => ?_) (fun h => ?_) | refine Run.condN (fun h => ?_) (fun h => ?_) | refine Run.condE (fun h => ?_) (fun h => ?_) | refine Run.condF (fun h => ?_) (fun h => ?_) | refine Run.condM (fun h => ?_) (fun h => ?_) | refine Run.condB (fun h => ?_) (fun h => ?_) | refine Run.check1 ?_ | (exfalso; omega)
      all_goals first
        | (exfalso; omega)
        | (refine vb ?_; simp only [decide_eq_true_eq, true_iff]; exact ⟨h6, fun j hj => hall j (by omega)⟩)
    | succ d ih =>
      intro i z hz hd hall
      subst hz
      have e : wrap64 ((i : Int) + 1) = ((i + 1 : Nat) : Int) := wrap_eq (by omega) (by omega)
      have e0 : 0 < i → wrap64 ((i : Int) - 1) = ((i - 1 : Nat) : Int) := fun h => (wrap_eq (by omega) (by omega)).trans (by omega)
      have no : ¬ OkAt l i → V.one (A.bool false) = V.one (A.bool (decide (MovesOk l))) := fun h => vb (by simp only [Bool.false_eq_true, decide_eq_true_eq, false_iff]; exact fun k => h (k.2 i (by omega)))
      refine Run.loop ?_
      repeat' (conv => arg 4; whnf); first | refine Run.ret ⟨?_, rfl⟩ | refine Run.condT ?_ | refine Run.condf ?_ | refine Run.condD (fun h => ?_) (fun h => ?_) | refine Run.condN (fun h => ?_) (fun h => ?_) | refine Run.condE (fun h => ?_) (fun h => ?_) | refine Run.condF (fun h => ?_) (fun h => ?_) | refine Run.condM (fun h => ?_) (fun h => ?_) | refine Run.condB (fun h => ?_) (fun h => ?_) | refine Run.check1 ?_ | refine Run.call (moveOk_ok _) rfl ?_ | refine Run.need1 (⟨by omega, by omega⟩) ?_ | refine Run.need1 (⟨by rw [e0 (by omega)]; omega, by rw [e0 (by omega)]; omega⟩) ?_ | refine Run.round ⟨[], [], []⟩ (ih (i + 1) _ e (by omega) ?_) rfl (by (repeat' (first | exact wkEnv_nil | refine wkEnv_cons rfl ?_ | exact wkSto_nil | refine wkSto_none ?_ | refine wkSto_some rfl ?_)); done) (by (repeat' (first | exact wkEnv_nil | refine wkEnv_cons rfl ?_ | exact wkSto_nil | refine wkSto_none ?_ | refine wkSto_some rfl ?_)); done) | (exfalso; omega)
      all_goals first
        | (exfalso; omega)
        | (refine no fun k => ?_; have k1 := k.1; rw [← rdM_nat] at k1; simp_all; done)
        | (refine no fun k => ?_; have k2 := k.2 (by omega); rw [← rdM_nat, ← rdM_nat, ← e0 (by omega)] at k2; simp_all [ltN]; done)
        | (intro j hj; rcases Nat.lt_or_ge j i with h1 | h1
           · exact hall j h1
           · obtain rfl : j = i := by omega
             refine ⟨by rw [← rdM_nat]; assumption, fun h0 => ?_⟩
             first | (exfalso; omega) | (rw [← rdM_nat, ← rdM_nat, ← e0 (by omega)]; assumption))
  repeat' (conv => arg 4; whnf); first | refine Run.ret ⟨?_, rfl⟩ | refine Run.condT ?_ | refine Run.condf ?_ | refine Run.condD (fun h => ?_) (fun h => ?_) | refine Run.condN (fun h => ?_) (fun h => ?_) | refine Run.condE (fun h => ?_) (fun h => ?_) | refine Run.condF (fun h => ?_) (fun h => ?_) | refine Run.condM (fun h => ?_) (fun h => ?_) | refine Run.condB (fun h => ?_) (fun h => ?_) | refine Run.check1 ?_ | refine Run.round ⟨[], [], []⟩ (loop ?_ l.length 0 _ rfl ?_ ?_) rfl (by (repeat' (first | exact wkEnv_nil | refine wkEnv_cons rfl ?_ | exact wkSto_nil | refine wkSto_none ?_ | refine wkSto_some rfl ?_)); done) (by (repeat' (first | exact wkEnv_nil | refine wkEnv_cons rfl ?_ | exact wkSto_nil | refine wkSto_none ?_ | refine wkSto_some rfl ?_)); done)
  all_goals first | omega | (refine vb ?_; simp only [Bool.false_eq_true, decide_eq_true_eq, false_iff]; exact fun k => by have := k.1; omega)
theorem smovesOk_ok (l : List Mv) : Ok P 92 [.one (.lst .mv l false)] [] (.one (.bool (decide (MovesOk l)))) [] := by
  refine Ok.of_run (F := mk Tryz.f92 0) Tryz.func92 rfl rfl tabOk mixed rfl rfl rfl rfl rfl (Nat.le_of_ble_eq_true rfl) (Nat.le_of_ble_eq_true rfl) (.go 5000 ?_)
  have loop : l.length ≤ 6 → ∀ (d i : Nat) (z : Int), z = i → i + d = l.length → (∀ j, j < i → OkAt l j) → Run P (mk Tryz.f92 0) (fun v st => v = .one (.bool (decide (MovesOk l))) ∧ st = []) (.loop ⟨[(0, .one (.lst .mv l false)), (3, .one (.int .i64 z))], [], [.lp [0, 1, 0, 1, 1], .blk 0, .code [1, 1, 1]], none⟩) := by
    intro h6 d
    induction d with
    | zero =>
      intro i z hz hd hall
      subst hz
      refine Run.loop ?_
      repeat' (conv => arg 4; whnf); first | refine Run.ret ⟨?_, rfl⟩ | refine Run.condT ?_ | refine Run.condf ?_ | refine Run.condD (fun h => ?_) (fun h => ?_) | refine Run.condN (fun h => ?_) (fun h => ?_) | refine Run.condE (fun h => ?_) (fun h => ?_) | refine Run.condF (fun h => ?_) (fun h => ?_) | refine Run.condM (fun h => ?_) (fun h => ?_) | refine Run.condB (fun h => ?_) (fun h => ?_) | refine Run.check1 ?_ | (exfalso; omega)
      all_goals first
        | (exfalso; omega)
        | (refine vb ?_; simp only [decide_eq_true_eq, true_iff]; exact ⟨h6, fun j hj => hall j (by omega)⟩)
    | succ d ih =>
      intro i z hz hd hall
      subst hz
      have e : wrap64 ((i : Int) + 1) = ((i + 1 : Nat) : Int) := wrap_eq (by omega) (by omega)
      have e0 : 0 < i → wrap64 ((i : Int) - 1) = ((i - 1 : Nat) : Int) := fun h => (wrap_eq (by omega) (by omega)).trans (by omega)
      have no : ¬ OkAt l i → V.one (A.bool false) = V.one (A.bool (decide (MovesOk l))) := fun h => vb (by simp only [Bool.false_eq_true, decide_eq_true_eq, false_iff]; exact fun k => h (k.2 i (by omega)))
      refine Run.loop ?_
      repeat' (conv => arg 4; whnf); first | refine Run.ret ⟨?_, rfl⟩ | refine Run.condT ?_ | refine Run.condf ?_ | refine Run.condD (fun h => ?_) (fun h => ?_) | refine Run.condN (fun h => ?_) (fun h => ?_) | refine Run.condE (fun h => ?_) (fun h => ?_) | refine Run.condF (fun h => ?_) (fun h => ?_) | refine Run.condM (fun h => ?_) (fun h => ?_) | refine Run.condB (fun h => ?_) (fun h => ?_) | refine Run.check1 ?_ | refine Run.call (smoveOk_ok _) rfl ?_ | refine Run.need1 (⟨by omega, by omega⟩) ?_ | refine Run.need1 (⟨⟨by rw [e0 (by omega)]; omega, by rw [e0 (by omega)]; omega⟩, by omega, by omega⟩) ?_ | refine Run.need1 (⟨by rw [e0 (by omega)]; omega, by rw [e0 (by omega)]; omega⟩) ?_ | refine Run.round ⟨[], [], []⟩ (ih (i + 1) _ e (by omega) ?_) rfl (by (repeat' (first | exact wkEnv_nil | refine wkEnv_cons rfl ?_ | exact wkSto_nil | refine wkSto_none ?_ | refine wkSto_some rfl ?_)); done) (by (repeat' (first | exact wkEnv_nil | refine wkEnv_cons rfl ?_ | exact wkSto_nil | refine wkSto_none ?_ | refine wkSto_some rfl ?_)); done) | (exfalso; omega)
      all_goals first
        | (exfalso; omega)
        | (refine no fun k => ?_; have k1 := k.1; rw [← rdM_nat] at k1; simp_all; done)
        | (refine no fun k => ?_; have k2 := k.2 (by omega); rw [← rdM_nat, ← rdM_nat, ← e0 (by omega)] at k2; simp_all [ltN]; done)
        | (intro j hj; rcases Nat.lt_or_ge j i with h1 | h1
           · exact hall j h1
           · obtain rfl : j = i := by omega
             refine ⟨by rw [← rdM_nat]; assumption, fun h0 => ?_⟩
             first | (exfalso; omega) | (rw [← rdM_nat, ← rdM_nat, ← e0 (by omega)]; assumption))
        | trace_state
  repeat' (conv => arg 4; whnf); first | refine Run.ret ⟨?_, rfl⟩ | refine Run.condT ?_ | refine Run.condf ?_ | refine Run.condD (fun h => ?_) (fun h => ?_) | refine Run.condN (fun h => ?_) (fun h => ?_) | refine Run.condE (fun h => ?_) (fun h => ?_) | refine Run.condF (fun h => ?_) (fun h => ?_) | refine Run.condM (fun h => ?_) (fun h => ?_) | refine Run.condB (fun h => ?_) (fun h => ?_) | refine Run.check1 ?_ | refine Run.round ⟨[], [], []⟩ (loop ?_ l.length 0 _ rfl ?_ ?_) rfl (by (repeat' (first | exact wkEnv_nil | refine wkEnv_cons rfl ?_ | exact wkSto_nil | refine wkSto_none ?_ | refine wkSto_some rfl ?_)); done) (by (repeat' (first | exact wkEnv_nil | refine wkEnv_cons rfl ?_ | exact wkSto_nil | refine wkSto_none ?_ | refine wkSto_some rfl ?_)); done)
  all_goals first | omega | (refine vb ?_; simp only [Bool.false_eq_true, decide_eq_true_eq, false_iff]; exact fun k => by have := k.1; omega) | trace_state
end Go.Proofs.YtlmdbeegmgfpnaaGreatDoor.AM

/- StripFits, the program's and the reference's; condition: the ticks are of 64 bits. -/
namespace Go.Proofs.YtlmdbeegmgfpnaaGreatDoor.AM
open Go.AM Go.RowKit
set_option linter.unusedVariables false
set_option linter.unusedSimpArgs false
set_option maxRecDepth 100000

theorem fits_ok (l : List Mv) (t : List Int) (hw : TkWf t) : Ok P 82 [.one (.lst .mv l false), .one (.lst (.int .i64) t false)] [] (.one (.bool (decide (Fits l t)))) [] := by
  refine Ok.of_run (F := mk Tryz.f82 0) Tryz.func82 rfl rfl tabOk mixed rfl rfl rfl rfl rfl (Nat.le_of_ble_eq_true rfl) (Nat.le_of_ble_eq_true rfl) (.go 5000 ?_)
  have outer : MovesOk l → t.length = l.length → ∀ (d i : Nat) (z : Int), z = i → i + d = l.length → (∀ j, j < i → FitsAt l t j) → Run P (mk Tryz.f82 0) (fun v st => v = .one (.bool (decide (Fits l t))) ∧ st = []) (.loop ⟨[(0, .one (.lst .mv l false)), (1, .one (.lst (.int .i64) t false)), (19, .one (.lst .mv l false)), (20, .one (.int .i64 (l.length : Int))), (21, .one (.int .i64 z))], [], [.lp [0, 1, 0, 1, 1], .blk 0, .code [1, 1, 1]], none⟩) := by
    intro hm hlen d
    have h6 := hm.1
    induction d with
    | zero =>
      intro i z hz hd hall
      subst hz
      refine Run.loop ?_
      repeat' (conv => arg 4; whnf); first | refine Run.ret ⟨?_, rfl⟩ | refine Run.condT ?_ | refine Run.condf ?_ | refine Run.condD (fun h => ?_) (fun h => ?_) | refine Run.condN (fun h => ?_) (fun h => ?_) | refine Run.condE (fun h => ?_) (fun h => ?_) | refine Run.condF (fun h => ?_) (fun h => ?_) | refine Run.condM (fun h => ?_) (fun h => ?_) | refine Run.condB (fun h => ?_) (fun h => ?_) | refine Run.check1 ?_ | (exfalso; omega)
      all_goals first
        | (exfalso; omega)
        | exact fits_yes ⟨hm, hlen, fun j hj => hall j (by omega)⟩
    | succ d ih =>
      intro i z hz hd hall
      subst hz
      have e : wrap64 ((i : Int) + 1) = ((i + 1 : Nat) : Int) := wrap_eq (by omega) (by omega)
      have no : ¬ FitsAt l t i → V.one (A.bool false) = V.one (A.bool (decide (Fits l t))) := fun h => fits_no fun k => h (k.2.2 i (by omega))
      have inner : InR l t i → ∀ (c k : Nat) (z : Int), z = k → k + c = l.length → (∀ j, j < k → j ≠ i → Ap l t i j) → Run P (mk Tryz.f82 0) (fun v st => v = .one (.bool (decide (Fits l t))) ∧ st = []) (.loop ⟨[(0, .one (.lst .mv l false)), (1, .one (.lst (.int .i64) t false)), (5, .one (.int .i64 (i : Int))), (6, .one (.ptr (.t 6 0) 0)), (19, .one (.lst .mv l false)), (20, .one (.int .i64 (l.length : Int))), (21, .one (.int .i64 (i : Int))), (50, .one (.lst .mv l false)), (51, .one (.int .i64 (l.length : Int))), (52, .one (.int .i64 z))], [(.t 6 0, some (.cells (encMv (rdM l i))))], [.lp [0, 1, 1, 1, 0, 0, 1, 1, 0, 0, 1, 0, 1, 1], .blk 2, .blk 1, .code [1, 1, 1, 0, 0, 1, 0, 1, 1], .lp [0, 1, 0, 1, 1], .blk 0, .code [1, 1, 1]], none⟩) := by
        intro hin c
        have hr := inR_range hm (by omega) hin
        induction c with
        | zero =>
          intro k z hz hc hap
          subst hz
          refine Run.loop ?_
          repeat' (conv => arg 4; whnf); first | refine Run.ret ⟨?_, rfl⟩ | refine Run.condT ?_ | refine Run.condf ?_ | refine Run.condD (fun h => ?_) (fun h => ?_) | refine Run.condN (fun h => ?_) (fun h => ?_) | refine Run.condE (fun h => ?_) (fun h => ?_) | refine Run.condF (fun h => ?_) (fun h => ?_) | refine Run.condM (fun h => ?_) (fun h => ?_) | refine Run.condB (fun h => ?_) (fun h => ?_) | refine Run.check1 ?_ | (exfalso; omega) | refine Run.round ⟨[], [], []⟩ (ih (i + 1) _ e (by omega) ?_) rfl (by (repeat' (first | exact wkEnv_nil | refine wkEnv_cons rfl ?_ | exact wkSto_nil | refine wkSto_none ?_ | refine wkSto_some rfl ?_)); done) (by (repeat' (first | exact wkEnv_nil | refine wkEnv_cons rfl ?_ | exact wkSto_nil | refine wkSto_none ?_ | refine wkSto_some rfl ?_)); done)
          all_goals first
            | (exfalso; omega)
            | (intro j hj; rcases Nat.lt_or_ge j i with h1 | h1
               · exact hall j h1
               · obtain rfl : j = i := by omega
                 exact ⟨hin, fun q hq => hap q (by omega)⟩)
        | succ c ihc =>
          intro k z hz hc hap
          subst hz
          have e2 : wrap64 ((k : Int) + 1) = ((k + 1 : Nat) : Int) := wrap_eq (by omega) (by omega)
          have hA : Ap l t i k ↔ (rd t i ≠ rd t k ∧ (rd t i < rd t k → gap (rdM l i) (rdM l k) ≤ wrap64 (rd t k - rd t i))) := by
            have hk := hw k (by omega)
            unfold W64 at hk
            simp only [rdM_nat, rd_nat, Ap]
            refine and_congr_right fun _ => imp_congr_right fun h => ?_
            rw [wrap_eq (by omega) (by omega)]
          refine Run.loop ?_
          repeat' (conv => arg 4; whnf); first | refine Run.ret ⟨?_, rfl⟩ | refine Run.condT ?_ | refine Run.condf ?_ | refine Run.condD (fun h => ?_) (fun h => ?_) | refine Run.condN (fun h => ?_) (fun h => ?_) | refine Run.condE (fun h => ?_) (fun h => ?_) | refine Run.condF (fun h => ?_) (fun h => ?_) | refine Run.condM (fun h => ?_) (fun h => ?_) | refine Run.condB (fun h => ?_) (fun h => ?_) | refine Run.check1 ?_ | refine Run.call (gap_ok _ _) rfl ?_ | refine Run.need1 (by simp only [allP, true_and, and_true]; omega) ?_ | refine Run.round ⟨[(.t 6 0, .t 6 0)], [], []⟩ (ihc (k + 1) _ e2 (by omega) ?_) rfl (by (repeat' (first | exact wkEnv_nil | refine wkEnv_cons rfl ?_ | exact wkSto_nil | refine wkSto_none ?_ | refine wkSto_some rfl ?_)); done) (by (repeat' (first | exact wkEnv_nil | refine wkEnv_cons rfl ?_ | exact wkSto_nil | refine wkSto_none ?_ | refine wkSto_some rfl ?_)); done) | (exfalso; omega)
          all_goals first
            | (exfalso; omega)
            | (refine no fun q => ?_; have a := hA.1 (q.2 k (by omega) (by omega)); omega)
            | (intro j hj hne; rcases Nat.lt_or_ge j k with h1 | h1
               · exact hap j h1 hne
               · obtain rfl : j = k := by omega
                 exact hA.2 (by omega))
            | (intro j hj hne; exact hap j (by omega) hne)
            | trace_state
      have hI : InR l t i ↔ (((rdM l i).f3 ≤ rd t i ∧ rd t i ≤ (rdM l i).f4) ∧ (0 ≤ (rdM l i).f5 → rd t i = (rdM l i).f5)) := by
        simp only [rdM_nat, rd_nat, InR]
      refine Run.loop ?_
      repeat' (conv => arg 4; whnf); first | refine Run.ret ⟨?_, rfl⟩ | refine Run.condT ?_ | refine Run.condf ?_ | refine Run.condD (fun h => ?_) (fun h => ?_) | refine Run.condN (fun h => ?_) (fun h => ?_) | refine Run.condE (fun h => ?_) (fun h => ?_) | refine Run.condF (fun h => ?_) (fun h => ?_) | refine Run.condM (fun h => ?_) (fun h => ?_) | refine Run.condB (fun h => ?_) (fun h => ?_) | refine Run.check1 ?_ | refine Run.call (in_ok _ _ _) rfl ?_ | refine Run.need1 (by simp only [allP, true_and, and_true]; omega) ?_ | refine Run.round ⟨[(.t 6 0, .t 6 0)], [], []⟩ (inner ?_ l.length 0 _ rfl ?_ ?_) rfl (by (repeat' (first | exact wkEnv_nil | refine wkEnv_cons rfl ?_ | exact wkSto_nil | refine wkSto_none ?_ | refine wkSto_some rfl ?_)); done) (by (repeat' (first | exact wkEnv_nil | refine wkEnv_cons rfl ?_ | exact wkSto_nil | refine wkSto_none ?_ | refine wkSto_some rfl ?_)); done) | (exfalso; omega)
      all_goals first
        | (exfalso; omega)
        | omega
        | (refine no fun q => ?_; have a := hI.1 q.1; omega)
        | exact hI.2 (by omega)
        | trace_state
  repeat' (conv => arg 4; whnf); first | refine Run.ret ⟨?_, rfl⟩ | refine Run.condT ?_ | refine Run.condf ?_ | refine Run.condD (fun h => ?_) (fun h => ?_) | refine Run.condN (fun h => ?_) (fun h => ?_) | refine Run.condE (fun h => ?_) (fun h => ?_) | refine Run.condF (fun h => ?_) (fun h => ?_) | refine Run.condM (fun h => ?_) (fun h => ?_) | refine Run.condB (fun h => ?_) (fun h => ?_) | refine Run.check1 ?_ | refine Run.call (movesOk_ok _) rfl ?_ | refine Run.round ⟨[], [], []⟩ (outer ?_ ?_ l.length 0 _ rfl ?_ ?_) rfl (by (repeat' (first | exact wkEnv_nil | refine wkEnv_cons rfl ?_ | exact wkSto_nil | refine wkSto_none ?_ | refine wkSto_some rfl ?_)); done) (by (repeat' (first | exact wkEnv_nil | refine wkEnv_cons rfl ?_ | exact wkSto_nil | refine wkSto_none ?_ | refine wkSto_some rfl ?_)); done)
  all_goals first
    | omega
    | assumption
    | (refine fits_no fun k => ?_; have := k.1; have := k.2.1; simp_all; done)
    | trace_state
end Go.Proofs.YtlmdbeegmgfpnaaGreatDoor.AM

/- Numbers in decimals, on both sides; condition: bounds. -/
namespace Go.Proofs.YtlmdbeegmgfpnaaGreatDoor.AM
open Go.AM Go.RowKit
set_option linter.unusedVariables false
set_option linter.unusedSimpArgs false
set_option maxRecDepth 100000

def W60 (n : Int) : Prop := -1000000000000000000 ≤ n ∧ n ≤ 1000000000000000000
theorem w64_60 {n : Int} (h : W60 n) : W64 n := by unfold W60 at h; unfold W64; omega
theorem w_quo {n : Int} (h : 0 ≤ n ∧ n ≤ 1000000000000000000) : wrap64 (n.tdiv 10) = n.tdiv 10 ∧ 0 ≤ n.tdiv 10 ∧ (10 ≤ n → n.tdiv 10 < n) ∧ n.tdiv 10 ≤ 1000000000000000000 := by
  obtain ⟨u, rfl⟩ := Int.eq_ofNat_of_zero_le h.1
  rw [show (u : Int).tdiv 10 = ((u / 10 : Nat) : Int) from rfl]
  exact ⟨wrap_eq (by omega) (by omega), by omega, by omega, by omega⟩
theorem w_dig {k : Int} (h : 0 ≤ k ∧ k < 10) : IntKind.u8.wrap (wrap64 (48 + k)) = 48 + k := by
  rw [wrap_eq (by omega) (by omega)]
  show (48 + k) % 2 ^ 8 = 48 + k
  omega
theorem sdec_ok : ∀ (u : Nat) (n : Int), n = u → n ≤ 1000000000000000000 → Ok P 17 [.one (.int .i64 n)] [] (.one (.str (decM n))) [] := by
  intro u
  induction u using Nat.strongRecOn with
  | _ u ih =>
    intro n hu hn
    by_cases h10 : n < 10
    · have e := Fact.mk (decM_digit (n := n) ⟨by omega, h10⟩)
      have e2 := Fact.mk (w_dig (k := n) ⟨by omega, h10⟩)
      refine Ok.of_run (F := mk Tryz.f17 0) Tryz.func17 rfl rfl tabOk mixed rfl rfl rfl rfl rfl (Nat.le_of_ble_eq_true rfl) (Nat.le_of_ble_eq_true rfl) (.go 5000 ?_)
      repeat' (conv => arg 4; whnf); first | refine Run.ret ⟨?_, rfl⟩ | refine Run.condT ?_ | refine Run.condf ?_ | refine Run.condD (fun h => ?_) (fun h => ?_) | refine Run.condN (fun h => ?_) (fun h => ?_) | refine Run.condE (fun h => ?_) (fun h => ?_) | refine Run.condF (fun h => ?_) (fun h => ?_) | refine Run.condM (fun h => ?_) (fun h => ?_) | refine Run.condB (fun h => ?_) (fun h => ?_) | refine Run.check1 ?_ | (exfalso; omega) | refine Run.need1 (by simp only [allP, true_and, and_true]; omega) ?_ | (refine Run.ret ⟨?_, rfl⟩)
      all_goals first | (rw [e2.h, e.h]) | trace_state
    · obtain ⟨q1, q2, q3, q4⟩ := w_quo (n := n) ⟨by omega, hn⟩
      have e1 := Fact.mk q1
      have e := Fact.mk (decM_step (n := n) (by omega))
      have hr := ih (n.tdiv 10).toNat (by omega) (wrap64 (n.tdiv 10)) (by rw [q1]; omega) (by rw [q1]; exact q4)
      have hsz := decM_size (n := wrap64 (n.tdiv 10)) (by rw [q1]; unfold W64; omega)
      have hm : 0 ≤ n.tmod 10 ∧ n.tmod 10 < 10 := by
        obtain ⟨u', rfl⟩ := Int.eq_ofNat_of_zero_le (show 0 ≤ n by omega)
        rw [show (u' : Int).tmod 10 = ((u' % 10 : Nat) : Int) from rfl]
        omega
      have e2 := Fact.mk (w_dig hm)
      have hob : ∀ x : Int, (ofBytes [x]).size = 1 := fun x => rfl
      clear ih q1 q2 q3 q4 hu
      refine Ok.of_run (F := mk Tryz.f17 0) Tryz.func17 rfl rfl tabOk mixed rfl rfl rfl rfl rfl (Nat.le_of_ble_eq_true rfl) (Nat.le_of_ble_eq_true rfl) (.go 5000 ?_)
      repeat' (conv => arg 4; whnf); first | refine Run.ret ⟨?_, rfl⟩ | refine Run.condT ?_ | refine Run.condf ?_ | refine Run.condD (fun h => ?_) (fun h => ?_) | refine Run.condN (fun h => ?_) (fun h => ?_) | refine Run.condE (fun h => ?_) (fun h => ?_) | refine Run.condF (fun h => ?_) (fun h => ?_) | refine Run.condM (fun h => ?_) (fun h => ?_) | refine Run.condB (fun h => ?_) (fun h => ?_) | refine Run.check1 ?_ | refine Run.call (hr) rfl ?_ | (exfalso; omega) | refine Run.need1 (by simp only [allP, true_and, and_true, hob]; omega) ?_ | (refine Run.ret ⟨?_, rfl⟩)
      all_goals first | (exfalso; omega) | (rw [e2.h, e1.h, e.h]) | trace_state
theorem sdecA_ok (n : Int) (hn : W60 n) : Ok P 17 [.one (.int .i64 n)] [] (.one (.str (decM n))) [] := by
  unfold W60 at hn
  rcases Int.lt_or_le n 0 with h0 | h0
  · have e1 := Fact.mk (wrap_eq (x := 0 - n) (by omega) (by omega))
    have e := Fact.mk (decM_neg h0)
    have hr := sdec_ok (0 - n).toNat (wrap64 (0 - n)) (by rw [e1.h]; omega) (by rw [e1.h]; omega)
    have hsz := decM_size (n := wrap64 (0 - n)) (by rw [e1.h]; unfold W64; omega)
    have hob : (⟨#[45]⟩ : ByteArray).size = 1 := rfl
    refine Ok.of_run (F := mk Tryz.f17 0) Tryz.func17 rfl rfl tabOk mixed rfl rfl rfl rfl rfl (Nat.le_of_ble_eq_true rfl) (Nat.le_of_ble_eq_true rfl) (.go 5000 ?_)
    repeat' (conv => arg 4; whnf); first | refine Run.ret ⟨?_, rfl⟩ | refine Run.condT ?_ | refine Run.condf ?_ | refine Run.condD (fun h => ?_) (fun h => ?_) | refine Run.condN (fun h => ?_) (fun h => ?_) | refine Run.condE (fun h => ?_) (fun h => ?_) | refine Run.condF (fun h => ?_) (fun h => ?_) | refine Run.condM (fun h => ?_) (fun h => ?_) | refine Run.condB (fun h => ?_) (fun h => ?_) | refine Run.check1 ?_ | refine Run.call (hr) rfl ?_ | (exfalso; omega) | refine Run.need1 (by simp only [allP, true_and, and_true, hob]; omega) ?_ | (refine Run.ret ⟨?_, rfl⟩)
    all_goals first | (exfalso; omega) | (rw [e1.h, e.h]) | trace_state
  · exact sdec_ok n.toNat n (by omega) (by omega)
theorem snum_ok (s : ByteArray) : Ok P 36 [.one (.str s)] [] (.one (.int .i64 (numI s))) [] := by
  refine Ok.of_run (F := mk Tryz.f36 0) Tryz.func36 rfl rfl tabOk mixed rfl rfl rfl rfl rfl (Nat.le_of_ble_eq_true rfl) (Nat.le_of_ble_eq_true rfl) (.go 5000 ?_)
  by_cases hc : numC s
  · have hc1 := hc
    obtain ⟨c1, c2, c3⟩ := hc1
    have loop : ∀ (d i n : Nat) (z y : Int), z = i → y = n → i + d = s.size → NumInv s i n → Run P (mk Tryz.f36 0) (fun v st => v = .one (.int .i64 (numI s)) ∧ st = []) (.loop ⟨[(0, .one (.str s)), (3, .one (.int .i64 y)), (4, .one (.int .i64 z))], [], [.lp [0, 1, 0, 1, 1, 1], .blk 0, .code [1, 1, 1, 1]], none⟩) := by
      intro d
      induction d with
      | zero =>
        intro i n z y hz hy hd hv
        subst hz hy
        obtain rfl : i = s.size := by omega
        rw [numI_end hc hv]
        refine Run.loop ?_
        repeat' (conv => arg 4; whnf); first | refine Run.ret ⟨?_, rfl⟩ | refine Run.condT ?_ | refine Run.condf ?_ | refine Run.condD (fun h => ?_) (fun h => ?_) | refine Run.condN (fun h => ?_) (fun h => ?_) | refine Run.condE (fun h => ?_) (fun h => ?_) | refine Run.condF (fun h => ?_) (fun h => ?_) | refine Run.condM (fun h => ?_) (fun h => ?_) | refine Run.condB (fun h => ?_) (fun h => ?_) | refine Run.check1 ?_ | (exfalso; omega)
        all_goals first | rfl | (exfalso; omega) | trace_state
      | succ d ih =>
        intro i n z y hz hy hd hv
        subst hz hy
        have hi : i < s.size := by omega
        have e := fs (i := i) (by omega)
        have hlt := numInv_lt hv c2
        have hb := bt_rng s (i : Int)
        have hbad := numI_bad (s := s) hi
        have hst := numInv_step hv hi
        have e3 : Fact (wrap64 (wrap64 (wrap64 ((n : Int) * 10) + wrap64 (bt s (i : Int))) - 48) = ((n * 10 + (bt s (i : Int) - 48).toNat : Nat) : Int) ∨ bt s (i : Int) < 48) := ⟨by
          rcases Int.lt_or_le (bt s (i : Int)) 48 with h | h
          · exact .inr h
          · left
            rw [wrap_eq (x := (n : Int) * 10) (by omega) (by omega), wrap_eq (x := bt s (i : Int)) (by omega) (by omega), wrap_eq (x := (n : Int) * 10 + bt s (i : Int)) (by omega) (by omega)]
            exact (wrap_eq (by omega) (by omega)).trans (by omega)⟩
        refine Run.loop ?_
        repeat' (conv => arg 4; whnf); first | refine Run.ret ⟨?_, rfl⟩ | refine Run.condT ?_ | refine Run.condf ?_ | refine Run.condD (fun h => ?_) (fun h => ?_) | refine Run.condN (fun h => ?_) (fun h => ?_) | refine Run.condE (fun h => ?_) (fun h => ?_) | refine Run.condF (fun h => ?_) (fun h => ?_) | refine Run.condM (fun h => ?_) (fun h => ?_) | refine Run.condB (fun h => ?_) (fun h => ?_) | refine Run.check1 ?_ | refine Run.need1 (by simp only [allP, true_and, and_true]; omega) ?_ | refine Run.round ⟨[], [], []⟩ (ih (i + 1) (n * 10 + (bt s (i : Int) - 48).toNat) _ _ e.h (e3.h.resolve_right (by omega)) (by omega) (hst (by omega) (by omega))) rfl (by (repeat' (first | exact wkEnv_nil | refine wkEnv_cons rfl ?_ | exact wkSto_nil | refine wkSto_none ?_ | refine wkSto_some rfl ?_)); done) (by (repeat' (first | exact wkEnv_nil | refine wkEnv_cons rfl ?_ | exact wkSto_nil | refine wkSto_none ?_ | refine wkSto_some rfl ?_)); done) | (exfalso; omega)
        all_goals first | (exfalso; omega) | (rw [hbad (by omega)]) | trace_state
    repeat' (conv => arg 4; whnf); first | refine Run.ret ⟨?_, rfl⟩ | refine Run.condT ?_ | refine Run.condf ?_ | refine Run.condD (fun h => ?_) (fun h => ?_) | refine Run.condN (fun h => ?_) (fun h => ?_) | refine Run.condE (fun h => ?_) (fun h => ?_) | refine Run.condF (fun h => ?_) (fun h => ?_) | refine Run.condM (fun h => ?_) (fun h => ?_) | refine Run.condB (fun h => ?_) (fun h => ?_) | refine Run.check1 ?_ | refine Run.call (sin_ok _ _ _) rfl ?_ | refine Run.need1 (by simp only [allP, true_and, and_true]; omega) ?_ | refine Run.round ⟨[], [], []⟩ (loop s.size 0 0 _ _ rfl rfl (by omega) (numInv_zero s)) rfl (by (repeat' (first | exact wkEnv_nil | refine wkEnv_cons rfl ?_ | exact wkSto_nil | refine wkSto_none ?_ | refine wkSto_some rfl ?_)); done) (by (repeat' (first | exact wkEnv_nil | refine wkEnv_cons rfl ?_ | exact wkSto_nil | refine wkSto_none ?_ | refine wkSto_some rfl ?_)); done) | (exfalso; omega)
    all_goals first | rfl | (exfalso; omega) | trace_state
  · rw [numI_no hc]
    unfold numC at hc
    repeat' (conv => arg 4; whnf); first | refine Run.ret ⟨?_, rfl⟩ | refine Run.condT ?_ | refine Run.condf ?_ | refine Run.condD (fun h => ?_) (fun h => ?_) | refine Run.condN (fun h => ?_) (fun h => ?_) | refine Run.condE (fun h => ?_) (fun h => ?_) | refine Run.condF (fun h => ?_) (fun h => ?_) | refine Run.condM (fun h => ?_) (fun h => ?_) | refine Run.condB (fun h => ?_) (fun h => ?_) | refine Run.check1 ?_ | refine Run.call (sin_ok _ _ _) rfl ?_ | refine Run.need1 (by simp only [allP, true_and, and_true]; omega) ?_ | (exfalso; omega)
    all_goals first | rfl | (exfalso; omega) | trace_state
theorem snums_ok (ws : List ByteArray) (hl : ws.length ≤ 1073741824) : Ok P 19 [.one (.lst .str ws false)] [] (.tup [.one (.own (.k 0)), .one (.bool (numsM ws).2)]) [some (.row (.int .i64) (numsM ws).1)] := by
  refine Ok.of_run (F := mk Tryz.f19 0) Tryz.func19 rfl rfl tabOk mixed rfl rfl rfl rfl rfl (Nat.le_of_ble_eq_true rfl) (Nat.le_of_ble_eq_true rfl) (.go 5000 ?_)
  have loop : ∀ (d i : Nat) (z : Int) (o : List Int), z = i → i + d = ws.length → o.length ≤ i → o ++ (numsM (ws.drop i)).1 = (numsM ws).1 → (numsM (ws.drop i)).2 = (numsM ws).2 → Run P (mk Tryz.f19 0) (fun v st => v = .tup [.one (.own (.k 0)), .one (.bool (numsM ws).2)] ∧ st = [some (.row (.int .i64) (numsM ws).1)]) (.loop ⟨[(0, .one (.lst .str ws false)), (4, .one (.own (.t 1000 0))), (5, .one (.int .i64 z))], [(.t 1000 0, some (.row (.int .i64) o))], [.lp [0, 1, 0, 1, 1], .blk 0, .code [1, 1, 1]], none⟩) := by
    intro d
    induction d with
    | zero =>
      intro i z o hz hd ho h1 h2
      subst hz
      rw [List.drop_of_length_le (by omega)] at h1 h2
      have h1 : o = (numsM ws).1 := by rw [← h1]; exact (List.append_nil _).symm
      subst h1
      rw [← h2]
      refine Run.loop ?_
      repeat' (conv => arg 4; whnf); first | refine Run.ret ⟨?_, rfl⟩ | refine Run.condT ?_ | refine Run.condf ?_ | refine Run.condD (fun h => ?_) (fun h => ?_) | refine Run.condN (fun h => ?_) (fun h => ?_) | refine Run.condE (fun h => ?_) (fun h => ?_) | refine Run.condF (fun h => ?_) (fun h => ?_) | refine Run.condM (fun h => ?_) (fun h => ?_) | refine Run.condB (fun h => ?_) (fun h => ?_) | refine Run.check1 ?_ | (exfalso; omega)
      all_goals first | rfl | (exfalso; omega) | trace_state
    | succ d ih =>
      intro i z o hz hd ho h1 h2
      subst hz
      have hi : i < ws.length := by omega
      have e := fs (i := i) (by omega)
      have hr : rdS ws (i : Int) = ws.getD i ByteArray.empty := by unfold rdS; rw [Int.toNat_natCast]
      rw [numsM_at hi, ← hr] at h1 h2
      have hsn := snum_ok (rdS ws (i : Int))
      generalize numI (rdS ws (i : Int)) = n at *
      rcases Int.lt_or_le n 0 with hn | hn
      · rw [if_pos hn] at h1 h2
        have h1 : o = (numsM ws).1 := by rw [← h1]; exact (List.append_nil _).symm
        subst h1
        rw [← h2]
        refine Run.loop ?_
        repeat' (conv => arg 4; whnf); first | refine Run.ret ⟨?_, rfl⟩ | refine Run.condT ?_ | refine Run.condf ?_ | refine Run.condD (fun h => ?_) (fun h => ?_) | refine Run.condN (fun h => ?_) (fun h => ?_) | refine Run.condE (fun h => ?_) (fun h => ?_) | refine Run.condF (fun h => ?_) (fun h => ?_) | refine Run.condM (fun h => ?_) (fun h => ?_) | refine Run.condB (fun h => ?_) (fun h => ?_) | refine Run.check1 ?_ | refine Run.call (hsn) rfl ?_ | refine Run.need1 (by simp only [allP, true_and, and_true]; omega) ?_ | (exfalso; omega)
        all_goals first | rfl | (exfalso; omega) | trace_state
      · rw [if_neg (by omega)] at h1 h2
        refine Run.loop ?_
        repeat' (conv => arg 4; whnf); first | refine Run.ret ⟨?_, rfl⟩ | refine Run.condT ?_ | refine Run.condf ?_ | refine Run.condD (fun h => ?_) (fun h => ?_) | refine Run.condN (fun h => ?_) (fun h => ?_) | refine Run.condE (fun h => ?_) (fun h => ?_) | refine Run.condF (fun h => ?_) (fun h => ?_) | refine Run.condM (fun h => ?_) (fun h => ?_) | refine Run.condB (fun h => ?_) (fun h => ?_) | refine Run.check1 ?_ | refine Run.call (hsn) rfl ?_ | refine Run.need1 (by simp only [allP, true_and, and_true]; omega) ?_ | refine Run.need1 (by simp only [allP, true_and, and_true, List.length_cons, List.length_nil]; omega) ?_ | refine Run.round ⟨[(.t 25 0, .t 1000 0)], [], []⟩ (ih (i + 1) _ _ e.h (by omega) ?_ ?_ h2) rfl (by (repeat' (first | exact wkEnv_nil | refine wkEnv_cons rfl ?_ | exact wkSto_nil | refine wkSto_none ?_ | refine wkSto_some rfl ?_)); done) (by (repeat' (first | exact wkEnv_nil | refine wkEnv_cons rfl ?_ | exact wkSto_nil | refine wkSto_none ?_ | refine wkSto_some rfl ?_)); done) | (exfalso; omega)
        all_goals first | (exfalso; omega) | (rw [List.length_append, List.length_cons, List.length_nil]; omega) | (rw [List.append_assoc]; exact h1) | trace_state
  repeat' (conv => arg 4; whnf); first | refine Run.ret ⟨?_, rfl⟩ | refine Run.condT ?_ | refine Run.condf ?_ | refine Run.condD (fun h => ?_) (fun h => ?_) | refine Run.condN (fun h => ?_) (fun h => ?_) | refine Run.condE (fun h => ?_) (fun h => ?_) | refine Run.condF (fun h => ?_) (fun h => ?_) | refine Run.condM (fun h => ?_) (fun h => ?_) | refine Run.condB (fun h => ?_) (fun h => ?_) | refine Run.check1 ?_ | refine Run.round ⟨[(.t 7 0, .t 1000 0)], [], []⟩ (loop ws.length 0 _ _ rfl (by omega) (Nat.zero_le _) rfl rfl) rfl (by (repeat' (first | exact wkEnv_nil | refine wkEnv_cons rfl ?_ | exact wkSto_nil | refine wkSto_none ?_ | refine wkSto_some rfl ?_)); done) (by (repeat' (first | exact wkEnv_nil | refine wkEnv_cons rfl ?_ | exact wkSto_nil | refine wkSto_none ?_ | refine wkSto_some rfl ?_)); done)
  all_goals trace_state
theorem decimal_ok (s : ByteArray) : Ok P 28 [.one (.str s)] [] (.tup [.one (.int .i64 (if 0 ≤ numI s then numI s else 0)), .one (.bool (decide (0 ≤ numI s)))]) [] := by
  refine Ok.of_run (F := mk Tryz.f28 0) Tryz.func28 rfl rfl tabOk mixed rfl rfl rfl rfl rfl (Nat.le_of_ble_eq_true rfl) (Nat.le_of_ble_eq_true rfl) (.go 5000 ?_)
  by_cases hc : numC s
  · have hc1 := hc
    obtain ⟨c1, c2, c3⟩ := hc1
    have loop : ∀ (d i n : Nat) (z : Int), z = i → i + d = s.size → NumInv s i n → Run P (mk Tryz.f28 0) (fun v st => v = .tup [.one (.int .i64 (if 0 ≤ numI s then numI s else 0)), .one (.bool (decide (0 ≤ numI s)))] ∧ st = []) (.loop ⟨[(0, .one (.str s)), (4, .one (.int .i64 z))], [], [.lp [0, 1, 0, 1, 1], .blk 0, .code [1, 1, 1]], none⟩) := by
      intro d
      induction d with
      | zero =>
        intro i n z hz hd hv
        subst hz
        obtain rfl : i = s.size := by omega
        have hn := numI_end hc hv
        have h0 : 0 ≤ numI s := by omega
        rw [if_pos h0, decide_eq_true h0]
        obtain ⟨a1, a2⟩ := numI_atoi h0
        refine Run.loop ?_
        repeat' (conv => arg 4; whnf); first | refine Run.ret ⟨?_, rfl⟩ | refine Run.condT ?_ | refine Run.condf ?_ | refine Run.condD (fun h => ?_) (fun h => ?_) | refine Run.condN (fun h => ?_) (fun h => ?_) | refine Run.condE (fun h => ?_) (fun h => ?_) | refine Run.condF (fun h => ?_) (fun h => ?_) | refine Run.condM (fun h => ?_) (fun h => ?_) | refine Run.condB (fun h => ?_) (fun h => ?_) | refine Run.check1 ?_ | refine Run.call (atoi_ok s _ a2 a1) rfl ?_ | (exfalso; omega)
        all_goals first | rfl | (exfalso; omega) | trace_state
      | succ d ih =>
        intro i n z hz hd hv
        subst hz
        have hi : i < s.size := by omega
        have e := fs (i := i) (by omega)
        have hb := bt_rng s (i : Int)
        have hst := numInv_step hv hi
        by_cases hbad : 48 ≤ bt s (i : Int) ∧ bt s (i : Int) ≤ 57
        · refine Run.loop ?_
          repeat' (conv => arg 4; whnf); first | refine Run.ret ⟨?_, rfl⟩ | refine Run.condT ?_ | refine Run.condf ?_ | refine Run.condD (fun h => ?_) (fun h => ?_) | refine Run.condN (fun h => ?_) (fun h => ?_) | refine Run.condE (fun h => ?_) (fun h => ?_) | refine Run.condF (fun h => ?_) (fun h => ?_) | refine Run.condM (fun h => ?_) (fun h => ?_) | refine Run.condB (fun h => ?_) (fun h => ?_) | refine Run.check1 ?_ | refine Run.need1 (by simp only [allP, true_and, and_true]; omega) ?_ | refine Run.round ⟨[], [], []⟩ (ih (i + 1) _ _ e.h (by omega) (hst hbad.1 hbad.2)) rfl (by (repeat' (first | exact wkEnv_nil | refine wkEnv_cons rfl ?_ | exact wkSto_nil | refine wkSto_none ?_ | refine wkSto_some rfl ?_)); done) (by (repeat' (first | exact wkEnv_nil | refine wkEnv_cons rfl ?_ | exact wkSto_nil | refine wkSto_none ?_ | refine wkSto_some rfl ?_)); done) | (exfalso; omega)
          all_goals first | (exfalso; omega) | trace_state
        · have hbad1 := numI_bad (s := s) hi hbad
          rw [if_neg (by omega), decide_eq_false (by omega)]
          refine Run.loop ?_
          repeat' (conv => arg 4; whnf); first | refine Run.ret ⟨?_, rfl⟩ | refine Run.condT ?_ | refine Run.condf ?_ | refine Run.condD (fun h => ?_) (fun h => ?_) | refine Run.condN (fun h => ?_) (fun h => ?_) | refine Run.condE (fun h => ?_) (fun h => ?_) | refine Run.condF (fun h => ?_) (fun h => ?_) | refine Run.condM (fun h => ?_) (fun h => ?_) | refine Run.condB (fun h => ?_) (fun h => ?_) | refine Run.check1 ?_ | refine Run.need1 (by simp only [allP, true_and, and_true]; omega) ?_ | (exfalso; omega)
          all_goals first | rfl | (exfalso; omega) | trace_state
    repeat' (conv => arg 4; whnf); first | refine Run.ret ⟨?_, rfl⟩ | refine Run.condT ?_ | refine Run.condf ?_ | refine Run.condD (fun h => ?_) (fun h => ?_) | refine Run.condN (fun h => ?_) (fun h => ?_) | refine Run.condE (fun h => ?_) (fun h => ?_) | refine Run.condF (fun h => ?_) (fun h => ?_) | refine Run.condM (fun h => ?_) (fun h => ?_) | refine Run.condB (fun h => ?_) (fun h => ?_) | refine Run.check1 ?_ | refine Run.call (in_ok _ _ _) rfl ?_ | refine Run.need1 (by simp only [allP, true_and, and_true]; omega) ?_ | refine Run.round ⟨[], [], []⟩ (loop s.size 0 0 _ rfl (by omega) (numInv_zero s)) rfl (by (repeat' (first | exact wkEnv_nil | refine wkEnv_cons rfl ?_ | exact wkSto_nil | refine wkSto_none ?_ | refine wkSto_some rfl ?_)); done) (by (repeat' (first | exact wkEnv_nil | refine wkEnv_cons rfl ?_ | exact wkSto_nil | refine wkSto_none ?_ | refine wkSto_some rfl ?_)); done) | (exfalso; omega)
    all_goals first | rfl | (exfalso; omega) | trace_state
  · have hbad1 := numI_no hc
    rw [if_neg (by omega), decide_eq_false (by omega)]
    unfold numC at hc
    repeat' (conv => arg 4; whnf); first | refine Run.ret ⟨?_, rfl⟩ | refine Run.condT ?_ | refine Run.condf ?_ | refine Run.condD (fun h => ?_) (fun h => ?_) | refine Run.condN (fun h => ?_) (fun h => ?_) | refine Run.condE (fun h => ?_) (fun h => ?_) | refine Run.condF (fun h => ?_) (fun h => ?_) | refine Run.condM (fun h => ?_) (fun h => ?_) | refine Run.condB (fun h => ?_) (fun h => ?_) | refine Run.check1 ?_ | refine Run.call (in_ok _ _ _) rfl ?_ | refine Run.need1 (by simp only [allP, true_and, and_true]; omega) ?_ | (exfalso; omega)
    all_goals first | rfl | (exfalso; omega) | trace_state
end Go.Proofs.YtlmdbeegmgfpnaaGreatDoor.AM

/- StripFits of the reference, StripCost without the reference's; condition: the ticks are of 64 bits. -/
namespace Go.Proofs.YtlmdbeegmgfpnaaGreatDoor.AM
open Go.AM Go.RowKit
set_option linter.unusedVariables false
set_option linter.unusedSimpArgs false
set_option maxRecDepth 100000

theorem sapart_ok (a : Mv) (s : Int) (b : Mv) (t : Int) (hs : 0 ≤ s ∧ s ≤ 10000) (ht : 0 ≤ t ∧ t ≤ 10000) : Ok P 93 [.agg (encMv a), .one (.int .i64 s), .agg (encMv b), .one (.int .i64 t)] [] (.one (.bool (decide (ap2 a s b t)))) [] := by
  refine Ok.of_run (F := mk Tryz.f93 0) Tryz.func93 rfl rfl tabOk mixed rfl rfl rfl rfl rfl (Nat.le_of_ble_eq_true rfl) (Nat.le_of_ble_eq_true rfl) (.go 5000 ?_)
  have e1 : wrap64 (s - t) = s - t := wrap_eq (by omega) (by omega)
  have e2 : wrap64 (t - s) = t - s := wrap_eq (by omega) (by omega)
  repeat' (conv => arg 4; whnf); first | refine Run.ret ⟨?_, rfl⟩ | refine Run.condT ?_ | refine Run.condf ?_ | refine Run.condD (fun h => ?_) (fun h => ?_) | refine Run.condN (fun h => ?_) (fun h => ?_) | refine Run.condE (fun h => ?_) (fun h => ?_) | refine Run.condF (fun h => ?_) (fun h => ?_) | refine Run.condM (fun h => ?_) (fun h => ?_) | refine Run.condB (fun h => ?_) (fun h => ?_) | refine Run.check1 ?_ | refine Run.call (sgap_ok _ _) rfl ?_
  all_goals (refine vb ?_; rw [decide_eq_true_eq (p := ap2 _ _ _ _)]; unfold ap2; simp only [decide_eq_true_eq, e1, e2, Bool.false_eq_true, false_iff]; omega)
theorem sfits_ok (l : List Mv) (t : List Int) (hw : TkWf t) : Ok P 69 [.one (.lst .mv l false), .one (.lst (.int .i64) t false)] [] (.one (.bool (decide (Fits l t)))) [] := by
  refine Ok.of_run (F := mk Tryz.f69 0) Tryz.func69 rfl rfl tabOk mixed rfl rfl rfl rfl rfl (Nat.le_of_ble_eq_true rfl) (Nat.le_of_ble_eq_true rfl) (.go 5000 ?_)
  have outer : MovesOk l → t.length = l.length → ∀ (d i : Nat) (z : Int), z = i → i + d = l.length → (∀ j, j < i → FitsSp l t j) → Run P (mk Tryz.f69 0) (fun v st => v = .one (.bool (decide (Fits l t))) ∧ st = []) (.loop ⟨[(0, .one (.lst .mv l false)), (1, .one (.lst (.int .i64) t false)), (5, .one (.int .i64 z))], [], [.lp [0, 1, 0, 1, 1], .blk 0, .code [1, 1, 1]], none⟩) := by
    intro hm hlen d
    have h6 := hm.1
    induction d with
    | zero =>
      intro i z hz hd hall
      subst hz
      refine Run.loop ?_
      repeat' (conv => arg 4; whnf); first | refine Run.ret ⟨?_, rfl⟩ | refine Run.condT ?_ | refine Run.condf ?_ | refine Run.condD (fun h => ?_) (fun h => ?_) | refine Run.condN (fun h => ?_) (fun h => ?_) | refine Run.condE (fun h => ?_) (fun h => ?_) | refine Run.condF (fun h => ?_) (fun h => ?_) | refine Run.condM (fun h => ?_) (fun h => ?_) | refine Run.condB (fun h => ?_) (fun h => ?_) | refine Run.check1 ?_ | (exfalso; omega)
      all_goals first
        | (exfalso; omega)
        | exact fits_yes ⟨hm, hlen, (fitsSp_iff l t).1 fun j hj => hall j (by omega)⟩
    | succ d ih =>
      intro i z hz hd hall
      subst hz
      have e : wrap64 ((i : Int) + 1) = ((i + 1 : Nat) : Int) := wrap_eq (by omega) (by omega)
      have no : ¬ FitsSp l t i → V.one (A.bool false) = V.one (A.bool (decide (Fits l t))) := fun h => fits_no fun k => h ((fitsSp_iff l t).2 k.2.2 i (by omega))
      have inner : InR l t i → ∀ (c k : Nat) (z : Int), z = k → k + c = i → (∀ j, j < k → Ap l t j i ∧ Ap l t i j) → Run P (mk Tryz.f69 0) (fun v st => v = .one (.bool (decide (Fits l t))) ∧ st = []) (.loop ⟨[(0, .one (.lst .mv l false)), (1, .one (.lst (.int .i64) t false)), (5, .one (.int .i64 (i : Int))), (6, .one (.int .i64 z))], [], [.lp [0, 1, 1, 0, 0, 1, 0, 0, 1, 0, 1, 1], .blk 2, .blk 1, .code [1, 1, 0, 0, 1, 0, 1, 1], .lp [0, 1, 0, 1, 1], .blk 0, .code [1, 1, 1]], none⟩) := by
        intro hin c
        have hr := inR_range hm (by omega) hin
        induction c with
        | zero =>
          intro k z hz hc hap
          subst hz
          refine Run.loop ?_
          repeat' (conv => arg 4; whnf); first | refine Run.ret ⟨?_, rfl⟩ | refine Run.condT ?_ | refine Run.condf ?_ | refine Run.condD (fun h => ?_) (fun h => ?_) | refine Run.condN (fun h => ?_) (fun h => ?_) | refine Run.condE (fun h => ?_) (fun h => ?_) | refine Run.condF (fun h => ?_) (fun h => ?_) | refine Run.condM (fun h => ?_) (fun h => ?_) | refine Run.condB (fun h => ?_) (fun h => ?_) | refine Run.check1 ?_ | (exfalso; omega) | refine Run.round ⟨[], [], []⟩ (ih (i + 1) _ e (by omega) ?_) rfl (by (repeat' (first | exact wkEnv_nil | refine wkEnv_cons rfl ?_ | exact wkSto_nil | refine wkSto_none ?_ | refine wkSto_some rfl ?_)); done) (by (repeat' (first | exact wkEnv_nil | refine wkEnv_cons rfl ?_ | exact wkSto_nil | refine wkSto_none ?_ | refine wkSto_some rfl ?_)); done)
          all_goals first
            | (exfalso; omega)
            | (intro j hj; rcases Nat.lt_or_ge j i with h1 | h1
               · exact hall j h1
               · obtain rfl : j = i := by omega
                 exact ⟨hin, fun q hq => hap q (by omega)⟩)
        | succ c ihc =>
          intro k z hz hc hap
          subst hz
          have e2 : wrap64 ((k : Int) + 1) = ((k + 1 : Nat) : Int) := wrap_eq (by omega) (by omega)
          have hA : ap2 (rdM l k) (rd t k) (rdM l i) (rd t i) ↔ Ap l t k i ∧ Ap l t i k := by
            simp only [rdM_nat, rd_nat, Ap, ap2]
            omega
          have hrk := inR_range hm (i := k) (by omega) (hall k (by omega)).1
          refine Run.loop ?_
          repeat' (conv => arg 4; whnf); first | refine Run.ret ⟨?_, rfl⟩ | refine Run.condT ?_ | refine Run.condf ?_ | refine Run.condD (fun h => ?_) (fun h => ?_) | refine Run.condN (fun h => ?_) (fun h => ?_) | refine Run.condE (fun h => ?_) (fun h => ?_) | refine Run.condF (fun h => ?_) (fun h => ?_) | refine Run.condM (fun h => ?_) (fun h => ?_) | refine Run.condB (fun h => ?_) (fun h => ?_) | refine Run.check1 ?_ | refine Run.call (sapart_ok _ _ _ _ (by rw [rd_nat]; exact hrk) (by rw [rd_nat]; exact hr)) rfl ?_ | refine Run.need1 (by simp only [allP, true_and, and_true]; omega) ?_ | refine Run.round ⟨[], [], []⟩ (ihc (k + 1) _ e2 (by omega) ?_) rfl (by (repeat' (first | exact wkEnv_nil | refine wkEnv_cons rfl ?_ | exact wkSto_nil | refine wkSto_none ?_ | refine wkSto_some rfl ?_)); done) (by (repeat' (first | exact wkEnv_nil | refine wkEnv_cons rfl ?_ | exact wkSto_nil | refine wkSto_none ?_ | refine wkSto_some rfl ?_)); done) | (exfalso; omega)
          all_goals first
            | (exfalso; omega)
            | (refine no fun q => ?_; exact absurd (hA.2 (q.2 k (by omega))) ‹_›)
            | (intro j hj; rcases Nat.lt_or_ge j k with h1 | h1
               · exact hap j h1
               · obtain rfl : j = k := by omega
                 exact hA.1 ‹_›)
            | trace_state
      have hI : InR l t i ↔ (((rdM l i).f3 ≤ rd t i ∧ rd t i ≤ (rdM l i).f4) ∧ (0 ≤ (rdM l i).f5 → rd t i = (rdM l i).f5)) := by
        simp only [rdM_nat, rd_nat, InR]
      refine Run.loop ?_
      repeat' (conv => arg 4; whnf); first | refine Run.ret ⟨?_, rfl⟩ | refine Run.condT ?_ | refine Run.condf ?_ | refine Run.condD (fun h => ?_) (fun h => ?_) | refine Run.condN (fun h => ?_) (fun h => ?_) | refine Run.condE (fun h => ?_) (fun h => ?_) | refine Run.condF (fun h => ?_) (fun h => ?_) | refine Run.condM (fun h => ?_) (fun h => ?_) | refine Run.condB (fun h => ?_) (fun h => ?_) | refine Run.check1 ?_ | refine Run.call (sin_ok _ _ _) rfl ?_ | refine Run.need1 (by simp only [allP, true_and, and_true]; omega) ?_ | refine Run.round ⟨[], [], []⟩ (inner ?_ i 0 _ rfl ?_ ?_) rfl (by (repeat' (first | exact wkEnv_nil | refine wkEnv_cons rfl ?_ | exact wkSto_nil | refine wkSto_none ?_ | refine wkSto_some rfl ?_)); done) (by (repeat' (first | exact wkEnv_nil | refine wkEnv_cons rfl ?_ | exact wkSto_nil | refine wkSto_none ?_ | refine wkSto_some rfl ?_)); done) | (exfalso; omega)
      all_goals first
        | (exfalso; omega)
        | omega
        | (refine no fun q => ?_; have a := hI.1 q.1; omega)
        | exact hI.2 (by omega)
        | trace_state
  repeat' (conv => arg 4; whnf); first | refine Run.ret ⟨?_, rfl⟩ | refine Run.condT ?_ | refine Run.condf ?_ | refine Run.condD (fun h => ?_) (fun h => ?_) | refine Run.condN (fun h => ?_) (fun h => ?_) | refine Run.condE (fun h => ?_) (fun h => ?_) | refine Run.condF (fun h => ?_) (fun h => ?_) | refine Run.condM (fun h => ?_) (fun h => ?_) | refine Run.condB (fun h => ?_) (fun h => ?_) | refine Run.check1 ?_ | refine Run.call (smovesOk_ok _) rfl ?_ | refine Run.round ⟨[], [], []⟩ (outer ?_ ?_ l.length 0 _ rfl ?_ ?_) rfl (by (repeat' (first | exact wkEnv_nil | refine wkEnv_cons rfl ?_ | exact wkSto_nil | refine wkSto_none ?_ | refine wkSto_some rfl ?_)); done) (by (repeat' (first | exact wkEnv_nil | refine wkEnv_cons rfl ?_ | exact wkSto_nil | refine wkSto_none ?_ | refine wkSto_some rfl ?_)); done)
  all_goals first
    | omega
    | assumption
    | (refine fits_no fun k => ?_; have := k.1; have := k.2.1; simp_all; done)
    | trace_state
theorem scost2_ok (l : List Mv) (t : List Int) (h : DlOk l t) : Ok P 74 [.one (.lst .mv l false), .one (.lst (.int .i64) t false)] [] (.tup [.one (.int .i64 (costM l t).1), .one (.int .i64 (costM l t).2)]) [] := by
  refine Ok.of_run (F := mk Tryz.f74 0) Tryz.func74 rfl rfl tabOk mixed rfl rfl rfl rfl rfl (Nat.le_of_ble_eq_true rfl) (Nat.le_of_ble_eq_true rfl) (.go 5000 ?_)
  obtain ⟨hlen, h6, hd⟩ := h
  have loop : ∀ (d i : Nat) (z s m : Int), z = i → i + d = l.length → CInv i (s, m) → foldFrom (cStep l t) i d (s, m) = costM l t → Run P (mk Tryz.f74 0) (fun v st => v = .tup [.one (.int .i64 (costM l t).1), .one (.int .i64 (costM l t).2)] ∧ st = []) (.loop ⟨[(0, .one (.lst .mv l false)), (1, .one (.lst (.int .i64) t false)), (6, .one (.int .i64 s)), (7, .one (.int .i64 m)), (8, .one (.int .i64 z))], [], [.lp [0, 1, 0, 1, 1, 1], .blk 0, .code [1, 1, 1, 1]], none⟩) := by
    intro d
    induction d with
    | zero =>
      intro i z s m hz hi hc he
      subst hz
      refine Run.loop ?_
      repeat' (conv => arg 4; whnf); first | refine Run.ret ⟨?_, rfl⟩ | refine Run.condT ?_ | refine Run.condf ?_ | refine Run.condD (fun h => ?_) (fun h => ?_) | refine Run.condN (fun h => ?_) (fun h => ?_) | refine Run.condE (fun h => ?_) (fun h => ?_) | refine Run.condF (fun h => ?_) (fun h => ?_) | refine Run.condM (fun h => ?_) (fun h => ?_) | refine Run.condB (fun h => ?_) (fun h => ?_) | refine Run.check1 ?_ | (exfalso; omega)
      all_goals first
        | (exfalso; omega)
        | (rw [← he]; rfl)
    | succ d ih =>
      intro i z s m hz hi hc he
      subst hz
      have e : wrap64 ((i : Int) + 1) = ((i + 1 : Nat) : Int) := wrap_eq (by omega) (by omega)
      have hdi := hd i (by omega)
      have hc' := cInv_step hdi hc
      have ed : wrap64 (rd t i - (rdM l i).f3) = dl l t i := by simp only [rd_nat, rdM_nat]; exact wrap_eq (by unfold dl at hdi; omega) (by unfold dl at hdi; omega)
      have es : wrap64 (s + dl l t i) = s + dl l t i := by unfold CInv at hc; exact wrap_eq (by omega) (by omega)
      refine Run.loop ?_
      repeat' (conv => arg 4; whnf); first | refine Run.ret ⟨?_, rfl⟩ | refine Run.condT ?_ | refine Run.condf ?_ | refine Run.condD (fun h => ?_) (fun h => ?_) | refine Run.condN (fun h => ?_) (fun h => ?_) | refine Run.condE (fun h => ?_) (fun h => ?_) | refine Run.condF (fun h => ?_) (fun h => ?_) | refine Run.condM (fun h => ?_) (fun h => ?_) | refine Run.condB (fun h => ?_) (fun h => ?_) | refine Run.check1 ?_ | refine Run.need1 (by simp only [allP, true_and, and_true]; omega) ?_ | refine Run.round ⟨[], [], []⟩ (ih (i + 1) _ _ _ e (by omega) ?_ ?_) rfl (by (repeat' (first | exact wkEnv_nil | refine wkEnv_cons rfl ?_ | exact wkSto_nil | refine wkSto_none ?_ | refine wkSto_some rfl ?_)); done) (by (repeat' (first | exact wkEnv_nil | refine wkEnv_cons rfl ?_ | exact wkSto_nil | refine wkSto_none ?_ | refine wkSto_some rfl ?_)); done) | (exfalso; omega)
      all_goals first
        | (exfalso; omega)
        | (simp only [ed, es] at *
           have em : max m (dl l t i) = dl l t i := by omega
           simp only [foldFrom, cStep, em] at hc' he
           first | exact hc' | exact he)
        | (simp only [ed, es] at *
           have em : max m (dl l t i) = m := by omega
           simp only [foldFrom, cStep, em] at hc' he
           first | exact hc' | exact he)
        | (simp only [ed, es] at *
           simp only [foldFrom, cStep] at hc' he
           first | exact hc' | exact he)
        | trace_state
  repeat' (conv => arg 4; whnf); first | refine Run.ret ⟨?_, rfl⟩ | refine Run.condT ?_ | refine Run.condf ?_ | refine Run.condD (fun h => ?_) (fun h => ?_) | refine Run.condN (fun h => ?_) (fun h => ?_) | refine Run.condE (fun h => ?_) (fun h => ?_) | refine Run.condF (fun h => ?_) (fun h => ?_) | refine Run.condM (fun h => ?_) (fun h => ?_) | refine Run.condB (fun h => ?_) (fun h => ?_) | refine Run.check1 ?_ | refine Run.round ⟨[], [], []⟩ (loop l.length 0 _ _ _ rfl ?_ ?_ ?_) rfl (by (repeat' (first | exact wkEnv_nil | refine wkEnv_cons rfl ?_ | exact wkSto_nil | refine wkSto_none ?_ | refine wkSto_some rfl ?_)); done) (by (repeat' (first | exact wkEnv_nil | refine wkEnv_cons rfl ?_ | exact wkSto_nil | refine wkSto_none ?_ | refine wkSto_some rfl ?_)); done)
  all_goals first | omega | rfl | (unfold CInv; simp) | trace_state
theorem cost_ok (l : List Mv) (t : List Int) (hw : TkWf t) : Ok P 67 [.one (.lst .mv l false), .one (.lst (.int .i64) t false)] [] (.tup [.one (.int .i64 (costF l t).1), .one (.int .i64 (costF l t).2)]) [] := by
  refine Ok.of_run (F := mk Tryz.f67 0) Tryz.func67 rfl rfl tabOk mixed rfl rfl rfl rfl rfl (Nat.le_of_ble_eq_true rfl) (Nat.le_of_ble_eq_true rfl) (.go 5000 ?_)
  by_cases hf : Fits l t
  · rw [show costF l t = costM l t from if_pos hf]
    obtain ⟨hlen, h6, hd⟩ := fits_dl hf
    have loop : ∀ (d i : Nat) (z s m : Int), z = i → i + d = l.length → CInv i (s, m) → foldFrom (cStep l t) i d (s, m) = costM l t → Run P (mk Tryz.f67 0) (fun v st => v = .tup [.one (.int .i64 (costM l t).1), .one (.int .i64 (costM l t).2)] ∧ st = []) (.loop ⟨[(1, .one (.lst (.int .i64) t false)), (6, .one (.int .i64 s)), (7, .one (.int .i64 m)), (14, .one (.lst .mv l false)), (15, .one (.int .i64 (l.length : Int))), (16, .one (.int .i64 z))], [], [.lp [0, 1, 0, 1, 1, 1], .blk 0, .code [1, 1, 1, 1]], none⟩) := by
      intro d
      induction d with
      | zero =>
        intro i z s m hz hi hc he
        subst hz
        refine Run.loop ?_
        repeat' (conv => arg 4; whnf); first | refine Run.ret ⟨?_, rfl⟩ | refine Run.condT ?_ | refine Run.condf ?_ | refine Run.condD (fun h => ?_) (fun h => ?_) | refine Run.condN (fun h => ?_) (fun h => ?_) | refine Run.condE (fun h => ?_) (fun h => ?_) | refine Run.condF (fun h => ?_) (fun h => ?_) | refine Run.condM (fun h => ?_) (fun h => ?_) | refine Run.condB (fun h => ?_) (fun h => ?_) | refine Run.check1 ?_ | (exfalso; omega)
        all_goals first
          | (exfalso; omega)
          | (rw [← he]; rfl)
      | succ d ih =>
        intro i z s m hz hi hc he
        subst hz
        have e : wrap64 ((i : Int) + 1) = ((i + 1 : Nat) : Int) := wrap_eq (by omega) (by omega)
        have hdi := hd i (by omega)
        have hc' := cInv_step hdi hc
        have ed : wrap64 (rd t i - (rdM l i).f3) = dl l t i := by simp only [rd_nat, rdM_nat]; exact wrap_eq (by unfold dl at hdi; omega) (by unfold dl at hdi; omega)
        have es : wrap64 (s + dl l t i) = s + dl l t i := by unfold CInv at hc; exact wrap_eq (by omega) (by omega)
        refine Run.loop ?_
        repeat' (conv => arg 4; whnf); first | refine Run.ret ⟨?_, rfl⟩ | refine Run.condT ?_ | refine Run.condf ?_ | refine Run.condD (fun h => ?_) (fun h => ?_) | refine Run.condN (fun h => ?_) (fun h => ?_) | refine Run.condE (fun h => ?_) (fun h => ?_) | refine Run.condF (fun h => ?_) (fun h => ?_) | refine Run.condM (fun h => ?_) (fun h => ?_) | refine Run.condB (fun h => ?_) (fun h => ?_) | refine Run.check1 ?_ | refine Run.need1 (by simp only [allP, true_and, and_true]; omega) ?_ | refine Run.round ⟨[], [], []⟩ (ih (i + 1) _ _ _ e (by omega) ?_ ?_) rfl (by (repeat' (first | exact wkEnv_nil | refine wkEnv_cons rfl ?_ | exact wkSto_nil | refine wkSto_none ?_ | refine wkSto_some rfl ?_)); done) (by (repeat' (first | exact wkEnv_nil | refine wkEnv_cons rfl ?_ | exact wkSto_nil | refine wkSto_none ?_ | refine wkSto_some rfl ?_)); done) | (exfalso; omega)
        all_goals first
          | (exfalso; omega)
          | (simp only [ed, es] at *
             have em : max m (dl l t i) = dl l t i := by omega
             simp only [foldFrom, cStep, em] at hc' he
             first | exact hc' | exact he)
          | (simp only [ed, es] at *
             have em : max m (dl l t i) = m := by omega
             simp only [foldFrom, cStep, em] at hc' he
             first | exact hc' | exact he)
          | (simp only [ed, es] at *
             simp only [foldFrom, cStep] at hc' he
             first | exact hc' | exact he)
          | trace_state
    repeat' (conv => arg 4; whnf); first | refine Run.ret ⟨?_, rfl⟩ | refine Run.condT ?_ | refine Run.condf ?_ | refine Run.condD (fun h => ?_) (fun h => ?_) | refine Run.condN (fun h => ?_) (fun h => ?_) | refine Run.condE (fun h => ?_) (fun h => ?_) | refine Run.condF (fun h => ?_) (fun h => ?_) | refine Run.condM (fun h => ?_) (fun h => ?_) | refine Run.condB (fun h => ?_) (fun h => ?_) | refine Run.check1 ?_ | refine Run.call (fits_ok _ _ hw) rfl ?_ | refine Run.round ⟨[], [], []⟩ (loop l.length 0 _ _ _ rfl ?_ ?_ ?_) rfl (by (repeat' (first | exact wkEnv_nil | refine wkEnv_cons rfl ?_ | exact wkSto_nil | refine wkSto_none ?_ | refine wkSto_some rfl ?_)); done) (by (repeat' (first | exact wkEnv_nil | refine wkEnv_cons rfl ?_ | exact wkSto_nil | refine wkSto_none ?_ | refine wkSto_some rfl ?_)); done)
    all_goals first | omega | rfl | (unfold CInv; simp; done) | exact absurd hf ‹_› | trace_state
  · rw [show costF l t = (0, 0) from if_neg hf]
    repeat' (conv => arg 4; whnf); first | refine Run.ret ⟨?_, rfl⟩ | refine Run.condT ?_ | refine Run.condf ?_ | refine Run.condD (fun h => ?_) (fun h => ?_) | refine Run.condN (fun h => ?_) (fun h => ?_) | refine Run.condE (fun h => ?_) (fun h => ?_) | refine Run.condF (fun h => ?_) (fun h => ?_) | refine Run.condM (fun h => ?_) (fun h => ?_) | refine Run.condB (fun h => ?_) (fun h => ?_) | refine Run.check1 ?_ | refine Run.call (fits_ok _ _ hw) rfl ?_ | (exact absurd ‹_› hf)
    all_goals rfl
end Go.Proofs.YtlmdbeegmgfpnaaGreatDoor.AM

/- StripBookOk, the program's and the reference's; condition: the ticks are of 64 bits. -/
namespace Go.Proofs.YtlmdbeegmgfpnaaGreatDoor.AM
open Go.AM Go.RowKit
set_option linter.unusedVariables false
set_option linter.unusedSimpArgs false
set_option maxRecDepth 100000

theorem bookOk_ok (b : Bk) (hw : TkWf b.ts) : Ok P 54 [b.lent] [] (.one (.bool (decide (BkOk b)))) [] := by
  refine Ok.of_run (F := mk Tryz.f54 0) Tryz.func54 rfl rfl tabOk mixed rfl rfl rfl rfl rfl (Nat.le_of_ble_eq_true rfl) (Nat.le_of_ble_eq_true rfl) (.go 5000 ?_)
  have loop : (0 ≤ b.now ∧ b.now ≤ 10000) → (0 ≤ b.shift ∧ b.shift ≤ 6) → Fits b.ms b.ts → ∀ (d i : Nat) (z : Int), z = i → i + d = b.ts.length → (∀ j, j < i → SoonAt b j) → Run P (mk Tryz.f54 0) (fun v st => v = .one (.bool (decide (BkOk b))) ∧ st = []) (.loop ⟨[(1, .one (.ptr (.t 1 0) 0)), (24, .one (.lst (.int .i64) b.ts false)), (25, .one (.int .i64 (b.ts.length : Int))), (26, .one (.int .i64 z))], [(.t 1 0, some (.cells b.lent.atoms))], [.lp [0, 1, 0, 1, 1], .blk 0, .code [1, 1, 1]], none⟩) := by
    intro hn hs hf d
    have h6 := hf.1.1
    have hlen := hf.2.1
    induction d with
    | zero =>
      intro i z hz hd hall
      subst hz
      refine Run.loop ?_
      repeat' (conv => arg 4; whnf); first | refine Run.ret ⟨?_, rfl⟩ | refine Run.condT ?_ | refine Run.condf ?_ | refine Run.condD (fun h => ?_) (fun h => ?_) | refine Run.condN (fun h => ?_) (fun h => ?_) | refine Run.condE (fun h => ?_) (fun h => ?_) | refine Run.condF (fun h => ?_) (fun h => ?_) | refine Run.condM (fun h => ?_) (fun h => ?_) | refine Run.condB (fun h => ?_) (fun h => ?_) | refine Run.check1 ?_ | (exfalso; omega)
      all_goals first
        | (exfalso; omega)
        | exact bk_yes ⟨hn, hs, hf, fun j hj => hall j (by omega)⟩
    | succ d ih =>
      intro i z hz hd hall
      subst hz
      have e : wrap64 ((i : Int) + 1) = ((i + 1 : Nat) : Int) := wrap_eq (by omega) (by omega)
      have e4 : wrap64 (b.now + 4) = b.now + 4 := wrap_eq (by omega) (by omega)
      have no : ¬ SoonAt b i → V.one (A.bool false) = V.one (A.bool (decide (BkOk b))) := fun h => bk_no fun k => h (k.2.2.2 i (by omega))
      have hA : SoonAt b i ↔ (b.now ≤ rd b.ts i ∧ (rd b.ts i < wrap64 (b.now + 4) → 0 ≤ (rdM b.ms i).f5)) := by
        simp only [rdM_nat, rd_nat, e4, SoonAt]
      refine Run.loop ?_
      repeat' (conv => arg 4; whnf); first | refine Run.ret ⟨?_, rfl⟩ | refine Run.condT ?_ | refine Run.condf ?_ | refine Run.condD (fun h => ?_) (fun h => ?_) | refine Run.condN (fun h => ?_) (fun h => ?_) | refine Run.condE (fun h => ?_) (fun h => ?_) | refine Run.condF (fun h => ?_) (fun h => ?_) | refine Run.condM (fun h => ?_) (fun h => ?_) | refine Run.condB (fun h => ?_) (fun h => ?_) | refine Run.check1 ?_ | refine Run.need1 (by simp only [allP, true_and, and_true]; omega) ?_ | refine Run.round ⟨[(.t 1 0, .t 1 0)], [], []⟩ (ih (i + 1) _ e (by omega) ?_) rfl (by (repeat' (first | exact wkEnv_nil | refine wkEnv_cons rfl ?_ | exact wkSto_nil | refine wkSto_none ?_ | refine wkSto_some rfl ?_)); done) (by (repeat' (first | exact wkEnv_nil | refine wkEnv_cons rfl ?_ | exact wkSto_nil | refine wkSto_none ?_ | refine wkSto_some rfl ?_)); done) | (exfalso; omega)
      all_goals first
        | (exfalso; omega)
        | (refine no fun q => ?_; have a := hA.1 q; omega)
        | (intro j hj; rcases Nat.lt_or_ge j i with h1 | h1
           · exact hall j h1
           · obtain rfl : j = i := by omega
             exact hA.2 (by omega))
        | trace_state
  repeat' (conv => arg 4; whnf); first | refine Run.ret ⟨?_, rfl⟩ | refine Run.condT ?_ | refine Run.condf ?_ | refine Run.condD (fun h => ?_) (fun h => ?_) | refine Run.condN (fun h => ?_) (fun h => ?_) | refine Run.condE (fun h => ?_) (fun h => ?_) | refine Run.condF (fun h => ?_) (fun h => ?_) | refine Run.condM (fun h => ?_) (fun h => ?_) | refine Run.condB (fun h => ?_) (fun h => ?_) | refine Run.check1 ?_ | refine Run.call (in_ok _ _ _) rfl ?_ | refine Run.call (fits_ok _ _ hw) rfl ?_ | refine Run.round ⟨[(.t 1 0, .t 1 0)], [], []⟩ (loop ?_ ?_ ?_ b.ts.length 0 _ rfl ?_ ?_) rfl (by (repeat' (first | exact wkEnv_nil | refine wkEnv_cons rfl ?_ | exact wkSto_nil | refine wkSto_none ?_ | refine wkSto_some rfl ?_)); done) (by (repeat' (first | exact wkEnv_nil | refine wkEnv_cons rfl ?_ | exact wkSto_nil | refine wkSto_none ?_ | refine wkSto_some rfl ?_)); done)
  all_goals first
    | omega
    | assumption
    | (refine bk_no fun k => ?_; have := k.1; have := k.2.1; omega)
    | exact bk_no fun k => absurd k.2.2.1 ‹_›
    | trace_state
theorem sbookOk_ok (b : Bk) (hw : TkWf b.ts) : Ok P 37 [b.lent] [] (.one (.bool (decide (BkOk b)))) [] := by
  refine Ok.of_run (F := mk Tryz.f37 0) Tryz.func37 rfl rfl tabOk mixed rfl rfl rfl rfl rfl (Nat.le_of_ble_eq_true rfl) (Nat.le_of_ble_eq_true rfl) (.go 5000 ?_)
  have loop : (0 ≤ b.now ∧ b.now ≤ 10000) → (0 ≤ b.shift ∧ b.shift ≤ 6) → Fits b.ms b.ts → ∀ (d i : Nat) (z : Int), z = i → i + d = b.ts.length → (∀ j, j < i → SoonAt b j) → Run P (mk Tryz.f37 0) (fun v st => v = .one (.bool (decide (BkOk b))) ∧ st = []) (.loop ⟨[(1, .one (.ptr (.t 1 0) 0)), (3, .one (.int .i64 z))], [(.t 1 0, some (.cells b.lent.atoms))], [.lp [0, 1, 0, 1, 1], .blk 0, .code [1, 1, 1]], none⟩) := by
    intro hn hs hf d
    have h6 := hf.1.1
    have hlen := hf.2.1
    induction d with
    | zero =>
      intro i z hz hd hall
      subst hz
      refine Run.loop ?_
      repeat' (conv => arg 4; whnf); first | refine Run.ret ⟨?_, rfl⟩ | refine Run.condT ?_ | refine Run.condf ?_ | refine Run.condD (fun h => ?_) (fun h => ?_) | refine Run.condN (fun h => ?_) (fun h => ?_) | refine Run.condE (fun h => ?_) (fun h => ?_) | refine Run.condF (fun h => ?_) (fun h => ?_) | refine Run.condM (fun h => ?_) (fun h => ?_) | refine Run.condB (fun h => ?_) (fun h => ?_) | refine Run.check1 ?_ | (exfalso; omega)
      all_goals first
        | (exfalso; omega)
        | exact bk_yes ⟨hn, hs, hf, fun j hj => hall j (by omega)⟩
    | succ d ih =>
      intro i z hz hd hall
      subst hz
      have e : wrap64 ((i : Int) + 1) = ((i + 1 : Nat) : Int) := wrap_eq (by omega) (by omega)
      have e4 : wrap64 (b.now + 4) = b.now + 4 := wrap_eq (by omega) (by omega)
      have no : ¬ SoonAt b i → V.one (A.bool false) = V.one (A.bool (decide (BkOk b))) := fun h => bk_no fun k => h (k.2.2.2 i (by omega))
      have hA : SoonAt b i ↔ (b.now ≤ rd b.ts i ∧ (rd b.ts i < wrap64 (b.now + 4) → 0 ≤ (rdM b.ms i).f5)) := by
        simp only [rdM_nat, rd_nat, e4, SoonAt]
      refine Run.loop ?_
      repeat' (conv => arg 4; whnf); first | refine Run.ret ⟨?_, rfl⟩ | refine Run.condT ?_ | refine Run.condf ?_ | refine Run.condD (fun h => ?_) (fun h => ?_) | refine Run.condN (fun h => ?_) (fun h => ?_) | refine Run.condE (fun h => ?_) (fun h => ?_) | refine Run.condF (fun h => ?_) (fun h => ?_) | refine Run.condM (fun h => ?_) (fun h => ?_) | refine Run.condB (fun h => ?_) (fun h => ?_) | refine Run.check1 ?_ | refine Run.need1 (by simp only [allP, true_and, and_true]; omega) ?_ | refine Run.round ⟨[(.t 1 0, .t 1 0)], [], []⟩ (ih (i + 1) _ e (by omega) ?_) rfl (by (repeat' (first | exact wkEnv_nil | refine wkEnv_cons rfl ?_ | exact wkSto_nil | refine wkSto_none ?_ | refine wkSto_some rfl ?_)); done) (by (repeat' (first | exact wkEnv_nil | refine wkEnv_cons rfl ?_ | exact wkSto_nil | refine wkSto_none ?_ | refine wkSto_some rfl ?_)); done) | (exfalso; omega)
      all_goals first
        | (exfalso; omega)
        | (refine no fun q => ?_; have a := hA.1 q; omega)
        | (intro j hj; rcases Nat.lt_or_ge j i with h1 | h1
           · exact hall j h1
           · obtain rfl : j = i := by omega
             exact hA.2 (by omega))
        | trace_state
  repeat' (conv => arg 4; whnf); first | refine Run.ret ⟨?_, rfl⟩ | refine Run.condT ?_ | refine Run.condf ?_ | refine Run.condD (fun h => ?_) (fun h => ?_) | refine Run.condN (fun h => ?_) (fun h => ?_) | refine Run.condE (fun h => ?_) (fun h => ?_) | refine Run.condF (fun h => ?_) (fun h => ?_) | refine Run.condM (fun h => ?_) (fun h => ?_) | refine Run.condB (fun h => ?_) (fun h => ?_) | refine Run.check1 ?_ | refine Run.call (sin_ok _ _ _) rfl ?_ | refine Run.call (sfits_ok _ _ hw) rfl ?_ | refine Run.round ⟨[(.t 1 0, .t 1 0)], [], []⟩ (loop ?_ ?_ ?_ b.ts.length 0 _ rfl ?_ ?_) rfl (by (repeat' (first | exact wkEnv_nil | refine wkEnv_cons rfl ?_ | exact wkSto_nil | refine wkSto_none ?_ | refine wkSto_some rfl ?_)); done) (by (repeat' (first | exact wkEnv_nil | refine wkEnv_cons rfl ?_ | exact wkSto_nil | refine wkSto_none ?_ | refine wkSto_some rfl ?_)); done)
  all_goals first
    | omega
    | assumption
    | (refine bk_no fun k => ?_; have := k.1; have := k.2.1; omega)
    | exact bk_no fun k => absurd k.2.2.1 ‹_›
    | trace_state
end Go.Proofs.YtlmdbeegmgfpnaaGreatDoor.AM

/- slices.Clone, copies of books; condition: lengths. -/
namespace Go.Proofs.YtlmdbeegmgfpnaaGreatDoor.AM
open Go.AM Go.RowKit
set_option linter.unusedVariables false
set_option linter.unusedSimpArgs false
set_option maxRecDepth 100000

theorem cloneM_ok (l : List Mv) (hl : l.length ≤ 1048576) : Ok P 58 [.one (.lst .mv l false)] [] (.one (.own (.k 0))) [some (.row .mv l)] := by
  refine Ok.of_run (F := mk Tryz.f58 0) Tryz.func58 rfl rfl tabOk mixed rfl rfl rfl rfl rfl (Nat.le_of_ble_eq_true rfl) (Nat.le_of_ble_eq_true rfl) (.go 5000 ?_)
  conv => arg 4; whnf
  refine Run.nilq ⟨_, _, rfl⟩ rfl (.go 5000 ?_) (fun h => .go 5000 ?_)
  · repeat' (conv => arg 4; whnf); first | refine Run.ret ⟨?_, rfl⟩ | refine Run.condT ?_ | refine Run.condf ?_ | refine Run.condD (fun h => ?_) (fun h => ?_) | refine Run.condN (fun h => ?_) (fun h => ?_) | refine Run.condE (fun h => ?_) (fun h => ?_) | refine Run.condF (fun h => ?_) (fun h => ?_) | refine Run.condM (fun h => ?_) (fun h => ?_) | refine Run.condB (fun h => ?_) (fun h => ?_) | refine Run.check1 ?_ | refine Run.need1 (by simp only [allP, true_and, and_true, List.length_nil, Nat.zero_add]; omega) ?_
    all_goals rfl
  · subst h
    refine Run.cond0 (fun _ => ?_) (fun h => by cases h)
    refine Run.go 4 ?_
    refine Run.less ⟨[], [(.t 9 0, .mv)], []⟩ (env' := [(2, .one (.own (.t 9 0)))]) (sto' := [(.t 9 0, some (.row .mv []))]) (.go 5000 ?_) rfl (by (repeat' (first | exact wkEnv_nil | refine wkEnv_cons rfl ?_ | exact wkSto_nil | refine wkSto_none ?_ | refine wkSto_some rfl ?_)); done) (by (repeat' (first | exact wkEnv_nil | refine wkEnv_cons rfl ?_ | exact wkSto_nil | refine wkSto_none ?_ | refine wkSto_some rfl ?_)); done)
    repeat' (conv => arg 4; whnf); first | refine Run.ret ⟨?_, rfl⟩ | refine Run.condT ?_ | refine Run.condf ?_ | refine Run.condD (fun h => ?_) (fun h => ?_) | refine Run.condN (fun h => ?_) (fun h => ?_) | refine Run.condE (fun h => ?_) (fun h => ?_) | refine Run.condF (fun h => ?_) (fun h => ?_) | refine Run.condM (fun h => ?_) (fun h => ?_) | refine Run.condB (fun h => ?_) (fun h => ?_) | refine Run.check1 ?_
    all_goals rfl
theorem cloneI_ok (l : List Int) (hl : l.length ≤ 1048576) : Ok P 83 [.one (.lst (.int .i64) l false)] [] (.one (.own (.k 0))) [some (.row (.int .i64) l)] := by
  refine Ok.of_run (F := mk Tryz.f83 0) Tryz.func83 rfl rfl tabOk mixed rfl rfl rfl rfl rfl (Nat.le_of_ble_eq_true rfl) (Nat.le_of_ble_eq_true rfl) (.go 5000 ?_)
  conv => arg 4; whnf
  refine Run.nilq ⟨_, _, rfl⟩ rfl (.go 5000 ?_) (fun h => .go 5000 ?_)
  · repeat' (conv => arg 4; whnf); first | refine Run.ret ⟨?_, rfl⟩ | refine Run.condT ?_ | refine Run.condf ?_ | refine Run.condD (fun h => ?_) (fun h => ?_) | refine Run.condN (fun h => ?_) (fun h => ?_) | refine Run.condE (fun h => ?_) (fun h => ?_) | refine Run.condF (fun h => ?_) (fun h => ?_) | refine Run.condM (fun h => ?_) (fun h => ?_) | refine Run.condB (fun h => ?_) (fun h => ?_) | refine Run.check1 ?_ | refine Run.need1 (by simp only [allP, true_and, and_true, List.length_nil, Nat.zero_add]; omega) ?_
    all_goals rfl
  · subst h
    refine Run.cond0 (fun _ => ?_) (fun h => by cases h)
    refine Run.go 4 ?_
    refine Run.less ⟨[], [(.t 9 0, (.int .i64))], []⟩ (env' := [(2, .one (.own (.t 9 0)))]) (sto' := [(.t 9 0, some (.row (.int .i64) []))]) (.go 5000 ?_) rfl (by (repeat' (first | exact wkEnv_nil | refine wkEnv_cons rfl ?_ | exact wkSto_nil | refine wkSto_none ?_ | refine wkSto_some rfl ?_)); done) (by (repeat' (first | exact wkEnv_nil | refine wkEnv_cons rfl ?_ | exact wkSto_nil | refine wkSto_none ?_ | refine wkSto_some rfl ?_)); done)
    repeat' (conv => arg 4; whnf); first | refine Run.ret ⟨?_, rfl⟩ | refine Run.condT ?_ | refine Run.condf ?_ | refine Run.condD (fun h => ?_) (fun h => ?_) | refine Run.condN (fun h => ?_) (fun h => ?_) | refine Run.condE (fun h => ?_) (fun h => ?_) | refine Run.condF (fun h => ?_) (fun h => ?_) | refine Run.condM (fun h => ?_) (fun h => ?_) | refine Run.condB (fun h => ?_) (fun h => ?_) | refine Run.check1 ?_
    all_goals rfl
theorem copyBook_ok (b : Bk) (hl : b.ms.length ≤ 1048576) (ht : b.ts.length ≤ 1048576) : Ok P 55 [b.lent] [] (b.own (.k 0) (.k 1)) [some (.row .mv b.ms), some (.row (.int .i64) b.ts)] := by
  refine Ok.of_run (F := mk Tryz.f55 0) Tryz.func55 rfl rfl tabOk mixed rfl rfl rfl rfl rfl (Nat.le_of_ble_eq_true rfl) (Nat.le_of_ble_eq_true rfl) (.go 5000 ?_)
  repeat' (conv => arg 4; whnf); first | refine Run.ret ⟨?_, rfl⟩ | refine Run.condT ?_ | refine Run.condf ?_ | refine Run.condD (fun h => ?_) (fun h => ?_) | refine Run.condN (fun h => ?_) (fun h => ?_) | refine Run.condE (fun h => ?_) (fun h => ?_) | refine Run.condF (fun h => ?_) (fun h => ?_) | refine Run.condM (fun h => ?_) (fun h => ?_) | refine Run.condB (fun h => ?_) (fun h => ?_) | refine Run.check1 ?_ | refine Run.call (cloneM_ok _ hl) rfl ?_ | refine Run.call (cloneI_ok _ ht) rfl ?_
  all_goals first | rfl | trace_state
theorem scopy_ok (b : Bk) (hl : b.ms.length ≤ 1048576) (ht : b.ts.length ≤ 1048576) : Ok P 38 [b.lent] [] (b.own (.k 0) (.k 1)) [some (.row .mv b.ms), some (.row (.int .i64) b.ts)] := by
  refine Ok.of_run (F := mk Tryz.f38 0) Tryz.func38 rfl rfl tabOk mixed rfl rfl rfl rfl rfl (Nat.le_of_ble_eq_true rfl) (Nat.le_of_ble_eq_true rfl) (.go 5000 ?_)
  repeat' (conv => arg 4; whnf); first | refine Run.ret ⟨?_, rfl⟩ | refine Run.condT ?_ | refine Run.condf ?_ | refine Run.condD (fun h => ?_) (fun h => ?_) | refine Run.condN (fun h => ?_) (fun h => ?_) | refine Run.condE (fun h => ?_) (fun h => ?_) | refine Run.condF (fun h => ?_) (fun h => ?_) | refine Run.condM (fun h => ?_) (fun h => ?_) | refine Run.condB (fun h => ?_) (fun h => ?_) | refine Run.check1 ?_ | refine Run.need1 (by simp only [allP, true_and, and_true, List.length_nil, Nat.zero_add]; omega) ?_
  all_goals first | rfl | trace_state
end Go.Proofs.YtlmdbeegmgfpnaaGreatDoor.AM

/- StripTick of the reference; condition: the ticks are of 64 bits. -/
namespace Go.Proofs.YtlmdbeegmgfpnaaGreatDoor.AM
open Go.AM Go.RowKit
set_option linter.unusedVariables false
set_option linter.unusedSimpArgs false
set_option maxRecDepth 100000

theorem stick_ok (b : Bk) (hl : b.ms.length ≤ 1048576) (ht : b.ts.length ≤ 1048576) (hw : TkWf b.ts) :
    Ok P 46 [b.lent] [] (.tup [(tickR b).1.own (.k 0) (.k 1), .one (.own (.k 2)), .one (.int .i64 (tickR b).2.2)]) [some (.row .mv (tickR b).1.ms), some (.row (.int .i64) (tickR b).1.ts), some (.row .str (tickR b).2.1)] := by
  refine Ok.of_run (F := mk Tryz.f46 0) Tryz.func46 rfl rfl tabOk mixed rfl rfl rfl rfl rfl (Nat.le_of_ble_eq_true rfl) (Nat.le_of_ble_eq_true rfl) (.go 5000 ?_)
  by_cases hb : BkOk b
  · by_cases hn : b.now = 10000
    · rw [show tickR b = (b, [], 2) by unfold tickR; rw [if_pos hb, if_pos hn]]
      repeat' (conv => arg 4; whnf); first | refine Run.ret ⟨?_, rfl⟩ | refine Run.condT ?_ | refine Run.condf ?_ | refine Run.condD (fun h => ?_) (fun h => ?_) | refine Run.condN (fun h => ?_) (fun h => ?_) | refine Run.condE (fun h => ?_) (fun h => ?_) | refine Run.condF (fun h => ?_) (fun h => ?_) | refine Run.condM (fun h => ?_) (fun h => ?_) | refine Run.condB (fun h => ?_) (fun h => ?_) | refine Run.check1 ?_ | refine Run.call (sbookOk_ok _ hw) rfl ?_ | refine Run.call (scopy_ok ⟨_, _, _, _⟩ hl ht) rfl ?_ | contradiction
      all_goals first | rfl | (exfalso; omega) | contradiction | trace_state
    · rw [show tickR b = (⟨b.now + 1, b.shift, (tickF b).1, (tickF b).2.1⟩, (tickF b).2.2, 0) by unfold tickR; rw [if_pos hb, if_neg hn]]
      have hnow := hb.1
      have h6 := hb.2.2.1.1.1
      have hlen := hb.2.2.1.2.1
      have e1 : wrap64 (b.now + 1) = b.now + 1 := wrap_eq (by omega) (by omega)
      have e5 : wrap64 (b.now + 1 + 4) = b.now + 1 + 4 := wrap_eq (by omega) (by omega)
      have loop : ∀ (d i : Nat) (z y : Int) (s1 : List Mv) (s2 : List Int) (s3 : List ByteArray), z = i → y = b.now + 1 → i + d = b.ms.length → Len3 i (s1, s2, s3) → foldFrom (tickStep b) i d (s1, s2, s3) = tickF b →
          Run P (mk Tryz.f46 0) (fun v st => v = .tup [Bk.own ⟨b.now + 1, b.shift, (tickF b).1, (tickF b).2.1⟩ (.k 0) (.k 1), .one (.own (.k 2)), .one (.int .i64 0)] ∧ st = [some (.row .mv (tickF b).1), some (.row (.int .i64) (tickF b).2.1), some (.row .str (tickF b).2.2)])
            (.loop ⟨[(1, .one (.ptr (.t 1 0) 0)), (2, .one (.ptr (.t 2 0) 0)), (5, .one (.own (.t 1000 2))), (7, .one (.ptr (.t 7 0) 0)), (8, .one (.int .i64 z))],
              [(.t 1 0, some (.cells b.lent.atoms)), (.t 2 0, some (.cells [.int .i64 0, .int .i64 0, .nil, .nil])), (.t 7 0, some (.cells [.int .i64 y, .int .i64 b.shift, .own (.t 1000 0), .own (.t 1000 1)])), (.t 1000 0, some (.row .mv s1)), (.t 1000 1, some (.row (.int .i64) s2)), (.t 1000 2, some (.row .str s3))], [.lp [0, 1, 0, 1, 1, 1, 1, 1, 1], .blk 0, .code [1, 1, 1, 1, 1, 1, 1]], none⟩) := by
        intro d
        induction d with
        | zero =>
          intro i z y s1 s2 s3 hz hy hd hc he
          subst hz; subst hy
          rw [← he]
          refine Run.loop ?_
          obtain ⟨c1, c2, c3⟩ := hc
          simp only at c1 c2 c3
          repeat' (conv => arg 4; whnf); first | refine Run.ret ⟨?_, rfl⟩ | refine Run.condT ?_ | refine Run.condf ?_ | refine Run.condD (fun h => ?_) (fun h => ?_) | refine Run.condN (fun h => ?_) (fun h => ?_) | refine Run.condE (fun h => ?_) (fun h => ?_) | refine Run.condF (fun h => ?_) (fun h => ?_) | refine Run.condM (fun h => ?_) (fun h => ?_) | refine Run.condB (fun h => ?_) (fun h => ?_) | refine Run.check1 ?_ | refine Run.call (scopy_ok ⟨_, _, _, _⟩ (show s1.length ≤ 1048576 by omega) (show s2.length ≤ 1048576 by omega)) rfl ?_ | (exfalso; omega)
          all_goals first | rfl | (exfalso; omega) | trace_state
        | succ d ih =>
          intro i z y s1 s2 s3 hz hy hd hc he
          subst hz; subst hy
          have e : wrap64 ((i : Int) + 1) = ((i + 1 : Nat) : Int) := wrap_eq (by omega) (by omega)
          have hc' := len3_step (b := b) hc
          have he' : foldFrom (tickStep b) (i + 1) d (tickStep b i (s1, s2, s3)) = tickF b := he
          have st1 : tk b.ts i = b.now → tickStep b i (s1, s2, s3) = (s1, s2, s3 ++ [(at' b.ms i).f0]) := fun q => by unfold tickStep; rw [if_pos q]
          have st2 : ¬ tk b.ts i = b.now → tk b.ts i < b.now + 1 + 4 → tickStep b i (s1, s2, s3) = (s1 ++ [{ at' b.ms i with f5 := tk b.ts i }], s2 ++ [tk b.ts i], s3) := fun q q' => by unfold tickStep soon; rw [if_neg q, if_pos q']
          have st3 : ¬ tk b.ts i = b.now → ¬ tk b.ts i < b.now + 1 + 4 → tickStep b i (s1, s2, s3) = (s1 ++ [at' b.ms i], s2 ++ [tk b.ts i], s3) := fun q q' => by unfold tickStep soon; rw [if_neg q, if_neg q']
          obtain ⟨c1, c2, c3⟩ := hc
          simp only at c1 c2 c3
          refine Run.loop ?_
          repeat' (conv => arg 4; whnf); first | refine Run.ret ⟨?_, rfl⟩ | refine Run.condT ?_ | refine Run.condf ?_ | refine Run.condD (fun h => ?_) (fun h => ?_) | refine Run.condN (fun h => ?_) (fun h => ?_) | refine Run.condE (fun h => ?_) (fun h => ?_) | refine Run.condF (fun h => ?_) (fun h => ?_) | refine Run.condM (fun h => ?_) (fun h => ?_) | refine Run.condB (fun h => ?_) (fun h => ?_) | refine Run.check1 ?_ | refine Run.need1 (by simp only [allP, true_and, and_true, List.length_cons, List.length_nil]; omega) ?_ | refine Run.round ⟨[(.t 1 0, .t 1 0), (.t 2 0, .t 2 0), (.t 7 0, .t 7 0), (.t 1000 0, .t 1000 0), (.t 1000 1, .t 1000 1), (.t 53 0, .t 1000 2)], [], []⟩ (ih (i + 1) _ _ _ _ _ e rfl (by omega) ?_ ?_) rfl (by (repeat' (first | exact wkEnv_nil | refine wkEnv_cons rfl ?_ | exact wkSto_nil | refine wkSto_none ?_ | refine wkSto_some rfl ?_)); done) (by (repeat' (first | exact wkEnv_nil | refine wkEnv_cons rfl ?_ | exact wkSto_nil | refine wkSto_none ?_ | refine wkSto_some rfl ?_)); done) | refine Run.round ⟨[(.t 1 0, .t 1 0), (.t 2 0, .t 2 0), (.t 7 0, .t 7 0), (.t 73 0, .t 1000 0), (.t 83 0, .t 1000 1), (.t 1000 2, .t 1000 2)], [], []⟩ (ih (i + 1) _ _ _ _ _ e rfl (by omega) ?_ ?_) rfl (by (repeat' (first | exact wkEnv_nil | refine wkEnv_cons rfl ?_ | exact wkSto_nil | refine wkSto_none ?_ | refine wkSto_some rfl ?_)); done) (by (repeat' (first | exact wkEnv_nil | refine wkEnv_cons rfl ?_ | exact wkSto_nil | refine wkSto_none ?_ | refine wkSto_some rfl ?_)); done) | (exfalso; omega)
          all_goals (simp only [rd_nat, rdM_nat, e5] at *)
          all_goals first
            | (exfalso; omega)
            | (rw [st1 (by omega)] at hc' he'
               first | exact hc' | exact he')
            | (rw [st2 (by omega) (by omega)] at hc' he'
               first | exact hc' | exact he')
            | (rw [st3 (by omega) (by omega)] at hc' he'
               first | exact hc' | exact he')
            | trace_state
      repeat' (conv => arg 4; whnf); first | refine Run.ret ⟨?_, rfl⟩ | refine Run.condT ?_ | refine Run.condf ?_ | refine Run.condD (fun h => ?_) (fun h => ?_) | refine Run.condN (fun h => ?_) (fun h => ?_) | refine Run.condE (fun h => ?_) (fun h => ?_) | refine Run.condF (fun h => ?_) (fun h => ?_) | refine Run.condM (fun h => ?_) (fun h => ?_) | refine Run.condB (fun h => ?_) (fun h => ?_) | refine Run.check1 ?_ | refine Run.call (sbookOk_ok _ hw) rfl ?_ | refine Run.call (scopy_ok ⟨_, _, _, _⟩ hl ht) rfl ?_ | refine Run.round ⟨[(.t 1 0, .t 1 0), (.t 2 0, .t 2 0), (.t 7 0, .t 7 0), (.t 10 0, .t 1000 2)], [(.t 1000 0, .mv), (.t 1000 1, .int .i64)], []⟩ (loop b.ms.length 0 _ _ _ _ _ rfl ?_ ?_ ?_ ?_) rfl (by (repeat' (first | exact wkEnv_nil | refine wkEnv_cons rfl ?_ | exact wkSto_nil | refine wkSto_none ?_ | refine wkSto_some rfl ?_)); done) (by (repeat' (first | exact wkEnv_nil | refine wkEnv_cons rfl ?_ | exact wkSto_nil | refine wkSto_none ?_ | refine wkSto_some rfl ?_)); done) | (exfalso; omega) | (exact absurd hb ‹¬ BkOk b›)
      all_goals first | exact e1 | omega | rfl | exact ⟨Nat.le_refl _, Nat.le_refl _, Nat.le_refl _⟩ | trace_state
  · rw [show tickR b = (⟨0, 0, [], []⟩, [], 1) by unfold tickR; rw [if_neg hb]]
    conv => arg 4; whnf
    refine Run.call0 (sbookOk_ok b hw) rfl (.go 5000 ?_)
    rw [decide_eq_false hb]
    conv => arg 4; whnf
    refine Run.cond0 (fun _ => ?_) (fun h => by cases h)
    refine Run.to [1, 0, 1, 0, 1, 1] 5000 ?_
    conv => arg 4; whnf
    refine Run.less ⟨[(.t 2 0, .t 2 0), (.t 10 0, .t 1000 2)], [(.t 1000 0, .mv), (.t 1000 1, .int .i64)], []⟩ (env' := [(2, .one (.ptr (.t 2 0) 0)), (3, .one (.own (.t 1000 2))), (4, .one (.int .i64 1))]) (sto' := [(.t 2 0, some (.cells [.int .i64 0, .int .i64 0, .own (.t 1000 0), .own (.t 1000 1)])), (.t 1000 0, some (.row .mv [])), (.t 1000 1, some (.row (.int .i64) [])), (.t 1000 2, some (.row .str []))]) (.go 5000 ?_) rfl (by (repeat' (first | exact wkEnv_nil | refine wkEnv_cons rfl ?_ | exact wkSto_nil | refine wkSto_none ?_ | refine wkSto_some rfl ?_)); done) (by (repeat' (first | exact wkEnv_nil | refine wkEnv_cons rfl ?_ | exact wkSto_nil | refine wkSto_none ?_ | refine wkSto_some rfl ?_)); done)
    repeat' (conv => arg 4; whnf); first | refine Run.ret ⟨?_, rfl⟩ | refine Run.condT ?_ | refine Run.condf ?_ | refine Run.condD (fun h => ?_) (fun h => ?_) | refine Run.condN (fun h => ?_) (fun h => ?_) | refine Run.condE (fun h => ?_) (fun h => ?_) | refine Run.condF (fun h => ?_) (fun h => ?_) | refine Run.condM (fun h => ?_) (fun h => ?_) | refine Run.condB (fun h => ?_) (fun h => ?_) | refine Run.check1 ?_
    all_goals rfl
end Go.Proofs.YtlmdbeegmgfpnaaGreatDoor.AM

/- StripTick of the program; condition: the ticks are of 64 bits. -/
namespace Go.Proofs.YtlmdbeegmgfpnaaGreatDoor.AM
open Go.AM Go.RowKit
set_option linter.unusedVariables false
set_option linter.unusedSimpArgs false
set_option maxRecDepth 100000

theorem tick_ok (b : Bk) (hl : b.ms.length ≤ 1048576) (ht : b.ts.length ≤ 1048576) (hw : TkWf b.ts) :
    Ok P 65 [b.lent] [] (.tup [(tickR b).1.own (.k 0) (.k 1), .one (.own (.k 2)), .one (.int .i64 (tickR b).2.2)]) [some (.row .mv (tickR b).1.ms), some (.row (.int .i64) (tickR b).1.ts), some (.row .str (tickR b).2.1)] := by
  refine Ok.of_run (F := mk Tryz.f65 0) Tryz.func65 rfl rfl tabOk mixed rfl rfl rfl rfl rfl (Nat.le_of_ble_eq_true rfl) (Nat.le_of_ble_eq_true rfl) (.go 5000 ?_)
  by_cases hb : BkOk b
  · by_cases hn : b.now = 10000
    · rw [show tickR b = (b, [], 2) by unfold tickR; rw [if_pos hb, if_pos hn]]
      conv => arg 4; whnf
      refine Run.call0 (bookOk_ok b hw) rfl (.go 5000 ?_)
      conv => arg 4; whnf
      refine Run.condN (fun h => absurd hb h) (fun _ => ?_)
      conv => arg 4; whnf
      refine Run.cond0 (fun _ => ?_) (fun h => absurd hn (by simpa using h))
      refine Run.go 5000 ?_
      conv => arg 4; whnf
      refine Run.call0 (copyBook_ok b hl ht) rfl (Run.to [1, 0, 1, 0, 1, 1] 5000 ?_)
      conv => arg 4; whnf
      refine Run.less ⟨[(.t 2 0, .t 2 0), (.t 17 0, .t 1000 0), (.t 17 1, .t 1000 1)], [(.t 1000 2, .str)], []⟩ (env' := [(2, .one (.ptr (.t 2 0) 0)), (3, .one (.own (.t 1000 2))), (4, .one (.int .i64 2))]) (sto' := [(.t 2 0, some (.cells [.int .i64 b.now, .int .i64 b.shift, .own (.t 1000 0), .own (.t 1000 1)])), (.t 1000 0, some (.row .mv b.ms)), (.t 1000 1, some (.row (.int .i64) b.ts)), (.t 1000 2, some (.row .str []))]) (.go 5000 ?_) rfl (by (repeat' (first | exact wkEnv_nil | refine wkEnv_cons rfl ?_ | exact wkSto_nil | refine wkSto_none ?_ | refine wkSto_some rfl ?_)); done) (by (repeat' (first | exact wkEnv_nil | refine wkEnv_cons rfl ?_ | exact wkSto_nil | refine wkSto_none ?_ | refine wkSto_some rfl ?_)); done)
      repeat' (conv => arg 4; whnf); first | refine Run.ret ⟨?_, rfl⟩ | refine Run.condT ?_ | refine Run.condf ?_ | refine Run.condD (fun h => ?_) (fun h => ?_) | refine Run.condN (fun h => ?_) (fun h => ?_) | refine Run.condE (fun h => ?_) (fun h => ?_) | refine Run.condF (fun h => ?_) (fun h => ?_) | refine Run.condM (fun h => ?_) (fun h => ?_) | refine Run.condB (fun h => ?_) (fun h => ?_) | refine Run.check1 ?_
      all_goals rfl
    · rw [show tickR b = (⟨b.now + 1, b.shift, (tickF b).1, (tickF b).2.1⟩, (tickF b).2.2, 0) by unfold tickR; rw [if_pos hb, if_neg hn]]
      have hnow := hb.1
      have h6 := hb.2.2.1.1.1
      have hlen := hb.2.2.1.2.1
      have e1 : wrap64 (b.now + 1) = b.now + 1 := wrap_eq (by omega) (by omega)
      have e5 : wrap64 (b.now + 1 + 4) = b.now + 1 + 4 := wrap_eq (by omega) (by omega)
      have loop : ∀ (d i : Nat) (z y : Int) (s1 : List Mv) (s2 : List Int) (s3 : List ByteArray), z = i → y = b.now + 1 → i + d = b.ms.length → Len3 i (s1, s2, s3) → foldFrom (tickStep b) i d (s1, s2, s3) = tickF b →
          Run P (mk Tryz.f65 0) (fun v st => v = .tup [Bk.own ⟨b.now + 1, b.shift, (tickF b).1, (tickF b).2.1⟩ (.k 0) (.k 1), .one (.own (.k 2)), .one (.int .i64 0)] ∧ st = [some (.row .mv (tickF b).1), some (.row (.int .i64) (tickF b).2.1), some (.row .str (tickF b).2.2)])
            (.loop ⟨[(1, .one (.ptr (.t 1 0) 0)), (2, .one (.ptr (.t 2 0) 0)), (5, .one (.ptr (.t 5 0) 0)), (6, .one (.own (.t 1000 2))), (26, .one (.lst .mv b.ms false)), (27, .one (.int .i64 (b.ms.length : Int))), (28, .one (.int .i64 z))],
              [(.t 1 0, some (.cells b.lent.atoms)), (.t 2 0, some (.cells [.int .i64 0, .int .i64 0, .nil, .nil])), (.t 5 0, some (.cells [.int .i64 y, .int .i64 b.shift, .own (.t 1000 0), .own (.t 1000 1)])), (.t 1000 0, some (.row .mv s1)), (.t 1000 1, some (.row (.int .i64) s2)), (.t 1000 2, some (.row .str s3))], [.lp [0, 1, 0, 1, 1, 1, 1, 1], .blk 0, .code [1, 1, 1, 1, 1, 1]], none⟩) := by
        intro d
        induction d with
        | zero =>
          intro i z y s1 s2 s3 hz hy hd hc he
          subst hz; subst hy
          rw [← he]
          refine Run.loop ?_
          repeat' (conv => arg 4; whnf); first | refine Run.ret ⟨?_, rfl⟩ | refine Run.condT ?_ | refine Run.condf ?_ | refine Run.condD (fun h => ?_) (fun h => ?_) | refine Run.condN (fun h => ?_) (fun h => ?_) | refine Run.condE (fun h => ?_) (fun h => ?_) | refine Run.condF (fun h => ?_) (fun h => ?_) | refine Run.condM (fun h => ?_) (fun h => ?_) | refine Run.condB (fun h => ?_) (fun h => ?_) | refine Run.check1 ?_ | (exfalso; omega)
          all_goals first | rfl | (exfalso; omega) | trace_state
        | succ d ih =>
          intro i z y s1 s2 s3 hz hy hd hc he
          subst hz; subst hy
          have e : wrap64 ((i : Int) + 1) = ((i + 1 : Nat) : Int) := wrap_eq (by omega) (by omega)
          have hc' := len3_step (b := b) hc
          have he' : foldFrom (tickStep b) (i + 1) d (tickStep b i (s1, s2, s3)) = tickF b := he
          have st1 : tk b.ts i = b.now → tickStep b i (s1, s2, s3) = (s1, s2, s3 ++ [(at' b.ms i).f0]) := fun q => by unfold tickStep; rw [if_pos q]
          have st2 : ¬ tk b.ts i = b.now → tk b.ts i < b.now + 1 + 4 → tickStep b i (s1, s2, s3) = (s1 ++ [{ at' b.ms i with f5 := tk b.ts i }], s2 ++ [tk b.ts i], s3) := fun q q' => by unfold tickStep soon; rw [if_neg q, if_pos q']
          have st3 : ¬ tk b.ts i = b.now → ¬ tk b.ts i < b.now + 1 + 4 → tickStep b i (s1, s2, s3) = (s1 ++ [at' b.ms i], s2 ++ [tk b.ts i], s3) := fun q q' => by unfold tickStep soon; rw [if_neg q, if_neg q']
          obtain ⟨c1, c2, c3⟩ := hc
          simp only at c1 c2 c3
          refine Run.loop ?_
          repeat' (conv => arg 4; whnf); first | refine Run.ret ⟨?_, rfl⟩ | refine Run.condT ?_ | refine Run.condf ?_ | refine Run.condD (fun h => ?_) (fun h => ?_) | refine Run.condN (fun h => ?_) (fun h => ?_) | refine Run.condE (fun h => ?_) (fun h => ?_) | refine Run.condF (fun h => ?_) (fun h => ?_) | refine Run.condM (fun h => ?_) (fun h => ?_) | refine Run.condB (fun h => ?_) (fun h => ?_) | refine Run.check1 ?_ | refine Run.need1 (by simp only [allP, true_and, and_true, List.length_cons, List.length_nil]; omega) ?_ | refine Run.round ⟨[(.t 1 0, .t 1 0), (.t 2 0, .t 2 0), (.t 5 0, .t 5 0), (.t 1000 0, .t 1000 0), (.t 1000 1, .t 1000 1), (.t 45 0, .t 1000 2)], [], []⟩ (ih (i + 1) _ _ _ _ _ e rfl (by omega) ?_ ?_) rfl (by (repeat' (first | exact wkEnv_nil | refine wkEnv_cons rfl ?_ | exact wkSto_nil | refine wkSto_none ?_ | refine wkSto_some rfl ?_)); done) (by (repeat' (first | exact wkEnv_nil | refine wkEnv_cons rfl ?_ | exact wkSto_nil | refine wkSto_none ?_ | refine wkSto_some rfl ?_)); done) | refine Run.round ⟨[(.t 1 0, .t 1 0), (.t 2 0, .t 2 0), (.t 5 0, .t 5 0), (.t 65 0, .t 1000 0), (.t 75 0, .t 1000 1), (.t 1000 2, .t 1000 2)], [], []⟩ (ih (i + 1) _ _ _ _ _ e rfl (by omega) ?_ ?_) rfl (by (repeat' (first | exact wkEnv_nil | refine wkEnv_cons rfl ?_ | exact wkSto_nil | refine wkSto_none ?_ | refine wkSto_some rfl ?_)); done) (by (repeat' (first | exact wkEnv_nil | refine wkEnv_cons rfl ?_ | exact wkSto_nil | refine wkSto_none ?_ | refine wkSto_some rfl ?_)); done) | (exfalso; omega)
          all_goals (simp only [rd_nat, rdM_nat, e5] at *)
          all_goals first
            | (exfalso; omega)
            | (rw [st1 (by omega)] at hc' he'
               first | exact hc' | exact he')
            | (rw [st2 (by omega) (by omega)] at hc' he'
               first | exact hc' | exact he')
            | (rw [st3 (by omega) (by omega)] at hc' he'
               first | exact hc' | exact he')
            | trace_state
      repeat' (conv => arg 4; whnf); first | refine Run.ret ⟨?_, rfl⟩ | refine Run.condT ?_ | refine Run.condf ?_ | refine Run.condD (fun h => ?_) (fun h => ?_) | refine Run.condN (fun h => ?_) (fun h => ?_) | refine Run.condE (fun h => ?_) (fun h => ?_) | refine Run.condF (fun h => ?_) (fun h => ?_) | refine Run.condM (fun h => ?_) (fun h => ?_) | refine Run.condB (fun h => ?_) (fun h => ?_) | refine Run.check1 ?_ | refine Run.call (bookOk_ok _ hw) rfl ?_ | refine Run.round ⟨[(.t 1 0, .t 1 0), (.t 2 0, .t 2 0), (.t 5 0, .t 5 0), (.t 24 0, .t 1000 2)], [(.t 1000 0, .mv), (.t 1000 1, .int .i64)], []⟩ (loop b.ms.length 0 _ _ _ _ _ rfl ?_ ?_ ?_ ?_) rfl (by (repeat' (first | exact wkEnv_nil | refine wkEnv_cons rfl ?_ | exact wkSto_nil | refine wkSto_none ?_ | refine wkSto_some rfl ?_)); done) (by (repeat' (first | exact wkEnv_nil | refine wkEnv_cons rfl ?_ | exact wkSto_nil | refine wkSto_none ?_ | refine wkSto_some rfl ?_)); done) | (exact absurd ‹b.now = 10000› hn) | (exact absurd hb ‹¬ BkOk b›)
      all_goals first | exact e1 | omega | rfl | exact ⟨Nat.le_refl _, Nat.le_refl _, Nat.le_refl _⟩ | trace_state
  · rw [show tickR b = (⟨0, 0, [], []⟩, [], 1) by unfold tickR; rw [if_neg hb]]
    conv => arg 4; whnf
    refine Run.call0 (bookOk_ok b hw) rfl (.go 5000 ?_)
    rw [decide_eq_false hb]
    conv => arg 4; whnf
    refine Run.cond0 (fun _ => ?_) (fun h => by cases h)
    refine Run.to [1, 0, 1, 0, 1] 5000 ?_
    conv => arg 4; whnf
    refine Run.less ⟨[(.t 2 0, .t 2 0)], [(.t 1000 0, .mv), (.t 1000 1, .int .i64), (.t 1000 2, .str)], []⟩ (env' := [(2, .one (.ptr (.t 2 0) 0)), (3, .one (.own (.t 1000 2))), (4, .one (.int .i64 1))]) (sto' := [(.t 2 0, some (.cells [.int .i64 0, .int .i64 0, .own (.t 1000 0), .own (.t 1000 1)])), (.t 1000 0, some (.row .mv [])), (.t 1000 1, some (.row (.int .i64) [])), (.t 1000 2, some (.row .str []))]) (.go 5000 ?_) rfl (by (repeat' (first | exact wkEnv_nil | refine wkEnv_cons rfl ?_ | exact wkSto_nil | refine wkSto_none ?_ | refine wkSto_some rfl ?_)); done) (by (repeat' (first | exact wkEnv_nil | refine wkEnv_cons rfl ?_ | exact wkSto_nil | refine wkSto_none ?_ | refine wkSto_some rfl ?_)); done)
    repeat' (conv => arg 4; whnf); first | refine Run.ret ⟨?_, rfl⟩ | refine Run.condT ?_ | refine Run.condf ?_ | refine Run.condD (fun h => ?_) (fun h => ?_) | refine Run.condN (fun h => ?_) (fun h => ?_) | refine Run.condE (fun h => ?_) (fun h => ?_) | refine Run.condF (fun h => ?_) (fun h => ?_) | refine Run.condM (fun h => ?_) (fun h => ?_) | refine Run.condB (fun h => ?_) (fun h => ?_) | refine Run.check1 ?_
    all_goals rfl
end Go.Proofs.YtlmdbeegmgfpnaaGreatDoor.AM

/- Plain models: the program's insertion sort; no condition. -/
namespace Go.AM
set_option linter.unusedVariables false
set_option linter.unusedSimpArgs false
open Go.RowKit

theorem wayRow_perm {α : Type} {pre : List α} {x : α} {rest : List α} {j : Nat} : (wayRow pre x rest j).Perm (pre ++ x :: rest) := by
  unfold wayRow
  refine List.perm_middle.trans ?_
  rw [← List.append_assoc, List.take_append_drop]
  exact List.perm_middle.symm
theorem wayRow_start {α : Type} {pre : List α} {x : α} {rest : List α} {j : Nat} (h : pre.length = j) : wayRow pre x rest j = pre ++ x :: rest := by
  unfold wayRow
  rw [List.take_of_length_le (by omega), List.drop_of_length_le (by omega)]
  rfl
theorem drop_getD {α : Type} {xs : List α} {i : Nat} (d : α) (h : i < xs.length) : xs.drop i = xs.getD i d :: xs.drop (i + 1) := by
  rw [List.drop_eq_getElem_cons h, List.getD_eq_getElem?_getD, List.getElem?_eq_getElem h]
  rfl
/-- The row with its first i sorted. -/
def sortedRow {α : Type} (lt : α → α → Bool) (d : α) (xs : List α) (i : Nat) : List α := isort lt d xs i ++ xs.drop i
theorem sortedRow_zero {α : Type} {lt : α → α → Bool} {d : α} {xs : List α} : sortedRow lt d xs 0 = xs := rfl
theorem sortedRow_all {α : Type} {lt : α → α → Bool} {d : α} {xs : List α} : sortedRow lt d xs xs.length = isort lt d xs xs.length := by
  unfold sortedRow
  rw [List.drop_length, List.append_nil]
theorem sortedRow_one {α : Type} {lt : α → α → Bool} {d : α} {xs : List α} (h : 1 ≤ xs.length) : sortedRow lt d xs 1 = xs := by
  unfold sortedRow
  rw [isort_succ]
  show insA _ _ (isort lt d xs 0) ++ _ = _
  match xs, h with
  | x :: xs, _ => simp [isort, foldFrom, insA]
theorem sortedRow_start {α : Type} {lt : α → α → Bool} {d : α} {xs : List α} {i : Nat} (h : i < xs.length) : sortedRow lt d xs i = wayRow (isort lt d xs i) (xs.getD i d) (xs.drop (i + 1)) i := by
  rw [wayRow_start isort_len, sortedRow, drop_getD d h]
theorem sortedRow_end {α : Type} {lt : α → α → Bool} (hs : Srt lt) {d : α} {xs : List α} {i j : Nat} (h : i < xs.length) (hj : j ≤ i) (hb : ∀ q, j ≤ q → q < i → lt (xs.getD i d) ((isort lt d xs i).getD q d) = true) (ha : 0 < j → lt (xs.getD i d) ((isort lt d xs i).getD (j - 1) d) = false) :
    wayRow (isort lt d xs i) (xs.getD i d) (xs.drop (i + 1)) j = sortedRow lt d xs (i + 1) := by
  rw [wayRow_end hs (d := d) (isort_sorted hs) (by rw [isort_len]; exact hj) (fun q h1 h2 => hb q h1 (by rw [isort_len] at h2; exact h2)) ha]
  unfold sortedRow
  rw [isort_succ]
  rfl
theorem way_xs {α : Type} {lt : α → α → Bool} {d : α} {xs : List α} {i j : Nat} (h : i < xs.length) : (wayRow (isort lt d xs i) (xs.getD i d) (xs.drop (i + 1)) j).Perm xs := by
  refine wayRow_perm.trans ?_
  rw [← drop_getD d h]
  refine (List.Perm.append_right _ (isort_perm (by omega))).trans ?_
  rw [List.take_append_drop]
theorem way_swap {α : Type} {pre : List α} {x d : α} {rest : List α} {j : Nat} (hj : j + 1 ≤ pre.length) : swapL d (wayRow pre x rest (j + 1)) (j + 1) j = wayRow pre x rest j := by
  unfold swapL
  have hjl : j < pre.length := by omega
  rw [wayRow_here (by omega), wayRow_ahead (Nat.lt_succ_self j) (by omega)]
  refine wayRow_swap hj ?_
  rw [List.getD_eq_getElem?_getD, List.getElem?_eq_getElem hjl]
  rfl
theorem wrap_pred {z : Int} {j : Nat} (h : z = ((j + 1 : Nat) : Int)) (hj : j < 4611686018427387904) : wrap64 (z - 1) = (j : Int) := by
  subst h
  exact (wrap_eq (by omega) (by omega)).trans (by omega)
end Go.AM

/- Plain facts behind the reference's draws; no condition. -/
namespace Go.AM
set_option linter.unusedVariables false
set_option linter.unusedSimpArgs false
open Go.RowKit

def Bytes (s : List Int) : Prop := ∀ x ∈ s, 0 ≤ x ∧ x < 256
theorem bytes_of {s : List Int} (h : ∀ z ∈ s, (Lit.int .u8 z).wf = true) : Bytes s := fun x hx => by
  have := bounds_u8 (h x hx)
  omega
theorem rd_byte {s : List Int} (hs : Bytes s) {i : Int} (h0 : 0 ≤ i) (h1 : i < s.length) : 0 ≤ rd s i ∧ rd s i < 256 := by
  have hi : i.toNat < s.length := by omega
  unfold rd
  rw [List.getD_eq_getElem?_getD, List.getElem?_eq_getElem hi, Option.getD_some]
  exact hs _ (List.getElem_mem hi)
theorem xor_nn {a b : Int} (h0 : 0 ≤ a) (ha : a < 9223372036854775808) (h1 : 0 ≤ b) (hb : b < 9223372036854775808) : 0 ≤ wrap64 ((BitVec.ofInt 64 a ^^^ BitVec.ofInt 64 b).toNat : Int) := by
  obtain ⟨a, rfl⟩ := Int.eq_ofNat_of_zero_le h0
  obtain ⟨b, rfl⟩ := Int.eq_ofNat_of_zero_le h1
  have hx : a ^^^ b < 2 ^ 63 := Nat.xor_lt_two_pow (by omega) (by omega)
  have e1 : (BitVec.ofInt 64 (a : Int)).toNat = a := by
    rw [BitVec.ofInt_natCast, BitVec.toNat_ofNat]; exact Nat.mod_eq_of_lt (by omega)
  have e2 : (BitVec.ofInt 64 (b : Int)).toNat = b := by
    rw [BitVec.ofInt_natCast, BitVec.toNat_ofNat]; exact Nat.mod_eq_of_lt (by omega)
  rw [BitVec.toNat_xor, e1, e2, wrap_eq (by omega) (by omega)]
  omega
theorem tm {x n : Int} (hx : 0 ≤ x) (hn : ¬ n < 1) : (1 ≤ n → 0 ≤ Int.tmod x n ∧ Int.tmod x n < n) ∧ (n < 1 → Int.tmod x n = 0) :=
  ⟨fun h => ⟨Int.tmod_nonneg _ hx, Int.tmod_lt_of_pos _ (by omega)⟩, fun h => absurd h hn⟩
/-- What 'pick' reads past the code's end. -/
theorem pick_big {s : List Int} (hs : Bytes s) {p : Int} (h0 : 0 ≤ p) (h1 : p < 1099511627776) (hl : (s.length : Int) ≠ 0) :
    (0 ≤ Int.tmod p s.length ∧ Int.tmod p s.length < s.length) ∧ (0 ≤ Int.tmod (wrap64 (wrap64 (p * 7) + 3)) s.length ∧ Int.tmod (wrap64 (wrap64 (p * 7) + 3)) s.length < s.length) ∧
    ∀ x, x = wrap64 (wrap64 (wrap64 (wrap64 (wrap64 (rd s (Int.tmod p s.length)) * 131) + wrap64 (wrap64 (rd s (Int.tmod (wrap64 (wrap64 (p * 7) + 3)) s.length)) * 1117)) + wrap64 (p * 29)) + wrap64 (wrap64 (Int.tdiv p s.length) * 53)) →
      0 ≤ wrap64 ((BitVec.ofInt 64 x ^^^ BitVec.ofInt 64 (wrap64 (Int.tdiv x 64))).toNat : Int) := by
  have hln : (0 : Int) < s.length := by omega
  have ha : 0 ≤ Int.tmod p s.length ∧ Int.tmod p s.length < s.length := ⟨Int.tmod_nonneg _ h0, Int.tmod_lt_of_pos _ hln⟩
  have hq : wrap64 (wrap64 (p * 7) + 3) = p * 7 + 3 := by rw [wrap_eq (x := p * 7) (by omega) (by omega)]; exact wrap_eq (by omega) (by omega)
  rw [hq]
  have hc : 0 ≤ Int.tmod (p * 7 + 3) s.length ∧ Int.tmod (p * 7 + 3) s.length < s.length := ⟨Int.tmod_nonneg _ (by omega), Int.tmod_lt_of_pos _ hln⟩
  refine ⟨ha, hc, fun x hx => ?_⟩
  have r1 := rd_byte hs ha.1 ha.2
  have r2 := rd_byte hs hc.1 hc.2
  have hd : 0 ≤ Int.tdiv p s.length ∧ Int.tdiv p s.length ≤ p := ⟨Int.tdiv_nonneg h0 (by omega), by rw [Int.tdiv_eq_ediv_of_nonneg h0]; exact Int.ediv_le_self _ h0⟩
  generalize rd s (Int.tmod p s.length) = b1 at r1 hx
  generalize rd s (Int.tmod (p * 7 + 3) s.length) = b2 at r2 hx
  generalize Int.tdiv p s.length = d at hd hx
  rw [wrap_eq (x := b1) (by omega) (by omega), wrap_eq (x := b2) (by omega) (by omega), wrap_eq (x := d) (by omega) (by omega), wrap_eq (x := b1 * 131) (by omega) (by omega), wrap_eq (x := b2 * 1117) (by omega) (by omega), wrap_eq (x := p * 29) (by omega) (by omega), wrap_eq (x := d * 53) (by omega) (by omega),
    wrap_eq (x := b1 * 131 + b2 * 1117) (by omega) (by omega), wrap_eq (x := b1 * 131 + b2 * 1117 + p * 29) (by omega) (by omega), wrap_eq (x := b1 * 131 + b2 * 1117 + p * 29 + d * 53) (by omega) (by omega)] at hx
  have hdv : 0 ≤ Int.tdiv x 64 ∧ Int.tdiv x 64 < 9223372036854775808 := by
    rw [Int.tdiv_eq_ediv_of_nonneg (by omega)]; omega
  rw [wrap_eq (x := Int.tdiv x 64) (by omega) (by omega)]
  exact xor_nn (by omega) (by omega) hdv.1 hdv.2
theorem w64_wrap (x : Int) : W64 (wrap64 x) := by unfold W64 wrap64; omega
theorem w64_lit {x : Int} (h : -9223372036854775808 ≤ x ∧ x ≤ 9223372036854775807) : W64 x := h
/-- What is known of a move that is drawn. -/
def MvD (m : Mv) : Prop := m.f0.size ≤ 1000 ∧ W64 m.f2 ∧ W64 m.f3 ∧ W64 m.f4 ∧ W64 m.f5
def MvsD (l : List Mv) : Prop := ∀ z ∈ l, MvD z
theorem mvsD_nil : MvsD [] := fun z h => by cases h
theorem mvsD_app {l : List Mv} {m : Mv} (h : MvsD l) (hm : MvD m) : MvsD (l ++ [m]) := fun z hz => by
  rcases List.mem_append.1 hz with h1 | h1
  · exact h z h1
  · rw [List.mem_singleton.1 h1]; exact hm
theorem mvsD_set {l : List Mv} {m : Mv} (h : MvsD l) (hm : MvD m) (i : Nat) : MvsD (l.set i m) := fun z hz => by
  rcases List.mem_or_eq_of_mem_set hz with h1 | h1
  · exact h z h1
  · rw [h1]; exact hm
theorem mvsD_rd {l : List Mv} (h : MvsD l) {i : Int} (h0 : 0 ≤ i) (h1 : i < l.length) : MvD (rdM l i) := by
  have hi : i.toNat < l.length := by omega
  unfold rdM
  rw [List.getD_eq_getElem?_getD, List.getElem?_eq_getElem hi, Option.getD_some]
  exact h _ (List.getElem_mem hi)
theorem mvE {a : ByteArray} {b : Bool} {c d e f : Int} : V.agg [.str a, .bool b, .int .i64 c, .int .i64 d, .int .i64 e, .int .i64 f] = V.agg (encMv ⟨a, b, c, d, e, f⟩) := rfl
def W64L (l : List Int) : Prop := ∀ z ∈ l, W64 z
theorem w64l_nil : W64L [] := fun z h => by cases h
theorem w64l_cons {a : Int} {l : List Int} (h : W64 a) (k : W64L l) : W64L (a :: l) := fun z hz => by
  rcases List.mem_cons.1 hz with rfl | hz
  · exact h
  · exact k z hz
theorem w64l_app {l k : List Int} (h : W64L l) (h' : W64L k) : W64L (l ++ k) := fun z hz => by
  rcases List.mem_append.1 hz with h1 | h1
  · exact h z h1
  · exact h' z h1
theorem w64l_take {l : List Int} (h : W64L l) (n : Nat) : W64L (l.take n) := fun z hz => h z (List.mem_of_mem_take hz)
theorem w64l_drop {l : List Int} (h : W64L l) (n : Nat) : W64L (l.drop n) := fun z hz => h z (List.mem_of_mem_drop hz)
theorem w64l_set {l : List Int} (h : W64L l) {a : Int} (ha : W64 a) (i : Nat) : W64L (l.set i a) := fun z hz => by
  rcases List.mem_or_eq_of_mem_set hz with h1 | h1
  · exact h z h1
  · rw [h1]; exact ha
theorem w64_rd {l : List Int} (h : W64L l) (i : Int) : W64 (rd l i) := by
  unfold rd
  rw [List.getD_eq_getElem?_getD]
  cases e : l[i.toNat]? with
  | none => exact w64_lit (by simp)
  | some x => exact h x (List.mem_of_getElem? e)
def Txt (l : List ByteArray) : Prop := ∀ z ∈ l, z.size ≤ 1000
theorem txt_rd {l : List ByteArray} (h : Txt l) (i : Int) : (rdS l i).size ≤ 1000 := by
  unfold rdS
  rw [List.getD_eq_getElem?_getD]
  cases e : l[i.toNat]? with
  | none => simp
  | some x => exact h x (List.mem_of_getElem? e)
end Go.AM

/- Plain laws: ticks in an order fit, come in this order, and none can be earlier; ticks that fit give an order; no condition. -/
namespace Go.AM
set_option linter.unusedVariables false
set_option linter.unusedSimpArgs false
open Go.RowKit

theorem tk_set {ts : List Int} {p q : Nat} {u : Int} (hq : q < ts.length) : tk (ts.set p u) q = if p = q then u else tk ts q := by
  unfold tk
  rw [getD_set]
  by_cases e : p = q
  · rw [if_pos ⟨e, hq⟩, if_pos e]
  · rw [if_neg (fun h => e h.1), if_neg e]
theorem pl_inj {o : List Int} (h : IsOrd o) {i j : Nat} (hi : i < o.length) (hj : j < o.length) (e : pl o i = pl o j) : i = j := by
  refine ord_inj h hi hj ?_
  have h1 := (pl_lt h hi).2
  have h2 := (pl_lt h hj).2
  omega
theorem pl_onto {o : List Int} (h : IsOrd o) {v : Nat} (hv : v < o.length) : ∃ j, j < o.length ∧ pl o j = v := by
  obtain ⟨j, hj, e⟩ := ord_onto h v hv
  exact ⟨j, hj, by unfold pl; rw [e]; rfl⟩
/-- The least tick, said plainly. -/
def LeastP (l : List Mv) (o ts : List Int) (m : Mv) (i : Nat) (t : Int) : Prop :=
  m.f3 ≤ t ∧ (∀ q, q < i → tk ts (pl o q) + gap (at' l (pl o q)) m ≤ t) ∧ (t = m.f3 ∨ ∃ q, q < i ∧ t = tk ts (pl o q) + gap (at' l (pl o q)) m)
theorem least_spec (l : List Mv) (o ts : List Int) (m : Mv) (i : Nat) : LeastP l o ts m i (foldFrom (lStep l o ts m) 0 i m.f3) := by
  have := foldFrom_inv (step := lStep l o ts m) (LeastP l o ts m) (n := i) (fun q t hq h => by
    obtain ⟨h1, h2, h3⟩ := h
    unfold lStep
    refine ⟨by omega, fun q' hq' => ?_, ?_⟩
    · by_cases e : q' = q
      · subst e; omega
      · have := h2 q' (by omega); omega
    · rcases Int.le_total (tk ts (pl o q) + gap (at' l (pl o q)) m) t with hle | hle
      · rw [Int.max_eq_left hle]
        rcases h3 with h3 | ⟨q', hq', e⟩
        · exact .inl h3
        · exact .inr ⟨q', by omega, e⟩
      · rw [Int.max_eq_right hle]
        exact .inr ⟨q, by omega, rfl⟩) i 0 m.f3 (by omega) ⟨Int.le_refl _, fun q hq => by omega, .inl rfl⟩
  simpa using this
/-- What holds of the first i ticks. -/
structure OrdI (l : List Mv) (o : List Int) (i : Nat) (ts : List Int) : Prop where
  len : ts.length = l.length
  inr : ∀ j, j < i → InR l ts (pl o j)
  far : ∀ j k, j < k → k < i → tk ts (pl o j) + gap (at' l (pl o j)) (at' l (pl o k)) ≤ tk ts (pl o k)
  tight : ∀ k, k < i → (at' l (pl o k)).f5 < 0 → tk ts (pl o k) = (at' l (pl o k)).f3 ∨ ∃ j, j < k ∧ tk ts (pl o k) = tk ts (pl o j) + gap (at' l (pl o j)) (at' l (pl o k))
theorem tickOf_spec {m : Mv} {t u : Int} (h : tickOf m t = some u) (hm : m.f3 ≤ t) : t ≤ u ∧ m.f3 ≤ u ∧ u ≤ m.f4 ∧ (0 ≤ m.f5 → u = m.f5) ∧ (m.f5 < 0 → u = t) := by
  unfold tickOf at h
  (repeat' split at h) <;> simp at h <;> omega
theorem ordI_step {l : List Mv} {o : List Int} (ho : IsOrd o) (hlen : o.length = l.length) {i : Nat} (hi : i < l.length) {ts : List Int} (h : OrdI l o i ts) {u : Int} (hu : tickOf (at' l (pl o i)) (leastT l o ts i) = some u) : OrdI l o (i + 1) (ts.set (pl o i) u) := by
  obtain ⟨l1, l2, l3⟩ := least_spec l o ts (at' l (pl o i)) i
  obtain ⟨u1, u2, u3, u4, u5⟩ := tickOf_spec hu l1
  have hp : ∀ j, j < l.length → pl o j < ts.length := fun j hj => by have := (pl_lt ho (show j < o.length by omega)).1; have := h.len; omega
  have old : ∀ j, j < i → tk (ts.set (pl o i) u) (pl o j) = tk ts (pl o j) := fun j hj => by
    rw [tk_set (hp j (by omega)), if_neg]
    intro e
    have := pl_inj ho (by omega) (by omega) e
    omega
  have new : tk (ts.set (pl o i) u) (pl o i) = u := by rw [tk_set (hp i hi), if_pos rfl]
  refine ⟨by rw [List.length_set]; exact h.len, fun j hj => ?_, fun j k hjk hk => ?_, fun k hk hf => ?_⟩
  · by_cases e : j = i
    · subst e
      unfold InR
      rw [new]
      exact ⟨⟨u2, u3⟩, u4⟩
    · unfold InR
      rw [old j (by omega)]
      exact h.inr j (by omega)
  · by_cases e : k = i
    · subst e
      rw [new, old j hjk]
      have := l2 j hjk
      unfold leastT at u1
      omega
    · rw [old k (by omega), old j (by omega)]
      exact h.far j k hjk (by omega)
  · by_cases e : k = i
    · subst e
      rw [new]
      rcases l3 with l3 | ⟨q, hq, e⟩
      · exact .inl ((u5 hf).trans l3)
      · exact .inr ⟨q, hq, by rw [old q hq]; exact (u5 hf).trans e⟩
    · rw [old k (by omega)]
      rcases h.tight k (by omega) hf with t | ⟨q, hq, e⟩
      · exact .inl t
      · exact .inr ⟨q, hq, by rw [old q (by omega)]; exact e⟩
theorem ordFrom_I {l : List Mv} {o : List Int} (ho : IsOrd o) (hlen : o.length = l.length) : ∀ (d i : Nat) (ts : List Int), i + d = l.length → OrdI l o i ts → (ordFrom l o d i ts).2 = true → OrdI l o l.length (ordFrom l o d i ts).1 := by
  intro d
  induction d with
  | zero => intro i ts hi h _; rw [show l.length = i by omega]; exact h
  | succ d ih =>
    intro i ts hi h hok
    unfold ordFrom at hok ⊢
    cases hu : tickOf (at' l (pl o i)) (leastT l o ts i) with
    | none => rw [hu] at hok; cases hok
    | some u =>
      rw [hu] at hok
      exact ih (i + 1) _ (by omega) (ordI_step ho hlen (by omega) h hu) hok
theorem ordM_I {l : List Mv} {o : List Int} (ho : IsOrd o) (hlen : o.length = l.length) (h : (ordM l o).2 = true) : OrdI l o l.length (ordM l o).1 :=
  ordFrom_I ho hlen l.length 0 _ (by omega) ⟨by simp, fun j hj => absurd hj (by omega), fun j k _ hk => absurd hk (by omega), fun k hk => absurd hk (by omega)⟩ h
theorem ordM_fits {l : List Mv} {o : List Int} (hm : MovesOk l) (ho : IsOrd o) (hlen : o.length = l.length) (h : (ordM l o).2 = true) : Fits l (ordM l o).1 := by
  have I := ordM_I ho hlen h
  refine ⟨hm, I.len, fun i hi => ?_⟩
  obtain ⟨a, ha, rfl⟩ := pl_onto ho (show i < o.length by omega)
  refine ⟨I.inr a (by omega), fun k hk hne => ?_⟩
  obtain ⟨b, hb, rfl⟩ := pl_onto ho (show k < o.length by omega)
  have g1 := gap_range (at' l (pl o a)) (at' l (pl o b))
  have g2 := gap_range (at' l (pl o b)) (at' l (pl o a))
  rcases Nat.lt_trichotomy a b with h | h | h
  · have := I.far a b h (by omega)
    exact ⟨by omega, fun _ => by omega⟩
  · exact absurd (by rw [h]) hne
  · have := I.far b a h (by omega)
    exact ⟨by omega, fun _ => by omega⟩
theorem ordM_asc {l : List Mv} {o : List Int} (ho : IsOrd o) (hlen : o.length = l.length) (h : (ordM l o).2 = true) {i : Nat} (hi : 0 < i) (hi2 : i < l.length) : tk (ordM l o).1 (pl o (i - 1)) < tk (ordM l o).1 (pl o i) := by
  have := (ordM_I ho hlen h).far (i - 1) i (by omega) hi2
  have := gap_range (at' l (pl o (i - 1))) (at' l (pl o i))
  omega
theorem ordM_tight {l : List Mv} {o : List Int} (ho : IsOrd o) (hlen : o.length = l.length) (h : (ordM l o).2 = true) {i : Nat} (hi : i < l.length) : ¬ Fits l ((ordM l o).1.set (pl o i) (tk (ordM l o).1 (pl o i) - 1)) := by
  intro hf
  have I := ordM_I ho hlen h
  have hp := (pl_lt ho (show i < o.length by omega)).1
  have new : tk ((ordM l o).1.set (pl o i) (tk (ordM l o).1 (pl o i) - 1)) (pl o i) = tk (ordM l o).1 (pl o i) - 1 := by rw [tk_set (by have := I.len; omega), if_pos rfl]
  have hin := (hf.2.2 (pl o i) (by omega)).1
  have hap := (hf.2.2 (pl o i) (by omega)).2
  unfold InR at hin
  rw [new] at hin
  have hin2 := I.inr i hi
  unfold InR at hin2
  by_cases hf5 : 0 ≤ (at' l (pl o i)).f5
  · have := hin.2 hf5
    have := hin2.2 hf5
    omega
  · rcases I.tight i hi (by omega) with t | ⟨j, hj, e⟩
    · omega
    · have hpj := (pl_lt ho (show j < o.length by omega)).1
      have hne : pl o j ≠ pl o i := fun e => by have := pl_inj ho (by omega) (by omega) e; omega
      have old : tk ((ordM l o).1.set (pl o i) (tk (ordM l o).1 (pl o i) - 1)) (pl o j) = tk (ordM l o).1 (pl o j) := by rw [tk_set (by have := I.len; omega), if_neg (fun e => hne e.symm)]
      have h1 := (hf.2.2 (pl o j) (by omega)).2 (pl o i) (by omega) (fun e => hne e.symm)
      unfold Ap at h1
      rw [new, old] at h1
      have := gap_range (at' l (pl o j)) (at' l (pl o i))
      omega
/-! ### Ticks that fit give an order -/
theorem ltT_srt {α : Type} (f : α → Int) : Srt fun a b => decide (f a < f b) := by
  constructor
  · intro a b h; simp only [decide_eq_true_eq, decide_eq_false_iff_not] at *; omega
  · intro a b c h k; simp only [decide_eq_false_iff_not] at *; omega
def byTick (t : List Int) (a b : Int) : Bool := decide (tk t a.toNat < tk t b.toNat)
/-- The order in which ticks come. -/
def ordT (t : List Int) (n : Nat) : List Int := isort (byTick t) 0 (upTo n) n
theorem ordT_ord (t : List Int) (n : Nat) : IsOrd (ordT t n) ∧ (ordT t n).length = n := by
  have := isort_perm (lt := byTick t) (d := 0) (xs := upTo n) (n := n) (by rw [upTo_len]; exact Nat.le_refl _)
  rw [List.take_of_length_le (by rw [upTo_len]; exact Nat.le_refl _)] at this
  exact ⟨isOrd_perm this (isOrd_upTo n), isort_len⟩
theorem fits_ordM {l : List Mv} {t : List Int} (hf : Fits l t) : (ordM l (ordT t l.length)).2 = true := by
  obtain ⟨ho, hlen⟩ := ordT_ord t l.length
  have hs := isort_sorted (ltT_srt fun a : Int => tk t a.toNat) (d := 0) (xs := upTo l.length) (n := l.length)
  have asc : ∀ j k, j < k → k < l.length → tk t (pl (ordT t l.length) j) ≤ tk t (pl (ordT t l.length) k) := by
    intro j k hjk hk
    have := sorted_get hs 0 hjk (by rw [isort_len]; exact hk)
    simp only [decide_eq_false_iff_not] at this
    show tk t ((isort (byTick t) 0 (upTo l.length) l.length).getD j 0).toNat ≤ tk t ((isort (byTick t) 0 (upTo l.length) l.length).getD k 0).toNat
    have e : isort (byTick t) 0 (upTo l.length) l.length = isort (fun a b : Int => decide (tk t a.toNat < tk t b.toNat)) 0 (upTo l.length) l.length := rfl
    rw [e]
    omega
  generalize ordT t l.length = o at *
  have key : ∀ (d i : Nat) (ts : List Int), i + d = l.length → ts.length = l.length → (∀ j, j < i → tk ts (pl o j) ≤ tk t (pl o j)) → (ordFrom l o d i ts).2 = true := by
    intro d
    induction d with
    | zero => intro i ts _ _ _; rfl
    | succ d ih =>
      intro i ts hi hl hle
      have hp := (pl_lt ho (show i < o.length by omega)).1
      have hfi := hf.2.2 (pl o i) (by omega)
      have hin := hfi.1
      unfold InR at hin
      obtain ⟨l1, l2, l3⟩ := least_spec l o ts (at' l (pl o i)) i
      have hleast : leastT l o ts i ≤ tk t (pl o i) := by
        unfold leastT
        rcases l3 with e | ⟨q, hq, e⟩
        · rw [e]; exact hin.1.1
        · rw [e]
          have hpq := (pl_lt ho (show q < o.length by omega)).1
          have hne : pl o i ≠ pl o q := fun e => by have := pl_inj ho (by omega) (by omega) e; omega
          have hap := (hf.2.2 (pl o q) (by omega)).2 (pl o i) (by omega) hne
          unfold Ap at hap
          have h1 := asc q i hq (by omega)
          have h2 := hle q hq
          omega
      have hmo := (mvOk_range (hf.1.2 (pl o i) (by omega)).1)
      have hu : ∃ u, tickOf (at' l (pl o i)) (leastT l o ts i) = some u ∧ u ≤ tk t (pl o i) := by
        unfold tickOf
        by_cases h5 : (at' l (pl o i)).f5 ≥ 0
        · have := hin.2 h5
          rw [if_pos h5, if_neg (by omega), if_neg (by omega)]
          exact ⟨_, rfl, by omega⟩
        · rw [if_neg h5, if_neg (by omega)]
          exact ⟨_, rfl, hleast⟩
      obtain ⟨u, e, hle2⟩ := hu
      unfold ordFrom
      rw [e]
      refine ih (i + 1) _ (by omega) (by rw [List.length_set]; exact hl) fun j hj => ?_
      have hpj := (pl_lt ho (show j < o.length by omega)).1
      rw [tk_set (by omega)]
      split
      · rename_i e2
        rw [← e2]; exact hle2
      · rename_i e2
        by_cases ej : j = i
        · exact absurd (by rw [ej]) e2
        · exact hle j (by omega)
  exact key l.length 0 _ (by omega) (by simp) (fun j hj => absurd hj (by omega))
theorem fits_w64 {l : List Mv} {t : List Int} (hf : Fits l t) : W64L t := fun z hz => by
  obtain ⟨j, hj, rfl⟩ := List.getElem_of_mem hz
  have hl := hf.2.1
  have := inR_range hf.1 (show j < l.length by omega) (hf.2.2 j (by omega)).1
  unfold tk at this
  rw [List.getD_eq_getElem?_getD, List.getElem?_eq_getElem hj, Option.getD_some] at this
  exact ⟨by omega, by omega⟩
theorem ordF_fits {l : List Mv} {o : List Int} (h : (ordF l o).2 = true) : Fits l (ordF l o).1 := by
  unfold ordF at h ⊢
  split
  · rename_i hc
    rw [if_pos hc] at h
    exact ordM_fits hc.1 hc.2.2 hc.2.1 h
  · rename_i hc
    rw [if_neg hc] at h
    cases h
theorem ordF_w64 (l : List Mv) (o : List Int) : W64L (ordF l o).1 := by
  cases h : (ordF l o).2 with
  | true => exact fits_w64 (ordF_fits h)
  | false => rw [ordF_nil l o h]; exact w64l_nil
theorem tkWf_l {t : List Int} (h : W64L t) : TkWf t := tkWf_of h
theorem gap_tri {a b c : Mv} (ha : mvOk a = true) (hb : mvOk b = true) (hc : mvOk c = true) : gap a c ≤ gap a b + gap b c := by
  obtain ⟨_, _, a1, a2, _⟩ := mvOk_range ha
  obtain ⟨_, _, b1, b2, _⟩ := mvOk_range hb
  obtain ⟨_, _, c1, c2, _⟩ := mvOk_range hc
  unfold gap
  (repeat' split) <;> omega
end Go.AM

/- Plain facts behind the best: comparing ticks, all orders in a row; no condition. -/
namespace Go.AM
set_option linter.unusedVariables false
set_option linter.unusedSimpArgs false
open Go.RowKit

def cmpFrom (a b : List Int) : Nat → Nat → Int
  | _, 0 => 0
  | i, d + 1 => if tk a i = tk b i then cmpFrom a b (i + 1) d else if tk a i < tk b i then -1 else 1
def cmpM (a b : List Int) : Int := cmpFrom a b 0 a.length
theorem cmpFrom_lt (a b : List Int) : ∀ d i, cmpFrom a b i d < 0 ↔ lexFrom a b i d = true := by
  intro d
  induction d with
  | zero => intro i; simp [cmpFrom, lexFrom]
  | succ d ih =>
    intro i
    unfold cmpFrom lexFrom
    split
    · exact ih _
    · split <;> simp [*]
theorem cmpM_lt (a b : List Int) : cmpM a b < 0 ↔ lexB a b = true := cmpFrom_lt a b _ _
theorem pos_mem (b : List Int) (v : Int) : 0 ≤ pos b v ↔ v ∈ b := by
  rcases pos_range b v with ⟨h1, h2⟩ | ⟨j, h1, h2, h3⟩
  · rw [h1]
    refine ⟨fun h => by omega, fun h => ?_⟩
    obtain ⟨j, hj, rfl⟩ := List.getElem_of_mem h
    exact absurd (by simp [List.getD_eq_getElem?_getD, List.getElem?_eq_getElem hj]) (h2 j hj)
  · refine ⟨fun _ => ?_, fun _ => by omega⟩
    rw [← h3, List.getD_eq_getElem?_getD, List.getElem?_eq_getElem h2]
    exact List.getElem_mem h2
/-- The best so far, as the program holds it. -/
def sumO (l : List Mv) : Option (List Int) → Int
  | none => 0
  | some t => (costM l t).1
def mostO (l : List Mv) : Option (List Int) → Int
  | none => 0
  | some t => (costM l t).2
def tksO : Option (List Int) → List Int
  | none => []
  | some t => t
def BestOk (l : List Mv) (s : Option (List Int)) : Prop := ∀ t, s = some t → Fits l t
theorem bestStep_ok {l : List Mv} {first : List Int} {sh : Int} {s : Option (List Int)} {o : List Int} (hm : MovesOk l) (ho : IsOrd o) (hlen : o.length = l.length) (h : BestOk l s) : BestOk l (bestStep l first sh s o) := by
  intro t ht
  unfold bestStep at ht
  split at ht
  · exact h t ht
  · split at ht
    · rename_i hok
      cases s with
      | none =>
        simp only [Option.some.injEq] at ht
        subst ht
        exact ordM_fits hm ho hlen hok
      | some b =>
        simp only at ht
        split at ht
        · simp only [Option.some.injEq] at ht
          subst ht
          exact ordM_fits hm ho hlen hok
        · exact h t ht
    · exact h t ht
theorem foldl_ok {l : List Mv} {first : List Int} {sh : Int} (hm : MovesOk l) : ∀ {os : List (List Int)} {s : Option (List Int)}, (∀ o ∈ os, o.length = l.length ∧ IsOrd o) → BestOk l s → BestOk l (os.foldl (bestStep l first sh) s)
  | [], s, _, h => h
  | o :: os, s, ho, h => foldl_ok (os := os) hm (fun x hx => ho x (List.mem_cons_of_mem _ hx)) (bestStep_ok hm (ho o List.mem_cons_self).2 (ho o List.mem_cons_self).1 h)
theorem best_ok1 {l : List Mv} (hm : MovesOk l) (sh : Int) : BestOk l (bestO l sh) := foldl_ok hm (fun o ho => allM_ord ho) (fun t h => by cases h)
def betO (l : List Mv) (t : List Int) : Option (List Int) → Bool
  | none => true
  | some b => better l t b
/-- Whether an order changes the best. -/
def chg (l : List Mv) (first : List Int) (sh : Int) (s : Option (List Int)) (o : List Int) : Bool :=
  if sh < shiftM first o then false else if (ordM l o).2 = true then betO l (ordM l o).1 s else false
theorem bestStep_chg (l : List Mv) (first : List Int) (sh : Int) (s : Option (List Int)) (o : List Int) : bestStep l first sh s o = if chg l first sh s o = true then some (ordM l o).1 else s := by
  unfold bestStep chg
  split
  · simp
  · split
    · cases s with
      | none => simp [betO]
      | some b => rfl
    · simp
def chgL (l : List Mv) (first : List Int) (sh : Int) : List (List Int) → Option (List Int) → Bool
  | [], _ => false
  | o :: os, s => chg l first sh s o || chgL l first sh os (bestStep l first sh s o)
theorem chgL_no {l : List Mv} {first : List Int} {sh : Int} : ∀ {os : List (List Int)} {s : Option (List Int)}, chgL l first sh os s = false → os.foldl (bestStep l first sh) s = s
  | [], s, _ => rfl
  | o :: os, s, h => by
    simp only [chgL, Bool.or_eq_false_iff] at h
    have e : bestStep l first sh s o = s := by rw [bestStep_chg, h.1]; rfl
    rw [e] at h
    rw [List.foldl_cons, e]
    exact chgL_no h.2
theorem chgL_app {l : List Mv} {first : List Int} {sh : Int} : ∀ {os os' : List (List Int)} {s : Option (List Int)}, chgL l first sh (os ++ os') s = (chgL l first sh os s || chgL l first sh os' (os.foldl (bestStep l first sh) s))
  | [], os', s => by simp [chgL]
  | o :: os, os', s => by
    simp only [List.cons_append, chgL, List.foldl_cons]
    rw [chgL_app, Bool.or_assoc]
/-- The orders that go on at i. -/
def extAt (n d : Nat) (ahead : List Int) (i : Nat) : List (List Int) := if ((i : Int) ∈ ahead) then [] else ext n d (ahead ++ [(i : Int)])
def extUp (n d : Nat) (ahead : List Int) (i : Nat) : List (List Int) := (List.range i).flatMap (extAt n d ahead)
theorem ext_eq (n d : Nat) (ahead : List Int) : ext n (d + 1) ahead = extUp n d ahead n := rfl
theorem extUp_succ (n d : Nat) (ahead : List Int) (i : Nat) : extUp n d ahead (i + 1) = extUp n d ahead i ++ extAt n d ahead i := by
  unfold extUp
  rw [List.range_succ, List.flatMap_append]
  simp
theorem extAt_sub {n d : Nat} {ahead : List Int} {i : Nat} (hi : i < n) {o : List Int} (h : o ∈ extAt n d ahead i) : o ∈ ext n (d + 1) ahead := by
  rw [ext_eq]
  exact List.mem_flatMap.2 ⟨i, List.mem_range.2 hi, h⟩
end Go.AM

/- Plain facts behind the best: nothing that may be costs less; no condition. -/
namespace Go.AM
set_option linter.unusedVariables false
set_option linter.unusedSimpArgs false
open Go.RowKit

def CLe (l : List Mv) (a b : List Int) : Prop := (costM l a).1 < (costM l b).1 ∨ ((costM l a).1 = (costM l b).1 ∧ (costM l a).2 ≤ (costM l b).2)
theorem cLe_refl (l : List Mv) (a : List Int) : CLe l a a := .inr ⟨rfl, Int.le_refl _⟩
theorem cLe_trans {l : List Mv} {a b c : List Int} (h : CLe l a b) (k : CLe l b c) : CLe l a c := by unfold CLe at *; omega
theorem better_le {l : List Mv} {a b : List Int} : (better l a b = true → CLe l a b) ∧ (better l a b = false → CLe l b a) := by
  unfold better CLe
  split
  · split
    · exact ⟨fun _ => by omega, fun _ => by omega⟩
    · simp only [decide_eq_true_eq, decide_eq_false_iff_not]; omega
  · simp only [decide_eq_true_eq, decide_eq_false_iff_not]; omega
/-- What one order does. -/
theorem step_min {l : List Mv} {first : List Int} {sh : Int} (s : Option (List Int)) (o : List Int) :
    (∀ b, s = some b → ∃ t, bestStep l first sh s o = some t ∧ CLe l t b) ∧ (¬ sh < shiftM first o → (ordM l o).2 = true → ∃ t, bestStep l first sh s o = some t ∧ CLe l t (ordM l o).1) := by
  unfold bestStep
  by_cases h1 : sh < shiftM first o
  · rw [if_pos h1]
    exact ⟨fun b hb => ⟨b, hb, cLe_refl l b⟩, fun h => absurd h1 h⟩
  · rw [if_neg h1]
    cases h2 : (ordM l o).2 with
    | false =>
      rw [if_neg Bool.false_ne_true]
      exact ⟨fun b hb => ⟨b, hb, cLe_refl l b⟩, fun _ h => by cases h⟩
    | true =>
      rw [if_pos rfl]
      cases s with
      | none => exact ⟨fun b hb => (by cases hb), fun _ _ => ⟨_, rfl, cLe_refl _ _⟩⟩
      | some c =>
        simp only [Option.some.injEq, forall_eq']
        cases h3 : better l (ordM l o).1 c with
        | true => exact ⟨⟨_, rfl, better_le.1 h3⟩, fun _ _ => ⟨_, rfl, cLe_refl _ _⟩⟩
        | false => exact ⟨⟨_, rfl, cLe_refl _ _⟩, fun _ _ => ⟨_, rfl, better_le.2 h3⟩⟩
theorem fold_keep {l : List Mv} {first : List Int} {sh : Int} : ∀ {os : List (List Int)} {s : Option (List Int)} {b : List Int}, (∃ t, s = some t ∧ CLe l t b) → ∃ t, os.foldl (bestStep l first sh) s = some t ∧ CLe l t b
  | [], s, b, h => h
  | o :: os, s, b, ⟨t, h1, h2⟩ => by
    obtain ⟨t', h3, h4⟩ := (step_min (first := first) (sh := sh) s o).1 t h1
    exact fold_keep (os := os) ⟨t', h3, cLe_trans h4 h2⟩
theorem fold_min {l : List Mv} {first : List Int} {sh : Int} : ∀ {os : List (List Int)} {s : Option (List Int)} {o : List Int}, o ∈ os → ¬ sh < shiftM first o → (ordM l o).2 = true → ∃ t, os.foldl (bestStep l first sh) s = some t ∧ CLe l t (ordM l o).1
  | x :: os, s, o, hm, h1, h2 => by
    rcases List.mem_cons.1 hm with rfl | hm
    · exact fold_keep (os := os) ((step_min s o).2 h1 h2)
    · exact fold_min (os := os) hm h1 h2
theorem fold_from {l : List Mv} {first : List Int} {sh : Int} : ∀ {os : List (List Int)} {s : Option (List Int)} {t : List Int}, os.foldl (bestStep l first sh) s = some t → s = some t ∨ ∃ o, o ∈ os ∧ ¬ sh < shiftM first o ∧ (ordM l o).2 = true ∧ t = (ordM l o).1
  | [], s, t, h => .inl h
  | o :: os, s, t, h => by
    rcases fold_from (os := os) h with h1 | ⟨q, h1, h2⟩
    · rw [bestStep_chg] at h1
      split at h1
      · rename_i hc
        unfold chg at hc
        split at hc
        · cases hc
        · split at hc
          · exact .inr ⟨o, List.mem_cons_self, ‹_›, ‹_›, (Option.some.inj h1).symm⟩
          · cases hc
      · exact .inl h1
    · exact .inr ⟨q, List.mem_cons_of_mem _ h1, h2⟩
/-- The best costs no more than what any order gives that may be. -/
theorem bestO_min {l : List Mv} {sh : Int} {o : List Int} (ho : IsOrd o) (hl : o.length = l.length) (h1 : ¬ sh < shiftM (firstM l) o) (h2 : (ordM l o).2 = true) : ∃ t, bestO l sh = some t ∧ CLe l t (ordM l o).1 :=
  fold_min (allM_mem hl ho) h1 h2
theorem bestO_from {l : List Mv} {sh : Int} {t : List Int} (h : bestO l sh = some t) : ∃ o, (IsOrd o ∧ o.length = l.length) ∧ ¬ sh < shiftM (firstM l) o ∧ (ordM l o).2 = true ∧ t = (ordM l o).1 := by
  rcases fold_from h with h1 | ⟨o, h1, h2⟩
  · cases h1
  · exact ⟨o, ⟨(allM_ord h1).2, (allM_ord h1).1⟩, h2⟩
/-- With more shifts there is a best and it costs no more. -/
theorem bestO_more {l : List Mv} {sh sh' : Int} {t : List Int} (h : bestO l sh = some t) (hs : sh ≤ sh') : ∃ u, bestO l sh' = some u ∧ CLe l u t := by
  obtain ⟨o, ⟨h1, h2⟩, h3, h4, rfl⟩ := bestO_from h
  exact bestO_min (sh := sh') h1 h2 (by omega) h4
theorem ordF_ok {l : List Mv} {o : List Int} (h : (ordF l o).2 = true) : (MovesOk l ∧ o.length = l.length ∧ IsOrd o) ∧ (ordM l o).2 = true ∧ (ordF l o).1 = (ordM l o).1 := by
  unfold ordF at *
  split at h
  · rename_i hc; exact ⟨hc, h, by rw [if_pos hc]⟩
  · cases h
theorem bestO_ordF {l : List Mv} {sh : Int} {t o : List Int} (h : bestO l sh = some t) (h1 : (ordF l o).2 = true) (h2 : shiftM o (firstM l) ≤ sh) : ¬ (costM l (ordF l o).1).1 < (costM l t).1 := by
  obtain ⟨⟨_, hl, ho⟩, hm, he⟩ := ordF_ok h1
  rw [shiftM_symm] at h2
  obtain ⟨u, e, k⟩ := bestO_min (sh := sh) ho hl (by omega) hm
  obtain rfl : t = u := Option.some.inj (h.symm.trans e)
  rw [he]
  unfold CLe at k
  omega
end Go.AM

/- Books that may hold nil; no condition. -/
namespace Go.AM
set_option linter.unusedVariables false
set_option linter.unusedSimpArgs false
open Go.RowKit
variable {P : Program}

def NilB (b : Bk) (x : V) (v : V) (s : List (Option C)) : Prop :=
  (v = .tup [b.own (.k 0) (.k 1), x] ∧ s = [some (.row .mv b.ms), some (.row (.int .i64) b.ts)]) ∨
  (b.ts = [] ∧ v = .tup [.agg [.int .i64 b.now, .int .i64 b.shift, .own (.k 0), .nil], x] ∧ s = [some (.row .mv b.ms)]) ∨
  (b.ms = [] ∧ b.ts = [] ∧ v = .tup [.agg [.int .i64 b.now, .int .i64 b.shift, .nil, .nil], x] ∧ s = [])
theorem nilB_len {b : Bk} {x v : V} {s : List (Option C)} (h : NilB b x v s) : 0 ≤ s.length := Nat.zero_le _
theorem nilB_ok {b : Bk} {x : V} {f : FuncId} {args : List V} (h : ∃ v s, NilB b x v s ∧ Ok P f args [] v s) : Ok P f args [] (.tup [b.own (.k 0) (.k 1), x]) [some (.row .mv b.ms), some (.row (.int .i64) b.ts)] := by
  obtain ⟨v, s, (⟨rfl, rfl⟩ | ⟨h1, rfl, rfl⟩ | ⟨h1, h2, rfl, rfl⟩), k⟩ := h
  · exact k
  · rw [h1]
    exact k.virt (.int .i64) rfl
  · rw [h1, h2]
    exact (k.virt .mv rfl).virt (.int .i64) rfl
theorem then_gone {b : Bk} {a : Nat} (hb : BkOk b) (ha : a < b.ms.length) (hg : GoneOk b a) : roundI b a = (roundB b a, (planM (thenL b a) (tk b.ts a) 6).2) := by
  unfold roundI
  rw [if_pos hg]
  rfl
theorem roundI_no {b : Bk} {a : Nat} (hg : ¬ GoneOk b a) : roundI b a = (Bk.z, false) := if_neg hg
theorem roundS_yes {b : Bk} {a : Nat} (hg : RoundOk b a) : roundS b a = (roundB b a, true) := if_pos hg
theorem roundS_no {b : Bk} {a : Nat} (hg : ¬ RoundOk b a) : roundS b a = (Bk.z, false) := if_neg hg
end Go.AM
