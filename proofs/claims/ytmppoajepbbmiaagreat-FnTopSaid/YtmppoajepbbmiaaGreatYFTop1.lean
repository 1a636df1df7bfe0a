/- FnTop, part 1 of 3: what the law's functions come to, plain laws on it, and the row; no condition -/
import Derived.Test.YtmppoajepbbmiaaGreatProg
import Derived.Deep.Slices
import Derived.Deep.Fields
import Derived.ChangeSame
import Derived.Lib.SmallJoins
import Derived.WalkKit
import Derived.ProofKit
import Derived.OpenShut
import Derived.ShutString
import Derived.ChangeOld
import Derived.SizedLaws
import Derived.Test.YtmppoajepbbmiaaGreatMC2
/- The machine's table of this seat's types, and that it fits the program; no condition. -/
namespace Go.Proofs.YtmppoajepbbmiaaGreat.AM
set_option linter.unusedVariables false
open Go.AM

def tab : Tab := [
  (1, ⟨.fn, 1, 8, false, [.nilf], [none]⟩),
  (2, ⟨.int .i64, 1, 8, false, [.int .i64 0], [none]⟩),
  (3, ⟨.int .i64, 1, 8, false, [.int .i64 0], [none]⟩),
  (4, ⟨.bool, 1, 1, false, [.bool false], [none]⟩),
  (5, ⟨.int .u8, 1, 1, false, [.int .u8 0], [none]⟩),
  (9, ⟨.str, 1, 16, false, [.str ByteArray.empty], [none]⟩),
  (15, ⟨.ptr, 1, 8, false, [.nilp], [none]⟩),
  (16, ⟨.ptr, 1, 8, false, [.nilp], [none]⟩),
  (17, ⟨.ptr, 1, 8, false, [.nilp], [none]⟩),
  (21, ⟨.int .i32, 1, 4, false, [.int .i32 0], [none]⟩),
  (22, ⟨.sl (.int .u8) 5, 1, 24, false, [.nil], [some (.int .u8)]⟩),
  (23, ⟨.sl (.mv) 31, 1, 24, false, [.nil], [some (.mv)]⟩),
  (24, ⟨.sl (.str) 9, 1, 24, false, [.nil], [some (.str)]⟩),
  (26, ⟨.fn, 1, 8, false, [.nilf], [none]⟩),
  (27, ⟨.sl (.int .i64) 3, 1, 24, false, [.nil], [some (.int .i64)]⟩),
  (29, ⟨.st [(0, 1, false), (1, 1, false), (2, 1, false), (3, 1, false)] false, 4, 64, true, [.int .i64 0, .int .i64 0, .nil, .nil], [none, none, some .mv, some (.int .i64)]⟩),
  (31, ⟨.st [(0, 1, false), (1, 1, false), (2, 1, false), (3, 1, false), (4, 1, false), (5, 1, false)] true, 6, 56, true, [.str ByteArray.empty, .bool false, .int .i64 0, .int .i64 0, .int .i64 0, .int .i64 0], [none, none, none, none, none, none]⟩),
  (33, ⟨.fn, 1, 8, false, [.nilf], [none]⟩),
  (34, ⟨.fn, 1, 8, false, [.nilf], [none]⟩),
  (35, ⟨.fn, 1, 8, false, [.nilf], [none]⟩),
  (37, ⟨.fn, 1, 8, false, [.nilf], [none]⟩),
  (38, ⟨.fn, 1, 8, false, [.nilf], [none]⟩),
  (39, ⟨.fn, 1, 8, false, [.nilf], [none]⟩),
  (40, ⟨.fn, 1, 8, false, [.nilf], [none]⟩),
  (41, ⟨.fn, 1, 8, false, [.nilf], [none]⟩),
  (43, ⟨.fn, 1, 8, false, [.nilf], [none]⟩),
  (44, ⟨.fn, 1, 8, false, [.nilf], [none]⟩),
  (45, ⟨.fn, 1, 8, false, [.nilf], [none]⟩),
  (46, ⟨.fn, 1, 8, false, [.nilf], [none]⟩),
  (47, ⟨.fn, 1, 8, false, [.nilf], [none]⟩),
  (48, ⟨.sl (.mv) 51, 1, 24, false, [.nil], [some (.mv)]⟩),
  (50, ⟨.st [(0, 1, false), (1, 1, false), (2, 1, false), (3, 1, false)] false, 4, 64, true, [.int .i64 0, .int .i64 0, .nil, .nil], [none, none, some .mv, some (.int .i64)]⟩),
  (51, ⟨.st [(0, 1, false), (1, 1, false), (2, 1, false), (3, 1, false), (4, 1, false), (5, 1, false)] true, 6, 56, true, [.str ByteArray.empty, .bool false, .int .i64 0, .int .i64 0, .int .i64 0, .int .i64 0], [none, none, none, none, none, none]⟩),
  (52, ⟨.fn, 1, 8, false, [.nilf], [none]⟩),
  (53, ⟨.fn, 1, 8, false, [.nilf], [none]⟩),
  (54, ⟨.fn, 1, 8, false, [.nilf], [none]⟩),
  (55, ⟨.fn, 1, 8, false, [.nilf], [none]⟩),
  (56, ⟨.fn, 1, 8, false, [.nilf], [none]⟩),
  (57, ⟨.fn, 1, 8, false, [.nilf], [none]⟩),
  (59, ⟨.fn, 1, 8, false, [.nilf], [none]⟩),
  (60, ⟨.ptr, 1, 8, false, [.nilp], [none]⟩),
  (61, ⟨.fn, 1, 8, false, [.nilf], [none]⟩),
  (62, ⟨.fn, 1, 8, false, [.nilf], [none]⟩),
  (63, ⟨.fn, 1, 8, false, [.nilf], [none]⟩),
  (64, ⟨.fn, 1, 8, false, [.nilf], [none]⟩),
  (65, ⟨.fn, 1, 8, false, [.nilf], [none]⟩),
  (66, ⟨.fn, 1, 8, false, [.nilf], [none]⟩),
  (67, ⟨.fn, 1, 8, false, [.nilf], [none]⟩),
  (68, ⟨.fn, 1, 8, false, [.nilf], [none]⟩),
  (69, ⟨.fn, 1, 8, false, [.nilf], [none]⟩),
  (70, ⟨.fn, 1, 8, false, [.nilf], [none]⟩),
  (71, ⟨.fn, 1, 8, false, [.nilf], [none]⟩),
  (73, ⟨.fn, 1, 8, false, [.nilf], [none]⟩),
  (74, ⟨.fn, 1, 8, false, [.nilf], [none]⟩),
  (75, ⟨.fn, 1, 8, false, [.nilf], [none]⟩),
  (76, ⟨.fn, 1, 8, false, [.nilf], [none]⟩),
  (77, ⟨.fn, 1, 8, false, [.nilf], [none]⟩),
  (78, ⟨.fn, 1, 8, false, [.nilf], [none]⟩),
  (79, ⟨.fn, 1, 8, false, [.nilf], [none]⟩),
  (80, ⟨.fn, 1, 8, false, [.nilf], [none]⟩),
  (81, ⟨.fn, 1, 8, false, [.nilf], [none]⟩),
  (83, ⟨.fn, 1, 8, false, [.nilf], [none]⟩),
  (84, ⟨.fn, 1, 8, false, [.nilf], [none]⟩),
  (85, ⟨.fn, 1, 8, false, [.nilf], [none]⟩),
  (86, ⟨.fn, 1, 8, false, [.nilf], [none]⟩),
  (87, ⟨.fn, 1, 8, false, [.nilf], [none]⟩),
  (88, ⟨.fn, 1, 8, false, [.nilf], [none]⟩),
  (89, ⟨.fn, 1, 8, false, [.nilf], [none]⟩),
  (90, ⟨.fn, 1, 8, false, [.nilf], [none]⟩),
  (91, ⟨.fn, 1, 8, false, [.nilf], [none]⟩),
  (92, ⟨.fn, 1, 8, false, [.nilf], [none]⟩),
  (94, ⟨.st [(0, 1, false), (1, 1, false)] false, 2, 32, true, [.nil, .int .i64 0], [some (.int .u8), none]⟩),
  (95, ⟨.fn, 1, 8, false, [.nilf], [none]⟩),
  (99, ⟨.st [(0, 1, false), (1, 1, false), (2, 1, false)] false, 3, 24, true, [.nilp, .nilp, .int .u64 0], [none, none, none]⟩),
  (100, ⟨.fn, 1, 8, false, [.nilf], [none]⟩),
  (101, ⟨.fn, 1, 8, false, [.nilf], [none]⟩),
  (102, ⟨.fn, 1, 8, false, [.nilf], [none]⟩),
  (103, ⟨.fn, 1, 8, false, [.nilf], [none]⟩),
  (104, ⟨.fn, 1, 8, false, [.nilf], [none]⟩),
  (105, ⟨.int .u64, 1, 8, false, [.int .u64 0], [none]⟩),
  (106, ⟨.fn, 1, 8, false, [.nilf], [none]⟩),
  (108, ⟨.st [(0, 1, false), (1, 1, false)] false, 2, 16, true, [.nilf, .nilf], [none, none]⟩),
  (109, ⟨.fn, 1, 8, false, [.nilf], [none]⟩),
  (110, ⟨.fn, 1, 8, false, [.nilf], [none]⟩),
  (112, ⟨.fn, 1, 8, false, [.nilf], [none]⟩),
  (113, ⟨.fn, 1, 8, false, [.nilf], [none]⟩),
  (114, ⟨.fn, 1, 8, false, [.nilf], [none]⟩),
  (115, ⟨.fn, 1, 8, false, [.nilf], [none]⟩),
  (116, ⟨.fn, 1, 8, false, [.nilf], [none]⟩),
  (119, ⟨.ptr, 1, 8, false, [.nilp], [none]⟩),
  (120, ⟨.fn, 1, 8, false, [.nilf], [none]⟩),
  (121, ⟨.int .u32, 1, 4, false, [.int .u32 0], [none]⟩),
  (122, ⟨.fn, 1, 8, false, [.nilf], [none]⟩),
  (123, ⟨.int .u64, 1, 8, false, [.int .u64 0], [none]⟩),
  (124, ⟨.fn, 1, 8, false, [.nilf], [none]⟩),
  (127, ⟨.fn, 1, 8, false, [.nilf], [none]⟩),
  (128, ⟨.fn, 1, 8, false, [.nilf], [none]⟩),
  (129, ⟨.fn, 1, 8, false, [.nilf], [none]⟩),
  (131, ⟨.fn, 1, 8, false, [.nilf], [none]⟩),
  (132, ⟨.fn, 1, 8, false, [.nilf], [none]⟩),
  (133, ⟨.fn, 1, 8, false, [.nilf], [none]⟩),
  (134, ⟨.fn, 1, 8, false, [.nilf], [none]⟩),
  (135, ⟨.fn, 1, 8, false, [.nilf], [none]⟩),
  (136, ⟨.fn, 1, 8, false, [.nilf], [none]⟩),
  (137, ⟨.fn, 1, 8, false, [.nilf], [none]⟩),
  (138, ⟨.sl (.ints) 27, 1, 24, false, [.nil], [some (.ints)]⟩),
  (139, ⟨.fn, 1, 8, false, [.nilf], [none]⟩),
  (140, ⟨.fn, 1, 8, false, [.nilf], [none]⟩),
  (142, ⟨.fn, 1, 8, false, [.nilf], [none]⟩),
  (144, ⟨.fn, 1, 8, false, [.nilf], [none]⟩),
  (145, ⟨.fn, 1, 8, false, [.nilf], [none]⟩),
  (146, ⟨.fn, 1, 8, false, [.nilf], [none]⟩),
  (147, ⟨.ptr, 1, 8, false, [.nilp], [none]⟩),
  (148, ⟨.fn, 1, 8, false, [.nilf], [none]⟩),
  (149, ⟨.fn, 1, 8, false, [.nilf], [none]⟩),
  (150, ⟨.fn, 1, 8, false, [.nilf], [none]⟩),
  (151, ⟨.fn, 1, 8, false, [.nilf], [none]⟩),
  (152, ⟨.fn, 1, 8, false, [.nilf], [none]⟩),
  (153, ⟨.fn, 1, 8, false, [.nilf], [none]⟩),
  (155, ⟨.fn, 1, 8, false, [.nilf], [none]⟩),
  (156, ⟨.ptr, 1, 8, false, [.nilp], [none]⟩),
  (157, ⟨.fn, 1, 8, false, [.nilf], [none]⟩),
  (158, ⟨.fn, 1, 8, false, [.nilf], [none]⟩),
  (159, ⟨.sl (.bool) 4, 1, 24, false, [.nil], [some (.bool)]⟩),
  (160, ⟨.fn, 1, 8, false, [.nilf], [none]⟩),
  (161, ⟨.fn, 1, 8, false, [.nilf], [none]⟩),
  (169, ⟨.fn, 1, 8, false, [.nilf], [none]⟩),
  (170, ⟨.ptr, 1, 8, false, [.nilp], [none]⟩)]
theorem tabOk : TabOk Tryz.prog tab :=
  (.cons (ty_fn (by kernel_rfl) Tryz.underlying1)
  (.cons (ty_int .i64 (by kernel_rfl) Tryz.underlying2)
  (.cons (ty_int .i64 (by kernel_rfl) Tryz.underlying3)
  (.cons (ty_bool (by kernel_rfl) Tryz.underlying4)
  (.cons (ty_int .u8 (by kernel_rfl) Tryz.underlying5)
  (.cons (ty_str (by kernel_rfl) Tryz.underlying9)
  (.cons (ty_ptr (by kernel_rfl) Tryz.underlying15)
  (.cons (ty_ptr (by kernel_rfl) Tryz.underlying16)
  (.cons (ty_ptr (by kernel_rfl) Tryz.underlying17)
  (.cons (ty_int .i32 (by kernel_rfl) Tryz.underlying21)
  (.cons (ty_sl (.int .u8) (b' := 1) (by kernel_rfl) Tryz.underlying22 (by kernel_rfl) (zero_int _) Tryz.underlying5)
  (.cons (ty_sl (.mv) (b' := 56) (by kernel_rfl) Tryz.underlying23 (by kernel_rfl) (zero_mv) True.intro)
  (.cons (ty_sl (.str) (b' := 16) (by kernel_rfl) Tryz.underlying24 (by kernel_rfl) (zero_str) True.intro)
  (.cons (ty_fn (by kernel_rfl) Tryz.underlying26)
  (.cons (ty_sl (.int .i64) (b' := 8) (by kernel_rfl) Tryz.underlying27 (by kernel_rfl) (zero_int _) Tryz.underlying3)
  (.cons (ty_st (z := .agg #[.int .i64 0, .int .i64 0, .slice none 0 0, .slice none 0 0]) (by kernel_rfl) (fun μ w G => by simp [repAs, repA, Value.cells]) rfl Tryz.underlying29 (by kernel_rfl) (by kernel_rfl))
  (.cons (ty_mv (by kernel_rfl) Tryz.underlying31 (by kernel_rfl) (by kernel_rfl) (by kernel_rfl) (by kernel_rfl) Tryz.underlying9 Tryz.underlying4 Tryz.underlying3 Tryz.underlying3 Tryz.underlying3 Tryz.underlying3)
  (.cons (ty_fn (by kernel_rfl) Tryz.underlying33)
  (.cons (ty_fn (by kernel_rfl) Tryz.underlying34)
  (.cons (ty_fn (by kernel_rfl) Tryz.underlying35)
  (.cons (ty_fn (by kernel_rfl) Tryz.underlying37)
  (.cons (ty_fn (by kernel_rfl) Tryz.underlying38)
  (.cons (ty_fn (by kernel_rfl) Tryz.underlying39)
  (.cons (ty_fn (by kernel_rfl) Tryz.underlying40)
  (.cons (ty_fn (by kernel_rfl) Tryz.underlying41)
  (.cons (ty_fn (by kernel_rfl) Tryz.underlying43)
  (.cons (ty_fn (by kernel_rfl) Tryz.underlying44)
  (.cons (ty_fn (by kernel_rfl) Tryz.underlying45)
  (.cons (ty_fn (by kernel_rfl) Tryz.underlying46)
  (.cons (ty_fn (by kernel_rfl) Tryz.underlying47)
  (.cons (ty_sl (.mv) (b' := 56) (by kernel_rfl) Tryz.underlying48 (by kernel_rfl) (zero_mv) True.intro)
  (.cons (ty_st (z := .agg #[.int .i64 0, .int .i64 0, .slice none 0 0, .slice none 0 0]) (by kernel_rfl) (fun μ w G => by simp [repAs, repA, Value.cells]) rfl Tryz.underlying50 (by kernel_rfl) (by kernel_rfl))
  (.cons (ty_mv (by kernel_rfl) Tryz.underlying51 (by kernel_rfl) (by kernel_rfl) (by kernel_rfl) (by kernel_rfl) Tryz.underlying9 Tryz.underlying4 Tryz.underlying3 Tryz.underlying3 Tryz.underlying3 Tryz.underlying3)
  (.cons (ty_fn (by kernel_rfl) Tryz.underlying52)
  (.cons (ty_fn (by kernel_rfl) Tryz.underlying53)
  (.cons (ty_fn (by kernel_rfl) Tryz.underlying54)
  (.cons (ty_fn (by kernel_rfl) Tryz.underlying55)
  (.cons (ty_fn (by kernel_rfl) Tryz.underlying56)
  (.cons (ty_fn (by kernel_rfl) Tryz.underlying57)
  (.cons (ty_fn (by kernel_rfl) Tryz.underlying59)
  (.cons (ty_ptr (by kernel_rfl) Tryz.underlying60)
  (.cons (ty_fn (by kernel_rfl) Tryz.underlying61)
  (.cons (ty_fn (by kernel_rfl) Tryz.underlying62)
  (.cons (ty_fn (by kernel_rfl) Tryz.underlying63)
  (.cons (ty_fn (by kernel_rfl) Tryz.underlying64)
  (.cons (ty_fn (by kernel_rfl) Tryz.underlying65)
  (.cons (ty_fn (by kernel_rfl) Tryz.underlying66)
  (.cons (ty_fn (by kernel_rfl) Tryz.underlying67)
  (.cons (ty_fn (by kernel_rfl) Tryz.underlying68)
  (.cons (ty_fn (by kernel_rfl) Tryz.underlying69)
  (.cons (ty_fn (by kernel_rfl) Tryz.underlying70)
  (.cons (ty_fn (by kernel_rfl) Tryz.underlying71)
  (.cons (ty_fn (by kernel_rfl) Tryz.underlying73)
  (.cons (ty_fn (by kernel_rfl) Tryz.underlying74)
  (.cons (ty_fn (by kernel_rfl) Tryz.underlying75)
  (.cons (ty_fn (by kernel_rfl) Tryz.underlying76)
  (.cons (ty_fn (by kernel_rfl) Tryz.underlying77)
  (.cons (ty_fn (by kernel_rfl) Tryz.underlying78)
  (.cons (ty_fn (by kernel_rfl) Tryz.underlying79)
  (.cons (ty_fn (by kernel_rfl) Tryz.underlying80)
  (.cons (ty_fn (by kernel_rfl) Tryz.underlying81)
  (.cons (ty_fn (by kernel_rfl) Tryz.underlying83)
  (.cons (ty_fn (by kernel_rfl) Tryz.underlying84)
  (.cons (ty_fn (by kernel_rfl) Tryz.underlying85)
  (.cons (ty_fn (by kernel_rfl) Tryz.underlying86)
  (.cons (ty_fn (by kernel_rfl) Tryz.underlying87)
  (.cons (ty_fn (by kernel_rfl) Tryz.underlying88)
  (.cons (ty_fn (by kernel_rfl) Tryz.underlying89)
  (.cons (ty_fn (by kernel_rfl) Tryz.underlying90)
  (.cons (ty_fn (by kernel_rfl) Tryz.underlying91)
  (.cons (ty_fn (by kernel_rfl) Tryz.underlying92)
  (.cons (ty_st (z := .agg #[.slice none 0 0, .int .i64 0]) (by kernel_rfl) (fun μ w G => by simp [repAs, repA, Value.cells]) rfl Tryz.underlying94 (by kernel_rfl) (by kernel_rfl))
  (.cons (ty_fn (by kernel_rfl) Tryz.underlying95)
  (.cons (ty_st (z := .agg #[.pointer none, .pointer none, .int .u64 0]) (by kernel_rfl) (fun μ w G => by simp [repAs, repA, Value.cells]) rfl Tryz.underlying99 (by kernel_rfl) (by kernel_rfl))
  (.cons (ty_fn (by kernel_rfl) Tryz.underlying100)
  (.cons (ty_fn (by kernel_rfl) Tryz.underlying101)
  (.cons (ty_fn (by kernel_rfl) Tryz.underlying102)
  (.cons (ty_fn (by kernel_rfl) Tryz.underlying103)
  (.cons (ty_fn (by kernel_rfl) Tryz.underlying104)
  (.cons (ty_int .u64 (by kernel_rfl) Tryz.underlying105)
  (.cons (ty_fn (by kernel_rfl) Tryz.underlying106)
  (.cons (ty_st (z := .agg #[.nilFunc, .nilFunc]) (by kernel_rfl) (fun μ w G => by simp [repAs, repA, Value.cells]) rfl Tryz.underlying108 (by kernel_rfl) (by kernel_rfl))
  (.cons (ty_fn (by kernel_rfl) Tryz.underlying109)
  (.cons (ty_fn (by kernel_rfl) Tryz.underlying110)
  (.cons (ty_fn (by kernel_rfl) Tryz.underlying112)
  (.cons (ty_fn (by kernel_rfl) Tryz.underlying113)
  (.cons (ty_fn (by kernel_rfl) Tryz.underlying114)
  (.cons (ty_fn (by kernel_rfl) Tryz.underlying115)
  (.cons (ty_fn (by kernel_rfl) Tryz.underlying116)
  (.cons (ty_ptr (by kernel_rfl) Tryz.underlying119)
  (.cons (ty_fn (by kernel_rfl) Tryz.underlying120)
  (.cons (ty_int .u32 (by kernel_rfl) Tryz.underlying121)
  (.cons (ty_fn (by kernel_rfl) Tryz.underlying122)
  (.cons (ty_int .u64 (by kernel_rfl) Tryz.underlying123)
  (.cons (ty_fn (by kernel_rfl) Tryz.underlying124)
  (.cons (ty_fn (by kernel_rfl) Tryz.underlying127)
  (.cons (ty_fn (by kernel_rfl) Tryz.underlying128)
  (.cons (ty_fn (by kernel_rfl) Tryz.underlying129)
  (.cons (ty_fn (by kernel_rfl) Tryz.underlying131)
  (.cons (ty_fn (by kernel_rfl) Tryz.underlying132)
  (.cons (ty_fn (by kernel_rfl) Tryz.underlying133)
  (.cons (ty_fn (by kernel_rfl) Tryz.underlying134)
  (.cons (ty_fn (by kernel_rfl) Tryz.underlying135)
  (.cons (ty_fn (by kernel_rfl) Tryz.underlying136)
  (.cons (ty_fn (by kernel_rfl) Tryz.underlying137)
  (.cons (ty_sl (.ints) (b' := 24) (by kernel_rfl) Tryz.underlying138 (by kernel_rfl) (zero_ints) True.intro)
  (.cons (ty_fn (by kernel_rfl) Tryz.underlying139)
  (.cons (ty_fn (by kernel_rfl) Tryz.underlying140)
  (.cons (ty_fn (by kernel_rfl) Tryz.underlying142)
  (.cons (ty_fn (by kernel_rfl) Tryz.underlying144)
  (.cons (ty_fn (by kernel_rfl) Tryz.underlying145)
  (.cons (ty_fn (by kernel_rfl) Tryz.underlying146)
  (.cons (ty_ptr (by kernel_rfl) Tryz.underlying147)
  (.cons (ty_fn (by kernel_rfl) Tryz.underlying148)
  (.cons (ty_fn (by kernel_rfl) Tryz.underlying149)
  (.cons (ty_fn (by kernel_rfl) Tryz.underlying150)
  (.cons (ty_fn (by kernel_rfl) Tryz.underlying151)
  (.cons (ty_fn (by kernel_rfl) Tryz.underlying152)
  (.cons (ty_fn (by kernel_rfl) Tryz.underlying153)
  (.cons (ty_fn (by kernel_rfl) Tryz.underlying155)
  (.cons (ty_ptr (by kernel_rfl) Tryz.underlying156)
  (.cons (ty_fn (by kernel_rfl) Tryz.underlying157)
  (.cons (ty_fn (by kernel_rfl) Tryz.underlying158)
  (.cons (ty_sl (.bool) (b' := 1) (by kernel_rfl) Tryz.underlying159 (by kernel_rfl) (zero_bool) True.intro)
  (.cons (ty_fn (by kernel_rfl) Tryz.underlying160)
  (.cons (ty_fn (by kernel_rfl) Tryz.underlying161)
  (.cons (ty_fn (by kernel_rfl) Tryz.underlying169)
  (.cons (ty_ptr (by kernel_rfl) Tryz.underlying170) .nil))))))))))))))))))))))))))))))))))))))))))))))))))))))))))))))))))))))))))))))))))))))))))))))))))))))))))))))))))))))))))))))))
theorem mixed : Tryz.prog.follows .mixedOrders = true := by kernel_rfl
end Go.Proofs.YtmppoajepbbmiaaGreat.AM

/- What all walks of this seat share; no condition. -/
namespace Go.Proofs.YtmppoajepbbmiaaGreat.AM
open Go.AM Go.RowKit
set_option linter.unusedVariables false
set_option maxRecDepth 100000

/-- What a call hands over for good. -/
def sigs : List (Nat × List Bool) := [
  (75, [true]),
  (74, [true]),
  (33, [true]),
  (140, [true, true]),
  (46, [true, true]),
  (82, [true]),
  (83, [true]),
  (40, [true, true]),
  (132, [true, true]),
  (96, [true, true]),
  (66, [true, true]),
  (55, [true]),
  (56, [true]),
  (0, [])]
def sig (f : FuncId) : List Bool := match lk f sigs with
  | some l => l
  | none => []
noncomputable def mk (f : Func) (m : Nat) : FnI := ⟨tab, sig, bodyOf f, f.results.toList, m, f.ntmps⟩
noncomputable abbrev P := Tryz.prog
theorem in_ok (a b c : Int) : Ok P 61 [.one (.int .i64 a), .one (.int .i64 b), .one (.int .i64 c)] [] (.one (.bool (decide (b ≤ a ∧ a ≤ c)))) [] := by
  refine Ok.of_run (F := mk Tryz.f61 0) Tryz.func61 rfl rfl tabOk mixed rfl rfl rfl rfl rfl (Nat.le_of_ble_eq_true rfl) (Nat.le_of_ble_eq_true rfl) (.go 5000 ?_)
  repeat' (conv => arg 4; whnf); first | refine Run.ret ⟨?_, rfl⟩ | refine Run.condT ?_ | refine Run.condf ?_ | refine Run.condD (fun h => ?_) (fun h => ?_) | refine Run.condN (fun h => ?_) (fun h => ?_) | refine Run.condE (fun h => ?_) (fun h => ?_) | refine Run.condF (fun h => ?_) (fun h => ?_) | refine Run.condM (fun h => ?_) (fun h => ?_) | refine Run.condB (fun h => ?_) (fun h => ?_) | refine Run.check1 ?_
  · simp [h]
  · simp [h]
end Go.Proofs.YtmppoajepbbmiaaGreat.AM

/- Plain models: moves that are ok, gaps; no condition. -/
namespace Go.AM
set_option linter.unusedVariables false
set_option linter.unusedSimpArgs false
open Go.RowKit

theorem wrap_eq {x : Int} (h : -9223372036854775808 ≤ x) (h' : x ≤ 9223372036854775807) : wrap64 x = x := by unfold wrap64; omega
def okB (c : Int) : Bool := decide (97 ≤ c ∧ c ≤ 122 ∨ 48 ≤ c ∧ c ≤ 57 ∨ c = 45)
def allB (s : ByteArray) : Nat → Int → Bool
  | 0, _ => true
  | d + 1, i => okB (bt s i) && allB s d (i + 1)
theorem allB_succ (s : ByteArray) (d : Nat) (i : Int) : allB s (d + 1) i = (okB (bt s i) && allB s d (i + 1)) := rfl
def nameOk (s : ByteArray) : Bool := decide (1 ≤ s.size ∧ s.size ≤ 8) && allB s s.size 0
/-- What a move's other parts must be. -/
def MoveP (m : Mv) : Prop := 1 ≤ m.f2 ∧ m.f2 ≤ 3 ∧ 0 ≤ m.f3 ∧ m.f3 ≤ m.f4 ∧ m.f4 ≤ 10000 ∧ (m.f5 = -1 ∨ m.f3 ≤ m.f5 ∧ m.f5 ≤ m.f4)
instance (m : Mv) : Decidable (MoveP m) := by unfold MoveP; infer_instance
def mvOk (m : Mv) : Bool := nameOk m.f0 && decide (MoveP m)
def gap (a b : Mv) : Int := (if a.f1 = true then 2 else 1) + (if 1 ≤ a.f2 ∧ a.f2 ≤ 3 ∧ 1 ≤ b.f2 ∧ b.f2 ≤ 3 ∧ b.f2 < a.f2 then a.f2 - b.f2 else 0)
theorem gap_range (a b : Mv) : 1 ≤ gap a b ∧ gap a b ≤ 4 := by
  unfold gap
  split <;> split <;> omega

theorem vb {b c : Bool} (h : b = true ↔ c = true) : V.one (A.bool b) = V.one (A.bool c) := by rw [Bool.eq_iff_iff.mpr h]
theorem vi {k : IntKind} {a b : Int} (h : a = b) : V.one (A.int k a) = V.one (A.int k b) := by rw [h]
theorem mvOk_true {m : Mv} : mvOk m = true ↔ nameOk m.f0 = true ∧ 1 ≤ m.f2 ∧ m.f2 ≤ 3 ∧ 0 ≤ m.f3 ∧ m.f3 ≤ m.f4 ∧ m.f4 ≤ 10000 ∧ (m.f5 = -1 ∨ m.f3 ≤ m.f5 ∧ m.f5 ≤ m.f4) := by
  simp only [mvOk, Bool.and_eq_true, decide_eq_true_eq]
  rfl
theorem nameOk_true {s : ByteArray} : nameOk s = true ↔ (1 ≤ s.size ∧ s.size ≤ 8) ∧ allB s s.size 0 = true := by
  simp only [nameOk, Bool.and_eq_true, decide_eq_true_eq]
end Go.AM

/- Plain models: moves that are ok together, ticks that fit, costs; no condition. -/
namespace Go.AM
set_option linter.unusedVariables false
set_option linter.unusedSimpArgs false
open Go.RowKit

def at' (l : List Mv) (i : Nat) : Mv := l.getD i Mv.z
def tk (t : List Int) (i : Nat) : Int := t.getD i 0
theorem rdM_nat (l : List Mv) (i : Nat) : rdM l (i : Int) = at' l i := by simp [rdM, at']
theorem rd_nat (l : List Int) (i : Nat) : rd l (i : Int) = tk l i := by simp [rd, tk]
def ltN (a b : ByteArray) : Bool := Op.bytesLess a.toList b.toList
/-- Place i is ok, and above the one ahead. -/
def OkAt (l : List Mv) (i : Nat) : Prop := mvOk (at' l i) = true ∧ (0 < i → ltN (at' l (i - 1)).f0 (at' l i).f0 = true)
instance (l : List Mv) (i : Nat) : Decidable (OkAt l i) := by unfold OkAt; infer_instance
def MovesOk (l : List Mv) : Prop := l.length ≤ 6 ∧ ∀ i, i < l.length → OkAt l i
instance (l : List Mv) : Decidable (MovesOk l) := by unfold MovesOk; infer_instance
def W64 (n : Int) : Prop := -9223372036854775808 ≤ n ∧ n ≤ 9223372036854775807
def TkWf (t : List Int) : Prop := ∀ i, i < t.length → W64 (tk t i)
/-- Tick i is within its move's bounds. -/
def InR (l : List Mv) (t : List Int) (i : Nat) : Prop := ((at' l i).f3 ≤ tk t i ∧ tk t i ≤ (at' l i).f4) ∧ (0 ≤ (at' l i).f5 → tk t i = (at' l i).f5)
/-- Place k is far enough behind place i, if it is behind. -/
def Ap (l : List Mv) (t : List Int) (i k : Nat) : Prop := tk t i ≠ tk t k ∧ (tk t i < tk t k → gap (at' l i) (at' l k) ≤ tk t k - tk t i)
instance (l : List Mv) (t : List Int) (i : Nat) : Decidable (InR l t i) := by unfold InR; infer_instance
instance (l : List Mv) (t : List Int) (i k : Nat) : Decidable (Ap l t i k) := by unfold Ap; infer_instance
def FitsAt (l : List Mv) (t : List Int) (i : Nat) : Prop := InR l t i ∧ ∀ k, k < l.length → k ≠ i → Ap l t i k
instance (l : List Mv) (t : List Int) (i : Nat) : Decidable (FitsAt l t i) := by unfold FitsAt; infer_instance
def Fits (l : List Mv) (t : List Int) : Prop := MovesOk l ∧ t.length = l.length ∧ ∀ i, i < l.length → FitsAt l t i
instance (l : List Mv) (t : List Int) : Decidable (Fits l t) := by unfold Fits; infer_instance
theorem mvOk_range {m : Mv} (h : mvOk m = true) : 1 ≤ m.f0.size ∧ m.f0.size ≤ 8 ∧ 1 ≤ m.f2 ∧ m.f2 ≤ 3 ∧ 0 ≤ m.f3 ∧ m.f3 ≤ m.f4 ∧ m.f4 ≤ 10000 ∧ (m.f5 = -1 ∨ m.f3 ≤ m.f5 ∧ m.f5 ≤ m.f4) := by
  rw [mvOk_true, nameOk_true] at h
  exact ⟨h.1.1.1, h.1.1.2, h.2⟩
/-- What the reference asks at a place. -/
def FitsSp (l : List Mv) (t : List Int) (i : Nat) : Prop := InR l t i ∧ ∀ k, k < i → Ap l t k i ∧ Ap l t i k
theorem fitsSp_iff (l : List Mv) (t : List Int) : (∀ i, i < l.length → FitsSp l t i) ↔ ∀ i, i < l.length → FitsAt l t i := by
  constructor
  · intro h i hi
    refine ⟨(h i hi).1, fun k hk hne => ?_⟩
    rcases Nat.lt_or_ge k i with hlt | hge
    · exact ((h i hi).2 k hlt).2
    · exact ((h k hk).2 i (by omega)).1
  · intro h i hi
    exact ⟨(h i hi).1, fun k hk => ⟨(h k (by omega)).2 i hi (by omega), (h i hi).2 k (by omega) (by omega)⟩⟩
theorem fits_no {l : List Mv} {t : List Int} (h : ¬ Fits l t) : V.one (A.bool false) = V.one (A.bool (decide (Fits l t))) := by rw [decide_eq_false h]
theorem fits_yes {l : List Mv} {t : List Int} (h : Fits l t) : V.one (A.bool true) = V.one (A.bool (decide (Fits l t))) := by rw [decide_eq_true h]

theorem inR_range {l : List Mv} {t : List Int} {i : Nat} (hm : MovesOk l) (hi : i < l.length) (h : InR l t i) : 0 ≤ tk t i ∧ tk t i ≤ 10000 := by
  have hmi := mvOk_range (hm.2 i hi).1
  have hir := h.1
  omega

/-- d steps from place i on. -/
def foldFrom {σ : Type} (step : Nat → σ → σ) : Nat → Nat → σ → σ
  | _, 0, s => s
  | i, d + 1, s => foldFrom step (i + 1) d (step i s)
theorem foldFrom_last {σ : Type} (step : Nat → σ → σ) (d : Nat) : ∀ i s, foldFrom step i (d + 1) s = step (i + d) (foldFrom step i d s) := by
  induction d with
  | zero => intro i s; rfl
  | succ d ih =>
    intro i s
    show foldFrom step (i + 1) (d + 1) (step i s) = _
    rw [ih, show i + 1 + d = i + (d + 1) by omega]
    rfl
theorem foldFrom_inv {σ : Type} {step : Nat → σ → σ} (I : Nat → σ → Prop) {n : Nat} (hI : ∀ i s, i < n → I i s → I (i + 1) (step i s)) : ∀ d i s, i + d ≤ n → I i s → I (i + d) (foldFrom step i d s) := by
  intro d
  induction d with
  | zero => intro i s _ h; exact h
  | succ d ih =>
    intro i s hd h
    have := ih (i + 1) (step i s) (by omega) (hI i s (by omega) h)
    rwa [show i + 1 + d = i + (d + 1) by omega] at this
theorem foldFrom_congr {σ : Type} {f g : Nat → σ → σ} : ∀ d i s, (∀ j s, i ≤ j → j < i + d → f j s = g j s) → foldFrom f i d s = foldFrom g i d s := by
  intro d
  induction d with
  | zero => intro i s _; rfl
  | succ d ih =>
    intro i s h
    show foldFrom f (i + 1) d (f i s) = foldFrom g (i + 1) d (g i s)
    rw [h i s (Nat.le_refl _) (by omega)]
    exact ih _ _ fun j s h1 h2 => h j s (by omega) (by omega)
/-- How late a place is. -/
def dl (l : List Mv) (t : List Int) (i : Nat) : Int := tk t i - (at' l i).f3
def cStep (l : List Mv) (t : List Int) (i : Nat) (s : Int × Int) : Int × Int := (s.1 + dl l t i, max s.2 (dl l t i))
def costM (l : List Mv) (t : List Int) : Int × Int := foldFrom (cStep l t) 0 l.length (0, 0)
def CInv (i : Nat) (s : Int × Int) : Prop := 0 ≤ s.1 ∧ s.1 ≤ (i : Int) * 10000 ∧ 0 ≤ s.2 ∧ s.2 ≤ 10000
theorem cInv_step {l : List Mv} {t : List Int} {i : Nat} {s : Int × Int} (hd : 0 ≤ dl l t i ∧ dl l t i ≤ 10000) (h : CInv i s) : CInv (i + 1) (cStep l t i s) := by
  unfold CInv cStep at *
  dsimp only
  omega
/-- What holds of moves and ticks that are not ahead of them. -/
def DlOk (l : List Mv) (t : List Int) : Prop := t.length = l.length ∧ l.length ≤ 6 ∧ ∀ i, i < l.length → 0 ≤ dl l t i ∧ dl l t i ≤ 10000
theorem fits_dl {l : List Mv} {t : List Int} (h : Fits l t) : DlOk l t := by
  refine ⟨h.2.1, h.1.1, fun i hi => ?_⟩
  have hmi := mvOk_range (h.1.2 i hi).1
  have hir := (h.2.2 i hi).1.1
  unfold dl
  omega
theorem costM_inv {l : List Mv} {t : List Int} (h : DlOk l t) : CInv l.length (costM l t) := by
  have := foldFrom_inv (step := cStep l t) CInv (n := l.length) (fun i s hi hs => cInv_step (h.2.2 i hi) hs) l.length 0 (0, 0) (by omega) (by unfold CInv; simp)
  simpa [costM] using this
def costF (l : List Mv) (t : List Int) : Int × Int := if Fits l t then costM l t else (0, 0)
def ap2 (a : Mv) (s : Int) (b : Mv) (t : Int) : Prop := s ≠ t ∧ (s < t → gap a b ≤ t - s) ∧ (t < s → gap b a ≤ s - t)
instance (a : Mv) (s : Int) (b : Mv) (t : Int) : Decidable (ap2 a s b t) := by unfold ap2; infer_instance
end Go.AM

/- Plain models: what the exact laws' helpers do; no condition. -/
namespace Go.AM
set_option linter.unusedVariables false
set_option linter.unusedSimpArgs false
open Go.RowKit

theorem list_eq_getD {α : Type} {a b : List α} (d : α) (hl : a.length = b.length) (h : ∀ j, j < a.length → a.getD j d = b.getD j d) : a = b := by
  refine List.ext_getElem hl fun j h1 h2 => ?_
  have := h j h1
  simpa [List.getD_eq_getElem?_getD, List.getElem?_eq_getElem h1, List.getElem?_eq_getElem h2] using this
theorem getD_set {α : Type} (s : List α) (d : α) (i j : Nat) (x : α) : (s.set i x).getD j d = if i = j ∧ j < s.length then x else s.getD j d := by
  simp only [List.getD_eq_getElem?_getD, List.getElem?_set]
  by_cases h : i = j
  · subst h
    by_cases h2 : i < s.length
    · simp [h2]
    · simp [h2]
  · simp [h]
/-- The first i places have been copied. -/
def Cp {α : Type} (d : α) (t s : List α) (i : Nat) : Prop := s.length = t.length ∧ ∀ j, j < i → s.getD j d = t.getD j d
theorem cp_step {α : Type} {d : α} {t s : List α} {i : Nat} (h : Cp d t s i) (hi : i < t.length) : Cp d t (s.set i (t.getD i d)) (i + 1) := by
  refine ⟨by simpa using h.1, fun j hj => ?_⟩
  rw [getD_set]
  split
  · rename_i e; rw [e.1]
  · rename_i e
    refine h.2 j ?_
    have := h.1
    rcases Nat.lt_or_ge j i with h1 | h1
    · exact h1
    · exact absurd ⟨by omega, by omega⟩ e
theorem cp_end {α : Type} {d : α} {t s : List α} {i : Nat} (h : Cp d t s i) (hi : t.length ≤ i) : s = t := list_eq_getD d h.1 fun j hj => h.2 j (by have := h.1; omega)
def szM (m : Mv) (left : Int) : Int := if left - m.f0.size < 0 then -1 else left - m.f0.size
def szFrom (l : List Mv) : Nat → Nat → Int → Int
  | 0, _, s => s
  | d + 1, i, s => if szM (at' l i) s < 0 then -1 else szFrom l d (i + 1) (szM (at' l i) s)
def szMs (l : List Mv) (left : Int) : Int := if left - l.length < 0 then -1 else szFrom l l.length 0 (left - l.length)
def szIs (l : List Int) (left : Int) : Int := if left - l.length < 0 then -1 else left - l.length
theorem szM_le {m : Mv} {left : Int} (h : 0 ≤ left) : szM m left ≤ left := by unfold szM; split <;> omega
theorem szFrom_le {l : List Mv} : ∀ (d i : Nat) (s : Int), 0 ≤ s → szFrom l d i s ≤ s
  | 0, i, s, _ => Int.le_refl _
  | d + 1, i, s, h => by
    unfold szFrom
    split
    · omega
    · have := szFrom_le (l := l) d (i + 1) (szM (at' l i) s) (by omega)
      have := szM_le (m := at' l i) h
      omega
theorem szMs_le {l : List Mv} {left : Int} (h : 0 ≤ left) : szMs l left ≤ left ∧ (0 ≤ szMs l left → (l.length : Int) ≤ left) := by
  unfold szMs
  split
  · omega
  · have := szFrom_le (l := l) l.length 0 (left - l.length) (by omega)
    omega

/-- A book. -/
structure Bk where
  now : Int
  shift : Int
  ms : List Mv
  ts : List Int
/-- A book whose lists are only read; a book whose lists are its own. -/
def Bk.lent (b : Bk) : V := .agg [.int .i64 b.now, .int .i64 b.shift, .lst .mv b.ms false, .lst (.int .i64) b.ts false]
def Bk.own (b : Bk) (l l' : L) : V := .agg [.int .i64 b.now, .int .i64 b.shift, .own l, .own l']
def szB (b : Bk) (left : Int) : Int := if szMs b.ms left < 0 then -1 else if szIs b.ts (szMs b.ms left) < 0 then -1 else szIs b.ts (szMs b.ms left)
theorem szB_le {b : Bk} {left : Int} (h : 0 ≤ left) (h' : ¬ szB b left < 0) : (b.ms.length : Int) ≤ left ∧ (b.ts.length : Int) ≤ left := by
  have := szMs_le (l := b.ms) h
  unfold szB szIs at h'
  split at h'
  · omega
  · split at h'
    · omega
    · rename_i h1 h2
      first | omega | (split at h2 <;> omega)
end Go.AM

/- Plain models: books that are ok; no condition. -/
namespace Go.AM
set_option linter.unusedVariables false
set_option linter.unusedSimpArgs false
open Go.RowKit

def SoonAt (b : Bk) (i : Nat) : Prop := b.now ≤ tk b.ts i ∧ (tk b.ts i < b.now + 4 → 0 ≤ (at' b.ms i).f5)
instance (b : Bk) (i : Nat) : Decidable (SoonAt b i) := by unfold SoonAt; infer_instance
def BkOk (b : Bk) : Prop := (0 ≤ b.now ∧ b.now ≤ 10000) ∧ (0 ≤ b.shift ∧ b.shift ≤ 6) ∧ Fits b.ms b.ts ∧ ∀ i, i < b.ts.length → SoonAt b i
instance (b : Bk) : Decidable (BkOk b) := by unfold BkOk; infer_instance
theorem bk_no {b : Bk} (h : ¬ BkOk b) : V.one (A.bool false) = V.one (A.bool (decide (BkOk b))) := by rw [decide_eq_false h]
theorem bk_yes {b : Bk} (h : BkOk b) : V.one (A.bool true) = V.one (A.bool (decide (BkOk b))) := by rw [decide_eq_true h]

/-- What a tick does to a move. -/
def soon (now : Int) (m : Mv) (t : Int) : Mv := if t < now + 1 + 4 then { m with f5 := t } else m
def tickStep (b : Bk) (i : Nat) (s : List Mv × List Int × List ByteArray) : List Mv × List Int × List ByteArray :=
  if tk b.ts i = b.now then (s.1, s.2.1, s.2.2 ++ [(at' b.ms i).f0]) else (s.1 ++ [soon b.now (at' b.ms i) (tk b.ts i)], s.2.1 ++ [tk b.ts i], s.2.2)
def tickF (b : Bk) : List Mv × List Int × List ByteArray := foldFrom (tickStep b) 0 b.ms.length ([], [], [])
def tickR (b : Bk) : Bk × List ByteArray × Int :=
  if BkOk b then (if b.now = 10000 then (b, [], 2) else (⟨b.now + 1, b.shift, (tickF b).1, (tickF b).2.1⟩, (tickF b).2.2, 0)) else (⟨0, 0, [], []⟩, [], 1)
def Len3 (i : Nat) (s : List Mv × List Int × List ByteArray) : Prop := s.1.length ≤ i ∧ s.2.1.length ≤ i ∧ s.2.2.length ≤ i
theorem len3_step {b : Bk} {i : Nat} {s : List Mv × List Int × List ByteArray} (h : Len3 i s) : Len3 (i + 1) (tickStep b i s) := by
  obtain ⟨h1, h2, h3⟩ := h
  unfold tickStep Len3
  split <;> simp <;> omega

theorem tickF_len (b : Bk) : Len3 b.ms.length (tickF b) := by
  have := foldFrom_inv (step := tickStep b) Len3 (n := b.ms.length) (fun i s hi hs => len3_step hs) b.ms.length 0 ([], [], []) (by omega) ⟨Nat.le_refl _, Nat.le_refl _, Nat.le_refl _⟩
  rwa [Nat.zero_add] at this
theorem tickR_len {b : Bk} (hl : b.ms.length ≤ 1048576) (ht : b.ts.length ≤ 1048576) : (tickR b).1.ms.length ≤ 1048576 ∧ (tickR b).1.ts.length ≤ 1048576 ∧ (tickR b).2.1.length ≤ 1048576 := by
  obtain ⟨h1, h2, h3⟩ := tickF_len b
  unfold tickR
  split
  · split
    · exact ⟨hl, ht, by simp⟩
    · exact ⟨by simp only; omega, by simp only; omega, by simp only; omega⟩
  · exact ⟨by simp, by simp, by simp⟩
end Go.AM

/- Plain models: orders and shifts; no condition. -/
namespace Go.AM
set_option linter.unusedVariables false
set_option linter.unusedSimpArgs false
open Go.RowKit

/-- Each of 0 to its length - 1 once. -/
def IsOrd (a : List Int) : Prop := ∀ i, i < a.length → (0 ≤ a.getD i 0 ∧ a.getD i 0 ≤ (a.length : Int) - 1) ∧ ∀ k, k < i → a.getD k 0 ≠ a.getD i 0
instance (a : List Int) : Decidable (IsOrd a) := by unfold IsOrd; infer_instance

/-- What the program's test has seen. -/
def Seen (a : List Int) (n i : Nat) (s : List Bool) : Prop := s.length = n ∧ ∀ v : Nat, v < n → (s.getD v false = true ↔ ∃ j, j < i ∧ a.getD j 0 = v)
theorem seen_set {a : List Int} {n i : Nat} {s : List Bool} (h : Seen a n i s) {v : Nat} (hv : v < n) (e : a.getD i 0 = v) : Seen a n (i + 1) (s.set v true) := by
  refine ⟨by rw [List.length_set]; exact h.1, fun u hu => ?_⟩
  have hs := h.1
  by_cases huv : u = v
  · subst huv
    constructor
    · exact fun _ => ⟨i, by omega, e⟩
    · intro _
      rw [List.getD_eq_getElem?_getD, List.getElem?_set_self (by omega)]
      rfl
  · rw [List.getD_eq_getElem?_getD, List.getElem?_set_ne (fun h => huv h.symm), ← List.getD_eq_getElem?_getD, h.2 u hu]
    constructor
    · rintro ⟨j, hj, e2⟩
      exact ⟨j, by omega, e2⟩
    · rintro ⟨j, hj, e2⟩
      by_cases hji : j = i
      · subst hji
        omega
      · exact ⟨j, by omega, e2⟩

/-- Where a value stands first from place i on, -1 if nowhere. -/
def posFrom (b : List Int) (v : Int) : Nat → Nat → Int
  | _, 0 => -1
  | i, d + 1 => if v = b.getD i 0 then (i : Int) else posFrom b v (i + 1) d
def pos (b : List Int) (v : Int) : Int := posFrom b v 0 b.length
theorem posFrom_range (b : List Int) (v : Int) : ∀ d i, i + d = b.length → (posFrom b v i d = -1 ∧ ∀ j, i ≤ j → j < b.length → b.getD j 0 ≠ v) ∨ (∃ j : Nat, posFrom b v i d = j ∧ i ≤ j ∧ j < b.length ∧ b.getD j 0 = v) := by
  intro d
  induction d with
  | zero => exact fun i hi => .inl ⟨rfl, fun j h1 h2 => absurd h1 (by omega)⟩
  | succ d ih =>
    intro i hi
    unfold posFrom
    by_cases h : v = b.getD i 0
    · rw [if_pos h]
      exact .inr ⟨i, rfl, Nat.le_refl _, by omega, h.symm⟩
    · rw [if_neg h]
      rcases ih (i + 1) (by omega) with ⟨h1, h2⟩ | ⟨j, h1, h2, h3, h4⟩
      · refine .inl ⟨h1, fun j hj hl => ?_⟩
        by_cases e : j = i
        · exact e ▸ fun h' => h h'.symm
        · exact h2 j (by omega) hl
      · exact .inr ⟨j, h1, by omega, h3, h4⟩
theorem pos_range (b : List Int) (v : Int) : (pos b v = -1 ∧ ∀ j, j < b.length → b.getD j 0 ≠ v) ∨ (∃ j : Nat, pos b v = j ∧ j < b.length ∧ b.getD j 0 = v) := by
  rcases posFrom_range b v b.length 0 (by omega) with ⟨h1, h2⟩ | ⟨j, h1, _, h3, h4⟩
  · exact .inl ⟨h1, fun j hj => h2 j (by omega) hj⟩
  · exact .inr ⟨j, h1, h3, h4⟩

/-- One step of the shift. -/
def shStep (a b : List Int) (i : Nat) (s : Int) : Int := max (max s ((i : Int) - pos b (a.getD i 0))) (pos b (a.getD i 0) - (i : Int))
def shiftM (a b : List Int) : Int := if a.length = b.length ∧ IsOrd a ∧ IsOrd b then foldFrom (shStep a b) 0 a.length 0 else -1

theorem ord_inj {b : List Int} (h : IsOrd b) {i j : Nat} (hi : i < b.length) (hj : j < b.length) (e : b.getD i 0 = b.getD j 0) : i = j := by
  rcases Nat.lt_trichotomy i j with hlt | he | hgt
  · exact absurd e ((h j hj).2 i hlt)
  · exact he
  · exact absurd e.symm ((h i hi).2 j hgt)

/-- What the reference's inner loop does with one place. -/
def shUpd (a b : List Int) (i j : Nat) (s : Int) : Int := if a.getD i 0 = b.getD j 0 then max (max s ((i : Int) - j)) ((j : Int) - i) else s
theorem shUpd_none (a b : List Int) (i : Nat) : ∀ d j s, (∀ q, j ≤ q → q < j + d → b.getD q 0 ≠ a.getD i 0) → foldFrom (shUpd a b i) j d s = s := by
  intro d
  induction d with
  | zero => exact fun _ _ _ => rfl
  | succ d ih =>
    intro j s h
    show foldFrom (shUpd a b i) (j + 1) d (shUpd a b i j s) = s
    have e : shUpd a b i j s = s := if_neg (fun e => h j (Nat.le_refl _) (by omega) e.symm)
    rw [e]
    exact ih _ _ fun q h1 h2 => h q (by omega) (by omega)
theorem foldFrom_split {σ : Type} (step : Nat → σ → σ) (d e : Nat) : ∀ i s, foldFrom step i (d + e) s = foldFrom step (i + d) e (foldFrom step i d s) := by
  induction d with
  | zero => intro i s; rw [Nat.zero_add]; rfl
  | succ d ih =>
    intro i s
    rw [show d + 1 + e = (d + e) + 1 by omega]
    show foldFrom step (i + 1) (d + e) (step i s) = _
    rw [ih, show i + 1 + d = i + (d + 1) by omega]
    rfl
theorem shUpd_all (a b : List Int) (hb : IsOrd b) (i : Nat) (hs : ∀ s, 0 ≤ s → 0 ≤ shStep a b i s) (hex : ∃ j, j < b.length ∧ b.getD j 0 = a.getD i 0) (s : Int) : foldFrom (shUpd a b i) 0 b.length s = shStep a b i s := by
  obtain ⟨j, hj, e⟩ := hex
  have hp : pos b (a.getD i 0) = j := by
    rcases pos_range b (a.getD i 0) with ⟨_, h⟩ | ⟨q, h, hq, hv⟩
    · exact absurd e (h j hj)
    · rw [h, ord_inj hb hq hj (by rw [hv, e])]
  rw [show b.length = j + (1 + (b.length - j - 1)) by omega, foldFrom_split, foldFrom_split]
  rw [shUpd_none a b i j 0 s (fun q _ h2 h => by
    have := ord_inj hb (show q < b.length by omega) hj (by rw [h, e])
    omega)]
  rw [shUpd_none a b i (b.length - j - 1) (0 + j + 1) _ (fun q h1 h2 h => by
    have := ord_inj hb (show q < b.length by omega) hj (by rw [h, e])
    omega)]
  show shUpd a b i (0 + j) s = _
  rw [Nat.zero_add]
  unfold shUpd shStep
  rw [if_pos e.symm, hp]

/-- Places below n, each once: every number below n is there. -/
theorem ord_onto {b : List Int} (h : IsOrd b) (v : Nat) (hv : v < b.length) : ∃ j, j < b.length ∧ b.getD j 0 = v := by
  classical
  by_cases hx : ∃ j, j < b.length ∧ b.getD j 0 = v
  · exact hx
  · exfalso
    let l : List Nat := b.map Int.toNat
    have hnd : l.Nodup := by
      refine List.pairwise_iff_getElem.2 ?_
      intro i j hi hj hij e
      have hjl : j < b.length := by simpa [l] using hj
      have hil : i < b.length := by omega
      have e' : (b.getD i 0).toNat = (b.getD j 0).toNat := by
        simpa [l, List.getD_eq_getElem?_getD, List.getElem?_eq_getElem hil, List.getElem?_eq_getElem hjl] using e
      have h1 := (h i hil).1
      have h2 := (h j hjl).1
      exact (h j hjl).2 i hij (by omega)
    have hsub : ∀ x ∈ l, x ∈ (List.range b.length).erase v := by
      intro x hxm
      obtain ⟨y, hy, rfl⟩ := List.mem_map.1 hxm
      obtain ⟨j, hj, e⟩ := List.getElem_of_mem hy
      have e2 : b.getD j 0 = y := by rw [List.getD_eq_getElem?_getD, List.getElem?_eq_getElem hj, e]; rfl
      have h1 := (h j hj).1
      rw [e2] at h1
      refine (List.mem_erase_of_ne (fun he => hx ⟨j, hj, ?_⟩)).2 (List.mem_range.2 (by omega))
      rw [e2, ← he]
      omega
    have hlen := List.Nodup.length_le_of_subset (l₁ := l) hnd hsub
    rw [List.length_erase_of_mem (List.mem_range.2 hv), List.length_range] at hlen
    simp [l] at hlen
    omega

end Go.AM

/- Plain models: ticks in an order; no condition. -/
namespace Go.AM
set_option linter.unusedVariables false
set_option linter.unusedSimpArgs false
open Go.RowKit

def pl (o : List Int) (i : Nat) : Nat := (o.getD i 0).toNat
def lStep (l : List Mv) (o ts : List Int) (m : Mv) (q : Nat) (t : Int) : Int := max t (tk ts (pl o q) + gap (at' l (pl o q)) m)
/-- The least tick of the move at i, behind all that come ahead. -/
def leastT (l : List Mv) (o ts : List Int) (i : Nat) : Int := foldFrom (lStep l o ts (at' l (pl o i))) 0 i (at' l (pl o i)).f3
/-- Its tick, if there is one. -/
def tickOf (m : Mv) (t : Int) : Option Int := if m.f5 ≥ 0 then (if t > m.f5 then none else if m.f5 > m.f4 then none else some m.f5) else if t > m.f4 then none else some t
def ordFrom (l : List Mv) (o : List Int) : Nat → Nat → List Int → List Int × Bool
  | 0, _, ts => (ts, true)
  | d + 1, i, ts => match tickOf (at' l (pl o i)) (leastT l o ts i) with
    | none => ([], false)
    | some t => ordFrom l o d (i + 1) (ts.set (pl o i) t)
def ordM (l : List Mv) (o : List Int) : List Int × Bool := ordFrom l o l.length 0 (List.replicate l.length 0)
def AllOk (l : List Mv) : Prop := ∀ i, i < l.length → mvOk (at' l i) = true
def Ts (n : Nat) (ts : List Int) : Prop := ts.length = n ∧ ∀ j, j < n → 0 ≤ tk ts j ∧ tk ts j ≤ 10000
theorem ts_set {n : Nat} {ts : List Int} (h : Ts n ts) (p : Nat) {t : Int} (h0 : 0 ≤ t) (h1 : t ≤ 10000) : Ts n (ts.set p t) := by
  refine ⟨by rw [List.length_set]; exact h.1, fun j hj => ?_⟩
  unfold tk
  by_cases e : p = j
  · subst e
    rw [List.getD_eq_getElem?_getD, List.getElem?_set_self (by have := h.1; omega)]
    exact ⟨h0, h1⟩
  · rw [List.getD_eq_getElem?_getD, List.getElem?_set_ne e, ← List.getD_eq_getElem?_getD]
    exact h.2 j hj
theorem tickOf_range {m : Mv} {t u : Int} (hm : mvOk m = true) (h : tickOf m t = some u) (ht : 0 ≤ t) : 0 ≤ u ∧ u ≤ 10000 ∧ m.f3 ≤ m.f4 ∧ u ≤ m.f4 ∧ t ≤ u := by
  have := mvOk_range hm
  unfold tickOf at h
  (repeat' split at h) <;> simp at h <;> omega
theorem lStep_inv {l : List Mv} {o ts : List Int} {m : Mv} {q : Nat} {t : Int} (h : 0 ≤ tk ts (pl o q) ∧ tk ts (pl o q) ≤ 10000) (ht : 0 ≤ t ∧ t ≤ 10004) : 0 ≤ lStep l o ts m q t ∧ lStep l o ts m q t ≤ 10004 ∧ t ≤ lStep l o ts m q t := by
  have := gap_range (at' l (pl o q)) m
  unfold lStep
  omega
theorem pl_lt {o : List Int} (h : IsOrd o) {i : Nat} (hi : i < o.length) : pl o i < o.length ∧ (pl o i : Int) = o.getD i 0 := by
  have := (h i hi).1
  unfold pl
  omega
theorem rdO {o : List Int} (h : IsOrd o) {i : Nat} (hi : i < o.length) : rd o (i : Int) = (pl o i : Int) := by rw [rd_nat, (pl_lt h hi).2]; rfl

def ordF (l : List Mv) (o : List Int) : List Int × Bool := if MovesOk l ∧ o.length = l.length ∧ IsOrd o then ordM l o else ([], false)
theorem movesOk_all {l : List Mv} (h : MovesOk l) : AllOk l := fun i hi => (h.2 i hi).1
theorem ordFrom_len (l : List Mv) (o : List Int) : ∀ d i ts, ts.length ≤ l.length → (ordFrom l o d i ts).1.length ≤ l.length := by
  intro d
  induction d with
  | zero => exact fun i ts h => h
  | succ d ih =>
    intro i ts h
    unfold ordFrom
    split
    · simp
    · exact ih _ _ (by rw [List.length_set]; exact h)
theorem ordF_len (l : List Mv) (o : List Int) : (ordF l o).1.length ≤ l.length := by
  unfold ordF ordM
  split
  · exact ordFrom_len l o _ _ _ (by simp)
  · simp
end Go.AM

/- Plain models: orders of texts, insertion, the order in which moves come by themselves; no condition. -/
namespace Go.AM
set_option linter.unusedVariables false
set_option linter.unusedSimpArgs false
open Go.RowKit

theorem bl_irr : ∀ x : List UInt8, Op.bytesLess x x = false
  | [] => by simp [Op.bytesLess]
  | a :: x => by simp [Op.bytesLess, bl_irr x]
theorem bl_trans : ∀ {x y z : List UInt8}, Op.bytesLess x y = true → Op.bytesLess y z = true → Op.bytesLess x z = true
  | x, y, [], _, h => by cases y <;> simp [Op.bytesLess] at h
  | x, [], _ :: _, h, _ => by cases x <;> simp [Op.bytesLess] at h
  | [], b :: y, c :: z, _, _ => by simp [Op.bytesLess]
  | a :: x, b :: y, c :: z, h1, h2 => by
    simp only [Op.bytesLess, Bool.or_eq_true, Bool.and_eq_true, decide_eq_true_eq, beq_iff_eq, UInt8.lt_iff_toNat_lt] at *
    rcases h1 with h1 | ⟨rfl, h1⟩ <;> rcases h2 with h2 | ⟨rfl, h2⟩
    · exact .inl (by omega)
    · exact .inl h1
    · exact .inl h2
    · exact .inr ⟨rfl, bl_trans h1 h2⟩
theorem bl_tri : ∀ {x y : List UInt8}, Op.bytesLess x y = false → Op.bytesLess y x = false → x = y
  | [], [], _, _ => rfl
  | [], b :: y, h, _ => by simp [Op.bytesLess] at h
  | a :: x, [], _, h => by simp [Op.bytesLess] at h
  | a :: x, b :: y, h1, h2 => by
    simp only [Op.bytesLess, Bool.or_eq_false_iff, Bool.and_eq_false_iff, decide_eq_false_iff_not, beq_eq_false_iff_ne, UInt8.lt_iff_toNat_lt] at *
    have e : a = b := UInt8.toNat_inj.1 (by omega)
    subst e
    rw [bl_tri (h1.2.resolve_left (by simp)) (h2.2.resolve_left (by simp))]
theorem ltN_irr (s : ByteArray) : ltN s s = false := bl_irr _
theorem ltN_trans {a b c : ByteArray} (h : ltN a b = true) (k : ltN b c = true) : ltN a c = true := bl_trans h k
theorem ltN_asymm {a b : ByteArray} (h : ltN a b = true) : ltN b a = false := by
  cases k : ltN b a with
  | false => rfl
  | true => have := ltN_trans h k; rw [ltN_irr] at this; cases this
theorem toList_inj {a b : ByteArray} (h : a.toList = b.toList) : a = b := by
  have h1 : (a == b) = true := by rw [beq_toListBytes, h]; simp
  have h2 : (a.data == b.data) = true := h1
  exact ByteArray.ext (eq_of_beq h2)
theorem ltN_tri {a b : ByteArray} (h : ltN a b = false) (k : ltN b a = false) : a = b := toList_inj (bl_tri h k)
theorem ltN_le {a b : ByteArray} : (ltN a b || a.toList == b.toList) = !ltN b a := by
  cases h : ltN a b with
  | true => rw [ltN_asymm h]; rfl
  | false =>
    cases k : ltN b a with
    | true =>
      have : (a.toList == b.toList) = false := by
        rw [beq_eq_false_iff_ne]
        intro e
        rw [toList_inj e, ltN_irr] at k
        cases k
      rw [this]; rfl
    | false =>
      rw [ltN_tri h k]; simp

/-- Insertion behind all that 'p' tells. -/
def insA {α : Type} (p : α → Bool) (x : α) : List α → List α
  | [] => [x]
  | y :: ys => if p y = true then y :: insA p x ys else x :: y :: ys
theorem insA_at {α : Type} {p : α → Bool} {x d : α} : ∀ {ys : List α} {k : Nat}, k ≤ ys.length → (∀ q, q < k → p (ys.getD q d) = true) → (k < ys.length → p (ys.getD k d) = false) → insA p x ys = ys.take k ++ x :: ys.drop k
  | [], k, hk, _, _ => by simp [insA]
  | y :: ys, 0, hk, _, h => by
    have := h (by simp)
    simp only [List.getD_cons_zero] at this
    simp [insA, this]
  | y :: ys, k + 1, hk, h, h' => by
    have e := h 0 (by omega)
    simp only [List.getD_cons_zero] at e
    simp only [insA, e, if_true, List.take_succ_cons, List.drop_succ_cons, List.cons_append]
    rw [insA_at (k := k) (d := d) (by simpa using hk) (fun q hq => by simpa using h (q + 1) (by omega)) (fun hk => by simpa using h' (by simpa using hk))]
theorem insA_perm {α : Type} {p : α → Bool} {x : α} : ∀ {ys : List α}, (insA p x ys).Perm (x :: ys)
  | [] => .refl _
  | y :: ys => by
    unfold insA
    split
    · exact (List.Perm.cons y insA_perm).trans (.swap x y ys)
    · exact .refl _
theorem insA_len {α : Type} {p : α → Bool} {x : α} {ys : List α} : (insA p x ys).length = ys.length + 1 := by simpa using insA_perm.length_eq
/-- A way to compare that sorts. -/
structure Srt {α : Type} (lt : α → α → Bool) : Prop where
  asymm : ∀ a b, lt a b = true → lt b a = false
  trans : ∀ a b c, lt b a = false → lt c b = false → lt c a = false
def Sorted {α : Type} (lt : α → α → Bool) (l : List α) : Prop := l.Pairwise fun a b => lt b a = false
theorem insA_sorted {α : Type} {lt : α → α → Bool} (hs : Srt lt) {x : α} : ∀ {ys : List α}, Sorted lt ys → Sorted lt (insA (fun y => !lt x y) x ys)
  | [], _ => List.pairwise_singleton _ _
  | y :: ys, h => by
    unfold Sorted at h ⊢
    rw [List.pairwise_cons] at h
    unfold insA
    split
    · rename_i e
      rw [List.pairwise_cons]
      refine ⟨fun z hz => ?_, insA_sorted hs h.2⟩
      rcases List.mem_cons.1 (insA_perm.mem_iff.1 hz) with rfl | hz
      · simpa using e
      · exact h.1 z hz
    · rename_i e
      have e : lt x y = true := by simpa using e
      rw [List.pairwise_cons, List.pairwise_cons]
      refine ⟨fun z hz => ?_, h⟩
      rcases List.mem_cons.1 hz with rfl | hz
      · exact hs.asymm _ _ e
      · exact hs.trans _ _ _ (hs.asymm _ _ e) (h.1 z hz)
/-- Insertion sort, the first i of a list. -/
def isortA {α : Type} (lt : α → α → Bool) (d : α) (xs : List α) (i : Nat) (s : List α) : List α := insA (fun y => !lt (xs.getD i d) y) (xs.getD i d) s
def isort {α : Type} (lt : α → α → Bool) (d : α) (xs : List α) (n : Nat) : List α := foldFrom (isortA lt d xs) 0 n []
theorem isort_succ {α : Type} {lt : α → α → Bool} {d : α} {xs : List α} {n : Nat} : isort lt d xs (n + 1) = isortA lt d xs n (isort lt d xs n) := by
  unfold isort
  rw [foldFrom_last, Nat.zero_add]
theorem isort_len {α : Type} {lt : α → α → Bool} {d : α} {xs : List α} : ∀ {n : Nat}, (isort lt d xs n).length = n
  | 0 => rfl
  | n + 1 => by rw [isort_succ, isortA, insA_len, isort_len]
theorem isort_sorted {α : Type} {lt : α → α → Bool} (hs : Srt lt) {d : α} {xs : List α} : ∀ {n : Nat}, Sorted lt (isort lt d xs n)
  | 0 => .nil
  | n + 1 => by rw [isort_succ]; exact insA_sorted hs (isort_sorted hs)
theorem isort_perm {α : Type} {lt : α → α → Bool} {d : α} {xs : List α} : ∀ {n : Nat}, n ≤ xs.length → (isort lt d xs n).Perm (xs.take n)
  | 0, _ => by simp [isort, foldFrom]
  | n + 1, h => by
    rw [isort_succ, isortA, List.take_succ_eq_append_getElem (by omega)]
    refine insA_perm.trans ((List.Perm.cons _ (isort_perm (by omega))).trans ?_)
    rw [List.getD_eq_getElem?_getD, List.getElem?_eq_getElem (by omega)]
    exact (List.perm_append_singleton _ _).symm
theorem sorted_get {α : Type} {lt : α → α → Bool} {l : List α} (h : Sorted lt l) (d : α) {i j : Nat} (hij : i < j) (hj : j < l.length) : lt (l.getD j d) (l.getD i d) = false := by
  have := (List.pairwise_iff_getElem.1 h) i j (by omega) hj hij
  simpa [List.getD_eq_getElem?_getD, List.getElem?_eq_getElem hj, List.getElem?_eq_getElem (show i < l.length by omega)] using this
/-- What the program's insertion has in hand: the sorted part, one that is on its way, the rest. -/
def wayRow {α : Type} (pre : List α) (x : α) (rest : List α) (j : Nat) : List α := pre.take j ++ x :: (pre.drop j ++ rest)
theorem wayRow_len {α : Type} {pre : List α} {x : α} {rest : List α} {j : Nat} : (wayRow pre x rest j).length = pre.length + 1 + rest.length := by
  simp [wayRow]; omega
theorem wayRow_here {α : Type} {pre : List α} {x d : α} {rest : List α} {j : Nat} (hj : j ≤ pre.length) : (wayRow pre x rest j).getD j d = x := by
  unfold wayRow
  rw [List.getD_eq_getElem?_getD, List.getElem?_append_right (by simp; omega)]
  simp [Nat.min_eq_left hj]
theorem wayRow_ahead {α : Type} {pre : List α} {x d : α} {rest : List α} {j q : Nat} (hq : q < j) (hj : j ≤ pre.length) : (wayRow pre x rest j).getD q d = pre.getD q d := by
  unfold wayRow
  rw [List.getD_eq_getElem?_getD, List.getElem?_append_left (by simp; omega), List.getElem?_take_of_lt hq, List.getD_eq_getElem?_getD]
theorem wayRow_swap {α : Type} {pre : List α} {x : α} {rest : List α} {j : Nat} {y : α} (hj : j + 1 ≤ pre.length) (hy : pre[j]? = some y) : ((wayRow pre x rest (j + 1)).set (j + 1) y).set j x = wayRow pre x rest j := by
  have hjl : j < pre.length := by omega
  have hy' : pre[j] = y := by rw [List.getElem?_eq_getElem hjl] at hy; exact Option.some.inj hy
  have e1 : pre.take (j + 1) = pre.take j ++ [y] := by rw [List.take_succ_eq_append_getElem hjl, hy']
  have e2 : pre.drop j = y :: pre.drop (j + 1) := by rw [List.drop_eq_getElem_cons hjl, hy']
  unfold wayRow
  rw [e1, e2]
  have hl : (pre.take j).length = j := by simp; omega
  rw [show pre.take j ++ [y] ++ x :: (pre.drop (j + 1) ++ rest) = pre.take j ++ (y :: x :: (pre.drop (j + 1) ++ rest)) by simp]
  rw [List.set_append_right _ _ (by omega), List.set_append_right _ _ (by omega), hl]
  simp [show j + 1 - j = 1 by omega]
/-- An insertion that has come to its end. -/
theorem wayRow_end {α : Type} {lt : α → α → Bool} (hs : Srt lt) {pre : List α} {x d : α} {rest : List α} {j : Nat} (hp : Sorted lt pre) (hj : j ≤ pre.length) (hb : ∀ q, j ≤ q → q < pre.length → lt x (pre.getD q d) = true) (ha : 0 < j → lt x (pre.getD (j - 1) d) = false) :
    wayRow pre x rest j = insA (fun y => !lt x y) x pre ++ rest := by
  rw [insA_at (k := j) (d := d) hj (fun q hq => ?_) (fun h => ?_)]
  · simp [wayRow]
  · simp only [Bool.not_eq_true']
    by_cases e : q = j - 1
    · rw [e]; exact ha (by omega)
    · exact hs.trans _ _ _ (sorted_get hp d (show q < j - 1 by omega) (by omega)) (ha (by omega))
  · simpa using hb j (Nat.le_refl _) h

def key (m : Mv) : Int := if 0 ≤ m.f5 then m.f5 else m.f3
def lessM (a b : Mv) : Bool := decide (key a < key b) || (key a == key b && ltN a.f0 b.f0)
theorem lessM_srt {α : Type} (f : α → Mv) : Srt fun a b => lessM (f a) (f b) := by
  constructor
  · intro a b h
    unfold lessM at *
    simp only [Bool.or_eq_true, Bool.and_eq_true, decide_eq_true_eq, beq_iff_eq, Bool.or_eq_false_iff, Bool.and_eq_false_iff, decide_eq_false_iff_not, beq_eq_false_iff_ne] at *
    rcases h with h | ⟨h, k⟩
    · exact ⟨by omega, .inl (by omega)⟩
    · exact ⟨by omega, .inr (ltN_asymm k)⟩
  · intro a b c h1 h2
    unfold lessM at *
    simp only [Bool.or_eq_false_iff, Bool.and_eq_false_iff, decide_eq_false_iff_not, beq_eq_false_iff_ne] at *
    obtain ⟨h1, k1⟩ := h1
    obtain ⟨h2, k2⟩ := h2
    refine ⟨by omega, ?_⟩
    by_cases e : key (f c) = key (f a)
    · refine .inr ?_
      have k1 := k1.resolve_left (by simp; omega)
      have k2 := k2.resolve_left (by simp; omega)
      cases h : ltN (f c).f0 (f a).f0 with
      | false => rfl
      | true =>
        cases h' : ltN (f a).f0 (f b).f0 with
        | true => rw [ltN_trans h h'] at k2; cases k2
        | false => rw [← ltN_tri h' k1, h] at k2; cases k2
    · exact .inl e
theorem lessM_not {a b : Mv} : (decide (key a < key b) || (key a == key b && (ltN a.f0 b.f0 || a.f0.toList == b.f0.toList))) = !lessM b a := by
  rw [ltN_le]
  unfold lessM
  by_cases h : key a < key b
  · have : ¬ key b < key a := by omega
    have : ¬ key b = key a := by omega
    simp [*]
  · by_cases h' : key a = key b
    · simp [h']
    · have : key b < key a := by omega
      simp [*]
def ltP (l : List Mv) (a b : Int) : Bool := lessM (at' l a.toNat) (at' l b.toNat)
def upTo (n : Nat) : List Int := (List.range n).map fun i : Nat => (i : Int)
theorem upTo_len (n : Nat) : (upTo n).length = n := by simp [upTo]
theorem upTo_at {n i : Nat} (h : i < n) : (upTo n).getD i 0 = i := by simp [upTo, List.getD_eq_getElem?_getD, h]
theorem upTo_succ (n : Nat) : upTo (n + 1) = upTo n ++ [(n : Int)] := by simp [upTo, List.range_succ]
def firstM (l : List Mv) : List Int := isort (ltP l) 0 (upTo l.length) l.length
theorem firstM_perm (l : List Mv) : (firstM l).Perm (upTo l.length) := by
  have := isort_perm (lt := ltP l) (d := 0) (xs := upTo l.length) (n := l.length) (by rw [upTo_len]; exact Nat.le_refl _)
  rwa [List.take_of_length_le (by rw [upTo_len]; exact Nat.le_refl _)] at this
theorem isOrd_iff {a : List Int} : IsOrd a ↔ a.Nodup ∧ ∀ x ∈ a, 0 ≤ x ∧ x ≤ (a.length : Int) - 1 := by
  constructor
  · intro h
    refine ⟨List.pairwise_iff_getElem.2 fun i j hi hj hij => ?_, fun x hx => ?_⟩
    · have := (h j hj).2 i hij
      simpa [List.getD_eq_getElem?_getD, List.getElem?_eq_getElem hi, List.getElem?_eq_getElem hj] using this
    · obtain ⟨j, hj, rfl⟩ := List.getElem_of_mem hx
      have := (h j hj).1
      simpa [List.getD_eq_getElem?_getD, List.getElem?_eq_getElem hj] using this
  · rintro ⟨h1, h2⟩ i hi
    have e : a.getD i 0 = a[i] := by simp [List.getD_eq_getElem?_getD, List.getElem?_eq_getElem hi]
    refine ⟨by rw [e]; exact h2 _ (List.getElem_mem hi), fun k hk => ?_⟩
    have := (List.pairwise_iff_getElem.1 h1) k i (by omega) hi hk
    rw [e]
    simpa [List.getD_eq_getElem?_getD, List.getElem?_eq_getElem (show k < a.length by omega)] using this
theorem isOrd_perm {a b : List Int} (h : a.Perm b) (hb : IsOrd b) : IsOrd a := by
  rw [isOrd_iff] at hb ⊢
  exact ⟨h.nodup_iff.2 hb.1, fun x hx => by rw [h.length_eq]; exact hb.2 x (h.mem_iff.1 hx)⟩
theorem isOrd_upTo (n : Nat) : IsOrd (upTo n) := by
  intro i hi
  rw [upTo_len] at hi ⊢
  rw [upTo_at hi]
  refine ⟨by omega, fun k hk => ?_⟩
  rw [upTo_at (by omega)]
  omega
theorem firstM_ord (l : List Mv) : IsOrd (firstM l) := isOrd_perm (firstM_perm l) (isOrd_upTo _)
theorem firstM_len (l : List Mv) : (firstM l).length = l.length := isort_len
end Go.AM

/- Plain models: all orders, the best ticks; no condition. -/
namespace Go.AM
set_option linter.unusedVariables false
set_option linter.unusedSimpArgs false
open Go.RowKit

def bump (f p : Int) : Int := if f ≤ p then p + 1 else p
/-- All orders of n, in order. -/
def allM : Nat → List (List Int)
  | 0 => [[]]
  | n + 1 => (List.range (n + 1)).flatMap fun f : Nat => (allM n).map fun o => (f : Int) :: o.map (bump f)
/-- All orders that go on from some places. -/
def ext (n : Nat) : Nat → List Int → List (List Int)
  | 0, ahead => [ahead]
  | d + 1, ahead => (List.range n).flatMap fun i : Nat => if ((i : Int) ∈ ahead) then [] else ext n d (ahead ++ [(i : Int)])
theorem ext_all : ∀ n, n ≤ 6 → ext n n [] = allM n := by
  intro n hn
  have : n = 0 ∨ n = 1 ∨ n = 2 ∨ n = 3 ∨ n = 4 ∨ n = 5 ∨ n = 6 := by omega
  rcases this with rfl | rfl | rfl | rfl | rfl | rfl | rfl <;> decide +kernel
theorem bump_ne {f p q : Int} (h : p ≠ q) : bump f p ≠ bump f q := by unfold bump; split <;> split <;> omega
theorem bump_f {f p : Int} : bump f p ≠ f := by unfold bump; split <;> omega
theorem bump_range {f p n : Int} (hp : 0 ≤ p ∧ p ≤ n - 1) : 0 ≤ bump f p ∧ bump f p ≤ n := by unfold bump; split <;> omega
def unbump (f p : Int) : Int := if f < p then p - 1 else p
theorem bump_unbump {f p : Int} (h : p ≠ f) : bump f (unbump f p) = p := by unfold bump unbump; split <;> split <;> omega
/-- The orders are those that are ok. -/
theorem allM_ord : ∀ {n : Nat} {o : List Int}, o ∈ allM n → o.length = n ∧ IsOrd o
  | 0, o, h => by
    simp only [allM, List.mem_singleton] at h
    subst h
    exact ⟨rfl, fun i hi => by simp at hi⟩
  | n + 1, o, h => by
    simp only [allM, List.mem_flatMap, List.mem_range, List.mem_map] at h
    obtain ⟨f, hf, q, hq, rfl⟩ := h
    obtain ⟨h1, h2⟩ := allM_ord hq
    rw [isOrd_iff] at h2 ⊢
    refine ⟨by simp [h1], List.nodup_cons.2 ⟨fun hm => ?_, ?_⟩, fun x hx => ?_⟩
    · obtain ⟨p, _, hp⟩ := List.mem_map.1 hm
      exact bump_f hp
    · exact List.Pairwise.map _ (fun a b h => bump_ne h) h2.1
    · rcases List.mem_cons.1 hx with rfl | hx
      · simp [h1]; omega
      · obtain ⟨p, hp, rfl⟩ := List.mem_map.1 hx
        have := h2.2 p hp
        have := bump_range (f := f) this
        simp [h1]
        rw [h1] at this
        exact this
theorem allM_mem : ∀ {n : Nat} {o : List Int}, o.length = n → IsOrd o → o ∈ allM n
  | 0, o, h, _ => by
    obtain rfl := List.eq_nil_of_length_eq_zero h
    simp [allM]
  | n + 1, [], h, _ => by simp at h
  | n + 1, f :: o, h, ho => by
    rw [isOrd_iff] at ho
    obtain ⟨h1, h2⟩ := ho
    rw [List.nodup_cons] at h1
    have hl : o.length = n := by simpa using h
    have hf := h2 f List.mem_cons_self
    simp only [List.length_cons, hl] at hf h2
    have hu : (o.map (unbump f)).map (bump f) = o := by
      rw [List.map_map]
      refine (List.map_congr_left fun p hp => ?_).trans (List.map_id o)
      exact bump_unbump fun e => h1.1 (e ▸ hp)
    simp only [allM, List.mem_flatMap, List.mem_range, List.mem_map]
    refine ⟨f.toNat, by omega, o.map (unbump f), allM_mem (by simp [hl]) ?_, ?_⟩
    · rw [isOrd_iff]
      refine ⟨?_, fun x hx => ?_⟩
      · have : ((o.map (unbump f)).map (bump f)).Nodup := by rw [hu]; exact h1.2
        exact (List.pairwise_map.1 this).imp fun hab e => hab (by rw [e])
      · obtain ⟨p, hp, rfl⟩ := List.mem_map.1 hx
        have := h2 p (List.mem_cons_of_mem _ hp)
        have hne : p ≠ f := fun e => h1.1 (e ▸ hp)
        simp only [List.length_map, hl]
        unfold unbump
        split <;> omega
    · rw [Int.toNat_of_nonneg hf.1, hu]
theorem shiftM_symm (a b : List Int) : shiftM a b = shiftM b a := by
  by_cases hc : a.length = b.length ∧ IsOrd a ∧ IsOrd b
  · have hc' : b.length = a.length ∧ IsOrd b ∧ IsOrd a := ⟨hc.1.symm, hc.2.2, hc.2.1⟩
    unfold shiftM
    rw [if_pos hc, if_pos hc']
    have key : ∀ (a b : List Int), a.length = b.length → IsOrd a → IsOrd b → ∀ m : Int, 0 ≤ m → (foldFrom (shStep a b) 0 a.length 0 ≤ m ↔ ∀ i j, i < a.length → j < b.length → a.getD i 0 = b.getD j 0 → (i : Int) - j ≤ m ∧ (j : Int) - i ≤ m) := by
      intro a b hl ha hb m hm
      have gen : ∀ d i s, i + d = a.length → (foldFrom (shStep a b) i d s ≤ m ↔ s ≤ m ∧ ∀ i' j, i ≤ i' → i' < a.length → j < b.length → a.getD i' 0 = b.getD j 0 → (i' : Int) - j ≤ m ∧ (j : Int) - i' ≤ m) := by
        intro d
        induction d with
        | zero =>
          intro i s hi
          exact ⟨fun h => ⟨h, fun i' j h1 h2 => absurd h1 (by omega)⟩, fun h => h.1⟩
        | succ d ih =>
          intro i s hi
          show foldFrom (shStep a b) (i + 1) d (shStep a b i s) ≤ m ↔ _
          rw [ih (i + 1) _ (by omega)]
          have hv := (ha i (by omega)).1
          obtain ⟨q, hq, eq⟩ := ord_onto hb (a.getD i 0).toNat (by omega)
          have hp : pos b (a.getD i 0) = q := by
            rcases pos_range b (a.getD i 0) with ⟨_, h⟩ | ⟨q', h, hq', hv'⟩
            · exact absurd (by omega) (h q hq)
            · rw [h, ord_inj hb hq' hq (by omega)]
          unfold shStep
          rw [hp]
          constructor
          · rintro ⟨h1, h2⟩
            refine ⟨by omega, fun i' j h3 h4 h5 h6 => ?_⟩
            by_cases e : i' = i
            · subst e
              obtain rfl := ord_inj hb h5 hq (by omega)
              omega
            · exact h2 i' j (by omega) h4 h5 h6
          · rintro ⟨h1, h2⟩
            have := h2 i q (Nat.le_refl _) (by omega) hq (by omega)
            exact ⟨by omega, fun i' j h3 => h2 i' j (by omega)⟩
      have := gen a.length 0 0 (by omega)
      rw [this]
      exact ⟨fun h i j h1 h2 h3 => h.2 i j (by omega) h1 h2 h3, fun h => ⟨hm, fun i j _ h1 h2 h3 => h i j h1 h2 h3⟩⟩
    have nn : ∀ (a b : List Int), 0 ≤ foldFrom (shStep a b) 0 a.length 0 := by
      intro a b
      have := foldFrom_inv (step := shStep a b) (fun _ s => 0 ≤ s) (n := a.length) (fun i s _ h => by unfold shStep; omega) a.length 0 0 (by omega) (by omega)
      exact this
    have h1 := (key a b hc.1 hc.2.1 hc.2.2 _ (nn b a)).2 fun i j hi hj e => (((key b a hc.1.symm hc.2.2 hc.2.1 _ (nn b a)).1 (Int.le_refl _)) j i hj hi e.symm).symm
    have h2 := (key b a hc.1.symm hc.2.2 hc.2.1 _ (nn a b)).2 fun i j hi hj e => (((key a b hc.1 hc.2.1 hc.2.2 _ (nn a b)).1 (Int.le_refl _)) j i hj hi e.symm).symm
    omega
  · have hc' : ¬ (b.length = a.length ∧ IsOrd b ∧ IsOrd a) := fun h => hc ⟨h.1.symm, h.2.2, h.2.1⟩
    unfold shiftM
    rw [if_neg hc, if_neg hc']

/-- Whether ticks are ahead of others, place by place. -/
def lexFrom (a b : List Int) : Nat → Nat → Bool
  | _, 0 => false
  | i, d + 1 => if tk a i = tk b i then lexFrom a b (i + 1) d else decide (tk a i < tk b i)
def lexB (a b : List Int) : Bool := lexFrom a b 0 a.length
def better (l : List Mv) (a b : List Int) : Bool :=
  if (costM l a).1 = (costM l b).1 then (if (costM l a).2 = (costM l b).2 then lexB a b else decide ((costM l a).2 < (costM l b).2)) else decide ((costM l a).1 < (costM l b).1)
def bestStep (l : List Mv) (first : List Int) (shift : Int) (s : Option (List Int)) (o : List Int) : Option (List Int) :=
  if shift < shiftM first o then s else if (ordM l o).2 = true then (match s with
    | none => some (ordM l o).1
    | some b => if better l (ordM l o).1 b = true then some (ordM l o).1 else some b) else s
def bestO (l : List Mv) (shift : Int) : Option (List Int) := (allM l.length).foldl (bestStep l (firstM l) shift) none
def retO : Option (List Int) → List Int × Bool
  | none => ([], false)
  | some t => (t, true)
def bestM (l : List Mv) (shift : Int) : List Int × Bool := retO (bestO l shift)
def bestF (l : List Mv) (shift : Int) : List Int × Bool := if MovesOk l ∧ 0 ≤ shift ∧ shift ≤ 6 then bestM l shift else ([], false)
end Go.AM

/- Plain models: plans, who goes round, books that are sure; no condition. -/
namespace Go.AM
set_option linter.unusedVariables false
set_option linter.unusedSimpArgs false
open Go.RowKit

theorem at'_map {f : Mv → Mv} {l : List Mv} {i : Nat} (h : i < l.length) : at' (l.map f) i = f (at' l i) := by
  simp [at', List.getD_eq_getElem?_getD, List.getElem?_eq_getElem h]
theorem at'_mem {l : List Mv} {i : Nat} (h : i < l.length) : at' l i ∈ l := by
  simp [at', List.getD_eq_getElem?_getD, List.getElem?_eq_getElem h]
theorem mem_at' {l : List Mv} {m : Mv} (h : m ∈ l) : ∃ i, i < l.length ∧ at' l i = m := by
  obtain ⟨j, hj, rfl⟩ := List.getElem_of_mem h
  exact ⟨j, hj, by simp [at', List.getD_eq_getElem?_getD, List.getElem?_eq_getElem hj]⟩
theorem movesOk_lt {l : List Mv} (h : MovesOk l) {i k : Nat} (hik : i < k) (hk : k < l.length) : ltN (at' l i).f0 (at' l k).f0 = true := by
  induction k with
  | zero => omega
  | succ k ih =>
    have := (h.2 (k + 1) hk).2 (by omega)
    rw [Nat.add_sub_cancel] at this
    by_cases e : i = k
    · rw [e]; exact this
    · exact ltN_trans (ih (by omega) (by omega)) this
def Asc (l : List Mv) : Prop := l.Pairwise fun a b => ltN a.f0 b.f0 = true
theorem movesOk_iff {l : List Mv} : MovesOk l ↔ l.length ≤ 6 ∧ (∀ m ∈ l, mvOk m = true) ∧ Asc l := by
  constructor
  · intro h
    refine ⟨h.1, fun m hm => ?_, List.pairwise_iff_getElem.2 fun i j hi hj hij => ?_⟩
    · obtain ⟨i, hi, rfl⟩ := mem_at' hm
      exact (h.2 i hi).1
    · have := movesOk_lt h hij hj
      simpa [at', List.getD_eq_getElem?_getD, List.getElem?_eq_getElem hj, List.getElem?_eq_getElem hi] using this
  · rintro ⟨h1, h2, h3⟩
    refine ⟨h1, fun i hi => ⟨h2 _ (at'_mem hi), fun h0 => ?_⟩⟩
    have := (List.pairwise_iff_getElem.1 h3) (i - 1) i (by omega) hi (by omega)
    simpa [at', List.getD_eq_getElem?_getD, List.getElem?_eq_getElem hi, List.getElem?_eq_getElem (show i - 1 < l.length by omega)] using this

def laterMv (u : Int) (m : Mv) : Mv := if m.f5 < 0 then { m with f3 := max m.f3 u } else m
def LaterAt (u : Int) (m : Mv) : Prop := m.f5 < 0 → max m.f3 u ≤ m.f4
def LaterOk (u : Int) (l : List Mv) : Prop := ∀ i, i < l.length → LaterAt u (at' l i)
instance (u : Int) (m : Mv) : Decidable (LaterAt u m) := by unfold LaterAt; infer_instance
instance (u : Int) (l : List Mv) : Decidable (LaterOk u l) := by unfold LaterOk; infer_instance
def laterL (u : Int) (l : List Mv) : List Mv := l.map (laterMv u)
def planM (l : List Mv) (now shift : Int) : List Int × Bool := if LaterOk (now + 4) l then bestM (laterL (now + 4) l) shift else ([], false)
theorem laterMv_name (u : Int) (m : Mv) : (laterMv u m).f0 = m.f0 := by unfold laterMv; split <;> rfl
theorem later_mvOk {u : Int} {m : Mv} (h : mvOk m = true) (hu : 0 ≤ u) (hl : LaterAt u m) : mvOk (laterMv u m) = true := by
  unfold LaterAt at hl
  rw [mvOk_true] at h ⊢
  unfold laterMv
  split
  · refine ⟨h.1, ?_⟩
    have := h.2
    have := hl (by omega)
    dsimp only
    omega
  · exact h
theorem later_movesOk {u : Int} {l : List Mv} (h : MovesOk l) (hu : 0 ≤ u) (hl : LaterOk u l) : MovesOk (laterL u l) := by
  rw [movesOk_iff] at h ⊢
  refine ⟨by simpa [laterL] using h.1, fun m hm => ?_, ?_⟩
  · obtain ⟨a, ha, rfl⟩ := List.mem_map.1 hm
    obtain ⟨i, hi, rfl⟩ := mem_at' ha
    exact later_mvOk (h.2.1 _ ha) hu (hl i hi)
  · exact List.Pairwise.map _ (fun a b hab => by rw [laterMv_name, laterMv_name]; exact hab) h.2.2

/-- A move that goes round at a tick. -/
def goneMv (t : Int) (m : Mv) : Mv := { m with f3 := t + 6, f5 := -1 }
def thenStep (b : Bk) (a : Nat) (k : Nat) (s : List Mv) : List Mv :=
  if k = a then s ++ [goneMv (tk b.ts a) (at' b.ms k)] else if tk b.ts k < tk b.ts a then s else if tk b.ts k < tk b.ts a + 4 then s ++ [{ at' b.ms k with f5 := tk b.ts k }] else s ++ [at' b.ms k]
def thenL (b : Bk) (a : Nat) : List Mv := foldFrom (thenStep b a) 0 b.ms.length []
def GoneOk (b : Bk) (a : Nat) : Prop := tk b.ts a + 6 ≤ (at' b.ms a).f4
instance (b : Bk) (a : Nat) : Decidable (GoneOk b a) := by unfold GoneOk; infer_instance
def roundP (b : Bk) (a : Nat) : List Int × Bool := planM (thenL b a) (tk b.ts a) 6
def RoundOk (b : Bk) (a : Nat) : Prop := GoneOk b a ∧ (roundP b a).2 = true
instance (b : Bk) (a : Nat) : Decidable (RoundOk b a) := by unfold RoundOk; infer_instance
def Bk.z : Bk := ⟨0, 0, [], []⟩
def roundB (b : Bk) (a : Nat) : Bk := ⟨tk b.ts a, b.shift, thenL b a, (roundP b a).1⟩
/-- What the program's round gives, and the reference's. -/
def roundI (b : Bk) (a : Nat) : Bk × Bool := if GoneOk b a then (roundB b a, (roundP b a).2) else (Bk.z, false)
def roundS (b : Bk) (a : Nat) : Bk × Bool := if RoundOk b a then (roundB b a, true) else (Bk.z, false)
def SureM (b : Bk) : Prop := BkOk b ∧ ∀ i, i < b.ms.length → (at' b.ms i).f1 = true → RoundOk b i
instance (b : Bk) : Decidable (SureM b) := by unfold SureM; infer_instance
theorem thenStep_len {b : Bk} {a k : Nat} {s : List Mv} (h : s.length ≤ k) : (thenStep b a k s).length ≤ k + 1 := by
  unfold thenStep
  (repeat' split) <;> first | omega | (simp only [List.length_append, List.length_cons, List.length_nil]; omega)
theorem thenL_len (b : Bk) (a : Nat) : (thenL b a).length ≤ b.ms.length := by
  have := foldFrom_inv (step := thenStep b a) (fun i s => s.length ≤ i) (n := b.ms.length) (fun i s _ h => thenStep_len h) b.ms.length 0 [] (by omega) (by simp)
  simpa [thenL] using this
theorem bk_tick {b : Bk} (hb : BkOk b) {i : Nat} (hi : i < b.ms.length) : b.ts.length = b.ms.length ∧ InR b.ms b.ts i ∧ mvOk (at' b.ms i) = true ∧ SoonAt b i ∧ 0 ≤ tk b.ts i ∧ tk b.ts i ≤ 10000 := by
  have hf := hb.2.2.1
  have h1 := hf.2.1
  have h2 := (hf.2.2 i hi).1
  exact ⟨h1, h2, (hf.1.2 i hi).1, hb.2.2.2 i (by omega), inR_range hf.1 hi h2⟩
/-- What a round makes of one who stays. -/
def stayMv (t : Int) (m : Mv) (u : Int) : Mv := if u < t + 4 then { m with f5 := u } else m
theorem stay_mvOk {m : Mv} {t u : Int} (h : mvOk m = true) (hu : m.f3 ≤ u ∧ u ≤ m.f4) : mvOk (stayMv t m u) = true := by
  rw [mvOk_true] at h ⊢
  unfold stayMv
  split
  · refine ⟨h.1, ?_⟩
    have := h.2
    dsimp only
    omega
  · exact h
theorem gone_mvOk {m : Mv} {t : Int} (h : mvOk m = true) (ht : 0 ≤ t) (hg : t + 6 ≤ m.f4) : mvOk (goneMv t m) = true := by
  rw [mvOk_true] at h ⊢
  refine ⟨h.1, ?_⟩
  have := h.2
  unfold goneMv
  dsimp only
  omega
theorem thenStep_eq (b : Bk) (a k : Nat) (s : List Mv) : thenStep b a k s = if k = a then s ++ [goneMv (tk b.ts a) (at' b.ms k)] else if tk b.ts k < tk b.ts a then s else s ++ [stayMv (tk b.ts a) (at' b.ms k) (tk b.ts k)] := by
  unfold thenStep stayMv
  (repeat' split) <;> rfl
theorem then_movesOk {b : Bk} (hb : BkOk b) {a : Nat} (ha : a < b.ms.length) (hg : GoneOk b a) : MovesOk (thenL b a) := by
  have hm := hb.2.2.1.1
  have := foldFrom_inv (step := thenStep b a) (fun i s => (∀ m ∈ s, mvOk m = true) ∧ Asc s ∧ ∀ m ∈ s, ∀ k, i ≤ k → k < b.ms.length → ltN m.f0 (at' b.ms k).f0 = true) (n := b.ms.length) (fun i s hi h => by
    obtain ⟨h1, h2, h3⟩ := h
    have add : ∀ m : Mv, mvOk m = true → m.f0 = (at' b.ms i).f0 → (∀ m' ∈ s ++ [m], mvOk m' = true) ∧ Asc (s ++ [m]) ∧ ∀ m' ∈ s ++ [m], ∀ k, i + 1 ≤ k → k < b.ms.length → ltN m'.f0 (at' b.ms k).f0 = true := by
      intro m hmo hn
      refine ⟨fun m' hm' => ?_, List.pairwise_append.2 ⟨h2, List.pairwise_singleton _ _, fun x hx y hy => ?_⟩, fun m' hm' k hk hk2 => ?_⟩
      · rcases List.mem_append.1 hm' with h | h
        · exact h1 m' h
        · rw [List.mem_singleton.1 h]; exact hmo
      · rw [List.mem_singleton.1 hy, hn]
        exact h3 x hx i (Nat.le_refl _) hi
      · rcases List.mem_append.1 hm' with h | h
        · exact h3 m' h k (by omega) hk2
        · rw [List.mem_singleton.1 h, hn]
          exact movesOk_lt hm (by omega) hk2
    obtain ⟨k1, k2, k3, k4, k5, k6⟩ := bk_tick hb hi
    rw [thenStep_eq]
    split
    · rename_i e
      subst e
      exact add _ (gone_mvOk k3 k5 hg) rfl
    · split
      · exact ⟨h1, h2, fun m hm k hk hk2 => h3 m hm k (by omega) hk2⟩
      · refine add _ (stay_mvOk k3 k2.1) ?_
        unfold stayMv
        split <;> rfl) b.ms.length 0 [] (by omega) ⟨fun m h => by simp at h, .nil, fun m h => by simp at h⟩
  have hl := thenL_len b a
  rw [movesOk_iff]
  exact ⟨by have := hm.1; omega, this.1, this.2.1⟩
/-- A plan of moves that are ok is the best of moves that are ok. -/
theorem planM_eq {l : List Mv} (h : MovesOk l) {now shift : Int} (hn : 0 ≤ now) (hs : 0 ≤ shift ∧ shift ≤ 6) : planM l now shift = if LaterOk (now + 4) l then bestF (laterL (now + 4) l) shift else ([], false) := by
  unfold planM
  split
  · rename_i hl
    unfold bestF
    rw [if_pos ⟨later_movesOk h (by omega) hl, hs⟩]
  · rfl

/-- The place of a name, -1 if it is not there. -/
def atFrom (l : List Mv) (s : ByteArray) : Nat → Nat → Int
  | _, 0 => -1
  | i, d + 1 => if (at' l i).f0.toList == s.toList then (i : Int) else atFrom l s (i + 1) d
def atN (l : List Mv) (s : ByteArray) : Int := atFrom l s 0 l.length
theorem atFrom_range (l : List Mv) (s : ByteArray) : ∀ d i, i + d = l.length → (atFrom l s i d = -1 ∧ ∀ j, i ≤ j → j < l.length → (at' l j).f0 ≠ s) ∨ (∃ j : Nat, atFrom l s i d = j ∧ i ≤ j ∧ j < l.length ∧ (at' l j).f0 = s) := by
  intro d
  induction d with
  | zero => exact fun i hi => .inl ⟨rfl, fun j h1 h2 => absurd h1 (by omega)⟩
  | succ d ih =>
    intro i hi
    unfold atFrom
    by_cases h : (at' l i).f0 = s
    · rw [if_pos (by rw [h]; simp)]
      exact .inr ⟨i, rfl, Nat.le_refl _, by omega, h⟩
    · rw [if_neg (by simpa using fun e => h (toList_inj e))]
      rcases ih (i + 1) (by omega) with ⟨h1, h2⟩ | ⟨j, h1, h2, h3, h4⟩
      · refine .inl ⟨h1, fun j hj hl => ?_⟩
        by_cases e : j = i
        · exact e ▸ h
        · exact h2 j (by omega) hl
      · exact .inr ⟨j, h1, by omega, h3, h4⟩
theorem atN_range (l : List Mv) (s : ByteArray) : (atN l s = -1 ∧ ∀ j, j < l.length → (at' l j).f0 ≠ s) ∨ (∃ j : Nat, atN l s = j ∧ j < l.length ∧ (at' l j).f0 = s) := by
  rcases atFrom_range l s l.length 0 (by omega) with ⟨h1, h2⟩ | ⟨j, h1, _, h3, h4⟩
  · exact .inl ⟨h1, fun j hj => h2 j (by omega) hj⟩
  · exact .inr ⟨j, h1, h3, h4⟩

/-- A move among others, in order. -/
def putM (l : List Mv) (m : Mv) : List Mv := insA (fun y => ltN y.f0 m.f0) m l
def addR (b : Bk) (m : Mv) : Bk × Int :=
  if ¬ BkOk b then (Bk.z, 1) else if ¬ (mvOk m = true ∧ m.f5 = -1) then (b, 2) else if 0 ≤ atN b.ms m.f0 then (b, 3) else if b.ms.length = 6 then (b, 4)
  else if (planM (putM b.ms m) b.now b.shift).2 = false then (b, 5) else if ¬ SureM ⟨b.now, b.shift, putM b.ms m, (planM (putM b.ms m) b.now b.shift).1⟩ then (b, 6)
  else (⟨b.now, b.shift, putM b.ms m, (planM (putM b.ms m) b.now b.shift).1⟩, 0)
def dropL {α : Type} (l : List α) (a : Nat) : List α := l.take a ++ l.drop (a + 1)
def NoLater (a b : List Int) : Prop := ∀ i, i < a.length → tk a i ≤ tk b i
instance (a b : List Int) : Decidable (NoLater a b) := by unfold NoLater; infer_instance
def dropB (b : Bk) (a : Nat) : Bk := ⟨b.now, b.shift, dropL b.ms a, dropL b.ts a⟩
def dropP (b : Bk) (a : Nat) : List Int × Bool := planM (dropL b.ms a) b.now b.shift
def dropR (b : Bk) (s : ByteArray) : Bk × Int :=
  if ¬ BkOk b then (Bk.z, 1) else if atN b.ms s < 0 then (b, 3)
  else if (dropP b (atN b.ms s).toNat).2 = true ∧ NoLater (dropP b (atN b.ms s).toNat).1 (dropL b.ts (atN b.ms s).toNat) ∧ SureM ⟨b.now, b.shift, dropL b.ms (atN b.ms s).toNat, (dropP b (atN b.ms s).toNat).1⟩
  then (⟨b.now, b.shift, dropL b.ms (atN b.ms s).toNat, (dropP b (atN b.ms s).toNat).1⟩, 0) else (dropB b (atN b.ms s).toNat, 0)
def roundR (b : Bk) (s : ByteArray) : Bk × Int :=
  if ¬ BkOk b then (Bk.z, 1) else if ¬ (0 ≤ atN b.ms s ∧ (at' b.ms (atN b.ms s).toNat).f1 = true) then (b, 3) else if tk b.ts (atN b.ms s).toNat ≠ b.now then (b, 6)
  else if RoundOk b (atN b.ms s).toNat then (roundB b (atN b.ms s).toNat, 0) else (b, 5)
end Go.AM

/- Answers that are nil in one case: ticks and whether there are any; no condition. -/
namespace Go.AM
set_option linter.unusedVariables false
set_option linter.unusedSimpArgs false
open Go.RowKit
variable {P : Program}

/-- What omega is not to see. -/
structure Fact (p : Prop) : Prop where
  h : p
theorem fs {i : Nat} (h : i < 9223372036854775807) : Fact (wrap64 ((i : Int) + 1) = ((i + 1 : Nat) : Int)) := ⟨wrap_eq (by omega) (by omega)⟩
theorem fw {x : Int} (h : -9223372036854775808 ≤ x ∧ x ≤ 9223372036854775807) : Fact (wrap64 x = x) := ⟨wrap_eq h.1 h.2⟩
/-- Ticks of its own, or nil. -/
def NilR (p : List Int × Bool) (v : V) (s : List (Option C)) : Prop :=
  (v = .tup [.one (.own (.k 0)), .one (.bool p.2)] ∧ s = [some (.row (.int .i64) p.1)]) ∨ (p.2 = false ∧ v = .tup [.one .nil, .one (.bool false)] ∧ s = [])
theorem nilR_len {p : List Int × Bool} {v : V} {s : List (Option C)} (h : NilR p v s) : 0 ≤ s.length := Nat.zero_le _
theorem nilR_ok {p : List Int × Bool} (hp : p.2 = false → p.1 = []) {f : FuncId} {args : List V} (h : ∃ v s, NilR p v s ∧ Ok P f args [] v s) : Ok P f args [] (.tup [.one (.own (.k 0)), .one (.bool p.2)]) [some (.row (.int .i64) p.1)] := by
  obtain ⟨v, s, (⟨rfl, rfl⟩ | ⟨h1, rfl, rfl⟩), k⟩ := h
  · exact k
  · rw [h1, hp h1]
    exact k.virt (.int .i64) rfl
theorem ordFrom_nil (l : List Mv) (o : List Int) : ∀ d i ts, (ordFrom l o d i ts).2 = false → (ordFrom l o d i ts).1 = [] := by
  intro d
  induction d with
  | zero => intro i ts h; cases h
  | succ d ih =>
    intro i ts h
    unfold ordFrom at h ⊢
    split
    · rfl
    · rename_i u hu
      rw [hu] at h
      exact ih _ _ h
theorem ordM_nil (l : List Mv) (o : List Int) : (ordM l o).2 = false → (ordM l o).1 = [] := ordFrom_nil l o _ _ _
theorem ordF_nil (l : List Mv) (o : List Int) : (ordF l o).2 = false → (ordF l o).1 = [] := by
  unfold ordF
  split
  · exact ordM_nil l o
  · exact fun _ => rfl
theorem ordFrom_ts {l : List Mv} {o : List Int} {d i : Nat} {ts : List Int} {r : List Int × Bool} (he : ordFrom l o (d + 1) i ts = r) {m : Mv} (hm : m = at' l (pl o i)) (hok : mvOk m = true) (hts : Ts l.length ts) {t : Int} (ht : t = leastT l o ts i) (h0 : 0 ≤ t) :
    (tickOf m t = none → r.2 = false) ∧ ∀ u, tickOf m t = some u → ordFrom l o d (i + 1) (ts.set (pl o i) u) = r ∧ Ts l.length (ts.set (pl o i) u) := by
  subst hm ht
  unfold ordFrom at he
  constructor
  · intro h
    rw [h] at he
    rw [← he]
  · intro u h
    rw [h] at he
    have := tickOf_range hok h h0
    exact ⟨he, ts_set hts _ this.1 this.2.1⟩
end Go.AM

/- Plain models: the program's insertion sort; no condition. -/
namespace Go.AM
set_option linter.unusedVariables false
set_option linter.unusedSimpArgs false
open Go.RowKit

theorem wayRow_perm {α : Type} {pre : List α} {x : α} {rest : List α} {j : Nat} : (wayRow pre x rest j).Perm (pre ++ x :: rest) := by
  unfold wayRow
  refine List.perm_middle.trans ?_
  rw [← List.append_assoc, List.take_append_drop]
  exact List.perm_middle.symm
theorem wayRow_start {α : Type} {pre : List α} {x : α} {rest : List α} {j : Nat} (h : pre.length = j) : wayRow pre x rest j = pre ++ x :: rest := by
  unfold wayRow
  rw [List.take_of_length_le (by omega), List.drop_of_length_le (by omega)]
  rfl
theorem drop_getD {α : Type} {xs : List α} {i : Nat} (d : α) (h : i < xs.length) : xs.drop i = xs.getD i d :: xs.drop (i + 1) := by
  rw [List.drop_eq_getElem_cons h, List.getD_eq_getElem?_getD, List.getElem?_eq_getElem h]
  rfl
/-- The row with its first i sorted. -/
def sortedRow {α : Type} (lt : α → α → Bool) (d : α) (xs : List α) (i : Nat) : List α := isort lt d xs i ++ xs.drop i
theorem sortedRow_zero {α : Type} {lt : α → α → Bool} {d : α} {xs : List α} : sortedRow lt d xs 0 = xs := rfl
theorem sortedRow_all {α : Type} {lt : α → α → Bool} {d : α} {xs : List α} : sortedRow lt d xs xs.length = isort lt d xs xs.length := by
  unfold sortedRow
  rw [List.drop_length, List.append_nil]
theorem sortedRow_one {α : Type} {lt : α → α → Bool} {d : α} {xs : List α} (h : 1 ≤ xs.length) : sortedRow lt d xs 1 = xs := by
  unfold sortedRow
  rw [isort_succ]
  show insA _ _ (isort lt d xs 0) ++ _ = _
  match xs, h with
  | x :: xs, _ => simp [isort, foldFrom, insA]
theorem sortedRow_start {α : Type} {lt : α → α → Bool} {d : α} {xs : List α} {i : Nat} (h : i < xs.length) : sortedRow lt d xs i = wayRow (isort lt d xs i) (xs.getD i d) (xs.drop (i + 1)) i := by
  rw [wayRow_start isort_len, sortedRow, drop_getD d h]
theorem sortedRow_end {α : Type} {lt : α → α → Bool} (hs : Srt lt) {d : α} {xs : List α} {i j : Nat} (h : i < xs.length) (hj : j ≤ i) (hb : ∀ q, j ≤ q → q < i → lt (xs.getD i d) ((isort lt d xs i).getD q d) = true) (ha : 0 < j → lt (xs.getD i d) ((isort lt d xs i).getD (j - 1) d) = false) :
    wayRow (isort lt d xs i) (xs.getD i d) (xs.drop (i + 1)) j = sortedRow lt d xs (i + 1) := by
  rw [wayRow_end hs (d := d) (isort_sorted hs) (by rw [isort_len]; exact hj) (fun q h1 h2 => hb q h1 (by rw [isort_len] at h2; exact h2)) ha]
  unfold sortedRow
  rw [isort_succ]
  rfl
theorem way_xs {α : Type} {lt : α → α → Bool} {d : α} {xs : List α} {i j : Nat} (h : i < xs.length) : (wayRow (isort lt d xs i) (xs.getD i d) (xs.drop (i + 1)) j).Perm xs := by
  refine wayRow_perm.trans ?_
  rw [← drop_getD d h]
  refine (List.Perm.append_right _ (isort_perm (by omega))).trans ?_
  rw [List.take_append_drop]
theorem way_swap {α : Type} {pre : List α} {x d : α} {rest : List α} {j : Nat} (hj : j + 1 ≤ pre.length) : swapL d (wayRow pre x rest (j + 1)) (j + 1) j = wayRow pre x rest j := by
  unfold swapL
  have hjl : j < pre.length := by omega
  rw [wayRow_here (by omega), wayRow_ahead (Nat.lt_succ_self j) (by omega)]
  refine wayRow_swap hj ?_
  rw [List.getD_eq_getElem?_getD, List.getElem?_eq_getElem hjl]
  rfl
theorem wrap_pred {z : Int} {j : Nat} (h : z = ((j + 1 : Nat) : Int)) (hj : j < 4611686018427387904) : wrap64 (z - 1) = (j : Int) := by
  subst h
  exact (wrap_eq (by omega) (by omega)).trans (by omega)
end Go.AM

/- What comes in as a slice reads as a list that is only read; condition: the argument reads as data of its type. -/
namespace Go.AM
set_option linter.unusedVariables false
set_option linter.unusedSimpArgs false
open Go.Joins Go.ChangeShapes Go.WideShapes Go.RowKit Go.Deep
variable {H : Type} {enc : TypeId × Value → H} {P : Program} {w : World} {base : Nat} {spare : Nat → Bool} {held : Bool}

/-- All blocks that are there. -/
def Old (w : World) (b : Nat) : Prop := b < w.heap.size
theorem cell_old {a : Addr} {v : Value} (h : w.cell? a = some v) : a = ⟨a.block, a.off, none⟩ ∧ Old w a.block := by
  have hs := World.cell?_spot h
  refine ⟨by cases a; simp_all, ?_⟩
  unfold World.cell? at h
  split at h
  · rename_i c e f hb
    exact (Array.getElem?_eq_some_iff.1 hb).1
  · cases h
theorem wf64 {x : Int} (h : (Lit.int .i64 x).wf = true) : W64 x := bounds_i64 h
theorem open_sl (e : El) {μ : Mu} {t et : TypeId} {fuel : Nat} {cs : List Value} {x : DataW H × List MemPlace} (ht : P.underlying t = some (.slice et)) (hC : P.cellsOf et = e.sz) (he : 0 < e.sz) (Wf : e.T → Prop)
    (hel : ∀ n cs' y, DataW.trod enc P w base spare held n et cs' = some y → cs'.length = e.sz → ∃ z : e.T, All2 (rep1 w (Old w)) (e.enc z) cs' ∧ Wf z) (h : DataW.trod enc P w base spare held fuel t cs = some x) :
    ∃ (v : Value) (xs : List e.T), cs = [v] ∧ repA μ w (Old w) (.lst e xs false) v ∧ xs.length ≤ maxLen ∧ ∀ z ∈ xs, Wf z := by
  classical
  rcases open_slice ht h with ⟨h0, _⟩ | ⟨a, len, cap, m, n, D, Pl, hcs, hb, hl, hm, hmm, hx, hi⟩
  · refine ⟨.slice none 0 0, [], by simpa using h0, ?_, by simp [maxLen], fun z hz => by simp at hz⟩
    simp only [repA]
    exact ⟨none, 0, rfl, Nat.le_refl _, by simp, fun h => absurd rfl h⟩
  · have hlm : len ≤ m := by rw [hmm]; split <;> omega
    have key : ∀ i, i < len → ∃ z : e.T, Wf z ∧ ∃ cs', All2 (rep1 w (Old w)) (e.enc z) cs' ∧ cs'.length = e.sz ∧ ∀ j u, cs'[j]? = some u → w.cell? (a.add (i * e.sz + j)) = some u := by
      intro i hil
      obtain ⟨cs', hc, ht'⟩ := hi i (by omega)
      obtain ⟨_, hcl, hat⟩ := World.cells?_some hc
      rw [hC] at hcl hat
      obtain ⟨z, hz, hw⟩ := hel _ _ _ ht' hcl
      refine ⟨z, hw, cs', hz, hcl, fun j u hu => ?_⟩
      have hj : j < e.sz := by
        have := (List.getElem?_eq_some_iff.1 hu).1
        omega
      have h1 := hat j hj
      rw [Go.Deep.add_add] at h1
      rw [h1, hu]
    let xs : List e.T := (List.range len).pmap (fun i h => Classical.choose (key i h)) (fun i hi => List.mem_range.1 hi)
    have hxl : xs.length = len := by simp [xs]
    have hxi : ∀ i (h : i < len), xs[i]? = some (Classical.choose (key i h)) := by
      intro i h
      have hh : i < xs.length := by omega
      rw [List.getElem?_eq_getElem hh]
      simp [xs]
    refine ⟨.slice (some a) xs.length cap, xs, by rw [hcs, hxl], ?_, by omega, fun z hz => ?_⟩
    · simp only [repA]
      refine ⟨some a, cap, rfl, by omega, by simp, fun hne => ?_⟩
      have hpos : 0 < len := by rw [← hxl]; exact List.length_pos_iff.mpr hne
      have ha : a = ⟨a.block, a.off, none⟩ ∧ Old w a.block := by
        obtain ⟨_, cs', h1, h2, h3⟩ := Classical.choose_spec (key 0 hpos)
        have h4 := h3 0 (cs'[0]'(by omega)) (List.getElem?_eq_getElem _)
        have h5 : a.add (0 * e.sz + 0) = a := by simp [Addr.add]
        rw [h5] at h4
        exact cell_old h4
      refine ⟨a.block, a.off, by rw [← ha.1], ha.2, fun i z hz => ?_⟩
      have hil : i < len := by
        have := (List.getElem?_eq_some_iff.1 hz).1
        omega
      have e1 := hxi i hil
      rw [hz] at e1
      obtain rfl := Option.some.inj e1
      obtain ⟨_, cs', h1, h2, h3⟩ := Classical.choose_spec (key i hil)
      refine ⟨cs', h1, fun j u hu => ?_⟩
      have := h3 j u hu
      rw [ha.1, Addr.add_mid] at this
      rw [Nat.add_assoc]
      exact this
    · obtain ⟨j, hj, e1⟩ := List.getElem_of_mem hz
      have hjl : j < len := by omega
      have e2 := hxi j hjl
      rw [List.getElem?_eq_getElem hj, e1] at e2
      injection e2 with e2
      subst e2
      exact (Classical.choose_spec (key j hjl)).1

/-- A call that answers true and has been handed nothing for good leaves all that was there. -/
theorem calls_true {f : FuncId} {fn : Func} {c : Code} {args : List V} {cargs : Array Value} (hfn : P.funcs[f]? = some fn) (hbd : fn.body = some c) (hnm : (fn.name == "runtime.NumGoroutine") = false) (h : Ok P f args [] (.one (.bool true)) []) (hv : repVs (fun _ => none) w (Old w) args cargs.toList) : Calls P f cargs w fun e w' => e = .returned (.bool true) ∧ Below w.heap.size w w' := by
  have hr : HR (fun _ => none) (Old w) (argSto 0 []) w := ⟨fun l c hc => by simp [argSto, lkC, lkL] at hc, fun l B hB => (by cases hB), fun l l' c c' B B' hc => by simp [argSto, lkC, lkL] at hc, fun b hb => hb⟩
  rcases h.2 w _ _ cargs hr hv with ⟨_, _, _, _, _, hcl⟩ | ⟨u, w', hx, _⟩
  case inr =>
    have : (callFunc f cargs).run P w = .ok (.enter f cargs) w := by
      simp only [callFunc, Sem.run_bind, Sem.run_pure, Result.andThen_ok, run_program, hfn, hnm, Bool.false_eq_true, if_false, hbd, Option.isNone_some]

    rw [this] at hx
    cases hx
  refine hcl.mono ?_
  rintro e w' ⟨u, rfl, μ', G', hrv, hp⟩
  simp only [repV, repA] at hrv
  subst hrv
  refine ⟨rfl, ⟨hp.os, hp.tape, hp.output, hp.size, fun k hk => hp.frame k hk ?_⟩⟩
  rintro ⟨l, c, B, hc, _⟩
  simp [argSto, lkC, lkL] at hc
/-- What is known of a move that comes in. -/
def MvWf (m : Mv) : Prop := m.f0.size ≤ maxLen ∧ W64 m.f2 ∧ W64 m.f3 ∧ W64 m.f4 ∧ W64 m.f5
theorem rep_mv {μ : Mu} (m : Mv) : repV μ w (Old w) (.agg (encMv m)) (.agg #[.string m.f0, .bool m.f1, .int .i64 m.f2, .int .i64 m.f3, .int .i64 m.f4, .int .i64 m.f5]) := by
  simp only [repV]
  refine ⟨_, rfl, ?_⟩
  simp [encMv, repAs, repA]
theorem tkWf_of {t : List Int} (h : ∀ z ∈ t, W64 z) : TkWf t := fun i hi => by
  unfold tk
  rw [List.getD_eq_getElem?_getD, List.getElem?_eq_getElem hi]
  exact h _ (List.getElem_mem hi)
theorem mvWf_at {l : List Mv} (h : ∀ z ∈ l, MvWf z) : ∀ i, i < l.length → MvWf (at' l i) := fun i hi => by
  unfold at'
  rw [List.getD_eq_getElem?_getD, List.getElem?_eq_getElem hi]
  exact h _ (List.getElem_mem hi)
end Go.AM

/- Plain facts behind the reference's draws; no condition. -/
namespace Go.AM
set_option linter.unusedVariables false
set_option linter.unusedSimpArgs false
open Go.RowKit

def Bytes (s : List Int) : Prop := ∀ x ∈ s, 0 ≤ x ∧ x < 256
theorem bytes_of {s : List Int} (h : ∀ z ∈ s, (Lit.int .u8 z).wf = true) : Bytes s := fun x hx => by
  have := bounds_u8 (h x hx)
  omega
theorem rd_byte {s : List Int} (hs : Bytes s) {i : Int} (h0 : 0 ≤ i) (h1 : i < s.length) : 0 ≤ rd s i ∧ rd s i < 256 := by
  have hi : i.toNat < s.length := by omega
  unfold rd
  rw [List.getD_eq_getElem?_getD, List.getElem?_eq_getElem hi, Option.getD_some]
  exact hs _ (List.getElem_mem hi)
theorem xor_nn {a b : Int} (h0 : 0 ≤ a) (ha : a < 9223372036854775808) (h1 : 0 ≤ b) (hb : b < 9223372036854775808) : 0 ≤ wrap64 ((BitVec.ofInt 64 a ^^^ BitVec.ofInt 64 b).toNat : Int) := by
  obtain ⟨a, rfl⟩ := Int.eq_ofNat_of_zero_le h0
  obtain ⟨b, rfl⟩ := Int.eq_ofNat_of_zero_le h1
  have hx : a ^^^ b < 2 ^ 63 := Nat.xor_lt_two_pow (by omega) (by omega)
  have e1 : (BitVec.ofInt 64 (a : Int)).toNat = a := by
    rw [BitVec.ofInt_natCast, BitVec.toNat_ofNat]; exact Nat.mod_eq_of_lt (by omega)
  have e2 : (BitVec.ofInt 64 (b : Int)).toNat = b := by
    rw [BitVec.ofInt_natCast, BitVec.toNat_ofNat]; exact Nat.mod_eq_of_lt (by omega)
  rw [BitVec.toNat_xor, e1, e2, wrap_eq (by omega) (by omega)]
  omega
theorem tm {x n : Int} (hx : 0 ≤ x) (hn : ¬ n < 1) : (1 ≤ n → 0 ≤ Int.tmod x n ∧ Int.tmod x n < n) ∧ (n < 1 → Int.tmod x n = 0) :=
  ⟨fun h => ⟨Int.tmod_nonneg _ hx, Int.tmod_lt_of_pos _ (by omega)⟩, fun h => absurd h hn⟩
/-- What 'pick' reads past the code's end. -/
theorem pick_big {s : List Int} (hs : Bytes s) {p : Int} (h0 : 0 ≤ p) (h1 : p < 1099511627776) (hl : (s.length : Int) ≠ 0) :
    (0 ≤ Int.tmod p s.length ∧ Int.tmod p s.length < s.length) ∧ (0 ≤ Int.tmod (wrap64 (wrap64 (p * 7) + 3)) s.length ∧ Int.tmod (wrap64 (wrap64 (p * 7) + 3)) s.length < s.length) ∧
    ∀ x, x = wrap64 (wrap64 (wrap64 (wrap64 (wrap64 (rd s (Int.tmod p s.length)) * 131) + wrap64 (wrap64 (rd s (Int.tmod (wrap64 (wrap64 (p * 7) + 3)) s.length)) * 1117)) + wrap64 (p * 29)) + wrap64 (wrap64 (Int.tdiv p s.length) * 53)) →
      0 ≤ wrap64 ((BitVec.ofInt 64 x ^^^ BitVec.ofInt 64 (wrap64 (Int.tdiv x 64))).toNat : Int) := by
  have hln : (0 : Int) < s.length := by omega
  have ha : 0 ≤ Int.tmod p s.length ∧ Int.tmod p s.length < s.length := ⟨Int.tmod_nonneg _ h0, Int.tmod_lt_of_pos _ hln⟩
  have hq : wrap64 (wrap64 (p * 7) + 3) = p * 7 + 3 := by rw [wrap_eq (x := p * 7) (by omega) (by omega)]; exact wrap_eq (by omega) (by omega)
  rw [hq]
  have hc : 0 ≤ Int.tmod (p * 7 + 3) s.length ∧ Int.tmod (p * 7 + 3) s.length < s.length := ⟨Int.tmod_nonneg _ (by omega), Int.tmod_lt_of_pos _ hln⟩
  refine ⟨ha, hc, fun x hx => ?_⟩
  have r1 := rd_byte hs ha.1 ha.2
  have r2 := rd_byte hs hc.1 hc.2
  have hd : 0 ≤ Int.tdiv p s.length ∧ Int.tdiv p s.length ≤ p := ⟨Int.tdiv_nonneg h0 (by omega), by rw [Int.tdiv_eq_ediv_of_nonneg h0]; exact Int.ediv_le_self _ h0⟩
  generalize rd s (Int.tmod p s.length) = b1 at r1 hx
  generalize rd s (Int.tmod (p * 7 + 3) s.length) = b2 at r2 hx
  generalize Int.tdiv p s.length = d at hd hx
  rw [wrap_eq (x := b1) (by omega) (by omega), wrap_eq (x := b2) (by omega) (by omega), wrap_eq (x := d) (by omega) (by omega), wrap_eq (x := b1 * 131) (by omega) (by omega), wrap_eq (x := b2 * 1117) (by omega) (by omega), wrap_eq (x := p * 29) (by omega) (by omega), wrap_eq (x := d * 53) (by omega) (by omega),
    wrap_eq (x := b1 * 131 + b2 * 1117) (by omega) (by omega), wrap_eq (x := b1 * 131 + b2 * 1117 + p * 29) (by omega) (by omega), wrap_eq (x := b1 * 131 + b2 * 1117 + p * 29 + d * 53) (by omega) (by omega)] at hx
  have hdv : 0 ≤ Int.tdiv x 64 ∧ Int.tdiv x 64 < 9223372036854775808 := by
    rw [Int.tdiv_eq_ediv_of_nonneg (by omega)]; omega
  rw [wrap_eq (x := Int.tdiv x 64) (by omega) (by omega)]
  exact xor_nn (by omega) (by omega) hdv.1 hdv.2
theorem w64_wrap (x : Int) : W64 (wrap64 x) := by unfold W64 wrap64; omega
theorem w64_lit {x : Int} (h : -9223372036854775808 ≤ x ∧ x ≤ 9223372036854775807) : W64 x := h
/-- What is known of a move that is drawn. -/
def MvD (m : Mv) : Prop := m.f0.size ≤ 1000 ∧ W64 m.f2 ∧ W64 m.f3 ∧ W64 m.f4 ∧ W64 m.f5
def MvsD (l : List Mv) : Prop := ∀ z ∈ l, MvD z
theorem mvsD_nil : MvsD [] := fun z h => by cases h
theorem mvsD_app {l : List Mv} {m : Mv} (h : MvsD l) (hm : MvD m) : MvsD (l ++ [m]) := fun z hz => by
  rcases List.mem_append.1 hz with h1 | h1
  · exact h z h1
  · rw [List.mem_singleton.1 h1]; exact hm
theorem mvsD_set {l : List Mv} {m : Mv} (h : MvsD l) (hm : MvD m) (i : Nat) : MvsD (l.set i m) := fun z hz => by
  rcases List.mem_or_eq_of_mem_set hz with h1 | h1
  · exact h z h1
  · rw [h1]; exact hm
theorem mvsD_rd {l : List Mv} (h : MvsD l) {i : Int} (h0 : 0 ≤ i) (h1 : i < l.length) : MvD (rdM l i) := by
  have hi : i.toNat < l.length := by omega
  unfold rdM
  rw [List.getD_eq_getElem?_getD, List.getElem?_eq_getElem hi, Option.getD_some]
  exact h _ (List.getElem_mem hi)
theorem mvE {a : ByteArray} {b : Bool} {c d e f : Int} : V.agg [.str a, .bool b, .int .i64 c, .int .i64 d, .int .i64 e, .int .i64 f] = V.agg (encMv ⟨a, b, c, d, e, f⟩) := rfl
def W64L (l : List Int) : Prop := ∀ z ∈ l, W64 z
theorem w64l_nil : W64L [] := fun z h => by cases h
theorem w64l_cons {a : Int} {l : List Int} (h : W64 a) (k : W64L l) : W64L (a :: l) := fun z hz => by
  rcases List.mem_cons.1 hz with rfl | hz
  · exact h
  · exact k z hz
theorem w64l_app {l k : List Int} (h : W64L l) (h' : W64L k) : W64L (l ++ k) := fun z hz => by
  rcases List.mem_append.1 hz with h1 | h1
  · exact h z h1
  · exact h' z h1
theorem w64l_take {l : List Int} (h : W64L l) (n : Nat) : W64L (l.take n) := fun z hz => h z (List.mem_of_mem_take hz)
theorem w64l_drop {l : List Int} (h : W64L l) (n : Nat) : W64L (l.drop n) := fun z hz => h z (List.mem_of_mem_drop hz)
theorem w64l_set {l : List Int} (h : W64L l) {a : Int} (ha : W64 a) (i : Nat) : W64L (l.set i a) := fun z hz => by
  rcases List.mem_or_eq_of_mem_set hz with h1 | h1
  · exact h z h1
  · rw [h1]; exact ha
theorem w64_rd {l : List Int} (h : W64L l) (i : Int) : W64 (rd l i) := by
  unfold rd
  rw [List.getD_eq_getElem?_getD]
  cases e : l[i.toNat]? with
  | none => exact w64_lit (by simp)
  | some x => exact h x (List.mem_of_getElem? e)
def Txt (l : List ByteArray) : Prop := ∀ z ∈ l, z.size ≤ 1000
theorem txt_rd {l : List ByteArray} (h : Txt l) (i : Int) : (rdS l i).size ≤ 1000 := by
  unfold rdS
  rw [List.getD_eq_getElem?_getD]
  cases e : l[i.toNat]? with
  | none => simp
  | some x => exact h x (List.mem_of_getElem? e)
end Go.AM

/- The reference's draws of numbers and moves: some answer within bounds; condition: a code of bytes, few draws before. -/
namespace Go.Proofs.YtmppoajepbbmiaaGreat.AM
open Go.AM Go.RowKit
set_option linter.unusedVariables false
set_option linter.unusedSimpArgs false
set_option maxRecDepth 100000

theorem pick_ok {bs : List Int} (hb : Bytes bs) (p n : Int) (hp : 0 ≤ p ∧ p < 1099511627775) : ∃ k : Int, ((1 ≤ n → 0 ≤ k ∧ k < n) ∧ (n < 1 → k = 0)) ∧
    Ok P 38 [.one (.ptr (.k 0) 0), .one (.int .i64 n)] [some (.cells [.lst (.int .u8) bs false, .int .i64 p])] (.one (.int .i64 k)) [some (.cells [.lst (.int .u8) bs false, .int .i64 (p + 1)])] := by
  have e1 : Fact (wrap64 (p + 1) = p + 1) := fw (by omega)
  have e2 : Fact (wrap64 (p + 1 - 1) = p) := ⟨by rw [show p + 1 - 1 = p by omega]; exact wrap_eq (by omega) (by omega)⟩
  refine Ok.of_ex (F := mk Tryz.f38 1) Tryz.func38 rfl rfl tabOk mixed rfl rfl rfl rfl rfl (Nat.le_of_ble_eq_true rfl) (fun _ => Nat.le_of_ble_eq_true rfl) (.go 5000 ?_)
  by_cases hl : (bs.length : Int) = 0
  · repeat' (conv => arg 4; whnf); first | refine Run.ret ⟨?_, rfl⟩ | refine Run.condT ?_ | refine Run.condf ?_ | refine Run.condD (fun h => ?_) (fun h => ?_) | refine Run.condN (fun h => ?_) (fun h => ?_) | refine Run.condE (fun h => ?_) (fun h => ?_) | refine Run.condF (fun h => ?_) (fun h => ?_) | refine Run.condM (fun h => ?_) (fun h => ?_) | refine Run.condB (fun h => ?_) (fun h => ?_) | refine Run.check1 ?_ | (refine Run.ret ⟨_, ?_, rfl, ?_⟩) | (exfalso; omega)
    all_goals first | (exact ⟨fun h => by omega, fun _ => rfl⟩) | (rw [e1.h]) | (exfalso; omega) | trace_state
  · obtain ⟨g1, g2, g3⟩ := pick_big hb hp.1 (by omega) hl
    repeat' (conv => arg 4; whnf); first | refine Run.ret ⟨?_, rfl⟩ | refine Run.condT ?_ | refine Run.condf ?_ | refine Run.condD (fun h => ?_) (fun h => ?_) | refine Run.condN (fun h => ?_) (fun h => ?_) | refine Run.condE (fun h => ?_) (fun h => ?_) | refine Run.condF (fun h => ?_) (fun h => ?_) | refine Run.condM (fun h => ?_) (fun h => ?_) | refine Run.condB (fun h => ?_) (fun h => ?_) | refine Run.check1 ?_ | (refine Run.need1 (by simp only [allP, e1.h, e2.h, and_true]; first | exact g1 | exact g2 | exact ⟨by simp only [e1.h, e2.h] at *; omega, by simp only [e1.h, e2.h] at *; omega⟩ | omega) ?_) | (refine Run.ret ⟨_, ?_, rfl, ?_⟩) | (exfalso; omega)
    all_goals first
      | (rw [e1.h]; done)
      | exact ⟨fun h => absurd h (by omega), fun _ => rfl⟩
      | (simp only [e1.h, e2.h] at *
         refine tm ?_ (by assumption)
         exact g3 _ rfl)
      | (simp only [e1.h, e2.h] at *
         have hlt : p < (bs.length : Int) := by assumption
         refine tm ?_ (by assumption)
         have r := rd_byte hb hp.1 hlt
         rw [wrap_eq (by omega) (by omega)]
         exact r.1)
      | trace_state
theorem open_ok {bs : List Int} : Ok P 37 [.one (.lst (.int .u8) bs false)] [] (.one (.ptr (.k 0) 0)) [some (.cells [.lst (.int .u8) (bs.take 2000) false, .int .i64 0])] := by
  refine Ok.of_run (F := mk Tryz.f37 0) Tryz.func37 rfl rfl tabOk mixed rfl rfl rfl rfl rfl (Nat.le_of_ble_eq_true rfl) (Nat.le_of_ble_eq_true rfl) (.go 5000 ?_)
  by_cases h : 2000 < (bs.length : Int)
  · repeat' (conv => arg 4; whnf); first | refine Run.ret ⟨?_, rfl⟩ | refine Run.condT ?_ | refine Run.condf ?_ | refine Run.condD (fun h => ?_) (fun h => ?_) | refine Run.condN (fun h => ?_) (fun h => ?_) | refine Run.condE (fun h => ?_) (fun h => ?_) | refine Run.condF (fun h => ?_) (fun h => ?_) | refine Run.condM (fun h => ?_) (fun h => ?_) | refine Run.condB (fun h => ?_) (fun h => ?_) | refine Run.check1 ?_ | refine Run.need1 (by simp only [allP, true_and, and_true]; omega) ?_ | (exfalso; omega)
    all_goals rfl
  · rw [List.take_of_length_le (by omega)]
    repeat' (conv => arg 4; whnf); first | refine Run.ret ⟨?_, rfl⟩ | refine Run.condT ?_ | refine Run.condf ?_ | refine Run.condD (fun h => ?_) (fun h => ?_) | refine Run.condN (fun h => ?_) (fun h => ?_) | refine Run.condE (fun h => ?_) (fun h => ?_) | refine Run.condF (fun h => ?_) (fun h => ?_) | refine Run.condM (fun h => ?_) (fun h => ?_) | refine Run.condB (fun h => ?_) (fun h => ?_) | refine Run.check1 ?_ | refine Run.need1 (by simp only [allP, true_and, and_true]; omega) ?_ | (exfalso; omega)
    all_goals rfl
theorem bytes_take {bs : List Int} (h : Bytes bs) (n : Nat) : Bytes (bs.take n) := fun x hx => h x (List.mem_of_mem_take hx)
theorem move_ok {bs : List Int} (hb : Bytes bs) (p : Int) (s : ByteArray) (now : Int) (hp : 0 ≤ p ∧ p < 1099511627700) (hs : s.size ≤ 1000) : ∃ (m : Mv) (q : Int), (m.f0 = s ∧ MvD m ∧ p ≤ q ∧ q ≤ p + 7) ∧
    Ok P 39 [.one (.ptr (.k 0) 0), .one (.str s), .one (.int .i64 now)] [some (.cells [.lst (.int .u8) bs false, .int .i64 p])] (.agg (encMv m)) [some (.cells [.lst (.int .u8) bs false, .int .i64 q])] := by
  refine Ok.of_ex2 (F := mk Tryz.f39 1) Tryz.func39 rfl rfl tabOk mixed rfl rfl rfl rfl rfl (Nat.le_of_ble_eq_true rfl) (fun _ _ => Nat.le_of_ble_eq_true rfl) (.go 5000 ?_)
  repeat' (conv => arg 4; whnf); first | refine Run.ret ⟨?_, rfl⟩ | refine Run.condT ?_ | refine Run.condf ?_ | refine Run.condD (fun h => ?_) (fun h => ?_) | refine Run.condN (fun h => ?_) (fun h => ?_) | refine Run.condE (fun h => ?_) (fun h => ?_) | refine Run.condF (fun h => ?_) (fun h => ?_) | refine Run.condM (fun h => ?_) (fun h => ?_) | refine Run.condB (fun h => ?_) (fun h => ?_) | refine Run.check1 ?_ | refine Run.callE (pick_ok hb _ _ (by omega)) (fun _ => rfl) (fun x hx => ?_) | (refine Run.ret ⟨⟨_, _, _, _, _, _⟩, _, ⟨rfl, ⟨hs, ?_, ?_, ?_, ?_⟩, ?_, ?_⟩, mvE, rfl⟩)
  all_goals (try dsimp only)
  all_goals first
    | exact w64_wrap _
    | (exact w64_lit (by omega))
    | omega
    | trace_state
def txts : List ByteArray := [⟨#[97, 49]⟩, ⟨#[98, 97]⟩, ⟨#[99, 45, 99]⟩, ⟨#[100]⟩, ⟨#[107, 108, 49]⟩, ⟨#[108, 104]⟩]
theorem names_ok : Ok P 41 [] [] (.one (.own (.k 0))) [some (.row .str txts)] := by
  refine Ok.of_run (F := mk Tryz.f41 0) Tryz.func41 rfl rfl tabOk mixed rfl rfl rfl rfl rfl (Nat.le_of_ble_eq_true rfl) (Nat.le_of_ble_eq_true rfl) (.go 5000 ?_)
  repeat' (conv => arg 4; whnf); first | refine Run.ret ⟨?_, rfl⟩ | refine Run.condT ?_ | refine Run.condf ?_ | refine Run.condD (fun h => ?_) (fun h => ?_) | refine Run.condN (fun h => ?_) (fun h => ?_) | refine Run.condE (fun h => ?_) (fun h => ?_) | refine Run.condF (fun h => ?_) (fun h => ?_) | refine Run.condM (fun h => ?_) (fun h => ?_) | refine Run.condB (fun h => ?_) (fun h => ?_) | refine Run.check1 ?_
  all_goals rfl
end Go.Proofs.YtmppoajepbbmiaaGreat.AM

/- The reference's draws of lists of moves and of orders: some answer within bounds; condition: a code of bytes, few draws before. -/
namespace Go.Proofs.YtmppoajepbbmiaaGreat.AM
open Go.AM Go.RowKit
set_option linter.unusedVariables false
set_option linter.unusedSimpArgs false
set_option maxRecDepth 100000

theorem of_ok {bs : List Int} (hb : Bytes bs) (p : Int) (xs : List ByteArray) (hp : 0 ≤ p ∧ p < 1099511627700) (htx : Txt xs) (hl : 1 ≤ xs.length) (hl2 : xs.length ≤ 1000) : ∃ x : ByteArray, x.size ≤ 1000 ∧
    Ok P 40 [.one (.ptr (.k 0) 0), .one (.own (.k 1))] [some (.cells [.lst (.int .u8) bs false, .int .i64 p]), some (.row .str xs)] (.one (.str x)) [some (.cells [.lst (.int .u8) bs false, .int .i64 (p + 1)]), some (.row .str xs)] := by
  refine Ok.of_ex (F := mk Tryz.f40 2) Tryz.func40 rfl rfl tabOk mixed rfl rfl rfl rfl rfl (Nat.le_of_ble_eq_true rfl) (fun _ => Nat.le_of_ble_eq_true rfl) (.go 5000 ?_)
  repeat' (conv => arg 4; whnf); first | refine Run.ret ⟨?_, rfl⟩ | refine Run.condT ?_ | refine Run.condf ?_ | refine Run.condD (fun h => ?_) (fun h => ?_) | refine Run.condN (fun h => ?_) (fun h => ?_) | refine Run.condE (fun h => ?_) (fun h => ?_) | refine Run.condF (fun h => ?_) (fun h => ?_) | refine Run.condM (fun h => ?_) (fun h => ?_) | refine Run.condB (fun h => ?_) (fun h => ?_) | refine Run.check1 ?_ | refine Run.callE (pick_ok hb _ _ (by omega)) (fun _ => rfl) (fun x hx => ?_) | refine Run.need1 (by simp only [allP, true_and, and_true]; omega) ?_ | (refine Run.ret ⟨_, ?_, rfl, rfl⟩)
  all_goals exact txt_rd htx _
theorem txts_ok : Txt txts := by
  intro z hz
  simp only [txts, List.mem_cons, List.not_mem_nil, or_false] at hz
  rcases hz with rfl | rfl | rfl | rfl | rfl | rfl <;> decide
theorem txt4 {a b c d : ByteArray} (ha : a.size ≤ 1000) (hb : b.size ≤ 1000) (hc : c.size ≤ 1000) (hd : d.size ≤ 1000) : Txt [a, b, c, d] := by
  intro z hz
  simp only [List.mem_cons, List.not_mem_nil, or_false] at hz
  rcases hz with rfl | rfl | rfl | rfl <;> assumption
theorem spoil_ok {bs : List Int} (hb : Bytes bs) (p : Int) (m : Mv) (hp : 0 ≤ p ∧ p < 1099511627600) (hm : MvD m) : ∃ (m' : Mv) (q : Int), (MvD m' ∧ p ≤ q ∧ q ≤ p + 2) ∧
    Ok P 78 [.one (.ptr (.k 0) 0), .agg (encMv m)] [some (.cells [.lst (.int .u8) bs false, .int .i64 p])] (.agg (encMv m')) [some (.cells [.lst (.int .u8) bs false, .int .i64 q])] := by
  obtain ⟨a0, a1, a2, a3, a4, a5⟩ := m
  obtain ⟨m0, m1, m2, m3, m4⟩ := hm
  dsimp only at m0 m1 m2 m3 m4
  refine Ok.of_ex2 (F := mk Tryz.f78 1) Tryz.func78 rfl rfl tabOk mixed rfl rfl rfl rfl rfl (Nat.le_of_ble_eq_true rfl) (fun _ _ => Nat.le_of_ble_eq_true rfl) (.go 5000 ?_)
  repeat' (conv => arg 4; whnf); first | refine Run.ret ⟨?_, rfl⟩ | refine Run.condT ?_ | refine Run.condf ?_ | refine Run.condD (fun h => ?_) (fun h => ?_) | refine Run.condN (fun h => ?_) (fun h => ?_) | refine Run.condE (fun h => ?_) (fun h => ?_) | refine Run.condF (fun h => ?_) (fun h => ?_) | refine Run.condM (fun h => ?_) (fun h => ?_) | refine Run.condB (fun h => ?_) (fun h => ?_) | refine Run.check1 ?_ | refine Run.callE (pick_ok hb _ _ (by omega)) (fun _ => rfl) (fun x hx => ?_) | refine Run.callE (of_ok hb _ _ (by omega) (txt4 (by decide) (by decide) (by decide) (by decide)) (Nat.le_of_ble_eq_true rfl) (Nat.le_of_ble_eq_true rfl)) (fun _ => rfl) (fun x hx => ?_) | refine Run.need1 (by simp only [allP, true_and, and_true, List.length_cons, List.length_nil]; omega) ?_ | (refine Run.ret ⟨⟨_, _, _, _, _, _⟩, _, ⟨⟨?_, ?_, ?_, ?_, ?_⟩, ?_, ?_⟩, mvE, rfl⟩)
  all_goals (try dsimp only)
  all_goals first
    | assumption
    | (clear m0 m1 m2 m3 m4; omega)
    | (refine w64_rd ?_ _
       repeat' first | exact w64l_nil | refine w64l_cons ?_ ?_
       all_goals first | exact w64_wrap _ | assumption | (exact w64_lit (by omega)))
    | trace_state
end Go.Proofs.YtmppoajepbbmiaaGreat.AM

/- The entries behind sort.Slice, at slices of numbers and of moves; condition: places within the length. -/
namespace Go.Proofs.YtmppoajepbbmiaaGreat.AM
open Go.AM Go.RowKit
set_option linter.unusedVariables false
set_option linter.unusedSimpArgs false
set_option maxRecDepth 100000

noncomputable def tiI : TypeInfo := (P.info? 27).get (by kernel_rfl)
noncomputable def eiI : TypeInfo := (P.info? 3).get (by kernel_rfl)
noncomputable def tiM : TypeInfo := (P.info? 23).get (by kernel_rfl)
noncomputable def eiM : TypeInfo := (P.info? 31).get (by kernel_rfl)
theorem skI {n : Nat} (h2 : 2 ≤ n) : Lib.swapperK n eiI 2 = 5 := by
  have a : eiI.hasPointers = false := by kernel_rfl
  have b : eiI.bytes = 8 := by kernel_rfl
  have c : (n == 0) = false := by simp; omega
  have d : (n == 1) = false := by simp; omega
  simp [Lib.swapperK, a, b, c, d]
theorem skM {n : Nat} (h2 : 2 ≤ n) : Lib.swapperK n eiM 25 = 9 := by
  have a : eiM.hasPointers = true := by kernel_rfl
  have b : eiM.bytes = 56 := by kernel_rfl
  have c : (n == 0) = false := by simp; omega
  have d : (n == 1) = false := by simp; omega
  simp [Lib.swapperK, a, b, c, d]
theorem sk0 {n : Nat} {ie : TypeInfo} {ke : Nat} (h : n = 0) : Lib.swapperK n ie ke = 1 := by subst h; rfl
theorem sk1 {n : Nat} {ie : TypeInfo} {ke : Nat} (h : n = 1) : Lib.swapperK n ie ke = 2 := by subst h; rfl
theorem valueOfI_ok (xs : List Int) : Ok P 82 [.one (.ifc 27 (.own (.k 0)))] [some (.row (.int .i64) xs)] (.agg [th P 27, .ptr (.k 1) 0, .int .u64 151]) [some (.row (.int .i64) xs), some (.cells [.own (.k 0)])] :=
  ok_valueOf (i := tiI) (e := 3) Tryz.func82 (by kernel_rfl) (by kernel_rfl) (by kernel_rfl) (by kernel_rfl) (by kernel_rfl) (by kernel_rfl)
theorem lenI_ok (xs : List Int) : Ok P 84 [.agg [th P 27, .ptr (.k 0) 0, .int .u64 151]] [some (.cells [.own (.k 1)]), some (.row (.int .i64) xs)] (.one (.int .i64 (xs.length : Int))) [some (.cells [.own (.k 1)]), some (.row (.int .i64) xs)] :=
  ok_valueLen (i := tiI) (e := 3) Tryz.func84 (by kernel_rfl) (by kernel_rfl) (by kernel_rfl) (by kernel_rfl) (by kernel_rfl) (by kernel_rfl) (by kernel_rfl)
theorem swapperI_ok (xs : List Int) (h : 2 ≤ xs.length) : Ok P 83 [.one (.ifc 27 (.own (.k 0)))] [some (.row (.int .i64) xs)] (.one (.fn 104 [.own (.k 0), th P 3])) [some (.row (.int .i64) xs)] :=
  ok_swapper (i := tiI) (ie := eiI) (e := 3) Tryz.func83 (by kernel_rfl) (by kernel_rfl) (by kernel_rfl) (by kernel_rfl) (by kernel_rfl) (by kernel_rfl) (by kernel_rfl) 2 (fun _ => by kernel_rfl) _ (by rw [skI h]; kernel_rfl) _ (by rw [if_neg (by omega)])
theorem swapper0I_ok (xs : List Int) (h : xs.length = 0) : Ok P 83 [.one (.ifc 27 (.own (.k 0)))] [some (.row (.int .i64) xs)] (.one (.fn 100 [])) [some (.row (.int .i64) xs)] :=
  ok_swapper (i := tiI) (ie := eiI) (e := 3) Tryz.func83 (by kernel_rfl) (by kernel_rfl) (by kernel_rfl) (by kernel_rfl) (by kernel_rfl) (by kernel_rfl) (by kernel_rfl) 2 (fun _ => by kernel_rfl) _ (by rw [sk0 h]; kernel_rfl) _ (by rw [if_pos (by omega)])
theorem swapper1I_ok (xs : List Int) (h : xs.length = 1) : Ok P 83 [.one (.ifc 27 (.own (.k 0)))] [some (.row (.int .i64) xs)] (.one (.fn 101 [])) [some (.row (.int .i64) xs)] :=
  ok_swapper (i := tiI) (ie := eiI) (e := 3) Tryz.func83 (by kernel_rfl) (by kernel_rfl) (by kernel_rfl) (by kernel_rfl) (by kernel_rfl) (by kernel_rfl) (by kernel_rfl) 2 (fun _ => by kernel_rfl) _ (by rw [sk1 h]; kernel_rfl) _ (by rw [if_pos (by omega)])
theorem swapI_ok (xs : List Int) (i j : Nat) (z y : Int) (hz : z = i) (hy : y = j) (hi : i < xs.length) (hj : j < xs.length) : Ok P 104 [.one (.int .i64 z), .one (.int .i64 y), .one (.own (.k 0)), .one (th P 3)] [some (.row (.int .i64) xs)] (.tup []) [some (.row (.int .i64) (swapL 0 xs i j))] := by
  subst hz hy
  exact ok_swap (ie := eiI) (e := 3) Tryz.func104 (by kernel_rfl) (by kernel_rfl) (by kernel_rfl) true (by kernel_rfl) (by kernel_rfl) (by kernel_rfl) (by rw [if_pos (show (El.int .i64).sz = 1 from rfl)]; exact fun _ => by kernel_rfl) hi hj
theorem valueOfM_ok (xs : List Mv) : Ok P 82 [.one (.ifc 23 (.own (.k 0)))] [some (.row .mv xs)] (.agg [th P 23, .ptr (.k 1) 0, .int .u64 151]) [some (.row .mv xs), some (.cells [.own (.k 0)])] :=
  ok_valueOf (i := tiM) (e := 31) Tryz.func82 (by kernel_rfl) (by kernel_rfl) (by kernel_rfl) (by kernel_rfl) (by kernel_rfl) (by kernel_rfl)
theorem lenM_ok (xs : List Mv) : Ok P 84 [.agg [th P 23, .ptr (.k 0) 0, .int .u64 151]] [some (.cells [.own (.k 1)]), some (.row .mv xs)] (.one (.int .i64 (xs.length : Int))) [some (.cells [.own (.k 1)]), some (.row .mv xs)] :=
  ok_valueLen (i := tiM) (e := 31) Tryz.func84 (by kernel_rfl) (by kernel_rfl) (by kernel_rfl) (by kernel_rfl) (by kernel_rfl) (by kernel_rfl) (by kernel_rfl)
theorem swapperM_ok (xs : List Mv) (h : 2 ≤ xs.length) : Ok P 83 [.one (.ifc 23 (.own (.k 0)))] [some (.row .mv xs)] (.one (.fn 108 [.own (.k 0), th P 31])) [some (.row .mv xs)] :=
  ok_swapper (i := tiM) (ie := eiM) (e := 31) Tryz.func83 (by kernel_rfl) (by kernel_rfl) (by kernel_rfl) (by kernel_rfl) (by kernel_rfl) (by kernel_rfl) (by kernel_rfl) 25 (fun _ => by kernel_rfl) _ (by rw [skM h]; kernel_rfl) _ (by rw [if_neg (by omega)])
theorem swapper1M_ok (xs : List Mv) (h : xs.length = 1) : Ok P 83 [.one (.ifc 23 (.own (.k 0)))] [some (.row .mv xs)] (.one (.fn 101 [])) [some (.row .mv xs)] :=
  ok_swapper (i := tiM) (ie := eiM) (e := 31) Tryz.func83 (by kernel_rfl) (by kernel_rfl) (by kernel_rfl) (by kernel_rfl) (by kernel_rfl) (by kernel_rfl) (by kernel_rfl) 25 (fun _ => by kernel_rfl) _ (by rw [sk1 h]; kernel_rfl) _ (by rw [if_pos (by omega)])
theorem swapM_ok (xs : List Mv) (i j : Nat) (z y : Int) (hz : z = i) (hy : y = j) (hi : i < xs.length) (hj : j < xs.length) : Ok P 108 [.one (.int .i64 z), .one (.int .i64 y), .one (.own (.k 0)), .one (th P 31)] [some (.row .mv xs)] (.tup []) [some (.row .mv (swapL Mv.z xs i j))] := by
  subst hz hy
  exact ok_swap (ie := eiM) (e := 31) Tryz.func108 (by kernel_rfl) (by kernel_rfl) (by kernel_rfl) false (by kernel_rfl) (by kernel_rfl) (by kernel_rfl) (by rw [if_neg (show ¬ El.mv.sz = 1 by decide)]; exact fun _ => by kernel_rfl) hi hj
end Go.Proofs.YtmppoajepbbmiaaGreat.AM

/- StripMoveOk, the program's and the reference's; gaps; no condition. -/
namespace Go.Proofs.YtmppoajepbbmiaaGreat.AM
open Go.AM Go.RowKit
set_option linter.unusedVariables false
set_option maxRecDepth 100000
set_option linter.unusedSimpArgs false

theorem sin_ok (a b c : Int) : Ok P 88 [.one (.int .i64 a), .one (.int .i64 b), .one (.int .i64 c)] [] (.one (.bool (decide (b ≤ a ∧ a ≤ c)))) [] := by
  refine Ok.of_run (F := mk Tryz.f88 0) Tryz.func88 rfl rfl tabOk mixed rfl rfl rfl rfl rfl (Nat.le_of_ble_eq_true rfl) (Nat.le_of_ble_eq_true rfl) (.go 5000 ?_)
  repeat' (conv => arg 4; whnf); first | refine Run.ret ⟨?_, rfl⟩ | refine Run.condT ?_ | refine Run.condf ?_ | refine Run.condD (fun h => ?_) (fun h => ?_) | refine Run.condN (fun h => ?_) (fun h => ?_) | refine Run.condE (fun h => ?_) (fun h => ?_) | refine Run.condF (fun h => ?_) (fun h => ?_) | refine Run.condM (fun h => ?_) (fun h => ?_) | refine Run.condB (fun h => ?_) (fun h => ?_) | refine Run.check1 ?_
  · simp [h]
  · simp [h]
theorem gap_ok (a b : Mv) : Ok P 94 [.agg (encMv a), .agg (encMv b)] [] (.one (.int .i64 (gap a b))) [] := by
  refine Ok.of_run (F := mk Tryz.f94 0) Tryz.func94 rfl rfl tabOk mixed rfl rfl rfl rfl rfl (Nat.le_of_ble_eq_true rfl) (Nat.le_of_ble_eq_true rfl) (.go 5000 ?_)
  repeat' (conv => arg 4; whnf); first | refine Run.ret ⟨?_, rfl⟩ | refine Run.condT ?_ | refine Run.condf ?_ | refine Run.condD (fun h => ?_) (fun h => ?_) | refine Run.condN (fun h => ?_) (fun h => ?_) | refine Run.condE (fun h => ?_) (fun h => ?_) | refine Run.condF (fun h => ?_) (fun h => ?_) | refine Run.condM (fun h => ?_) (fun h => ?_) | refine Run.condB (fun h => ?_) (fun h => ?_) | refine Run.check1 ?_ | refine Run.call (in_ok _ _ _) rfl ?_
  all_goals (refine congrArg (fun n => V.one (.int .i64 n)) ?_; simp only [gap, wrap64, *]; (repeat' split) <;> first | omega | simp_all)
theorem sgap_ok (a b : Mv) : Ok P 146 [.agg (encMv a), .agg (encMv b)] [] (.one (.int .i64 (gap a b))) [] := by
  refine Ok.of_run (F := mk Tryz.f146 0) Tryz.func146 rfl rfl tabOk mixed rfl rfl rfl rfl rfl (Nat.le_of_ble_eq_true rfl) (Nat.le_of_ble_eq_true rfl) (.go 5000 ?_)
  repeat' (conv => arg 4; whnf); first | refine Run.ret ⟨?_, rfl⟩ | refine Run.condT ?_ | refine Run.condf ?_ | refine Run.condD (fun h => ?_) (fun h => ?_) | refine Run.condN (fun h => ?_) (fun h => ?_) | refine Run.condE (fun h => ?_) (fun h => ?_) | refine Run.condF (fun h => ?_) (fun h => ?_) | refine Run.condM (fun h => ?_) (fun h => ?_) | refine Run.condB (fun h => ?_) (fun h => ?_) | refine Run.check1 ?_ | refine Run.call (sin_ok _ _ _) rfl ?_
  all_goals (refine congrArg (fun n => V.one (.int .i64 n)) ?_; simp only [gap, wrap64, *]; (repeat' split) <;> first | omega | simp_all)
theorem name_ok (s : ByteArray) : Ok P 90 [.one (.str s)] [] (.one (.bool (nameOk s))) [] := by
  refine Ok.of_run (F := mk Tryz.f90 0) Tryz.func90 rfl rfl tabOk mixed rfl rfl rfl rfl rfl (Nat.le_of_ble_eq_true rfl) (Nat.le_of_ble_eq_true rfl) (.go 5000 ?_)
  by_cases hs : 1 ≤ (s.size : Int) ∧ (s.size : Int) ≤ 8
  · have loop : ∀ (d : Nat) (i : Int), 0 ≤ i → (s.size : Int) - i = d → allB s d i = nameOk s → Run P (mk Tryz.f90 0) (fun v st => v = .one (.bool (nameOk s)) ∧ st = []) (.loop ⟨[(0, .one (.str s)), (3, .one (.int .i64 i))], [], [.lp [0, 1, 0, 1, 1], .blk 0, .code [1, 1, 1]], none⟩) := by
      intro d
      induction d with
      | zero =>
        intro i h0 hd he
        refine Run.loop ?_
        repeat' (conv => arg 4; whnf); first | refine Run.ret ⟨?_, rfl⟩ | refine Run.condT ?_ | refine Run.condf ?_ | refine Run.condD (fun h => ?_) (fun h => ?_) | refine Run.condN (fun h => ?_) (fun h => ?_) | refine Run.condE (fun h => ?_) (fun h => ?_) | refine Run.condF (fun h => ?_) (fun h => ?_) | refine Run.condM (fun h => ?_) (fun h => ?_) | refine Run.condB (fun h => ?_) (fun h => ?_) | refine Run.check1 ?_ | (exfalso; omega)
        rw [← he]; rfl
      | succ d ih =>
        intro i h0 hd he
        have e : wrap64 (i + 1) = i + 1 := wrap_eq (by omega) (by omega)
        rw [allB_succ] at he
        refine Run.loop ?_
        repeat' (conv => arg 4; whnf); first | refine Run.ret ⟨?_, rfl⟩ | refine Run.condT ?_ | refine Run.condf ?_ | refine Run.condD (fun h => ?_) (fun h => ?_) | refine Run.condN (fun h => ?_) (fun h => ?_) | refine Run.condE (fun h => ?_) (fun h => ?_) | refine Run.condF (fun h => ?_) (fun h => ?_) | refine Run.condM (fun h => ?_) (fun h => ?_) | refine Run.condB (fun h => ?_) (fun h => ?_) | refine Run.check1 ?_ | (exfalso; omega) | refine Run.need1 (⟨h0, ‹_›⟩) ?_ | refine Run.round ⟨[], [], []⟩ (ih _ ?_ ?_ ?_) rfl (by (repeat' (first | exact wkEnv_nil | refine wkEnv_cons rfl ?_ | exact wkSto_nil | refine wkSto_none ?_ | refine wkSto_some rfl ?_)); done) (by (repeat' (first | exact wkEnv_nil | refine wkEnv_cons rfl ?_ | exact wkSto_nil | refine wkSto_none ?_ | refine wkSto_some rfl ?_)); done)
        all_goals first
          | (exfalso; omega)
          | (rw [e]; omega)
          | (have ok : okB (bt s i) = true := by simp only [okB, decide_eq_true_eq]; omega
             rw [e, ← he, ok]; rfl)
          | (have ok : okB (bt s i) = false := by simp only [okB, decide_eq_false_iff_not]; omega
             rw [← he, ok]; rfl)
    repeat' (conv => arg 4; whnf); first | refine Run.ret ⟨?_, rfl⟩ | refine Run.condT ?_ | refine Run.condf ?_ | refine Run.condD (fun h => ?_) (fun h => ?_) | refine Run.condN (fun h => ?_) (fun h => ?_) | refine Run.condE (fun h => ?_) (fun h => ?_) | refine Run.condF (fun h => ?_) (fun h => ?_) | refine Run.condM (fun h => ?_) (fun h => ?_) | refine Run.condB (fun h => ?_) (fun h => ?_) | refine Run.check1 ?_ | refine Run.call (sin_ok _ _ _) rfl ?_ | refine Run.round ⟨[], [], []⟩ (loop s.size 0 ?_ ?_ ?_) rfl (by (repeat' (first | exact wkEnv_nil | refine wkEnv_cons rfl ?_ | exact wkSto_nil | refine wkSto_none ?_ | refine wkSto_some rfl ?_)); done) (by (repeat' (first | exact wkEnv_nil | refine wkEnv_cons rfl ?_ | exact wkSto_nil | refine wkSto_none ?_ | refine wkSto_some rfl ?_)); done)
    all_goals first | omega | (simp only [nameOk]; rw [decide_eq_true (by omega)]; rfl)
  · have : nameOk s = false := by simp only [nameOk]; rw [decide_eq_false (by omega)]; rfl
    rw [this]
    repeat' (conv => arg 4; whnf); first | refine Run.ret ⟨?_, rfl⟩ | refine Run.condT ?_ | refine Run.condf ?_ | refine Run.condD (fun h => ?_) (fun h => ?_) | refine Run.condN (fun h => ?_) (fun h => ?_) | refine Run.condE (fun h => ?_) (fun h => ?_) | refine Run.condF (fun h => ?_) (fun h => ?_) | refine Run.condM (fun h => ?_) (fun h => ?_) | refine Run.condB (fun h => ?_) (fun h => ?_) | refine Run.check1 ?_ | refine Run.call (sin_ok _ _ _) rfl ?_ | (exfalso; omega)
    all_goals rfl
theorem smoveOk_ok (m : Mv) : Ok P 51 [.agg (encMv m)] [] (.one (.bool (mvOk m))) [] := by
  refine Ok.of_run (F := mk Tryz.f51 0) Tryz.func51 rfl rfl tabOk mixed rfl rfl rfl rfl rfl (Nat.le_of_ble_eq_true rfl) (Nat.le_of_ble_eq_true rfl) (.go 5000 ?_)
  repeat' (conv => arg 4; whnf); first | refine Run.ret ⟨?_, rfl⟩ | refine Run.condT ?_ | refine Run.condf ?_ | refine Run.condD (fun h => ?_) (fun h => ?_) | refine Run.condN (fun h => ?_) (fun h => ?_) | refine Run.condE (fun h => ?_) (fun h => ?_) | refine Run.condF (fun h => ?_) (fun h => ?_) | refine Run.condM (fun h => ?_) (fun h => ?_) | refine Run.condB (fun h => ?_) (fun h => ?_) | refine Run.check1 ?_ | refine Run.call (sin_ok _ _ _) rfl ?_ | refine Run.call (name_ok _) rfl ?_
  all_goals (refine vb ?_; rw [mvOk_true]; cases hn : nameOk m.f0 <;> simp_all <;> omega)
theorem moveOk_ok (m : Mv) : Ok P 43 [.agg (encMv m)] [] (.one (.bool (mvOk m))) [] := by
  refine Ok.of_run (F := mk Tryz.f43 0) Tryz.func43 rfl rfl tabOk mixed rfl rfl rfl rfl rfl (Nat.le_of_ble_eq_true rfl) (Nat.le_of_ble_eq_true rfl) (.go 5000 ?_)
  have loop : 1 ≤ m.f0.size ∧ m.f0.size ≤ 8 → 1 ≤ m.f2 ∧ m.f2 ≤ 3 → 0 ≤ m.f3 → m.f3 ≤ m.f4 → m.f4 ≤ 10000 → ∀ (d : Nat) (i : Int), 0 ≤ i → (m.f0.size : Int) - i = d → allB m.f0 d i = allB m.f0 m.f0.size 0 →
      Run P (mk Tryz.f43 0) (fun v st => v = .one (.bool (mvOk m)) ∧ st = []) (.loop ⟨[(1, .one (.ptr (.t 1 0) 0)), (3, .one (.int .i64 i))], [(.t 1 0, some (.cells (encMv m)))], [.lp [0, 1, 0, 1, 1], .blk 0, .code [1, 1, 1]], none⟩) := by
    intro hs h2 h3 h4 h5 d
    have hn : nameOk m.f0 = allB m.f0 m.f0.size 0 := by
      unfold nameOk
      rw [decide_eq_true hs]
      rfl
    induction d with
    | zero =>
      intro i h0 hd he
      have hn : nameOk m.f0 = true := by rw [hn, ← he]; rfl
      refine Run.loop ?_
      repeat' (conv => arg 4; whnf); first | refine Run.ret ⟨?_, rfl⟩ | refine Run.condT ?_ | refine Run.condf ?_ | refine Run.condD (fun h => ?_) (fun h => ?_) | refine Run.condN (fun h => ?_) (fun h => ?_) | refine Run.condE (fun h => ?_) (fun h => ?_) | refine Run.condF (fun h => ?_) (fun h => ?_) | refine Run.condM (fun h => ?_) (fun h => ?_) | refine Run.condB (fun h => ?_) (fun h => ?_) | refine Run.check1 ?_ | refine Run.call (in_ok _ _ _) rfl ?_ | (exfalso; omega)
      all_goals first
        | (exfalso; omega)
        | (refine vb ?_; rw [mvOk_true, hn]; simp <;> omega)
    | succ d ih =>
      intro i h0 hd he
      have e : wrap64 (i + 1) = i + 1 := wrap_eq (by omega) (by omega)
      rw [allB_succ] at he
      refine Run.loop ?_
      repeat' (conv => arg 4; whnf); first | refine Run.ret ⟨?_, rfl⟩ | refine Run.condT ?_ | refine Run.condf ?_ | refine Run.condD (fun h => ?_) (fun h => ?_) | refine Run.condN (fun h => ?_) (fun h => ?_) | refine Run.condE (fun h => ?_) (fun h => ?_) | refine Run.condF (fun h => ?_) (fun h => ?_) | refine Run.condM (fun h => ?_) (fun h => ?_) | refine Run.condB (fun h => ?_) (fun h => ?_) | refine Run.check1 ?_ | refine Run.call (in_ok _ _ _) rfl ?_ | refine Run.need1 (⟨h0, ‹_›⟩) ?_ | refine Run.round ⟨[(.t 1 0, .t 1 0)], [], []⟩ (ih _ ?_ ?_ ?_) rfl (by (repeat' (first | exact wkEnv_nil | refine wkEnv_cons rfl ?_ | exact wkSto_nil | refine wkSto_none ?_ | refine wkSto_some rfl ?_)); done) (by (repeat' (first | exact wkEnv_nil | refine wkEnv_cons rfl ?_ | exact wkSto_nil | refine wkSto_none ?_ | refine wkSto_some rfl ?_)); done) | (exfalso; omega)
      all_goals first
        | (exfalso; omega)
        | (rw [e]; omega)
        | (have ok : okB (bt m.f0 i) = true := by simp only [okB, decide_eq_true_eq]; omega
           rw [e, ← he, ok]; rfl)
        | (have ok : okB (bt m.f0 i) = false := by simp only [okB, decide_eq_false_iff_not]; omega
           have hn : nameOk m.f0 = false := by rw [hn, ← he, ok]; rfl
           unfold mvOk; rw [hn]; rfl)
  repeat' (conv => arg 4; whnf); first | refine Run.ret ⟨?_, rfl⟩ | refine Run.condT ?_ | refine Run.condf ?_ | refine Run.condD (fun h => ?_) (fun h => ?_) | refine Run.condN (fun h => ?_) (fun h => ?_) | refine Run.condE (fun h => ?_) (fun h => ?_) | refine Run.condF (fun h => ?_) (fun h => ?_) | refine Run.condM (fun h => ?_) (fun h => ?_) | refine Run.condB (fun h => ?_) (fun h => ?_) | refine Run.check1 ?_ | refine Run.call (in_ok _ _ _) rfl ?_ | refine Run.round ⟨[(.t 1 0, .t 1 0)], [], []⟩ (loop ?_ ?_ ?_ ?_ ?_ m.f0.size 0 ?_ ?_ ?_) rfl (by (repeat' (first | exact wkEnv_nil | refine wkEnv_cons rfl ?_ | exact wkSto_nil | refine wkSto_none ?_ | refine wkSto_some rfl ?_)); done) (by (repeat' (first | exact wkEnv_nil | refine wkEnv_cons rfl ?_ | exact wkSto_nil | refine wkSto_none ?_ | refine wkSto_some rfl ?_)); done)
  all_goals first
    | omega
    | rfl
    | (refine vb ?_; rw [mvOk_true, nameOk_true]; simp only [Bool.false_eq_true, false_iff]; omega)
    | trace_state
end Go.Proofs.YtmppoajepbbmiaaGreat.AM

/- StripFirst of the program, as far as one block of the library's stable sort; condition: fewer than 20 moves. -/
namespace Go.Proofs.YtmppoajepbbmiaaGreat.AM
open Go.AM Go.RowKit
set_option linter.unusedVariables false
set_option linter.unusedSimpArgs false
set_option maxRecDepth 100000

theorem when_ok (m : Mv) : Ok P 139 [.agg (encMv m)] [] (.one (.int .i64 (key m))) [] := by
  refine Ok.of_run (F := mk Tryz.f139 0) Tryz.func139 rfl rfl tabOk mixed rfl rfl rfl rfl rfl (Nat.le_of_ble_eq_true rfl) (Nat.le_of_ble_eq_true rfl) (.go 5000 ?_)
  repeat' (conv => arg 4; whnf); first | refine Run.ret ⟨?_, rfl⟩ | refine Run.condT ?_ | refine Run.condf ?_ | refine Run.condD (fun h => ?_) (fun h => ?_) | refine Run.condN (fun h => ?_) (fun h => ?_) | refine Run.condE (fun h => ?_) (fun h => ?_) | refine Run.condF (fun h => ?_) (fun h => ?_) | refine Run.condM (fun h => ?_) (fun h => ?_) | refine Run.condB (fun h => ?_) (fun h => ?_) | refine Run.check1 ?_
  all_goals (refine vi ?_; unfold key; first | rw [if_pos ‹_›] | rw [if_neg ‹_›])
/-- What the sort's comparison reads: the moves, the places, when a move comes. -/
noncomputable def stF (l : List Mv) (xs : List Int) : List (Option C) := [some (.cells [.lst .mv l false]), some (.cells [.own (.k 3)]), some (.cells [.fn 139 []]), some (.row (.int .i64) xs)]
def InL (n : Nat) (xs : List Int) : Prop := ∀ x ∈ xs, 0 ≤ x ∧ x < (n : Int)
theorem inL_rd {n : Nat} {xs : List Int} (h : InL n xs) {i : Nat} (hi : i < xs.length) : 0 ≤ rd xs (i : Int) ∧ rd xs (i : Int) < (n : Int) := by
  rw [rd_nat, tk, List.getD_eq_getElem?_getD, List.getElem?_eq_getElem hi]
  exact h _ (List.getElem_mem hi)
theorem less_ok (l : List Mv) (xs : List Int) (hr : InL l.length xs) (i j : Nat) (z y : Int) (hz : z = i) (hy : y = j) (hi : i < xs.length) (hj : j < xs.length) :
    Ok P 141 [.one (.int .i64 z), .one (.int .i64 y), .one (.ptr (.k 0) 0), .one (.ptr (.k 1) 0), .one (.ptr (.k 2) 0)] (stF l xs) (.one (.bool (ltP l (xs.getD i 0) (xs.getD j 0)))) (stF l xs) := by
  subst hz hy
  have h1 := inL_rd hr hi
  have h2 := inL_rd hr hj
  have e1 : Fact (rdM l (rd xs i) = at' l (xs.getD i 0).toNat) := ⟨by rw [rd_nat]; rfl⟩
  have e2 : Fact (rdM l (rd xs j) = at' l (xs.getD j 0).toNat) := ⟨by rw [rd_nat]; rfl⟩
  refine Ok.of_run (F := mk Tryz.f141 4) Tryz.func141 rfl rfl tabOk mixed rfl rfl rfl rfl rfl (Nat.le_of_ble_eq_true rfl) (Nat.le_of_ble_eq_true rfl) (.go 5000 ?_)
  repeat' (conv => arg 4; whnf); first | refine Run.ret ⟨?_, rfl⟩ | refine Run.condT ?_ | refine Run.condf ?_ | refine Run.condD (fun h => ?_) (fun h => ?_) | refine Run.condN (fun h => ?_) (fun h => ?_) | refine Run.condE (fun h => ?_) (fun h => ?_) | refine Run.condF (fun h => ?_) (fun h => ?_) | refine Run.condM (fun h => ?_) (fun h => ?_) | refine Run.condB (fun h => ?_) (fun h => ?_) | refine Run.check1 ?_ | refine Run.need1 (by simp only [allP, true_and, and_true]; omega) ?_ | refine Run.call (when_ok _) rfl ?_
  all_goals (refine vb ?_; unfold ltP lessM; rw [← e1.h, ← e2.h])
  · have hne : ¬ key (rdM l (rd xs i)) = key (rdM l (rd xs j)) := ‹_›
    simp [hne]
  · have he : key (rdM l (rd xs i)) = key (rdM l (rd xs j)) := ‹_›
    simp [he, ltN]
/-- The sort's comparison and its exchange. -/
noncomputable def dataF : V := .agg [.fn 141 [.ptr (.k 0) 0, .ptr (.k 1) 0, .ptr (.k 2) 0], .fn 104 [.own (.k 3), th P 3]]
theorem insF_ok (l : List Mv) (xs : List Int) (hr : InL l.length xs) (h2 : 2 ≤ xs.length) (h20 : xs.length ≤ 1048576) (z y : Int) (hz : z = 0) (hy : y = xs.length) : Ok P 111 [dataF, .one (.int .i64 z), .one (.int .i64 y)] (stF l xs) (.tup []) (stF l (isort (ltP l) 0 xs xs.length)) := by
  subst hz hy
  have hs : Srt (ltP l) := lessM_srt (fun a : Int => at' l a.toNat)
  have w1 : Fact (wrap64 (0 + 1) = ((1 : Nat) : Int)) := ⟨(wrap_eq (by omega) (by omega)).trans (by omega)⟩
  refine Ok.of_run (F := mk Tryz.f111 4) Tryz.func111 rfl rfl tabOk mixed rfl rfl rfl rfl rfl (Nat.le_of_ble_eq_true rfl) (Nat.le_of_ble_eq_true rfl) (.go 5000 ?_)
  have outer : ∀ (d i : Nat) (z : Int) (row : List Int), z = i → row = sortedRow (ltP l) 0 xs i → (i + d = xs.length ∨ (d = 0 ∧ xs.length ≤ i)) → (xs.length ≤ i → row = isort (ltP l) 0 xs xs.length) → Run P (mk Tryz.f111 4) (fun v s => v = .tup [] ∧ s = stF l (isort (ltP l) 0 xs xs.length)) (.loop ⟨[(1, .one (.int .i64 0)), (2, .one (.int .i64 (xs.length : Int))), (3, .one (.ptr (.t 3 0) 0)), (6, .one (.int .i64 z))],
      [(.k 0, some (.cells [.lst .mv l false])), (.k 1, some (.cells [.own (.k 3)])), (.k 2, some (.cells [.fn 139 []])), (.k 3, some (.row (.int .i64) row)), (.t 3 0, some (.cells dataF.atoms))], [.lp [0, 1, 1], .blk 0], none⟩) := by
    intro d
    induction d with
    | zero =>
      intro i z row hz hrow hd hend
      subst hz
      have hend := hend (by omega)
      subst hend
      refine Run.loop ?_
      repeat' (conv => arg 4; whnf); first | refine Run.ret ⟨?_, rfl⟩ | refine Run.condT ?_ | refine Run.condf ?_ | refine Run.condD (fun h => ?_) (fun h => ?_) | refine Run.condN (fun h => ?_) (fun h => ?_) | refine Run.condE (fun h => ?_) (fun h => ?_) | refine Run.condF (fun h => ?_) (fun h => ?_) | refine Run.condM (fun h => ?_) (fun h => ?_) | refine Run.condB (fun h => ?_) (fun h => ?_) | refine Run.check1 ?_ | (exfalso; omega)
      all_goals first | (exfalso; omega) | rfl | trace_state
    | succ d ih =>
      intro i z row hz hrow hd hend
      subst hz
      have hi : i < xs.length := by omega
      clear hend
      have e := fs (i := i) (by omega)
      have inner : ∀ (j : Nat) (z : Int) (row : List Int), z = j → j ≤ i → row = wayRow (isort (ltP l) 0 xs i) (xs.getD i 0) (xs.drop (i + 1)) j → (∀ q, j ≤ q → q < i → ltP l (xs.getD i 0) ((isort (ltP l) 0 xs i).getD q 0) = true) →
          Run P (mk Tryz.f111 4) (fun v s => v = .tup [] ∧ s = stF l (isort (ltP l) 0 xs xs.length)) (.loop ⟨[(1, .one (.int .i64 0)), (2, .one (.int .i64 (xs.length : Int))), (3, .one (.ptr (.t 3 0) 0)), (6, .one (.int .i64 (i : Int))), (7, .one (.int .i64 z))],
            [(.k 0, some (.cells [.lst .mv l false])), (.k 1, some (.cells [.own (.k 3)])), (.k 2, some (.cells [.fn 139 []])), (.k 3, some (.row (.int .i64) row)), (.t 3 0, some (.cells dataF.atoms))], [.lp [0, 1, 0, 0, 1, 0, 0, 1, 1], .blk 2, .blk 1, .code [1, 1, 0, 0, 1, 1], .lp [0, 1, 1], .blk 0], none⟩) := by
        intro j
        induction j with
        | zero =>
          intro z row hz hji hrow hb
          subst hz
          have he := sortedRow_end hs (d := 0) hi hji hb (fun h => absurd h (by omega))
          rw [← hrow] at he
          subst he
          refine Run.loop ?_
          repeat' (conv => arg 4; whnf); first | refine Run.ret ⟨?_, rfl⟩ | refine Run.condT ?_ | refine Run.condf ?_ | refine Run.condD (fun h => ?_) (fun h => ?_) | refine Run.condN (fun h => ?_) (fun h => ?_) | refine Run.condE (fun h => ?_) (fun h => ?_) | refine Run.condF (fun h => ?_) (fun h => ?_) | refine Run.condM (fun h => ?_) (fun h => ?_) | refine Run.condB (fun h => ?_) (fun h => ?_) | refine Run.check1 ?_ | (exfalso; omega) | refine Run.round ⟨[(.t 3 0, .t 3 0)], [], []⟩ (ih (i + 1) _ _ e.h rfl (by omega) ?_) rfl (by (repeat' (first | exact wkEnv_nil | refine wkEnv_cons rfl ?_ | exact wkSto_nil | refine wkSto_none ?_ | refine wkSto_some rfl ?_)); done) (by (repeat' (first | exact wkEnv_nil | refine wkEnv_cons rfl ?_ | exact wkSto_nil | refine wkSto_none ?_ | refine wkSto_some rfl ?_)); done)
          all_goals first | (exfalso; omega) | (intro h; rw [show i + 1 = xs.length by omega]; exact sortedRow_all) | trace_state
        | succ j ihj =>
          intro z row hz hji hrow hb
          have hp := wrap_pred hz (by omega)
          have hlen : row.length = xs.length := by rw [hrow]; exact (way_xs hi).length_eq
          have hir : InL l.length row := fun x hx => hr x (by rw [hrow] at hx; exact (way_xs hi).mem_iff.1 hx)
          have el : ltP l (row.getD (j + 1) 0) (row.getD j 0) = ltP l (xs.getD i 0) ((isort (ltP l) 0 xs i).getD j 0) := by
            rw [hrow, wayRow_here (by rw [isort_len]; exact hji), wayRow_ahead (Nat.lt_succ_self j) (by rw [isort_len]; exact hji)]
          have hsw : swapL 0 row (j + 1) j = wayRow (isort (ltP l) 0 xs i) (xs.getD i 0) (xs.drop (i + 1)) j := by
            rw [hrow]; exact way_swap (by rw [isort_len]; exact hji)
          have hend : ltP l (xs.getD i 0) ((isort (ltP l) 0 xs i).getD j 0) = false → row = sortedRow (ltP l) 0 xs (i + 1) := fun h => by
            rw [hrow]; exact sortedRow_end hs (d := 0) hi hji hb (fun _ => h)
          refine Run.loop ?_
          repeat' (conv => arg 4; whnf); first | refine Run.ret ⟨?_, rfl⟩ | refine Run.condT ?_ | refine Run.condf ?_ | refine Run.condD (fun h => ?_) (fun h => ?_) | refine Run.condN (fun h => ?_) (fun h => ?_) | refine Run.condE (fun h => ?_) (fun h => ?_) | refine Run.condF (fun h => ?_) (fun h => ?_) | refine Run.condM (fun h => ?_) (fun h => ?_) | refine Run.condB (fun h => ?_) (fun h => ?_) | refine Run.check1 ?_ | refine Run.call (less_ok l row hir (j + 1) j _ _ hz hp (by omega) (by omega)) rfl ?_ | refine Run.call (swapI_ok row (j + 1) j _ _ hz hp (by omega) (by omega)) rfl ?_ | refine Run.round ⟨[(.t 3 0, .t 3 0)], [], []⟩ (ih (i + 1) _ _ e.h ?_ (by omega) ?_) rfl (by (repeat' (first | exact wkEnv_nil | refine wkEnv_cons rfl ?_ | exact wkSto_nil | refine wkSto_none ?_ | refine wkSto_some rfl ?_)); done) (by (repeat' (first | exact wkEnv_nil | refine wkEnv_cons rfl ?_ | exact wkSto_nil | refine wkSto_none ?_ | refine wkSto_some rfl ?_)); done) | refine Run.round ⟨[(.t 3 0, .t 3 0)], [], []⟩ (ihj _ _ hp (by omega) hsw ?_) rfl (by (repeat' (first | exact wkEnv_nil | refine wkEnv_cons rfl ?_ | exact wkSto_nil | refine wkSto_none ?_ | refine wkSto_some rfl ?_)); done) (by (repeat' (first | exact wkEnv_nil | refine wkEnv_cons rfl ?_ | exact wkSto_nil | refine wkSto_none ?_ | refine wkSto_some rfl ?_)); done) | (exfalso; omega)
          all_goals clear ih ihj
          all_goals (rw [el] at *)
          all_goals first
            | (exfalso; omega)
            | exact hend ‹_›
            | (intro h; rw [hend ‹_›, show i + 1 = xs.length by omega]; exact sortedRow_all)
            | (intro q hq1 hq2
               rcases Nat.lt_or_ge q (j + 1) with h | h
               · rw [show q = j by omega]; assumption
               · exact hb q h hq2)
            | trace_state
      refine Run.loop ?_
      repeat' (conv => arg 4; whnf); first | refine Run.ret ⟨?_, rfl⟩ | refine Run.condT ?_ | refine Run.condf ?_ | refine Run.condD (fun h => ?_) (fun h => ?_) | refine Run.condN (fun h => ?_) (fun h => ?_) | refine Run.condE (fun h => ?_) (fun h => ?_) | refine Run.condF (fun h => ?_) (fun h => ?_) | refine Run.condM (fun h => ?_) (fun h => ?_) | refine Run.condB (fun h => ?_) (fun h => ?_) | refine Run.check1 ?_ | refine Run.round ⟨[(.t 3 0, .t 3 0)], [], []⟩ (inner i _ _ rfl (Nat.le_refl _) (hrow.trans (sortedRow_start hi)) ?_) rfl (by (repeat' (first | exact wkEnv_nil | refine wkEnv_cons rfl ?_ | exact wkSto_nil | refine wkSto_none ?_ | refine wkSto_some rfl ?_)); done) (by (repeat' (first | exact wkEnv_nil | refine wkEnv_cons rfl ?_ | exact wkSto_nil | refine wkSto_none ?_ | refine wkSto_some rfl ?_)); done) | (exfalso; omega)
      all_goals first | (intro q h1 h2; omega) | (exfalso; omega) | trace_state
  repeat' (conv => arg 4; whnf); first | refine Run.ret ⟨?_, rfl⟩ | refine Run.condT ?_ | refine Run.condf ?_ | refine Run.condD (fun h => ?_) (fun h => ?_) | refine Run.condN (fun h => ?_) (fun h => ?_) | refine Run.condE (fun h => ?_) (fun h => ?_) | refine Run.condF (fun h => ?_) (fun h => ?_) | refine Run.condM (fun h => ?_) (fun h => ?_) | refine Run.condB (fun h => ?_) (fun h => ?_) | refine Run.check1 ?_ | refine Run.round ⟨[(.t 3 0, .t 3 0)], [], []⟩ (outer (xs.length - 1) 1 _ _ w1.h ?_ ?_ ?_) rfl (by (repeat' (first | exact wkEnv_nil | refine wkEnv_cons rfl ?_ | exact wkSto_nil | refine wkSto_none ?_ | refine wkSto_some rfl ?_)); done) (by (repeat' (first | exact wkEnv_nil | refine wkEnv_cons rfl ?_ | exact wkSto_nil | refine wkSto_none ?_ | refine wkSto_some rfl ?_)); done)
  · exact (sortedRow_one (by omega)).symm
  · omega
  · intro h; omega
/-- At most one: nothing is compared. -/
theorem insF1_ok (l : List Mv) (xs : List Int) (g : FuncId) (h1 : xs.length ≤ 1) (z y : Int) (hz : z = 0) (hy : y = xs.length) : Ok P 111 [.agg [.fn 141 [.ptr (.k 0) 0, .ptr (.k 1) 0, .ptr (.k 2) 0], .fn g []], .one (.int .i64 z), .one (.int .i64 y)] (stF l xs) (.tup []) (stF l xs) := by
  subst hz hy
  refine Ok.of_run (F := mk Tryz.f111 4) Tryz.func111 rfl rfl tabOk mixed rfl rfl rfl rfl rfl (Nat.le_of_ble_eq_true rfl) (Nat.le_of_ble_eq_true rfl) (.go 5000 ?_)
  have w1 : Fact (wrap64 (0 + 1) = 1) := ⟨(wrap_eq (by omega) (by omega)).trans (by omega)⟩
  conv => arg 4; whnf
  refine Run.loop ?_
  repeat' (conv => arg 4; whnf); first | refine Run.ret ⟨?_, rfl⟩ | refine Run.condT ?_ | refine Run.condf ?_ | refine Run.condD (fun h => ?_) (fun h => ?_) | refine Run.condN (fun h => ?_) (fun h => ?_) | refine Run.condE (fun h => ?_) (fun h => ?_) | refine Run.condF (fun h => ?_) (fun h => ?_) | refine Run.condM (fun h => ?_) (fun h => ?_) | refine Run.condB (fun h => ?_) (fun h => ?_) | refine Run.check1 ?_ | (exfalso; simp only [w1.h] at *; omega)
  all_goals first | rfl | (exfalso; simp only [w1.h] at *; omega) | trace_state
theorem stableF1_ok (l : List Mv) (xs : List Int) (g : FuncId) (h1 : xs.length ≤ 1) (y : Int) (hy : y = xs.length) : Ok P 151 [.agg [.fn 141 [.ptr (.k 0) 0, .ptr (.k 1) 0, .ptr (.k 2) 0], .fn g []], .one (.int .i64 y)] (stF l xs) (.tup []) (stF l xs) := by
  subst hy
  refine Ok.of_run (F := mk Tryz.f151 4) Tryz.func151 rfl rfl tabOk mixed rfl rfl rfl rfl rfl (Nat.le_of_ble_eq_true rfl) (Nat.le_of_ble_eq_true rfl) (.go 5000 ?_)
  repeat' (conv => arg 4; whnf); first | refine Run.ret ⟨?_, rfl⟩ | refine Run.condT ?_ | refine Run.condf ?_ | refine Run.condD (fun h => ?_) (fun h => ?_) | refine Run.condN (fun h => ?_) (fun h => ?_) | refine Run.condE (fun h => ?_) (fun h => ?_) | refine Run.condF (fun h => ?_) (fun h => ?_) | refine Run.condM (fun h => ?_) (fun h => ?_) | refine Run.condB (fun h => ?_) (fun h => ?_) | refine Run.check1 ?_ | (exfalso; omega) | refine Run.call (insF1_ok l xs g h1 _ _ rfl rfl) rfl ?_ | (refine Run.loop ?_)
  all_goals first | rfl | (exfalso; omega) | trace_state
theorem stableF_ok (l : List Mv) (xs : List Int) (hr : InL l.length xs) (h2 : 2 ≤ xs.length) (h20 : xs.length < 20) (y : Int) (hy : y = xs.length) : Ok P 151 [dataF, .one (.int .i64 y)] (stF l xs) (.tup []) (stF l (isort (ltP l) 0 xs xs.length)) := by
  subst hy
  refine Ok.of_run (F := mk Tryz.f151 4) Tryz.func151 rfl rfl tabOk mixed rfl rfl rfl rfl rfl (Nat.le_of_ble_eq_true rfl) (Nat.le_of_ble_eq_true rfl) (.go 5000 ?_)
  repeat' (conv => arg 4; whnf); first | refine Run.ret ⟨?_, rfl⟩ | refine Run.condT ?_ | refine Run.condf ?_ | refine Run.condD (fun h => ?_) (fun h => ?_) | refine Run.condN (fun h => ?_) (fun h => ?_) | refine Run.condE (fun h => ?_) (fun h => ?_) | refine Run.condF (fun h => ?_) (fun h => ?_) | refine Run.condM (fun h => ?_) (fun h => ?_) | refine Run.condB (fun h => ?_) (fun h => ?_) | refine Run.check1 ?_ | (exfalso; omega) | refine Run.call (insF_ok l xs hr h2 (by omega) _ _ rfl rfl) rfl ?_ | (refine Run.loop ?_)
  all_goals first | rfl | (exfalso; omega) | trace_state
theorem isort1 (lt : Int → Int → Bool) (xs : List Int) (h : xs.length ≤ 1) : isort lt 0 xs xs.length = xs := by
  match xs, h with
  | [], _ => rfl
  | [x], _ => rfl
theorem sortF_ok (l : List Mv) (xs : List Int) (hr : InL l.length xs) (h20 : xs.length < 20) : Ok P 140 [.one (.ifc 27 (.own (.k 0))), .one (.fn 141 [.ptr (.k 1) 0, .ptr (.k 2) 0, .ptr (.k 3) 0])] [some (.row (.int .i64) xs), some (.cells [.lst .mv l false]), some (.cells [.own (.k 0)]), some (.cells [.fn 139 []])] (.tup [])
    [some (.row (.int .i64) (isort (ltP l) 0 xs xs.length)), some (.cells [.lst .mv l false]), some (.cells [.own (.k 0)]), some (.cells [.fn 139 []])] := by
  refine Ok.of_run (F := mk Tryz.f140 4) Tryz.func140 rfl rfl tabOk mixed rfl rfl rfl rfl rfl (Nat.le_of_ble_eq_true rfl) (Nat.le_of_ble_eq_true rfl) (.go 5000 ?_)
  rcases (show xs.length = 0 ∨ xs.length = 1 ∨ 2 ≤ xs.length by omega) with h | h | h
  · rw [isort1 _ _ (by omega)]
    repeat' (conv => arg 4; whnf); first | refine Run.ret ⟨?_, rfl⟩ | refine Run.condT ?_ | refine Run.condf ?_ | refine Run.condD (fun h => ?_) (fun h => ?_) | refine Run.condN (fun h => ?_) (fun h => ?_) | refine Run.condE (fun h => ?_) (fun h => ?_) | refine Run.condF (fun h => ?_) (fun h => ?_) | refine Run.condM (fun h => ?_) (fun h => ?_) | refine Run.condB (fun h => ?_) (fun h => ?_) | refine Run.check1 ?_ | refine Run.call (valueOfI_ok _) rfl ?_ | refine Run.call (swapper0I_ok _ h) rfl ?_ | refine Run.call (lenI_ok _) rfl ?_ | refine Run.call (stableF1_ok _ _ _ (by omega) _ rfl) rfl ?_
    all_goals first | rfl | trace_state
  · rw [isort1 _ _ (by omega)]
    repeat' (conv => arg 4; whnf); first | refine Run.ret ⟨?_, rfl⟩ | refine Run.condT ?_ | refine Run.condf ?_ | refine Run.condD (fun h => ?_) (fun h => ?_) | refine Run.condN (fun h => ?_) (fun h => ?_) | refine Run.condE (fun h => ?_) (fun h => ?_) | refine Run.condF (fun h => ?_) (fun h => ?_) | refine Run.condM (fun h => ?_) (fun h => ?_) | refine Run.condB (fun h => ?_) (fun h => ?_) | refine Run.check1 ?_ | refine Run.call (valueOfI_ok _) rfl ?_ | refine Run.call (swapper1I_ok _ h) rfl ?_ | refine Run.call (lenI_ok _) rfl ?_ | refine Run.call (stableF1_ok _ _ _ (by omega) _ rfl) rfl ?_
    all_goals first | rfl | trace_state
  · repeat' (conv => arg 4; whnf); first | refine Run.ret ⟨?_, rfl⟩ | refine Run.condT ?_ | refine Run.condf ?_ | refine Run.condD (fun h => ?_) (fun h => ?_) | refine Run.condN (fun h => ?_) (fun h => ?_) | refine Run.condE (fun h => ?_) (fun h => ?_) | refine Run.condF (fun h => ?_) (fun h => ?_) | refine Run.condM (fun h => ?_) (fun h => ?_) | refine Run.condB (fun h => ?_) (fun h => ?_) | refine Run.check1 ?_ | refine Run.call (valueOfI_ok _) rfl ?_ | refine Run.call (swapperI_ok _ h) rfl ?_ | refine Run.call (lenI_ok _) rfl ?_ | refine Run.call (stableF_ok _ _ hr h h20 _ rfl) rfl ?_
    all_goals first | rfl | trace_state
end Go.Proofs.YtmppoajepbbmiaaGreat.AM

/- StripFirst, the program's and the reference's; condition: fewer than 20 moves (the program's). -/
namespace Go.Proofs.YtmppoajepbbmiaaGreat.AM
open Go.AM Go.RowKit
set_option linter.unusedVariables false
set_option linter.unusedSimpArgs false
set_option maxRecDepth 100000

theorem first_ok (l : List Mv) (h20 : l.length < 20) : Ok P 119 [.one (.lst .mv l false)] [] (.one (.own (.k 0))) [some (.row (.int .i64) (firstM l))] := by
  have hin : InL l.length (upTo l.length) := fun x hx => by
    obtain ⟨i, hi, rfl⟩ := List.mem_map.1 hx
    have := List.mem_range.1 hi
    omega
  have hsort := sortF_ok l (upTo l.length) hin (by rw [upTo_len]; exact h20)
  rw [upTo_len] at hsort
  refine Ok.of_run (F := mk Tryz.f119 0) Tryz.func119 rfl rfl tabOk mixed rfl rfl rfl rfl rfl (Nat.le_of_ble_eq_true rfl) (Nat.le_of_ble_eq_true rfl) (.go 5000 ?_)
  have loop : ∀ (d i : Nat) (z : Int) (s : List Int), z = i → i + d = l.length → s = upTo i → Run P (mk Tryz.f119 0) (fun v st => v = .one (.own (.k 0)) ∧ st = [some (.row (.int .i64) (firstM l))]) (.loop ⟨[(1, .one (.ptr (.t 1 0) 0)), (3, .one (.ptr (.t 3 0) 0)), (8, .one (.int .i64 (l.length : Int))), (9, .one (.int .i64 z))],
      [(.t 1 0, some (.cells [.lst .mv l false])), (.t 3 0, some (.cells [.own (.t 1000 0)])), (.t 1000 0, some (.row (.int .i64) s))], [.lp [0, 1, 0, 1, 1], .blk 0, .code [1, 1, 1]], none⟩) := by
    intro d
    induction d with
    | zero =>
      intro i z s hz hd hs
      subst hz
      obtain rfl : i = l.length := by omega
      subst hs
      refine Run.loop ?_
      repeat' (conv => arg 4; whnf); first | refine Run.ret ⟨?_, rfl⟩ | refine Run.condT ?_ | refine Run.condf ?_ | refine Run.condD (fun h => ?_) (fun h => ?_) | refine Run.condN (fun h => ?_) (fun h => ?_) | refine Run.condE (fun h => ?_) (fun h => ?_) | refine Run.condF (fun h => ?_) (fun h => ?_) | refine Run.condM (fun h => ?_) (fun h => ?_) | refine Run.condB (fun h => ?_) (fun h => ?_) | refine Run.check1 ?_ | (exfalso; omega) | refine Run.call (hsort) rfl ?_
      all_goals first | rfl | (exfalso; omega) | trace_state
    | succ d ih =>
      intro i z s hz hd hs
      subst hz
      have hl : s.length = i := by rw [hs, upTo_len]
      have e := fs (i := i) (by omega)
      refine Run.loop ?_
      repeat' (conv => arg 4; whnf); first | refine Run.ret ⟨?_, rfl⟩ | refine Run.condT ?_ | refine Run.condf ?_ | refine Run.condD (fun h => ?_) (fun h => ?_) | refine Run.condN (fun h => ?_) (fun h => ?_) | refine Run.condE (fun h => ?_) (fun h => ?_) | refine Run.condF (fun h => ?_) (fun h => ?_) | refine Run.condM (fun h => ?_) (fun h => ?_) | refine Run.condB (fun h => ?_) (fun h => ?_) | refine Run.check1 ?_ | refine Run.need1 (by simp only [allP, true_and, and_true, List.length_cons, List.length_nil]; omega) ?_ | refine Run.round ⟨[(.t 1 0, .t 1 0), (.t 3 0, .t 3 0), (.t 15 0, .t 1000 0)], [], []⟩ (ih (i + 1) _ _ e.h (by omega) ?_) rfl (by (repeat' (first | exact wkEnv_nil | refine wkEnv_cons rfl ?_ | exact wkSto_nil | refine wkSto_none ?_ | refine wkSto_some rfl ?_)); done) (by (repeat' (first | exact wkEnv_nil | refine wkEnv_cons rfl ?_ | exact wkSto_nil | refine wkSto_none ?_ | refine wkSto_some rfl ?_)); done) | (exfalso; omega)
      all_goals first | (exfalso; omega) | (rw [upTo_succ, hs]) | trace_state
  repeat' (conv => arg 4; whnf); first | refine Run.ret ⟨?_, rfl⟩ | refine Run.condT ?_ | refine Run.condf ?_ | refine Run.condD (fun h => ?_) (fun h => ?_) | refine Run.condN (fun h => ?_) (fun h => ?_) | refine Run.condE (fun h => ?_) (fun h => ?_) | refine Run.condF (fun h => ?_) (fun h => ?_) | refine Run.condM (fun h => ?_) (fun h => ?_) | refine Run.condB (fun h => ?_) (fun h => ?_) | refine Run.check1 ?_ | refine Run.round ⟨[(.t 1 0, .t 1 0), (.t 3 0, .t 3 0), (.t 6 0, .t 1000 0)], [], []⟩ (loop l.length 0 _ _ rfl (by omega) rfl) rfl (by (repeat' (first | exact wkEnv_nil | refine wkEnv_cons rfl ?_ | exact wkSto_nil | refine wkSto_none ?_ | refine wkSto_some rfl ?_)); done) (by (repeat' (first | exact wkEnv_nil | refine wkEnv_cons rfl ?_ | exact wkSto_nil | refine wkSto_none ?_ | refine wkSto_some rfl ?_)); done)
theorem key_ok (m : Mv) : Ok P 147 [.agg (encMv m)] [] (.one (.int .i64 (key m))) [] := by
  refine Ok.of_run (F := mk Tryz.f147 0) Tryz.func147 rfl rfl tabOk mixed rfl rfl rfl rfl rfl (Nat.le_of_ble_eq_true rfl) (Nat.le_of_ble_eq_true rfl) (.go 5000 ?_)
  repeat' (conv => arg 4; whnf); first | refine Run.ret ⟨?_, rfl⟩ | refine Run.condT ?_ | refine Run.condf ?_ | refine Run.condD (fun h => ?_) (fun h => ?_) | refine Run.condN (fun h => ?_) (fun h => ?_) | refine Run.condE (fun h => ?_) (fun h => ?_) | refine Run.condF (fun h => ?_) (fun h => ?_) | refine Run.condM (fun h => ?_) (fun h => ?_) | refine Run.condB (fun h => ?_) (fun h => ?_) | refine Run.check1 ?_
  all_goals (refine vi ?_; unfold key; first | rw [if_pos ‹_›] | rw [if_neg ‹_›])
theorem sfirst_ok (l : List Mv) (hl : l.length ≤ 1048576) : Ok P 127 [.one (.lst .mv l false)] [] (.one (.own (.k 0))) [some (.row (.int .i64) (firstM l))] := by
  have hs : Srt (ltP l) := lessM_srt (fun a : Int => at' l a.toNat)
  refine Ok.of_run (F := mk Tryz.f127 0) Tryz.func127 rfl rfl tabOk mixed rfl rfl rfl rfl rfl (Nat.le_of_ble_eq_true rfl) (Nat.le_of_ble_eq_true rfl) (.go 5000 ?_)
  have outer : ∀ (d i : Nat) (z : Int) (s : List Int), z = i → i + d = l.length → s = isort (ltP l) 0 (upTo l.length) i → Run P (mk Tryz.f127 0) (fun v st => v = .one (.own (.k 0)) ∧ st = [some (.row (.int .i64) (firstM l))]) (.loop ⟨[(0, .one (.lst .mv l false)), (3, .one (.own (.t 1000 0))), (4, .one (.int .i64 z))], [(.t 1000 0, some (.row (.int .i64) s))], [.lp [0, 1, 0, 1, 1], .blk 0, .code [1, 1, 1]], none⟩) := by
    intro d
    induction d with
    | zero =>
      intro i z s hz hd hs
      subst hz
      obtain rfl : i = l.length := by omega
      subst hs
      refine Run.loop ?_
      repeat' (conv => arg 4; whnf); first | refine Run.ret ⟨?_, rfl⟩ | refine Run.condT ?_ | refine Run.condf ?_ | refine Run.condD (fun h => ?_) (fun h => ?_) | refine Run.condN (fun h => ?_) (fun h => ?_) | refine Run.condE (fun h => ?_) (fun h => ?_) | refine Run.condF (fun h => ?_) (fun h => ?_) | refine Run.condM (fun h => ?_) (fun h => ?_) | refine Run.condB (fun h => ?_) (fun h => ?_) | refine Run.check1 ?_ | (exfalso; omega)
      all_goals first | rfl | (exfalso; omega) | trace_state
    | succ d ih =>
      intro i z s hz hd hse
      subst hz
      have hlen : s.length = i := by rw [hse]; exact isort_len
      have e := fs (i := i) (by omega)
      have hin : ∀ q, q < i → 0 ≤ rd s (q : Int) ∧ rd s (q : Int) < l.length := by
        intro q hq
        have hp := isort_perm (lt := ltP l) (d := 0) (xs := upTo l.length) (n := i) (by rw [upTo_len]; omega)
        rw [← hse] at hp
        rw [rd_nat, tk, List.getD_eq_getElem?_getD, List.getElem?_eq_getElem (by omega)]
        have hm := List.mem_of_mem_take (hp.mem_iff.1 (List.getElem_mem (show q < s.length by omega)))
        obtain ⟨i, hi, e⟩ := List.mem_map.1 hm
        have := List.mem_range.1 hi
        simp only [Option.getD_some]
        omega
      have eM : Fact (rdM l (i : Int) = at' l ((i : Nat) : Int).toNat) := ⟨by rw [rdM_nat]; rfl⟩
      have hst : isort (ltP l) 0 (upTo l.length) (i + 1) = insA (fun y => !ltP l (i : Int) y) (i : Int) s := by
        rw [isort_succ, isortA, ← hse, upTo_at (by omega)]
      have inner : ∀ (c k : Nat) (z : Int), z = k → k + c = i → (∀ q, q < k → ltP l (i : Int) (s.getD q 0) = false) → Run P (mk Tryz.f127 0) (fun v st => v = .one (.own (.k 0)) ∧ st = [some (.row (.int .i64) (firstM l))]) (.loop ⟨[(0, .one (.lst .mv l false)), (3, .one (.own (.t 1000 0))), (4, .one (.int .i64 (i : Int))), (5, .one (.int .i64 z))], [(.t 1000 0, some (.row (.int .i64) s))], [.lp [0, 0, 1, 0, 0, 1, 0, 0, 1, 0, 1, 1], .blk 2, .code [1, 1, 0, 0, 1, 0, 0, 1, 0, 1, 1], .blk 1, .code [1, 1, 0, 0, 1, 0, 1, 1], .lp [0, 1, 0, 1, 1], .blk 0, .code [1, 1, 1]], none⟩) := by
        intro c
        have fin : ∀ k, k ≤ i → (∀ q, q < k → ltP l (i : Int) (s.getD q 0) = false) → (k < i → ltP l (i : Int) (s.getD k 0) = true) → Fact ([] ++ (s.drop 0).take (k : Int).toNat ++ [(i : Int)] ++ (s.drop (0 + (k : Int).toNat)).take (s.length - (k : Int).toNat) = isort (ltP l) 0 (upTo l.length) (i + 1)) := by
          intro k hk hb hx
          refine ⟨?_⟩
          rw [hst, insA_at (k := k) (d := 0) (by omega) (fun q hq => by rw [hb q hq]; rfl) (fun h => by rw [hx (by omega)]; rfl)]
          simp only [Int.toNat_natCast, Nat.zero_add, List.nil_append, List.drop_zero]
          rw [List.take_of_length_le (l := s.drop k) (by rw [List.length_drop]; omega)]
          simp
        induction c with
        | zero =>
          intro k z hz hc hb
          subst hz
          have fin := fin k (by omega) hb (fun h => absurd h (by omega))
          refine Run.loop ?_
          repeat' (conv => arg 4; whnf); first | refine Run.ret ⟨?_, rfl⟩ | refine Run.condT ?_ | refine Run.condf ?_ | refine Run.condD (fun h => ?_) (fun h => ?_) | refine Run.condN (fun h => ?_) (fun h => ?_) | refine Run.condE (fun h => ?_) (fun h => ?_) | refine Run.condF (fun h => ?_) (fun h => ?_) | refine Run.condM (fun h => ?_) (fun h => ?_) | refine Run.condB (fun h => ?_) (fun h => ?_) | refine Run.check1 ?_ | (exfalso; omega) | refine Run.call (key_ok _) rfl ?_ | refine Run.need1 (by simp only [allP, true_and, and_true, List.length_cons, List.length_nil, List.length_append, List.length_take, List.length_drop]; omega) ?_ | refine Run.round ⟨[(.t 78 0, .t 1000 0)], [], []⟩ (ih (i + 1) _ _ e.h (by omega) ?_) rfl (by (repeat' (first | exact wkEnv_nil | refine wkEnv_cons rfl ?_ | exact wkSto_nil | refine wkSto_none ?_ | refine wkSto_some rfl ?_)); done) (by (repeat' (first | exact wkEnv_nil | refine wkEnv_cons rfl ?_ | exact wkSto_nil | refine wkSto_none ?_ | refine wkSto_some rfl ?_)); done)
          all_goals first | (exfalso; omega) | exact fin.h | trace_state
        | succ c ihc =>
          intro k z hz hc hb
          subst hz
          have e2 := fs (i := k) (by omega)
          have hr := hin k (by omega)
          have ek : Fact (rdM l (rd s k) = at' l (s.getD k 0).toNat) := ⟨by rw [rd_nat]; rfl⟩
          have fin := fin k (by omega) hb
          have hnot := lessM_not (a := rdM l (rd s k)) (b := rdM l i)
          have hlt : lessM (rdM l i) (rdM l (rd s k)) = ltP l (i : Int) (s.getD k 0) := by rw [ek.h, eM.h]; rfl
          rw [hlt] at hnot
          refine Run.loop ?_
          repeat' (conv => arg 4; whnf); first | refine Run.ret ⟨?_, rfl⟩ | refine Run.condT ?_ | refine Run.condf ?_ | refine Run.condD (fun h => ?_) (fun h => ?_) | refine Run.condN (fun h => ?_) (fun h => ?_) | refine Run.condE (fun h => ?_) (fun h => ?_) | refine Run.condF (fun h => ?_) (fun h => ?_) | refine Run.condM (fun h => ?_) (fun h => ?_) | refine Run.condB (fun h => ?_) (fun h => ?_) | refine Run.check1 ?_ | (exfalso; omega) | refine Run.call (key_ok _) rfl ?_ | refine Run.need1 (by simp only [allP, true_and, and_true]; omega) ?_ | refine Run.need1 (by simp only [allP, true_and, and_true, List.length_cons, List.length_nil, List.length_append, List.length_take, List.length_drop]; omega) ?_ | refine Run.round ⟨[(.t 78 0, .t 1000 0)], [], []⟩ (ih (i + 1) _ _ e.h (by omega) ?_) rfl (by (repeat' (first | exact wkEnv_nil | refine wkEnv_cons rfl ?_ | exact wkSto_nil | refine wkSto_none ?_ | refine wkSto_some rfl ?_)); done) (by (repeat' (first | exact wkEnv_nil | refine wkEnv_cons rfl ?_ | exact wkSto_nil | refine wkSto_none ?_ | refine wkSto_some rfl ?_)); done) | refine Run.round ⟨[(.t 1000 0, .t 1000 0)], [], []⟩ (ihc (k + 1) _ e2.h (by omega) ?_) rfl (by (repeat' (first | exact wkEnv_nil | refine wkEnv_cons rfl ?_ | exact wkSto_nil | refine wkSto_none ?_ | refine wkSto_some rfl ?_)); done) (by (repeat' (first | exact wkEnv_nil | refine wkEnv_cons rfl ?_ | exact wkSto_nil | refine wkSto_none ?_ | refine wkSto_some rfl ?_)); done)
          all_goals clear ih ihc
          all_goals unfold ltN at hnot
          · have h1 : key (rdM l (rd s k)) < key (rdM l i) := by assumption
            rw [decide_eq_true h1] at hnot
            have hx : ltP l (i : Int) (s.getD k 0) = false := by simpa using hnot.symm
            intro q hq
            rcases Nat.lt_or_ge q k with h | h
            · exact hb q h
            · rw [show q = k by omega]; exact hx
          · have h1 : ¬ key (rdM l (rd s k)) < key (rdM l i) := by assumption
            have h2 : key (rdM l (rd s k)) = key (rdM l i) := by assumption
            rw [decide_eq_false h1, h2] at hnot
            have h3 : (Op.bytesLess (rdM l (rd s k)).f0.toList (rdM l i).f0.toList || (rdM l (rd s k)).f0.toList == (rdM l i).f0.toList) = true := by assumption
            rw [h3] at hnot
            have hx : ltP l (i : Int) (s.getD k 0) = false := by simpa using hnot.symm
            intro q hq
            rcases Nat.lt_or_ge q k with h | h
            · exact hb q h
            · rw [show q = k by omega]; exact hx
          · have h1 : ¬ key (rdM l (rd s k)) < key (rdM l i) := by assumption
            have h2 : key (rdM l (rd s k)) = key (rdM l i) := by assumption
            rw [decide_eq_false h1, h2] at hnot
            have h3 : (Op.bytesLess (rdM l (rd s k)).f0.toList (rdM l i).f0.toList || (rdM l (rd s k)).f0.toList == (rdM l i).f0.toList) = false := by assumption
            rw [h3] at hnot
            exact (fin (fun _ => by simpa using hnot.symm)).h
          · have h1 : ¬ key (rdM l (rd s k)) < key (rdM l i) := by assumption
            have h2 : ¬ key (rdM l (rd s k)) = key (rdM l i) := by assumption
            rw [decide_eq_false h1, show (key (rdM l (rd s k)) == key (rdM l i)) = false by simpa using h2] at hnot
            exact (fin (fun _ => by simpa using hnot.symm)).h
      refine Run.loop ?_
      repeat' (conv => arg 4; whnf); first | refine Run.ret ⟨?_, rfl⟩ | refine Run.condT ?_ | refine Run.condf ?_ | refine Run.condD (fun h => ?_) (fun h => ?_) | refine Run.condN (fun h => ?_) (fun h => ?_) | refine Run.condE (fun h => ?_) (fun h => ?_) | refine Run.condF (fun h => ?_) (fun h => ?_) | refine Run.condM (fun h => ?_) (fun h => ?_) | refine Run.condB (fun h => ?_) (fun h => ?_) | refine Run.check1 ?_ | refine Run.round ⟨[(.t 1000 0, .t 1000 0)], [], []⟩ (inner i 0 _ rfl (by omega) ?_) rfl (by (repeat' (first | exact wkEnv_nil | refine wkEnv_cons rfl ?_ | exact wkSto_nil | refine wkSto_none ?_ | refine wkSto_some rfl ?_)); done) (by (repeat' (first | exact wkEnv_nil | refine wkEnv_cons rfl ?_ | exact wkSto_nil | refine wkSto_none ?_ | refine wkSto_some rfl ?_)); done) | (exfalso; omega)
      all_goals first | (intro q hq; omega) | (exfalso; omega) | trace_state
  repeat' (conv => arg 4; whnf); first | refine Run.ret ⟨?_, rfl⟩ | refine Run.condT ?_ | refine Run.condf ?_ | refine Run.condD (fun h => ?_) (fun h => ?_) | refine Run.condN (fun h => ?_) (fun h => ?_) | refine Run.condE (fun h => ?_) (fun h => ?_) | refine Run.condF (fun h => ?_) (fun h => ?_) | refine Run.condM (fun h => ?_) (fun h => ?_) | refine Run.condB (fun h => ?_) (fun h => ?_) | refine Run.check1 ?_ | refine Run.round ⟨[(.t 6 0, .t 1000 0)], [], []⟩ (outer l.length 0 _ _ rfl (by omega) rfl) rfl (by (repeat' (first | exact wkEnv_nil | refine wkEnv_cons rfl ?_ | exact wkSto_nil | refine wkSto_none ?_ | refine wkSto_some rfl ?_)); done) (by (repeat' (first | exact wkEnv_nil | refine wkEnv_cons rfl ?_ | exact wkSto_nil | refine wkSto_none ?_ | refine wkSto_some rfl ?_)); done)
end Go.Proofs.YtmppoajepbbmiaaGreat.AM

/- Orders that are ok, places in orders; condition: lengths. -/
namespace Go.Proofs.YtmppoajepbbmiaaGreat.AM
open Go.AM Go.RowKit
set_option linter.unusedVariables false
set_option linter.unusedSimpArgs false
set_option maxRecDepth 100000

theorem index_ok (b : List Int) (v : Int) (hb : b.length ≤ 1048576) : Ok P 144 [.one (.lst (.int .i64) b false), .one (.int .i64 v)] [] (.one (.int .i64 (pos b v))) [] := by
  refine Ok.of_run (F := mk Tryz.f144 0) Tryz.func144 rfl rfl tabOk mixed rfl rfl rfl rfl rfl (Nat.le_of_ble_eq_true rfl) (Nat.le_of_ble_eq_true rfl) (.go 5000 ?_)
  have loop : ∀ (d i : Nat) (z : Int), z = i → i + d = b.length → posFrom b v i d = pos b v → Run P (mk Tryz.f144 0) (fun x st => x = .one (.int .i64 (pos b v)) ∧ st = []) (.loop ⟨[(0, .one (.lst (.int .i64) b false)), (1, .one (.int .i64 v)), (7, .one (.int .i64 (b.length : Int))), (8, .one (.int .i64 z))], [], [.lp [0, 1, 0, 1], .blk 0, .code [1, 1]], none⟩) := by
    intro d
    induction d with
    | zero =>
      intro i z hz hd he
      subst hz
      refine Run.loop ?_
      repeat' (conv => arg 4; whnf); first | refine Run.ret ⟨?_, rfl⟩ | refine Run.condT ?_ | refine Run.condf ?_ | refine Run.condD (fun h => ?_) (fun h => ?_) | refine Run.condN (fun h => ?_) (fun h => ?_) | refine Run.condE (fun h => ?_) (fun h => ?_) | refine Run.condF (fun h => ?_) (fun h => ?_) | refine Run.condM (fun h => ?_) (fun h => ?_) | refine Run.condB (fun h => ?_) (fun h => ?_) | refine Run.check1 ?_ | (exfalso; omega)
      all_goals first | (rw [← he]; rfl) | (exfalso; omega)
    | succ d ih =>
      intro i z hz hd he
      subst hz
      have e : wrap64 ((i : Int) + 1) = ((i + 1 : Nat) : Int) := wrap_eq (by omega) (by omega)
      unfold posFrom at he
      have ei : rd b i = b.getD i 0 := rd_nat b i
      refine Run.loop ?_
      repeat' (conv => arg 4; whnf); first | refine Run.ret ⟨?_, rfl⟩ | refine Run.condT ?_ | refine Run.condf ?_ | refine Run.condD (fun h => ?_) (fun h => ?_) | refine Run.condN (fun h => ?_) (fun h => ?_) | refine Run.condE (fun h => ?_) (fun h => ?_) | refine Run.condF (fun h => ?_) (fun h => ?_) | refine Run.condM (fun h => ?_) (fun h => ?_) | refine Run.condB (fun h => ?_) (fun h => ?_) | refine Run.check1 ?_ | refine Run.need1 (by simp only [allP, true_and, and_true]; omega) ?_ | refine Run.round ⟨[], [], []⟩ (ih (i + 1) _ e (by omega) ?_) rfl (by (repeat' (first | exact wkEnv_nil | refine wkEnv_cons rfl ?_ | exact wkSto_nil | refine wkSto_none ?_ | refine wkSto_some rfl ?_)); done) (by (repeat' (first | exact wkEnv_nil | refine wkEnv_cons rfl ?_ | exact wkSto_nil | refine wkSto_none ?_ | refine wkSto_some rfl ?_)); done) | (exfalso; omega)
      all_goals (clear ih; rw [← ei] at he)
      all_goals first
        | (exfalso; omega)
        | (rw [if_pos (by omega)] at he; rw [← he])
        | (rw [if_neg (by omega)] at he; exact he)
        | trace_state
  repeat' (conv => arg 4; whnf); first | refine Run.ret ⟨?_, rfl⟩ | refine Run.condT ?_ | refine Run.condf ?_ | refine Run.condD (fun h => ?_) (fun h => ?_) | refine Run.condN (fun h => ?_) (fun h => ?_) | refine Run.condE (fun h => ?_) (fun h => ?_) | refine Run.condF (fun h => ?_) (fun h => ?_) | refine Run.condM (fun h => ?_) (fun h => ?_) | refine Run.condB (fun h => ?_) (fun h => ?_) | refine Run.check1 ?_ | refine Run.round ⟨[], [], []⟩ (loop b.length 0 _ rfl (by omega) rfl) rfl (by (repeat' (first | exact wkEnv_nil | refine wkEnv_cons rfl ?_ | exact wkSto_nil | refine wkSto_none ?_ | refine wkSto_some rfl ?_)); done) (by (repeat' (first | exact wkEnv_nil | refine wkEnv_cons rfl ?_ | exact wkSto_nil | refine wkSto_none ?_ | refine wkSto_some rfl ?_)); done)
theorem isOrder_ok (a : List Int) (ha : a.length ≤ 1048576) : Ok P 143 [.one (.lst (.int .i64) a false)] [] (.one (.bool (decide (IsOrd a)))) [] := by
  refine Ok.of_run (F := mk Tryz.f143 0) Tryz.func143 rfl rfl tabOk mixed rfl rfl rfl rfl rfl (Nat.le_of_ble_eq_true rfl) (Nat.le_of_ble_eq_true rfl) (.go 5000 ?_)
  have hno : ¬ IsOrd a → V.one (A.bool false) = V.one (A.bool (decide (IsOrd a))) := fun h => by rw [decide_eq_false h]
  have loop : ∀ (d i : Nat) (z : Int) (s : List Bool), z = i → i + d = a.length → Seen a a.length i s → (∀ j, j < i → (0 ≤ a.getD j 0 ∧ a.getD j 0 ≤ (a.length : Int) - 1) ∧ ∀ k, k < j → a.getD k 0 ≠ a.getD j 0) → Run P (mk Tryz.f143 0) (fun x st => x = .one (.bool (decide (IsOrd a))) ∧ st = []) (.loop ⟨[(0, .one (.lst (.int .i64) a false)), (3, .one (.own (.t 8 0))), (9, .one (.lst (.int .i64) a false)), (10, .one (.int .i64 (a.length : Int))), (11, .one (.int .i64 z))], [(.t 8 0, some (.row .bool s))], [.lp [0, 1, 0, 1, 1], .blk 0, .code [1, 1, 1]], none⟩) := by
    intro d
    induction d with
    | zero =>
      intro i z s hz hd hs hall
      subst hz
      refine Run.loop ?_
      repeat' (conv => arg 4; whnf); first | refine Run.ret ⟨?_, rfl⟩ | refine Run.condT ?_ | refine Run.condf ?_ | refine Run.condD (fun h => ?_) (fun h => ?_) | refine Run.condN (fun h => ?_) (fun h => ?_) | refine Run.condE (fun h => ?_) (fun h => ?_) | refine Run.condF (fun h => ?_) (fun h => ?_) | refine Run.condM (fun h => ?_) (fun h => ?_) | refine Run.condB (fun h => ?_) (fun h => ?_) | refine Run.check1 ?_ | (exfalso; omega)
      all_goals first
        | (exfalso; omega)
        | (rw [decide_eq_true (show IsOrd a from fun j hj => hall j (by omega))])
    | succ d ih =>
      intro i z s hz hd hs hall
      subst hz
      have e : wrap64 ((i : Int) + 1) = ((i + 1 : Nat) : Int) := wrap_eq (by omega) (by omega)
      have el : wrap64 ((a.length : Int) - 1) = (a.length : Int) - 1 := wrap_eq (by omega) (by omega)
      have hsl := hs.1
      have ei : rd a i = a.getD i 0 := rd_nat a i
      refine Run.loop ?_
      repeat' (conv => arg 4; whnf); first | refine Run.ret ⟨?_, rfl⟩ | refine Run.condT ?_ | refine Run.condf ?_ | refine Run.condD (fun h => ?_) (fun h => ?_) | refine Run.condN (fun h => ?_) (fun h => ?_) | refine Run.condE (fun h => ?_) (fun h => ?_) | refine Run.condF (fun h => ?_) (fun h => ?_) | refine Run.condM (fun h => ?_) (fun h => ?_) | refine Run.condB (fun h => ?_) (fun h => ?_) | refine Run.check1 ?_ | refine Run.call (in_ok _ _ _) rfl ?_ | refine Run.need1 (by simp only [allP, true_and, and_true]; omega) ?_ | refine Run.need1 (by simp only [allP, true_and, and_true, el]; omega) ?_ | refine Run.round ⟨[(.t 8 0, .t 8 0)], [], []⟩ (ih (i + 1) _ _ e (by omega) ?_ ?_) rfl (by (repeat' (first | exact wkEnv_nil | refine wkEnv_cons rfl ?_ | exact wkSto_nil | refine wkSto_none ?_ | refine wkSto_some rfl ?_)); done) (by (repeat' (first | exact wkEnv_nil | refine wkEnv_cons rfl ?_ | exact wkSto_nil | refine wkSto_none ?_ | refine wkSto_some rfl ?_)); done) | (exfalso; omega)
      all_goals clear ih
      all_goals first
        | (exfalso; omega)
        | (refine hno fun q => ?_; have := (q i (by omega)).1; omega)
        | (refine hno fun q => ?_
           have hv : (rd a i).toNat < a.length := by omega
           obtain ⟨j, hj, ej⟩ := (hs.2 _ hv).1 ‹rdB s (rd a i) = true›
           exact (q i (by omega)).2 j hj (by rw [ej, ← ei]; omega))
        | exact seen_set hs (v := (rd a i).toNat) (by omega) (by omega)
        | (intro j hj
           rcases Nat.lt_or_ge j i with h1 | h1
           · exact hall j h1
           · obtain rfl : j = i := by omega
             refine ⟨by omega, fun k hk ek => ?_⟩
             have hv : (rd a j).toNat < a.length := by omega
             have := (hs.2 _ hv).2 ⟨k, hk, by rw [ek, ← ei]; omega⟩
             have hf : rdB s (rd a j) = false := ‹rdB s (rd a j) = false›
             unfold rdB at hf
             rw [hf] at this
             cases this)
        | trace_state
  repeat' (conv => arg 4; whnf); first | refine Run.ret ⟨?_, rfl⟩ | refine Run.condT ?_ | refine Run.condf ?_ | refine Run.condD (fun h => ?_) (fun h => ?_) | refine Run.condN (fun h => ?_) (fun h => ?_) | refine Run.condE (fun h => ?_) (fun h => ?_) | refine Run.condF (fun h => ?_) (fun h => ?_) | refine Run.condM (fun h => ?_) (fun h => ?_) | refine Run.condB (fun h => ?_) (fun h => ?_) | refine Run.check1 ?_ | refine Run.need1 (by simp only [allP, true_and, and_true]; omega) ?_ | refine Run.round ⟨[(.t 8 0, .t 8 0)], [], []⟩ (loop a.length 0 _ _ rfl (by omega) ?_ ?_) rfl (by (repeat' (first | exact wkEnv_nil | refine wkEnv_cons rfl ?_ | exact wkSto_nil | refine wkSto_none ?_ | refine wkSto_some rfl ?_)); done) (by (repeat' (first | exact wkEnv_nil | refine wkEnv_cons rfl ?_ | exact wkSto_nil | refine wkSto_none ?_ | refine wkSto_some rfl ?_)); done)
  all_goals first
    | (intro j hj; omega)
    | (refine ⟨by simp, fun v hv => ⟨fun h => ?_, fun ⟨j, hj, _⟩ => absurd hj (by omega)⟩⟩
       rw [List.getD_eq_getElem?_getD, List.getElem?_replicate] at h
       split at h <;> cases h)
    | trace_state
theorem sordOk_ok (a : List Int) (n : Nat) (hn : n ≤ 1048576) : Ok P 148 [.one (.int .i64 (n : Int)), .one (.lst (.int .i64) a false)] [] (.one (.bool (decide (a.length = n ∧ IsOrd a)))) [] := by
  refine Ok.of_run (F := mk Tryz.f148 0) Tryz.func148 rfl rfl tabOk mixed rfl rfl rfl rfl rfl (Nat.le_of_ble_eq_true rfl) (Nat.le_of_ble_eq_true rfl) (.go 5000 ?_)
  by_cases hl : a.length = n
  · rw [show decide (a.length = n ∧ IsOrd a) = decide (IsOrd a) by simp [hl]]
    subst hl
    have hno : ¬ IsOrd a → V.one (A.bool false) = V.one (A.bool (decide (IsOrd a))) := fun h => by rw [decide_eq_false h]
    have outer : ∀ (d i : Nat) (z : Int), z = i → i + d = a.length → (∀ j, j < i → (0 ≤ a.getD j 0 ∧ a.getD j 0 ≤ (a.length : Int) - 1) ∧ ∀ k, k < j → a.getD k 0 ≠ a.getD j 0) → Run P (mk Tryz.f148 0) (fun x st => x = .one (.bool (decide (IsOrd a))) ∧ st = []) (.loop ⟨[(0, .one (.int .i64 (a.length : Int))), (1, .one (.lst (.int .i64) a false)), (5, .one (.int .i64 z))], [], [.lp [0, 1, 0, 1, 1], .blk 0, .code [1, 1, 1]], none⟩) := by
      intro d
      induction d with
      | zero =>
        intro i z hz hd hall
        subst hz
        refine Run.loop ?_
        repeat' (conv => arg 4; whnf); first | refine Run.ret ⟨?_, rfl⟩ | refine Run.condT ?_ | refine Run.condf ?_ | refine Run.condD (fun h => ?_) (fun h => ?_) | refine Run.condN (fun h => ?_) (fun h => ?_) | refine Run.condE (fun h => ?_) (fun h => ?_) | refine Run.condF (fun h => ?_) (fun h => ?_) | refine Run.condM (fun h => ?_) (fun h => ?_) | refine Run.condB (fun h => ?_) (fun h => ?_) | refine Run.check1 ?_ | (exfalso; omega)
        all_goals first
          | (exfalso; omega)
          | (rw [decide_eq_true (show IsOrd a from fun j hj => hall j (by omega))])
      | succ d ih =>
        intro i z hz hd hall
        subst hz
        have e : wrap64 ((i : Int) + 1) = ((i + 1 : Nat) : Int) := wrap_eq (by omega) (by omega)
        have el : wrap64 ((a.length : Int) - 1) = (a.length : Int) - 1 := wrap_eq (by omega) (by omega)
        have ei : rd a i = a.getD i 0 := rd_nat a i
        have inner : (0 ≤ rd a i ∧ rd a i ≤ (a.length : Int) - 1) → ∀ (c k : Nat) (z : Int), z = k → k + c = i → (∀ j, j < k → a.getD j 0 ≠ a.getD i 0) → Run P (mk Tryz.f148 0) (fun x st => x = .one (.bool (decide (IsOrd a))) ∧ st = []) (.loop ⟨[(0, .one (.int .i64 (a.length : Int))), (1, .one (.lst (.int .i64) a false)), (5, .one (.int .i64 (i : Int))), (6, .one (.int .i64 z))], [], [.lp [0, 1, 1, 0, 0, 1, 0, 0, 1, 0, 1, 1], .blk 2, .blk 1, .code [1, 1, 0, 0, 1, 0, 1, 1], .lp [0, 1, 0, 1, 1], .blk 0, .code [1, 1, 1]], none⟩) := by
          intro hr c
          induction c with
          | zero =>
            intro k z hz hc hk
            subst hz
            refine Run.loop ?_
            repeat' (conv => arg 4; whnf); first | refine Run.ret ⟨?_, rfl⟩ | refine Run.condT ?_ | refine Run.condf ?_ | refine Run.condD (fun h => ?_) (fun h => ?_) | refine Run.condN (fun h => ?_) (fun h => ?_) | refine Run.condE (fun h => ?_) (fun h => ?_) | refine Run.condF (fun h => ?_) (fun h => ?_) | refine Run.condM (fun h => ?_) (fun h => ?_) | refine Run.condB (fun h => ?_) (fun h => ?_) | refine Run.check1 ?_ | refine Run.round ⟨[], [], []⟩ (ih (i + 1) _ e (by omega) ?_) rfl (by (repeat' (first | exact wkEnv_nil | refine wkEnv_cons rfl ?_ | exact wkSto_nil | refine wkSto_none ?_ | refine wkSto_some rfl ?_)); done) (by (repeat' (first | exact wkEnv_nil | refine wkEnv_cons rfl ?_ | exact wkSto_nil | refine wkSto_none ?_ | refine wkSto_some rfl ?_)); done) | (exfalso; omega)
            all_goals first
              | (exfalso; omega)
              | (intro j hj
                 rcases Nat.lt_or_ge j i with h1 | h1
                 · exact hall j h1
                 · obtain rfl : j = i := by omega
                   exact ⟨by omega, fun q hq => hk q (by omega)⟩)
          | succ c ihc =>
            intro k z hz hc hk
            subst hz
            have e2 : wrap64 ((k : Int) + 1) = ((k + 1 : Nat) : Int) := wrap_eq (by omega) (by omega)
            have ek : rd a k = a.getD k 0 := rd_nat a k
            refine Run.loop ?_
            repeat' (conv => arg 4; whnf); first | refine Run.ret ⟨?_, rfl⟩ | refine Run.condT ?_ | refine Run.condf ?_ | refine Run.condD (fun h => ?_) (fun h => ?_) | refine Run.condN (fun h => ?_) (fun h => ?_) | refine Run.condE (fun h => ?_) (fun h => ?_) | refine Run.condF (fun h => ?_) (fun h => ?_) | refine Run.condM (fun h => ?_) (fun h => ?_) | refine Run.condB (fun h => ?_) (fun h => ?_) | refine Run.check1 ?_ | refine Run.need1 (by simp only [allP, true_and, and_true]; omega) ?_ | refine Run.round ⟨[], [], []⟩ (ihc (k + 1) _ e2 (by omega) ?_) rfl (by (repeat' (first | exact wkEnv_nil | refine wkEnv_cons rfl ?_ | exact wkSto_nil | refine wkSto_none ?_ | refine wkSto_some rfl ?_)); done) (by (repeat' (first | exact wkEnv_nil | refine wkEnv_cons rfl ?_ | exact wkSto_nil | refine wkSto_none ?_ | refine wkSto_some rfl ?_)); done) | (exfalso; omega)
            all_goals clear ih ihc
            all_goals first
              | (exfalso; omega)
              | (refine hno fun q => (q i (by omega)).2 k (by omega) ?_; omega)
              | (intro j hj
                 rcases Nat.lt_or_ge j k with h1 | h1
                 · exact hk j h1
                 · obtain rfl : j = k := by omega
                   intro ee; omega)
              | trace_state
        refine Run.loop ?_
        repeat' (conv => arg 4; whnf); first | refine Run.ret ⟨?_, rfl⟩ | refine Run.condT ?_ | refine Run.condf ?_ | refine Run.condD (fun h => ?_) (fun h => ?_) | refine Run.condN (fun h => ?_) (fun h => ?_) | refine Run.condE (fun h => ?_) (fun h => ?_) | refine Run.condF (fun h => ?_) (fun h => ?_) | refine Run.condM (fun h => ?_) (fun h => ?_) | refine Run.condB (fun h => ?_) (fun h => ?_) | refine Run.check1 ?_ | refine Run.call (sin_ok _ _ _) rfl ?_ | refine Run.need1 (by simp only [allP, true_and, and_true]; omega) ?_ | refine Run.round ⟨[], [], []⟩ (inner ?_ i 0 _ rfl (by omega) ?_) rfl (by (repeat' (first | exact wkEnv_nil | refine wkEnv_cons rfl ?_ | exact wkSto_nil | refine wkSto_none ?_ | refine wkSto_some rfl ?_)); done) (by (repeat' (first | exact wkEnv_nil | refine wkEnv_cons rfl ?_ | exact wkSto_nil | refine wkSto_none ?_ | refine wkSto_some rfl ?_)); done) | (exfalso; omega)
        all_goals clear ih inner
        all_goals first
          | (exfalso; omega)
          | omega
          | (intro j hj; omega)
          | (refine hno fun q => ?_; have := (q i (by omega)).1; omega)
          | trace_state
    repeat' (conv => arg 4; whnf); first | refine Run.ret ⟨?_, rfl⟩ | refine Run.condT ?_ | refine Run.condf ?_ | refine Run.condD (fun h => ?_) (fun h => ?_) | refine Run.condN (fun h => ?_) (fun h => ?_) | refine Run.condE (fun h => ?_) (fun h => ?_) | refine Run.condF (fun h => ?_) (fun h => ?_) | refine Run.condM (fun h => ?_) (fun h => ?_) | refine Run.condB (fun h => ?_) (fun h => ?_) | refine Run.check1 ?_ | refine Run.round ⟨[], [], []⟩ (outer a.length 0 _ rfl (by omega) ?_) rfl (by (repeat' (first | exact wkEnv_nil | refine wkEnv_cons rfl ?_ | exact wkSto_nil | refine wkSto_none ?_ | refine wkSto_some rfl ?_)); done) (by (repeat' (first | exact wkEnv_nil | refine wkEnv_cons rfl ?_ | exact wkSto_nil | refine wkSto_none ?_ | refine wkSto_some rfl ?_)); done) | contradiction
    all_goals first | (intro j hj; omega) | contradiction | (exfalso; omega) | trace_state
  · rw [decide_eq_false (fun h : a.length = n ∧ IsOrd a => hl h.1)]
    repeat' (conv => arg 4; whnf); first | refine Run.ret ⟨?_, rfl⟩ | refine Run.condT ?_ | refine Run.condf ?_ | refine Run.condD (fun h => ?_) (fun h => ?_) | refine Run.condN (fun h => ?_) (fun h => ?_) | refine Run.condE (fun h => ?_) (fun h => ?_) | refine Run.condF (fun h => ?_) (fun h => ?_) | refine Run.condM (fun h => ?_) (fun h => ?_) | refine Run.condB (fun h => ?_) (fun h => ?_) | refine Run.check1 ?_ | (exfalso; omega)
    all_goals first | rfl | (exfalso; omega)
end Go.Proofs.YtmppoajepbbmiaaGreat.AM

/- StripShift of the program; condition: lengths. -/
namespace Go.Proofs.YtmppoajepbbmiaaGreat.AM
open Go.AM Go.RowKit
set_option linter.unusedVariables false
set_option linter.unusedSimpArgs false
set_option maxRecDepth 100000

theorem shift_ok (a b : List Int) (ha : a.length ≤ 1048576) (hb : b.length ≤ 1048576) : Ok P 122 [.one (.lst (.int .i64) a false), .one (.lst (.int .i64) b false)] [] (.one (.int .i64 (shiftM a b))) [] := by
  refine Ok.of_run (F := mk Tryz.f122 0) Tryz.func122 rfl rfl tabOk mixed rfl rfl rfl rfl rfl (Nat.le_of_ble_eq_true rfl) (Nat.le_of_ble_eq_true rfl) (.go 5000 ?_)
  by_cases hc : a.length = b.length ∧ IsOrd a ∧ IsOrd b
  · have hf : shiftM a b = foldFrom (shStep a b) 0 a.length 0 := if_pos hc
    obtain ⟨hl, h1, h2⟩ := hc
    have loop : ∀ (d i : Nat) (z s : Int), z = i → i + d = a.length → foldFrom (shStep a b) i d s = shiftM a b → Run P (mk Tryz.f122 0) (fun x st => x = .one (.int .i64 (shiftM a b)) ∧ st = []) (.loop ⟨[(1, .one (.lst (.int .i64) b false)), (5, .one (.int .i64 s)), (24, .one (.lst (.int .i64) a false)), (25, .one (.int .i64 (a.length : Int))), (26, .one (.int .i64 z))], [], [.lp [0, 1, 0, 1, 1, 1], .blk 0, .code [1, 1, 1, 1]], none⟩) := by
      intro d
      induction d with
      | zero =>
        intro i z s hz hd he
        subst hz
        refine Run.loop ?_
        repeat' (conv => arg 4; whnf); first | refine Run.ret ⟨?_, rfl⟩ | refine Run.condT ?_ | refine Run.condf ?_ | refine Run.condD (fun h => ?_) (fun h => ?_) | refine Run.condN (fun h => ?_) (fun h => ?_) | refine Run.condE (fun h => ?_) (fun h => ?_) | refine Run.condF (fun h => ?_) (fun h => ?_) | refine Run.condM (fun h => ?_) (fun h => ?_) | refine Run.condB (fun h => ?_) (fun h => ?_) | refine Run.check1 ?_ | (exfalso; omega)
        all_goals first | (rw [← he]; rfl) | (exfalso; omega)
      | succ d ih =>
        intro i z s hz hd he
        subst hz
        have e : wrap64 ((i : Int) + 1) = ((i + 1 : Nat) : Int) := wrap_eq (by omega) (by omega)
        have ei : rd a i = a.getD i 0 := rd_nat a i
        have hp : -1 ≤ pos b (rd a i) ∧ pos b (rd a i) ≤ 1048576 := by
          rcases pos_range b (rd a i) with ⟨h, _⟩ | ⟨j, h, hj, _⟩ <;> omega
        have e1 : wrap64 ((i : Int) - pos b (rd a i)) = (i : Int) - pos b (rd a i) := wrap_eq (by omega) (by omega)
        have e2 : wrap64 (pos b (rd a i) - (i : Int)) = pos b (rd a i) - (i : Int) := wrap_eq (by omega) (by omega)
        have he' : foldFrom (shStep a b) (i + 1) d (shStep a b i s) = shiftM a b := he
        have st : shStep a b i s = max (max s (wrap64 ((i : Int) - pos b (rd a i)))) (wrap64 (pos b (rd a i) - (i : Int))) := by
          rw [e1, e2, ei]; rfl
        rw [st] at he'
        refine Run.loop ?_
        repeat' (conv => arg 4; whnf); first | refine Run.ret ⟨?_, rfl⟩ | refine Run.condT ?_ | refine Run.condf ?_ | refine Run.condD (fun h => ?_) (fun h => ?_) | refine Run.condN (fun h => ?_) (fun h => ?_) | refine Run.condE (fun h => ?_) (fun h => ?_) | refine Run.condF (fun h => ?_) (fun h => ?_) | refine Run.condM (fun h => ?_) (fun h => ?_) | refine Run.condB (fun h => ?_) (fun h => ?_) | refine Run.check1 ?_ | refine Run.call (index_ok _ _ hb) rfl ?_ | refine Run.need1 (by simp only [allP, true_and, and_true]; omega) ?_ | refine Run.round ⟨[], [], []⟩ (ih (i + 1) _ _ e (by omega) ?_) rfl (by (repeat' (first | exact wkEnv_nil | refine wkEnv_cons rfl ?_ | exact wkSto_nil | refine wkSto_none ?_ | refine wkSto_some rfl ?_)); done) (by (repeat' (first | exact wkEnv_nil | refine wkEnv_cons rfl ?_ | exact wkSto_nil | refine wkSto_none ?_ | refine wkSto_some rfl ?_)); done) | (exfalso; omega)
        all_goals first | exact he' | (exfalso; omega) | trace_state
    repeat' (conv => arg 4; whnf); first | refine Run.ret ⟨?_, rfl⟩ | refine Run.condT ?_ | refine Run.condf ?_ | refine Run.condD (fun h => ?_) (fun h => ?_) | refine Run.condN (fun h => ?_) (fun h => ?_) | refine Run.condE (fun h => ?_) (fun h => ?_) | refine Run.condF (fun h => ?_) (fun h => ?_) | refine Run.condM (fun h => ?_) (fun h => ?_) | refine Run.condB (fun h => ?_) (fun h => ?_) | refine Run.check1 ?_ | refine Run.call (isOrder_ok _ ha) rfl ?_ | refine Run.call (isOrder_ok _ hb) rfl ?_ | refine Run.round ⟨[], [], []⟩ (loop a.length 0 _ _ rfl (by omega) hf.symm) rfl (by (repeat' (first | exact wkEnv_nil | refine wkEnv_cons rfl ?_ | exact wkSto_nil | refine wkSto_none ?_ | refine wkSto_some rfl ?_)); done) (by (repeat' (first | exact wkEnv_nil | refine wkEnv_cons rfl ?_ | exact wkSto_nil | refine wkSto_none ?_ | refine wkSto_some rfl ?_)); done) | (exact absurd hl ‹a.length ≠ b.length›) | contradiction
    all_goals first | contradiction | (exfalso; omega) | trace_state
  · have hf : shiftM a b = -1 := if_neg hc
    rw [hf]
    have key : a.length = b.length → IsOrd a → ¬ IsOrd b := fun x y z => hc ⟨x, y, z⟩
    repeat' (conv => arg 4; whnf); first | refine Run.ret ⟨?_, rfl⟩ | refine Run.condT ?_ | refine Run.condf ?_ | refine Run.condD (fun h => ?_) (fun h => ?_) | refine Run.condN (fun h => ?_) (fun h => ?_) | refine Run.condE (fun h => ?_) (fun h => ?_) | refine Run.condF (fun h => ?_) (fun h => ?_) | refine Run.condM (fun h => ?_) (fun h => ?_) | refine Run.condB (fun h => ?_) (fun h => ?_) | refine Run.check1 ?_ | refine Run.call (isOrder_ok _ ha) rfl ?_ | refine Run.call (isOrder_ok _ hb) rfl ?_ | (exfalso; exact key (by omega) ‹IsOrd a› ‹IsOrd b›)
    all_goals first | rfl | (exfalso; exact key (by omega) ‹IsOrd a› ‹IsOrd b›) | trace_state
end Go.Proofs.YtmppoajepbbmiaaGreat.AM

/- StripMovesOk, the program's and the reference's; no condition. -/
namespace Go.Proofs.YtmppoajepbbmiaaGreat.AM
open Go.AM Go.RowKit
set_option linter.unusedVariables false
set_option linter.unusedSimpArgs false
set_option maxRecDepth 100000

theorem movesOk_ok (l : List Mv) : Ok P 93 [.one (.lst .mv l false)] [] (.one (.bool (decide (MovesOk l)))) [] := by
  refine Ok.of_run (F := mk Tryz.f93 0) Tryz.func93 rfl rfl tabOk mixed rfl rfl rfl rfl rfl (Nat.le_of_ble_eq_true rfl) (Nat.le_of_ble_eq_true rfl) (.go 5000 ?_)
  have loop : l.length ≤ 6 → ∀ (d i : Nat) (z : Int), z = i → i + d = l.length → (∀ j, j < i → OkAt l j) → Run P (mk Tryz.f93 0) (fun v st => v = .one (.bool (decide (MovesOk l))) ∧ st = []) (.loop ⟨[(0, .one (.lst .mv l false)), (8, .one (.lst .mv l false)), (9, .one (.int .i64 (l.length : Int))), (10, .one (.int .i64 z))], [], [.lp [0, 1, 0, 1, 1], .blk 0, .code [1, 1, 1]], none⟩) := by
    intro h6 d
    induction d with
    | zero =>
      intro i z hz hd hall
      subst hz
      refine Run.loop ?_
      repeat' (conv => arg 4; whnf); first | refine Run.ret ⟨?_, rfl⟩ | refine Run.condT ?_ | refine Run.condf ?_ | refine Run.condD (fun h => ?_) (fun h => ?_) | refine Run.condN (fun h => ?_) (fun h => ?_) | refine Run.condE (fun h => ?_) (fun h => ?_) | refine Run.condF (fun h => ?_) (fun h => ?_) | refine Run.condM (fun h => ?_) (fun h => ?_) | refine Run.condB (fun h => ?_) (fun h => ?_) | refine Run.check1 ?_ | (exfalso; omega)
      all_goals first
        | (exfalso; omega)
        | (refine vb ?_; simp only [decide_eq_true_eq, true_iff]; exact ⟨h6, fun j hj => hall j (by omega)⟩)
    | succ d ih =>
      intro i z hz hd hall
      subst hz
      have e : wrap64 ((i : Int) + 1) = ((i + 1 : Nat) : Int) := wrap_eq (by omega) (by omega)
      have e0 : 0 < i → wrap64 ((i : Int) - 1) = ((i - 1 : Nat) : Int) := fun h => (wrap_eq (by omega) (by omega)).trans (by omega)
      have no : ¬ OkAt l i → V.one (A.bool false) = V.one (A.bool (decide (MovesOk l))) := fun h => vb (by simp only [Bool.false_eq_true, decide_eq_true_eq, false_iff]; exact fun k => h (k.2 i (by omega)))
      refine Run.loop ?_
      repeat' (conv => arg 4; whnf); first | refine Run.ret ⟨?_, rfl⟩ | refine Run.condT ?_ | refine Run.condf ?_ | refine Run.condD (fun h => ?_) (fun h => ?_) | refine Run.condN (fun h => ?_) (fun h => ?_) | refine Run.condE (fun h => ?_) (fun h => ?_) | refine Run.condF (fun h => ?_) (fun h => ?_) | refine Run.condM (fun h => ?_) (fun h => ?_) | refine Run.condB (fun h => ?_) (fun h => ?_) | refine Run.check1 ?_ | refine Run.call (moveOk_ok _) rfl ?_ | refine Run.need1 (⟨by omega, by omega⟩) ?_ | refine Run.need1 (⟨by rw [e0 (by omega)]; omega, by rw [e0 (by omega)]; omega⟩) ?_ | refine Run.round ⟨[], [], []⟩ (ih (i + 1) _ e (by omega) ?_) rfl (by (repeat' (first | exact wkEnv_nil | refine wkEnv_cons rfl ?_ | exact wkSto_nil | refine wkSto_none ?_ | refine wkSto_some rfl ?_)); done) (by (repeat' (first | exact wkEnv_nil | refine wkEnv_cons rfl ?_ | exact wkSto_nil | refine wkSto_none ?_ | refine wkSto_some rfl ?_)); done) | (exfalso; omega)
      all_goals first
        | (exfalso; omega)
        | (refine no fun k => ?_; have k1 := k.1; rw [← rdM_nat] at k1; simp_all; done)
        | (refine no fun k => ?_; have k2 := k.2 (by omega); rw [← rdM_nat, ← rdM_nat, ← e0 (by omega)] at k2; simp_all [ltN]; done)
        | (intro j hj; rcases Nat.lt_or_ge j i with h1 | h1
           · exact hall j h1
           · obtain rfl : j = i := by omega
             refine ⟨by rw [← rdM_nat]; assumption, fun h0 => ?_⟩
             first | (exfalso; omega) | (rw [← rdM_nat, ← rdM_nat, ← e0 (by omega)]; assumption))
  repeat' (conv => arg 4; whnf); first | refine Run.ret ⟨?_, rfl⟩ | refine Run.condT ?_ | refine Run.condf ?_ | refine Run.condD (fun h => ?_) (fun h => ?_) | refine Run.condN (fun h => ?_) (fun h => ?_) | refine Run.condE (fun h => ?_) (fun h => ?_) | refine Run.condF (fun h => ?_) (fun h => ?_) | refine Run.condM (fun h => ?_) (fun h => ?_) | refine Run.condB (fun h => ?_) (fun h => ?_) | refine Run.check1 ?_ | refine Run.round ⟨[], [], []⟩ (loop ?_ l.length 0 _ rfl ?_ ?_) rfl (by (repeat' (first | exact wkEnv_nil | refine wkEnv_cons rfl ?_ | exact wkSto_nil | refine wkSto_none ?_ | refine wkSto_some rfl ?_)); done) (by (repeat' (first | exact wkEnv_nil | refine wkEnv_cons rfl ?_ | exact wkSto_nil | refine wkSto_none ?_ | refine wkSto_some rfl ?_)); done)
  all_goals first | omega | (refine vb ?_; simp only [Bool.false_eq_true, decide_eq_true_eq, false_iff]; exact fun k => by have := k.1; omega)
theorem smovesOk_ok (l : List Mv) : Ok P 125 [.one (.lst .mv l false)] [] (.one (.bool (decide (MovesOk l)))) [] := by
  refine Ok.of_run (F := mk Tryz.f125 0) Tryz.func125 rfl rfl tabOk mixed rfl rfl rfl rfl rfl (Nat.le_of_ble_eq_true rfl) (Nat.le_of_ble_eq_true rfl) (.go 5000 ?_)
  have loop : l.length ≤ 6 → ∀ (d i : Nat) (z : Int), z = i → i + d = l.length → (∀ j, j < i → OkAt l j) → Run P (mk Tryz.f125 0) (fun v st => v = .one (.bool (decide (MovesOk l))) ∧ st = []) (.loop ⟨[(0, .one (.lst .mv l false)), (3, .one (.int .i64 z))], [], [.lp [0, 1, 0, 1, 1], .blk 0, .code [1, 1, 1]], none⟩) := by
    intro h6 d
    induction d with
    | zero =>
      intro i z hz hd hall
      subst hz
      refine Run.loop ?_
      repeat' (conv => arg 4; whnf); first | refine Run.ret ⟨?_, rfl⟩ | refine Run.condT ?_ | refine Run.condf ?_ | refine Run.condD (fun h => ?_) (fun h => ?_) | refine Run.condN (fun h => ?_) (fun h => ?_) | refine Run.condE (fun h => ?_) (fun h => ?_) | refine Run.condF (fun h => ?_) (fun h => ?_) | refine Run.condM (fun h => ?_) (fun h => ?_) | refine Run.condB (fun h => ?_) (fun h => ?_) | refine Run.check1 ?_ | (exfalso; omega)
      all_goals first
        | (exfalso; omega)
        | (refine vb ?_; simp only [decide_eq_true_eq, true_iff]; exact ⟨h6, fun j hj => hall j (by omega)⟩)
    | succ d ih =>
      intro i z hz hd hall
      subst hz
      have e : wrap64 ((i : Int) + 1) = ((i + 1 : Nat) : Int) := wrap_eq (by omega) (by omega)
      have e0 : 0 < i → wrap64 ((i : Int) - 1) = ((i - 1 : Nat) : Int) := fun h => (wrap_eq (by omega) (by omega)).trans (by omega)
      have no : ¬ OkAt l i → V.one (A.bool false) = V.one (A.bool (decide (MovesOk l))) := fun h => vb (by simp only [Bool.false_eq_true, decide_eq_true_eq, false_iff]; exact fun k => h (k.2 i (by omega)))
      refine Run.loop ?_
      repeat' (conv => arg 4; whnf); first | refine Run.ret ⟨?_, rfl⟩ | refine Run.condT ?_ | refine Run.condf ?_ | refine Run.condD (fun h => ?_) (fun h => ?_) | refine Run.condN (fun h => ?_) (fun h => ?_) | refine Run.condE (fun h => ?_) (fun h => ?_) | refine Run.condF (fun h => ?_) (fun h => ?_) | refine Run.condM (fun h => ?_) (fun h => ?_) | refine Run.condB (fun h => ?_) (fun h => ?_) | refine Run.check1 ?_ | refine Run.call (smoveOk_ok _) rfl ?_ | refine Run.need1 (⟨by omega, by omega⟩) ?_ | refine Run.need1 (⟨⟨by rw [e0 (by omega)]; omega, by rw [e0 (by omega)]; omega⟩, by omega, by omega⟩) ?_ | refine Run.need1 (⟨by rw [e0 (by omega)]; omega, by rw [e0 (by omega)]; omega⟩) ?_ | refine Run.round ⟨[], [], []⟩ (ih (i + 1) _ e (by omega) ?_) rfl (by (repeat' (first | exact wkEnv_nil | refine wkEnv_cons rfl ?_ | exact wkSto_nil | refine wkSto_none ?_ | refine wkSto_some rfl ?_)); done) (by (repeat' (first | exact wkEnv_nil | refine wkEnv_cons rfl ?_ | exact wkSto_nil | refine wkSto_none ?_ | refine wkSto_some rfl ?_)); done) | (exfalso; omega)
      all_goals first
        | (exfalso; omega)
        | (refine no fun k => ?_; have k1 := k.1; rw [← rdM_nat] at k1; simp_all; done)
        | (refine no fun k => ?_; have k2 := k.2 (by omega); rw [← rdM_nat, ← rdM_nat, ← e0 (by omega)] at k2; simp_all [ltN]; done)
        | (intro j hj; rcases Nat.lt_or_ge j i with h1 | h1
           · exact hall j h1
           · obtain rfl : j = i := by omega
             refine ⟨by rw [← rdM_nat]; assumption, fun h0 => ?_⟩
             first | (exfalso; omega) | (rw [← rdM_nat, ← rdM_nat, ← e0 (by omega)]; assumption))
        | trace_state
  repeat' (conv => arg 4; whnf); first | refine Run.ret ⟨?_, rfl⟩ | refine Run.condT ?_ | refine Run.condf ?_ | refine Run.condD (fun h => ?_) (fun h => ?_) | refine Run.condN (fun h => ?_) (fun h => ?_) | refine Run.condE (fun h => ?_) (fun h => ?_) | refine Run.condF (fun h => ?_) (fun h => ?_) | refine Run.condM (fun h => ?_) (fun h => ?_) | refine Run.condB (fun h => ?_) (fun h => ?_) | refine Run.check1 ?_ | refine Run.round ⟨[], [], []⟩ (loop ?_ l.length 0 _ rfl ?_ ?_) rfl (by (repeat' (first | exact wkEnv_nil | refine wkEnv_cons rfl ?_ | exact wkSto_nil | refine wkSto_none ?_ | refine wkSto_some rfl ?_)); done) (by (repeat' (first | exact wkEnv_nil | refine wkEnv_cons rfl ?_ | exact wkSto_nil | refine wkSto_none ?_ | refine wkSto_some rfl ?_)); done)
  all_goals first | omega | (refine vb ?_; simp only [Bool.false_eq_true, decide_eq_true_eq, false_iff]; exact fun k => by have := k.1; omega) | trace_state
end Go.Proofs.YtmppoajepbbmiaaGreat.AM

/- Ticks in an order, the program's and the reference's; condition: moves that are ok, an order that is ok. -/
namespace Go.Proofs.YtmppoajepbbmiaaGreat.AM
open Go.AM Go.RowKit
set_option linter.unusedVariables false
set_option linter.unusedSimpArgs false
set_option maxRecDepth 100000

theorem ordered_ok (l : List Mv) (o : List Int) (hm : AllOk l) (hl : l.length ≤ 1048576) (ho : IsOrd o) (hlen : o.length = l.length) : Ok P 123 [.one (.lst .mv l false), .one (.lst (.int .i64) o false)] [] (.tup [.one (.own (.k 0)), .one (.bool (ordM l o).2)]) [some (.row (.int .i64) (ordM l o).1)] := by
  refine nilR_ok (ordM_nil l o) ?_
  refine Ok.of_rel (F := mk Tryz.f123 0) Tryz.func123 rfl rfl tabOk mixed rfl rfl rfl rfl rfl (Nat.le_of_ble_eq_true rfl) (by first | exact fun _ _ => nilR_len | exact fun _ _ => nilB_len) (.go 5000 ?_)
  have outer : ∀ (d i : Nat) (z : Int) (ts : List Int), z = i → i + d = l.length → Ts l.length ts → ordFrom l o d i ts = ordM l o → Run P (mk Tryz.f123 0) (NilR (ordM l o)) (.loop ⟨[(0, .one (.lst .mv l false)), (1, .one (.lst (.int .i64) o false)), (6, .one (.own (.t 15 0))), (16, .one (.lst (.int .i64) o false)), (17, .one (.int .i64 (o.length : Int))), (18, .one (.int .i64 z))], [(.t 15 0, some (.row (.int .i64) ts))], [.lp [0, 1, 0, 1, 1], .blk 0, .code [1, 1, 1]], none⟩) := by
    intro d
    induction d with
    | zero =>
      intro i z ts hz hd hts he
      subst hz
      have h1 : (ordM l o).2 = true := by rw [← he]; rfl
      have h2 : (ordM l o).1 = ts := by rw [← he]; rfl
      refine Run.loop ?_
      repeat' (conv => arg 4; whnf); first | refine Run.ret ⟨?_, rfl⟩ | refine Run.condT ?_ | refine Run.condf ?_ | refine Run.condD (fun h => ?_) (fun h => ?_) | refine Run.condN (fun h => ?_) (fun h => ?_) | refine Run.condE (fun h => ?_) (fun h => ?_) | refine Run.condF (fun h => ?_) (fun h => ?_) | refine Run.condM (fun h => ?_) (fun h => ?_) | refine Run.condB (fun h => ?_) (fun h => ?_) | refine Run.check1 ?_ | (exfalso; omega) | (refine Run.ret (.inl ⟨?_, ?_⟩))
      all_goals first | (exfalso; omega) | (rw [h1]; done) | (rw [h2]; done) | trace_state
    | succ d ih =>
      intro i z ts hz hd hts he
      subst hz
      have hio : i < o.length := by omega
      have hp := (pl_lt ho hio).1
      have hmo := hm _ (show pl o i < l.length by omega)
      have hm3 : 0 ≤ (at' l (pl o i)).f3 ∧ (at' l (pl o i)).f3 ≤ 10000 := by
        have := (mvOk_range hmo).2.2.2.2
        skip
        omega
      have ei := rdO ho hio
      have eM : rdM l (rd o i) = at' l (pl o i) := by rw [ei, rdM_nat]
      have e3 : (rd o (i : Int)).toNat = pl o i := by rw [ei]; rfl
      have hlt := hts.1
      have e : Fact (wrap64 ((i : Int) + 1) = ((i + 1 : Nat) : Int)) := ⟨wrap_eq (by omega) (by omega)⟩
      have inner : ∀ (c q : Nat) (z t n : Int) (xs : List Int), z = q → n = i → xs = o.take i → q + c = i → 0 ≤ t ∧ t ≤ 10004 → Fact (foldFrom (lStep l o ts (at' l (pl o i))) q c t = leastT l o ts i) →
          Run P (mk Tryz.f123 0) (NilR (ordM l o)) (.loop ⟨[(0, .one (.lst .mv l false)), (1, .one (.lst (.int .i64) o false)), (6, .one (.own (.t 15 0))), (8, .one (.int .i64 (rd o i))), (9, .one (.ptr (.t 9 0) 0)), (10, .one (.int .i64 t)), (16, .one (.lst (.int .i64) o false)), (17, .one (.int .i64 (o.length : Int))), (18, .one (.int .i64 (i : Int))), (31, .one (.lst (.int .i64) xs false)), (32, .one (.int .i64 n)), (33, .one (.int .i64 z))], [(.t 15 0, some (.row (.int .i64) ts)), (.t 9 0, some (.cells (encMv (rdM l (rd o i)))))], [.lp [0, 1, 0, 1, 1, 1, 0, 0, 1, 1, 0, 0, 1, 0, 1, 1], .blk 2, .code [1, 1, 1, 1, 0, 0, 1, 1, 0, 0, 1, 0, 1, 1], .blk 1, .code [1, 1, 1, 0, 0, 1, 0, 1, 1], .lp [0, 1, 0, 1, 1], .blk 0, .code [1, 1, 1]], none⟩) := by
        intro c
        induction c with
        | zero =>
          intro q z t n xs hz hn hx hq ht hf
          subst hz hn hx
          obtain ⟨g1, g2⟩ := ordFrom_ts he rfl hmo hts (t := t) (by rw [← hf.h]; rfl) ht.1
          rw [eM]
          have et : tickOf (at' l (pl o i)) t = if 0 ≤ (at' l (pl o i)).f5 then (if (at' l (pl o i)).f5 < t then none else if (at' l (pl o i)).f4 < (at' l (pl o i)).f5 then none else some (at' l (pl o i)).f5) else if (at' l (pl o i)).f4 < t then none else some t := rfl
          refine Run.loop ?_
          repeat' (conv => arg 4; whnf); first | refine Run.ret ⟨?_, rfl⟩ | refine Run.condT ?_ | refine Run.condf ?_ | refine Run.condD (fun h => ?_) (fun h => ?_) | refine Run.condN (fun h => ?_) (fun h => ?_) | refine Run.condE (fun h => ?_) (fun h => ?_) | refine Run.condF (fun h => ?_) (fun h => ?_) | refine Run.condM (fun h => ?_) (fun h => ?_) | refine Run.condB (fun h => ?_) (fun h => ?_) | refine Run.check1 ?_ | (exfalso; omega) | refine Run.need1 (by simp only [allP, true_and, and_true]; omega) ?_ | (refine Run.ret (.inr ⟨g1 ?_, rfl, rfl⟩)) | refine Run.round ⟨[(.t 15 0, .t 15 0)], [], []⟩ (ih (i + 1) _ _ e.h (by omega) ?_ ?_) rfl (by (repeat' (first | exact wkEnv_nil | refine wkEnv_cons rfl ?_ | exact wkSto_nil | refine wkSto_none ?_ | refine wkSto_some rfl ?_)); done) (by (repeat' (first | exact wkEnv_nil | refine wkEnv_cons rfl ?_ | exact wkSto_nil | refine wkSto_none ?_ | refine wkSto_some rfl ?_)); done)
          all_goals clear ih
          all_goals first
            | (exfalso; omega)
            | (rw [et]; (repeat' split) <;> first | rfl | (exfalso; omega))
            | (rw [e3]; refine (g2 _ ?_).2; rw [et]; (repeat' split) <;> first | rfl | (exfalso; omega))
            | (rw [e3]; refine (g2 _ ?_).1; rw [et]; (repeat' split) <;> first | rfl | (exfalso; omega))
            | trace_state
        | succ c ihc =>
          intro q z t n xs hz hn hx hq ht hf
          subst hz hn
          have hqo : q < o.length := by omega
          have hq1 := (pl_lt ho hqo).1
          have htq := hts.2 (pl o q) (by omega)
          have hg := gap_range (at' l (pl o q)) (at' l (pl o i))
          have hrd : rd xs (q : Int) = (pl o q : Int) := by
            rw [hx, ← rdO ho hqo, rd_nat, rd_nat, tk, tk, List.getD_eq_getElem?_getD, List.getD_eq_getElem?_getD, List.getElem?_take_of_lt (by omega)]
          have hxl : xs.length = i := by rw [hx, List.length_take]; omega
          have e2 : Fact (wrap64 ((q : Int) + 1) = ((q + 1 : Nat) : Int)) := ⟨wrap_eq (by omega) (by omega)⟩
          have hstep : Fact (max t (wrap64 (rd ts (rd xs q) + gap (rdM l (rd xs q)) (rdM l (rd o i)))) = lStep l o ts (at' l (pl o i)) q t) := ⟨by
            rw [hrd, eM, rd_nat, rdM_nat, wrap_eq (by omega) (by omega)]
            rfl⟩
          have hinv := lStep_inv (l := l) (o := o) (q := q) (m := at' l (pl o i)) htq ht
          have hf' : Fact (foldFrom (lStep l o ts (at' l (pl o i))) (q + 1) c (lStep l o ts (at' l (pl o i)) q t) = leastT l o ts i) := ⟨hf.h⟩
          clear ei e3
          obtain ⟨v, hv⟩ : ∃ v : Nat, pl o q = v := ⟨_, rfl⟩
          rw [hv] at hq1 htq hrd
          clear hg
          refine Run.loop ?_
          repeat' (conv => arg 4; whnf); first | refine Run.ret ⟨?_, rfl⟩ | refine Run.condT ?_ | refine Run.condf ?_ | refine Run.condD (fun h => ?_) (fun h => ?_) | refine Run.condN (fun h => ?_) (fun h => ?_) | refine Run.condE (fun h => ?_) (fun h => ?_) | refine Run.condF (fun h => ?_) (fun h => ?_) | refine Run.condM (fun h => ?_) (fun h => ?_) | refine Run.condB (fun h => ?_) (fun h => ?_) | refine Run.check1 ?_ | refine Run.call (gap_ok _ _) rfl ?_ | refine Run.need1 (by simp only [allP, true_and, and_true]; omega) ?_ | refine Run.round ⟨[(.t 15 0, .t 15 0), (.t 9 0, .t 9 0)], [], []⟩ (ihc (q + 1) _ _ _ _ e2.h rfl hx (by omega) ?_ ?_) rfl (by (repeat' (first | exact wkEnv_nil | refine wkEnv_cons rfl ?_ | exact wkSto_nil | refine wkSto_none ?_ | refine wkSto_some rfl ?_)); done) (by (repeat' (first | exact wkEnv_nil | refine wkEnv_cons rfl ?_ | exact wkSto_nil | refine wkSto_none ?_ | refine wkSto_some rfl ?_)); done) | (exfalso; omega)
          all_goals clear ih ihc
          all_goals first
            | (exfalso; omega)
            | (rw [hstep.h]; omega)
            | (rw [hstep.h]; exact hf')
            | trace_state
      refine Run.loop ?_
      repeat' (conv => arg 4; whnf); first | refine Run.ret ⟨?_, rfl⟩ | refine Run.condT ?_ | refine Run.condf ?_ | refine Run.condD (fun h => ?_) (fun h => ?_) | refine Run.condN (fun h => ?_) (fun h => ?_) | refine Run.condE (fun h => ?_) (fun h => ?_) | refine Run.condF (fun h => ?_) (fun h => ?_) | refine Run.condM (fun h => ?_) (fun h => ?_) | refine Run.condB (fun h => ?_) (fun h => ?_) | refine Run.check1 ?_ | refine Run.need1 (by simp only [allP, true_and, and_true]; omega) ?_ | refine Run.round ⟨[(.t 15 0, .t 15 0), (.t 9 0, .t 9 0)], [], []⟩ (inner i 0 _ _ _ _ rfl ?_ ?_ (by omega) ?_ ?_) rfl (by (repeat' (first | exact wkEnv_nil | refine wkEnv_cons rfl ?_ | exact wkSto_nil | refine wkSto_none ?_ | refine wkSto_some rfl ?_)); done) (by (repeat' (first | exact wkEnv_nil | refine wkEnv_cons rfl ?_ | exact wkSto_nil | refine wkSto_none ?_ | refine wkSto_some rfl ?_)); done) | (exfalso; omega)
      all_goals clear ih inner
      all_goals first
        | (exfalso; omega)
        | rfl
        | (rw [eM]; omega)
        | (rw [eM]; exact ⟨rfl⟩)
        | (simp only [List.length_take]; omega)
        | trace_state
  repeat' (conv => arg 4; whnf); first | refine Run.ret ⟨?_, rfl⟩ | refine Run.condT ?_ | refine Run.condf ?_ | refine Run.condD (fun h => ?_) (fun h => ?_) | refine Run.condN (fun h => ?_) (fun h => ?_) | refine Run.condE (fun h => ?_) (fun h => ?_) | refine Run.condF (fun h => ?_) (fun h => ?_) | refine Run.condM (fun h => ?_) (fun h => ?_) | refine Run.condB (fun h => ?_) (fun h => ?_) | refine Run.check1 ?_ | refine Run.need1 (by simp only [allP, true_and, and_true]; omega) ?_ | refine Run.round ⟨[(.t 15 0, .t 15 0)], [], []⟩ (outer l.length 0 _ _ rfl (by omega) ?_ rfl) rfl (by (repeat' (first | exact wkEnv_nil | refine wkEnv_cons rfl ?_ | exact wkSto_nil | refine wkSto_none ?_ | refine wkSto_some rfl ?_)); done) (by (repeat' (first | exact wkEnv_nil | refine wkEnv_cons rfl ?_ | exact wkSto_nil | refine wkSto_none ?_ | refine wkSto_some rfl ?_)); done)
  all_goals first
    | exact ⟨by simp, fun j hj => by simp [tk, List.getD_eq_getElem?_getD, hj]⟩
    | trace_state
theorem sordered_ok (l : List Mv) (o : List Int) (hm : AllOk l) (hl : l.length ≤ 1048576) (ho : IsOrd o) (hlen : o.length = l.length) : Ok P 130 [.one (.lst .mv l false), .one (.lst (.int .i64) o false)] [] (.tup [.one (.own (.k 0)), .one (.bool (ordM l o).2)]) [some (.row (.int .i64) (ordM l o).1)] := by
  refine Ok.of_run (F := mk Tryz.f130 0) Tryz.func130 rfl rfl tabOk mixed rfl rfl rfl rfl rfl (Nat.le_of_ble_eq_true rfl) (Nat.le_of_ble_eq_true rfl) (.go 5000 ?_)
  have outer : ∀ (d i : Nat) (z : Int) (ts : List Int), z = i → i + d = l.length → Ts l.length ts → ordFrom l o d i ts = ordM l o → Run P (mk Tryz.f130 0) (fun v s => v = .tup [.one (.own (.k 0)), .one (.bool (ordM l o).2)] ∧ s = [some (.row (.int .i64) (ordM l o).1)]) (.loop ⟨[(0, .one (.lst .mv l false)), (1, .one (.lst (.int .i64) o false)), (6, .one (.own (.t 14 0))), (7, .one (.int .i64 z))], [(.t 14 0, some (.row (.int .i64) ts))], [.lp [0, 1, 0, 1, 1], .blk 0, .code [1, 1, 1]], none⟩) := by
    intro d
    induction d with
    | zero =>
      intro i z ts hz hd hts he
      subst hz
      have h1 : (ordM l o).2 = true := by rw [← he]; rfl
      have h2 : (ordM l o).1 = ts := by rw [← he]; rfl
      refine Run.loop ?_
      repeat' (conv => arg 4; whnf); first | refine Run.ret ⟨?_, rfl⟩ | refine Run.condT ?_ | refine Run.condf ?_ | refine Run.condD (fun h => ?_) (fun h => ?_) | refine Run.condN (fun h => ?_) (fun h => ?_) | refine Run.condE (fun h => ?_) (fun h => ?_) | refine Run.condF (fun h => ?_) (fun h => ?_) | refine Run.condM (fun h => ?_) (fun h => ?_) | refine Run.condB (fun h => ?_) (fun h => ?_) | refine Run.check1 ?_ | (exfalso; omega) | (refine Run.ret ⟨?_, ?_⟩)
      all_goals first | (exfalso; omega) | (rw [h1]; done) | (rw [h2]; done) | trace_state
    | succ d ih =>
      intro i z ts hz hd hts he
      subst hz
      have hio : i < o.length := by omega
      have hp := (pl_lt ho hio).1
      have hmo := hm _ (show pl o i < l.length by omega)
      have hm3 : 0 ≤ (at' l (pl o i)).f3 ∧ (at' l (pl o i)).f3 ≤ 10000 := by
        have := (mvOk_range hmo).2.2.2.2
        omega
      have ei := rdO ho hio
      have eM : rdM l (rd o i) = at' l (pl o i) := by rw [ei, rdM_nat]
      have e3 : (rd o (i : Int)).toNat = pl o i := by rw [ei]; rfl
      have hlt := hts.1
      have e := fs (i := i) (by omega)
      have inner : ∀ (c q : Nat) (z t : Int), z = q → q + c = i → 0 ≤ t ∧ t ≤ 10004 → Fact (foldFrom (lStep l o ts (at' l (pl o i))) q c t = leastT l o ts i) →
          Run P (mk Tryz.f130 0) (fun v s => v = .tup [.one (.own (.k 0)), .one (.bool (ordM l o).2)] ∧ s = [some (.row (.int .i64) (ordM l o).1)]) (.loop ⟨[(0, .one (.lst .mv l false)), (1, .one (.lst (.int .i64) o false)), (6, .one (.own (.t 14 0))), (7, .one (.int .i64 (i : Int))), (8, .one (.ptr (.t 8 0) 0)), (9, .one (.int .i64 t)), (10, .one (.int .i64 z))], [(.t 14 0, some (.row (.int .i64) ts)), (.t 8 0, some (.cells (encMv (rdM l (rd o i)))))], [.lp [0, 1, 0, 1, 1, 0, 0, 1, 0, 0, 1, 0, 1, 1], .blk 2, .code [1, 1, 1, 0, 0, 1, 0, 0, 1, 0, 1, 1], .blk 1, .code [1, 1, 0, 0, 1, 0, 1, 1], .lp [0, 1, 0, 1, 1], .blk 0, .code [1, 1, 1]], none⟩) := by
        intro c
        induction c with
        | zero =>
          intro q z t hz hq ht hf
          subst hz
          obtain ⟨g1, g2⟩ := ordFrom_ts he rfl hmo hts (t := t) (by rw [← hf.h]; rfl) ht.1
          rw [eM]
          have et : tickOf (at' l (pl o i)) t = if 0 ≤ (at' l (pl o i)).f5 then (if (at' l (pl o i)).f5 < t then none else if (at' l (pl o i)).f4 < (at' l (pl o i)).f5 then none else some (at' l (pl o i)).f5) else if (at' l (pl o i)).f4 < t then none else some t := rfl
          have g0 : tickOf (at' l (pl o i)) t = none → ordM l o = ([], false) := fun h => Prod.ext (ordM_nil l o (g1 h)) (g1 h)
          refine Run.loop ?_
          repeat' (conv => arg 4; whnf); first | refine Run.ret ⟨?_, rfl⟩ | refine Run.condT ?_ | refine Run.condf ?_ | refine Run.condD (fun h => ?_) (fun h => ?_) | refine Run.condN (fun h => ?_) (fun h => ?_) | refine Run.condE (fun h => ?_) (fun h => ?_) | refine Run.condF (fun h => ?_) (fun h => ?_) | refine Run.condM (fun h => ?_) (fun h => ?_) | refine Run.condB (fun h => ?_) (fun h => ?_) | refine Run.check1 ?_ | (exfalso; omega) | refine Run.need1 (by simp only [allP, true_and, and_true]; omega) ?_ | (refine Run.ret ⟨?_, ?_⟩) | refine Run.round ⟨[(.t 14 0, .t 14 0)], [], []⟩ (ih (i + 1) _ _ e.h (by omega) ?_ ?_) rfl (by (repeat' (first | exact wkEnv_nil | refine wkEnv_cons rfl ?_ | exact wkSto_nil | refine wkSto_none ?_ | refine wkSto_some rfl ?_)); done) (by (repeat' (first | exact wkEnv_nil | refine wkEnv_cons rfl ?_ | exact wkSto_nil | refine wkSto_none ?_ | refine wkSto_some rfl ?_)); done)
          all_goals clear ih
          all_goals first
            | (exfalso; omega)
            | (rw [e3]; refine (g2 _ ?_).2; rw [et]; (repeat' split) <;> first | rfl | (exfalso; omega))
            | (rw [e3]; refine (g2 _ ?_).1; rw [et]; (repeat' split) <;> first | rfl | (exfalso; omega))
            | (rw [g0 (by rw [et]; (repeat' split) <;> first | rfl | (exfalso; omega))]; done)
            | (rw [g0 (by rw [et]; (repeat' split) <;> first | rfl | (exfalso; omega))]; rfl)
            | trace_state
        | succ c ihc =>
          intro q z t hz hq ht hf
          subst hz
          have hqo : q < o.length := by omega
          have hq1 := (pl_lt ho hqo).1
          have htq := hts.2 (pl o q) (by omega)
          have hrd : rd o (q : Int) = (pl o q : Int) := rdO ho hqo
          have e2 := fs (i := q) (by omega)
          have hg := gap_range (at' l (pl o q)) (at' l (pl o i))
          have hstep : Fact (wrap64 (rd ts (rd o q) + gap (rdM l (rd o q)) (rdM l (rd o i))) = tk ts (pl o q) + gap (at' l (pl o q)) (at' l (pl o i))) := ⟨by
            rw [hrd, eM, rd_nat, rdM_nat, wrap_eq (by omega) (by omega)]⟩
          have hinv := lStep_inv (l := l) (o := o) (q := q) (m := at' l (pl o i)) htq ht
          have hf' : Fact (foldFrom (lStep l o ts (at' l (pl o i))) (q + 1) c (lStep l o ts (at' l (pl o i)) q t) = leastT l o ts i) := ⟨hf.h⟩
          have hmax : Fact (lStep l o ts (at' l (pl o i)) q t = max t (tk ts (pl o q) + gap (at' l (pl o q)) (at' l (pl o i)))) := ⟨rfl⟩
          generalize lStep l o ts (at' l (pl o i)) q t = s at hinv hf' hmax
          generalize tk ts (pl o q) + gap (at' l (pl o q)) (at' l (pl o i)) = u at hstep hmax
          clear hg htq
          clear ei e3
          refine Run.loop ?_
          repeat' (conv => arg 4; whnf); first | refine Run.ret ⟨?_, rfl⟩ | refine Run.condT ?_ | refine Run.condf ?_ | refine Run.condD (fun h => ?_) (fun h => ?_) | refine Run.condN (fun h => ?_) (fun h => ?_) | refine Run.condE (fun h => ?_) (fun h => ?_) | refine Run.condF (fun h => ?_) (fun h => ?_) | refine Run.condM (fun h => ?_) (fun h => ?_) | refine Run.condB (fun h => ?_) (fun h => ?_) | refine Run.check1 ?_ | refine Run.call (sgap_ok _ _) rfl ?_ | refine Run.need1 (by simp only [allP, true_and, and_true]; omega) ?_ | refine Run.round ⟨[(.t 14 0, .t 14 0), (.t 8 0, .t 8 0)], [], []⟩ (ihc (q + 1) _ _ e2.h (by omega) ?_ ?_) rfl (by (repeat' (first | exact wkEnv_nil | refine wkEnv_cons rfl ?_ | exact wkSto_nil | refine wkSto_none ?_ | refine wkSto_some rfl ?_)); done) (by (repeat' (first | exact wkEnv_nil | refine wkEnv_cons rfl ?_ | exact wkSto_nil | refine wkSto_none ?_ | refine wkSto_some rfl ?_)); done) | (exfalso; omega)
          all_goals clear ih ihc
          all_goals (simp only [hstep.h] at *)
          all_goals first
            | (exfalso; omega)
            | (have hm := hmax.h; omega)
            | (have hm := hmax.h; rw [show t = s by omega]; exact hf')
            | (have hm := hmax.h; rw [show u = s by omega]; exact hf')
            | trace_state
      refine Run.loop ?_
      repeat' (conv => arg 4; whnf); first | refine Run.ret ⟨?_, rfl⟩ | refine Run.condT ?_ | refine Run.condf ?_ | refine Run.condD (fun h => ?_) (fun h => ?_) | refine Run.condN (fun h => ?_) (fun h => ?_) | refine Run.condE (fun h => ?_) (fun h => ?_) | refine Run.condF (fun h => ?_) (fun h => ?_) | refine Run.condM (fun h => ?_) (fun h => ?_) | refine Run.condB (fun h => ?_) (fun h => ?_) | refine Run.check1 ?_ | refine Run.need1 (by simp only [allP, true_and, and_true]; omega) ?_ | refine Run.round ⟨[(.t 14 0, .t 14 0), (.t 8 0, .t 8 0)], [], []⟩ (inner i 0 _ _ rfl (by omega) ?_ ?_) rfl (by (repeat' (first | exact wkEnv_nil | refine wkEnv_cons rfl ?_ | exact wkSto_nil | refine wkSto_none ?_ | refine wkSto_some rfl ?_)); done) (by (repeat' (first | exact wkEnv_nil | refine wkEnv_cons rfl ?_ | exact wkSto_nil | refine wkSto_none ?_ | refine wkSto_some rfl ?_)); done) | (exfalso; omega)
      all_goals clear ih inner
      all_goals first
        | (exfalso; omega)
        | (rw [eM]; omega)
        | (rw [eM]; exact ⟨rfl⟩)
        | trace_state
  repeat' (conv => arg 4; whnf); first | refine Run.ret ⟨?_, rfl⟩ | refine Run.condT ?_ | refine Run.condf ?_ | refine Run.condD (fun h => ?_) (fun h => ?_) | refine Run.condN (fun h => ?_) (fun h => ?_) | refine Run.condE (fun h => ?_) (fun h => ?_) | refine Run.condF (fun h => ?_) (fun h => ?_) | refine Run.condM (fun h => ?_) (fun h => ?_) | refine Run.condB (fun h => ?_) (fun h => ?_) | refine Run.check1 ?_ | refine Run.need1 (by simp only [allP, true_and, and_true]; omega) ?_ | refine Run.round ⟨[(.t 14 0, .t 14 0)], [], []⟩ (outer l.length 0 _ _ rfl (by omega) ?_ rfl) rfl (by (repeat' (first | exact wkEnv_nil | refine wkEnv_cons rfl ?_ | exact wkSto_nil | refine wkSto_none ?_ | refine wkSto_some rfl ?_)); done) (by (repeat' (first | exact wkEnv_nil | refine wkEnv_cons rfl ?_ | exact wkSto_nil | refine wkSto_none ?_ | refine wkSto_some rfl ?_)); done)
  all_goals first
    | exact ⟨by simp, fun j hj => by simp [tk, List.getD_eq_getElem?_getD, hj]⟩
    | trace_state
end Go.Proofs.YtmppoajepbbmiaaGreat.AM

/- Plain laws: ticks in an order fit, come in this order, and none can be earlier; ticks that fit give an order; no condition. -/
namespace Go.AM
set_option linter.unusedVariables false
set_option linter.unusedSimpArgs false
open Go.RowKit

theorem tk_set {ts : List Int} {p q : Nat} {u : Int} (hq : q < ts.length) : tk (ts.set p u) q = if p = q then u else tk ts q := by
  unfold tk
  rw [getD_set]
  by_cases e : p = q
  · rw [if_pos ⟨e, hq⟩, if_pos e]
  · rw [if_neg (fun h => e h.1), if_neg e]
theorem pl_inj {o : List Int} (h : IsOrd o) {i j : Nat} (hi : i < o.length) (hj : j < o.length) (e : pl o i = pl o j) : i = j := by
  refine ord_inj h hi hj ?_
  have h1 := (pl_lt h hi).2
  have h2 := (pl_lt h hj).2
  omega
theorem pl_onto {o : List Int} (h : IsOrd o) {v : Nat} (hv : v < o.length) : ∃ j, j < o.length ∧ pl o j = v := by
  obtain ⟨j, hj, e⟩ := ord_onto h v hv
  exact ⟨j, hj, by unfold pl; rw [e]; rfl⟩
/-- The least tick, said plainly. -/
def LeastP (l : List Mv) (o ts : List Int) (m : Mv) (i : Nat) (t : Int) : Prop :=
  m.f3 ≤ t ∧ (∀ q, q < i → tk ts (pl o q) + gap (at' l (pl o q)) m ≤ t) ∧ (t = m.f3 ∨ ∃ q, q < i ∧ t = tk ts (pl o q) + gap (at' l (pl o q)) m)
theorem least_spec (l : List Mv) (o ts : List Int) (m : Mv) (i : Nat) : LeastP l o ts m i (foldFrom (lStep l o ts m) 0 i m.f3) := by
  have := foldFrom_inv (step := lStep l o ts m) (LeastP l o ts m) (n := i) (fun q t hq h => by
    obtain ⟨h1, h2, h3⟩ := h
    unfold lStep
    refine ⟨by omega, fun q' hq' => ?_, ?_⟩
    · by_cases e : q' = q
      · subst e; omega
      · have := h2 q' (by omega); omega
    · rcases Int.le_total (tk ts (pl o q) + gap (at' l (pl o q)) m) t with hle | hle
      · rw [Int.max_eq_left hle]
        rcases h3 with h3 | ⟨q', hq', e⟩
        · exact .inl h3
        · exact .inr ⟨q', by omega, e⟩
      · rw [Int.max_eq_right hle]
        exact .inr ⟨q, by omega, rfl⟩) i 0 m.f3 (by omega) ⟨Int.le_refl _, fun q hq => by omega, .inl rfl⟩
  simpa using this
/-- What holds of the first i ticks. -/
structure OrdI (l : List Mv) (o : List Int) (i : Nat) (ts : List Int) : Prop where
  len : ts.length = l.length
  inr : ∀ j, j < i → InR l ts (pl o j)
  far : ∀ j k, j < k → k < i → tk ts (pl o j) + gap (at' l (pl o j)) (at' l (pl o k)) ≤ tk ts (pl o k)
  tight : ∀ k, k < i → (at' l (pl o k)).f5 < 0 → tk ts (pl o k) = (at' l (pl o k)).f3 ∨ ∃ j, j < k ∧ tk ts (pl o k) = tk ts (pl o j) + gap (at' l (pl o j)) (at' l (pl o k))
theorem tickOf_spec {m : Mv} {t u : Int} (h : tickOf m t = some u) (hm : m.f3 ≤ t) : t ≤ u ∧ m.f3 ≤ u ∧ u ≤ m.f4 ∧ (0 ≤ m.f5 → u = m.f5) ∧ (m.f5 < 0 → u = t) := by
  unfold tickOf at h
  (repeat' split at h) <;> simp at h <;> omega
theorem ordI_step {l : List Mv} {o : List Int} (ho : IsOrd o) (hlen : o.length = l.length) {i : Nat} (hi : i < l.length) {ts : List Int} (h : OrdI l o i ts) {u : Int} (hu : tickOf (at' l (pl o i)) (leastT l o ts i) = some u) : OrdI l o (i + 1) (ts.set (pl o i) u) := by
  obtain ⟨l1, l2, l3⟩ := least_spec l o ts (at' l (pl o i)) i
  obtain ⟨u1, u2, u3, u4, u5⟩ := tickOf_spec hu l1
  have hp : ∀ j, j < l.length → pl o j < ts.length := fun j hj => by have := (pl_lt ho (show j < o.length by omega)).1; have := h.len; omega
  have old : ∀ j, j < i → tk (ts.set (pl o i) u) (pl o j) = tk ts (pl o j) := fun j hj => by
    rw [tk_set (hp j (by omega)), if_neg]
    intro e
    have := pl_inj ho (by omega) (by omega) e
    omega
  have new : tk (ts.set (pl o i) u) (pl o i) = u := by rw [tk_set (hp i hi), if_pos rfl]
  refine ⟨by rw [List.length_set]; exact h.len, fun j hj => ?_, fun j k hjk hk => ?_, fun k hk hf => ?_⟩
  · by_cases e : j = i
    · subst e
      unfold InR
      rw [new]
      exact ⟨⟨u2, u3⟩, u4⟩
    · unfold InR
      rw [old j (by omega)]
      exact h.inr j (by omega)
  · by_cases e : k = i
    · subst e
      rw [new, old j hjk]
      have := l2 j hjk
      unfold leastT at u1
      omega
    · rw [old k (by omega), old j (by omega)]
      exact h.far j k hjk (by omega)
  · by_cases e : k = i
    · subst e
      rw [new]
      rcases l3 with l3 | ⟨q, hq, e⟩
      · exact .inl ((u5 hf).trans l3)
      · exact .inr ⟨q, hq, by rw [old q hq]; exact (u5 hf).trans e⟩
    · rw [old k (by omega)]
      rcases h.tight k (by omega) hf with t | ⟨q, hq, e⟩
      · exact .inl t
      · exact .inr ⟨q, hq, by rw [old q (by omega)]; exact e⟩
theorem ordFrom_I {l : List Mv} {o : List Int} (ho : IsOrd o) (hlen : o.length = l.length) : ∀ (d i : Nat) (ts : List Int), i + d = l.length → OrdI l o i ts → (ordFrom l o d i ts).2 = true → OrdI l o l.length (ordFrom l o d i ts).1 := by
  intro d
  induction d with
  | zero => intro i ts hi h _; rw [show l.length = i by omega]; exact h
  | succ d ih =>
    intro i ts hi h hok
    unfold ordFrom at hok ⊢
    cases hu : tickOf (at' l (pl o i)) (leastT l o ts i) with
    | none => rw [hu] at hok; cases hok
    | some u =>
      rw [hu] at hok
      exact ih (i + 1) _ (by omega) (ordI_step ho hlen (by omega) h hu) hok
theorem ordM_I {l : List Mv} {o : List Int} (ho : IsOrd o) (hlen : o.length = l.length) (h : (ordM l o).2 = true) : OrdI l o l.length (ordM l o).1 :=
  ordFrom_I ho hlen l.length 0 _ (by omega) ⟨by simp, fun j hj => absurd hj (by omega), fun j k _ hk => absurd hk (by omega), fun k hk => absurd hk (by omega)⟩ h
theorem ordM_fits {l : List Mv} {o : List Int} (hm : MovesOk l) (ho : IsOrd o) (hlen : o.length = l.length) (h : (ordM l o).2 = true) : Fits l (ordM l o).1 := by
  have I := ordM_I ho hlen h
  refine ⟨hm, I.len, fun i hi => ?_⟩
  obtain ⟨a, ha, rfl⟩ := pl_onto ho (show i < o.length by omega)
  refine ⟨I.inr a (by omega), fun k hk hne => ?_⟩
  obtain ⟨b, hb, rfl⟩ := pl_onto ho (show k < o.length by omega)
  have g1 := gap_range (at' l (pl o a)) (at' l (pl o b))
  have g2 := gap_range (at' l (pl o b)) (at' l (pl o a))
  rcases Nat.lt_trichotomy a b with h | h | h
  · have := I.far a b h (by omega)
    exact ⟨by omega, fun _ => by omega⟩
  · exact absurd (by rw [h]) hne
  · have := I.far b a h (by omega)
    exact ⟨by omega, fun _ => by omega⟩
theorem ordM_asc {l : List Mv} {o : List Int} (ho : IsOrd o) (hlen : o.length = l.length) (h : (ordM l o).2 = true) {i : Nat} (hi : 0 < i) (hi2 : i < l.length) : tk (ordM l o).1 (pl o (i - 1)) < tk (ordM l o).1 (pl o i) := by
  have := (ordM_I ho hlen h).far (i - 1) i (by omega) hi2
  have := gap_range (at' l (pl o (i - 1))) (at' l (pl o i))
  omega
theorem ordM_tight {l : List Mv} {o : List Int} (ho : IsOrd o) (hlen : o.length = l.length) (h : (ordM l o).2 = true) {i : Nat} (hi : i < l.length) : ¬ Fits l ((ordM l o).1.set (pl o i) (tk (ordM l o).1 (pl o i) - 1)) := by
  intro hf
  have I := ordM_I ho hlen h
  have hp := (pl_lt ho (show i < o.length by omega)).1
  have new : tk ((ordM l o).1.set (pl o i) (tk (ordM l o).1 (pl o i) - 1)) (pl o i) = tk (ordM l o).1 (pl o i) - 1 := by rw [tk_set (by have := I.len; omega), if_pos rfl]
  have hin := (hf.2.2 (pl o i) (by omega)).1
  have hap := (hf.2.2 (pl o i) (by omega)).2
  unfold InR at hin
  rw [new] at hin
  have hin2 := I.inr i hi
  unfold InR at hin2
  by_cases hf5 : 0 ≤ (at' l (pl o i)).f5
  · have := hin.2 hf5
    have := hin2.2 hf5
    omega
  · rcases I.tight i hi (by omega) with t | ⟨j, hj, e⟩
    · omega
    · have hpj := (pl_lt ho (show j < o.length by omega)).1
      have hne : pl o j ≠ pl o i := fun e => by have := pl_inj ho (by omega) (by omega) e; omega
      have old : tk ((ordM l o).1.set (pl o i) (tk (ordM l o).1 (pl o i) - 1)) (pl o j) = tk (ordM l o).1 (pl o j) := by rw [tk_set (by have := I.len; omega), if_neg (fun e => hne e.symm)]
      have h1 := (hf.2.2 (pl o j) (by omega)).2 (pl o i) (by omega) (fun e => hne e.symm)
      unfold Ap at h1
      rw [new, old] at h1
      have := gap_range (at' l (pl o j)) (at' l (pl o i))
      omega
/-! ### Ticks that fit give an order -/
theorem ltT_srt {α : Type} (f : α → Int) : Srt fun a b => decide (f a < f b) := by
  constructor
  · intro a b h; simp only [decide_eq_true_eq, decide_eq_false_iff_not] at *; omega
  · intro a b c h k; simp only [decide_eq_false_iff_not] at *; omega
def byTick (t : List Int) (a b : Int) : Bool := decide (tk t a.toNat < tk t b.toNat)
/-- The order in which ticks come. -/
def ordT (t : List Int) (n : Nat) : List Int := isort (byTick t) 0 (upTo n) n
theorem ordT_ord (t : List Int) (n : Nat) : IsOrd (ordT t n) ∧ (ordT t n).length = n := by
  have := isort_perm (lt := byTick t) (d := 0) (xs := upTo n) (n := n) (by rw [upTo_len]; exact Nat.le_refl _)
  rw [List.take_of_length_le (by rw [upTo_len]; exact Nat.le_refl _)] at this
  exact ⟨isOrd_perm this (isOrd_upTo n), isort_len⟩
theorem fits_ordM {l : List Mv} {t : List Int} (hf : Fits l t) : (ordM l (ordT t l.length)).2 = true := by
  obtain ⟨ho, hlen⟩ := ordT_ord t l.length
  have hs := isort_sorted (ltT_srt fun a : Int => tk t a.toNat) (d := 0) (xs := upTo l.length) (n := l.length)
  have asc : ∀ j k, j < k → k < l.length → tk t (pl (ordT t l.length) j) ≤ tk t (pl (ordT t l.length) k) := by
    intro j k hjk hk
    have := sorted_get hs 0 hjk (by rw [isort_len]; exact hk)
    simp only [decide_eq_false_iff_not] at this
    show tk t ((isort (byTick t) 0 (upTo l.length) l.length).getD j 0).toNat ≤ tk t ((isort (byTick t) 0 (upTo l.length) l.length).getD k 0).toNat
    have e : isort (byTick t) 0 (upTo l.length) l.length = isort (fun a b : Int => decide (tk t a.toNat < tk t b.toNat)) 0 (upTo l.length) l.length := rfl
    rw [e]
    omega
  generalize ordT t l.length = o at *
  have key : ∀ (d i : Nat) (ts : List Int), i + d = l.length → ts.length = l.length → (∀ j, j < i → tk ts (pl o j) ≤ tk t (pl o j)) → (ordFrom l o d i ts).2 = true := by
    intro d
    induction d with
    | zero => intro i ts _ _ _; rfl
    | succ d ih =>
      intro i ts hi hl hle
      have hp := (pl_lt ho (show i < o.length by omega)).1
      have hfi := hf.2.2 (pl o i) (by omega)
      have hin := hfi.1
      unfold InR at hin
      obtain ⟨l1, l2, l3⟩ := least_spec l o ts (at' l (pl o i)) i
      have hleast : leastT l o ts i ≤ tk t (pl o i) := by
        unfold leastT
        rcases l3 with e | ⟨q, hq, e⟩
        · rw [e]; exact hin.1.1
        · rw [e]
          have hpq := (pl_lt ho (show q < o.length by omega)).1
          have hne : pl o i ≠ pl o q := fun e => by have := pl_inj ho (by omega) (by omega) e; omega
          have hap := (hf.2.2 (pl o q) (by omega)).2 (pl o i) (by omega) hne
          unfold Ap at hap
          have h1 := asc q i hq (by omega)
          have h2 := hle q hq
          omega
      have hmo := (mvOk_range (hf.1.2 (pl o i) (by omega)).1)
      have hu : ∃ u, tickOf (at' l (pl o i)) (leastT l o ts i) = some u ∧ u ≤ tk t (pl o i) := by
        unfold tickOf
        by_cases h5 : (at' l (pl o i)).f5 ≥ 0
        · have := hin.2 h5
          rw [if_pos h5, if_neg (by omega), if_neg (by omega)]
          exact ⟨_, rfl, by omega⟩
        · rw [if_neg h5, if_neg (by omega)]
          exact ⟨_, rfl, hleast⟩
      obtain ⟨u, e, hle2⟩ := hu
      unfold ordFrom
      rw [e]
      refine ih (i + 1) _ (by omega) (by rw [List.length_set]; exact hl) fun j hj => ?_
      have hpj := (pl_lt ho (show j < o.length by omega)).1
      rw [tk_set (by omega)]
      split
      · rename_i e2
        rw [← e2]; exact hle2
      · rename_i e2
        by_cases ej : j = i
        · exact absurd (by rw [ej]) e2
        · exact hle j (by omega)
  exact key l.length 0 _ (by omega) (by simp) (fun j hj => absurd hj (by omega))
theorem fits_w64 {l : List Mv} {t : List Int} (hf : Fits l t) : W64L t := fun z hz => by
  obtain ⟨j, hj, rfl⟩ := List.getElem_of_mem hz
  have hl := hf.2.1
  have := inR_range hf.1 (show j < l.length by omega) (hf.2.2 j (by omega)).1
  unfold tk at this
  rw [List.getD_eq_getElem?_getD, List.getElem?_eq_getElem hj, Option.getD_some] at this
  exact ⟨by omega, by omega⟩
theorem ordF_fits {l : List Mv} {o : List Int} (h : (ordF l o).2 = true) : Fits l (ordF l o).1 := by
  unfold ordF at h ⊢
  split
  · rename_i hc
    rw [if_pos hc] at h
    exact ordM_fits hc.1 hc.2.2 hc.2.1 h
  · rename_i hc
    rw [if_neg hc] at h
    cases h
theorem ordF_w64 (l : List Mv) (o : List Int) : W64L (ordF l o).1 := by
  cases h : (ordF l o).2 with
  | true => exact fits_w64 (ordF_fits h)
  | false => rw [ordF_nil l o h]; exact w64l_nil
theorem tkWf_l {t : List Int} (h : W64L t) : TkWf t := tkWf_of h
theorem gap_tri {a b c : Mv} (ha : mvOk a = true) (hb : mvOk b = true) (hc : mvOk c = true) : gap a c ≤ gap a b + gap b c := by
  obtain ⟨_, _, a1, a2, _⟩ := mvOk_range ha
  obtain ⟨_, _, b1, b2, _⟩ := mvOk_range hb
  obtain ⟨_, _, c1, c2, _⟩ := mvOk_range hc
  unfold gap
  (repeat' split) <;> omega
end Go.AM

/- Plain facts behind the best: comparing ticks, all orders in a row; no condition. -/
namespace Go.AM
set_option linter.unusedVariables false
set_option linter.unusedSimpArgs false
open Go.RowKit

def cmpFrom (a b : List Int) : Nat → Nat → Int
  | _, 0 => 0
  | i, d + 1 => if tk a i = tk b i then cmpFrom a b (i + 1) d else if tk a i < tk b i then -1 else 1
def cmpM (a b : List Int) : Int := cmpFrom a b 0 a.length
theorem cmpFrom_lt (a b : List Int) : ∀ d i, cmpFrom a b i d < 0 ↔ lexFrom a b i d = true := by
  intro d
  induction d with
  | zero => intro i; simp [cmpFrom, lexFrom]
  | succ d ih =>
    intro i
    unfold cmpFrom lexFrom
    split
    · exact ih _
    · split <;> simp [*]
theorem cmpM_lt (a b : List Int) : cmpM a b < 0 ↔ lexB a b = true := cmpFrom_lt a b _ _
theorem pos_mem (b : List Int) (v : Int) : 0 ≤ pos b v ↔ v ∈ b := by
  rcases pos_range b v with ⟨h1, h2⟩ | ⟨j, h1, h2, h3⟩
  · rw [h1]
    refine ⟨fun h => by omega, fun h => ?_⟩
    obtain ⟨j, hj, rfl⟩ := List.getElem_of_mem h
    exact absurd (by simp [List.getD_eq_getElem?_getD, List.getElem?_eq_getElem hj]) (h2 j hj)
  · refine ⟨fun _ => ?_, fun _ => by omega⟩
    rw [← h3, List.getD_eq_getElem?_getD, List.getElem?_eq_getElem h2]
    exact List.getElem_mem h2
/-- The best so far, as the program holds it. -/
def sumO (l : List Mv) : Option (List Int) → Int
  | none => 0
  | some t => (costM l t).1
def mostO (l : List Mv) : Option (List Int) → Int
  | none => 0
  | some t => (costM l t).2
def tksO : Option (List Int) → List Int
  | none => []
  | some t => t
def BestOk (l : List Mv) (s : Option (List Int)) : Prop := ∀ t, s = some t → Fits l t
theorem bestStep_ok {l : List Mv} {first : List Int} {sh : Int} {s : Option (List Int)} {o : List Int} (hm : MovesOk l) (ho : IsOrd o) (hlen : o.length = l.length) (h : BestOk l s) : BestOk l (bestStep l first sh s o) := by
  intro t ht
  unfold bestStep at ht
  split at ht
  · exact h t ht
  · split at ht
    · rename_i hok
      cases s with
      | none =>
        simp only [Option.some.injEq] at ht
        subst ht
        exact ordM_fits hm ho hlen hok
      | some b =>
        simp only at ht
        split at ht
        · simp only [Option.some.injEq] at ht
          subst ht
          exact ordM_fits hm ho hlen hok
        · exact h t ht
    · exact h t ht
theorem foldl_ok {l : List Mv} {first : List Int} {sh : Int} (hm : MovesOk l) : ∀ {os : List (List Int)} {s : Option (List Int)}, (∀ o ∈ os, o.length = l.length ∧ IsOrd o) → BestOk l s → BestOk l (os.foldl (bestStep l first sh) s)
  | [], s, _, h => h
  | o :: os, s, ho, h => foldl_ok (os := os) hm (fun x hx => ho x (List.mem_cons_of_mem _ hx)) (bestStep_ok hm (ho o List.mem_cons_self).2 (ho o List.mem_cons_self).1 h)
theorem best_ok1 {l : List Mv} (hm : MovesOk l) (sh : Int) : BestOk l (bestO l sh) := foldl_ok hm (fun o ho => allM_ord ho) (fun t h => by cases h)
def betO (l : List Mv) (t : List Int) : Option (List Int) → Bool
  | none => true
  | some b => better l t b
/-- Whether an order changes the best. -/
def chg (l : List Mv) (first : List Int) (sh : Int) (s : Option (List Int)) (o : List Int) : Bool :=
  if sh < shiftM first o then false else if (ordM l o).2 = true then betO l (ordM l o).1 s else false
theorem bestStep_chg (l : List Mv) (first : List Int) (sh : Int) (s : Option (List Int)) (o : List Int) : bestStep l first sh s o = if chg l first sh s o = true then some (ordM l o).1 else s := by
  unfold bestStep chg
  split
  · simp
  · split
    · cases s with
      | none => simp [betO]
      | some b => rfl
    · simp
def chgL (l : List Mv) (first : List Int) (sh : Int) : List (List Int) → Option (List Int) → Bool
  | [], _ => false
  | o :: os, s => chg l first sh s o || chgL l first sh os (bestStep l first sh s o)
theorem chgL_no {l : List Mv} {first : List Int} {sh : Int} : ∀ {os : List (List Int)} {s : Option (List Int)}, chgL l first sh os s = false → os.foldl (bestStep l first sh) s = s
  | [], s, _ => rfl
  | o :: os, s, h => by
    simp only [chgL, Bool.or_eq_false_iff] at h
    have e : bestStep l first sh s o = s := by rw [bestStep_chg, h.1]; rfl
    rw [e] at h
    rw [List.foldl_cons, e]
    exact chgL_no h.2
theorem chgL_app {l : List Mv} {first : List Int} {sh : Int} : ∀ {os os' : List (List Int)} {s : Option (List Int)}, chgL l first sh (os ++ os') s = (chgL l first sh os s || chgL l first sh os' (os.foldl (bestStep l first sh) s))
  | [], os', s => by simp [chgL]
  | o :: os, os', s => by
    simp only [List.cons_append, chgL, List.foldl_cons]
    rw [chgL_app, Bool.or_assoc]
/-- The orders that go on at i. -/
def extAt (n d : Nat) (ahead : List Int) (i : Nat) : List (List Int) := if ((i : Int) ∈ ahead) then [] else ext n d (ahead ++ [(i : Int)])
def extUp (n d : Nat) (ahead : List Int) (i : Nat) : List (List Int) := (List.range i).flatMap (extAt n d ahead)
theorem ext_eq (n d : Nat) (ahead : List Int) : ext n (d + 1) ahead = extUp n d ahead n := rfl
theorem extUp_succ (n d : Nat) (ahead : List Int) (i : Nat) : extUp n d ahead (i + 1) = extUp n d ahead i ++ extAt n d ahead i := by
  unfold extUp
  rw [List.range_succ, List.flatMap_append]
  simp
theorem extAt_sub {n d : Nat} {ahead : List Int} {i : Nat} (hi : i < n) {o : List Int} (h : o ∈ extAt n d ahead i) : o ∈ ext n (d + 1) ahead := by
  rw [ext_eq]
  exact List.mem_flatMap.2 ⟨i, List.mem_range.2 hi, h⟩
end Go.AM

/- StripBest of the program; condition: a move list. -/
namespace Go.Proofs.YtmppoajepbbmiaaGreat.AM
open Go.AM Go.RowKit
set_option linter.unusedVariables false
set_option linter.unusedSimpArgs false
set_option maxRecDepth 100000

theorem isNaN_ok (a : Int) : Ok P 152 [.one (.int .i64 a)] [] (.one (.bool false)) [] := by
  refine Ok.of_run (F := mk Tryz.f152 0) Tryz.func152 rfl rfl tabOk mixed rfl rfl rfl rfl rfl (Nat.le_of_ble_eq_true rfl) (Nat.le_of_ble_eq_true rfl) (.go 5000 ?_)
  repeat' (conv => arg 4; whnf); first | refine Run.ret ⟨?_, rfl⟩ | refine Run.condT ?_ | refine Run.condf ?_ | refine Run.condD (fun h => ?_) (fun h => ?_) | refine Run.condN (fun h => ?_) (fun h => ?_) | refine Run.condE (fun h => ?_) (fun h => ?_) | refine Run.condF (fun h => ?_) (fun h => ?_) | refine Run.condM (fun h => ?_) (fun h => ?_) | refine Run.condB (fun h => ?_) (fun h => ?_) | refine Run.check1 ?_
  all_goals (refine vb ?_; simp)
theorem cmpI_ok (a b : Int) : Ok P 145 [.one (.int .i64 a), .one (.int .i64 b)] [] (.one (.int .i64 (if a = b then 0 else if a < b then -1 else 1))) [] := by
  refine Ok.of_run (F := mk Tryz.f145 0) Tryz.func145 rfl rfl tabOk mixed rfl rfl rfl rfl rfl (Nat.le_of_ble_eq_true rfl) (Nat.le_of_ble_eq_true rfl) (.go 5000 ?_)
  repeat' (conv => arg 4; whnf); first | refine Run.ret ⟨?_, rfl⟩ | refine Run.condT ?_ | refine Run.condf ?_ | refine Run.condD (fun h => ?_) (fun h => ?_) | refine Run.condN (fun h => ?_) (fun h => ?_) | refine Run.condE (fun h => ?_) (fun h => ?_) | refine Run.condF (fun h => ?_) (fun h => ?_) | refine Run.condM (fun h => ?_) (fun h => ?_) | refine Run.condB (fun h => ?_) (fun h => ?_) | refine Run.check1 ?_ | refine Run.call (isNaN_ok _) rfl ?_
  all_goals (refine vi ?_; (repeat' split) <;> omega)
theorem compare_ok (a b : List Int) (ha : a.length ≤ 1048576) (hab : a.length = b.length) : Ok P 124 [.one (.lst (.int .i64) a false), .one (.lst (.int .i64) b false)] [] (.one (.int .i64 (cmpM a b))) [] := by
  refine Ok.of_run (F := mk Tryz.f124 0) Tryz.func124 rfl rfl tabOk mixed rfl rfl rfl rfl rfl (Nat.le_of_ble_eq_true rfl) (Nat.le_of_ble_eq_true rfl) (.go 5000 ?_)
  have loop : ∀ (d i : Nat) (z : Int), z = i → i + d = a.length → Fact (cmpFrom a b i d = cmpM a b) → Run P (mk Tryz.f124 0) (fun v st => v = .one (.int .i64 (cmpM a b)) ∧ st = []) (.loop ⟨[(0, .one (.lst (.int .i64) a false)), (1, .one (.lst (.int .i64) b false)), (9, .one (.lst (.int .i64) a false)), (10, .one (.int .i64 (a.length : Int))), (11, .one (.int .i64 z))], [], [.lp [0, 1, 0, 1], .blk 0, .code [1, 1]], none⟩) := by
    intro d
    induction d with
    | zero =>
      intro i z hz hd he
      subst hz
      refine Run.loop ?_
      repeat' (conv => arg 4; whnf); first | refine Run.ret ⟨?_, rfl⟩ | refine Run.condT ?_ | refine Run.condf ?_ | refine Run.condD (fun h => ?_) (fun h => ?_) | refine Run.condN (fun h => ?_) (fun h => ?_) | refine Run.condE (fun h => ?_) (fun h => ?_) | refine Run.condF (fun h => ?_) (fun h => ?_) | refine Run.condM (fun h => ?_) (fun h => ?_) | refine Run.condB (fun h => ?_) (fun h => ?_) | refine Run.check1 ?_ | (exfalso; omega)
      all_goals first | (rw [← he.h]; rfl) | (exfalso; omega)
    | succ d ih =>
      intro i z hz hd he
      subst hz
      have e := fs (i := i) (by omega)
      have hc := he.h
      unfold cmpFrom at hc
      rw [← rd_nat, ← rd_nat] at hc
      replace hc : Fact _ := ⟨hc⟩
      refine Run.loop ?_
      repeat' (conv => arg 4; whnf); first | refine Run.ret ⟨?_, rfl⟩ | refine Run.condT ?_ | refine Run.condf ?_ | refine Run.condD (fun h => ?_) (fun h => ?_) | refine Run.condN (fun h => ?_) (fun h => ?_) | refine Run.condE (fun h => ?_) (fun h => ?_) | refine Run.condF (fun h => ?_) (fun h => ?_) | refine Run.condM (fun h => ?_) (fun h => ?_) | refine Run.condB (fun h => ?_) (fun h => ?_) | refine Run.check1 ?_ | (exfalso; omega) | refine Run.need1 (by simp only [allP, true_and, and_true]; omega) ?_ | refine Run.call (cmpI_ok _ _) rfl ?_ | refine Run.round ⟨[], [], []⟩ (ih (i + 1) _ e.h (by omega) ?_) rfl (by (repeat' (first | exact wkEnv_nil | refine wkEnv_cons rfl ?_ | exact wkSto_nil | refine wkSto_none ?_ | refine wkSto_some rfl ?_)); done) (by (repeat' (first | exact wkEnv_nil | refine wkEnv_cons rfl ?_ | exact wkSto_nil | refine wkSto_none ?_ | refine wkSto_some rfl ?_)); done)
      all_goals clear ih
      all_goals first
        | (exfalso; omega)
        | (have hne : ¬ rd a (i : Int) = rd b (i : Int) := fun q => absurd (if_pos q) ‹_›
           rw [← hc.h, if_neg hne, if_neg hne])
        | (have hq : rd a (i : Int) = rd b (i : Int) := Classical.byContradiction fun q => by
             have h0 : (if rd a (i : Int) = rd b (i : Int) then 0 else if rd a (i : Int) < rd b (i : Int) then -1 else 1) = (0 : Int) := by assumption
             rw [if_neg q] at h0
             split at h0 <;> omega
           have hc := hc.h
           rw [if_pos hq] at hc
           exact ⟨hc⟩)
        | trace_state
  repeat' (conv => arg 4; whnf); first | refine Run.ret ⟨?_, rfl⟩ | refine Run.condT ?_ | refine Run.condf ?_ | refine Run.condD (fun h => ?_) (fun h => ?_) | refine Run.condN (fun h => ?_) (fun h => ?_) | refine Run.condE (fun h => ?_) (fun h => ?_) | refine Run.condF (fun h => ?_) (fun h => ?_) | refine Run.condM (fun h => ?_) (fun h => ?_) | refine Run.condB (fun h => ?_) (fun h => ?_) | refine Run.check1 ?_ | refine Run.round ⟨[], [], []⟩ (loop a.length 0 _ rfl (by omega) ⟨rfl⟩) rfl (by (repeat' (first | exact wkEnv_nil | refine wkEnv_cons rfl ?_ | exact wkSto_nil | refine wkSto_none ?_ | refine wkSto_some rfl ?_)); done) (by (repeat' (first | exact wkEnv_nil | refine wkEnv_cons rfl ?_ | exact wkSto_nil | refine wkSto_none ?_ | refine wkSto_some rfl ?_)); done)
  all_goals first | (exfalso; omega) | trace_state
theorem contains_ok (b : List Int) (v : Int) (hb : b.length ≤ 1048576) : Ok P 142 [.one (.lst (.int .i64) b false), .one (.int .i64 v)] [] (.one (.bool (decide (v ∈ b)))) [] := by
  refine Ok.of_run (F := mk Tryz.f142 0) Tryz.func142 rfl rfl tabOk mixed rfl rfl rfl rfl rfl (Nat.le_of_ble_eq_true rfl) (Nat.le_of_ble_eq_true rfl) (.go 5000 ?_)
  repeat' (conv => arg 4; whnf); first | refine Run.ret ⟨?_, rfl⟩ | refine Run.condT ?_ | refine Run.condf ?_ | refine Run.condD (fun h => ?_) (fun h => ?_) | refine Run.condN (fun h => ?_) (fun h => ?_) | refine Run.condE (fun h => ?_) (fun h => ?_) | refine Run.condF (fun h => ?_) (fun h => ?_) | refine Run.condM (fun h => ?_) (fun h => ?_) | refine Run.condB (fun h => ?_) (fun h => ?_) | refine Run.check1 ?_ | refine Run.call (index_ok _ _ hb) rfl ?_
  all_goals (refine vb ?_; simp only [decide_eq_true_eq]; exact pos_mem b v)
/-- What the best's closure holds: the best with its ticks in a row of their own. -/
noncomputable def stO (l : List Mv) (first : List Int) (sh : Int) (s : Option (List Int)) : List (Option C) :=
  [some (.cells [.lst (.int .i64) first false]), some (.cells [.int .i64 sh]), some (.cells [.lst .mv l false]), some (.cells [.bool s.isSome]), some (.cells [.int .i64 (sumO l s)]), some (.cells [.int .i64 (mostO l s)]), some (.cells [.own (.k 7)]), some (.row (.int .i64) (tksO s))]
noncomputable def stC (l : List Mv) (first : List Int) (sh : Int) (s0 s : Option (List Int)) : List (Option C) :=
  [some (.cells [.lst (.int .i64) first false]), some (.cells [.int .i64 sh]), some (.cells [.lst .mv l false]), some (.cells [.bool s.isSome]), some (.cells [.int .i64 (sumO l s)]), some (.cells [.int .i64 (mostO l s)]), some (.cells [.own (.k 8)]), some (.row (.int .i64) (tksO s0)), some (.row (.int .i64) (tksO s))]
noncomputable def stB (l : List Mv) (first : List Int) (sh : Int) (s0 s : Option (List Int)) (c : Bool) : List (Option C) := if c = true then stC l first sh s0 s else stO l first sh s0
theorem stB_len {l : List Mv} {first : List Int} {sh : Int} {s0 s : Option (List Int)} {c : Bool} : 8 ≤ (stB l first sh s0 s c).length := by
  cases c <;> exact Nat.le_of_ble_eq_true rfl
theorem tell_ok (l : List Mv) (first : List Int) (sh : Int) (s : Option (List Int)) (o : List Int) (hm : MovesOk l) (hf : IsOrd first) (hfl : first.length = l.length) (ho : IsOrd o) (hol : o.length = l.length) (hs : BestOk l s) :
    Ok P 121 [.one (.lst (.int .i64) o false), .one (.ptr (.k 0) 0), .one (.ptr (.k 1) 0), .one (.ptr (.k 2) 0), .one (.ptr (.k 3) 0), .one (.ptr (.k 4) 0), .one (.ptr (.k 5) 0), .one (.ptr (.k 6) 0)] (stO l first sh s) (.tup []) (stB l first sh s (bestStep l first sh s o) (chg l first sh s o)) := by
  have h6 := hm.1
  have hshift := shift_ok first o (by omega) (by omega)
  by_cases h1 : sh < shiftM first o
  · rw [show chg l first sh s o = false from if_pos h1]
    refine Ok.of_run (F := mk Tryz.f121 8) Tryz.func121 rfl rfl tabOk mixed rfl rfl rfl rfl rfl (Nat.le_of_ble_eq_true rfl) (Nat.le_of_ble_eq_true rfl) (.go 5000 ?_)
    repeat' (conv => arg 4; whnf); first | refine Run.ret ⟨?_, rfl⟩ | refine Run.condT ?_ | refine Run.condf ?_ | refine Run.condD (fun h => ?_) (fun h => ?_) | refine Run.condN (fun h => ?_) (fun h => ?_) | refine Run.condE (fun h => ?_) (fun h => ?_) | refine Run.condF (fun h => ?_) (fun h => ?_) | refine Run.condM (fun h => ?_) (fun h => ?_) | refine Run.condB (fun h => ?_) (fun h => ?_) | refine Run.check1 ?_ | refine Run.call (hshift) rfl ?_ | (exfalso; omega)
    all_goals first | rfl | trace_state
  · have hord := ordered_ok l o (movesOk_all hm) (by omega) ho hol
    cases hok : (ordM l o).2 with
    | false =>
      rw [hok] at hord
      rw [show chg l first sh s o = false by unfold chg; rw [if_neg h1, hok]; rfl]
      refine Ok.of_run (F := mk Tryz.f121 8) Tryz.func121 rfl rfl tabOk mixed rfl rfl rfl rfl rfl (Nat.le_of_ble_eq_true rfl) (Nat.le_of_ble_eq_true rfl) (.go 5000 ?_)
      repeat' (conv => arg 4; whnf); first | refine Run.ret ⟨?_, rfl⟩ | refine Run.condT ?_ | refine Run.condf ?_ | refine Run.condD (fun h => ?_) (fun h => ?_) | refine Run.condN (fun h => ?_) (fun h => ?_) | refine Run.condE (fun h => ?_) (fun h => ?_) | refine Run.condF (fun h => ?_) (fun h => ?_) | refine Run.condM (fun h => ?_) (fun h => ?_) | refine Run.condB (fun h => ?_) (fun h => ?_) | refine Run.check1 ?_ | refine Run.call (hshift) rfl ?_ | refine Run.call (hord) rfl ?_ | (exfalso; omega)
      all_goals first | rfl | trace_state
    | true =>
      have hfit := ordM_fits hm ho hol hok
      rw [hok] at hord
      have hstep : bestStep l first sh s o = if chg l first sh s o = true then some (ordM l o).1 else s := bestStep_chg l first sh s o
      have hchg : chg l first sh s o = betO l (ordM l o).1 s := by unfold chg; rw [if_neg h1, if_pos hok]
      rw [hstep, hchg]
      clear hstep hchg
      generalize (ordM l o).1 = ts at *
      have hdl := fits_dl hfit
      obtain ⟨htl, -, hdl⟩ := hdl
      have hcb := costM_inv (fits_dl hfit)
      refine Ok.of_run (F := mk Tryz.f121 8) Tryz.func121 rfl rfl tabOk mixed rfl rfl rfl rfl rfl (Nat.le_of_ble_eq_true rfl) (stB_len) (.go 5000 ?_)
      have loop : ∀ (d i : Nat) (z u v : Int), z = i → i + d = l.length → CInv i (u, v) → Fact (foldFrom (cStep l ts) i d (u, v) = costM l ts) →
          Run P (mk Tryz.f121 8) (fun x st => x = .tup [] ∧ st = stB l first sh s (if betO l ts s = true then some ts else s) (betO l ts s))
            (.loop ⟨[(4, .one (.ptr (.k 3) 0)), (5, .one (.ptr (.k 4) 0)), (6, .one (.ptr (.k 5) 0)), (7, .one (.ptr (.k 6) 0)), (9, .one (.own (.t 24 0))), (11, .one (.int .i64 u)), (12, .one (.int .i64 v)), (29, .one (.lst .mv l false)), (30, .one (.int .i64 (l.length : Int))), (31, .one (.int .i64 z))],
              [(.k 0, some (.cells [.lst (.int .i64) first false])), (.k 1, some (.cells [.int .i64 sh])), (.k 2, some (.cells [.lst .mv l false])), (.k 3, some (.cells [.bool s.isSome])), (.k 4, some (.cells [.int .i64 (sumO l s)])), (.k 5, some (.cells [.int .i64 (mostO l s)])), (.k 6, some (.cells [.own (.k 7)])), (.k 7, some (.row (.int .i64) (tksO s))), (.t 24 0, some (.row (.int .i64) ts))], [.lp [0, 1, 0, 1, 1, 1, 1], .blk 0, .code [1, 1, 1, 1, 1]], none⟩) := by
        intro d
        induction d with
        | zero =>
          intro i z u v hz hd hinv hcost
          subst hz
          have hcu : Fact ((costM l ts).1 = u) := ⟨by rw [← hcost.h]; rfl⟩
          have hcv : Fact ((costM l ts).2 = v) := ⟨by rw [← hcost.h]; rfl⟩
          clear hcost
          cases s with
          | none =>
            refine Run.loop ?_
            repeat' (conv => arg 4; whnf); first | refine Run.ret ⟨?_, rfl⟩ | refine Run.condT ?_ | refine Run.condf ?_ | refine Run.condD (fun h => ?_) (fun h => ?_) | refine Run.condN (fun h => ?_) (fun h => ?_) | refine Run.condE (fun h => ?_) (fun h => ?_) | refine Run.condF (fun h => ?_) (fun h => ?_) | refine Run.condM (fun h => ?_) (fun h => ?_) | refine Run.condB (fun h => ?_) (fun h => ?_) | refine Run.check1 ?_ | (exfalso; omega) | (refine Run.ret ⟨rfl, ?_⟩)
            all_goals (rw [← hcu.h, ← hcv.h]; rfl)
          | some b =>
            have hbl := (hs b rfl).2.1
            have hcmp := compare_ok ts b (by omega) (by omega)
            have hlex := cmpM_lt ts b
            have hbe : betO l ts (some b) = if u = (costM l b).1 then (if v = (costM l b).2 then lexB ts b else decide (v < (costM l b).2)) else decide (u < (costM l b).1) := by unfold betO better; rw [hcu.h, hcv.h]
            refine Run.loop ?_
            repeat' (conv => arg 4; whnf); first | refine Run.ret ⟨?_, rfl⟩ | refine Run.condT ?_ | refine Run.condf ?_ | refine Run.condD (fun h => ?_) (fun h => ?_) | refine Run.condN (fun h => ?_) (fun h => ?_) | refine Run.condE (fun h => ?_) (fun h => ?_) | refine Run.condF (fun h => ?_) (fun h => ?_) | refine Run.condM (fun h => ?_) (fun h => ?_) | refine Run.condB (fun h => ?_) (fun h => ?_) | refine Run.check1 ?_ | (exfalso; omega) | refine Run.call (hcmp) rfl ?_ | (refine Run.ret ⟨rfl, ?_⟩)
            all_goals simp only [sumO, mostO] at *
            all_goals first
              | (have hb : betO l ts (some b) = true := by
                   rw [hbe]
                   (repeat' split) <;> first | (exfalso; omega) | exact decide_eq_true (by omega) | exact hlex.1 (by assumption)
                 rw [hb, ← hcu.h, ← hcv.h]
                 rfl)
              | (have hb : betO l ts (some b) = false := by
                   rw [hbe]
                   (repeat' split) <;> first
                     | (exfalso; omega)
                     | exact decide_eq_false (by omega)
                     | (cases hx : lexB ts b with
                        | false => rfl
                        | true => exact absurd (hlex.2 hx) (by assumption))
                 rw [hb]
                 rfl)
              | trace_state
        | succ d ih =>
          intro i z u v hz hd hinv hcost
          subst hz
          have e := fs (i := i) (by omega)
          have hdi := hdl i (by omega)
          unfold dl at hdi
          have hi1 := hinv
          unfold CInv at hi1
          dsimp only at hi1
          have hst := cInv_step (s := (u, v)) (hdl i (by omega)) hinv
          have hd1 : Fact (wrap64 (rd ts i - (rdM l i).f3) = dl l ts i) := ⟨by rw [rd_nat, rdM_nat]; exact wrap_eq (by omega) (by omega)⟩
          have hd2 : Fact (wrap64 (u + dl l ts i) = u + dl l ts i) := fw (by unfold dl; omega)
          have hc' : Fact (foldFrom (cStep l ts) (i + 1) d (cStep l ts i (u, v)) = costM l ts) := ⟨hcost.h⟩
          clear hdi hi1 hinv
          refine Run.loop ?_
          repeat' (conv => arg 4; whnf); first | refine Run.ret ⟨?_, rfl⟩ | refine Run.condT ?_ | refine Run.condf ?_ | refine Run.condD (fun h => ?_) (fun h => ?_) | refine Run.condN (fun h => ?_) (fun h => ?_) | refine Run.condE (fun h => ?_) (fun h => ?_) | refine Run.condF (fun h => ?_) (fun h => ?_) | refine Run.condM (fun h => ?_) (fun h => ?_) | refine Run.condB (fun h => ?_) (fun h => ?_) | refine Run.check1 ?_ | (exfalso; omega) | refine Run.need1 (by simp only [allP, true_and, and_true]; omega) ?_ | refine Run.round ⟨[(.t 24 0, .t 24 0)], [], []⟩ (ih (i + 1) _ _ _ e.h (by omega) ?_ ?_) rfl (by (repeat' (first | exact wkEnv_nil | refine wkEnv_cons rfl ?_ | exact wkSto_nil | refine wkSto_none ?_ | refine wkSto_some rfl ?_)); done) (by (repeat' (first | exact wkEnv_nil | refine wkEnv_cons rfl ?_ | exact wkSto_nil | refine wkSto_none ?_ | refine wkSto_some rfl ?_)); done)
          all_goals clear ih
          all_goals first
            | (rw [hd1.h, hd2.h]; exact hst)
            | (rw [hd1.h, hd2.h]; exact hc')
            | trace_state
      repeat' (conv => arg 4; whnf); first | refine Run.ret ⟨?_, rfl⟩ | refine Run.condT ?_ | refine Run.condf ?_ | refine Run.condD (fun h => ?_) (fun h => ?_) | refine Run.condN (fun h => ?_) (fun h => ?_) | refine Run.condE (fun h => ?_) (fun h => ?_) | refine Run.condF (fun h => ?_) (fun h => ?_) | refine Run.condM (fun h => ?_) (fun h => ?_) | refine Run.condB (fun h => ?_) (fun h => ?_) | refine Run.check1 ?_ | refine Run.call (hshift) rfl ?_ | refine Run.call (hord) rfl ?_ | refine Run.round ⟨[(.t 24 0, .t 24 0)], [], []⟩ (loop l.length 0 _ _ _ rfl (by omega) ?_ ⟨rfl⟩) rfl (by (repeat' (first | exact wkEnv_nil | refine wkEnv_cons rfl ?_ | exact wkSto_nil | refine wkSto_none ?_ | refine wkSto_some rfl ?_)); done) (by (repeat' (first | exact wkEnv_nil | refine wkEnv_cons rfl ?_ | exact wkSto_nil | refine wkSto_none ?_ | refine wkSto_some rfl ?_)); done) | (exfalso; omega)
      all_goals first | (unfold CInv; simp; done) | trace_state
end Go.Proofs.YtmppoajepbbmiaaGreat.AM

/- All orders told, StripBest of the program; condition: a move list. -/
namespace Go.Proofs.YtmppoajepbbmiaaGreat.AM
open Go.AM Go.RowKit
set_option linter.unusedVariables false
set_option linter.unusedSimpArgs false
set_option maxRecDepth 100000

noncomputable def tellV : V := .one (.fn 121 [.ptr (.k 0) 0, .ptr (.k 1) 0, .ptr (.k 2) 0, .ptr (.k 3) 0, .ptr (.k 4) 0, .ptr (.k 5) 0, .ptr (.k 6) 0])
set_option maxHeartbeats 4000000 in
theorem orders_ok (l : List Mv) (first : List Int) (sh : Int) (hm : MovesOk l) (hf : IsOrd first) (hfl : first.length = l.length) : ∀ (d : Nat) (ahead : List Int) (s : Option (List Int)) (n : Int), n = l.length → ahead.length + d = l.length → (∀ o ∈ ext l.length d ahead, o.length = l.length ∧ IsOrd o) → BestOk l s →
    Ok P 120 [.one (.int .i64 n), .one (.lst (.int .i64) ahead false), tellV] (stO l first sh s) (.tup []) (stB l first sh s ((ext l.length d ahead).foldl (bestStep l first sh) s) (chgL l first sh (ext l.length d ahead) s)) := by
  intro d
  have h6 := hm.1
  induction d with
  | zero =>
    intro ahead s n hn hd hos hs
    subst hn
    obtain ⟨h1, h2⟩ := hos ahead (by simp [ext])
    have htell := tell_ok l first sh s ahead hm hf hfl h2 h1 hs
    have e1 : chgL l first sh (ext l.length 0 ahead) s = chg l first sh s ahead := by simp [ext, chgL]
    have e2 : (ext l.length 0 ahead).foldl (bestStep l first sh) s = bestStep l first sh s ahead := rfl
    rw [e1, e2]
    cases hc : chg l first sh s ahead with
    | true =>
      rw [hc] at htell
      refine Ok.of_run (F := mk Tryz.f120 8) Tryz.func120 rfl rfl tabOk mixed rfl rfl rfl rfl rfl (Nat.le_of_ble_eq_true rfl) (Nat.le_of_ble_eq_true rfl) (.go 5000 ?_)
      repeat' (conv => arg 4; whnf); first | refine Run.ret ⟨?_, rfl⟩ | refine Run.condT ?_ | refine Run.condf ?_ | refine Run.condD (fun h => ?_) (fun h => ?_) | refine Run.condN (fun h => ?_) (fun h => ?_) | refine Run.condE (fun h => ?_) (fun h => ?_) | refine Run.condF (fun h => ?_) (fun h => ?_) | refine Run.condM (fun h => ?_) (fun h => ?_) | refine Run.condB (fun h => ?_) (fun h => ?_) | refine Run.check1 ?_ | refine Run.call (htell) rfl ?_ | (exfalso; omega)
      all_goals rfl
    | false =>
      rw [hc] at htell
      refine Ok.of_run (F := mk Tryz.f120 8) Tryz.func120 rfl rfl tabOk mixed rfl rfl rfl rfl rfl (Nat.le_of_ble_eq_true rfl) (Nat.le_of_ble_eq_true rfl) (.go 5000 ?_)
      repeat' (conv => arg 4; whnf); first | refine Run.ret ⟨?_, rfl⟩ | refine Run.condT ?_ | refine Run.condf ?_ | refine Run.condD (fun h => ?_) (fun h => ?_) | refine Run.condN (fun h => ?_) (fun h => ?_) | refine Run.condE (fun h => ?_) (fun h => ?_) | refine Run.condF (fun h => ?_) (fun h => ?_) | refine Run.condM (fun h => ?_) (fun h => ?_) | refine Run.condB (fun h => ?_) (fun h => ?_) | refine Run.check1 ?_ | refine Run.call (htell) rfl ?_ | (exfalso; omega)
      all_goals rfl
  | succ d ihd =>
    intro ahead s n hn hd hos hs
    subst hn
    have hstep := fun (i : Nat) => extUp_succ l.length d ahead i
    rw [ext_eq]
    have hoi : ∀ i, i < l.length → ∀ o ∈ extAt l.length d ahead i, o.length = l.length ∧ IsOrd o := fun i hi o ho => hos o (extAt_sub hi ho)
    have hup : ∀ i, i ≤ l.length → BestOk l ((extUp l.length d ahead i).foldl (bestStep l first sh) s) := fun i hi => foldl_ok hm (fun o ho => by
      obtain ⟨j, hj, h⟩ := List.mem_flatMap.1 ho
      exact hoi j (by have := List.mem_range.1 hj; omega) o h) hs
    have hcont := fun i : Int => contains_ok ahead i (by omega)
    have hal : ahead.length < l.length := by omega
    let R : V → List (Option C) → Prop := fun v st => v = .tup [] ∧ st = stB l first sh s ((extUp l.length d ahead l.length).foldl (bestStep l first sh) s) (chgL l first sh (extUp l.length d ahead l.length) s)
    have loopB : ∀ (c i : Nat) (z : Int) (si : Option (List Int)), z = i → i + c = l.length → si = (extUp l.length d ahead i).foldl (bestStep l first sh) s → chgL l first sh (extUp l.length d ahead i) s = true →
        Run P (mk Tryz.f120 8) R (.loop ⟨[(0, .one (.int .i64 (l.length : Int))), (1, .one (.lst (.int .i64) ahead false)), (2, tellV), (6, .one (.int .i64 z))],
          [(.k 0, some (.cells [.lst (.int .i64) first false])), (.k 1, some (.cells [.int .i64 sh])), (.k 2, some (.cells [.lst .mv l false])), (.k 3, some (.cells [.bool si.isSome])), (.k 4, some (.cells [.int .i64 (sumO l si)])), (.k 5, some (.cells [.int .i64 (mostO l si)])), (.k 6, some (.cells [.own (.t 1000 0)])), (.k 7, some (.row (.int .i64) (tksO s))), (.t 1000 0, some (.row (.int .i64) (tksO si)))], [.lp [0, 1, 1], .blk 0], none⟩) := by
      intro c
      induction c with
      | zero =>
        intro i z si hz hc hsi hch
        subst hz
        obtain rfl : i = l.length := by omega
        show Run P _ (fun v st => v = .tup [] ∧ st = stB l first sh s ((extUp l.length d ahead l.length).foldl (bestStep l first sh) s) (chgL l first sh (extUp l.length d ahead l.length) s)) _
        rw [← hsi, hch]
        refine Run.loop ?_
        repeat' (conv => arg 4; whnf); first | refine Run.ret ⟨?_, rfl⟩ | refine Run.condT ?_ | refine Run.condf ?_ | refine Run.condD (fun h => ?_) (fun h => ?_) | refine Run.condN (fun h => ?_) (fun h => ?_) | refine Run.condE (fun h => ?_) (fun h => ?_) | refine Run.condF (fun h => ?_) (fun h => ?_) | refine Run.condM (fun h => ?_) (fun h => ?_) | refine Run.condB (fun h => ?_) (fun h => ?_) | refine Run.check1 ?_ | (exfalso; omega)
        all_goals first | rfl | (exfalso; omega)
      | succ c ih =>
        intro i z si hz hc hsi hch
        subst hz
        have hi : i < l.length := by omega
        have e := fs (i := i) (by omega)
        have hch' : chgL l first sh (extUp l.length d ahead (i + 1)) s = true := by rw [hstep, chgL_app, hch]; rfl
        have hsi' : (extUp l.length d ahead (i + 1)).foldl (bestStep l first sh) s = (extAt l.length d ahead i).foldl (bestStep l first sh) si := by rw [hstep, List.foldl_append, ← hsi]
        have hbi : BestOk l si := by rw [hsi]; exact hup i (by omega)
        by_cases hin : (i : Int) ∈ ahead
        · have hcont := hcont i
          rw [decide_eq_true hin] at hcont
          have he : extAt l.length d ahead i = [] := if_pos hin
          rw [he] at hsi'
          refine Run.loop ?_
          repeat' (conv => arg 4; whnf); first | refine Run.ret ⟨?_, rfl⟩ | refine Run.condT ?_ | refine Run.condf ?_ | refine Run.condD (fun h => ?_) (fun h => ?_) | refine Run.condN (fun h => ?_) (fun h => ?_) | refine Run.condE (fun h => ?_) (fun h => ?_) | refine Run.condF (fun h => ?_) (fun h => ?_) | refine Run.condM (fun h => ?_) (fun h => ?_) | refine Run.condB (fun h => ?_) (fun h => ?_) | refine Run.check1 ?_ | refine Run.call (hcont) rfl ?_ | refine Run.round ⟨[(.t 1000 0, .t 1000 0)], [], []⟩ (ih (i + 1) _ si e.h (by omega) hsi'.symm hch') rfl (by (repeat' (first | exact wkEnv_nil | refine wkEnv_cons rfl ?_ | exact wkSto_nil | refine wkSto_none ?_ | refine wkSto_some rfl ?_)); done) (by (repeat' (first | exact wkEnv_nil | refine wkEnv_cons rfl ?_ | exact wkSto_nil | refine wkSto_none ?_ | refine wkSto_some rfl ?_)); done) | (exfalso; omega)
          all_goals (exfalso; omega)
        · have hcont := hcont i
          rw [decide_eq_false hin] at hcont
          have he : extAt l.length d ahead i = ext l.length d (ahead ++ [(i : Int)]) := if_neg hin
          have hoi := hoi i hi
          rw [he] at hsi' hoi
          have hrec := ihd (ahead ++ [(i : Int)]) si l.length rfl (by simp; omega) hoi hbi
          rw [← hsi'] at hrec
          cases hc2 : chgL l first sh (ext l.length d (ahead ++ [(i : Int)])) si with
          | true =>
            rw [hc2, show ahead ++ [(i : Int)] = ahead.take ((ahead.length : Int)).toNat ++ [(i : Int)] by simp] at hrec
            refine Run.loop ?_
            repeat' (conv => arg 4; whnf); first | refine Run.ret ⟨?_, rfl⟩ | refine Run.condT ?_ | refine Run.condf ?_ | refine Run.condD (fun h => ?_) (fun h => ?_) | refine Run.condN (fun h => ?_) (fun h => ?_) | refine Run.condE (fun h => ?_) (fun h => ?_) | refine Run.condF (fun h => ?_) (fun h => ?_) | refine Run.condM (fun h => ?_) (fun h => ?_) | refine Run.condB (fun h => ?_) (fun h => ?_) | refine Run.check1 ?_ | refine Run.call (hcont) rfl ?_ | refine Run.call (hrec) rfl ?_ | (refine Run.need1 (by simp only [allP, true_and, and_true, List.length_take, List.length_cons, List.length_nil]; omega) ?_) | (refine Run.need1 (by simp only [allP, true_and, and_true, List.length_take, List.length_cons, List.length_nil]; exact ⟨.inr (by omega), by omega⟩) ?_) | refine Run.round ⟨[(.t 34 0, .t 1000 0)], [], []⟩ (ih (i + 1) _ _ e.h (by omega) rfl hch') rfl (by (repeat' (first | exact wkEnv_nil | refine wkEnv_cons rfl ?_ | exact wkSto_nil | refine wkSto_none ?_ | refine wkSto_some rfl ?_)); done) (by (repeat' (first | exact wkEnv_nil | refine wkEnv_cons rfl ?_ | exact wkSto_nil | refine wkSto_none ?_ | refine wkSto_some rfl ?_)); done) | (exfalso; omega)
            all_goals (exfalso; omega)
          | false =>
            have hsame := chgL_no hc2
            rw [hc2, show ahead ++ [(i : Int)] = ahead.take ((ahead.length : Int)).toNat ++ [(i : Int)] by simp] at hrec
            rw [hsame] at hsi'
            refine Run.loop ?_
            repeat' (conv => arg 4; whnf); first | refine Run.ret ⟨?_, rfl⟩ | refine Run.condT ?_ | refine Run.condf ?_ | refine Run.condD (fun h => ?_) (fun h => ?_) | refine Run.condN (fun h => ?_) (fun h => ?_) | refine Run.condE (fun h => ?_) (fun h => ?_) | refine Run.condF (fun h => ?_) (fun h => ?_) | refine Run.condM (fun h => ?_) (fun h => ?_) | refine Run.condB (fun h => ?_) (fun h => ?_) | refine Run.check1 ?_ | refine Run.call (hcont) rfl ?_ | refine Run.call (hrec) rfl ?_ | (refine Run.need1 (by simp only [allP, true_and, and_true, List.length_take, List.length_cons, List.length_nil]; omega) ?_) | (refine Run.need1 (by simp only [allP, true_and, and_true, List.length_take, List.length_cons, List.length_nil]; exact ⟨.inr (by omega), by omega⟩) ?_) | refine Run.round ⟨[(.t 1000 0, .t 1000 0)], [], []⟩ (ih (i + 1) _ si e.h (by omega) hsi'.symm hch') rfl (by (repeat' (first | exact wkEnv_nil | refine wkEnv_cons rfl ?_ | exact wkSto_nil | refine wkSto_none ?_ | refine wkSto_some rfl ?_)); done) (by (repeat' (first | exact wkEnv_nil | refine wkEnv_cons rfl ?_ | exact wkSto_nil | refine wkSto_none ?_ | refine wkSto_some rfl ?_)); done) | (exfalso; omega)
            all_goals (exfalso; omega)
    have loopA : ∀ (c i : Nat) (z : Int), z = i → i + c = l.length → s = (extUp l.length d ahead i).foldl (bestStep l first sh) s → chgL l first sh (extUp l.length d ahead i) s = false →
        Run P (mk Tryz.f120 8) R (.loop ⟨[(0, .one (.int .i64 (l.length : Int))), (1, .one (.lst (.int .i64) ahead false)), (2, tellV), (6, .one (.int .i64 z))],
          [(.k 0, some (.cells [.lst (.int .i64) first false])), (.k 1, some (.cells [.int .i64 sh])), (.k 2, some (.cells [.lst .mv l false])), (.k 3, some (.cells [.bool s.isSome])), (.k 4, some (.cells [.int .i64 (sumO l s)])), (.k 5, some (.cells [.int .i64 (mostO l s)])), (.k 6, some (.cells [.own (.k 7)])), (.k 7, some (.row (.int .i64) (tksO s)))], [.lp [0, 1, 1], .blk 0], none⟩) := by
      intro c
      induction c with
      | zero =>
        intro i z hz hc hsi hch
        subst hz
        obtain rfl : i = l.length := by omega
        show Run P _ (fun v st => v = .tup [] ∧ st = stB l first sh s ((extUp l.length d ahead l.length).foldl (bestStep l first sh) s) (chgL l first sh (extUp l.length d ahead l.length) s)) _
        rw [← hsi, hch]
        refine Run.loop ?_
        repeat' (conv => arg 4; whnf); first | refine Run.ret ⟨?_, rfl⟩ | refine Run.condT ?_ | refine Run.condf ?_ | refine Run.condD (fun h => ?_) (fun h => ?_) | refine Run.condN (fun h => ?_) (fun h => ?_) | refine Run.condE (fun h => ?_) (fun h => ?_) | refine Run.condF (fun h => ?_) (fun h => ?_) | refine Run.condM (fun h => ?_) (fun h => ?_) | refine Run.condB (fun h => ?_) (fun h => ?_) | refine Run.check1 ?_ | (exfalso; omega)
        all_goals first | rfl | (exfalso; omega)
      | succ c ih =>
        intro i z hz hc hsi hch
        subst hz
        have hi : i < l.length := by omega
        have e := fs (i := i) (by omega)
        have hch' : chgL l first sh (extUp l.length d ahead (i + 1)) s = chgL l first sh (extAt l.length d ahead i) s := by rw [hstep, chgL_app, hch, ← hsi]; rfl
        have hsi' : (extUp l.length d ahead (i + 1)).foldl (bestStep l first sh) s = (extAt l.length d ahead i).foldl (bestStep l first sh) s := by rw [hstep, List.foldl_append, ← hsi]
        by_cases hin : (i : Int) ∈ ahead
        · have hcont := hcont i
          rw [decide_eq_true hin] at hcont
          have he : extAt l.length d ahead i = [] := if_pos hin
          rw [he] at hsi' hch'
          refine Run.loop ?_
          repeat' (conv => arg 4; whnf); first | refine Run.ret ⟨?_, rfl⟩ | refine Run.condT ?_ | refine Run.condf ?_ | refine Run.condD (fun h => ?_) (fun h => ?_) | refine Run.condN (fun h => ?_) (fun h => ?_) | refine Run.condE (fun h => ?_) (fun h => ?_) | refine Run.condF (fun h => ?_) (fun h => ?_) | refine Run.condM (fun h => ?_) (fun h => ?_) | refine Run.condB (fun h => ?_) (fun h => ?_) | refine Run.check1 ?_ | refine Run.call (hcont) rfl ?_ | refine Run.round ⟨[], [], []⟩ (ih (i + 1) _ e.h (by omega) hsi'.symm hch') rfl (by (repeat' (first | exact wkEnv_nil | refine wkEnv_cons rfl ?_ | exact wkSto_nil | refine wkSto_none ?_ | refine wkSto_some rfl ?_)); done) (by (repeat' (first | exact wkEnv_nil | refine wkEnv_cons rfl ?_ | exact wkSto_nil | refine wkSto_none ?_ | refine wkSto_some rfl ?_)); done) | (exfalso; omega)
          all_goals (exfalso; omega)
        · have hcont := hcont i
          rw [decide_eq_false hin] at hcont
          have he : extAt l.length d ahead i = ext l.length d (ahead ++ [(i : Int)]) := if_neg hin
          have hoi := hoi i hi
          rw [he] at hsi' hoi hch'
          have hrec := ihd (ahead ++ [(i : Int)]) s l.length rfl (by simp; omega) hoi hs
          rw [← hsi'] at hrec
          cases hc2 : chgL l first sh (ext l.length d (ahead ++ [(i : Int)])) s with
          | true =>
            rw [hc2] at hch'
            rw [hc2, show ahead ++ [(i : Int)] = ahead.take ((ahead.length : Int)).toNat ++ [(i : Int)] by simp] at hrec
            refine Run.loop ?_
            repeat' (conv => arg 4; whnf); first | refine Run.ret ⟨?_, rfl⟩ | refine Run.condT ?_ | refine Run.condf ?_ | refine Run.condD (fun h => ?_) (fun h => ?_) | refine Run.condN (fun h => ?_) (fun h => ?_) | refine Run.condE (fun h => ?_) (fun h => ?_) | refine Run.condF (fun h => ?_) (fun h => ?_) | refine Run.condM (fun h => ?_) (fun h => ?_) | refine Run.condB (fun h => ?_) (fun h => ?_) | refine Run.check1 ?_ | refine Run.call (hcont) rfl ?_ | refine Run.call (hrec) rfl ?_ | (refine Run.need1 (by simp only [allP, true_and, and_true, List.length_take, List.length_cons, List.length_nil]; omega) ?_) | (refine Run.need1 (by simp only [allP, true_and, and_true, List.length_take, List.length_cons, List.length_nil]; exact ⟨.inr (by omega), by omega⟩) ?_) | refine Run.round ⟨[(.t 34 0, .t 1000 0)], [], []⟩ (loopB c (i + 1) _ _ e.h (by omega) rfl hch') rfl (by (repeat' (first | exact wkEnv_nil | refine wkEnv_cons rfl ?_ | exact wkSto_nil | refine wkSto_none ?_ | refine wkSto_some rfl ?_)); done) (by (repeat' (first | exact wkEnv_nil | refine wkEnv_cons rfl ?_ | exact wkSto_nil | refine wkSto_none ?_ | refine wkSto_some rfl ?_)); done) | (exfalso; omega)
            all_goals (exfalso; omega)
          | false =>
            have hsame := chgL_no hc2
            rw [hc2] at hch'
            rw [hc2, show ahead ++ [(i : Int)] = ahead.take ((ahead.length : Int)).toNat ++ [(i : Int)] by simp] at hrec
            rw [hsame] at hsi'
            refine Run.loop ?_
            repeat' (conv => arg 4; whnf); first | refine Run.ret ⟨?_, rfl⟩ | refine Run.condT ?_ | refine Run.condf ?_ | refine Run.condD (fun h => ?_) (fun h => ?_) | refine Run.condN (fun h => ?_) (fun h => ?_) | refine Run.condE (fun h => ?_) (fun h => ?_) | refine Run.condF (fun h => ?_) (fun h => ?_) | refine Run.condM (fun h => ?_) (fun h => ?_) | refine Run.condB (fun h => ?_) (fun h => ?_) | refine Run.check1 ?_ | refine Run.call (hcont) rfl ?_ | refine Run.call (hrec) rfl ?_ | (refine Run.need1 (by simp only [allP, true_and, and_true, List.length_take, List.length_cons, List.length_nil]; omega) ?_) | (refine Run.need1 (by simp only [allP, true_and, and_true, List.length_take, List.length_cons, List.length_nil]; exact ⟨.inr (by omega), by omega⟩) ?_) | refine Run.round ⟨[], [], []⟩ (ih (i + 1) _ e.h (by omega) hsi'.symm hch') rfl (by (repeat' (first | exact wkEnv_nil | refine wkEnv_cons rfl ?_ | exact wkSto_nil | refine wkSto_none ?_ | refine wkSto_some rfl ?_)); done) (by (repeat' (first | exact wkEnv_nil | refine wkEnv_cons rfl ?_ | exact wkSto_nil | refine wkSto_none ?_ | refine wkSto_some rfl ?_)); done) | (exfalso; omega)
            all_goals (exfalso; omega)
    refine Ok.of_run (F := mk Tryz.f120 8) Tryz.func120 rfl rfl tabOk mixed rfl rfl rfl rfl rfl (Nat.le_of_ble_eq_true rfl) (stB_len) (.go 5000 ?_)
    repeat' (conv => arg 4; whnf); first | refine Run.ret ⟨?_, rfl⟩ | refine Run.condT ?_ | refine Run.condf ?_ | refine Run.condD (fun h => ?_) (fun h => ?_) | refine Run.condN (fun h => ?_) (fun h => ?_) | refine Run.condE (fun h => ?_) (fun h => ?_) | refine Run.condF (fun h => ?_) (fun h => ?_) | refine Run.condM (fun h => ?_) (fun h => ?_) | refine Run.condB (fun h => ?_) (fun h => ?_) | refine Run.check1 ?_ | (exfalso; omega) | refine Run.round ⟨[], [], []⟩ (loopA l.length 0 _ rfl (by omega) rfl rfl) rfl (by (repeat' (first | exact wkEnv_nil | refine wkEnv_cons rfl ?_ | exact wkSto_nil | refine wkSto_none ?_ | refine wkSto_some rfl ?_)); done) (by (repeat' (first | exact wkEnv_nil | refine wkEnv_cons rfl ?_ | exact wkSto_nil | refine wkSto_none ?_ | refine wkSto_some rfl ?_)); done)
theorem ext_ord {n : Nat} (h : n ≤ 6) {o : List Int} (ho : o ∈ ext n n []) : o.length = n ∧ IsOrd o := by
  rw [ext_all n h] at ho
  exact allM_ord ho
theorem bestO_eq {l : List Mv} (h : MovesOk l) (sh : Int) : (ext l.length l.length []).foldl (bestStep l (firstM l) sh) none = bestO l sh := by
  rw [ext_all _ h.1]
  rfl
theorem bestF_nil (l : List Mv) (sh : Int) : (bestF l sh).2 = false → (bestF l sh).1 = [] := by
  unfold bestF bestM
  split
  · cases bestO l sh with
    | none => exact fun _ => rfl
    | some t => intro h; cases h
  · exact fun _ => rfl
theorem retO_t (s : Option (List Int)) : (retO s).1 = tksO s ∧ (retO s).2 = s.isSome := by cases s <;> exact ⟨rfl, rfl⟩
theorem best_ok (l : List Mv) (sh : Int) : Ok P 87 [.one (.lst .mv l false), .one (.int .i64 sh)] [] (.tup [.one (.own (.k 0)), .one (.bool (bestF l sh).2)]) [some (.row (.int .i64) (bestF l sh).1)] := by
  refine nilR_ok (bestF_nil l sh) ?_
  refine Ok.of_rel (F := mk Tryz.f87 0) Tryz.func87 rfl rfl tabOk mixed rfl rfl rfl rfl rfl (Nat.le_of_ble_eq_true rfl) (by first | exact fun _ _ => nilR_len | exact fun _ _ => nilB_len) (.go 5000 ?_)
  by_cases hc : MovesOk l ∧ 0 ≤ sh ∧ sh ≤ 6
  · rw [show bestF l sh = retO (bestO l sh) from if_pos hc]
    obtain ⟨hm, hs1, hs2⟩ := hc
    have h6 := hm.1
    have hfirst := first_ok l (by omega)
    have hord := orders_ok l (firstM l) sh hm (firstM_ord l) (firstM_len l) l.length [] none l.length rfl (by simp) (fun o ho => ext_ord hm.1 ho) (fun t h => by cases h)
    rw [bestO_eq hm] at hord
    obtain ⟨e1, e2⟩ := retO_t (bestO l sh)
    have hmo := movesOk_ok l
    rw [decide_eq_true hm] at hmo
    have hin := in_ok sh 0 6
    rw [decide_eq_true ⟨hs1, hs2⟩] at hin
    conv => arg 4; whnf
    refine Run.call0 hmo rfl (.go 5000 ?_)
    conv => arg 4; whnf
    refine Run.condf ?_
    conv => arg 4; whnf
    refine Run.call0 hin rfl (.go 5000 ?_)
    conv => arg 4; whnf
    refine Run.condf ?_
    conv => arg 4; whnf
    refine Run.call0 hfirst rfl (Run.to [0, 1, 1, 1, 1, 1] 5000 ?_)
    conv => arg 4; whnf
    refine Run.less ⟨[(.t 2 0, .t 2 0), (.t 3 0, .t 3 0), (.t 6 0, .t 6 0), (.t 7 0, .t 7 0), (.t 8 0, .t 8 0), (.t 9 0, .t 9 0), (.t 10 0, .t 10 0)], [(.t 1000 0, .int .i64)], [.t 20 0]⟩ (env' := [(2, .one (.ptr (.t 2 0) 0)), (3, .one (.ptr (.t 3 0) 0)), (6, .one (.ptr (.t 6 0) 0)), (7, .one (.ptr (.t 7 0) 0)), (8, .one (.ptr (.t 8 0) 0)), (9, .one (.ptr (.t 9 0) 0)), (10, .one (.ptr (.t 10 0) 0))])
      (sto' := [(.t 2 0, some (.cells [.lst .mv l false])), (.t 3 0, some (.cells [.int .i64 sh])), (.t 6 0, some (.cells [.lst (.int .i64) (firstM l) false])), (.t 7 0, some (.cells [.own (.t 1000 0)])), (.t 8 0, some (.cells [.int .i64 0])), (.t 9 0, some (.cells [.int .i64 0])), (.t 10 0, some (.cells [.bool false])), (.t 1000 0, some (.row (.int .i64) []))]) (.go 5000 ?_) rfl (by (repeat' (first | exact wkEnv_nil | refine wkEnv_cons rfl ?_ | exact wkSto_nil | refine wkSto_none ?_ | refine wkSto_some rfl ?_)); done) (by (repeat' (first | exact wkEnv_nil | refine wkEnv_cons rfl ?_ | exact wkSto_nil | refine wkSto_none ?_ | refine wkSto_some rfl ?_)); done)
    have hbn : chgL l (firstM l) sh (ext l.length l.length []) none = false → bestO l sh = none := fun h => (bestO_eq hm sh).symm.trans (chgL_no h)
    generalize bestO l sh = bo at *
    cases hc2 : chgL l (firstM l) sh (ext l.length l.length []) none with
    | true =>
      rw [hc2] at hord
      repeat' (conv => arg 4; whnf); first | refine Run.ret ⟨?_, rfl⟩ | refine Run.condT ?_ | refine Run.condf ?_ | refine Run.condD (fun h => ?_) (fun h => ?_) | refine Run.condN (fun h => ?_) (fun h => ?_) | refine Run.condE (fun h => ?_) (fun h => ?_) | refine Run.condF (fun h => ?_) (fun h => ?_) | refine Run.condM (fun h => ?_) (fun h => ?_) | refine Run.condB (fun h => ?_) (fun h => ?_) | refine Run.check1 ?_ | refine Run.call (hord) rfl ?_ | (refine Run.ret (.inl ⟨?_, ?_⟩))
      all_goals first | rfl | (rw [e2]; done) | (rw [e1]; done)
    | false =>
      obtain rfl := hbn hc2
      rw [hc2] at hord
      repeat' (conv => arg 4; whnf); first | refine Run.ret ⟨?_, rfl⟩ | refine Run.condT ?_ | refine Run.condf ?_ | refine Run.condD (fun h => ?_) (fun h => ?_) | refine Run.condN (fun h => ?_) (fun h => ?_) | refine Run.condE (fun h => ?_) (fun h => ?_) | refine Run.condF (fun h => ?_) (fun h => ?_) | refine Run.condM (fun h => ?_) (fun h => ?_) | refine Run.condB (fun h => ?_) (fun h => ?_) | refine Run.check1 ?_ | refine Run.call (hord) rfl ?_ | (refine Run.ret (.inl ⟨?_, ?_⟩))
      all_goals first | rfl | (rw [e2]; done) | (rw [e1]; done)
  · rw [show bestF l sh = ([], false) from if_neg hc]
    repeat' (conv => arg 4; whnf); first | refine Run.ret ⟨?_, rfl⟩ | refine Run.condT ?_ | refine Run.condf ?_ | refine Run.condD (fun h => ?_) (fun h => ?_) | refine Run.condN (fun h => ?_) (fun h => ?_) | refine Run.condE (fun h => ?_) (fun h => ?_) | refine Run.condF (fun h => ?_) (fun h => ?_) | refine Run.condM (fun h => ?_) (fun h => ?_) | refine Run.condB (fun h => ?_) (fun h => ?_) | refine Run.check1 ?_ | refine Run.call (movesOk_ok _) rfl ?_ | refine Run.call (in_ok _ _ _) rfl ?_ | (refine Run.ret (.inr ⟨rfl, rfl, rfl⟩)) | (exfalso; exact hc ⟨‹MovesOk l›, ‹0 ≤ sh ∧ sh ≤ 6›⟩)
end Go.Proofs.YtmppoajepbbmiaaGreat.AM

/- StripShift of the reference; condition: lengths. -/
namespace Go.Proofs.YtmppoajepbbmiaaGreat.AM
open Go.AM Go.RowKit
set_option linter.unusedVariables false
set_option linter.unusedSimpArgs false
set_option maxRecDepth 100000

theorem sshift_ok (a b : List Int) (ha : a.length ≤ 1048576) (hb : b.length ≤ 1048576) : Ok P 129 [.one (.lst (.int .i64) a false), .one (.lst (.int .i64) b false)] [] (.one (.int .i64 (shiftM a b))) [] := by
  refine Ok.of_run (F := mk Tryz.f129 0) Tryz.func129 rfl rfl tabOk mixed rfl rfl rfl rfl rfl (Nat.le_of_ble_eq_true rfl) (Nat.le_of_ble_eq_true rfl) (.go 5000 ?_)
  by_cases hc : a.length = b.length ∧ IsOrd a ∧ IsOrd b
  · have hf : shiftM a b = foldFrom (shStep a b) 0 a.length 0 := if_pos hc
    obtain ⟨hl, h1, h2⟩ := hc
    have outer : ∀ (d i : Nat) (z s : Int), z = i → i + d = a.length → 0 ≤ s ∧ s ≤ 1048576 → Fact (foldFrom (shStep a b) i d s = shiftM a b) → Run P (mk Tryz.f129 0) (fun x st => x = .one (.int .i64 (shiftM a b)) ∧ st = []) (.loop ⟨[(0, .one (.lst (.int .i64) a false)), (1, .one (.lst (.int .i64) b false)), (5, .one (.int .i64 s)), (6, .one (.int .i64 z))], [], [.lp [0, 1, 0, 1, 1, 1], .blk 0, .code [1, 1, 1, 1]], none⟩) := by
      intro d
      induction d with
      | zero =>
        intro i z s hz hd hs he
        subst hz
        refine Run.loop ?_
        repeat' (conv => arg 4; whnf); first | refine Run.ret ⟨?_, rfl⟩ | refine Run.condT ?_ | refine Run.condf ?_ | refine Run.condD (fun h => ?_) (fun h => ?_) | refine Run.condN (fun h => ?_) (fun h => ?_) | refine Run.condE (fun h => ?_) (fun h => ?_) | refine Run.condF (fun h => ?_) (fun h => ?_) | refine Run.condM (fun h => ?_) (fun h => ?_) | refine Run.condB (fun h => ?_) (fun h => ?_) | refine Run.check1 ?_ | (exfalso; omega)
        all_goals first | (rw [← he.h]; rfl) | (exfalso; omega)
      | succ d ih =>
        intro i z s hz hd hs he
        subst hz
        have e := fs (i := i) (by omega)
        have ei : rd a i = a.getD i 0 := rd_nat a i
        have he' : foldFrom (shStep a b) (i + 1) d (shStep a b i s) = shiftM a b := he.h
        have hv := (h1 i (by omega)).1
        obtain ⟨q, hq, eq⟩ := ord_onto h2 (a.getD i 0).toNat (by omega)
        have hall := shUpd_all a b h2 i (fun s hs => by unfold shStep; omega) ⟨q, hq, by omega⟩ s
        rw [← hall] at he'
        replace he' : Fact _ := ⟨he'⟩
        clear hall
        have inner : ∀ (c k : Nat) (z r : Int), z = k → k + c = b.length → 0 ≤ r ∧ r ≤ 1048576 → Fact (foldFrom (shStep a b) (i + 1) d (foldFrom (shUpd a b i) k c r) = shiftM a b) → Run P (mk Tryz.f129 0) (fun x st => x = .one (.int .i64 (shiftM a b)) ∧ st = []) (.loop ⟨[(0, .one (.lst (.int .i64) a false)), (1, .one (.lst (.int .i64) b false)), (5, .one (.int .i64 r)), (6, .one (.int .i64 (i : Int))), (7, .one (.int .i64 z))], [], [.lp [0, 1, 0, 0, 1, 0, 0, 1, 0, 1, 1, 1], .blk 2, .blk 1, .code [1, 1, 0, 0, 1, 0, 1, 1, 1], .lp [0, 1, 0, 1, 1, 1], .blk 0, .code [1, 1, 1, 1]], none⟩) := by
          intro c
          induction c with
          | zero =>
            intro k z r hz hk hr hee
            subst hz
            refine Run.loop ?_
            repeat' (conv => arg 4; whnf); first | refine Run.ret ⟨?_, rfl⟩ | refine Run.condT ?_ | refine Run.condf ?_ | refine Run.condD (fun h => ?_) (fun h => ?_) | refine Run.condN (fun h => ?_) (fun h => ?_) | refine Run.condE (fun h => ?_) (fun h => ?_) | refine Run.condF (fun h => ?_) (fun h => ?_) | refine Run.condM (fun h => ?_) (fun h => ?_) | refine Run.condB (fun h => ?_) (fun h => ?_) | refine Run.check1 ?_ | refine Run.round ⟨[], [], []⟩ (ih (i + 1) _ _ e.h (by omega) hr hee) rfl (by (repeat' (first | exact wkEnv_nil | refine wkEnv_cons rfl ?_ | exact wkSto_nil | refine wkSto_none ?_ | refine wkSto_some rfl ?_)); done) (by (repeat' (first | exact wkEnv_nil | refine wkEnv_cons rfl ?_ | exact wkSto_nil | refine wkSto_none ?_ | refine wkSto_some rfl ?_)); done) | (exfalso; omega)
            all_goals (exfalso; omega)
          | succ c ihc =>
            intro k z r hz hk hr hee
            subst hz
            have e2 := fs (i := k) (by omega)
            have ek : rd b k = b.getD k 0 := rd_nat b k
            have d1 := fw (x := (i : Int) - k) (by omega)
            have d2 := fw (x := (k : Int) - i) (by omega)
            have hu : Fact (shUpd a b i k r = if rd a i = rd b k then max (max r ((i : Int) - k)) ((k : Int) - i) else r) := ⟨by rw [ei, ek]; rfl⟩
            clear ek
            have hee' : Fact (foldFrom (shStep a b) (i + 1) d (foldFrom (shUpd a b i) (k + 1) c (shUpd a b i k r)) = shiftM a b) := ⟨hee.h⟩
            refine Run.loop ?_
            repeat' (conv => arg 4; whnf); first | refine Run.ret ⟨?_, rfl⟩ | refine Run.condT ?_ | refine Run.condf ?_ | refine Run.condD (fun h => ?_) (fun h => ?_) | refine Run.condN (fun h => ?_) (fun h => ?_) | refine Run.condE (fun h => ?_) (fun h => ?_) | refine Run.condF (fun h => ?_) (fun h => ?_) | refine Run.condM (fun h => ?_) (fun h => ?_) | refine Run.condB (fun h => ?_) (fun h => ?_) | refine Run.check1 ?_ | refine Run.need1 (by simp only [allP, true_and, and_true]; omega) ?_ | refine Run.round ⟨[], [], []⟩ (ihc (k + 1) _ _ e2.h (by omega) ?_ ?_) rfl (by (repeat' (first | exact wkEnv_nil | refine wkEnv_cons rfl ?_ | exact wkSto_nil | refine wkSto_none ?_ | refine wkSto_some rfl ?_)); done) (by (repeat' (first | exact wkEnv_nil | refine wkEnv_cons rfl ?_ | exact wkSto_nil | refine wkSto_none ?_ | refine wkSto_some rfl ?_)); done) | (exfalso; omega)
            all_goals clear ih ihc
            all_goals first
              | (exfalso; omega)
              | (simp only [d1.h, d2.h] at *; omega)
              | (simp only [d1.h, d2.h] at *
                 have hx : shUpd a b i k r = (i : Int) - k := by rw [hu.h, if_pos (by omega)]; omega
                 rw [hx] at hee'; exact hee')
              | (simp only [d1.h, d2.h] at *
                 have hx : shUpd a b i k r = (k : Int) - i := by rw [hu.h, if_pos (by omega)]; omega
                 rw [hx] at hee'; exact hee')
              | (simp only [d1.h, d2.h] at *
                 have hx : shUpd a b i k r = r := by
                   rw [hu.h]; split <;> omega
                 rw [hx] at hee'; exact hee')
              | trace_state
        refine Run.loop ?_
        repeat' (conv => arg 4; whnf); first | refine Run.ret ⟨?_, rfl⟩ | refine Run.condT ?_ | refine Run.condf ?_ | refine Run.condD (fun h => ?_) (fun h => ?_) | refine Run.condN (fun h => ?_) (fun h => ?_) | refine Run.condE (fun h => ?_) (fun h => ?_) | refine Run.condF (fun h => ?_) (fun h => ?_) | refine Run.condM (fun h => ?_) (fun h => ?_) | refine Run.condB (fun h => ?_) (fun h => ?_) | refine Run.check1 ?_ | refine Run.round ⟨[], [], []⟩ (inner b.length 0 _ _ rfl (by omega) hs he') rfl (by (repeat' (first | exact wkEnv_nil | refine wkEnv_cons rfl ?_ | exact wkSto_nil | refine wkSto_none ?_ | refine wkSto_some rfl ?_)); done) (by (repeat' (first | exact wkEnv_nil | refine wkEnv_cons rfl ?_ | exact wkSto_nil | refine wkSto_none ?_ | refine wkSto_some rfl ?_)); done) | (exfalso; omega)
        all_goals (exfalso; omega)
    repeat' (conv => arg 4; whnf); first | refine Run.ret ⟨?_, rfl⟩ | refine Run.condT ?_ | refine Run.condf ?_ | refine Run.condD (fun h => ?_) (fun h => ?_) | refine Run.condN (fun h => ?_) (fun h => ?_) | refine Run.condE (fun h => ?_) (fun h => ?_) | refine Run.condF (fun h => ?_) (fun h => ?_) | refine Run.condM (fun h => ?_) (fun h => ?_) | refine Run.condB (fun h => ?_) (fun h => ?_) | refine Run.check1 ?_ | refine Run.call (sordOk_ok _ b.length hb) rfl ?_ | refine Run.call (sordOk_ok _ a.length ha) rfl ?_ | refine Run.round ⟨[], [], []⟩ (outer a.length 0 _ _ rfl (by omega) (by omega) ⟨hf.symm⟩) rfl (by (repeat' (first | exact wkEnv_nil | refine wkEnv_cons rfl ?_ | exact wkSto_nil | refine wkSto_none ?_ | refine wkSto_some rfl ?_)); done) (by (repeat' (first | exact wkEnv_nil | refine wkEnv_cons rfl ?_ | exact wkSto_nil | refine wkSto_none ?_ | refine wkSto_some rfl ?_)); done) | (exfalso; exact ‹¬ (a.length = b.length ∧ IsOrd a)› ⟨hl, h1⟩) | (exfalso; exact ‹¬ (b.length = a.length ∧ IsOrd b)› ⟨hl.symm, h2⟩)
    all_goals first | (exfalso; exact ‹¬ (a.length = b.length ∧ IsOrd a)› ⟨hl, h1⟩) | (exfalso; exact ‹¬ (b.length = a.length ∧ IsOrd b)› ⟨hl.symm, h2⟩) | trace_state
  · have hf : shiftM a b = -1 := if_neg hc
    rw [hf]
    repeat' (conv => arg 4; whnf); first | refine Run.ret ⟨?_, rfl⟩ | refine Run.condT ?_ | refine Run.condf ?_ | refine Run.condD (fun h => ?_) (fun h => ?_) | refine Run.condN (fun h => ?_) (fun h => ?_) | refine Run.condE (fun h => ?_) (fun h => ?_) | refine Run.condF (fun h => ?_) (fun h => ?_) | refine Run.condM (fun h => ?_) (fun h => ?_) | refine Run.condB (fun h => ?_) (fun h => ?_) | refine Run.check1 ?_ | refine Run.call (sordOk_ok _ b.length hb) rfl ?_ | refine Run.call (sordOk_ok _ a.length ha) rfl ?_ | (exfalso; exact hc ⟨(‹a.length = b.length ∧ IsOrd a›).1, (‹a.length = b.length ∧ IsOrd a›).2, (‹b.length = a.length ∧ IsOrd b›).2⟩)
    all_goals first | rfl | trace_state
end Go.Proofs.YtmppoajepbbmiaaGreat.AM
