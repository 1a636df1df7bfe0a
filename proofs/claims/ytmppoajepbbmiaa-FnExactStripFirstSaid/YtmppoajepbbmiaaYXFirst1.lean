/- FnExactStripFirst, part 1 of 2: what the law's functions come to, plain laws on it, and the row; no condition -/
import Derived.Test.YtmppoajepbbmiaaProg
import Derived.Test.YtmppoajepbbmiaaMC2
/- The machine's table of this seat's types, and that it fits the program; no condition. -/
namespace Go.Proofs.Ytmppoajepbbmiaa.AM
set_option linter.unusedVariables false
open Go.AM

def tab : Tab := [
  (1, ⟨.fn, 1, 8, false, [.nilf], [none]⟩),
  (2, ⟨.int .i64, 1, 8, false, [.int .i64 0], [none]⟩),
  (3, ⟨.int .i64, 1, 8, false, [.int .i64 0], [none]⟩),
  (4, ⟨.bool, 1, 1, false, [.bool false], [none]⟩),
  (5, ⟨.int .u8, 1, 1, false, [.int .u8 0], [none]⟩),
  (9, ⟨.str, 1, 16, false, [.str ByteArray.empty], [none]⟩),
  (15, ⟨.ptr, 1, 8, false, [.nilp], [none]⟩),
  (16, ⟨.ptr, 1, 8, false, [.nilp], [none]⟩),
  (17, ⟨.ptr, 1, 8, false, [.nilp], [none]⟩),
  (21, ⟨.int .i32, 1, 4, false, [.int .i32 0], [none]⟩),
  (22, ⟨.sl (.mv) 66, 1, 24, false, [.nil], [some (.mv)]⟩),
  (23, ⟨.fn, 1, 8, false, [.nilf], [none]⟩),
  (24, ⟨.sl (.int .i64) 3, 1, 24, false, [.nil], [some (.int .i64)]⟩),
  (25, ⟨.fn, 1, 8, false, [.nilf], [none]⟩),
  (26, ⟨.sl (.mv) 63, 1, 24, false, [.nil], [some (.mv)]⟩),
  (27, ⟨.fn, 1, 8, false, [.nilf], [none]⟩),
  (28, ⟨.fn, 1, 8, false, [.nilf], [none]⟩),
  (29, ⟨.fn, 1, 8, false, [.nilf], [none]⟩),
  (30, ⟨.fn, 1, 8, false, [.nilf], [none]⟩),
  (31, ⟨.fn, 1, 8, false, [.nilf], [none]⟩),
  (32, ⟨.fn, 1, 8, false, [.nilf], [none]⟩),
  (33, ⟨.sl (.int .u8) 5, 1, 24, false, [.nil], [some (.int .u8)]⟩),
  (35, ⟨.fn, 1, 8, false, [.nilf], [none]⟩),
  (37, ⟨.fn, 1, 8, false, [.nilf], [none]⟩),
  (38, ⟨.fn, 1, 8, false, [.nilf], [none]⟩),
  (39, ⟨.fn, 1, 8, false, [.nilf], [none]⟩),
  (40, ⟨.fn, 1, 8, false, [.nilf], [none]⟩),
  (41, ⟨.fn, 1, 8, false, [.nilf], [none]⟩),
  (42, ⟨.fn, 1, 8, false, [.nilf], [none]⟩),
  (44, ⟨.fn, 1, 8, false, [.nilf], [none]⟩),
  (46, ⟨.fn, 1, 8, false, [.nilf], [none]⟩),
  (47, ⟨.fn, 1, 8, false, [.nilf], [none]⟩),
  (49, ⟨.st [(0, 1, false), (1, 1, false), (2, 1, false), (3, 1, false)] false, 4, 64, true, [.int .i64 0, .int .i64 0, .nil, .nil], [none, none, some .mv, some (.int .i64)]⟩),
  (50, ⟨.fn, 1, 8, false, [.nilf], [none]⟩),
  (51, ⟨.fn, 1, 8, false, [.nilf], [none]⟩),
  (53, ⟨.st [(0, 1, false), (1, 1, false), (2, 1, false), (3, 1, false)] false, 4, 64, true, [.int .i64 0, .int .i64 0, .nil, .nil], [none, none, some .mv, some (.int .i64)]⟩),
  (54, ⟨.fn, 1, 8, false, [.nilf], [none]⟩),
  (55, ⟨.fn, 1, 8, false, [.nilf], [none]⟩),
  (56, ⟨.fn, 1, 8, false, [.nilf], [none]⟩),
  (58, ⟨.fn, 1, 8, false, [.nilf], [none]⟩),
  (59, ⟨.fn, 1, 8, false, [.nilf], [none]⟩),
  (60, ⟨.fn, 1, 8, false, [.nilf], [none]⟩),
  (61, ⟨.fn, 1, 8, false, [.nilf], [none]⟩),
  (63, ⟨.st [(0, 1, false), (1, 1, false), (2, 1, false), (3, 1, false), (4, 1, false), (5, 1, false)] true, 6, 56, true, [.str ByteArray.empty, .bool false, .int .i64 0, .int .i64 0, .int .i64 0, .int .i64 0], [none, none, none, none, none, none]⟩),
  (64, ⟨.fn, 1, 8, false, [.nilf], [none]⟩),
  (65, ⟨.fn, 1, 8, false, [.nilf], [none]⟩),
  (66, ⟨.st [(0, 1, false), (1, 1, false), (2, 1, false), (3, 1, false), (4, 1, false), (5, 1, false)] true, 6, 56, true, [.str ByteArray.empty, .bool false, .int .i64 0, .int .i64 0, .int .i64 0, .int .i64 0], [none, none, none, none, none, none]⟩),
  (67, ⟨.fn, 1, 8, false, [.nilf], [none]⟩),
  (68, ⟨.fn, 1, 8, false, [.nilf], [none]⟩),
  (69, ⟨.fn, 1, 8, false, [.nilf], [none]⟩),
  (70, ⟨.fn, 1, 8, false, [.nilf], [none]⟩),
  (71, ⟨.fn, 1, 8, false, [.nilf], [none]⟩),
  (72, ⟨.fn, 1, 8, false, [.nilf], [none]⟩),
  (73, ⟨.ptr, 1, 8, false, [.nilp], [none]⟩),
  (74, ⟨.fn, 1, 8, false, [.nilf], [none]⟩),
  (75, ⟨.fn, 1, 8, false, [.nilf], [none]⟩),
  (76, ⟨.fn, 1, 8, false, [.nilf], [none]⟩),
  (77, ⟨.fn, 1, 8, false, [.nilf], [none]⟩),
  (78, ⟨.fn, 1, 8, false, [.nilf], [none]⟩),
  (79, ⟨.fn, 1, 8, false, [.nilf], [none]⟩),
  (80, ⟨.fn, 1, 8, false, [.nilf], [none]⟩),
  (81, ⟨.fn, 1, 8, false, [.nilf], [none]⟩),
  (82, ⟨.fn, 1, 8, false, [.nilf], [none]⟩),
  (83, ⟨.fn, 1, 8, false, [.nilf], [none]⟩),
  (84, ⟨.fn, 1, 8, false, [.nilf], [none]⟩),
  (86, ⟨.fn, 1, 8, false, [.nilf], [none]⟩),
  (87, ⟨.fn, 1, 8, false, [.nilf], [none]⟩),
  (88, ⟨.fn, 1, 8, false, [.nilf], [none]⟩),
  (89, ⟨.fn, 1, 8, false, [.nilf], [none]⟩),
  (90, ⟨.fn, 1, 8, false, [.nilf], [none]⟩),
  (91, ⟨.fn, 1, 8, false, [.nilf], [none]⟩),
  (92, ⟨.fn, 1, 8, false, [.nilf], [none]⟩),
  (93, ⟨.fn, 1, 8, false, [.nilf], [none]⟩),
  (94, ⟨.fn, 1, 8, false, [.nilf], [none]⟩),
  (95, ⟨.fn, 1, 8, false, [.nilf], [none]⟩),
  (96, ⟨.fn, 1, 8, false, [.nilf], [none]⟩),
  (100, ⟨.st [(0, 1, false), (1, 1, false), (2, 1, false)] false, 3, 24, true, [.nilp, .nilp, .int .u64 0], [none, none, none]⟩),
  (101, ⟨.fn, 1, 8, false, [.nilf], [none]⟩),
  (102, ⟨.fn, 1, 8, false, [.nilf], [none]⟩),
  (103, ⟨.fn, 1, 8, false, [.nilf], [none]⟩),
  (104, ⟨.fn, 1, 8, false, [.nilf], [none]⟩),
  (106, ⟨.st [(0, 1, false), (1, 1, false)] false, 2, 16, true, [.nilf, .nilf], [none, none]⟩),
  (107, ⟨.fn, 1, 8, false, [.nilf], [none]⟩),
  (109, ⟨.st [(0, 1, false), (1, 1, false)] false, 2, 32, true, [.nil, .int .i64 0], [some (.int .u8), none]⟩),
  (110, ⟨.fn, 1, 8, false, [.nilf], [none]⟩),
  (111, ⟨.sl (.bool) 4, 1, 24, false, [.nil], [some (.bool)]⟩),
  (112, ⟨.fn, 1, 8, false, [.nilf], [none]⟩),
  (113, ⟨.sl (.ints) 24, 1, 24, false, [.nil], [some (.ints)]⟩),
  (114, ⟨.fn, 1, 8, false, [.nilf], [none]⟩),
  (115, ⟨.fn, 1, 8, false, [.nilf], [none]⟩),
  (116, ⟨.fn, 1, 8, false, [.nilf], [none]⟩),
  (117, ⟨.fn, 1, 8, false, [.nilf], [none]⟩),
  (118, ⟨.fn, 1, 8, false, [.nilf], [none]⟩),
  (119, ⟨.fn, 1, 8, false, [.nilf], [none]⟩),
  (120, ⟨.fn, 1, 8, false, [.nilf], [none]⟩),
  (121, ⟨.fn, 1, 8, false, [.nilf], [none]⟩),
  (123, ⟨.fn, 1, 8, false, [.nilf], [none]⟩),
  (126, ⟨.ptr, 1, 8, false, [.nilp], [none]⟩),
  (127, ⟨.fn, 1, 8, false, [.nilf], [none]⟩),
  (128, ⟨.fn, 1, 8, false, [.nilf], [none]⟩),
  (129, ⟨.sl (.str) 9, 1, 24, false, [.nil], [some (.str)]⟩),
  (130, ⟨.fn, 1, 8, false, [.nilf], [none]⟩),
  (131, ⟨.fn, 1, 8, false, [.nilf], [none]⟩),
  (132, ⟨.fn, 1, 8, false, [.nilf], [none]⟩),
  (133, ⟨.fn, 1, 8, false, [.nilf], [none]⟩),
  (135, ⟨.fn, 1, 8, false, [.nilf], [none]⟩),
  (137, ⟨.fn, 1, 8, false, [.nilf], [none]⟩),
  (138, ⟨.int .u64, 1, 8, false, [.int .u64 0], [none]⟩),
  (139, ⟨.fn, 1, 8, false, [.nilf], [none]⟩),
  (140, ⟨.fn, 1, 8, false, [.nilf], [none]⟩),
  (141, ⟨.fn, 1, 8, false, [.nilf], [none]⟩),
  (147, ⟨.int .u32, 1, 4, false, [.int .u32 0], [none]⟩),
  (150, ⟨.fn, 1, 8, false, [.nilf], [none]⟩),
  (151, ⟨.ptr, 1, 8, false, [.nilp], [none]⟩)]
theorem tabOk : TabOk Try.prog tab :=
  (.cons (ty_fn (by kernel_rfl) Try.underlying1)
  (.cons (ty_int .i64 (by kernel_rfl) Try.underlying2)
  (.cons (ty_int .i64 (by kernel_rfl) Try.underlying3)
  (.cons (ty_bool (by kernel_rfl) Try.underlying4)
  (.cons (ty_int .u8 (by kernel_rfl) Try.underlying5)
  (.cons (ty_str (by kernel_rfl) Try.underlying9)
  (.cons (ty_ptr (by kernel_rfl) Try.underlying15)
  (.cons (ty_ptr (by kernel_rfl) Try.underlying16)
  (.cons (ty_ptr (by kernel_rfl) Try.underlying17)
  (.cons (ty_int .i32 (by kernel_rfl) Try.underlying21)
  (.cons (ty_sl (.mv) (b' := 56) (by kernel_rfl) Try.underlying22 (by kernel_rfl) (zero_mv) True.intro)
  (.cons (ty_fn (by kernel_rfl) Try.underlying23)
  (.cons (ty_sl (.int .i64) (b' := 8) (by kernel_rfl) Try.underlying24 (by kernel_rfl) (zero_int _) Try.underlying3)
  (.cons (ty_fn (by kernel_rfl) Try.underlying25)
  (.cons (ty_sl (.mv) (b' := 56) (by kernel_rfl) Try.underlying26 (by kernel_rfl) (zero_mv) True.intro)
  (.cons (ty_fn (by kernel_rfl) Try.underlying27)
  (.cons (ty_fn (by kernel_rfl) Try.underlying28)
  (.cons (ty_fn (by kernel_rfl) Try.underlying29)
  (.cons (ty_fn (by kernel_rfl) Try.underlying30)
  (.cons (ty_fn (by kernel_rfl) Try.underlying31)
  (.cons (ty_fn (by kernel_rfl) Try.underlying32)
  (.cons (ty_sl (.int .u8) (b' := 1) (by kernel_rfl) Try.underlying33 (by kernel_rfl) (zero_int _) Try.underlying5)
  (.cons (ty_fn (by kernel_rfl) Try.underlying35)
  (.cons (ty_fn (by kernel_rfl) Try.underlying37)
  (.cons (ty_fn (by kernel_rfl) Try.underlying38)
  (.cons (ty_fn (by kernel_rfl) Try.underlying39)
  (.cons (ty_fn (by kernel_rfl) Try.underlying40)
  (.cons (ty_fn (by kernel_rfl) Try.underlying41)
  (.cons (ty_fn (by kernel_rfl) Try.underlying42)
  (.cons (ty_fn (by kernel_rfl) Try.underlying44)
  (.cons (ty_fn (by kernel_rfl) Try.underlying46)
  (.cons (ty_fn (by kernel_rfl) Try.underlying47)
  (.cons (ty_st (z := .agg #[.int .i64 0, .int .i64 0, .slice none 0 0, .slice none 0 0]) (by kernel_rfl) (fun μ w G => by simp [repAs, repA, Value.cells]) rfl Try.underlying49 (by kernel_rfl) (by kernel_rfl))
  (.cons (ty_fn (by kernel_rfl) Try.underlying50)
  (.cons (ty_fn (by kernel_rfl) Try.underlying51)
  (.cons (ty_st (z := .agg #[.int .i64 0, .int .i64 0, .slice none 0 0, .slice none 0 0]) (by kernel_rfl) (fun μ w G => by simp [repAs, repA, Value.cells]) rfl Try.underlying53 (by kernel_rfl) (by kernel_rfl))
  (.cons (ty_fn (by kernel_rfl) Try.underlying54)
  (.cons (ty_fn (by kernel_rfl) Try.underlying55)
  (.cons (ty_fn (by kernel_rfl) Try.underlying56)
  (.cons (ty_fn (by kernel_rfl) Try.underlying58)
  (.cons (ty_fn (by kernel_rfl) Try.underlying59)
  (.cons (ty_fn (by kernel_rfl) Try.underlying60)
  (.cons (ty_fn (by kernel_rfl) Try.underlying61)
  (.cons (ty_mv (by kernel_rfl) Try.underlying63 (by kernel_rfl) (by kernel_rfl) (by kernel_rfl) (by kernel_rfl) Try.underlying9 Try.underlying4 Try.underlying3 Try.underlying3 Try.underlying3 Try.underlying3)
  (.cons (ty_fn (by kernel_rfl) Try.underlying64)
  (.cons (ty_fn (by kernel_rfl) Try.underlying65)
  (.cons (ty_mv (by kernel_rfl) Try.underlying66 (by kernel_rfl) (by kernel_rfl) (by kernel_rfl) (by kernel_rfl) Try.underlying9 Try.underlying4 Try.underlying3 Try.underlying3 Try.underlying3 Try.underlying3)
  (.cons (ty_fn (by kernel_rfl) Try.underlying67)
  (.cons (ty_fn (by kernel_rfl) Try.underlying68)
  (.cons (ty_fn (by kernel_rfl) Try.underlying69)
  (.cons (ty_fn (by kernel_rfl) Try.underlying70)
  (.cons (ty_fn (by kernel_rfl) Try.underlying71)
  (.cons (ty_fn (by kernel_rfl) Try.underlying72)
  (.cons (ty_ptr (by kernel_rfl) Try.underlying73)
  (.cons (ty_fn (by kernel_rfl) Try.underlying74)
  (.cons (ty_fn (by kernel_rfl) Try.underlying75)
  (.cons (ty_fn (by kernel_rfl) Try.underlying76)
  (.cons (ty_fn (by kernel_rfl) Try.underlying77)
  (.cons (ty_fn (by kernel_rfl) Try.underlying78)
  (.cons (ty_fn (by kernel_rfl) Try.underlying79)
  (.cons (ty_fn (by kernel_rfl) Try.underlying80)
  (.cons (ty_fn (by kernel_rfl) Try.underlying81)
  (.cons (ty_fn (by kernel_rfl) Try.underlying82)
  (.cons (ty_fn (by kernel_rfl) Try.underlying83)
  (.cons (ty_fn (by kernel_rfl) Try.underlying84)
  (.cons (ty_fn (by kernel_rfl) Try.underlying86)
  (.cons (ty_fn (by kernel_rfl) Try.underlying87)
  (.cons (ty_fn (by kernel_rfl) Try.underlying88)
  (.cons (ty_fn (by kernel_rfl) Try.underlying89)
  (.cons (ty_fn (by kernel_rfl) Try.underlying90)
  (.cons (ty_fn (by kernel_rfl) Try.underlying91)
  (.cons (ty_fn (by kernel_rfl) Try.underlying92)
  (.cons (ty_fn (by kernel_rfl) Try.underlying93)
  (.cons (ty_fn (by kernel_rfl) Try.underlying94)
  (.cons (ty_fn (by kernel_rfl) Try.underlying95)
  (.cons (ty_fn (by kernel_rfl) Try.underlying96)
  (.cons (ty_st (z := .agg #[.pointer none, .pointer none, .int .u64 0]) (by kernel_rfl) (fun μ w G => by simp [repAs, repA, Value.cells]) rfl Try.underlying100 (by kernel_rfl) (by kernel_rfl))
  (.cons (ty_fn (by kernel_rfl) Try.underlying101)
  (.cons (ty_fn (by kernel_rfl) Try.underlying102)
  (.cons (ty_fn (by kernel_rfl) Try.underlying103)
  (.cons (ty_fn (by kernel_rfl) Try.underlying104)
  (.cons (ty_st (z := .agg #[.nilFunc, .nilFunc]) (by kernel_rfl) (fun μ w G => by simp [repAs, repA, Value.cells]) rfl Try.underlying106 (by kernel_rfl) (by kernel_rfl))
  (.cons (ty_fn (by kernel_rfl) Try.underlying107)
  (.cons (ty_st (z := .agg #[.slice none 0 0, .int .i64 0]) (by kernel_rfl) (fun μ w G => by simp [repAs, repA, Value.cells]) rfl Try.underlying109 (by kernel_rfl) (by kernel_rfl))
  (.cons (ty_fn (by kernel_rfl) Try.underlying110)
  (.cons (ty_sl (.bool) (b' := 1) (by kernel_rfl) Try.underlying111 (by kernel_rfl) (zero_bool) True.intro)
  (.cons (ty_fn (by kernel_rfl) Try.underlying112)
  (.cons (ty_sl (.ints) (b' := 24) (by kernel_rfl) Try.underlying113 (by kernel_rfl) (zero_ints) True.intro)
  (.cons (ty_fn (by kernel_rfl) Try.underlying114)
  (.cons (ty_fn (by kernel_rfl) Try.underlying115)
  (.cons (ty_fn (by kernel_rfl) Try.underlying116)
  (.cons (ty_fn (by kernel_rfl) Try.underlying117)
  (.cons (ty_fn (by kernel_rfl) Try.underlying118)
  (.cons (ty_fn (by kernel_rfl) Try.underlying119)
  (.cons (ty_fn (by kernel_rfl) Try.underlying120)
  (.cons (ty_fn (by kernel_rfl) Try.underlying121)
  (.cons (ty_fn (by kernel_rfl) Try.underlying123)
  (.cons (ty_ptr (by kernel_rfl) Try.underlying126)
  (.cons (ty_fn (by kernel_rfl) Try.underlying127)
  (.cons (ty_fn (by kernel_rfl) Try.underlying128)
  (.cons (ty_sl (.str) (b' := 16) (by kernel_rfl) Try.underlying129 (by kernel_rfl) (zero_str) True.intro)
  (.cons (ty_fn (by kernel_rfl) Try.underlying130)
  (.cons (ty_fn (by kernel_rfl) Try.underlying131)
  (.cons (ty_fn (by kernel_rfl) Try.underlying132)
  (.cons (ty_fn (by kernel_rfl) Try.underlying133)
  (.cons (ty_fn (by kernel_rfl) Try.underlying135)
  (.cons (ty_fn (by kernel_rfl) Try.underlying137)
  (.cons (ty_int .u64 (by kernel_rfl) Try.underlying138)
  (.cons (ty_fn (by kernel_rfl) Try.underlying139)
  (.cons (ty_fn (by kernel_rfl) Try.underlying140)
  (.cons (ty_fn (by kernel_rfl) Try.underlying141)
  (.cons (ty_int .u32 (by kernel_rfl) Try.underlying147)
  (.cons (ty_fn (by kernel_rfl) Try.underlying150)
  (.cons (ty_ptr (by kernel_rfl) Try.underlying151) .nil))))))))))))))))))))))))))))))))))))))))))))))))))))))))))))))))))))))))))))))))))))))))))))))))))))))))))))))))))
theorem mixed : Try.prog.follows .mixedOrders = true := by kernel_rfl
end Go.Proofs.Ytmppoajepbbmiaa.AM

/- What all walks of this seat share; no condition. -/
namespace Go.Proofs.Ytmppoajepbbmiaa.AM
open Go.AM Go.RowKit
set_option linter.unusedVariables false
set_option maxRecDepth 100000

/-- What a call hands over for good. -/
def sigs : List (Nat × List Bool) := [
  (18, [true]),
  (17, [true]),
  (40, [true]),
  (52, [true, true]),
  (92, [true]),
  (93, [true]),
  (127, [true, true]),
  (132, [true, true]),
  (111, [true, true]),
  (89, [true]),
  (90, [true]),
  (0, [])]
def sig (f : FuncId) : List Bool := match lk f sigs with
  | some l => l
  | none => []
noncomputable def mk (f : Func) (m : Nat) : FnI := ⟨tab, sig, bodyOf f, f.results.toList, m, f.ntmps⟩
noncomputable abbrev P := Try.prog
theorem in_ok (a b c : Int) : Ok P 66 [.one (.int .i64 a), .one (.int .i64 b), .one (.int .i64 c)] [] (.one (.bool (decide (b ≤ a ∧ a ≤ c)))) [] := by
  refine Ok.of_run (F := mk Try.f66 0) Try.func66 rfl rfl tabOk mixed rfl rfl rfl rfl rfl (Nat.le_of_ble_eq_true rfl) (Nat.le_of_ble_eq_true rfl) (.go 5000 ?_)
  repeat' (conv => arg 4; whnf); first | refine Run.ret ⟨?_, rfl⟩ | refine Run.condT ?_ | refine Run.condf ?_ | refine Run.condD (fun h => ?_) (fun h => ?_) | refine Run.condN (fun h => ?_) (fun h => ?_) | refine Run.condE (fun h => ?_) (fun h => ?_) | refine Run.condF (fun h => ?_) (fun h => ?_) | refine Run.condM (fun h => ?_) (fun h => ?_) | refine Run.condB (fun h => ?_) (fun h => ?_) | refine Run.check1 ?_
  · simp [h]
  · simp [h]
end Go.Proofs.Ytmppoajepbbmiaa.AM

/- Plain models: moves that are ok, gaps; no condition. -/
namespace Go.AM
set_option linter.unusedVariables false
set_option linter.unusedSimpArgs false
open Go.RowKit

theorem wrap_eq {x : Int} (h : -9223372036854775808 ≤ x) (h' : x ≤ 9223372036854775807) : wrap64 x = x := by unfold wrap64; omega
def okB (c : Int) : Bool := decide (97 ≤ c ∧ c ≤ 122 ∨ 48 ≤ c ∧ c ≤ 57 ∨ c = 45)
def allB (s : ByteArray) : Nat → Int → Bool
  | 0, _ => true
  | d + 1, i => okB (bt s i) && allB s d (i + 1)
theorem allB_succ (s : ByteArray) (d : Nat) (i : Int) : allB s (d + 1) i = (okB (bt s i) && allB s d (i + 1)) := rfl
def nameOk (s : ByteArray) : Bool := decide (1 ≤ s.size ∧ s.size ≤ 8) && allB s s.size 0
/-- What a move's other parts must be. -/
def MoveP (m : Mv) : Prop := 1 ≤ m.f2 ∧ m.f2 ≤ 3 ∧ 0 ≤ m.f3 ∧ m.f3 ≤ m.f4 ∧ m.f4 ≤ 10000 ∧ (m.f5 = -1 ∨ m.f3 ≤ m.f5 ∧ m.f5 ≤ m.f4)
instance (m : Mv) : Decidable (MoveP m) := by unfold MoveP; infer_instance
def mvOk (m : Mv) : Bool := nameOk m.f0 && decide (MoveP m)
def gap (a b : Mv) : Int := (if a.f1 = true then 2 else 1) + (if 1 ≤ a.f2 ∧ a.f2 ≤ 3 ∧ 1 ≤ b.f2 ∧ b.f2 ≤ 3 ∧ b.f2 < a.f2 then a.f2 - b.f2 else 0)
theorem gap_range (a b : Mv) : 1 ≤ gap a b ∧ gap a b ≤ 4 := by
  unfold gap
  split <;> split <;> omega

theorem vb {b c : Bool} (h : b = true ↔ c = true) : V.one (A.bool b) = V.one (A.bool c) := by rw [Bool.eq_iff_iff.mpr h]
theorem vi {k : IntKind} {a b : Int} (h : a = b) : V.one (A.int k a) = V.one (A.int k b) := by rw [h]
theorem mvOk_true {m : Mv} : mvOk m = true ↔ nameOk m.f0 = true ∧ 1 ≤ m.f2 ∧ m.f2 ≤ 3 ∧ 0 ≤ m.f3 ∧ m.f3 ≤ m.f4 ∧ m.f4 ≤ 10000 ∧ (m.f5 = -1 ∨ m.f3 ≤ m.f5 ∧ m.f5 ≤ m.f4) := by
  simp only [mvOk, Bool.and_eq_true, decide_eq_true_eq]
  rfl
theorem nameOk_true {s : ByteArray} : nameOk s = true ↔ (1 ≤ s.size ∧ s.size ≤ 8) ∧ allB s s.size 0 = true := by
  simp only [nameOk, Bool.and_eq_true, decide_eq_true_eq]
end Go.AM

/- Plain models: moves that are ok together, ticks that fit, costs; no condition. -/
namespace Go.AM
set_option linter.unusedVariables false
set_option linter.unusedSimpArgs false
open Go.RowKit

def at' (l : List Mv) (i : Nat) : Mv := l.getD i Mv.z
def tk (t : List Int) (i : Nat) : Int := t.getD i 0
theorem rdM_nat (l : List Mv) (i : Nat) : rdM l (i : Int) = at' l i := by simp [rdM, at']
theorem rd_nat (l : List Int) (i : Nat) : rd l (i : Int) = tk l i := by simp [rd, tk]
def ltN (a b : ByteArray) : Bool := Op.bytesLess a.toList b.toList
/-- Place i is ok, and above the one ahead. -/
def OkAt (l : List Mv) (i : Nat) : Prop := mvOk (at' l i) = true ∧ (0 < i → ltN (at' l (i - 1)).f0 (at' l i).f0 = true)
instance (l : List Mv) (i : Nat) : Decidable (OkAt l i) := by unfold OkAt; infer_instance
def MovesOk (l : List Mv) : Prop := l.length ≤ 6 ∧ ∀ i, i < l.length → OkAt l i
instance (l : List Mv) : Decidable (MovesOk l) := by unfold MovesOk; infer_instance
def W64 (n : Int) : Prop := -9223372036854775808 ≤ n ∧ n ≤ 9223372036854775807
def TkWf (t : List Int) : Prop := ∀ i, i < t.length → W64 (tk t i)
/-- Tick i is within its move's bounds. -/
def InR (l : List Mv) (t : List Int) (i : Nat) : Prop := ((at' l i).f3 ≤ tk t i ∧ tk t i ≤ (at' l i).f4) ∧ (0 ≤ (at' l i).f5 → tk t i = (at' l i).f5)
/-- Place k is far enough behind place i, if it is behind. -/
def Ap (l : List Mv) (t : List Int) (i k : Nat) : Prop := tk t i ≠ tk t k ∧ (tk t i < tk t k → gap (at' l i) (at' l k) ≤ tk t k - tk t i)
instance (l : List Mv) (t : List Int) (i : Nat) : Decidable (InR l t i) := by unfold InR; infer_instance
instance (l : List Mv) (t : List Int) (i k : Nat) : Decidable (Ap l t i k) := by unfold Ap; infer_instance
def FitsAt (l : List Mv) (t : List Int) (i : Nat) : Prop := InR l t i ∧ ∀ k, k < l.length → k ≠ i → Ap l t i k
instance (l : List Mv) (t : List Int) (i : Nat) : Decidable (FitsAt l t i) := by unfold FitsAt; infer_instance
def Fits (l : List Mv) (t : List Int) : Prop := MovesOk l ∧ t.length = l.length ∧ ∀ i, i < l.length → FitsAt l t i
instance (l : List Mv) (t : List Int) : Decidable (Fits l t) := by unfold Fits; infer_instance
theorem mvOk_range {m : Mv} (h : mvOk m = true) : 1 ≤ m.f0.size ∧ m.f0.size ≤ 8 ∧ 1 ≤ m.f2 ∧ m.f2 ≤ 3 ∧ 0 ≤ m.f3 ∧ m.f3 ≤ m.f4 ∧ m.f4 ≤ 10000 ∧ (m.f5 = -1 ∨ m.f3 ≤ m.f5 ∧ m.f5 ≤ m.f4) := by
  rw [mvOk_true, nameOk_true] at h
  exact ⟨h.1.1.1, h.1.1.2, h.2⟩
/-- What the reference asks at a place. -/
def FitsSp (l : List Mv) (t : List Int) (i : Nat) : Prop := InR l t i ∧ ∀ k, k < i → Ap l t k i ∧ Ap l t i k
theorem fitsSp_iff (l : List Mv) (t : List Int) : (∀ i, i < l.length → FitsSp l t i) ↔ ∀ i, i < l.length → FitsAt l t i := by
  constructor
  · intro h i hi
    refine ⟨(h i hi).1, fun k hk hne => ?_⟩
    rcases Nat.lt_or_ge k i with hlt | hge
    · exact ((h i hi).2 k hlt).2
    · exact ((h k hk).2 i (by omega)).1
  · intro h i hi
    exact ⟨(h i hi).1, fun k hk => ⟨(h k (by omega)).2 i hi (by omega), (h i hi).2 k (by omega) (by omega)⟩⟩
theorem fits_no {l : List Mv} {t : List Int} (h : ¬ Fits l t) : V.one (A.bool false) = V.one (A.bool (decide (Fits l t))) := by rw [decide_eq_false h]
theorem fits_yes {l : List Mv} {t : List Int} (h : Fits l t) : V.one (A.bool true) = V.one (A.bool (decide (Fits l t))) := by rw [decide_eq_true h]

theorem inR_range {l : List Mv} {t : List Int} {i : Nat} (hm : MovesOk l) (hi : i < l.length) (h : InR l t i) : 0 ≤ tk t i ∧ tk t i ≤ 10000 := by
  have hmi := mvOk_range (hm.2 i hi).1
  have hir := h.1
  omega

/-- d steps from place i on. -/
def foldFrom {σ : Type} (step : Nat → σ → σ) : Nat → Nat → σ → σ
  | _, 0, s => s
  | i, d + 1, s => foldFrom step (i + 1) d (step i s)
theorem foldFrom_last {σ : Type} (step : Nat → σ → σ) (d : Nat) : ∀ i s, foldFrom step i (d + 1) s = step (i + d) (foldFrom step i d s) := by
  induction d with
  | zero => intro i s; rfl
  | succ d ih =>
    intro i s
    show foldFrom step (i + 1) (d + 1) (step i s) = _
    rw [ih, show i + 1 + d = i + (d + 1) by omega]
    rfl
theorem foldFrom_inv {σ : Type} {step : Nat → σ → σ} (I : Nat → σ → Prop) {n : Nat} (hI : ∀ i s, i < n → I i s → I (i + 1) (step i s)) : ∀ d i s, i + d ≤ n → I i s → I (i + d) (foldFrom step i d s) := by
  intro d
  induction d with
  | zero => intro i s _ h; exact h
  | succ d ih =>
    intro i s hd h
    have := ih (i + 1) (step i s) (by omega) (hI i s (by omega) h)
    rwa [show i + 1 + d = i + (d + 1) by omega] at this
theorem foldFrom_congr {σ : Type} {f g : Nat → σ → σ} : ∀ d i s, (∀ j s, i ≤ j → j < i + d → f j s = g j s) → foldFrom f i d s = foldFrom g i d s := by
  intro d
  induction d with
  | zero => intro i s _; rfl
  | succ d ih =>
    intro i s h
    show foldFrom f (i + 1) d (f i s) = foldFrom g (i + 1) d (g i s)
    rw [h i s (Nat.le_refl _) (by omega)]
    exact ih _ _ fun j s h1 h2 => h j s (by omega) (by omega)
/-- How late a place is. -/
def dl (l : List Mv) (t : List Int) (i : Nat) : Int := tk t i - (at' l i).f3
def cStep (l : List Mv) (t : List Int) (i : Nat) (s : Int × Int) : Int × Int := (s.1 + dl l t i, max s.2 (dl l t i))
def costM (l : List Mv) (t : List Int) : Int × Int := foldFrom (cStep l t) 0 l.length (0, 0)
def CInv (i : Nat) (s : Int × Int) : Prop := 0 ≤ s.1 ∧ s.1 ≤ (i : Int) * 10000 ∧ 0 ≤ s.2 ∧ s.2 ≤ 10000
theorem cInv_step {l : List Mv} {t : List Int} {i : Nat} {s : Int × Int} (hd : 0 ≤ dl l t i ∧ dl l t i ≤ 10000) (h : CInv i s) : CInv (i + 1) (cStep l t i s) := by
  unfold CInv cStep at *
  dsimp only
  omega
/-- What holds of moves and ticks that are not ahead of them. -/
def DlOk (l : List Mv) (t : List Int) : Prop := t.length = l.length ∧ l.length ≤ 6 ∧ ∀ i, i < l.length → 0 ≤ dl l t i ∧ dl l t i ≤ 10000
theorem fits_dl {l : List Mv} {t : List Int} (h : Fits l t) : DlOk l t := by
  refine ⟨h.2.1, h.1.1, fun i hi => ?_⟩
  have hmi := mvOk_range (h.1.2 i hi).1
  have hir := (h.2.2 i hi).1.1
  unfold dl
  omega
theorem costM_inv {l : List Mv} {t : List Int} (h : DlOk l t) : CInv l.length (costM l t) := by
  have := foldFrom_inv (step := cStep l t) CInv (n := l.length) (fun i s hi hs => cInv_step (h.2.2 i hi) hs) l.length 0 (0, 0) (by omega) (by unfold CInv; simp)
  simpa [costM] using this
def costF (l : List Mv) (t : List Int) : Int × Int := if Fits l t then costM l t else (0, 0)
def ap2 (a : Mv) (s : Int) (b : Mv) (t : Int) : Prop := s ≠ t ∧ (s < t → gap a b ≤ t - s) ∧ (t < s → gap b a ≤ s - t)
instance (a : Mv) (s : Int) (b : Mv) (t : Int) : Decidable (ap2 a s b t) := by unfold ap2; infer_instance
end Go.AM

/- Plain models: what the exact laws' helpers do; no condition. -/
namespace Go.AM
set_option linter.unusedVariables false
set_option linter.unusedSimpArgs false
open Go.RowKit

theorem list_eq_getD {α : Type} {a b : List α} (d : α) (hl : a.length = b.length) (h : ∀ j, j < a.length → a.getD j d = b.getD j d) : a = b := by
  refine List.ext_getElem hl fun j h1 h2 => ?_
  have := h j h1
  simpa [List.getD_eq_getElem?_getD, List.getElem?_eq_getElem h1, List.getElem?_eq_getElem h2] using this
theorem getD_set {α : Type} (s : List α) (d : α) (i j : Nat) (x : α) : (s.set i x).getD j d = if i = j ∧ j < s.length then x else s.getD j d := by
  simp only [List.getD_eq_getElem?_getD, List.getElem?_set]
  by_cases h : i = j
  · subst h
    by_cases h2 : i < s.length
    · simp [h2]
    · simp [h2]
  · simp [h]
/-- The first i places have been copied. -/
def Cp {α : Type} (d : α) (t s : List α) (i : Nat) : Prop := s.length = t.length ∧ ∀ j, j < i → s.getD j d = t.getD j d
theorem cp_step {α : Type} {d : α} {t s : List α} {i : Nat} (h : Cp d t s i) (hi : i < t.length) : Cp d t (s.set i (t.getD i d)) (i + 1) := by
  refine ⟨by simpa using h.1, fun j hj => ?_⟩
  rw [getD_set]
  split
  · rename_i e; rw [e.1]
  · rename_i e
    refine h.2 j ?_
    have := h.1
    rcases Nat.lt_or_ge j i with h1 | h1
    · exact h1
    · exact absurd ⟨by omega, by omega⟩ e
theorem cp_end {α : Type} {d : α} {t s : List α} {i : Nat} (h : Cp d t s i) (hi : t.length ≤ i) : s = t := list_eq_getD d h.1 fun j hj => h.2 j (by have := h.1; omega)
def szM (m : Mv) (left : Int) : Int := if left - m.f0.size < 0 then -1 else left - m.f0.size
def szFrom (l : List Mv) : Nat → Nat → Int → Int
  | 0, _, s => s
  | d + 1, i, s => if szM (at' l i) s < 0 then -1 else szFrom l d (i + 1) (szM (at' l i) s)
def szMs (l : List Mv) (left : Int) : Int := if left - l.length < 0 then -1 else szFrom l l.length 0 (left - l.length)
def szIs (l : List Int) (left : Int) : Int := if left - l.length < 0 then -1 else left - l.length
theorem szM_le {m : Mv} {left : Int} (h : 0 ≤ left) : szM m left ≤ left := by unfold szM; split <;> omega
theorem szFrom_le {l : List Mv} : ∀ (d i : Nat) (s : Int), 0 ≤ s → szFrom l d i s ≤ s
  | 0, i, s, _ => Int.le_refl _
  | d + 1, i, s, h => by
    unfold szFrom
    split
    · omega
    · have := szFrom_le (l := l) d (i + 1) (szM (at' l i) s) (by omega)
      have := szM_le (m := at' l i) h
      omega
theorem szMs_le {l : List Mv} {left : Int} (h : 0 ≤ left) : szMs l left ≤ left ∧ (0 ≤ szMs l left → (l.length : Int) ≤ left) := by
  unfold szMs
  split
  · omega
  · have := szFrom_le (l := l) l.length 0 (left - l.length) (by omega)
    omega

/-- A book. -/
structure Bk where
  now : Int
  shift : Int
  ms : List Mv
  ts : List Int
/-- A book whose lists are only read; a book whose lists are its own. -/
def Bk.lent (b : Bk) : V := .agg [.int .i64 b.now, .int .i64 b.shift, .lst .mv b.ms false, .lst (.int .i64) b.ts false]
def Bk.own (b : Bk) (l l' : L) : V := .agg [.int .i64 b.now, .int .i64 b.shift, .own l, .own l']
def szB (b : Bk) (left : Int) : Int := if szMs b.ms left < 0 then -1 else if szIs b.ts (szMs b.ms left) < 0 then -1 else szIs b.ts (szMs b.ms left)
theorem szB_le {b : Bk} {left : Int} (h : 0 ≤ left) (h' : ¬ szB b left < 0) : (b.ms.length : Int) ≤ left ∧ (b.ts.length : Int) ≤ left := by
  have := szMs_le (l := b.ms) h
  unfold szB szIs at h'
  split at h'
  · omega
  · split at h'
    · omega
    · rename_i h1 h2
      first | omega | (split at h2 <;> omega)
end Go.AM

/- Plain models: books that are ok; no condition. -/
namespace Go.AM
set_option linter.unusedVariables false
set_option linter.unusedSimpArgs false
open Go.RowKit

def SoonAt (b : Bk) (i : Nat) : Prop := b.now ≤ tk b.ts i ∧ (tk b.ts i < b.now + 4 → 0 ≤ (at' b.ms i).f5)
instance (b : Bk) (i : Nat) : Decidable (SoonAt b i) := by unfold SoonAt; infer_instance
def BkOk (b : Bk) : Prop := (0 ≤ b.now ∧ b.now ≤ 10000) ∧ (0 ≤ b.shift ∧ b.shift ≤ 6) ∧ Fits b.ms b.ts ∧ ∀ i, i < b.ts.length → SoonAt b i
instance (b : Bk) : Decidable (BkOk b) := by unfold BkOk; infer_instance
theorem bk_no {b : Bk} (h : ¬ BkOk b) : V.one (A.bool false) = V.one (A.bool (decide (BkOk b))) := by rw [decide_eq_false h]
theorem bk_yes {b : Bk} (h : BkOk b) : V.one (A.bool true) = V.one (A.bool (decide (BkOk b))) := by rw [decide_eq_true h]

/-- What a tick does to a move. -/
def soon (now : Int) (m : Mv) (t : Int) : Mv := if t < now + 1 + 4 then { m with f5 := t } else m
def tickStep (b : Bk) (i : Nat) (s : List Mv × List Int × List ByteArray) : List Mv × List Int × List ByteArray :=
  if tk b.ts i = b.now then (s.1, s.2.1, s.2.2 ++ [(at' b.ms i).f0]) else (s.1 ++ [soon b.now (at' b.ms i) (tk b.ts i)], s.2.1 ++ [tk b.ts i], s.2.2)
def tickF (b : Bk) : List Mv × List Int × List ByteArray := foldFrom (tickStep b) 0 b.ms.length ([], [], [])
def tickR (b : Bk) : Bk × List ByteArray × Int :=
  if BkOk b then (if b.now = 10000 then (b, [], 2) else (⟨b.now + 1, b.shift, (tickF b).1, (tickF b).2.1⟩, (tickF b).2.2, 0)) else (⟨0, 0, [], []⟩, [], 1)
def Len3 (i : Nat) (s : List Mv × List Int × List ByteArray) : Prop := s.1.length ≤ i ∧ s.2.1.length ≤ i ∧ s.2.2.length ≤ i
theorem len3_step {b : Bk} {i : Nat} {s : List Mv × List Int × List ByteArray} (h : Len3 i s) : Len3 (i + 1) (tickStep b i s) := by
  obtain ⟨h1, h2, h3⟩ := h
  unfold tickStep Len3
  split <;> simp <;> omega

theorem tickF_len (b : Bk) : Len3 b.ms.length (tickF b) := by
  have := foldFrom_inv (step := tickStep b) Len3 (n := b.ms.length) (fun i s hi hs => len3_step hs) b.ms.length 0 ([], [], []) (by omega) ⟨Nat.le_refl _, Nat.le_refl _, Nat.le_refl _⟩
  rwa [Nat.zero_add] at this
theorem tickR_len {b : Bk} (hl : b.ms.length ≤ 1048576) (ht : b.ts.length ≤ 1048576) : (tickR b).1.ms.length ≤ 1048576 ∧ (tickR b).1.ts.length ≤ 1048576 ∧ (tickR b).2.1.length ≤ 1048576 := by
  obtain ⟨h1, h2, h3⟩ := tickF_len b
  unfold tickR
  split
  · split
    · exact ⟨hl, ht, by simp⟩
    · exact ⟨by simp only; omega, by simp only; omega, by simp only; omega⟩
  · exact ⟨by simp, by simp, by simp⟩
end Go.AM

/- Plain models: orders and shifts; no condition. -/
namespace Go.AM
set_option linter.unusedVariables false
set_option linter.unusedSimpArgs false
open Go.RowKit

/-- Each of 0 to its length - 1 once. -/
def IsOrd (a : List Int) : Prop := ∀ i, i < a.length → (0 ≤ a.getD i 0 ∧ a.getD i 0 ≤ (a.length : Int) - 1) ∧ ∀ k, k < i → a.getD k 0 ≠ a.getD i 0
instance (a : List Int) : Decidable (IsOrd a) := by unfold IsOrd; infer_instance

/-- What the program's test has seen. -/
def Seen (a : List Int) (n i : Nat) (s : List Bool) : Prop := s.length = n ∧ ∀ v : Nat, v < n → (s.getD v false = true ↔ ∃ j, j < i ∧ a.getD j 0 = v)
theorem seen_set {a : List Int} {n i : Nat} {s : List Bool} (h : Seen a n i s) {v : Nat} (hv : v < n) (e : a.getD i 0 = v) : Seen a n (i + 1) (s.set v true) := by
  refine ⟨by rw [List.length_set]; exact h.1, fun u hu => ?_⟩
  have hs := h.1
  by_cases huv : u = v
  · subst huv
    constructor
    · exact fun _ => ⟨i, by omega, e⟩
    · intro _
      rw [List.getD_eq_getElem?_getD, List.getElem?_set_self (by omega)]
      rfl
  · rw [List.getD_eq_getElem?_getD, List.getElem?_set_ne (fun h => huv h.symm), ← List.getD_eq_getElem?_getD, h.2 u hu]
    constructor
    · rintro ⟨j, hj, e2⟩
      exact ⟨j, by omega, e2⟩
    · rintro ⟨j, hj, e2⟩
      by_cases hji : j = i
      · subst hji
        omega
      · exact ⟨j, by omega, e2⟩

/-- Where a value stands first from place i on, -1 if nowhere. -/
def posFrom (b : List Int) (v : Int) : Nat → Nat → Int
  | _, 0 => -1
  | i, d + 1 => if v = b.getD i 0 then (i : Int) else posFrom b v (i + 1) d
def pos (b : List Int) (v : Int) : Int := posFrom b v 0 b.length
theorem posFrom_range (b : List Int) (v : Int) : ∀ d i, i + d = b.length → (posFrom b v i d = -1 ∧ ∀ j, i ≤ j → j < b.length → b.getD j 0 ≠ v) ∨ (∃ j : Nat, posFrom b v i d = j ∧ i ≤ j ∧ j < b.length ∧ b.getD j 0 = v) := by
  intro d
  induction d with
  | zero => exact fun i hi => .inl ⟨rfl, fun j h1 h2 => absurd h1 (by omega)⟩
  | succ d ih =>
    intro i hi
    unfold posFrom
    by_cases h : v = b.getD i 0
    · rw [if_pos h]
      exact .inr ⟨i, rfl, Nat.le_refl _, by omega, h.symm⟩
    · rw [if_neg h]
      rcases ih (i + 1) (by omega) with ⟨h1, h2⟩ | ⟨j, h1, h2, h3, h4⟩
      · refine .inl ⟨h1, fun j hj hl => ?_⟩
        by_cases e : j = i
        · exact e ▸ fun h' => h h'.symm
        · exact h2 j (by omega) hl
      · exact .inr ⟨j, h1, by omega, h3, h4⟩
theorem pos_range (b : List Int) (v : Int) : (pos b v = -1 ∧ ∀ j, j < b.length → b.getD j 0 ≠ v) ∨ (∃ j : Nat, pos b v = j ∧ j < b.length ∧ b.getD j 0 = v) := by
  rcases posFrom_range b v b.length 0 (by omega) with ⟨h1, h2⟩ | ⟨j, h1, _, h3, h4⟩
  · exact .inl ⟨h1, fun j hj => h2 j (by omega) hj⟩
  · exact .inr ⟨j, h1, h3, h4⟩

/-- One step of the shift. -/
def shStep (a b : List Int) (i : Nat) (s : Int) : Int := max (max s ((i : Int) - pos b (a.getD i 0))) (pos b (a.getD i 0) - (i : Int))
def shiftM (a b : List Int) : Int := if a.length = b.length ∧ IsOrd a ∧ IsOrd b then foldFrom (shStep a b) 0 a.length 0 else -1

theorem ord_inj {b : List Int} (h : IsOrd b) {i j : Nat} (hi : i < b.length) (hj : j < b.length) (e : b.getD i 0 = b.getD j 0) : i = j := by
  rcases Nat.lt_trichotomy i j with hlt | he | hgt
  · exact absurd e ((h j hj).2 i hlt)
  · exact he
  · exact absurd e.symm ((h i hi).2 j hgt)

/-- What the reference's inner loop does with one place. -/
def shUpd (a b : List Int) (i j : Nat) (s : Int) : Int := if a.getD i 0 = b.getD j 0 then max (max s ((i : Int) - j)) ((j : Int) - i) else s
theorem shUpd_none (a b : List Int) (i : Nat) : ∀ d j s, (∀ q, j ≤ q → q < j + d → b.getD q 0 ≠ a.getD i 0) → foldFrom (shUpd a b i) j d s = s := by
  intro d
  induction d with
  | zero => exact fun _ _ _ => rfl
  | succ d ih =>
    intro j s h
    show foldFrom (shUpd a b i) (j + 1) d (shUpd a b i j s) = s
    have e : shUpd a b i j s = s := if_neg (fun e => h j (Nat.le_refl _) (by omega) e.symm)
    rw [e]
    exact ih _ _ fun q h1 h2 => h q (by omega) (by omega)
theorem foldFrom_split {σ : Type} (step : Nat → σ → σ) (d e : Nat) : ∀ i s, foldFrom step i (d + e) s = foldFrom step (i + d) e (foldFrom step i d s) := by
  induction d with
  | zero => intro i s; rw [Nat.zero_add]; rfl
  | succ d ih =>
    intro i s
    rw [show d + 1 + e = (d + e) + 1 by omega]
    show foldFrom step (i + 1) (d + e) (step i s) = _
    rw [ih, show i + 1 + d = i + (d + 1) by omega]
    rfl
theorem shUpd_all (a b : List Int) (hb : IsOrd b) (i : Nat) (hs : ∀ s, 0 ≤ s → 0 ≤ shStep a b i s) (hex : ∃ j, j < b.length ∧ b.getD j 0 = a.getD i 0) (s : Int) : foldFrom (shUpd a b i) 0 b.length s = shStep a b i s := by
  obtain ⟨j, hj, e⟩ := hex
  have hp : pos b (a.getD i 0) = j := by
    rcases pos_range b (a.getD i 0) with ⟨_, h⟩ | ⟨q, h, hq, hv⟩
    · exact absurd e (h j hj)
    · rw [h, ord_inj hb hq hj (by rw [hv, e])]
  rw [show b.length = j + (1 + (b.length - j - 1)) by omega, foldFrom_split, foldFrom_split]
  rw [shUpd_none a b i j 0 s (fun q _ h2 h => by
    have := ord_inj hb (show q < b.length by omega) hj (by rw [h, e])
    omega)]
  rw [shUpd_none a b i (b.length - j - 1) (0 + j + 1) _ (fun q h1 h2 h => by
    have := ord_inj hb (show q < b.length by omega) hj (by rw [h, e])
    omega)]
  show shUpd a b i (0 + j) s = _
  rw [Nat.zero_add]
  unfold shUpd shStep
  rw [if_pos e.symm, hp]

/-- Places below n, each once: every number below n is there. -/
theorem ord_onto {b : List Int} (h : IsOrd b) (v : Nat) (hv : v < b.length) : ∃ j, j < b.length ∧ b.getD j 0 = v := by
  classical
  by_cases hx : ∃ j, j < b.length ∧ b.getD j 0 = v
  · exact hx
  · exfalso
    let l : List Nat := b.map Int.toNat
    have hnd : l.Nodup := by
      refine List.pairwise_iff_getElem.2 ?_
      intro i j hi hj hij e
      have hjl : j < b.length := by simpa [l] using hj
      have hil : i < b.length := by omega
      have e' : (b.getD i 0).toNat = (b.getD j 0).toNat := by
        simpa [l, List.getD_eq_getElem?_getD, List.getElem?_eq_getElem hil, List.getElem?_eq_getElem hjl] using e
      have h1 := (h i hil).1
      have h2 := (h j hjl).1
      exact (h j hjl).2 i hij (by omega)
    have hsub : ∀ x ∈ l, x ∈ (List.range b.length).erase v := by
      intro x hxm
      obtain ⟨y, hy, rfl⟩ := List.mem_map.1 hxm
      obtain ⟨j, hj, e⟩ := List.getElem_of_mem hy
      have e2 : b.getD j 0 = y := by rw [List.getD_eq_getElem?_getD, List.getElem?_eq_getElem hj, e]; rfl
      have h1 := (h j hj).1
      rw [e2] at h1
      refine (List.mem_erase_of_ne (fun he => hx ⟨j, hj, ?_⟩)).2 (List.mem_range.2 (by omega))
      rw [e2, ← he]
      omega
    have hlen := List.Nodup.length_le_of_subset (l₁ := l) hnd hsub
    rw [List.length_erase_of_mem (List.mem_range.2 hv), List.length_range] at hlen
    simp [l] at hlen
    omega

end Go.AM

/- Plain models: ticks in an order; no condition. -/
namespace Go.AM
set_option linter.unusedVariables false
set_option linter.unusedSimpArgs false
open Go.RowKit

def pl (o : List Int) (i : Nat) : Nat := (o.getD i 0).toNat
def lStep (l : List Mv) (o ts : List Int) (m : Mv) (q : Nat) (t : Int) : Int := max t (tk ts (pl o q) + gap (at' l (pl o q)) m)
/-- The least tick of the move at i, behind all that come ahead. -/
def leastT (l : List Mv) (o ts : List Int) (i : Nat) : Int := foldFrom (lStep l o ts (at' l (pl o i))) 0 i (at' l (pl o i)).f3
/-- Its tick, if there is one. -/
def tickOf (m : Mv) (t : Int) : Option Int := if m.f5 ≥ 0 then (if t > m.f5 then none else if m.f5 > m.f4 then none else some m.f5) else if t > m.f4 then none else some t
def ordFrom (l : List Mv) (o : List Int) : Nat → Nat → List Int → List Int × Bool
  | 0, _, ts => (ts, true)
  | d + 1, i, ts => match tickOf (at' l (pl o i)) (leastT l o ts i) with
    | none => ([], false)
    | some t => ordFrom l o d (i + 1) (ts.set (pl o i) t)
def ordM (l : List Mv) (o : List Int) : List Int × Bool := ordFrom l o l.length 0 (List.replicate l.length 0)
def AllOk (l : List Mv) : Prop := ∀ i, i < l.length → mvOk (at' l i) = true
def Ts (n : Nat) (ts : List Int) : Prop := ts.length = n ∧ ∀ j, j < n → 0 ≤ tk ts j ∧ tk ts j ≤ 10000
theorem ts_set {n : Nat} {ts : List Int} (h : Ts n ts) (p : Nat) {t : Int} (h0 : 0 ≤ t) (h1 : t ≤ 10000) : Ts n (ts.set p t) := by
  refine ⟨by rw [List.length_set]; exact h.1, fun j hj => ?_⟩
  unfold tk
  by_cases e : p = j
  · subst e
    rw [List.getD_eq_getElem?_getD, List.getElem?_set_self (by have := h.1; omega)]
    exact ⟨h0, h1⟩
  · rw [List.getD_eq_getElem?_getD, List.getElem?_set_ne e, ← List.getD_eq_getElem?_getD]
    exact h.2 j hj
theorem tickOf_range {m : Mv} {t u : Int} (hm : mvOk m = true) (h : tickOf m t = some u) (ht : 0 ≤ t) : 0 ≤ u ∧ u ≤ 10000 ∧ m.f3 ≤ m.f4 ∧ u ≤ m.f4 ∧ t ≤ u := by
  have := mvOk_range hm
  unfold tickOf at h
  (repeat' split at h) <;> simp at h <;> omega
theorem lStep_inv {l : List Mv} {o ts : List Int} {m : Mv} {q : Nat} {t : Int} (h : 0 ≤ tk ts (pl o q) ∧ tk ts (pl o q) ≤ 10000) (ht : 0 ≤ t ∧ t ≤ 10004) : 0 ≤ lStep l o ts m q t ∧ lStep l o ts m q t ≤ 10004 ∧ t ≤ lStep l o ts m q t := by
  have := gap_range (at' l (pl o q)) m
  unfold lStep
  omega
theorem pl_lt {o : List Int} (h : IsOrd o) {i : Nat} (hi : i < o.length) : pl o i < o.length ∧ (pl o i : Int) = o.getD i 0 := by
  have := (h i hi).1
  unfold pl
  omega
theorem rdO {o : List Int} (h : IsOrd o) {i : Nat} (hi : i < o.length) : rd o (i : Int) = (pl o i : Int) := by rw [rd_nat, (pl_lt h hi).2]; rfl

def ordF (l : List Mv) (o : List Int) : List Int × Bool := if MovesOk l ∧ o.length = l.length ∧ IsOrd o then ordM l o else ([], false)
theorem movesOk_all {l : List Mv} (h : MovesOk l) : AllOk l := fun i hi => (h.2 i hi).1
theorem ordFrom_len (l : List Mv) (o : List Int) : ∀ d i ts, ts.length ≤ l.length → (ordFrom l o d i ts).1.length ≤ l.length := by
  intro d
  induction d with
  | zero => exact fun i ts h => h
  | succ d ih =>
    intro i ts h
    unfold ordFrom
    split
    · simp
    · exact ih _ _ (by rw [List.length_set]; exact h)
theorem ordF_len (l : List Mv) (o : List Int) : (ordF l o).1.length ≤ l.length := by
  unfold ordF ordM
  split
  · exact ordFrom_len l o _ _ _ (by simp)
  · simp
end Go.AM

/- Plain models: orders of texts, insertion, the order in which moves come by themselves; no condition. -/
namespace Go.AM
set_option linter.unusedVariables false
set_option linter.unusedSimpArgs false
open Go.RowKit

theorem bl_irr : ∀ x : List UInt8, Op.bytesLess x x = false
  | [] => by simp [Op.bytesLess]
  | a :: x => by simp [Op.bytesLess, bl_irr x]
theorem bl_trans : ∀ {x y z : List UInt8}, Op.bytesLess x y = true → Op.bytesLess y z = true → Op.bytesLess x z = true
  | x, y, [], _, h => by cases y <;> simp [Op.bytesLess] at h
  | x, [], _ :: _, h, _ => by cases x <;> simp [Op.bytesLess] at h
  | [], b :: y, c :: z, _, _ => by simp [Op.bytesLess]
  | a :: x, b :: y, c :: z, h1, h2 => by
    simp only [Op.bytesLess, Bool.or_eq_true, Bool.and_eq_true, decide_eq_true_eq, beq_iff_eq, UInt8.lt_iff_toNat_lt] at *
    rcases h1 with h1 | ⟨rfl, h1⟩ <;> rcases h2 with h2 | ⟨rfl, h2⟩
    · exact .inl (by omega)
    · exact .inl h1
    · exact .inl h2
    · exact .inr ⟨rfl, bl_trans h1 h2⟩
theorem bl_tri : ∀ {x y : List UInt8}, Op.bytesLess x y = false → Op.bytesLess y x = false → x = y
  | [], [], _, _ => rfl
  | [], b :: y, h, _ => by simp [Op.bytesLess] at h
  | a :: x, [], _, h => by simp [Op.bytesLess] at h
  | a :: x, b :: y, h1, h2 => by
    simp only [Op.bytesLess, Bool.or_eq_false_iff, Bool.and_eq_false_iff, decide_eq_false_iff_not, beq_eq_false_iff_ne, UInt8.lt_iff_toNat_lt] at *
    have e : a = b := UInt8.toNat_inj.1 (by omega)
    subst e
    rw [bl_tri (h1.2.resolve_left (by simp)) (h2.2.resolve_left (by simp))]
theorem ltN_irr (s : ByteArray) : ltN s s = false := bl_irr _
theorem ltN_trans {a b c : ByteArray} (h : ltN a b = true) (k : ltN b c = true) : ltN a c = true := bl_trans h k
theorem ltN_asymm {a b : ByteArray} (h : ltN a b = true) : ltN b a = false := by
  cases k : ltN b a with
  | false => rfl
  | true => have := ltN_trans h k; rw [ltN_irr] at this; cases this
theorem toList_inj {a b : ByteArray} (h : a.toList = b.toList) : a = b := by
  have h1 : (a == b) = true := by rw [beq_toListBytes, h]; simp
  have h2 : (a.data == b.data) = true := h1
  exact ByteArray.ext (eq_of_beq h2)
theorem ltN_tri {a b : ByteArray} (h : ltN a b = false) (k : ltN b a = false) : a = b := toList_inj (bl_tri h k)
theorem ltN_le {a b : ByteArray} : (ltN a b || a.toList == b.toList) = !ltN b a := by
  cases h : ltN a b with
  | true => rw [ltN_asymm h]; rfl
  | false =>
    cases k : ltN b a with
    | true =>
      have : (a.toList == b.toList) = false := by
        rw [beq_eq_false_iff_ne]
        intro e
        rw [toList_inj e, ltN_irr] at k
        cases k
      rw [this]; rfl
    | false =>
      rw [ltN_tri h k]; simp

/-- Insertion behind all that 'p' tells. -/
def insA {α : Type} (p : α → Bool) (x : α) : List α → List α
  | [] => [x]
  | y :: ys => if p y = true then y :: insA p x ys else x :: y :: ys
theorem insA_at {α : Type} {p : α → Bool} {x d : α} : ∀ {ys : List α} {k : Nat}, k ≤ ys.length → (∀ q, q < k → p (ys.getD q d) = true) → (k < ys.length → p (ys.getD k d) = false) → insA p x ys = ys.take k ++ x :: ys.drop k
  | [], k, hk, _, _ => by simp [insA]
  | y :: ys, 0, hk, _, h => by
    have := h (by simp)
    simp only [List.getD_cons_zero] at this
    simp [insA, this]
  | y :: ys, k + 1, hk, h, h' => by
    have e := h 0 (by omega)
    simp only [List.getD_cons_zero] at e
    simp only [insA, e, if_true, List.take_succ_cons, List.drop_succ_cons, List.cons_append]
    rw [insA_at (k := k) (d := d) (by simpa using hk) (fun q hq => by simpa using h (q + 1) (by omega)) (fun hk => by simpa using h' (by simpa using hk))]
theorem insA_perm {α : Type} {p : α → Bool} {x : α} : ∀ {ys : List α}, (insA p x ys).Perm (x :: ys)
  | [] => .refl _
  | y :: ys => by
    unfold insA
    split
    · exact (List.Perm.cons y insA_perm).trans (.swap x y ys)
    · exact .refl _
theorem insA_len {α : Type} {p : α → Bool} {x : α} {ys : List α} : (insA p x ys).length = ys.length + 1 := by simpa using insA_perm.length_eq
/-- A way to compare that sorts. -/
structure Srt {α : Type} (lt : α → α → Bool) : Prop where
  asymm : ∀ a b, lt a b = true → lt b a = false
  trans : ∀ a b c, lt b a = false → lt c b = false → lt c a = false
def Sorted {α : Type} (lt : α → α → Bool) (l : List α) : Prop := l.Pairwise fun a b => lt b a = false
theorem insA_sorted {α : Type} {lt : α → α → Bool} (hs : Srt lt) {x : α} : ∀ {ys : List α}, Sorted lt ys → Sorted lt (insA (fun y => !lt x y) x ys)
  | [], _ => List.pairwise_singleton _ _
  | y :: ys, h => by
    unfold Sorted at h ⊢
    rw [List.pairwise_cons] at h
    unfold insA
    split
    · rename_i e
      rw [List.pairwise_cons]
      refine ⟨fun z hz => ?_, insA_sorted hs h.2⟩
      rcases List.mem_cons.1 (insA_perm.mem_iff.1 hz) with rfl | hz
      · simpa using e
      · exact h.1 z hz
    · rename_i e
      have e : lt x y = true := by simpa using e
      rw [List.pairwise_cons, List.pairwise_cons]
      refine ⟨fun z hz => ?_, h⟩
      rcases List.mem_cons.1 hz with rfl | hz
      · exact hs.asymm _ _ e
      · exact hs.trans _ _ _ (hs.asymm _ _ e) (h.1 z hz)
/-- Insertion sort, the first i of a list. -/
def isortA {α : Type} (lt : α → α → Bool) (d : α) (xs : List α) (i : Nat) (s : List α) : List α := insA (fun y => !lt (xs.getD i d) y) (xs.getD i d) s
def isort {α : Type} (lt : α → α → Bool) (d : α) (xs : List α) (n : Nat) : List α := foldFrom (isortA lt d xs) 0 n []
theorem isort_succ {α : Type} {lt : α → α → Bool} {d : α} {xs : List α} {n : Nat} : isort lt d xs (n + 1) = isortA lt d xs n (isort lt d xs n) := by
  unfold isort
  rw [foldFrom_last, Nat.zero_add]
theorem isort_len {α : Type} {lt : α → α → Bool} {d : α} {xs : List α} : ∀ {n : Nat}, (isort lt d xs n).length = n
  | 0 => rfl
  | n + 1 => by rw [isort_succ, isortA, insA_len, isort_len]
theorem isort_sorted {α : Type} {lt : α → α → Bool} (hs : Srt lt) {d : α} {xs : List α} : ∀ {n : Nat}, Sorted lt (isort lt d xs n)
  | 0 => .nil
  | n + 1 => by rw [isort_succ]; exact insA_sorted hs (isort_sorted hs)
theorem isort_perm {α : Type} {lt : α → α → Bool} {d : α} {xs : List α} : ∀ {n : Nat}, n ≤ xs.length → (isort lt d xs n).Perm (xs.take n)
  | 0, _ => by simp [isort, foldFrom]
  | n + 1, h => by
    rw [isort_succ, isortA, List.take_succ_eq_append_getElem (by omega)]
    refine insA_perm.trans ((List.Perm.cons _ (isort_perm (by omega))).trans ?_)
    rw [List.getD_eq_getElem?_getD, List.getElem?_eq_getElem (by omega)]
    exact (List.perm_append_singleton _ _).symm
theorem sorted_get {α : Type} {lt : α → α → Bool} {l : List α} (h : Sorted lt l) (d : α) {i j : Nat} (hij : i < j) (hj : j < l.length) : lt (l.getD j d) (l.getD i d) = false := by
  have := (List.pairwise_iff_getElem.1 h) i j (by omega) hj hij
  simpa [List.getD_eq_getElem?_getD, List.getElem?_eq_getElem hj, List.getElem?_eq_getElem (show i < l.length by omega)] using this
/-- What the program's insertion has in hand: the sorted part, one that is on its way, the rest. -/
def wayRow {α : Type} (pre : List α) (x : α) (rest : List α) (j : Nat) : List α := pre.take j ++ x :: (pre.drop j ++ rest)
theorem wayRow_len {α : Type} {pre : List α} {x : α} {rest : List α} {j : Nat} : (wayRow pre x rest j).length = pre.length + 1 + rest.length := by
  simp [wayRow]; omega
theorem wayRow_here {α : Type} {pre : List α} {x d : α} {rest : List α} {j : Nat} (hj : j ≤ pre.length) : (wayRow pre x rest j).getD j d = x := by
  unfold wayRow
  rw [List.getD_eq_getElem?_getD, List.getElem?_append_right (by simp; omega)]
  simp [Nat.min_eq_left hj]
theorem wayRow_ahead {α : Type} {pre : List α} {x d : α} {rest : List α} {j q : Nat} (hq : q < j) (hj : j ≤ pre.length) : (wayRow pre x rest j).getD q d = pre.getD q d := by
  unfold wayRow
  rw [List.getD_eq_getElem?_getD, List.getElem?_append_left (by simp; omega), List.getElem?_take_of_lt hq, List.getD_eq_getElem?_getD]
theorem wayRow_swap {α : Type} {pre : List α} {x : α} {rest : List α} {j : Nat} {y : α} (hj : j + 1 ≤ pre.length) (hy : pre[j]? = some y) : ((wayRow pre x rest (j + 1)).set (j + 1) y).set j x = wayRow pre x rest j := by
  have hjl : j < pre.length := by omega
  have hy' : pre[j] = y := by rw [List.getElem?_eq_getElem hjl] at hy; exact Option.some.inj hy
  have e1 : pre.take (j + 1) = pre.take j ++ [y] := by rw [List.take_succ_eq_append_getElem hjl, hy']
  have e2 : pre.drop j = y :: pre.drop (j + 1) := by rw [List.drop_eq_getElem_cons hjl, hy']
  unfold wayRow
  rw [e1, e2]
  have hl : (pre.take j).length = j := by simp; omega
  rw [show pre.take j ++ [y] ++ x :: (pre.drop (j + 1) ++ rest) = pre.take j ++ (y :: x :: (pre.drop (j + 1) ++ rest)) by simp]
  rw [List.set_append_right _ _ (by omega), List.set_append_right _ _ (by omega), hl]
  simp [show j + 1 - j = 1 by omega]
/-- An insertion that has come to its end. -/
theorem wayRow_end {α : Type} {lt : α → α → Bool} (hs : Srt lt) {pre : List α} {x d : α} {rest : List α} {j : Nat} (hp : Sorted lt pre) (hj : j ≤ pre.length) (hb : ∀ q, j ≤ q → q < pre.length → lt x (pre.getD q d) = true) (ha : 0 < j → lt x (pre.getD (j - 1) d) = false) :
    wayRow pre x rest j = insA (fun y => !lt x y) x pre ++ rest := by
  rw [insA_at (k := j) (d := d) hj (fun q hq => ?_) (fun h => ?_)]
  · simp [wayRow]
  · simp only [Bool.not_eq_true']
    by_cases e : q = j - 1
    · rw [e]; exact ha (by omega)
    · exact hs.trans _ _ _ (sorted_get hp d (show q < j - 1 by omega) (by omega)) (ha (by omega))
  · simpa using hb j (Nat.le_refl _) h

def key (m : Mv) : Int := if 0 ≤ m.f5 then m.f5 else m.f3
def lessM (a b : Mv) : Bool := decide (key a < key b) || (key a == key b && ltN a.f0 b.f0)
theorem lessM_srt {α : Type} (f : α → Mv) : Srt fun a b => lessM (f a) (f b) := by
  constructor
  · intro a b h
    unfold lessM at *
    simp only [Bool.or_eq_true, Bool.and_eq_true, decide_eq_true_eq, beq_iff_eq, Bool.or_eq_false_iff, Bool.and_eq_false_iff, decide_eq_false_iff_not, beq_eq_false_iff_ne] at *
    rcases h with h | ⟨h, k⟩
    · exact ⟨by omega, .inl (by omega)⟩
    · exact ⟨by omega, .inr (ltN_asymm k)⟩
  · intro a b c h1 h2
    unfold lessM at *
    simp only [Bool.or_eq_false_iff, Bool.and_eq_false_iff, decide_eq_false_iff_not, beq_eq_false_iff_ne] at *
    obtain ⟨h1, k1⟩ := h1
    obtain ⟨h2, k2⟩ := h2
    refine ⟨by omega, ?_⟩
    by_cases e : key (f c) = key (f a)
    · refine .inr ?_
      have k1 := k1.resolve_left (by simp; omega)
      have k2 := k2.resolve_left (by simp; omega)
      cases h : ltN (f c).f0 (f a).f0 with
      | false => rfl
      | true =>
        cases h' : ltN (f a).f0 (f b).f0 with
        | true => rw [ltN_trans h h'] at k2; cases k2
        | false => rw [← ltN_tri h' k1, h] at k2; cases k2
    · exact .inl e
theorem lessM_not {a b : Mv} : (decide (key a < key b) || (key a == key b && (ltN a.f0 b.f0 || a.f0.toList == b.f0.toList))) = !lessM b a := by
  rw [ltN_le]
  unfold lessM
  by_cases h : key a < key b
  · have : ¬ key b < key a := by omega
    have : ¬ key b = key a := by omega
    simp [*]
  · by_cases h' : key a = key b
    · simp [h']
    · have : key b < key a := by omega
      simp [*]
def ltP (l : List Mv) (a b : Int) : Bool := lessM (at' l a.toNat) (at' l b.toNat)
def upTo (n : Nat) : List Int := (List.range n).map fun i : Nat => (i : Int)
theorem upTo_len (n : Nat) : (upTo n).length = n := by simp [upTo]
theorem upTo_at {n i : Nat} (h : i < n) : (upTo n).getD i 0 = i := by simp [upTo, List.getD_eq_getElem?_getD, h]
theorem upTo_succ (n : Nat) : upTo (n + 1) = upTo n ++ [(n : Int)] := by simp [upTo, List.range_succ]
def firstM (l : List Mv) : List Int := isort (ltP l) 0 (upTo l.length) l.length
theorem firstM_perm (l : List Mv) : (firstM l).Perm (upTo l.length) := by
  have := isort_perm (lt := ltP l) (d := 0) (xs := upTo l.length) (n := l.length) (by rw [upTo_len]; exact Nat.le_refl _)
  rwa [List.take_of_length_le (by rw [upTo_len]; exact Nat.le_refl _)] at this
theorem isOrd_iff {a : List Int} : IsOrd a ↔ a.Nodup ∧ ∀ x ∈ a, 0 ≤ x ∧ x ≤ (a.length : Int) - 1 := by
  constructor
  · intro h
    refine ⟨List.pairwise_iff_getElem.2 fun i j hi hj hij => ?_, fun x hx => ?_⟩
    · have := (h j hj).2 i hij
      simpa [List.getD_eq_getElem?_getD, List.getElem?_eq_getElem hi, List.getElem?_eq_getElem hj] using this
    · obtain ⟨j, hj, rfl⟩ := List.getElem_of_mem hx
      have := (h j hj).1
      simpa [List.getD_eq_getElem?_getD, List.getElem?_eq_getElem hj] using this
  · rintro ⟨h1, h2⟩ i hi
    have e : a.getD i 0 = a[i] := by simp [List.getD_eq_getElem?_getD, List.getElem?_eq_getElem hi]
    refine ⟨by rw [e]; exact h2 _ (List.getElem_mem hi), fun k hk => ?_⟩
    have := (List.pairwise_iff_getElem.1 h1) k i (by omega) hi hk
    rw [e]
    simpa [List.getD_eq_getElem?_getD, List.getElem?_eq_getElem (show k < a.length by omega)] using this
theorem isOrd_perm {a b : List Int} (h : a.Perm b) (hb : IsOrd b) : IsOrd a := by
  rw [isOrd_iff] at hb ⊢
  exact ⟨h.nodup_iff.2 hb.1, fun x hx => by rw [h.length_eq]; exact hb.2 x (h.mem_iff.1 hx)⟩
theorem isOrd_upTo (n : Nat) : IsOrd (upTo n) := by
  intro i hi
  rw [upTo_len] at hi ⊢
  rw [upTo_at hi]
  refine ⟨by omega, fun k hk => ?_⟩
  rw [upTo_at (by omega)]
  omega
theorem firstM_ord (l : List Mv) : IsOrd (firstM l) := isOrd_perm (firstM_perm l) (isOrd_upTo _)
theorem firstM_len (l : List Mv) : (firstM l).length = l.length := isort_len
end Go.AM

/- Plain models: all orders, the best ticks; no condition. -/
namespace Go.AM
set_option linter.unusedVariables false
set_option linter.unusedSimpArgs false
open Go.RowKit

def bump (f p : Int) : Int := if f ≤ p then p + 1 else p
/-- All orders of n, in order. -/
def allM : Nat → List (List Int)
  | 0 => [[]]
  | n + 1 => (List.range (n + 1)).flatMap fun f : Nat => (allM n).map fun o => (f : Int) :: o.map (bump f)
/-- All orders that go on from some places. -/
def ext (n : Nat) : Nat → List Int → List (List Int)
  | 0, ahead => [ahead]
  | d + 1, ahead => (List.range n).flatMap fun i : Nat => if ((i : Int) ∈ ahead) then [] else ext n d (ahead ++ [(i : Int)])
theorem ext_all : ∀ n, n ≤ 6 → ext n n [] = allM n := by
  intro n hn
  have : n = 0 ∨ n = 1 ∨ n = 2 ∨ n = 3 ∨ n = 4 ∨ n = 5 ∨ n = 6 := by omega
  rcases this with rfl | rfl | rfl | rfl | rfl | rfl | rfl <;> decide +kernel
theorem bump_ne {f p q : Int} (h : p ≠ q) : bump f p ≠ bump f q := by unfold bump; split <;> split <;> omega
theorem bump_f {f p : Int} : bump f p ≠ f := by unfold bump; split <;> omega
theorem bump_range {f p n : Int} (hp : 0 ≤ p ∧ p ≤ n - 1) : 0 ≤ bump f p ∧ bump f p ≤ n := by unfold bump; split <;> omega
def unbump (f p : Int) : Int := if f < p then p - 1 else p
theorem bump_unbump {f p : Int} (h : p ≠ f) : bump f (unbump f p) = p := by unfold bump unbump; split <;> split <;> omega
/-- The orders are those that are ok. -/
theorem allM_ord : ∀ {n : Nat} {o : List Int}, o ∈ allM n → o.length = n ∧ IsOrd o
  | 0, o, h => by
    simp only [allM, List.mem_singleton] at h
    subst h
    exact ⟨rfl, fun i hi => by simp at hi⟩
  | n + 1, o, h => by
    simp only [allM, List.mem_flatMap, List.mem_range, List.mem_map] at h
    obtain ⟨f, hf, q, hq, rfl⟩ := h
    obtain ⟨h1, h2⟩ := allM_ord hq
    rw [isOrd_iff] at h2 ⊢
    refine ⟨by simp [h1], List.nodup_cons.2 ⟨fun hm => ?_, ?_⟩, fun x hx => ?_⟩
    · obtain ⟨p, _, hp⟩ := List.mem_map.1 hm
      exact bump_f hp
    · exact List.Pairwise.map _ (fun a b h => bump_ne h) h2.1
    · rcases List.mem_cons.1 hx with rfl | hx
      · simp [h1]; omega
      · obtain ⟨p, hp, rfl⟩ := List.mem_map.1 hx
        have := h2.2 p hp
        have := bump_range (f := f) this
        simp [h1]
        rw [h1] at this
        exact this
theorem allM_mem : ∀ {n : Nat} {o : List Int}, o.length = n → IsOrd o → o ∈ allM n
  | 0, o, h, _ => by
    obtain rfl := List.eq_nil_of_length_eq_zero h
    simp [allM]
  | n + 1, [], h, _ => by simp at h
  | n + 1, f :: o, h, ho => by
    rw [isOrd_iff] at ho
    obtain ⟨h1, h2⟩ := ho
    rw [List.nodup_cons] at h1
    have hl : o.length = n := by simpa using h
    have hf := h2 f List.mem_cons_self
    simp only [List.length_cons, hl] at hf h2
    have hu : (o.map (unbump f)).map (bump f) = o := by
      rw [List.map_map]
      refine (List.map_congr_left fun p hp => ?_).trans (List.map_id o)
      exact bump_unbump fun e => h1.1 (e ▸ hp)
    simp only [allM, List.mem_flatMap, List.mem_range, List.mem_map]
    refine ⟨f.toNat, by omega, o.map (unbump f), allM_mem (by simp [hl]) ?_, ?_⟩
    · rw [isOrd_iff]
      refine ⟨?_, fun x hx => ?_⟩
      · have : ((o.map (unbump f)).map (bump f)).Nodup := by rw [hu]; exact h1.2
        exact (List.pairwise_map.1 this).imp fun hab e => hab (by rw [e])
      · obtain ⟨p, hp, rfl⟩ := List.mem_map.1 hx
        have := h2 p (List.mem_cons_of_mem _ hp)
        have hne : p ≠ f := fun e => h1.1 (e ▸ hp)
        simp only [List.length_map, hl]
        unfold unbump
        split <;> omega
    · rw [Int.toNat_of_nonneg hf.1, hu]
theorem shiftM_symm (a b : List Int) : shiftM a b = shiftM b a := by
  by_cases hc : a.length = b.length ∧ IsOrd a ∧ IsOrd b
  · have hc' : b.length = a.length ∧ IsOrd b ∧ IsOrd a := ⟨hc.1.symm, hc.2.2, hc.2.1⟩
    unfold shiftM
    rw [if_pos hc, if_pos hc']
    have key : ∀ (a b : List Int), a.length = b.length → IsOrd a → IsOrd b → ∀ m : Int, 0 ≤ m → (foldFrom (shStep a b) 0 a.length 0 ≤ m ↔ ∀ i j, i < a.length → j < b.length → a.getD i 0 = b.getD j 0 → (i : Int) - j ≤ m ∧ (j : Int) - i ≤ m) := by
      intro a b hl ha hb m hm
      have gen : ∀ d i s, i + d = a.length → (foldFrom (shStep a b) i d s ≤ m ↔ s ≤ m ∧ ∀ i' j, i ≤ i' → i' < a.length → j < b.length → a.getD i' 0 = b.getD j 0 → (i' : Int) - j ≤ m ∧ (j : Int) - i' ≤ m) := by
        intro d
        induction d with
        | zero =>
          intro i s hi
          exact ⟨fun h => ⟨h, fun i' j h1 h2 => absurd h1 (by omega)⟩, fun h => h.1⟩
        | succ d ih =>
          intro i s hi
          show foldFrom (shStep a b) (i + 1) d (shStep a b i s) ≤ m ↔ _
          rw [ih (i + 1) _ (by omega)]
          have hv := (ha i (by omega)).1
          obtain ⟨q, hq, eq⟩ := ord_onto hb (a.getD i 0).toNat (by omega)
          have hp : pos b (a.getD i 0) = q := by
            rcases pos_range b (a.getD i 0) with ⟨_, h⟩ | ⟨q', h, hq', hv'⟩
            · exact absurd (by omega) (h q hq)
            · rw [h, ord_inj hb hq' hq (by omega)]
          unfold shStep
          rw [hp]
          constructor
          · rintro ⟨h1, h2⟩
            refine ⟨by omega, fun i' j h3 h4 h5 h6 => ?_⟩
            by_cases e : i' = i
            · subst e
              obtain rfl := ord_inj hb h5 hq (by omega)
              omega
            · exact h2 i' j (by omega) h4 h5 h6
          · rintro ⟨h1, h2⟩
            have := h2 i q (Nat.le_refl _) (by omega) hq (by omega)
            exact ⟨by omega, fun i' j h3 => h2 i' j (by omega)⟩
      have := gen a.length 0 0 (by omega)
      rw [this]
      exact ⟨fun h i j h1 h2 h3 => h.2 i j (by omega) h1 h2 h3, fun h => ⟨hm, fun i j _ h1 h2 h3 => h i j h1 h2 h3⟩⟩
    have nn : ∀ (a b : List Int), 0 ≤ foldFrom (shStep a b) 0 a.length 0 := by
      intro a b
      have := foldFrom_inv (step := shStep a b) (fun _ s => 0 ≤ s) (n := a.length) (fun i s _ h => by unfold shStep; omega) a.length 0 0 (by omega) (by omega)
      exact this
    have h1 := (key a b hc.1 hc.2.1 hc.2.2 _ (nn b a)).2 fun i j hi hj e => (((key b a hc.1.symm hc.2.2 hc.2.1 _ (nn b a)).1 (Int.le_refl _)) j i hj hi e.symm).symm
    have h2 := (key b a hc.1.symm hc.2.2 hc.2.1 _ (nn a b)).2 fun i j hi hj e => (((key a b hc.1 hc.2.1 hc.2.2 _ (nn a b)).1 (Int.le_refl _)) j i hj hi e.symm).symm
    omega
  · have hc' : ¬ (b.length = a.length ∧ IsOrd b ∧ IsOrd a) := fun h => hc ⟨h.1.symm, h.2.2, h.2.1⟩
    unfold shiftM
    rw [if_neg hc, if_neg hc']

/-- Whether ticks are ahead of others, place by place. -/
def lexFrom (a b : List Int) : Nat → Nat → Bool
  | _, 0 => false
  | i, d + 1 => if tk a i = tk b i then lexFrom a b (i + 1) d else decide (tk a i < tk b i)
def lexB (a b : List Int) : Bool := lexFrom a b 0 a.length
def better (l : List Mv) (a b : List Int) : Bool :=
  if (costM l a).1 = (costM l b).1 then (if (costM l a).2 = (costM l b).2 then lexB a b else decide ((costM l a).2 < (costM l b).2)) else decide ((costM l a).1 < (costM l b).1)
def bestStep (l : List Mv) (first : List Int) (shift : Int) (s : Option (List Int)) (o : List Int) : Option (List Int) :=
  if shift < shiftM first o then s else if (ordM l o).2 = true then (match s with
    | none => some (ordM l o).1
    | some b => if better l (ordM l o).1 b = true then some (ordM l o).1 else some b) else s
def bestO (l : List Mv) (shift : Int) : Option (List Int) := (allM l.length).foldl (bestStep l (firstM l) shift) none
def retO : Option (List Int) → List Int × Bool
  | none => ([], false)
  | some t => (t, true)
def bestM (l : List Mv) (shift : Int) : List Int × Bool := retO (bestO l shift)
def bestF (l : List Mv) (shift : Int) : List Int × Bool := if MovesOk l ∧ 0 ≤ shift ∧ shift ≤ 6 then bestM l shift else ([], false)
end Go.AM

/- Plain models: plans, who goes round, books that are sure; no condition. -/
namespace Go.AM
set_option linter.unusedVariables false
set_option linter.unusedSimpArgs false
open Go.RowKit

theorem at'_map {f : Mv → Mv} {l : List Mv} {i : Nat} (h : i < l.length) : at' (l.map f) i = f (at' l i) := by
  simp [at', List.getD_eq_getElem?_getD, List.getElem?_eq_getElem h]
theorem at'_mem {l : List Mv} {i : Nat} (h : i < l.length) : at' l i ∈ l := by
  simp [at', List.getD_eq_getElem?_getD, List.getElem?_eq_getElem h]
theorem mem_at' {l : List Mv} {m : Mv} (h : m ∈ l) : ∃ i, i < l.length ∧ at' l i = m := by
  obtain ⟨j, hj, rfl⟩ := List.getElem_of_mem h
  exact ⟨j, hj, by simp [at', List.getD_eq_getElem?_getD, List.getElem?_eq_getElem hj]⟩
theorem movesOk_lt {l : List Mv} (h : MovesOk l) {i k : Nat} (hik : i < k) (hk : k < l.length) : ltN (at' l i).f0 (at' l k).f0 = true := by
  induction k with
  | zero => omega
  | succ k ih =>
    have := (h.2 (k + 1) hk).2 (by omega)
    rw [Nat.add_sub_cancel] at this
    by_cases e : i = k
    · rw [e]; exact this
    · exact ltN_trans (ih (by omega) (by omega)) this
def Asc (l : List Mv) : Prop := l.Pairwise fun a b => ltN a.f0 b.f0 = true
theorem movesOk_iff {l : List Mv} : MovesOk l ↔ l.length ≤ 6 ∧ (∀ m ∈ l, mvOk m = true) ∧ Asc l := by
  constructor
  · intro h
    refine ⟨h.1, fun m hm => ?_, List.pairwise_iff_getElem.2 fun i j hi hj hij => ?_⟩
    · obtain ⟨i, hi, rfl⟩ := mem_at' hm
      exact (h.2 i hi).1
    · have := movesOk_lt h hij hj
      simpa [at', List.getD_eq_getElem?_getD, List.getElem?_eq_getElem hj, List.getElem?_eq_getElem hi] using this
  · rintro ⟨h1, h2, h3⟩
    refine ⟨h1, fun i hi => ⟨h2 _ (at'_mem hi), fun h0 => ?_⟩⟩
    have := (List.pairwise_iff_getElem.1 h3) (i - 1) i (by omega) hi (by omega)
    simpa [at', List.getD_eq_getElem?_getD, List.getElem?_eq_getElem hi, List.getElem?_eq_getElem (show i - 1 < l.length by omega)] using this

def laterMv (u : Int) (m : Mv) : Mv := if m.f5 < 0 then { m with f3 := max m.f3 u } else m
def LaterAt (u : Int) (m : Mv) : Prop := m.f5 < 0 → max m.f3 u ≤ m.f4
def LaterOk (u : Int) (l : List Mv) : Prop := ∀ i, i < l.length → LaterAt u (at' l i)
instance (u : Int) (m : Mv) : Decidable (LaterAt u m) := by unfold LaterAt; infer_instance
instance (u : Int) (l : List Mv) : Decidable (LaterOk u l) := by unfold LaterOk; infer_instance
def laterL (u : Int) (l : List Mv) : List Mv := l.map (laterMv u)
def planM (l : List Mv) (now shift : Int) : List Int × Bool := if LaterOk (now + 4) l then bestM (laterL (now + 4) l) shift else ([], false)
theorem laterMv_name (u : Int) (m : Mv) : (laterMv u m).f0 = m.f0 := by unfold laterMv; split <;> rfl
theorem later_mvOk {u : Int} {m : Mv} (h : mvOk m = true) (hu : 0 ≤ u) (hl : LaterAt u m) : mvOk (laterMv u m) = true := by
  unfold LaterAt at hl
  rw [mvOk_true] at h ⊢
  unfold laterMv
  split
  · refine ⟨h.1, ?_⟩
    have := h.2
    have := hl (by omega)
    dsimp only
    omega
  · exact h
theorem later_movesOk {u : Int} {l : List Mv} (h : MovesOk l) (hu : 0 ≤ u) (hl : LaterOk u l) : MovesOk (laterL u l) := by
  rw [movesOk_iff] at h ⊢
  refine ⟨by simpa [laterL] using h.1, fun m hm => ?_, ?_⟩
  · obtain ⟨a, ha, rfl⟩ := List.mem_map.1 hm
    obtain ⟨i, hi, rfl⟩ := mem_at' ha
    exact later_mvOk (h.2.1 _ ha) hu (hl i hi)
  · exact List.Pairwise.map _ (fun a b hab => by rw [laterMv_name, laterMv_name]; exact hab) h.2.2

/-- A move that goes round at a tick. -/
def goneMv (t : Int) (m : Mv) : Mv := { m with f3 := t + 6, f5 := -1 }
def thenStep (b : Bk) (a : Nat) (k : Nat) (s : List Mv) : List Mv :=
  if k = a then s ++ [goneMv (tk b.ts a) (at' b.ms k)] else if tk b.ts k < tk b.ts a then s else if tk b.ts k < tk b.ts a + 4 then s ++ [{ at' b.ms k with f5 := tk b.ts k }] else s ++ [at' b.ms k]
def thenL (b : Bk) (a : Nat) : List Mv := foldFrom (thenStep b a) 0 b.ms.length []
def GoneOk (b : Bk) (a : Nat) : Prop := tk b.ts a + 6 ≤ (at' b.ms a).f4
instance (b : Bk) (a : Nat) : Decidable (GoneOk b a) := by unfold GoneOk; infer_instance
def roundP (b : Bk) (a : Nat) : List Int × Bool := planM (thenL b a) (tk b.ts a) 6
def RoundOk (b : Bk) (a : Nat) : Prop := GoneOk b a ∧ (roundP b a).2 = true
instance (b : Bk) (a : Nat) : Decidable (RoundOk b a) := by unfold RoundOk; infer_instance
def Bk.z : Bk := ⟨0, 0, [], []⟩
def roundB (b : Bk) (a : Nat) : Bk := ⟨tk b.ts a, b.shift, thenL b a, (roundP b a).1⟩
/-- What the program's round gives, and the reference's. -/
def roundI (b : Bk) (a : Nat) : Bk × Bool := if GoneOk b a then (roundB b a, (roundP b a).2) else (Bk.z, false)
def roundS (b : Bk) (a : Nat) : Bk × Bool := if RoundOk b a then (roundB b a, true) else (Bk.z, false)
def SureM (b : Bk) : Prop := BkOk b ∧ ∀ i, i < b.ms.length → (at' b.ms i).f1 = true → RoundOk b i
instance (b : Bk) : Decidable (SureM b) := by unfold SureM; infer_instance
theorem thenStep_len {b : Bk} {a k : Nat} {s : List Mv} (h : s.length ≤ k) : (thenStep b a k s).length ≤ k + 1 := by
  unfold thenStep
  (repeat' split) <;> first | omega | (simp only [List.length_append, List.length_cons, List.length_nil]; omega)
theorem thenL_len (b : Bk) (a : Nat) : (thenL b a).length ≤ b.ms.length := by
  have := foldFrom_inv (step := thenStep b a) (fun i s => s.length ≤ i) (n := b.ms.length) (fun i s _ h => thenStep_len h) b.ms.length 0 [] (by omega) (by simp)
  simpa [thenL] using this
theorem bk_tick {b : Bk} (hb : BkOk b) {i : Nat} (hi : i < b.ms.length) : b.ts.length = b.ms.length ∧ InR b.ms b.ts i ∧ mvOk (at' b.ms i) = true ∧ SoonAt b i ∧ 0 ≤ tk b.ts i ∧ tk b.ts i ≤ 10000 := by
  have hf := hb.2.2.1
  have h1 := hf.2.1
  have h2 := (hf.2.2 i hi).1
  exact ⟨h1, h2, (hf.1.2 i hi).1, hb.2.2.2 i (by omega), inR_range hf.1 hi h2⟩
/-- What a round makes of one who stays. -/
def stayMv (t : Int) (m : Mv) (u : Int) : Mv := if u < t + 4 then { m with f5 := u } else m
theorem stay_mvOk {m : Mv} {t u : Int} (h : mvOk m = true) (hu : m.f3 ≤ u ∧ u ≤ m.f4) : mvOk (stayMv t m u) = true := by
  rw [mvOk_true] at h ⊢
  unfold stayMv
  split
  · refine ⟨h.1, ?_⟩
    have := h.2
    dsimp only
    omega
  · exact h
theorem gone_mvOk {m : Mv} {t : Int} (h : mvOk m = true) (ht : 0 ≤ t) (hg : t + 6 ≤ m.f4) : mvOk (goneMv t m) = true := by
  rw [mvOk_true] at h ⊢
  refine ⟨h.1, ?_⟩
  have := h.2
  unfold goneMv
  dsimp only
  omega
theorem thenStep_eq (b : Bk) (a k : Nat) (s : List Mv) : thenStep b a k s = if k = a then s ++ [goneMv (tk b.ts a) (at' b.ms k)] else if tk b.ts k < tk b.ts a then s else s ++ [stayMv (tk b.ts a) (at' b.ms k) (tk b.ts k)] := by
  unfold thenStep stayMv
  (repeat' split) <;> rfl
theorem then_movesOk {b : Bk} (hb : BkOk b) {a : Nat} (ha : a < b.ms.length) (hg : GoneOk b a) : MovesOk (thenL b a) := by
  have hm := hb.2.2.1.1
  have := foldFrom_inv (step := thenStep b a) (fun i s => (∀ m ∈ s, mvOk m = true) ∧ Asc s ∧ ∀ m ∈ s, ∀ k, i ≤ k → k < b.ms.length → ltN m.f0 (at' b.ms k).f0 = true) (n := b.ms.length) (fun i s hi h => by
    obtain ⟨h1, h2, h3⟩ := h
    have add : ∀ m : Mv, mvOk m = true → m.f0 = (at' b.ms i).f0 → (∀ m' ∈ s ++ [m], mvOk m' = true) ∧ Asc (s ++ [m]) ∧ ∀ m' ∈ s ++ [m], ∀ k, i + 1 ≤ k → k < b.ms.length → ltN m'.f0 (at' b.ms k).f0 = true := by
      intro m hmo hn
      refine ⟨fun m' hm' => ?_, List.pairwise_append.2 ⟨h2, List.pairwise_singleton _ _, fun x hx y hy => ?_⟩, fun m' hm' k hk hk2 => ?_⟩
      · rcases List.mem_append.1 hm' with h | h
        · exact h1 m' h
        · rw [List.mem_singleton.1 h]; exact hmo
      · rw [List.mem_singleton.1 hy, hn]
        exact h3 x hx i (Nat.le_refl _) hi
      · rcases List.mem_append.1 hm' with h | h
        · exact h3 m' h k (by omega) hk2
        · rw [List.mem_singleton.1 h, hn]
          exact movesOk_lt hm (by omega) hk2
    obtain ⟨k1, k2, k3, k4, k5, k6⟩ := bk_tick hb hi
    rw [thenStep_eq]
    split
    · rename_i e
      subst e
      exact add _ (gone_mvOk k3 k5 hg) rfl
    · split
      · exact ⟨h1, h2, fun m hm k hk hk2 => h3 m hm k (by omega) hk2⟩
      · refine add _ (stay_mvOk k3 k2.1) ?_
        unfold stayMv
        split <;> rfl) b.ms.length 0 [] (by omega) ⟨fun m h => by simp at h, .nil, fun m h => by simp at h⟩
  have hl := thenL_len b a
  rw [movesOk_iff]
  exact ⟨by have := hm.1; omega, this.1, this.2.1⟩
/-- A plan of moves that are ok is the best of moves that are ok. -/
theorem planM_eq {l : List Mv} (h : MovesOk l) {now shift : Int} (hn : 0 ≤ now) (hs : 0 ≤ shift ∧ shift ≤ 6) : planM l now shift = if LaterOk (now + 4) l then bestF (laterL (now + 4) l) shift else ([], false) := by
  unfold planM
  split
  · rename_i hl
    unfold bestF
    rw [if_pos ⟨later_movesOk h (by omega) hl, hs⟩]
  · rfl

/-- The place of a name, -1 if it is not there. -/
def atFrom (l : List Mv) (s : ByteArray) : Nat → Nat → Int
  | _, 0 => -1
  | i, d + 1 => if (at' l i).f0.toList == s.toList then (i : Int) else atFrom l s (i + 1) d
def atN (l : List Mv) (s : ByteArray) : Int := atFrom l s 0 l.length
theorem atFrom_range (l : List Mv) (s : ByteArray) : ∀ d i, i + d = l.length → (atFrom l s i d = -1 ∧ ∀ j, i ≤ j → j < l.length → (at' l j).f0 ≠ s) ∨ (∃ j : Nat, atFrom l s i d = j ∧ i ≤ j ∧ j < l.length ∧ (at' l j).f0 = s) := by
  intro d
  induction d with
  | zero => exact fun i hi => .inl ⟨rfl, fun j h1 h2 => absurd h1 (by omega)⟩
  | succ d ih =>
    intro i hi
    unfold atFrom
    by_cases h : (at' l i).f0 = s
    · rw [if_pos (by rw [h]; simp)]
      exact .inr ⟨i, rfl, Nat.le_refl _, by omega, h⟩
    · rw [if_neg (by simpa using fun e => h (toList_inj e))]
      rcases ih (i + 1) (by omega) with ⟨h1, h2⟩ | ⟨j, h1, h2, h3, h4⟩
      · refine .inl ⟨h1, fun j hj hl => ?_⟩
        by_cases e : j = i
        · exact e ▸ h
        · exact h2 j (by omega) hl
      · exact .inr ⟨j, h1, by omega, h3, h4⟩
theorem atN_range (l : List Mv) (s : ByteArray) : (atN l s = -1 ∧ ∀ j, j < l.length → (at' l j).f0 ≠ s) ∨ (∃ j : Nat, atN l s = j ∧ j < l.length ∧ (at' l j).f0 = s) := by
  rcases atFrom_range l s l.length 0 (by omega) with ⟨h1, h2⟩ | ⟨j, h1, _, h3, h4⟩
  · exact .inl ⟨h1, fun j hj => h2 j (by omega) hj⟩
  · exact .inr ⟨j, h1, h3, h4⟩

/-- A move among others, in order. -/
def putM (l : List Mv) (m : Mv) : List Mv := insA (fun y => ltN y.f0 m.f0) m l
def addR (b : Bk) (m : Mv) : Bk × Int :=
  if ¬ BkOk b then (Bk.z, 1) else if ¬ (mvOk m = true ∧ m.f5 = -1) then (b, 2) else if 0 ≤ atN b.ms m.f0 then (b, 3) else if b.ms.length = 6 then (b, 4)
  else if (planM (putM b.ms m) b.now b.shift).2 = false then (b, 5) else if ¬ SureM ⟨b.now, b.shift, putM b.ms m, (planM (putM b.ms m) b.now b.shift).1⟩ then (b, 6)
  else (⟨b.now, b.shift, putM b.ms m, (planM (putM b.ms m) b.now b.shift).1⟩, 0)
def dropL {α : Type} (l : List α) (a : Nat) : List α := l.take a ++ l.drop (a + 1)
def NoLater (a b : List Int) : Prop := ∀ i, i < a.length → tk a i ≤ tk b i
instance (a b : List Int) : Decidable (NoLater a b) := by unfold NoLater; infer_instance
def dropB (b : Bk) (a : Nat) : Bk := ⟨b.now, b.shift, dropL b.ms a, dropL b.ts a⟩
def dropP (b : Bk) (a : Nat) : List Int × Bool := planM (dropL b.ms a) b.now b.shift
def dropR (b : Bk) (s : ByteArray) : Bk × Int :=
  if ¬ BkOk b then (Bk.z, 1) else if atN b.ms s < 0 then (b, 3)
  else if (dropP b (atN b.ms s).toNat).2 = true ∧ NoLater (dropP b (atN b.ms s).toNat).1 (dropL b.ts (atN b.ms s).toNat) ∧ SureM ⟨b.now, b.shift, dropL b.ms (atN b.ms s).toNat, (dropP b (atN b.ms s).toNat).1⟩
  then (⟨b.now, b.shift, dropL b.ms (atN b.ms s).toNat, (dropP b (atN b.ms s).toNat).1⟩, 0) else (dropB b (atN b.ms s).toNat, 0)
def roundR (b : Bk) (s : ByteArray) : Bk × Int :=
  if ¬ BkOk b then (Bk.z, 1) else if ¬ (0 ≤ atN b.ms s ∧ (at' b.ms (atN b.ms s).toNat).f1 = true) then (b, 3) else if tk b.ts (atN b.ms s).toNat ≠ b.now then (b, 6)
  else if RoundOk b (atN b.ms s).toNat then (roundB b (atN b.ms s).toNat, 0) else (b, 5)
end Go.AM

/- Answers that are nil in one case: ticks and whether there are any; no condition. -/
namespace Go.AM
set_option linter.unusedVariables false
set_option linter.unusedSimpArgs false
open Go.RowKit
variable {P : Program}

/-- What omega is not to see. -/
structure Fact (p : Prop) : Prop where
  h : p
theorem fs {i : Nat} (h : i < 9223372036854775807) : Fact (wrap64 ((i : Int) + 1) = ((i + 1 : Nat) : Int)) := ⟨wrap_eq (by omega) (by omega)⟩
theorem fw {x : Int} (h : -9223372036854775808 ≤ x ∧ x ≤ 9223372036854775807) : Fact (wrap64 x = x) := ⟨wrap_eq h.1 h.2⟩
/-- Ticks of its own, or nil. -/
def NilR (p : List Int × Bool) (v : V) (s : List (Option C)) : Prop :=
  (v = .tup [.one (.own (.k 0)), .one (.bool p.2)] ∧ s = [some (.row (.int .i64) p.1)]) ∨ (p.2 = false ∧ v = .tup [.one .nil, .one (.bool false)] ∧ s = [])
theorem nilR_len {p : List Int × Bool} {v : V} {s : List (Option C)} (h : NilR p v s) : 0 ≤ s.length := Nat.zero_le _
theorem nilR_ok {p : List Int × Bool} (hp : p.2 = false → p.1 = []) {f : FuncId} {args : List V} (h : ∃ v s, NilR p v s ∧ Ok P f args [] v s) : Ok P f args [] (.tup [.one (.own (.k 0)), .one (.bool p.2)]) [some (.row (.int .i64) p.1)] := by
  obtain ⟨v, s, (⟨rfl, rfl⟩ | ⟨h1, rfl, rfl⟩), k⟩ := h
  · exact k
  · rw [h1, hp h1]
    exact k.virt (.int .i64) rfl
theorem ordFrom_nil (l : List Mv) (o : List Int) : ∀ d i ts, (ordFrom l o d i ts).2 = false → (ordFrom l o d i ts).1 = [] := by
  intro d
  induction d with
  | zero => intro i ts h; cases h
  | succ d ih =>
    intro i ts h
    unfold ordFrom at h ⊢
    split
    · rfl
    · rename_i u hu
      rw [hu] at h
      exact ih _ _ h
theorem ordM_nil (l : List Mv) (o : List Int) : (ordM l o).2 = false → (ordM l o).1 = [] := ordFrom_nil l o _ _ _
theorem ordF_nil (l : List Mv) (o : List Int) : (ordF l o).2 = false → (ordF l o).1 = [] := by
  unfold ordF
  split
  · exact ordM_nil l o
  · exact fun _ => rfl
theorem ordFrom_ts {l : List Mv} {o : List Int} {d i : Nat} {ts : List Int} {r : List Int × Bool} (he : ordFrom l o (d + 1) i ts = r) {m : Mv} (hm : m = at' l (pl o i)) (hok : mvOk m = true) (hts : Ts l.length ts) {t : Int} (ht : t = leastT l o ts i) (h0 : 0 ≤ t) :
    (tickOf m t = none → r.2 = false) ∧ ∀ u, tickOf m t = some u → ordFrom l o d (i + 1) (ts.set (pl o i) u) = r ∧ Ts l.length (ts.set (pl o i) u) := by
  subst hm ht
  unfold ordFrom at he
  constructor
  · intro h
    rw [h] at he
    rw [← he]
  · intro u h
    rw [h] at he
    have := tickOf_range hok h h0
    exact ⟨he, ts_set hts _ this.1 this.2.1⟩
end Go.AM

/- Plain models: the program's insertion sort; no condition. -/
namespace Go.AM
set_option linter.unusedVariables false
set_option linter.unusedSimpArgs false
open Go.RowKit

theorem wayRow_perm {α : Type} {pre : List α} {x : α} {rest : List α} {j : Nat} : (wayRow pre x rest j).Perm (pre ++ x :: rest) := by
  unfold wayRow
  refine List.perm_middle.trans ?_
  rw [← List.append_assoc, List.take_append_drop]
  exact List.perm_middle.symm
theorem wayRow_start {α : Type} {pre : List α} {x : α} {rest : List α} {j : Nat} (h : pre.length = j) : wayRow pre x rest j = pre ++ x :: rest := by
  unfold wayRow
  rw [List.take_of_length_le (by omega), List.drop_of_length_le (by omega)]
  rfl
theorem drop_getD {α : Type} {xs : List α} {i : Nat} (d : α) (h : i < xs.length) : xs.drop i = xs.getD i d :: xs.drop (i + 1) := by
  rw [List.drop_eq_getElem_cons h, List.getD_eq_getElem?_getD, List.getElem?_eq_getElem h]
  rfl
/-- The row with its first i sorted. -/
def sortedRow {α : Type} (lt : α → α → Bool) (d : α) (xs : List α) (i : Nat) : List α := isort lt d xs i ++ xs.drop i
theorem sortedRow_zero {α : Type} {lt : α → α → Bool} {d : α} {xs : List α} : sortedRow lt d xs 0 = xs := rfl
theorem sortedRow_all {α : Type} {lt : α → α → Bool} {d : α} {xs : List α} : sortedRow lt d xs xs.length = isort lt d xs xs.length := by
  unfold sortedRow
  rw [List.drop_length, List.append_nil]
theorem sortedRow_one {α : Type} {lt : α → α → Bool} {d : α} {xs : List α} (h : 1 ≤ xs.length) : sortedRow lt d xs 1 = xs := by
  unfold sortedRow
  rw [isort_succ]
  show insA _ _ (isort lt d xs 0) ++ _ = _
  match xs, h with
  | x :: xs, _ => simp [isort, foldFrom, insA]
theorem sortedRow_start {α : Type} {lt : α → α → Bool} {d : α} {xs : List α} {i : Nat} (h : i < xs.length) : sortedRow lt d xs i = wayRow (isort lt d xs i) (xs.getD i d) (xs.drop (i + 1)) i := by
  rw [wayRow_start isort_len, sortedRow, drop_getD d h]
theorem sortedRow_end {α : Type} {lt : α → α → Bool} (hs : Srt lt) {d : α} {xs : List α} {i j : Nat} (h : i < xs.length) (hj : j ≤ i) (hb : ∀ q, j ≤ q → q < i → lt (xs.getD i d) ((isort lt d xs i).getD q d) = true) (ha : 0 < j → lt (xs.getD i d) ((isort lt d xs i).getD (j - 1) d) = false) :
    wayRow (isort lt d xs i) (xs.getD i d) (xs.drop (i + 1)) j = sortedRow lt d xs (i + 1) := by
  rw [wayRow_end hs (d := d) (isort_sorted hs) (by rw [isort_len]; exact hj) (fun q h1 h2 => hb q h1 (by rw [isort_len] at h2; exact h2)) ha]
  unfold sortedRow
  rw [isort_succ]
  rfl
theorem way_xs {α : Type} {lt : α → α → Bool} {d : α} {xs : List α} {i j : Nat} (h : i < xs.length) : (wayRow (isort lt d xs i) (xs.getD i d) (xs.drop (i + 1)) j).Perm xs := by
  refine wayRow_perm.trans ?_
  rw [← drop_getD d h]
  refine (List.Perm.append_right _ (isort_perm (by omega))).trans ?_
  rw [List.take_append_drop]
theorem way_swap {α : Type} {pre : List α} {x d : α} {rest : List α} {j : Nat} (hj : j + 1 ≤ pre.length) : swapL d (wayRow pre x rest (j + 1)) (j + 1) j = wayRow pre x rest j := by
  unfold swapL
  have hjl : j < pre.length := by omega
  rw [wayRow_here (by omega), wayRow_ahead (Nat.lt_succ_self j) (by omega)]
  refine wayRow_swap hj ?_
  rw [List.getD_eq_getElem?_getD, List.getElem?_eq_getElem hjl]
  rfl
theorem wrap_pred {z : Int} {j : Nat} (h : z = ((j + 1 : Nat) : Int)) (hj : j < 4611686018427387904) : wrap64 (z - 1) = (j : Int) := by
  subst h
  exact (wrap_eq (by omega) (by omega)).trans (by omega)
end Go.AM

/- The entries behind sort.Slice, at slices of numbers and of moves; condition: places within the length. -/
namespace Go.Proofs.Ytmppoajepbbmiaa.AM
open Go.AM Go.RowKit
set_option linter.unusedVariables false
set_option linter.unusedSimpArgs false
set_option maxRecDepth 100000

noncomputable def tiI : TypeInfo := (P.info? 24).get (by kernel_rfl)
noncomputable def eiI : TypeInfo := (P.info? 3).get (by kernel_rfl)
noncomputable def tiM : TypeInfo := (P.info? 26).get (by kernel_rfl)
noncomputable def eiM : TypeInfo := (P.info? 63).get (by kernel_rfl)
theorem skI {n : Nat} (h2 : 2 ≤ n) : Lib.swapperK n eiI 2 = 5 := by
  have a : eiI.hasPointers = false := by kernel_rfl
  have b : eiI.bytes = 8 := by kernel_rfl
  have c : (n == 0) = false := by simp; omega
  have d : (n == 1) = false := by simp; omega
  simp [Lib.swapperK, a, b, c, d]
theorem skM {n : Nat} (h2 : 2 ≤ n) : Lib.swapperK n eiM 25 = 9 := by
  have a : eiM.hasPointers = true := by kernel_rfl
  have b : eiM.bytes = 56 := by kernel_rfl
  have c : (n == 0) = false := by simp; omega
  have d : (n == 1) = false := by simp; omega
  simp [Lib.swapperK, a, b, c, d]
theorem sk0 {n : Nat} {ie : TypeInfo} {ke : Nat} (h : n = 0) : Lib.swapperK n ie ke = 1 := by subst h; rfl
theorem sk1 {n : Nat} {ie : TypeInfo} {ke : Nat} (h : n = 1) : Lib.swapperK n ie ke = 2 := by subst h; rfl
theorem valueOfI_ok (xs : List Int) : Ok P 92 [.one (.ifc 24 (.own (.k 0)))] [some (.row (.int .i64) xs)] (.agg [th P 24, .ptr (.k 1) 0, .int .u64 151]) [some (.row (.int .i64) xs), some (.cells [.own (.k 0)])] :=
  ok_valueOf (i := tiI) (e := 3) Try.func92 (by kernel_rfl) (by kernel_rfl) (by kernel_rfl) (by kernel_rfl) (by kernel_rfl) (by kernel_rfl)
theorem lenI_ok (xs : List Int) : Ok P 95 [.agg [th P 24, .ptr (.k 0) 0, .int .u64 151]] [some (.cells [.own (.k 1)]), some (.row (.int .i64) xs)] (.one (.int .i64 (xs.length : Int))) [some (.cells [.own (.k 1)]), some (.row (.int .i64) xs)] :=
  ok_valueLen (i := tiI) (e := 3) Try.func95 (by kernel_rfl) (by kernel_rfl) (by kernel_rfl) (by kernel_rfl) (by kernel_rfl) (by kernel_rfl) (by kernel_rfl)
theorem swapperI_ok (xs : List Int) (h : 2 ≤ xs.length) : Ok P 93 [.one (.ifc 24 (.own (.k 0)))] [some (.row (.int .i64) xs)] (.one (.fn 118 [.own (.k 0), th P 3])) [some (.row (.int .i64) xs)] :=
  ok_swapper (i := tiI) (ie := eiI) (e := 3) Try.func93 (by kernel_rfl) (by kernel_rfl) (by kernel_rfl) (by kernel_rfl) (by kernel_rfl) (by kernel_rfl) (by kernel_rfl) 2 (fun _ => by kernel_rfl) _ (by rw [skI h]; kernel_rfl) _ (by rw [if_neg (by omega)])
theorem swapper0I_ok (xs : List Int) (h : xs.length = 0) : Ok P 93 [.one (.ifc 24 (.own (.k 0)))] [some (.row (.int .i64) xs)] (.one (.fn 114 [])) [some (.row (.int .i64) xs)] :=
  ok_swapper (i := tiI) (ie := eiI) (e := 3) Try.func93 (by kernel_rfl) (by kernel_rfl) (by kernel_rfl) (by kernel_rfl) (by kernel_rfl) (by kernel_rfl) (by kernel_rfl) 2 (fun _ => by kernel_rfl) _ (by rw [sk0 h]; kernel_rfl) _ (by rw [if_pos (by omega)])
theorem swapper1I_ok (xs : List Int) (h : xs.length = 1) : Ok P 93 [.one (.ifc 24 (.own (.k 0)))] [some (.row (.int .i64) xs)] (.one (.fn 115 [])) [some (.row (.int .i64) xs)] :=
  ok_swapper (i := tiI) (ie := eiI) (e := 3) Try.func93 (by kernel_rfl) (by kernel_rfl) (by kernel_rfl) (by kernel_rfl) (by kernel_rfl) (by kernel_rfl) (by kernel_rfl) 2 (fun _ => by kernel_rfl) _ (by rw [sk1 h]; kernel_rfl) _ (by rw [if_pos (by omega)])
theorem swapI_ok (xs : List Int) (i j : Nat) (z y : Int) (hz : z = i) (hy : y = j) (hi : i < xs.length) (hj : j < xs.length) : Ok P 118 [.one (.int .i64 z), .one (.int .i64 y), .one (.own (.k 0)), .one (th P 3)] [some (.row (.int .i64) xs)] (.tup []) [some (.row (.int .i64) (swapL 0 xs i j))] := by
  subst hz hy
  exact ok_swap (ie := eiI) (e := 3) Try.func118 (by kernel_rfl) (by kernel_rfl) (by kernel_rfl) true (by kernel_rfl) (by kernel_rfl) (by kernel_rfl) (by rw [if_pos (show (El.int .i64).sz = 1 from rfl)]; exact fun _ => by kernel_rfl) hi hj
end Go.Proofs.Ytmppoajepbbmiaa.AM

/- StripMoveOk, the program's and the reference's; gaps; no condition. -/
namespace Go.Proofs.Ytmppoajepbbmiaa.AM
open Go.AM Go.RowKit
set_option linter.unusedVariables false
set_option maxRecDepth 100000
set_option linter.unusedSimpArgs false

theorem sin_ok (a b c : Int) : Ok P 69 [.one (.int .i64 a), .one (.int .i64 b), .one (.int .i64 c)] [] (.one (.bool (decide (b ≤ a ∧ a ≤ c)))) [] := by
  refine Ok.of_run (F := mk Try.f69 0) Try.func69 rfl rfl tabOk mixed rfl rfl rfl rfl rfl (Nat.le_of_ble_eq_true rfl) (Nat.le_of_ble_eq_true rfl) (.go 5000 ?_)
  repeat' (conv => arg 4; whnf); first | refine Run.ret ⟨?_, rfl⟩ | refine Run.condT ?_ | refine Run.condf ?_ | refine Run.condD (fun h => ?_) (fun h => ?_) | refine Run.condN (fun h => ?_) (fun h => ?_) | refine Run.condE (fun h => ?_) (fun h => ?_) | refine Run.condF (fun h => ?_) (fun h => ?_) | refine Run.condM (fun h => ?_) (fun h => ?_) | refine Run.condB (fun h => ?_) (fun h => ?_) | refine Run.check1 ?_
  · simp [h]
  · simp [h]
theorem gap_ok (a b : Mv) : Ok P 67 [.agg (encMv a), .agg (encMv b)] [] (.one (.int .i64 (gap a b))) [] := by
  refine Ok.of_run (F := mk Try.f67 0) Try.func67 rfl rfl tabOk mixed rfl rfl rfl rfl rfl (Nat.le_of_ble_eq_true rfl) (Nat.le_of_ble_eq_true rfl) (.go 5000 ?_)
  repeat' (conv => arg 4; whnf); first | refine Run.ret ⟨?_, rfl⟩ | refine Run.condT ?_ | refine Run.condf ?_ | refine Run.condD (fun h => ?_) (fun h => ?_) | refine Run.condN (fun h => ?_) (fun h => ?_) | refine Run.condE (fun h => ?_) (fun h => ?_) | refine Run.condF (fun h => ?_) (fun h => ?_) | refine Run.condM (fun h => ?_) (fun h => ?_) | refine Run.condB (fun h => ?_) (fun h => ?_) | refine Run.check1 ?_ | refine Run.call (in_ok _ _ _) rfl ?_
  all_goals (refine congrArg (fun n => V.one (.int .i64 n)) ?_; simp only [gap, wrap64, *]; (repeat' split) <;> first | omega | simp_all)
theorem sgap_ok (a b : Mv) : Ok P 98 [.agg (encMv a), .agg (encMv b)] [] (.one (.int .i64 (gap a b))) [] := by
  refine Ok.of_run (F := mk Try.f98 0) Try.func98 rfl rfl tabOk mixed rfl rfl rfl rfl rfl (Nat.le_of_ble_eq_true rfl) (Nat.le_of_ble_eq_true rfl) (.go 5000 ?_)
  repeat' (conv => arg 4; whnf); first | refine Run.ret ⟨?_, rfl⟩ | refine Run.condT ?_ | refine Run.condf ?_ | refine Run.condD (fun h => ?_) (fun h => ?_) | refine Run.condN (fun h => ?_) (fun h => ?_) | refine Run.condE (fun h => ?_) (fun h => ?_) | refine Run.condF (fun h => ?_) (fun h => ?_) | refine Run.condM (fun h => ?_) (fun h => ?_) | refine Run.condB (fun h => ?_) (fun h => ?_) | refine Run.check1 ?_ | refine Run.call (sin_ok _ _ _) rfl ?_
  all_goals (refine congrArg (fun n => V.one (.int .i64 n)) ?_; simp only [gap, wrap64, *]; (repeat' split) <;> first | omega | simp_all)
theorem name_ok (s : ByteArray) : Ok P 99 [.one (.str s)] [] (.one (.bool (nameOk s))) [] := by
  refine Ok.of_run (F := mk Try.f99 0) Try.func99 rfl rfl tabOk mixed rfl rfl rfl rfl rfl (Nat.le_of_ble_eq_true rfl) (Nat.le_of_ble_eq_true rfl) (.go 5000 ?_)
  by_cases hs : 1 ≤ (s.size : Int) ∧ (s.size : Int) ≤ 8
  · have loop : ∀ (d : Nat) (i : Int), 0 ≤ i → (s.size : Int) - i = d → allB s d i = nameOk s → Run P (mk Try.f99 0) (fun v st => v = .one (.bool (nameOk s)) ∧ st = []) (.loop ⟨[(0, .one (.str s)), (3, .one (.int .i64 i))], [], [.lp [0, 1, 0, 1, 1], .blk 0, .code [1, 1, 1]], none⟩) := by
      intro d
      induction d with
      | zero =>
        intro i h0 hd he
        refine Run.loop ?_
        repeat' (conv => arg 4; whnf); first | refine Run.ret ⟨?_, rfl⟩ | refine Run.condT ?_ | refine Run.condf ?_ | refine Run.condD (fun h => ?_) (fun h => ?_) | refine Run.condN (fun h => ?_) (fun h => ?_) | refine Run.condE (fun h => ?_) (fun h => ?_) | refine Run.condF (fun h => ?_) (fun h => ?_) | refine Run.condM (fun h => ?_) (fun h => ?_) | refine Run.condB (fun h => ?_) (fun h => ?_) | refine Run.check1 ?_ | (exfalso; omega)
        rw [← he]; rfl
      | succ d ih =>
        intro i h0 hd he
        have e : wrap64 (i + 1) = i + 1 := wrap_eq (by omega) (by omega)
        rw [allB_succ] at he
        refine Run.loop ?_
        repeat' (conv => arg 4; whnf); first | refine Run.ret ⟨?_, rfl⟩ | refine Run.condT ?_ | refine Run.condf ?_ | refine Run.condD (fun h => ?_) (fun h => ?_) | refine Run.condN (fun h => ?_) (fun h => ?_) | refine Run.condE (fun h => ?_) (fun h => ?_) | refine Run.condF (fun h => ?_) (fun h => ?_) | refine Run.condM (fun h => ?_) (fun h => ?_) | refine Run.condB (fun h => ?_) (fun h => ?_) | refine Run.check1 ?_ | (exfalso; omega) | refine Run.need1 (⟨h0, ‹_›⟩) ?_ | refine Run.round ⟨[], [], []⟩ (ih _ ?_ ?_ ?_) rfl (by (repeat' (first | exact wkEnv_nil | refine wkEnv_cons rfl ?_ | exact wkSto_nil | refine wkSto_none ?_ | refine wkSto_some rfl ?_)); done) (by (repeat' (first | exact wkEnv_nil | refine wkEnv_cons rfl ?_ | exact wkSto_nil | refine wkSto_none ?_ | refine wkSto_some rfl ?_)); done)
        all_goals first
          | (exfalso; omega)
          | (rw [e]; omega)
          | (have ok : okB (bt s i) = true := by simp only [okB, decide_eq_true_eq]; omega
             rw [e, ← he, ok]; rfl)
          | (have ok : okB (bt s i) = false := by simp only [okB, decide_eq_false_iff_not]; omega
             rw [← he, ok]; rfl)
    repeat' (conv => arg 4; whnf); first | refine Run.ret ⟨?_, rfl⟩ | refine Run.condT ?_ | refine Run.condf ?_ | refine Run.condD (fun h => ?_) (fun h => ?_) | refine Run.condN (fun h => ?_) (fun h => ?_) | refine Run.condE (fun h => ?_) (fun h => ?_) | refine Run.condF (fun h => ?_) (fun h => ?_) | refine Run.condM (fun h => ?_) (fun h => ?_) | refine Run.condB (fun h => ?_) (fun h => ?_) | refine Run.check1 ?_ | refine Run.call (sin_ok _ _ _) rfl ?_ | refine Run.round ⟨[], [], []⟩ (loop s.size 0 ?_ ?_ ?_) rfl (by (repeat' (first | exact wkEnv_nil | refine wkEnv_cons rfl ?_ | exact wkSto_nil | refine wkSto_none ?_ | refine wkSto_some rfl ?_)); done) (by (repeat' (first | exact wkEnv_nil | refine wkEnv_cons rfl ?_ | exact wkSto_nil | refine wkSto_none ?_ | refine wkSto_some rfl ?_)); done)
    all_goals first | omega | (simp only [nameOk]; rw [decide_eq_true (by omega)]; rfl)
  · have : nameOk s = false := by simp only [nameOk]; rw [decide_eq_false (by omega)]; rfl
    rw [this]
    repeat' (conv => arg 4; whnf); first | refine Run.ret ⟨?_, rfl⟩ | refine Run.condT ?_ | refine Run.condf ?_ | refine Run.condD (fun h => ?_) (fun h => ?_) | refine Run.condN (fun h => ?_) (fun h => ?_) | refine Run.condE (fun h => ?_) (fun h => ?_) | refine Run.condF (fun h => ?_) (fun h => ?_) | refine Run.condM (fun h => ?_) (fun h => ?_) | refine Run.condB (fun h => ?_) (fun h => ?_) | refine Run.check1 ?_ | refine Run.call (sin_ok _ _ _) rfl ?_ | (exfalso; omega)
    all_goals rfl
theorem smoveOk_ok (m : Mv) : Ok P 65 [.agg (encMv m)] [] (.one (.bool (mvOk m))) [] := by
  refine Ok.of_run (F := mk Try.f65 0) Try.func65 rfl rfl tabOk mixed rfl rfl rfl rfl rfl (Nat.le_of_ble_eq_true rfl) (Nat.le_of_ble_eq_true rfl) (.go 5000 ?_)
  repeat' (conv => arg 4; whnf); first | refine Run.ret ⟨?_, rfl⟩ | refine Run.condT ?_ | refine Run.condf ?_ | refine Run.condD (fun h => ?_) (fun h => ?_) | refine Run.condN (fun h => ?_) (fun h => ?_) | refine Run.condE (fun h => ?_) (fun h => ?_) | refine Run.condF (fun h => ?_) (fun h => ?_) | refine Run.condM (fun h => ?_) (fun h => ?_) | refine Run.condB (fun h => ?_) (fun h => ?_) | refine Run.check1 ?_ | refine Run.call (sin_ok _ _ _) rfl ?_ | refine Run.call (name_ok _) rfl ?_
  all_goals (refine vb ?_; rw [mvOk_true]; cases hn : nameOk m.f0 <;> simp_all <;> omega)
theorem moveOk_ok (m : Mv) : Ok P 64 [.agg (encMv m)] [] (.one (.bool (mvOk m))) [] := by
  refine Ok.of_run (F := mk Try.f64 0) Try.func64 rfl rfl tabOk mixed rfl rfl rfl rfl rfl (Nat.le_of_ble_eq_true rfl) (Nat.le_of_ble_eq_true rfl) (.go 5000 ?_)
  have loop : 1 ≤ m.f0.size ∧ m.f0.size ≤ 8 → 1 ≤ m.f2 ∧ m.f2 ≤ 3 → 0 ≤ m.f3 → m.f3 ≤ m.f4 → m.f4 ≤ 10000 → ∀ (d : Nat) (i : Int), 0 ≤ i → (m.f0.size : Int) - i = d → allB m.f0 d i = allB m.f0 m.f0.size 0 →
      Run P (mk Try.f64 0) (fun v st => v = .one (.bool (mvOk m)) ∧ st = []) (.loop ⟨[(1, .one (.ptr (.t 1 0) 0)), (3, .one (.int .i64 i))], [(.t 1 0, some (.cells (encMv m)))], [.lp [0, 1, 0, 1, 1], .blk 0, .code [1, 1, 1]], none⟩) := by
    intro hs h2 h3 h4 h5 d
    have hn : nameOk m.f0 = allB m.f0 m.f0.size 0 := by
      unfold nameOk
      rw [decide_eq_true hs]
      rfl
    induction d with
    | zero =>
      intro i h0 hd he
      have hn : nameOk m.f0 = true := by rw [hn, ← he]; rfl
      refine Run.loop ?_
      repeat' (conv => arg 4; whnf); first | refine Run.ret ⟨?_, rfl⟩ | refine Run.condT ?_ | refine Run.condf ?_ | refine Run.condD (fun h => ?_) (fun h => ?_) | refine Run.condN (fun h => ?_) (fun h => ?_) | refine Run.condE (fun h => ?_) (fun h => ?_) | refine Run.condF (fun h => ?_) (fun h => ?_) | refine Run.condM (fun h => ?_) (fun h => ?_) | refine Run.condB (fun h => ?_) (fun h => ?_) | refine Run.check1 ?_ | refine Run.call (in_ok _ _ _) rfl ?_ | (exfalso; omega)
      all_goals first
        | (exfalso; omega)
        | (refine vb ?_; rw [mvOk_true, hn]; simp <;> omega)
    | succ d ih =>
      intro i h0 hd he
      have e : wrap64 (i + 1) = i + 1 := wrap_eq (by omega) (by omega)
      rw [allB_succ] at he
      refine Run.loop ?_
      repeat' (conv => arg 4; whnf); first | refine Run.ret ⟨?_, rfl⟩ | refine Run.condT ?_ | refine Run.condf ?_ | refine Run.condD (fun h => ?_) (fun h => ?_) | refine Run.condN (fun h => ?_) (fun h => ?_) | refine Run.condE (fun h => ?_) (fun h => ?_) | refine Run.condF (fun h => ?_) (fun h => ?_) | refine Run.condM (fun h => ?_) (fun h => ?_) | refine Run.condB (fun h => ?_) (fun h => ?_) | refine Run.check1 ?_ | refine Run.call (in_ok _ _ _) rfl ?_ | refine Run.need1 (⟨h0, ‹_›⟩) ?_ | refine Run.round ⟨[(.t 1 0, .t 1 0)], [], []⟩ (ih _ ?_ ?_ ?_) rfl (by (repeat' (first | exact wkEnv_nil | refine wkEnv_cons rfl ?_ | exact wkSto_nil | refine wkSto_none ?_ | refine wkSto_some rfl ?_)); done) (by (repeat' (first | exact wkEnv_nil | refine wkEnv_cons rfl ?_ | exact wkSto_nil | refine wkSto_none ?_ | refine wkSto_some rfl ?_)); done) | (exfalso; omega)
      all_goals first
        | (exfalso; omega)
        | (rw [e]; omega)
        | (have ok : okB (bt m.f0 i) = true := by simp only [okB, decide_eq_true_eq]; omega
           rw [e, ← he, ok]; rfl)
        | (have ok : okB (bt m.f0 i) = false := by simp only [okB, decide_eq_false_iff_not]; omega
           have hn : nameOk m.f0 = false := by rw [hn, ← he, ok]; rfl
           unfold mvOk; rw [hn]; rfl)
  repeat' (conv => arg 4; whnf); first | refine Run.ret ⟨?_, rfl⟩ | refine Run.condT ?_ | refine Run.condf ?_ | refine Run.condD (fun h => ?_) (fun h => ?_) | refine Run.condN (fun h => ?_) (fun h => ?_) | refine Run.condE (fun h => ?_) (fun h => ?_) | refine Run.condF (fun h => ?_) (fun h => ?_) | refine Run.condM (fun h => ?_) (fun h => ?_) | refine Run.condB (fun h => ?_) (fun h => ?_) | refine Run.check1 ?_ | refine Run.call (in_ok _ _ _) rfl ?_ | refine Run.round ⟨[(.t 1 0, .t 1 0)], [], []⟩ (loop ?_ ?_ ?_ ?_ ?_ m.f0.size 0 ?_ ?_ ?_) rfl (by (repeat' (first | exact wkEnv_nil | refine wkEnv_cons rfl ?_ | exact wkSto_nil | refine wkSto_none ?_ | refine wkSto_some rfl ?_)); done) (by (repeat' (first | exact wkEnv_nil | refine wkEnv_cons rfl ?_ | exact wkSto_nil | refine wkSto_none ?_ | refine wkSto_some rfl ?_)); done)
  all_goals first
    | omega
    | rfl
    | (refine vb ?_; rw [mvOk_true, nameOk_true]; simp only [Bool.false_eq_true, false_iff]; omega)
    | trace_state
end Go.Proofs.Ytmppoajepbbmiaa.AM

/- StripFirst of the program, as far as one block of the library's stable sort; condition: fewer than 20 moves. -/
namespace Go.Proofs.Ytmppoajepbbmiaa.AM
open Go.AM Go.RowKit
set_option linter.unusedVariables false
set_option linter.unusedSimpArgs false
set_option maxRecDepth 100000

theorem when_ok (m : Mv) : Ok P 51 [.agg (encMv m)] [] (.one (.int .i64 (key m))) [] := by
  refine Ok.of_run (F := mk Try.f51 0) Try.func51 rfl rfl tabOk mixed rfl rfl rfl rfl rfl (Nat.le_of_ble_eq_true rfl) (Nat.le_of_ble_eq_true rfl) (.go 5000 ?_)
  repeat' (conv => arg 4; whnf); first | refine Run.ret ⟨?_, rfl⟩ | refine Run.condT ?_ | refine Run.condf ?_ | refine Run.condD (fun h => ?_) (fun h => ?_) | refine Run.condN (fun h => ?_) (fun h => ?_) | refine Run.condE (fun h => ?_) (fun h => ?_) | refine Run.condF (fun h => ?_) (fun h => ?_) | refine Run.condM (fun h => ?_) (fun h => ?_) | refine Run.condB (fun h => ?_) (fun h => ?_) | refine Run.check1 ?_
  all_goals (refine vi ?_; unfold key; first | rw [if_pos ‹_›] | rw [if_neg ‹_›])
/-- What the sort's comparison reads: the moves, the places, when a move comes. -/
noncomputable def stF (l : List Mv) (xs : List Int) : List (Option C) := [some (.cells [.lst .mv l false]), some (.cells [.own (.k 3)]), some (.cells [.fn 51 []]), some (.row (.int .i64) xs)]
def InL (n : Nat) (xs : List Int) : Prop := ∀ x ∈ xs, 0 ≤ x ∧ x < (n : Int)
theorem inL_rd {n : Nat} {xs : List Int} (h : InL n xs) {i : Nat} (hi : i < xs.length) : 0 ≤ rd xs (i : Int) ∧ rd xs (i : Int) < (n : Int) := by
  rw [rd_nat, tk, List.getD_eq_getElem?_getD, List.getElem?_eq_getElem hi]
  exact h _ (List.getElem_mem hi)
theorem less_ok (l : List Mv) (xs : List Int) (hr : InL l.length xs) (i j : Nat) (z y : Int) (hz : z = i) (hy : y = j) (hi : i < xs.length) (hj : j < xs.length) :
    Ok P 53 [.one (.int .i64 z), .one (.int .i64 y), .one (.ptr (.k 0) 0), .one (.ptr (.k 1) 0), .one (.ptr (.k 2) 0)] (stF l xs) (.one (.bool (ltP l (xs.getD i 0) (xs.getD j 0)))) (stF l xs) := by
  subst hz hy
  have h1 := inL_rd hr hi
  have h2 := inL_rd hr hj
  have e1 : Fact (rdM l (rd xs i) = at' l (xs.getD i 0).toNat) := ⟨by rw [rd_nat]; rfl⟩
  have e2 : Fact (rdM l (rd xs j) = at' l (xs.getD j 0).toNat) := ⟨by rw [rd_nat]; rfl⟩
  refine Ok.of_run (F := mk Try.f53 4) Try.func53 rfl rfl tabOk mixed rfl rfl rfl rfl rfl (Nat.le_of_ble_eq_true rfl) (Nat.le_of_ble_eq_true rfl) (.go 5000 ?_)
  repeat' (conv => arg 4; whnf); first | refine Run.ret ⟨?_, rfl⟩ | refine Run.condT ?_ | refine Run.condf ?_ | refine Run.condD (fun h => ?_) (fun h => ?_) | refine Run.condN (fun h => ?_) (fun h => ?_) | refine Run.condE (fun h => ?_) (fun h => ?_) | refine Run.condF (fun h => ?_) (fun h => ?_) | refine Run.condM (fun h => ?_) (fun h => ?_) | refine Run.condB (fun h => ?_) (fun h => ?_) | refine Run.check1 ?_ | refine Run.need1 (by simp only [allP, true_and, and_true]; omega) ?_ | refine Run.call (when_ok _) rfl ?_
  all_goals (refine vb ?_; unfold ltP lessM; rw [← e1.h, ← e2.h])
  · have hne : ¬ key (rdM l (rd xs i)) = key (rdM l (rd xs j)) := ‹_›
    simp [hne]
  · have he : key (rdM l (rd xs i)) = key (rdM l (rd xs j)) := ‹_›
    simp [he, ltN]
/-- The sort's comparison and its exchange. -/
noncomputable def dataF : V := .agg [.fn 53 [.ptr (.k 0) 0, .ptr (.k 1) 0, .ptr (.k 2) 0], .fn 118 [.own (.k 3), th P 3]]
theorem insF_ok (l : List Mv) (xs : List Int) (hr : InL l.length xs) (h2 : 2 ≤ xs.length) (h20 : xs.length ≤ 1048576) (z y : Int) (hz : z = 0) (hy : y = xs.length) : Ok P 123 [dataF, .one (.int .i64 z), .one (.int .i64 y)] (stF l xs) (.tup []) (stF l (isort (ltP l) 0 xs xs.length)) := by
  subst hz hy
  have hs : Srt (ltP l) := lessM_srt (fun a : Int => at' l a.toNat)
  have w1 : Fact (wrap64 (0 + 1) = ((1 : Nat) : Int)) := ⟨(wrap_eq (by omega) (by omega)).trans (by omega)⟩
  refine Ok.of_run (F := mk Try.f123 4) Try.func123 rfl rfl tabOk mixed rfl rfl rfl rfl rfl (Nat.le_of_ble_eq_true rfl) (Nat.le_of_ble_eq_true rfl) (.go 5000 ?_)
  have outer : ∀ (d i : Nat) (z : Int) (row : List Int), z = i → row = sortedRow (ltP l) 0 xs i → (i + d = xs.length ∨ (d = 0 ∧ xs.length ≤ i)) → (xs.length ≤ i → row = isort (ltP l) 0 xs xs.length) → Run P (mk Try.f123 4) (fun v s => v = .tup [] ∧ s = stF l (isort (ltP l) 0 xs xs.length)) (.loop ⟨[(1, .one (.int .i64 0)), (2, .one (.int .i64 (xs.length : Int))), (3, .one (.ptr (.t 3 0) 0)), (6, .one (.int .i64 z))],
      [(.k 0, some (.cells [.lst .mv l false])), (.k 1, some (.cells [.own (.k 3)])), (.k 2, some (.cells [.fn 51 []])), (.k 3, some (.row (.int .i64) row)), (.t 3 0, some (.cells dataF.atoms))], [.lp [0, 1, 1], .blk 0], none⟩) := by
    intro d
    induction d with
    | zero =>
      intro i z row hz hrow hd hend
      subst hz
      have hend := hend (by omega)
      subst hend
      refine Run.loop ?_
      repeat' (conv => arg 4; whnf); first | refine Run.ret ⟨?_, rfl⟩ | refine Run.condT ?_ | refine Run.condf ?_ | refine Run.condD (fun h => ?_) (fun h => ?_) | refine Run.condN (fun h => ?_) (fun h => ?_) | refine Run.condE (fun h => ?_) (fun h => ?_) | refine Run.condF (fun h => ?_) (fun h => ?_) | refine Run.condM (fun h => ?_) (fun h => ?_) | refine Run.condB (fun h => ?_) (fun h => ?_) | refine Run.check1 ?_ | (exfalso; omega)
      all_goals first | (exfalso; omega) | rfl | trace_state
    | succ d ih =>
      intro i z row hz hrow hd hend
      subst hz
      have hi : i < xs.length := by omega
      clear hend
      have e := fs (i := i) (by omega)
      have inner : ∀ (j : Nat) (z : Int) (row : List Int), z = j → j ≤ i → row = wayRow (isort (ltP l) 0 xs i) (xs.getD i 0) (xs.drop (i + 1)) j → (∀ q, j ≤ q → q < i → ltP l (xs.getD i 0) ((isort (ltP l) 0 xs i).getD q 0) = true) →
          Run P (mk Try.f123 4) (fun v s => v = .tup [] ∧ s = stF l (isort (ltP l) 0 xs xs.length)) (.loop ⟨[(1, .one (.int .i64 0)), (2, .one (.int .i64 (xs.length : Int))), (3, .one (.ptr (.t 3 0) 0)), (6, .one (.int .i64 (i : Int))), (7, .one (.int .i64 z))],
            [(.k 0, some (.cells [.lst .mv l false])), (.k 1, some (.cells [.own (.k 3)])), (.k 2, some (.cells [.fn 51 []])), (.k 3, some (.row (.int .i64) row)), (.t 3 0, some (.cells dataF.atoms))], [.lp [0, 1, 0, 0, 1, 0, 0, 1, 1], .blk 2, .blk 1, .code [1, 1, 0, 0, 1, 1], .lp [0, 1, 1], .blk 0], none⟩) := by
        intro j
        induction j with
        | zero =>
          intro z row hz hji hrow hb
          subst hz
          have he := sortedRow_end hs (d := 0) hi hji hb (fun h => absurd h (by omega))
          rw [← hrow] at he
          subst he
          refine Run.loop ?_
          repeat' (conv => arg 4; whnf); first | refine Run.ret ⟨?_, rfl⟩ | refine Run.condT ?_ | refine Run.condf ?_ | refine Run.condD (fun h => ?_) (fun h => ?_) | refine Run.condN (fun h => ?_) (fun h => ?_) | refine Run.condE (fun h => ?_) (fun h => ?_) | refine Run.condF (fun h => ?_) (fun h => ?_) | refine Run.condM (fun h => ?_) (fun h => ?_) | refine Run.condB (fun h => ?_) (fun h => ?_) | refine Run.check1 ?_ | (exfalso; omega) | refine Run.round ⟨[(.t 3 0, .t 3 0)], [], []⟩ (ih (i + 1) _ _ e.h rfl (by omega) ?_) rfl (by (repeat' (first | exact wkEnv_nil | refine wkEnv_cons rfl ?_ | exact wkSto_nil | refine wkSto_none ?_ | refine wkSto_some rfl ?_)); done) (by (repeat' (first | exact wkEnv_nil | refine wkEnv_cons rfl ?_ | exact wkSto_nil | refine wkSto_none ?_ | refine wkSto_some rfl ?_)); done)
          all_goals first | (exfalso; omega) | (intro h; rw [show i + 1 = xs.length by omega]; exact sortedRow_all) | trace_state
        | succ j ihj =>
          intro z row hz hji hrow hb
          have hp := wrap_pred hz (by omega)
          have hlen : row.length = xs.length := by rw [hrow]; exact (way_xs hi).length_eq
          have hir : InL l.length row := fun x hx => hr x (by rw [hrow] at hx; exact (way_xs hi).mem_iff.1 hx)
          have el : ltP l (row.getD (j + 1) 0) (row.getD j 0) = ltP l (xs.getD i 0) ((isort (ltP l) 0 xs i).getD j 0) := by
            rw [hrow, wayRow_here (by rw [isort_len]; exact hji), wayRow_ahead (Nat.lt_succ_self j) (by rw [isort_len]; exact hji)]
          have hsw : swapL 0 row (j + 1) j = wayRow (isort (ltP l) 0 xs i) (xs.getD i 0) (xs.drop (i + 1)) j := by
            rw [hrow]; exact way_swap (by rw [isort_len]; exact hji)
          have hend : ltP l (xs.getD i 0) ((isort (ltP l) 0 xs i).getD j 0) = false → row = sortedRow (ltP l) 0 xs (i + 1) := fun h => by
            rw [hrow]; exact sortedRow_end hs (d := 0) hi hji hb (fun _ => h)
          refine Run.loop ?_
          repeat' (conv => arg 4; whnf); first | refine Run.ret ⟨?_, rfl⟩ | refine Run.condT ?_ | refine Run.condf ?_ | refine Run.condD (fun h => ?_) (fun h => ?_) | refine Run.condN (fun h => ?_) (fun h => ?_) | refine Run.condE (fun h => ?_) (fun h => ?_) | refine Run.condF (fun h => ?_) (fun h => ?_) | refine Run.condM (fun h => ?_) (fun h => ?_) | refine Run.condB (fun h => ?_) (fun h => ?_) | refine Run.check1 ?_ | refine Run.call (less_ok l row hir (j + 1) j _ _ hz hp (by omega) (by omega)) rfl ?_ | refine Run.call (swapI_ok row (j + 1) j _ _ hz hp (by omega) (by omega)) rfl ?_ | refine Run.round ⟨[(.t 3 0, .t 3 0)], [], []⟩ (ih (i + 1) _ _ e.h ?_ (by omega) ?_) rfl (by (repeat' (first | exact wkEnv_nil | refine wkEnv_cons rfl ?_ | exact wkSto_nil | refine wkSto_none ?_ | refine wkSto_some rfl ?_)); done) (by (repeat' (first | exact wkEnv_nil | refine wkEnv_cons rfl ?_ | exact wkSto_nil | refine wkSto_none ?_ | refine wkSto_some rfl ?_)); done) | refine Run.round ⟨[(.t 3 0, .t 3 0)], [], []⟩ (ihj _ _ hp (by omega) hsw ?_) rfl (by (repeat' (first | exact wkEnv_nil | refine wkEnv_cons rfl ?_ | exact wkSto_nil | refine wkSto_none ?_ | refine wkSto_some rfl ?_)); done) (by (repeat' (first | exact wkEnv_nil | refine wkEnv_cons rfl ?_ | exact wkSto_nil | refine wkSto_none ?_ | refine wkSto_some rfl ?_)); done) | (exfalso; omega)
          all_goals clear ih ihj
          all_goals (rw [el] at *)
          all_goals first
            | (exfalso; omega)
            | exact hend ‹_›
            | (intro h; rw [hend ‹_›, show i + 1 = xs.length by omega]; exact sortedRow_all)
            | (intro q hq1 hq2
               rcases Nat.lt_or_ge q (j + 1) with h | h
               · rw [show q = j by omega]; assumption
               · exact hb q h hq2)
            | trace_state
      refine Run.loop ?_
      repeat' (conv => arg 4; whnf); first | refine Run.ret ⟨?_, rfl⟩ | refine Run.condT ?_ | refine Run.condf ?_ | refine Run.condD (fun h => ?_) (fun h => ?_) | refine Run.condN (fun h => ?_) (fun h => ?_) | refine Run.condE (fun h => ?_) (fun h => ?_) | refine Run.condF (fun h => ?_) (fun h => ?_) | refine Run.condM (fun h => ?_) (fun h => ?_) | refine Run.condB (fun h => ?_) (fun h => ?_) | refine Run.check1 ?_ | refine Run.round ⟨[(.t 3 0, .t 3 0)], [], []⟩ (inner i _ _ rfl (Nat.le_refl _) (hrow.trans (sortedRow_start hi)) ?_) rfl (by (repeat' (first | exact wkEnv_nil | refine wkEnv_cons rfl ?_ | exact wkSto_nil | refine wkSto_none ?_ | refine wkSto_some rfl ?_)); done) (by (repeat' (first | exact wkEnv_nil | refine wkEnv_cons rfl ?_ | exact wkSto_nil | refine wkSto_none ?_ | refine wkSto_some rfl ?_)); done) | (exfalso; omega)
      all_goals first | (intro q h1 h2; omega) | (exfalso; omega) | trace_state
  repeat' (conv => arg 4; whnf); first | refine Run.ret ⟨?_, rfl⟩ | refine Run.condT ?_ | refine Run.condf ?_ | refine Run.condD (fun h => ?_) (fun h => ?_) | refine Run.condN (fun h => ?_) (fun h => ?_) | refine Run.condE (fun h => ?_) (fun h => ?_) | refine Run.condF (fun h => ?_) (fun h => ?_) | refine Run.condM (fun h => ?_) (fun h => ?_) | refine Run.condB (fun h => ?_) (fun h => ?_) | refine Run.check1 ?_ | refine Run.round ⟨[(.t 3 0, .t 3 0)], [], []⟩ (outer (xs.length - 1) 1 _ _ w1.h ?_ ?_ ?_) rfl (by (repeat' (first | exact wkEnv_nil | refine wkEnv_cons rfl ?_ | exact wkSto_nil | refine wkSto_none ?_ | refine wkSto_some rfl ?_)); done) (by (repeat' (first | exact wkEnv_nil | refine wkEnv_cons rfl ?_ | exact wkSto_nil | refine wkSto_none ?_ | refine wkSto_some rfl ?_)); done)
  · exact (sortedRow_one (by omega)).symm
  · omega
  · intro h; omega
/-- At most one: nothing is compared. -/
theorem insF1_ok (l : List Mv) (xs : List Int) (g : FuncId) (h1 : xs.length ≤ 1) (z y : Int) (hz : z = 0) (hy : y = xs.length) : Ok P 123 [.agg [.fn 53 [.ptr (.k 0) 0, .ptr (.k 1) 0, .ptr (.k 2) 0], .fn g []], .one (.int .i64 z), .one (.int .i64 y)] (stF l xs) (.tup []) (stF l xs) := by
  subst hz hy
  refine Ok.of_run (F := mk Try.f123 4) Try.func123 rfl rfl tabOk mixed rfl rfl rfl rfl rfl (Nat.le_of_ble_eq_true rfl) (Nat.le_of_ble_eq_true rfl) (.go 5000 ?_)
  have w1 : Fact (wrap64 (0 + 1) = 1) := ⟨(wrap_eq (by omega) (by omega)).trans (by omega)⟩
  conv => arg 4; whnf
  refine Run.loop ?_
  repeat' (conv => arg 4; whnf); first | refine Run.ret ⟨?_, rfl⟩ | refine Run.condT ?_ | refine Run.condf ?_ | refine Run.condD (fun h => ?_) (fun h => ?_) | refine Run.condN (fun h => ?_) (fun h => ?_) | refine Run.condE (fun h => ?_) (fun h => ?_) | refine Run.condF (fun h => ?_) (fun h => ?_) | refine Run.condM (fun h => ?_) (fun h => ?_) | refine Run.condB (fun h => ?_) (fun h => ?_) | refine Run.check1 ?_ | (exfalso; simp only [w1.h] at *; omega)
  all_goals first | rfl | (exfalso; simp only [w1.h] at *; omega) | trace_state
theorem stableF1_ok (l : List Mv) (xs : List Int) (g : FuncId) (h1 : xs.length ≤ 1) (y : Int) (hy : y = xs.length) : Ok P 94 [.agg [.fn 53 [.ptr (.k 0) 0, .ptr (.k 1) 0, .ptr (.k 2) 0], .fn g []], .one (.int .i64 y)] (stF l xs) (.tup []) (stF l xs) := by
  subst hy
  refine Ok.of_run (F := mk Try.f94 4) Try.func94 rfl rfl tabOk mixed rfl rfl rfl rfl rfl (Nat.le_of_ble_eq_true rfl) (Nat.le_of_ble_eq_true rfl) (.go 5000 ?_)
  repeat' (conv => arg 4; whnf); first | refine Run.ret ⟨?_, rfl⟩ | refine Run.condT ?_ | refine Run.condf ?_ | refine Run.condD (fun h => ?_) (fun h => ?_) | refine Run.condN (fun h => ?_) (fun h => ?_) | refine Run.condE (fun h => ?_) (fun h => ?_) | refine Run.condF (fun h => ?_) (fun h => ?_) | refine Run.condM (fun h => ?_) (fun h => ?_) | refine Run.condB (fun h => ?_) (fun h => ?_) | refine Run.check1 ?_ | (exfalso; omega) | refine Run.call (insF1_ok l xs g h1 _ _ rfl rfl) rfl ?_ | (refine Run.loop ?_)
  all_goals first | rfl | (exfalso; omega) | trace_state
theorem stableF_ok (l : List Mv) (xs : List Int) (hr : InL l.length xs) (h2 : 2 ≤ xs.length) (h20 : xs.length < 20) (y : Int) (hy : y = xs.length) : Ok P 94 [dataF, .one (.int .i64 y)] (stF l xs) (.tup []) (stF l (isort (ltP l) 0 xs xs.length)) := by
  subst hy
  refine Ok.of_run (F := mk Try.f94 4) Try.func94 rfl rfl tabOk mixed rfl rfl rfl rfl rfl (Nat.le_of_ble_eq_true rfl) (Nat.le_of_ble_eq_true rfl) (.go 5000 ?_)
  repeat' (conv => arg 4; whnf); first | refine Run.ret ⟨?_, rfl⟩ | refine Run.condT ?_ | refine Run.condf ?_ | refine Run.condD (fun h => ?_) (fun h => ?_) | refine Run.condN (fun h => ?_) (fun h => ?_) | refine Run.condE (fun h => ?_) (fun h => ?_) | refine Run.condF (fun h => ?_) (fun h => ?_) | refine Run.condM (fun h => ?_) (fun h => ?_) | refine Run.condB (fun h => ?_) (fun h => ?_) | refine Run.check1 ?_ | (exfalso; omega) | refine Run.call (insF_ok l xs hr h2 (by omega) _ _ rfl rfl) rfl ?_ | (refine Run.loop ?_)
  all_goals first | rfl | (exfalso; omega) | trace_state
theorem isort1 (lt : Int → Int → Bool) (xs : List Int) (h : xs.length ≤ 1) : isort lt 0 xs xs.length = xs := by
  match xs, h with
  | [], _ => rfl
  | [x], _ => rfl
theorem sortF_ok (l : List Mv) (xs : List Int) (hr : InL l.length xs) (h20 : xs.length < 20) : Ok P 52 [.one (.ifc 24 (.own (.k 0))), .one (.fn 53 [.ptr (.k 1) 0, .ptr (.k 2) 0, .ptr (.k 3) 0])] [some (.row (.int .i64) xs), some (.cells [.lst .mv l false]), some (.cells [.own (.k 0)]), some (.cells [.fn 51 []])] (.tup [])
    [some (.row (.int .i64) (isort (ltP l) 0 xs xs.length)), some (.cells [.lst .mv l false]), some (.cells [.own (.k 0)]), some (.cells [.fn 51 []])] := by
  refine Ok.of_run (F := mk Try.f52 4) Try.func52 rfl rfl tabOk mixed rfl rfl rfl rfl rfl (Nat.le_of_ble_eq_true rfl) (Nat.le_of_ble_eq_true rfl) (.go 5000 ?_)
  rcases (show xs.length = 0 ∨ xs.length = 1 ∨ 2 ≤ xs.length by omega) with h | h | h
  · rw [isort1 _ _ (by omega)]
    repeat' (conv => arg 4; whnf); first | refine Run.ret ⟨?_, rfl⟩ | refine Run.condT ?_ | refine Run.condf ?_ | refine Run.condD (fun h => ?_) (fun h => ?_) | refine Run.condN (fun h => ?_) (fun h => ?_) | refine Run.condE (fun h => ?_) (fun h => ?_) | refine Run.condF (fun h => ?_) (fun h => ?_) | refine Run.condM (fun h => ?_) (fun h => ?_) | refine Run.condB (fun h => ?_) (fun h => ?_) | refine Run.check1 ?_ | refine Run.call (valueOfI_ok _) rfl ?_ | refine Run.call (swapper0I_ok _ h) rfl ?_ | refine Run.call (lenI_ok _) rfl ?_ | refine Run.call (stableF1_ok _ _ _ (by omega) _ rfl) rfl ?_
    all_goals first | rfl | trace_state
  · rw [isort1 _ _ (by omega)]
    repeat' (conv => arg 4; whnf); first | refine Run.ret ⟨?_, rfl⟩ | refine Run.condT ?_ | refine Run.condf ?_ | refine Run.condD (fun h => ?_) (fun h => ?_) | refine Run.condN (fun h => ?_) (fun h => ?_) | refine Run.condE (fun h => ?_) (fun h => ?_) | refine Run.condF (fun h => ?_) (fun h => ?_) | refine Run.condM (fun h => ?_) (fun h => ?_) | refine Run.condB (fun h => ?_) (fun h => ?_) | refine Run.check1 ?_ | refine Run.call (valueOfI_ok _) rfl ?_ | refine Run.call (swapper1I_ok _ h) rfl ?_ | refine Run.call (lenI_ok _) rfl ?_ | refine Run.call (stableF1_ok _ _ _ (by omega) _ rfl) rfl ?_
    all_goals first | rfl | trace_state
  · repeat' (conv => arg 4; whnf); first | refine Run.ret ⟨?_, rfl⟩ | refine Run.condT ?_ | refine Run.condf ?_ | refine Run.condD (fun h => ?_) (fun h => ?_) | refine Run.condN (fun h => ?_) (fun h => ?_) | refine Run.condE (fun h => ?_) (fun h => ?_) | refine Run.condF (fun h => ?_) (fun h => ?_) | refine Run.condM (fun h => ?_) (fun h => ?_) | refine Run.condB (fun h => ?_) (fun h => ?_) | refine Run.check1 ?_ | refine Run.call (valueOfI_ok _) rfl ?_ | refine Run.call (swapperI_ok _ h) rfl ?_ | refine Run.call (lenI_ok _) rfl ?_ | refine Run.call (stableF_ok _ _ hr h h20 _ rfl) rfl ?_
    all_goals first | rfl | trace_state
end Go.Proofs.Ytmppoajepbbmiaa.AM

/- StripFirst, the program's and the reference's; condition: fewer than 20 moves (the program's). -/
namespace Go.Proofs.Ytmppoajepbbmiaa.AM
open Go.AM Go.RowKit
set_option linter.unusedVariables false
set_option linter.unusedSimpArgs false
set_option maxRecDepth 100000

theorem first_ok (l : List Mv) (h20 : l.length < 20) : Ok P 14 [.one (.lst .mv l false)] [] (.one (.own (.k 0))) [some (.row (.int .i64) (firstM l))] := by
  have hin : InL l.length (upTo l.length) := fun x hx => by
    obtain ⟨i, hi, rfl⟩ := List.mem_map.1 hx
    have := List.mem_range.1 hi
    omega
  have hsort := sortF_ok l (upTo l.length) hin (by rw [upTo_len]; exact h20)
  rw [upTo_len] at hsort
  refine Ok.of_run (F := mk Try.f14 0) Try.func14 rfl rfl tabOk mixed rfl rfl rfl rfl rfl (Nat.le_of_ble_eq_true rfl) (Nat.le_of_ble_eq_true rfl) (.go 5000 ?_)
  have loop : ∀ (d i : Nat) (z : Int) (s : List Int), z = i → i + d = l.length → s = upTo i → Run P (mk Try.f14 0) (fun v st => v = .one (.own (.k 0)) ∧ st = [some (.row (.int .i64) (firstM l))]) (.loop ⟨[(1, .one (.ptr (.t 1 0) 0)), (3, .one (.ptr (.t 3 0) 0)), (8, .one (.int .i64 (l.length : Int))), (9, .one (.int .i64 z))],
      [(.t 1 0, some (.cells [.lst .mv l false])), (.t 3 0, some (.cells [.own (.t 1000 0)])), (.t 1000 0, some (.row (.int .i64) s))], [.lp [0, 1, 0, 1, 1], .blk 0, .code [1, 1, 1]], none⟩) := by
    intro d
    induction d with
    | zero =>
      intro i z s hz hd hs
      subst hz
      obtain rfl : i = l.length := by omega
      subst hs
      refine Run.loop ?_
      repeat' (conv => arg 4; whnf); first | refine Run.ret ⟨?_, rfl⟩ | refine Run.condT ?_ | refine Run.condf ?_ | refine Run.condD (fun h => ?_) (fun h => ?_) | refine Run.condN (fun h => ?_) (fun h => ?_) | refine Run.condE (fun h => ?_) (fun h => ?_) | refine Run.condF (fun h => ?_) (fun h => ?_) | refine Run.condM (fun h => ?_) (fun h => ?_) | refine Run.condB (fun h => ?_) (fun h => ?_) | refine Run.check1 ?_ | (exfalso; omega) | refine Run.call (hsort) rfl ?_
      all_goals first | rfl | (exfalso; omega) | trace_state
    | succ d ih =>
      intro i z s hz hd hs
      subst hz
      have hl : s.length = i := by rw [hs, upTo_len]
      have e := fs (i := i) (by omega)
      refine Run.loop ?_
      repeat' (conv => arg 4; whnf); first | refine Run.ret ⟨?_, rfl⟩ | refine Run.condT ?_ | refine Run.condf ?_ | refine Run.condD (fun h => ?_) (fun h => ?_) | refine Run.condN (fun h => ?_) (fun h => ?_) | refine Run.condE (fun h => ?_) (fun h => ?_) | refine Run.condF (fun h => ?_) (fun h => ?_) | refine Run.condM (fun h => ?_) (fun h => ?_) | refine Run.condB (fun h => ?_) (fun h => ?_) | refine Run.check1 ?_ | refine Run.need1 (by simp only [allP, true_and, and_true, List.length_cons, List.length_nil]; omega) ?_ | refine Run.round ⟨[(.t 1 0, .t 1 0), (.t 3 0, .t 3 0), (.t 15 0, .t 1000 0)], [], []⟩ (ih (i + 1) _ _ e.h (by omega) ?_) rfl (by (repeat' (first | exact wkEnv_nil | refine wkEnv_cons rfl ?_ | exact wkSto_nil | refine wkSto_none ?_ | refine wkSto_some rfl ?_)); done) (by (repeat' (first | exact wkEnv_nil | refine wkEnv_cons rfl ?_ | exact wkSto_nil | refine wkSto_none ?_ | refine wkSto_some rfl ?_)); done) | (exfalso; omega)
      all_goals first | (exfalso; omega) | (rw [upTo_succ, hs]) | trace_state
  repeat' (conv => arg 4; whnf); first | refine Run.ret ⟨?_, rfl⟩ | refine Run.condT ?_ | refine Run.condf ?_ | refine Run.condD (fun h => ?_) (fun h => ?_) | refine Run.condN (fun h => ?_) (fun h => ?_) | refine Run.condE (fun h => ?_) (fun h => ?_) | refine Run.condF (fun h => ?_) (fun h => ?_) | refine Run.condM (fun h => ?_) (fun h => ?_) | refine Run.condB (fun h => ?_) (fun h => ?_) | refine Run.check1 ?_ | refine Run.round ⟨[(.t 1 0, .t 1 0), (.t 3 0, .t 3 0), (.t 6 0, .t 1000 0)], [], []⟩ (loop l.length 0 _ _ rfl (by omega) rfl) rfl (by (repeat' (first | exact wkEnv_nil | refine wkEnv_cons rfl ?_ | exact wkSto_nil | refine wkSto_none ?_ | refine wkSto_some rfl ?_)); done) (by (repeat' (first | exact wkEnv_nil | refine wkEnv_cons rfl ?_ | exact wkSto_nil | refine wkSto_none ?_ | refine wkSto_some rfl ?_)); done)
theorem key_ok (m : Mv) : Ok P 49 [.agg (encMv m)] [] (.one (.int .i64 (key m))) [] := by
  refine Ok.of_run (F := mk Try.f49 0) Try.func49 rfl rfl tabOk mixed rfl rfl rfl rfl rfl (Nat.le_of_ble_eq_true rfl) (Nat.le_of_ble_eq_true rfl) (.go 5000 ?_)
  repeat' (conv => arg 4; whnf); first | refine Run.ret ⟨?_, rfl⟩ | refine Run.condT ?_ | refine Run.condf ?_ | refine Run.condD (fun h => ?_) (fun h => ?_) | refine Run.condN (fun h => ?_) (fun h => ?_) | refine Run.condE (fun h => ?_) (fun h => ?_) | refine Run.condF (fun h => ?_) (fun h => ?_) | refine Run.condM (fun h => ?_) (fun h => ?_) | refine Run.condB (fun h => ?_) (fun h => ?_) | refine Run.check1 ?_
  all_goals (refine vi ?_; unfold key; first | rw [if_pos ‹_›] | rw [if_neg ‹_›])
theorem sfirst_ok (l : List Mv) (hl : l.length ≤ 1048576) : Ok P 12 [.one (.lst .mv l false)] [] (.one (.own (.k 0))) [some (.row (.int .i64) (firstM l))] := by
  have hs : Srt (ltP l) := lessM_srt (fun a : Int => at' l a.toNat)
  refine Ok.of_run (F := mk Try.f12 0) Try.func12 rfl rfl tabOk mixed rfl rfl rfl rfl rfl (Nat.le_of_ble_eq_true rfl) (Nat.le_of_ble_eq_true rfl) (.go 5000 ?_)
  have outer : ∀ (d i : Nat) (z : Int) (s : List Int), z = i → i + d = l.length → s = isort (ltP l) 0 (upTo l.length) i → Run P (mk Try.f12 0) (fun v st => v = .one (.own (.k 0)) ∧ st = [some (.row (.int .i64) (firstM l))]) (.loop ⟨[(0, .one (.lst .mv l false)), (3, .one (.own (.t 1000 0))), (4, .one (.int .i64 z))], [(.t 1000 0, some (.row (.int .i64) s))], [.lp [0, 1, 0, 1, 1], .blk 0, .code [1, 1, 1]], none⟩) := by
    intro d
    induction d with
    | zero =>
      intro i z s hz hd hs
      subst hz
      obtain rfl : i = l.length := by omega
      subst hs
      refine Run.loop ?_
      repeat' (conv => arg 4; whnf); first | refine Run.ret ⟨?_, rfl⟩ | refine Run.condT ?_ | refine Run.condf ?_ | refine Run.condD (fun h => ?_) (fun h => ?_) | refine Run.condN (fun h => ?_) (fun h => ?_) | refine Run.condE (fun h => ?_) (fun h => ?_) | refine Run.condF (fun h => ?_) (fun h => ?_) | refine Run.condM (fun h => ?_) (fun h => ?_) | refine Run.condB (fun h => ?_) (fun h => ?_) | refine Run.check1 ?_ | (exfalso; omega)
      all_goals first | rfl | (exfalso; omega) | trace_state
    | succ d ih =>
      intro i z s hz hd hse
      subst hz
      have hlen : s.length = i := by rw [hse]; exact isort_len
      have e := fs (i := i) (by omega)
      have hin : ∀ q, q < i → 0 ≤ rd s (q : Int) ∧ rd s (q : Int) < l.length := by
        intro q hq
        have hp := isort_perm (lt := ltP l) (d := 0) (xs := upTo l.length) (n := i) (by rw [upTo_len]; omega)
        rw [← hse] at hp
        rw [rd_nat, tk, List.getD_eq_getElem?_getD, List.getElem?_eq_getElem (by omega)]
        have hm := List.mem_of_mem_take (hp.mem_iff.1 (List.getElem_mem (show q < s.length by omega)))
        obtain ⟨i, hi, e⟩ := List.mem_map.1 hm
        have := List.mem_range.1 hi
        simp only [Option.getD_some]
        omega
      have eM : Fact (rdM l (i : Int) = at' l ((i : Nat) : Int).toNat) := ⟨by rw [rdM_nat]; rfl⟩
      have hst : isort (ltP l) 0 (upTo l.length) (i + 1) = insA (fun y => !ltP l (i : Int) y) (i : Int) s := by
        rw [isort_succ, isortA, ← hse, upTo_at (by omega)]
      have inner : ∀ (c k : Nat) (z : Int), z = k → k + c = i → (∀ q, q < k → ltP l (i : Int) (s.getD q 0) = false) → Run P (mk Try.f12 0) (fun v st => v = .one (.own (.k 0)) ∧ st = [some (.row (.int .i64) (firstM l))]) (.loop ⟨[(0, .one (.lst .mv l false)), (3, .one (.own (.t 1000 0))), (4, .one (.int .i64 (i : Int))), (5, .one (.int .i64 z))], [(.t 1000 0, some (.row (.int .i64) s))], [.lp [0, 0, 1, 0, 0, 1, 0, 0, 1, 0, 1, 1], .blk 2, .code [1, 1, 0, 0, 1, 0, 0, 1, 0, 1, 1], .blk 1, .code [1, 1, 0, 0, 1, 0, 1, 1], .lp [0, 1, 0, 1, 1], .blk 0, .code [1, 1, 1]], none⟩) := by
        intro c
        have fin : ∀ k, k ≤ i → (∀ q, q < k → ltP l (i : Int) (s.getD q 0) = false) → (k < i → ltP l (i : Int) (s.getD k 0) = true) → Fact ([] ++ (s.drop 0).take (k : Int).toNat ++ [(i : Int)] ++ (s.drop (0 + (k : Int).toNat)).take (s.length - (k : Int).toNat) = isort (ltP l) 0 (upTo l.length) (i + 1)) := by
          intro k hk hb hx
          refine ⟨?_⟩
          rw [hst, insA_at (k := k) (d := 0) (by omega) (fun q hq => by rw [hb q hq]; rfl) (fun h => by rw [hx (by omega)]; rfl)]
          simp only [Int.toNat_natCast, Nat.zero_add, List.nil_append, List.drop_zero]
          rw [List.take_of_length_le (l := s.drop k) (by rw [List.length_drop]; omega)]
          simp
        induction c with
        | zero =>
          intro k z hz hc hb
          subst hz
          have fin := fin k (by omega) hb (fun h => absurd h (by omega))
          refine Run.loop ?_
          repeat' (conv => arg 4; whnf); first | refine Run.ret ⟨?_, rfl⟩ | refine Run.condT ?_ | refine Run.condf ?_ | refine Run.condD (fun h => ?_) (fun h => ?_) | refine Run.condN (fun h => ?_) (fun h => ?_) | refine Run.condE (fun h => ?_) (fun h => ?_) | refine Run.condF (fun h => ?_) (fun h => ?_) | refine Run.condM (fun h => ?_) (fun h => ?_) | refine Run.condB (fun h => ?_) (fun h => ?_) | refine Run.check1 ?_ | (exfalso; omega) | refine Run.call (key_ok _) rfl ?_ | refine Run.need1 (by simp only [allP, true_and, and_true, List.length_cons, List.length_nil, List.length_append, List.length_take, List.length_drop]; omega) ?_ | refine Run.round ⟨[(.t 78 0, .t 1000 0)], [], []⟩ (ih (i + 1) _ _ e.h (by omega) ?_) rfl (by (repeat' (first | exact wkEnv_nil | refine wkEnv_cons rfl ?_ | exact wkSto_nil | refine wkSto_none ?_ | refine wkSto_some rfl ?_)); done) (by (repeat' (first | exact wkEnv_nil | refine wkEnv_cons rfl ?_ | exact wkSto_nil | refine wkSto_none ?_ | refine wkSto_some rfl ?_)); done)
          all_goals first | (exfalso; omega) | exact fin.h | trace_state
        | succ c ihc =>
          intro k z hz hc hb
          subst hz
          have e2 := fs (i := k) (by omega)
          have hr := hin k (by omega)
          have ek : Fact (rdM l (rd s k) = at' l (s.getD k 0).toNat) := ⟨by rw [rd_nat]; rfl⟩
          have fin := fin k (by omega) hb
          have hnot := lessM_not (a := rdM l (rd s k)) (b := rdM l i)
          have hlt : lessM (rdM l i) (rdM l (rd s k)) = ltP l (i : Int) (s.getD k 0) := by rw [ek.h, eM.h]; rfl
          rw [hlt] at hnot
          refine Run.loop ?_
          repeat' (conv => arg 4; whnf); first | refine Run.ret ⟨?_, rfl⟩ | refine Run.condT ?_ | refine Run.condf ?_ | refine Run.condD (fun h => ?_) (fun h => ?_) | refine Run.condN (fun h => ?_) (fun h => ?_) | refine Run.condE (fun h => ?_) (fun h => ?_) | refine Run.condF (fun h => ?_) (fun h => ?_) | refine Run.condM (fun h => ?_) (fun h => ?_) | refine Run.condB (fun h => ?_) (fun h => ?_) | refine Run.check1 ?_ | (exfalso; omega) | refine Run.call (key_ok _) rfl ?_ | refine Run.need1 (by simp only [allP, true_and, and_true]; omega) ?_ | refine Run.need1 (by simp only [allP, true_and, and_true, List.length_cons, List.length_nil, List.length_append, List.length_take, List.length_drop]; omega) ?_ | refine Run.round ⟨[(.t 78 0, .t 1000 0)], [], []⟩ (ih (i + 1) _ _ e.h (by omega) ?_) rfl (by (repeat' (first | exact wkEnv_nil | refine wkEnv_cons rfl ?_ | exact wkSto_nil | refine wkSto_none ?_ | refine wkSto_some rfl ?_)); done) (by (repeat' (first | exact wkEnv_nil | refine wkEnv_cons rfl ?_ | exact wkSto_nil | refine wkSto_none ?_ | refine wkSto_some rfl ?_)); done) | refine Run.round ⟨[(.t 1000 0, .t 1000 0)], [], []⟩ (ihc (k + 1) _ e2.h (by omega) ?_) rfl (by (repeat' (first | exact wkEnv_nil | refine wkEnv_cons rfl ?_ | exact wkSto_nil | refine wkSto_none ?_ | refine wkSto_some rfl ?_)); done) (by (repeat' (first | exact wkEnv_nil | refine wkEnv_cons rfl ?_ | exact wkSto_nil | refine wkSto_none ?_ | refine wkSto_some rfl ?_)); done)
          all_goals clear ih ihc
          all_goals unfold ltN at hnot
          · have h1 : key (rdM l (rd s k)) < key (rdM l i) := by assumption
            rw [decide_eq_true h1] at hnot
            have hx : ltP l (i : Int) (s.getD k 0) = false := by simpa using hnot.symm
            intro q hq
            rcases Nat.lt_or_ge q k with h | h
            · exact hb q h
            · rw [show q = k by omega]; exact hx
          · have h1 : ¬ key (rdM l (rd s k)) < key (rdM l i) := by assumption
            have h2 : key (rdM l (rd s k)) = key (rdM l i) := by assumption
            rw [decide_eq_false h1, h2] at hnot
            have h3 : (Op.bytesLess (rdM l (rd s k)).f0.toList (rdM l i).f0.toList || (rdM l (rd s k)).f0.toList == (rdM l i).f0.toList) = true := by assumption
            rw [h3] at hnot
            have hx : ltP l (i : Int) (s.getD k 0) = false := by simpa using hnot.symm
            intro q hq
            rcases Nat.lt_or_ge q k with h | h
            · exact hb q h
            · rw [show q = k by omega]; exact hx
          · have h1 : ¬ key (rdM l (rd s k)) < key (rdM l i) := by assumption
            have h2 : key (rdM l (rd s k)) = key (rdM l i) := by assumption
            rw [decide_eq_false h1, h2] at hnot
            have h3 : (Op.bytesLess (rdM l (rd s k)).f0.toList (rdM l i).f0.toList || (rdM l (rd s k)).f0.toList == (rdM l i).f0.toList) = false := by assumption
            rw [h3] at hnot
            exact (fin (fun _ => by simpa using hnot.symm)).h
          · have h1 : ¬ key (rdM l (rd s k)) < key (rdM l i) := by assumption
            have h2 : ¬ key (rdM l (rd s k)) = key (rdM l i) := by assumption
            rw [decide_eq_false h1, show (key (rdM l (rd s k)) == key (rdM l i)) = false by simpa using h2] at hnot
            exact (fin (fun _ => by simpa using hnot.symm)).h
      refine Run.loop ?_
      repeat' (conv => arg 4; whnf); first | refine Run.ret ⟨?_, rfl⟩ | refine Run.condT ?_ | refine Run.condf ?_ | refine Run.condD (fun h => ?_) (fun h => ?_) | refine Run.condN (fun h => ?_) (fun h => ?_) | refine Run.condE (fun h => ?_) (fun h => ?_) | refine Run.condF (fun h => ?_) (fun h => ?_) | refine Run.condM (fun h => ?_) (fun h => ?_) | refine Run.condB (fun h => ?_) (fun h => ?_) | refine Run.check1 ?_ | refine Run.round ⟨[(.t 1000 0, .t 1000 0)], [], []⟩ (inner i 0 _ rfl (by omega) ?_) rfl (by (repeat' (first | exact wkEnv_nil | refine wkEnv_cons rfl ?_ | exact wkSto_nil | refine wkSto_none ?_ | refine wkSto_some rfl ?_)); done) (by (repeat' (first | exact wkEnv_nil | refine wkEnv_cons rfl ?_ | exact wkSto_nil | refine wkSto_none ?_ | refine wkSto_some rfl ?_)); done) | (exfalso; omega)
      all_goals first | (intro q hq; omega) | (exfalso; omega) | trace_state
  repeat' (conv => arg 4; whnf); first | refine Run.ret ⟨?_, rfl⟩ | refine Run.condT ?_ | refine Run.condf ?_ | refine Run.condD (fun h => ?_) (fun h => ?_) | refine Run.condN (fun h => ?_) (fun h => ?_) | refine Run.condE (fun h => ?_) (fun h => ?_) | refine Run.condF (fun h => ?_) (fun h => ?_) | refine Run.condM (fun h => ?_) (fun h => ?_) | refine Run.condB (fun h => ?_) (fun h => ?_) | refine Run.check1 ?_ | refine Run.round ⟨[(.t 6 0, .t 1000 0)], [], []⟩ (outer l.length 0 _ _ rfl (by omega) rfl) rfl (by (repeat' (first | exact wkEnv_nil | refine wkEnv_cons rfl ?_ | exact wkSto_nil | refine wkSto_none ?_ | refine wkSto_some rfl ?_)); done) (by (repeat' (first | exact wkEnv_nil | refine wkEnv_cons rfl ?_ | exact wkSto_nil | refine wkSto_none ?_ | refine wkSto_some rfl ?_)); done)
end Go.Proofs.Ytmppoajepbbmiaa.AM

/- Plain facts behind a stable sort: an order without likes, merges, exchanges in a row, blocks; no condition. -/
namespace Go.AM
set_option linter.unusedVariables false
set_option linter.unusedSimpArgs false
open Go.RowKit

/-- In order, those alike by their number. -/
def Rs (lt : Int → Int → Bool) (x y : Int) : Prop := lt y x = false ∧ (lt x y = true ∨ x < y)
def Ord (lt : Int → Int → Bool) (l : List Int) : Prop := l.Pairwise (Rs lt)
theorem rs_trans {lt : Int → Int → Bool} (hs : Srt lt) {x y z : Int} (h : Rs lt x y) (k : Rs lt y z) : Rs lt x z := by
  obtain ⟨h1, h2⟩ := h
  obtain ⟨k1, k2⟩ := k
  refine ⟨hs.trans _ _ _ h1 k1, ?_⟩
  cases q : lt x z with
  | true => exact .inl rfl
  | false =>
    rcases h2 with h2 | h2
    · rw [hs.trans _ _ _ k1 q] at h2; cases h2
    · rcases k2 with k2 | k2
      · rw [hs.trans _ _ _ q h1] at k2; cases k2
      · exact .inr (by omega)
theorem rs_asymm {lt : Int → Int → Bool} {x y : Int} (h : Rs lt x y) (k : Rs lt y x) : False := by
  rcases h.2 with q | q
  · rw [k.1] at q; cases q
  · rcases k.2 with r | r
    · rw [h.1] at r; cases r
    · omega
theorem ord_unique {lt : Int → Int → Bool} : ∀ {a b : List Int}, Ord lt a → Ord lt b → a.Perm b → a = b
  | [], b, _, _, h => h.nil_eq
  | x :: a, [], _, _, h => by have := h.length_eq; simp at this
  | x :: a, y :: b, ha, hb, h => by
    unfold Ord at ha hb
    rw [List.pairwise_cons] at ha hb
    by_cases e : x = y
    · subst e
      rw [ord_unique ha.2 hb.2 (List.Perm.cons_inv h)]
    · exfalso
      have h1 : x ∈ b := by
        rcases List.mem_cons.1 (h.mem_iff.1 List.mem_cons_self) with q | q
        · exact absurd q e
        · exact q
      have h2 : y ∈ a := by
        rcases List.mem_cons.1 (h.mem_iff.2 List.mem_cons_self) with q | q
        · exact absurd q.symm e
        · exact q
      exact rs_asymm (ha.1 y h2) (hb.1 x h1)
/-- What is set among those in order, behind all that are not behind it. -/
theorem insA_ord {lt : Int → Int → Bool} (hs : Srt lt) {x : Int} : ∀ {ys : List Int}, Ord lt ys → (∀ y ∈ ys, y < x) → Ord lt (insA (fun y => !lt x y) x ys)
  | [], _, _ => List.pairwise_singleton _ _
  | y :: ys, h, hl => by
    unfold Ord at h ⊢
    rw [List.pairwise_cons] at h
    have hyx := hl y List.mem_cons_self
    unfold insA
    split
    · rename_i e
      rw [List.pairwise_cons]
      refine ⟨fun z hz => ?_, insA_ord hs h.2 fun z hz => hl z (List.mem_cons_of_mem _ hz)⟩
      rcases List.mem_cons.1 (insA_perm.mem_iff.1 hz) with rfl | hz
      · exact ⟨by simpa using e, .inr hyx⟩
      · exact h.1 z hz
    · rename_i e
      have e : lt x y = true := by simpa using e
      have r : Rs lt x y := ⟨hs.asymm _ _ e, .inl e⟩
      rw [List.pairwise_cons, List.pairwise_cons]
      refine ⟨fun z hz => ?_, h⟩
      rcases List.mem_cons.1 hz with rfl | hz
      · exact r
      · exact rs_trans hs r (h.1 z hz)
theorem isort_ord {lt : Int → Int → Bool} (hs : Srt lt) {ys : List Int} (hy : ys.Pairwise (· < ·)) : ∀ n, n ≤ ys.length → Ord lt (isort lt 0 ys n)
  | 0, _ => .nil
  | n + 1, hn => by
    rw [isort_succ]
    refine insA_ord hs (isort_ord hs hy n (by omega)) fun y hm => ?_
    have hm := (isort_perm (lt := lt) (d := 0) (xs := ys) (n := n) (by omega)).mem_iff.1 hm
    obtain ⟨j, hj, rfl⟩ := List.getElem_of_mem hm
    rw [List.length_take] at hj
    have := (List.pairwise_iff_getElem.1 hy) j n (by omega) (by omega) (by omega)
    rw [List.getElem_take]
    simpa [List.getD_eq_getElem?_getD, List.getElem?_eq_getElem (show n < ys.length by omega)] using this
theorem upTo_asc (n : Nat) : (upTo n).Pairwise (· < ·) := by
  unfold upTo
  exact List.Pairwise.map _ (fun a b h => by omega) List.pairwise_lt_range
theorem firstM_ordR (l : List Mv) : Ord (ltP l) (firstM l) := isort_ord (lessM_srt (fun a : Int => at' l a.toNat)) (upTo_asc _) _ (by rw [upTo_len]; exact Nat.le_refl _)

/-! ### Two rows into one -/
theorem ord_app {lt : Int → Int → Bool} {a b : List Int} : Ord lt (a ++ b) ↔ Ord lt a ∧ Ord lt b ∧ ∀ x ∈ a, ∀ y ∈ b, Rs lt x y := List.pairwise_append
theorem ord_last {lt : Int → Int → Bool} {a : List Int} (h : Ord lt a) {x : Int} (hx : x ∈ a) : x = a.getD (a.length - 1) 0 ∨ Rs lt x (a.getD (a.length - 1) 0) := by
  obtain ⟨j, hj, rfl⟩ := List.getElem_of_mem hx
  have hd : a.getD (a.length - 1) 0 = a[a.length - 1]'(by omega) := by simp [List.getD_eq_getElem?_getD, List.getElem?_eq_getElem (show a.length - 1 < a.length by omega)]
  rw [hd]
  by_cases e : j = a.length - 1
  · subst e; exact .inl rfl
  · exact .inr ((List.pairwise_iff_getElem.1 h) j (a.length - 1) hj (by omega) (by omega))
theorem ord_head {lt : Int → Int → Bool} {a : List Int} (h : Ord lt a) {x : Int} (hx : x ∈ a) : a.getD 0 0 = x ∨ Rs lt (a.getD 0 0) x := by
  obtain ⟨j, hj, rfl⟩ := List.getElem_of_mem hx
  have hd : a.getD 0 0 = a[0]'(by omega) := by simp [List.getD_eq_getElem?_getD, List.getElem?_eq_getElem (show 0 < a.length by omega)]
  rw [hd]
  by_cases e : j = 0
  · subst e; exact .inl rfl
  · exact .inr ((List.pairwise_iff_getElem.1 h) 0 j (by omega) hj (by omega))
/-- From last to first, so all to all. -/
theorem ord_far {lt : Int → Int → Bool} (hs : Srt lt) {a b : List Int} (ha : Ord lt a) (hb : Ord lt b) (h : 0 < a.length → 0 < b.length → Rs lt (a.getD (a.length - 1) 0) (b.getD 0 0)) : ∀ x ∈ a, ∀ y ∈ b, Rs lt x y := by
  intro x hx y hy
  have h := h (List.length_pos_of_mem hx) (List.length_pos_of_mem hy)
  have h1 : Rs lt x (b.getD 0 0) := by
    rcases ord_last ha hx with e | e
    · rw [e]; exact h
    · exact rs_trans hs e h
  rcases ord_head hb hy with e | e
  · rw [← e]; exact h1
  · exact rs_trans hs h1 e
theorem ord_four {lt : Int → Int → Bool} (hs : Srt lt) {a1 a2 b1 b2 m1 m2 : List Int} (ha : Ord lt (a1 ++ a2)) (hb : Ord lt (b1 ++ b2)) (p1 : m1.Perm (a1 ++ b1)) (p2 : m2.Perm (a2 ++ b2)) (o1 : Ord lt m1) (o2 : Ord lt m2)
    (h1 : 0 < a1.length → 0 < b2.length → Rs lt (a1.getD (a1.length - 1) 0) (b2.getD 0 0)) (h2 : 0 < b1.length → 0 < a2.length → Rs lt (b1.getD (b1.length - 1) 0) (a2.getD 0 0)) : Ord lt (m1 ++ m2) := by
  rw [ord_app] at ha hb ⊢
  obtain ⟨x1, x2, x3⟩ := ha
  obtain ⟨y1, y2, y3⟩ := hb
  refine ⟨o1, o2, fun x hx y hy => ?_⟩
  have f1 := ord_far hs x1 y2 h1
  have f2 := ord_far hs y1 x2 h2
  rcases List.mem_append.1 (p1.mem_iff.1 hx) with q | q <;> rcases List.mem_append.1 (p2.mem_iff.1 hy) with r | r
  · exact x3 x q y r
  · exact f1 x q y r
  · exact f2 x q y r
  · exact y3 x q y r
theorem perm_four {a1 a2 b1 b2 m1 m2 : List Int} (p1 : m1.Perm (a1 ++ b1)) (p2 : m2.Perm (a2 ++ b2)) : (m1 ++ m2).Perm ((a1 ++ a2) ++ (b1 ++ b2)) := by
  refine (p1.append p2).trans ?_
  rw [List.append_assoc, List.append_assoc]
  refine List.Perm.append_left a1 ?_
  rw [← List.append_assoc, ← List.append_assoc]
  exact List.Perm.append_right b2 List.perm_append_comm
/-- One among many, at its place. -/
theorem ord_put {lt : Int → Int → Bool} (hs : Srt lt) {b : List Int} {x : Int} {p : Nat} (hb : Ord lt b) (hp : p ≤ b.length) (h1 : 0 < p → Rs lt (b.getD (p - 1) 0) x) (h2 : p < b.length → Rs lt x (b.getD p 0)) : Ord lt (b.take p ++ x :: b.drop p) := by
  have hb' := hb
  rw [← List.take_append_drop p b, ord_app] at hb'
  obtain ⟨o1, o2, o3⟩ := hb'
  have f1 : ∀ y ∈ b.take p, Rs lt y x := fun y hy => by
    have h0 : 0 < p := by
      have := List.length_pos_of_mem hy
      rw [List.length_take] at this
      omega
    have hg : (b.take p).getD ((b.take p).length - 1) 0 = b.getD (p - 1) 0 := by
      rw [List.length_take, Nat.min_eq_left hp]
      simp [List.getD_eq_getElem?_getD, List.getElem?_take, show p - 1 < p by omega]
    rcases ord_last o1 hy with e | e
    · rw [e, hg]; exact h1 h0
    · rw [hg] at e; exact rs_trans hs e (h1 h0)
  have f2 : ∀ y ∈ b.drop p, Rs lt x y := fun y hy => by
    have h0 : p < b.length := by
      have := List.length_pos_of_mem hy
      rw [List.length_drop] at this
      omega
    have hg : (b.drop p).getD 0 0 = b.getD p 0 := by
      simp [List.getD_eq_getElem?_getD, List.getElem?_drop]
    rcases ord_head o2 hy with e | e
    · rw [← e, hg]; exact h2 h0
    · rw [hg] at e; exact rs_trans hs (h2 h0) e
  rw [ord_app]
  refine ⟨o1, List.pairwise_cons.2 ⟨f2, o2⟩, fun y hy z hz => ?_⟩
  rcases List.mem_cons.1 hz with rfl | hz
  · exact f1 y hy
  · exact o3 y hy z hz

/-! ### Exchanges in a row -/
theorem app_get {α : Type} (d : α) (P R : List α) (k : Nat) : (P ++ R).getD (P.length + k) d = R.getD k d := by
  rw [List.getD_eq_getElem?_getD, List.getD_eq_getElem?_getD, List.getElem?_append_right (by omega)]
  congr 2
  omega
theorem app_get0 {α : Type} (d : α) {A R : List α} {k : Nat} (h : k < A.length) : (A ++ R).getD k d = A.getD k d := by
  rw [List.getD_eq_getElem?_getD, List.getD_eq_getElem?_getD, List.getElem?_append_left h]
theorem swap_far {α : Type} (d : α) (X Y Z : List α) (u v : α) : swapL d (X ++ u :: (Y ++ v :: Z)) X.length (X.length + (1 + Y.length)) = X ++ v :: (Y ++ u :: Z) := by
  have h1 : (X ++ u :: (Y ++ v :: Z)).getD X.length d = u := by
    simp
  have h2 : (X ++ u :: (Y ++ v :: Z)).getD (X.length + (1 + Y.length)) d = v := by
    rw [app_get, Nat.add_comm 1, List.getD_cons_succ]
    simp
  unfold swapL
  rw [h1, h2, List.set_append_right _ _ (Nat.le_refl _), Nat.sub_self, List.set_cons_zero, List.set_append_right _ _ (by omega), show X.length + (1 + Y.length) - X.length = Y.length + 1 by omega, List.set_cons_succ, List.set_append_right _ _ (Nat.le_refl _), Nat.sub_self, List.set_cons_zero]
theorem swap_next {α : Type} (d : α) (X Z : List α) (u v : α) : swapL d (X ++ u :: v :: Z) X.length (X.length + 1) = X ++ v :: u :: Z := swap_far d X [] Z u v
theorem swapL_comm {α : Type} (d : α) {xs : List α} {i j : Nat} (hne : i ≠ j) : swapL d xs i j = swapL d xs j i := by
  unfold swapL
  rw [List.set_comm _ _ hne]
theorem swap_prev {α : Type} (d : α) (X Z : List α) (u v : α) : swapL d (X ++ u :: v :: Z) (X.length + 1) X.length = X ++ v :: u :: Z := by
  rw [swapL_comm d (by omega)]
  exact swap_next d X Z u v
theorem swapL_app {α : Type} (d : α) (U R : List α) (i j : Nat) : swapL d (U ++ R) (U.length + i) (U.length + j) = U ++ swapL d R i j := by
  unfold swapL
  rw [app_get, app_get, List.set_append_right _ _ (by omega), show U.length + i - U.length = i by omega, List.set_append_right _ _ (by omega), show U.length + j - U.length = j by omega]
theorem swapL_app0 {α : Type} (d : α) (R W : List α) {i j : Nat} (hi : i < R.length) (hj : j < R.length) : swapL d (R ++ W) i j = swapL d R i j ++ W := by
  unfold swapL
  rw [app_get0 d hi, app_get0 d hj, List.set_append_left _ _ hi, List.set_append_left _ _ (by rw [List.length_set]; exact hj)]
/-- A range of places exchanged, the first i of them. -/
def rowS (P A C B Q : List Int) (i : Nat) : List Int := P ++ (B.take i ++ A.drop i) ++ C ++ (A.take i ++ B.drop i) ++ Q
theorem rowS_0 (P A C B Q : List Int) : rowS P A C B Q 0 = P ++ A ++ C ++ B ++ Q := by simp [rowS]
theorem rowS_n {P A C B Q : List Int} {n : Nat} (ha : A.length = n) (hb : B.length = n) : rowS P A C B Q n = P ++ B ++ C ++ A ++ Q := by
  unfold rowS
  rw [List.take_of_length_le (by omega), List.take_of_length_le (by omega), List.drop_of_length_le (by omega), List.drop_of_length_le (by omega)]
  simp
theorem rowS_len {P A C B Q : List Int} {i n : Nat} (ha : A.length = n) (hb : B.length = n) (hi : i ≤ n) : (rowS P A C B Q i).length = P.length + n + C.length + n + Q.length := by
  simp [rowS]
  omega
theorem rowS_step {P A C B Q : List Int} {i n : Nat} (ha : A.length = n) (hb : B.length = n) (hi : i < n) : swapL 0 (rowS P A C B Q i) (P.length + i) (P.length + n + C.length + i) = rowS P A C B Q (i + 1) := by
  have e1 : A.drop i = A[i]'(by omega) :: A.drop (i + 1) := List.drop_eq_getElem_cons (by omega)
  have e2 : B.drop i = B[i]'(by omega) :: B.drop (i + 1) := List.drop_eq_getElem_cons (by omega)
  have h := swap_far (0 : Int) (P ++ B.take i) (A.drop (i + 1) ++ C ++ A.take i) (B.drop (i + 1) ++ Q) (A[i]'(by omega)) (B[i]'(by omega))
  have l1 : (P ++ B.take i).length = P.length + i := by simp; omega
  have l2 : (A.drop (i + 1) ++ C ++ A.take i).length = n - (i + 1) + C.length + i := by simp; omega
  rw [l1, l2] at h
  have r1 : rowS P A C B Q i = (P ++ B.take i) ++ A[i]'(by omega) :: ((A.drop (i + 1) ++ C ++ A.take i) ++ B[i]'(by omega) :: (B.drop (i + 1) ++ Q)) := by
    unfold rowS
    rw [e1, e2]
    simp only [List.append_assoc, List.cons_append, List.nil_append]
  have r2 : rowS P A C B Q (i + 1) = (P ++ B.take i) ++ B[i]'(by omega) :: ((A.drop (i + 1) ++ C ++ A.take i) ++ A[i]'(by omega) :: (B.drop (i + 1) ++ Q)) := by
    unfold rowS
    rw [List.take_succ_eq_append_getElem (show i < B.length by omega), List.take_succ_eq_append_getElem (show i < A.length by omega)]
    simp only [List.append_assoc, List.cons_append, List.nil_append]
  rw [r1, r2, ← h]
  congr 1
  omega

/-! ### Blocks -/
inductive Bl (lt : Int → Int → Bool) (bs : Nat) : Nat → List Int → Prop where
  | nil (lo : Nat) : Bl lt bs lo []
  | last (lo : Nat) (A : List Int) : A.length ≤ bs → Ord lt A → (∀ x ∈ A, (lo : Int) ≤ x) → Bl lt bs lo A
  | cons (lo : Nat) (A R : List Int) : A.length = bs → Ord lt A → (∀ x ∈ A, (lo : Int) ≤ x ∧ x < (lo : Int) + bs) → Bl lt bs (lo + bs) R → Bl lt bs lo (A ++ R)
theorem bl_one {lt : Int → Int → Bool} {bs lo : Nat} {r : List Int} (h : Bl lt bs lo r) (hl : r.length ≤ bs) (hb : 0 < bs) : Ord lt r ∧ ∀ x ∈ r, (lo : Int) ≤ x := by
  cases h with
  | nil => exact ⟨.nil, fun x hx => by cases hx⟩
  | last _ _ h1 h2 h3 => exact ⟨h2, h3⟩
  | cons _ A R h1 h2 h3 h4 =>
    rw [List.length_append] at hl
    have : R = [] := List.eq_nil_of_length_eq_zero (by omega)
    subst this
    rw [List.append_nil]
    exact ⟨h2, fun x hx => (h3 x hx).1⟩
theorem bl_ge {lt : Int → Int → Bool} {bs lo : Nat} {r : List Int} (h : Bl lt bs lo r) : ∀ x ∈ r, (lo : Int) ≤ x := by
  induction h with
  | nil => exact fun x hx => by cases hx
  | last _ _ _ _ h3 => exact h3
  | cons lo A R h1 h2 h3 h4 ih =>
    intro x hx
    rcases List.mem_append.1 hx with q | q
    · exact (h3 x q).1
    · have := ih x q
      omega
/-- The first block, if there is more. -/
theorem bl_first {lt : Int → Int → Bool} {bs lo : Nat} {r : List Int} (h : Bl lt bs lo r) (hl : bs < r.length) : ∃ A R, r = A ++ R ∧ A.length = bs ∧ Ord lt A ∧ (∀ x ∈ A, (lo : Int) ≤ x ∧ x < (lo : Int) + bs) ∧ Bl lt bs (lo + bs) R := by
  cases h with
  | nil => simp at hl
  | last _ _ h1 h2 h3 => omega
  | cons _ A R h1 h2 h3 h4 => exact ⟨A, R, rfl, h1, h2, h3, h4⟩
theorem bl_first' {lt : Int → Int → Bool} {bs lo : Nat} {r : List Int} (h : Bl lt bs lo r) (hl : bs ≤ r.length) (hb : 0 < bs) : ∃ A R, r = A ++ R ∧ A.length = bs ∧ Ord lt A ∧ (∀ x ∈ A, (lo : Int) ≤ x) ∧ (R = [] ∨ ((∀ x ∈ A, x < (lo : Int) + bs) ∧ Bl lt bs (lo + bs) R)) := by
  cases h with
  | nil => simp at hl; omega
  | last _ _ h1 h2 h3 => exact ⟨r, [], by simp, by omega, h2, h3, .inl rfl⟩
  | cons _ A R h1 h2 h3 h4 => exact ⟨A, R, rfl, h1, h2, fun x hx => (h3 x hx).1, .inr ⟨fun x hx => (h3 x hx).2, h4⟩⟩
end Go.AM

/- The stable sort of the library: exchanges of ranges, rotation; condition: places within the row. -/
namespace Go.Proofs.Ytmppoajepbbmiaa.AM
open Go.AM Go.RowKit
set_option linter.unusedVariables false
set_option linter.unusedSimpArgs false
set_option maxRecDepth 100000

theorem swapR_ok (l : List Mv) (U A C B W : List Int) (n : Nat) (ha : A.length = n) (hb : B.length = n) (za zb zn : Int) (h1 : za = U.length) (h2 : zb = ((U.length + n + C.length : Nat) : Int)) (h3 : zn = n) (hL : U.length + n + C.length + n + W.length ≤ 1048576) :
    Ok P 135 [dataF, .one (.int .i64 za), .one (.int .i64 zb), .one (.int .i64 zn)] (stF l (U ++ A ++ C ++ B ++ W)) (.tup []) (stF l (U ++ B ++ C ++ A ++ W)) := by
  subst h1 h2 h3
  refine Ok.of_run (F := mk Try.f135 4) Try.func135 rfl rfl tabOk mixed rfl rfl rfl rfl rfl (Nat.le_of_ble_eq_true rfl) (Nat.le_of_ble_eq_true rfl) (.go 5000 ?_)
  have loop : ∀ (d i : Nat) (z : Int) (row : List Int), z = i → i + d = n → row = rowS U A C B W i → Run P (mk Try.f135 4) (fun v s => v = .tup [] ∧ s = stF l (U ++ B ++ C ++ A ++ W)) (.loop ⟨[(1, .one (.int .i64 (U.length : Int))), (2, .one (.int .i64 ((U.length + n + C.length : Nat) : Int))), (3, .one (.int .i64 (n : Int))), (4, .one (.ptr (.t 4 0) 0)), (8, .one (.int .i64 z))],
      [(.k 0, some (.cells [.lst .mv l false])), (.k 1, some (.cells [.own (.k 3)])), (.k 2, some (.cells [.fn 51 []])), (.k 3, some (.row (.int .i64) row)), (.t 4 0, some (.cells dataF.atoms))], [.lp [0, 1, 1], .blk 0], none⟩) := by
    intro d
    induction d with
    | zero =>
      intro i z row hz hd hrow
      subst hz
      have hi : i = n := by omega
      have hr : row = U ++ B ++ C ++ A ++ W := by rw [hrow, hi]; exact rowS_n ha hb
      subst hr
      refine Run.loop ?_
      repeat' (conv => arg 4; whnf); first | refine Run.ret ⟨?_, rfl⟩ | refine Run.condT ?_ | refine Run.condf ?_ | refine Run.condD (fun h => ?_) (fun h => ?_) | refine Run.condN (fun h => ?_) (fun h => ?_) | refine Run.condE (fun h => ?_) (fun h => ?_) | refine Run.condF (fun h => ?_) (fun h => ?_) | refine Run.condM (fun h => ?_) (fun h => ?_) | refine Run.condB (fun h => ?_) (fun h => ?_) | refine Run.check1 ?_ | (exfalso; omega)
      all_goals first | (exfalso; omega) | rfl | trace_state
    | succ d ih =>
      intro i z row hz hd hrow
      subst hz
      have e := fs (i := i) (by omega)
      have e1 : Fact (wrap64 ((U.length : Int) + (i : Int)) = ((U.length + i : Nat) : Int)) := ⟨(wrap_eq (by omega) (by omega)).trans (by omega)⟩
      have e2 : Fact (wrap64 (((U.length + n + C.length : Nat) : Int) + (i : Int)) = ((U.length + n + C.length + i : Nat) : Int)) := ⟨(wrap_eq (by omega) (by omega)).trans (by omega)⟩
      have hlen : row.length = U.length + n + C.length + n + W.length := by rw [hrow]; exact rowS_len ha hb (by omega)
      have hst : swapL 0 row (U.length + i) (U.length + n + C.length + i) = rowS U A C B W (i + 1) := by rw [hrow]; exact rowS_step ha hb (by omega)
      have hsw := swapI_ok row (U.length + i) (U.length + n + C.length + i) _ _ e1.h e2.h (by omega) (by omega)
      have ih' := ih (i + 1) _ _ e.h (by omega) hst
      clear ih e1 e2
      refine Run.loop ?_
      repeat' (conv => arg 4; whnf); first | refine Run.ret ⟨?_, rfl⟩ | refine Run.condT ?_ | refine Run.condf ?_ | refine Run.condD (fun h => ?_) (fun h => ?_) | refine Run.condN (fun h => ?_) (fun h => ?_) | refine Run.condE (fun h => ?_) (fun h => ?_) | refine Run.condF (fun h => ?_) (fun h => ?_) | refine Run.condM (fun h => ?_) (fun h => ?_) | refine Run.condB (fun h => ?_) (fun h => ?_) | refine Run.check1 ?_ | (exfalso; omega) | refine Run.call (hsw) rfl ?_ | refine Run.round ⟨[(.t 4 0, .t 4 0)], [], []⟩ (ih') rfl (by (repeat' (first | exact wkEnv_nil | refine wkEnv_cons rfl ?_ | exact wkSto_nil | refine wkSto_none ?_ | refine wkSto_some rfl ?_)); done) (by (repeat' (first | exact wkEnv_nil | refine wkEnv_cons rfl ?_ | exact wkSto_nil | refine wkSto_none ?_ | refine wkSto_some rfl ?_)); done)
      all_goals trace_state
  repeat' (conv => arg 4; whnf); first | refine Run.ret ⟨?_, rfl⟩ | refine Run.condT ?_ | refine Run.condf ?_ | refine Run.condD (fun h => ?_) (fun h => ?_) | refine Run.condN (fun h => ?_) (fun h => ?_) | refine Run.condE (fun h => ?_) (fun h => ?_) | refine Run.condF (fun h => ?_) (fun h => ?_) | refine Run.condM (fun h => ?_) (fun h => ?_) | refine Run.condB (fun h => ?_) (fun h => ?_) | refine Run.check1 ?_ | refine Run.round ⟨[(.t 4 0, .t 4 0)], [], []⟩ (loop n 0 _ _ rfl (by omega) (rowS_0 _ _ _ _ _).symm) rfl (by (repeat' (first | exact wkEnv_nil | refine wkEnv_cons rfl ?_ | exact wkSto_nil | refine wkSto_none ?_ | refine wkSto_some rfl ?_)); done) (by (repeat' (first | exact wkEnv_nil | refine wkEnv_cons rfl ?_ | exact wkSto_nil | refine wkSto_none ?_ | refine wkSto_some rfl ?_)); done)
  all_goals trace_state
theorem app5 (a b c d e : List Int) : a ++ b ++ c ++ d ++ e = a ++ (b ++ (c ++ (d ++ e))) := by simp only [List.append_assoc]
set_option maxHeartbeats 4000000 in
theorem rotate_ok (l : List Mv) (U A B W : List Int) (hA : 1 ≤ A.length) (hB : 1 ≤ B.length) (za zm zb : Int) (h1 : za = U.length) (h2 : zm = ((U.length + A.length : Nat) : Int)) (h3 : zb = ((U.length + A.length + B.length : Nat) : Int)) (hL : U.length + A.length + B.length + W.length ≤ 1048576) :
    Ok P 133 [dataF, .one (.int .i64 za), .one (.int .i64 zm), .one (.int .i64 zb)] (stF l (U ++ A ++ B ++ W)) (.tup []) (stF l (U ++ B ++ A ++ W)) := by
  subst h1 h2 h3
  have ea : Fact (wrap64 (((U.length + A.length : Nat) : Int) - (U.length : Int)) = (A.length : Int)) := ⟨(wrap_eq (by omega) (by omega)).trans (by omega)⟩
  have eb : Fact (wrap64 (((U.length + A.length + B.length : Nat) : Int) - ((U.length + A.length : Nat) : Int)) = (B.length : Int)) := ⟨(wrap_eq (by omega) (by omega)).trans (by omega)⟩
  generalize hm : U.length + A.length = m at *
  have htot : U.length + A.length + B.length + W.length ≤ 1048576 := by omega
  clear hL
  refine Ok.of_run (F := mk Try.f133 4) Try.func133 rfl rfl tabOk mixed rfl rfl rfl rfl rfl (Nat.le_of_ble_eq_true rfl) (Nat.le_of_ble_eq_true rfl) (.go 5000 ?_)
  have loop : ∀ (N : Nat) (X Y V T : List Int) (z y : Int) (row : List Int), X.length + Y.length ≤ N → z = X.length → y = Y.length → 1 ≤ X.length → 1 ≤ Y.length → V.length + X.length = m → V.length + X.length + Y.length + T.length ≤ 1048576 → V ++ Y ++ X ++ T = U ++ B ++ A ++ W → row = V ++ X ++ Y ++ T →
      Run P (mk Try.f133 4) (fun v s => v = .tup [] ∧ s = stF l (U ++ B ++ A ++ W)) (.loop ⟨[(2, .one (.int .i64 (m : Int))), (4, .one (.ptr (.t 4 0) 0)), (8, .one (.int .i64 z)), (9, .one (.int .i64 y))],
      [(.k 0, some (.cells [.lst .mv l false])), (.k 1, some (.cells [.own (.k 3)])), (.k 2, some (.cells [.fn 51 []])), (.k 3, some (.row (.int .i64) row)), (.t 4 0, some (.cells dataF.atoms))], [.lp [0, 0, 1, 1, 1], .blk 0, .code [1, 1, 1, 1]], none⟩) := by
    intro N
    induction N with
    | zero => intro X Y V T z y row hN hz hy hX hY; omega
    | succ N ih =>
      intro X Y V T z y row hN hz hy hX hY hV hT hfin hrow
      subst hz hy
      have e1 : Fact (wrap64 ((m : Int) - (X.length : Int)) = (V.length : Int)) := ⟨(wrap_eq (by omega) (by omega)).trans (by omega)⟩
      rcases Nat.lt_trichotomy X.length Y.length with hlt | heq | hgt
      · -- the second is longer
        have e2 : Fact (wrap64 (wrap64 ((m : Int) + (Y.length : Int)) - (X.length : Int)) = ((V.length + X.length + (Y.length - X.length) : Nat) : Int)) := by
          refine ⟨?_⟩
          rw [wrap_eq (x := (m : Int) + (Y.length : Int)) (by omega) (by omega)]
          exact (wrap_eq (by omega) (by omega)).trans (by omega)
        have e3 : Fact (wrap64 ((Y.length : Int) - (X.length : Int)) = ((Y.take (Y.length - X.length)).length : Int)) := by
          refine ⟨?_⟩
          rw [List.length_take]
          exact (wrap_eq (by omega) (by omega)).trans (by omega)
        have hl1 : (Y.take (Y.length - X.length)).length = Y.length - X.length := by rw [List.length_take]; omega
        have hl2 : (Y.drop (Y.length - X.length)).length = X.length := by rw [List.length_drop]; omega
        have hrow2 : row = V ++ X ++ Y.take (Y.length - X.length) ++ Y.drop (Y.length - X.length) ++ T := by
          rw [hrow]
          conv => lhs; rw [← List.take_append_drop (Y.length - X.length) Y]
          simp only [List.append_assoc]
        have hsw := swapR_ok l V X (Y.take (Y.length - X.length)) (Y.drop (Y.length - X.length)) T X.length rfl hl2 _ (wrap64 (wrap64 ((m : Int) + (Y.length : Int)) - (X.length : Int))) _ e1.h (by rw [hl1]; exact e2.h) rfl (by omega)
        rw [← hrow2] at hsw
        have ih' := fun row => ih (Y.drop (Y.length - X.length)) (Y.take (Y.length - X.length)) V (X ++ T) (X.length : Int) (wrap64 ((Y.length : Int) - (X.length : Int))) row (by omega) (by rw [hl2]) e3.h (by omega) (by omega) (by omega) (by rw [List.length_append]; omega) (by
          rw [← hfin]
          conv => rhs; rw [← List.take_append_drop (Y.length - X.length) Y]
          simp only [List.append_assoc])
        have ih2 := ih' (V ++ Y.drop (Y.length - X.length) ++ Y.take (Y.length - X.length) ++ X ++ T) (by simp only [List.append_assoc])
        clear ih ih' e1 e2 e3
        refine Run.loop ?_
        repeat' (conv => arg 4; whnf); first | refine Run.ret ⟨?_, rfl⟩ | refine Run.condT ?_ | refine Run.condf ?_ | refine Run.condD (fun h => ?_) (fun h => ?_) | refine Run.condN (fun h => ?_) (fun h => ?_) | refine Run.condE (fun h => ?_) (fun h => ?_) | refine Run.condF (fun h => ?_) (fun h => ?_) | refine Run.condM (fun h => ?_) (fun h => ?_) | refine Run.condB (fun h => ?_) (fun h => ?_) | refine Run.check1 ?_ | (exfalso; omega) | refine Run.call (hsw) rfl ?_ | refine Run.round ⟨[(.t 4 0, .t 4 0)], [], []⟩ (ih2) rfl (by (repeat' (first | exact wkEnv_nil | refine wkEnv_cons rfl ?_ | exact wkSto_nil | refine wkSto_none ?_ | refine wkSto_some rfl ?_)); done) (by (repeat' (first | exact wkEnv_nil | refine wkEnv_cons rfl ?_ | exact wkSto_nil | refine wkSto_none ?_ | refine wkSto_some rfl ?_)); done)
        all_goals trace_state
      · have hsw := swapR_ok l V X [] Y T X.length rfl heq.symm _ (m : Int) (X.length : Int) e1.h (by simp only [List.length_nil]; omega) rfl (by rw [List.length_nil]; omega)
        have hr2 : V ++ X ++ [] ++ Y ++ T = row := by rw [hrow]; simp
        have hr3 : V ++ Y ++ [] ++ X ++ T = U ++ B ++ A ++ W := by rw [← hfin]; simp
        rw [hr2, hr3] at hsw
        have heq' : (X.length : Int) = (Y.length : Int) := by omega
        clear ih e1
        refine Run.loop ?_
        repeat' (conv => arg 4; whnf); first | refine Run.ret ⟨?_, rfl⟩ | refine Run.condT ?_ | refine Run.condf ?_ | refine Run.condD (fun h => ?_) (fun h => ?_) | refine Run.condN (fun h => ?_) (fun h => ?_) | refine Run.condE (fun h => ?_) (fun h => ?_) | refine Run.condF (fun h => ?_) (fun h => ?_) | refine Run.condM (fun h => ?_) (fun h => ?_) | refine Run.condB (fun h => ?_) (fun h => ?_) | refine Run.check1 ?_ | (exfalso; omega) | refine Run.call (hsw) rfl ?_
        all_goals first | rfl | trace_state
      · have e3 : Fact (wrap64 ((X.length : Int) - (Y.length : Int)) = ((X.drop Y.length).length : Int)) := by
          refine ⟨?_⟩
          rw [List.length_drop]
          exact (wrap_eq (by omega) (by omega)).trans (by omega)
        have hl1 : (X.take Y.length).length = Y.length := by rw [List.length_take]; omega
        have hl2 : (X.drop Y.length).length = X.length - Y.length := by rw [List.length_drop]
        have hrow2 : row = V ++ X.take Y.length ++ X.drop Y.length ++ Y ++ T := by
          rw [hrow]
          conv => lhs; rw [← List.take_append_drop Y.length X]
          simp only [List.append_assoc]
        have hsw := swapR_ok l V (X.take Y.length) (X.drop Y.length) Y T Y.length hl1 rfl _ _ (Y.length : Int) e1.h (show (m : Int) = _ by rw [hl2]; omega) rfl (by omega)
        rw [← hrow2] at hsw
        have ih' := ih (X.drop Y.length) (X.take Y.length) (V ++ Y) T (wrap64 ((X.length : Int) - (Y.length : Int))) (Y.length : Int) (V ++ Y ++ X.drop Y.length ++ X.take Y.length ++ T) (by omega) e3.h (by rw [hl1]) (by omega) (by omega) (by rw [List.length_append]; omega) (by rw [List.length_append]; omega) (by
          rw [← hfin]
          conv => rhs; rw [← List.take_append_drop Y.length X]
          simp only [List.append_assoc]) (by simp only [List.append_assoc])
        clear ih e1 e3
        refine Run.loop ?_
        repeat' (conv => arg 4; whnf); first | refine Run.ret ⟨?_, rfl⟩ | refine Run.condT ?_ | refine Run.condf ?_ | refine Run.condD (fun h => ?_) (fun h => ?_) | refine Run.condN (fun h => ?_) (fun h => ?_) | refine Run.condE (fun h => ?_) (fun h => ?_) | refine Run.condF (fun h => ?_) (fun h => ?_) | refine Run.condM (fun h => ?_) (fun h => ?_) | refine Run.condB (fun h => ?_) (fun h => ?_) | refine Run.check1 ?_ | (exfalso; omega) | refine Run.call (hsw) rfl ?_ | refine Run.round ⟨[(.t 4 0, .t 4 0)], [], []⟩ (ih') rfl (by (repeat' (first | exact wkEnv_nil | refine wkEnv_cons rfl ?_ | exact wkSto_nil | refine wkSto_none ?_ | refine wkSto_some rfl ?_)); done) (by (repeat' (first | exact wkEnv_nil | refine wkEnv_cons rfl ?_ | exact wkSto_nil | refine wkSto_none ?_ | refine wkSto_some rfl ?_)); done)
        all_goals trace_state
  repeat' (conv => arg 4; whnf); first | refine Run.ret ⟨?_, rfl⟩ | refine Run.condT ?_ | refine Run.condf ?_ | refine Run.condD (fun h => ?_) (fun h => ?_) | refine Run.condN (fun h => ?_) (fun h => ?_) | refine Run.condE (fun h => ?_) (fun h => ?_) | refine Run.condF (fun h => ?_) (fun h => ?_) | refine Run.condM (fun h => ?_) (fun h => ?_) | refine Run.condB (fun h => ?_) (fun h => ?_) | refine Run.check1 ?_ | refine Run.round ⟨[(.t 4 0, .t 4 0)], [], []⟩ (loop (A.length + B.length) A B U W _ _ _ (Nat.le_refl _) ea.h eb.h hA hB hm htot rfl rfl) rfl (by (repeat' (first | exact wkEnv_nil | refine wkEnv_cons rfl ?_ | exact wkSto_nil | refine wkSto_none ?_ | refine wkSto_some rfl ?_)); done) (by (repeat' (first | exact wkEnv_nil | refine wkEnv_cons rfl ?_ | exact wkSto_nil | refine wkSto_none ?_ | refine wkSto_some rfl ?_)); done)
  all_goals trace_state
end Go.Proofs.Ytmppoajepbbmiaa.AM

/- The stable sort of the library: insertion within a range, two rows into one; condition: places within the row. -/
namespace Go.Proofs.Ytmppoajepbbmiaa.AM
open Go.AM Go.RowKit
set_option linter.unusedVariables false
set_option linter.unusedSimpArgs false
set_option maxRecDepth 100000

set_option maxHeartbeats 4000000 in
theorem insG_ok (l : List Mv) (U ys W : List Int) (hr : InL l.length (U ++ ys ++ W)) (hL : U.length + ys.length + W.length ≤ 1048576) (h1 : 1 ≤ ys.length) (za zb : Int) (hz : za = U.length) (hy : zb = ((U.length + ys.length : Nat) : Int)) : Ok P 123 [dataF, .one (.int .i64 za), .one (.int .i64 zb)] (stF l (U ++ ys ++ W)) (.tup []) (stF l (U ++ isort (ltP l) 0 ys ys.length ++ W)) := by
  subst hz hy
  have hs : Srt (ltP l) := lessM_srt (fun a : Int => at' l a.toNat)
  have w1 : Fact (wrap64 ((U.length : Int) + 1) = ((U.length + 1 : Nat) : Int)) := ⟨(wrap_eq (by omega) (by omega)).trans (by omega)⟩
  rw [show U ++ isort (ltP l) 0 ys ys.length ++ W = U ++ (isort (ltP l) 0 ys ys.length ++ W) from List.append_assoc _ _ _]
  refine Ok.of_run (F := mk Try.f123 4) Try.func123 rfl rfl tabOk mixed rfl rfl rfl rfl rfl (Nat.le_of_ble_eq_true rfl) (Nat.le_of_ble_eq_true rfl) (.go 5000 ?_)
  have outer : ∀ (d i : Nat) (z : Int) (row : List Int), z = ((U.length + i : Nat) : Int) → row = U ++ (sortedRow (ltP l) 0 ys i ++ W) → (i + d = ys.length ∨ (d = 0 ∧ ys.length ≤ i)) → (ys.length ≤ i → row = U ++ (isort (ltP l) 0 ys ys.length ++ W)) → i ≤ ys.length + 1 → Run P (mk Try.f123 4) (fun v s => v = .tup [] ∧ s = stF l (U ++ (isort (ltP l) 0 ys ys.length ++ W))) (.loop ⟨[(1, .one (.int .i64 (U.length : Int))), (2, .one (.int .i64 ((U.length + ys.length : Nat) : Int))), (3, .one (.ptr (.t 3 0) 0)), (6, .one (.int .i64 z))],
      [(.k 0, some (.cells [.lst .mv l false])), (.k 1, some (.cells [.own (.k 3)])), (.k 2, some (.cells [.fn 51 []])), (.k 3, some (.row (.int .i64) row)), (.t 3 0, some (.cells dataF.atoms))], [.lp [0, 1, 1], .blk 0], none⟩) := by
    intro d
    induction d with
    | zero =>
      intro i z row hz hrow hd hend hi1
      subst hz
      have hend := hend (by omega)
      subst hend
      refine Run.loop ?_
      repeat' (conv => arg 4; whnf); first | refine Run.ret ⟨?_, rfl⟩ | refine Run.condT ?_ | refine Run.condf ?_ | refine Run.condD (fun h => ?_) (fun h => ?_) | refine Run.condN (fun h => ?_) (fun h => ?_) | refine Run.condE (fun h => ?_) (fun h => ?_) | refine Run.condF (fun h => ?_) (fun h => ?_) | refine Run.condM (fun h => ?_) (fun h => ?_) | refine Run.condB (fun h => ?_) (fun h => ?_) | refine Run.check1 ?_ | (exfalso; omega)
      all_goals first | (exfalso; omega) | rfl | trace_state
    | succ d ih =>
      intro i z row hz hrow hd hend hi1
      subst hz
      have hi : i < ys.length := by omega
      clear hend
      have e : Fact (wrap64 (((U.length + i : Nat) : Int) + 1) = ((U.length + (i + 1) : Nat) : Int)) := ⟨(wrap_eq (by omega) (by omega)).trans (by omega)⟩
      have inner : ∀ (j : Nat) (z : Int) (row : List Int), z = ((U.length + j : Nat) : Int) → j ≤ i → row = U ++ (wayRow (isort (ltP l) 0 ys i) (ys.getD i 0) (ys.drop (i + 1)) j ++ W) → (∀ q, j ≤ q → q < i → ltP l (ys.getD i 0) ((isort (ltP l) 0 ys i).getD q 0) = true) →
          Run P (mk Try.f123 4) (fun v s => v = .tup [] ∧ s = stF l (U ++ (isort (ltP l) 0 ys ys.length ++ W))) (.loop ⟨[(1, .one (.int .i64 (U.length : Int))), (2, .one (.int .i64 ((U.length + ys.length : Nat) : Int))), (3, .one (.ptr (.t 3 0) 0)), (6, .one (.int .i64 ((U.length + i : Nat) : Int))), (7, .one (.int .i64 z))],
            [(.k 0, some (.cells [.lst .mv l false])), (.k 1, some (.cells [.own (.k 3)])), (.k 2, some (.cells [.fn 51 []])), (.k 3, some (.row (.int .i64) row)), (.t 3 0, some (.cells dataF.atoms))], [.lp [0, 1, 0, 0, 1, 0, 0, 1, 1], .blk 2, .blk 1, .code [1, 1, 0, 0, 1, 1], .lp [0, 1, 1], .blk 0], none⟩) := by
        intro j
        induction j with
        | zero =>
          intro z row hz hji hrow hb
          subst hz
          have he := sortedRow_end hs (d := 0) hi hji hb (fun h => absurd h (by omega))
          rw [he] at hrow
          refine Run.loop ?_
          repeat' (conv => arg 4; whnf); first | refine Run.ret ⟨?_, rfl⟩ | refine Run.condT ?_ | refine Run.condf ?_ | refine Run.condD (fun h => ?_) (fun h => ?_) | refine Run.condN (fun h => ?_) (fun h => ?_) | refine Run.condE (fun h => ?_) (fun h => ?_) | refine Run.condF (fun h => ?_) (fun h => ?_) | refine Run.condM (fun h => ?_) (fun h => ?_) | refine Run.condB (fun h => ?_) (fun h => ?_) | refine Run.check1 ?_ | (exfalso; omega) | refine Run.round ⟨[(.t 3 0, .t 3 0)], [], []⟩ (ih (i + 1) _ _ e.h hrow (by omega) ?_ (by omega)) rfl (by (repeat' (first | exact wkEnv_nil | refine wkEnv_cons rfl ?_ | exact wkSto_nil | refine wkSto_none ?_ | refine wkSto_some rfl ?_)); done) (by (repeat' (first | exact wkEnv_nil | refine wkEnv_cons rfl ?_ | exact wkSto_nil | refine wkSto_none ?_ | refine wkSto_some rfl ?_)); done)
          all_goals first | (exfalso; omega) | (intro h; rw [hrow, show i + 1 = ys.length by omega, sortedRow_all]) | trace_state
        | succ j ihj =>
          intro z row hz hji hrow hb
          have hp : Fact (wrap64 (z - 1) = ((U.length + j : Nat) : Int)) := ⟨wrap_pred (j := U.length + j) (hz.trans (by omega)) (by omega)⟩
          have hil : (isort (ltP l) 0 ys i).length = i := isort_len
          have hwl : (wayRow (isort (ltP l) 0 ys i) (ys.getD i 0) (ys.drop (i + 1)) (j + 1)).length = ys.length := by
            rw [wayRow_len, hil, List.length_drop]; omega
          have hlen : row.length = U.length + ys.length + W.length := by
            rw [hrow, List.length_append, List.length_append, hwl]; omega
          have hir : InL l.length row := fun x hx => hr x (by
            rw [hrow] at hx
            rcases List.mem_append.1 hx with q | q
            · exact List.mem_append_left _ (List.mem_append_left _ q)
            · rcases List.mem_append.1 q with q | q
              · exact List.mem_append_left _ (List.mem_append_right _ ((way_xs hi).mem_iff.1 q))
              · exact List.mem_append_right _ q)
          have el : ltP l (row.getD (U.length + (j + 1)) 0) (row.getD (U.length + j) 0) = ltP l (ys.getD i 0) ((isort (ltP l) 0 ys i).getD j 0) := by
            rw [hrow, app_get, app_get, app_get0 0 (by omega), app_get0 0 (by omega), wayRow_here (by omega), wayRow_ahead (Nat.lt_succ_self j) (by omega)]
          have hsw : swapL 0 row (U.length + (j + 1)) (U.length + j) = U ++ (wayRow (isort (ltP l) 0 ys i) (ys.getD i 0) (ys.drop (i + 1)) j ++ W) := by
            rw [hrow, swapL_app, swapL_app0 0 _ _ (by omega) (by omega), way_swap (by omega)]
          have hend : ltP l (ys.getD i 0) ((isort (ltP l) 0 ys i).getD j 0) = false → row = U ++ (sortedRow (ltP l) 0 ys (i + 1) ++ W) := fun h => by
            rw [hrow, sortedRow_end hs (d := 0) hi hji hb (fun _ => h)]
          have hle := less_ok l row hir (U.length + (j + 1)) (U.length + j) _ _ hz hp.h (by omega) (by omega)
          have hsp := swapI_ok row (U.length + (j + 1)) (U.length + j) _ _ hz hp.h (by omega) (by omega)
          rw [el] at hle
          have hz' : z = ((U.length + (j + 1) : Nat) : Int) := hz
          refine Run.loop ?_
          repeat' (conv => arg 4; whnf); first | refine Run.ret ⟨?_, rfl⟩ | refine Run.condT ?_ | refine Run.condf ?_ | refine Run.condD (fun h => ?_) (fun h => ?_) | refine Run.condN (fun h => ?_) (fun h => ?_) | refine Run.condE (fun h => ?_) (fun h => ?_) | refine Run.condF (fun h => ?_) (fun h => ?_) | refine Run.condM (fun h => ?_) (fun h => ?_) | refine Run.condB (fun h => ?_) (fun h => ?_) | refine Run.check1 ?_ | refine Run.call (hle) rfl ?_ | refine Run.call (hsp) rfl ?_ | refine Run.round ⟨[(.t 3 0, .t 3 0)], [], []⟩ (ih (i + 1) _ _ e.h ?_ (by omega) ?_ (by omega)) rfl (by (repeat' (first | exact wkEnv_nil | refine wkEnv_cons rfl ?_ | exact wkSto_nil | refine wkSto_none ?_ | refine wkSto_some rfl ?_)); done) (by (repeat' (first | exact wkEnv_nil | refine wkEnv_cons rfl ?_ | exact wkSto_nil | refine wkSto_none ?_ | refine wkSto_some rfl ?_)); done) | refine Run.round ⟨[(.t 3 0, .t 3 0)], [], []⟩ (ihj _ _ hp.h (by omega) hsw ?_) rfl (by (repeat' (first | exact wkEnv_nil | refine wkEnv_cons rfl ?_ | exact wkSto_nil | refine wkSto_none ?_ | refine wkSto_some rfl ?_)); done) (by (repeat' (first | exact wkEnv_nil | refine wkEnv_cons rfl ?_ | exact wkSto_nil | refine wkSto_none ?_ | refine wkSto_some rfl ?_)); done) | (exfalso; omega)
          all_goals clear ih ihj hle hsp
          all_goals first
            | (exfalso; omega)
            | exact hend ‹_›
            | (intro h; rw [hend ‹_›, show i + 1 = ys.length by omega, sortedRow_all])
            | (intro q hq1 hq2
               rcases Nat.lt_or_ge q (j + 1) with h | h
               · rw [show q = j by omega]; assumption
               · exact hb q h hq2)
            | trace_state
      refine Run.loop ?_
      repeat' (conv => arg 4; whnf); first | refine Run.ret ⟨?_, rfl⟩ | refine Run.condT ?_ | refine Run.condf ?_ | refine Run.condD (fun h => ?_) (fun h => ?_) | refine Run.condN (fun h => ?_) (fun h => ?_) | refine Run.condE (fun h => ?_) (fun h => ?_) | refine Run.condF (fun h => ?_) (fun h => ?_) | refine Run.condM (fun h => ?_) (fun h => ?_) | refine Run.condB (fun h => ?_) (fun h => ?_) | refine Run.check1 ?_ | refine Run.round ⟨[(.t 3 0, .t 3 0)], [], []⟩ (inner i _ _ rfl (Nat.le_refl _) ?_ ?_) rfl (by (repeat' (first | exact wkEnv_nil | refine wkEnv_cons rfl ?_ | exact wkSto_nil | refine wkSto_none ?_ | refine wkSto_some rfl ?_)); done) (by (repeat' (first | exact wkEnv_nil | refine wkEnv_cons rfl ?_ | exact wkSto_nil | refine wkSto_none ?_ | refine wkSto_some rfl ?_)); done) | (exfalso; omega)
      all_goals first | (intro q h1 h2; omega) | (exfalso; omega) | (rw [hrow, sortedRow_start hi]) | trace_state
  repeat' (conv => arg 4; whnf); first | refine Run.ret ⟨?_, rfl⟩ | refine Run.condT ?_ | refine Run.condf ?_ | refine Run.condD (fun h => ?_) (fun h => ?_) | refine Run.condN (fun h => ?_) (fun h => ?_) | refine Run.condE (fun h => ?_) (fun h => ?_) | refine Run.condF (fun h => ?_) (fun h => ?_) | refine Run.condM (fun h => ?_) (fun h => ?_) | refine Run.condB (fun h => ?_) (fun h => ?_) | refine Run.check1 ?_ | refine Run.round ⟨[(.t 3 0, .t 3 0)], [], []⟩ (outer (ys.length - 1) 1 _ _ w1.h ?_ ?_ ?_ (by omega)) rfl (by (repeat' (first | exact wkEnv_nil | refine wkEnv_cons rfl ?_ | exact wkSto_nil | refine wkSto_none ?_ | refine wkSto_some rfl ?_)); done) (by (repeat' (first | exact wkEnv_nil | refine wkEnv_cons rfl ?_ | exact wkSto_nil | refine wkSto_none ?_ | refine wkSto_some rfl ?_)); done)
  all_goals first
    | omega
    | (intro h; rw [isort1 _ _ (by omega)]; simp; done)
    | (rw [sortedRow_one h1]; simp; done)
    | trace_state
theorem insG0_ok (l : List Mv) (row : List Int) (z : Int) (hz : 0 ≤ z ∧ z ≤ 1048576) : Ok P 123 [dataF, .one (.int .i64 z), .one (.int .i64 z)] (stF l row) (.tup []) (stF l row) := by
  have w1 : Fact (wrap64 (z + 1) = z + 1) := fw (by omega)
  refine Ok.of_run (F := mk Try.f123 4) Try.func123 rfl rfl tabOk mixed rfl rfl rfl rfl rfl (Nat.le_of_ble_eq_true rfl) (Nat.le_of_ble_eq_true rfl) (.go 5000 ?_)
  conv => arg 4; whnf
  refine Run.loop ?_
  repeat' (conv => arg 4; whnf); first | refine Run.ret ⟨?_, rfl⟩ | refine Run.condT ?_ | refine Run.condf ?_ | refine Run.condD (fun h => ?_) (fun h => ?_) | refine Run.condN (fun h => ?_) (fun h => ?_) | refine Run.condE (fun h => ?_) (fun h => ?_) | refine Run.condF (fun h => ?_) (fun h => ?_) | refine Run.condM (fun h => ?_) (fun h => ?_) | refine Run.condB (fun h => ?_) (fun h => ?_) | refine Run.check1 ?_ | (exfalso; simp only [w1.h] at *; omega)
  all_goals first | rfl | (exfalso; simp only [w1.h] at *; omega) | trace_state
/-- Half of a sum, as the program reckons it. -/
theorem half_ok (n : Nat) (h : n < 4611686018427387904) : wrap64 ((IntKind.u64.wrap (wrap64 (n : Int))).fdiv (2 ^ (min (Int.toNat 1) IntKind.u64.bits))) = ((n / 2 : Nat) : Int) := by
  have e1 : wrap64 (n : Int) = (n : Int) := wrap_eq (by omega) (by omega)
  have e2 : IntKind.u64.wrap (n : Int) = (n : Int) := by
    have h1 : (n : Int) % 2 ^ 64 = n := by omega
    exact h1
  rw [e1, e2, show (2 : Int) ^ (min (Int.toNat 1) IntKind.u64.bits) = 2 from rfl, Int.fdiv_eq_ediv_of_nonneg _ (by omega)]
  exact (wrap_eq (by omega) (by omega)).trans (by omega)
theorem half2 {x : Int} {n : Nat} (hx : x = (n : Int)) (h : n < 4611686018427387904) : wrap64 ((IntKind.u64.wrap (wrap64 x)).fdiv (2 ^ (min (Int.toNat 1) IntKind.u64.bits))) = ((n / 2 : Nat) : Int) := by
  subst hx
  exact half_ok n h
set_option maxHeartbeats 4000000 in
/-- One ahead of a row in order. -/
theorem sym1_ok (l : List Mv) (U B W : List Int) (x : Int) (hr : InL l.length (U ++ x :: (B ++ W))) (hL : U.length + 1 + B.length + W.length ≤ 1048576) (hB : Ord (ltP l) B) (hx : ∀ y ∈ B, x < y) (za zm zb : Int) (h1 : za = U.length) (h2 : zm = ((U.length + 1 : Nat) : Int)) (h3 : zb = ((U.length + 1 + B.length : Nat) : Int)) :
    ∃ M : List Int, (M.Perm (x :: B) ∧ Ord (ltP l) M) ∧ Ok P 124 [dataF, .one (.int .i64 za), .one (.int .i64 zm), .one (.int .i64 zb)] (stF l (U ++ x :: (B ++ W))) (.tup []) (stF l (U ++ (M ++ W))) := by
  subst h1 h2 h3
  have hs : Srt (ltP l) := lessM_srt (fun a : Int => at' l a.toNat)
  have ea : wrap64 (((U.length + 1 : Nat) : Int) - (U.length : Int)) = 1 := (wrap_eq (by omega) (by omega)).trans (by omega)
  have ea : Fact (wrap64 (((U.length + 1 : Nat) : Int) - (U.length : Int)) = 1) := ⟨ea⟩
  have hx0 : (U ++ x :: (B ++ W)).getD U.length 0 = x := by simp
  have hBk : ∀ k, k < B.length → (U ++ x :: (B ++ W)).getD (U.length + 1 + k) 0 = B.getD k 0 := fun k hk => by
    rw [show U.length + 1 + k = U.length + (k + 1) by omega, app_get, List.getD_cons_succ, app_get0 0 hk]
  have hm : ∀ k, k < B.length → B.getD k 0 ∈ B := fun k hk => by
    rw [List.getD_eq_getElem?_getD, List.getElem?_eq_getElem hk]; exact List.getElem_mem hk
  have hlen : (U ++ x :: (B ++ W)).length = U.length + 1 + B.length + W.length := by simp; omega
  refine Ok.of_ex (F := mk Try.f124 4) Try.func124 rfl rfl tabOk mixed rfl rfl rfl rfl rfl (Nat.le_of_ble_eq_true rfl) (fun _ => Nat.le_of_ble_eq_true rfl) (.go 5000 ?_)
  -- the moves
  have loop1 : ∀ (p : Nat), p ≤ B.length → Ord (ltP l) (B.take p ++ x :: B.drop p) → ∀ (d t : Nat) (z y : Int) (row : List Int), z = ((U.length + t : Nat) : Int) → y = ((U.length + 1 + p : Nat) : Int) → t + d = p → row = U ++ (B.take t ++ x :: (B.drop t ++ W)) → Run P (mk Try.f124 4) (fun v s => ∃ M : List Int, (M.Perm (x :: B) ∧ Ord (ltP l) M) ∧ v = .tup [] ∧ s = stF l (U ++ (M ++ W)))
      (.loop ⟨[(4, .one (.ptr (.t 4 0) 0)), (8, .one (.int .i64 y)), (11, .one (.int .i64 z))],
      [(.k 0, some (.cells [.lst .mv l false])), (.k 1, some (.cells [.own (.k 3)])), (.k 2, some (.cells [.fn 51 []])), (.k 3, some (.row (.int .i64) row)), (.t 4 0, some (.cells dataF.atoms))], [.lp [0, 1, 0, 1, 1, 1, 0, 1, 0, 1], .blk 2, .code [1, 1, 1, 1, 0, 1, 0, 1], .code [1, 1]], none⟩) := by
    intro p hp hord d
    induction d with
    | zero =>
      intro t z y row hz hy hd hrow
      subst hz hy
      obtain rfl : t = p := by omega
      have e1 : Fact (wrap64 (((U.length + 1 + t : Nat) : Int) - 1) = ((U.length + t : Nat) : Int)) := ⟨(wrap_eq (by omega) (by omega)).trans (by omega)⟩
      have hfin : row = U ++ ((B.take t ++ x :: B.drop t) ++ W) := by rw [hrow]; simp
      subst hfin
      refine Run.loop ?_
      repeat' (conv => arg 4; whnf); first | (exfalso; simp only [e1.h] at *; omega) | refine Run.ret ⟨?_, rfl⟩ | refine Run.condT ?_ | refine Run.condf ?_ | refine Run.condD (fun h => ?_) (fun h => ?_) | refine Run.condN (fun h => ?_) (fun h => ?_) | refine Run.condE (fun h => ?_) (fun h => ?_) | refine Run.condF (fun h => ?_) (fun h => ?_) | refine Run.condM (fun h => ?_) (fun h => ?_) | refine Run.condB (fun h => ?_) (fun h => ?_) | refine Run.check1 ?_ | (refine Run.ret ⟨_, ⟨?_, hord⟩, rfl, rfl⟩)
      all_goals first | (exact List.perm_middle.trans (by rw [List.take_append_drop])) | trace_state
    | succ d ih =>
      intro t z y row hz hy hd hrow
      subst hz hy
      have e1 : Fact (wrap64 (((U.length + 1 + p : Nat) : Int) - 1) = ((U.length + p : Nat) : Int)) := ⟨(wrap_eq (by omega) (by omega)).trans (by omega)⟩
      have e2 : Fact (wrap64 (((U.length + t : Nat) : Int) + 1) = ((U.length + (t + 1) : Nat) : Int)) := ⟨(wrap_eq (by omega) (by omega)).trans (by omega)⟩
      have hb1 : B.drop t = B[t]'(by omega) :: B.drop (t + 1) := List.drop_eq_getElem_cons (by omega)
      have hrow1 : row = (U ++ B.take t) ++ x :: B[t]'(by omega) :: (B.drop (t + 1) ++ W) := by rw [hrow, hb1]; simp only [List.append_assoc, List.cons_append]
      have hlu : (U ++ B.take t).length = U.length + t := by rw [List.length_append, List.length_take]; omega
      have hrl : row.length = U.length + 1 + B.length + W.length := by rw [hrow1, List.length_append, hlu]; simp; omega
      have hst : swapL 0 row (U.length + t) (U.length + (t + 1)) = U ++ (B.take (t + 1) ++ x :: (B.drop (t + 1) ++ W)) := by
        have h := swap_next (0 : Int) (U ++ B.take t) (B.drop (t + 1) ++ W) x (B[t]'(by omega))
        rw [hlu] at h
        rw [hrow1, show U.length + (t + 1) = U.length + t + 1 by omega, h, List.take_succ_eq_append_getElem (show t < B.length by omega)]
        simp only [List.append_assoc, List.cons_append, List.nil_append]
      have hsw := swapI_ok row (U.length + t) (U.length + (t + 1)) _ _ rfl e2.h (by omega) (by omega)
      have ih' := ih (t + 1) _ _ _ e2.h rfl (by omega) hst
      clear ih
      refine Run.loop ?_
      repeat' (conv => arg 4; whnf); first | (exfalso; simp only [e1.h] at *; omega) | refine Run.ret ⟨?_, rfl⟩ | refine Run.condT ?_ | refine Run.condf ?_ | refine Run.condD (fun h => ?_) (fun h => ?_) | refine Run.condN (fun h => ?_) (fun h => ?_) | refine Run.condE (fun h => ?_) (fun h => ?_) | refine Run.condF (fun h => ?_) (fun h => ?_) | refine Run.condM (fun h => ?_) (fun h => ?_) | refine Run.condB (fun h => ?_) (fun h => ?_) | refine Run.check1 ?_ | refine Run.call (hsw) rfl ?_ | refine Run.round ⟨[(.t 4 0, .t 4 0)], [], []⟩ (ih') rfl (by (repeat' (first | exact wkEnv_nil | refine wkEnv_cons rfl ?_ | exact wkSto_nil | refine wkSto_none ?_ | refine wkSto_some rfl ?_)); done) (by (repeat' (first | exact wkEnv_nil | refine wkEnv_cons rfl ?_ | exact wkSto_nil | refine wkSto_none ?_ | refine wkSto_some rfl ?_)); done)
      all_goals trace_state
  -- the place
  have loop0 : ∀ (N p q : Nat) (z y : Int), q ≤ p + N → z = ((U.length + 1 + p : Nat) : Int) → y = ((U.length + 1 + q : Nat) : Int) → p ≤ q → q ≤ B.length → (0 < p → ltP l (B.getD (p - 1) 0) x = true) → (q < B.length → ltP l (B.getD q 0) x = false) → Run P (mk Try.f124 4) (fun v s => ∃ M : List Int, (M.Perm (x :: B) ∧ Ord (ltP l) M) ∧ v = .tup [] ∧ s = stF l (U ++ (M ++ W)))
      (.loop ⟨[(1, .one (.int .i64 (U.length : Int))), (4, .one (.ptr (.t 4 0) 0)), (8, .one (.int .i64 z)), (9, .one (.int .i64 y))],
      [(.k 0, some (.cells [.lst .mv l false])), (.k 1, some (.cells [.own (.k 3)])), (.k 2, some (.cells [.fn 51 []])), (.k 3, some (.row (.int .i64) (U ++ x :: (B ++ W)))), (.t 4 0, some (.cells dataF.atoms))], [.lp [0, 0, 1, 1, 0, 1, 0, 1], .blk 0, .code [1, 1, 1, 0, 1, 0, 1], .code [1, 1]], none⟩) := by
    intro N
    induction N with
    | zero =>
      intro p q z y hN hz hy hpq hq ha hb
      subst hz hy
      obtain rfl : p = q := by omega
      have hord := ord_put hs hB hq (fun h => ⟨hs.asymm _ _ (ha h), .inl (ha h)⟩) (fun h => ⟨hb h, .inr (hx _ (hm p h))⟩)
      have l1 := loop1 p hq hord p 0 _ ((U.length + 1 + p : Nat) : Int) (U ++ x :: (B ++ W)) rfl rfl (by omega) (by simp)
      clear loop1
      refine Run.loop ?_
      repeat' (conv => arg 4; whnf); first | refine Run.ret ⟨?_, rfl⟩ | refine Run.condT ?_ | refine Run.condf ?_ | refine Run.condD (fun h => ?_) (fun h => ?_) | refine Run.condN (fun h => ?_) (fun h => ?_) | refine Run.condE (fun h => ?_) (fun h => ?_) | refine Run.condF (fun h => ?_) (fun h => ?_) | refine Run.condM (fun h => ?_) (fun h => ?_) | refine Run.condB (fun h => ?_) (fun h => ?_) | refine Run.check1 ?_ | (exfalso; omega) | refine Run.round ⟨[(.t 4 0, .t 4 0)], [], []⟩ (l1) rfl (by (repeat' (first | exact wkEnv_nil | refine wkEnv_cons rfl ?_ | exact wkSto_nil | refine wkSto_none ?_ | refine wkSto_some rfl ?_)); done) (by (repeat' (first | exact wkEnv_nil | refine wkEnv_cons rfl ?_ | exact wkSto_nil | refine wkSto_none ?_ | refine wkSto_some rfl ?_)); done)
      all_goals trace_state
    | succ N ih =>
      intro p q z y hN hz hy hpq hq ha hb
      subst hz hy
      by_cases hlt : p < q
      · have eh : Fact (wrap64 ((IntKind.u64.wrap (wrap64 (((U.length + 1 + p : Nat) : Int) + ((U.length + 1 + q : Nat) : Int)))).fdiv (2 ^ (min (Int.toNat 1) IntKind.u64.bits))) = ((U.length + 1 + (p + q) / 2 : Nat) : Int)) := ⟨(half2 (n := U.length + 1 + p + (U.length + 1 + q)) (by omega) (by omega)).trans (by omega)⟩
        have es : Fact (wrap64 (wrap64 ((IntKind.u64.wrap (wrap64 (((U.length + 1 + p : Nat) : Int) + ((U.length + 1 + q : Nat) : Int)))).fdiv (2 ^ (min (Int.toNat 1) IntKind.u64.bits))) + 1) = ((U.length + 1 + ((p + q) / 2 + 1) : Nat) : Int)) := by
          refine ⟨?_⟩
          rw [eh.h]
          exact (wrap_eq (by omega) (by omega)).trans (by omega)
        have hle := less_ok l _ hr (U.length + 1 + (p + q) / 2) U.length _ _ eh.h rfl (by omega) (by omega)
        rw [hx0, hBk _ (by omega)] at hle
        have ih1 := fun h => ih ((p + q) / 2 + 1) q _ ((U.length + 1 + q : Nat) : Int) (by omega) es.h rfl (by omega) hq (fun _ => h) hb
        have ih2 := fun h => ih p ((p + q) / 2) ((U.length + 1 + p : Nat) : Int) _ (by omega) rfl eh.h (by omega) (by omega) ha (fun _ => h)
        rw [show (p + q) / 2 + 1 - 1 = (p + q) / 2 by omega] at ih1
        clear ih loop1 es eh
        refine Run.loop ?_
        repeat' (conv => arg 4; whnf); first | refine Run.ret ⟨?_, rfl⟩ | refine Run.condT ?_ | refine Run.condf ?_ | refine Run.condD (fun h => ?_) (fun h => ?_) | refine Run.condN (fun h => ?_) (fun h => ?_) | refine Run.condE (fun h => ?_) (fun h => ?_) | refine Run.condF (fun h => ?_) (fun h => ?_) | refine Run.condM (fun h => ?_) (fun h => ?_) | refine Run.condB (fun h => ?_) (fun h => ?_) | refine Run.check1 ?_ | (exfalso; omega) | refine Run.call (hle) rfl ?_ | (refine Run.need1 (by simp only [allP]; omega) ?_) | refine Run.round ⟨[(.t 4 0, .t 4 0)], [], []⟩ (ih1 (by assumption)) rfl (by (repeat' (first | exact wkEnv_nil | refine wkEnv_cons rfl ?_ | exact wkSto_nil | refine wkSto_none ?_ | refine wkSto_some rfl ?_)); done) (by (repeat' (first | exact wkEnv_nil | refine wkEnv_cons rfl ?_ | exact wkSto_nil | refine wkSto_none ?_ | refine wkSto_some rfl ?_)); done) | refine Run.round ⟨[(.t 4 0, .t 4 0)], [], []⟩ (ih2 (by assumption)) rfl (by (repeat' (first | exact wkEnv_nil | refine wkEnv_cons rfl ?_ | exact wkSto_nil | refine wkSto_none ?_ | refine wkSto_some rfl ?_)); done) (by (repeat' (first | exact wkEnv_nil | refine wkEnv_cons rfl ?_ | exact wkSto_nil | refine wkSto_none ?_ | refine wkSto_some rfl ?_)); done)
        all_goals trace_state
      · obtain rfl : p = q := by omega
        have hord := ord_put hs hB hq (fun h => ⟨hs.asymm _ _ (ha h), .inl (ha h)⟩) (fun h => ⟨hb h, .inr (hx _ (hm p h))⟩)
        have l1 := loop1 p hq hord p 0 _ ((U.length + 1 + p : Nat) : Int) (U ++ x :: (B ++ W)) rfl rfl (by omega) (by simp)
        clear loop1 ih
        refine Run.loop ?_
        repeat' (conv => arg 4; whnf); first | refine Run.ret ⟨?_, rfl⟩ | refine Run.condT ?_ | refine Run.condf ?_ | refine Run.condD (fun h => ?_) (fun h => ?_) | refine Run.condN (fun h => ?_) (fun h => ?_) | refine Run.condE (fun h => ?_) (fun h => ?_) | refine Run.condF (fun h => ?_) (fun h => ?_) | refine Run.condM (fun h => ?_) (fun h => ?_) | refine Run.condB (fun h => ?_) (fun h => ?_) | refine Run.check1 ?_ | (exfalso; omega) | refine Run.round ⟨[(.t 4 0, .t 4 0)], [], []⟩ (l1) rfl (by (repeat' (first | exact wkEnv_nil | refine wkEnv_cons rfl ?_ | exact wkSto_nil | refine wkSto_none ?_ | refine wkSto_some rfl ?_)); done) (by (repeat' (first | exact wkEnv_nil | refine wkEnv_cons rfl ?_ | exact wkSto_nil | refine wkSto_none ?_ | refine wkSto_some rfl ?_)); done)
        all_goals trace_state
  clear loop1
  repeat' (conv => arg 4; whnf); first | (exact absurd ea.h (by assumption)) | refine Run.ret ⟨?_, rfl⟩ | refine Run.condT ?_ | refine Run.condf ?_ | refine Run.condD (fun h => ?_) (fun h => ?_) | refine Run.condN (fun h => ?_) (fun h => ?_) | refine Run.condE (fun h => ?_) (fun h => ?_) | refine Run.condF (fun h => ?_) (fun h => ?_) | refine Run.condM (fun h => ?_) (fun h => ?_) | refine Run.condB (fun h => ?_) (fun h => ?_) | refine Run.check1 ?_ | refine Run.round ⟨[(.t 4 0, .t 4 0)], [], []⟩ (loop0 B.length 0 B.length _ _ (by omega) rfl rfl (by omega) (Nat.le_refl _) (fun h => absurd h (by omega)) (fun h => absurd h (by omega))) rfl (by (repeat' (first | exact wkEnv_nil | refine wkEnv_cons rfl ?_ | exact wkSto_nil | refine wkSto_none ?_ | refine wkSto_some rfl ?_)); done) (by (repeat' (first | exact wkEnv_nil | refine wkEnv_cons rfl ?_ | exact wkSto_nil | refine wkSto_none ?_ | refine wkSto_some rfl ?_)); done)
  all_goals trace_state
end Go.Proofs.Ytmppoajepbbmiaa.AM

/- The stable sort of the library: two rows of any lengths into one; condition: places within the row. -/
namespace Go.Proofs.Ytmppoajepbbmiaa.AM
open Go.AM Go.RowKit
set_option linter.unusedVariables false
set_option linter.unusedSimpArgs false
set_option maxRecDepth 100000

set_option maxHeartbeats 4000000 in
/-- One behind a row in order. -/
theorem sym2_ok (l : List Mv) (U A W : List Int) (x : Int) (hr : InL l.length (U ++ (A ++ x :: W))) (hL : U.length + A.length + 1 + W.length ≤ 1048576) (hA2 : 2 ≤ A.length) (hA : Ord (ltP l) A) (hx : ∀ y ∈ A, y < x) (za zm zb : Int) (h1 : za = U.length) (h2 : zm = ((U.length + A.length : Nat) : Int)) (h3 : zb = ((U.length + A.length + 1 : Nat) : Int)) :
    ∃ M : List Int, (M.Perm (A ++ [x]) ∧ Ord (ltP l) M) ∧ Ok P 124 [dataF, .one (.int .i64 za), .one (.int .i64 zm), .one (.int .i64 zb)] (stF l (U ++ (A ++ x :: W))) (.tup []) (stF l (U ++ (M ++ W))) := by
  subst h1 h2 h3
  have hs : Srt (ltP l) := lessM_srt (fun a : Int => at' l a.toNat)
  have ea : Fact (wrap64 (((U.length + A.length : Nat) : Int) - (U.length : Int)) = (A.length : Int)) := ⟨(wrap_eq (by omega) (by omega)).trans (by omega)⟩
  have eb : Fact (wrap64 (((U.length + A.length + 1 : Nat) : Int) - ((U.length + A.length : Nat) : Int)) = 1) := ⟨(wrap_eq (by omega) (by omega)).trans (by omega)⟩
  have hx0 : (U ++ (A ++ x :: W)).getD (U.length + A.length) 0 = x := by
    have := app_get (0 : Int) A (x :: W) 0
    rw [app_get, show A.length = A.length + 0 from rfl, this]; rfl
  have hAk : ∀ k, k < A.length → (U ++ (A ++ x :: W)).getD (U.length + k) 0 = A.getD k 0 := fun k hk => by rw [app_get, app_get0 0 hk]
  have hm : ∀ k, k < A.length → A.getD k 0 ∈ A := fun k hk => by
    rw [List.getD_eq_getElem?_getD, List.getElem?_eq_getElem hk]; exact List.getElem_mem hk
  have hlen : (U ++ (A ++ x :: W)).length = U.length + A.length + 1 + W.length := by simp; omega
  refine Ok.of_ex (F := mk Try.f124 4) Try.func124 rfl rfl tabOk mixed rfl rfl rfl rfl rfl (Nat.le_of_ble_eq_true rfl) (fun _ => Nat.le_of_ble_eq_true rfl) (.go 5000 ?_)
  have loop1 : ∀ (p : Nat), p ≤ A.length → Ord (ltP l) (A.take p ++ x :: A.drop p) → ∀ (d t : Nat) (z y : Int) (row : List Int), z = ((U.length + t : Nat) : Int) → y = ((U.length + p : Nat) : Int) → p + d = t → t ≤ A.length → row = U ++ (A.take t ++ x :: (A.drop t ++ W)) → Run P (mk Try.f124 4) (fun v s => ∃ M : List Int, (M.Perm (A ++ [x]) ∧ Ord (ltP l) M) ∧ v = .tup [] ∧ s = stF l (U ++ (M ++ W)))
      (.loop ⟨[(4, .one (.ptr (.t 4 0) 0)), (12, .one (.int .i64 y)), (15, .one (.int .i64 z))],
      [(.k 0, some (.cells [.lst .mv l false])), (.k 1, some (.cells [.own (.k 3)])), (.k 2, some (.cells [.fn 51 []])), (.k 3, some (.row (.int .i64) row)), (.t 4 0, some (.cells dataF.atoms))], [.lp [0, 1, 0, 1, 1, 1, 0, 1, 0, 1, 1], .blk 6, .code [1, 1, 1, 1, 0, 1, 0, 1, 1], .code [1, 1, 1]], none⟩) := by
    intro p hp hord d
    induction d with
    | zero =>
      intro t z y row hz hy hd ht hrow
      subst hz hy
      obtain rfl : p = t := by omega
      have hfin : row = U ++ ((A.take p ++ x :: A.drop p) ++ W) := by rw [hrow]; simp
      subst hfin
      refine Run.loop ?_
      repeat' (conv => arg 4; whnf); first | refine Run.ret ⟨?_, rfl⟩ | refine Run.condT ?_ | refine Run.condf ?_ | refine Run.condD (fun h => ?_) (fun h => ?_) | refine Run.condN (fun h => ?_) (fun h => ?_) | refine Run.condE (fun h => ?_) (fun h => ?_) | refine Run.condF (fun h => ?_) (fun h => ?_) | refine Run.condM (fun h => ?_) (fun h => ?_) | refine Run.condB (fun h => ?_) (fun h => ?_) | refine Run.check1 ?_ | (exfalso; omega) | (refine Run.ret ⟨_, ⟨?_, hord⟩, rfl, rfl⟩)
      all_goals first | (exact List.perm_middle.trans (by rw [List.take_append_drop]; exact (List.perm_append_singleton _ _).symm)) | trace_state
    | succ d ih =>
      intro t z y row hz hy hd ht hrow
      subst hz hy
      obtain ⟨t, rfl⟩ : ∃ q, t = q + 1 := ⟨t - 1, by omega⟩
      have e2 : Fact (wrap64 (((U.length + (t + 1) : Nat) : Int) - 1) = ((U.length + t : Nat) : Int)) := ⟨(wrap_eq (by omega) (by omega)).trans (by omega)⟩
      have hb1 : A.drop t = A[t]'(by omega) :: A.drop (t + 1) := List.drop_eq_getElem_cons (by omega)
      have hrow1 : row = (U ++ A.take t) ++ A[t]'(by omega) :: x :: (A.drop (t + 1) ++ W) := by
        rw [hrow, List.take_succ_eq_append_getElem (show t < A.length by omega)]
        simp only [List.append_assoc, List.cons_append, List.nil_append]
      have hlu : (U ++ A.take t).length = U.length + t := by rw [List.length_append, List.length_take]; omega
      have hrl : row.length = U.length + A.length + 1 + W.length := by rw [hrow1, List.length_append, hlu]; simp; omega
      have hst : swapL 0 row (U.length + (t + 1)) (U.length + t) = U ++ (A.take t ++ x :: (A.drop t ++ W)) := by
        have h := swap_prev (0 : Int) (U ++ A.take t) (A.drop (t + 1) ++ W) (A[t]'(by omega)) x
        rw [hlu] at h
        rw [hrow1, show U.length + (t + 1) = U.length + t + 1 by omega, h, hb1]
        simp only [List.append_assoc, List.cons_append, List.nil_append]
      have hsw := swapI_ok row (U.length + (t + 1)) (U.length + t) _ _ rfl e2.h (by omega) (by omega)
      have ih' := ih t _ _ _ e2.h rfl (by omega) (by omega) hst
      clear ih
      refine Run.loop ?_
      repeat' (conv => arg 4; whnf); first | refine Run.ret ⟨?_, rfl⟩ | refine Run.condT ?_ | refine Run.condf ?_ | refine Run.condD (fun h => ?_) (fun h => ?_) | refine Run.condN (fun h => ?_) (fun h => ?_) | refine Run.condE (fun h => ?_) (fun h => ?_) | refine Run.condF (fun h => ?_) (fun h => ?_) | refine Run.condM (fun h => ?_) (fun h => ?_) | refine Run.condB (fun h => ?_) (fun h => ?_) | refine Run.check1 ?_ | (exfalso; omega) | refine Run.call (hsw) rfl ?_ | refine Run.round ⟨[(.t 4 0, .t 4 0)], [], []⟩ (ih') rfl (by (repeat' (first | exact wkEnv_nil | refine wkEnv_cons rfl ?_ | exact wkSto_nil | refine wkSto_none ?_ | refine wkSto_some rfl ?_)); done) (by (repeat' (first | exact wkEnv_nil | refine wkEnv_cons rfl ?_ | exact wkSto_nil | refine wkSto_none ?_ | refine wkSto_some rfl ?_)); done)
      all_goals trace_state
  have loop0 : ∀ (N p q : Nat) (z y : Int), q ≤ p + N → z = ((U.length + p : Nat) : Int) → y = ((U.length + q : Nat) : Int) → p ≤ q → q ≤ A.length → (0 < p → ltP l x (A.getD (p - 1) 0) = false) → (q < A.length → ltP l x (A.getD q 0) = true) → Run P (mk Try.f124 4) (fun v s => ∃ M : List Int, (M.Perm (A ++ [x]) ∧ Ord (ltP l) M) ∧ v = .tup [] ∧ s = stF l (U ++ (M ++ W)))
      (.loop ⟨[(2, .one (.int .i64 ((U.length + A.length : Nat) : Int))), (4, .one (.ptr (.t 4 0) 0)), (12, .one (.int .i64 z)), (13, .one (.int .i64 y))],
      [(.k 0, some (.cells [.lst .mv l false])), (.k 1, some (.cells [.own (.k 3)])), (.k 2, some (.cells [.fn 51 []])), (.k 3, some (.row (.int .i64) (U ++ (A ++ x :: W)))), (.t 4 0, some (.cells dataF.atoms))], [.lp [0, 0, 1, 1, 0, 1, 0, 1, 1], .blk 4, .code [1, 1, 1, 0, 1, 0, 1, 1], .code [1, 1, 1]], none⟩) := by
    intro N
    induction N with
    | zero =>
      intro p q z y hN hz hy hpq hq ha hb
      subst hz hy
      obtain rfl : p = q := by omega
      have hord := ord_put hs hA hq (fun h => ⟨ha h, .inr (hx _ (hm _ (by omega)))⟩) (fun h => ⟨hs.asymm _ _ (hb h), .inl (hb h)⟩)
      have l1 := loop1 p hq hord (A.length - p) A.length _ ((U.length + p : Nat) : Int) (U ++ (A ++ x :: W)) rfl rfl (by omega) (Nat.le_refl _) (by simp)
      clear loop1
      refine Run.loop ?_
      repeat' (conv => arg 4; whnf); first | refine Run.ret ⟨?_, rfl⟩ | refine Run.condT ?_ | refine Run.condf ?_ | refine Run.condD (fun h => ?_) (fun h => ?_) | refine Run.condN (fun h => ?_) (fun h => ?_) | refine Run.condE (fun h => ?_) (fun h => ?_) | refine Run.condF (fun h => ?_) (fun h => ?_) | refine Run.condM (fun h => ?_) (fun h => ?_) | refine Run.condB (fun h => ?_) (fun h => ?_) | refine Run.check1 ?_ | (exfalso; omega) | refine Run.round ⟨[(.t 4 0, .t 4 0)], [], []⟩ (l1) rfl (by (repeat' (first | exact wkEnv_nil | refine wkEnv_cons rfl ?_ | exact wkSto_nil | refine wkSto_none ?_ | refine wkSto_some rfl ?_)); done) (by (repeat' (first | exact wkEnv_nil | refine wkEnv_cons rfl ?_ | exact wkSto_nil | refine wkSto_none ?_ | refine wkSto_some rfl ?_)); done)
      all_goals trace_state
    | succ N ih =>
      intro p q z y hN hz hy hpq hq ha hb
      subst hz hy
      by_cases hlt : p < q
      · have eh : Fact (wrap64 ((IntKind.u64.wrap (wrap64 (((U.length + p : Nat) : Int) + ((U.length + q : Nat) : Int)))).fdiv (2 ^ (min (Int.toNat 1) IntKind.u64.bits))) = ((U.length + (p + q) / 2 : Nat) : Int)) := ⟨(half2 (n := U.length + p + (U.length + q)) (by omega) (by omega)).trans (by omega)⟩
        have es : Fact (wrap64 (wrap64 ((IntKind.u64.wrap (wrap64 (((U.length + p : Nat) : Int) + ((U.length + q : Nat) : Int)))).fdiv (2 ^ (min (Int.toNat 1) IntKind.u64.bits))) + 1) = ((U.length + ((p + q) / 2 + 1) : Nat) : Int)) := by
          refine ⟨?_⟩
          rw [eh.h]
          exact (wrap_eq (by omega) (by omega)).trans (by omega)
        have hle := less_ok l _ hr (U.length + A.length) (U.length + (p + q) / 2) _ _ rfl eh.h (by omega) (by omega)
        rw [hx0, hAk _ (by omega)] at hle
        have ih1 := fun h => ih ((p + q) / 2 + 1) q _ ((U.length + q : Nat) : Int) (by omega) es.h rfl (by omega) hq (fun _ => h) hb
        have ih2 := fun h => ih p ((p + q) / 2) ((U.length + p : Nat) : Int) _ (by omega) rfl eh.h (by omega) (by omega) ha (fun _ => h)
        rw [show (p + q) / 2 + 1 - 1 = (p + q) / 2 by omega] at ih1
        clear ih loop1 es eh
        refine Run.loop ?_
        repeat' (conv => arg 4; whnf); first | refine Run.ret ⟨?_, rfl⟩ | refine Run.condT ?_ | refine Run.condf ?_ | refine Run.condD (fun h => ?_) (fun h => ?_) | refine Run.condN (fun h => ?_) (fun h => ?_) | refine Run.condE (fun h => ?_) (fun h => ?_) | refine Run.condF (fun h => ?_) (fun h => ?_) | refine Run.condM (fun h => ?_) (fun h => ?_) | refine Run.condB (fun h => ?_) (fun h => ?_) | refine Run.check1 ?_ | (exfalso; omega) | refine Run.call (hle) rfl ?_ | (refine Run.need1 (by simp only [allP]; omega) ?_) | refine Run.round ⟨[(.t 4 0, .t 4 0)], [], []⟩ (ih1 (by assumption)) rfl (by (repeat' (first | exact wkEnv_nil | refine wkEnv_cons rfl ?_ | exact wkSto_nil | refine wkSto_none ?_ | refine wkSto_some rfl ?_)); done) (by (repeat' (first | exact wkEnv_nil | refine wkEnv_cons rfl ?_ | exact wkSto_nil | refine wkSto_none ?_ | refine wkSto_some rfl ?_)); done) | refine Run.round ⟨[(.t 4 0, .t 4 0)], [], []⟩ (ih2 (by assumption)) rfl (by (repeat' (first | exact wkEnv_nil | refine wkEnv_cons rfl ?_ | exact wkSto_nil | refine wkSto_none ?_ | refine wkSto_some rfl ?_)); done) (by (repeat' (first | exact wkEnv_nil | refine wkEnv_cons rfl ?_ | exact wkSto_nil | refine wkSto_none ?_ | refine wkSto_some rfl ?_)); done)
        all_goals trace_state
      · obtain rfl : p = q := by omega
        have hord := ord_put hs hA hq (fun h => ⟨ha h, .inr (hx _ (hm _ (by omega)))⟩) (fun h => ⟨hs.asymm _ _ (hb h), .inl (hb h)⟩)
        have l1 := loop1 p hq hord (A.length - p) A.length _ ((U.length + p : Nat) : Int) (U ++ (A ++ x :: W)) rfl rfl (by omega) (Nat.le_refl _) (by simp)
        clear loop1 ih
        refine Run.loop ?_
        repeat' (conv => arg 4; whnf); first | refine Run.ret ⟨?_, rfl⟩ | refine Run.condT ?_ | refine Run.condf ?_ | refine Run.condD (fun h => ?_) (fun h => ?_) | refine Run.condN (fun h => ?_) (fun h => ?_) | refine Run.condE (fun h => ?_) (fun h => ?_) | refine Run.condF (fun h => ?_) (fun h => ?_) | refine Run.condM (fun h => ?_) (fun h => ?_) | refine Run.condB (fun h => ?_) (fun h => ?_) | refine Run.check1 ?_ | (exfalso; omega) | refine Run.round ⟨[(.t 4 0, .t 4 0)], [], []⟩ (l1) rfl (by (repeat' (first | exact wkEnv_nil | refine wkEnv_cons rfl ?_ | exact wkSto_nil | refine wkSto_none ?_ | refine wkSto_some rfl ?_)); done) (by (repeat' (first | exact wkEnv_nil | refine wkEnv_cons rfl ?_ | exact wkSto_nil | refine wkSto_none ?_ | refine wkSto_some rfl ?_)); done)
        all_goals trace_state
  clear loop1
  repeat' (conv => arg 4; whnf); first | (exact absurd eb.h (by assumption)) | (exact absurd (ea.h.symm.trans (by assumption)) (by omega)) | refine Run.ret ⟨?_, rfl⟩ | refine Run.condT ?_ | refine Run.condf ?_ | refine Run.condD (fun h => ?_) (fun h => ?_) | refine Run.condN (fun h => ?_) (fun h => ?_) | refine Run.condE (fun h => ?_) (fun h => ?_) | refine Run.condF (fun h => ?_) (fun h => ?_) | refine Run.condM (fun h => ?_) (fun h => ?_) | refine Run.condB (fun h => ?_) (fun h => ?_) | refine Run.check1 ?_ | refine Run.round ⟨[(.t 4 0, .t 4 0)], [], []⟩ (loop0 A.length 0 A.length _ _ (by omega) rfl rfl (by omega) (Nat.le_refl _) (fun h => absurd h (by omega)) (fun h => absurd h (by omega))) rfl (by (repeat' (first | exact wkEnv_nil | refine wkEnv_cons rfl ?_ | exact wkSto_nil | refine wkSto_none ?_ | refine wkSto_some rfl ?_)); done) (by (repeat' (first | exact wkEnv_nil | refine wkEnv_cons rfl ?_ | exact wkSto_nil | refine wkSto_none ?_ | refine wkSto_some rfl ?_)); done)
  all_goals trace_state
end Go.Proofs.Ytmppoajepbbmiaa.AM

/- The stable sort of the library: two rows in order into one; condition: places within the row. -/
namespace Go.Proofs.Ytmppoajepbbmiaa.AM
open Go.AM Go.RowKit
set_option linter.unusedVariables false
set_option linter.unusedSimpArgs false
set_option maxRecDepth 100000

theorem take_get {A : List Int} {k j : Nat} (h : j < k) : (A.take k).getD j 0 = A.getD j 0 := by
  rw [List.getD_eq_getElem?_getD, List.getD_eq_getElem?_getD, List.getElem?_take_of_lt h]
theorem inl_app {n : Nat} {a b : List Int} (ha : InL n a) (hb : InL n b) : InL n (a ++ b) := fun x hx => (List.mem_append.1 hx).elim (ha x) (hb x)
theorem inl_l {n : Nat} {a b : List Int} (h : InL n (a ++ b)) : InL n a := fun x hx => h x (List.mem_append_left _ hx)
theorem inl_r {n : Nat} {a b : List Int} (h : InL n (a ++ b)) : InL n b := fun x hx => h x (List.mem_append_right _ hx)
theorem inl_perm {n : Nat} {a b : List Int} (h : InL n b) (hp : a.Perm b) : InL n a := fun x hx => h x (hp.mem_iff.1 hx)
/-- Two rows in order, as one of the parts of a merge: called for, or nothing to do. -/
theorem part_ok {l : List Mv} {X Y : List Int} {C : Prop} {K : List Int → Prop} (hX : Ord (ltP l) X) (hY : Ord (ltP l) Y) (h : 1 ≤ X.length → 1 ≤ Y.length → ∃ M : List Int, (M.Perm (X ++ Y) ∧ Ord (ltP l) M) ∧ K M) (hc : C ↔ 1 ≤ X.length ∧ 1 ≤ Y.length) :
    ∃ M : List Int, (M.Perm (X ++ Y) ∧ Ord (ltP l) M) ∧ (C → K M) ∧ (¬ C → M = X ++ Y) := by
  by_cases q : 1 ≤ X.length ∧ 1 ≤ Y.length
  · obtain ⟨M, h1, h2⟩ := h q.1 q.2
    exact ⟨M, h1, fun _ => h2, fun k => absurd (hc.2 q) k⟩
  · refine ⟨X ++ Y, ⟨.refl _, ?_⟩, fun k => absurd (hc.1 k) q, fun _ => rfl⟩
    by_cases q2 : X.length = 0
    · rw [List.eq_nil_of_length_eq_zero q2]; exact hY
    · rw [List.eq_nil_of_length_eq_zero (show Y.length = 0 by omega), List.append_nil]; exact hX
set_option maxHeartbeats 16000000 in
theorem symM_ok (l : List Mv) : ∀ (N : Nat) (U A B W : List Int) (za zm zb : Int), A.length + B.length ≤ N → 1 ≤ A.length → 1 ≤ B.length → InL l.length U → InL l.length A → InL l.length B → InL l.length W → U.length + A.length + B.length + W.length ≤ 1048576 → Ord (ltP l) A → Ord (ltP l) B → (∀ x ∈ A, ∀ y ∈ B, x < y) →
    za = U.length → zm = ((U.length + A.length : Nat) : Int) → zb = ((U.length + A.length + B.length : Nat) : Int) →
    ∃ M : List Int, (M.Perm (A ++ B) ∧ Ord (ltP l) M) ∧ Ok P 124 [dataF, .one (.int .i64 za), .one (.int .i64 zm), .one (.int .i64 zb)] (stF l (U ++ A ++ B ++ W)) (.tup []) (stF l (U ++ M ++ W)) := by
  intro N
  induction N with
  | zero => intro U A B W za zm zb hN h1 h2; omega
  | succ N ih =>
  intro U A B W za zm zb hN hA1 hB1 iU iA iB iW hL oA oB hlt h1 h2 h3
  have hs : Srt (ltP l) := lessM_srt (fun a : Int => at' l a.toNat)
  have hr : InL l.length (U ++ A ++ B ++ W) := inl_app (inl_app (inl_app iU iA) iB) iW
  by_cases hAs : A.length = 1
  · obtain ⟨x, rfl⟩ : ∃ x, A = [x] := by
      match A, hAs with
      | [x], _ => exact ⟨x, rfl⟩
    have e1 : U ++ [x] ++ B ++ W = U ++ x :: (B ++ W) := by simp
    rw [e1] at hr
    obtain ⟨M, h5, h6⟩ := sym1_ok l U B W x hr (by simpa using hL) oB (fun y hy => hlt x (by simp) y hy) za zm zb h1 (by simpa using h2) (by simpa using h3)
    refine ⟨M, h5, ?_⟩
    rw [e1, List.append_assoc]
    exact h6
  by_cases hBs : B.length = 1
  · obtain ⟨x, rfl⟩ : ∃ x, B = [x] := by
      match B, hBs with
      | [x], _ => exact ⟨x, rfl⟩
    have e1 : U ++ A ++ [x] ++ W = U ++ (A ++ x :: W) := by simp
    rw [e1] at hr
    obtain ⟨M, h5, h6⟩ := sym2_ok l U A W x hr (by simpa using hL) (by omega) oA (fun y hy => hlt y hy x (by simp)) za zm zb h1 h2 (by simpa using h3)
    refine ⟨M, h5, ?_⟩
    rw [e1, List.append_assoc]
    exact h6
  subst h1 h2 h3
  have ea : Fact (wrap64 (((U.length + A.length : Nat) : Int) - (U.length : Int)) = (A.length : Int)) := ⟨(wrap_eq (by omega) (by omega)).trans (by omega)⟩
  have eb : Fact (wrap64 (((U.length + A.length + B.length : Nat) : Int) - ((U.length + A.length : Nat) : Int)) = (B.length : Int)) := ⟨(wrap_eq (by omega) (by omega)).trans (by omega)⟩
  have emid : Fact (wrap64 ((IntKind.u64.wrap (wrap64 ((U.length : Int) + ((U.length + A.length + B.length : Nat) : Int)))).fdiv (2 ^ (min (Int.toNat 1) IntKind.u64.bits))) = (((U.length + (U.length + A.length + B.length)) / 2 : Nat) : Int)) := ⟨half2 (n := U.length + (U.length + A.length + B.length)) (by omega) (by omega)⟩
  generalize hmid : (U.length + (U.length + A.length + B.length)) / 2 = mid at *
  have hm1 : U.length + 1 ≤ mid ∧ mid < U.length + A.length + B.length := by omega
  have en : Fact (wrap64 (wrap64 ((IntKind.u64.wrap (wrap64 ((U.length : Int) + ((U.length + A.length + B.length : Nat) : Int)))).fdiv (2 ^ (min (Int.toNat 1) IntKind.u64.bits))) + ((U.length + A.length : Nat) : Int)) = ((mid + (U.length + A.length) : Nat) : Int)) := by
    refine ⟨?_⟩
    rw [emid.h]
    exact (wrap_eq (by omega) (by omega)).trans (by omega)
  have ep : Fact (wrap64 (wrap64 (wrap64 ((IntKind.u64.wrap (wrap64 ((U.length : Int) + ((U.length + A.length + B.length : Nat) : Int)))).fdiv (2 ^ (min (Int.toNat 1) IntKind.u64.bits))) + ((U.length + A.length : Nat) : Int)) - 1) = ((mid + (U.length + A.length) - 1 : Nat) : Int)) := by
    refine ⟨?_⟩
    rw [en.h]
    exact (wrap_eq (by omega) (by omega)).trans (by omega)
  have es0 : U.length + A.length + B.length ≤ mid + (U.length + A.length) → Fact (wrap64 (wrap64 (wrap64 ((IntKind.u64.wrap (wrap64 ((U.length : Int) + ((U.length + A.length + B.length : Nat) : Int)))).fdiv (2 ^ (min (Int.toNat 1) IntKind.u64.bits))) + ((U.length + A.length : Nat) : Int)) - ((U.length + A.length + B.length : Nat) : Int)) = ((mid + (U.length + A.length) - (U.length + A.length + B.length) : Nat) : Int)) := fun h => by
    refine ⟨?_⟩
    rw [en.h]
    exact (wrap_eq (by omega) (by omega)).trans (by omega)
  have hrowA : ∀ i, U.length ≤ i → i < U.length + A.length → (U ++ A ++ B ++ W).getD i 0 = A.getD (i - U.length) 0 := fun i h1 h2 => by
    rw [List.append_assoc, List.append_assoc, show i = U.length + (i - U.length) by omega, app_get, app_get0 0 (by omega)]
    congr 1
    omega
  have hrowB : ∀ i, U.length + A.length ≤ i → i < U.length + A.length + B.length → (U ++ A ++ B ++ W).getD i 0 = B.getD (i - (U.length + A.length)) 0 := fun i h1 h2 => by
    have hl : (U ++ A).length = U.length + A.length := List.length_append
    rw [List.append_assoc, show i = (U ++ A).length + (i - (U.length + A.length)) by omega, app_get, app_get0 0 (by omega)]
    congr 1
    omega
  have hlen : (U ++ A ++ B ++ W).length = U.length + A.length + B.length + W.length := by simp; omega
  have hmA : ∀ k, k < A.length → A.getD k 0 ∈ A := fun k hk => by
    rw [List.getD_eq_getElem?_getD, List.getElem?_eq_getElem hk]; exact List.getElem_mem hk
  have hmB : ∀ k, k < B.length → B.getD k 0 ∈ B := fun k hk => by
    rw [List.getD_eq_getElem?_getD, List.getElem?_eq_getElem hk]; exact List.getElem_mem hk
  refine Ok.of_ex (F := mk Try.f124 4) Try.func124 rfl rfl tabOk mixed rfl rfl rfl rfl rfl (Nat.le_of_ble_eq_true rfl) (fun _ => Nat.le_of_ble_eq_true rfl) (.go 5000 ?_)
  have fin : ∀ (s0 r0 s : Nat) (zmid zn zp : Int), ((mid < U.length + A.length ∧ s0 = mid + (U.length + A.length) - (U.length + A.length + B.length) ∧ r0 = mid) ∨ (U.length + A.length ≤ mid ∧ s0 = U.length ∧ r0 = U.length + A.length)) →
      zmid = (mid : Int) → zn = ((mid + (U.length + A.length) : Nat) : Int) → s0 ≤ s → s ≤ r0 → (s = s0 ∨ ltP l ((U ++ A ++ B ++ W).getD (mid + (U.length + A.length) - s) 0) ((U ++ A ++ B ++ W).getD (s - 1) 0) = false) → (s = r0 ∨ ltP l ((U ++ A ++ B ++ W).getD (mid + (U.length + A.length) - 1 - s) 0) ((U ++ A ++ B ++ W).getD s 0) = true) →
      Run P (mk Try.f124 4) (fun v s => ∃ M : List Int, (M.Perm (A ++ B) ∧ Ord (ltP l) M) ∧ v = .tup [] ∧ s = stF l (U ++ M ++ W))
      (.loop ⟨[(1, .one (.int .i64 (U.length : Int))), (2, .one (.int .i64 ((U.length + A.length : Nat) : Int))), (3, .one (.int .i64 ((U.length + A.length + B.length : Nat) : Int))), (4, .one (.ptr (.t 4 0) 0)), (16, .one (.int .i64 zmid)), (17, .one (.int .i64 zn)), (18, .one (.int .i64 (s : Int))), (19, .one (.int .i64 (s : Int))), (20, .one (.int .i64 zp))],
      [(.k 0, some (.cells [.lst .mv l false])), (.k 1, some (.cells [.own (.k 3)])), (.k 2, some (.cells [.fn 51 []])), (.k 3, some (.row (.int .i64) (U ++ A ++ B ++ W))), (.t 4 0, some (.cells dataF.atoms))], [.lp [0, 0, 1, 1, 1, 1, 1, 1, 1, 1], .blk 8, .code [1, 1, 1, 1, 1, 1, 1, 1, 1]], none⟩) := by
    intro s0 r0 s zmid zn zp hcase hzm hzn hs0 hr0 hI2 hI3
    subst hzm hzn
    clear emid en ep es0 ea eb
    have hsa : U.length ≤ s ∧ s ≤ U.length + A.length ∧ s ≤ mid ∧ mid + (U.length + A.length) - s ≤ U.length + A.length + B.length := by omega
    have eE : Fact (wrap64 (((mid + (U.length + A.length) : Nat) : Int) - (s : Int)) = ((mid + (U.length + A.length) - s : Nat) : Int)) := ⟨(wrap_eq (by omega) (by omega)).trans (by omega)⟩
    -- the four parts
    have hA12 : A.take (s - U.length) ++ A.drop (s - U.length) = A := List.take_append_drop _ _
    have hB12 : B.take (mid - s) ++ B.drop (mid - s) = B := List.take_append_drop _ _
    have la1 : (A.take (s - U.length)).length = s - U.length := by rw [List.length_take]; omega
    have la2 : (A.drop (s - U.length)).length = U.length + A.length - s := by rw [List.length_drop]; omega
    have lb1 : (B.take (mid - s)).length = mid - s := by rw [List.length_take]; omega
    have lb2 : (B.drop (mid - s)).length = U.length + A.length + B.length - (mid + (U.length + A.length) - s) := by rw [List.length_drop]; omega
    have g1 : 0 < (A.take (s - U.length)).length → 0 < (B.drop (mid - s)).length → Rs (ltP l) ((A.take (s - U.length)).getD ((A.take (s - U.length)).length - 1) 0) ((B.drop (mid - s)).getD 0 0) := by
      intro p1 p2
      have q1 : (A.take (s - U.length)).getD ((A.take (s - U.length)).length - 1) 0 = A.getD (s - 1 - U.length) 0 := by
        rw [la1, take_get (by omega), show s - U.length - 1 = s - 1 - U.length by omega]
      have q2 : (B.drop (mid - s)).getD 0 0 = B.getD (mid + (U.length + A.length) - s - (U.length + A.length)) 0 := by
        simp [List.getD_eq_getElem?_getD, List.getElem?_drop, show mid + (U.length + A.length) - s - (U.length + A.length) = mid - s by omega]
      rw [q1, q2]
      rcases hI2 with h | h
      · exfalso; omega
      · rw [hrowB _ (by omega) (by omega), hrowA _ (by omega) (by omega)] at h
        exact ⟨h, .inr (hlt _ (hmA _ (by omega)) _ (hmB _ (by omega)))⟩
    have g2 : 0 < (B.take (mid - s)).length → 0 < (A.drop (s - U.length)).length → Rs (ltP l) ((B.take (mid - s)).getD ((B.take (mid - s)).length - 1) 0) ((A.drop (s - U.length)).getD 0 0) := by
      intro p1 p2
      have q1 : (B.take (mid - s)).getD ((B.take (mid - s)).length - 1) 0 = B.getD (mid + (U.length + A.length) - 1 - s - (U.length + A.length)) 0 := by
        rw [lb1, take_get (by omega), show mid + (U.length + A.length) - 1 - s - (U.length + A.length) = mid - s - 1 by omega]
      have q2 : (A.drop (s - U.length)).getD 0 0 = A.getD (s - U.length) 0 := by
        simp [List.getD_eq_getElem?_getD, List.getElem?_drop]
      rw [q1, q2]
      rcases hI3 with h | h
      · exfalso; omega
      · rw [hrowB _ (by omega) (by omega), hrowA _ (by omega) (by omega)] at h
        exact ⟨hs.asymm _ _ h, .inl h⟩
    have oA' := oA
    have oB' := oB
    rw [← hA12] at oA'
    rw [← hB12] at oB'
    have hl1 : ∀ x ∈ A.take (s - U.length), ∀ y ∈ B.take (mid - s), x < y := fun x hx y hy => hlt x (List.mem_of_mem_take hx) y (List.mem_of_mem_take hy)
    have hl2 : ∀ x ∈ A.drop (s - U.length), ∀ y ∈ B.drop (mid - s), x < y := fun x hx y hy => hlt x (List.mem_of_mem_drop hx) y (List.mem_of_mem_drop hy)
    have iA1 : InL l.length (A.take (s - U.length)) := fun x hx => iA x (List.mem_of_mem_take hx)
    have iA2 : InL l.length (A.drop (s - U.length)) := fun x hx => iA x (List.mem_of_mem_drop hx)
    have iB1 : InL l.length (B.take (mid - s)) := fun x hx => iB x (List.mem_of_mem_take hx)
    have iB2 : InL l.length (B.drop (mid - s)) := fun x hx => iB x (List.mem_of_mem_drop hx)
    have hrow0 : U ++ A ++ B ++ W = (U ++ A.take (s - U.length)) ++ A.drop (s - U.length) ++ B.take (mid - s) ++ (B.drop (mid - s) ++ W) := by
      conv => lhs; rw [← hA12, ← hB12]
      simp only [List.append_assoc]
    have hperm : (A.take (s - U.length) ++ A.drop (s - U.length) ++ (B.take (mid - s) ++ B.drop (mid - s))) = A ++ B := by rw [hA12, hB12]
    clear hrowA hrowB hmA hmB hI2 hI3 hlt oA oB hA12 hB12
    rw [hrow0]
    rw [← hperm]
    generalize A.take (s - U.length) = A1 at *
    generalize A.drop (s - U.length) = A2 at *
    generalize B.take (mid - s) = B1 at *
    generalize B.drop (mid - s) = B2 at *
    obtain ⟨M1, ⟨p1, o1⟩, k1, n1⟩ := part_ok (l := l) (C := U.length < s ∧ s < mid) (K := fun M1 => Ok P 124 [dataF, .one (.int .i64 (U.length : Int)), .one (.int .i64 (s : Int)), .one (.int .i64 (mid : Int))] (stF l ((U ++ A1) ++ B1 ++ A2 ++ (B2 ++ W))) (.tup []) (stF l ((U ++ M1) ++ A2 ++ B2 ++ W))) (ord_app.1 oA').1 (ord_app.1 oB').1 (fun q1 q2 => by
      obtain ⟨M, h5, h6⟩ := ih U A1 B1 (A2 ++ B2 ++ W) (U.length : Int) (s : Int) (mid : Int) (by omega) q1 q2 iU iA1 iB1 (inl_app (inl_app iA2 iB2) iW) (by rw [List.length_append, List.length_append]; omega) (ord_app.1 oA').1 (ord_app.1 oB').1 hl1 rfl (by omega) (by omega)
      refine ⟨M, h5, ?_⟩
      rw [show (U ++ A1) ++ B1 ++ A2 ++ (B2 ++ W) = U ++ A1 ++ B1 ++ (A2 ++ B2 ++ W) by simp only [List.append_assoc], show (U ++ M) ++ A2 ++ B2 ++ W = U ++ M ++ (A2 ++ B2 ++ W) by simp only [List.append_assoc]]
      exact h6) (by omega)
    have lm1 : M1.length = mid - U.length := by have := p1.length_eq; rw [List.length_append] at this; omega
    have iM1 : InL l.length M1 := inl_perm (inl_app iA1 iB1) p1
    obtain ⟨M2, ⟨p2, o2⟩, k2, n2⟩ := part_ok (l := l) (C := mid < mid + (U.length + A.length) - s ∧ mid + (U.length + A.length) - s < U.length + A.length + B.length) (K := fun M2 => Ok P 124 [dataF, .one (.int .i64 (mid : Int)), .one (.int .i64 (wrap64 (((mid + (U.length + A.length) : Nat) : Int) - (s : Int)))), .one (.int .i64 ((U.length + A.length + B.length : Nat) : Int))] (stF l ((U ++ M1) ++ A2 ++ B2 ++ W)) (.tup []) (stF l (U ++ (M1 ++ M2) ++ W))) (ord_app.1 oA').2.1 (ord_app.1 oB').2.1 (fun q1 q2 => by
      obtain ⟨M, h5, h6⟩ := ih (U ++ M1) A2 B2 W (mid : Int) (wrap64 (((mid + (U.length + A.length) : Nat) : Int) - (s : Int))) ((U.length + A.length + B.length : Nat) : Int) (by omega) q1 q2 (inl_app iU iM1) iA2 iB2 iW (by rw [List.length_append]; omega) (ord_app.1 oA').2.1 (ord_app.1 oB').2.1 hl2 (by rw [List.length_append]; omega) (eE.h.trans (by rw [List.length_append]; omega)) (by rw [List.length_append]; omega)
      refine ⟨M, h5, ?_⟩
      rw [← List.append_assoc U M1 M]
      exact h6) (by omega)
    have hM : (M1 ++ M2).Perm (A1 ++ A2 ++ (B1 ++ B2)) ∧ Ord (ltP l) (M1 ++ M2) := ⟨perm_four p1 p2, ord_four hs oA' oB' p1 p2 o1 o2 g1 g2⟩
    clear ih oA' oB' hl1 hl2 g1 g2 p1 p2 o1 o2 hr hlen hperm hrow0
    have krot : (s < U.length + A.length ∧ U.length + A.length < mid + (U.length + A.length) - s) → Ok P 133 [dataF, .one (.int .i64 (s : Int)), .one (.int .i64 ((U.length + A.length : Nat) : Int)), .one (.int .i64 (wrap64 (((mid + (U.length + A.length) : Nat) : Int) - (s : Int))))] (stF l ((U ++ A1) ++ A2 ++ B1 ++ (B2 ++ W))) (.tup []) (stF l ((U ++ A1) ++ B1 ++ A2 ++ (B2 ++ W))) := fun q =>
      rotate_ok l (U ++ A1) A2 B1 (B2 ++ W) (by omega) (by omega) _ _ _ (by rw [List.length_append]; omega) (by rw [List.length_append]; omega) (eE.h.trans (by rw [List.length_append]; omega)) (by rw [List.length_append, List.length_append]; omega)
    have nrot : ¬ (s < U.length + A.length ∧ U.length + A.length < mid + (U.length + A.length) - s) → (U ++ A1) ++ A2 ++ B1 ++ (B2 ++ W) = (U ++ A1) ++ B1 ++ A2 ++ (B2 ++ W) := fun q => by
      by_cases q2 : A2.length = 0
      · rw [List.eq_nil_of_length_eq_zero q2]; simp
      · rw [List.eq_nil_of_length_eq_zero (show B1.length = 0 by omega)]; simp
    have h12 : ¬ (U.length < s ∧ s < mid) → (U ++ M1) ++ A2 ++ B2 ++ W = (U ++ A1) ++ B1 ++ A2 ++ (B2 ++ W) := fun q => by rw [n1 q]; simp only [List.append_assoc]
    have h23 : ¬ (mid < mid + (U.length + A.length) - s ∧ mid + (U.length + A.length) - s < U.length + A.length + B.length) → (U ++ M1) ++ A2 ++ B2 ++ W = U ++ (M1 ++ M2) ++ W := fun q => by rw [n2 q]; simp only [List.append_assoc]
    clear n1 n2
    by_cases hrot : s < U.length + A.length ∧ U.length + A.length < mid + (U.length + A.length) - s
    · have krot := krot hrot
      clear nrot
      by_cases hc1 : U.length < s ∧ s < mid
      · have k1 := k1 hc1
        by_cases hc2 : mid < mid + (U.length + A.length) - s ∧ mid + (U.length + A.length) - s < U.length + A.length + B.length
        · have k2 := k2 hc2
          refine Run.loop ?_
          repeat' (conv => arg 4; whnf); first | (exfalso; simp only [eE.h] at *; omega) | refine Run.ret ⟨?_, rfl⟩ | refine Run.condT ?_ | refine Run.condf ?_ | refine Run.condD (fun h => ?_) (fun h => ?_) | refine Run.condN (fun h => ?_) (fun h => ?_) | refine Run.condE (fun h => ?_) (fun h => ?_) | refine Run.condF (fun h => ?_) (fun h => ?_) | refine Run.condM (fun h => ?_) (fun h => ?_) | refine Run.condB (fun h => ?_) (fun h => ?_) | refine Run.check1 ?_ | refine Run.call (krot) rfl ?_ | refine Run.call (k1) rfl ?_ | refine Run.call (k2) rfl ?_ | (refine Run.ret ⟨_, hM, rfl, ?_⟩)
          all_goals first | rfl | exact congrArg (stF l) h23 | trace_state
        · have h23 := h23 hc2
          refine Run.loop ?_
          repeat' (conv => arg 4; whnf); first | (exfalso; simp only [eE.h] at *; omega) | refine Run.ret ⟨?_, rfl⟩ | refine Run.condT ?_ | refine Run.condf ?_ | refine Run.condD (fun h => ?_) (fun h => ?_) | refine Run.condN (fun h => ?_) (fun h => ?_) | refine Run.condE (fun h => ?_) (fun h => ?_) | refine Run.condF (fun h => ?_) (fun h => ?_) | refine Run.condM (fun h => ?_) (fun h => ?_) | refine Run.condB (fun h => ?_) (fun h => ?_) | refine Run.check1 ?_ | refine Run.call (krot) rfl ?_ | refine Run.call (k1) rfl ?_ | (refine Run.ret ⟨_, hM, rfl, ?_⟩)
          all_goals first | rfl | exact congrArg (stF l) h23 | trace_state
      · have h12 := h12 hc1
        by_cases hc2 : mid < mid + (U.length + A.length) - s ∧ mid + (U.length + A.length) - s < U.length + A.length + B.length
        · have k2 := k2 hc2
          rw [h12] at k2
          refine Run.loop ?_
          repeat' (conv => arg 4; whnf); first | (exfalso; simp only [eE.h] at *; omega) | refine Run.ret ⟨?_, rfl⟩ | refine Run.condT ?_ | refine Run.condf ?_ | refine Run.condD (fun h => ?_) (fun h => ?_) | refine Run.condN (fun h => ?_) (fun h => ?_) | refine Run.condE (fun h => ?_) (fun h => ?_) | refine Run.condF (fun h => ?_) (fun h => ?_) | refine Run.condM (fun h => ?_) (fun h => ?_) | refine Run.condB (fun h => ?_) (fun h => ?_) | refine Run.check1 ?_ | refine Run.call (krot) rfl ?_ | refine Run.call (k2) rfl ?_ | (refine Run.ret ⟨_, hM, rfl, ?_⟩)
          all_goals first | rfl | exact congrArg (stF l) h23 | trace_state
        · have h23 := h23 hc2
          rw [h12] at h23
          refine Run.loop ?_
          repeat' (conv => arg 4; whnf); first | (exfalso; simp only [eE.h] at *; omega) | refine Run.ret ⟨?_, rfl⟩ | refine Run.condT ?_ | refine Run.condf ?_ | refine Run.condD (fun h => ?_) (fun h => ?_) | refine Run.condN (fun h => ?_) (fun h => ?_) | refine Run.condE (fun h => ?_) (fun h => ?_) | refine Run.condF (fun h => ?_) (fun h => ?_) | refine Run.condM (fun h => ?_) (fun h => ?_) | refine Run.condB (fun h => ?_) (fun h => ?_) | refine Run.check1 ?_ | refine Run.call (krot) rfl ?_ | (refine Run.ret ⟨_, hM, rfl, ?_⟩)
          all_goals first | rfl | exact congrArg (stF l) h23 | trace_state
    · rw [nrot hrot]
      clear nrot krot
      by_cases hc1 : U.length < s ∧ s < mid
      · have k1 := k1 hc1
        by_cases hc2 : mid < mid + (U.length + A.length) - s ∧ mid + (U.length + A.length) - s < U.length + A.length + B.length
        · have k2 := k2 hc2
          refine Run.loop ?_
          repeat' (conv => arg 4; whnf); first | (exfalso; simp only [eE.h] at *; omega) | refine Run.ret ⟨?_, rfl⟩ | refine Run.condT ?_ | refine Run.condf ?_ | refine Run.condD (fun h => ?_) (fun h => ?_) | refine Run.condN (fun h => ?_) (fun h => ?_) | refine Run.condE (fun h => ?_) (fun h => ?_) | refine Run.condF (fun h => ?_) (fun h => ?_) | refine Run.condM (fun h => ?_) (fun h => ?_) | refine Run.condB (fun h => ?_) (fun h => ?_) | refine Run.check1 ?_ | refine Run.call (k1) rfl ?_ | refine Run.call (k2) rfl ?_ | (refine Run.ret ⟨_, hM, rfl, ?_⟩)
          all_goals first | rfl | exact congrArg (stF l) h23 | trace_state
        · have h23 := h23 hc2
          refine Run.loop ?_
          repeat' (conv => arg 4; whnf); first | (exfalso; simp only [eE.h] at *; omega) | refine Run.ret ⟨?_, rfl⟩ | refine Run.condT ?_ | refine Run.condf ?_ | refine Run.condD (fun h => ?_) (fun h => ?_) | refine Run.condN (fun h => ?_) (fun h => ?_) | refine Run.condE (fun h => ?_) (fun h => ?_) | refine Run.condF (fun h => ?_) (fun h => ?_) | refine Run.condM (fun h => ?_) (fun h => ?_) | refine Run.condB (fun h => ?_) (fun h => ?_) | refine Run.check1 ?_ | refine Run.call (k1) rfl ?_ | (refine Run.ret ⟨_, hM, rfl, ?_⟩)
          all_goals first | rfl | exact congrArg (stF l) h23 | trace_state
      · have h12 := h12 hc1
        by_cases hc2 : mid < mid + (U.length + A.length) - s ∧ mid + (U.length + A.length) - s < U.length + A.length + B.length
        · have k2 := k2 hc2
          rw [h12] at k2
          refine Run.loop ?_
          repeat' (conv => arg 4; whnf); first | (exfalso; simp only [eE.h] at *; omega) | refine Run.ret ⟨?_, rfl⟩ | refine Run.condT ?_ | refine Run.condf ?_ | refine Run.condD (fun h => ?_) (fun h => ?_) | refine Run.condN (fun h => ?_) (fun h => ?_) | refine Run.condE (fun h => ?_) (fun h => ?_) | refine Run.condF (fun h => ?_) (fun h => ?_) | refine Run.condM (fun h => ?_) (fun h => ?_) | refine Run.condB (fun h => ?_) (fun h => ?_) | refine Run.check1 ?_ | refine Run.call (k2) rfl ?_ | (refine Run.ret ⟨_, hM, rfl, ?_⟩)
          all_goals first | rfl | exact congrArg (stF l) h23 | trace_state
        · have h23 := h23 hc2
          rw [h12] at h23
          refine Run.loop ?_
          repeat' (conv => arg 4; whnf); first | (exfalso; simp only [eE.h] at *; omega) | refine Run.ret ⟨?_, rfl⟩ | refine Run.condT ?_ | refine Run.condf ?_ | refine Run.condD (fun h => ?_) (fun h => ?_) | refine Run.condN (fun h => ?_) (fun h => ?_) | refine Run.condE (fun h => ?_) (fun h => ?_) | refine Run.condF (fun h => ?_) (fun h => ?_) | refine Run.condM (fun h => ?_) (fun h => ?_) | refine Run.condB (fun h => ?_) (fun h => ?_) | refine Run.check1 ?_ | (refine Run.ret ⟨_, hM, rfl, ?_⟩)
          all_goals first | rfl | exact congrArg (stF l) h23 | trace_state
  have core : ∀ (s0 r0 : Nat) (zmid zn zp : Int), ((mid < U.length + A.length ∧ s0 = mid + (U.length + A.length) - (U.length + A.length + B.length) ∧ r0 = mid) ∨ (U.length + A.length ≤ mid ∧ s0 = U.length ∧ r0 = U.length + A.length)) →
      zmid = (mid : Int) → zn = ((mid + (U.length + A.length) : Nat) : Int) → zp = ((mid + (U.length + A.length) - 1 : Nat) : Int) → ∀ (N2 s r : Nat) (z y : Int), r ≤ s + N2 → z = s → y = r → s0 ≤ s → s ≤ r → r ≤ r0 → (s = s0 ∨ ltP l ((U ++ A ++ B ++ W).getD (mid + (U.length + A.length) - s) 0) ((U ++ A ++ B ++ W).getD (s - 1) 0) = false) → (r = r0 ∨ ltP l ((U ++ A ++ B ++ W).getD (mid + (U.length + A.length) - 1 - r) 0) ((U ++ A ++ B ++ W).getD r 0) = true) →
      Run P (mk Try.f124 4) (fun v s => ∃ M : List Int, (M.Perm (A ++ B) ∧ Ord (ltP l) M) ∧ v = .tup [] ∧ s = stF l (U ++ M ++ W))
      (.loop ⟨[(1, .one (.int .i64 (U.length : Int))), (2, .one (.int .i64 ((U.length + A.length : Nat) : Int))), (3, .one (.int .i64 ((U.length + A.length + B.length : Nat) : Int))), (4, .one (.ptr (.t 4 0) 0)), (16, .one (.int .i64 zmid)), (17, .one (.int .i64 zn)), (18, .one (.int .i64 z)), (19, .one (.int .i64 y)), (20, .one (.int .i64 zp))],
      [(.k 0, some (.cells [.lst .mv l false])), (.k 1, some (.cells [.own (.k 3)])), (.k 2, some (.cells [.fn 51 []])), (.k 3, some (.row (.int .i64) (U ++ A ++ B ++ W))), (.t 4 0, some (.cells dataF.atoms))], [.lp [0, 0, 1, 1, 1, 1, 1, 1, 1, 1], .blk 8, .code [1, 1, 1, 1, 1, 1, 1, 1, 1]], none⟩) := by
    intro s0 r0 zmid zn zp hcase hzm hzn hzp N2
    clear emid en ep es0 ea eb ih
    induction N2 with
    | zero =>
      intro s r z y hN2 hz hy h0 hsr hr0 hI2 hI3
      subst hz hy
      obtain rfl : s = r := by omega
      exact fin s0 r0 s zmid zn zp hcase hzm hzn h0 hr0 hI2 hI3
    | succ N2 ih2 =>
      intro s r z y hN2 hz hy h0 hsr hr0 hI2 hI3
      subst hz hy
      by_cases hlt2 : s < r
      · have eh : Fact (wrap64 ((IntKind.u64.wrap (wrap64 ((s : Int) + (r : Int)))).fdiv (2 ^ (min (Int.toNat 1) IntKind.u64.bits))) = (((s + r) / 2 : Nat) : Int)) := ⟨half2 (n := s + r) (by omega) (by omega)⟩
        have es : Fact (wrap64 (wrap64 ((IntKind.u64.wrap (wrap64 ((s : Int) + (r : Int)))).fdiv (2 ^ (min (Int.toNat 1) IntKind.u64.bits))) + 1) = (((s + r) / 2 + 1 : Nat) : Int)) := by
          refine ⟨?_⟩
          rw [eh.h]
          exact (wrap_eq (by omega) (by omega)).trans (by omega)
        have epc : Fact (wrap64 (zp - wrap64 ((IntKind.u64.wrap (wrap64 ((s : Int) + (r : Int)))).fdiv (2 ^ (min (Int.toNat 1) IntKind.u64.bits)))) = ((mid + (U.length + A.length) - 1 - (s + r) / 2 : Nat) : Int)) := by
          refine ⟨?_⟩
          rw [eh.h, hzp]
          exact (wrap_eq (by omega) (by omega)).trans (by omega)
        have hle := less_ok l _ hr (mid + (U.length + A.length) - 1 - (s + r) / 2) ((s + r) / 2) _ _ epc.h eh.h (by omega) (by omega)
        have i1 := fun h => ih2 ((s + r) / 2 + 1) r _ (r : Int) (by omega) es.h rfl (by omega) (by omega) hr0 (.inr h) hI3
        have i2 := fun h => ih2 s ((s + r) / 2) (s : Int) _ (by omega) rfl eh.h h0 (by omega) (by omega) hI2 (.inr h)
        rw [show mid + (U.length + A.length) - ((s + r) / 2 + 1) = mid + (U.length + A.length) - 1 - (s + r) / 2 by omega, show (s + r) / 2 + 1 - 1 = (s + r) / 2 by omega] at i1
        clear ih2 fin es eh epc
        refine Run.loop ?_
        repeat' (conv => arg 4; whnf); first | refine Run.ret ⟨?_, rfl⟩ | refine Run.condT ?_ | refine Run.condf ?_ | refine Run.condD (fun h => ?_) (fun h => ?_) | refine Run.condN (fun h => ?_) (fun h => ?_) | refine Run.condE (fun h => ?_) (fun h => ?_) | refine Run.condF (fun h => ?_) (fun h => ?_) | refine Run.condM (fun h => ?_) (fun h => ?_) | refine Run.condB (fun h => ?_) (fun h => ?_) | refine Run.check1 ?_ | (exfalso; omega) | refine Run.call (hle) rfl ?_ | (refine Run.need1 (by simp only [allP]; omega) ?_) | refine Run.round ⟨[(.t 4 0, .t 4 0)], [], []⟩ (i1 (by assumption)) rfl (by (repeat' (first | exact wkEnv_nil | refine wkEnv_cons rfl ?_ | exact wkSto_nil | refine wkSto_none ?_ | refine wkSto_some rfl ?_)); done) (by (repeat' (first | exact wkEnv_nil | refine wkEnv_cons rfl ?_ | exact wkSto_nil | refine wkSto_none ?_ | refine wkSto_some rfl ?_)); done) | refine Run.round ⟨[(.t 4 0, .t 4 0)], [], []⟩ (i2 (by assumption)) rfl (by (repeat' (first | exact wkEnv_nil | refine wkEnv_cons rfl ?_ | exact wkSto_nil | refine wkSto_none ?_ | refine wkSto_some rfl ?_)); done) (by (repeat' (first | exact wkEnv_nil | refine wkEnv_cons rfl ?_ | exact wkSto_nil | refine wkSto_none ?_ | refine wkSto_some rfl ?_)); done)
        all_goals trace_state
      · obtain rfl : s = r := by omega
        exact fin s0 r0 s zmid zn zp hcase hzm hzn h0 hr0 hI2 hI3
  clear fin
  by_cases hmm : mid < U.length + A.length
  · have c1 := core (mid + (U.length + A.length) - (U.length + A.length + B.length)) mid _ _ _ (.inl ⟨hmm, rfl, rfl⟩) emid.h en.h ep.h mid (mid + (U.length + A.length) - (U.length + A.length + B.length)) mid _ _ (by omega) (es0 (by omega)).h emid.h (Nat.le_refl _) (by omega) (Nat.le_refl _) (.inl rfl) (.inl rfl)
    clear core
    repeat' (conv => arg 4; whnf); first | (exact absurd (ea.h.symm.trans (by assumption)) (by omega)) | (exact absurd (eb.h.symm.trans (by assumption)) (by omega)) | (exfalso; simp only [emid.h] at *; omega) | refine Run.condD (fun h => ?_) (fun h => ?_) | refine Run.ret ⟨?_, rfl⟩ | refine Run.condT ?_ | refine Run.condf ?_ | refine Run.condD (fun h => ?_) (fun h => ?_) | refine Run.condN (fun h => ?_) (fun h => ?_) | refine Run.condE (fun h => ?_) (fun h => ?_) | refine Run.condF (fun h => ?_) (fun h => ?_) | refine Run.condM (fun h => ?_) (fun h => ?_) | refine Run.condB (fun h => ?_) (fun h => ?_) | refine Run.check1 ?_ | (refine Run.need1 (by simp only [allP]; omega) ?_) | refine Run.round ⟨[(.t 4 0, .t 4 0)], [], []⟩ (c1) rfl (by (repeat' (first | exact wkEnv_nil | refine wkEnv_cons rfl ?_ | exact wkSto_nil | refine wkSto_none ?_ | refine wkSto_some rfl ?_)); done) (by (repeat' (first | exact wkEnv_nil | refine wkEnv_cons rfl ?_ | exact wkSto_nil | refine wkSto_none ?_ | refine wkSto_some rfl ?_)); done)
    all_goals trace_state
  · have c1 := core U.length (U.length + A.length) _ _ _ (.inr ⟨by omega, rfl, rfl⟩) emid.h en.h ep.h (U.length + A.length) U.length (U.length + A.length) _ _ (by omega) rfl rfl (Nat.le_refl _) (by omega) (Nat.le_refl _) (.inl rfl) (.inl rfl)
    clear core
    repeat' (conv => arg 4; whnf); first | (exact absurd (ea.h.symm.trans (by assumption)) (by omega)) | (exact absurd (eb.h.symm.trans (by assumption)) (by omega)) | (exfalso; simp only [emid.h] at *; omega) | refine Run.condD (fun h => ?_) (fun h => ?_) | refine Run.ret ⟨?_, rfl⟩ | refine Run.condT ?_ | refine Run.condf ?_ | refine Run.condD (fun h => ?_) (fun h => ?_) | refine Run.condN (fun h => ?_) (fun h => ?_) | refine Run.condE (fun h => ?_) (fun h => ?_) | refine Run.condF (fun h => ?_) (fun h => ?_) | refine Run.condM (fun h => ?_) (fun h => ?_) | refine Run.condB (fun h => ?_) (fun h => ?_) | refine Run.check1 ?_ | (refine Run.need1 (by simp only [allP]; omega) ?_) | refine Run.round ⟨[(.t 4 0, .t 4 0)], [], []⟩ (c1) rfl (by (repeat' (first | exact wkEnv_nil | refine wkEnv_cons rfl ?_ | exact wkSto_nil | refine wkSto_none ?_ | refine wkSto_some rfl ?_)); done) (by (repeat' (first | exact wkEnv_nil | refine wkEnv_cons rfl ?_ | exact wkSto_nil | refine wkSto_none ?_ | refine wkSto_some rfl ?_)); done)
    all_goals trace_state
end Go.Proofs.Ytmppoajepbbmiaa.AM

/- StripFirst of the program, any number of moves: the library's stable sort; condition: at most 1048576 moves. -/
namespace Go.Proofs.Ytmppoajepbbmiaa.AM
open Go.AM Go.RowKit
set_option linter.unusedVariables false
set_option linter.unusedSimpArgs false
set_option maxRecDepth 100000

theorem upTo_mem {n : Nat} {x : Int} (h : x ∈ upTo n) : 0 ≤ x ∧ x < n := by
  obtain ⟨i, hi, rfl⟩ := List.mem_map.1 h
  have := List.mem_range.1 hi
  omega
theorem upTo_part {n a k : Nat} {x : Int} (h : x ∈ ((upTo n).drop a).take k) : (a : Int) ≤ x ∧ x < (a : Int) + k ∧ x < n := by
  obtain ⟨j, hj, rfl⟩ := List.getElem_of_mem h
  rw [List.length_take, List.length_drop, upTo_len] at hj
  have h1 : a + j < n := by omega
  have e : (((upTo n).drop a).take k)[j]'(by rw [List.length_take, List.length_drop, upTo_len]; omega) = ((a + j : Nat) : Int) := by
    rw [List.getElem_take, List.getElem_drop]
    simp [upTo]
  rw [e]
  omega
theorem upTo_part_asc (n a k : Nat) : (((upTo n).drop a).take k).Pairwise (· < ·) := List.Pairwise.sublist ((List.take_sublist _ _).trans (List.drop_sublist _ _)) (upTo_asc n)
theorem isort_all {lt : Int → Int → Bool} {ys : List Int} : (isort lt 0 ys ys.length).Perm ys := by
  have := isort_perm (lt := lt) (d := 0) (xs := ys) (n := ys.length) (Nat.le_refl _)
  rwa [List.take_length] at this
set_option maxHeartbeats 16000000 in
theorem stable_ok (l : List Mv) (h2 : 2 ≤ l.length) (hL : l.length ≤ 1048576) (zn : Int) (hzn : zn = l.length) : Ok P 94 [dataF, .one (.int .i64 zn)] (stF l (upTo l.length)) (.tup []) (stF l (firstM l)) := by
  subst hzn
  have hs : Srt (ltP l) := lessM_srt (fun a : Int => at' l a.toNat)
  have inl : ∀ {r : List Int}, r.Perm (upTo l.length) → InL l.length r := fun hp x hx => upTo_mem (hp.mem_iff.1 hx)
  generalize hn : l.length = n at *
  refine Ok.of_run (F := mk Try.f94 4) Try.func94 rfl rfl tabOk mixed rfl rfl rfl rfl rfl (Nat.le_of_ble_eq_true rfl) (Nat.le_of_ble_eq_true rfl) (.go 5000 ?_)
  -- blocks, two by two, ever longer ones
  have big : ∀ (N bs : Nat) (z : Int) (row : List Int), n ≤ bs + N → z = (bs : Int) → 1 ≤ bs → bs ≤ 2097152 → Bl (ltP l) bs 0 row → row.Perm (upTo n) → Run P (mk Try.f94 4) (fun v s => v = .tup [] ∧ s = stF l (firstM l))
      (.loop ⟨[(1, .one (.int .i64 (n : Int))), (2, .one (.ptr (.t 2 0) 0)), (4, .one (.int .i64 z))],
      [(.k 0, some (.cells [.lst .mv l false])), (.k 1, some (.cells [.own (.k 3)])), (.k 2, some (.cells [.fn 51 []])), (.k 3, some (.row (.int .i64) row)), (.t 2 0, some (.cells dataF.atoms))], [.lp [0, 1, 1, 1, 1, 1], .blk 2], none⟩) := by
    have fin : ∀ (bs : Nat) (row : List Int), n ≤ bs → 1 ≤ bs → Bl (ltP l) bs 0 row → row.Perm (upTo n) → row = firstM l := fun bs row h1 h0 hbl hp => by
      have hl : row.length = n := by rw [hp.length_eq, upTo_len]
      refine ord_unique (bl_one hbl (by omega) h0).1 (firstM_ordR l) (hp.trans ?_)
      have := firstM_perm l
      rw [hn] at this
      exact this.symm
    intro N
    induction N with
    | zero =>
      intro bs z row hN hz hb1 hb2 hbl hp
      subst hz
      have hrow := fin bs row (by omega) hb1 hbl hp
      subst hrow
      refine Run.loop ?_
      repeat' (conv => arg 4; whnf); first | (exfalso; omega) | refine Run.condD (fun h => ?_) (fun h => ?_) | refine Run.ret ⟨?_, rfl⟩ | refine Run.condT ?_ | refine Run.condf ?_ | refine Run.condD (fun h => ?_) (fun h => ?_) | refine Run.condN (fun h => ?_) (fun h => ?_) | refine Run.condE (fun h => ?_) (fun h => ?_) | refine Run.condF (fun h => ?_) (fun h => ?_) | refine Run.condM (fun h => ?_) (fun h => ?_) | refine Run.condB (fun h => ?_) (fun h => ?_) | refine Run.check1 ?_
      all_goals first | rfl | (exfalso; omega) | trace_state
    | succ N ih =>
      intro bs z row hN hz hb1 hb2 hbl hp
      subst hz
      by_cases hlt : bs < n
      · have e2 : Fact (wrap64 (2 * (bs : Int)) = ((0 + 2 * bs : Nat) : Int)) := ⟨(wrap_eq (by omega) (by omega)).trans (by omega)⟩
        have e2b : Fact (wrap64 ((bs : Int) * 2) = ((2 * bs : Nat) : Int)) := ⟨(wrap_eq (by omega) (by omega)).trans (by omega)⟩
        have inner : ∀ (N2 a : Nat) (X Y : List Int) (z y : Int) (row : List Int), n ≤ a + N2 → z = (a : Int) → y = ((a + 2 * bs : Nat) : Int) → a ≤ n → row = X ++ Y → X.length = a → (∀ Y', Bl (ltP l) (2 * bs) a Y' → Bl (ltP l) (2 * bs) 0 (X ++ Y')) → Bl (ltP l) bs a Y → row.Perm (upTo n) → Run P (mk Try.f94 4) (fun v s => v = .tup [] ∧ s = stF l (firstM l))
            (.loop ⟨[(1, .one (.int .i64 (n : Int))), (2, .one (.ptr (.t 2 0) 0)), (4, .one (.int .i64 (bs : Int))), (5, .one (.int .i64 z)), (6, .one (.int .i64 y))],
            [(.k 0, some (.cells [.lst .mv l false])), (.k 1, some (.cells [.own (.k 3)])), (.k 2, some (.cells [.fn 51 []])), (.k 3, some (.row (.int .i64) row)), (.t 2 0, some (.cells dataF.atoms))], [.lp [0, 0, 1, 0, 1, 0, 0, 1, 1, 1, 1, 1], .blk 4, .code [1, 1, 0, 1, 0, 0, 1, 1, 1, 1, 1], .blk 3, .lp [0, 1, 1, 1, 1, 1], .blk 2], none⟩) := by
          intro N2
          have out : ∀ (a : Nat) (X Y : List Int) (z y : Int) (row : List Int), z = (a : Int) → y = ((a + 2 * bs : Nat) : Int) → n < a + 2 * bs → a ≤ n → row = X ++ Y → X.length = a → (∀ Y', Bl (ltP l) (2 * bs) a Y' → Bl (ltP l) (2 * bs) 0 (X ++ Y')) → Bl (ltP l) bs a Y → row.Perm (upTo n) → Run P (mk Try.f94 4) (fun v s => v = .tup [] ∧ s = stF l (firstM l))
            (.loop ⟨[(1, .one (.int .i64 (n : Int))), (2, .one (.ptr (.t 2 0) 0)), (4, .one (.int .i64 (bs : Int))), (5, .one (.int .i64 z)), (6, .one (.int .i64 y))],
            [(.k 0, some (.cells [.lst .mv l false])), (.k 1, some (.cells [.own (.k 3)])), (.k 2, some (.cells [.fn 51 []])), (.k 3, some (.row (.int .i64) row)), (.t 2 0, some (.cells dataF.atoms))], [.lp [0, 0, 1, 0, 1, 0, 0, 1, 1, 1, 1, 1], .blk 4, .code [1, 1, 0, 1, 0, 0, 1, 1, 1, 1, 1], .blk 3, .lp [0, 1, 1, 1, 1, 1], .blk 2], none⟩) := by
            intro a X Y z y row hz hy ha han hrow hX hXY hY hp
            subst hz hy
            have em : Fact (wrap64 ((a : Int) + (bs : Int)) = ((a + bs : Nat) : Int)) := ⟨(wrap_eq (by omega) (by omega)).trans (by omega)⟩
            have hrl : row.length = n := by rw [hp.length_eq, upTo_len]
            have hyl : Y.length = n - a := by rw [hrow, List.length_append] at hrl; omega
            by_cases hmn : a + bs < n
            · obtain ⟨A, R, rfl, hA, oA, rA, hR⟩ := bl_first hY (by omega)
              rw [List.length_append] at hyl
              obtain ⟨oR, rR⟩ := bl_one hR (by omega) hb1
              have hin := inl hp
              rw [hrow] at hin
              obtain ⟨M, ⟨pM, oM⟩, hM⟩ := symM_ok l (A.length + R.length) X A R [] (a : Int) (wrap64 ((a : Int) + (bs : Int))) (n : Int) (Nat.le_refl _) (by omega) (by omega) (inl_l (hn.symm ▸ hin)) (inl_l (inl_r (hn.symm ▸ hin))) (inl_r (inl_r (hn.symm ▸ hin))) (fun x hx => by cases hx) (by rw [List.length_nil]; omega) oA oR (fun x hx y hy => by have := (rA x hx).2; have := rR y hy; omega) (by omega) (em.h.trans (by omega)) (by omega)
              have lM : M.length = A.length + R.length := by rw [pM.length_eq, List.length_append]
              have hrow' : row = X ++ A ++ R ++ [] := by rw [hrow]; simp
              rw [← hrow'] at hM
              have hp' : (X ++ M ++ []).Perm (upTo n) := by
                refine List.Perm.trans ?_ hp
                rw [hrow, List.append_nil]
                exact List.Perm.append_left X pM
              have hb' : Bl (ltP l) (2 * bs) 0 (X ++ M ++ []) := by
                rw [List.append_nil]
                refine hXY M (.last a M (by omega) oM fun x hx => ?_)
                rcases List.mem_append.1 (pM.mem_iff.1 hx) with q | q
                · exact (rA x q).1
                · have := rR x q; omega
              have ih' := ih (2 * bs) _ (X ++ M ++ []) (by omega) e2b.h (by omega) (by omega) hb' hp'
              clear ih
              refine Run.loop ?_
              repeat' (conv => arg 4; whnf); first | (exfalso; simp only [em.h] at *; omega) | refine Run.condD (fun h => ?_) (fun h => ?_) | refine Run.ret ⟨?_, rfl⟩ | refine Run.condT ?_ | refine Run.condf ?_ | refine Run.condD (fun h => ?_) (fun h => ?_) | refine Run.condN (fun h => ?_) (fun h => ?_) | refine Run.condE (fun h => ?_) (fun h => ?_) | refine Run.condF (fun h => ?_) (fun h => ?_) | refine Run.condM (fun h => ?_) (fun h => ?_) | refine Run.condB (fun h => ?_) (fun h => ?_) | refine Run.check1 ?_ | refine Run.call (hM) rfl ?_ | refine Run.round ⟨[(.t 2 0, .t 2 0)], [], []⟩ (ih') rfl (by (repeat' (first | exact wkEnv_nil | refine wkEnv_cons rfl ?_ | exact wkSto_nil | refine wkSto_none ?_ | refine wkSto_some rfl ?_)); done) (by (repeat' (first | exact wkEnv_nil | refine wkEnv_cons rfl ?_ | exact wkSto_nil | refine wkSto_none ?_ | refine wkSto_some rfl ?_)); done)
              all_goals trace_state
            · have hb' : Bl (ltP l) (2 * bs) 0 row := by
                rw [hrow]
                obtain ⟨oY, rY⟩ := bl_one hY (by omega) hb1
                exact hXY Y (.last a Y (by omega) oY rY)
              have ih' := ih (2 * bs) _ row (by omega) e2b.h (by omega) (by omega) hb' hp
              clear ih
              refine Run.loop ?_
              repeat' (conv => arg 4; whnf); first | (exfalso; simp only [em.h] at *; omega) | refine Run.condD (fun h => ?_) (fun h => ?_) | refine Run.ret ⟨?_, rfl⟩ | refine Run.condT ?_ | refine Run.condf ?_ | refine Run.condD (fun h => ?_) (fun h => ?_) | refine Run.condN (fun h => ?_) (fun h => ?_) | refine Run.condE (fun h => ?_) (fun h => ?_) | refine Run.condF (fun h => ?_) (fun h => ?_) | refine Run.condM (fun h => ?_) (fun h => ?_) | refine Run.condB (fun h => ?_) (fun h => ?_) | refine Run.check1 ?_ | refine Run.round ⟨[(.t 2 0, .t 2 0)], [], []⟩ (ih') rfl (by (repeat' (first | exact wkEnv_nil | refine wkEnv_cons rfl ?_ | exact wkSto_nil | refine wkSto_none ?_ | refine wkSto_some rfl ?_)); done) (by (repeat' (first | exact wkEnv_nil | refine wkEnv_cons rfl ?_ | exact wkSto_nil | refine wkSto_none ?_ | refine wkSto_some rfl ?_)); done)
              all_goals trace_state
          induction N2 with
          | zero =>
            intro a X Y z y row hN2 hz hy han hrow hX hXY hY hp
            exact out a X Y z y row hz hy (by omega) han hrow hX hXY hY hp
          | succ N2 ih2 =>
            intro a X Y z y row hN2 hz hy han hrow hX hXY hY hp
            by_cases ha : a + 2 * bs ≤ n
            · subst hz hy
              have em : Fact (wrap64 ((a : Int) + (bs : Int)) = ((a + bs : Nat) : Int)) := ⟨(wrap_eq (by omega) (by omega)).trans (by omega)⟩
              have en : Fact (wrap64 (((a + 2 * bs : Nat) : Int) + wrap64 (2 * (bs : Int))) = ((a + 2 * bs + 2 * bs : Nat) : Int)) := by
                refine ⟨?_⟩
                rw [e2.h]
                exact (wrap_eq (by omega) (by omega)).trans (by omega)
              have hrl : row.length = n := by rw [hp.length_eq, upTo_len]
              have hyl : Y.length = n - a := by rw [hrow, List.length_append] at hrl; omega
              obtain ⟨A, R, rfl, hA, oA, rA, hR⟩ := bl_first hY (by omega)
              rw [List.length_append] at hyl
              obtain ⟨B, R', rfl, hB, oB, rB, hR'⟩ := bl_first' hR (by omega) hb1
              rw [List.length_append] at hyl
              have hin := inl hp
              rw [hrow] at hin
              have hin' : InL l.length (X ++ (A ++ (B ++ R'))) := hn.symm ▸ hin
              have rB2 : ∀ x ∈ B, x < (a : Int) + (2 * bs : Nat) := fun x hx => by
                rcases hR' with h | h
                · have := (hin x (List.mem_append_right _ (List.mem_append_right _ (List.mem_append_left _ hx)))).2
                  rw [h, List.length_nil] at hyl
                  omega
                · have := h.1 x hx; omega
              have hR2 : Bl (ltP l) bs (a + 2 * bs) R' := by
                rcases hR' with h | h
                · rw [h]; exact .nil _
                · have := h.2; rwa [show a + bs + bs = a + 2 * bs by omega] at this
              obtain ⟨M, ⟨pM, oM⟩, hM⟩ := symM_ok l (A.length + B.length) X A B R' (a : Int) (wrap64 ((a : Int) + (bs : Int))) ((a + 2 * bs : Nat) : Int) (Nat.le_refl _) (by omega) (by omega) (inl_l hin') (inl_l (inl_r hin')) (inl_l (inl_r (inl_r hin'))) (inl_r (inl_r (inl_r hin'))) (by omega) oA oB (fun x hx y hy => by have := (rA x hx).2; have := rB y hy; omega) (by omega) (em.h.trans (by omega)) (by omega)
              have lM : M.length = A.length + B.length := by rw [pM.length_eq, List.length_append]
              have hrow' : row = X ++ A ++ B ++ R' := by rw [hrow]; simp only [List.append_assoc]
              rw [← hrow'] at hM
              have hp' : (X ++ M ++ R').Perm (upTo n) := by
                refine List.Perm.trans ?_ hp
                rw [hrow, List.append_assoc, ← List.append_assoc A]
                exact List.Perm.append_left X (List.Perm.append_right R' pM)
              have ih' := ih2 (a + 2 * bs) (X ++ M) R' _ _ (X ++ M ++ R') (by omega) rfl en.h ha rfl (by rw [List.length_append]; omega) (fun Y' hY' => by
                rw [List.append_assoc]
                refine hXY _ (.cons a M Y' (by omega) oM (fun x hx => ?_) hY')
                rcases List.mem_append.1 (pM.mem_iff.1 hx) with q | q
                · have := rA x q; omega
                · have := rB x q; have := rB2 x q; omega) hR2 hp'
              clear ih ih2 out
              refine Run.loop ?_
              repeat' (conv => arg 4; whnf); first | (exfalso; omega) | refine Run.condD (fun h => ?_) (fun h => ?_) | refine Run.ret ⟨?_, rfl⟩ | refine Run.condT ?_ | refine Run.condf ?_ | refine Run.condD (fun h => ?_) (fun h => ?_) | refine Run.condN (fun h => ?_) (fun h => ?_) | refine Run.condE (fun h => ?_) (fun h => ?_) | refine Run.condF (fun h => ?_) (fun h => ?_) | refine Run.condM (fun h => ?_) (fun h => ?_) | refine Run.condB (fun h => ?_) (fun h => ?_) | refine Run.check1 ?_ | refine Run.call (hM) rfl ?_ | refine Run.round ⟨[(.t 2 0, .t 2 0)], [], []⟩ (ih') rfl (by (repeat' (first | exact wkEnv_nil | refine wkEnv_cons rfl ?_ | exact wkSto_nil | refine wkSto_none ?_ | refine wkSto_some rfl ?_)); done) (by (repeat' (first | exact wkEnv_nil | refine wkEnv_cons rfl ?_ | exact wkSto_nil | refine wkSto_none ?_ | refine wkSto_some rfl ?_)); done)
              all_goals trace_state
            · exact out a X Y z y row hz hy (by omega) han hrow hX hXY hY hp
        have i0 := inner n 0 [] row 0 _ row (by omega) rfl e2.h (by omega) rfl rfl (fun Y' h => h) hbl hp
        clear inner ih
        refine Run.loop ?_
        repeat' (conv => arg 4; whnf); first | (exfalso; omega) | refine Run.condD (fun h => ?_) (fun h => ?_) | refine Run.ret ⟨?_, rfl⟩ | refine Run.condT ?_ | refine Run.condf ?_ | refine Run.condD (fun h => ?_) (fun h => ?_) | refine Run.condN (fun h => ?_) (fun h => ?_) | refine Run.condE (fun h => ?_) (fun h => ?_) | refine Run.condF (fun h => ?_) (fun h => ?_) | refine Run.condM (fun h => ?_) (fun h => ?_) | refine Run.condB (fun h => ?_) (fun h => ?_) | refine Run.check1 ?_ | refine Run.round ⟨[(.t 2 0, .t 2 0)], [], []⟩ (i0) rfl (by (repeat' (first | exact wkEnv_nil | refine wkEnv_cons rfl ?_ | exact wkSto_nil | refine wkSto_none ?_ | refine wkSto_some rfl ?_)); done) (by (repeat' (first | exact wkEnv_nil | refine wkEnv_cons rfl ?_ | exact wkSto_nil | refine wkSto_none ?_ | refine wkSto_some rfl ?_)); done)
        all_goals trace_state
      · have hrow := fin bs row (by omega) hb1 hbl hp
        subst hrow
        refine Run.loop ?_
        repeat' (conv => arg 4; whnf); first | (exfalso; omega) | refine Run.condD (fun h => ?_) (fun h => ?_) | refine Run.ret ⟨?_, rfl⟩ | refine Run.condT ?_ | refine Run.condf ?_ | refine Run.condD (fun h => ?_) (fun h => ?_) | refine Run.condN (fun h => ?_) (fun h => ?_) | refine Run.condE (fun h => ?_) (fun h => ?_) | refine Run.condF (fun h => ?_) (fun h => ?_) | refine Run.condM (fun h => ?_) (fun h => ?_) | refine Run.condB (fun h => ?_) (fun h => ?_) | refine Run.check1 ?_
        all_goals first | rfl | (exfalso; omega) | trace_state
  -- blocks of twenty
  have small : ∀ (N a : Nat) (X : List Int) (z y : Int) (row : List Int), n ≤ a + N → z = (a : Int) → y = ((a + 20 : Nat) : Int) → a ≤ n → row = X ++ (upTo n).drop a → X.length = a → X.Perm ((upTo n).take a) → (∀ Y', Bl (ltP l) 20 a Y' → Bl (ltP l) 20 0 (X ++ Y')) → Run P (mk Try.f94 4) (fun v s => v = .tup [] ∧ s = stF l (firstM l))
      (.loop ⟨[(1, .one (.int .i64 (n : Int))), (2, .one (.ptr (.t 2 0) 0)), (4, .one (.int .i64 20)), (5, .one (.int .i64 z)), (6, .one (.int .i64 y))],
      [(.k 0, some (.cells [.lst .mv l false])), (.k 1, some (.cells [.own (.k 3)])), (.k 2, some (.cells [.fn 51 []])), (.k 3, some (.row (.int .i64) row)), (.t 2 0, some (.cells dataF.atoms))], [.lp [0, 0, 1, 1, 1], .blk 0, .code [1, 1, 1, 1]], none⟩) := by
    have out : ∀ (a : Nat) (X : List Int) (z y : Int) (row : List Int), z = (a : Int) → y = ((a + 20 : Nat) : Int) → n < a + 20 → a ≤ n → row = X ++ (upTo n).drop a → X.length = a → X.Perm ((upTo n).take a) → (∀ Y', Bl (ltP l) 20 a Y' → Bl (ltP l) 20 0 (X ++ Y')) → Run P (mk Try.f94 4) (fun v s => v = .tup [] ∧ s = stF l (firstM l))
      (.loop ⟨[(1, .one (.int .i64 (n : Int))), (2, .one (.ptr (.t 2 0) 0)), (4, .one (.int .i64 20)), (5, .one (.int .i64 z)), (6, .one (.int .i64 y))],
      [(.k 0, some (.cells [.lst .mv l false])), (.k 1, some (.cells [.own (.k 3)])), (.k 2, some (.cells [.fn 51 []])), (.k 3, some (.row (.int .i64) row)), (.t 2 0, some (.cells dataF.atoms))], [.lp [0, 0, 1, 1, 1], .blk 0, .code [1, 1, 1, 1]], none⟩) := by
      intro a X z y row hz hy ha han hrow hX pX hXY
      subst hz hy
      by_cases hq : a = n
      · subst hq
        have hd : (upTo a).drop a = [] := List.drop_of_length_le (by rw [upTo_len]; exact Nat.le_refl _)
        rw [hd, List.append_nil] at hrow
        subst hrow
        rw [List.take_of_length_le (by rw [upTo_len]; exact Nat.le_refl _)] at pX
        have hb' := hXY [] (.nil _)
        rw [List.append_nil] at hb'
        have g0 := insG0_ok l row (a : Int) (by omega)
        have i0 := big a 20 20 row (by omega) rfl (by omega) (by omega) hb' pX
        clear big
        refine Run.loop ?_
        repeat' (conv => arg 4; whnf); first | (exfalso; omega) | refine Run.condD (fun h => ?_) (fun h => ?_) | refine Run.ret ⟨?_, rfl⟩ | refine Run.condT ?_ | refine Run.condf ?_ | refine Run.condD (fun h => ?_) (fun h => ?_) | refine Run.condN (fun h => ?_) (fun h => ?_) | refine Run.condE (fun h => ?_) (fun h => ?_) | refine Run.condF (fun h => ?_) (fun h => ?_) | refine Run.condM (fun h => ?_) (fun h => ?_) | refine Run.condB (fun h => ?_) (fun h => ?_) | refine Run.check1 ?_ | refine Run.call (g0) rfl ?_ | refine Run.round ⟨[(.t 2 0, .t 2 0)], [], []⟩ (i0) rfl (by (repeat' (first | exact wkEnv_nil | refine wkEnv_cons rfl ?_ | exact wkSto_nil | refine wkSto_none ?_ | refine wkSto_some rfl ?_)); done) (by (repeat' (first | exact wkEnv_nil | refine wkEnv_cons rfl ?_ | exact wkSto_nil | refine wkSto_none ?_ | refine wkSto_some rfl ?_)); done)
        all_goals trace_state
      · have hl : ((upTo n).drop a).length = n - a := by rw [List.length_drop, upTo_len]
        have htk : ((upTo n).drop a).take (n - a) = (upTo n).drop a := List.take_of_length_le (by omega)
        have hin : InL l.length (X ++ (upTo n).drop a ++ []) := by
          rw [List.append_nil]
          refine hn.symm ▸ inl_app (fun x hx => ?_) (fun x hx => upTo_mem (List.mem_of_mem_drop hx))
          exact upTo_mem (List.mem_of_mem_take (pX.mem_iff.1 hx))
        have g0 := insG_ok l X ((upTo n).drop a) [] hin (by rw [List.length_nil]; omega) (by omega) (a : Int) (n : Int) (by omega) (by omega)
        have hrow' : row = X ++ (upTo n).drop a ++ [] := by rw [hrow]; simp
        rw [← hrow'] at g0
        have hp' : (X ++ isort (ltP l) 0 ((upTo n).drop a) ((upTo n).drop a).length ++ []).Perm (upTo n) := by
          rw [List.append_nil]
          have := pX.append (isort_all (lt := ltP l) (ys := (upTo n).drop a))
          rwa [List.take_append_drop] at this
        have hb' : Bl (ltP l) 20 0 (X ++ isort (ltP l) 0 ((upTo n).drop a) ((upTo n).drop a).length ++ []) := by
          rw [List.append_nil]
          refine hXY _ (.last a _ (by rw [isort_len]; omega) (isort_ord hs (by rw [← htk]; exact upTo_part_asc n a (n - a)) _ (Nat.le_refl _)) fun x hx => ?_)
          have := isort_all.mem_iff.1 hx
          rw [← htk] at this
          exact (upTo_part this).1
        have i0 := big n 20 20 _ (by omega) rfl (by omega) (by omega) hb' hp'
        clear big
        refine Run.loop ?_
        repeat' (conv => arg 4; whnf); first | (exfalso; omega) | refine Run.condD (fun h => ?_) (fun h => ?_) | refine Run.ret ⟨?_, rfl⟩ | refine Run.condT ?_ | refine Run.condf ?_ | refine Run.condD (fun h => ?_) (fun h => ?_) | refine Run.condN (fun h => ?_) (fun h => ?_) | refine Run.condE (fun h => ?_) (fun h => ?_) | refine Run.condF (fun h => ?_) (fun h => ?_) | refine Run.condM (fun h => ?_) (fun h => ?_) | refine Run.condB (fun h => ?_) (fun h => ?_) | refine Run.check1 ?_ | refine Run.call (g0) rfl ?_ | refine Run.round ⟨[(.t 2 0, .t 2 0)], [], []⟩ (i0) rfl (by (repeat' (first | exact wkEnv_nil | refine wkEnv_cons rfl ?_ | exact wkSto_nil | refine wkSto_none ?_ | refine wkSto_some rfl ?_)); done) (by (repeat' (first | exact wkEnv_nil | refine wkEnv_cons rfl ?_ | exact wkSto_nil | refine wkSto_none ?_ | refine wkSto_some rfl ?_)); done)
        all_goals trace_state
    intro N
    induction N with
    | zero =>
      intro a X z y row hN hz hy han hrow hX pX hXY
      exact out a X z y row hz hy (by omega) han hrow hX pX hXY
    | succ N ih =>
      intro a X z y row hN hz hy han hrow hX pX hXY
      by_cases ha : a + 20 ≤ n
      · subst hz hy
        have en : Fact (wrap64 (((a + 20 : Nat) : Int) + 20) = ((a + 20 + 20 : Nat) : Int)) := ⟨(wrap_eq (by omega) (by omega)).trans (by omega)⟩
        have hl : (((upTo n).drop a).take 20).length = 20 := by rw [List.length_take, List.length_drop, upTo_len]; omega
        have hdd : ((upTo n).drop a).drop 20 = (upTo n).drop (a + 20) := by rw [List.drop_drop]
        have hsp : X ++ (upTo n).drop a = X ++ ((upTo n).drop a).take 20 ++ (upTo n).drop (a + 20) := by
          rw [← hdd, List.append_assoc, List.take_append_drop]
        have hwl : ((upTo n).drop (a + 20)).length = n - (a + 20) := by rw [List.length_drop, upTo_len]
        have hin : InL l.length (X ++ ((upTo n).drop a).take 20 ++ (upTo n).drop (a + 20)) := by
          refine hn.symm ▸ inl_app (inl_app (fun x hx => ?_) (fun x hx => upTo_mem (List.mem_of_mem_drop (List.mem_of_mem_take hx)))) (fun x hx => upTo_mem (List.mem_of_mem_drop hx))
          exact upTo_mem (List.mem_of_mem_take (pX.mem_iff.1 hx))
        have g0 := insG_ok l X (((upTo n).drop a).take 20) ((upTo n).drop (a + 20)) hin (by omega) (by omega) (a : Int) ((a + 20 : Nat) : Int) (by omega) (by omega)
        rw [← hsp, ← hrow] at g0
        have tk2 : (upTo n).take (a + 20) = (upTo n).take a ++ ((upTo n).drop a).take 20 := by
          rw [List.take_add]
        have ih' := ih (a + 20) (X ++ isort (ltP l) 0 (((upTo n).drop a).take 20) (((upTo n).drop a).take 20).length) _ _ (X ++ isort (ltP l) 0 (((upTo n).drop a).take 20) (((upTo n).drop a).take 20).length ++ (upTo n).drop (a + 20)) (by omega) rfl en.h ha rfl (by rw [List.length_append, isort_len]; omega) (by rw [tk2]; exact pX.append isort_all) (fun Y' hY' => by
          rw [List.append_assoc]
          refine hXY _ (.cons a _ Y' (by rw [isort_len]; exact hl) (isort_ord hs (upTo_part_asc n a 20) _ (Nat.le_refl _)) (fun x hx => ?_) hY')
          have := upTo_part (isort_all.mem_iff.1 hx)
          omega)
        clear ih out big
        refine Run.loop ?_
        repeat' (conv => arg 4; whnf); first | (exfalso; omega) | refine Run.condD (fun h => ?_) (fun h => ?_) | refine Run.ret ⟨?_, rfl⟩ | refine Run.condT ?_ | refine Run.condf ?_ | refine Run.condD (fun h => ?_) (fun h => ?_) | refine Run.condN (fun h => ?_) (fun h => ?_) | refine Run.condE (fun h => ?_) (fun h => ?_) | refine Run.condF (fun h => ?_) (fun h => ?_) | refine Run.condM (fun h => ?_) (fun h => ?_) | refine Run.condB (fun h => ?_) (fun h => ?_) | refine Run.check1 ?_ | refine Run.call (g0) rfl ?_ | refine Run.round ⟨[(.t 2 0, .t 2 0)], [], []⟩ (ih') rfl (by (repeat' (first | exact wkEnv_nil | refine wkEnv_cons rfl ?_ | exact wkSto_nil | refine wkSto_none ?_ | refine wkSto_some rfl ?_)); done) (by (repeat' (first | exact wkEnv_nil | refine wkEnv_cons rfl ?_ | exact wkSto_nil | refine wkSto_none ?_ | refine wkSto_some rfl ?_)); done)
        all_goals trace_state
      · exact out a X z y row hz hy (by omega) han hrow hX pX hXY
  have i0 := small n 0 [] 0 20 (upTo n) (by omega) rfl rfl (by omega) (by simp) rfl (by simp) (fun Y' h => h)
  clear small big
  repeat' (conv => arg 4; whnf); first | refine Run.ret ⟨?_, rfl⟩ | refine Run.condT ?_ | refine Run.condf ?_ | refine Run.condD (fun h => ?_) (fun h => ?_) | refine Run.condN (fun h => ?_) (fun h => ?_) | refine Run.condE (fun h => ?_) (fun h => ?_) | refine Run.condF (fun h => ?_) (fun h => ?_) | refine Run.condM (fun h => ?_) (fun h => ?_) | refine Run.condB (fun h => ?_) (fun h => ?_) | refine Run.check1 ?_ | refine Run.round ⟨[(.t 2 0, .t 2 0)], [], []⟩ (i0) rfl (by (repeat' (first | exact wkEnv_nil | refine wkEnv_cons rfl ?_ | exact wkSto_nil | refine wkSto_none ?_ | refine wkSto_some rfl ?_)); done) (by (repeat' (first | exact wkEnv_nil | refine wkEnv_cons rfl ?_ | exact wkSto_nil | refine wkSto_none ?_ | refine wkSto_some rfl ?_)); done)
  all_goals trace_state
theorem sortF2_ok (l : List Mv) (hL : l.length ≤ 1048576) : Ok P 52 [.one (.ifc 24 (.own (.k 0))), .one (.fn 53 [.ptr (.k 1) 0, .ptr (.k 2) 0, .ptr (.k 3) 0])] [some (.row (.int .i64) (upTo l.length)), some (.cells [.lst .mv l false]), some (.cells [.own (.k 0)]), some (.cells [.fn 51 []])] (.tup [])
    [some (.row (.int .i64) (firstM l)), some (.cells [.lst .mv l false]), some (.cells [.own (.k 0)]), some (.cells [.fn 51 []])] := by
  by_cases h2 : 2 ≤ l.length
  · have hu : 2 ≤ (upTo l.length).length := by rw [upTo_len]; exact h2
    refine Ok.of_run (F := mk Try.f52 4) Try.func52 rfl rfl tabOk mixed rfl rfl rfl rfl rfl (Nat.le_of_ble_eq_true rfl) (Nat.le_of_ble_eq_true rfl) (.go 5000 ?_)
    repeat' (conv => arg 4; whnf); first | refine Run.ret ⟨?_, rfl⟩ | refine Run.condT ?_ | refine Run.condf ?_ | refine Run.condD (fun h => ?_) (fun h => ?_) | refine Run.condN (fun h => ?_) (fun h => ?_) | refine Run.condE (fun h => ?_) (fun h => ?_) | refine Run.condF (fun h => ?_) (fun h => ?_) | refine Run.condM (fun h => ?_) (fun h => ?_) | refine Run.condB (fun h => ?_) (fun h => ?_) | refine Run.check1 ?_ | refine Run.call (valueOfI_ok _) rfl ?_ | refine Run.call (swapperI_ok _ hu) rfl ?_ | refine Run.call (lenI_ok _) rfl ?_ | refine Run.call (stable_ok l h2 hL _ (by rw [upTo_len])) rfl ?_
    all_goals first | rfl | trace_state
  · have hin : InL l.length (upTo l.length) := fun x hx => upTo_mem hx
    have := sortF_ok l (upTo l.length) hin (by rw [upTo_len]; omega)
    rw [upTo_len] at this
    exact this
end Go.Proofs.Ytmppoajepbbmiaa.AM

/- The exact laws' helpers; condition: sizes. -/
namespace Go.Proofs.Ytmppoajepbbmiaa.AM
open Go.AM Go.RowKit
set_option linter.unusedVariables false
set_option linter.unusedSimpArgs false
set_option maxRecDepth 100000

theorem toInts_ok (t : List Int) (ht : t.length ≤ 1048576) : Ok P 77 [.one (.lst (.int .i64) t false)] [] (.one (.own (.k 0))) [some (.row (.int .i64) t)] := by
  refine Ok.of_run (F := mk Try.f77 0) Try.func77 rfl rfl tabOk mixed rfl rfl rfl rfl rfl (Nat.le_of_ble_eq_true rfl) (Nat.le_of_ble_eq_true rfl) (.go 5000 ?_)
  have loop : ∀ (d i : Nat) (z : Int) (s : List Int), z = i → i + d = t.length → Cp 0 t s i → Run P (mk Try.f77 0) (fun v st => v = .one (.own (.k 0)) ∧ st = [some (.row (.int .i64) t)]) (.loop ⟨[(0, .one (.lst (.int .i64) t false)), (3, .one (.own (.t 7 0))), (4, .one (.int .i64 z))], [(.t 7 0, some (.row (.int .i64) s))], [.lp [0, 1, 0, 1, 1], .blk 0, .code [1, 1, 1]], none⟩) := by
    intro d
    induction d with
    | zero =>
      intro i z s hz hd hc
      subst hz
      obtain rfl := cp_end hc (by omega)
      refine Run.loop ?_
      repeat' (conv => arg 4; whnf); first | refine Run.ret ⟨?_, rfl⟩ | refine Run.condT ?_ | refine Run.condf ?_ | refine Run.condD (fun h => ?_) (fun h => ?_) | refine Run.condN (fun h => ?_) (fun h => ?_) | refine Run.condE (fun h => ?_) (fun h => ?_) | refine Run.condF (fun h => ?_) (fun h => ?_) | refine Run.condM (fun h => ?_) (fun h => ?_) | refine Run.condB (fun h => ?_) (fun h => ?_) | refine Run.check1 ?_ | (exfalso; omega)
      all_goals first | rfl | (exfalso; omega)
    | succ d ih =>
      intro i z s hz hd hc
      subst hz
      have e : wrap64 ((i : Int) + 1) = ((i + 1 : Nat) : Int) := wrap_eq (by omega) (by omega)
      have hl := hc.1
      have hs := cp_step hc (i := i) (by omega)
      refine Run.loop ?_
      repeat' (conv => arg 4; whnf); first | refine Run.ret ⟨?_, rfl⟩ | refine Run.condT ?_ | refine Run.condf ?_ | refine Run.condD (fun h => ?_) (fun h => ?_) | refine Run.condN (fun h => ?_) (fun h => ?_) | refine Run.condE (fun h => ?_) (fun h => ?_) | refine Run.condF (fun h => ?_) (fun h => ?_) | refine Run.condM (fun h => ?_) (fun h => ?_) | refine Run.condB (fun h => ?_) (fun h => ?_) | refine Run.check1 ?_ | refine Run.need1 (by simp only [allP, true_and, and_true]; omega) ?_ | refine Run.round ⟨[(.t 7 0, .t 7 0)], [], []⟩ (ih (i + 1) _ _ e (by omega) ?_) rfl (by (repeat' (first | exact wkEnv_nil | refine wkEnv_cons rfl ?_ | exact wkSto_nil | refine wkSto_none ?_ | refine wkSto_some rfl ?_)); done) (by (repeat' (first | exact wkEnv_nil | refine wkEnv_cons rfl ?_ | exact wkSto_nil | refine wkSto_none ?_ | refine wkSto_some rfl ?_)); done) | (exfalso; omega)
      all_goals first
        | (exfalso; omega)
        | (simpa [rd] using hs)
        | trace_state
  repeat' (conv => arg 4; whnf); first | refine Run.ret ⟨?_, rfl⟩ | refine Run.condT ?_ | refine Run.condf ?_ | refine Run.condD (fun h => ?_) (fun h => ?_) | refine Run.condN (fun h => ?_) (fun h => ?_) | refine Run.condE (fun h => ?_) (fun h => ?_) | refine Run.condF (fun h => ?_) (fun h => ?_) | refine Run.condM (fun h => ?_) (fun h => ?_) | refine Run.condB (fun h => ?_) (fun h => ?_) | refine Run.check1 ?_ | refine Run.need1 (by simp only [allP, true_and, and_true]; omega) ?_ | refine Run.round ⟨[(.t 7 0, .t 7 0)], [], []⟩ (loop t.length 0 _ _ rfl ?_ ?_) rfl (by (repeat' (first | exact wkEnv_nil | refine wkEnv_cons rfl ?_ | exact wkSto_nil | refine wkSto_none ?_ | refine wkSto_some rfl ?_)); done) (by (repeat' (first | exact wkEnv_nil | refine wkEnv_cons rfl ?_ | exact wkSto_nil | refine wkSto_none ?_ | refine wkSto_some rfl ?_)); done)
  all_goals first
    | omega
    | exact ⟨by simp, fun j hj => absurd hj (by omega)⟩
    | trace_state
theorem toMove_ok (m : Mv) : Ok P 50 [.agg (encMv m)] [] (.agg (encMv m)) [] := by
  refine Ok.of_run (F := mk Try.f50 0) Try.func50 rfl rfl tabOk mixed rfl rfl rfl rfl rfl (Nat.le_of_ble_eq_true rfl) (Nat.le_of_ble_eq_true rfl) (.go 5000 ?_)
  repeat' (conv => arg 4; whnf); first | refine Run.ret ⟨?_, rfl⟩ | refine Run.condT ?_ | refine Run.condf ?_ | refine Run.condD (fun h => ?_) (fun h => ?_) | refine Run.condN (fun h => ?_) (fun h => ?_) | refine Run.condE (fun h => ?_) (fun h => ?_) | refine Run.condF (fun h => ?_) (fun h => ?_) | refine Run.condM (fun h => ?_) (fun h => ?_) | refine Run.condB (fun h => ?_) (fun h => ?_) | refine Run.check1 ?_
  rfl
theorem toMoves_ok (t : List Mv) (ht : t.length ≤ 1048576) : Ok P 13 [.one (.lst .mv t false)] [] (.one (.own (.k 0))) [some (.row .mv t)] := by
  refine Ok.of_run (F := mk Try.f13 0) Try.func13 rfl rfl tabOk mixed rfl rfl rfl rfl rfl (Nat.le_of_ble_eq_true rfl) (Nat.le_of_ble_eq_true rfl) (.go 5000 ?_)
  have loop : ∀ (d i : Nat) (z : Int) (s : List Mv), z = i → i + d = t.length → Cp Mv.z t s i → Run P (mk Try.f13 0) (fun v st => v = .one (.own (.k 0)) ∧ st = [some (.row .mv t)]) (.loop ⟨[(0, .one (.lst .mv t false)), (3, .one (.own (.t 7 0))), (4, .one (.int .i64 z))], [(.t 7 0, some (.row .mv s))], [.lp [0, 1, 0, 1, 1], .blk 0, .code [1, 1, 1]], none⟩) := by
    intro d
    induction d with
    | zero =>
      intro i z s hz hd hc
      subst hz
      obtain rfl := cp_end hc (by omega)
      refine Run.loop ?_
      repeat' (conv => arg 4; whnf); first | refine Run.ret ⟨?_, rfl⟩ | refine Run.condT ?_ | refine Run.condf ?_ | refine Run.condD (fun h => ?_) (fun h => ?_) | refine Run.condN (fun h => ?_) (fun h => ?_) | refine Run.condE (fun h => ?_) (fun h => ?_) | refine Run.condF (fun h => ?_) (fun h => ?_) | refine Run.condM (fun h => ?_) (fun h => ?_) | refine Run.condB (fun h => ?_) (fun h => ?_) | refine Run.check1 ?_ | (exfalso; omega)
      all_goals first | rfl | (exfalso; omega)
    | succ d ih =>
      intro i z s hz hd hc
      subst hz
      have e : wrap64 ((i : Int) + 1) = ((i + 1 : Nat) : Int) := wrap_eq (by omega) (by omega)
      have hl := hc.1
      have hs := cp_step hc (i := i) (by omega)
      refine Run.loop ?_
      repeat' (conv => arg 4; whnf); first | refine Run.ret ⟨?_, rfl⟩ | refine Run.condT ?_ | refine Run.condf ?_ | refine Run.condD (fun h => ?_) (fun h => ?_) | refine Run.condN (fun h => ?_) (fun h => ?_) | refine Run.condE (fun h => ?_) (fun h => ?_) | refine Run.condF (fun h => ?_) (fun h => ?_) | refine Run.condM (fun h => ?_) (fun h => ?_) | refine Run.condB (fun h => ?_) (fun h => ?_) | refine Run.check1 ?_ | refine Run.call (toMove_ok _) rfl ?_ | refine Run.need1 (by simp only [allP, true_and, and_true]; omega) ?_ | refine Run.round ⟨[(.t 7 0, .t 7 0)], [], []⟩ (ih (i + 1) _ _ e (by omega) ?_) rfl (by (repeat' (first | exact wkEnv_nil | refine wkEnv_cons rfl ?_ | exact wkSto_nil | refine wkSto_none ?_ | refine wkSto_some rfl ?_)); done) (by (repeat' (first | exact wkEnv_nil | refine wkEnv_cons rfl ?_ | exact wkSto_nil | refine wkSto_none ?_ | refine wkSto_some rfl ?_)); done) | (exfalso; omega)
      all_goals first
        | (exfalso; omega)
        | (simpa [rdM] using hs)
        | trace_state
  repeat' (conv => arg 4; whnf); first | refine Run.ret ⟨?_, rfl⟩ | refine Run.condT ?_ | refine Run.condf ?_ | refine Run.condD (fun h => ?_) (fun h => ?_) | refine Run.condN (fun h => ?_) (fun h => ?_) | refine Run.condE (fun h => ?_) (fun h => ?_) | refine Run.condF (fun h => ?_) (fun h => ?_) | refine Run.condM (fun h => ?_) (fun h => ?_) | refine Run.condB (fun h => ?_) (fun h => ?_) | refine Run.check1 ?_ | refine Run.need1 (by simp only [allP, true_and, and_true]; omega) ?_ | refine Run.round ⟨[(.t 7 0, .t 7 0)], [], []⟩ (loop t.length 0 _ _ rfl ?_ ?_) rfl (by (repeat' (first | exact wkEnv_nil | refine wkEnv_cons rfl ?_ | exact wkSto_nil | refine wkSto_none ?_ | refine wkSto_some rfl ?_)); done) (by (repeat' (first | exact wkEnv_nil | refine wkEnv_cons rfl ?_ | exact wkSto_nil | refine wkSto_none ?_ | refine wkSto_some rfl ?_)); done)
  all_goals first
    | omega
    | exact ⟨by simp, fun j hj => absurd hj (by omega)⟩
    | trace_state
theorem szMove_ok (m : Mv) (left : Int) (h : 0 ≤ left ∧ left ≤ 1048576) (hm : m.f0.size ≤ maxLen) : Ok P 48 [.agg (encMv m), .one (.int .i64 left)] [] (.one (.int .i64 (szM m left))) [] := by
  refine Ok.of_run (F := mk Try.f48 0) Try.func48 rfl rfl tabOk mixed rfl rfl rfl rfl rfl (Nat.le_of_ble_eq_true rfl) (Nat.le_of_ble_eq_true rfl) (.go 5000 ?_)
  have e : wrap64 (left - m.f0.size) = left - m.f0.size := wrap_eq (by unfold maxLen at hm; omega) (by omega)
  repeat' (conv => arg 4; whnf); first | refine Run.ret ⟨?_, rfl⟩ | refine Run.condT ?_ | refine Run.condf ?_ | refine Run.condD (fun h => ?_) (fun h => ?_) | refine Run.condN (fun h => ?_) (fun h => ?_) | refine Run.condE (fun h => ?_) (fun h => ?_) | refine Run.condF (fun h => ?_) (fun h => ?_) | refine Run.condM (fun h => ?_) (fun h => ?_) | refine Run.condB (fun h => ?_) (fun h => ?_) | refine Run.check1 ?_
  all_goals (refine vi ?_; unfold szM; rw [e] at *; first | rw [if_pos ‹_›] | rw [if_neg ‹_›])
theorem szMoves_ok (l : List Mv) (left : Int) (h : 0 ≤ left ∧ left ≤ 1048576) (hl : l.length ≤ maxLen) (hm : ∀ i, i < l.length → (at' l i).f0.size ≤ maxLen) : Ok P 11 [.one (.lst .mv l false), .one (.int .i64 left)] [] (.one (.int .i64 (szMs l left))) [] := by
  refine Ok.of_run (F := mk Try.f11 0) Try.func11 rfl rfl tabOk mixed rfl rfl rfl rfl rfl (Nat.le_of_ble_eq_true rfl) (Nat.le_of_ble_eq_true rfl) (.go 5000 ?_)
  have e0 : wrap64 (left - l.length) = left - l.length := wrap_eq (by unfold maxLen at hl; omega) (by omega)
  have loop : ∀ (d i : Nat) (z s : Int), z = i → i + d = l.length → l.length ≤ 1048576 → 0 ≤ s ∧ s ≤ 1048576 → szFrom l d i s = szMs l left → Run P (mk Try.f11 0) (fun v st => v = .one (.int .i64 (szMs l left)) ∧ st = []) (.loop ⟨[(0, .one (.lst .mv l false)), (1, .one (.int .i64 s)), (5, .one (.int .i64 z))], [], [.lp [0, 1, 0, 1, 1, 1], .blk 0, .code [1, 1, 1, 1]], none⟩) := by
    intro d
    induction d with
    | zero =>
      intro i z s hz hd hb hs he
      subst hz
      refine Run.loop ?_
      repeat' (conv => arg 4; whnf); first | refine Run.ret ⟨?_, rfl⟩ | refine Run.condT ?_ | refine Run.condf ?_ | refine Run.condD (fun h => ?_) (fun h => ?_) | refine Run.condN (fun h => ?_) (fun h => ?_) | refine Run.condE (fun h => ?_) (fun h => ?_) | refine Run.condF (fun h => ?_) (fun h => ?_) | refine Run.condM (fun h => ?_) (fun h => ?_) | refine Run.condB (fun h => ?_) (fun h => ?_) | refine Run.check1 ?_ | (exfalso; omega)
      all_goals first | (rw [← he]; rfl) | (exfalso; omega)
    | succ d ih =>
      intro i z s hz hd hb hs he
      subst hz
      have e : wrap64 ((i : Int) + 1) = ((i + 1 : Nat) : Int) := wrap_eq (by omega) (by omega)
      have hle := szM_le (m := at' l i) hs.1
      refine Run.loop ?_
      repeat' (conv => arg 4; whnf); first | refine Run.ret ⟨?_, rfl⟩ | refine Run.condT ?_ | refine Run.condf ?_ | refine Run.condD (fun h => ?_) (fun h => ?_) | refine Run.condN (fun h => ?_) (fun h => ?_) | refine Run.condE (fun h => ?_) (fun h => ?_) | refine Run.condF (fun h => ?_) (fun h => ?_) | refine Run.condM (fun h => ?_) (fun h => ?_) | refine Run.condB (fun h => ?_) (fun h => ?_) | refine Run.check1 ?_ | refine Run.call (szMove_ok _ _ hs (by rw [rdM_nat]; exact hm i (by omega))) rfl ?_ | refine Run.need1 (by simp only [allP, true_and, and_true]; omega) ?_ | refine Run.round ⟨[], [], []⟩ (ih (i + 1) _ _ e (by omega) hb ?_ ?_) rfl (by (repeat' (first | exact wkEnv_nil | refine wkEnv_cons rfl ?_ | exact wkSto_nil | refine wkSto_none ?_ | refine wkSto_some rfl ?_)); done) (by (repeat' (first | exact wkEnv_nil | refine wkEnv_cons rfl ?_ | exact wkSto_nil | refine wkSto_none ?_ | refine wkSto_some rfl ?_)); done) | (exfalso; omega)
      all_goals (rw [szFrom] at he; try simp only [rdM_nat] at *)
      all_goals first
        | (exfalso; omega)
        | omega
        | (rw [if_pos ‹_›] at he; rw [he])
        | (rw [if_neg ‹_›] at he; exact he)
        | trace_state
  repeat' (conv => arg 4; whnf); first | refine Run.ret ⟨?_, rfl⟩ | refine Run.condT ?_ | refine Run.condf ?_ | refine Run.condD (fun h => ?_) (fun h => ?_) | refine Run.condN (fun h => ?_) (fun h => ?_) | refine Run.condE (fun h => ?_) (fun h => ?_) | refine Run.condF (fun h => ?_) (fun h => ?_) | refine Run.condM (fun h => ?_) (fun h => ?_) | refine Run.condB (fun h => ?_) (fun h => ?_) | refine Run.check1 ?_ | refine Run.round ⟨[], [], []⟩ (loop l.length 0 _ _ rfl ?_ ?_ ?_ ?_) rfl (by (repeat' (first | exact wkEnv_nil | refine wkEnv_cons rfl ?_ | exact wkSto_nil | refine wkSto_none ?_ | refine wkSto_some rfl ?_)); done) (by (repeat' (first | exact wkEnv_nil | refine wkEnv_cons rfl ?_ | exact wkSto_nil | refine wkSto_none ?_ | refine wkSto_some rfl ?_)); done)
  all_goals (simp only [e0] at *)
  all_goals try unfold szMs
  all_goals first
    | omega
    | (rw [if_pos ‹_›])
    | (rw [if_neg ‹_›])
    | trace_state
end Go.Proofs.Ytmppoajepbbmiaa.AM
