/- FnExactStripTick, part 1 of 1: what the law's functions come to, plain laws on it, and the row; no condition -/
import Derived.Test.YtpdmimlkgmhepaaProg
import Derived.Deep.Slices
import Derived.Deep.Fields
import Derived.ChangeSame
import Derived.Lib.SmallJoins
import Derived.WalkKit
import Derived.ProofKit
import Derived.OpenShut
import Derived.ShutString
import Derived.ChangeOld
import Derived.SizedLaws
import Derived.Test.YtpdmimlkgmhepaaRows
import Derived.Test.YtpdmimlkgmhepaaChecked
import Derived.Below
import Derived.Test.YtpdmimlkgmhepaaMC2
/- The machine's table of this seat's types, and that it fits the program; no condition. -/
namespace Go.Proofs.Ytpdmimlkgmhepaa.AM
set_option linter.unusedVariables false
open Go.AM

def tab : Tab := [
  (1, ⟨.fn, 1, 8, false, [.nilf], [none]⟩),
  (2, ⟨.int .i64, 1, 8, false, [.int .i64 0], [none]⟩),
  (3, ⟨.int .i64, 1, 8, false, [.int .i64 0], [none]⟩),
  (4, ⟨.bool, 1, 1, false, [.bool false], [none]⟩),
  (5, ⟨.int .u8, 1, 1, false, [.int .u8 0], [none]⟩),
  (9, ⟨.str, 1, 16, false, [.str ByteArray.empty], [none]⟩),
  (15, ⟨.ptr, 1, 8, false, [.nilp], [none]⟩),
  (16, ⟨.ptr, 1, 8, false, [.nilp], [none]⟩),
  (17, ⟨.ptr, 1, 8, false, [.nilp], [none]⟩),
  (21, ⟨.int .i32, 1, 4, false, [.int .i32 0], [none]⟩),
  (22, ⟨.sl (.int .i64) 3, 1, 24, false, [.nil], [some (.int .i64)]⟩),
  (23, ⟨.fn, 1, 8, false, [.nilf], [none]⟩),
  (24, ⟨.fn, 1, 8, false, [.nilf], [none]⟩),
  (25, ⟨.fn, 1, 8, false, [.nilf], [none]⟩),
  (26, ⟨.sl (.mv) 71, 1, 24, false, [.nil], [some (.mv)]⟩),
  (27, ⟨.fn, 1, 8, false, [.nilf], [none]⟩),
  (28, ⟨.fn, 1, 8, false, [.nilf], [none]⟩),
  (29, ⟨.sl (.mv) 54, 1, 24, false, [.nil], [some (.mv)]⟩),
  (30, ⟨.fn, 1, 8, false, [.nilf], [none]⟩),
  (31, ⟨.fn, 1, 8, false, [.nilf], [none]⟩),
  (32, ⟨.fn, 1, 8, false, [.nilf], [none]⟩),
  (33, ⟨.fn, 1, 8, false, [.nilf], [none]⟩),
  (34, ⟨.fn, 1, 8, false, [.nilf], [none]⟩),
  (36, ⟨.fn, 1, 8, false, [.nilf], [none]⟩),
  (38, ⟨.st [(0, 1, false), (1, 1, false), (2, 1, false), (3, 1, false)] false, 4, 64, true, [.int .i64 0, .int .i64 0, .nil, .nil], [none, none, some .mv, some (.int .i64)]⟩),
  (39, ⟨.fn, 1, 8, false, [.nilf], [none]⟩),
  (40, ⟨.fn, 1, 8, false, [.nilf], [none]⟩),
  (42, ⟨.st [(0, 1, false), (1, 1, false), (2, 1, false), (3, 1, false)] false, 4, 64, true, [.int .i64 0, .int .i64 0, .nil, .nil], [none, none, some .mv, some (.int .i64)]⟩),
  (43, ⟨.fn, 1, 8, false, [.nilf], [none]⟩),
  (44, ⟨.fn, 1, 8, false, [.nilf], [none]⟩),
  (45, ⟨.fn, 1, 8, false, [.nilf], [none]⟩),
  (47, ⟨.fn, 1, 8, false, [.nilf], [none]⟩),
  (48, ⟨.fn, 1, 8, false, [.nilf], [none]⟩),
  (49, ⟨.fn, 1, 8, false, [.nilf], [none]⟩),
  (50, ⟨.sl (.int .u8) 5, 1, 24, false, [.nil], [some (.int .u8)]⟩),
  (52, ⟨.fn, 1, 8, false, [.nilf], [none]⟩),
  (54, ⟨.st [(0, 1, false), (1, 1, false), (2, 1, false), (3, 1, false), (4, 1, false), (5, 1, false)] true, 6, 56, true, [.str ByteArray.empty, .bool false, .int .i64 0, .int .i64 0, .int .i64 0, .int .i64 0], [none, none, none, none, none, none]⟩),
  (56, ⟨.fn, 1, 8, false, [.nilf], [none]⟩),
  (57, ⟨.fn, 1, 8, false, [.nilf], [none]⟩),
  (58, ⟨.fn, 1, 8, false, [.nilf], [none]⟩),
  (60, ⟨.fn, 1, 8, false, [.nilf], [none]⟩),
  (61, ⟨.fn, 1, 8, false, [.nilf], [none]⟩),
  (62, ⟨.sl (.str) 9, 1, 24, false, [.nil], [some (.str)]⟩),
  (64, ⟨.fn, 1, 8, false, [.nilf], [none]⟩),
  (65, ⟨.fn, 1, 8, false, [.nilf], [none]⟩),
  (66, ⟨.fn, 1, 8, false, [.nilf], [none]⟩),
  (67, ⟨.fn, 1, 8, false, [.nilf], [none]⟩),
  (68, ⟨.fn, 1, 8, false, [.nilf], [none]⟩),
  (69, ⟨.fn, 1, 8, false, [.nilf], [none]⟩),
  (70, ⟨.fn, 1, 8, false, [.nilf], [none]⟩),
  (71, ⟨.st [(0, 1, false), (1, 1, false), (2, 1, false), (3, 1, false), (4, 1, false), (5, 1, false)] true, 6, 56, true, [.str ByteArray.empty, .bool false, .int .i64 0, .int .i64 0, .int .i64 0, .int .i64 0], [none, none, none, none, none, none]⟩),
  (72, ⟨.fn, 1, 8, false, [.nilf], [none]⟩),
  (73, ⟨.fn, 1, 8, false, [.nilf], [none]⟩),
  (74, ⟨.fn, 1, 8, false, [.nilf], [none]⟩),
  (75, ⟨.fn, 1, 8, false, [.nilf], [none]⟩),
  (76, ⟨.fn, 1, 8, false, [.nilf], [none]⟩),
  (77, ⟨.ptr, 1, 8, false, [.nilp], [none]⟩),
  (78, ⟨.fn, 1, 8, false, [.nilf], [none]⟩),
  (79, ⟨.fn, 1, 8, false, [.nilf], [none]⟩),
  (80, ⟨.fn, 1, 8, false, [.nilf], [none]⟩),
  (81, ⟨.fn, 1, 8, false, [.nilf], [none]⟩),
  (82, ⟨.fn, 1, 8, false, [.nilf], [none]⟩),
  (83, ⟨.fn, 1, 8, false, [.nilf], [none]⟩),
  (84, ⟨.fn, 1, 8, false, [.nilf], [none]⟩),
  (85, ⟨.fn, 1, 8, false, [.nilf], [none]⟩),
  (88, ⟨.st [(0, 1, false), (1, 1, false)] false, 2, 32, true, [.nil, .int .i64 0], [some (.int .u8), none]⟩),
  (89, ⟨.fn, 1, 8, false, [.nilf], [none]⟩),
  (90, ⟨.fn, 1, 8, false, [.nilf], [none]⟩),
  (91, ⟨.fn, 1, 8, false, [.nilf], [none]⟩),
  (92, ⟨.fn, 1, 8, false, [.nilf], [none]⟩),
  (98, ⟨.fn, 1, 8, false, [.nilf], [none]⟩),
  (99, ⟨.int .u32, 1, 4, false, [.int .u32 0], [none]⟩),
  (102, ⟨.fn, 1, 8, false, [.nilf], [none]⟩),
  (103, ⟨.ptr, 1, 8, false, [.nilp], [none]⟩),
  (108, ⟨.fn, 1, 8, false, [.nilf], [none]⟩)]
theorem tabOk : TabOk Try.prog tab :=
  (.cons (ty_fn (by kernel_rfl) Try.underlying1)
  (.cons (ty_int .i64 (by kernel_rfl) Try.underlying2)
  (.cons (ty_int .i64 (by kernel_rfl) Try.underlying3)
  (.cons (ty_bool (by kernel_rfl) Try.underlying4)
  (.cons (ty_int .u8 (by kernel_rfl) Try.underlying5)
  (.cons (ty_str (by kernel_rfl) Try.underlying9)
  (.cons (ty_ptr (by kernel_rfl) Try.underlying15)
  (.cons (ty_ptr (by kernel_rfl) Try.underlying16)
  (.cons (ty_ptr (by kernel_rfl) Try.underlying17)
  (.cons (ty_int .i32 (by kernel_rfl) Try.underlying21)
  (.cons (ty_sl (.int .i64) (b' := 8) (by kernel_rfl) Try.underlying22 (by kernel_rfl) (zero_int _) Try.underlying3)
  (.cons (ty_fn (by kernel_rfl) Try.underlying23)
  (.cons (ty_fn (by kernel_rfl) Try.underlying24)
  (.cons (ty_fn (by kernel_rfl) Try.underlying25)
  (.cons (ty_sl (.mv) (b' := 56) (by kernel_rfl) Try.underlying26 (by kernel_rfl) (zero_mv) True.intro)
  (.cons (ty_fn (by kernel_rfl) Try.underlying27)
  (.cons (ty_fn (by kernel_rfl) Try.underlying28)
  (.cons (ty_sl (.mv) (b' := 56) (by kernel_rfl) Try.underlying29 (by kernel_rfl) (zero_mv) True.intro)
  (.cons (ty_fn (by kernel_rfl) Try.underlying30)
  (.cons (ty_fn (by kernel_rfl) Try.underlying31)
  (.cons (ty_fn (by kernel_rfl) Try.underlying32)
  (.cons (ty_fn (by kernel_rfl) Try.underlying33)
  (.cons (ty_fn (by kernel_rfl) Try.underlying34)
  (.cons (ty_fn (by kernel_rfl) Try.underlying36)
  (.cons (ty_st (z := .agg #[.int .i64 0, .int .i64 0, .slice none 0 0, .slice none 0 0]) (by kernel_rfl) (fun μ w G => by simp [repAs, repA, Value.cells]) rfl Try.underlying38 (by kernel_rfl) (by kernel_rfl))
  (.cons (ty_fn (by kernel_rfl) Try.underlying39)
  (.cons (ty_fn (by kernel_rfl) Try.underlying40)
  (.cons (ty_st (z := .agg #[.int .i64 0, .int .i64 0, .slice none 0 0, .slice none 0 0]) (by kernel_rfl) (fun μ w G => by simp [repAs, repA, Value.cells]) rfl Try.underlying42 (by kernel_rfl) (by kernel_rfl))
  (.cons (ty_fn (by kernel_rfl) Try.underlying43)
  (.cons (ty_fn (by kernel_rfl) Try.underlying44)
  (.cons (ty_fn (by kernel_rfl) Try.underlying45)
  (.cons (ty_fn (by kernel_rfl) Try.underlying47)
  (.cons (ty_fn (by kernel_rfl) Try.underlying48)
  (.cons (ty_fn (by kernel_rfl) Try.underlying49)
  (.cons (ty_sl (.int .u8) (b' := 1) (by kernel_rfl) Try.underlying50 (by kernel_rfl) (zero_int _) Try.underlying5)
  (.cons (ty_fn (by kernel_rfl) Try.underlying52)
  (.cons (ty_mv (by kernel_rfl) Try.underlying54 (by kernel_rfl) (by kernel_rfl) (by kernel_rfl) (by kernel_rfl) Try.underlying9 Try.underlying4 Try.underlying3 Try.underlying3 Try.underlying3 Try.underlying3)
  (.cons (ty_fn (by kernel_rfl) Try.underlying56)
  (.cons (ty_fn (by kernel_rfl) Try.underlying57)
  (.cons (ty_fn (by kernel_rfl) Try.underlying58)
  (.cons (ty_fn (by kernel_rfl) Try.underlying60)
  (.cons (ty_fn (by kernel_rfl) Try.underlying61)
  (.cons (ty_sl (.str) (b' := 16) (by kernel_rfl) Try.underlying62 (by kernel_rfl) (zero_str) True.intro)
  (.cons (ty_fn (by kernel_rfl) Try.underlying64)
  (.cons (ty_fn (by kernel_rfl) Try.underlying65)
  (.cons (ty_fn (by kernel_rfl) Try.underlying66)
  (.cons (ty_fn (by kernel_rfl) Try.underlying67)
  (.cons (ty_fn (by kernel_rfl) Try.underlying68)
  (.cons (ty_fn (by kernel_rfl) Try.underlying69)
  (.cons (ty_fn (by kernel_rfl) Try.underlying70)
  (.cons (ty_mv (by kernel_rfl) Try.underlying71 (by kernel_rfl) (by kernel_rfl) (by kernel_rfl) (by kernel_rfl) Try.underlying9 Try.underlying4 Try.underlying3 Try.underlying3 Try.underlying3 Try.underlying3)
  (.cons (ty_fn (by kernel_rfl) Try.underlying72)
  (.cons (ty_fn (by kernel_rfl) Try.underlying73)
  (.cons (ty_fn (by kernel_rfl) Try.underlying74)
  (.cons (ty_fn (by kernel_rfl) Try.underlying75)
  (.cons (ty_fn (by kernel_rfl) Try.underlying76)
  (.cons (ty_ptr (by kernel_rfl) Try.underlying77)
  (.cons (ty_fn (by kernel_rfl) Try.underlying78)
  (.cons (ty_fn (by kernel_rfl) Try.underlying79)
  (.cons (ty_fn (by kernel_rfl) Try.underlying80)
  (.cons (ty_fn (by kernel_rfl) Try.underlying81)
  (.cons (ty_fn (by kernel_rfl) Try.underlying82)
  (.cons (ty_fn (by kernel_rfl) Try.underlying83)
  (.cons (ty_fn (by kernel_rfl) Try.underlying84)
  (.cons (ty_fn (by kernel_rfl) Try.underlying85)
  (.cons (ty_st (z := .agg #[.slice none 0 0, .int .i64 0]) (by kernel_rfl) (fun μ w G => by simp [repAs, repA, Value.cells]) rfl Try.underlying88 (by kernel_rfl) (by kernel_rfl))
  (.cons (ty_fn (by kernel_rfl) Try.underlying89)
  (.cons (ty_fn (by kernel_rfl) Try.underlying90)
  (.cons (ty_fn (by kernel_rfl) Try.underlying91)
  (.cons (ty_fn (by kernel_rfl) Try.underlying92)
  (.cons (ty_fn (by kernel_rfl) Try.underlying98)
  (.cons (ty_int .u32 (by kernel_rfl) Try.underlying99)
  (.cons (ty_fn (by kernel_rfl) Try.underlying102)
  (.cons (ty_ptr (by kernel_rfl) Try.underlying103)
  (.cons (ty_fn (by kernel_rfl) Try.underlying108) .nil)))))))))))))))))))))))))))))))))))))))))))))))))))))))))))))))))))))))))))
theorem mixed : Try.prog.follows .mixedOrders = true := by kernel_rfl
end Go.Proofs.Ytpdmimlkgmhepaa.AM

/- What all walks of this seat share; no condition. -/
namespace Go.Proofs.Ytpdmimlkgmhepaa.AM
open Go.AM Go.RowKit
set_option linter.unusedVariables false
set_option maxRecDepth 100000

/-- What a call hands over for good. -/
def sigs : List (Nat × List Bool) := [
  (32, [true]),
  (31, [true]),
  (45, [true]),
  (46, [true]),
  (0, [])]
def sig (f : FuncId) : List Bool := match lk f sigs with
  | some l => l
  | none => []
noncomputable def mk (f : Func) (m : Nat) : FnI := ⟨tab, sig, bodyOf f, f.results.toList, m, f.ntmps⟩
noncomputable abbrev P := Try.prog
theorem in_ok (a b c : Int) : Ok P 58 [.one (.int .i64 a), .one (.int .i64 b), .one (.int .i64 c)] [] (.one (.bool (decide (b ≤ a ∧ a ≤ c)))) [] := by
  refine Ok.of_run (F := mk Try.f58 0) Try.func58 rfl rfl tabOk mixed rfl rfl rfl rfl rfl (Nat.le_of_ble_eq_true rfl) (Nat.le_of_ble_eq_true rfl) (.go 5000 ?_)
  repeat' (conv => arg 4; whnf); first | refine Run.ret ⟨?_, rfl⟩ | refine Run.condT ?_ | refine Run.condf ?_ | refine Run.condD (fun h => ?_) (fun h => ?_) | refine Run.condN (fun h => ?_) (fun h => ?_) | refine Run.condE (fun h => ?_) (fun h => ?_) | refine Run.condF (fun h => ?_) (fun h => ?_) | refine Run.condM (fun h => ?_) (fun h => ?_) | refine Run.condB (fun h => ?_) (fun h => ?_) | refine Run.check1 ?_
  · simp [h]
  · simp [h]
end Go.Proofs.Ytpdmimlkgmhepaa.AM

/- Plain models: moves that are ok, gaps; no condition. -/
namespace Go.AM
set_option linter.unusedVariables false
set_option linter.unusedSimpArgs false
open Go.RowKit

theorem wrap_eq {x : Int} (h : -9223372036854775808 ≤ x) (h' : x ≤ 9223372036854775807) : wrap64 x = x := by unfold wrap64; omega
def okB (c : Int) : Bool := decide (97 ≤ c ∧ c ≤ 122 ∨ 48 ≤ c ∧ c ≤ 57 ∨ c = 45)
def allB (s : ByteArray) : Nat → Int → Bool
  | 0, _ => true
  | d + 1, i => okB (bt s i) && allB s d (i + 1)
theorem allB_succ (s : ByteArray) (d : Nat) (i : Int) : allB s (d + 1) i = (okB (bt s i) && allB s d (i + 1)) := rfl
def nameOk (s : ByteArray) : Bool := decide (1 ≤ s.size ∧ s.size ≤ 8) && allB s s.size 0
/-- What a move's other parts must be. -/
def MoveP (m : Mv) : Prop := 1 ≤ m.f2 ∧ m.f2 ≤ 3 ∧ 0 ≤ m.f3 ∧ m.f3 ≤ m.f4 ∧ m.f4 ≤ 10000 ∧ (m.f5 = -1 ∨ m.f3 ≤ m.f5 ∧ m.f5 ≤ m.f4)
instance (m : Mv) : Decidable (MoveP m) := by unfold MoveP; infer_instance
def mvOk (m : Mv) : Bool := nameOk m.f0 && decide (MoveP m)
def gap (a b : Mv) : Int := (if a.f1 = true then 2 else 1) + (if 1 ≤ a.f2 ∧ a.f2 ≤ 3 ∧ 1 ≤ b.f2 ∧ b.f2 ≤ 3 ∧ b.f2 < a.f2 then a.f2 - b.f2 else 0)
theorem gap_range (a b : Mv) : 1 ≤ gap a b ∧ gap a b ≤ 4 := by
  unfold gap
  split <;> split <;> omega

theorem vb {b c : Bool} (h : b = true ↔ c = true) : V.one (A.bool b) = V.one (A.bool c) := by rw [Bool.eq_iff_iff.mpr h]
theorem vi {k : IntKind} {a b : Int} (h : a = b) : V.one (A.int k a) = V.one (A.int k b) := by rw [h]
theorem mvOk_true {m : Mv} : mvOk m = true ↔ nameOk m.f0 = true ∧ 1 ≤ m.f2 ∧ m.f2 ≤ 3 ∧ 0 ≤ m.f3 ∧ m.f3 ≤ m.f4 ∧ m.f4 ≤ 10000 ∧ (m.f5 = -1 ∨ m.f3 ≤ m.f5 ∧ m.f5 ≤ m.f4) := by
  simp only [mvOk, Bool.and_eq_true, decide_eq_true_eq]
  rfl
theorem nameOk_true {s : ByteArray} : nameOk s = true ↔ (1 ≤ s.size ∧ s.size ≤ 8) ∧ allB s s.size 0 = true := by
  simp only [nameOk, Bool.and_eq_true, decide_eq_true_eq]
end Go.AM

/- StripMoveOk, the program's and the reference's; gaps; no condition. -/
namespace Go.Proofs.Ytpdmimlkgmhepaa.AM
open Go.AM Go.RowKit
set_option linter.unusedVariables false
set_option maxRecDepth 100000
set_option linter.unusedSimpArgs false

theorem sin_ok (a b c : Int) : Ok P 56 [.one (.int .i64 a), .one (.int .i64 b), .one (.int .i64 c)] [] (.one (.bool (decide (b ≤ a ∧ a ≤ c)))) [] := by
  refine Ok.of_run (F := mk Try.f56 0) Try.func56 rfl rfl tabOk mixed rfl rfl rfl rfl rfl (Nat.le_of_ble_eq_true rfl) (Nat.le_of_ble_eq_true rfl) (.go 5000 ?_)
  repeat' (conv => arg 4; whnf); first | refine Run.ret ⟨?_, rfl⟩ | refine Run.condT ?_ | refine Run.condf ?_ | refine Run.condD (fun h => ?_) (fun h => ?_) | refine Run.condN (fun h => ?_) (fun h => ?_) | refine Run.condE (fun h => ?_) (fun h => ?_) | refine Run.condF (fun h => ?_) (fun h => ?_) | refine Run.condM (fun h => ?_) (fun h => ?_) | refine Run.condB (fun h => ?_) (fun h => ?_) | refine Run.check1 ?_
  · simp [h]
  · simp [h]
theorem gap_ok (a b : Mv) : Ok P 37 [.agg (encMv a), .agg (encMv b)] [] (.one (.int .i64 (gap a b))) [] := by
  refine Ok.of_run (F := mk Try.f37 0) Try.func37 rfl rfl tabOk mixed rfl rfl rfl rfl rfl (Nat.le_of_ble_eq_true rfl) (Nat.le_of_ble_eq_true rfl) (.go 5000 ?_)
  repeat' (conv => arg 4; whnf); first | refine Run.ret ⟨?_, rfl⟩ | refine Run.condT ?_ | refine Run.condf ?_ | refine Run.condD (fun h => ?_) (fun h => ?_) | refine Run.condN (fun h => ?_) (fun h => ?_) | refine Run.condE (fun h => ?_) (fun h => ?_) | refine Run.condF (fun h => ?_) (fun h => ?_) | refine Run.condM (fun h => ?_) (fun h => ?_) | refine Run.condB (fun h => ?_) (fun h => ?_) | refine Run.check1 ?_ | refine Run.call (in_ok _ _ _) rfl ?_
  all_goals (refine congrArg (fun n => V.one (.int .i64 n)) ?_; simp only [gap, wrap64, *]; (repeat' split) <;> first | omega | simp_all)
theorem sgap_ok (a b : Mv) : Ok P 38 [.agg (encMv a), .agg (encMv b)] [] (.one (.int .i64 (gap a b))) [] := by
  refine Ok.of_run (F := mk Try.f38 0) Try.func38 rfl rfl tabOk mixed rfl rfl rfl rfl rfl (Nat.le_of_ble_eq_true rfl) (Nat.le_of_ble_eq_true rfl) (.go 5000 ?_)
  repeat' (conv => arg 4; whnf); first | refine Run.ret ⟨?_, rfl⟩ | refine Run.condT ?_ | refine Run.condf ?_ | refine Run.condD (fun h => ?_) (fun h => ?_) | refine Run.condN (fun h => ?_) (fun h => ?_) | refine Run.condE (fun h => ?_) (fun h => ?_) | refine Run.condF (fun h => ?_) (fun h => ?_) | refine Run.condM (fun h => ?_) (fun h => ?_) | refine Run.condB (fun h => ?_) (fun h => ?_) | refine Run.check1 ?_ | refine Run.call (sin_ok _ _ _) rfl ?_
  all_goals (refine congrArg (fun n => V.one (.int .i64 n)) ?_; simp only [gap, wrap64, *]; (repeat' split) <;> first | omega | simp_all)
theorem name_ok (s : ByteArray) : Ok P 70 [.one (.str s)] [] (.one (.bool (nameOk s))) [] := by
  refine Ok.of_run (F := mk Try.f70 0) Try.func70 rfl rfl tabOk mixed rfl rfl rfl rfl rfl (Nat.le_of_ble_eq_true rfl) (Nat.le_of_ble_eq_true rfl) (.go 5000 ?_)
  by_cases hs : 1 ≤ (s.size : Int) ∧ (s.size : Int) ≤ 8
  · have loop : ∀ (d : Nat) (i : Int), 0 ≤ i → (s.size : Int) - i = d → allB s d i = nameOk s → Run P (mk Try.f70 0) (fun v st => v = .one (.bool (nameOk s)) ∧ st = []) (.loop ⟨[(0, .one (.str s)), (3, .one (.int .i64 i))], [], [.lp [0, 1, 0, 1, 1], .blk 0, .code [1, 1, 1]], none⟩) := by
      intro d
      induction d with
      | zero =>
        intro i h0 hd he
        refine Run.loop ?_
        repeat' (conv => arg 4; whnf); first | refine Run.ret ⟨?_, rfl⟩ | refine Run.condT ?_ | refine Run.condf ?_ | refine Run.condD (fun h => ?_) (fun h => ?_) | refine Run.condN (fun h => ?_) (fun h => ?_) | refine Run.condE (fun h => ?_) (fun h => ?_) | refine Run.condF (fun h => ?_) (fun h => ?_) | refine Run.condM (fun h => ?_) (fun h => ?_) | refine Run.condB (fun h => ?_) (fun h => ?_) | refine Run.check1 ?_ | (exfalso; omega)
        rw [← he]; rfl
      | succ d ih =>
        intro i h0 hd he
        have e : wrap64 (i + 1) = i + 1 := wrap_eq (by omega) (by omega)
        rw [allB_succ] at he
        refine Run.loop ?_
        repeat' (conv => arg 4; whnf); first | refine Run.ret ⟨?_, rfl⟩ | refine Run.condT ?_ | refine Run.condf ?_ | refine Run.condD (fun h => ?_) (fun h => ?_) | refine Run.condN (fun h => ?_) (fun h => ?_) | refine Run.condE (fun h => ?_) (fun h => ?_) | refine Run.condF (fun h => ?_) (fun h => ?_) | refine Run.condM (fun h => ?_) (fun h => ?_) | refine Run.condB (fun h => ?_) (fun h => ?_) | refine Run.check1 ?_ | (exfalso; omega) | refine Run.need1 (⟨h0, ‹_›⟩) ?_ | refine Run.round ⟨[], [], []⟩ (ih _ ?_ ?_ ?_) rfl (by repeat' first | exact wkEnv_nil | refine wkEnv_cons rfl ?_ | exact wkSto_nil | refine wkSto_none ?_ | refine wkSto_some rfl ?_) (by repeat' first | exact wkEnv_nil | refine wkEnv_cons rfl ?_ | exact wkSto_nil | refine wkSto_none ?_ | refine wkSto_some rfl ?_)
        all_goals first
          | (exfalso; omega)
          | (rw [e]; omega)
          | (have ok : okB (bt s i) = true := by simp only [okB, decide_eq_true_eq]; omega
             rw [e, ← he, ok]; rfl)
          | (have ok : okB (bt s i) = false := by simp only [okB, decide_eq_false_iff_not]; omega
             rw [← he, ok]; rfl)
    repeat' (conv => arg 4; whnf); first | refine Run.ret ⟨?_, rfl⟩ | refine Run.condT ?_ | refine Run.condf ?_ | refine Run.condD (fun h => ?_) (fun h => ?_) | refine Run.condN (fun h => ?_) (fun h => ?_) | refine Run.condE (fun h => ?_) (fun h => ?_) | refine Run.condF (fun h => ?_) (fun h => ?_) | refine Run.condM (fun h => ?_) (fun h => ?_) | refine Run.condB (fun h => ?_) (fun h => ?_) | refine Run.check1 ?_ | refine Run.call (sin_ok _ _ _) rfl ?_ | refine Run.round ⟨[], [], []⟩ (loop s.size 0 ?_ ?_ ?_) rfl (by repeat' first | exact wkEnv_nil | refine wkEnv_cons rfl ?_ | exact wkSto_nil | refine wkSto_none ?_ | refine wkSto_some rfl ?_) (by repeat' first | exact wkEnv_nil | refine wkEnv_cons rfl ?_ | exact wkSto_nil | refine wkSto_none ?_ | refine wkSto_some rfl ?_)
    all_goals first | omega | (simp only [nameOk]; rw [decide_eq_true (by omega)]; rfl)
  · have : nameOk s = false := by simp only [nameOk]; rw [decide_eq_false (by omega)]; rfl
    rw [this]
    repeat' (conv => arg 4; whnf); first | refine Run.ret ⟨?_, rfl⟩ | refine Run.condT ?_ | refine Run.condf ?_ | refine Run.condD (fun h => ?_) (fun h => ?_) | refine Run.condN (fun h => ?_) (fun h => ?_) | refine Run.condE (fun h => ?_) (fun h => ?_) | refine Run.condF (fun h => ?_) (fun h => ?_) | refine Run.condM (fun h => ?_) (fun h => ?_) | refine Run.condB (fun h => ?_) (fun h => ?_) | refine Run.check1 ?_ | refine Run.call (sin_ok _ _ _) rfl ?_ | (exfalso; omega)
    all_goals rfl
theorem smoveOk_ok (m : Mv) : Ok P 39 [.agg (encMv m)] [] (.one (.bool (mvOk m))) [] := by
  refine Ok.of_run (F := mk Try.f39 0) Try.func39 rfl rfl tabOk mixed rfl rfl rfl rfl rfl (Nat.le_of_ble_eq_true rfl) (Nat.le_of_ble_eq_true rfl) (.go 5000 ?_)
  repeat' (conv => arg 4; whnf); first | refine Run.ret ⟨?_, rfl⟩ | refine Run.condT ?_ | refine Run.condf ?_ | refine Run.condD (fun h => ?_) (fun h => ?_) | refine Run.condN (fun h => ?_) (fun h => ?_) | refine Run.condE (fun h => ?_) (fun h => ?_) | refine Run.condF (fun h => ?_) (fun h => ?_) | refine Run.condM (fun h => ?_) (fun h => ?_) | refine Run.condB (fun h => ?_) (fun h => ?_) | refine Run.check1 ?_ | refine Run.call (sin_ok _ _ _) rfl ?_ | refine Run.call (name_ok _) rfl ?_
  all_goals (refine vb ?_; rw [mvOk_true]; cases hn : nameOk m.f0 <;> simp_all <;> omega)
theorem moveOk_ok (m : Mv) : Ok P 54 [.agg (encMv m)] [] (.one (.bool (mvOk m))) [] := by
  refine Ok.of_run (F := mk Try.f54 0) Try.func54 rfl rfl tabOk mixed rfl rfl rfl rfl rfl (Nat.le_of_ble_eq_true rfl) (Nat.le_of_ble_eq_true rfl) (.go 5000 ?_)
  have loop : 1 ≤ m.f0.size ∧ m.f0.size ≤ 8 → 1 ≤ m.f2 ∧ m.f2 ≤ 3 → 0 ≤ m.f3 → m.f3 ≤ m.f4 → m.f4 ≤ 10000 → ∀ (d : Nat) (i : Int), 0 ≤ i → (m.f0.size : Int) - i = d → allB m.f0 d i = allB m.f0 m.f0.size 0 →
      Run P (mk Try.f54 0) (fun v st => v = .one (.bool (mvOk m)) ∧ st = []) (.loop ⟨[(1, .one (.ptr (.t 1 0) 0)), (3, .one (.int .i64 i))], [(.t 1 0, some (.cells (encMv m)))], [.lp [0, 1, 0, 1, 1], .blk 0, .code [1, 1, 1]], none⟩) := by
    intro hs h2 h3 h4 h5 d
    have hn : nameOk m.f0 = allB m.f0 m.f0.size 0 := by
      unfold nameOk
      rw [decide_eq_true hs]
      rfl
    induction d with
    | zero =>
      intro i h0 hd he
      have hn : nameOk m.f0 = true := by rw [hn, ← he]; rfl
      refine Run.loop ?_
      repeat' (conv => arg 4; whnf); first | refine Run.ret ⟨?_, rfl⟩ | refine Run.condT ?_ | refine Run.condf ?_ | refine Run.condD (fun h => ?_) (fun h => ?_) | refine Run.condN (fun h => ?_) (fun h => ?_) | refine Run.condE (fun h => ?_) (fun h => ?_) | refine Run.condF (fun h => ?_) (fun h => ?_) | refine Run.condM (fun h => ?_) (fun h => ?_) | refine Run.condB (fun h => ?_) (fun h => ?_) | refine Run.check1 ?_ | refine Run.call (in_ok _ _ _) rfl ?_ | (exfalso; omega)
      all_goals first
        | (exfalso; omega)
        | (refine vb ?_; rw [mvOk_true, hn]; simp <;> omega)
    | succ d ih =>
      intro i h0 hd he
      have e : wrap64 (i + 1) = i + 1 := wrap_eq (by omega) (by omega)
      rw [allB_succ] at he
      refine Run.loop ?_
      repeat' (conv => arg 4; whnf); first | refine Run.ret ⟨?_, rfl⟩ | refine Run.condT ?_ | refine Run.condf ?_ | refine Run.condD (fun h => ?_) (fun h => ?_) | refine Run.condN (fun h => ?_) (fun h => ?_) | refine Run.condE (fun h => ?_) (fun h => ?_) | refine Run.condF (fun h => ?_) (fun h => ?_) | refine Run.condM (fun h => ?_) (fun h => ?_) | refine Run.condB (fun h => ?_) (fun h => ?_) | refine Run.check1 ?_ | refine Run.call (in_ok _ _ _) rfl ?_ | refine Run.need1 (⟨h0, ‹_›⟩) ?_ | refine Run.round ⟨[(.t 1 0, .t 1 0)], [], []⟩ (ih _ ?_ ?_ ?_) rfl (by repeat' first | exact wkEnv_nil | refine wkEnv_cons rfl ?_ | exact wkSto_nil | refine wkSto_none ?_ | refine wkSto_some rfl ?_) (by repeat' first | exact wkEnv_nil | refine wkEnv_cons rfl ?_ | exact wkSto_nil | refine wkSto_none ?_ | refine wkSto_some rfl ?_) | (exfalso; omega)
      all_goals first
        | (exfalso; omega)
        | (rw [e]; omega)
        | (have ok : okB (bt m.f0 i) = true := by simp only [okB, decide_eq_true_eq]; omega
           rw [e, ← he, ok]; rfl)
        | (have ok : okB (bt m.f0 i) = false := by simp only [okB, decide_eq_false_iff_not]; omega
           have hn : nameOk m.f0 = false := by rw [hn, ← he, ok]; rfl
           unfold mvOk; rw [hn]; rfl)
  repeat' (conv => arg 4; whnf); first | refine Run.ret ⟨?_, rfl⟩ | refine Run.condT ?_ | refine Run.condf ?_ | refine Run.condD (fun h => ?_) (fun h => ?_) | refine Run.condN (fun h => ?_) (fun h => ?_) | refine Run.condE (fun h => ?_) (fun h => ?_) | refine Run.condF (fun h => ?_) (fun h => ?_) | refine Run.condM (fun h => ?_) (fun h => ?_) | refine Run.condB (fun h => ?_) (fun h => ?_) | refine Run.check1 ?_ | refine Run.call (in_ok _ _ _) rfl ?_ | refine Run.round ⟨[(.t 1 0, .t 1 0)], [], []⟩ (loop ?_ ?_ ?_ ?_ ?_ m.f0.size 0 ?_ ?_ ?_) rfl (by repeat' first | exact wkEnv_nil | refine wkEnv_cons rfl ?_ | exact wkSto_nil | refine wkSto_none ?_ | refine wkSto_some rfl ?_) (by repeat' first | exact wkEnv_nil | refine wkEnv_cons rfl ?_ | exact wkSto_nil | refine wkSto_none ?_ | refine wkSto_some rfl ?_)
  all_goals first
    | omega
    | rfl
    | (refine vb ?_; rw [mvOk_true, nameOk_true]; simp only [Bool.false_eq_true, false_iff]; omega)
    | trace_state
end Go.Proofs.Ytpdmimlkgmhepaa.AM

/- Plain models: moves that are ok together, ticks that fit, costs; no condition. -/
namespace Go.AM
set_option linter.unusedVariables false
set_option linter.unusedSimpArgs false
open Go.RowKit

def at' (l : List Mv) (i : Nat) : Mv := l.getD i Mv.z
def tk (t : List Int) (i : Nat) : Int := t.getD i 0
theorem rdM_nat (l : List Mv) (i : Nat) : rdM l (i : Int) = at' l i := by simp [rdM, at']
theorem rd_nat (l : List Int) (i : Nat) : rd l (i : Int) = tk l i := by simp [rd, tk]
def ltN (a b : ByteArray) : Bool := Op.bytesLess a.toList b.toList
/-- Place i is ok, and above the one ahead. -/
def OkAt (l : List Mv) (i : Nat) : Prop := mvOk (at' l i) = true ∧ (0 < i → ltN (at' l (i - 1)).f0 (at' l i).f0 = true)
instance (l : List Mv) (i : Nat) : Decidable (OkAt l i) := by unfold OkAt; infer_instance
def MovesOk (l : List Mv) : Prop := l.length ≤ 6 ∧ ∀ i, i < l.length → OkAt l i
instance (l : List Mv) : Decidable (MovesOk l) := by unfold MovesOk; infer_instance
def W64 (n : Int) : Prop := -9223372036854775808 ≤ n ∧ n ≤ 9223372036854775807
def TkWf (t : List Int) : Prop := ∀ i, i < t.length → W64 (tk t i)
/-- Tick i is within its move's bounds. -/
def InR (l : List Mv) (t : List Int) (i : Nat) : Prop := ((at' l i).f3 ≤ tk t i ∧ tk t i ≤ (at' l i).f4) ∧ (0 ≤ (at' l i).f5 → tk t i = (at' l i).f5)
/-- Place k is far enough behind place i, if it is behind. -/
def Ap (l : List Mv) (t : List Int) (i k : Nat) : Prop := tk t i ≠ tk t k ∧ (tk t i < tk t k → gap (at' l i) (at' l k) ≤ tk t k - tk t i)
instance (l : List Mv) (t : List Int) (i : Nat) : Decidable (InR l t i) := by unfold InR; infer_instance
instance (l : List Mv) (t : List Int) (i k : Nat) : Decidable (Ap l t i k) := by unfold Ap; infer_instance
def FitsAt (l : List Mv) (t : List Int) (i : Nat) : Prop := InR l t i ∧ ∀ k, k < l.length → k ≠ i → Ap l t i k
instance (l : List Mv) (t : List Int) (i : Nat) : Decidable (FitsAt l t i) := by unfold FitsAt; infer_instance
def Fits (l : List Mv) (t : List Int) : Prop := MovesOk l ∧ t.length = l.length ∧ ∀ i, i < l.length → FitsAt l t i
instance (l : List Mv) (t : List Int) : Decidable (Fits l t) := by unfold Fits; infer_instance
theorem mvOk_range {m : Mv} (h : mvOk m = true) : 1 ≤ m.f0.size ∧ m.f0.size ≤ 8 ∧ 1 ≤ m.f2 ∧ m.f2 ≤ 3 ∧ 0 ≤ m.f3 ∧ m.f3 ≤ m.f4 ∧ m.f4 ≤ 10000 ∧ (m.f5 = -1 ∨ m.f3 ≤ m.f5 ∧ m.f5 ≤ m.f4) := by
  rw [mvOk_true, nameOk_true] at h
  exact ⟨h.1.1.1, h.1.1.2, h.2⟩
/-- What the reference asks at a place. -/
def FitsSp (l : List Mv) (t : List Int) (i : Nat) : Prop := InR l t i ∧ ∀ k, k < i → Ap l t k i ∧ Ap l t i k
theorem fitsSp_iff (l : List Mv) (t : List Int) : (∀ i, i < l.length → FitsSp l t i) ↔ ∀ i, i < l.length → FitsAt l t i := by
  constructor
  · intro h i hi
    refine ⟨(h i hi).1, fun k hk hne => ?_⟩
    rcases Nat.lt_or_ge k i with hlt | hge
    · exact ((h i hi).2 k hlt).2
    · exact ((h k hk).2 i (by omega)).1
  · intro h i hi
    exact ⟨(h i hi).1, fun k hk => ⟨(h k (by omega)).2 i hi (by omega), (h i hi).2 k (by omega) (by omega)⟩⟩
theorem fits_no {l : List Mv} {t : List Int} (h : ¬ Fits l t) : V.one (A.bool false) = V.one (A.bool (decide (Fits l t))) := by rw [decide_eq_false h]
theorem fits_yes {l : List Mv} {t : List Int} (h : Fits l t) : V.one (A.bool true) = V.one (A.bool (decide (Fits l t))) := by rw [decide_eq_true h]

theorem inR_range {l : List Mv} {t : List Int} {i : Nat} (hm : MovesOk l) (hi : i < l.length) (h : InR l t i) : 0 ≤ tk t i ∧ tk t i ≤ 10000 := by
  have hmi := mvOk_range (hm.2 i hi).1
  have hir := h.1
  omega

/-- d steps from place i on. -/
def foldFrom {σ : Type} (step : Nat → σ → σ) : Nat → Nat → σ → σ
  | _, 0, s => s
  | i, d + 1, s => foldFrom step (i + 1) d (step i s)
theorem foldFrom_last {σ : Type} (step : Nat → σ → σ) (d : Nat) : ∀ i s, foldFrom step i (d + 1) s = step (i + d) (foldFrom step i d s) := by
  induction d with
  | zero => intro i s; rfl
  | succ d ih =>
    intro i s
    show foldFrom step (i + 1) (d + 1) (step i s) = _
    rw [ih, show i + 1 + d = i + (d + 1) by omega]
    rfl
theorem foldFrom_inv {σ : Type} {step : Nat → σ → σ} (I : Nat → σ → Prop) {n : Nat} (hI : ∀ i s, i < n → I i s → I (i + 1) (step i s)) : ∀ d i s, i + d ≤ n → I i s → I (i + d) (foldFrom step i d s) := by
  intro d
  induction d with
  | zero => intro i s _ h; exact h
  | succ d ih =>
    intro i s hd h
    have := ih (i + 1) (step i s) (by omega) (hI i s (by omega) h)
    rwa [show i + 1 + d = i + (d + 1) by omega] at this
theorem foldFrom_congr {σ : Type} {f g : Nat → σ → σ} : ∀ d i s, (∀ j s, i ≤ j → j < i + d → f j s = g j s) → foldFrom f i d s = foldFrom g i d s := by
  intro d
  induction d with
  | zero => intro i s _; rfl
  | succ d ih =>
    intro i s h
    show foldFrom f (i + 1) d (f i s) = foldFrom g (i + 1) d (g i s)
    rw [h i s (Nat.le_refl _) (by omega)]
    exact ih _ _ fun j s h1 h2 => h j s (by omega) (by omega)
/-- How late a place is. -/
def dl (l : List Mv) (t : List Int) (i : Nat) : Int := tk t i - (at' l i).f3
def cStep (l : List Mv) (t : List Int) (i : Nat) (s : Int × Int) : Int × Int := (s.1 + dl l t i, max s.2 (dl l t i))
def costM (l : List Mv) (t : List Int) : Int × Int := foldFrom (cStep l t) 0 l.length (0, 0)
def CInv (i : Nat) (s : Int × Int) : Prop := 0 ≤ s.1 ∧ s.1 ≤ (i : Int) * 10000 ∧ 0 ≤ s.2 ∧ s.2 ≤ 10000
theorem cInv_step {l : List Mv} {t : List Int} {i : Nat} {s : Int × Int} (hd : 0 ≤ dl l t i ∧ dl l t i ≤ 10000) (h : CInv i s) : CInv (i + 1) (cStep l t i s) := by
  unfold CInv cStep at *
  dsimp only
  omega
/-- What holds of moves and ticks that are not ahead of them. -/
def DlOk (l : List Mv) (t : List Int) : Prop := t.length = l.length ∧ l.length ≤ 6 ∧ ∀ i, i < l.length → 0 ≤ dl l t i ∧ dl l t i ≤ 10000
theorem fits_dl {l : List Mv} {t : List Int} (h : Fits l t) : DlOk l t := by
  refine ⟨h.2.1, h.1.1, fun i hi => ?_⟩
  have hmi := mvOk_range (h.1.2 i hi).1
  have hir := (h.2.2 i hi).1.1
  unfold dl
  omega
theorem costM_inv {l : List Mv} {t : List Int} (h : DlOk l t) : CInv l.length (costM l t) := by
  have := foldFrom_inv (step := cStep l t) CInv (n := l.length) (fun i s hi hs => cInv_step (h.2.2 i hi) hs) l.length 0 (0, 0) (by omega) (by unfold CInv; simp)
  simpa [costM] using this
def costF (l : List Mv) (t : List Int) : Int × Int := if Fits l t then costM l t else (0, 0)
def ap2 (a : Mv) (s : Int) (b : Mv) (t : Int) : Prop := s ≠ t ∧ (s < t → gap a b ≤ t - s) ∧ (t < s → gap b a ≤ s - t)
instance (a : Mv) (s : Int) (b : Mv) (t : Int) : Decidable (ap2 a s b t) := by unfold ap2; infer_instance
end Go.AM

/- StripMovesOk, the program's and the reference's; no condition. -/
namespace Go.Proofs.Ytpdmimlkgmhepaa.AM
open Go.AM Go.RowKit
set_option linter.unusedVariables false
set_option linter.unusedSimpArgs false
set_option maxRecDepth 100000

theorem movesOk_ok (l : List Mv) : Ok P 18 [.one (.lst .mv l false)] [] (.one (.bool (decide (MovesOk l)))) [] := by
  refine Ok.of_run (F := mk Try.f18 0) Try.func18 rfl rfl tabOk mixed rfl rfl rfl rfl rfl (Nat.le_of_ble_eq_true rfl) (Nat.le_of_ble_eq_true rfl) (.go 5000 ?_)
  have loop : l.length ≤ 6 → ∀ (d i : Nat) (z : Int), z = i → i + d = l.length → (∀ j, j < i → OkAt l j) → Run P (mk Try.f18 0) (fun v st => v = .one (.bool (decide (MovesOk l))) ∧ st = []) (.loop ⟨[(0, .one (.lst .mv l false)), (8, .one (.lst .mv l false)), (9, .one (.int .i64 (l.length : Int))), (10, .one (.int .i64 z))], [], [.lp [0, 1, 0, 1, 1], .blk 0, .code [1, 1, 1]], none⟩) := by
    intro h6 d
    induction d with
    | zero =>
      intro i z hz hd hall
      subst hz
      refine Run.loop ?_
      repeat' (conv => arg 4; whnf); first | refine Run.ret ⟨?_, rfl⟩ | refine Run.condT ?_ | refine Run.condf ?_ | refine Run.condD (fun h => ?_) (fun h => ?_) | refine Run.condN (fun h => ?_) (fun h => ?_) | refine Run.condE (fun h => ?_) (fun h => ?_) | refine Run.condF (fun h => ?_) (fun h => ?_) | refine Run.condM (fun h => ?_) (fun h => ?_) | refine Run.condB (fun h => ?_) (fun h => ?_) | refine Run.check1 ?_ | (exfalso; omega)
      all_goals first
        | (exfalso; omega)
        | (refine vb ?_; simp only [decide_eq_true_eq, true_iff]; exact ⟨h6, fun j hj => hall j (by omega)⟩)
    | succ d ih =>
      intro i z hz hd hall
      subst hz
      have e : wrap64 ((i : Int) + 1) = ((i + 1 : Nat) : Int) := wrap_eq (by omega) (by omega)
      have e0 : 0 < i → wrap64 ((i : Int) - 1) = ((i - 1 : Nat) : Int) := fun h => (wrap_eq (by omega) (by omega)).trans (by omega)
      have no : ¬ OkAt l i → V.one (A.bool false) = V.one (A.bool (decide (MovesOk l))) := fun h => vb (by simp only [Bool.false_eq_true, decide_eq_true_eq, false_iff]; exact fun k => h (k.2 i (by omega)))
      refine Run.loop ?_
      repeat' (conv => arg 4; whnf); first | refine Run.ret ⟨?_, rfl⟩ | refine Run.condT ?_ | refine Run.condf ?_ | refine Run.condD (fun h => ?_) (fun h => ?_) | refine Run.condN (fun h => ?_) (fun h => ?_) | refine Run.condE (fun h => ?_) (fun h => ?_) | refine Run.condF (fun h => ?_) (fun h => ?_) | refine Run.condM (fun h => ?_) (fun h => ?_) | refine Run.condB (fun h => ?_) (fun h => ?_) | refine Run.check1 ?_ | refine Run.call (moveOk_ok _) rfl ?_ | refine Run.need1 (⟨by omega, by omega⟩) ?_ | refine Run.need1 (⟨by rw [e0 (by omega)]; omega, by rw [e0 (by omega)]; omega⟩) ?_ | refine Run.round ⟨[], [], []⟩ (ih (i + 1) _ e (by omega) ?_) rfl (by repeat' first | exact wkEnv_nil | refine wkEnv_cons rfl ?_ | exact wkSto_nil | refine wkSto_none ?_ | refine wkSto_some rfl ?_) (by repeat' first | exact wkEnv_nil | refine wkEnv_cons rfl ?_ | exact wkSto_nil | refine wkSto_none ?_ | refine wkSto_some rfl ?_) | (exfalso; omega)
      all_goals first
        | (exfalso; omega)
        | (refine no fun k => ?_; have k1 := k.1; rw [← rdM_nat] at k1; simp_all; done)
        | (refine no fun k => ?_; have k2 := k.2 (by omega); rw [← rdM_nat, ← rdM_nat, ← e0 (by omega)] at k2; simp_all [ltN]; done)
        | (intro j hj; rcases Nat.lt_or_ge j i with h1 | h1
           · exact hall j h1
           · obtain rfl : j = i := by omega
             refine ⟨by rw [← rdM_nat]; assumption, fun h0 => ?_⟩
             first | (exfalso; omega) | (rw [← rdM_nat, ← rdM_nat, ← e0 (by omega)]; assumption))
  repeat' (conv => arg 4; whnf); first | refine Run.ret ⟨?_, rfl⟩ | refine Run.condT ?_ | refine Run.condf ?_ | refine Run.condD (fun h => ?_) (fun h => ?_) | refine Run.condN (fun h => ?_) (fun h => ?_) | refine Run.condE (fun h => ?_) (fun h => ?_) | refine Run.condF (fun h => ?_) (fun h => ?_) | refine Run.condM (fun h => ?_) (fun h => ?_) | refine Run.condB (fun h => ?_) (fun h => ?_) | refine Run.check1 ?_ | refine Run.round ⟨[], [], []⟩ (loop ?_ l.length 0 _ rfl ?_ ?_) rfl (by repeat' first | exact wkEnv_nil | refine wkEnv_cons rfl ?_ | exact wkSto_nil | refine wkSto_none ?_ | refine wkSto_some rfl ?_) (by repeat' first | exact wkEnv_nil | refine wkEnv_cons rfl ?_ | exact wkSto_nil | refine wkSto_none ?_ | refine wkSto_some rfl ?_)
  all_goals first | omega | (refine vb ?_; simp only [Bool.false_eq_true, decide_eq_true_eq, false_iff]; exact fun k => by have := k.1; omega)
theorem smovesOk_ok (l : List Mv) : Ok P 16 [.one (.lst .mv l false)] [] (.one (.bool (decide (MovesOk l)))) [] := by
  refine Ok.of_run (F := mk Try.f16 0) Try.func16 rfl rfl tabOk mixed rfl rfl rfl rfl rfl (Nat.le_of_ble_eq_true rfl) (Nat.le_of_ble_eq_true rfl) (.go 5000 ?_)
  have loop : l.length ≤ 6 → ∀ (d i : Nat) (z : Int), z = i → i + d = l.length → (∀ j, j < i → OkAt l j) → Run P (mk Try.f16 0) (fun v st => v = .one (.bool (decide (MovesOk l))) ∧ st = []) (.loop ⟨[(0, .one (.lst .mv l false)), (3, .one (.int .i64 z))], [], [.lp [0, 1, 0, 1, 1], .blk 0, .code [1, 1, 1]], none⟩) := by
    intro h6 d
    induction d with
    | zero =>
      intro i z hz hd hall
      subst hz
      refine Run.loop ?_
      repeat' (conv => arg 4; whnf); first | refine Run.ret ⟨?_, rfl⟩ | refine Run.condT ?_ | refine Run.condf ?_ | refine Run.condD (fun h => ?_) (fun h => ?_) | refine Run.condN (fun h => ?_) (fun h => ?_) | refine Run.condE (fun h => ?_) (fun h => ?_) | refine Run.condF (fun h => ?_) (fun h => ?_) | refine Run.condM (fun h => ?_) (fun h => ?_) | refine Run.condB (fun h => ?_) (fun h => ?_) | refine Run.check1 ?_ | (exfalso; omega)
      all_goals first
        | (exfalso; omega)
        | (refine vb ?_; simp only [decide_eq_true_eq, true_iff]; exact ⟨h6, fun j hj => hall j (by omega)⟩)
    | succ d ih =>
      intro i z hz hd hall
      subst hz
      have e : wrap64 ((i : Int) + 1) = ((i + 1 : Nat) : Int) := wrap_eq (by omega) (by omega)
      have e0 : 0 < i → wrap64 ((i : Int) - 1) = ((i - 1 : Nat) : Int) := fun h => (wrap_eq (by omega) (by omega)).trans (by omega)
      have no : ¬ OkAt l i → V.one (A.bool false) = V.one (A.bool (decide (MovesOk l))) := fun h => vb (by simp only [Bool.false_eq_true, decide_eq_true_eq, false_iff]; exact fun k => h (k.2 i (by omega)))
      refine Run.loop ?_
      repeat' (conv => arg 4; whnf); first | refine Run.ret ⟨?_, rfl⟩ | refine Run.condT ?_ | refine Run.condf ?_ | refine Run.condD (fun h => ?_) (fun h => ?_) | refine Run.condN (fun h => ?_) (fun h => ?_) | refine Run.condE (fun h => ?_) (fun h => ?_) | refine Run.condF (fun h => ?_) (fun h => ?_) | refine Run.condM (fun h => ?_) (fun h => ?_) | refine Run.condB (fun h => ?_) (fun h => ?_) | refine Run.check1 ?_ | refine Run.call (smoveOk_ok _) rfl ?_ | refine Run.need1 (⟨by omega, by omega⟩) ?_ | refine Run.need1 (⟨⟨by rw [e0 (by omega)]; omega, by rw [e0 (by omega)]; omega⟩, by omega, by omega⟩) ?_ | refine Run.need1 (⟨by rw [e0 (by omega)]; omega, by rw [e0 (by omega)]; omega⟩) ?_ | refine Run.round ⟨[], [], []⟩ (ih (i + 1) _ e (by omega) ?_) rfl (by repeat' first | exact wkEnv_nil | refine wkEnv_cons rfl ?_ | exact wkSto_nil | refine wkSto_none ?_ | refine wkSto_some rfl ?_) (by repeat' first | exact wkEnv_nil | refine wkEnv_cons rfl ?_ | exact wkSto_nil | refine wkSto_none ?_ | refine wkSto_some rfl ?_) | (exfalso; omega)
      all_goals first
        | (exfalso; omega)
        | (refine no fun k => ?_; have k1 := k.1; rw [← rdM_nat] at k1; simp_all; done)
        | (refine no fun k => ?_; have k2 := k.2 (by omega); rw [← rdM_nat, ← rdM_nat, ← e0 (by omega)] at k2; simp_all [ltN]; done)
        | (intro j hj; rcases Nat.lt_or_ge j i with h1 | h1
           · exact hall j h1
           · obtain rfl : j = i := by omega
             refine ⟨by rw [← rdM_nat]; assumption, fun h0 => ?_⟩
             first | (exfalso; omega) | (rw [← rdM_nat, ← rdM_nat, ← e0 (by omega)]; assumption))
        | trace_state
  repeat' (conv => arg 4; whnf); first | refine Run.ret ⟨?_, rfl⟩ | refine Run.condT ?_ | refine Run.condf ?_ | refine Run.condD (fun h => ?_) (fun h => ?_) | refine Run.condN (fun h => ?_) (fun h => ?_) | refine Run.condE (fun h => ?_) (fun h => ?_) | refine Run.condF (fun h => ?_) (fun h => ?_) | refine Run.condM (fun h => ?_) (fun h => ?_) | refine Run.condB (fun h => ?_) (fun h => ?_) | refine Run.check1 ?_ | refine Run.round ⟨[], [], []⟩ (loop ?_ l.length 0 _ rfl ?_ ?_) rfl (by repeat' first | exact wkEnv_nil | refine wkEnv_cons rfl ?_ | exact wkSto_nil | refine wkSto_none ?_ | refine wkSto_some rfl ?_) (by repeat' first | exact wkEnv_nil | refine wkEnv_cons rfl ?_ | exact wkSto_nil | refine wkSto_none ?_ | refine wkSto_some rfl ?_)
  all_goals first | omega | (refine vb ?_; simp only [Bool.false_eq_true, decide_eq_true_eq, false_iff]; exact fun k => by have := k.1; omega) | trace_state
end Go.Proofs.Ytpdmimlkgmhepaa.AM

/- StripFits, the program's and the reference's; condition: the ticks are of 64 bits. -/
namespace Go.Proofs.Ytpdmimlkgmhepaa.AM
open Go.AM Go.RowKit
set_option linter.unusedVariables false
set_option linter.unusedSimpArgs false
set_option maxRecDepth 100000

theorem fits_ok (l : List Mv) (t : List Int) (hw : TkWf t) : Ok P 21 [.one (.lst .mv l false), .one (.lst (.int .i64) t false)] [] (.one (.bool (decide (Fits l t)))) [] := by
  refine Ok.of_run (F := mk Try.f21 0) Try.func21 rfl rfl tabOk mixed rfl rfl rfl rfl rfl (Nat.le_of_ble_eq_true rfl) (Nat.le_of_ble_eq_true rfl) (.go 5000 ?_)
  have outer : MovesOk l → t.length = l.length → ∀ (d i : Nat) (z : Int), z = i → i + d = l.length → (∀ j, j < i → FitsAt l t j) → Run P (mk Try.f21 0) (fun v st => v = .one (.bool (decide (Fits l t))) ∧ st = []) (.loop ⟨[(0, .one (.lst .mv l false)), (1, .one (.lst (.int .i64) t false)), (19, .one (.lst .mv l false)), (20, .one (.int .i64 (l.length : Int))), (21, .one (.int .i64 z))], [], [.lp [0, 1, 0, 1, 1], .blk 0, .code [1, 1, 1]], none⟩) := by
    intro hm hlen d
    have h6 := hm.1
    induction d with
    | zero =>
      intro i z hz hd hall
      subst hz
      refine Run.loop ?_
      repeat' (conv => arg 4; whnf); first | refine Run.ret ⟨?_, rfl⟩ | refine Run.condT ?_ | refine Run.condf ?_ | refine Run.condD (fun h => ?_) (fun h => ?_) | refine Run.condN (fun h => ?_) (fun h => ?_) | refine Run.condE (fun h => ?_) (fun h => ?_) | refine Run.condF (fun h => ?_) (fun h => ?_) | refine Run.condM (fun h => ?_) (fun h => ?_) | refine Run.condB (fun h => ?_) (fun h => ?_) | refine Run.check1 ?_ | (exfalso; omega)
      all_goals first
        | (exfalso; omega)
        | exact fits_yes ⟨hm, hlen, fun j hj => hall j (by omega)⟩
    | succ d ih =>
      intro i z hz hd hall
      subst hz
      have e : wrap64 ((i : Int) + 1) = ((i + 1 : Nat) : Int) := wrap_eq (by omega) (by omega)
      have no : ¬ FitsAt l t i → V.one (A.bool false) = V.one (A.bool (decide (Fits l t))) := fun h => fits_no fun k => h (k.2.2 i (by omega))
      have inner : InR l t i → ∀ (c k : Nat) (z : Int), z = k → k + c = l.length → (∀ j, j < k → j ≠ i → Ap l t i j) → Run P (mk Try.f21 0) (fun v st => v = .one (.bool (decide (Fits l t))) ∧ st = []) (.loop ⟨[(0, .one (.lst .mv l false)), (1, .one (.lst (.int .i64) t false)), (5, .one (.int .i64 (i : Int))), (6, .one (.ptr (.t 6 0) 0)), (19, .one (.lst .mv l false)), (20, .one (.int .i64 (l.length : Int))), (21, .one (.int .i64 (i : Int))), (50, .one (.lst .mv l false)), (51, .one (.int .i64 (l.length : Int))), (52, .one (.int .i64 z))], [(.t 6 0, some (.cells (encMv (rdM l i))))], [.lp [0, 1, 1, 1, 0, 0, 1, 1, 0, 0, 1, 0, 1, 1], .blk 2, .blk 1, .code [1, 1, 1, 0, 0, 1, 0, 1, 1], .lp [0, 1, 0, 1, 1], .blk 0, .code [1, 1, 1]], none⟩) := by
        intro hin c
        have hr := inR_range hm (by omega) hin
        induction c with
        | zero =>
          intro k z hz hc hap
          subst hz
          refine Run.loop ?_
          repeat' (conv => arg 4; whnf); first | refine Run.ret ⟨?_, rfl⟩ | refine Run.condT ?_ | refine Run.condf ?_ | refine Run.condD (fun h => ?_) (fun h => ?_) | refine Run.condN (fun h => ?_) (fun h => ?_) | refine Run.condE (fun h => ?_) (fun h => ?_) | refine Run.condF (fun h => ?_) (fun h => ?_) | refine Run.condM (fun h => ?_) (fun h => ?_) | refine Run.condB (fun h => ?_) (fun h => ?_) | refine Run.check1 ?_ | (exfalso; omega) | refine Run.round ⟨[], [], []⟩ (ih (i + 1) _ e (by omega) ?_) rfl (by repeat' first | exact wkEnv_nil | refine wkEnv_cons rfl ?_ | exact wkSto_nil | refine wkSto_none ?_ | refine wkSto_some rfl ?_) (by repeat' first | exact wkEnv_nil | refine wkEnv_cons rfl ?_ | exact wkSto_nil | refine wkSto_none ?_ | refine wkSto_some rfl ?_)
          all_goals first
            | (exfalso; omega)
            | (intro j hj; rcases Nat.lt_or_ge j i with h1 | h1
               · exact hall j h1
               · obtain rfl : j = i := by omega
                 exact ⟨hin, fun q hq => hap q (by omega)⟩)
        | succ c ihc =>
          intro k z hz hc hap
          subst hz
          have e2 : wrap64 ((k : Int) + 1) = ((k + 1 : Nat) : Int) := wrap_eq (by omega) (by omega)
          have hA : Ap l t i k ↔ (rd t i ≠ rd t k ∧ (rd t i < rd t k → gap (rdM l i) (rdM l k) ≤ wrap64 (rd t k - rd t i))) := by
            have hk := hw k (by omega)
            unfold W64 at hk
            simp only [rdM_nat, rd_nat, Ap]
            refine and_congr_right fun _ => imp_congr_right fun h => ?_
            rw [wrap_eq (by omega) (by omega)]
          refine Run.loop ?_
          repeat' (conv => arg 4; whnf); first | refine Run.ret ⟨?_, rfl⟩ | refine Run.condT ?_ | refine Run.condf ?_ | refine Run.condD (fun h => ?_) (fun h => ?_) | refine Run.condN (fun h => ?_) (fun h => ?_) | refine Run.condE (fun h => ?_) (fun h => ?_) | refine Run.condF (fun h => ?_) (fun h => ?_) | refine Run.condM (fun h => ?_) (fun h => ?_) | refine Run.condB (fun h => ?_) (fun h => ?_) | refine Run.check1 ?_ | refine Run.call (gap_ok _ _) rfl ?_ | refine Run.need1 (by simp only [allP]; omega) ?_ | refine Run.round ⟨[(.t 6 0, .t 6 0)], [], []⟩ (ihc (k + 1) _ e2 (by omega) ?_) rfl (by repeat' first | exact wkEnv_nil | refine wkEnv_cons rfl ?_ | exact wkSto_nil | refine wkSto_none ?_ | refine wkSto_some rfl ?_) (by repeat' first | exact wkEnv_nil | refine wkEnv_cons rfl ?_ | exact wkSto_nil | refine wkSto_none ?_ | refine wkSto_some rfl ?_) | (exfalso; omega)
          all_goals first
            | (exfalso; omega)
            | (refine no fun q => ?_; have a := hA.1 (q.2 k (by omega) (by omega)); omega)
            | (intro j hj hne; rcases Nat.lt_or_ge j k with h1 | h1
               · exact hap j h1 hne
               · obtain rfl : j = k := by omega
                 exact hA.2 (by omega))
            | (intro j hj hne; exact hap j (by omega) hne)
            | trace_state
      have hI : InR l t i ↔ (((rdM l i).f3 ≤ rd t i ∧ rd t i ≤ (rdM l i).f4) ∧ (0 ≤ (rdM l i).f5 → rd t i = (rdM l i).f5)) := by
        simp only [rdM_nat, rd_nat, InR]
      refine Run.loop ?_
      repeat' (conv => arg 4; whnf); first | refine Run.ret ⟨?_, rfl⟩ | refine Run.condT ?_ | refine Run.condf ?_ | refine Run.condD (fun h => ?_) (fun h => ?_) | refine Run.condN (fun h => ?_) (fun h => ?_) | refine Run.condE (fun h => ?_) (fun h => ?_) | refine Run.condF (fun h => ?_) (fun h => ?_) | refine Run.condM (fun h => ?_) (fun h => ?_) | refine Run.condB (fun h => ?_) (fun h => ?_) | refine Run.check1 ?_ | refine Run.call (in_ok _ _ _) rfl ?_ | refine Run.need1 (by simp only [allP]; omega) ?_ | refine Run.round ⟨[(.t 6 0, .t 6 0)], [], []⟩ (inner ?_ l.length 0 _ rfl ?_ ?_) rfl (by repeat' first | exact wkEnv_nil | refine wkEnv_cons rfl ?_ | exact wkSto_nil | refine wkSto_none ?_ | refine wkSto_some rfl ?_) (by repeat' first | exact wkEnv_nil | refine wkEnv_cons rfl ?_ | exact wkSto_nil | refine wkSto_none ?_ | refine wkSto_some rfl ?_) | (exfalso; omega)
      all_goals first
        | (exfalso; omega)
        | omega
        | (refine no fun q => ?_; have a := hI.1 q.1; omega)
        | exact hI.2 (by omega)
        | trace_state
  repeat' (conv => arg 4; whnf); first | refine Run.ret ⟨?_, rfl⟩ | refine Run.condT ?_ | refine Run.condf ?_ | refine Run.condD (fun h => ?_) (fun h => ?_) | refine Run.condN (fun h => ?_) (fun h => ?_) | refine Run.condE (fun h => ?_) (fun h => ?_) | refine Run.condF (fun h => ?_) (fun h => ?_) | refine Run.condM (fun h => ?_) (fun h => ?_) | refine Run.condB (fun h => ?_) (fun h => ?_) | refine Run.check1 ?_ | refine Run.call (movesOk_ok _) rfl ?_ | refine Run.round ⟨[], [], []⟩ (outer ?_ ?_ l.length 0 _ rfl ?_ ?_) rfl (by repeat' first | exact wkEnv_nil | refine wkEnv_cons rfl ?_ | exact wkSto_nil | refine wkSto_none ?_ | refine wkSto_some rfl ?_) (by repeat' first | exact wkEnv_nil | refine wkEnv_cons rfl ?_ | exact wkSto_nil | refine wkSto_none ?_ | refine wkSto_some rfl ?_)
  all_goals first
    | omega
    | assumption
    | (refine fits_no fun k => ?_; have := k.1; have := k.2.1; simp_all; done)
    | trace_state
end Go.Proofs.Ytpdmimlkgmhepaa.AM

/- StripFits of the reference, StripCost; condition: the ticks are of 64 bits. -/
namespace Go.Proofs.Ytpdmimlkgmhepaa.AM
open Go.AM Go.RowKit
set_option linter.unusedVariables false
set_option linter.unusedSimpArgs false
set_option maxRecDepth 100000

theorem sapart_ok (a : Mv) (s : Int) (b : Mv) (t : Int) (hs : 0 ≤ s ∧ s ≤ 10000) (ht : 0 ≤ t ∧ t ≤ 10000) : Ok P 57 [.agg (encMv a), .one (.int .i64 s), .agg (encMv b), .one (.int .i64 t)] [] (.one (.bool (decide (ap2 a s b t)))) [] := by
  refine Ok.of_run (F := mk Try.f57 0) Try.func57 rfl rfl tabOk mixed rfl rfl rfl rfl rfl (Nat.le_of_ble_eq_true rfl) (Nat.le_of_ble_eq_true rfl) (.go 5000 ?_)
  have e1 : wrap64 (s - t) = s - t := wrap_eq (by omega) (by omega)
  have e2 : wrap64 (t - s) = t - s := wrap_eq (by omega) (by omega)
  repeat' (conv => arg 4; whnf); first | refine Run.ret ⟨?_, rfl⟩ | refine Run.condT ?_ | refine Run.condf ?_ | refine Run.condD (fun h => ?_) (fun h => ?_) | refine Run.condN (fun h => ?_) (fun h => ?_) | refine Run.condE (fun h => ?_) (fun h => ?_) | refine Run.condF (fun h => ?_) (fun h => ?_) | refine Run.condM (fun h => ?_) (fun h => ?_) | refine Run.condB (fun h => ?_) (fun h => ?_) | refine Run.check1 ?_ | refine Run.call (sgap_ok _ _) rfl ?_
  all_goals (refine vb ?_; rw [decide_eq_true_eq (p := ap2 _ _ _ _)]; unfold ap2; simp only [decide_eq_true_eq, e1, e2, Bool.false_eq_true, false_iff]; omega)
theorem sfits_ok (l : List Mv) (t : List Int) (hw : TkWf t) : Ok P 20 [.one (.lst .mv l false), .one (.lst (.int .i64) t false)] [] (.one (.bool (decide (Fits l t)))) [] := by
  refine Ok.of_run (F := mk Try.f20 0) Try.func20 rfl rfl tabOk mixed rfl rfl rfl rfl rfl (Nat.le_of_ble_eq_true rfl) (Nat.le_of_ble_eq_true rfl) (.go 5000 ?_)
  have outer : MovesOk l → t.length = l.length → ∀ (d i : Nat) (z : Int), z = i → i + d = l.length → (∀ j, j < i → FitsSp l t j) → Run P (mk Try.f20 0) (fun v st => v = .one (.bool (decide (Fits l t))) ∧ st = []) (.loop ⟨[(0, .one (.lst .mv l false)), (1, .one (.lst (.int .i64) t false)), (5, .one (.int .i64 z))], [], [.lp [0, 1, 0, 1, 1], .blk 0, .code [1, 1, 1]], none⟩) := by
    intro hm hlen d
    have h6 := hm.1
    induction d with
    | zero =>
      intro i z hz hd hall
      subst hz
      refine Run.loop ?_
      repeat' (conv => arg 4; whnf); first | refine Run.ret ⟨?_, rfl⟩ | refine Run.condT ?_ | refine Run.condf ?_ | refine Run.condD (fun h => ?_) (fun h => ?_) | refine Run.condN (fun h => ?_) (fun h => ?_) | refine Run.condE (fun h => ?_) (fun h => ?_) | refine Run.condF (fun h => ?_) (fun h => ?_) | refine Run.condM (fun h => ?_) (fun h => ?_) | refine Run.condB (fun h => ?_) (fun h => ?_) | refine Run.check1 ?_ | (exfalso; omega)
      all_goals first
        | (exfalso; omega)
        | exact fits_yes ⟨hm, hlen, (fitsSp_iff l t).1 fun j hj => hall j (by omega)⟩
    | succ d ih =>
      intro i z hz hd hall
      subst hz
      have e : wrap64 ((i : Int) + 1) = ((i + 1 : Nat) : Int) := wrap_eq (by omega) (by omega)
      have no : ¬ FitsSp l t i → V.one (A.bool false) = V.one (A.bool (decide (Fits l t))) := fun h => fits_no fun k => h ((fitsSp_iff l t).2 k.2.2 i (by omega))
      have inner : InR l t i → ∀ (c k : Nat) (z : Int), z = k → k + c = i → (∀ j, j < k → Ap l t j i ∧ Ap l t i j) → Run P (mk Try.f20 0) (fun v st => v = .one (.bool (decide (Fits l t))) ∧ st = []) (.loop ⟨[(0, .one (.lst .mv l false)), (1, .one (.lst (.int .i64) t false)), (5, .one (.int .i64 (i : Int))), (6, .one (.int .i64 z))], [], [.lp [0, 1, 1, 0, 0, 1, 0, 0, 1, 0, 1, 1], .blk 2, .blk 1, .code [1, 1, 0, 0, 1, 0, 1, 1], .lp [0, 1, 0, 1, 1], .blk 0, .code [1, 1, 1]], none⟩) := by
        intro hin c
        have hr := inR_range hm (by omega) hin
        induction c with
        | zero =>
          intro k z hz hc hap
          subst hz
          refine Run.loop ?_
          repeat' (conv => arg 4; whnf); first | refine Run.ret ⟨?_, rfl⟩ | refine Run.condT ?_ | refine Run.condf ?_ | refine Run.condD (fun h => ?_) (fun h => ?_) | refine Run.condN (fun h => ?_) (fun h => ?_) | refine Run.condE (fun h => ?_) (fun h => ?_) | refine Run.condF (fun h => ?_) (fun h => ?_) | refine Run.condM (fun h => ?_) (fun h => ?_) | refine Run.condB (fun h => ?_) (fun h => ?_) | refine Run.check1 ?_ | (exfalso; omega) | refine Run.round ⟨[], [], []⟩ (ih (i + 1) _ e (by omega) ?_) rfl (by repeat' first | exact wkEnv_nil | refine wkEnv_cons rfl ?_ | exact wkSto_nil | refine wkSto_none ?_ | refine wkSto_some rfl ?_) (by repeat' first | exact wkEnv_nil | refine wkEnv_cons rfl ?_ | exact wkSto_nil | refine wkSto_none ?_ | refine wkSto_some rfl ?_)
          all_goals first
            | (exfalso; omega)
            | (intro j hj; rcases Nat.lt_or_ge j i with h1 | h1
               · exact hall j h1
               · obtain rfl : j = i := by omega
                 exact ⟨hin, fun q hq => hap q (by omega)⟩)
        | succ c ihc =>
          intro k z hz hc hap
          subst hz
          have e2 : wrap64 ((k : Int) + 1) = ((k + 1 : Nat) : Int) := wrap_eq (by omega) (by omega)
          have hA : ap2 (rdM l k) (rd t k) (rdM l i) (rd t i) ↔ Ap l t k i ∧ Ap l t i k := by
            simp only [rdM_nat, rd_nat, Ap, ap2]
            omega
          have hrk := inR_range hm (i := k) (by omega) (hall k (by omega)).1
          refine Run.loop ?_
          repeat' (conv => arg 4; whnf); first | refine Run.ret ⟨?_, rfl⟩ | refine Run.condT ?_ | refine Run.condf ?_ | refine Run.condD (fun h => ?_) (fun h => ?_) | refine Run.condN (fun h => ?_) (fun h => ?_) | refine Run.condE (fun h => ?_) (fun h => ?_) | refine Run.condF (fun h => ?_) (fun h => ?_) | refine Run.condM (fun h => ?_) (fun h => ?_) | refine Run.condB (fun h => ?_) (fun h => ?_) | refine Run.check1 ?_ | refine Run.call (sapart_ok _ _ _ _ (by rw [rd_nat]; exact hrk) (by rw [rd_nat]; exact hr)) rfl ?_ | refine Run.need1 (by simp only [allP, true_and, and_true]; omega) ?_ | refine Run.round ⟨[], [], []⟩ (ihc (k + 1) _ e2 (by omega) ?_) rfl (by repeat' first | exact wkEnv_nil | refine wkEnv_cons rfl ?_ | exact wkSto_nil | refine wkSto_none ?_ | refine wkSto_some rfl ?_) (by repeat' first | exact wkEnv_nil | refine wkEnv_cons rfl ?_ | exact wkSto_nil | refine wkSto_none ?_ | refine wkSto_some rfl ?_) | (exfalso; omega)
          all_goals first
            | (exfalso; omega)
            | (refine no fun q => ?_; exact absurd (hA.2 (q.2 k (by omega))) ‹_›)
            | (intro j hj; rcases Nat.lt_or_ge j k with h1 | h1
               · exact hap j h1
               · obtain rfl : j = k := by omega
                 exact hA.1 ‹_›)
            | trace_state
      have hI : InR l t i ↔ (((rdM l i).f3 ≤ rd t i ∧ rd t i ≤ (rdM l i).f4) ∧ (0 ≤ (rdM l i).f5 → rd t i = (rdM l i).f5)) := by
        simp only [rdM_nat, rd_nat, InR]
      refine Run.loop ?_
      repeat' (conv => arg 4; whnf); first | refine Run.ret ⟨?_, rfl⟩ | refine Run.condT ?_ | refine Run.condf ?_ | refine Run.condD (fun h => ?_) (fun h => ?_) | refine Run.condN (fun h => ?_) (fun h => ?_) | refine Run.condE (fun h => ?_) (fun h => ?_) | refine Run.condF (fun h => ?_) (fun h => ?_) | refine Run.condM (fun h => ?_) (fun h => ?_) | refine Run.condB (fun h => ?_) (fun h => ?_) | refine Run.check1 ?_ | refine Run.call (sin_ok _ _ _) rfl ?_ | refine Run.need1 (by simp only [allP, true_and, and_true]; omega) ?_ | refine Run.round ⟨[], [], []⟩ (inner ?_ i 0 _ rfl ?_ ?_) rfl (by repeat' first | exact wkEnv_nil | refine wkEnv_cons rfl ?_ | exact wkSto_nil | refine wkSto_none ?_ | refine wkSto_some rfl ?_) (by repeat' first | exact wkEnv_nil | refine wkEnv_cons rfl ?_ | exact wkSto_nil | refine wkSto_none ?_ | refine wkSto_some rfl ?_) | (exfalso; omega)
      all_goals first
        | (exfalso; omega)
        | omega
        | (refine no fun q => ?_; have a := hI.1 q.1; omega)
        | exact hI.2 (by omega)
        | trace_state
  repeat' (conv => arg 4; whnf); first | refine Run.ret ⟨?_, rfl⟩ | refine Run.condT ?_ | refine Run.condf ?_ | refine Run.condD (fun h => ?_) (fun h => ?_) | refine Run.condN (fun h => ?_) (fun h => ?_) | refine Run.condE (fun h => ?_) (fun h => ?_) | refine Run.condF (fun h => ?_) (fun h => ?_) | refine Run.condM (fun h => ?_) (fun h => ?_) | refine Run.condB (fun h => ?_) (fun h => ?_) | refine Run.check1 ?_ | refine Run.call (smovesOk_ok _) rfl ?_ | refine Run.round ⟨[], [], []⟩ (outer ?_ ?_ l.length 0 _ rfl ?_ ?_) rfl (by repeat' first | exact wkEnv_nil | refine wkEnv_cons rfl ?_ | exact wkSto_nil | refine wkSto_none ?_ | refine wkSto_some rfl ?_) (by repeat' first | exact wkEnv_nil | refine wkEnv_cons rfl ?_ | exact wkSto_nil | refine wkSto_none ?_ | refine wkSto_some rfl ?_)
  all_goals first
    | omega
    | assumption
    | (refine fits_no fun k => ?_; have := k.1; have := k.2.1; simp_all; done)
    | trace_state
theorem scost2_ok (l : List Mv) (t : List Int) (h : DlOk l t) : Ok P 59 [.one (.lst .mv l false), .one (.lst (.int .i64) t false)] [] (.tup [.one (.int .i64 (costM l t).1), .one (.int .i64 (costM l t).2)]) [] := by
  refine Ok.of_run (F := mk Try.f59 0) Try.func59 rfl rfl tabOk mixed rfl rfl rfl rfl rfl (Nat.le_of_ble_eq_true rfl) (Nat.le_of_ble_eq_true rfl) (.go 5000 ?_)
  obtain ⟨hlen, h6, hd⟩ := h
  have loop : ∀ (d i : Nat) (z s m : Int), z = i → i + d = l.length → CInv i (s, m) → foldFrom (cStep l t) i d (s, m) = costM l t → Run P (mk Try.f59 0) (fun v st => v = .tup [.one (.int .i64 (costM l t).1), .one (.int .i64 (costM l t).2)] ∧ st = []) (.loop ⟨[(0, .one (.lst .mv l false)), (1, .one (.lst (.int .i64) t false)), (6, .one (.int .i64 s)), (7, .one (.int .i64 m)), (8, .one (.int .i64 z))], [], [.lp [0, 1, 0, 1, 1, 1], .blk 0, .code [1, 1, 1, 1]], none⟩) := by
    intro d
    induction d with
    | zero =>
      intro i z s m hz hi hc he
      subst hz
      refine Run.loop ?_
      repeat' (conv => arg 4; whnf); first | refine Run.ret ⟨?_, rfl⟩ | refine Run.condT ?_ | refine Run.condf ?_ | refine Run.condD (fun h => ?_) (fun h => ?_) | refine Run.condN (fun h => ?_) (fun h => ?_) | refine Run.condE (fun h => ?_) (fun h => ?_) | refine Run.condF (fun h => ?_) (fun h => ?_) | refine Run.condM (fun h => ?_) (fun h => ?_) | refine Run.condB (fun h => ?_) (fun h => ?_) | refine Run.check1 ?_ | (exfalso; omega)
      all_goals first
        | (exfalso; omega)
        | (rw [← he]; rfl)
    | succ d ih =>
      intro i z s m hz hi hc he
      subst hz
      have e : wrap64 ((i : Int) + 1) = ((i + 1 : Nat) : Int) := wrap_eq (by omega) (by omega)
      have hdi := hd i (by omega)
      have hc' := cInv_step hdi hc
      have ed : wrap64 (rd t i - (rdM l i).f3) = dl l t i := by simp only [rd_nat, rdM_nat]; exact wrap_eq (by unfold dl at hdi; omega) (by unfold dl at hdi; omega)
      have es : wrap64 (s + dl l t i) = s + dl l t i := by unfold CInv at hc; exact wrap_eq (by omega) (by omega)
      refine Run.loop ?_
      repeat' (conv => arg 4; whnf); first | refine Run.ret ⟨?_, rfl⟩ | refine Run.condT ?_ | refine Run.condf ?_ | refine Run.condD (fun h => ?_) (fun h => ?_) | refine Run.condN (fun h => ?_) (fun h => ?_) | refine Run.condE (fun h => ?_) (fun h => ?_) | refine Run.condF (fun h => ?_) (fun h => ?_) | refine Run.condM (fun h => ?_) (fun h => ?_) | refine Run.condB (fun h => ?_) (fun h => ?_) | refine Run.check1 ?_ | refine Run.need1 (by simp only [allP, true_and, and_true]; omega) ?_ | refine Run.round ⟨[], [], []⟩ (ih (i + 1) _ _ _ e (by omega) ?_ ?_) rfl (by repeat' first | exact wkEnv_nil | refine wkEnv_cons rfl ?_ | exact wkSto_nil | refine wkSto_none ?_ | refine wkSto_some rfl ?_) (by repeat' first | exact wkEnv_nil | refine wkEnv_cons rfl ?_ | exact wkSto_nil | refine wkSto_none ?_ | refine wkSto_some rfl ?_) | (exfalso; omega)
      all_goals first
        | (exfalso; omega)
        | (simp only [ed, es] at *
           have em : max m (dl l t i) = dl l t i := by omega
           simp only [foldFrom, cStep, em] at hc' he
           first | exact hc' | exact he)
        | (simp only [ed, es] at *
           have em : max m (dl l t i) = m := by omega
           simp only [foldFrom, cStep, em] at hc' he
           first | exact hc' | exact he)
        | (simp only [ed, es] at *
           simp only [foldFrom, cStep] at hc' he
           first | exact hc' | exact he)
        | trace_state
  repeat' (conv => arg 4; whnf); first | refine Run.ret ⟨?_, rfl⟩ | refine Run.condT ?_ | refine Run.condf ?_ | refine Run.condD (fun h => ?_) (fun h => ?_) | refine Run.condN (fun h => ?_) (fun h => ?_) | refine Run.condE (fun h => ?_) (fun h => ?_) | refine Run.condF (fun h => ?_) (fun h => ?_) | refine Run.condM (fun h => ?_) (fun h => ?_) | refine Run.condB (fun h => ?_) (fun h => ?_) | refine Run.check1 ?_ | refine Run.round ⟨[], [], []⟩ (loop l.length 0 _ _ _ rfl ?_ ?_ ?_) rfl (by repeat' first | exact wkEnv_nil | refine wkEnv_cons rfl ?_ | exact wkSto_nil | refine wkSto_none ?_ | refine wkSto_some rfl ?_) (by repeat' first | exact wkEnv_nil | refine wkEnv_cons rfl ?_ | exact wkSto_nil | refine wkSto_none ?_ | refine wkSto_some rfl ?_)
  all_goals first | omega | rfl | (unfold CInv; simp) | trace_state
theorem scost_ok (l : List Mv) (t : List Int) (hw : TkWf t) : Ok P 22 [.one (.lst .mv l false), .one (.lst (.int .i64) t false)] [] (.tup [.one (.int .i64 (costF l t).1), .one (.int .i64 (costF l t).2)]) [] := by
  refine Ok.of_run (F := mk Try.f22 0) Try.func22 rfl rfl tabOk mixed rfl rfl rfl rfl rfl (Nat.le_of_ble_eq_true rfl) (Nat.le_of_ble_eq_true rfl) (.go 5000 ?_)
  by_cases hf : Fits l t
  · rw [show costF l t = costM l t from if_pos hf]
    repeat' (conv => arg 4; whnf); first | refine Run.ret ⟨?_, rfl⟩ | refine Run.condT ?_ | refine Run.condf ?_ | refine Run.condD (fun h => ?_) (fun h => ?_) | refine Run.condN (fun h => ?_) (fun h => ?_) | refine Run.condE (fun h => ?_) (fun h => ?_) | refine Run.condF (fun h => ?_) (fun h => ?_) | refine Run.condM (fun h => ?_) (fun h => ?_) | refine Run.condB (fun h => ?_) (fun h => ?_) | refine Run.check1 ?_ | refine Run.call (sfits_ok _ _ hw) rfl ?_ | refine Run.call (scost2_ok _ _ (fits_dl hf)) rfl ?_
    all_goals first | rfl | exact absurd hf ‹_›
  · rw [show costF l t = (0, 0) from if_neg hf]
    repeat' (conv => arg 4; whnf); first | refine Run.ret ⟨?_, rfl⟩ | refine Run.condT ?_ | refine Run.condf ?_ | refine Run.condD (fun h => ?_) (fun h => ?_) | refine Run.condN (fun h => ?_) (fun h => ?_) | refine Run.condE (fun h => ?_) (fun h => ?_) | refine Run.condF (fun h => ?_) (fun h => ?_) | refine Run.condM (fun h => ?_) (fun h => ?_) | refine Run.condB (fun h => ?_) (fun h => ?_) | refine Run.check1 ?_ | refine Run.call (sfits_ok _ _ hw) rfl ?_ | (exact absurd ‹_› hf)
    all_goals rfl
theorem cost_ok (l : List Mv) (t : List Int) (hw : TkWf t) : Ok P 23 [.one (.lst .mv l false), .one (.lst (.int .i64) t false)] [] (.tup [.one (.int .i64 (costF l t).1), .one (.int .i64 (costF l t).2)]) [] := by
  refine Ok.of_run (F := mk Try.f23 0) Try.func23 rfl rfl tabOk mixed rfl rfl rfl rfl rfl (Nat.le_of_ble_eq_true rfl) (Nat.le_of_ble_eq_true rfl) (.go 5000 ?_)
  by_cases hf : Fits l t
  · rw [show costF l t = costM l t from if_pos hf]
    obtain ⟨hlen, h6, hd⟩ := fits_dl hf
    have loop : ∀ (d i : Nat) (z s m : Int), z = i → i + d = l.length → CInv i (s, m) → foldFrom (cStep l t) i d (s, m) = costM l t → Run P (mk Try.f23 0) (fun v st => v = .tup [.one (.int .i64 (costM l t).1), .one (.int .i64 (costM l t).2)] ∧ st = []) (.loop ⟨[(1, .one (.lst (.int .i64) t false)), (6, .one (.int .i64 s)), (7, .one (.int .i64 m)), (14, .one (.lst .mv l false)), (15, .one (.int .i64 (l.length : Int))), (16, .one (.int .i64 z))], [], [.lp [0, 1, 0, 1, 1, 1], .blk 0, .code [1, 1, 1, 1]], none⟩) := by
      intro d
      induction d with
      | zero =>
        intro i z s m hz hi hc he
        subst hz
        refine Run.loop ?_
        repeat' (conv => arg 4; whnf); first | refine Run.ret ⟨?_, rfl⟩ | refine Run.condT ?_ | refine Run.condf ?_ | refine Run.condD (fun h => ?_) (fun h => ?_) | refine Run.condN (fun h => ?_) (fun h => ?_) | refine Run.condE (fun h => ?_) (fun h => ?_) | refine Run.condF (fun h => ?_) (fun h => ?_) | refine Run.condM (fun h => ?_) (fun h => ?_) | refine Run.condB (fun h => ?_) (fun h => ?_) | refine Run.check1 ?_ | (exfalso; omega)
        all_goals first
          | (exfalso; omega)
          | (rw [← he]; rfl)
      | succ d ih =>
        intro i z s m hz hi hc he
        subst hz
        have e : wrap64 ((i : Int) + 1) = ((i + 1 : Nat) : Int) := wrap_eq (by omega) (by omega)
        have hdi := hd i (by omega)
        have hc' := cInv_step hdi hc
        have ed : wrap64 (rd t i - (rdM l i).f3) = dl l t i := by simp only [rd_nat, rdM_nat]; exact wrap_eq (by unfold dl at hdi; omega) (by unfold dl at hdi; omega)
        have es : wrap64 (s + dl l t i) = s + dl l t i := by unfold CInv at hc; exact wrap_eq (by omega) (by omega)
        refine Run.loop ?_
        repeat' (conv => arg 4; whnf); first | refine Run.ret ⟨?_, rfl⟩ | refine Run.condT ?_ | refine Run.condf ?_ | refine Run.condD (fun h => ?_) (fun h => ?_) | refine Run.condN (fun h => ?_) (fun h => ?_) | refine Run.condE (fun h => ?_) (fun h => ?_) | refine Run.condF (fun h => ?_) (fun h => ?_) | refine Run.condM (fun h => ?_) (fun h => ?_) | refine Run.condB (fun h => ?_) (fun h => ?_) | refine Run.check1 ?_ | refine Run.need1 (by simp only [allP, true_and, and_true]; omega) ?_ | refine Run.round ⟨[], [], []⟩ (ih (i + 1) _ _ _ e (by omega) ?_ ?_) rfl (by repeat' first | exact wkEnv_nil | refine wkEnv_cons rfl ?_ | exact wkSto_nil | refine wkSto_none ?_ | refine wkSto_some rfl ?_) (by repeat' first | exact wkEnv_nil | refine wkEnv_cons rfl ?_ | exact wkSto_nil | refine wkSto_none ?_ | refine wkSto_some rfl ?_) | (exfalso; omega)
        all_goals first
          | (exfalso; omega)
          | (simp only [ed, es] at *
             have em : max m (dl l t i) = dl l t i := by omega
             simp only [foldFrom, cStep, em] at hc' he
             first | exact hc' | exact he)
          | (simp only [ed, es] at *
             have em : max m (dl l t i) = m := by omega
             simp only [foldFrom, cStep, em] at hc' he
             first | exact hc' | exact he)
          | (simp only [ed, es] at *
             simp only [foldFrom, cStep] at hc' he
             first | exact hc' | exact he)
          | trace_state
    repeat' (conv => arg 4; whnf); first | refine Run.ret ⟨?_, rfl⟩ | refine Run.condT ?_ | refine Run.condf ?_ | refine Run.condD (fun h => ?_) (fun h => ?_) | refine Run.condN (fun h => ?_) (fun h => ?_) | refine Run.condE (fun h => ?_) (fun h => ?_) | refine Run.condF (fun h => ?_) (fun h => ?_) | refine Run.condM (fun h => ?_) (fun h => ?_) | refine Run.condB (fun h => ?_) (fun h => ?_) | refine Run.check1 ?_ | refine Run.call (fits_ok _ _ hw) rfl ?_ | refine Run.round ⟨[], [], []⟩ (loop l.length 0 _ _ _ rfl ?_ ?_ ?_) rfl (by repeat' first | exact wkEnv_nil | refine wkEnv_cons rfl ?_ | exact wkSto_nil | refine wkSto_none ?_ | refine wkSto_some rfl ?_) (by repeat' first | exact wkEnv_nil | refine wkEnv_cons rfl ?_ | exact wkSto_nil | refine wkSto_none ?_ | refine wkSto_some rfl ?_)
    all_goals first | omega | rfl | (unfold CInv; simp; done) | exact absurd hf ‹_› | trace_state
  · rw [show costF l t = (0, 0) from if_neg hf]
    repeat' (conv => arg 4; whnf); first | refine Run.ret ⟨?_, rfl⟩ | refine Run.condT ?_ | refine Run.condf ?_ | refine Run.condD (fun h => ?_) (fun h => ?_) | refine Run.condN (fun h => ?_) (fun h => ?_) | refine Run.condE (fun h => ?_) (fun h => ?_) | refine Run.condF (fun h => ?_) (fun h => ?_) | refine Run.condM (fun h => ?_) (fun h => ?_) | refine Run.condB (fun h => ?_) (fun h => ?_) | refine Run.check1 ?_ | refine Run.call (fits_ok _ _ hw) rfl ?_ | (exact absurd ‹_› hf)
    all_goals rfl
end Go.Proofs.Ytpdmimlkgmhepaa.AM

/- Plain models: what the exact laws' helpers do; no condition. -/
namespace Go.AM
set_option linter.unusedVariables false
set_option linter.unusedSimpArgs false
open Go.RowKit

theorem list_eq_getD {α : Type} {a b : List α} (d : α) (hl : a.length = b.length) (h : ∀ j, j < a.length → a.getD j d = b.getD j d) : a = b := by
  refine List.ext_getElem hl fun j h1 h2 => ?_
  have := h j h1
  simpa [List.getD_eq_getElem?_getD, List.getElem?_eq_getElem h1, List.getElem?_eq_getElem h2] using this
theorem getD_set {α : Type} (s : List α) (d : α) (i j : Nat) (x : α) : (s.set i x).getD j d = if i = j ∧ j < s.length then x else s.getD j d := by
  simp only [List.getD_eq_getElem?_getD, List.getElem?_set]
  by_cases h : i = j
  · subst h
    by_cases h2 : i < s.length
    · simp [h2]
    · simp [h2]
  · simp [h]
/-- The first i places have been copied. -/
def Cp {α : Type} (d : α) (t s : List α) (i : Nat) : Prop := s.length = t.length ∧ ∀ j, j < i → s.getD j d = t.getD j d
theorem cp_step {α : Type} {d : α} {t s : List α} {i : Nat} (h : Cp d t s i) (hi : i < t.length) : Cp d t (s.set i (t.getD i d)) (i + 1) := by
  refine ⟨by simpa using h.1, fun j hj => ?_⟩
  rw [getD_set]
  split
  · rename_i e; rw [e.1]
  · rename_i e
    refine h.2 j ?_
    have := h.1
    rcases Nat.lt_or_ge j i with h1 | h1
    · exact h1
    · exact absurd ⟨by omega, by omega⟩ e
theorem cp_end {α : Type} {d : α} {t s : List α} {i : Nat} (h : Cp d t s i) (hi : t.length ≤ i) : s = t := list_eq_getD d h.1 fun j hj => h.2 j (by have := h.1; omega)
def szM (m : Mv) (left : Int) : Int := if left - m.f0.size < 0 then -1 else left - m.f0.size
def szFrom (l : List Mv) : Nat → Nat → Int → Int
  | 0, _, s => s
  | d + 1, i, s => if szM (at' l i) s < 0 then -1 else szFrom l d (i + 1) (szM (at' l i) s)
def szMs (l : List Mv) (left : Int) : Int := if left - l.length < 0 then -1 else szFrom l l.length 0 (left - l.length)
def szIs (l : List Int) (left : Int) : Int := if left - l.length < 0 then -1 else left - l.length
theorem szM_le {m : Mv} {left : Int} (h : 0 ≤ left) : szM m left ≤ left := by unfold szM; split <;> omega
theorem szFrom_le {l : List Mv} : ∀ (d i : Nat) (s : Int), 0 ≤ s → szFrom l d i s ≤ s
  | 0, i, s, _ => Int.le_refl _
  | d + 1, i, s, h => by
    unfold szFrom
    split
    · omega
    · have := szFrom_le (l := l) d (i + 1) (szM (at' l i) s) (by omega)
      have := szM_le (m := at' l i) h
      omega
theorem szMs_le {l : List Mv} {left : Int} (h : 0 ≤ left) : szMs l left ≤ left ∧ (0 ≤ szMs l left → (l.length : Int) ≤ left) := by
  unfold szMs
  split
  · omega
  · have := szFrom_le (l := l) l.length 0 (left - l.length) (by omega)
    omega

/-- A book. -/
structure Bk where
  now : Int
  shift : Int
  ms : List Mv
  ts : List Int
/-- A book whose lists are only read; a book whose lists are its own. -/
def Bk.lent (b : Bk) : V := .agg [.int .i64 b.now, .int .i64 b.shift, .lst .mv b.ms false, .lst (.int .i64) b.ts false]
def Bk.own (b : Bk) (l l' : L) : V := .agg [.int .i64 b.now, .int .i64 b.shift, .own l, .own l']
def szB (b : Bk) (left : Int) : Int := if szMs b.ms left < 0 then -1 else if szIs b.ts (szMs b.ms left) < 0 then -1 else szIs b.ts (szMs b.ms left)
theorem szB_le {b : Bk} {left : Int} (h : 0 ≤ left) (h' : ¬ szB b left < 0) : (b.ms.length : Int) ≤ left ∧ (b.ts.length : Int) ≤ left := by
  have := szMs_le (l := b.ms) h
  unfold szB szIs at h'
  split at h'
  · omega
  · split at h'
    · omega
    · rename_i h1 h2
      first | omega | (split at h2 <;> omega)
end Go.AM

/- Plain models: books that are ok; no condition. -/
namespace Go.AM
set_option linter.unusedVariables false
set_option linter.unusedSimpArgs false
open Go.RowKit

def SoonAt (b : Bk) (i : Nat) : Prop := b.now ≤ tk b.ts i ∧ (tk b.ts i < b.now + 4 → 0 ≤ (at' b.ms i).f5)
instance (b : Bk) (i : Nat) : Decidable (SoonAt b i) := by unfold SoonAt; infer_instance
def BkOk (b : Bk) : Prop := (0 ≤ b.now ∧ b.now ≤ 10000) ∧ (0 ≤ b.shift ∧ b.shift ≤ 6) ∧ Fits b.ms b.ts ∧ ∀ i, i < b.ts.length → SoonAt b i
instance (b : Bk) : Decidable (BkOk b) := by unfold BkOk; infer_instance
theorem bk_no {b : Bk} (h : ¬ BkOk b) : V.one (A.bool false) = V.one (A.bool (decide (BkOk b))) := by rw [decide_eq_false h]
theorem bk_yes {b : Bk} (h : BkOk b) : V.one (A.bool true) = V.one (A.bool (decide (BkOk b))) := by rw [decide_eq_true h]

/-- What a tick does to a move. -/
def soon (now : Int) (m : Mv) (t : Int) : Mv := if t < now + 1 + 4 then { m with f5 := t } else m
def tickStep (b : Bk) (i : Nat) (s : List Mv × List Int × List ByteArray) : List Mv × List Int × List ByteArray :=
  if tk b.ts i = b.now then (s.1, s.2.1, s.2.2 ++ [(at' b.ms i).f0]) else (s.1 ++ [soon b.now (at' b.ms i) (tk b.ts i)], s.2.1 ++ [tk b.ts i], s.2.2)
def tickF (b : Bk) : List Mv × List Int × List ByteArray := foldFrom (tickStep b) 0 b.ms.length ([], [], [])
def tickR (b : Bk) : Bk × List ByteArray × Int :=
  if BkOk b then (if b.now = 10000 then (b, [], 2) else (⟨b.now + 1, b.shift, (tickF b).1, (tickF b).2.1⟩, (tickF b).2.2, 0)) else (⟨0, 0, [], []⟩, [], 1)
def Len3 (i : Nat) (s : List Mv × List Int × List ByteArray) : Prop := s.1.length ≤ i ∧ s.2.1.length ≤ i ∧ s.2.2.length ≤ i
theorem len3_step {b : Bk} {i : Nat} {s : List Mv × List Int × List ByteArray} (h : Len3 i s) : Len3 (i + 1) (tickStep b i s) := by
  obtain ⟨h1, h2, h3⟩ := h
  unfold tickStep Len3
  split <;> simp <;> omega

theorem tickF_len (b : Bk) : Len3 b.ms.length (tickF b) := by
  have := foldFrom_inv (step := tickStep b) Len3 (n := b.ms.length) (fun i s hi hs => len3_step hs) b.ms.length 0 ([], [], []) (by omega) ⟨Nat.le_refl _, Nat.le_refl _, Nat.le_refl _⟩
  rwa [Nat.zero_add] at this
theorem tickR_len {b : Bk} (hl : b.ms.length ≤ 1048576) (ht : b.ts.length ≤ 1048576) : (tickR b).1.ms.length ≤ 1048576 ∧ (tickR b).1.ts.length ≤ 1048576 ∧ (tickR b).2.1.length ≤ 1048576 := by
  obtain ⟨h1, h2, h3⟩ := tickF_len b
  unfold tickR
  split
  · split
    · exact ⟨hl, ht, by simp⟩
    · exact ⟨by simp only; omega, by simp only; omega, by simp only; omega⟩
  · exact ⟨by simp, by simp, by simp⟩
end Go.AM

/- StripBookOk, the program's and the reference's; condition: the ticks are of 64 bits. -/
namespace Go.Proofs.Ytpdmimlkgmhepaa.AM
open Go.AM Go.RowKit
set_option linter.unusedVariables false
set_option linter.unusedSimpArgs false
set_option maxRecDepth 100000

theorem bookOk_ok (b : Bk) (hw : TkWf b.ts) : Ok P 27 [b.lent] [] (.one (.bool (decide (BkOk b)))) [] := by
  refine Ok.of_run (F := mk Try.f27 0) Try.func27 rfl rfl tabOk mixed rfl rfl rfl rfl rfl (Nat.le_of_ble_eq_true rfl) (Nat.le_of_ble_eq_true rfl) (.go 5000 ?_)
  have loop : (0 ≤ b.now ∧ b.now ≤ 10000) → (0 ≤ b.shift ∧ b.shift ≤ 6) → Fits b.ms b.ts → ∀ (d i : Nat) (z : Int), z = i → i + d = b.ts.length → (∀ j, j < i → SoonAt b j) → Run P (mk Try.f27 0) (fun v st => v = .one (.bool (decide (BkOk b))) ∧ st = []) (.loop ⟨[(1, .one (.ptr (.t 1 0) 0)), (24, .one (.lst (.int .i64) b.ts false)), (25, .one (.int .i64 (b.ts.length : Int))), (26, .one (.int .i64 z))], [(.t 1 0, some (.cells b.lent.atoms))], [.lp [0, 1, 0, 1, 1], .blk 0, .code [1, 1, 1]], none⟩) := by
    intro hn hs hf d
    have h6 := hf.1.1
    have hlen := hf.2.1
    induction d with
    | zero =>
      intro i z hz hd hall
      subst hz
      refine Run.loop ?_
      repeat' (conv => arg 4; whnf); first | refine Run.ret ⟨?_, rfl⟩ | refine Run.condT ?_ | refine Run.condf ?_ | refine Run.condD (fun h => ?_) (fun h => ?_) | refine Run.condN (fun h => ?_) (fun h => ?_) | refine Run.condE (fun h => ?_) (fun h => ?_) | refine Run.condF (fun h => ?_) (fun h => ?_) | refine Run.condM (fun h => ?_) (fun h => ?_) | refine Run.condB (fun h => ?_) (fun h => ?_) | refine Run.check1 ?_ | (exfalso; omega)
      all_goals first
        | (exfalso; omega)
        | exact bk_yes ⟨hn, hs, hf, fun j hj => hall j (by omega)⟩
    | succ d ih =>
      intro i z hz hd hall
      subst hz
      have e : wrap64 ((i : Int) + 1) = ((i + 1 : Nat) : Int) := wrap_eq (by omega) (by omega)
      have e4 : wrap64 (b.now + 4) = b.now + 4 := wrap_eq (by omega) (by omega)
      have no : ¬ SoonAt b i → V.one (A.bool false) = V.one (A.bool (decide (BkOk b))) := fun h => bk_no fun k => h (k.2.2.2 i (by omega))
      have hA : SoonAt b i ↔ (b.now ≤ rd b.ts i ∧ (rd b.ts i < wrap64 (b.now + 4) → 0 ≤ (rdM b.ms i).f5)) := by
        simp only [rdM_nat, rd_nat, e4, SoonAt]
      refine Run.loop ?_
      repeat' (conv => arg 4; whnf); first | refine Run.ret ⟨?_, rfl⟩ | refine Run.condT ?_ | refine Run.condf ?_ | refine Run.condD (fun h => ?_) (fun h => ?_) | refine Run.condN (fun h => ?_) (fun h => ?_) | refine Run.condE (fun h => ?_) (fun h => ?_) | refine Run.condF (fun h => ?_) (fun h => ?_) | refine Run.condM (fun h => ?_) (fun h => ?_) | refine Run.condB (fun h => ?_) (fun h => ?_) | refine Run.check1 ?_ | refine Run.need1 (by simp only [allP, true_and, and_true]; omega) ?_ | refine Run.round ⟨[(.t 1 0, .t 1 0)], [], []⟩ (ih (i + 1) _ e (by omega) ?_) rfl (by repeat' first | exact wkEnv_nil | refine wkEnv_cons rfl ?_ | exact wkSto_nil | refine wkSto_none ?_ | refine wkSto_some rfl ?_) (by repeat' first | exact wkEnv_nil | refine wkEnv_cons rfl ?_ | exact wkSto_nil | refine wkSto_none ?_ | refine wkSto_some rfl ?_) | (exfalso; omega)
      all_goals first
        | (exfalso; omega)
        | (refine no fun q => ?_; have a := hA.1 q; omega)
        | (intro j hj; rcases Nat.lt_or_ge j i with h1 | h1
           · exact hall j h1
           · obtain rfl : j = i := by omega
             exact hA.2 (by omega))
        | trace_state
  repeat' (conv => arg 4; whnf); first | refine Run.ret ⟨?_, rfl⟩ | refine Run.condT ?_ | refine Run.condf ?_ | refine Run.condD (fun h => ?_) (fun h => ?_) | refine Run.condN (fun h => ?_) (fun h => ?_) | refine Run.condE (fun h => ?_) (fun h => ?_) | refine Run.condF (fun h => ?_) (fun h => ?_) | refine Run.condM (fun h => ?_) (fun h => ?_) | refine Run.condB (fun h => ?_) (fun h => ?_) | refine Run.check1 ?_ | refine Run.call (in_ok _ _ _) rfl ?_ | refine Run.call (fits_ok _ _ hw) rfl ?_ | refine Run.round ⟨[(.t 1 0, .t 1 0)], [], []⟩ (loop ?_ ?_ ?_ b.ts.length 0 _ rfl ?_ ?_) rfl (by repeat' first | exact wkEnv_nil | refine wkEnv_cons rfl ?_ | exact wkSto_nil | refine wkSto_none ?_ | refine wkSto_some rfl ?_) (by repeat' first | exact wkEnv_nil | refine wkEnv_cons rfl ?_ | exact wkSto_nil | refine wkSto_none ?_ | refine wkSto_some rfl ?_)
  all_goals first
    | omega
    | assumption
    | (refine bk_no fun k => ?_; have := k.1; have := k.2.1; omega)
    | exact bk_no fun k => absurd k.2.2.1 ‹_›
    | trace_state
theorem sbookOk_ok (b : Bk) (hw : TkWf b.ts) : Ok P 25 [b.lent] [] (.one (.bool (decide (BkOk b)))) [] := by
  refine Ok.of_run (F := mk Try.f25 0) Try.func25 rfl rfl tabOk mixed rfl rfl rfl rfl rfl (Nat.le_of_ble_eq_true rfl) (Nat.le_of_ble_eq_true rfl) (.go 5000 ?_)
  have loop : (0 ≤ b.now ∧ b.now ≤ 10000) → (0 ≤ b.shift ∧ b.shift ≤ 6) → Fits b.ms b.ts → ∀ (d i : Nat) (z : Int), z = i → i + d = b.ts.length → (∀ j, j < i → SoonAt b j) → Run P (mk Try.f25 0) (fun v st => v = .one (.bool (decide (BkOk b))) ∧ st = []) (.loop ⟨[(1, .one (.ptr (.t 1 0) 0)), (3, .one (.int .i64 z))], [(.t 1 0, some (.cells b.lent.atoms))], [.lp [0, 1, 0, 1, 1], .blk 0, .code [1, 1, 1]], none⟩) := by
    intro hn hs hf d
    have h6 := hf.1.1
    have hlen := hf.2.1
    induction d with
    | zero =>
      intro i z hz hd hall
      subst hz
      refine Run.loop ?_
      repeat' (conv => arg 4; whnf); first | refine Run.ret ⟨?_, rfl⟩ | refine Run.condT ?_ | refine Run.condf ?_ | refine Run.condD (fun h => ?_) (fun h => ?_) | refine Run.condN (fun h => ?_) (fun h => ?_) | refine Run.condE (fun h => ?_) (fun h => ?_) | refine Run.condF (fun h => ?_) (fun h => ?_) | refine Run.condM (fun h => ?_) (fun h => ?_) | refine Run.condB (fun h => ?_) (fun h => ?_) | refine Run.check1 ?_ | (exfalso; omega)
      all_goals first
        | (exfalso; omega)
        | exact bk_yes ⟨hn, hs, hf, fun j hj => hall j (by omega)⟩
    | succ d ih =>
      intro i z hz hd hall
      subst hz
      have e : wrap64 ((i : Int) + 1) = ((i + 1 : Nat) : Int) := wrap_eq (by omega) (by omega)
      have e4 : wrap64 (b.now + 4) = b.now + 4 := wrap_eq (by omega) (by omega)
      have no : ¬ SoonAt b i → V.one (A.bool false) = V.one (A.bool (decide (BkOk b))) := fun h => bk_no fun k => h (k.2.2.2 i (by omega))
      have hA : SoonAt b i ↔ (b.now ≤ rd b.ts i ∧ (rd b.ts i < wrap64 (b.now + 4) → 0 ≤ (rdM b.ms i).f5)) := by
        simp only [rdM_nat, rd_nat, e4, SoonAt]
      refine Run.loop ?_
      repeat' (conv => arg 4; whnf); first | refine Run.ret ⟨?_, rfl⟩ | refine Run.condT ?_ | refine Run.condf ?_ | refine Run.condD (fun h => ?_) (fun h => ?_) | refine Run.condN (fun h => ?_) (fun h => ?_) | refine Run.condE (fun h => ?_) (fun h => ?_) | refine Run.condF (fun h => ?_) (fun h => ?_) | refine Run.condM (fun h => ?_) (fun h => ?_) | refine Run.condB (fun h => ?_) (fun h => ?_) | refine Run.check1 ?_ | refine Run.need1 (by simp only [allP, true_and, and_true]; omega) ?_ | refine Run.round ⟨[(.t 1 0, .t 1 0)], [], []⟩ (ih (i + 1) _ e (by omega) ?_) rfl (by repeat' first | exact wkEnv_nil | refine wkEnv_cons rfl ?_ | exact wkSto_nil | refine wkSto_none ?_ | refine wkSto_some rfl ?_) (by repeat' first | exact wkEnv_nil | refine wkEnv_cons rfl ?_ | exact wkSto_nil | refine wkSto_none ?_ | refine wkSto_some rfl ?_) | (exfalso; omega)
      all_goals first
        | (exfalso; omega)
        | (refine no fun q => ?_; have a := hA.1 q; omega)
        | (intro j hj; rcases Nat.lt_or_ge j i with h1 | h1
           · exact hall j h1
           · obtain rfl : j = i := by omega
             exact hA.2 (by omega))
        | trace_state
  repeat' (conv => arg 4; whnf); first | refine Run.ret ⟨?_, rfl⟩ | refine Run.condT ?_ | refine Run.condf ?_ | refine Run.condD (fun h => ?_) (fun h => ?_) | refine Run.condN (fun h => ?_) (fun h => ?_) | refine Run.condE (fun h => ?_) (fun h => ?_) | refine Run.condF (fun h => ?_) (fun h => ?_) | refine Run.condM (fun h => ?_) (fun h => ?_) | refine Run.condB (fun h => ?_) (fun h => ?_) | refine Run.check1 ?_ | refine Run.call (sin_ok _ _ _) rfl ?_ | refine Run.call (sfits_ok _ _ hw) rfl ?_ | refine Run.round ⟨[(.t 1 0, .t 1 0)], [], []⟩ (loop ?_ ?_ ?_ b.ts.length 0 _ rfl ?_ ?_) rfl (by repeat' first | exact wkEnv_nil | refine wkEnv_cons rfl ?_ | exact wkSto_nil | refine wkSto_none ?_ | refine wkSto_some rfl ?_) (by repeat' first | exact wkEnv_nil | refine wkEnv_cons rfl ?_ | exact wkSto_nil | refine wkSto_none ?_ | refine wkSto_some rfl ?_)
  all_goals first
    | omega
    | assumption
    | (refine bk_no fun k => ?_; have := k.1; have := k.2.1; omega)
    | exact bk_no fun k => absurd k.2.2.1 ‹_›
    | trace_state
end Go.Proofs.Ytpdmimlkgmhepaa.AM

/- slices.Clone, copies of books; condition: lengths. -/
namespace Go.Proofs.Ytpdmimlkgmhepaa.AM
open Go.AM Go.RowKit
set_option linter.unusedVariables false
set_option linter.unusedSimpArgs false
set_option maxRecDepth 100000

theorem cloneM_ok (l : List Mv) (hl : l.length ≤ 1048576) : Ok P 76 [.one (.lst .mv l false)] [] (.one (.own (.k 0))) [some (.row .mv l)] := by
  refine Ok.of_run (F := mk Try.f76 0) Try.func76 rfl rfl tabOk mixed rfl rfl rfl rfl rfl (Nat.le_of_ble_eq_true rfl) (Nat.le_of_ble_eq_true rfl) (.go 5000 ?_)
  conv => arg 4; whnf
  refine Run.nilq rfl (.go 5000 ?_) (fun h => .go 5000 ?_)
  · repeat' (conv => arg 4; whnf); first | refine Run.ret ⟨?_, rfl⟩ | refine Run.condT ?_ | refine Run.condf ?_ | refine Run.condD (fun h => ?_) (fun h => ?_) | refine Run.condN (fun h => ?_) (fun h => ?_) | refine Run.condE (fun h => ?_) (fun h => ?_) | refine Run.condF (fun h => ?_) (fun h => ?_) | refine Run.condM (fun h => ?_) (fun h => ?_) | refine Run.condB (fun h => ?_) (fun h => ?_) | refine Run.check1 ?_ | refine Run.need1 (by simp only [allP, true_and, and_true, List.length_nil, Nat.zero_add]; omega) ?_
    all_goals rfl
  · subst h
    refine Run.cond0 (fun _ => ?_) (fun h => by cases h)
    refine Run.go 4 ?_
    refine Run.less ⟨[], [(.t 9 0, .mv)], []⟩ (env' := [(2, .one (.own (.t 9 0)))]) (sto' := [(.t 9 0, some (.row .mv []))]) (.go 5000 ?_) rfl (by repeat' first | exact wkEnv_nil | refine wkEnv_cons rfl ?_ | exact wkSto_nil | refine wkSto_none ?_ | refine wkSto_some rfl ?_) (by repeat' first | exact wkEnv_nil | refine wkEnv_cons rfl ?_ | exact wkSto_nil | refine wkSto_none ?_ | refine wkSto_some rfl ?_)
    repeat' (conv => arg 4; whnf); first | refine Run.ret ⟨?_, rfl⟩ | refine Run.condT ?_ | refine Run.condf ?_ | refine Run.condD (fun h => ?_) (fun h => ?_) | refine Run.condN (fun h => ?_) (fun h => ?_) | refine Run.condE (fun h => ?_) (fun h => ?_) | refine Run.condF (fun h => ?_) (fun h => ?_) | refine Run.condM (fun h => ?_) (fun h => ?_) | refine Run.condB (fun h => ?_) (fun h => ?_) | refine Run.check1 ?_
    all_goals rfl
theorem cloneI_ok (l : List Int) (hl : l.length ≤ 1048576) : Ok P 77 [.one (.lst (.int .i64) l false)] [] (.one (.own (.k 0))) [some (.row (.int .i64) l)] := by
  refine Ok.of_run (F := mk Try.f77 0) Try.func77 rfl rfl tabOk mixed rfl rfl rfl rfl rfl (Nat.le_of_ble_eq_true rfl) (Nat.le_of_ble_eq_true rfl) (.go 5000 ?_)
  conv => arg 4; whnf
  refine Run.nilq rfl (.go 5000 ?_) (fun h => .go 5000 ?_)
  · repeat' (conv => arg 4; whnf); first | refine Run.ret ⟨?_, rfl⟩ | refine Run.condT ?_ | refine Run.condf ?_ | refine Run.condD (fun h => ?_) (fun h => ?_) | refine Run.condN (fun h => ?_) (fun h => ?_) | refine Run.condE (fun h => ?_) (fun h => ?_) | refine Run.condF (fun h => ?_) (fun h => ?_) | refine Run.condM (fun h => ?_) (fun h => ?_) | refine Run.condB (fun h => ?_) (fun h => ?_) | refine Run.check1 ?_ | refine Run.need1 (by simp only [allP, true_and, and_true, List.length_nil, Nat.zero_add]; omega) ?_
    all_goals rfl
  · subst h
    refine Run.cond0 (fun _ => ?_) (fun h => by cases h)
    refine Run.go 4 ?_
    refine Run.less ⟨[], [(.t 9 0, (.int .i64))], []⟩ (env' := [(2, .one (.own (.t 9 0)))]) (sto' := [(.t 9 0, some (.row (.int .i64) []))]) (.go 5000 ?_) rfl (by repeat' first | exact wkEnv_nil | refine wkEnv_cons rfl ?_ | exact wkSto_nil | refine wkSto_none ?_ | refine wkSto_some rfl ?_) (by repeat' first | exact wkEnv_nil | refine wkEnv_cons rfl ?_ | exact wkSto_nil | refine wkSto_none ?_ | refine wkSto_some rfl ?_)
    repeat' (conv => arg 4; whnf); first | refine Run.ret ⟨?_, rfl⟩ | refine Run.condT ?_ | refine Run.condf ?_ | refine Run.condD (fun h => ?_) (fun h => ?_) | refine Run.condN (fun h => ?_) (fun h => ?_) | refine Run.condE (fun h => ?_) (fun h => ?_) | refine Run.condF (fun h => ?_) (fun h => ?_) | refine Run.condM (fun h => ?_) (fun h => ?_) | refine Run.condB (fun h => ?_) (fun h => ?_) | refine Run.check1 ?_
    all_goals rfl
theorem copyBook_ok (b : Bk) (hl : b.ms.length ≤ 1048576) (ht : b.ts.length ≤ 1048576) : Ok P 72 [b.lent] [] (b.own (.k 0) (.k 1)) [some (.row .mv b.ms), some (.row (.int .i64) b.ts)] := by
  refine Ok.of_run (F := mk Try.f72 0) Try.func72 rfl rfl tabOk mixed rfl rfl rfl rfl rfl (Nat.le_of_ble_eq_true rfl) (Nat.le_of_ble_eq_true rfl) (.go 5000 ?_)
  repeat' (conv => arg 4; whnf); first | refine Run.ret ⟨?_, rfl⟩ | refine Run.condT ?_ | refine Run.condf ?_ | refine Run.condD (fun h => ?_) (fun h => ?_) | refine Run.condN (fun h => ?_) (fun h => ?_) | refine Run.condE (fun h => ?_) (fun h => ?_) | refine Run.condF (fun h => ?_) (fun h => ?_) | refine Run.condM (fun h => ?_) (fun h => ?_) | refine Run.condB (fun h => ?_) (fun h => ?_) | refine Run.check1 ?_ | refine Run.call (cloneM_ok _ hl) rfl ?_ | refine Run.call (cloneI_ok _ ht) rfl ?_
  all_goals first | rfl | trace_state
theorem scopy_ok (b : Bk) (hl : b.ms.length ≤ 1048576) (ht : b.ts.length ≤ 1048576) : Ok P 71 [b.lent] [] (b.own (.k 0) (.k 1)) [some (.row .mv b.ms), some (.row (.int .i64) b.ts)] := by
  refine Ok.of_run (F := mk Try.f71 0) Try.func71 rfl rfl tabOk mixed rfl rfl rfl rfl rfl (Nat.le_of_ble_eq_true rfl) (Nat.le_of_ble_eq_true rfl) (.go 5000 ?_)
  repeat' (conv => arg 4; whnf); first | refine Run.ret ⟨?_, rfl⟩ | refine Run.condT ?_ | refine Run.condf ?_ | refine Run.condD (fun h => ?_) (fun h => ?_) | refine Run.condN (fun h => ?_) (fun h => ?_) | refine Run.condE (fun h => ?_) (fun h => ?_) | refine Run.condF (fun h => ?_) (fun h => ?_) | refine Run.condM (fun h => ?_) (fun h => ?_) | refine Run.condB (fun h => ?_) (fun h => ?_) | refine Run.check1 ?_ | refine Run.need1 (by simp only [allP, true_and, and_true, List.length_nil, Nat.zero_add]; omega) ?_
  all_goals first | rfl | trace_state
end Go.Proofs.Ytpdmimlkgmhepaa.AM

/- StripTick, the program's and the reference's; condition: the ticks are of 64 bits. -/
namespace Go.Proofs.Ytpdmimlkgmhepaa.AM
open Go.AM Go.RowKit
set_option linter.unusedVariables false
set_option linter.unusedSimpArgs false
set_option maxRecDepth 100000

theorem tick_ok (b : Bk) (hl : b.ms.length ≤ 1048576) (ht : b.ts.length ≤ 1048576) (hw : TkWf b.ts) :
    Ok P 43 [b.lent] [] (.tup [(tickR b).1.own (.k 0) (.k 1), .one (.own (.k 2)), .one (.int .i64 (tickR b).2.2)]) [some (.row .mv (tickR b).1.ms), some (.row (.int .i64) (tickR b).1.ts), some (.row .str (tickR b).2.1)] := by
  refine Ok.of_run (F := mk Try.f43 0) Try.func43 rfl rfl tabOk mixed rfl rfl rfl rfl rfl (Nat.le_of_ble_eq_true rfl) (Nat.le_of_ble_eq_true rfl) (.go 5000 ?_)
  by_cases hb : BkOk b
  · by_cases hn : b.now = 10000
    · rw [show tickR b = (b, [], 2) by unfold tickR; rw [if_pos hb, if_pos hn]]
      conv => arg 4; whnf
      refine Run.call0 (bookOk_ok b hw) rfl (.go 5000 ?_)
      conv => arg 4; whnf
      refine Run.condN (fun h => absurd hb h) (fun _ => ?_)
      conv => arg 4; whnf
      refine Run.cond0 (fun _ => ?_) (fun h => absurd hn (by simpa using h))
      refine Run.go 5000 ?_
      conv => arg 4; whnf
      refine Run.call0 (copyBook_ok b hl ht) rfl (Run.to [1, 0, 1, 0, 1, 1] 5000 ?_)
      conv => arg 4; whnf
      refine Run.less ⟨[(.t 2 0, .t 2 0), (.t 17 0, .t 1000 0), (.t 17 1, .t 1000 1)], [(.t 1000 2, .str)], []⟩ (env' := [(2, .one (.ptr (.t 2 0) 0)), (3, .one (.own (.t 1000 2))), (4, .one (.int .i64 2))]) (sto' := [(.t 2 0, some (.cells [.int .i64 b.now, .int .i64 b.shift, .own (.t 1000 0), .own (.t 1000 1)])), (.t 1000 0, some (.row .mv b.ms)), (.t 1000 1, some (.row (.int .i64) b.ts)), (.t 1000 2, some (.row .str []))]) (.go 5000 ?_) rfl (by repeat' first | exact wkEnv_nil | refine wkEnv_cons rfl ?_ | exact wkSto_nil | refine wkSto_none ?_ | refine wkSto_some rfl ?_) (by repeat' first | exact wkEnv_nil | refine wkEnv_cons rfl ?_ | exact wkSto_nil | refine wkSto_none ?_ | refine wkSto_some rfl ?_)
      repeat' (conv => arg 4; whnf); first | refine Run.ret ⟨?_, rfl⟩ | refine Run.condT ?_ | refine Run.condf ?_ | refine Run.condD (fun h => ?_) (fun h => ?_) | refine Run.condN (fun h => ?_) (fun h => ?_) | refine Run.condE (fun h => ?_) (fun h => ?_) | refine Run.condF (fun h => ?_) (fun h => ?_) | refine Run.condM (fun h => ?_) (fun h => ?_) | refine Run.condB (fun h => ?_) (fun h => ?_) | refine Run.check1 ?_
      all_goals rfl
    · rw [show tickR b = (⟨b.now + 1, b.shift, (tickF b).1, (tickF b).2.1⟩, (tickF b).2.2, 0) by unfold tickR; rw [if_pos hb, if_neg hn]]
      have hnow := hb.1
      have h6 := hb.2.2.1.1.1
      have hlen := hb.2.2.1.2.1
      have e1 : wrap64 (b.now + 1) = b.now + 1 := wrap_eq (by omega) (by omega)
      have e5 : wrap64 (b.now + 1 + 4) = b.now + 1 + 4 := wrap_eq (by omega) (by omega)
      have loop : ∀ (d i : Nat) (z y : Int) (s1 : List Mv) (s2 : List Int) (s3 : List ByteArray), z = i → y = b.now + 1 → i + d = b.ms.length → Len3 i (s1, s2, s3) → foldFrom (tickStep b) i d (s1, s2, s3) = tickF b →
          Run P (mk Try.f43 0) (fun v st => v = .tup [Bk.own ⟨b.now + 1, b.shift, (tickF b).1, (tickF b).2.1⟩ (.k 0) (.k 1), .one (.own (.k 2)), .one (.int .i64 0)] ∧ st = [some (.row .mv (tickF b).1), some (.row (.int .i64) (tickF b).2.1), some (.row .str (tickF b).2.2)])
            (.loop ⟨[(1, .one (.ptr (.t 1 0) 0)), (2, .one (.ptr (.t 2 0) 0)), (5, .one (.ptr (.t 5 0) 0)), (6, .one (.own (.t 1000 2))), (26, .one (.lst .mv b.ms false)), (27, .one (.int .i64 (b.ms.length : Int))), (28, .one (.int .i64 z))],
              [(.t 1 0, some (.cells b.lent.atoms)), (.t 2 0, some (.cells [.int .i64 0, .int .i64 0, .nil, .nil])), (.t 5 0, some (.cells [.int .i64 y, .int .i64 b.shift, .own (.t 1000 0), .own (.t 1000 1)])), (.t 1000 0, some (.row .mv s1)), (.t 1000 1, some (.row (.int .i64) s2)), (.t 1000 2, some (.row .str s3))], [.lp [0, 1, 0, 1, 1, 1, 1, 1], .blk 0, .code [1, 1, 1, 1, 1, 1]], none⟩) := by
        intro d
        induction d with
        | zero =>
          intro i z y s1 s2 s3 hz hy hd hc he
          subst hz; subst hy
          rw [← he]
          refine Run.loop ?_
          repeat' (conv => arg 4; whnf); first | refine Run.ret ⟨?_, rfl⟩ | refine Run.condT ?_ | refine Run.condf ?_ | refine Run.condD (fun h => ?_) (fun h => ?_) | refine Run.condN (fun h => ?_) (fun h => ?_) | refine Run.condE (fun h => ?_) (fun h => ?_) | refine Run.condF (fun h => ?_) (fun h => ?_) | refine Run.condM (fun h => ?_) (fun h => ?_) | refine Run.condB (fun h => ?_) (fun h => ?_) | refine Run.check1 ?_ | (exfalso; omega)
          all_goals first | rfl | (exfalso; omega) | trace_state
        | succ d ih =>
          intro i z y s1 s2 s3 hz hy hd hc he
          subst hz; subst hy
          have e : wrap64 ((i : Int) + 1) = ((i + 1 : Nat) : Int) := wrap_eq (by omega) (by omega)
          have hc' := len3_step (b := b) hc
          have he' : foldFrom (tickStep b) (i + 1) d (tickStep b i (s1, s2, s3)) = tickF b := he
          have st1 : tk b.ts i = b.now → tickStep b i (s1, s2, s3) = (s1, s2, s3 ++ [(at' b.ms i).f0]) := fun q => by unfold tickStep; rw [if_pos q]
          have st2 : ¬ tk b.ts i = b.now → tk b.ts i < b.now + 1 + 4 → tickStep b i (s1, s2, s3) = (s1 ++ [{ at' b.ms i with f5 := tk b.ts i }], s2 ++ [tk b.ts i], s3) := fun q q' => by unfold tickStep soon; rw [if_neg q, if_pos q']
          have st3 : ¬ tk b.ts i = b.now → ¬ tk b.ts i < b.now + 1 + 4 → tickStep b i (s1, s2, s3) = (s1 ++ [at' b.ms i], s2 ++ [tk b.ts i], s3) := fun q q' => by unfold tickStep soon; rw [if_neg q, if_neg q']
          obtain ⟨c1, c2, c3⟩ := hc
          simp only at c1 c2 c3
          refine Run.loop ?_
          repeat' (conv => arg 4; whnf); first | refine Run.ret ⟨?_, rfl⟩ | refine Run.condT ?_ | refine Run.condf ?_ | refine Run.condD (fun h => ?_) (fun h => ?_) | refine Run.condN (fun h => ?_) (fun h => ?_) | refine Run.condE (fun h => ?_) (fun h => ?_) | refine Run.condF (fun h => ?_) (fun h => ?_) | refine Run.condM (fun h => ?_) (fun h => ?_) | refine Run.condB (fun h => ?_) (fun h => ?_) | refine Run.check1 ?_ | refine Run.need1 (by simp only [allP, true_and, and_true, List.length_cons, List.length_nil]; omega) ?_ | refine Run.round ⟨[(.t 1 0, .t 1 0), (.t 2 0, .t 2 0), (.t 5 0, .t 5 0), (.t 1000 0, .t 1000 0), (.t 1000 1, .t 1000 1), (.t 45 0, .t 1000 2)], [], []⟩ (ih (i + 1) _ _ _ _ _ e rfl (by omega) ?_ ?_) rfl (by repeat' first | exact wkEnv_nil | refine wkEnv_cons rfl ?_ | exact wkSto_nil | refine wkSto_none ?_ | refine wkSto_some rfl ?_) (by repeat' first | exact wkEnv_nil | refine wkEnv_cons rfl ?_ | exact wkSto_nil | refine wkSto_none ?_ | refine wkSto_some rfl ?_) | refine Run.round ⟨[(.t 1 0, .t 1 0), (.t 2 0, .t 2 0), (.t 5 0, .t 5 0), (.t 65 0, .t 1000 0), (.t 75 0, .t 1000 1), (.t 1000 2, .t 1000 2)], [], []⟩ (ih (i + 1) _ _ _ _ _ e rfl (by omega) ?_ ?_) rfl (by repeat' first | exact wkEnv_nil | refine wkEnv_cons rfl ?_ | exact wkSto_nil | refine wkSto_none ?_ | refine wkSto_some rfl ?_) (by repeat' first | exact wkEnv_nil | refine wkEnv_cons rfl ?_ | exact wkSto_nil | refine wkSto_none ?_ | refine wkSto_some rfl ?_) | (exfalso; omega)
          all_goals (simp only [rd_nat, rdM_nat, e5] at *)
          all_goals first
            | (exfalso; omega)
            | (rw [st1 (by omega)] at hc' he'
               first | exact hc' | exact he')
            | (rw [st2 (by omega) (by omega)] at hc' he'
               first | exact hc' | exact he')
            | (rw [st3 (by omega) (by omega)] at hc' he'
               first | exact hc' | exact he')
            | trace_state
      repeat' (conv => arg 4; whnf); first | refine Run.ret ⟨?_, rfl⟩ | refine Run.condT ?_ | refine Run.condf ?_ | refine Run.condD (fun h => ?_) (fun h => ?_) | refine Run.condN (fun h => ?_) (fun h => ?_) | refine Run.condE (fun h => ?_) (fun h => ?_) | refine Run.condF (fun h => ?_) (fun h => ?_) | refine Run.condM (fun h => ?_) (fun h => ?_) | refine Run.condB (fun h => ?_) (fun h => ?_) | refine Run.check1 ?_ | refine Run.call (bookOk_ok _ hw) rfl ?_ | refine Run.round ⟨[(.t 1 0, .t 1 0), (.t 2 0, .t 2 0), (.t 5 0, .t 5 0), (.t 24 0, .t 1000 2)], [(.t 1000 0, .mv), (.t 1000 1, .int .i64)], []⟩ (loop b.ms.length 0 _ _ _ _ _ rfl ?_ ?_ ?_ ?_) rfl (by repeat' first | exact wkEnv_nil | refine wkEnv_cons rfl ?_ | exact wkSto_nil | refine wkSto_none ?_ | refine wkSto_some rfl ?_) (by repeat' first | exact wkEnv_nil | refine wkEnv_cons rfl ?_ | exact wkSto_nil | refine wkSto_none ?_ | refine wkSto_some rfl ?_) | (exact absurd ‹b.now = 10000› hn) | (exact absurd hb ‹¬ BkOk b›)
      all_goals first | exact e1 | omega | rfl | exact ⟨Nat.le_refl _, Nat.le_refl _, Nat.le_refl _⟩ | trace_state
  · rw [show tickR b = (⟨0, 0, [], []⟩, [], 1) by unfold tickR; rw [if_neg hb]]
    conv => arg 4; whnf
    refine Run.call0 (bookOk_ok b hw) rfl (.go 5000 ?_)
    rw [decide_eq_false hb]
    conv => arg 4; whnf
    refine Run.cond0 (fun _ => ?_) (fun h => by cases h)
    refine Run.to [1, 0, 1, 0, 1] 5000 ?_
    conv => arg 4; whnf
    refine Run.less ⟨[(.t 2 0, .t 2 0)], [(.t 1000 0, .mv), (.t 1000 1, .int .i64), (.t 1000 2, .str)], []⟩ (env' := [(2, .one (.ptr (.t 2 0) 0)), (3, .one (.own (.t 1000 2))), (4, .one (.int .i64 1))]) (sto' := [(.t 2 0, some (.cells [.int .i64 0, .int .i64 0, .own (.t 1000 0), .own (.t 1000 1)])), (.t 1000 0, some (.row .mv [])), (.t 1000 1, some (.row (.int .i64) [])), (.t 1000 2, some (.row .str []))]) (.go 5000 ?_) rfl (by repeat' first | exact wkEnv_nil | refine wkEnv_cons rfl ?_ | exact wkSto_nil | refine wkSto_none ?_ | refine wkSto_some rfl ?_) (by repeat' first | exact wkEnv_nil | refine wkEnv_cons rfl ?_ | exact wkSto_nil | refine wkSto_none ?_ | refine wkSto_some rfl ?_)
    repeat' (conv => arg 4; whnf); first | refine Run.ret ⟨?_, rfl⟩ | refine Run.condT ?_ | refine Run.condf ?_ | refine Run.condD (fun h => ?_) (fun h => ?_) | refine Run.condN (fun h => ?_) (fun h => ?_) | refine Run.condE (fun h => ?_) (fun h => ?_) | refine Run.condF (fun h => ?_) (fun h => ?_) | refine Run.condM (fun h => ?_) (fun h => ?_) | refine Run.condB (fun h => ?_) (fun h => ?_) | refine Run.check1 ?_
    all_goals rfl
theorem stick_ok (b : Bk) (hl : b.ms.length ≤ 1048576) (ht : b.ts.length ≤ 1048576) (hw : TkWf b.ts) :
    Ok P 42 [b.lent] [] (.tup [(tickR b).1.own (.k 0) (.k 1), .one (.own (.k 2)), .one (.int .i64 (tickR b).2.2)]) [some (.row .mv (tickR b).1.ms), some (.row (.int .i64) (tickR b).1.ts), some (.row .str (tickR b).2.1)] := by
  refine Ok.of_run (F := mk Try.f42 0) Try.func42 rfl rfl tabOk mixed rfl rfl rfl rfl rfl (Nat.le_of_ble_eq_true rfl) (Nat.le_of_ble_eq_true rfl) (.go 5000 ?_)
  by_cases hb : BkOk b
  · by_cases hn : b.now = 10000
    · rw [show tickR b = (b, [], 2) by unfold tickR; rw [if_pos hb, if_pos hn]]
      repeat' (conv => arg 4; whnf); first | refine Run.ret ⟨?_, rfl⟩ | refine Run.condT ?_ | refine Run.condf ?_ | refine Run.condD (fun h => ?_) (fun h => ?_) | refine Run.condN (fun h => ?_) (fun h => ?_) | refine Run.condE (fun h => ?_) (fun h => ?_) | refine Run.condF (fun h => ?_) (fun h => ?_) | refine Run.condM (fun h => ?_) (fun h => ?_) | refine Run.condB (fun h => ?_) (fun h => ?_) | refine Run.check1 ?_ | refine Run.call (sbookOk_ok _ hw) rfl ?_ | refine Run.call (scopy_ok ⟨_, _, _, _⟩ hl ht) rfl ?_ | contradiction
      all_goals first | rfl | (exfalso; omega) | contradiction | trace_state
    · rw [show tickR b = (⟨b.now + 1, b.shift, (tickF b).1, (tickF b).2.1⟩, (tickF b).2.2, 0) by unfold tickR; rw [if_pos hb, if_neg hn]]
      have hnow := hb.1
      have h6 := hb.2.2.1.1.1
      have hlen := hb.2.2.1.2.1
      have e1 : wrap64 (b.now + 1) = b.now + 1 := wrap_eq (by omega) (by omega)
      have e5 : wrap64 (b.now + 1 + 4) = b.now + 1 + 4 := wrap_eq (by omega) (by omega)
      have loop : ∀ (d i : Nat) (z y : Int) (s1 : List Mv) (s2 : List Int) (s3 : List ByteArray), z = i → y = b.now + 1 → i + d = b.ms.length → Len3 i (s1, s2, s3) → foldFrom (tickStep b) i d (s1, s2, s3) = tickF b →
          Run P (mk Try.f42 0) (fun v st => v = .tup [Bk.own ⟨b.now + 1, b.shift, (tickF b).1, (tickF b).2.1⟩ (.k 0) (.k 1), .one (.own (.k 2)), .one (.int .i64 0)] ∧ st = [some (.row .mv (tickF b).1), some (.row (.int .i64) (tickF b).2.1), some (.row .str (tickF b).2.2)])
            (.loop ⟨[(1, .one (.ptr (.t 1 0) 0)), (2, .one (.ptr (.t 2 0) 0)), (5, .one (.own (.t 1000 2))), (7, .one (.ptr (.t 7 0) 0)), (8, .one (.int .i64 z))],
              [(.t 1 0, some (.cells b.lent.atoms)), (.t 2 0, some (.cells [.int .i64 0, .int .i64 0, .nil, .nil])), (.t 7 0, some (.cells [.int .i64 y, .int .i64 b.shift, .own (.t 1000 0), .own (.t 1000 1)])), (.t 1000 0, some (.row .mv s1)), (.t 1000 1, some (.row (.int .i64) s2)), (.t 1000 2, some (.row .str s3))], [.lp [0, 1, 0, 1, 1, 1, 1, 1, 1], .blk 0, .code [1, 1, 1, 1, 1, 1, 1]], none⟩) := by
        intro d
        induction d with
        | zero =>
          intro i z y s1 s2 s3 hz hy hd hc he
          subst hz; subst hy
          rw [← he]
          refine Run.loop ?_
          obtain ⟨c1, c2, c3⟩ := hc
          simp only at c1 c2 c3
          repeat' (conv => arg 4; whnf); first | refine Run.ret ⟨?_, rfl⟩ | refine Run.condT ?_ | refine Run.condf ?_ | refine Run.condD (fun h => ?_) (fun h => ?_) | refine Run.condN (fun h => ?_) (fun h => ?_) | refine Run.condE (fun h => ?_) (fun h => ?_) | refine Run.condF (fun h => ?_) (fun h => ?_) | refine Run.condM (fun h => ?_) (fun h => ?_) | refine Run.condB (fun h => ?_) (fun h => ?_) | refine Run.check1 ?_ | refine Run.call (scopy_ok ⟨_, _, _, _⟩ (show s1.length ≤ 1048576 by omega) (show s2.length ≤ 1048576 by omega)) rfl ?_ | (exfalso; omega)
          all_goals first | rfl | (exfalso; omega) | trace_state
        | succ d ih =>
          intro i z y s1 s2 s3 hz hy hd hc he
          subst hz; subst hy
          have e : wrap64 ((i : Int) + 1) = ((i + 1 : Nat) : Int) := wrap_eq (by omega) (by omega)
          have hc' := len3_step (b := b) hc
          have he' : foldFrom (tickStep b) (i + 1) d (tickStep b i (s1, s2, s3)) = tickF b := he
          have st1 : tk b.ts i = b.now → tickStep b i (s1, s2, s3) = (s1, s2, s3 ++ [(at' b.ms i).f0]) := fun q => by unfold tickStep; rw [if_pos q]
          have st2 : ¬ tk b.ts i = b.now → tk b.ts i < b.now + 1 + 4 → tickStep b i (s1, s2, s3) = (s1 ++ [{ at' b.ms i with f5 := tk b.ts i }], s2 ++ [tk b.ts i], s3) := fun q q' => by unfold tickStep soon; rw [if_neg q, if_pos q']
          have st3 : ¬ tk b.ts i = b.now → ¬ tk b.ts i < b.now + 1 + 4 → tickStep b i (s1, s2, s3) = (s1 ++ [at' b.ms i], s2 ++ [tk b.ts i], s3) := fun q q' => by unfold tickStep soon; rw [if_neg q, if_neg q']
          obtain ⟨c1, c2, c3⟩ := hc
          simp only at c1 c2 c3
          refine Run.loop ?_
          repeat' (conv => arg 4; whnf); first | refine Run.ret ⟨?_, rfl⟩ | refine Run.condT ?_ | refine Run.condf ?_ | refine Run.condD (fun h => ?_) (fun h => ?_) | refine Run.condN (fun h => ?_) (fun h => ?_) | refine Run.condE (fun h => ?_) (fun h => ?_) | refine Run.condF (fun h => ?_) (fun h => ?_) | refine Run.condM (fun h => ?_) (fun h => ?_) | refine Run.condB (fun h => ?_) (fun h => ?_) | refine Run.check1 ?_ | refine Run.need1 (by simp only [allP, true_and, and_true, List.length_cons, List.length_nil]; omega) ?_ | refine Run.round ⟨[(.t 1 0, .t 1 0), (.t 2 0, .t 2 0), (.t 7 0, .t 7 0), (.t 1000 0, .t 1000 0), (.t 1000 1, .t 1000 1), (.t 53 0, .t 1000 2)], [], []⟩ (ih (i + 1) _ _ _ _ _ e rfl (by omega) ?_ ?_) rfl (by repeat' first | exact wkEnv_nil | refine wkEnv_cons rfl ?_ | exact wkSto_nil | refine wkSto_none ?_ | refine wkSto_some rfl ?_) (by repeat' first | exact wkEnv_nil | refine wkEnv_cons rfl ?_ | exact wkSto_nil | refine wkSto_none ?_ | refine wkSto_some rfl ?_) | refine Run.round ⟨[(.t 1 0, .t 1 0), (.t 2 0, .t 2 0), (.t 7 0, .t 7 0), (.t 73 0, .t 1000 0), (.t 83 0, .t 1000 1), (.t 1000 2, .t 1000 2)], [], []⟩ (ih (i + 1) _ _ _ _ _ e rfl (by omega) ?_ ?_) rfl (by repeat' first | exact wkEnv_nil | refine wkEnv_cons rfl ?_ | exact wkSto_nil | refine wkSto_none ?_ | refine wkSto_some rfl ?_) (by repeat' first | exact wkEnv_nil | refine wkEnv_cons rfl ?_ | exact wkSto_nil | refine wkSto_none ?_ | refine wkSto_some rfl ?_) | (exfalso; omega)
          all_goals (simp only [rd_nat, rdM_nat, e5] at *)
          all_goals first
            | (exfalso; omega)
            | (rw [st1 (by omega)] at hc' he'
               first | exact hc' | exact he')
            | (rw [st2 (by omega) (by omega)] at hc' he'
               first | exact hc' | exact he')
            | (rw [st3 (by omega) (by omega)] at hc' he'
               first | exact hc' | exact he')
            | trace_state
      repeat' (conv => arg 4; whnf); first | refine Run.ret ⟨?_, rfl⟩ | refine Run.condT ?_ | refine Run.condf ?_ | refine Run.condD (fun h => ?_) (fun h => ?_) | refine Run.condN (fun h => ?_) (fun h => ?_) | refine Run.condE (fun h => ?_) (fun h => ?_) | refine Run.condF (fun h => ?_) (fun h => ?_) | refine Run.condM (fun h => ?_) (fun h => ?_) | refine Run.condB (fun h => ?_) (fun h => ?_) | refine Run.check1 ?_ | refine Run.call (sbookOk_ok _ hw) rfl ?_ | refine Run.call (scopy_ok ⟨_, _, _, _⟩ hl ht) rfl ?_ | refine Run.round ⟨[(.t 1 0, .t 1 0), (.t 2 0, .t 2 0), (.t 7 0, .t 7 0), (.t 10 0, .t 1000 2)], [(.t 1000 0, .mv), (.t 1000 1, .int .i64)], []⟩ (loop b.ms.length 0 _ _ _ _ _ rfl ?_ ?_ ?_ ?_) rfl (by repeat' first | exact wkEnv_nil | refine wkEnv_cons rfl ?_ | exact wkSto_nil | refine wkSto_none ?_ | refine wkSto_some rfl ?_) (by repeat' first | exact wkEnv_nil | refine wkEnv_cons rfl ?_ | exact wkSto_nil | refine wkSto_none ?_ | refine wkSto_some rfl ?_) | (exfalso; omega) | (exact absurd hb ‹¬ BkOk b›)
      all_goals first | exact e1 | omega | rfl | exact ⟨Nat.le_refl _, Nat.le_refl _, Nat.le_refl _⟩ | trace_state
  · rw [show tickR b = (⟨0, 0, [], []⟩, [], 1) by unfold tickR; rw [if_neg hb]]
    conv => arg 4; whnf
    refine Run.call0 (sbookOk_ok b hw) rfl (.go 5000 ?_)
    rw [decide_eq_false hb]
    conv => arg 4; whnf
    refine Run.cond0 (fun _ => ?_) (fun h => by cases h)
    refine Run.to [1, 0, 1, 0, 1, 1] 5000 ?_
    conv => arg 4; whnf
    refine Run.less ⟨[(.t 2 0, .t 2 0), (.t 10 0, .t 1000 2)], [(.t 1000 0, .mv), (.t 1000 1, .int .i64)], []⟩ (env' := [(2, .one (.ptr (.t 2 0) 0)), (3, .one (.own (.t 1000 2))), (4, .one (.int .i64 1))]) (sto' := [(.t 2 0, some (.cells [.int .i64 0, .int .i64 0, .own (.t 1000 0), .own (.t 1000 1)])), (.t 1000 0, some (.row .mv [])), (.t 1000 1, some (.row (.int .i64) [])), (.t 1000 2, some (.row .str []))]) (.go 5000 ?_) rfl (by repeat' first | exact wkEnv_nil | refine wkEnv_cons rfl ?_ | exact wkSto_nil | refine wkSto_none ?_ | refine wkSto_some rfl ?_) (by repeat' first | exact wkEnv_nil | refine wkEnv_cons rfl ?_ | exact wkSto_nil | refine wkSto_none ?_ | refine wkSto_some rfl ?_)
    repeat' (conv => arg 4; whnf); first | refine Run.ret ⟨?_, rfl⟩ | refine Run.condT ?_ | refine Run.condf ?_ | refine Run.condD (fun h => ?_) (fun h => ?_) | refine Run.condN (fun h => ?_) (fun h => ?_) | refine Run.condE (fun h => ?_) (fun h => ?_) | refine Run.condF (fun h => ?_) (fun h => ?_) | refine Run.condM (fun h => ?_) (fun h => ?_) | refine Run.condB (fun h => ?_) (fun h => ?_) | refine Run.check1 ?_
    all_goals rfl
end Go.Proofs.Ytpdmimlkgmhepaa.AM

/- The exact laws' helpers; condition: sizes. -/
namespace Go.Proofs.Ytpdmimlkgmhepaa.AM
open Go.AM Go.RowKit
set_option linter.unusedVariables false
set_option linter.unusedSimpArgs false
set_option maxRecDepth 100000

theorem toInts_ok (t : List Int) (ht : t.length ≤ 1048576) : Ok P 12 [.one (.lst (.int .i64) t false)] [] (.one (.own (.k 0))) [some (.row (.int .i64) t)] := by
  refine Ok.of_run (F := mk Try.f12 0) Try.func12 rfl rfl tabOk mixed rfl rfl rfl rfl rfl (Nat.le_of_ble_eq_true rfl) (Nat.le_of_ble_eq_true rfl) (.go 5000 ?_)
  have loop : ∀ (d i : Nat) (z : Int) (s : List Int), z = i → i + d = t.length → Cp 0 t s i → Run P (mk Try.f12 0) (fun v st => v = .one (.own (.k 0)) ∧ st = [some (.row (.int .i64) t)]) (.loop ⟨[(0, .one (.lst (.int .i64) t false)), (3, .one (.own (.t 7 0))), (4, .one (.int .i64 z))], [(.t 7 0, some (.row (.int .i64) s))], [.lp [0, 1, 0, 1, 1], .blk 0, .code [1, 1, 1]], none⟩) := by
    intro d
    induction d with
    | zero =>
      intro i z s hz hd hc
      subst hz
      obtain rfl := cp_end hc (by omega)
      refine Run.loop ?_
      repeat' (conv => arg 4; whnf); first | refine Run.ret ⟨?_, rfl⟩ | refine Run.condT ?_ | refine Run.condf ?_ | refine Run.condD (fun h => ?_) (fun h => ?_) | refine Run.condN (fun h => ?_) (fun h => ?_) | refine Run.condE (fun h => ?_) (fun h => ?_) | refine Run.condF (fun h => ?_) (fun h => ?_) | refine Run.condM (fun h => ?_) (fun h => ?_) | refine Run.condB (fun h => ?_) (fun h => ?_) | refine Run.check1 ?_ | (exfalso; omega)
      all_goals first | rfl | (exfalso; omega)
    | succ d ih =>
      intro i z s hz hd hc
      subst hz
      have e : wrap64 ((i : Int) + 1) = ((i + 1 : Nat) : Int) := wrap_eq (by omega) (by omega)
      have hl := hc.1
      have hs := cp_step hc (i := i) (by omega)
      refine Run.loop ?_
      repeat' (conv => arg 4; whnf); first | refine Run.ret ⟨?_, rfl⟩ | refine Run.condT ?_ | refine Run.condf ?_ | refine Run.condD (fun h => ?_) (fun h => ?_) | refine Run.condN (fun h => ?_) (fun h => ?_) | refine Run.condE (fun h => ?_) (fun h => ?_) | refine Run.condF (fun h => ?_) (fun h => ?_) | refine Run.condM (fun h => ?_) (fun h => ?_) | refine Run.condB (fun h => ?_) (fun h => ?_) | refine Run.check1 ?_ | refine Run.need1 (by simp only [allP, true_and, and_true]; omega) ?_ | refine Run.round ⟨[(.t 7 0, .t 7 0)], [], []⟩ (ih (i + 1) _ _ e (by omega) ?_) rfl (by repeat' first | exact wkEnv_nil | refine wkEnv_cons rfl ?_ | exact wkSto_nil | refine wkSto_none ?_ | refine wkSto_some rfl ?_) (by repeat' first | exact wkEnv_nil | refine wkEnv_cons rfl ?_ | exact wkSto_nil | refine wkSto_none ?_ | refine wkSto_some rfl ?_) | (exfalso; omega)
      all_goals first
        | (exfalso; omega)
        | (simpa [rd] using hs)
        | trace_state
  repeat' (conv => arg 4; whnf); first | refine Run.ret ⟨?_, rfl⟩ | refine Run.condT ?_ | refine Run.condf ?_ | refine Run.condD (fun h => ?_) (fun h => ?_) | refine Run.condN (fun h => ?_) (fun h => ?_) | refine Run.condE (fun h => ?_) (fun h => ?_) | refine Run.condF (fun h => ?_) (fun h => ?_) | refine Run.condM (fun h => ?_) (fun h => ?_) | refine Run.condB (fun h => ?_) (fun h => ?_) | refine Run.check1 ?_ | refine Run.need1 (by simp only [allP, true_and, and_true]; omega) ?_ | refine Run.round ⟨[(.t 7 0, .t 7 0)], [], []⟩ (loop t.length 0 _ _ rfl ?_ ?_) rfl (by repeat' first | exact wkEnv_nil | refine wkEnv_cons rfl ?_ | exact wkSto_nil | refine wkSto_none ?_ | refine wkSto_some rfl ?_) (by repeat' first | exact wkEnv_nil | refine wkEnv_cons rfl ?_ | exact wkSto_nil | refine wkSto_none ?_ | refine wkSto_some rfl ?_)
  all_goals first
    | omega
    | exact ⟨by simp, fun j hj => absurd hj (by omega)⟩
    | trace_state
theorem toMove_ok (m : Mv) : Ok P 53 [.agg (encMv m)] [] (.agg (encMv m)) [] := by
  refine Ok.of_run (F := mk Try.f53 0) Try.func53 rfl rfl tabOk mixed rfl rfl rfl rfl rfl (Nat.le_of_ble_eq_true rfl) (Nat.le_of_ble_eq_true rfl) (.go 5000 ?_)
  repeat' (conv => arg 4; whnf); first | refine Run.ret ⟨?_, rfl⟩ | refine Run.condT ?_ | refine Run.condf ?_ | refine Run.condD (fun h => ?_) (fun h => ?_) | refine Run.condN (fun h => ?_) (fun h => ?_) | refine Run.condE (fun h => ?_) (fun h => ?_) | refine Run.condF (fun h => ?_) (fun h => ?_) | refine Run.condM (fun h => ?_) (fun h => ?_) | refine Run.condB (fun h => ?_) (fun h => ?_) | refine Run.check1 ?_
  rfl
theorem toMoves_ok (t : List Mv) (ht : t.length ≤ 1048576) : Ok P 17 [.one (.lst .mv t false)] [] (.one (.own (.k 0))) [some (.row .mv t)] := by
  refine Ok.of_run (F := mk Try.f17 0) Try.func17 rfl rfl tabOk mixed rfl rfl rfl rfl rfl (Nat.le_of_ble_eq_true rfl) (Nat.le_of_ble_eq_true rfl) (.go 5000 ?_)
  have loop : ∀ (d i : Nat) (z : Int) (s : List Mv), z = i → i + d = t.length → Cp Mv.z t s i → Run P (mk Try.f17 0) (fun v st => v = .one (.own (.k 0)) ∧ st = [some (.row .mv t)]) (.loop ⟨[(0, .one (.lst .mv t false)), (3, .one (.own (.t 7 0))), (4, .one (.int .i64 z))], [(.t 7 0, some (.row .mv s))], [.lp [0, 1, 0, 1, 1], .blk 0, .code [1, 1, 1]], none⟩) := by
    intro d
    induction d with
    | zero =>
      intro i z s hz hd hc
      subst hz
      obtain rfl := cp_end hc (by omega)
      refine Run.loop ?_
      repeat' (conv => arg 4; whnf); first | refine Run.ret ⟨?_, rfl⟩ | refine Run.condT ?_ | refine Run.condf ?_ | refine Run.condD (fun h => ?_) (fun h => ?_) | refine Run.condN (fun h => ?_) (fun h => ?_) | refine Run.condE (fun h => ?_) (fun h => ?_) | refine Run.condF (fun h => ?_) (fun h => ?_) | refine Run.condM (fun h => ?_) (fun h => ?_) | refine Run.condB (fun h => ?_) (fun h => ?_) | refine Run.check1 ?_ | (exfalso; omega)
      all_goals first | rfl | (exfalso; omega)
    | succ d ih =>
      intro i z s hz hd hc
      subst hz
      have e : wrap64 ((i : Int) + 1) = ((i + 1 : Nat) : Int) := wrap_eq (by omega) (by omega)
      have hl := hc.1
      have hs := cp_step hc (i := i) (by omega)
      refine Run.loop ?_
      repeat' (conv => arg 4; whnf); first | refine Run.ret ⟨?_, rfl⟩ | refine Run.condT ?_ | refine Run.condf ?_ | refine Run.condD (fun h => ?_) (fun h => ?_) | refine Run.condN (fun h => ?_) (fun h => ?_) | refine Run.condE (fun h => ?_) (fun h => ?_) | refine Run.condF (fun h => ?_) (fun h => ?_) | refine Run.condM (fun h => ?_) (fun h => ?_) | refine Run.condB (fun h => ?_) (fun h => ?_) | refine Run.check1 ?_ | refine Run.call (toMove_ok _) rfl ?_ | refine Run.need1 (by simp only [allP, true_and, and_true]; omega) ?_ | refine Run.round ⟨[(.t 7 0, .t 7 0)], [], []⟩ (ih (i + 1) _ _ e (by omega) ?_) rfl (by repeat' first | exact wkEnv_nil | refine wkEnv_cons rfl ?_ | exact wkSto_nil | refine wkSto_none ?_ | refine wkSto_some rfl ?_) (by repeat' first | exact wkEnv_nil | refine wkEnv_cons rfl ?_ | exact wkSto_nil | refine wkSto_none ?_ | refine wkSto_some rfl ?_) | (exfalso; omega)
      all_goals first
        | (exfalso; omega)
        | (simpa [rdM] using hs)
        | trace_state
  repeat' (conv => arg 4; whnf); first | refine Run.ret ⟨?_, rfl⟩ | refine Run.condT ?_ | refine Run.condf ?_ | refine Run.condD (fun h => ?_) (fun h => ?_) | refine Run.condN (fun h => ?_) (fun h => ?_) | refine Run.condE (fun h => ?_) (fun h => ?_) | refine Run.condF (fun h => ?_) (fun h => ?_) | refine Run.condM (fun h => ?_) (fun h => ?_) | refine Run.condB (fun h => ?_) (fun h => ?_) | refine Run.check1 ?_ | refine Run.need1 (by simp only [allP, true_and, and_true]; omega) ?_ | refine Run.round ⟨[(.t 7 0, .t 7 0)], [], []⟩ (loop t.length 0 _ _ rfl ?_ ?_) rfl (by repeat' first | exact wkEnv_nil | refine wkEnv_cons rfl ?_ | exact wkSto_nil | refine wkSto_none ?_ | refine wkSto_some rfl ?_) (by repeat' first | exact wkEnv_nil | refine wkEnv_cons rfl ?_ | exact wkSto_nil | refine wkSto_none ?_ | refine wkSto_some rfl ?_)
  all_goals first
    | omega
    | exact ⟨by simp, fun j hj => absurd hj (by omega)⟩
    | trace_state
theorem szMove_ok (m : Mv) (left : Int) (h : 0 ≤ left ∧ left ≤ 1048576) (hm : m.f0.size ≤ maxLen) : Ok P 52 [.agg (encMv m), .one (.int .i64 left)] [] (.one (.int .i64 (szM m left))) [] := by
  refine Ok.of_run (F := mk Try.f52 0) Try.func52 rfl rfl tabOk mixed rfl rfl rfl rfl rfl (Nat.le_of_ble_eq_true rfl) (Nat.le_of_ble_eq_true rfl) (.go 5000 ?_)
  have e : wrap64 (left - m.f0.size) = left - m.f0.size := wrap_eq (by unfold maxLen at hm; omega) (by omega)
  repeat' (conv => arg 4; whnf); first | refine Run.ret ⟨?_, rfl⟩ | refine Run.condT ?_ | refine Run.condf ?_ | refine Run.condD (fun h => ?_) (fun h => ?_) | refine Run.condN (fun h => ?_) (fun h => ?_) | refine Run.condE (fun h => ?_) (fun h => ?_) | refine Run.condF (fun h => ?_) (fun h => ?_) | refine Run.condM (fun h => ?_) (fun h => ?_) | refine Run.condB (fun h => ?_) (fun h => ?_) | refine Run.check1 ?_
  all_goals (refine vi ?_; unfold szM; rw [e] at *; first | rw [if_pos ‹_›] | rw [if_neg ‹_›])
theorem szMoves_ok (l : List Mv) (left : Int) (h : 0 ≤ left ∧ left ≤ 1048576) (hl : l.length ≤ maxLen) (hm : ∀ i, i < l.length → (at' l i).f0.size ≤ maxLen) : Ok P 15 [.one (.lst .mv l false), .one (.int .i64 left)] [] (.one (.int .i64 (szMs l left))) [] := by
  refine Ok.of_run (F := mk Try.f15 0) Try.func15 rfl rfl tabOk mixed rfl rfl rfl rfl rfl (Nat.le_of_ble_eq_true rfl) (Nat.le_of_ble_eq_true rfl) (.go 5000 ?_)
  have e0 : wrap64 (left - l.length) = left - l.length := wrap_eq (by unfold maxLen at hl; omega) (by omega)
  have loop : ∀ (d i : Nat) (z s : Int), z = i → i + d = l.length → l.length ≤ 1048576 → 0 ≤ s ∧ s ≤ 1048576 → szFrom l d i s = szMs l left → Run P (mk Try.f15 0) (fun v st => v = .one (.int .i64 (szMs l left)) ∧ st = []) (.loop ⟨[(0, .one (.lst .mv l false)), (1, .one (.int .i64 s)), (5, .one (.int .i64 z))], [], [.lp [0, 1, 0, 1, 1, 1], .blk 0, .code [1, 1, 1, 1]], none⟩) := by
    intro d
    induction d with
    | zero =>
      intro i z s hz hd hb hs he
      subst hz
      refine Run.loop ?_
      repeat' (conv => arg 4; whnf); first | refine Run.ret ⟨?_, rfl⟩ | refine Run.condT ?_ | refine Run.condf ?_ | refine Run.condD (fun h => ?_) (fun h => ?_) | refine Run.condN (fun h => ?_) (fun h => ?_) | refine Run.condE (fun h => ?_) (fun h => ?_) | refine Run.condF (fun h => ?_) (fun h => ?_) | refine Run.condM (fun h => ?_) (fun h => ?_) | refine Run.condB (fun h => ?_) (fun h => ?_) | refine Run.check1 ?_ | (exfalso; omega)
      all_goals first | (rw [← he]; rfl) | (exfalso; omega)
    | succ d ih =>
      intro i z s hz hd hb hs he
      subst hz
      have e : wrap64 ((i : Int) + 1) = ((i + 1 : Nat) : Int) := wrap_eq (by omega) (by omega)
      have hle := szM_le (m := at' l i) hs.1
      refine Run.loop ?_
      repeat' (conv => arg 4; whnf); first | refine Run.ret ⟨?_, rfl⟩ | refine Run.condT ?_ | refine Run.condf ?_ | refine Run.condD (fun h => ?_) (fun h => ?_) | refine Run.condN (fun h => ?_) (fun h => ?_) | refine Run.condE (fun h => ?_) (fun h => ?_) | refine Run.condF (fun h => ?_) (fun h => ?_) | refine Run.condM (fun h => ?_) (fun h => ?_) | refine Run.condB (fun h => ?_) (fun h => ?_) | refine Run.check1 ?_ | refine Run.call (szMove_ok _ _ hs (by rw [rdM_nat]; exact hm i (by omega))) rfl ?_ | refine Run.need1 (by simp only [allP, true_and, and_true]; omega) ?_ | refine Run.round ⟨[], [], []⟩ (ih (i + 1) _ _ e (by omega) hb ?_ ?_) rfl (by repeat' first | exact wkEnv_nil | refine wkEnv_cons rfl ?_ | exact wkSto_nil | refine wkSto_none ?_ | refine wkSto_some rfl ?_) (by repeat' first | exact wkEnv_nil | refine wkEnv_cons rfl ?_ | exact wkSto_nil | refine wkSto_none ?_ | refine wkSto_some rfl ?_) | (exfalso; omega)
      all_goals (rw [szFrom] at he; try simp only [rdM_nat] at *)
      all_goals first
        | (exfalso; omega)
        | omega
        | (rw [if_pos ‹_›] at he; rw [he])
        | (rw [if_neg ‹_›] at he; exact he)
        | trace_state
  repeat' (conv => arg 4; whnf); first | refine Run.ret ⟨?_, rfl⟩ | refine Run.condT ?_ | refine Run.condf ?_ | refine Run.condD (fun h => ?_) (fun h => ?_) | refine Run.condN (fun h => ?_) (fun h => ?_) | refine Run.condE (fun h => ?_) (fun h => ?_) | refine Run.condF (fun h => ?_) (fun h => ?_) | refine Run.condM (fun h => ?_) (fun h => ?_) | refine Run.condB (fun h => ?_) (fun h => ?_) | refine Run.check1 ?_ | refine Run.round ⟨[], [], []⟩ (loop l.length 0 _ _ rfl ?_ ?_ ?_ ?_) rfl (by repeat' first | exact wkEnv_nil | refine wkEnv_cons rfl ?_ | exact wkSto_nil | refine wkSto_none ?_ | refine wkSto_some rfl ?_) (by repeat' first | exact wkEnv_nil | refine wkEnv_cons rfl ?_ | exact wkSto_nil | refine wkSto_none ?_ | refine wkSto_some rfl ?_)
  all_goals (simp only [e0] at *)
  all_goals try unfold szMs
  all_goals first
    | omega
    | (rw [if_pos ‹_›])
    | (rw [if_neg ‹_›])
    | trace_state
end Go.Proofs.Ytpdmimlkgmhepaa.AM

/- The exact laws' marks on numbers; condition: bounds. -/
namespace Go.Proofs.Ytpdmimlkgmhepaa.AM
open Go.AM Go.RowKit
set_option linter.unusedVariables false
set_option linter.unusedSimpArgs false
set_option maxRecDepth 100000

def mkI (k : Int) (n : Nat) : List Int := (List.range n).map fun i : Nat => k + (i : Int)
theorem mkI_len (k : Int) (n : Nat) : (mkI k n).length = n := by simp [mkI]
theorem mkI_at (k : Int) (n : Nat) {i : Nat} (h : i < n) : (mkI k n).getD i 0 = k + i := by simp [mkI, List.getD_eq_getElem?_getD, h]
theorem markInts_ok (t : List Int) (k : Int) (ht : t.length ≤ 1048576) (hk : 0 ≤ k ∧ k ≤ 1000000000000) : Ok P 32 [.one (.own (.k 0)), .one (.int .i64 k)] [some (.row (.int .i64) t)] (.one (.int .i64 (k + t.length))) [some (.row (.int .i64) (mkI k t.length))] := by
  refine Ok.of_run (F := mk Try.f32 1) Try.func32 rfl rfl tabOk mixed rfl rfl rfl rfl rfl (Nat.le_of_ble_eq_true rfl) (Nat.le_of_ble_eq_true rfl) (.go 5000 ?_)
  have loop : ∀ (d i : Nat) (z y : Int) (s : List Int), z = i → y = k + i → i + d = t.length → Cp 0 (mkI k t.length) s i → Run P (mk Try.f32 1) (fun v st => v = .one (.int .i64 (k + t.length)) ∧ st = [some (.row (.int .i64) (mkI k t.length))]) (.loop ⟨[(0, .one (.own (.k 0))), (1, .one (.int .i64 y)), (5, .one (.int .i64 z))], [(.k 0, some (.row (.int .i64) s))], [.lp [0, 1, 0, 1], .blk 0, .code [1, 1]], none⟩) := by
    intro d
    induction d with
    | zero =>
      intro i z y s hz hy hd hc
      subst hz; subst hy
      have hl := hc.1
      rw [mkI_len] at hl
      obtain rfl := cp_end hc (by rw [mkI_len]; omega)
      refine Run.loop ?_
      repeat' (conv => arg 4; whnf); first | refine Run.ret ⟨?_, rfl⟩ | refine Run.condT ?_ | refine Run.condf ?_ | refine Run.condD (fun h => ?_) (fun h => ?_) | refine Run.condN (fun h => ?_) (fun h => ?_) | refine Run.condE (fun h => ?_) (fun h => ?_) | refine Run.condF (fun h => ?_) (fun h => ?_) | refine Run.condM (fun h => ?_) (fun h => ?_) | refine Run.condB (fun h => ?_) (fun h => ?_) | refine Run.check1 ?_ | (exfalso; omega)
      all_goals first | (exfalso; omega) | (refine vi ?_; omega) | trace_state
    | succ d ih =>
      intro i z y s hz hy hd hc
      subst hz; subst hy
      have e : wrap64 ((i : Int) + 1) = ((i + 1 : Nat) : Int) := wrap_eq (by omega) (by omega)
      have ek : wrap64 (k + i + 1) = k + ((i + 1 : Nat) : Int) := (wrap_eq (by omega) (by omega)).trans (by omega)
      have hl := hc.1
      rw [mkI_len] at hl
      have hs := cp_step hc (i := i) (by rw [mkI_len]; omega)
      rw [mkI_at _ _ (by omega)] at hs
      refine Run.loop ?_
      repeat' (conv => arg 4; whnf); first | refine Run.ret ⟨?_, rfl⟩ | refine Run.condT ?_ | refine Run.condf ?_ | refine Run.condD (fun h => ?_) (fun h => ?_) | refine Run.condN (fun h => ?_) (fun h => ?_) | refine Run.condE (fun h => ?_) (fun h => ?_) | refine Run.condF (fun h => ?_) (fun h => ?_) | refine Run.condM (fun h => ?_) (fun h => ?_) | refine Run.condB (fun h => ?_) (fun h => ?_) | refine Run.check1 ?_ | refine Run.need1 (by simp only [allP, true_and, and_true]; omega) ?_ | refine Run.round ⟨[], [], []⟩ (ih (i + 1) _ _ _ e ek (by omega) ?_) rfl (by repeat' first | exact wkEnv_nil | refine wkEnv_cons rfl ?_ | exact wkSto_nil | refine wkSto_none ?_ | refine wkSto_some rfl ?_) (by repeat' first | exact wkEnv_nil | refine wkEnv_cons rfl ?_ | exact wkSto_nil | refine wkSto_none ?_ | refine wkSto_some rfl ?_) | (exfalso; omega)
      all_goals first
        | (exfalso; omega)
        | (simpa using hs)
        | trace_state
  repeat' (conv => arg 4; whnf); first | refine Run.ret ⟨?_, rfl⟩ | refine Run.condT ?_ | refine Run.condf ?_ | refine Run.condD (fun h => ?_) (fun h => ?_) | refine Run.condN (fun h => ?_) (fun h => ?_) | refine Run.condE (fun h => ?_) (fun h => ?_) | refine Run.condF (fun h => ?_) (fun h => ?_) | refine Run.condM (fun h => ?_) (fun h => ?_) | refine Run.condB (fun h => ?_) (fun h => ?_) | refine Run.check1 ?_ | refine Run.round ⟨[], [], []⟩ (loop t.length 0 _ _ _ rfl ?_ ?_ ?_) rfl (by repeat' first | exact wkEnv_nil | refine wkEnv_cons rfl ?_ | exact wkSto_nil | refine wkSto_none ?_ | refine wkSto_some rfl ?_) (by repeat' first | exact wkEnv_nil | refine wkEnv_cons rfl ?_ | exact wkSto_nil | refine wkSto_none ?_ | refine wkSto_some rfl ?_)
  all_goals first
    | omega
    | exact ⟨by rw [mkI_len], fun j hj => absurd hj (by omega)⟩
    | trace_state
theorem heldInts_ok (n : Nat) (k : Int) (hn : n ≤ 1048576) (hk : 0 ≤ k ∧ k ≤ 1000000000000) : Ok P 33 [.one (.lst (.int .i64) (mkI k n) false), .one (.int .i64 k)] [] (.one (.int .i64 (k + n))) [] := by
  refine Ok.of_run (F := mk Try.f33 0) Try.func33 rfl rfl tabOk mixed rfl rfl rfl rfl rfl (Nat.le_of_ble_eq_true rfl) (Nat.le_of_ble_eq_true rfl) (.go 5000 ?_)
  have hlen := mkI_len k n
  have loop : ∀ (d i : Nat) (z y : Int), z = i → y = k + i → i + d = n → Run P (mk Try.f33 0) (fun v st => v = .one (.int .i64 (k + n)) ∧ st = []) (.loop ⟨[(0, .one (.lst (.int .i64) (mkI k n) false)), (1, .one (.int .i64 y)), (5, .one (.int .i64 z))], [], [.lp [0, 1, 0, 1], .blk 0, .code [1, 1]], none⟩) := by
    intro d
    induction d with
    | zero =>
      intro i z y hz hy hd
      subst hz; subst hy
      refine Run.loop ?_
      repeat' (conv => arg 4; whnf); first | refine Run.ret ⟨?_, rfl⟩ | refine Run.condT ?_ | refine Run.condf ?_ | refine Run.condD (fun h => ?_) (fun h => ?_) | refine Run.condN (fun h => ?_) (fun h => ?_) | refine Run.condE (fun h => ?_) (fun h => ?_) | refine Run.condF (fun h => ?_) (fun h => ?_) | refine Run.condM (fun h => ?_) (fun h => ?_) | refine Run.condB (fun h => ?_) (fun h => ?_) | refine Run.check1 ?_ | (exfalso; omega)
      all_goals first | (exfalso; omega) | (refine vi ?_; omega) | trace_state
    | succ d ih =>
      intro i z y hz hy hd
      subst hz; subst hy
      have e : wrap64 ((i : Int) + 1) = ((i + 1 : Nat) : Int) := wrap_eq (by omega) (by omega)
      have ek : wrap64 (k + i + 1) = k + ((i + 1 : Nat) : Int) := (wrap_eq (by omega) (by omega)).trans (by omega)
      have ea : rd (mkI k n) i = k + i := by rw [rd_nat]; exact mkI_at k n (by omega)
      refine Run.loop ?_
      repeat' (conv => arg 4; whnf); first | refine Run.ret ⟨?_, rfl⟩ | refine Run.condT ?_ | refine Run.condf ?_ | refine Run.condD (fun h => ?_) (fun h => ?_) | refine Run.condN (fun h => ?_) (fun h => ?_) | refine Run.condE (fun h => ?_) (fun h => ?_) | refine Run.condF (fun h => ?_) (fun h => ?_) | refine Run.condM (fun h => ?_) (fun h => ?_) | refine Run.condB (fun h => ?_) (fun h => ?_) | refine Run.check1 ?_ | refine Run.need1 (by simp only [allP, true_and, and_true]; omega) ?_ | refine Run.round ⟨[], [], []⟩ (ih (i + 1) _ _ e ek (by omega)) rfl (by repeat' first | exact wkEnv_nil | refine wkEnv_cons rfl ?_ | exact wkSto_nil | refine wkSto_none ?_ | refine wkSto_some rfl ?_) (by repeat' first | exact wkEnv_nil | refine wkEnv_cons rfl ?_ | exact wkSto_nil | refine wkSto_none ?_ | refine wkSto_some rfl ?_) | contradiction | (exfalso; omega)
      all_goals first
        | (exfalso; omega)
        | contradiction
        | trace_state
  repeat' (conv => arg 4; whnf); first | refine Run.ret ⟨?_, rfl⟩ | refine Run.condT ?_ | refine Run.condf ?_ | refine Run.condD (fun h => ?_) (fun h => ?_) | refine Run.condN (fun h => ?_) (fun h => ?_) | refine Run.condE (fun h => ?_) (fun h => ?_) | refine Run.condF (fun h => ?_) (fun h => ?_) | refine Run.condM (fun h => ?_) (fun h => ?_) | refine Run.condB (fun h => ?_) (fun h => ?_) | refine Run.check1 ?_ | refine Run.round ⟨[], [], []⟩ (loop n 0 _ _ rfl ?_ ?_) rfl (by repeat' first | exact wkEnv_nil | refine wkEnv_cons rfl ?_ | exact wkSto_nil | refine wkSto_none ?_ | refine wkSto_some rfl ?_) (by repeat' first | exact wkEnv_nil | refine wkEnv_cons rfl ?_ | exact wkSto_nil | refine wkSto_none ?_ | refine wkSto_some rfl ?_)
  all_goals first
    | omega
    | trace_state
theorem ofBytes_size (xs : List Int) : (ofBytes xs).size = xs.length := by simp [ofBytes, ByteArray.size]
theorem markText_ex (k : Int) (hk : k ≤ 1000000000000) : ∃ s, Ok P 63 [.one (.int .i64 k)] [] (.one (.str s)) [] := by
  by_cases h0 : k ≤ 0
  · refine ⟨⟨#[109, 48]⟩, ?_⟩
    refine Ok.of_run (F := mk Try.f63 0) Try.func63 rfl rfl tabOk mixed rfl rfl rfl rfl rfl (Nat.le_of_ble_eq_true rfl) (Nat.le_of_ble_eq_true rfl) (.go 5000 ?_)
    repeat' (conv => arg 4; whnf); first | refine Run.ret ⟨?_, rfl⟩ | refine Run.condT ?_ | refine Run.condf ?_ | refine Run.condD (fun h => ?_) (fun h => ?_) | refine Run.condN (fun h => ?_) (fun h => ?_) | refine Run.condE (fun h => ?_) (fun h => ?_) | refine Run.condF (fun h => ?_) (fun h => ?_) | refine Run.condM (fun h => ?_) (fun h => ?_) | refine Run.condB (fun h => ?_) (fun h => ?_) | refine Run.check1 ?_ | (exfalso; omega)
    all_goals rfl
  · have loop : ∀ (d : Nat) (y : Int) (out : ByteArray), 0 ≤ y → y ≤ 1000000000000 → y < 10 ^ d → out.size + d ≤ 40 → ∃ s, Run P (mk Try.f63 0) (fun v st => v = .one (.str s) ∧ st = []) (.loop ⟨[(0, .one (.int .i64 y)), (3, .one (.str out))], [], [.lp [0, 0, 1, 1, 1], .blk 0, .code [1, 1, 1, 1]], none⟩) := by
      intro d
      induction d with
      | zero =>
        intro y out h1 hm h2 h3
        have hy : ¬ 0 < y := by simp at h2; omega
        refine ⟨⟨#[109]⟩ ++ out, Run.loop ?_⟩
        have hs : (⟨#[109]⟩ : ByteArray).size = 1 := rfl
        repeat' (conv => arg 4; whnf); first | refine Run.ret ⟨?_, rfl⟩ | refine Run.condT ?_ | refine Run.condf ?_ | refine Run.condD (fun h => ?_) (fun h => ?_) | refine Run.condN (fun h => ?_) (fun h => ?_) | refine Run.condE (fun h => ?_) (fun h => ?_) | refine Run.condF (fun h => ?_) (fun h => ?_) | refine Run.condM (fun h => ?_) (fun h => ?_) | refine Run.condB (fun h => ?_) (fun h => ?_) | refine Run.check1 ?_ | (exact absurd ‹0 < y› hy) | refine Run.need1 (by simp only [allP, true_and, and_true, hs]; omega) ?_
        all_goals first | rfl | (exact absurd ‹0 < y› hy) | trace_state
      | succ d ih =>
        intro y out h1 hm h2 h3
        by_cases hy : 0 < y
        · have hq : y.tdiv 10 = y / 10 := Int.tdiv_eq_ediv_of_nonneg h1
          have hlt : y / 10 < 10 ^ d := by
            rw [Int.pow_succ] at h2
            omega
          have e : wrap64 (y.tdiv 10) = y.tdiv 10 := by rw [hq]; exact wrap_eq (by omega) (by omega)
          obtain ⟨s, hs⟩ := ih (wrap64 (y.tdiv 10)) (ofBytes [IntKind.u8.wrap (wrap64 (48 + y.tmod 10))] ++ out) (by rw [e, hq]; omega) (by rw [e, hq]; omega) (by rw [e, hq]; exact hlt) (by rw [ByteArray.size_append, ofBytes_size]; simp; omega)
          refine ⟨s, Run.loop ?_⟩
          repeat' (conv => arg 4; whnf); first | refine Run.ret ⟨?_, rfl⟩ | refine Run.condT ?_ | refine Run.condf ?_ | refine Run.condD (fun h => ?_) (fun h => ?_) | refine Run.condN (fun h => ?_) (fun h => ?_) | refine Run.condE (fun h => ?_) (fun h => ?_) | refine Run.condF (fun h => ?_) (fun h => ?_) | refine Run.condM (fun h => ?_) (fun h => ?_) | refine Run.condB (fun h => ?_) (fun h => ?_) | refine Run.check1 ?_ | refine Run.need1 (by simp only [allP, true_and, and_true, ofBytes_size, List.length_cons, List.length_nil]; omega) ?_ | refine Run.round ⟨[], [], []⟩ (hs) rfl (by repeat' first | exact wkEnv_nil | refine wkEnv_cons rfl ?_ | exact wkSto_nil | refine wkSto_none ?_ | refine wkSto_some rfl ?_) (by repeat' first | exact wkEnv_nil | refine wkEnv_cons rfl ?_ | exact wkSto_nil | refine wkSto_none ?_ | refine wkSto_some rfl ?_) | contradiction
          all_goals first | contradiction | trace_state
        · refine ⟨⟨#[109]⟩ ++ out, Run.loop ?_⟩
          have hs : (⟨#[109]⟩ : ByteArray).size = 1 := rfl
          repeat' (conv => arg 4; whnf); first | refine Run.ret ⟨?_, rfl⟩ | refine Run.condT ?_ | refine Run.condf ?_ | refine Run.condD (fun h => ?_) (fun h => ?_) | refine Run.condN (fun h => ?_) (fun h => ?_) | refine Run.condE (fun h => ?_) (fun h => ?_) | refine Run.condF (fun h => ?_) (fun h => ?_) | refine Run.condM (fun h => ?_) (fun h => ?_) | refine Run.condB (fun h => ?_) (fun h => ?_) | refine Run.check1 ?_ | (exact absurd ‹0 < y› hy) | refine Run.need1 (by simp only [allP, true_and, and_true, hs]; omega) ?_
          all_goals first | rfl | (exact absurd ‹0 < y› hy) | trace_state
    obtain ⟨s, hs⟩ := loop 13 k ByteArray.empty (by omega) (by omega) (by omega) (by simp)
    refine ⟨s, ?_⟩
    refine Ok.of_run (F := mk Try.f63 0) Try.func63 rfl rfl tabOk mixed rfl rfl rfl rfl rfl (Nat.le_of_ble_eq_true rfl) (Nat.le_of_ble_eq_true rfl) (.go 5000 ?_)
    repeat' (conv => arg 4; whnf); first | refine Run.ret ⟨?_, rfl⟩ | refine Run.condT ?_ | refine Run.condf ?_ | refine Run.condD (fun h => ?_) (fun h => ?_) | refine Run.condN (fun h => ?_) (fun h => ?_) | refine Run.condE (fun h => ?_) (fun h => ?_) | refine Run.condF (fun h => ?_) (fun h => ?_) | refine Run.condM (fun h => ?_) (fun h => ?_) | refine Run.condB (fun h => ?_) (fun h => ?_) | refine Run.check1 ?_ | refine Run.round ⟨[], [], []⟩ (hs) rfl (by repeat' first | exact wkEnv_nil | refine wkEnv_cons rfl ?_ | exact wkSto_nil | refine wkSto_none ?_ | refine wkSto_some rfl ?_) (by repeat' first | exact wkEnv_nil | refine wkEnv_cons rfl ?_ | exact wkSto_nil | refine wkSto_none ?_ | refine wkSto_some rfl ?_) | contradiction
    all_goals first | contradiction | trace_state
/-- The text of a number, as the laws mark with it. -/
noncomputable def mtext (k : Int) : ByteArray := open Classical in if h : ∃ s, Ok P 63 [.one (.int .i64 k)] [] (.one (.str s)) [] then Classical.choose h else ByteArray.empty
theorem markText_ok (k : Int) (hk : k ≤ 1000000000000) : Ok P 63 [.one (.int .i64 k)] [] (.one (.str (mtext k))) [] := by
  unfold mtext
  rw [dif_pos (markText_ex k hk)]
  exact Classical.choose_spec (markText_ex k hk)
/-- Marked moves. -/
noncomputable def mkM (k : Int) (i : Nat) : Mv := ⟨mtext (k + 6 * i), (k + 6 * i + 1).tmod 3 == 0, k + 6 * i + 2, k + 6 * i + 3, k + 6 * i + 4, k + 6 * i + 5⟩
noncomputable def mkMs (k : Int) (n : Nat) : List Mv := (List.range n).map (mkM k)
theorem mkMs_len (k : Int) (n : Nat) : (mkMs k n).length = n := by simp [mkMs]
theorem mkMs_at (k : Int) (n : Nat) {i : Nat} (h : i < n) : (mkMs k n).getD i Mv.z = mkM k i := by simp [mkMs, List.getD_eq_getElem?_getD, h]
end Go.Proofs.Ytpdmimlkgmhepaa.AM

/- The exact laws' helpers: equal things are found equal; books; condition: sizes. -/
namespace Go.Proofs.Ytpdmimlkgmhepaa.AM
open Go.AM Go.RowKit
set_option linter.unusedVariables false
set_option linter.unusedSimpArgs false
set_option maxRecDepth 100000

theorem eqInts_ok (t : List Int) (ht : t.length ≤ 1048576) : Ok P 14 [.one (.lst (.int .i64) t false), .one (.lst (.int .i64) t false)] [] (.one (.bool true)) [] := by
  refine Ok.of_run (F := mk Try.f14 0) Try.func14 rfl rfl tabOk mixed rfl rfl rfl rfl rfl (Nat.le_of_ble_eq_true rfl) (Nat.le_of_ble_eq_true rfl) (.go 5000 ?_)
  have loop : ∀ (d i : Nat) (z : Int), z = i → i + d = t.length → Run P (mk Try.f14 0) (fun v st => v = .one (.bool true) ∧ st = []) (.loop ⟨[(0, .one (.lst (.int .i64) t false)), (1, .one (.lst (.int .i64) t false)), (5, .one (.int .i64 z))], [], [.lp [0, 1, 0, 1, 1], .blk 0, .code [1, 1, 1]], none⟩) := by
    intro d
    induction d with
    | zero =>
      intro i z hz hd
      subst hz
      refine Run.loop ?_
      repeat' (conv => arg 4; whnf); first | refine Run.ret ⟨?_, rfl⟩ | refine Run.condT ?_ | refine Run.condf ?_ | refine Run.condD (fun h => ?_) (fun h => ?_) | refine Run.condN (fun h => ?_) (fun h => ?_) | refine Run.condE (fun h => ?_) (fun h => ?_) | refine Run.condF (fun h => ?_) (fun h => ?_) | refine Run.condM (fun h => ?_) (fun h => ?_) | refine Run.condB (fun h => ?_) (fun h => ?_) | refine Run.check1 ?_ | (exfalso; omega)
      all_goals first | rfl | (exfalso; omega)
    | succ d ih =>
      intro i z hz hd
      subst hz
      have e : wrap64 ((i : Int) + 1) = ((i + 1 : Nat) : Int) := wrap_eq (by omega) (by omega)
      refine Run.loop ?_
      repeat' (conv => arg 4; whnf); first | refine Run.ret ⟨?_, rfl⟩ | refine Run.condT ?_ | refine Run.condf ?_ | refine Run.condD (fun h => ?_) (fun h => ?_) | refine Run.condN (fun h => ?_) (fun h => ?_) | refine Run.condE (fun h => ?_) (fun h => ?_) | refine Run.condF (fun h => ?_) (fun h => ?_) | refine Run.condM (fun h => ?_) (fun h => ?_) | refine Run.condB (fun h => ?_) (fun h => ?_) | refine Run.check1 ?_ | refine Run.need1 (by simp only [allP, true_and, and_true]; omega) ?_ | (exact absurd rfl ‹_ ≠ _›) | refine Run.round ⟨[], [], []⟩ (ih (i + 1) _ e (by omega)) rfl (by repeat' first | exact wkEnv_nil | refine wkEnv_cons rfl ?_ | exact wkSto_nil | refine wkSto_none ?_ | refine wkSto_some rfl ?_) (by repeat' first | exact wkEnv_nil | refine wkEnv_cons rfl ?_ | exact wkSto_nil | refine wkSto_none ?_ | refine wkSto_some rfl ?_) | (exfalso; omega)
      all_goals first | (exact absurd rfl ‹_ ≠ _›) | (exfalso; omega) | trace_state
  repeat' (conv => arg 4; whnf); first | refine Run.ret ⟨?_, rfl⟩ | refine Run.condT ?_ | refine Run.condf ?_ | refine Run.condD (fun h => ?_) (fun h => ?_) | refine Run.condN (fun h => ?_) (fun h => ?_) | refine Run.condE (fun h => ?_) (fun h => ?_) | refine Run.condF (fun h => ?_) (fun h => ?_) | refine Run.condM (fun h => ?_) (fun h => ?_) | refine Run.condB (fun h => ?_) (fun h => ?_) | refine Run.check1 ?_ | (exact absurd rfl ‹_ ≠ _›) | refine Run.round ⟨[], [], []⟩ (loop t.length 0 _ rfl (by omega)) rfl (by repeat' first | exact wkEnv_nil | refine wkEnv_cons rfl ?_ | exact wkSto_nil | refine wkSto_none ?_ | refine wkSto_some rfl ?_) (by repeat' first | exact wkEnv_nil | refine wkEnv_cons rfl ?_ | exact wkSto_nil | refine wkSto_none ?_ | refine wkSto_some rfl ?_)
  all_goals first | (exact absurd rfl ‹_ ≠ _›) | trace_state
theorem eqMove_ok (m : Mv) : Ok P 55 [.agg (encMv m), .agg (encMv m)] [] (.one (.bool true)) [] := by
  refine Ok.of_run (F := mk Try.f55 0) Try.func55 rfl rfl tabOk mixed rfl rfl rfl rfl rfl (Nat.le_of_ble_eq_true rfl) (Nat.le_of_ble_eq_true rfl) (.go 5000 ?_)
  repeat' (conv => arg 4; whnf); first | refine Run.ret ⟨?_, rfl⟩ | refine Run.condT ?_ | refine Run.condf ?_ | refine Run.condD (fun h => ?_) (fun h => ?_) | refine Run.condN (fun h => ?_) (fun h => ?_) | refine Run.condE (fun h => ?_) (fun h => ?_) | refine Run.condF (fun h => ?_) (fun h => ?_) | refine Run.condM (fun h => ?_) (fun h => ?_) | refine Run.condB (fun h => ?_) (fun h => ?_) | refine Run.check1 ?_
  all_goals first | rfl | (exact absurd rfl ‹_ ≠ _›) | (exfalso; have h := ‹_ = false›; simp at h; done) | trace_state
theorem eqMoves_ok (t : List Mv) (ht : t.length ≤ 1048576) : Ok P 19 [.one (.lst .mv t false), .one (.lst .mv t false)] [] (.one (.bool true)) [] := by
  refine Ok.of_run (F := mk Try.f19 0) Try.func19 rfl rfl tabOk mixed rfl rfl rfl rfl rfl (Nat.le_of_ble_eq_true rfl) (Nat.le_of_ble_eq_true rfl) (.go 5000 ?_)
  have loop : ∀ (d i : Nat) (z : Int), z = i → i + d = t.length → Run P (mk Try.f19 0) (fun v st => v = .one (.bool true) ∧ st = []) (.loop ⟨[(0, .one (.lst .mv t false)), (1, .one (.lst .mv t false)), (5, .one (.int .i64 z))], [], [.lp [0, 1, 0, 1, 1], .blk 0, .code [1, 1, 1]], none⟩) := by
    intro d
    induction d with
    | zero =>
      intro i z hz hd
      subst hz
      refine Run.loop ?_
      repeat' (conv => arg 4; whnf); first | refine Run.ret ⟨?_, rfl⟩ | refine Run.condT ?_ | refine Run.condf ?_ | refine Run.condD (fun h => ?_) (fun h => ?_) | refine Run.condN (fun h => ?_) (fun h => ?_) | refine Run.condE (fun h => ?_) (fun h => ?_) | refine Run.condF (fun h => ?_) (fun h => ?_) | refine Run.condM (fun h => ?_) (fun h => ?_) | refine Run.condB (fun h => ?_) (fun h => ?_) | refine Run.check1 ?_ | (exfalso; omega)
      all_goals first | rfl | (exfalso; omega)
    | succ d ih =>
      intro i z hz hd
      subst hz
      have e : wrap64 ((i : Int) + 1) = ((i + 1 : Nat) : Int) := wrap_eq (by omega) (by omega)
      refine Run.loop ?_
      repeat' (conv => arg 4; whnf); first | refine Run.ret ⟨?_, rfl⟩ | refine Run.condT ?_ | refine Run.condf ?_ | refine Run.condD (fun h => ?_) (fun h => ?_) | refine Run.condN (fun h => ?_) (fun h => ?_) | refine Run.condE (fun h => ?_) (fun h => ?_) | refine Run.condF (fun h => ?_) (fun h => ?_) | refine Run.condM (fun h => ?_) (fun h => ?_) | refine Run.condB (fun h => ?_) (fun h => ?_) | refine Run.check1 ?_ | refine Run.call (eqMove_ok _) rfl ?_ | refine Run.need1 (by simp only [allP, true_and, and_true]; omega) ?_ | refine Run.round ⟨[], [], []⟩ (ih (i + 1) _ e (by omega)) rfl (by repeat' first | exact wkEnv_nil | refine wkEnv_cons rfl ?_ | exact wkSto_nil | refine wkSto_none ?_ | refine wkSto_some rfl ?_) (by repeat' first | exact wkEnv_nil | refine wkEnv_cons rfl ?_ | exact wkSto_nil | refine wkSto_none ?_ | refine wkSto_some rfl ?_) | (exfalso; omega)
      all_goals first | (exfalso; omega) | trace_state
  repeat' (conv => arg 4; whnf); first | refine Run.ret ⟨?_, rfl⟩ | refine Run.condT ?_ | refine Run.condf ?_ | refine Run.condD (fun h => ?_) (fun h => ?_) | refine Run.condN (fun h => ?_) (fun h => ?_) | refine Run.condE (fun h => ?_) (fun h => ?_) | refine Run.condF (fun h => ?_) (fun h => ?_) | refine Run.condM (fun h => ?_) (fun h => ?_) | refine Run.condB (fun h => ?_) (fun h => ?_) | refine Run.check1 ?_ | (exact absurd rfl ‹_ ≠ _›) | refine Run.round ⟨[], [], []⟩ (loop t.length 0 _ rfl (by omega)) rfl (by repeat' first | exact wkEnv_nil | refine wkEnv_cons rfl ?_ | exact wkSto_nil | refine wkSto_none ?_ | refine wkSto_some rfl ?_) (by repeat' first | exact wkEnv_nil | refine wkEnv_cons rfl ?_ | exact wkSto_nil | refine wkSto_none ?_ | refine wkSto_some rfl ?_)
  all_goals first | (exact absurd rfl ‹_ ≠ _›) | trace_state
theorem szInts_ok (l : List Int) (left : Int) (h : 0 ≤ left ∧ left ≤ 1048576) (hl : l.length ≤ maxLen) : Ok P 60 [.one (.lst (.int .i64) l false), .one (.int .i64 left)] [] (.one (.int .i64 (szIs l left))) [] := by
  refine Ok.of_run (F := mk Try.f60 0) Try.func60 rfl rfl tabOk mixed rfl rfl rfl rfl rfl (Nat.le_of_ble_eq_true rfl) (Nat.le_of_ble_eq_true rfl) (.go 5000 ?_)
  have e : wrap64 (left - l.length) = left - l.length := wrap_eq (by unfold maxLen at hl; omega) (by omega)
  repeat' (conv => arg 4; whnf); first | refine Run.ret ⟨?_, rfl⟩ | refine Run.condT ?_ | refine Run.condf ?_ | refine Run.condD (fun h => ?_) (fun h => ?_) | refine Run.condN (fun h => ?_) (fun h => ?_) | refine Run.condE (fun h => ?_) (fun h => ?_) | refine Run.condF (fun h => ?_) (fun h => ?_) | refine Run.condM (fun h => ?_) (fun h => ?_) | refine Run.condB (fun h => ?_) (fun h => ?_) | refine Run.check1 ?_
  all_goals (refine vi ?_; unfold szIs; rw [e] at *; first | rw [if_pos ‹_›] | rw [if_neg ‹_›])
theorem szBook_ok (b : Bk) (left : Int) (h : 0 ≤ left ∧ left ≤ 1048576) (hl : b.ms.length ≤ maxLen) (hm : ∀ i, i < b.ms.length → (at' b.ms i).f0.size ≤ maxLen) (ht : b.ts.length ≤ maxLen) : Ok P 24 [b.lent, .one (.int .i64 left)] [] (.one (.int .i64 (szB b left))) [] := by
  refine Ok.of_run (F := mk Try.f24 0) Try.func24 rfl rfl tabOk mixed rfl rfl rfl rfl rfl (Nat.le_of_ble_eq_true rfl) (Nat.le_of_ble_eq_true rfl) (.go 5000 ?_)
  have hle := szMs_le (l := b.ms) h.1
  repeat' (conv => arg 4; whnf); first | refine Run.ret ⟨?_, rfl⟩ | refine Run.condT ?_ | refine Run.condf ?_ | refine Run.condD (fun h => ?_) (fun h => ?_) | refine Run.condN (fun h => ?_) (fun h => ?_) | refine Run.condE (fun h => ?_) (fun h => ?_) | refine Run.condF (fun h => ?_) (fun h => ?_) | refine Run.condM (fun h => ?_) (fun h => ?_) | refine Run.condB (fun h => ?_) (fun h => ?_) | refine Run.check1 ?_ | refine Run.call (szMoves_ok _ _ h hl hm) rfl ?_ | refine Run.call (szInts_ok _ _ (by omega) ht) rfl ?_
  all_goals (refine vi ?_; unfold szB; first | (rw [if_pos ‹_›]; done) | (rw [if_neg ‹_›, if_pos ‹_›]; done) | (rw [if_neg ‹_›, if_neg ‹_›]; done) | trace_state)
theorem toBook_ok (b : Bk) (hl : b.ms.length ≤ 1048576) (ht : b.ts.length ≤ 1048576) : Ok P 26 [b.lent] [] (b.own (.k 0) (.k 1)) [some (.row .mv b.ms), some (.row (.int .i64) b.ts)] := by
  refine Ok.of_run (F := mk Try.f26 0) Try.func26 rfl rfl tabOk mixed rfl rfl rfl rfl rfl (Nat.le_of_ble_eq_true rfl) (Nat.le_of_ble_eq_true rfl) (.go 5000 ?_)
  repeat' (conv => arg 4; whnf); first | refine Run.ret ⟨?_, rfl⟩ | refine Run.condT ?_ | refine Run.condf ?_ | refine Run.condD (fun h => ?_) (fun h => ?_) | refine Run.condN (fun h => ?_) (fun h => ?_) | refine Run.condE (fun h => ?_) (fun h => ?_) | refine Run.condF (fun h => ?_) (fun h => ?_) | refine Run.condM (fun h => ?_) (fun h => ?_) | refine Run.condB (fun h => ?_) (fun h => ?_) | refine Run.check1 ?_ | refine Run.call (toMoves_ok _ hl) rfl ?_ | refine Run.call (toInts_ok _ ht) rfl ?_
  all_goals first | rfl | trace_state
theorem eqBook_ok (b : Bk) (hl : b.ms.length ≤ 1048576) (ht : b.ts.length ≤ 1048576) : Ok P 28 [b.lent, b.lent] [] (.one (.bool true)) [] := by
  refine Ok.of_run (F := mk Try.f28 0) Try.func28 rfl rfl tabOk mixed rfl rfl rfl rfl rfl (Nat.le_of_ble_eq_true rfl) (Nat.le_of_ble_eq_true rfl) (.go 5000 ?_)
  repeat' (conv => arg 4; whnf); first | refine Run.ret ⟨?_, rfl⟩ | refine Run.condT ?_ | refine Run.condf ?_ | refine Run.condD (fun h => ?_) (fun h => ?_) | refine Run.condN (fun h => ?_) (fun h => ?_) | refine Run.condE (fun h => ?_) (fun h => ?_) | refine Run.condF (fun h => ?_) (fun h => ?_) | refine Run.condM (fun h => ?_) (fun h => ?_) | refine Run.condB (fun h => ?_) (fun h => ?_) | refine Run.check1 ?_ | (exact absurd rfl ‹_ ≠ _›) | refine Run.call (eqMoves_ok _ hl) rfl ?_ | refine Run.call (eqInts_ok _ ht) rfl ?_
  all_goals first | rfl | (exact absurd rfl ‹_ ≠ _›) | trace_state
end Go.Proofs.Ytpdmimlkgmhepaa.AM

/- The exact laws' marks on moves, books, texts; condition: bounds. -/
namespace Go.Proofs.Ytpdmimlkgmhepaa.AM
open Go.AM Go.RowKit
set_option linter.unusedVariables false
set_option linter.unusedSimpArgs false
set_option maxRecDepth 100000

theorem markMoves_ok (t : List Mv) (k : Int) (ht : t.length ≤ 1048576) (hk : 0 ≤ k ∧ k ≤ 1000000) : Ok P 31 [.one (.own (.k 0)), .one (.int .i64 k)] [some (.row .mv t)] (.one (.int .i64 (k + 6 * t.length))) [some (.row .mv (mkMs k t.length))] := by
  refine Ok.of_run (F := mk Try.f31 1) Try.func31 rfl rfl tabOk mixed rfl rfl rfl rfl rfl (Nat.le_of_ble_eq_true rfl) (Nat.le_of_ble_eq_true rfl) (.go 5000 ?_)
  have loop : ∀ (d i : Nat) (z y : Int) (s : List Mv), z = i → y = k + 6 * i → i + d = t.length → Cp Mv.z (mkMs k t.length) s i → Run P (mk Try.f31 1) (fun v st => v = .one (.int .i64 (k + 6 * t.length)) ∧ st = [some (.row .mv (mkMs k t.length))]) (.loop ⟨[(0, .one (.own (.k 0))), (1, .one (.int .i64 y)), (5, .one (.int .i64 z))], [(.k 0, some (.row .mv s))], [.lp [0, 1, 0, 1], .blk 0, .code [1, 1]], none⟩) := by
    intro d
    induction d with
    | zero =>
      intro i z y s hz hy hd hc
      subst hz; subst hy
      have hl := hc.1
      rw [mkMs_len] at hl
      obtain rfl := cp_end hc (by rw [mkMs_len]; omega)
      refine Run.loop ?_
      repeat' (conv => arg 4; whnf); first | refine Run.ret ⟨?_, rfl⟩ | refine Run.condT ?_ | refine Run.condf ?_ | refine Run.condD (fun h => ?_) (fun h => ?_) | refine Run.condN (fun h => ?_) (fun h => ?_) | refine Run.condE (fun h => ?_) (fun h => ?_) | refine Run.condF (fun h => ?_) (fun h => ?_) | refine Run.condM (fun h => ?_) (fun h => ?_) | refine Run.condB (fun h => ?_) (fun h => ?_) | refine Run.check1 ?_ | (exfalso; omega)
      all_goals first | (exfalso; omega) | (refine vi ?_; omega) | trace_state
    | succ d ih =>
      intro i z y s hz hy hd hc
      subst hz; subst hy
      have e : wrap64 ((i : Int) + 1) = ((i + 1 : Nat) : Int) := wrap_eq (by omega) (by omega)
      have e1 : wrap64 (k + 6 * i + 1) = k + 6 * i + 1 := wrap_eq (by omega) (by omega)
      have e2 : wrap64 (k + 6 * i + 1 + 1) = k + 6 * i + 2 := (wrap_eq (by omega) (by omega)).trans (by omega)
      have e3 : wrap64 (k + 6 * i + 2 + 1) = k + 6 * i + 3 := (wrap_eq (by omega) (by omega)).trans (by omega)
      have e4 : wrap64 (k + 6 * i + 3 + 1) = k + 6 * i + 4 := (wrap_eq (by omega) (by omega)).trans (by omega)
      have e5 : wrap64 (k + 6 * i + 4 + 1) = k + 6 * i + 5 := (wrap_eq (by omega) (by omega)).trans (by omega)
      have e6 : wrap64 (k + 6 * i + 5 + 1) = k + 6 * ((i + 1 : Nat) : Int) := (wrap_eq (by omega) (by omega)).trans (by omega)
      have hl := hc.1
      rw [mkMs_len] at hl
      have hs := cp_step hc (i := i) (by rw [mkMs_len]; omega)
      have hrd : ∀ x : Mv, rdM (s.set i x) (i : Int) = x := fun x => by
        rw [rdM_nat, at', getD_set, if_pos ⟨rfl, by omega⟩]
      rw [mkMs_at _ _ (by omega)] at hs
      refine Run.loop ?_
      repeat' (conv => arg 4; whnf); first | refine Run.ret ⟨?_, rfl⟩ | refine Run.condT ?_ | refine Run.condf ?_ | refine Run.condD (fun h => ?_) (fun h => ?_) | refine Run.condN (fun h => ?_) (fun h => ?_) | refine Run.condE (fun h => ?_) (fun h => ?_) | refine Run.condF (fun h => ?_) (fun h => ?_) | refine Run.condM (fun h => ?_) (fun h => ?_) | refine Run.condB (fun h => ?_) (fun h => ?_) | refine Run.check1 ?_ | refine Run.call (markText_ok _ (by omega)) rfl ?_ | refine Run.need1 (by simp only [allP, true_and, and_true]; omega) ?_ | refine Run.need1 (by simp only [allP, true_and, and_true, List.length_set]; omega) ?_ | refine Run.round ⟨[], [], []⟩ (ih (i + 1) _ _ _ e ?_ (by omega) ?_) rfl (by repeat' first | exact wkEnv_nil | refine wkEnv_cons rfl ?_ | exact wkSto_nil | refine wkSto_none ?_ | refine wkSto_some rfl ?_) (by repeat' first | exact wkEnv_nil | refine wkEnv_cons rfl ?_ | exact wkSto_nil | refine wkSto_none ?_ | refine wkSto_some rfl ?_) | (exfalso; omega)
      all_goals clear ih
      all_goals first
        | (exfalso; omega)
        | (simp only [e1, e2, e3, e4, e5, e6]; done)
        | (simp only [Int.toNat_natCast, List.set_set, hrd, e1, e2, e3, e4, e5, e6]; exact hs)
        | trace_state
  repeat' (conv => arg 4; whnf); first | refine Run.ret ⟨?_, rfl⟩ | refine Run.condT ?_ | refine Run.condf ?_ | refine Run.condD (fun h => ?_) (fun h => ?_) | refine Run.condN (fun h => ?_) (fun h => ?_) | refine Run.condE (fun h => ?_) (fun h => ?_) | refine Run.condF (fun h => ?_) (fun h => ?_) | refine Run.condM (fun h => ?_) (fun h => ?_) | refine Run.condB (fun h => ?_) (fun h => ?_) | refine Run.check1 ?_ | refine Run.round ⟨[], [], []⟩ (loop t.length 0 _ _ _ rfl ?_ ?_ ?_) rfl (by repeat' first | exact wkEnv_nil | refine wkEnv_cons rfl ?_ | exact wkSto_nil | refine wkSto_none ?_ | refine wkSto_some rfl ?_) (by repeat' first | exact wkEnv_nil | refine wkEnv_cons rfl ?_ | exact wkSto_nil | refine wkSto_none ?_ | refine wkSto_some rfl ?_)
  all_goals first
    | omega
    | exact ⟨by rw [mkMs_len], fun j hj => absurd hj (by omega)⟩
    | trace_state
theorem heldMoves_ok (n : Nat) (k : Int) (hn : n ≤ 1048576) (hk : 0 ≤ k ∧ k ≤ 1000000) : Ok P 73 [.one (.lst .mv (mkMs k n) false), .one (.int .i64 k)] [] (.one (.int .i64 (k + 6 * n))) [] := by
  refine Ok.of_run (F := mk Try.f73 0) Try.func73 rfl rfl tabOk mixed rfl rfl rfl rfl rfl (Nat.le_of_ble_eq_true rfl) (Nat.le_of_ble_eq_true rfl) (.go 5000 ?_)
  have hlen := mkMs_len k n
  have loop : ∀ (d i : Nat) (z y : Int), z = i → y = k + 6 * i → i + d = n → Run P (mk Try.f73 0) (fun v st => v = .one (.int .i64 (k + 6 * n)) ∧ st = []) (.loop ⟨[(0, .one (.lst .mv (mkMs k n) false)), (1, .one (.int .i64 y)), (5, .one (.int .i64 z))], [], [.lp [0, 1, 0, 1], .blk 0, .code [1, 1]], none⟩) := by
    intro d
    induction d with
    | zero =>
      intro i z y hz hy hd
      subst hz; subst hy
      refine Run.loop ?_
      repeat' (conv => arg 4; whnf); first | refine Run.ret ⟨?_, rfl⟩ | refine Run.condT ?_ | refine Run.condf ?_ | refine Run.condD (fun h => ?_) (fun h => ?_) | refine Run.condN (fun h => ?_) (fun h => ?_) | refine Run.condE (fun h => ?_) (fun h => ?_) | refine Run.condF (fun h => ?_) (fun h => ?_) | refine Run.condM (fun h => ?_) (fun h => ?_) | refine Run.condB (fun h => ?_) (fun h => ?_) | refine Run.check1 ?_ | (exfalso; omega)
      all_goals first | (exfalso; omega) | (refine vi ?_; omega) | trace_state
    | succ d ih =>
      intro i z y hz hy hd
      subst hz; subst hy
      have e : wrap64 ((i : Int) + 1) = ((i + 1 : Nat) : Int) := wrap_eq (by omega) (by omega)
      have e1 : wrap64 (k + 6 * i + 1) = k + 6 * i + 1 := wrap_eq (by omega) (by omega)
      have e2 : wrap64 (k + 6 * i + 1 + 1) = k + 6 * i + 2 := (wrap_eq (by omega) (by omega)).trans (by omega)
      have e3 : wrap64 (k + 6 * i + 2 + 1) = k + 6 * i + 3 := (wrap_eq (by omega) (by omega)).trans (by omega)
      have e4 : wrap64 (k + 6 * i + 3 + 1) = k + 6 * i + 4 := (wrap_eq (by omega) (by omega)).trans (by omega)
      have e5 : wrap64 (k + 6 * i + 4 + 1) = k + 6 * i + 5 := (wrap_eq (by omega) (by omega)).trans (by omega)
      have e6 : wrap64 (k + 6 * i + 5 + 1) = k + 6 * ((i + 1 : Nat) : Int) := (wrap_eq (by omega) (by omega)).trans (by omega)
      have em : rdM (mkMs k n) i = mkM k i := by rw [rdM_nat]; exact mkMs_at k n (by omega)
      refine Run.loop ?_
      repeat' (conv => arg 4; whnf); first | refine Run.ret ⟨?_, rfl⟩ | refine Run.condT ?_ | refine Run.condf ?_ | refine Run.condD (fun h => ?_) (fun h => ?_) | refine Run.condN (fun h => ?_) (fun h => ?_) | refine Run.condE (fun h => ?_) (fun h => ?_) | refine Run.condF (fun h => ?_) (fun h => ?_) | refine Run.condM (fun h => ?_) (fun h => ?_) | refine Run.condB (fun h => ?_) (fun h => ?_) | refine Run.check1 ?_ | refine Run.call (markText_ok _ (by omega)) rfl ?_ | refine Run.need1 (by simp only [allP, true_and, and_true]; omega) ?_ | refine Run.round ⟨[], [], []⟩ (ih (i + 1) _ _ e ?_ (by omega)) rfl (by repeat' first | exact wkEnv_nil | refine wkEnv_cons rfl ?_ | exact wkSto_nil | refine wkSto_none ?_ | refine wkSto_some rfl ?_) (by repeat' first | exact wkEnv_nil | refine wkEnv_cons rfl ?_ | exact wkSto_nil | refine wkSto_none ?_ | refine wkSto_some rfl ?_) | (exfalso; omega)
      all_goals clear ih
      all_goals first
        | (exfalso; omega)
        | (simp only [e1, e2, e3, e4, e5, e6]; done)
        | (exfalso; simp only [em, mkM, e1, e2, e3, e4, e5, e6] at *; simp_all; done)
        | trace_state
  repeat' (conv => arg 4; whnf); first | refine Run.ret ⟨?_, rfl⟩ | refine Run.condT ?_ | refine Run.condf ?_ | refine Run.condD (fun h => ?_) (fun h => ?_) | refine Run.condN (fun h => ?_) (fun h => ?_) | refine Run.condE (fun h => ?_) (fun h => ?_) | refine Run.condF (fun h => ?_) (fun h => ?_) | refine Run.condM (fun h => ?_) (fun h => ?_) | refine Run.condB (fun h => ?_) (fun h => ?_) | refine Run.check1 ?_ | refine Run.round ⟨[], [], []⟩ (loop n 0 _ _ rfl ?_ ?_) rfl (by repeat' first | exact wkEnv_nil | refine wkEnv_cons rfl ?_ | exact wkSto_nil | refine wkSto_none ?_ | refine wkSto_some rfl ?_) (by repeat' first | exact wkEnv_nil | refine wkEnv_cons rfl ?_ | exact wkSto_nil | refine wkSto_none ?_ | refine wkSto_some rfl ?_)
  all_goals first
    | omega
    | trace_state
theorem markBook_ok (b : Bk) (k : Int) (hl : b.ms.length ≤ 1048576) (ht : b.ts.length ≤ 1048576) (hk : 0 ≤ k ∧ k ≤ 1000000) : Ok P 45 [b.own (.k 0) (.k 1), .one (.int .i64 k)] [some (.row .mv b.ms), some (.row (.int .i64) b.ts)] (.one (.int .i64 (k + 6 * b.ms.length + b.ts.length))) [some (.row .mv (mkMs k b.ms.length)), some (.row (.int .i64) (mkI (k + 6 * b.ms.length) b.ts.length))] := by
  refine Ok.of_run (F := mk Try.f45 2) Try.func45 rfl rfl tabOk mixed rfl rfl rfl rfl rfl (Nat.le_of_ble_eq_true rfl) (Nat.le_of_ble_eq_true rfl) (.go 5000 ?_)
  repeat' (conv => arg 4; whnf); first | refine Run.ret ⟨?_, rfl⟩ | refine Run.condT ?_ | refine Run.condf ?_ | refine Run.condD (fun h => ?_) (fun h => ?_) | refine Run.condN (fun h => ?_) (fun h => ?_) | refine Run.condE (fun h => ?_) (fun h => ?_) | refine Run.condF (fun h => ?_) (fun h => ?_) | refine Run.condM (fun h => ?_) (fun h => ?_) | refine Run.condB (fun h => ?_) (fun h => ?_) | refine Run.check1 ?_ | refine Run.call (markMoves_ok _ _ hl hk) rfl ?_ | refine Run.call (markInts_ok _ _ ht (by omega)) rfl ?_
  all_goals first | rfl | trace_state
theorem heldBook_ok (x y : Int) (n m : Nat) (k : Int) (hn : n ≤ 1048576) (hm : m ≤ 1048576) (hk : 0 ≤ k ∧ k ≤ 1000000) : Ok P 47 [Bk.lent ⟨x, y, mkMs k n, mkI (k + 6 * n) m⟩, .one (.int .i64 k)] [] (.one (.int .i64 (k + 6 * n + m))) [] := by
  refine Ok.of_run (F := mk Try.f47 0) Try.func47 rfl rfl tabOk mixed rfl rfl rfl rfl rfl (Nat.le_of_ble_eq_true rfl) (Nat.le_of_ble_eq_true rfl) (.go 5000 ?_)
  repeat' (conv => arg 4; whnf); first | refine Run.ret ⟨?_, rfl⟩ | refine Run.condT ?_ | refine Run.condf ?_ | refine Run.condD (fun h => ?_) (fun h => ?_) | refine Run.condN (fun h => ?_) (fun h => ?_) | refine Run.condE (fun h => ?_) (fun h => ?_) | refine Run.condF (fun h => ?_) (fun h => ?_) | refine Run.condM (fun h => ?_) (fun h => ?_) | refine Run.condB (fun h => ?_) (fun h => ?_) | refine Run.check1 ?_ | refine Run.call (heldMoves_ok _ _ hn hk) rfl ?_ | refine Run.call (heldInts_ok _ _ hm (by omega)) rfl ?_ | (exfalso; omega)
  all_goals first | rfl | (exfalso; omega) | trace_state
end Go.Proofs.Ytpdmimlkgmhepaa.AM

/- The exact laws' marks on lists of texts; condition: bounds. -/
namespace Go.Proofs.Ytpdmimlkgmhepaa.AM
open Go.AM Go.RowKit
set_option linter.unusedVariables false
set_option linter.unusedSimpArgs false
set_option maxRecDepth 100000

theorem eqTexts_ok (t : List ByteArray) (ht : t.length ≤ 1048576) : Ok P 44 [.one (.lst .str t false), .one (.lst .str t false)] [] (.one (.bool true)) [] := by
  refine Ok.of_run (F := mk Try.f44 0) Try.func44 rfl rfl tabOk mixed rfl rfl rfl rfl rfl (Nat.le_of_ble_eq_true rfl) (Nat.le_of_ble_eq_true rfl) (.go 5000 ?_)
  have loop : ∀ (d i : Nat) (z : Int), z = i → i + d = t.length → Run P (mk Try.f44 0) (fun v st => v = .one (.bool true) ∧ st = []) (.loop ⟨[(0, .one (.lst .str t false)), (1, .one (.lst .str t false)), (5, .one (.int .i64 z))], [], [.lp [0, 1, 0, 1, 1], .blk 0, .code [1, 1, 1]], none⟩) := by
    intro d
    induction d with
    | zero =>
      intro i z hz hd
      subst hz
      refine Run.loop ?_
      repeat' (conv => arg 4; whnf); first | refine Run.ret ⟨?_, rfl⟩ | refine Run.condT ?_ | refine Run.condf ?_ | refine Run.condD (fun h => ?_) (fun h => ?_) | refine Run.condN (fun h => ?_) (fun h => ?_) | refine Run.condE (fun h => ?_) (fun h => ?_) | refine Run.condF (fun h => ?_) (fun h => ?_) | refine Run.condM (fun h => ?_) (fun h => ?_) | refine Run.condB (fun h => ?_) (fun h => ?_) | refine Run.check1 ?_ | (exfalso; omega)
      all_goals first | rfl | (exfalso; omega)
    | succ d ih =>
      intro i z hz hd
      subst hz
      have e : wrap64 ((i : Int) + 1) = ((i + 1 : Nat) : Int) := wrap_eq (by omega) (by omega)
      refine Run.loop ?_
      repeat' (conv => arg 4; whnf); first | refine Run.ret ⟨?_, rfl⟩ | refine Run.condT ?_ | refine Run.condf ?_ | refine Run.condD (fun h => ?_) (fun h => ?_) | refine Run.condN (fun h => ?_) (fun h => ?_) | refine Run.condE (fun h => ?_) (fun h => ?_) | refine Run.condF (fun h => ?_) (fun h => ?_) | refine Run.condM (fun h => ?_) (fun h => ?_) | refine Run.condB (fun h => ?_) (fun h => ?_) | refine Run.check1 ?_ | refine Run.need1 (by simp only [allP, true_and, and_true]; omega) ?_ | refine Run.round ⟨[], [], []⟩ (ih (i + 1) _ e (by omega)) rfl (by repeat' first | exact wkEnv_nil | refine wkEnv_cons rfl ?_ | exact wkSto_nil | refine wkSto_none ?_ | refine wkSto_some rfl ?_) (by repeat' first | exact wkEnv_nil | refine wkEnv_cons rfl ?_ | exact wkSto_nil | refine wkSto_none ?_ | refine wkSto_some rfl ?_) | (exfalso; omega)
      all_goals first | (exfalso; omega) | (exfalso; simp_all; done) | trace_state
  repeat' (conv => arg 4; whnf); first | refine Run.ret ⟨?_, rfl⟩ | refine Run.condT ?_ | refine Run.condf ?_ | refine Run.condD (fun h => ?_) (fun h => ?_) | refine Run.condN (fun h => ?_) (fun h => ?_) | refine Run.condE (fun h => ?_) (fun h => ?_) | refine Run.condF (fun h => ?_) (fun h => ?_) | refine Run.condM (fun h => ?_) (fun h => ?_) | refine Run.condB (fun h => ?_) (fun h => ?_) | refine Run.check1 ?_ | refine Run.round ⟨[], [], []⟩ (loop t.length 0 _ rfl (by omega)) rfl (by repeat' first | exact wkEnv_nil | refine wkEnv_cons rfl ?_ | exact wkSto_nil | refine wkSto_none ?_ | refine wkSto_some rfl ?_) (by repeat' first | exact wkEnv_nil | refine wkEnv_cons rfl ?_ | exact wkSto_nil | refine wkSto_none ?_ | refine wkSto_some rfl ?_)
  all_goals first | (exact absurd rfl ‹_ ≠ _›) | trace_state
noncomputable def mkS (k : Int) (n : Nat) : List ByteArray := (List.range n).map fun i : Nat => mtext (k + (i : Int))
theorem mkS_len (k : Int) (n : Nat) : (mkS k n).length = n := by simp [mkS]
theorem mkS_at (k : Int) (n : Nat) {i : Nat} (h : i < n) : (mkS k n).getD i ByteArray.empty = mtext (k + i) := by simp [mkS, List.getD_eq_getElem?_getD, h]
theorem markTexts_ok (t : List ByteArray) (k : Int) (ht : t.length ≤ 1048576) (hk : 0 ≤ k ∧ k ≤ 1000000000) : Ok P 46 [.one (.own (.k 0)), .one (.int .i64 k)] [some (.row .str t)] (.one (.int .i64 (k + t.length))) [some (.row .str (mkS k t.length))] := by
  refine Ok.of_run (F := mk Try.f46 1) Try.func46 rfl rfl tabOk mixed rfl rfl rfl rfl rfl (Nat.le_of_ble_eq_true rfl) (Nat.le_of_ble_eq_true rfl) (.go 5000 ?_)
  have loop : ∀ (d i : Nat) (z y : Int) (s : List ByteArray), z = i → y = k + i → i + d = t.length → Cp ByteArray.empty (mkS k t.length) s i → Run P (mk Try.f46 1) (fun v st => v = .one (.int .i64 (k + t.length)) ∧ st = [some (.row .str (mkS k t.length))]) (.loop ⟨[(0, .one (.own (.k 0))), (1, .one (.int .i64 y)), (5, .one (.int .i64 z))], [(.k 0, some (.row .str s))], [.lp [0, 1, 0, 1], .blk 0, .code [1, 1]], none⟩) := by
    intro d
    induction d with
    | zero =>
      intro i z y s hz hy hd hc
      subst hz; subst hy
      have hl := hc.1
      rw [mkS_len] at hl
      obtain rfl := cp_end hc (by rw [mkS_len]; omega)
      refine Run.loop ?_
      repeat' (conv => arg 4; whnf); first | refine Run.ret ⟨?_, rfl⟩ | refine Run.condT ?_ | refine Run.condf ?_ | refine Run.condD (fun h => ?_) (fun h => ?_) | refine Run.condN (fun h => ?_) (fun h => ?_) | refine Run.condE (fun h => ?_) (fun h => ?_) | refine Run.condF (fun h => ?_) (fun h => ?_) | refine Run.condM (fun h => ?_) (fun h => ?_) | refine Run.condB (fun h => ?_) (fun h => ?_) | refine Run.check1 ?_ | (exfalso; omega)
      all_goals first | (exfalso; omega) | (refine vi ?_; omega) | trace_state
    | succ d ih =>
      intro i z y s hz hy hd hc
      subst hz; subst hy
      have e : wrap64 ((i : Int) + 1) = ((i + 1 : Nat) : Int) := wrap_eq (by omega) (by omega)
      have ek : wrap64 (k + i + 1) = k + ((i + 1 : Nat) : Int) := (wrap_eq (by omega) (by omega)).trans (by omega)
      have hl := hc.1
      rw [mkS_len] at hl
      have hs := cp_step hc (i := i) (by rw [mkS_len]; omega)
      rw [mkS_at _ _ (by omega)] at hs
      refine Run.loop ?_
      repeat' (conv => arg 4; whnf); first | refine Run.ret ⟨?_, rfl⟩ | refine Run.condT ?_ | refine Run.condf ?_ | refine Run.condD (fun h => ?_) (fun h => ?_) | refine Run.condN (fun h => ?_) (fun h => ?_) | refine Run.condE (fun h => ?_) (fun h => ?_) | refine Run.condF (fun h => ?_) (fun h => ?_) | refine Run.condM (fun h => ?_) (fun h => ?_) | refine Run.condB (fun h => ?_) (fun h => ?_) | refine Run.check1 ?_ | refine Run.call (markText_ok _ (by omega)) rfl ?_ | refine Run.need1 (by simp only [allP, true_and, and_true]; omega) ?_ | refine Run.round ⟨[], [], []⟩ (ih (i + 1) _ _ _ e ek (by omega) ?_) rfl (by repeat' first | exact wkEnv_nil | refine wkEnv_cons rfl ?_ | exact wkSto_nil | refine wkSto_none ?_ | refine wkSto_some rfl ?_) (by repeat' first | exact wkEnv_nil | refine wkEnv_cons rfl ?_ | exact wkSto_nil | refine wkSto_none ?_ | refine wkSto_some rfl ?_) | (exfalso; omega)
      all_goals first
        | (exfalso; omega)
        | (simpa using hs)
        | trace_state
  repeat' (conv => arg 4; whnf); first | refine Run.ret ⟨?_, rfl⟩ | refine Run.condT ?_ | refine Run.condf ?_ | refine Run.condD (fun h => ?_) (fun h => ?_) | refine Run.condN (fun h => ?_) (fun h => ?_) | refine Run.condE (fun h => ?_) (fun h => ?_) | refine Run.condF (fun h => ?_) (fun h => ?_) | refine Run.condM (fun h => ?_) (fun h => ?_) | refine Run.condB (fun h => ?_) (fun h => ?_) | refine Run.check1 ?_ | refine Run.round ⟨[], [], []⟩ (loop t.length 0 _ _ _ rfl ?_ ?_ ?_) rfl (by repeat' first | exact wkEnv_nil | refine wkEnv_cons rfl ?_ | exact wkSto_nil | refine wkSto_none ?_ | refine wkSto_some rfl ?_) (by repeat' first | exact wkEnv_nil | refine wkEnv_cons rfl ?_ | exact wkSto_nil | refine wkSto_none ?_ | refine wkSto_some rfl ?_)
  all_goals first
    | omega
    | exact ⟨by rw [mkS_len], fun j hj => absurd hj (by omega)⟩
    | trace_state
theorem heldTexts_ok (n : Nat) (k : Int) (hn : n ≤ 1048576) (hk : 0 ≤ k ∧ k ≤ 1000000000) : Ok P 48 [.one (.lst .str (mkS k n) false), .one (.int .i64 k)] [] (.one (.int .i64 (k + n))) [] := by
  refine Ok.of_run (F := mk Try.f48 0) Try.func48 rfl rfl tabOk mixed rfl rfl rfl rfl rfl (Nat.le_of_ble_eq_true rfl) (Nat.le_of_ble_eq_true rfl) (.go 5000 ?_)
  have hlen := mkS_len k n
  have loop : ∀ (d i : Nat) (z y : Int), z = i → y = k + i → i + d = n → Run P (mk Try.f48 0) (fun v st => v = .one (.int .i64 (k + n)) ∧ st = []) (.loop ⟨[(0, .one (.lst .str (mkS k n) false)), (1, .one (.int .i64 y)), (5, .one (.int .i64 z))], [], [.lp [0, 1, 0, 1], .blk 0, .code [1, 1]], none⟩) := by
    intro d
    induction d with
    | zero =>
      intro i z y hz hy hd
      subst hz; subst hy
      refine Run.loop ?_
      repeat' (conv => arg 4; whnf); first | refine Run.ret ⟨?_, rfl⟩ | refine Run.condT ?_ | refine Run.condf ?_ | refine Run.condD (fun h => ?_) (fun h => ?_) | refine Run.condN (fun h => ?_) (fun h => ?_) | refine Run.condE (fun h => ?_) (fun h => ?_) | refine Run.condF (fun h => ?_) (fun h => ?_) | refine Run.condM (fun h => ?_) (fun h => ?_) | refine Run.condB (fun h => ?_) (fun h => ?_) | refine Run.check1 ?_ | (exfalso; omega)
      all_goals first | (exfalso; omega) | (refine vi ?_; omega) | trace_state
    | succ d ih =>
      intro i z y hz hy hd
      subst hz; subst hy
      have e : wrap64 ((i : Int) + 1) = ((i + 1 : Nat) : Int) := wrap_eq (by omega) (by omega)
      have ek : wrap64 (k + i + 1) = k + ((i + 1 : Nat) : Int) := (wrap_eq (by omega) (by omega)).trans (by omega)
      have ea : rdS (mkS k n) i = mtext (k + i) := by simp only [rdS, Int.toNat_natCast]; exact mkS_at k n (by omega)
      refine Run.loop ?_
      repeat' (conv => arg 4; whnf); first | refine Run.ret ⟨?_, rfl⟩ | refine Run.condT ?_ | refine Run.condf ?_ | refine Run.condD (fun h => ?_) (fun h => ?_) | refine Run.condN (fun h => ?_) (fun h => ?_) | refine Run.condE (fun h => ?_) (fun h => ?_) | refine Run.condF (fun h => ?_) (fun h => ?_) | refine Run.condM (fun h => ?_) (fun h => ?_) | refine Run.condB (fun h => ?_) (fun h => ?_) | refine Run.check1 ?_ | refine Run.call (markText_ok _ (by omega)) rfl ?_ | refine Run.need1 (by simp only [allP, true_and, and_true]; omega) ?_ | refine Run.round ⟨[], [], []⟩ (ih (i + 1) _ _ e ek (by omega)) rfl (by repeat' first | exact wkEnv_nil | refine wkEnv_cons rfl ?_ | exact wkSto_nil | refine wkSto_none ?_ | refine wkSto_some rfl ?_) (by repeat' first | exact wkEnv_nil | refine wkEnv_cons rfl ?_ | exact wkSto_nil | refine wkSto_none ?_ | refine wkSto_some rfl ?_) | (exfalso; omega)
      all_goals clear ih
      all_goals first
        | (exfalso; omega)
        | (exfalso; simp only [ea] at *; simp_all; done)
        | trace_state
  repeat' (conv => arg 4; whnf); first | refine Run.ret ⟨?_, rfl⟩ | refine Run.condT ?_ | refine Run.condf ?_ | refine Run.condD (fun h => ?_) (fun h => ?_) | refine Run.condN (fun h => ?_) (fun h => ?_) | refine Run.condE (fun h => ?_) (fun h => ?_) | refine Run.condF (fun h => ?_) (fun h => ?_) | refine Run.condM (fun h => ?_) (fun h => ?_) | refine Run.condB (fun h => ?_) (fun h => ?_) | refine Run.check1 ?_ | refine Run.round ⟨[], [], []⟩ (loop n 0 _ _ rfl ?_ ?_) rfl (by repeat' first | exact wkEnv_nil | refine wkEnv_cons rfl ?_ | exact wkSto_nil | refine wkSto_none ?_ | refine wkSto_some rfl ?_) (by repeat' first | exact wkEnv_nil | refine wkEnv_cons rfl ?_ | exact wkSto_nil | refine wkSto_none ?_ | refine wkSto_some rfl ?_)
  all_goals first
    | omega
    | trace_state
end Go.Proofs.Ytpdmimlkgmhepaa.AM

/- What comes in as a slice reads as a list that is only read; condition: the argument reads as data of its type. -/
namespace Go.AM
set_option linter.unusedVariables false
set_option linter.unusedSimpArgs false
open Go.Joins Go.ChangeShapes Go.WideShapes Go.RowKit Go.Deep
variable {H : Type} {enc : TypeId × Value → H} {P : Program} {w : World} {base : Nat} {spare : Nat → Bool} {held : Bool}

/-- All blocks that are there. -/
def Old (w : World) (b : Nat) : Prop := b < w.heap.size
theorem cell_old {a : Addr} {v : Value} (h : w.cell? a = some v) : a = ⟨a.block, a.off, none⟩ ∧ Old w a.block := by
  have hs := World.cell?_spot h
  refine ⟨by cases a; simp_all, ?_⟩
  unfold World.cell? at h
  split at h
  · rename_i c e f hb
    exact (Array.getElem?_eq_some_iff.1 hb).1
  · cases h
theorem wf64 {x : Int} (h : (Lit.int .i64 x).wf = true) : W64 x := bounds_i64 h
theorem open_sl (e : El) {μ : Mu} {t et : TypeId} {fuel : Nat} {cs : List Value} {x : DataW H × List MemPlace} (ht : P.underlying t = some (.slice et)) (hC : P.cellsOf et = e.sz) (he : 0 < e.sz) (Wf : e.T → Prop)
    (hel : ∀ n cs' y, DataW.trod enc P w base spare held n et cs' = some y → cs'.length = e.sz → ∃ z : e.T, All2 (rep1 w (Old w)) (e.enc z) cs' ∧ Wf z) (h : DataW.trod enc P w base spare held fuel t cs = some x) :
    ∃ (v : Value) (xs : List e.T), cs = [v] ∧ repA μ w (Old w) (.lst e xs false) v ∧ xs.length ≤ maxLen ∧ ∀ z ∈ xs, Wf z := by
  classical
  rcases open_slice ht h with ⟨h0, _⟩ | ⟨a, len, cap, m, n, D, Pl, hcs, hb, hl, hm, hmm, hx, hi⟩
  · refine ⟨.slice none 0 0, [], by simpa using h0, ?_, by simp [maxLen], fun z hz => by simp at hz⟩
    simp only [repA]
    exact ⟨none, 0, rfl, Nat.le_refl _, by simp, fun h => absurd rfl h⟩
  · have hlm : len ≤ m := by rw [hmm]; split <;> omega
    have key : ∀ i, i < len → ∃ z : e.T, Wf z ∧ ∃ cs', All2 (rep1 w (Old w)) (e.enc z) cs' ∧ cs'.length = e.sz ∧ ∀ j u, cs'[j]? = some u → w.cell? (a.add (i * e.sz + j)) = some u := by
      intro i hil
      obtain ⟨cs', hc, ht'⟩ := hi i (by omega)
      obtain ⟨_, hcl, hat⟩ := World.cells?_some hc
      rw [hC] at hcl hat
      obtain ⟨z, hz, hw⟩ := hel _ _ _ ht' hcl
      refine ⟨z, hw, cs', hz, hcl, fun j u hu => ?_⟩
      have hj : j < e.sz := by
        have := (List.getElem?_eq_some_iff.1 hu).1
        omega
      have h1 := hat j hj
      rw [Go.Deep.add_add] at h1
      rw [h1, hu]
    let xs : List e.T := (List.range len).pmap (fun i h => Classical.choose (key i h)) (fun i hi => List.mem_range.1 hi)
    have hxl : xs.length = len := by simp [xs]
    have hxi : ∀ i (h : i < len), xs[i]? = some (Classical.choose (key i h)) := by
      intro i h
      have hh : i < xs.length := by omega
      rw [List.getElem?_eq_getElem hh]
      simp [xs]
    refine ⟨.slice (some a) xs.length cap, xs, by rw [hcs, hxl], ?_, by omega, fun z hz => ?_⟩
    · simp only [repA]
      refine ⟨some a, cap, rfl, by omega, by simp, fun hne => ?_⟩
      have hpos : 0 < len := by rw [← hxl]; exact List.length_pos_iff.mpr hne
      have ha : a = ⟨a.block, a.off, none⟩ ∧ Old w a.block := by
        obtain ⟨_, cs', h1, h2, h3⟩ := Classical.choose_spec (key 0 hpos)
        have h4 := h3 0 (cs'[0]'(by omega)) (List.getElem?_eq_getElem _)
        have h5 : a.add (0 * e.sz + 0) = a := by simp [Addr.add]
        rw [h5] at h4
        exact cell_old h4
      refine ⟨a.block, a.off, by rw [← ha.1], ha.2, fun i z hz => ?_⟩
      have hil : i < len := by
        have := (List.getElem?_eq_some_iff.1 hz).1
        omega
      have e1 := hxi i hil
      rw [hz] at e1
      obtain rfl := Option.some.inj e1
      obtain ⟨_, cs', h1, h2, h3⟩ := Classical.choose_spec (key i hil)
      refine ⟨cs', h1, fun j u hu => ?_⟩
      have := h3 j u hu
      rw [ha.1, Addr.add_mid] at this
      rw [Nat.add_assoc]
      exact this
    · obtain ⟨j, hj, e1⟩ := List.getElem_of_mem hz
      have hjl : j < len := by omega
      have e2 := hxi j hjl
      rw [List.getElem?_eq_getElem hj, e1] at e2
      injection e2 with e2
      subst e2
      exact (Classical.choose_spec (key j hjl)).1

/-- A call that answers true and has been handed nothing for good leaves all that was there. -/
theorem calls_true {f : FuncId} {args : List V} {cargs : Array Value} (h : Ok P f args [] (.one (.bool true)) []) (hv : repVs (fun _ => none) w (Old w) args cargs.toList) : Calls P f cargs w fun e w' => e = .returned (.bool true) ∧ Below w.heap.size w w' := by
  have hr : HR (fun _ => none) (Old w) (argSto 0 []) w := ⟨fun l c hc => by simp [argSto, lkC, lkL] at hc, fun l B hB => (by cases hB), fun l l' c c' B B' hc => by simp [argSto, lkC, lkL] at hc, fun b hb => hb⟩
  refine (h.2.2 w _ _ cargs hr hv).mono ?_
  rintro e w' ⟨u, μ', G', rfl, hrv, hp⟩
  simp only [repV, repA] at hrv
  subst hrv
  refine ⟨rfl, ⟨hp.os, hp.tape, hp.output, hp.size, fun k hk => hp.frame k hk ?_⟩⟩
  rintro ⟨l, c, B, hc, _⟩
  simp [argSto, lkC, lkL] at hc
/-- What is known of a move that comes in. -/
def MvWf (m : Mv) : Prop := m.f0.size ≤ maxLen ∧ W64 m.f2 ∧ W64 m.f3 ∧ W64 m.f4 ∧ W64 m.f5
theorem rep_mv {μ : Mu} (m : Mv) : repV μ w (Old w) (.agg (encMv m)) (.agg #[.string m.f0, .bool m.f1, .int .i64 m.f2, .int .i64 m.f3, .int .i64 m.f4, .int .i64 m.f5]) := by
  simp only [repV]
  refine ⟨_, rfl, ?_⟩
  simp [encMv, repAs, repA]
theorem tkWf_of {t : List Int} (h : ∀ z ∈ t, W64 z) : TkWf t := fun i hi => by
  unfold tk
  rw [List.getD_eq_getElem?_getD, List.getElem?_eq_getElem hi]
  exact h _ (List.getElem_mem hi)
theorem mvWf_at {l : List Mv} (h : ∀ z ∈ l, MvWf z) : ∀ i, i < l.length → MvWf (at' l i) := fun i hi => by
  unfold at'
  rw [List.getD_eq_getElem?_getD, List.getElem?_eq_getElem hi]
  exact h _ (List.getElem_mem hi)
end Go.AM

/- FnExactStripTick, walked; condition: the sizes that the row gives. -/
namespace Go.Proofs.Ytpdmimlkgmhepaa.AM
open Go.AM Go.RowKit
set_option linter.unusedVariables false
set_option linter.unusedSimpArgs false
set_option maxRecDepth 100000

theorem law_FnExactStripTick (b : Bk) (hn : W64 b.now) (hs : W64 b.shift) (hl : b.ms.length ≤ maxLen) (hwl : ∀ z ∈ b.ms, MvWf z) (ht : b.ts.length ≤ maxLen) (hwt : ∀ z ∈ b.ts, W64 z) : Ok P 10 [b.lent] [] (.one (.bool true)) [] := by
  have hm : ∀ i, i < b.ms.length → (at' b.ms i).f0.size ≤ maxLen := fun i hi => (mvWf_at hwl i hi).1
  have hw := tkWf_of hwt
  have hsz := szB_le (b := b) (left := 1048576) (by omega)
  refine Ok.of_run (F := mk Try.f10 0) Try.func10 rfl rfl tabOk mixed rfl rfl rfl rfl rfl (Nat.le_of_ble_eq_true rfl) (Nat.le_of_ble_eq_true rfl) (.go 5000 ?_)
  conv => arg 4; whnf
  refine Run.call (szBook_ok b _ (by omega) hl hm ht) rfl ?_
  conv => arg 4; whnf
  refine Run.condD (fun h => ?_) (fun h => ?_)
  · repeat' (conv => arg 4; whnf); first | refine Run.ret ⟨?_, rfl⟩ | refine Run.condT ?_ | refine Run.condf ?_ | refine Run.condD (fun h => ?_) (fun h => ?_) | refine Run.condN (fun h => ?_) (fun h => ?_) | refine Run.condE (fun h => ?_) (fun h => ?_) | refine Run.condF (fun h => ?_) (fun h => ?_) | refine Run.condM (fun h => ?_) (fun h => ?_) | refine Run.condB (fun h => ?_) (fun h => ?_) | refine Run.check1 ?_
    rfl
  obtain ⟨hl2, ht2⟩ := hsz h
  have hl3 : b.ms.length ≤ 1048576 := by omega
  have ht3 : b.ts.length ≤ 1048576 := by omega
  have h1 := tick_ok b hl3 ht3 hw
  have h2 := stick_ok b hl3 ht3 hw
  have hr := tickR_len hl3 ht3
  generalize tickR b = r at h1 h2 hr
  obtain ⟨rb, rt, rc⟩ := r
  simp only at h1 h2 hr
  obtain ⟨r1, r2, r3⟩ := hr
  repeat' (conv => arg 4; whnf); first | refine Run.ret ⟨?_, rfl⟩ | refine Run.condT ?_ | refine Run.condf ?_ | refine Run.condD (fun h => ?_) (fun h => ?_) | refine Run.condN (fun h => ?_) (fun h => ?_) | refine Run.condE (fun h => ?_) (fun h => ?_) | refine Run.condF (fun h => ?_) (fun h => ?_) | refine Run.condM (fun h => ?_) (fun h => ?_) | refine Run.condB (fun h => ?_) (fun h => ?_) | refine Run.check1 ?_ | refine Run.call (toBook_ok b hl3 ht3) rfl ?_ | refine Run.call (h1) rfl ?_ | refine Run.call (h2) rfl ?_ | refine Run.call (eqBook_ok rb r1 r2) rfl ?_ | refine Run.call (eqBook_ok b hl3 ht3) rfl ?_ | refine Run.call (eqTexts_ok rt r3) rfl ?_ | refine Run.call (markBook_ok b _ hl3 ht3 (by omega)) rfl ?_ | refine Run.call (markBook_ok rb _ r1 r2 (by omega)) rfl ?_ | refine Run.call (markTexts_ok rt _ r3 (by omega)) rfl ?_ | refine Run.call (heldBook_ok _ _ _ _ _ r1 r2 (by omega)) rfl ?_ | refine Run.call (heldTexts_ok _ _ r3 (by omega)) rfl ?_ | (exfalso; omega) | contradiction
  all_goals first | rfl | contradiction | (exfalso; omega) | trace_state
end Go.Proofs.Ytpdmimlkgmhepaa.AM

/- What comes in as a struct, a slice or a book, in the machine's words; condition: the argument reads as data of its type. -/
namespace Go.Proofs.Ytpdmimlkgmhepaa.AM
open Go.Joins Go.ChangeShapes Go.WideShapes Go.RowKit Go.Deep Go.AM
set_option linter.unusedVariables false
set_option linter.unusedSimpArgs false
section
variable {H : Type} {enc : TypeId × Value → H} {w : World} {base : Nat} {spare : Nat → Bool} {held : Bool} {μ : Mu}
theorem open_mv {n : Nat} {cs : List Value} {y : DataW H × List MemPlace} (h : DataW.trod enc Try.prog w base spare held n 71 cs = some y) (hl : cs.length = 6) :
    ∃ m : Mv, cs = [.string m.f0, .bool m.f1, .int .i64 m.f2, .int .i64 m.f3, .int .i64 m.f4, .int .i64 m.f5] ∧ MvWf m := by
  obtain ⟨xs, n', _, _, _, hxl, hf⟩ := DataW.trod_struct Try.underlying71 h
  match cs, hl with
  | [c0, c1, c2, c3, c4, c5], _ =>
    have h0 := hf 0 _ rfl
    have h1 := hf 1 _ rfl
    have h2 := hf 2 _ rfl
    have h3 := hf 3 _ rfl
    have h4 := hf 4 _ rfl
    have h5 := hf 5 _ rfl
    have k1 : Try.prog.cellsOf 9 = 1 := by kernel_rfl
    have k2 : Try.prog.cellsOf 4 = 1 := by kernel_rfl
    have k3 : Try.prog.cellsOf 3 = 1 := by kernel_rfl
    have e0 : xs[0]? = some (xs[0]'(by rw [hxl]; decide)) := List.getElem?_eq_getElem _
    have e1 : xs[1]? = some (xs[1]'(by rw [hxl]; decide)) := List.getElem?_eq_getElem _
    have e2 : xs[2]? = some (xs[2]'(by rw [hxl]; decide)) := List.getElem?_eq_getElem _
    have e3 : xs[3]? = some (xs[3]'(by rw [hxl]; decide)) := List.getElem?_eq_getElem _
    have e4 : xs[4]? = some (xs[4]'(by rw [hxl]; decide)) := List.getElem?_eq_getElem _
    have e5 : xs[5]? = some (xs[5]'(by rw [hxl]; decide)) := List.getElem?_eq_getElem _
    obtain ⟨a0, q0, _, w0⟩ := DataW.trod_string Try.underlying9 (h0.trans e0)
    obtain ⟨a1, q1, _⟩ := DataW.trod_bool Try.underlying4 (h1.trans e1)
    obtain ⟨a2, q2, _, w2⟩ := DataW.trod_int Try.underlying3 (h2.trans e2)
    obtain ⟨a3, q3, _, w3⟩ := DataW.trod_int Try.underlying3 (h3.trans e3)
    obtain ⟨a4, q4, _, w4⟩ := DataW.trod_int Try.underlying3 (h4.trans e4)
    obtain ⟨a5, q5, _, w5⟩ := DataW.trod_int Try.underlying3 (h5.trans e5)
    simp [k1, k2, k3] at q0 q1 q2 q3 q4 q5
    subst q0 q1 q2 q3 q4 q5
    exact ⟨⟨a0, a1, a2, a3, a4, a5⟩, rfl, w0, wf64 w2, wf64 w3, wf64 w4, wf64 w5⟩
theorem open_ints {t fuel : Nat} {cs : List Value} {y : DataW H × List MemPlace} (ht : Try.prog.underlying t = some (.slice 3)) (h : DataW.trod enc Try.prog w base spare held fuel t cs = some y) :
    ∃ (v : Value) (xs : List Int), cs = [v] ∧ repA μ w (Old w) (.lst (.int .i64) xs false) v ∧ xs.length ≤ maxLen ∧ ∀ z ∈ xs, W64 z :=
  open_sl (.int .i64) ht (by kernel_rfl) (by decide) W64 (fun n cs' y hy hl => by
    obtain ⟨z, h1, _, h2⟩ := DataW.trod_int Try.underlying3 hy
    subst h1
    exact ⟨z, .cons rfl .nil, wf64 h2⟩) h
theorem open_bytes {t fuel : Nat} {cs : List Value} {y : DataW H × List MemPlace} (ht : Try.prog.underlying t = some (.slice 5)) (h : DataW.trod enc Try.prog w base spare held fuel t cs = some y) :
    ∃ (v : Value) (xs : List Int), cs = [v] ∧ repA μ w (Old w) (.lst (.int .u8) xs false) v ∧ xs.length ≤ maxLen ∧ ∀ z ∈ xs, (Lit.int .u8 z).wf = true :=
  open_sl (.int .u8) ht (by kernel_rfl) (by decide) (fun z => (Lit.int .u8 z).wf = true) (fun n cs' y hy hl => by
    obtain ⟨z, h1, _, h2⟩ := DataW.trod_int Try.underlying5 hy
    subst h1
    exact ⟨z, .cons rfl .nil, h2⟩) h
theorem open_mvs {t fuel : Nat} {cs : List Value} {y : DataW H × List MemPlace} (ht : Try.prog.underlying t = some (.slice 71)) (h : DataW.trod enc Try.prog w base spare held fuel t cs = some y) :
    ∃ (v : Value) (xs : List Mv), cs = [v] ∧ repA μ w (Old w) (.lst .mv xs false) v ∧ xs.length ≤ maxLen ∧ ∀ z ∈ xs, MvWf z :=
  open_sl .mv ht (by kernel_rfl) (by decide) MvWf (fun n cs' y hy hl => by
    obtain ⟨m, rfl, hm⟩ := open_mv hy hl
    exact ⟨m, .cons rfl (.cons rfl (.cons rfl (.cons rfl (.cons rfl (.cons rfl .nil))))), hm⟩) h
theorem open_bk {n : Nat} {cs : List Value} {y : DataW H × List MemPlace} (h : DataW.trod enc Try.prog w base spare held n 38 cs = some y) (hl : cs.length = 4) :
    ∃ b : Bk, repV μ w (Old w) b.lent (.agg ⟨cs⟩) ∧ W64 b.now ∧ W64 b.shift ∧ b.ms.length ≤ maxLen ∧ (∀ z ∈ b.ms, MvWf z) ∧ b.ts.length ≤ maxLen ∧ ∀ z ∈ b.ts, W64 z := by
  obtain ⟨xs, n', _, _, _, hxl, hf⟩ := DataW.trod_struct Try.underlying38 h
  match cs, hl with
  | [d0, d1, d2, d3], _ =>
    have h0 := hf 0 _ rfl
    have h1 := hf 1 _ rfl
    have h2 := hf 2 _ rfl
    have h3 := hf 3 _ rfl
    have k1 : Try.prog.cellsOf 3 = 1 := by kernel_rfl
    have k2 : Try.prog.cellsOf 26 = 1 := by kernel_rfl
    have k3 : Try.prog.cellsOf 22 = 1 := by kernel_rfl
    have e0 : xs[0]? = some (xs[0]'(by rw [hxl]; decide)) := List.getElem?_eq_getElem _
    have e1 : xs[1]? = some (xs[1]'(by rw [hxl]; decide)) := List.getElem?_eq_getElem _
    have e2 : xs[2]? = some (xs[2]'(by rw [hxl]; decide)) := List.getElem?_eq_getElem _
    have e3 : xs[3]? = some (xs[3]'(by rw [hxl]; decide)) := List.getElem?_eq_getElem _
    obtain ⟨a0, q0, _, w0⟩ := DataW.trod_int Try.underlying3 (h0.trans e0)
    obtain ⟨a1, q1, _, w1⟩ := DataW.trod_int Try.underlying3 (h1.trans e1)
    obtain ⟨v2, l2, q2, hr2, hm2, w2⟩ := open_mvs (μ := μ) Try.underlying26 (h2.trans e2)
    obtain ⟨v3, l3, q3, hr3, hm3, w3⟩ := open_ints (μ := μ) Try.underlying22 (h3.trans e3)
    simp [k1, k2, k3] at q0 q1 q2 q3
    subst q0 q1 q2 q3
    refine ⟨⟨a0, a1, l2, l3⟩, ?_, wf64 w0, wf64 w1, hm2, w2, hm3, w3⟩
    simp only [Bk.lent, repV]
    refine ⟨_, rfl, ?_⟩
    simp only [repAs]
    exact ⟨_, _, rfl, by simp only [repA], _, _, rfl, by simp only [repA], _, _, rfl, hr2, _, _, rfl, hr3, rfl⟩
end
end Go.Proofs.Ytpdmimlkgmhepaa.AM

/- FnExactStripTick: for every input the law returns true and each argument reads behind the call as it read before; no condition. -/
namespace Go.Proofs.Ytpdmimlkgmhepaa.fnExactStripTick
open Go.ChangeShapes Go.WideShapes Go.ChangeAt Go.RowKit
open Go.ChangeMaps (open_string shut_string)
set_option linter.unusedVariables false
theorem own : ownKnob Try.prog.godebug = none := by kernel_rfl
theorem laidOut : laidOutB Try.prog = true := by kernel_rfl
set_option maxRecDepth 100000 in
theorem lifted (os : Os) (started : os.Started) (H : Type) (enc : TypeId × Value → H) :
    ReturnsInHanded {} Try.checked os 10 .any (Rows.fnExactStripTickSpec.pre6 enc Try.prog Try.f10 Rows.fnExactStripTickRow.domain false) (Rows.fnExactStripTickSpec.post enc Try.prog Try.f10 false true false false) := by
  refine returnsInHanded_of_change_sized (C := Try.checked) own started (by kernel_rfl) Try.func10
    (ChangeSpec.witness6 (enc := enc) (C := Try.checked) false ⟨#[], #[.agg #[.int .i64 0, .int .i64 0, .slice none 0 0, .slice none 0 0]], []⟩ 8 (by kernel_rfl) (by kernel_rfl) (by kernel_rfl) (by kernel_rfl)) ?_
  intro W base args ds gs before hval0 hW hcnd hsz0 _
  have hval : ∀ (j : Nat) t v, Try.f10.params[j]? = some t → args[j]? = some v → Value.okWide Try.prog W .any base t v := hval0
  have hW' := hW
  obtain ⟨p, q, hA0, hV, rfl, hfz, hnd⟩ := hW
  have hA : DataW.TrodAll enc Try.prog W 0 (fun _ => true) true Try.f10.params.toList args.toList ds p := hA0
  rw [Try.params10] at hA hval
  obtain ⟨v0, vs0, d0, ds0, p0, q0, hargs, rfl, rfl, h0, r0⟩ := trodAll_cons hA
  obtain ⟨rfl, rfl, rfl⟩ := trodAll_nil r0
  obtain rfl : args = #[v0] := by cases args; simp_all
  obtain ⟨rfl, rfl⟩ := trodVars_none hV
  have k0 := h0
  have lt0 : ∀ x ∈ p0, x.block < W.heap.size := by obtain ⟨m, hm⟩ := k0; exact DataW.trod_lt m _ _ _ hm
  obtain ⟨cs0, rfl, hsz0⟩ := okWide_struct Try.underlying38 (hval 0 38 v0 rfl rfl)
  obtain ⟨b0⟩ := cs0
  obtain ⟨fuel0, hf0⟩ := h0
  obtain ⟨a0, hr0, wn0, ws0, hl0, wl0, ht0, wt0⟩ := AM.open_bk (μ := fun _ => none) hf0 (hsz0.trans (by kernel_rfl))
  refine (Go.AM.calls_true (AM.law_FnExactStripTick a0 wn0 ws0 hl0 wl0 ht0 wt0) (by simp only [Go.AM.repVs]; exact ⟨_, _, rfl, hr0, rfl⟩)).mono fun e W' ⟨he, bel⟩ => ?_
  subst he
  exact ⟨_, rfl, _, _, _, [], _, [], hW', trodAll_mk1 (shut_bool Try.underlying4 _), (trodAll_cons_mk (Below.trod laidOut (by kernel_rfl) (of_decide_eq_true (by kernel_rfl)) k0 bel lt0) trodAll_mk0), rfl, bel.frame _, fun h => by cases h⟩
theorem over : Rows.fnExactStripTickRow.holds Try.pinned (OpenSpec.ofChange Rows.fnExactStripTickSpec) :=
  OpenClaim.holds_of_wide 10 Try.f10 rfl rfl rfl rfl rfl rfl rfl ⟨rfl, rfl, rfl, rfl, rfl⟩ rfl rfl rfl rfl rfl (by kernel_rfl) Try.func10 (by kernel_rfl)
    (of_decide_eq_true (by kernel_rfl)) (by unfold Func.isWrapper; first | (rw [if_pos (by decide +kernel)]; kernel_rfl) | (rw [if_neg (by decide +kernel)]; exact ⟨rfl, rfl⟩))
    (fun os started H enc _ => lifted os started H enc)
theorem proved : Rows.FnExactStripTickSaid := over
end Go.Proofs.Ytpdmimlkgmhepaa.fnExactStripTick
namespace Go.Proofs.Ytpdmimlkgmhepaa
theorem fnExactStripTick_holds : Rows.FnExactStripTickSaid := fnExactStripTick.proved
#print axioms fnExactStripTick_holds
end Go.Proofs.Ytpdmimlkgmhepaa
