/- FnExactStripFirst, part 2 of 2: what the law's functions come to, plain laws on it, and the row; no condition -/
import Derived.Deep.Slices
import Derived.Deep.Fields
import Derived.ChangeSame
import Derived.Lib.SmallJoins
import Derived.WalkKit
import Derived.ProofKit
import Derived.OpenShut
import Derived.ShutString
import Derived.ChangeOld
import Derived.SizedLaws
import Derived.Test.YtmppoajepbbmiaaRows
import Derived.Test.YtmppoajepbbmiaaChecked
import Derived.Below
import Derived.Test.YtmppoajepbbmiaaYXFirst1
/- The exact laws' helpers: equal things are found equal; books; condition: sizes. -/
namespace Go.Proofs.Ytmppoajepbbmiaa.AM
open Go.AM Go.RowKit
set_option linter.unusedVariables false
set_option linter.unusedSimpArgs false
set_option maxRecDepth 100000

theorem eqInts_ok (t : List Int) (ht : t.length ≤ 1048576) : Ok P 15 [.one (.lst (.int .i64) t false), .one (.lst (.int .i64) t false)] [] (.one (.bool true)) [] := by
  refine Ok.of_run (F := mk Try.f15 0) Try.func15 rfl rfl tabOk mixed rfl rfl rfl rfl rfl (Nat.le_of_ble_eq_true rfl) (Nat.le_of_ble_eq_true rfl) (.go 5000 ?_)
  have loop : ∀ (d i : Nat) (z : Int), z = i → i + d = t.length → Run P (mk Try.f15 0) (fun v st => v = .one (.bool true) ∧ st = []) (.loop ⟨[(0, .one (.lst (.int .i64) t false)), (1, .one (.lst (.int .i64) t false)), (5, .one (.int .i64 z))], [], [.lp [0, 1, 0, 1, 1], .blk 0, .code [1, 1, 1]], none⟩) := by
    intro d
    induction d with
    | zero =>
      intro i z hz hd
      subst hz
      refine Run.loop ?_
      repeat' (conv => arg 4; whnf); first | refine Run.ret ⟨?_, rfl⟩ | refine Run.condT ?_ | refine Run.condf ?_ | refine Run.condD (fun h => ?_) (fun h => ?_) | refine Run.condN (fun h => ?_) (fun h => ?_) | refine Run.condE (fun h => ?_) (fun h => ?_) | refine Run.condF (fun h => ?_) (fun h => ?_) | refine Run.condM (fun h => ?_) (fun h => ?_) | refine Run.condB (fun h => ?_) (fun h => ?_) | refine Run.check1 ?_ | (exfalso; omega)
      all_goals first | rfl | (exfalso; omega)
    | succ d ih =>
      intro i z hz hd
      subst hz
      have e : wrap64 ((i : Int) + 1) = ((i + 1 : Nat) : Int) := wrap_eq (by omega) (by omega)
      refine Run.loop ?_
      repeat' (conv => arg 4; whnf); first | refine Run.ret ⟨?_, rfl⟩ | refine Run.condT ?_ | refine Run.condf ?_ | refine Run.condD (fun h => ?_) (fun h => ?_) | refine Run.condN (fun h => ?_) (fun h => ?_) | refine Run.condE (fun h => ?_) (fun h => ?_) | refine Run.condF (fun h => ?_) (fun h => ?_) | refine Run.condM (fun h => ?_) (fun h => ?_) | refine Run.condB (fun h => ?_) (fun h => ?_) | refine Run.check1 ?_ | refine Run.need1 (by simp only [allP, true_and, and_true]; omega) ?_ | (exact absurd rfl ‹_ ≠ _›) | refine Run.round ⟨[], [], []⟩ (ih (i + 1) _ e (by omega)) rfl (by (repeat' (first | exact wkEnv_nil | refine wkEnv_cons rfl ?_ | exact wkSto_nil | refine wkSto_none ?_ | refine wkSto_some rfl ?_)); done) (by (repeat' (first | exact wkEnv_nil | refine wkEnv_cons rfl ?_ | exact wkSto_nil | refine wkSto_none ?_ | refine wkSto_some rfl ?_)); done) | (exfalso; omega)
      all_goals first | (exact absurd rfl ‹_ ≠ _›) | (exfalso; omega) | trace_state
  repeat' (conv => arg 4; whnf); first | refine Run.ret ⟨?_, rfl⟩ | refine Run.condT ?_ | refine Run.condf ?_ | refine Run.condD (fun h => ?_) (fun h => ?_) | refine Run.condN (fun h => ?_) (fun h => ?_) | refine Run.condE (fun h => ?_) (fun h => ?_) | refine Run.condF (fun h => ?_) (fun h => ?_) | refine Run.condM (fun h => ?_) (fun h => ?_) | refine Run.condB (fun h => ?_) (fun h => ?_) | refine Run.check1 ?_ | (exact absurd rfl ‹_ ≠ _›) | refine Run.round ⟨[], [], []⟩ (loop t.length 0 _ rfl (by omega)) rfl (by (repeat' (first | exact wkEnv_nil | refine wkEnv_cons rfl ?_ | exact wkSto_nil | refine wkSto_none ?_ | refine wkSto_some rfl ?_)); done) (by (repeat' (first | exact wkEnv_nil | refine wkEnv_cons rfl ?_ | exact wkSto_nil | refine wkSto_none ?_ | refine wkSto_some rfl ?_)); done)
  all_goals first | (exact absurd rfl ‹_ ≠ _›) | trace_state
theorem eqMove_ok (m : Mv) : Ok P 54 [.agg (encMv m), .agg (encMv m)] [] (.one (.bool true)) [] := by
  refine Ok.of_run (F := mk Try.f54 0) Try.func54 rfl rfl tabOk mixed rfl rfl rfl rfl rfl (Nat.le_of_ble_eq_true rfl) (Nat.le_of_ble_eq_true rfl) (.go 5000 ?_)
  repeat' (conv => arg 4; whnf); first | refine Run.ret ⟨?_, rfl⟩ | refine Run.condT ?_ | refine Run.condf ?_ | refine Run.condD (fun h => ?_) (fun h => ?_) | refine Run.condN (fun h => ?_) (fun h => ?_) | refine Run.condE (fun h => ?_) (fun h => ?_) | refine Run.condF (fun h => ?_) (fun h => ?_) | refine Run.condM (fun h => ?_) (fun h => ?_) | refine Run.condB (fun h => ?_) (fun h => ?_) | refine Run.check1 ?_
  all_goals first | rfl | (exact absurd rfl ‹_ ≠ _›) | (exfalso; have h := ‹_ = false›; simp at h; done) | trace_state
theorem eqMoves_ok (t : List Mv) (ht : t.length ≤ 1048576) : Ok P 16 [.one (.lst .mv t false), .one (.lst .mv t false)] [] (.one (.bool true)) [] := by
  refine Ok.of_run (F := mk Try.f16 0) Try.func16 rfl rfl tabOk mixed rfl rfl rfl rfl rfl (Nat.le_of_ble_eq_true rfl) (Nat.le_of_ble_eq_true rfl) (.go 5000 ?_)
  have loop : ∀ (d i : Nat) (z : Int), z = i → i + d = t.length → Run P (mk Try.f16 0) (fun v st => v = .one (.bool true) ∧ st = []) (.loop ⟨[(0, .one (.lst .mv t false)), (1, .one (.lst .mv t false)), (5, .one (.int .i64 z))], [], [.lp [0, 1, 0, 1, 1], .blk 0, .code [1, 1, 1]], none⟩) := by
    intro d
    induction d with
    | zero =>
      intro i z hz hd
      subst hz
      refine Run.loop ?_
      repeat' (conv => arg 4; whnf); first | refine Run.ret ⟨?_, rfl⟩ | refine Run.condT ?_ | refine Run.condf ?_ | refine Run.condD (fun h => ?_) (fun h => ?_) | refine Run.condN (fun h => ?_) (fun h => ?_) | refine Run.condE (fun h => ?_) (fun h => ?_) | refine Run.condF (fun h => ?_) (fun h => ?_) | refine Run.condM (fun h => ?_) (fun h => ?_) | refine Run.condB (fun h => ?_) (fun h => ?_) | refine Run.check1 ?_ | (exfalso; omega)
      all_goals first | rfl | (exfalso; omega)
    | succ d ih =>
      intro i z hz hd
      subst hz
      have e : wrap64 ((i : Int) + 1) = ((i + 1 : Nat) : Int) := wrap_eq (by omega) (by omega)
      refine Run.loop ?_
      repeat' (conv => arg 4; whnf); first | refine Run.ret ⟨?_, rfl⟩ | refine Run.condT ?_ | refine Run.condf ?_ | refine Run.condD (fun h => ?_) (fun h => ?_) | refine Run.condN (fun h => ?_) (fun h => ?_) | refine Run.condE (fun h => ?_) (fun h => ?_) | refine Run.condF (fun h => ?_) (fun h => ?_) | refine Run.condM (fun h => ?_) (fun h => ?_) | refine Run.condB (fun h => ?_) (fun h => ?_) | refine Run.check1 ?_ | refine Run.call (eqMove_ok _) rfl ?_ | refine Run.need1 (by simp only [allP, true_and, and_true]; omega) ?_ | refine Run.round ⟨[], [], []⟩ (ih (i + 1) _ e (by omega)) rfl (by (repeat' (first | exact wkEnv_nil | refine wkEnv_cons rfl ?_ | exact wkSto_nil | refine wkSto_none ?_ | refine wkSto_some rfl ?_)); done) (by (repeat' (first | exact wkEnv_nil | refine wkEnv_cons rfl ?_ | exact wkSto_nil | refine wkSto_none ?_ | refine wkSto_some rfl ?_)); done) | (exfalso; omega)
      all_goals first | (exfalso; omega) | trace_state
  repeat' (conv => arg 4; whnf); first | refine Run.ret ⟨?_, rfl⟩ | refine Run.condT ?_ | refine Run.condf ?_ | refine Run.condD (fun h => ?_) (fun h => ?_) | refine Run.condN (fun h => ?_) (fun h => ?_) | refine Run.condE (fun h => ?_) (fun h => ?_) | refine Run.condF (fun h => ?_) (fun h => ?_) | refine Run.condM (fun h => ?_) (fun h => ?_) | refine Run.condB (fun h => ?_) (fun h => ?_) | refine Run.check1 ?_ | (exact absurd rfl ‹_ ≠ _›) | refine Run.round ⟨[], [], []⟩ (loop t.length 0 _ rfl (by omega)) rfl (by (repeat' (first | exact wkEnv_nil | refine wkEnv_cons rfl ?_ | exact wkSto_nil | refine wkSto_none ?_ | refine wkSto_some rfl ?_)); done) (by (repeat' (first | exact wkEnv_nil | refine wkEnv_cons rfl ?_ | exact wkSto_nil | refine wkSto_none ?_ | refine wkSto_some rfl ?_)); done)
  all_goals first | (exact absurd rfl ‹_ ≠ _›) | trace_state
theorem szInts_ok (l : List Int) (left : Int) (h : 0 ≤ left ∧ left ≤ 1048576) (hl : l.length ≤ maxLen) : Ok P 75 [.one (.lst (.int .i64) l false), .one (.int .i64 left)] [] (.one (.int .i64 (szIs l left))) [] := by
  refine Ok.of_run (F := mk Try.f75 0) Try.func75 rfl rfl tabOk mixed rfl rfl rfl rfl rfl (Nat.le_of_ble_eq_true rfl) (Nat.le_of_ble_eq_true rfl) (.go 5000 ?_)
  have e : wrap64 (left - l.length) = left - l.length := wrap_eq (by unfold maxLen at hl; omega) (by omega)
  repeat' (conv => arg 4; whnf); first | refine Run.ret ⟨?_, rfl⟩ | refine Run.condT ?_ | refine Run.condf ?_ | refine Run.condD (fun h => ?_) (fun h => ?_) | refine Run.condN (fun h => ?_) (fun h => ?_) | refine Run.condE (fun h => ?_) (fun h => ?_) | refine Run.condF (fun h => ?_) (fun h => ?_) | refine Run.condM (fun h => ?_) (fun h => ?_) | refine Run.condB (fun h => ?_) (fun h => ?_) | refine Run.check1 ?_
  all_goals (refine vi ?_; unfold szIs; rw [e] at *; first | rw [if_pos ‹_›] | rw [if_neg ‹_›])
theorem szBook_ok (b : Bk) (left : Int) (h : 0 ≤ left ∧ left ≤ 1048576) (hl : b.ms.length ≤ maxLen) (hm : ∀ i, i < b.ms.length → (at' b.ms i).f0.size ≤ maxLen) (ht : b.ts.length ≤ maxLen) : Ok P 33 [b.lent, .one (.int .i64 left)] [] (.one (.int .i64 (szB b left))) [] := by
  refine Ok.of_run (F := mk Try.f33 0) Try.func33 rfl rfl tabOk mixed rfl rfl rfl rfl rfl (Nat.le_of_ble_eq_true rfl) (Nat.le_of_ble_eq_true rfl) (.go 5000 ?_)
  have hle := szMs_le (l := b.ms) h.1
  repeat' (conv => arg 4; whnf); first | refine Run.ret ⟨?_, rfl⟩ | refine Run.condT ?_ | refine Run.condf ?_ | refine Run.condD (fun h => ?_) (fun h => ?_) | refine Run.condN (fun h => ?_) (fun h => ?_) | refine Run.condE (fun h => ?_) (fun h => ?_) | refine Run.condF (fun h => ?_) (fun h => ?_) | refine Run.condM (fun h => ?_) (fun h => ?_) | refine Run.condB (fun h => ?_) (fun h => ?_) | refine Run.check1 ?_ | refine Run.call (szMoves_ok _ _ h hl hm) rfl ?_ | refine Run.call (szInts_ok _ _ (by omega) ht) rfl ?_
  all_goals (refine vi ?_; unfold szB; first | (rw [if_pos ‹_›]; done) | (rw [if_neg ‹_›, if_pos ‹_›]; done) | (rw [if_neg ‹_›, if_neg ‹_›]; done) | trace_state)
theorem toBook_ok (b : Bk) (hl : b.ms.length ≤ 1048576) (ht : b.ts.length ≤ 1048576) : Ok P 35 [b.lent] [] (b.own (.k 0) (.k 1)) [some (.row .mv b.ms), some (.row (.int .i64) b.ts)] := by
  refine Ok.of_run (F := mk Try.f35 0) Try.func35 rfl rfl tabOk mixed rfl rfl rfl rfl rfl (Nat.le_of_ble_eq_true rfl) (Nat.le_of_ble_eq_true rfl) (.go 5000 ?_)
  repeat' (conv => arg 4; whnf); first | refine Run.ret ⟨?_, rfl⟩ | refine Run.condT ?_ | refine Run.condf ?_ | refine Run.condD (fun h => ?_) (fun h => ?_) | refine Run.condN (fun h => ?_) (fun h => ?_) | refine Run.condE (fun h => ?_) (fun h => ?_) | refine Run.condF (fun h => ?_) (fun h => ?_) | refine Run.condM (fun h => ?_) (fun h => ?_) | refine Run.condB (fun h => ?_) (fun h => ?_) | refine Run.check1 ?_ | refine Run.call (toMoves_ok _ hl) rfl ?_ | refine Run.call (toInts_ok _ ht) rfl ?_
  all_goals first | rfl | trace_state
theorem eqBook_ok (b : Bk) (hl : b.ms.length ≤ 1048576) (ht : b.ts.length ≤ 1048576) : Ok P 37 [b.lent, b.lent] [] (.one (.bool true)) [] := by
  refine Ok.of_run (F := mk Try.f37 0) Try.func37 rfl rfl tabOk mixed rfl rfl rfl rfl rfl (Nat.le_of_ble_eq_true rfl) (Nat.le_of_ble_eq_true rfl) (.go 5000 ?_)
  repeat' (conv => arg 4; whnf); first | refine Run.ret ⟨?_, rfl⟩ | refine Run.condT ?_ | refine Run.condf ?_ | refine Run.condD (fun h => ?_) (fun h => ?_) | refine Run.condN (fun h => ?_) (fun h => ?_) | refine Run.condE (fun h => ?_) (fun h => ?_) | refine Run.condF (fun h => ?_) (fun h => ?_) | refine Run.condM (fun h => ?_) (fun h => ?_) | refine Run.condB (fun h => ?_) (fun h => ?_) | refine Run.check1 ?_ | (exact absurd rfl ‹_ ≠ _›) | refine Run.call (eqMoves_ok _ hl) rfl ?_ | refine Run.call (eqInts_ok _ ht) rfl ?_
  all_goals first | rfl | (exact absurd rfl ‹_ ≠ _›) | trace_state
end Go.Proofs.Ytmppoajepbbmiaa.AM

/- The exact laws' marks on numbers; condition: bounds. -/
namespace Go.Proofs.Ytmppoajepbbmiaa.AM
open Go.AM Go.RowKit
set_option linter.unusedVariables false
set_option linter.unusedSimpArgs false
set_option maxRecDepth 100000

def mkI (k : Int) (n : Nat) : List Int := (List.range n).map fun i : Nat => k + (i : Int)
theorem mkI_len (k : Int) (n : Nat) : (mkI k n).length = n := by simp [mkI]
theorem mkI_at (k : Int) (n : Nat) {i : Nat} (h : i < n) : (mkI k n).getD i 0 = k + i := by simp [mkI, List.getD_eq_getElem?_getD, h]
theorem markInts_ok (t : List Int) (k : Int) (ht : t.length ≤ 1048576) (hk : 0 ≤ k ∧ k ≤ 1000000000000) : Ok P 18 [.one (.own (.k 0)), .one (.int .i64 k)] [some (.row (.int .i64) t)] (.one (.int .i64 (k + t.length))) [some (.row (.int .i64) (mkI k t.length))] := by
  refine Ok.of_run (F := mk Try.f18 1) Try.func18 rfl rfl tabOk mixed rfl rfl rfl rfl rfl (Nat.le_of_ble_eq_true rfl) (Nat.le_of_ble_eq_true rfl) (.go 5000 ?_)
  have loop : ∀ (d i : Nat) (z y : Int) (s : List Int), z = i → y = k + i → i + d = t.length → Cp 0 (mkI k t.length) s i → Run P (mk Try.f18 1) (fun v st => v = .one (.int .i64 (k + t.length)) ∧ st = [some (.row (.int .i64) (mkI k t.length))]) (.loop ⟨[(0, .one (.own (.k 0))), (1, .one (.int .i64 y)), (5, .one (.int .i64 z))], [(.k 0, some (.row (.int .i64) s))], [.lp [0, 1, 0, 1], .blk 0, .code [1, 1]], none⟩) := by
    intro d
    induction d with
    | zero =>
      intro i z y s hz hy hd hc
      subst hz; subst hy
      have hl := hc.1
      rw [mkI_len] at hl
      obtain rfl := cp_end hc (by rw [mkI_len]; omega)
      refine Run.loop ?_
      repeat' (conv => arg 4; whnf); first | refine Run.ret ⟨?_, rfl⟩ | refine Run.condT ?_ | refine Run.condf ?_ | refine Run.condD (fun h => ?_) (fun h => ?_) | refine Run.condN (fun h => ?_) (fun h => ?_) | refine Run.condE (fun h => ?_) (fun h => ?_) | refine Run.condF (fun h => ?_) (fun h => ?_) | refine Run.condM (fun h => ?_) (fun h => ?_) | refine Run.condB (fun h => ?_) (fun h => ?_) | refine Run.check1 ?_ | (exfalso; omega)
      all_goals first | (exfalso; omega) | (refine vi ?_; omega) | trace_state
    | succ d ih =>
      intro i z y s hz hy hd hc
      subst hz; subst hy
      have e : wrap64 ((i : Int) + 1) = ((i + 1 : Nat) : Int) := wrap_eq (by omega) (by omega)
      have ek : wrap64 (k + i + 1) = k + ((i + 1 : Nat) : Int) := (wrap_eq (by omega) (by omega)).trans (by omega)
      have hl := hc.1
      rw [mkI_len] at hl
      have hs := cp_step hc (i := i) (by rw [mkI_len]; omega)
      rw [mkI_at _ _ (by omega)] at hs
      refine Run.loop ?_
      repeat' (conv => arg 4; whnf); first | refine Run.ret ⟨?_, rfl⟩ | refine Run.condT ?_ | refine Run.condf ?_ | refine Run.condD (fun h => ?_) (fun h => ?_) | refine Run.condN (fun h => ?_) (fun h => ?_) | refine Run.condE (fun h => ?_) (fun h => ?_) | refine Run.condF (fun h => ?_) (fun h => ?_) | refine Run.condM (fun h => ?_) (fun h => ?_) | refine Run.condB (fun h => ?_) (fun h => ?_) | refine Run.check1 ?_ | refine Run.need1 (by simp only [allP, true_and, and_true]; omega) ?_ | refine Run.round ⟨[], [], []⟩ (ih (i + 1) _ _ _ e ek (by omega) ?_) rfl (by (repeat' (first | exact wkEnv_nil | refine wkEnv_cons rfl ?_ | exact wkSto_nil | refine wkSto_none ?_ | refine wkSto_some rfl ?_)); done) (by (repeat' (first | exact wkEnv_nil | refine wkEnv_cons rfl ?_ | exact wkSto_nil | refine wkSto_none ?_ | refine wkSto_some rfl ?_)); done) | (exfalso; omega)
      all_goals first
        | (exfalso; omega)
        | (simpa using hs)
        | trace_state
  repeat' (conv => arg 4; whnf); first | refine Run.ret ⟨?_, rfl⟩ | refine Run.condT ?_ | refine Run.condf ?_ | refine Run.condD (fun h => ?_) (fun h => ?_) | refine Run.condN (fun h => ?_) (fun h => ?_) | refine Run.condE (fun h => ?_) (fun h => ?_) | refine Run.condF (fun h => ?_) (fun h => ?_) | refine Run.condM (fun h => ?_) (fun h => ?_) | refine Run.condB (fun h => ?_) (fun h => ?_) | refine Run.check1 ?_ | refine Run.round ⟨[], [], []⟩ (loop t.length 0 _ _ _ rfl ?_ ?_ ?_) rfl (by (repeat' (first | exact wkEnv_nil | refine wkEnv_cons rfl ?_ | exact wkSto_nil | refine wkSto_none ?_ | refine wkSto_some rfl ?_)); done) (by (repeat' (first | exact wkEnv_nil | refine wkEnv_cons rfl ?_ | exact wkSto_nil | refine wkSto_none ?_ | refine wkSto_some rfl ?_)); done)
  all_goals first
    | omega
    | exact ⟨by rw [mkI_len], fun j hj => absurd hj (by omega)⟩
    | trace_state
theorem heldInts_ok (n : Nat) (k : Int) (hn : n ≤ 1048576) (hk : 0 ≤ k ∧ k ≤ 1000000000000) : Ok P 19 [.one (.lst (.int .i64) (mkI k n) false), .one (.int .i64 k)] [] (.one (.int .i64 (k + n))) [] := by
  refine Ok.of_run (F := mk Try.f19 0) Try.func19 rfl rfl tabOk mixed rfl rfl rfl rfl rfl (Nat.le_of_ble_eq_true rfl) (Nat.le_of_ble_eq_true rfl) (.go 5000 ?_)
  have hlen := mkI_len k n
  have loop : ∀ (d i : Nat) (z y : Int), z = i → y = k + i → i + d = n → Run P (mk Try.f19 0) (fun v st => v = .one (.int .i64 (k + n)) ∧ st = []) (.loop ⟨[(0, .one (.lst (.int .i64) (mkI k n) false)), (1, .one (.int .i64 y)), (5, .one (.int .i64 z))], [], [.lp [0, 1, 0, 1], .blk 0, .code [1, 1]], none⟩) := by
    intro d
    induction d with
    | zero =>
      intro i z y hz hy hd
      subst hz; subst hy
      refine Run.loop ?_
      repeat' (conv => arg 4; whnf); first | refine Run.ret ⟨?_, rfl⟩ | refine Run.condT ?_ | refine Run.condf ?_ | refine Run.condD (fun h => ?_) (fun h => ?_) | refine Run.condN (fun h => ?_) (fun h => ?_) | refine Run.condE (fun h => ?_) (fun h => ?_) | refine Run.condF (fun h => ?_) (fun h => ?_) | refine Run.condM (fun h => ?_) (fun h => ?_) | refine Run.condB (fun h => ?_) (fun h => ?_) | refine Run.check1 ?_ | (exfalso; omega)
      all_goals first | (exfalso; omega) | (refine vi ?_; omega) | trace_state
    | succ d ih =>
      intro i z y hz hy hd
      subst hz; subst hy
      have e : wrap64 ((i : Int) + 1) = ((i + 1 : Nat) : Int) := wrap_eq (by omega) (by omega)
      have ek : wrap64 (k + i + 1) = k + ((i + 1 : Nat) : Int) := (wrap_eq (by omega) (by omega)).trans (by omega)
      have ea : rd (mkI k n) i = k + i := by rw [rd_nat]; exact mkI_at k n (by omega)
      refine Run.loop ?_
      repeat' (conv => arg 4; whnf); first | refine Run.ret ⟨?_, rfl⟩ | refine Run.condT ?_ | refine Run.condf ?_ | refine Run.condD (fun h => ?_) (fun h => ?_) | refine Run.condN (fun h => ?_) (fun h => ?_) | refine Run.condE (fun h => ?_) (fun h => ?_) | refine Run.condF (fun h => ?_) (fun h => ?_) | refine Run.condM (fun h => ?_) (fun h => ?_) | refine Run.condB (fun h => ?_) (fun h => ?_) | refine Run.check1 ?_ | refine Run.need1 (by simp only [allP, true_and, and_true]; omega) ?_ | refine Run.round ⟨[], [], []⟩ (ih (i + 1) _ _ e ek (by omega)) rfl (by (repeat' (first | exact wkEnv_nil | refine wkEnv_cons rfl ?_ | exact wkSto_nil | refine wkSto_none ?_ | refine wkSto_some rfl ?_)); done) (by (repeat' (first | exact wkEnv_nil | refine wkEnv_cons rfl ?_ | exact wkSto_nil | refine wkSto_none ?_ | refine wkSto_some rfl ?_)); done) | contradiction | (exfalso; omega)
      all_goals first
        | (exfalso; omega)
        | contradiction
        | trace_state
  repeat' (conv => arg 4; whnf); first | refine Run.ret ⟨?_, rfl⟩ | refine Run.condT ?_ | refine Run.condf ?_ | refine Run.condD (fun h => ?_) (fun h => ?_) | refine Run.condN (fun h => ?_) (fun h => ?_) | refine Run.condE (fun h => ?_) (fun h => ?_) | refine Run.condF (fun h => ?_) (fun h => ?_) | refine Run.condM (fun h => ?_) (fun h => ?_) | refine Run.condB (fun h => ?_) (fun h => ?_) | refine Run.check1 ?_ | refine Run.round ⟨[], [], []⟩ (loop n 0 _ _ rfl ?_ ?_) rfl (by (repeat' (first | exact wkEnv_nil | refine wkEnv_cons rfl ?_ | exact wkSto_nil | refine wkSto_none ?_ | refine wkSto_some rfl ?_)); done) (by (repeat' (first | exact wkEnv_nil | refine wkEnv_cons rfl ?_ | exact wkSto_nil | refine wkSto_none ?_ | refine wkSto_some rfl ?_)); done)
  all_goals first
    | omega
    | trace_state
theorem ofBytes_size (xs : List Int) : (ofBytes xs).size = xs.length := by simp [ofBytes, ByteArray.size]
theorem markText_ex (k : Int) (hk : k ≤ 1000000000000) : ∃ s, Ok P 55 [.one (.int .i64 k)] [] (.one (.str s)) [] := by
  by_cases h0 : k ≤ 0
  · refine ⟨⟨#[109, 48]⟩, ?_⟩
    refine Ok.of_run (F := mk Try.f55 0) Try.func55 rfl rfl tabOk mixed rfl rfl rfl rfl rfl (Nat.le_of_ble_eq_true rfl) (Nat.le_of_ble_eq_true rfl) (.go 5000 ?_)
    repeat' (conv => arg 4; whnf); first | refine Run.ret ⟨?_, rfl⟩ | refine Run.condT ?_ | refine Run.condf ?_ | refine Run.condD (fun h => ?_) (fun h => ?_) | refine Run.condN (fun h => ?_) (fun h => ?_) | refine Run.condE (fun h => ?_) (fun h => ?_) | refine Run.condF (fun h => ?_) (fun h => ?_) | refine Run.condM (fun h => ?_) (fun h => ?_) | refine Run.condB (fun h => ?_) (fun h => ?_) | refine Run.check1 ?_ | (exfalso; omega)
    all_goals rfl
  · have loop : ∀ (d : Nat) (y : Int) (out : ByteArray), 0 ≤ y → y ≤ 1000000000000 → y < 10 ^ d → out.size + d ≤ 40 → ∃ s, Run P (mk Try.f55 0) (fun v st => v = .one (.str s) ∧ st = []) (.loop ⟨[(0, .one (.int .i64 y)), (3, .one (.str out))], [], [.lp [0, 0, 1, 1, 1], .blk 0, .code [1, 1, 1, 1]], none⟩) := by
      intro d
      induction d with
      | zero =>
        intro y out h1 hm h2 h3
        have hy : ¬ 0 < y := by simp at h2; omega
        refine ⟨⟨#[109]⟩ ++ out, Run.loop ?_⟩
        have hs : (⟨#[109]⟩ : ByteArray).size = 1 := rfl
        repeat' (conv => arg 4; whnf); first | refine Run.ret ⟨?_, rfl⟩ | refine Run.condT ?_ | refine Run.condf ?_ | refine Run.condD (fun h => ?_) (fun h => ?_) | refine Run.condN (fun h => ?_) (fun h => ?_) | refine Run.condE (fun h => ?_) (fun h => ?_) | refine Run.condF (fun h => ?_) (fun h => ?_) | refine Run.condM (fun h => ?_) (fun h => ?_) | refine Run.condB (fun h => ?_) (fun h => ?_) | refine Run.check1 ?_ | (exact absurd ‹0 < y› hy) | refine Run.need1 (by simp only [allP, true_and, and_true, hs]; omega) ?_
        all_goals first | rfl | (exact absurd ‹0 < y› hy) | trace_state
      | succ d ih =>
        intro y out h1 hm h2 h3
        by_cases hy : 0 < y
        · have hq : y.tdiv 10 = y / 10 := Int.tdiv_eq_ediv_of_nonneg h1
          have hlt : y / 10 < 10 ^ d := by
            rw [Int.pow_succ] at h2
            omega
          have e : wrap64 (y.tdiv 10) = y.tdiv 10 := by rw [hq]; exact wrap_eq (by omega) (by omega)
          obtain ⟨s, hs⟩ := ih (wrap64 (y.tdiv 10)) (ofBytes [IntKind.u8.wrap (wrap64 (48 + y.tmod 10))] ++ out) (by rw [e, hq]; omega) (by rw [e, hq]; omega) (by rw [e, hq]; exact hlt) (by rw [ByteArray.size_append, ofBytes_size]; simp; omega)
          refine ⟨s, Run.loop ?_⟩
          repeat' (conv => arg 4; whnf); first | refine Run.ret ⟨?_, rfl⟩ | refine Run.condT ?_ | refine Run.condf ?_ | refine Run.condD (fun h => ?_) (fun h => ?_) | refine Run.condN (fun h => ?_) (fun h => ?_) | refine Run.condE (fun h => ?_) (fun h => ?_) | refine Run.condF (fun h => ?_) (fun h => ?_) | refine Run.condM (fun h => ?_) (fun h => ?_) | refine Run.condB (fun h => ?_) (fun h => ?_) | refine Run.check1 ?_ | refine Run.need1 (by simp only [allP, true_and, and_true, ofBytes_size, List.length_cons, List.length_nil]; omega) ?_ | refine Run.round ⟨[], [], []⟩ (hs) rfl (by (repeat' (first | exact wkEnv_nil | refine wkEnv_cons rfl ?_ | exact wkSto_nil | refine wkSto_none ?_ | refine wkSto_some rfl ?_)); done) (by (repeat' (first | exact wkEnv_nil | refine wkEnv_cons rfl ?_ | exact wkSto_nil | refine wkSto_none ?_ | refine wkSto_some rfl ?_)); done) | contradiction
          all_goals first | contradiction | trace_state
        · refine ⟨⟨#[109]⟩ ++ out, Run.loop ?_⟩
          have hs : (⟨#[109]⟩ : ByteArray).size = 1 := rfl
          repeat' (conv => arg 4; whnf); first | refine Run.ret ⟨?_, rfl⟩ | refine Run.condT ?_ | refine Run.condf ?_ | refine Run.condD (fun h => ?_) (fun h => ?_) | refine Run.condN (fun h => ?_) (fun h => ?_) | refine Run.condE (fun h => ?_) (fun h => ?_) | refine Run.condF (fun h => ?_) (fun h => ?_) | refine Run.condM (fun h => ?_) (fun h => ?_) | refine Run.condB (fun h => ?_) (fun h => ?_) | refine Run.check1 ?_ | (exact absurd ‹0 < y› hy) | refine Run.need1 (by simp only [allP, true_and, and_true, hs]; omega) ?_
          all_goals first | rfl | (exact absurd ‹0 < y› hy) | trace_state
    obtain ⟨s, hs⟩ := loop 13 k ByteArray.empty (by omega) (by omega) (by omega) (by simp)
    refine ⟨s, ?_⟩
    refine Ok.of_run (F := mk Try.f55 0) Try.func55 rfl rfl tabOk mixed rfl rfl rfl rfl rfl (Nat.le_of_ble_eq_true rfl) (Nat.le_of_ble_eq_true rfl) (.go 5000 ?_)
    repeat' (conv => arg 4; whnf); first | refine Run.ret ⟨?_, rfl⟩ | refine Run.condT ?_ | refine Run.condf ?_ | refine Run.condD (fun h => ?_) (fun h => ?_) | refine Run.condN (fun h => ?_) (fun h => ?_) | refine Run.condE (fun h => ?_) (fun h => ?_) | refine Run.condF (fun h => ?_) (fun h => ?_) | refine Run.condM (fun h => ?_) (fun h => ?_) | refine Run.condB (fun h => ?_) (fun h => ?_) | refine Run.check1 ?_ | refine Run.round ⟨[], [], []⟩ (hs) rfl (by (repeat' (first | exact wkEnv_nil | refine wkEnv_cons rfl ?_ | exact wkSto_nil | refine wkSto_none ?_ | refine wkSto_some rfl ?_)); done) (by (repeat' (first | exact wkEnv_nil | refine wkEnv_cons rfl ?_ | exact wkSto_nil | refine wkSto_none ?_ | refine wkSto_some rfl ?_)); done) | contradiction
    all_goals first | contradiction | trace_state
/-- The text of a number, as the laws mark with it. -/
noncomputable def mtext (k : Int) : ByteArray := open Classical in if h : ∃ s, Ok P 55 [.one (.int .i64 k)] [] (.one (.str s)) [] then Classical.choose h else ByteArray.empty
theorem markText_ok (k : Int) (hk : k ≤ 1000000000000) : Ok P 55 [.one (.int .i64 k)] [] (.one (.str (mtext k))) [] := by
  unfold mtext
  rw [dif_pos (markText_ex k hk)]
  exact Classical.choose_spec (markText_ex k hk)
/-- Marked moves. -/
noncomputable def mkM (k : Int) (i : Nat) : Mv := ⟨mtext (k + 6 * i), (k + 6 * i + 1).tmod 3 == 0, k + 6 * i + 2, k + 6 * i + 3, k + 6 * i + 4, k + 6 * i + 5⟩
noncomputable def mkMs (k : Int) (n : Nat) : List Mv := (List.range n).map (mkM k)
theorem mkMs_len (k : Int) (n : Nat) : (mkMs k n).length = n := by simp [mkMs]
theorem mkMs_at (k : Int) (n : Nat) {i : Nat} (h : i < n) : (mkMs k n).getD i Mv.z = mkM k i := by simp [mkMs, List.getD_eq_getElem?_getD, h]
end Go.Proofs.Ytmppoajepbbmiaa.AM

/- The exact laws' marks on moves, books, texts; condition: bounds. -/
namespace Go.Proofs.Ytmppoajepbbmiaa.AM
open Go.AM Go.RowKit
set_option linter.unusedVariables false
set_option linter.unusedSimpArgs false
set_option maxRecDepth 100000

theorem markMoves_ok (t : List Mv) (k : Int) (ht : t.length ≤ 1048576) (hk : 0 ≤ k ∧ k ≤ 1000000) : Ok P 17 [.one (.own (.k 0)), .one (.int .i64 k)] [some (.row .mv t)] (.one (.int .i64 (k + 6 * t.length))) [some (.row .mv (mkMs k t.length))] := by
  refine Ok.of_run (F := mk Try.f17 1) Try.func17 rfl rfl tabOk mixed rfl rfl rfl rfl rfl (Nat.le_of_ble_eq_true rfl) (Nat.le_of_ble_eq_true rfl) (.go 5000 ?_)
  have loop : ∀ (d i : Nat) (z y : Int) (s : List Mv), z = i → y = k + 6 * i → i + d = t.length → Cp Mv.z (mkMs k t.length) s i → Run P (mk Try.f17 1) (fun v st => v = .one (.int .i64 (k + 6 * t.length)) ∧ st = [some (.row .mv (mkMs k t.length))]) (.loop ⟨[(0, .one (.own (.k 0))), (1, .one (.int .i64 y)), (5, .one (.int .i64 z))], [(.k 0, some (.row .mv s))], [.lp [0, 1, 0, 1], .blk 0, .code [1, 1]], none⟩) := by
    intro d
    induction d with
    | zero =>
      intro i z y s hz hy hd hc
      subst hz; subst hy
      have hl := hc.1
      rw [mkMs_len] at hl
      obtain rfl := cp_end hc (by rw [mkMs_len]; omega)
      refine Run.loop ?_
      repeat' (conv => arg 4; whnf); first | refine Run.ret ⟨?_, rfl⟩ | refine Run.condT ?_ | refine Run.condf ?_ | refine Run.condD (fun h => ?_) (fun h => ?_) | refine Run.condN (fun h => ?_) (fun h => ?_) | refine Run.condE (fun h => ?_) (fun h => ?_) | refine Run.condF (fun h => ?_) (fun h => ?_) | refine Run.condM (fun h => ?_) (fun h => ?_) | refine Run.condB (fun h => ?_) (fun h => ?_) | refine Run.check1 ?_ | (exfalso; omega)
      all_goals first | (exfalso; omega) | (refine vi ?_; omega) | trace_state
    | succ d ih =>
      intro i z y s hz hy hd hc
      subst hz; subst hy
      have e : wrap64 ((i : Int) + 1) = ((i + 1 : Nat) : Int) := wrap_eq (by omega) (by omega)
      have e1 : wrap64 (k + 6 * i + 1) = k + 6 * i + 1 := wrap_eq (by omega) (by omega)
      have e2 : wrap64 (k + 6 * i + 1 + 1) = k + 6 * i + 2 := (wrap_eq (by omega) (by omega)).trans (by omega)
      have e3 : wrap64 (k + 6 * i + 2 + 1) = k + 6 * i + 3 := (wrap_eq (by omega) (by omega)).trans (by omega)
      have e4 : wrap64 (k + 6 * i + 3 + 1) = k + 6 * i + 4 := (wrap_eq (by omega) (by omega)).trans (by omega)
      have e5 : wrap64 (k + 6 * i + 4 + 1) = k + 6 * i + 5 := (wrap_eq (by omega) (by omega)).trans (by omega)
      have e6 : wrap64 (k + 6 * i + 5 + 1) = k + 6 * ((i + 1 : Nat) : Int) := (wrap_eq (by omega) (by omega)).trans (by omega)
      have hl := hc.1
      rw [mkMs_len] at hl
      have hs := cp_step hc (i := i) (by rw [mkMs_len]; omega)
      have hrd : ∀ x : Mv, rdM (s.set i x) (i : Int) = x := fun x => by
        rw [rdM_nat, at', getD_set, if_pos ⟨rfl, by omega⟩]
      rw [mkMs_at _ _ (by omega)] at hs
      refine Run.loop ?_
      repeat' (conv => arg 4; whnf); first | refine Run.ret ⟨?_, rfl⟩ | refine Run.condT ?_ | refine Run.condf ?_ | refine Run.condD (fun h => ?_) (fun h => ?_) | refine Run.condN (fun h => ?_) (fun h => ?_) | refine Run.condE (fun h => ?_) (fun h => ?_) | refine Run.condF (fun h => ?_) (fun h => ?_) | refine Run.condM (fun h => ?_) (fun h => ?_) | refine Run.condB (fun h => ?_) (fun h => ?_) | refine Run.check1 ?_ | refine Run.call (markText_ok _ (by omega)) rfl ?_ | refine Run.need1 (by simp only [allP, true_and, and_true]; omega) ?_ | refine Run.need1 (by simp only [allP, true_and, and_true, List.length_set]; omega) ?_ | refine Run.round ⟨[], [], []⟩ (ih (i + 1) _ _ _ e ?_ (by omega) ?_) rfl (by (repeat' (first | exact wkEnv_nil | refine wkEnv_cons rfl ?_ | exact wkSto_nil | refine wkSto_none ?_ | refine wkSto_some rfl ?_)); done) (by (repeat' (first | exact wkEnv_nil | refine wkEnv_cons rfl ?_ | exact wkSto_nil | refine wkSto_none ?_ | refine wkSto_some rfl ?_)); done) | (exfalso; omega)
      all_goals clear ih
      all_goals first
        | (exfalso; omega)
        | (simp only [e1, e2, e3, e4, e5, e6]; done)
        | (simp only [Int.toNat_natCast, List.set_set, hrd, e1, e2, e3, e4, e5, e6]; exact hs)
        | trace_state
  repeat' (conv => arg 4; whnf); first | refine Run.ret ⟨?_, rfl⟩ | refine Run.condT ?_ | refine Run.condf ?_ | refine Run.condD (fun h => ?_) (fun h => ?_) | refine Run.condN (fun h => ?_) (fun h => ?_) | refine Run.condE (fun h => ?_) (fun h => ?_) | refine Run.condF (fun h => ?_) (fun h => ?_) | refine Run.condM (fun h => ?_) (fun h => ?_) | refine Run.condB (fun h => ?_) (fun h => ?_) | refine Run.check1 ?_ | refine Run.round ⟨[], [], []⟩ (loop t.length 0 _ _ _ rfl ?_ ?_ ?_) rfl (by (repeat' (first | exact wkEnv_nil | refine wkEnv_cons rfl ?_ | exact wkSto_nil | refine wkSto_none ?_ | refine wkSto_some rfl ?_)); done) (by (repeat' (first | exact wkEnv_nil | refine wkEnv_cons rfl ?_ | exact wkSto_nil | refine wkSto_none ?_ | refine wkSto_some rfl ?_)); done)
  all_goals first
    | omega
    | exact ⟨by rw [mkMs_len], fun j hj => absurd hj (by omega)⟩
    | trace_state
theorem heldMoves_ok (n : Nat) (k : Int) (hn : n ≤ 1048576) (hk : 0 ≤ k ∧ k ≤ 1000000) : Ok P 83 [.one (.lst .mv (mkMs k n) false), .one (.int .i64 k)] [] (.one (.int .i64 (k + 6 * n))) [] := by
  refine Ok.of_run (F := mk Try.f83 0) Try.func83 rfl rfl tabOk mixed rfl rfl rfl rfl rfl (Nat.le_of_ble_eq_true rfl) (Nat.le_of_ble_eq_true rfl) (.go 5000 ?_)
  have hlen := mkMs_len k n
  have loop : ∀ (d i : Nat) (z y : Int), z = i → y = k + 6 * i → i + d = n → Run P (mk Try.f83 0) (fun v st => v = .one (.int .i64 (k + 6 * n)) ∧ st = []) (.loop ⟨[(0, .one (.lst .mv (mkMs k n) false)), (1, .one (.int .i64 y)), (5, .one (.int .i64 z))], [], [.lp [0, 1, 0, 1], .blk 0, .code [1, 1]], none⟩) := by
    intro d
    induction d with
    | zero =>
      intro i z y hz hy hd
      subst hz; subst hy
      refine Run.loop ?_
      repeat' (conv => arg 4; whnf); first | refine Run.ret ⟨?_, rfl⟩ | refine Run.condT ?_ | refine Run.condf ?_ | refine Run.condD (fun h => ?_) (fun h => ?_) | refine Run.condN (fun h => ?_) (fun h => ?_) | refine Run.condE (fun h => ?_) (fun h => ?_) | refine Run.condF (fun h => ?_) (fun h => ?_) | refine Run.condM (fun h => ?_) (fun h => ?_) | refine Run.condB (fun h => ?_) (fun h => ?_) | refine Run.check1 ?_ | (exfalso; omega)
      all_goals first | (exfalso; omega) | (refine vi ?_; omega) | trace_state
    | succ d ih =>
      intro i z y hz hy hd
      subst hz; subst hy
      have e : wrap64 ((i : Int) + 1) = ((i + 1 : Nat) : Int) := wrap_eq (by omega) (by omega)
      have e1 : wrap64 (k + 6 * i + 1) = k + 6 * i + 1 := wrap_eq (by omega) (by omega)
      have e2 : wrap64 (k + 6 * i + 1 + 1) = k + 6 * i + 2 := (wrap_eq (by omega) (by omega)).trans (by omega)
      have e3 : wrap64 (k + 6 * i + 2 + 1) = k + 6 * i + 3 := (wrap_eq (by omega) (by omega)).trans (by omega)
      have e4 : wrap64 (k + 6 * i + 3 + 1) = k + 6 * i + 4 := (wrap_eq (by omega) (by omega)).trans (by omega)
      have e5 : wrap64 (k + 6 * i + 4 + 1) = k + 6 * i + 5 := (wrap_eq (by omega) (by omega)).trans (by omega)
      have e6 : wrap64 (k + 6 * i + 5 + 1) = k + 6 * ((i + 1 : Nat) : Int) := (wrap_eq (by omega) (by omega)).trans (by omega)
      have em : rdM (mkMs k n) i = mkM k i := by rw [rdM_nat]; exact mkMs_at k n (by omega)
      refine Run.loop ?_
      repeat' (conv => arg 4; whnf); first | refine Run.ret ⟨?_, rfl⟩ | refine Run.condT ?_ | refine Run.condf ?_ | refine Run.condD (fun h => ?_) (fun h => ?_) | refine Run.condN (fun h => ?_) (fun h => ?_) | refine Run.condE (fun h => ?_) (fun h => ?_) | refine Run.condF (fun h => ?_) (fun h => ?_) | refine Run.condM (fun h => ?_) (fun h => ?_) | refine Run.condB (fun h => ?_) (fun h => ?_) | refine Run.check1 ?_ | refine Run.call (markText_ok _ (by omega)) rfl ?_ | refine Run.need1 (by simp only [allP, true_and, and_true]; omega) ?_ | refine Run.round ⟨[], [], []⟩ (ih (i + 1) _ _ e ?_ (by omega)) rfl (by (repeat' (first | exact wkEnv_nil | refine wkEnv_cons rfl ?_ | exact wkSto_nil | refine wkSto_none ?_ | refine wkSto_some rfl ?_)); done) (by (repeat' (first | exact wkEnv_nil | refine wkEnv_cons rfl ?_ | exact wkSto_nil | refine wkSto_none ?_ | refine wkSto_some rfl ?_)); done) | (exfalso; omega)
      all_goals clear ih
      all_goals first
        | (exfalso; omega)
        | (simp only [e1, e2, e3, e4, e5, e6]; done)
        | (exfalso; simp only [em, mkM, e1, e2, e3, e4, e5, e6] at *; simp_all; done)
        | trace_state
  repeat' (conv => arg 4; whnf); first | refine Run.ret ⟨?_, rfl⟩ | refine Run.condT ?_ | refine Run.condf ?_ | refine Run.condD (fun h => ?_) (fun h => ?_) | refine Run.condN (fun h => ?_) (fun h => ?_) | refine Run.condE (fun h => ?_) (fun h => ?_) | refine Run.condF (fun h => ?_) (fun h => ?_) | refine Run.condM (fun h => ?_) (fun h => ?_) | refine Run.condB (fun h => ?_) (fun h => ?_) | refine Run.check1 ?_ | refine Run.round ⟨[], [], []⟩ (loop n 0 _ _ rfl ?_ ?_) rfl (by (repeat' (first | exact wkEnv_nil | refine wkEnv_cons rfl ?_ | exact wkSto_nil | refine wkSto_none ?_ | refine wkSto_some rfl ?_)); done) (by (repeat' (first | exact wkEnv_nil | refine wkEnv_cons rfl ?_ | exact wkSto_nil | refine wkSto_none ?_ | refine wkSto_some rfl ?_)); done)
  all_goals first
    | omega
    | trace_state
theorem markBook_ok (b : Bk) (k : Int) (hl : b.ms.length ≤ 1048576) (ht : b.ts.length ≤ 1048576) (hk : 0 ≤ k ∧ k ≤ 1000000) : Ok P 40 [b.own (.k 0) (.k 1), .one (.int .i64 k)] [some (.row .mv b.ms), some (.row (.int .i64) b.ts)] (.one (.int .i64 (k + 6 * b.ms.length + b.ts.length))) [some (.row .mv (mkMs k b.ms.length)), some (.row (.int .i64) (mkI (k + 6 * b.ms.length) b.ts.length))] := by
  refine Ok.of_run (F := mk Try.f40 2) Try.func40 rfl rfl tabOk mixed rfl rfl rfl rfl rfl (Nat.le_of_ble_eq_true rfl) (Nat.le_of_ble_eq_true rfl) (.go 5000 ?_)
  repeat' (conv => arg 4; whnf); first | refine Run.ret ⟨?_, rfl⟩ | refine Run.condT ?_ | refine Run.condf ?_ | refine Run.condD (fun h => ?_) (fun h => ?_) | refine Run.condN (fun h => ?_) (fun h => ?_) | refine Run.condE (fun h => ?_) (fun h => ?_) | refine Run.condF (fun h => ?_) (fun h => ?_) | refine Run.condM (fun h => ?_) (fun h => ?_) | refine Run.condB (fun h => ?_) (fun h => ?_) | refine Run.check1 ?_ | refine Run.call (markMoves_ok _ _ hl hk) rfl ?_ | refine Run.call (markInts_ok _ _ ht (by omega)) rfl ?_
  all_goals first | rfl | trace_state
theorem heldBook_ok (x y : Int) (n m : Nat) (k : Int) (hn : n ≤ 1048576) (hm : m ≤ 1048576) (hk : 0 ≤ k ∧ k ≤ 1000000) : Ok P 41 [Bk.lent ⟨x, y, mkMs k n, mkI (k + 6 * n) m⟩, .one (.int .i64 k)] [] (.one (.int .i64 (k + 6 * n + m))) [] := by
  refine Ok.of_run (F := mk Try.f41 0) Try.func41 rfl rfl tabOk mixed rfl rfl rfl rfl rfl (Nat.le_of_ble_eq_true rfl) (Nat.le_of_ble_eq_true rfl) (.go 5000 ?_)
  repeat' (conv => arg 4; whnf); first | refine Run.ret ⟨?_, rfl⟩ | refine Run.condT ?_ | refine Run.condf ?_ | refine Run.condD (fun h => ?_) (fun h => ?_) | refine Run.condN (fun h => ?_) (fun h => ?_) | refine Run.condE (fun h => ?_) (fun h => ?_) | refine Run.condF (fun h => ?_) (fun h => ?_) | refine Run.condM (fun h => ?_) (fun h => ?_) | refine Run.condB (fun h => ?_) (fun h => ?_) | refine Run.check1 ?_ | refine Run.call (heldMoves_ok _ _ hn hk) rfl ?_ | refine Run.call (heldInts_ok _ _ hm (by omega)) rfl ?_ | (exfalso; omega)
  all_goals first | rfl | (exfalso; omega) | trace_state
end Go.Proofs.Ytmppoajepbbmiaa.AM

/- What comes in as a slice reads as a list that is only read; condition: the argument reads as data of its type. -/
namespace Go.AM
set_option linter.unusedVariables false
set_option linter.unusedSimpArgs false
open Go.Joins Go.ChangeShapes Go.WideShapes Go.RowKit Go.Deep
variable {H : Type} {enc : TypeId × Value → H} {P : Program} {w : World} {base : Nat} {spare : Nat → Bool} {held : Bool}

/-- All blocks that are there. -/
def Old (w : World) (b : Nat) : Prop := b < w.heap.size
theorem cell_old {a : Addr} {v : Value} (h : w.cell? a = some v) : a = ⟨a.block, a.off, none⟩ ∧ Old w a.block := by
  have hs := World.cell?_spot h
  refine ⟨by cases a; simp_all, ?_⟩
  unfold World.cell? at h
  split at h
  · rename_i c e f hb
    exact (Array.getElem?_eq_some_iff.1 hb).1
  · cases h
theorem wf64 {x : Int} (h : (Lit.int .i64 x).wf = true) : W64 x := bounds_i64 h
theorem open_sl (e : El) {μ : Mu} {t et : TypeId} {fuel : Nat} {cs : List Value} {x : DataW H × List MemPlace} (ht : P.underlying t = some (.slice et)) (hC : P.cellsOf et = e.sz) (he : 0 < e.sz) (Wf : e.T → Prop)
    (hel : ∀ n cs' y, DataW.trod enc P w base spare held n et cs' = some y → cs'.length = e.sz → ∃ z : e.T, All2 (rep1 w (Old w)) (e.enc z) cs' ∧ Wf z) (h : DataW.trod enc P w base spare held fuel t cs = some x) :
    ∃ (v : Value) (xs : List e.T), cs = [v] ∧ repA μ w (Old w) (.lst e xs false) v ∧ xs.length ≤ maxLen ∧ ∀ z ∈ xs, Wf z := by
  classical
  rcases open_slice ht h with ⟨h0, _⟩ | ⟨a, len, cap, m, n, D, Pl, hcs, hb, hl, hm, hmm, hx, hi⟩
  · refine ⟨.slice none 0 0, [], by simpa using h0, ?_, by simp [maxLen], fun z hz => by simp at hz⟩
    simp only [repA]
    exact ⟨none, 0, rfl, Nat.le_refl _, by simp, fun h => absurd rfl h⟩
  · have hlm : len ≤ m := by rw [hmm]; split <;> omega
    have key : ∀ i, i < len → ∃ z : e.T, Wf z ∧ ∃ cs', All2 (rep1 w (Old w)) (e.enc z) cs' ∧ cs'.length = e.sz ∧ ∀ j u, cs'[j]? = some u → w.cell? (a.add (i * e.sz + j)) = some u := by
      intro i hil
      obtain ⟨cs', hc, ht'⟩ := hi i (by omega)
      obtain ⟨_, hcl, hat⟩ := World.cells?_some hc
      rw [hC] at hcl hat
      obtain ⟨z, hz, hw⟩ := hel _ _ _ ht' hcl
      refine ⟨z, hw, cs', hz, hcl, fun j u hu => ?_⟩
      have hj : j < e.sz := by
        have := (List.getElem?_eq_some_iff.1 hu).1
        omega
      have h1 := hat j hj
      rw [Go.Deep.add_add] at h1
      rw [h1, hu]
    let xs : List e.T := (List.range len).pmap (fun i h => Classical.choose (key i h)) (fun i hi => List.mem_range.1 hi)
    have hxl : xs.length = len := by simp [xs]
    have hxi : ∀ i (h : i < len), xs[i]? = some (Classical.choose (key i h)) := by
      intro i h
      have hh : i < xs.length := by omega
      rw [List.getElem?_eq_getElem hh]
      simp [xs]
    refine ⟨.slice (some a) xs.length cap, xs, by rw [hcs, hxl], ?_, by omega, fun z hz => ?_⟩
    · simp only [repA]
      refine ⟨some a, cap, rfl, by omega, by simp, fun hne => ?_⟩
      have hpos : 0 < len := by rw [← hxl]; exact List.length_pos_iff.mpr hne
      have ha : a = ⟨a.block, a.off, none⟩ ∧ Old w a.block := by
        obtain ⟨_, cs', h1, h2, h3⟩ := Classical.choose_spec (key 0 hpos)
        have h4 := h3 0 (cs'[0]'(by omega)) (List.getElem?_eq_getElem _)
        have h5 : a.add (0 * e.sz + 0) = a := by simp [Addr.add]
        rw [h5] at h4
        exact cell_old h4
      refine ⟨a.block, a.off, by rw [← ha.1], ha.2, fun i z hz => ?_⟩
      have hil : i < len := by
        have := (List.getElem?_eq_some_iff.1 hz).1
        omega
      have e1 := hxi i hil
      rw [hz] at e1
      obtain rfl := Option.some.inj e1
      obtain ⟨_, cs', h1, h2, h3⟩ := Classical.choose_spec (key i hil)
      refine ⟨cs', h1, fun j u hu => ?_⟩
      have := h3 j u hu
      rw [ha.1, Addr.add_mid] at this
      rw [Nat.add_assoc]
      exact this
    · obtain ⟨j, hj, e1⟩ := List.getElem_of_mem hz
      have hjl : j < len := by omega
      have e2 := hxi j hjl
      rw [List.getElem?_eq_getElem hj, e1] at e2
      injection e2 with e2
      subst e2
      exact (Classical.choose_spec (key j hjl)).1

/-- A call that answers true and has been handed nothing for good leaves all that was there. -/
theorem calls_true {f : FuncId} {fn : Func} {c : Code} {args : List V} {cargs : Array Value} (hfn : P.funcs[f]? = some fn) (hbd : fn.body = some c) (hnm : (fn.name == "runtime.NumGoroutine") = false) (h : Ok P f args [] (.one (.bool true)) []) (hv : repVs (fun _ => none) w (Old w) args cargs.toList) : Calls P f cargs w fun e w' => e = .returned (.bool true) ∧ Below w.heap.size w w' := by
  have hr : HR (fun _ => none) (Old w) (argSto 0 []) w := ⟨fun l c hc => by simp [argSto, lkC, lkL] at hc, fun l B hB => (by cases hB), fun l l' c c' B B' hc => by simp [argSto, lkC, lkL] at hc, fun b hb => hb⟩
  rcases h.2 w _ _ cargs hr hv with ⟨_, _, _, _, _, hcl⟩ | ⟨u, w', hx, _⟩
  case inr =>
    have : (callFunc f cargs).run P w = .ok (.enter f cargs) w := by
      simp only [callFunc, Sem.run_bind, Sem.run_pure, Result.andThen_ok, run_program, hfn, hnm, Bool.false_eq_true, if_false, hbd, Option.isNone_some]

    rw [this] at hx
    cases hx
  refine hcl.mono ?_
  rintro e w' ⟨u, rfl, μ', G', hrv, hp⟩
  simp only [repV, repA] at hrv
  subst hrv
  refine ⟨rfl, ⟨hp.os, hp.tape, hp.output, hp.size, fun k hk => hp.frame k hk ?_⟩⟩
  rintro ⟨l, c, B, hc, _⟩
  simp [argSto, lkC, lkL] at hc
/-- What is known of a move that comes in. -/
def MvWf (m : Mv) : Prop := m.f0.size ≤ maxLen ∧ W64 m.f2 ∧ W64 m.f3 ∧ W64 m.f4 ∧ W64 m.f5
theorem rep_mv {μ : Mu} (m : Mv) : repV μ w (Old w) (.agg (encMv m)) (.agg #[.string m.f0, .bool m.f1, .int .i64 m.f2, .int .i64 m.f3, .int .i64 m.f4, .int .i64 m.f5]) := by
  simp only [repV]
  refine ⟨_, rfl, ?_⟩
  simp [encMv, repAs, repA]
theorem tkWf_of {t : List Int} (h : ∀ z ∈ t, W64 z) : TkWf t := fun i hi => by
  unfold tk
  rw [List.getD_eq_getElem?_getD, List.getElem?_eq_getElem hi]
  exact h _ (List.getElem_mem hi)
theorem mvWf_at {l : List Mv} (h : ∀ z ∈ l, MvWf z) : ∀ i, i < l.length → MvWf (at' l i) := fun i hi => by
  unfold at'
  rw [List.getD_eq_getElem?_getD, List.getElem?_eq_getElem hi]
  exact h _ (List.getElem_mem hi)
end Go.AM

/- FnExactStripFirst, walked; condition: the sizes that the row gives. -/
namespace Go.Proofs.Ytmppoajepbbmiaa.AM
open Go.AM Go.RowKit
set_option linter.unusedVariables false
set_option linter.unusedSimpArgs false
set_option maxRecDepth 100000

theorem first2_ok (l : List Mv) (hL : l.length ≤ 1048576) : Ok P 14 [.one (.lst .mv l false)] [] (.one (.own (.k 0))) [some (.row (.int .i64) (firstM l))] := by
  have hsort := sortF2_ok l hL
  refine Ok.of_run (F := mk Try.f14 0) Try.func14 rfl rfl tabOk mixed rfl rfl rfl rfl rfl (Nat.le_of_ble_eq_true rfl) (Nat.le_of_ble_eq_true rfl) (.go 5000 ?_)
  have loop : ∀ (d i : Nat) (z : Int) (s : List Int), z = i → i + d = l.length → s = upTo i → Run P (mk Try.f14 0) (fun v st => v = .one (.own (.k 0)) ∧ st = [some (.row (.int .i64) (firstM l))]) (.loop ⟨[(1, .one (.ptr (.t 1 0) 0)), (3, .one (.ptr (.t 3 0) 0)), (8, .one (.int .i64 (l.length : Int))), (9, .one (.int .i64 z))],
      [(.t 1 0, some (.cells [.lst .mv l false])), (.t 3 0, some (.cells [.own (.t 1000 0)])), (.t 1000 0, some (.row (.int .i64) s))], [.lp [0, 1, 0, 1, 1], .blk 0, .code [1, 1, 1]], none⟩) := by
    intro d
    induction d with
    | zero =>
      intro i z s hz hd hs
      subst hz
      obtain rfl : i = l.length := by omega
      subst hs
      refine Run.loop ?_
      repeat' (conv => arg 4; whnf); first | refine Run.ret ⟨?_, rfl⟩ | refine Run.condT ?_ | refine Run.condf ?_ | refine Run.condD (fun h => ?_) (fun h => ?_) | refine Run.condN (fun h => ?_) (fun h => ?_) | refine Run.condE (fun h => ?_) (fun h => ?_) | refine Run.condF (fun h => ?_) (fun h => ?_) | refine Run.condM (fun h => ?_) (fun h => ?_) | refine Run.condB (fun h => ?_) (fun h => ?_) | refine Run.check1 ?_ | (exfalso; omega) | refine Run.call (hsort) rfl ?_
      all_goals first | rfl | (exfalso; omega) | trace_state
    | succ d ih =>
      intro i z s hz hd hs
      subst hz
      have hl : s.length = i := by rw [hs, upTo_len]
      have e := fs (i := i) (by omega)
      refine Run.loop ?_
      repeat' (conv => arg 4; whnf); first | refine Run.ret ⟨?_, rfl⟩ | refine Run.condT ?_ | refine Run.condf ?_ | refine Run.condD (fun h => ?_) (fun h => ?_) | refine Run.condN (fun h => ?_) (fun h => ?_) | refine Run.condE (fun h => ?_) (fun h => ?_) | refine Run.condF (fun h => ?_) (fun h => ?_) | refine Run.condM (fun h => ?_) (fun h => ?_) | refine Run.condB (fun h => ?_) (fun h => ?_) | refine Run.check1 ?_ | refine Run.need1 (by simp only [allP, true_and, and_true, List.length_cons, List.length_nil]; omega) ?_ | refine Run.round ⟨[(.t 1 0, .t 1 0), (.t 3 0, .t 3 0), (.t 15 0, .t 1000 0)], [], []⟩ (ih (i + 1) _ _ e.h (by omega) ?_) rfl (by (repeat' (first | exact wkEnv_nil | refine wkEnv_cons rfl ?_ | exact wkSto_nil | refine wkSto_none ?_ | refine wkSto_some rfl ?_)); done) (by (repeat' (first | exact wkEnv_nil | refine wkEnv_cons rfl ?_ | exact wkSto_nil | refine wkSto_none ?_ | refine wkSto_some rfl ?_)); done) | (exfalso; omega)
      all_goals first | (exfalso; omega) | (rw [upTo_succ, hs]) | trace_state
  repeat' (conv => arg 4; whnf); first | refine Run.ret ⟨?_, rfl⟩ | refine Run.condT ?_ | refine Run.condf ?_ | refine Run.condD (fun h => ?_) (fun h => ?_) | refine Run.condN (fun h => ?_) (fun h => ?_) | refine Run.condE (fun h => ?_) (fun h => ?_) | refine Run.condF (fun h => ?_) (fun h => ?_) | refine Run.condM (fun h => ?_) (fun h => ?_) | refine Run.condB (fun h => ?_) (fun h => ?_) | refine Run.check1 ?_ | refine Run.round ⟨[(.t 1 0, .t 1 0), (.t 3 0, .t 3 0), (.t 6 0, .t 1000 0)], [], []⟩ (loop l.length 0 _ _ rfl (by omega) rfl) rfl (by (repeat' (first | exact wkEnv_nil | refine wkEnv_cons rfl ?_ | exact wkSto_nil | refine wkSto_none ?_ | refine wkSto_some rfl ?_)); done) (by (repeat' (first | exact wkEnv_nil | refine wkEnv_cons rfl ?_ | exact wkSto_nil | refine wkSto_none ?_ | refine wkSto_some rfl ?_)); done)
theorem law_FnExactStripFirst (l : List Mv) (hl : l.length ≤ maxLen) (hwl : ∀ z ∈ l, MvWf z) : Ok P 3 [.one (.lst .mv l false)] [] (.one (.bool true)) [] := by
  have hm : ∀ i, i < l.length → (at' l i).f0.size ≤ maxLen := fun i hi => (mvWf_at hwl i hi).1
  have hle := szMs_le (l := l) (left := 1048576) (by omega)
  refine Ok.of_run (F := mk Try.f3 0) Try.func3 rfl rfl tabOk mixed rfl rfl rfl rfl rfl (Nat.le_of_ble_eq_true rfl) (Nat.le_of_ble_eq_true rfl) (.go 5000 ?_)
  conv => arg 4; whnf
  refine Run.call (szMoves_ok _ _ (by omega) hl hm) rfl ?_
  conv => arg 4; whnf
  refine Run.condD (fun h => ?_) (fun h => ?_)
  · repeat' (conv => arg 4; whnf); first | refine Run.ret ⟨?_, rfl⟩ | refine Run.condT ?_ | refine Run.condf ?_ | refine Run.condD (fun h => ?_) (fun h => ?_) | refine Run.condN (fun h => ?_) (fun h => ?_) | refine Run.condE (fun h => ?_) (fun h => ?_) | refine Run.condF (fun h => ?_) (fun h => ?_) | refine Run.condM (fun h => ?_) (fun h => ?_) | refine Run.condB (fun h => ?_) (fun h => ?_) | refine Run.check1 ?_
    rfl
  have hl2 : l.length ≤ 1048576 := by omega
  have h1 := first2_ok l hl2
  have h2 := sfirst_ok l hl2
  have h3 : (firstM l).length ≤ 1048576 := by rw [firstM_len]; exact hl2
  generalize firstM l = ts at h1 h2 h3
  repeat' (conv => arg 4; whnf); first | refine Run.ret ⟨?_, rfl⟩ | refine Run.condT ?_ | refine Run.condf ?_ | refine Run.condD (fun h => ?_) (fun h => ?_) | refine Run.condN (fun h => ?_) (fun h => ?_) | refine Run.condE (fun h => ?_) (fun h => ?_) | refine Run.condF (fun h => ?_) (fun h => ?_) | refine Run.condM (fun h => ?_) (fun h => ?_) | refine Run.condB (fun h => ?_) (fun h => ?_) | refine Run.check1 ?_ | refine Run.call (toMoves_ok _ hl2) rfl ?_ | refine Run.call (h1) rfl ?_ | refine Run.call (h2) rfl ?_ | refine Run.call (eqMoves_ok _ hl2) rfl ?_ | refine Run.call (eqInts_ok ts (by omega)) rfl ?_ | refine Run.call (markMoves_ok l _ hl2 (by omega)) rfl ?_ | refine Run.call (markInts_ok ts _ (by omega) (by omega)) rfl ?_ | refine Run.call (heldInts_ok _ _ (by omega) (by omega)) rfl ?_ | (exfalso; omega) | contradiction
  all_goals first | rfl | contradiction | (exact absurd rfl ‹_›) | (exfalso; omega) | trace_state
end Go.Proofs.Ytmppoajepbbmiaa.AM

/- What comes in as a struct, a slice or a book, in the machine's words; condition: the argument reads as data of its type. -/
namespace Go.Proofs.Ytmppoajepbbmiaa.AM
open Go.Joins Go.ChangeShapes Go.WideShapes Go.RowKit Go.Deep Go.AM
set_option linter.unusedVariables false
set_option linter.unusedSimpArgs false
set_option maxRecDepth 100000
section
variable {H : Type} {enc : TypeId × Value → H} {w : World} {base : Nat} {spare : Nat → Bool} {held : Bool} {μ : Mu}
theorem open_mv {n : Nat} {cs : List Value} {y : DataW H × List MemPlace} (h : DataW.trod enc Try.prog w base spare held n 66 cs = some y) (hl : cs.length = 6) :
    ∃ m : Mv, cs = [.string m.f0, .bool m.f1, .int .i64 m.f2, .int .i64 m.f3, .int .i64 m.f4, .int .i64 m.f5] ∧ MvWf m := by
  obtain ⟨xs, n', _, _, _, hxl, hf⟩ := DataW.trod_struct Try.underlying66 h
  match cs, hl with
  | [c0, c1, c2, c3, c4, c5], _ =>
    have h0 := hf 0 _ rfl
    have h1 := hf 1 _ rfl
    have h2 := hf 2 _ rfl
    have h3 := hf 3 _ rfl
    have h4 := hf 4 _ rfl
    have h5 := hf 5 _ rfl
    have k1 : Try.prog.cellsOf 9 = 1 := by kernel_rfl
    have k2 : Try.prog.cellsOf 4 = 1 := by kernel_rfl
    have k3 : Try.prog.cellsOf 3 = 1 := by kernel_rfl
    have e0 : xs[0]? = some (xs[0]'(by rw [hxl]; decide)) := List.getElem?_eq_getElem _
    have e1 : xs[1]? = some (xs[1]'(by rw [hxl]; decide)) := List.getElem?_eq_getElem _
    have e2 : xs[2]? = some (xs[2]'(by rw [hxl]; decide)) := List.getElem?_eq_getElem _
    have e3 : xs[3]? = some (xs[3]'(by rw [hxl]; decide)) := List.getElem?_eq_getElem _
    have e4 : xs[4]? = some (xs[4]'(by rw [hxl]; decide)) := List.getElem?_eq_getElem _
    have e5 : xs[5]? = some (xs[5]'(by rw [hxl]; decide)) := List.getElem?_eq_getElem _
    obtain ⟨a0, q0, _, w0⟩ := DataW.trod_string Try.underlying9 (h0.trans e0)
    obtain ⟨a1, q1, _⟩ := DataW.trod_bool Try.underlying4 (h1.trans e1)
    obtain ⟨a2, q2, _, w2⟩ := DataW.trod_int Try.underlying3 (h2.trans e2)
    obtain ⟨a3, q3, _, w3⟩ := DataW.trod_int Try.underlying3 (h3.trans e3)
    obtain ⟨a4, q4, _, w4⟩ := DataW.trod_int Try.underlying3 (h4.trans e4)
    obtain ⟨a5, q5, _, w5⟩ := DataW.trod_int Try.underlying3 (h5.trans e5)
    simp [k1, k2, k3] at q0 q1 q2 q3 q4 q5
    subst q0 q1 q2 q3 q4 q5
    exact ⟨⟨a0, a1, a2, a3, a4, a5⟩, rfl, w0, wf64 w2, wf64 w3, wf64 w4, wf64 w5⟩
theorem open_ints {t fuel : Nat} {cs : List Value} {y : DataW H × List MemPlace} (ht : Try.prog.underlying t = some (.slice 3)) (h : DataW.trod enc Try.prog w base spare held fuel t cs = some y) :
    ∃ (v : Value) (xs : List Int), cs = [v] ∧ repA μ w (Old w) (.lst (.int .i64) xs false) v ∧ xs.length ≤ maxLen ∧ ∀ z ∈ xs, W64 z :=
  open_sl (.int .i64) ht (by kernel_rfl) (by decide) W64 (fun n cs' y hy hl => by
    obtain ⟨z, h1, _, h2⟩ := DataW.trod_int Try.underlying3 hy
    subst h1
    exact ⟨z, .cons rfl .nil, wf64 h2⟩) h
theorem open_bytes {t fuel : Nat} {cs : List Value} {y : DataW H × List MemPlace} (ht : Try.prog.underlying t = some (.slice 5)) (h : DataW.trod enc Try.prog w base spare held fuel t cs = some y) :
    ∃ (v : Value) (xs : List Int), cs = [v] ∧ repA μ w (Old w) (.lst (.int .u8) xs false) v ∧ xs.length ≤ maxLen ∧ ∀ z ∈ xs, (Lit.int .u8 z).wf = true :=
  open_sl (.int .u8) ht (by kernel_rfl) (by decide) (fun z => (Lit.int .u8 z).wf = true) (fun n cs' y hy hl => by
    obtain ⟨z, h1, _, h2⟩ := DataW.trod_int Try.underlying5 hy
    subst h1
    exact ⟨z, .cons rfl .nil, h2⟩) h
theorem open_mvs {t fuel : Nat} {cs : List Value} {y : DataW H × List MemPlace} (ht : Try.prog.underlying t = some (.slice 66)) (h : DataW.trod enc Try.prog w base spare held fuel t cs = some y) :
    ∃ (v : Value) (xs : List Mv), cs = [v] ∧ repA μ w (Old w) (.lst .mv xs false) v ∧ xs.length ≤ maxLen ∧ ∀ z ∈ xs, MvWf z :=
  open_sl .mv ht (by kernel_rfl) (by decide) MvWf (fun n cs' y hy hl => by
    obtain ⟨m, rfl, hm⟩ := open_mv hy hl
    exact ⟨m, .cons rfl (.cons rfl (.cons rfl (.cons rfl (.cons rfl (.cons rfl .nil))))), hm⟩) h
theorem open_bk {n : Nat} {cs : List Value} {y : DataW H × List MemPlace} (h : DataW.trod enc Try.prog w base spare held n 49 cs = some y) (hl : cs.length = 4) :
    ∃ b : Bk, repV μ w (Old w) b.lent (.agg ⟨cs⟩) ∧ W64 b.now ∧ W64 b.shift ∧ b.ms.length ≤ maxLen ∧ (∀ z ∈ b.ms, MvWf z) ∧ b.ts.length ≤ maxLen ∧ ∀ z ∈ b.ts, W64 z := by
  obtain ⟨xs, n', _, _, _, hxl, hf⟩ := DataW.trod_struct Try.underlying49 h
  match cs, hl with
  | [d0, d1, d2, d3], _ =>
    have h0 := hf 0 _ rfl
    have h1 := hf 1 _ rfl
    have h2 := hf 2 _ rfl
    have h3 := hf 3 _ rfl
    have k1 : Try.prog.cellsOf 3 = 1 := by kernel_rfl
    have k2 : Try.prog.cellsOf 22 = 1 := by kernel_rfl
    have k3 : Try.prog.cellsOf 24 = 1 := by kernel_rfl
    have e0 : xs[0]? = some (xs[0]'(by rw [hxl]; decide)) := List.getElem?_eq_getElem _
    have e1 : xs[1]? = some (xs[1]'(by rw [hxl]; decide)) := List.getElem?_eq_getElem _
    have e2 : xs[2]? = some (xs[2]'(by rw [hxl]; decide)) := List.getElem?_eq_getElem _
    have e3 : xs[3]? = some (xs[3]'(by rw [hxl]; decide)) := List.getElem?_eq_getElem _
    obtain ⟨a0, q0, _, w0⟩ := DataW.trod_int Try.underlying3 (h0.trans e0)
    obtain ⟨a1, q1, _, w1⟩ := DataW.trod_int Try.underlying3 (h1.trans e1)
    obtain ⟨v2, l2, q2, hr2, hm2, w2⟩ := open_mvs (μ := μ) Try.underlying22 (h2.trans e2)
    obtain ⟨v3, l3, q3, hr3, hm3, w3⟩ := open_ints (μ := μ) Try.underlying24 (h3.trans e3)
    simp [k1, k2, k3] at q0 q1 q2 q3
    subst q0 q1 q2 q3
    refine ⟨⟨a0, a1, l2, l3⟩, ?_, wf64 w0, wf64 w1, hm2, w2, hm3, w3⟩
    simp only [Bk.lent, repV]
    refine ⟨_, rfl, ?_⟩
    simp only [repAs]
    exact ⟨_, _, rfl, by simp only [repA], _, _, rfl, by simp only [repA], _, _, rfl, hr2, _, _, rfl, hr3, rfl⟩
end
end Go.Proofs.Ytmppoajepbbmiaa.AM

/- FnExactStripFirst: for every input the law returns true and each argument reads behind the call as it read before; no condition. -/
namespace Go.Proofs.Ytmppoajepbbmiaa.fnExactStripFirst
open Go.ChangeShapes Go.WideShapes Go.ChangeAt Go.RowKit
open Go.ChangeMaps (open_string shut_string)
set_option linter.unusedVariables false
theorem own : ownKnob Try.prog.godebug = none := by kernel_rfl
theorem laidOut : laidOutB Try.prog = true := by kernel_rfl
set_option maxRecDepth 100000 in
theorem lifted (os : Os) (started : os.Started) (H : Type) (enc : TypeId × Value → H) :
    ReturnsInHanded {} Try.checked os 3 .any (Rows.fnExactStripFirstSpec.pre6 enc Try.prog Try.f3 Rows.fnExactStripFirstRow.domain false) (Rows.fnExactStripFirstSpec.post enc Try.prog Try.f3 false true false false) := by
  refine returnsInHanded_of_change_sized (C := Try.checked) own started (by kernel_rfl) Try.func3
    (ChangeSpec.witness6 (enc := enc) (C := Try.checked) false ⟨#[], #[.slice none 0 0], []⟩ 8 (by kernel_rfl) (by kernel_rfl) (by kernel_rfl) (by kernel_rfl)) ?_
  intro W base args ds gs before hval0 hW hcnd hsz0 _
  have hval : ∀ (j : Nat) t v, Try.f3.params[j]? = some t → args[j]? = some v → Value.okWide Try.prog W .any base t v := hval0
  have hW' := hW
  obtain ⟨p, q, hA0, hV, rfl, hfz, hnd⟩ := hW
  have hA : DataW.TrodAll enc Try.prog W 0 (fun _ => true) true Try.f3.params.toList args.toList ds p := hA0
  rw [Try.params3] at hA hval
  obtain ⟨v0, vs0, d0, ds0, p0, q0, hargs, rfl, rfl, h0, r0⟩ := trodAll_cons hA
  obtain ⟨rfl, rfl, rfl⟩ := trodAll_nil r0
  obtain rfl : args = #[v0] := by cases args; simp_all
  obtain ⟨rfl, rfl⟩ := trodVars_none hV
  have k0 := h0
  have lt0 : ∀ x ∈ p0, x.block < W.heap.size := by obtain ⟨m, hm⟩ := k0; exact DataW.trod_lt m _ _ _ hm
  obtain ⟨A0, len0, cap0, rfl⟩ := okWide_slice Try.underlying22 (hval 0 22 v0 rfl rfl)
  obtain ⟨fuel0, hf0⟩ := h0
  obtain ⟨u0, a0, e0, hr0, hm0, w0⟩ := AM.open_mvs (μ := fun _ => none) Try.underlying22 hf0
  simp [Value.cells] at e0
  subst e0
  refine (Go.AM.calls_true Try.func3 rfl rfl (AM.law_FnExactStripFirst a0 hm0 w0) (by simp only [Go.AM.repVs]; exact ⟨_, _, rfl, (by simp only [Go.AM.repV]; exact hr0), rfl⟩)).mono fun e W' ⟨he, bel⟩ => ?_
  subst he
  exact ⟨_, rfl, _, _, _, [], _, [], hW', trodAll_mk1 (shut_bool Try.underlying4 _), (trodAll_cons_mk (Below.trod laidOut (by kernel_rfl) (of_decide_eq_true (by kernel_rfl)) k0 bel lt0) trodAll_mk0), rfl, bel.frame _, fun h => by cases h⟩
theorem over : Rows.fnExactStripFirstRow.holds Try.pinned (OpenSpec.ofChange Rows.fnExactStripFirstSpec) :=
  OpenClaim.holds_of_wide 3 Try.f3 rfl rfl rfl rfl rfl rfl rfl ⟨rfl, rfl, rfl, rfl, rfl⟩ rfl rfl rfl rfl rfl (by kernel_rfl) Try.func3 (by kernel_rfl)
    (of_decide_eq_true (by kernel_rfl)) (by unfold Func.isWrapper; first | (rw [if_pos (by decide +kernel)]; kernel_rfl) | (rw [if_neg (by decide +kernel)]; exact ⟨rfl, rfl⟩))
    (fun os started H enc _ => lifted os started H enc)
theorem proved : Rows.FnExactStripFirstSaid := over
end Go.Proofs.Ytmppoajepbbmiaa.fnExactStripFirst
namespace Go.Proofs.Ytmppoajepbbmiaa
theorem fnExactStripFirst_holds : Rows.FnExactStripFirstSaid := fnExactStripFirst.proved
#print axioms fnExactStripFirst_holds
end Go.Proofs.Ytmppoajepbbmiaa
