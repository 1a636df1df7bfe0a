/- FnLines, part 4 of 4: what the law's functions come to, plain laws on it, and the row; no condition -/
import Derived.Test.YtlmdbeegmgfpnaaGreatDoorRows
import Derived.Test.YtlmdbeegmgfpnaaGreatDoorChecked
import Derived.WalkKit
import Derived.ProofKit
import Derived.OpenShut
import Derived.ShutString
import Derived.ChangeOld
import Derived.Below
import Derived.SizedLaws
import Derived.LaidLaws
import Derived.Lay
import Derived.MakeChecks
import Derived.Lib.LaidTab
import Derived.Stop.LaidErr
import Derived.LaidOnce
import Derived.SevenTiedAt
import Derived.Test.YtlmdbeegmgfpnaaGreatDoorCards
import Derived.Test.YtlmdbeegmgfpnaaGreatDoorTie
import Derived.Test.YtlmdbeegmgfpnaaGreatDoorYFLines3
/- A line, on the program's side; condition: a book that is right. -/
namespace Go.Proofs.YtlmdbeegmgfpnaaGreatDoor.AM
open Go.AM Go.RowKit
set_option linter.unusedVariables false
set_option linter.unusedSimpArgs false
set_option maxRecDepth 100000

theorem decG_ok (ws : List ByteArray) (z k : Int) (h : z = k) (hg : 0 ≤ numI (rdS ws k)) : Ok P 28 [.one (.str (rdS ws z))] [] (.tup [.one (.int .i64 (numI (rdS ws k))), .one (.bool true)]) [] := by
  subst h
  have := decimal_ok (rdS ws z)
  rwa [if_pos hg, decide_eq_true hg] at this
theorem decB_ok (ws : List ByteArray) (z k : Int) (h : z = k) (hg : ¬ 0 ≤ numI (rdS ws k)) : Ok P 28 [.one (.str (rdS ws z))] [] (.tup [.one (.int .i64 0), .one (.bool false)]) [] := by
  subst h
  have := decimal_ok (rdS ws z)
  rwa [if_neg hg, decide_eq_false hg] at this
theorem line_land (b : Bk) (line : ByteArray) (hb : BkOk b) (hs : line.size ≤ 1073741823) (hq : rdS (cutM 32 line) 0 ≠ tPlan ∧ rdS (cutM 32 line) 0 ≠ tSure) (hc : WC (rdS (cutM 32 line) 0) true false false false false false false) : Ok P 11 [.one (.ptr (.k 0) 0), .one (.str line)] [some (.cells b.lent.atoms)] (.one (.str (lineM b (cutM 32 line)).2)) [some (.cells (lineM b (cutM 32 line)).1.lent.atoms)] := by
  have hbd := bkD_of hb
  have h6 := hbd.lm
  have h6' := hbd.lt
  have hw := tkWf_l hbd.td
  have hsp := split_ok line 32 (by omega)
  have h1 := cutM_pos 32 line
  have hle := cutM_le 32 line
  have e0 := Fact.mk ((wrap_eq (x := 2 + 0) (by omega) (by omega)).trans (show (2 : Int) + 0 = 2 by omega))
  have e1 := Fact.mk ((wrap_eq (x := 2 + 1) (by omega) (by omega)).trans (show (2 : Int) + 1 = 3 by omega))
  have e2 := Fact.mk ((wrap_eq (x := 2 + 2) (by omega) (by omega)).trans (show (2 : Int) + 2 = 4 by omega))
  have s0 := Fact.mk ((wrap_eq (x := 0 + 1) (by omega) (by omega)).trans (show (0 : Int) + 1 = 1 by omega))
  have s1 := Fact.mk ((wrap_eq (x := 1 + 1) (by omega) (by omega)).trans (show (1 : Int) + 1 = 2 by omega))
  have s2 := Fact.mk ((wrap_eq (x := 2 + 1) (by omega) (by omega)).trans (show (2 : Int) + 1 = 3 by omega))
  have hlp := line_is no_plan32 (line := line) false ⟨fun h => (by cases h), fun h => absurd h.1 hq.1⟩
  have hls := line_is no_sure32 (line := line) false ⟨fun h => (by cases h), fun h => absurd h.1 hq.2⟩
  refine Ok.of_run (F := mk Tryz.f11 1) Tryz.func11 rfl rfl tabOk mixed rfl rfl rfl rfl rfl (Nat.le_of_ble_eq_true rfl) (Nat.le_of_ble_eq_true rfl) (.go 5000 ?_)
  by_cases h5 : (cutM 32 line).length = 5
  · by_cases g0 : 0 ≤ numI (rdS (cutM 32 line) 2)
    · by_cases g1 : 0 ≤ numI (rdS (cutM 32 line) 3)
      · by_cases g2 : 0 ≤ numI (rdS (cutM 32 line) 4)
        · have ha := strip_add_ok b ⟨rdS (cutM 32 line) 1, true, (numI (rdS (cutM 32 line) 2)), (numI (rdS (cutM 32 line) 3)), (numI (rdS (cutM 32 line) 4)), -1⟩ (by omega) (by omega) hw
          have hcd := code_add hb ⟨rdS (cutM 32 line) 1, true, (numI (rdS (cutM 32 line) 2)), (numI (rdS (cutM 32 line) 3)), (numI (rdS (cutM 32 line) 4)), -1⟩
          rw [show lineM b (cutM 32 line) = codeM b (addR b ⟨rdS (cutM 32 line) 1, true, (numI (rdS (cutM 32 line) 2)), (numI (rdS (cutM 32 line) 3)), (numI (rdS (cutM 32 line) 4)), -1⟩) by rw [lineM_of hc]; unfold lineK; simp only [h5, if_neg (show ¬ (numI (rdS (cutM 32 line) 2) < 0 ∨ numI (rdS (cutM 32 line) 3) < 0 ∨ numI (rdS (cutM 32 line) 4) < 0) by omega), Bool.false_eq_true, false_or, or_false, false_and, and_false, true_and, true_or, or_true, if_false, if_true, and_self]]
          generalize addR b ⟨rdS (cutM 32 line) 1, true, (numI (rdS (cutM 32 line) 2)), (numI (rdS (cutM 32 line) 3)), (numI (rdS (cutM 32 line) 4)), -1⟩ = r at *
          obtain ⟨b', c⟩ := r
          dsimp only at ha hcd
          have hk := came_ok b b' c (by have := hcd.1; unfold W60; omega)
          clear hcd hq
          have l3 : ∀ z : Int, z = 3 → Run P (mk Tryz.f11 1) (fun v st => v = .one (.str (codeM b (b', c)).2) ∧ st = [some (.cells (codeM b (b', c)).1.lent.atoms)]) (.loop ⟨[(0, .one (.ptr (.k 0) 0)), (5, .one (.own (.t 12 0))), (6, .one (.ptr (.t 6 0) 0)), (30, .one (.int .i64 z))], [(.k 0, some (.cells b.lent.atoms)), (.t 12 0, some (.row .str (cutM 32 line))), (.t 6 0, some (.cells [.int .i64 (numI (rdS (cutM 32 line) 2)), .int .i64 (numI (rdS (cutM 32 line) 3)), .int .i64 (numI (rdS (cutM 32 line) 4))]))], [.lp [0, 1, 0, 1, 0, 1, 0, 0, 1, 1], .blk 1, .code [1, 1, 0, 1, 0, 0, 1, 1], .blk 0, .code [1, 1, 1]], none⟩) := by
            intro z hz
            subst hz
            refine Run.loop ?_
            repeat' (conv => arg 4; whnf); first | rw [hc.l] | rw [hc.v] | rw [hc.d] | rw [hc.r] | rw [hc.t] | rw [hc.p] | rw [hc.s] | rw [hlp] | rw [hls] | refine Run.ret ⟨?_, rfl⟩ | refine Run.condT ?_ | refine Run.condf ?_ | refine Run.condD (fun h => ?_) (fun h => ?_) | refine Run.condN (fun h => ?_) (fun h => ?_) | refine Run.condE (fun h => ?_) (fun h => ?_) | refine Run.condF (fun h => ?_) (fun h => ?_) | refine Run.condM (fun h => ?_) (fun h => ?_) | refine Run.condB (fun h => ?_) (fun h => ?_) | refine Run.check1 ?_ | (exfalso; omega) | refine Run.call (hsp) rfl ?_ | refine Run.need1 (by simp only [allP, true_and, and_true]; omega) ?_ | refine Run.need1 (by simp only [allP, true_and, and_true, e0.h, e1.h, e2.h]; omega) ?_ | refine Run.call (ha) rfl ?_ | refine Run.call (hk) rfl ?_
            all_goals first | rfl | (exfalso; omega) | trace_state
          have l2 : ∀ z : Int, z = 2 → Run P (mk Tryz.f11 1) (fun v st => v = .one (.str (codeM b (b', c)).2) ∧ st = [some (.cells (codeM b (b', c)).1.lent.atoms)]) (.loop ⟨[(0, .one (.ptr (.k 0) 0)), (5, .one (.own (.t 12 0))), (6, .one (.ptr (.t 6 0) 0)), (30, .one (.int .i64 z))], [(.k 0, some (.cells b.lent.atoms)), (.t 12 0, some (.row .str (cutM 32 line))), (.t 6 0, some (.cells [.int .i64 (numI (rdS (cutM 32 line) 2)), .int .i64 (numI (rdS (cutM 32 line) 3)), .int .i64 0]))], [.lp [0, 1, 0, 1, 0, 1, 0, 0, 1, 1], .blk 1, .code [1, 1, 0, 1, 0, 0, 1, 1], .blk 0, .code [1, 1, 1]], none⟩) := by
            intro z hz
            subst hz
            have hd := decG_ok (cutM 32 line) _ 4 e2.h g2
            refine Run.loop ?_
            repeat' (conv => arg 4; whnf); first | rw [hc.l] | rw [hc.v] | rw [hc.d] | rw [hc.r] | rw [hc.t] | rw [hc.p] | rw [hc.s] | rw [hlp] | rw [hls] | refine Run.ret ⟨?_, rfl⟩ | refine Run.condT ?_ | refine Run.condf ?_ | refine Run.condD (fun h => ?_) (fun h => ?_) | refine Run.condN (fun h => ?_) (fun h => ?_) | refine Run.condE (fun h => ?_) (fun h => ?_) | refine Run.condF (fun h => ?_) (fun h => ?_) | refine Run.condM (fun h => ?_) (fun h => ?_) | refine Run.condB (fun h => ?_) (fun h => ?_) | refine Run.check1 ?_ | (exfalso; omega) | refine Run.call (hsp) rfl ?_ | refine Run.need1 (by simp only [allP, true_and, and_true]; omega) ?_ | refine Run.need1 (by simp only [allP, true_and, and_true, e0.h, e1.h, e2.h]; omega) ?_ | refine Run.call (hd) rfl ?_ | refine Run.round ⟨[(.t 12 0, .t 12 0), (.t 6 0, .t 6 0)], [], []⟩ (l3 _ s2.h) rfl (by (repeat' (first | exact wkEnv_nil | refine wkEnv_cons rfl ?_ | exact wkSto_nil | refine wkSto_none ?_ | refine wkSto_some rfl ?_)); done) (by (repeat' (first | exact wkEnv_nil | refine wkEnv_cons rfl ?_ | exact wkSto_nil | refine wkSto_none ?_ | refine wkSto_some rfl ?_)); done)
            all_goals first | rfl | (exfalso; omega) | trace_state
          have l1 : ∀ z : Int, z = 1 → Run P (mk Tryz.f11 1) (fun v st => v = .one (.str (codeM b (b', c)).2) ∧ st = [some (.cells (codeM b (b', c)).1.lent.atoms)]) (.loop ⟨[(0, .one (.ptr (.k 0) 0)), (5, .one (.own (.t 12 0))), (6, .one (.ptr (.t 6 0) 0)), (30, .one (.int .i64 z))], [(.k 0, some (.cells b.lent.atoms)), (.t 12 0, some (.row .str (cutM 32 line))), (.t 6 0, some (.cells [.int .i64 (numI (rdS (cutM 32 line) 2)), .int .i64 0, .int .i64 0]))], [.lp [0, 1, 0, 1, 0, 1, 0, 0, 1, 1], .blk 1, .code [1, 1, 0, 1, 0, 0, 1, 1], .blk 0, .code [1, 1, 1]], none⟩) := by
            intro z hz
            subst hz
            have hd := decG_ok (cutM 32 line) _ 3 e1.h g1
            refine Run.loop ?_
            repeat' (conv => arg 4; whnf); first | rw [hc.l] | rw [hc.v] | rw [hc.d] | rw [hc.r] | rw [hc.t] | rw [hc.p] | rw [hc.s] | rw [hlp] | rw [hls] | refine Run.ret ⟨?_, rfl⟩ | refine Run.condT ?_ | refine Run.condf ?_ | refine Run.condD (fun h => ?_) (fun h => ?_) | refine Run.condN (fun h => ?_) (fun h => ?_) | refine Run.condE (fun h => ?_) (fun h => ?_) | refine Run.condF (fun h => ?_) (fun h => ?_) | refine Run.condM (fun h => ?_) (fun h => ?_) | refine Run.condB (fun h => ?_) (fun h => ?_) | refine Run.check1 ?_ | (exfalso; omega) | refine Run.call (hsp) rfl ?_ | refine Run.need1 (by simp only [allP, true_and, and_true]; omega) ?_ | refine Run.need1 (by simp only [allP, true_and, and_true, e0.h, e1.h, e2.h]; omega) ?_ | refine Run.call (hd) rfl ?_ | refine Run.round ⟨[(.t 12 0, .t 12 0), (.t 6 0, .t 6 0)], [], []⟩ (l2 _ s1.h) rfl (by (repeat' (first | exact wkEnv_nil | refine wkEnv_cons rfl ?_ | exact wkSto_nil | refine wkSto_none ?_ | refine wkSto_some rfl ?_)); done) (by (repeat' (first | exact wkEnv_nil | refine wkEnv_cons rfl ?_ | exact wkSto_nil | refine wkSto_none ?_ | refine wkSto_some rfl ?_)); done)
            all_goals first | rfl | (exfalso; omega) | trace_state
          have l0 : ∀ z : Int, z = 0 → Run P (mk Tryz.f11 1) (fun v st => v = .one (.str (codeM b (b', c)).2) ∧ st = [some (.cells (codeM b (b', c)).1.lent.atoms)]) (.loop ⟨[(0, .one (.ptr (.k 0) 0)), (5, .one (.own (.t 12 0))), (6, .one (.ptr (.t 6 0) 0)), (30, .one (.int .i64 z))], [(.k 0, some (.cells b.lent.atoms)), (.t 12 0, some (.row .str (cutM 32 line))), (.t 6 0, some (.cells [.int .i64 0, .int .i64 0, .int .i64 0]))], [.lp [0, 1, 0, 1, 0, 1, 0, 0, 1, 1], .blk 1, .code [1, 1, 0, 1, 0, 0, 1, 1], .blk 0, .code [1, 1, 1]], none⟩) := by
            intro z hz
            subst hz
            have hd := decG_ok (cutM 32 line) _ 2 e0.h g0
            refine Run.loop ?_
            repeat' (conv => arg 4; whnf); first | rw [hc.l] | rw [hc.v] | rw [hc.d] | rw [hc.r] | rw [hc.t] | rw [hc.p] | rw [hc.s] | rw [hlp] | rw [hls] | refine Run.ret ⟨?_, rfl⟩ | refine Run.condT ?_ | refine Run.condf ?_ | refine Run.condD (fun h => ?_) (fun h => ?_) | refine Run.condN (fun h => ?_) (fun h => ?_) | refine Run.condE (fun h => ?_) (fun h => ?_) | refine Run.condF (fun h => ?_) (fun h => ?_) | refine Run.condM (fun h => ?_) (fun h => ?_) | refine Run.condB (fun h => ?_) (fun h => ?_) | refine Run.check1 ?_ | (exfalso; omega) | refine Run.call (hsp) rfl ?_ | refine Run.need1 (by simp only [allP, true_and, and_true]; omega) ?_ | refine Run.need1 (by simp only [allP, true_and, and_true, e0.h, e1.h, e2.h]; omega) ?_ | refine Run.call (hd) rfl ?_ | refine Run.round ⟨[(.t 12 0, .t 12 0), (.t 6 0, .t 6 0)], [], []⟩ (l1 _ s0.h) rfl (by (repeat' (first | exact wkEnv_nil | refine wkEnv_cons rfl ?_ | exact wkSto_nil | refine wkSto_none ?_ | refine wkSto_some rfl ?_)); done) (by (repeat' (first | exact wkEnv_nil | refine wkEnv_cons rfl ?_ | exact wkSto_nil | refine wkSto_none ?_ | refine wkSto_some rfl ?_)); done)
            all_goals first | rfl | (exfalso; omega) | trace_state
          repeat' (conv => arg 4; whnf); first | rw [hc.l] | rw [hc.v] | rw [hc.d] | rw [hc.r] | rw [hc.t] | rw [hc.p] | rw [hc.s] | rw [hlp] | rw [hls] | refine Run.ret ⟨?_, rfl⟩ | refine Run.condT ?_ | refine Run.condf ?_ | refine Run.condD (fun h => ?_) (fun h => ?_) | refine Run.condN (fun h => ?_) (fun h => ?_) | refine Run.condE (fun h => ?_) (fun h => ?_) | refine Run.condF (fun h => ?_) (fun h => ?_) | refine Run.condM (fun h => ?_) (fun h => ?_) | refine Run.condB (fun h => ?_) (fun h => ?_) | refine Run.check1 ?_ | (exfalso; omega) | refine Run.call (hsp) rfl ?_ | refine Run.need1 (by simp only [allP, true_and, and_true]; omega) ?_ | refine Run.need1 (by simp only [allP, true_and, and_true, e0.h, e1.h, e2.h]; omega) ?_ | refine Run.round ⟨[(.t 12 0, .t 12 0), (.t 6 0, .t 6 0)], [], []⟩ (l0 _ rfl) rfl (by (repeat' (first | exact wkEnv_nil | refine wkEnv_cons rfl ?_ | exact wkSto_nil | refine wkSto_none ?_ | refine wkSto_some rfl ?_)); done) (by (repeat' (first | exact wkEnv_nil | refine wkEnv_cons rfl ?_ | exact wkSto_nil | refine wkSto_none ?_ | refine wkSto_some rfl ?_)); done)
          all_goals first | rfl | (exfalso; omega) | trace_state
        · rw [show lineM b (cutM 32 line) = (b, tBad) by rw [lineM_of hc]; unfold lineK; simp only [h5, if_pos (show numI (rdS (cutM 32 line) 2) < 0 ∨ numI (rdS (cutM 32 line) 3) < 0 ∨ numI (rdS (cutM 32 line) 4) < 0 by omega), Bool.false_eq_true, false_or, or_false, false_and, and_false, true_and, true_or, or_true, if_false, if_true, and_self]]
          clear hq
          have l2 : ∀ z : Int, z = 2 → Run P (mk Tryz.f11 1) (fun v st => v = .one (.str (b, tBad).2) ∧ st = [some (.cells (b, tBad).1.lent.atoms)]) (.loop ⟨[(0, .one (.ptr (.k 0) 0)), (5, .one (.own (.t 12 0))), (6, .one (.ptr (.t 6 0) 0)), (30, .one (.int .i64 z))], [(.k 0, some (.cells b.lent.atoms)), (.t 12 0, some (.row .str (cutM 32 line))), (.t 6 0, some (.cells [.int .i64 (numI (rdS (cutM 32 line) 2)), .int .i64 (numI (rdS (cutM 32 line) 3)), .int .i64 0]))], [.lp [0, 1, 0, 1, 0, 1, 0, 0, 1, 1], .blk 1, .code [1, 1, 0, 1, 0, 0, 1, 1], .blk 0, .code [1, 1, 1]], none⟩) := by
            intro z hz
            subst hz
            have hd := decB_ok (cutM 32 line) _ 4 e2.h g2
            refine Run.loop ?_
            repeat' (conv => arg 4; whnf); first | rw [hc.l] | rw [hc.v] | rw [hc.d] | rw [hc.r] | rw [hc.t] | rw [hc.p] | rw [hc.s] | rw [hlp] | rw [hls] | refine Run.ret ⟨?_, rfl⟩ | refine Run.condT ?_ | refine Run.condf ?_ | refine Run.condD (fun h => ?_) (fun h => ?_) | refine Run.condN (fun h => ?_) (fun h => ?_) | refine Run.condE (fun h => ?_) (fun h => ?_) | refine Run.condF (fun h => ?_) (fun h => ?_) | refine Run.condM (fun h => ?_) (fun h => ?_) | refine Run.condB (fun h => ?_) (fun h => ?_) | refine Run.check1 ?_ | (exfalso; omega) | refine Run.call (hsp) rfl ?_ | refine Run.need1 (by simp only [allP, true_and, and_true]; omega) ?_ | refine Run.need1 (by simp only [allP, true_and, and_true, e0.h, e1.h, e2.h]; omega) ?_ | refine Run.call (hd) rfl ?_
            all_goals first | rfl | (exfalso; omega) | trace_state
          have l1 : ∀ z : Int, z = 1 → Run P (mk Tryz.f11 1) (fun v st => v = .one (.str (b, tBad).2) ∧ st = [some (.cells (b, tBad).1.lent.atoms)]) (.loop ⟨[(0, .one (.ptr (.k 0) 0)), (5, .one (.own (.t 12 0))), (6, .one (.ptr (.t 6 0) 0)), (30, .one (.int .i64 z))], [(.k 0, some (.cells b.lent.atoms)), (.t 12 0, some (.row .str (cutM 32 line))), (.t 6 0, some (.cells [.int .i64 (numI (rdS (cutM 32 line) 2)), .int .i64 0, .int .i64 0]))], [.lp [0, 1, 0, 1, 0, 1, 0, 0, 1, 1], .blk 1, .code [1, 1, 0, 1, 0, 0, 1, 1], .blk 0, .code [1, 1, 1]], none⟩) := by
            intro z hz
            subst hz
            have hd := decG_ok (cutM 32 line) _ 3 e1.h g1
            refine Run.loop ?_
            repeat' (conv => arg 4; whnf); first | rw [hc.l] | rw [hc.v] | rw [hc.d] | rw [hc.r] | rw [hc.t] | rw [hc.p] | rw [hc.s] | rw [hlp] | rw [hls] | refine Run.ret ⟨?_, rfl⟩ | refine Run.condT ?_ | refine Run.condf ?_ | refine Run.condD (fun h => ?_) (fun h => ?_) | refine Run.condN (fun h => ?_) (fun h => ?_) | refine Run.condE (fun h => ?_) (fun h => ?_) | refine Run.condF (fun h => ?_) (fun h => ?_) | refine Run.condM (fun h => ?_) (fun h => ?_) | refine Run.condB (fun h => ?_) (fun h => ?_) | refine Run.check1 ?_ | (exfalso; omega) | refine Run.call (hsp) rfl ?_ | refine Run.need1 (by simp only [allP, true_and, and_true]; omega) ?_ | refine Run.need1 (by simp only [allP, true_and, and_true, e0.h, e1.h, e2.h]; omega) ?_ | refine Run.call (hd) rfl ?_ | refine Run.round ⟨[(.t 12 0, .t 12 0), (.t 6 0, .t 6 0)], [], []⟩ (l2 _ s1.h) rfl (by (repeat' (first | exact wkEnv_nil | refine wkEnv_cons rfl ?_ | exact wkSto_nil | refine wkSto_none ?_ | refine wkSto_some rfl ?_)); done) (by (repeat' (first | exact wkEnv_nil | refine wkEnv_cons rfl ?_ | exact wkSto_nil | refine wkSto_none ?_ | refine wkSto_some rfl ?_)); done)
            all_goals first | rfl | (exfalso; omega) | trace_state
          have l0 : ∀ z : Int, z = 0 → Run P (mk Tryz.f11 1) (fun v st => v = .one (.str (b, tBad).2) ∧ st = [some (.cells (b, tBad).1.lent.atoms)]) (.loop ⟨[(0, .one (.ptr (.k 0) 0)), (5, .one (.own (.t 12 0))), (6, .one (.ptr (.t 6 0) 0)), (30, .one (.int .i64 z))], [(.k 0, some (.cells b.lent.atoms)), (.t 12 0, some (.row .str (cutM 32 line))), (.t 6 0, some (.cells [.int .i64 0, .int .i64 0, .int .i64 0]))], [.lp [0, 1, 0, 1, 0, 1, 0, 0, 1, 1], .blk 1, .code [1, 1, 0, 1, 0, 0, 1, 1], .blk 0, .code [1, 1, 1]], none⟩) := by
            intro z hz
            subst hz
            have hd := decG_ok (cutM 32 line) _ 2 e0.h g0
            refine Run.loop ?_
            repeat' (conv => arg 4; whnf); first | rw [hc.l] | rw [hc.v] | rw [hc.d] | rw [hc.r] | rw [hc.t] | rw [hc.p] | rw [hc.s] | rw [hlp] | rw [hls] | refine Run.ret ⟨?_, rfl⟩ | refine Run.condT ?_ | refine Run.condf ?_ | refine Run.condD (fun h => ?_) (fun h => ?_) | refine Run.condN (fun h => ?_) (fun h => ?_) | refine Run.condE (fun h => ?_) (fun h => ?_) | refine Run.condF (fun h => ?_) (fun h => ?_) | refine Run.condM (fun h => ?_) (fun h => ?_) | refine Run.condB (fun h => ?_) (fun h => ?_) | refine Run.check1 ?_ | (exfalso; omega) | refine Run.call (hsp) rfl ?_ | refine Run.need1 (by simp only [allP, true_and, and_true]; omega) ?_ | refine Run.need1 (by simp only [allP, true_and, and_true, e0.h, e1.h, e2.h]; omega) ?_ | refine Run.call (hd) rfl ?_ | refine Run.round ⟨[(.t 12 0, .t 12 0), (.t 6 0, .t 6 0)], [], []⟩ (l1 _ s0.h) rfl (by (repeat' (first | exact wkEnv_nil | refine wkEnv_cons rfl ?_ | exact wkSto_nil | refine wkSto_none ?_ | refine wkSto_some rfl ?_)); done) (by (repeat' (first | exact wkEnv_nil | refine wkEnv_cons rfl ?_ | exact wkSto_nil | refine wkSto_none ?_ | refine wkSto_some rfl ?_)); done)
            all_goals first | rfl | (exfalso; omega) | trace_state
          repeat' (conv => arg 4; whnf); first | rw [hc.l] | rw [hc.v] | rw [hc.d] | rw [hc.r] | rw [hc.t] | rw [hc.p] | rw [hc.s] | rw [hlp] | rw [hls] | refine Run.ret ⟨?_, rfl⟩ | refine Run.condT ?_ | refine Run.condf ?_ | refine Run.condD (fun h => ?_) (fun h => ?_) | refine Run.condN (fun h => ?_) (fun h => ?_) | refine Run.condE (fun h => ?_) (fun h => ?_) | refine Run.condF (fun h => ?_) (fun h => ?_) | refine Run.condM (fun h => ?_) (fun h => ?_) | refine Run.condB (fun h => ?_) (fun h => ?_) | refine Run.check1 ?_ | (exfalso; omega) | refine Run.call (hsp) rfl ?_ | refine Run.need1 (by simp only [allP, true_and, and_true]; omega) ?_ | refine Run.need1 (by simp only [allP, true_and, and_true, e0.h, e1.h, e2.h]; omega) ?_ | refine Run.round ⟨[(.t 12 0, .t 12 0), (.t 6 0, .t 6 0)], [], []⟩ (l0 _ rfl) rfl (by (repeat' (first | exact wkEnv_nil | refine wkEnv_cons rfl ?_ | exact wkSto_nil | refine wkSto_none ?_ | refine wkSto_some rfl ?_)); done) (by (repeat' (first | exact wkEnv_nil | refine wkEnv_cons rfl ?_ | exact wkSto_nil | refine wkSto_none ?_ | refine wkSto_some rfl ?_)); done)
          all_goals first | rfl | (exfalso; omega) | trace_state
      · rw [show lineM b (cutM 32 line) = (b, tBad) by rw [lineM_of hc]; unfold lineK; simp only [h5, if_pos (show numI (rdS (cutM 32 line) 2) < 0 ∨ numI (rdS (cutM 32 line) 3) < 0 ∨ numI (rdS (cutM 32 line) 4) < 0 by omega), Bool.false_eq_true, false_or, or_false, false_and, and_false, true_and, true_or, or_true, if_false, if_true, and_self]]
        clear hq
        have l1 : ∀ z : Int, z = 1 → Run P (mk Tryz.f11 1) (fun v st => v = .one (.str (b, tBad).2) ∧ st = [some (.cells (b, tBad).1.lent.atoms)]) (.loop ⟨[(0, .one (.ptr (.k 0) 0)), (5, .one (.own (.t 12 0))), (6, .one (.ptr (.t 6 0) 0)), (30, .one (.int .i64 z))], [(.k 0, some (.cells b.lent.atoms)), (.t 12 0, some (.row .str (cutM 32 line))), (.t 6 0, some (.cells [.int .i64 (numI (rdS (cutM 32 line) 2)), .int .i64 0, .int .i64 0]))], [.lp [0, 1, 0, 1, 0, 1, 0, 0, 1, 1], .blk 1, .code [1, 1, 0, 1, 0, 0, 1, 1], .blk 0, .code [1, 1, 1]], none⟩) := by
          intro z hz
          subst hz
          have hd := decB_ok (cutM 32 line) _ 3 e1.h g1
          refine Run.loop ?_
          repeat' (conv => arg 4; whnf); first | rw [hc.l] | rw [hc.v] | rw [hc.d] | rw [hc.r] | rw [hc.t] | rw [hc.p] | rw [hc.s] | rw [hlp] | rw [hls] | refine Run.ret ⟨?_, rfl⟩ | refine Run.condT ?_ | refine Run.condf ?_ | refine Run.condD (fun h => ?_) (fun h => ?_) | refine Run.condN (fun h => ?_) (fun h => ?_) | refine Run.condE (fun h => ?_) (fun h => ?_) | refine Run.condF (fun h => ?_) (fun h => ?_) | refine Run.condM (fun h => ?_) (fun h => ?_) | refine Run.condB (fun h => ?_) (fun h => ?_) | refine Run.check1 ?_ | (exfalso; omega) | refine Run.call (hsp) rfl ?_ | refine Run.need1 (by simp only [allP, true_and, and_true]; omega) ?_ | refine Run.need1 (by simp only [allP, true_and, and_true, e0.h, e1.h, e2.h]; omega) ?_ | refine Run.call (hd) rfl ?_
          all_goals first | rfl | (exfalso; omega) | trace_state
        have l0 : ∀ z : Int, z = 0 → Run P (mk Tryz.f11 1) (fun v st => v = .one (.str (b, tBad).2) ∧ st = [some (.cells (b, tBad).1.lent.atoms)]) (.loop ⟨[(0, .one (.ptr (.k 0) 0)), (5, .one (.own (.t 12 0))), (6, .one (.ptr (.t 6 0) 0)), (30, .one (.int .i64 z))], [(.k 0, some (.cells b.lent.atoms)), (.t 12 0, some (.row .str (cutM 32 line))), (.t 6 0, some (.cells [.int .i64 0, .int .i64 0, .int .i64 0]))], [.lp [0, 1, 0, 1, 0, 1, 0, 0, 1, 1], .blk 1, .code [1, 1, 0, 1, 0, 0, 1, 1], .blk 0, .code [1, 1, 1]], none⟩) := by
          intro z hz
          subst hz
          have hd := decG_ok (cutM 32 line) _ 2 e0.h g0
          refine Run.loop ?_
          repeat' (conv => arg 4; whnf); first | rw [hc.l] | rw [hc.v] | rw [hc.d] | rw [hc.r] | rw [hc.t] | rw [hc.p] | rw [hc.s] | rw [hlp] | rw [hls] | refine Run.ret ⟨?_, rfl⟩ | refine Run.condT ?_ | refine Run.condf ?_ | refine Run.condD (fun h => ?_) (fun h => ?_) | refine Run.condN (fun h => ?_) (fun h => ?_) | refine Run.condE (fun h => ?_) (fun h => ?_) | refine Run.condF (fun h => ?_) (fun h => ?_) | refine Run.condM (fun h => ?_) (fun h => ?_) | refine Run.condB (fun h => ?_) (fun h => ?_) | refine Run.check1 ?_ | (exfalso; omega) | refine Run.call (hsp) rfl ?_ | refine Run.need1 (by simp only [allP, true_and, and_true]; omega) ?_ | refine Run.need1 (by simp only [allP, true_and, and_true, e0.h, e1.h, e2.h]; omega) ?_ | refine Run.call (hd) rfl ?_ | refine Run.round ⟨[(.t 12 0, .t 12 0), (.t 6 0, .t 6 0)], [], []⟩ (l1 _ s0.h) rfl (by (repeat' (first | exact wkEnv_nil | refine wkEnv_cons rfl ?_ | exact wkSto_nil | refine wkSto_none ?_ | refine wkSto_some rfl ?_)); done) (by (repeat' (first | exact wkEnv_nil | refine wkEnv_cons rfl ?_ | exact wkSto_nil | refine wkSto_none ?_ | refine wkSto_some rfl ?_)); done)
          all_goals first | rfl | (exfalso; omega) | trace_state
        repeat' (conv => arg 4; whnf); first | rw [hc.l] | rw [hc.v] | rw [hc.d] | rw [hc.r] | rw [hc.t] | rw [hc.p] | rw [hc.s] | rw [hlp] | rw [hls] | refine Run.ret ⟨?_, rfl⟩ | refine Run.condT ?_ | refine Run.condf ?_ | refine Run.condD (fun h => ?_) (fun h => ?_) | refine Run.condN (fun h => ?_) (fun h => ?_) | refine Run.condE (fun h => ?_) (fun h => ?_) | refine Run.condF (fun h => ?_) (fun h => ?_) | refine Run.condM (fun h => ?_) (fun h => ?_) | refine Run.condB (fun h => ?_) (fun h => ?_) | refine Run.check1 ?_ | (exfalso; omega) | refine Run.call (hsp) rfl ?_ | refine Run.need1 (by simp only [allP, true_and, and_true]; omega) ?_ | refine Run.need1 (by simp only [allP, true_and, and_true, e0.h, e1.h, e2.h]; omega) ?_ | refine Run.round ⟨[(.t 12 0, .t 12 0), (.t 6 0, .t 6 0)], [], []⟩ (l0 _ rfl) rfl (by (repeat' (first | exact wkEnv_nil | refine wkEnv_cons rfl ?_ | exact wkSto_nil | refine wkSto_none ?_ | refine wkSto_some rfl ?_)); done) (by (repeat' (first | exact wkEnv_nil | refine wkEnv_cons rfl ?_ | exact wkSto_nil | refine wkSto_none ?_ | refine wkSto_some rfl ?_)); done)
        all_goals first | rfl | (exfalso; omega) | trace_state
    · rw [show lineM b (cutM 32 line) = (b, tBad) by rw [lineM_of hc]; unfold lineK; simp only [h5, if_pos (show numI (rdS (cutM 32 line) 2) < 0 ∨ numI (rdS (cutM 32 line) 3) < 0 ∨ numI (rdS (cutM 32 line) 4) < 0 by omega), Bool.false_eq_true, false_or, or_false, false_and, and_false, true_and, true_or, or_true, if_false, if_true, and_self]]
      clear hq
      have l0 : ∀ z : Int, z = 0 → Run P (mk Tryz.f11 1) (fun v st => v = .one (.str (b, tBad).2) ∧ st = [some (.cells (b, tBad).1.lent.atoms)]) (.loop ⟨[(0, .one (.ptr (.k 0) 0)), (5, .one (.own (.t 12 0))), (6, .one (.ptr (.t 6 0) 0)), (30, .one (.int .i64 z))], [(.k 0, some (.cells b.lent.atoms)), (.t 12 0, some (.row .str (cutM 32 line))), (.t 6 0, some (.cells [.int .i64 0, .int .i64 0, .int .i64 0]))], [.lp [0, 1, 0, 1, 0, 1, 0, 0, 1, 1], .blk 1, .code [1, 1, 0, 1, 0, 0, 1, 1], .blk 0, .code [1, 1, 1]], none⟩) := by
        intro z hz
        subst hz
        have hd := decB_ok (cutM 32 line) _ 2 e0.h g0
        refine Run.loop ?_
        repeat' (conv => arg 4; whnf); first | rw [hc.l] | rw [hc.v] | rw [hc.d] | rw [hc.r] | rw [hc.t] | rw [hc.p] | rw [hc.s] | rw [hlp] | rw [hls] | refine Run.ret ⟨?_, rfl⟩ | refine Run.condT ?_ | refine Run.condf ?_ | refine Run.condD (fun h => ?_) (fun h => ?_) | refine Run.condN (fun h => ?_) (fun h => ?_) | refine Run.condE (fun h => ?_) (fun h => ?_) | refine Run.condF (fun h => ?_) (fun h => ?_) | refine Run.condM (fun h => ?_) (fun h => ?_) | refine Run.condB (fun h => ?_) (fun h => ?_) | refine Run.check1 ?_ | (exfalso; omega) | refine Run.call (hsp) rfl ?_ | refine Run.need1 (by simp only [allP, true_and, and_true]; omega) ?_ | refine Run.need1 (by simp only [allP, true_and, and_true, e0.h, e1.h, e2.h]; omega) ?_ | refine Run.call (hd) rfl ?_
        all_goals first | rfl | (exfalso; omega) | trace_state
      repeat' (conv => arg 4; whnf); first | rw [hc.l] | rw [hc.v] | rw [hc.d] | rw [hc.r] | rw [hc.t] | rw [hc.p] | rw [hc.s] | rw [hlp] | rw [hls] | refine Run.ret ⟨?_, rfl⟩ | refine Run.condT ?_ | refine Run.condf ?_ | refine Run.condD (fun h => ?_) (fun h => ?_) | refine Run.condN (fun h => ?_) (fun h => ?_) | refine Run.condE (fun h => ?_) (fun h => ?_) | refine Run.condF (fun h => ?_) (fun h => ?_) | refine Run.condM (fun h => ?_) (fun h => ?_) | refine Run.condB (fun h => ?_) (fun h => ?_) | refine Run.check1 ?_ | (exfalso; omega) | refine Run.call (hsp) rfl ?_ | refine Run.need1 (by simp only [allP, true_and, and_true]; omega) ?_ | refine Run.need1 (by simp only [allP, true_and, and_true, e0.h, e1.h, e2.h]; omega) ?_ | refine Run.round ⟨[(.t 12 0, .t 12 0), (.t 6 0, .t 6 0)], [], []⟩ (l0 _ rfl) rfl (by (repeat' (first | exact wkEnv_nil | refine wkEnv_cons rfl ?_ | exact wkSto_nil | refine wkSto_none ?_ | refine wkSto_some rfl ?_)); done) (by (repeat' (first | exact wkEnv_nil | refine wkEnv_cons rfl ?_ | exact wkSto_nil | refine wkSto_none ?_ | refine wkSto_some rfl ?_)); done)
      all_goals first | rfl | (exfalso; omega) | trace_state
  · rw [show lineM b (cutM 32 line) = (b, tBad) by rw [lineM_of hc]; unfold lineK; simp only [h5, Bool.false_eq_true, false_or, or_false, false_and, and_false, true_and, true_or, or_true, if_false, if_true, and_self]]
    clear hq
    repeat' (conv => arg 4; whnf); first | rw [hc.l] | rw [hc.v] | rw [hc.d] | rw [hc.r] | rw [hc.t] | rw [hc.p] | rw [hc.s] | rw [hlp] | rw [hls] | refine Run.ret ⟨?_, rfl⟩ | refine Run.condT ?_ | refine Run.condf ?_ | refine Run.condD (fun h => ?_) (fun h => ?_) | refine Run.condN (fun h => ?_) (fun h => ?_) | refine Run.condE (fun h => ?_) (fun h => ?_) | refine Run.condF (fun h => ?_) (fun h => ?_) | refine Run.condM (fun h => ?_) (fun h => ?_) | refine Run.condB (fun h => ?_) (fun h => ?_) | refine Run.check1 ?_ | (exfalso; omega) | refine Run.call (hsp) rfl ?_ | refine Run.need1 (by simp only [allP, true_and, and_true]; omega) ?_ | refine Run.need1 (by simp only [allP, true_and, and_true, e0.h, e1.h, e2.h]; omega) ?_
    all_goals first | rfl | (exfalso; omega) | trace_state
theorem line_leave (b : Bk) (line : ByteArray) (hb : BkOk b) (hs : line.size ≤ 1073741823) (hq : rdS (cutM 32 line) 0 ≠ tPlan ∧ rdS (cutM 32 line) 0 ≠ tSure) (hc : WC (rdS (cutM 32 line) 0) false true false false false false false) : Ok P 11 [.one (.ptr (.k 0) 0), .one (.str line)] [some (.cells b.lent.atoms)] (.one (.str (lineM b (cutM 32 line)).2)) [some (.cells (lineM b (cutM 32 line)).1.lent.atoms)] := by
  have hbd := bkD_of hb
  have h6 := hbd.lm
  have h6' := hbd.lt
  have hw := tkWf_l hbd.td
  have hsp := split_ok line 32 (by omega)
  have h1 := cutM_pos 32 line
  have hle := cutM_le 32 line
  have e0 := Fact.mk ((wrap_eq (x := 2 + 0) (by omega) (by omega)).trans (show (2 : Int) + 0 = 2 by omega))
  have e1 := Fact.mk ((wrap_eq (x := 2 + 1) (by omega) (by omega)).trans (show (2 : Int) + 1 = 3 by omega))
  have e2 := Fact.mk ((wrap_eq (x := 2 + 2) (by omega) (by omega)).trans (show (2 : Int) + 2 = 4 by omega))
  have s0 := Fact.mk ((wrap_eq (x := 0 + 1) (by omega) (by omega)).trans (show (0 : Int) + 1 = 1 by omega))
  have s1 := Fact.mk ((wrap_eq (x := 1 + 1) (by omega) (by omega)).trans (show (1 : Int) + 1 = 2 by omega))
  have s2 := Fact.mk ((wrap_eq (x := 2 + 1) (by omega) (by omega)).trans (show (2 : Int) + 1 = 3 by omega))
  have hlp := line_is no_plan32 (line := line) false ⟨fun h => (by cases h), fun h => absurd h.1 hq.1⟩
  have hls := line_is no_sure32 (line := line) false ⟨fun h => (by cases h), fun h => absurd h.1 hq.2⟩
  refine Ok.of_run (F := mk Tryz.f11 1) Tryz.func11 rfl rfl tabOk mixed rfl rfl rfl rfl rfl (Nat.le_of_ble_eq_true rfl) (Nat.le_of_ble_eq_true rfl) (.go 5000 ?_)
  by_cases h5 : (cutM 32 line).length = 5
  · by_cases g0 : 0 ≤ numI (rdS (cutM 32 line) 2)
    · by_cases g1 : 0 ≤ numI (rdS (cutM 32 line) 3)
      · by_cases g2 : 0 ≤ numI (rdS (cutM 32 line) 4)
        · have ha := strip_add_ok b ⟨rdS (cutM 32 line) 1, false, (numI (rdS (cutM 32 line) 2)), (numI (rdS (cutM 32 line) 3)), (numI (rdS (cutM 32 line) 4)), -1⟩ (by omega) (by omega) hw
          have hcd := code_add hb ⟨rdS (cutM 32 line) 1, false, (numI (rdS (cutM 32 line) 2)), (numI (rdS (cutM 32 line) 3)), (numI (rdS (cutM 32 line) 4)), -1⟩
          rw [show lineM b (cutM 32 line) = codeM b (addR b ⟨rdS (cutM 32 line) 1, false, (numI (rdS (cutM 32 line) 2)), (numI (rdS (cutM 32 line) 3)), (numI (rdS (cutM 32 line) 4)), -1⟩) by rw [lineM_of hc]; unfold lineK; simp only [h5, if_neg (show ¬ (numI (rdS (cutM 32 line) 2) < 0 ∨ numI (rdS (cutM 32 line) 3) < 0 ∨ numI (rdS (cutM 32 line) 4) < 0) by omega), Bool.false_eq_true, false_or, or_false, false_and, and_false, true_and, true_or, or_true, if_false, if_true, and_self]]
          generalize addR b ⟨rdS (cutM 32 line) 1, false, (numI (rdS (cutM 32 line) 2)), (numI (rdS (cutM 32 line) 3)), (numI (rdS (cutM 32 line) 4)), -1⟩ = r at *
          obtain ⟨b', c⟩ := r
          dsimp only at ha hcd
          have hk := came_ok b b' c (by have := hcd.1; unfold W60; omega)
          clear hcd hq
          have l3 : ∀ z : Int, z = 3 → Run P (mk Tryz.f11 1) (fun v st => v = .one (.str (codeM b (b', c)).2) ∧ st = [some (.cells (codeM b (b', c)).1.lent.atoms)]) (.loop ⟨[(0, .one (.ptr (.k 0) 0)), (5, .one (.own (.t 12 0))), (6, .one (.ptr (.t 6 0) 0)), (30, .one (.int .i64 z))], [(.k 0, some (.cells b.lent.atoms)), (.t 12 0, some (.row .str (cutM 32 line))), (.t 6 0, some (.cells [.int .i64 (numI (rdS (cutM 32 line) 2)), .int .i64 (numI (rdS (cutM 32 line) 3)), .int .i64 (numI (rdS (cutM 32 line) 4))]))], [.lp [0, 1, 0, 1, 0, 1, 0, 0, 1, 1], .blk 1, .code [1, 1, 0, 1, 0, 0, 1, 1], .blk 0, .code [1, 1, 1]], none⟩) := by
            intro z hz
            subst hz
            refine Run.loop ?_
            repeat' (conv => arg 4; whnf); first | rw [hc.l] | rw [hc.v] | rw [hc.d] | rw [hc.r] | rw [hc.t] | rw [hc.p] | rw [hc.s] | rw [hlp] | rw [hls] | refine Run.ret ⟨?_, rfl⟩ | refine Run.condT ?_ | refine Run.condf ?_ | refine Run.condD (fun h => ?_) (fun h => ?_) | refine Run.condN (fun h => ?_) (fun h => ?_) | refine Run.condE (fun h => ?_) (fun h => ?_) | refine Run.condF (fun h => ?_) (fun h => ?_) | refine Run.condM (fun h => ?_) (fun h => ?_) | refine Run.condB (fun h => ?_) (fun h => ?_) | refine Run.check1 ?_ | (exfalso; omega) | refine Run.call (hsp) rfl ?_ | refine Run.need1 (by simp only [allP, true_and, and_true]; omega) ?_ | refine Run.need1 (by simp only [allP, true_and, and_true, e0.h, e1.h, e2.h]; omega) ?_ | refine Run.call (ha) rfl ?_ | refine Run.call (hk) rfl ?_
            all_goals first | rfl | (exfalso; omega) | trace_state
          have l2 : ∀ z : Int, z = 2 → Run P (mk Tryz.f11 1) (fun v st => v = .one (.str (codeM b (b', c)).2) ∧ st = [some (.cells (codeM b (b', c)).1.lent.atoms)]) (.loop ⟨[(0, .one (.ptr (.k 0) 0)), (5, .one (.own (.t 12 0))), (6, .one (.ptr (.t 6 0) 0)), (30, .one (.int .i64 z))], [(.k 0, some (.cells b.lent.atoms)), (.t 12 0, some (.row .str (cutM 32 line))), (.t 6 0, some (.cells [.int .i64 (numI (rdS (cutM 32 line) 2)), .int .i64 (numI (rdS (cutM 32 line) 3)), .int .i64 0]))], [.lp [0, 1, 0, 1, 0, 1, 0, 0, 1, 1], .blk 1, .code [1, 1, 0, 1, 0, 0, 1, 1], .blk 0, .code [1, 1, 1]], none⟩) := by
            intro z hz
            subst hz
            have hd := decG_ok (cutM 32 line) _ 4 e2.h g2
            refine Run.loop ?_
            repeat' (conv => arg 4; whnf); first | rw [hc.l] | rw [hc.v] | rw [hc.d] | rw [hc.r] | rw [hc.t] | rw [hc.p] | rw [hc.s] | rw [hlp] | rw [hls] | refine Run.ret ⟨?_, rfl⟩ | refine Run.condT ?_ | refine Run.condf ?_ | refine Run.condD (fun h => ?_) (fun h => ?_) | refine Run.condN (fun h => ?_) (fun h => ?_) | refine Run.condE (fun h => ?_) (fun h => ?_) | refine Run.condF (fun h => ?_) (fun h => ?_) | refine Run.condM (fun h => ?_) (fun h => ?_) | refine Run.condB (fun h => ?_) (fun h => ?_) | refine Run.check1 ?_ | (exfalso; omega) | refine Run.call (hsp) rfl ?_ | refine Run.need1 (by simp only [allP, true_and, and_true]; omega) ?_ | refine Run.need1 (by simp only [allP, true_and, and_true, e0.h, e1.h, e2.h]; omega) ?_ | refine Run.call (hd) rfl ?_ | refine Run.round ⟨[(.t 12 0, .t 12 0), (.t 6 0, .t 6 0)], [], []⟩ (l3 _ s2.h) rfl (by (repeat' (first | exact wkEnv_nil | refine wkEnv_cons rfl ?_ | exact wkSto_nil | refine wkSto_none ?_ | refine wkSto_some rfl ?_)); done) (by (repeat' (first | exact wkEnv_nil | refine wkEnv_cons rfl ?_ | exact wkSto_nil | refine wkSto_none ?_ | refine wkSto_some rfl ?_)); done)
            all_goals first | rfl | (exfalso; omega) | trace_state
          have l1 : ∀ z : Int, z = 1 → Run P (mk Tryz.f11 1) (fun v st => v = .one (.str (codeM b (b', c)).2) ∧ st = [some (.cells (codeM b (b', c)).1.lent.atoms)]) (.loop ⟨[(0, .one (.ptr (.k 0) 0)), (5, .one (.own (.t 12 0))), (6, .one (.ptr (.t 6 0) 0)), (30, .one (.int .i64 z))], [(.k 0, some (.cells b.lent.atoms)), (.t 12 0, some (.row .str (cutM 32 line))), (.t 6 0, some (.cells [.int .i64 (numI (rdS (cutM 32 line) 2)), .int .i64 0, .int .i64 0]))], [.lp [0, 1, 0, 1, 0, 1, 0, 0, 1, 1], .blk 1, .code [1, 1, 0, 1, 0, 0, 1, 1], .blk 0, .code [1, 1, 1]], none⟩) := by
            intro z hz
            subst hz
            have hd := decG_ok (cutM 32 line) _ 3 e1.h g1
            refine Run.loop ?_
            repeat' (conv => arg 4; whnf); first | rw [hc.l] | rw [hc.v] | rw [hc.d] | rw [hc.r] | rw [hc.t] | rw [hc.p] | rw [hc.s] | rw [hlp] | rw [hls] | refine Run.ret ⟨?_, rfl⟩ | refine Run.condT ?_ | refine Run.condf ?_ | refine Run.condD (fun h => ?_) (fun h => ?_) | refine Run.condN (fun h => ?_) (fun h => ?_) | refine Run.condE (fun h => ?_) (fun h => ?_) | refine Run.condF (fun h => ?_) (fun h => ?_) | refine Run.condM (fun h => ?_) (fun h => ?_) | refine Run.condB (fun h => ?_) (fun h => ?_) | refine Run.check1 ?_ | (exfalso; omega) | refine Run.call (hsp) rfl ?_ | refine Run.need1 (by simp only [allP, true_and, and_true]; omega) ?_ | refine Run.need1 (by simp only [allP, true_and, and_true, e0.h, e1.h, e2.h]; omega) ?_ | refine Run.call (hd) rfl ?_ | refine Run.round ⟨[(.t 12 0, .t 12 0), (.t 6 0, .t 6 0)], [], []⟩ (l2 _ s1.h) rfl (by (repeat' (first | exact wkEnv_nil | refine wkEnv_cons rfl ?_ | exact wkSto_nil | refine wkSto_none ?_ | refine wkSto_some rfl ?_)); done) (by (repeat' (first | exact wkEnv_nil | refine wkEnv_cons rfl ?_ | exact wkSto_nil | refine wkSto_none ?_ | refine wkSto_some rfl ?_)); done)
            all_goals first | rfl | (exfalso; omega) | trace_state
          have l0 : ∀ z : Int, z = 0 → Run P (mk Tryz.f11 1) (fun v st => v = .one (.str (codeM b (b', c)).2) ∧ st = [some (.cells (codeM b (b', c)).1.lent.atoms)]) (.loop ⟨[(0, .one (.ptr (.k 0) 0)), (5, .one (.own (.t 12 0))), (6, .one (.ptr (.t 6 0) 0)), (30, .one (.int .i64 z))], [(.k 0, some (.cells b.lent.atoms)), (.t 12 0, some (.row .str (cutM 32 line))), (.t 6 0, some (.cells [.int .i64 0, .int .i64 0, .int .i64 0]))], [.lp [0, 1, 0, 1, 0, 1, 0, 0, 1, 1], .blk 1, .code [1, 1, 0, 1, 0, 0, 1, 1], .blk 0, .code [1, 1, 1]], none⟩) := by
            intro z hz
            subst hz
            have hd := decG_ok (cutM 32 line) _ 2 e0.h g0
            refine Run.loop ?_
            repeat' (conv => arg 4; whnf); first | rw [hc.l] | rw [hc.v] | rw [hc.d] | rw [hc.r] | rw [hc.t] | rw [hc.p] | rw [hc.s] | rw [hlp] | rw [hls] | refine Run.ret ⟨?_, rfl⟩ | refine Run.condT ?_ | refine Run.condf ?_ | refine Run.condD (fun h => ?_) (fun h => ?_) | refine Run.condN (fun h => ?_) (fun h => ?_) | refine Run.condE (fun h => ?_) (fun h => ?_) | refine Run.condF (fun h => ?_) (fun h => ?_) | refine Run.condM (fun h => ?_) (fun h => ?_) | refine Run.condB (fun h => ?_) (fun h => ?_) | refine Run.check1 ?_ | (exfalso; omega) | refine Run.call (hsp) rfl ?_ | refine Run.need1 (by simp only [allP, true_and, and_true]; omega) ?_ | refine Run.need1 (by simp only [allP, true_and, and_true, e0.h, e1.h, e2.h]; omega) ?_ | refine Run.call (hd) rfl ?_ | refine Run.round ⟨[(.t 12 0, .t 12 0), (.t 6 0, .t 6 0)], [], []⟩ (l1 _ s0.h) rfl (by (repeat' (first | exact wkEnv_nil | refine wkEnv_cons rfl ?_ | exact wkSto_nil | refine wkSto_none ?_ | refine wkSto_some rfl ?_)); done) (by (repeat' (first | exact wkEnv_nil | refine wkEnv_cons rfl ?_ | exact wkSto_nil | refine wkSto_none ?_ | refine wkSto_some rfl ?_)); done)
            all_goals first | rfl | (exfalso; omega) | trace_state
          repeat' (conv => arg 4; whnf); first | rw [hc.l] | rw [hc.v] | rw [hc.d] | rw [hc.r] | rw [hc.t] | rw [hc.p] | rw [hc.s] | rw [hlp] | rw [hls] | refine Run.ret ⟨?_, rfl⟩ | refine Run.condT ?_ | refine Run.condf ?_ | refine Run.condD (fun h => ?_) (fun h => ?_) | refine Run.condN (fun h => ?_) (fun h => ?_) | refine Run.condE (fun h => ?_) (fun h => ?_) | refine Run.condF (fun h => ?_) (fun h => ?_) | refine Run.condM (fun h => ?_) (fun h => ?_) | refine Run.condB (fun h => ?_) (fun h => ?_) | refine Run.check1 ?_ | (exfalso; omega) | refine Run.call (hsp) rfl ?_ | refine Run.need1 (by simp only [allP, true_and, and_true]; omega) ?_ | refine Run.need1 (by simp only [allP, true_and, and_true, e0.h, e1.h, e2.h]; omega) ?_ | refine Run.round ⟨[(.t 12 0, .t 12 0), (.t 6 0, .t 6 0)], [], []⟩ (l0 _ rfl) rfl (by (repeat' (first | exact wkEnv_nil | refine wkEnv_cons rfl ?_ | exact wkSto_nil | refine wkSto_none ?_ | refine wkSto_some rfl ?_)); done) (by (repeat' (first | exact wkEnv_nil | refine wkEnv_cons rfl ?_ | exact wkSto_nil | refine wkSto_none ?_ | refine wkSto_some rfl ?_)); done)
          all_goals first | rfl | (exfalso; omega) | trace_state
        · rw [show lineM b (cutM 32 line) = (b, tBad) by rw [lineM_of hc]; unfold lineK; simp only [h5, if_pos (show numI (rdS (cutM 32 line) 2) < 0 ∨ numI (rdS (cutM 32 line) 3) < 0 ∨ numI (rdS (cutM 32 line) 4) < 0 by omega), Bool.false_eq_true, false_or, or_false, false_and, and_false, true_and, true_or, or_true, if_false, if_true, and_self]]
          clear hq
          have l2 : ∀ z : Int, z = 2 → Run P (mk Tryz.f11 1) (fun v st => v = .one (.str (b, tBad).2) ∧ st = [some (.cells (b, tBad).1.lent.atoms)]) (.loop ⟨[(0, .one (.ptr (.k 0) 0)), (5, .one (.own (.t 12 0))), (6, .one (.ptr (.t 6 0) 0)), (30, .one (.int .i64 z))], [(.k 0, some (.cells b.lent.atoms)), (.t 12 0, some (.row .str (cutM 32 line))), (.t 6 0, some (.cells [.int .i64 (numI (rdS (cutM 32 line) 2)), .int .i64 (numI (rdS (cutM 32 line) 3)), .int .i64 0]))], [.lp [0, 1, 0, 1, 0, 1, 0, 0, 1, 1], .blk 1, .code [1, 1, 0, 1, 0, 0, 1, 1], .blk 0, .code [1, 1, 1]], none⟩) := by
            intro z hz
            subst hz
            have hd := decB_ok (cutM 32 line) _ 4 e2.h g2
            refine Run.loop ?_
            repeat' (conv => arg 4; whnf); first | rw [hc.l] | rw [hc.v] | rw [hc.d] | rw [hc.r] | rw [hc.t] | rw [hc.p] | rw [hc.s] | rw [hlp] | rw [hls] | refine Run.ret ⟨?_, rfl⟩ | refine Run.condT ?_ | refine Run.condf ?_ | refine Run.condD (fun h => ?_) (fun h => ?_) | refine Run.condN (fun h => ?_) (fun h => ?_) | refine Run.condE (fun h => ?_) (fun h => ?_) | refine Run.condF (fun h => ?_) (fun h => ?_) | refine Run.condM (fun h => ?_) (fun h => ?_) | refine Run.condB (fun h => ?_) (fun h => ?_) | refine Run.check1 ?_ | (exfalso; omega) | refine Run.call (hsp) rfl ?_ | refine Run.need1 (by simp only [allP, true_and, and_true]; omega) ?_ | refine Run.need1 (by simp only [allP, true_and, and_true, e0.h, e1.h, e2.h]; omega) ?_ | refine Run.call (hd) rfl ?_
            all_goals first | rfl | (exfalso; omega) | trace_state
          have l1 : ∀ z : Int, z = 1 → Run P (mk Tryz.f11 1) (fun v st => v = .one (.str (b, tBad).2) ∧ st = [some (.cells (b, tBad).1.lent.atoms)]) (.loop ⟨[(0, .one (.ptr (.k 0) 0)), (5, .one (.own (.t 12 0))), (6, .one (.ptr (.t 6 0) 0)), (30, .one (.int .i64 z))], [(.k 0, some (.cells b.lent.atoms)), (.t 12 0, some (.row .str (cutM 32 line))), (.t 6 0, some (.cells [.int .i64 (numI (rdS (cutM 32 line) 2)), .int .i64 0, .int .i64 0]))], [.lp [0, 1, 0, 1, 0, 1, 0, 0, 1, 1], .blk 1, .code [1, 1, 0, 1, 0, 0, 1, 1], .blk 0, .code [1, 1, 1]], none⟩) := by
            intro z hz
            subst hz
            have hd := decG_ok (cutM 32 line) _ 3 e1.h g1
            refine Run.loop ?_
            repeat' (conv => arg 4; whnf); first | rw [hc.l] | rw [hc.v] | rw [hc.d] | rw [hc.r] | rw [hc.t] | rw [hc.p] | rw [hc.s] | rw [hlp] | rw [hls] | refine Run.ret ⟨?_, rfl⟩ | refine Run.condT ?_ | refine Run.condf ?_ | refine Run.condD (fun h => ?_) (fun h => ?_) | refine Run.condN (fun h => ?_) (fun h => ?_) | refine Run.condE (fun h => ?_) (fun h => ?_) | refine Run.condF (fun h => ?_) (fun h => ?_) | refine Run.condM (fun h => ?_) (fun h => ?_) | refine Run.condB (fun h => ?_) (fun h => ?_) | refine Run.check1 ?_ | (exfalso; omega) | refine Run.call (hsp) rfl ?_ | refine Run.need1 (by simp only [allP, true_and, and_true]; omega) ?_ | refine Run.need1 (by simp only [allP, true_and, and_true, e0.h, e1.h, e2.h]; omega) ?_ | refine Run.call (hd) rfl ?_ | refine Run.round ⟨[(.t 12 0, .t 12 0), (.t 6 0, .t 6 0)], [], []⟩ (l2 _ s1.h) rfl (by (repeat' (first | exact wkEnv_nil | refine wkEnv_cons rfl ?_ | exact wkSto_nil | refine wkSto_none ?_ | refine wkSto_some rfl ?_)); done) (by (repeat' (first | exact wkEnv_nil | refine wkEnv_cons rfl ?_ | exact wkSto_nil | refine wkSto_none ?_ | refine wkSto_some rfl ?_)); done)
            all_goals first | rfl | (exfalso; omega) | trace_state
          have l0 : ∀ z : Int, z = 0 → Run P (mk Tryz.f11 1) (fun v st => v = .one (.str (b, tBad).2) ∧ st = [some (.cells (b, tBad).1.lent.atoms)]) (.loop ⟨[(0, .one (.ptr (.k 0) 0)), (5, .one (.own (.t 12 0))), (6, .one (.ptr (.t 6 0) 0)), (30, .one (.int .i64 z))], [(.k 0, some (.cells b.lent.atoms)), (.t 12 0, some (.row .str (cutM 32 line))), (.t 6 0, some (.cells [.int .i64 0, .int .i64 0, .int .i64 0]))], [.lp [0, 1, 0, 1, 0, 1, 0, 0, 1, 1], .blk 1, .code [1, 1, 0, 1, 0, 0, 1, 1], .blk 0, .code [1, 1, 1]], none⟩) := by
            intro z hz
            subst hz
            have hd := decG_ok (cutM 32 line) _ 2 e0.h g0
            refine Run.loop ?_
            repeat' (conv => arg 4; whnf); first | rw [hc.l] | rw [hc.v] | rw [hc.d] | rw [hc.r] | rw [hc.t] | rw [hc.p] | rw [hc.s] | rw [hlp] | rw [hls] | refine Run.ret ⟨?_, rfl⟩ | refine Run.condT ?_ | refine Run.condf ?_ | refine Run.condD (fun h => ?_) (fun h => ?_) | refine Run.condN (fun h => ?_) (fun h => ?_) | refine Run.condE (fun h => ?_) (fun h => ?_) | refine Run.condF (fun h => ?_) (fun h => ?_) | refine Run.condM (fun h => ?_) (fun h => ?_) | refine Run.condB (fun h => ?_) (fun h => ?_) | refine Run.check1 ?_ | (exfalso; omega) | refine Run.call (hsp) rfl ?_ | refine Run.need1 (by simp only [allP, true_and, and_true]; omega) ?_ | refine Run.need1 (by simp only [allP, true_and, and_true, e0.h, e1.h, e2.h]; omega) ?_ | refine Run.call (hd) rfl ?_ | refine Run.round ⟨[(.t 12 0, .t 12 0), (.t 6 0, .t 6 0)], [], []⟩ (l1 _ s0.h) rfl (by (repeat' (first | exact wkEnv_nil | refine wkEnv_cons rfl ?_ | exact wkSto_nil | refine wkSto_none ?_ | refine wkSto_some rfl ?_)); done) (by (repeat' (first | exact wkEnv_nil | refine wkEnv_cons rfl ?_ | exact wkSto_nil | refine wkSto_none ?_ | refine wkSto_some rfl ?_)); done)
            all_goals first | rfl | (exfalso; omega) | trace_state
          repeat' (conv => arg 4; whnf); first | rw [hc.l] | rw [hc.v] | rw [hc.d] | rw [hc.r] | rw [hc.t] | rw [hc.p] | rw [hc.s] | rw [hlp] | rw [hls] | refine Run.ret ⟨?_, rfl⟩ | refine Run.condT ?_ | refine Run.condf ?_ | refine Run.condD (fun h => ?_) (fun h => ?_) | refine Run.condN (fun h => ?_) (fun h => ?_) | refine Run.condE (fun h => ?_) (fun h => ?_) | refine Run.condF (fun h => ?_) (fun h => ?_) | refine Run.condM (fun h => ?_) (fun h => ?_) | refine Run.condB (fun h => ?_) (fun h => ?_) | refine Run.check1 ?_ | (exfalso; omega) | refine Run.call (hsp) rfl ?_ | refine Run.need1 (by simp only [allP, true_and, and_true]; omega) ?_ | refine Run.need1 (by simp only [allP, true_and, and_true, e0.h, e1.h, e2.h]; omega) ?_ | refine Run.round ⟨[(.t 12 0, .t 12 0), (.t 6 0, .t 6 0)], [], []⟩ (l0 _ rfl) rfl (by (repeat' (first | exact wkEnv_nil | refine wkEnv_cons rfl ?_ | exact wkSto_nil | refine wkSto_none ?_ | refine wkSto_some rfl ?_)); done) (by (repeat' (first | exact wkEnv_nil | refine wkEnv_cons rfl ?_ | exact wkSto_nil | refine wkSto_none ?_ | refine wkSto_some rfl ?_)); done)
          all_goals first | rfl | (exfalso; omega) | trace_state
      · rw [show lineM b (cutM 32 line) = (b, tBad) by rw [lineM_of hc]; unfold lineK; simp only [h5, if_pos (show numI (rdS (cutM 32 line) 2) < 0 ∨ numI (rdS (cutM 32 line) 3) < 0 ∨ numI (rdS (cutM 32 line) 4) < 0 by omega), Bool.false_eq_true, false_or, or_false, false_and, and_false, true_and, true_or, or_true, if_false, if_true, and_self]]
        clear hq
        have l1 : ∀ z : Int, z = 1 → Run P (mk Tryz.f11 1) (fun v st => v = .one (.str (b, tBad).2) ∧ st = [some (.cells (b, tBad).1.lent.atoms)]) (.loop ⟨[(0, .one (.ptr (.k 0) 0)), (5, .one (.own (.t 12 0))), (6, .one (.ptr (.t 6 0) 0)), (30, .one (.int .i64 z))], [(.k 0, some (.cells b.lent.atoms)), (.t 12 0, some (.row .str (cutM 32 line))), (.t 6 0, some (.cells [.int .i64 (numI (rdS (cutM 32 line) 2)), .int .i64 0, .int .i64 0]))], [.lp [0, 1, 0, 1, 0, 1, 0, 0, 1, 1], .blk 1, .code [1, 1, 0, 1, 0, 0, 1, 1], .blk 0, .code [1, 1, 1]], none⟩) := by
          intro z hz
          subst hz
          have hd := decB_ok (cutM 32 line) _ 3 e1.h g1
          refine Run.loop ?_
          repeat' (conv => arg 4; whnf); first | rw [hc.l] | rw [hc.v] | rw [hc.d] | rw [hc.r] | rw [hc.t] | rw [hc.p] | rw [hc.s] | rw [hlp] | rw [hls] | refine Run.ret ⟨?_, rfl⟩ | refine Run.condT ?_ | refine Run.condf ?_ | refine Run.condD (fun h => ?_) (fun h => ?_) | refine Run.condN (fun h => ?_) (fun h => ?_) | refine Run.condE (fun h => ?_) (fun h => ?_) | refine Run.condF (fun h => ?_) (fun h => ?_) | refine Run.condM (fun h => ?_) (fun h => ?_) | refine Run.condB (fun h => ?_) (fun h => ?_) | refine Run.check1 ?_ | (exfalso; omega) | refine Run.call (hsp) rfl ?_ | refine Run.need1 (by simp only [allP, true_and, and_true]; omega) ?_ | refine Run.need1 (by simp only [allP, true_and, and_true, e0.h, e1.h, e2.h]; omega) ?_ | refine Run.call (hd) rfl ?_
          all_goals first | rfl | (exfalso; omega) | trace_state
        have l0 : ∀ z : Int, z = 0 → Run P (mk Tryz.f11 1) (fun v st => v = .one (.str (b, tBad).2) ∧ st = [some (.cells (b, tBad).1.lent.atoms)]) (.loop ⟨[(0, .one (.ptr (.k 0) 0)), (5, .one (.own (.t 12 0))), (6, .one (.ptr (.t 6 0) 0)), (30, .one (.int .i64 z))], [(.k 0, some (.cells b.lent.atoms)), (.t 12 0, some (.row .str (cutM 32 line))), (.t 6 0, some (.cells [.int .i64 0, .int .i64 0, .int .i64 0]))], [.lp [0, 1, 0, 1, 0, 1, 0, 0, 1, 1], .blk 1, .code [1, 1, 0, 1, 0, 0, 1, 1], .blk 0, .code [1, 1, 1]], none⟩) := by
          intro z hz
          subst hz
          have hd := decG_ok (cutM 32 line) _ 2 e0.h g0
          refine Run.loop ?_
          repeat' (conv => arg 4; whnf); first | rw [hc.l] | rw [hc.v] | rw [hc.d] | rw [hc.r] | rw [hc.t] | rw [hc.p] | rw [hc.s] | rw [hlp] | rw [hls] | refine Run.ret ⟨?_, rfl⟩ | refine Run.condT ?_ | refine Run.condf ?_ | refine Run.condD (fun h => ?_) (fun h => ?_) | refine Run.condN (fun h => ?_) (fun h => ?_) | refine Run.condE (fun h => ?_) (fun h => ?_) | refine Run.condF (fun h => ?_) (fun h => ?_) | refine Run.condM (fun h => ?_) (fun h => ?_) | refine Run.condB (fun h => ?_) (fun h => ?_) | refine Run.check1 ?_ | (exfalso; omega) | refine Run.call (hsp) rfl ?_ | refine Run.need1 (by simp only [allP, true_and, and_true]; omega) ?_ | refine Run.need1 (by simp only [allP, true_and, and_true, e0.h, e1.h, e2.h]; omega) ?_ | refine Run.call (hd) rfl ?_ | refine Run.round ⟨[(.t 12 0, .t 12 0), (.t 6 0, .t 6 0)], [], []⟩ (l1 _ s0.h) rfl (by (repeat' (first | exact wkEnv_nil | refine wkEnv_cons rfl ?_ | exact wkSto_nil | refine wkSto_none ?_ | refine wkSto_some rfl ?_)); done) (by (repeat' (first | exact wkEnv_nil | refine wkEnv_cons rfl ?_ | exact wkSto_nil | refine wkSto_none ?_ | refine wkSto_some rfl ?_)); done)
          all_goals first | rfl | (exfalso; omega) | trace_state
        repeat' (conv => arg 4; whnf); first | rw [hc.l] | rw [hc.v] | rw [hc.d] | rw [hc.r] | rw [hc.t] | rw [hc.p] | rw [hc.s] | rw [hlp] | rw [hls] | refine Run.ret ⟨?_, rfl⟩ | refine Run.condT ?_ | refine Run.condf ?_ | refine Run.condD (fun h => ?_) (fun h => ?_) | refine Run.condN (fun h => ?_) (fun h => ?_) | refine Run.condE (fun h => ?_) (fun h => ?_) | refine Run.condF (fun h => ?_) (fun h => ?_) | refine Run.condM (fun h => ?_) (fun h => ?_) | refine Run.condB (fun h => ?_) (fun h => ?_) | refine Run.check1 ?_ | (exfalso; omega) | refine Run.call (hsp) rfl ?_ | refine Run.need1 (by simp only [allP, true_and, and_true]; omega) ?_ | refine Run.need1 (by simp only [allP, true_and, and_true, e0.h, e1.h, e2.h]; omega) ?_ | refine Run.round ⟨[(.t 12 0, .t 12 0), (.t 6 0, .t 6 0)], [], []⟩ (l0 _ rfl) rfl (by (repeat' (first | exact wkEnv_nil | refine wkEnv_cons rfl ?_ | exact wkSto_nil | refine wkSto_none ?_ | refine wkSto_some rfl ?_)); done) (by (repeat' (first | exact wkEnv_nil | refine wkEnv_cons rfl ?_ | exact wkSto_nil | refine wkSto_none ?_ | refine wkSto_some rfl ?_)); done)
        all_goals first | rfl | (exfalso; omega) | trace_state
    · rw [show lineM b (cutM 32 line) = (b, tBad) by rw [lineM_of hc]; unfold lineK; simp only [h5, if_pos (show numI (rdS (cutM 32 line) 2) < 0 ∨ numI (rdS (cutM 32 line) 3) < 0 ∨ numI (rdS (cutM 32 line) 4) < 0 by omega), Bool.false_eq_true, false_or, or_false, false_and, and_false, true_and, true_or, or_true, if_false, if_true, and_self]]
      clear hq
      have l0 : ∀ z : Int, z = 0 → Run P (mk Tryz.f11 1) (fun v st => v = .one (.str (b, tBad).2) ∧ st = [some (.cells (b, tBad).1.lent.atoms)]) (.loop ⟨[(0, .one (.ptr (.k 0) 0)), (5, .one (.own (.t 12 0))), (6, .one (.ptr (.t 6 0) 0)), (30, .one (.int .i64 z))], [(.k 0, some (.cells b.lent.atoms)), (.t 12 0, some (.row .str (cutM 32 line))), (.t 6 0, some (.cells [.int .i64 0, .int .i64 0, .int .i64 0]))], [.lp [0, 1, 0, 1, 0, 1, 0, 0, 1, 1], .blk 1, .code [1, 1, 0, 1, 0, 0, 1, 1], .blk 0, .code [1, 1, 1]], none⟩) := by
        intro z hz
        subst hz
        have hd := decB_ok (cutM 32 line) _ 2 e0.h g0
        refine Run.loop ?_
        repeat' (conv => arg 4; whnf); first | rw [hc.l] | rw [hc.v] | rw [hc.d] | rw [hc.r] | rw [hc.t] | rw [hc.p] | rw [hc.s] | rw [hlp] | rw [hls] | refine Run.ret ⟨?_, rfl⟩ | refine Run.condT ?_ | refine Run.condf ?_ | refine Run.condD (fun h => ?_) (fun h => ?_) | refine Run.condN (fun h => ?_) (fun h => ?_) | refine Run.condE (fun h => ?_) (fun h => ?_) | refine Run.condF (fun h => ?_) (fun h => ?_) | refine Run.condM (fun h => ?_) (fun h => ?_) | refine Run.condB (fun h => ?_) (fun h => ?_) | refine Run.check1 ?_ | (exfalso; omega) | refine Run.call (hsp) rfl ?_ | refine Run.need1 (by simp only [allP, true_and, and_true]; omega) ?_ | refine Run.need1 (by simp only [allP, true_and, and_true, e0.h, e1.h, e2.h]; omega) ?_ | refine Run.call (hd) rfl ?_
        all_goals first | rfl | (exfalso; omega) | trace_state
      repeat' (conv => arg 4; whnf); first | rw [hc.l] | rw [hc.v] | rw [hc.d] | rw [hc.r] | rw [hc.t] | rw [hc.p] | rw [hc.s] | rw [hlp] | rw [hls] | refine Run.ret ⟨?_, rfl⟩ | refine Run.condT ?_ | refine Run.condf ?_ | refine Run.condD (fun h => ?_) (fun h => ?_) | refine Run.condN (fun h => ?_) (fun h => ?_) | refine Run.condE (fun h => ?_) (fun h => ?_) | refine Run.condF (fun h => ?_) (fun h => ?_) | refine Run.condM (fun h => ?_) (fun h => ?_) | refine Run.condB (fun h => ?_) (fun h => ?_) | refine Run.check1 ?_ | (exfalso; omega) | refine Run.call (hsp) rfl ?_ | refine Run.need1 (by simp only [allP, true_and, and_true]; omega) ?_ | refine Run.need1 (by simp only [allP, true_and, and_true, e0.h, e1.h, e2.h]; omega) ?_ | refine Run.round ⟨[(.t 12 0, .t 12 0), (.t 6 0, .t 6 0)], [], []⟩ (l0 _ rfl) rfl (by (repeat' (first | exact wkEnv_nil | refine wkEnv_cons rfl ?_ | exact wkSto_nil | refine wkSto_none ?_ | refine wkSto_some rfl ?_)); done) (by (repeat' (first | exact wkEnv_nil | refine wkEnv_cons rfl ?_ | exact wkSto_nil | refine wkSto_none ?_ | refine wkSto_some rfl ?_)); done)
      all_goals first | rfl | (exfalso; omega) | trace_state
  · rw [show lineM b (cutM 32 line) = (b, tBad) by rw [lineM_of hc]; unfold lineK; simp only [h5, Bool.false_eq_true, false_or, or_false, false_and, and_false, true_and, true_or, or_true, if_false, if_true, and_self]]
    clear hq
    repeat' (conv => arg 4; whnf); first | rw [hc.l] | rw [hc.v] | rw [hc.d] | rw [hc.r] | rw [hc.t] | rw [hc.p] | rw [hc.s] | rw [hlp] | rw [hls] | refine Run.ret ⟨?_, rfl⟩ | refine Run.condT ?_ | refine Run.condf ?_ | refine Run.condD (fun h => ?_) (fun h => ?_) | refine Run.condN (fun h => ?_) (fun h => ?_) | refine Run.condE (fun h => ?_) (fun h => ?_) | refine Run.condF (fun h => ?_) (fun h => ?_) | refine Run.condM (fun h => ?_) (fun h => ?_) | refine Run.condB (fun h => ?_) (fun h => ?_) | refine Run.check1 ?_ | (exfalso; omega) | refine Run.call (hsp) rfl ?_ | refine Run.need1 (by simp only [allP, true_and, and_true]; omega) ?_ | refine Run.need1 (by simp only [allP, true_and, and_true, e0.h, e1.h, e2.h]; omega) ?_
    all_goals first | rfl | (exfalso; omega) | trace_state
theorem line_drop (b : Bk) (line : ByteArray) (hb : BkOk b) (hs : line.size ≤ 1073741823) (hq : rdS (cutM 32 line) 0 ≠ tPlan ∧ rdS (cutM 32 line) 0 ≠ tSure) (hc : WC (rdS (cutM 32 line) 0) false false true false false false false) : Ok P 11 [.one (.ptr (.k 0) 0), .one (.str line)] [some (.cells b.lent.atoms)] (.one (.str (lineM b (cutM 32 line)).2)) [some (.cells (lineM b (cutM 32 line)).1.lent.atoms)] := by
  have hbd := bkD_of hb
  have h6 := hbd.lm
  have h6' := hbd.lt
  have hw := tkWf_l hbd.td
  have hsp := split_ok line 32 (by omega)
  have h1 := cutM_pos 32 line
  have hle := cutM_le 32 line
  have e0 := Fact.mk ((wrap_eq (x := 2 + 0) (by omega) (by omega)).trans (show (2 : Int) + 0 = 2 by omega))
  have e1 := Fact.mk ((wrap_eq (x := 2 + 1) (by omega) (by omega)).trans (show (2 : Int) + 1 = 3 by omega))
  have e2 := Fact.mk ((wrap_eq (x := 2 + 2) (by omega) (by omega)).trans (show (2 : Int) + 2 = 4 by omega))
  have s0 := Fact.mk ((wrap_eq (x := 0 + 1) (by omega) (by omega)).trans (show (0 : Int) + 1 = 1 by omega))
  have s1 := Fact.mk ((wrap_eq (x := 1 + 1) (by omega) (by omega)).trans (show (1 : Int) + 1 = 2 by omega))
  have s2 := Fact.mk ((wrap_eq (x := 2 + 1) (by omega) (by omega)).trans (show (2 : Int) + 1 = 3 by omega))
  have hlp := line_is no_plan32 (line := line) false ⟨fun h => (by cases h), fun h => absurd h.1 hq.1⟩
  have hls := line_is no_sure32 (line := line) false ⟨fun h => (by cases h), fun h => absurd h.1 hq.2⟩
  refine Ok.of_run (F := mk Tryz.f11 1) Tryz.func11 rfl rfl tabOk mixed rfl rfl rfl rfl rfl (Nat.le_of_ble_eq_true rfl) (Nat.le_of_ble_eq_true rfl) (.go 5000 ?_)
  by_cases h2 : (cutM 32 line).length = 2
  · have ha := strip_drop_ok b (rdS (cutM 32 line) 1) (by omega) (by omega) hw
    have hcd := code_drop hb (rdS (cutM 32 line) 1)
    rw [show lineM b (cutM 32 line) = codeM b (dropR b (rdS (cutM 32 line) 1)) by rw [lineM_of hc]; unfold lineK; simp only [h2, Bool.false_eq_true, false_or, or_false, false_and, and_false, true_and, true_or, or_true, if_false, if_true, and_self]]
    generalize dropR b (rdS (cutM 32 line) 1) = r at *
    obtain ⟨b', c⟩ := r
    dsimp only at ha hcd
    have hk := came_ok b b' c (by have := hcd.1; unfold W60; omega)
    clear hcd hq
    repeat' (conv => arg 4; whnf); first | rw [hc.l] | rw [hc.v] | rw [hc.d] | rw [hc.r] | rw [hc.t] | rw [hc.p] | rw [hc.s] | rw [hlp] | rw [hls] | refine Run.ret ⟨?_, rfl⟩ | refine Run.condT ?_ | refine Run.condf ?_ | refine Run.condD (fun h => ?_) (fun h => ?_) | refine Run.condN (fun h => ?_) (fun h => ?_) | refine Run.condE (fun h => ?_) (fun h => ?_) | refine Run.condF (fun h => ?_) (fun h => ?_) | refine Run.condM (fun h => ?_) (fun h => ?_) | refine Run.condB (fun h => ?_) (fun h => ?_) | refine Run.check1 ?_ | (exfalso; omega) | refine Run.call (hsp) rfl ?_ | refine Run.need1 (by simp only [allP, true_and, and_true]; omega) ?_ | refine Run.need1 (by simp only [allP, true_and, and_true, e0.h, e1.h, e2.h]; omega) ?_ | refine Run.call (ha) rfl ?_ | refine Run.call (hk) rfl ?_
    all_goals first | rfl | (exfalso; omega) | trace_state
  · rw [show lineM b (cutM 32 line) = (b, tBad) by rw [lineM_of hc]; unfold lineK; simp only [h2, Bool.false_eq_true, false_or, or_false, false_and, and_false, true_and, true_or, or_true, if_false, if_true, and_self]]
    clear hq
    repeat' (conv => arg 4; whnf); first | rw [hc.l] | rw [hc.v] | rw [hc.d] | rw [hc.r] | rw [hc.t] | rw [hc.p] | rw [hc.s] | rw [hlp] | rw [hls] | refine Run.ret ⟨?_, rfl⟩ | refine Run.condT ?_ | refine Run.condf ?_ | refine Run.condD (fun h => ?_) (fun h => ?_) | refine Run.condN (fun h => ?_) (fun h => ?_) | refine Run.condE (fun h => ?_) (fun h => ?_) | refine Run.condF (fun h => ?_) (fun h => ?_) | refine Run.condM (fun h => ?_) (fun h => ?_) | refine Run.condB (fun h => ?_) (fun h => ?_) | refine Run.check1 ?_ | (exfalso; omega) | refine Run.call (hsp) rfl ?_ | refine Run.need1 (by simp only [allP, true_and, and_true]; omega) ?_ | refine Run.need1 (by simp only [allP, true_and, and_true, e0.h, e1.h, e2.h]; omega) ?_
    all_goals first | rfl | (exfalso; omega) | trace_state
theorem line_round (b : Bk) (line : ByteArray) (hb : BkOk b) (hs : line.size ≤ 1073741823) (hq : rdS (cutM 32 line) 0 ≠ tPlan ∧ rdS (cutM 32 line) 0 ≠ tSure) (hc : WC (rdS (cutM 32 line) 0) false false false true false false false) : Ok P 11 [.one (.ptr (.k 0) 0), .one (.str line)] [some (.cells b.lent.atoms)] (.one (.str (lineM b (cutM 32 line)).2)) [some (.cells (lineM b (cutM 32 line)).1.lent.atoms)] := by
  have hbd := bkD_of hb
  have h6 := hbd.lm
  have h6' := hbd.lt
  have hw := tkWf_l hbd.td
  have hsp := split_ok line 32 (by omega)
  have h1 := cutM_pos 32 line
  have hle := cutM_le 32 line
  have e0 := Fact.mk ((wrap_eq (x := 2 + 0) (by omega) (by omega)).trans (show (2 : Int) + 0 = 2 by omega))
  have e1 := Fact.mk ((wrap_eq (x := 2 + 1) (by omega) (by omega)).trans (show (2 : Int) + 1 = 3 by omega))
  have e2 := Fact.mk ((wrap_eq (x := 2 + 2) (by omega) (by omega)).trans (show (2 : Int) + 2 = 4 by omega))
  have s0 := Fact.mk ((wrap_eq (x := 0 + 1) (by omega) (by omega)).trans (show (0 : Int) + 1 = 1 by omega))
  have s1 := Fact.mk ((wrap_eq (x := 1 + 1) (by omega) (by omega)).trans (show (1 : Int) + 1 = 2 by omega))
  have s2 := Fact.mk ((wrap_eq (x := 2 + 1) (by omega) (by omega)).trans (show (2 : Int) + 1 = 3 by omega))
  have hlp := line_is no_plan32 (line := line) false ⟨fun h => (by cases h), fun h => absurd h.1 hq.1⟩
  have hls := line_is no_sure32 (line := line) false ⟨fun h => (by cases h), fun h => absurd h.1 hq.2⟩
  refine Ok.of_run (F := mk Tryz.f11 1) Tryz.func11 rfl rfl tabOk mixed rfl rfl rfl rfl rfl (Nat.le_of_ble_eq_true rfl) (Nat.le_of_ble_eq_true rfl) (.go 5000 ?_)
  by_cases h2 : (cutM 32 line).length = 2
  · have ha := strip_round_ok b (rdS (cutM 32 line) 1) (by omega) (by omega) hw
    have hcd := code_round hb (rdS (cutM 32 line) 1)
    rw [show lineM b (cutM 32 line) = codeM b (roundR b (rdS (cutM 32 line) 1)) by rw [lineM_of hc]; unfold lineK; simp only [h2, Bool.false_eq_true, false_or, or_false, false_and, and_false, true_and, true_or, or_true, if_false, if_true, and_self]]
    generalize roundR b (rdS (cutM 32 line) 1) = r at *
    obtain ⟨b', c⟩ := r
    dsimp only at ha hcd
    have hk := came_ok b b' c (by have := hcd.1; unfold W60; omega)
    clear hcd hq
    repeat' (conv => arg 4; whnf); first | rw [hc.l] | rw [hc.v] | rw [hc.d] | rw [hc.r] | rw [hc.t] | rw [hc.p] | rw [hc.s] | rw [hlp] | rw [hls] | refine Run.ret ⟨?_, rfl⟩ | refine Run.condT ?_ | refine Run.condf ?_ | refine Run.condD (fun h => ?_) (fun h => ?_) | refine Run.condN (fun h => ?_) (fun h => ?_) | refine Run.condE (fun h => ?_) (fun h => ?_) | refine Run.condF (fun h => ?_) (fun h => ?_) | refine Run.condM (fun h => ?_) (fun h => ?_) | refine Run.condB (fun h => ?_) (fun h => ?_) | refine Run.check1 ?_ | (exfalso; omega) | refine Run.call (hsp) rfl ?_ | refine Run.need1 (by simp only [allP, true_and, and_true]; omega) ?_ | refine Run.need1 (by simp only [allP, true_and, and_true, e0.h, e1.h, e2.h]; omega) ?_ | refine Run.call (ha) rfl ?_ | refine Run.call (hk) rfl ?_
    all_goals first | rfl | (exfalso; omega) | trace_state
  · rw [show lineM b (cutM 32 line) = (b, tBad) by rw [lineM_of hc]; unfold lineK; simp only [h2, Bool.false_eq_true, false_or, or_false, false_and, and_false, true_and, true_or, or_true, if_false, if_true, and_self]]
    clear hq
    repeat' (conv => arg 4; whnf); first | rw [hc.l] | rw [hc.v] | rw [hc.d] | rw [hc.r] | rw [hc.t] | rw [hc.p] | rw [hc.s] | rw [hlp] | rw [hls] | refine Run.ret ⟨?_, rfl⟩ | refine Run.condT ?_ | refine Run.condf ?_ | refine Run.condD (fun h => ?_) (fun h => ?_) | refine Run.condN (fun h => ?_) (fun h => ?_) | refine Run.condE (fun h => ?_) (fun h => ?_) | refine Run.condF (fun h => ?_) (fun h => ?_) | refine Run.condM (fun h => ?_) (fun h => ?_) | refine Run.condB (fun h => ?_) (fun h => ?_) | refine Run.check1 ?_ | (exfalso; omega) | refine Run.call (hsp) rfl ?_ | refine Run.need1 (by simp only [allP, true_and, and_true]; omega) ?_ | refine Run.need1 (by simp only [allP, true_and, and_true, e0.h, e1.h, e2.h]; omega) ?_
    all_goals first | rfl | (exfalso; omega) | trace_state
theorem line_tick (b : Bk) (line : ByteArray) (hb : BkOk b) (hs : line.size ≤ 1073741823) (hq : rdS (cutM 32 line) 0 ≠ tPlan ∧ rdS (cutM 32 line) 0 ≠ tSure) (hc : WC (rdS (cutM 32 line) 0) false false false false true false false) : Ok P 11 [.one (.ptr (.k 0) 0), .one (.str line)] [some (.cells b.lent.atoms)] (.one (.str (lineM b (cutM 32 line)).2)) [some (.cells (lineM b (cutM 32 line)).1.lent.atoms)] := by
  have hbd := bkD_of hb
  have h6 := hbd.lm
  have h6' := hbd.lt
  have hw := tkWf_l hbd.td
  have hsp := split_ok line 32 (by omega)
  have h1 := cutM_pos 32 line
  have hle := cutM_le 32 line
  have e0 := Fact.mk ((wrap_eq (x := 2 + 0) (by omega) (by omega)).trans (show (2 : Int) + 0 = 2 by omega))
  have e1 := Fact.mk ((wrap_eq (x := 2 + 1) (by omega) (by omega)).trans (show (2 : Int) + 1 = 3 by omega))
  have e2 := Fact.mk ((wrap_eq (x := 2 + 2) (by omega) (by omega)).trans (show (2 : Int) + 2 = 4 by omega))
  have s0 := Fact.mk ((wrap_eq (x := 0 + 1) (by omega) (by omega)).trans (show (0 : Int) + 1 = 1 by omega))
  have s1 := Fact.mk ((wrap_eq (x := 1 + 1) (by omega) (by omega)).trans (show (1 : Int) + 1 = 2 by omega))
  have s2 := Fact.mk ((wrap_eq (x := 2 + 1) (by omega) (by omega)).trans (show (2 : Int) + 1 = 3 by omega))
  have hlp := line_is no_plan32 (line := line) false ⟨fun h => (by cases h), fun h => absurd h.1 hq.1⟩
  have hls := line_is no_sure32 (line := line) false ⟨fun h => (by cases h), fun h => absurd h.1 hq.2⟩
  refine Ok.of_run (F := mk Tryz.f11 1) Tryz.func11 rfl rfl tabOk mixed rfl rfl rfl rfl rfl (Nat.le_of_ble_eq_true rfl) (Nat.le_of_ble_eq_true rfl) (.go 5000 ?_)
  by_cases h2 : (cutM 32 line).length = 2
  · have hlt := numI_lt (rdS (cutM 32 line) 1)
    by_cases g : 0 ≤ numI (rdS (cutM 32 line) 1)
    · have hd := decG_ok (cutM 32 line) 1 1 rfl g
      by_cases hbig : 100 < numI (rdS (cutM 32 line) 1)
      · rw [show lineM b (cutM 32 line) = (b, tBad) by rw [lineM_of hc]; unfold lineK; simp only [h2, if_pos (show numI (rdS (cutM 32 line) 1) < 0 ∨ 100 < numI (rdS (cutM 32 line) 1) from .inr hbig), Bool.false_eq_true, false_or, or_false, false_and, and_false, true_and, true_or, or_true, if_false, if_true, and_self]]
        clear hq
        repeat' (conv => arg 4; whnf); first | rw [hc.l] | rw [hc.v] | rw [hc.d] | rw [hc.r] | rw [hc.t] | rw [hc.p] | rw [hc.s] | rw [hlp] | rw [hls] | refine Run.ret ⟨?_, rfl⟩ | refine Run.condT ?_ | refine Run.condf ?_ | refine Run.condD (fun h => ?_) (fun h => ?_) | refine Run.condN (fun h => ?_) (fun h => ?_) | refine Run.condE (fun h => ?_) (fun h => ?_) | refine Run.condF (fun h => ?_) (fun h => ?_) | refine Run.condM (fun h => ?_) (fun h => ?_) | refine Run.condB (fun h => ?_) (fun h => ?_) | refine Run.check1 ?_ | (exfalso; omega) | refine Run.call (hsp) rfl ?_ | refine Run.need1 (by simp only [allP, true_and, and_true]; omega) ?_ | refine Run.need1 (by simp only [allP, true_and, and_true, e0.h, e1.h, e2.h]; omega) ?_ | refine Run.call (hd) rfl ?_
        all_goals first | rfl | (exfalso; omega) | trace_state
      · rw [show lineM b (cutM 32 line) = tickM (numI (rdS (cutM 32 line) 1)).toNat b tE by rw [lineM_of hc]; unfold lineK; simp only [h2, if_neg (show ¬ (numI (rdS (cutM 32 line) 1) < 0 ∨ 100 < numI (rdS (cutM 32 line) 1)) by omega), Bool.false_eq_true, false_or, or_false, false_and, and_false, true_and, true_or, or_true, if_false, if_true, and_self]]
        have hti := ticks_ok b (numI (rdS (cutM 32 line) 1)).toNat hb (by omega) (numI (rdS (cutM 32 line) 1)) (by omega)
        clear hq
        repeat' (conv => arg 4; whnf); first | rw [hc.l] | rw [hc.v] | rw [hc.d] | rw [hc.r] | rw [hc.t] | rw [hc.p] | rw [hc.s] | rw [hlp] | rw [hls] | refine Run.ret ⟨?_, rfl⟩ | refine Run.condT ?_ | refine Run.condf ?_ | refine Run.condD (fun h => ?_) (fun h => ?_) | refine Run.condN (fun h => ?_) (fun h => ?_) | refine Run.condE (fun h => ?_) (fun h => ?_) | refine Run.condF (fun h => ?_) (fun h => ?_) | refine Run.condM (fun h => ?_) (fun h => ?_) | refine Run.condB (fun h => ?_) (fun h => ?_) | refine Run.check1 ?_ | (exfalso; omega) | refine Run.call (hsp) rfl ?_ | refine Run.need1 (by simp only [allP, true_and, and_true]; omega) ?_ | refine Run.need1 (by simp only [allP, true_and, and_true, e0.h, e1.h, e2.h]; omega) ?_ | refine Run.call (hd) rfl ?_ | refine Run.call (hti) rfl ?_
        all_goals first | rfl | (exfalso; omega) | trace_state
    · have hd := decB_ok (cutM 32 line) 1 1 rfl g
      rw [show lineM b (cutM 32 line) = (b, tBad) by rw [lineM_of hc]; unfold lineK; simp only [h2, if_pos (show numI (rdS (cutM 32 line) 1) < 0 ∨ 100 < numI (rdS (cutM 32 line) 1) by omega), Bool.false_eq_true, false_or, or_false, false_and, and_false, true_and, true_or, or_true, if_false, if_true, and_self]]
      clear hq
      repeat' (conv => arg 4; whnf); first | rw [hc.l] | rw [hc.v] | rw [hc.d] | rw [hc.r] | rw [hc.t] | rw [hc.p] | rw [hc.s] | rw [hlp] | rw [hls] | refine Run.ret ⟨?_, rfl⟩ | refine Run.condT ?_ | refine Run.condf ?_ | refine Run.condD (fun h => ?_) (fun h => ?_) | refine Run.condN (fun h => ?_) (fun h => ?_) | refine Run.condE (fun h => ?_) (fun h => ?_) | refine Run.condF (fun h => ?_) (fun h => ?_) | refine Run.condM (fun h => ?_) (fun h => ?_) | refine Run.condB (fun h => ?_) (fun h => ?_) | refine Run.check1 ?_ | (exfalso; omega) | refine Run.call (hsp) rfl ?_ | refine Run.need1 (by simp only [allP, true_and, and_true]; omega) ?_ | refine Run.need1 (by simp only [allP, true_and, and_true, e0.h, e1.h, e2.h]; omega) ?_ | refine Run.call (hd) rfl ?_
      all_goals first | rfl | (exfalso; omega) | trace_state
  · rw [show lineM b (cutM 32 line) = (b, tBad) by rw [lineM_of hc]; unfold lineK; simp only [h2, Bool.false_eq_true, false_or, or_false, false_and, and_false, true_and, true_or, or_true, if_false, if_true, and_self]]
    clear hq
    repeat' (conv => arg 4; whnf); first | rw [hc.l] | rw [hc.v] | rw [hc.d] | rw [hc.r] | rw [hc.t] | rw [hc.p] | rw [hc.s] | rw [hlp] | rw [hls] | refine Run.ret ⟨?_, rfl⟩ | refine Run.condT ?_ | refine Run.condf ?_ | refine Run.condD (fun h => ?_) (fun h => ?_) | refine Run.condN (fun h => ?_) (fun h => ?_) | refine Run.condE (fun h => ?_) (fun h => ?_) | refine Run.condF (fun h => ?_) (fun h => ?_) | refine Run.condM (fun h => ?_) (fun h => ?_) | refine Run.condB (fun h => ?_) (fun h => ?_) | refine Run.check1 ?_ | (exfalso; omega) | refine Run.call (hsp) rfl ?_ | refine Run.need1 (by simp only [allP, true_and, and_true]; omega) ?_ | refine Run.need1 (by simp only [allP, true_and, and_true, e0.h, e1.h, e2.h]; omega) ?_
    all_goals first | rfl | (exfalso; omega) | trace_state
theorem line_plan (b : Bk) (line : ByteArray) (hb : BkOk b) (hs : line.size ≤ 1073741823) (hq : rdS (cutM 32 line) 0 = tPlan) (hc : WC (rdS (cutM 32 line) 0) false false false false false true false) : Ok P 11 [.one (.ptr (.k 0) 0), .one (.str line)] [some (.cells b.lent.atoms)] (.one (.str (lineM b (cutM 32 line)).2)) [some (.cells (lineM b (cutM 32 line)).1.lent.atoms)] := by
  have hbd := bkD_of hb
  have h6 := hbd.lm
  have h6' := hbd.lt
  have hw := tkWf_l hbd.td
  have hsp := split_ok line 32 (by omega)
  have h1 := cutM_pos 32 line
  have hle := cutM_le 32 line
  have e0 := Fact.mk ((wrap_eq (x := 2 + 0) (by omega) (by omega)).trans (show (2 : Int) + 0 = 2 by omega))
  have e1 := Fact.mk ((wrap_eq (x := 2 + 1) (by omega) (by omega)).trans (show (2 : Int) + 1 = 3 by omega))
  have e2 := Fact.mk ((wrap_eq (x := 2 + 2) (by omega) (by omega)).trans (show (2 : Int) + 2 = 4 by omega))
  have s0 := Fact.mk ((wrap_eq (x := 0 + 1) (by omega) (by omega)).trans (show (0 : Int) + 1 = 1 by omega))
  have s1 := Fact.mk ((wrap_eq (x := 1 + 1) (by omega) (by omega)).trans (show (1 : Int) + 1 = 2 by omega))
  have s2 := Fact.mk ((wrap_eq (x := 2 + 1) (by omega) (by omega)).trans (show (2 : Int) + 1 = 3 by omega))
  have hls := line_is no_sure32 (line := line) false ⟨fun h => (by cases h), fun h => absurd h.1 (by rw [hq]; decide)⟩
  by_cases hu : (cutM 32 line).length = 1
  · have hlp := line_is no_plan32 (line := line) true ⟨fun _ => ⟨hq, hu⟩, fun _ => rfl⟩
    have htx := text_ok b hb
    refine Ok.of_run (F := mk Tryz.f11 1) Tryz.func11 rfl rfl tabOk mixed rfl rfl rfl rfl rfl (Nat.le_of_ble_eq_true rfl) (Nat.le_of_ble_eq_true rfl) (.go 5000 ?_)
    rw [show lineM b (cutM 32 line) = (b, planS b) by rw [lineM_of hc]; unfold lineK; simp only [hu, show ¬ (1 = 5) by decide, show ¬ (1 = 2) by decide, Bool.false_eq_true, false_or, or_false, false_and, and_false, true_and, true_or, or_true, if_false, if_true, and_self]]
    clear hq
    repeat' (conv => arg 4; whnf); first | rw [hc.l] | rw [hc.v] | rw [hc.d] | rw [hc.r] | rw [hc.t] | rw [hc.p] | rw [hc.s] | rw [hlp] | rw [hls] | refine Run.ret ⟨?_, rfl⟩ | refine Run.condT ?_ | refine Run.condf ?_ | refine Run.condD (fun h => ?_) (fun h => ?_) | refine Run.condN (fun h => ?_) (fun h => ?_) | refine Run.condE (fun h => ?_) (fun h => ?_) | refine Run.condF (fun h => ?_) (fun h => ?_) | refine Run.condM (fun h => ?_) (fun h => ?_) | refine Run.condB (fun h => ?_) (fun h => ?_) | refine Run.check1 ?_ | (exfalso; omega) | refine Run.call (hsp) rfl ?_ | refine Run.need1 (by simp only [allP, true_and, and_true]; omega) ?_ | refine Run.need1 (by simp only [allP, true_and, and_true, e0.h, e1.h, e2.h]; omega) ?_ | refine Run.call (htx) rfl ?_
    all_goals first | rfl | (exfalso; omega) | trace_state
  · have hlp := line_is no_plan32 (line := line) false ⟨fun h => (by cases h), fun h => absurd h.2 hu⟩
    refine Ok.of_run (F := mk Tryz.f11 1) Tryz.func11 rfl rfl tabOk mixed rfl rfl rfl rfl rfl (Nat.le_of_ble_eq_true rfl) (Nat.le_of_ble_eq_true rfl) (.go 5000 ?_)
    rw [show lineM b (cutM 32 line) = (b, tBad) by rw [lineM_of hc]; unfold lineK; simp only [hu, Bool.false_eq_true, false_or, or_false, false_and, and_false, true_and, true_or, or_true, if_false, if_true, and_self]]
    clear hq
    repeat' (conv => arg 4; whnf); first | rw [hc.l] | rw [hc.v] | rw [hc.d] | rw [hc.r] | rw [hc.t] | rw [hc.p] | rw [hc.s] | rw [hlp] | rw [hls] | refine Run.ret ⟨?_, rfl⟩ | refine Run.condT ?_ | refine Run.condf ?_ | refine Run.condD (fun h => ?_) (fun h => ?_) | refine Run.condN (fun h => ?_) (fun h => ?_) | refine Run.condE (fun h => ?_) (fun h => ?_) | refine Run.condF (fun h => ?_) (fun h => ?_) | refine Run.condM (fun h => ?_) (fun h => ?_) | refine Run.condB (fun h => ?_) (fun h => ?_) | refine Run.check1 ?_ | (exfalso; omega) | refine Run.call (hsp) rfl ?_ | refine Run.need1 (by simp only [allP, true_and, and_true]; omega) ?_ | refine Run.need1 (by simp only [allP, true_and, and_true, e0.h, e1.h, e2.h]; omega) ?_
    all_goals first | rfl | (exfalso; omega) | trace_state
theorem line_sure (b : Bk) (line : ByteArray) (hb : BkOk b) (hs : line.size ≤ 1073741823) (hq : rdS (cutM 32 line) 0 = tSure) (hc : WC (rdS (cutM 32 line) 0) false false false false false false true) : Ok P 11 [.one (.ptr (.k 0) 0), .one (.str line)] [some (.cells b.lent.atoms)] (.one (.str (lineM b (cutM 32 line)).2)) [some (.cells (lineM b (cutM 32 line)).1.lent.atoms)] := by
  have hbd := bkD_of hb
  have h6 := hbd.lm
  have h6' := hbd.lt
  have hw := tkWf_l hbd.td
  have hsp := split_ok line 32 (by omega)
  have h1 := cutM_pos 32 line
  have hle := cutM_le 32 line
  have e0 := Fact.mk ((wrap_eq (x := 2 + 0) (by omega) (by omega)).trans (show (2 : Int) + 0 = 2 by omega))
  have e1 := Fact.mk ((wrap_eq (x := 2 + 1) (by omega) (by omega)).trans (show (2 : Int) + 1 = 3 by omega))
  have e2 := Fact.mk ((wrap_eq (x := 2 + 2) (by omega) (by omega)).trans (show (2 : Int) + 2 = 4 by omega))
  have s0 := Fact.mk ((wrap_eq (x := 0 + 1) (by omega) (by omega)).trans (show (0 : Int) + 1 = 1 by omega))
  have s1 := Fact.mk ((wrap_eq (x := 1 + 1) (by omega) (by omega)).trans (show (1 : Int) + 1 = 2 by omega))
  have s2 := Fact.mk ((wrap_eq (x := 2 + 1) (by omega) (by omega)).trans (show (2 : Int) + 1 = 3 by omega))
  have hlp := line_is no_plan32 (line := line) false ⟨fun h => (by cases h), fun h => absurd h.1 (by rw [hq]; decide)⟩
  by_cases hu : (cutM 32 line).length = 1
  · have hls := line_is no_sure32 (line := line) true ⟨fun _ => ⟨hq, hu⟩, fun _ => rfl⟩
    have hsu := sure_ok b hw
    refine Ok.of_run (F := mk Tryz.f11 1) Tryz.func11 rfl rfl tabOk mixed rfl rfl rfl rfl rfl (Nat.le_of_ble_eq_true rfl) (Nat.le_of_ble_eq_true rfl) (.go 5000 ?_)
    by_cases hsx : SureM b
    · rw [decide_eq_true hsx] at hsu
      rw [show lineM b (cutM 32 line) = (b, tYes) by rw [lineM_of hc]; unfold lineK; simp only [hu, if_pos hsx, Bool.false_eq_true, false_or, or_false, false_and, and_false, true_and, true_or, or_true, if_false, if_true, and_self]]
      clear hq
      repeat' (conv => arg 4; whnf); first | rw [hc.l] | rw [hc.v] | rw [hc.d] | rw [hc.r] | rw [hc.t] | rw [hc.p] | rw [hc.s] | rw [hlp] | rw [hls] | refine Run.ret ⟨?_, rfl⟩ | refine Run.condT ?_ | refine Run.condf ?_ | refine Run.condD (fun h => ?_) (fun h => ?_) | refine Run.condN (fun h => ?_) (fun h => ?_) | refine Run.condE (fun h => ?_) (fun h => ?_) | refine Run.condF (fun h => ?_) (fun h => ?_) | refine Run.condM (fun h => ?_) (fun h => ?_) | refine Run.condB (fun h => ?_) (fun h => ?_) | refine Run.check1 ?_ | (exfalso; omega) | refine Run.call (hsp) rfl ?_ | refine Run.need1 (by simp only [allP, true_and, and_true]; omega) ?_ | refine Run.need1 (by simp only [allP, true_and, and_true, e0.h, e1.h, e2.h]; omega) ?_ | refine Run.call (hsu) rfl ?_
      all_goals first | rfl | (exfalso; omega) | trace_state
    · rw [decide_eq_false hsx] at hsu
      rw [show lineM b (cutM 32 line) = (b, tNo) by rw [lineM_of hc]; unfold lineK; simp only [hu, if_neg hsx, Bool.false_eq_true, false_or, or_false, false_and, and_false, true_and, true_or, or_true, if_false, if_true, and_self]]
      clear hq
      repeat' (conv => arg 4; whnf); first | rw [hc.l] | rw [hc.v] | rw [hc.d] | rw [hc.r] | rw [hc.t] | rw [hc.p] | rw [hc.s] | rw [hlp] | rw [hls] | refine Run.ret ⟨?_, rfl⟩ | refine Run.condT ?_ | refine Run.condf ?_ | refine Run.condD (fun h => ?_) (fun h => ?_) | refine Run.condN (fun h => ?_) (fun h => ?_) | refine Run.condE (fun h => ?_) (fun h => ?_) | refine Run.condF (fun h => ?_) (fun h => ?_) | refine Run.condM (fun h => ?_) (fun h => ?_) | refine Run.condB (fun h => ?_) (fun h => ?_) | refine Run.check1 ?_ | (exfalso; omega) | refine Run.call (hsp) rfl ?_ | refine Run.need1 (by simp only [allP, true_and, and_true]; omega) ?_ | refine Run.need1 (by simp only [allP, true_and, and_true, e0.h, e1.h, e2.h]; omega) ?_ | refine Run.call (hsu) rfl ?_
      all_goals first | rfl | (exfalso; omega) | trace_state
  · have hls := line_is no_sure32 (line := line) false ⟨fun h => (by cases h), fun h => absurd h.2 hu⟩
    refine Ok.of_run (F := mk Tryz.f11 1) Tryz.func11 rfl rfl tabOk mixed rfl rfl rfl rfl rfl (Nat.le_of_ble_eq_true rfl) (Nat.le_of_ble_eq_true rfl) (.go 5000 ?_)
    rw [show lineM b (cutM 32 line) = (b, tBad) by rw [lineM_of hc]; unfold lineK; simp only [hu, Bool.false_eq_true, false_or, or_false, false_and, and_false, true_and, true_or, or_true, if_false, if_true, and_self]]
    clear hq
    repeat' (conv => arg 4; whnf); first | rw [hc.l] | rw [hc.v] | rw [hc.d] | rw [hc.r] | rw [hc.t] | rw [hc.p] | rw [hc.s] | rw [hlp] | rw [hls] | refine Run.ret ⟨?_, rfl⟩ | refine Run.condT ?_ | refine Run.condf ?_ | refine Run.condD (fun h => ?_) (fun h => ?_) | refine Run.condN (fun h => ?_) (fun h => ?_) | refine Run.condE (fun h => ?_) (fun h => ?_) | refine Run.condF (fun h => ?_) (fun h => ?_) | refine Run.condM (fun h => ?_) (fun h => ?_) | refine Run.condB (fun h => ?_) (fun h => ?_) | refine Run.check1 ?_ | (exfalso; omega) | refine Run.call (hsp) rfl ?_ | refine Run.need1 (by simp only [allP, true_and, and_true]; omega) ?_ | refine Run.need1 (by simp only [allP, true_and, and_true, e0.h, e1.h, e2.h]; omega) ?_
    all_goals first | rfl | (exfalso; omega) | trace_state
theorem line_none (b : Bk) (line : ByteArray) (hb : BkOk b) (hs : line.size ≤ 1073741823) (hq : rdS (cutM 32 line) 0 ≠ tPlan ∧ rdS (cutM 32 line) 0 ≠ tSure) (hc : WC (rdS (cutM 32 line) 0) false false false false false false false) : Ok P 11 [.one (.ptr (.k 0) 0), .one (.str line)] [some (.cells b.lent.atoms)] (.one (.str (lineM b (cutM 32 line)).2)) [some (.cells (lineM b (cutM 32 line)).1.lent.atoms)] := by
  have hbd := bkD_of hb
  have h6 := hbd.lm
  have h6' := hbd.lt
  have hw := tkWf_l hbd.td
  have hsp := split_ok line 32 (by omega)
  have h1 := cutM_pos 32 line
  have hle := cutM_le 32 line
  have e0 := Fact.mk ((wrap_eq (x := 2 + 0) (by omega) (by omega)).trans (show (2 : Int) + 0 = 2 by omega))
  have e1 := Fact.mk ((wrap_eq (x := 2 + 1) (by omega) (by omega)).trans (show (2 : Int) + 1 = 3 by omega))
  have e2 := Fact.mk ((wrap_eq (x := 2 + 2) (by omega) (by omega)).trans (show (2 : Int) + 2 = 4 by omega))
  have s0 := Fact.mk ((wrap_eq (x := 0 + 1) (by omega) (by omega)).trans (show (0 : Int) + 1 = 1 by omega))
  have s1 := Fact.mk ((wrap_eq (x := 1 + 1) (by omega) (by omega)).trans (show (1 : Int) + 1 = 2 by omega))
  have s2 := Fact.mk ((wrap_eq (x := 2 + 1) (by omega) (by omega)).trans (show (2 : Int) + 1 = 3 by omega))
  have hlp := line_is no_plan32 (line := line) false ⟨fun h => (by cases h), fun h => absurd h.1 hq.1⟩
  have hls := line_is no_sure32 (line := line) false ⟨fun h => (by cases h), fun h => absurd h.1 hq.2⟩
  refine Ok.of_run (F := mk Tryz.f11 1) Tryz.func11 rfl rfl tabOk mixed rfl rfl rfl rfl rfl (Nat.le_of_ble_eq_true rfl) (Nat.le_of_ble_eq_true rfl) (.go 5000 ?_)
  rw [show lineM b (cutM 32 line) = (b, tBad) by rw [lineM_of hc]; unfold lineK; simp only [Bool.false_eq_true, false_or, or_false, false_and, and_false, true_and, true_or, or_true, if_false, if_true, and_self]]
  clear hq
  repeat' (conv => arg 4; whnf); first | rw [hc.l] | rw [hc.v] | rw [hc.d] | rw [hc.r] | rw [hc.t] | rw [hc.p] | rw [hc.s] | rw [hlp] | rw [hls] | refine Run.ret ⟨?_, rfl⟩ | refine Run.condT ?_ | refine Run.condf ?_ | refine Run.condD (fun h => ?_) (fun h => ?_) | refine Run.condN (fun h => ?_) (fun h => ?_) | refine Run.condE (fun h => ?_) (fun h => ?_) | refine Run.condF (fun h => ?_) (fun h => ?_) | refine Run.condM (fun h => ?_) (fun h => ?_) | refine Run.condB (fun h => ?_) (fun h => ?_) | refine Run.check1 ?_ | (exfalso; omega) | refine Run.call (hsp) rfl ?_ | refine Run.need1 (by simp only [allP, true_and, and_true]; omega) ?_ | refine Run.need1 (by simp only [allP, true_and, and_true, e0.h, e1.h, e2.h]; omega) ?_
  all_goals first | rfl | (exfalso; omega) | trace_state
theorem answer_ok (b : Bk) (line : ByteArray) (hb : BkOk b) (hs : line.size ≤ 1073741823) : Ok P 11 [.one (.ptr (.k 0) 0), .one (.str line)] [some (.cells b.lent.atoms)] (.one (.str (lineM b (cutM 32 line)).2)) [some (.cells (lineM b (cutM 32 line)).1.lent.atoms)] := by
  rcases wc_any (rdS (cutM 32 line) 0) with ⟨hq, hc⟩ | ⟨hq, hc⟩ | ⟨hq, hc⟩ | ⟨hq, hc⟩ | ⟨hq, hc⟩ | ⟨hq, hc⟩ | ⟨hq, hc⟩ | ⟨hq, hq', hc⟩
  · exact line_land b line hb hs (by rw [hq]; decide) hc
  · exact line_leave b line hb hs (by rw [hq]; decide) hc
  · exact line_drop b line hb hs (by rw [hq]; decide) hc
  · exact line_round b line hb hs (by rw [hq]; decide) hc
  · exact line_tick b line hb hs (by rw [hq]; decide) hc
  · exact line_plan b line hb hs hq hc
  · exact line_sure b line hb hs hq hc
  · exact line_none b line hb hs ⟨hq, hq'⟩ hc
end Go.Proofs.YtlmdbeegmgfpnaaGreatDoor.AM

/- Sessions, whole; plain facts; no condition. -/
namespace Go.AM
set_option linter.unusedVariables false
set_option linter.unusedSimpArgs false
open Go.RowKit

abbrev tNl : ByteArray := ⟨#[10]⟩
abbrev tLong : ByteArray := ⟨#[116, 111, 111, 32, 108, 111, 110, 103, 10]⟩
def bk0 : Bk := ⟨0, 2, [], []⟩
theorem bk0_ok : BkOk bk0 := by decide
theorem splL_mem (c : UInt8) : ∀ (l : List UInt8) (p : List UInt8), p ∈ splL c l → p.length ≤ l.length
  | [], p, h => by simp only [splL, List.mem_singleton] at h; subst h; exact Nat.le_refl _
  | x :: xs, p, h => by
    rw [splL_cons] at h
    split at h
    · rcases List.mem_cons.1 h with rfl | h
      · exact Nat.zero_le _
      · have := splL_mem c xs p h
        simp only [List.length_cons]; omega
    · cases hq : splL c xs with
      | nil => exact absurd hq (splL_ne c xs)
      | cons q qs =>
        rw [hq] at h
        rcases List.mem_cons.1 h with rfl | h
        · have := splL_mem c xs q (by rw [hq]; simp)
          simp only [List.length_cons]; omega
        · have := splL_mem c xs p (by rw [hq]; simp [h])
          simp only [List.length_cons]; omega
theorem cutM_mem {c : UInt8} {s p : ByteArray} (h : p ∈ cutM c s) : p.size ≤ s.size := by
  unfold cutM at h
  obtain ⟨l, h1, rfl⟩ := List.mem_map.1 h
  have := splL_mem c _ l h1
  show l.toArray.size ≤ s.size
  rw [List.size_toArray]
  exact this
theorem cutM_get {c : UInt8} {s : ByteArray} {i : Nat} (h : i < (cutM c s).length) : (rdS (cutM c s) (i : Int)).size ≤ s.size := by
  unfold rdS
  rw [Int.toNat_natCast, List.getD_eq_getElem?_getD, List.getElem?_eq_getElem h]
  exact cutM_mem (List.getElem_mem h)
def lastE (s : ByteArray) : Bool := (rdS (cutM 10 s) (((cutM 10 s).length - 1 : Nat) : Int)).toList == tE.toList
def cntM (s : ByteArray) : Nat := if lastE s = true then (cutM 10 s).length - 1 else (cutM 10 s).length
theorem cntM_le (s : ByteArray) : cntM s ≤ (cutM 10 s).length := by unfold cntM; split <;> omega
def runM : Bk → ByteArray → List ByteArray → ByteArray
  | _, o, [] => o
  | b, o, l :: ls => runM (lineM b (cutM 32 l)).1 (o ++ (lineM b (cutM 32 l)).2 ++ tNl) ls
def sesM (s : ByteArray) : ByteArray := if 10000 < s.size ∨ 200 < cntM s then tLong else runM bk0 tE ((cutM 10 s).take (cntM s))
theorem run_step {L : List ByteArray} {m i : Nat} (h : i < m) (hm : m ≤ L.length) (b : Bk) (o : ByteArray) :
    runM b o ((L.take m).drop i) = runM (lineM b (cutM 32 (rdS L (i : Int)))).1 (o ++ (lineM b (cutM 32 (rdS L (i : Int)))).2 ++ tNl) ((L.take m).drop (i + 1)) := by
  have hl : i < (L.take m).length := by rw [List.length_take]; omega
  have e : (L.take m)[i] = rdS L (i : Int) := by
    unfold rdS
    rw [Int.toNat_natCast, List.getElem_take, List.getD_eq_getElem?_getD, List.getElem?_eq_getElem (by omega)]
    rfl
  rw [List.drop_eq_getElem_cons hl, e]
  rfl
theorem run_end {L : List ByteArray} {m i : Nat} (h : m ≤ i) (b : Bk) (o : ByteArray) : runM b o ((L.take m).drop i) = o := by
  rw [List.drop_of_length_le (by rw [List.length_take]; omega)]
  rfl
theorem runM_size : ∀ (ls : List ByteArray) (b : Bk) (o : ByteArray), BkOk b → (runM b o ls).size ≤ o.size + 2001 * ls.length
  | [], _, o, _ => by simp [runM]
  | l :: ls, b, o, hb => by
    obtain ⟨h1, h2⟩ := line_ok hb (cutM 32 l)
    have := runM_size ls (lineM b (cutM 32 l)).1 (o ++ (lineM b (cutM 32 l)).2 ++ tNl) h1
    have e : tNl.size = 1 := rfl
    rw [app_size, app_size] at this
    simp only [runM, List.length_cons]
    omega
theorem sesM_size (s : ByteArray) : (sesM s).size ≤ 400200 := by
  unfold sesM
  split
  · decide
  · rename_i h
    have := runM_size ((cutM 10 s).take (cntM s)) bk0 tE bk0_ok
    have e : tE.size = 0 := rfl
    rw [List.length_take] at this
    omega
end Go.AM

/- A session, on both sides; condition: the size. -/
namespace Go.Proofs.YtlmdbeegmgfpnaaGreatDoor.AM
open Go.AM Go.RowKit
set_option linter.unusedVariables false
set_option linter.unusedSimpArgs false
set_option maxRecDepth 100000

theorem tNl_size : tNl.size = 1 := rfl
theorem ssession_ok (s : ByteArray) (hs : s.size ≤ 1073741822) : Ok P 5 [.one (.str s)] [] (.one (.str (sesM s))) [] := by
  have hcu := scut_ok s 10 (by omega) 10 rfl
  have h1 := cutM_pos 10 s
  have hle := cutM_le 10 s
  have hget := fun i h => cutM_get (c := 10) (s := s) (i := i) h
  have ew := Fact.mk (wrap_pred (z := ((cutM 10 s).length : Int)) (j := (cutM 10 s).length - 1) (by omega) (by omega))
  have hwt : (wrap64 (((cutM 10 s).length : Int) - 1)).toNat = (cutM 10 s).length - 1 := by rw [ew.h, Int.toNat_natCast]
  have hlast : ((rdS (cutM 10 s) (wrap64 (((cutM 10 s).length : Int) - 1))).toList == tE.toList) = lastE s := by rw [ew.h]; rfl
  have hcnt : cntM s = if lastE s = true then (cutM 10 s).length - 1 else (cutM 10 s).length := rfl
  have hses : sesM s = if 10000 < s.size ∨ 200 < cntM s then tLong else runM bk0 tE (((cutM 10 s).take (cntM s)).drop 0) := rfl
  generalize hL : cutM 10 s = L at *
  generalize lastE s = e at *
  generalize hm : cntM s = m at *
  refine Ok.of_run (F := mk Tryz.f5 0) Tryz.func5 rfl rfl tabOk mixed rfl rfl rfl rfl rfl (Nat.le_of_ble_eq_true rfl) (Nat.le_of_ble_eq_true rfl) (.go 5000 ?_)
  have body : ∀ (a : A), (a = .own (.t 10 0) ∧ m = L.length ∨ ∃ m', a = .sub (.t 10 0) 0 m' ∧ m' = m ∧ m = L.length - 1) → s.size ≤ 10000 → m ≤ 200 → ∀ (d i : Nat) (z : Int) (b : Bk) (o : ByteArray), z = i → i + d = m → BkOk b → o.size ≤ 2001 * i → runM b o ((L.take m).drop i) = runM bk0 tE ((L.take m).drop 0) →
      Run P (mk Tryz.f5 0) (fun v st => v = .one (.str (runM bk0 tE ((L.take m).drop 0))) ∧ st = [])
        (.loop ⟨[(3, .one a), (4, .one (.ptr (.t 4 0) 0)), (5, .one (.str o)), (6, .one (.int .i64 z))], [(.t 4 0, some (.cells b.lent.atoms)), (.t 10 0, some (.row .str L))], [.lp [0, 1, 0, 1, 1, 1, 1, 1, 1], .blk 0, .code [1, 1, 1, 1, 1, 1, 1]], none⟩) := by
    intro a ha hsz hm2 d
    induction d with
    | zero =>
      intro i z b o hz hd hb ho he
      subst hz
      rw [run_end (by omega)] at he
      rw [← he]
      rcases ha with ⟨rfl, hml⟩ | ⟨_, rfl, rfl, hml⟩
      · refine Run.loop ?_
        repeat' (conv => arg 4; whnf); first | refine Run.ret ⟨?_, rfl⟩ | refine Run.condT ?_ | refine Run.condf ?_ | refine Run.condD (fun h => ?_) (fun h => ?_) | refine Run.condN (fun h => ?_) (fun h => ?_) | refine Run.condE (fun h => ?_) (fun h => ?_) | refine Run.condF (fun h => ?_) (fun h => ?_) | refine Run.condM (fun h => ?_) (fun h => ?_) | refine Run.condB (fun h => ?_) (fun h => ?_) | refine Run.check1 ?_ | (exfalso; omega)
        all_goals first | rfl | (exfalso; omega) | trace_state
      · refine Run.loop ?_
        repeat' (conv => arg 4; whnf); first | refine Run.ret ⟨?_, rfl⟩ | refine Run.condT ?_ | refine Run.condf ?_ | refine Run.condD (fun h => ?_) (fun h => ?_) | refine Run.condN (fun h => ?_) (fun h => ?_) | refine Run.condE (fun h => ?_) (fun h => ?_) | refine Run.condF (fun h => ?_) (fun h => ?_) | refine Run.condM (fun h => ?_) (fun h => ?_) | refine Run.condB (fun h => ?_) (fun h => ?_) | refine Run.check1 ?_ | (exfalso; omega)
        all_goals first | rfl | (exfalso; omega) | trace_state
    | succ d ih =>
      intro i z b o hz hd hb ho he
      subst hz
      have et := fs (i := i) (by omega)
      rw [run_step (by omega) (by omega)] at he
      have hg := hget i (by omega)
      obtain ⟨k1, k2⟩ := line_ok hb (cutM 32 (rdS L (i : Int)))
      have hs2 : (o ++ (lineM b (cutM 32 (rdS L (i : Int)))).2 ++ tNl).size ≤ 2001 * (i + 1) := by rw [app_size, app_size, tNl_size]; omega
      have hcl := scut_ok (rdS L (i : Int)) 32 (by omega) 32 rfl
      have hpos := cutM_pos 32 (rdS L (i : Int))
      have hlen := cutM_le 32 (rdS L (i : Int))
      have hli := sline_ok b (cutM 32 (rdS L (i : Int))) hb hpos (by omega)
      generalize lineM b (cutM 32 (rdS L (i : Int))) = r at *
      obtain ⟨b', t⟩ := r
      dsimp only at k1 k2 hs2 he hli
      rcases ha with ⟨rfl, hml⟩ | ⟨_, rfl, rfl, hml⟩
      · clear hget hcnt hses hcu hlast
        refine Run.loop ?_
        repeat' (conv => arg 4; whnf); first | refine Run.ret ⟨?_, rfl⟩ | refine Run.condT ?_ | refine Run.condf ?_ | refine Run.condD (fun h => ?_) (fun h => ?_) | refine Run.condN (fun h => ?_) (fun h => ?_) | refine Run.condE (fun h => ?_) (fun h => ?_) | refine Run.condF (fun h => ?_) (fun h => ?_) | refine Run.condM (fun h => ?_) (fun h => ?_) | refine Run.condB (fun h => ?_) (fun h => ?_) | refine Run.check1 ?_ | (exfalso; omega) | refine Run.call (hcl) rfl ?_ | refine Run.call (hli) rfl ?_ | refine Run.need1 (by simp only [allP, true_and, and_true]; omega) ?_ | refine Run.need1 (by simp only [allP, true_and, and_true, tNl_size, app_size]; omega) ?_ | refine Run.round ⟨[(.t 4 0, .t 4 0), (.t 10 0, .t 10 0)], [], []⟩ (ih (i + 1) _ b' _ et.h (by omega) k1 ?_ ?_) rfl (by (repeat' (first | exact wkEnv_nil | refine wkEnv_cons rfl ?_ | exact wkSto_nil | refine wkSto_none ?_ | refine wkSto_some rfl ?_)); done) (by (repeat' (first | exact wkEnv_nil | refine wkEnv_cons rfl ?_ | exact wkSto_nil | refine wkSto_none ?_ | refine wkSto_some rfl ?_)); done)
        all_goals first | exact hs2 | exact he | (exfalso; omega) | trace_state
      · clear hget hcnt hses hcu hlast
        have hz0 : ((0 : Nat) : Int) + (i : Int) = (i : Int) := by omega
        refine Run.loop ?_
        repeat' (conv => arg 4; whnf); first | rw [hz0] | refine Run.ret ⟨?_, rfl⟩ | refine Run.condT ?_ | refine Run.condf ?_ | refine Run.condD (fun h => ?_) (fun h => ?_) | refine Run.condN (fun h => ?_) (fun h => ?_) | refine Run.condE (fun h => ?_) (fun h => ?_) | refine Run.condF (fun h => ?_) (fun h => ?_) | refine Run.condM (fun h => ?_) (fun h => ?_) | refine Run.condB (fun h => ?_) (fun h => ?_) | refine Run.check1 ?_ | (exfalso; omega) | refine Run.call (hcl) rfl ?_ | refine Run.call (hli) rfl ?_ | refine Run.need1 (by simp only [allP, true_and, and_true]; omega) ?_ | refine Run.need1 (by simp only [allP, true_and, and_true, tNl_size, app_size]; omega) ?_ | refine Run.round ⟨[(.t 4 0, .t 4 0), (.t 10 0, .t 10 0)], [], []⟩ (ih (i + 1) _ b' _ et.h (by omega) k1 ?_ ?_) rfl (by (repeat' (first | exact wkEnv_nil | refine wkEnv_cons rfl ?_ | exact wkSto_nil | refine wkSto_none ?_ | refine wkSto_some rfl ?_)); done) (by (repeat' (first | exact wkEnv_nil | refine wkEnv_cons rfl ?_ | exact wkSto_nil | refine wkSto_none ?_ | refine wkSto_some rfl ?_)); done)
        all_goals first | exact hs2 | exact he | (exfalso; omega) | trace_state
  cases e with
  | true =>
    rw [if_pos rfl] at hcnt
    have hwn := hwt.trans hcnt.symm
    by_cases hbig : 10000 < s.size ∨ 200 < m
    · rw [if_pos hbig] at hses
      rw [hses]
      repeat' (conv => arg 4; whnf); first | rw [hlast] | refine Run.ret ⟨?_, rfl⟩ | refine Run.condT ?_ | refine Run.condf ?_ | refine Run.condD (fun h => ?_) (fun h => ?_) | refine Run.condN (fun h => ?_) (fun h => ?_) | refine Run.condE (fun h => ?_) (fun h => ?_) | refine Run.condF (fun h => ?_) (fun h => ?_) | refine Run.condM (fun h => ?_) (fun h => ?_) | refine Run.condB (fun h => ?_) (fun h => ?_) | refine Run.check1 ?_ | refine Run.call (hcu) rfl ?_ | refine Run.need1 (by simp only [allP, true_and, and_true, ew.h]; omega) ?_ | (exfalso; simp only [ew.h] at *; omega)
      all_goals first | rfl | (exfalso; omega) | trace_state
    · rw [if_neg hbig] at hses
      rw [hses]
      repeat' (conv => arg 4; whnf); first | rw [hlast] | refine Run.ret ⟨?_, rfl⟩ | refine Run.condT ?_ | refine Run.condf ?_ | refine Run.condD (fun h => ?_) (fun h => ?_) | refine Run.condN (fun h => ?_) (fun h => ?_) | refine Run.condE (fun h => ?_) (fun h => ?_) | refine Run.condF (fun h => ?_) (fun h => ?_) | refine Run.condM (fun h => ?_) (fun h => ?_) | refine Run.condB (fun h => ?_) (fun h => ?_) | refine Run.check1 ?_ | refine Run.call (hcu) rfl ?_ | refine Run.need1 (by simp only [allP, true_and, and_true, ew.h]; omega) ?_ | (exfalso; simp only [ew.h] at *; omega) | refine Run.round ⟨[(.t 4 0, .t 4 0), (.t 10 0, .t 10 0)], [], []⟩ (body _ (.inr ⟨_, rfl, hwn, hcnt⟩) (by omega) (by omega) m 0 _ bk0 _ rfl (by omega) bk0_ok (Nat.zero_le _) rfl) rfl (by (repeat' (first | exact wkEnv_nil | refine wkEnv_cons rfl ?_ | exact wkSto_nil | refine wkSto_none ?_ | refine wkSto_some rfl ?_)); done) (by (repeat' (first | exact wkEnv_nil | refine wkEnv_cons rfl ?_ | exact wkSto_nil | refine wkSto_none ?_ | refine wkSto_some rfl ?_)); done)
      all_goals first | rfl | (exfalso; omega) | trace_state
  | false =>
    rw [if_neg (by decide)] at hcnt
    by_cases hbig : 10000 < s.size ∨ 200 < m
    · rw [if_pos hbig] at hses
      rw [hses]
      repeat' (conv => arg 4; whnf); first | rw [hlast] | refine Run.ret ⟨?_, rfl⟩ | refine Run.condT ?_ | refine Run.condf ?_ | refine Run.condD (fun h => ?_) (fun h => ?_) | refine Run.condN (fun h => ?_) (fun h => ?_) | refine Run.condE (fun h => ?_) (fun h => ?_) | refine Run.condF (fun h => ?_) (fun h => ?_) | refine Run.condM (fun h => ?_) (fun h => ?_) | refine Run.condB (fun h => ?_) (fun h => ?_) | refine Run.check1 ?_ | refine Run.call (hcu) rfl ?_ | refine Run.need1 (by simp only [allP, true_and, and_true, ew.h]; omega) ?_ | (exfalso; omega)
      all_goals first | rfl | (exfalso; omega) | trace_state
    · rw [if_neg hbig] at hses
      rw [hses]
      repeat' (conv => arg 4; whnf); first | rw [hlast] | refine Run.ret ⟨?_, rfl⟩ | refine Run.condT ?_ | refine Run.condf ?_ | refine Run.condD (fun h => ?_) (fun h => ?_) | refine Run.condN (fun h => ?_) (fun h => ?_) | refine Run.condE (fun h => ?_) (fun h => ?_) | refine Run.condF (fun h => ?_) (fun h => ?_) | refine Run.condM (fun h => ?_) (fun h => ?_) | refine Run.condB (fun h => ?_) (fun h => ?_) | refine Run.check1 ?_ | refine Run.call (hcu) rfl ?_ | refine Run.need1 (by simp only [allP, true_and, and_true, ew.h]; omega) ?_ | (exfalso; omega) | refine Run.round ⟨[(.t 4 0, .t 4 0), (.t 10 0, .t 10 0)], [], []⟩ (body _ (.inl ⟨rfl, hcnt⟩) (by omega) (by omega) m 0 _ bk0 _ rfl (by omega) bk0_ok (Nat.zero_le _) rfl) rfl (by (repeat' (first | exact wkEnv_nil | refine wkEnv_cons rfl ?_ | exact wkSto_nil | refine wkSto_none ?_ | refine wkSto_some rfl ?_)); done) (by (repeat' (first | exact wkEnv_nil | refine wkEnv_cons rfl ?_ | exact wkSto_nil | refine wkSto_none ?_ | refine wkSto_some rfl ?_)); done)
      all_goals first | rfl | (exfalso; omega) | trace_state
theorem session_ok (s : ByteArray) (hs : s.size ≤ 1073741822) : Ok P 6 [.one (.str s)] [] (.one (.str (sesM s))) [] := by
  have hcu := split_ok s 10 (by omega)
  have h1 := cutM_pos 10 s
  have hle := cutM_le 10 s
  have hget := fun i h => cutM_get (c := 10) (s := s) (i := i) h
  have ew := Fact.mk (wrap_pred (z := ((cutM 10 s).length : Int)) (j := (cutM 10 s).length - 1) (by omega) (by omega))
  have hwt : (wrap64 (((cutM 10 s).length : Int) - 1)).toNat = (cutM 10 s).length - 1 := by rw [ew.h, Int.toNat_natCast]
  have hlast : ((rdS (cutM 10 s) (wrap64 (((cutM 10 s).length : Int) - 1))).toList == tE.toList) = lastE s := by rw [ew.h]; rfl
  have hcnt : cntM s = if lastE s = true then (cutM 10 s).length - 1 else (cutM 10 s).length := rfl
  have hses : sesM s = if 10000 < s.size ∨ 200 < cntM s then tLong else runM bk0 tE (((cutM 10 s).take (cntM s)).drop 0) := rfl
  generalize hL : cutM 10 s = L at *
  generalize lastE s = e at *
  generalize hm : cntM s = m at *
  refine Ok.of_run (F := mk Tryz.f6 0) Tryz.func6 rfl rfl tabOk mixed rfl rfl rfl rfl rfl (Nat.le_of_ble_eq_true rfl) (Nat.le_of_ble_eq_true rfl) (.go 5000 ?_)
  have body : ∀ (a : A) (y : Int), y = (m : Int) → (a = .own (.t 9 0) ∧ m = L.length ∨ ∃ m', a = .sub (.t 9 0) 0 m' ∧ m' = m ∧ m = L.length - 1) → s.size ≤ 10000 → m ≤ 200 → ∀ (d i : Nat) (z : Int) (b : Bk) (o : ByteArray), z = i → i + d = m → BkOk b → o.size ≤ 2001 * i → runM b o ((L.take m).drop i) = runM bk0 tE ((L.take m).drop 0) →
      Run P (mk Tryz.f6 0) (fun v st => v = .one (.str (runM bk0 tE ((L.take m).drop 0))) ∧ st = [])
        (.loop ⟨[(4, .one (.ptr (.t 32 0) 0)), (5, .one (.str o)), (33, .one a), (34, .one (.int .i64 y)), (35, .one (.int .i64 z))], [(.t 9 0, some (.row .str L)), (.t 32 0, some (.cells b.lent.atoms))], [.lp [0, 1, 0, 1, 1, 1, 1, 1, 1], .blk 0, .code [1, 1, 1, 1, 1, 1, 1]], none⟩) := by
    intro a y hy ha hsz hm2 d
    subst hy
    induction d with
    | zero =>
      intro i z b o hz hd hb ho he
      subst hz
      rw [run_end (by omega)] at he
      rw [← he]
      rcases ha with ⟨rfl, hml⟩ | ⟨_, rfl, rfl, hml⟩
      · refine Run.loop ?_
        repeat' (conv => arg 4; whnf); first | refine Run.ret ⟨?_, rfl⟩ | refine Run.condT ?_ | refine Run.condf ?_ | refine Run.condD (fun h => ?_) (fun h => ?_) | refine Run.condN (fun h => ?_) (fun h => ?_) | refine Run.condE (fun h => ?_) (fun h => ?_) | refine Run.condF (fun h => ?_) (fun h => ?_) | refine Run.condM (fun h => ?_) (fun h => ?_) | refine Run.condB (fun h => ?_) (fun h => ?_) | refine Run.check1 ?_ | (exfalso; omega)
        all_goals first | rfl | (exfalso; omega) | trace_state
      · refine Run.loop ?_
        repeat' (conv => arg 4; whnf); first | refine Run.ret ⟨?_, rfl⟩ | refine Run.condT ?_ | refine Run.condf ?_ | refine Run.condD (fun h => ?_) (fun h => ?_) | refine Run.condN (fun h => ?_) (fun h => ?_) | refine Run.condE (fun h => ?_) (fun h => ?_) | refine Run.condF (fun h => ?_) (fun h => ?_) | refine Run.condM (fun h => ?_) (fun h => ?_) | refine Run.condB (fun h => ?_) (fun h => ?_) | refine Run.check1 ?_ | (exfalso; omega)
        all_goals first | rfl | (exfalso; omega) | trace_state
    | succ d ih =>
      intro i z b o hz hd hb ho he
      subst hz
      have et := fs (i := i) (by omega)
      rw [run_step (by omega) (by omega)] at he
      have hg := hget i (by omega)
      obtain ⟨k1, k2⟩ := line_ok hb (cutM 32 (rdS L (i : Int)))
      rw [ByteArray.append_assoc] at he
      have hs2 : (o ++ ((lineM b (cutM 32 (rdS L (i : Int)))).2 ++ tNl)).size ≤ 2001 * (i + 1) := by rw [app_size, app_size, tNl_size]; omega
      have hli := answer_ok b (rdS L (i : Int)) hb (by omega)
      generalize lineM b (cutM 32 (rdS L (i : Int))) = r at *
      obtain ⟨b', t⟩ := r
      dsimp only at k1 k2 hs2 he hli
      rcases ha with ⟨rfl, hml⟩ | ⟨_, rfl, rfl, hml⟩
      · clear hget hcnt hses hcu hlast
        refine Run.loop ?_
        repeat' (conv => arg 4; whnf); first | refine Run.ret ⟨?_, rfl⟩ | refine Run.condT ?_ | refine Run.condf ?_ | refine Run.condD (fun h => ?_) (fun h => ?_) | refine Run.condN (fun h => ?_) (fun h => ?_) | refine Run.condE (fun h => ?_) (fun h => ?_) | refine Run.condF (fun h => ?_) (fun h => ?_) | refine Run.condM (fun h => ?_) (fun h => ?_) | refine Run.condB (fun h => ?_) (fun h => ?_) | refine Run.check1 ?_ | (exfalso; omega) | refine Run.call (hli) rfl ?_ | refine Run.need1 (by simp only [allP, true_and, and_true]; omega) ?_ | refine Run.need1 (by simp only [allP, true_and, and_true, tNl_size, app_size]; omega) ?_ | refine Run.round ⟨[(.t 9 0, .t 9 0), (.t 32 0, .t 32 0)], [], []⟩ (ih (i + 1) _ b' _ et.h (by omega) k1 ?_ ?_) rfl (by (repeat' (first | exact wkEnv_nil | refine wkEnv_cons rfl ?_ | exact wkSto_nil | refine wkSto_none ?_ | refine wkSto_some rfl ?_)); done) (by (repeat' (first | exact wkEnv_nil | refine wkEnv_cons rfl ?_ | exact wkSto_nil | refine wkSto_none ?_ | refine wkSto_some rfl ?_)); done)
        all_goals first | exact hs2 | exact he | (exfalso; omega) | trace_state
      · clear hget hcnt hses hcu hlast
        have hz0 : ((0 : Nat) : Int) + (i : Int) = (i : Int) := by omega
        refine Run.loop ?_
        repeat' (conv => arg 4; whnf); first | rw [hz0] | refine Run.ret ⟨?_, rfl⟩ | refine Run.condT ?_ | refine Run.condf ?_ | refine Run.condD (fun h => ?_) (fun h => ?_) | refine Run.condN (fun h => ?_) (fun h => ?_) | refine Run.condE (fun h => ?_) (fun h => ?_) | refine Run.condF (fun h => ?_) (fun h => ?_) | refine Run.condM (fun h => ?_) (fun h => ?_) | refine Run.condB (fun h => ?_) (fun h => ?_) | refine Run.check1 ?_ | (exfalso; omega) | refine Run.call (hli) rfl ?_ | refine Run.need1 (by simp only [allP, true_and, and_true]; omega) ?_ | refine Run.need1 (by simp only [allP, true_and, and_true, tNl_size, app_size]; omega) ?_ | refine Run.round ⟨[(.t 9 0, .t 9 0), (.t 32 0, .t 32 0)], [], []⟩ (ih (i + 1) _ b' _ et.h (by omega) k1 ?_ ?_) rfl (by (repeat' (first | exact wkEnv_nil | refine wkEnv_cons rfl ?_ | exact wkSto_nil | refine wkSto_none ?_ | refine wkSto_some rfl ?_)); done) (by (repeat' (first | exact wkEnv_nil | refine wkEnv_cons rfl ?_ | exact wkSto_nil | refine wkSto_none ?_ | refine wkSto_some rfl ?_)); done)
        all_goals first | exact hs2 | exact he | (exfalso; omega) | trace_state
  cases e with
  | true =>
    rw [if_pos rfl] at hcnt
    have hwn := hwt.trans hcnt.symm
    by_cases hbig : 10000 < s.size ∨ 200 < m
    · rw [if_pos hbig] at hses
      rw [hses]
      repeat' (conv => arg 4; whnf); first | rw [hlast] | refine Run.ret ⟨?_, rfl⟩ | refine Run.condT ?_ | refine Run.condf ?_ | refine Run.condD (fun h => ?_) (fun h => ?_) | refine Run.condN (fun h => ?_) (fun h => ?_) | refine Run.condE (fun h => ?_) (fun h => ?_) | refine Run.condF (fun h => ?_) (fun h => ?_) | refine Run.condM (fun h => ?_) (fun h => ?_) | refine Run.condB (fun h => ?_) (fun h => ?_) | refine Run.check1 ?_ | refine Run.call (hcu) rfl ?_ | refine Run.need1 (by simp only [allP, true_and, and_true, ew.h]; omega) ?_ | (exfalso; simp only [ew.h] at *; omega)
      all_goals first | rfl | (exfalso; omega) | trace_state
    · rw [if_neg hbig] at hses
      rw [hses]
      repeat' (conv => arg 4; whnf); first | rw [hlast] | refine Run.ret ⟨?_, rfl⟩ | refine Run.condT ?_ | refine Run.condf ?_ | refine Run.condD (fun h => ?_) (fun h => ?_) | refine Run.condN (fun h => ?_) (fun h => ?_) | refine Run.condE (fun h => ?_) (fun h => ?_) | refine Run.condF (fun h => ?_) (fun h => ?_) | refine Run.condM (fun h => ?_) (fun h => ?_) | refine Run.condB (fun h => ?_) (fun h => ?_) | refine Run.check1 ?_ | refine Run.call (hcu) rfl ?_ | refine Run.need1 (by simp only [allP, true_and, and_true, ew.h]; omega) ?_ | (exfalso; simp only [ew.h] at *; omega) | refine Run.round ⟨[(.t 9 0, .t 9 0), (.t 32 0, .t 32 0)], [], []⟩ (body _ _ ?_ (.inr ⟨_, rfl, hwn, hcnt⟩) (by omega) (by omega) m 0 _ bk0 _ rfl (by omega) bk0_ok (Nat.zero_le _) rfl) rfl (by (repeat' (first | exact wkEnv_nil | refine wkEnv_cons rfl ?_ | exact wkSto_nil | refine wkSto_none ?_ | refine wkSto_some rfl ?_)); done) (by (repeat' (first | exact wkEnv_nil | refine wkEnv_cons rfl ?_ | exact wkSto_nil | refine wkSto_none ?_ | refine wkSto_some rfl ?_)); done)
      all_goals first | rfl | (rw [hwn]; done) | (rw [hcnt]; done) | (exfalso; omega) | trace_state
  | false =>
    rw [if_neg (by decide)] at hcnt
    by_cases hbig : 10000 < s.size ∨ 200 < m
    · rw [if_pos hbig] at hses
      rw [hses]
      repeat' (conv => arg 4; whnf); first | rw [hlast] | refine Run.ret ⟨?_, rfl⟩ | refine Run.condT ?_ | refine Run.condf ?_ | refine Run.condD (fun h => ?_) (fun h => ?_) | refine Run.condN (fun h => ?_) (fun h => ?_) | refine Run.condE (fun h => ?_) (fun h => ?_) | refine Run.condF (fun h => ?_) (fun h => ?_) | refine Run.condM (fun h => ?_) (fun h => ?_) | refine Run.condB (fun h => ?_) (fun h => ?_) | refine Run.check1 ?_ | refine Run.call (hcu) rfl ?_ | refine Run.need1 (by simp only [allP, true_and, and_true, ew.h]; omega) ?_ | (exfalso; omega)
      all_goals first | rfl | (exfalso; omega) | trace_state
    · rw [if_neg hbig] at hses
      rw [hses]
      repeat' (conv => arg 4; whnf); first | rw [hlast] | refine Run.ret ⟨?_, rfl⟩ | refine Run.condT ?_ | refine Run.condf ?_ | refine Run.condD (fun h => ?_) (fun h => ?_) | refine Run.condN (fun h => ?_) (fun h => ?_) | refine Run.condE (fun h => ?_) (fun h => ?_) | refine Run.condF (fun h => ?_) (fun h => ?_) | refine Run.condM (fun h => ?_) (fun h => ?_) | refine Run.condB (fun h => ?_) (fun h => ?_) | refine Run.check1 ?_ | refine Run.call (hcu) rfl ?_ | refine Run.need1 (by simp only [allP, true_and, and_true, ew.h]; omega) ?_ | (exfalso; omega) | refine Run.round ⟨[(.t 9 0, .t 9 0), (.t 32 0, .t 32 0)], [], []⟩ (body _ _ ?_ (.inl ⟨rfl, hcnt⟩) (by omega) (by omega) m 0 _ bk0 _ rfl (by omega) bk0_ok (Nat.zero_le _) rfl) rfl (by (repeat' (first | exact wkEnv_nil | refine wkEnv_cons rfl ?_ | exact wkSto_nil | refine wkSto_none ?_ | refine wkSto_some rfl ?_)); done) (by (repeat' (first | exact wkEnv_nil | refine wkEnv_cons rfl ?_ | exact wkSto_nil | refine wkSto_none ?_ | refine wkSto_some rfl ?_)); done)
      all_goals first | rfl | (rw [hwn]; done) | (rw [hcnt]; done) | (exfalso; omega) | trace_state
end Go.Proofs.YtlmdbeegmgfpnaaGreatDoor.AM

/- The reference's draws of numbers and moves: some answer within bounds; condition: a code of bytes, few draws before. -/
namespace Go.Proofs.YtlmdbeegmgfpnaaGreatDoor.AM
open Go.AM Go.RowKit
set_option linter.unusedVariables false
set_option linter.unusedSimpArgs false
set_option maxRecDepth 100000

theorem pick_ok {bs : List Int} (hb : Bytes bs) (p n : Int) (hp : 0 ≤ p ∧ p < 1099511627775) : ∃ k : Int, ((1 ≤ n → 0 ≤ k ∧ k < n) ∧ (n < 1 → k = 0)) ∧
    Ok P 13 [.one (.ptr (.k 0) 0), .one (.int .i64 n)] [some (.cells [.lst (.int .u8) bs false, .int .i64 p])] (.one (.int .i64 k)) [some (.cells [.lst (.int .u8) bs false, .int .i64 (p + 1)])] := by
  have e1 : Fact (wrap64 (p + 1) = p + 1) := fw (by omega)
  have e2 : Fact (wrap64 (p + 1 - 1) = p) := ⟨by rw [show p + 1 - 1 = p by omega]; exact wrap_eq (by omega) (by omega)⟩
  refine Ok.of_ex (F := mk Tryz.f13 1) Tryz.func13 rfl rfl tabOk mixed rfl rfl rfl rfl rfl (Nat.le_of_ble_eq_true rfl) (fun _ => Nat.le_of_ble_eq_true rfl) (.go 5000 ?_)
  by_cases hl : (bs.length : Int) = 0
  · repeat' (conv => arg 4; whnf); first | refine Run.ret ⟨?_, rfl⟩ | refine Run.condT ?_ | refine Run.condf ?_ | refine Run.condD (fun h => ?_) (fun h => ?_) | refine Run.condN (fun h => ?_) (fun h => ?_) | refine Run.condE (fun h => ?_) (fun h => ?_) | refine Run.condF (fun h => ?_) (fun h => ?_) | refine Run.condM (fun h => ?_) (fun h => ?_) | refine Run.condB (fun h => ?_) (fun h => ?_) | refine Run.check1 ?_ | (refine Run.ret ⟨_, ?_, rfl, ?_⟩) | (exfalso; omega)
    all_goals first | (exact ⟨fun h => by omega, fun _ => rfl⟩) | (rw [e1.h]) | (exfalso; omega) | trace_state
  · obtain ⟨g1, g2, g3⟩ := pick_big hb hp.1 (by omega) hl
    repeat' (conv => arg 4; whnf); first | refine Run.ret ⟨?_, rfl⟩ | refine Run.condT ?_ | refine Run.condf ?_ | refine Run.condD (fun h => ?_) (fun h => ?_) | refine Run.condN (fun h => ?_) (fun h => ?_) | refine Run.condE (fun h => ?_) (fun h => ?_) | refine Run.condF (fun h => ?_) (fun h => ?_) | refine Run.condM (fun h => ?_) (fun h => ?_) | refine Run.condB (fun h => ?_) (fun h => ?_) | refine Run.check1 ?_ | (refine Run.need1 (by simp only [allP, e1.h, e2.h, and_true]; first | exact g1 | exact g2 | exact ⟨by simp only [e1.h, e2.h] at *; omega, by simp only [e1.h, e2.h] at *; omega⟩ | omega) ?_) | (refine Run.ret ⟨_, ?_, rfl, ?_⟩) | (exfalso; omega)
    all_goals first
      | (rw [e1.h]; done)
      | exact ⟨fun h => absurd h (by omega), fun _ => rfl⟩
      | (simp only [e1.h, e2.h] at *
         refine tm ?_ (by assumption)
         exact g3 _ rfl)
      | (simp only [e1.h, e2.h] at *
         have hlt : p < (bs.length : Int) := by assumption
         refine tm ?_ (by assumption)
         have r := rd_byte hb hp.1 hlt
         rw [wrap_eq (by omega) (by omega)]
         exact r.1)
      | trace_state
theorem open_ok {bs : List Int} : Ok P 12 [.one (.lst (.int .u8) bs false)] [] (.one (.ptr (.k 0) 0)) [some (.cells [.lst (.int .u8) (bs.take 2000) false, .int .i64 0])] := by
  refine Ok.of_run (F := mk Tryz.f12 0) Tryz.func12 rfl rfl tabOk mixed rfl rfl rfl rfl rfl (Nat.le_of_ble_eq_true rfl) (Nat.le_of_ble_eq_true rfl) (.go 5000 ?_)
  by_cases h : 2000 < (bs.length : Int)
  · repeat' (conv => arg 4; whnf); first | refine Run.ret ⟨?_, rfl⟩ | refine Run.condT ?_ | refine Run.condf ?_ | refine Run.condD (fun h => ?_) (fun h => ?_) | refine Run.condN (fun h => ?_) (fun h => ?_) | refine Run.condE (fun h => ?_) (fun h => ?_) | refine Run.condF (fun h => ?_) (fun h => ?_) | refine Run.condM (fun h => ?_) (fun h => ?_) | refine Run.condB (fun h => ?_) (fun h => ?_) | refine Run.check1 ?_ | refine Run.need1 (by simp only [allP, true_and, and_true]; omega) ?_ | (exfalso; omega)
    all_goals rfl
  · rw [List.take_of_length_le (by omega)]
    repeat' (conv => arg 4; whnf); first | refine Run.ret ⟨?_, rfl⟩ | refine Run.condT ?_ | refine Run.condf ?_ | refine Run.condD (fun h => ?_) (fun h => ?_) | refine Run.condN (fun h => ?_) (fun h => ?_) | refine Run.condE (fun h => ?_) (fun h => ?_) | refine Run.condF (fun h => ?_) (fun h => ?_) | refine Run.condM (fun h => ?_) (fun h => ?_) | refine Run.condB (fun h => ?_) (fun h => ?_) | refine Run.check1 ?_ | refine Run.need1 (by simp only [allP, true_and, and_true]; omega) ?_ | (exfalso; omega)
    all_goals rfl
theorem bytes_take {bs : List Int} (h : Bytes bs) (n : Nat) : Bytes (bs.take n) := fun x hx => h x (List.mem_of_mem_take hx)
theorem move_ok {bs : List Int} (hb : Bytes bs) (p : Int) (s : ByteArray) (now : Int) (hp : 0 ≤ p ∧ p < 1099511627700) (hs : s.size ≤ 1000) : ∃ (m : Mv) (q : Int), (m.f0 = s ∧ MvD m ∧ p ≤ q ∧ q ≤ p + 7) ∧
    Ok P 14 [.one (.ptr (.k 0) 0), .one (.str s), .one (.int .i64 now)] [some (.cells [.lst (.int .u8) bs false, .int .i64 p])] (.agg (encMv m)) [some (.cells [.lst (.int .u8) bs false, .int .i64 q])] := by
  refine Ok.of_ex2 (F := mk Tryz.f14 1) Tryz.func14 rfl rfl tabOk mixed rfl rfl rfl rfl rfl (Nat.le_of_ble_eq_true rfl) (fun _ _ => Nat.le_of_ble_eq_true rfl) (.go 5000 ?_)
  repeat' (conv => arg 4; whnf); first | refine Run.ret ⟨?_, rfl⟩ | refine Run.condT ?_ | refine Run.condf ?_ | refine Run.condD (fun h => ?_) (fun h => ?_) | refine Run.condN (fun h => ?_) (fun h => ?_) | refine Run.condE (fun h => ?_) (fun h => ?_) | refine Run.condF (fun h => ?_) (fun h => ?_) | refine Run.condM (fun h => ?_) (fun h => ?_) | refine Run.condB (fun h => ?_) (fun h => ?_) | refine Run.check1 ?_ | refine Run.callE (pick_ok hb _ _ (by omega)) (fun _ => rfl) (fun x hx => ?_) | (refine Run.ret ⟨⟨_, _, _, _, _, _⟩, _, ⟨rfl, ⟨hs, ?_, ?_, ?_, ?_⟩, ?_, ?_⟩, mvE, rfl⟩)
  all_goals (try dsimp only)
  all_goals first
    | exact w64_wrap _
    | (exact w64_lit (by omega))
    | omega
    | trace_state
def txts : List ByteArray := [⟨#[97, 49]⟩, ⟨#[98, 97]⟩, ⟨#[99, 45, 99]⟩, ⟨#[100]⟩, ⟨#[107, 108, 49]⟩, ⟨#[108, 104]⟩]
theorem names_ok : Ok P 16 [] [] (.one (.own (.k 0))) [some (.row .str txts)] := by
  refine Ok.of_run (F := mk Tryz.f16 0) Tryz.func16 rfl rfl tabOk mixed rfl rfl rfl rfl rfl (Nat.le_of_ble_eq_true rfl) (Nat.le_of_ble_eq_true rfl) (.go 5000 ?_)
  repeat' (conv => arg 4; whnf); first | refine Run.ret ⟨?_, rfl⟩ | refine Run.condT ?_ | refine Run.condf ?_ | refine Run.condD (fun h => ?_) (fun h => ?_) | refine Run.condN (fun h => ?_) (fun h => ?_) | refine Run.condE (fun h => ?_) (fun h => ?_) | refine Run.condF (fun h => ?_) (fun h => ?_) | refine Run.condM (fun h => ?_) (fun h => ?_) | refine Run.condB (fun h => ?_) (fun h => ?_) | refine Run.check1 ?_
  all_goals rfl
end Go.Proofs.YtlmdbeegmgfpnaaGreatDoor.AM

/- The reference's draw of a session: some text of bounded size; condition: a code of bytes. -/
namespace Go.Proofs.YtlmdbeegmgfpnaaGreatDoor.AM
open Go.AM Go.RowKit
set_option linter.unusedVariables false
set_option linter.unusedSimpArgs false
set_option maxRecDepth 100000

def Sm (n : Nat) (x : Int) : Prop := 0 ≤ x ∧ x ≤ (n : Int) * 100000
theorem sm_lit {x : Int} (h : 0 ≤ x ∧ x ≤ 100000) : Sm 1 x := ⟨h.1, by omega⟩
theorem sm_add {i j : Nat} {a b : Int} (ha : Sm i a) (hb : Sm j b) (h : i + j ≤ 100) : Sm (i + j) (wrap64 (a + b)) := by
  unfold Sm at *
  rw [wrap_eq (by omega) (by omega)]
  omega
theorem sm_60 {n : Nat} {x : Int} (h : Sm n x) (hn : n ≤ 100) : W60 x := by unfold Sm at h; unfold W60; omega
theorem pickS_ok {bs : List Int} (hb : Bytes bs) (p n : Int) (hp : 0 ≤ p ∧ p < 1099511627775) (hn : 1 ≤ n ∧ n ≤ 100000) : ∃ k : Int, (Sm 1 k ∧ k < n) ∧
    Ok P 13 [.one (.ptr (.k 0) 0), .one (.int .i64 n)] [some (.cells [.lst (.int .u8) bs false, .int .i64 p])] (.one (.int .i64 k)) [some (.cells [.lst (.int .u8) bs false, .int .i64 (p + 1)])] := by
  obtain ⟨k, ⟨h1, _⟩, h⟩ := pick_ok hb p n hp
  obtain ⟨a, b⟩ := h1 hn.1
  exact ⟨k, ⟨sm_lit ⟨a, by omega⟩, b⟩, h⟩
theorem sm_of {k n : Int} (h : Sm 1 k ∧ k < n) : Sm 1 k := h.1
theorem moveS_ok {bs : List Int} (hb : Bytes bs) (p : Int) (s : ByteArray) (now : Int) (hp : 0 ≤ p ∧ p < 1099511627700) (hnow : Sm 1 now) (hs : s.size ≤ 1000) : ∃ (m : Mv) (q : Int), (m.f0.size ≤ 1000 ∧ W60 m.f2 ∧ W60 m.f3 ∧ W60 m.f4 ∧ p ≤ q ∧ q ≤ p + 7) ∧
    Ok P 14 [.one (.ptr (.k 0) 0), .one (.str s), .one (.int .i64 now)] [some (.cells [.lst (.int .u8) bs false, .int .i64 p])] (.agg (encMv m)) [some (.cells [.lst (.int .u8) bs false, .int .i64 q])] := by
  have l1 : Sm 1 1 := sm_lit (by omega)
  have l20 : Sm 1 20 := sm_lit (by omega)
  have lm : Sm 1 10000 := sm_lit (by omega)
  refine Ok.of_ex2 (F := mk Tryz.f14 1) Tryz.func14 rfl rfl tabOk mixed rfl rfl rfl rfl rfl (Nat.le_of_ble_eq_true rfl) (fun _ _ => Nat.le_of_ble_eq_true rfl) (.go 5000 ?_)
  repeat' (conv => arg 4; whnf); first | refine Run.ret ⟨?_, rfl⟩ | refine Run.condT ?_ | refine Run.condf ?_ | refine Run.condD (fun h => ?_) (fun h => ?_) | refine Run.condN (fun h => ?_) (fun h => ?_) | refine Run.condE (fun h => ?_) (fun h => ?_) | refine Run.condF (fun h => ?_) (fun h => ?_) | refine Run.condM (fun h => ?_) (fun h => ?_) | refine Run.condB (fun h => ?_) (fun h => ?_) | refine Run.check1 ?_ | refine Run.callE (pickS_ok hb _ _ (by omega) (by omega)) (fun _ => rfl) (fun k hk => ?_) | (refine Run.ret ⟨⟨_, _, _, _, _, _⟩, _, ⟨hs, ?_, ?_, ?_, ?_, ?_⟩, mvE, rfl⟩)
  all_goals (try dsimp only)
  all_goals first
    | exact sm_60 (n := 1) (by assumption) (by omega)
    | exact sm_60 (n := 1 + 1) (sm_add (by first | assumption | exact sm_of ‹_›) (by first | assumption | exact sm_of ‹_›) (by omega)) (by omega)
    | exact sm_60 (n := 1 + 1 + 1) (sm_add (sm_add (by first | assumption | exact sm_of ‹_›) (by first | assumption | exact sm_of ‹_›) (by omega)) (by first | assumption | exact sm_of ‹_›) (by omega)) (by omega)
    | exact sm_60 (n := 1 + 1 + 1 + 1) (sm_add (sm_add (sm_add (by first | assumption | exact sm_of ‹_›) (by first | assumption | exact sm_of ‹_›) (by omega)) (by first | assumption | exact sm_of ‹_›) (by omega)) (by first | assumption | exact sm_of ‹_›) (by omega)) (by omega)
    | omega
    | trace_state
theorem ofS_ok {bs : List Int} (hb : Bytes bs) (p : Int) (xs : List ByteArray) (hp : 0 ≤ p ∧ p < 1099511627700) (htx : Txt xs) (hl : 1 ≤ xs.length) (hl2 : xs.length ≤ 1000) : ∃ x : ByteArray, x.size ≤ 1000 ∧
    Ok P 15 [.one (.ptr (.k 0) 0), .one (.own (.k 1))] [some (.cells [.lst (.int .u8) bs false, .int .i64 p]), some (.row .str xs)] (.one (.str x)) [some (.cells [.lst (.int .u8) bs false, .int .i64 (p + 1)]), some (.row .str xs)] := by
  refine Ok.of_ex (F := mk Tryz.f15 2) Tryz.func15 rfl rfl tabOk mixed rfl rfl rfl rfl rfl (Nat.le_of_ble_eq_true rfl) (fun _ => Nat.le_of_ble_eq_true rfl) (.go 5000 ?_)
  repeat' (conv => arg 4; whnf); first | refine Run.ret ⟨?_, rfl⟩ | refine Run.condT ?_ | refine Run.condf ?_ | refine Run.condD (fun h => ?_) (fun h => ?_) | refine Run.condN (fun h => ?_) (fun h => ?_) | refine Run.condE (fun h => ?_) (fun h => ?_) | refine Run.condF (fun h => ?_) (fun h => ?_) | refine Run.condM (fun h => ?_) (fun h => ?_) | refine Run.condB (fun h => ?_) (fun h => ?_) | refine Run.check1 ?_ | refine Run.callE (pick_ok hb _ _ (by omega)) (fun _ => rfl) (fun x hx => ?_) | refine Run.need1 (by simp only [allP, true_and, and_true]; omega) ?_ | (refine Run.ret ⟨_, ?_, rfl, rfl⟩)
  all_goals exact txt_rd htx _
theorem txtsS_ok : Txt txts := by
  intro z hz
  simp only [txts, List.mem_cons, List.not_mem_nil, or_false] at hz
  rcases hz with rfl | rfl | rfl | rfl | rfl | rfl <;> decide
def linesS : List ByteArray := [⟨#[]⟩, ⟨#[119, 104, 97, 116]⟩, ⟨#[108, 97, 110, 100, 32, 97, 32, 49, 32, 49]⟩, ⟨#[108, 97, 110, 100, 32, 97, 32, 52, 32, 49, 32, 50]⟩, ⟨#[108, 97, 110, 100, 32, 97, 32, 49, 32, 50, 32, 49]⟩, ⟨#[116, 105, 99, 107]⟩, ⟨#[116, 105, 99, 107, 32, 49, 48, 49]⟩, ⟨#[116, 105, 99, 107, 32, 48, 49]⟩, ⟨#[100, 114, 111, 112]⟩, ⟨#[112, 108, 97, 110, 32, 120]⟩, ⟨#[108, 97, 110, 100, 32, 65, 32, 49, 32, 49, 32, 57]⟩, ⟨#[115, 117, 114, 101]⟩, ⟨#[115, 117, 114, 101, 32, 49]⟩]
theorem linesS_ok : Txt linesS := by
  intro z hz
  simp only [linesS, List.mem_cons, List.not_mem_nil, or_false] at hz
  rcases hz with rfl | rfl | rfl | rfl | rfl | rfl | rfl | rfl | rfl | rfl | rfl | rfl | rfl <;> decide
theorem sdecS_ok (n : Int) (hn : W60 n) : ∃ t : ByteArray, t.size ≤ 20 ∧ Ok P 17 [.one (.int .i64 n)] [] (.one (.str t)) [] := ⟨decM n, decM_size (w64_60 hn), sdecA_ok n hn⟩
theorem many_q {n : Nat} (h : n ≤ 4611686018427387904) : wrap64 ((n : Int).tdiv 2) = ((n / 2 : Nat) : Int) := by
  rw [show (n : Int).tdiv 2 = ((n / 2 : Nat) : Int) from rfl]
  exact wrap_eq (by omega) (by omega)
theorem many_ok (s : ByteArray) (n : Nat) (hn : n ≤ 100000) (h : s.size * n ≤ 100000) (hs : s.size ≤ 100000) : ∃ t : ByteArray, t.size ≤ 100000 ∧ Ok P 18 [.one (.str s), .one (.int .i64 (n : Int))] [] (.one (.str t)) [] := by
  refine Ok.of_ex (F := mk Tryz.f18 0) Tryz.func18 rfl rfl tabOk mixed rfl rfl rfl rfl rfl (Nat.le_of_ble_eq_true rfl) (fun _ => Nat.le_of_ble_eq_true rfl) (.go 5000 ?_)
  have loop : ∀ (n : Nat) (z : Int) (s o : ByteArray), z = n → n ≤ 100000 → o.size + s.size * n ≤ 100000 → s.size ≤ 1000000 → Run P (mk Tryz.f18 0) (fun v st => ∃ t : ByteArray, t.size ≤ 100000 ∧ v = .one (.str t) ∧ st = [])
      (.loop ⟨[(0, .one (.str s)), (1, .one (.int .i64 z)), (5, .one (.str o))], [], [.lp [0, 0, 1, 1], .blk 0, .code [1, 1, 1]], none⟩) := by
    intro n
    induction n using Nat.strongRecOn with
    | _ n ih =>
      intro z s o hz hn hb hs
      subst hz
      have e2 : (n : Int).tmod 2 = ((n % 2 : Nat) : Int) := rfl
      by_cases h0 : n = 0
      · subst h0
        refine Run.loop ?_
        repeat' (conv => arg 4; whnf); first | refine Run.ret ⟨?_, rfl⟩ | refine Run.condT ?_ | refine Run.condf ?_ | refine Run.condD (fun h => ?_) (fun h => ?_) | refine Run.condN (fun h => ?_) (fun h => ?_) | refine Run.condE (fun h => ?_) (fun h => ?_) | refine Run.condF (fun h => ?_) (fun h => ?_) | refine Run.condM (fun h => ?_) (fun h => ?_) | refine Run.condB (fun h => ?_) (fun h => ?_) | refine Run.check1 ?_ | (exfalso; omega) | (refine Run.ret ⟨_, ?_, rfl, rfl⟩)
        all_goals first | (exfalso; omega) | omega | trace_state
      · have hsn : s.size ≤ 100000 := by
          have := Nat.le_mul_of_pos_right s.size (show 0 < n by omega)
          omega
        have key : s.size * n = 2 * (s.size * (n / 2)) + s.size * (n % 2) := by
          have h1 : n = 2 * (n / 2) + n % 2 := by omega
          have h2 : s.size * n = s.size * (2 * (n / 2) + n % 2) := by rw [← h1]
          rw [h2, Nat.mul_add, Nat.mul_left_comm]
        have dbl : (s ++ s).size * (n / 2) = 2 * (s.size * (n / 2)) := by
          rw [ByteArray.size_append, Nat.add_mul]; omega
        have hsz : (s ++ s).size ≤ 1000000 := by rw [ByteArray.size_append]; omega
        have hb0 : n % 2 ≠ 1 → o.size + (s ++ s).size * (n / 2) ≤ 100000 := fun q => by
          rw [dbl]
          omega
        have hb1 : n % 2 = 1 → (o ++ s).size + (s ++ s).size * (n / 2) ≤ 100000 := fun q => by
          rw [dbl, ByteArray.size_append]
          rw [q, Nat.mul_one] at key
          omega
        by_cases hodd : n % 2 = 1
        · refine Run.loop ?_
          repeat' (conv => arg 4; whnf); first | rw [e2] | refine Run.ret ⟨?_, rfl⟩ | refine Run.condT ?_ | refine Run.condf ?_ | refine Run.condD (fun h => ?_) (fun h => ?_) | refine Run.condN (fun h => ?_) (fun h => ?_) | refine Run.condE (fun h => ?_) (fun h => ?_) | refine Run.condF (fun h => ?_) (fun h => ?_) | refine Run.condM (fun h => ?_) (fun h => ?_) | refine Run.condB (fun h => ?_) (fun h => ?_) | refine Run.check1 ?_ | (exfalso; omega) | refine Run.need1 (by simp only [allP, true_and, and_true, app_size]; omega) ?_ | refine Run.round ⟨[], [], []⟩ (ih (n / 2) (by omega) _ _ _ ?_ (by omega) (hb1 hodd) hsz) rfl (by (repeat' (first | exact wkEnv_nil | refine wkEnv_cons rfl ?_ | exact wkSto_nil | refine wkSto_none ?_ | refine wkSto_some rfl ?_)); done) (by (repeat' (first | exact wkEnv_nil | refine wkEnv_cons rfl ?_ | exact wkSto_nil | refine wkSto_none ?_ | refine wkSto_some rfl ?_)); done)
          all_goals first | (exfalso; omega) | exact many_q (by omega) | trace_state
        · refine Run.loop ?_
          repeat' (conv => arg 4; whnf); first | rw [e2] | refine Run.ret ⟨?_, rfl⟩ | refine Run.condT ?_ | refine Run.condf ?_ | refine Run.condD (fun h => ?_) (fun h => ?_) | refine Run.condN (fun h => ?_) (fun h => ?_) | refine Run.condE (fun h => ?_) (fun h => ?_) | refine Run.condF (fun h => ?_) (fun h => ?_) | refine Run.condM (fun h => ?_) (fun h => ?_) | refine Run.condB (fun h => ?_) (fun h => ?_) | refine Run.check1 ?_ | (exfalso; omega) | refine Run.need1 (by simp only [allP, true_and, and_true, app_size]; omega) ?_ | refine Run.round ⟨[], [], []⟩ (ih (n / 2) (by omega) _ _ _ ?_ (by omega) (hb0 hodd) hsz) rfl (by (repeat' (first | exact wkEnv_nil | refine wkEnv_cons rfl ?_ | exact wkSto_nil | refine wkSto_none ?_ | refine wkSto_some rfl ?_)); done) (by (repeat' (first | exact wkEnv_nil | refine wkEnv_cons rfl ?_ | exact wkSto_nil | refine wkSto_none ?_ | refine wkSto_some rfl ?_)); done)
          all_goals first | (exfalso; omega) | exact many_q (by omega) | trace_state
  repeat' (conv => arg 4; whnf); first | refine Run.ret ⟨?_, rfl⟩ | refine Run.condT ?_ | refine Run.condf ?_ | refine Run.condD (fun h => ?_) (fun h => ?_) | refine Run.condN (fun h => ?_) (fun h => ?_) | refine Run.condE (fun h => ?_) (fun h => ?_) | refine Run.condF (fun h => ?_) (fun h => ?_) | refine Run.condM (fun h => ?_) (fun h => ?_) | refine Run.condB (fun h => ?_) (fun h => ?_) | refine Run.check1 ?_ | refine Run.round ⟨[], [], []⟩ (loop n _ s _ rfl hn ?_ (by omega)) rfl (by (repeat' (first | exact wkEnv_nil | refine wkEnv_cons rfl ?_ | exact wkSto_nil | refine wkSto_none ?_ | refine wkSto_some rfl ?_)); done) (by (repeat' (first | exact wkEnv_nil | refine wkEnv_cons rfl ?_ | exact wkSto_nil | refine wkSto_none ?_ | refine wkSto_some rfl ?_)); done)
  all_goals first | (show 0 + _ ≤ _; omega) | trace_state
theorem bsz (l : List UInt8) : (⟨l.toArray⟩ : ByteArray).size = l.length := by show l.toArray.size = _; simp
set_option maxHeartbeats 1600000 in
theorem drawSes_ok {bs : List Int} (hbs : Bytes bs) : ∃ t : ByteArray, t.size ≤ 200000 ∧ Ok P 7 [.one (.lst (.int .u8) bs false)] [] (.one (.str t)) [] := by
  have hb := bytes_take hbs 2000
  generalize hbt : bs.take 2000 = bt at *
  have hop := open_ok (bs := bs)
  rw [hbt] at hop
  have hl6 : 1 ≤ txts.length := by decide
  have hl6' : txts.length ≤ 1000 := by decide
  have hl13 : 1 ≤ linesS.length := by decide
  have hl13' : linesS.length ≤ 1000 := by decide
  have em1 : ∀ k : Int, 0 ≤ k → k < 2 → ∃ n : Nat, wrap64 (200 + k) = (n : Int) ∧ n ≤ 201 := fun k h1 h2 => ⟨(200 + k).toNat, by rw [wrap_eq (by omega) (by omega)]; omega, by omega⟩
  have em2 : ∀ k : Int, 0 ≤ k → k < 2 → ∃ n : Nat, wrap64 (10000 + k) = (n : Int) ∧ n ≤ 10001 := fun k h1 h2 => ⟨(10000 + k).toNat, by rw [wrap_eq (by omega) (by omega)]; omega, by omega⟩
  have mn1 : ∀ k : Int, Sm 1 k ∧ k < 2 → ∃ t : ByteArray, t.size ≤ 100000 ∧ Ok P 18 [.one (.str ⟨#[115, 117, 114, 101, 10]⟩), .one (.int .i64 (wrap64 (200 + k)))] [] (.one (.str t)) [] := fun k h => by
    obtain ⟨n, e, hn⟩ := em1 k h.1.1 h.2
    rw [e]
    refine many_ok _ n (by omega) ?_ (by decide)
    show 5 * n ≤ 100000
    omega
  have mn2 : ∀ k : Int, Sm 1 k ∧ k < 2 → ∃ t : ByteArray, t.size ≤ 100000 ∧ Ok P 18 [.one (.str ⟨#[120]⟩), .one (.int .i64 (wrap64 (10000 + k)))] [] (.one (.str t)) [] := fun k h => by
    obtain ⟨n, e, hn⟩ := em2 k h.1.1 h.2
    rw [e]
    refine many_ok _ n (by omega) ?_ (by decide)
    show 1 * n ≤ 100000
    omega
  refine Ok.of_ex (F := mk Tryz.f7 0) Tryz.func7 rfl rfl tabOk mixed rfl rfl rfl rfl rfl (Nat.le_of_ble_eq_true rfl) (fun _ => Nat.le_of_ble_eq_true rfl) (.go 5000 ?_)
  have loop : ∀ (d : Nat) (z p : Int) (o : ByteArray), z = d → d ≤ 16 → 0 ≤ p ∧ p ≤ 30 * (17 - (d : Int)) → o.size ≤ 3000 * (17 - d) → Run P (mk Tryz.f7 0) (fun v st => ∃ t : ByteArray, t.size ≤ 200000 ∧ v = .one (.str t) ∧ st = [])
      (.loop ⟨[(3, .one (.ptr (.t 8 0) 0)), (4, .one (.str o)), (5, .one (.int .i64 z))], [(.t 8 0, some (.cells [.lst (.int .u8) bt false, .int .i64 p]))], [.lp [0, 1, 0, 1, 1, 1], .blk 0, .code [1, 1, 1, 1]], none⟩) := by
    intro d
    induction d with
    | zero =>
      intro z p o hz hd hp ho
      subst hz
      refine Run.loop ?_
      repeat' (conv => arg 4; whnf); first | refine Run.ret ⟨?_, rfl⟩ | refine Run.condT ?_ | refine Run.condf ?_ | refine Run.condD (fun h => ?_) (fun h => ?_) | refine Run.condN (fun h => ?_) (fun h => ?_) | refine Run.condE (fun h => ?_) (fun h => ?_) | refine Run.condF (fun h => ?_) (fun h => ?_) | refine Run.condM (fun h => ?_) (fun h => ?_) | refine Run.condB (fun h => ?_) (fun h => ?_) | refine Run.check1 ?_ | (exfalso; omega) | refine Run.callE (pickS_ok hb _ _ (by omega) (by omega)) (fun _ => rfl) (fun k hk => ?_) | refine Run.callE (mn1 _ hk) (fun _ => rfl) (fun t ht => ?_) | refine Run.callE (mn2 _ hk) (fun _ => rfl) (fun t ht => ?_) | refine Run.need1 (by simp only [allP, true_and, and_true, app_size, bsz, List.length_cons, List.length_nil]; omega) ?_ | (refine Run.ret ⟨_, ?_, rfl, rfl⟩)
      all_goals first | (exfalso; omega) | omega | (simp only [app_size, bsz, List.length_cons, List.length_nil]; omega) | trace_state
    | succ d ih =>
      intro z p o hz hd hp ho
      subst hz
      have hpr := wrap_pred (z := ((d + 1 : Nat) : Int)) rfl (by omega)
      refine Run.loop ?_
      repeat' (conv => arg 4; whnf); first | refine Run.ret ⟨?_, rfl⟩ | refine Run.condT ?_ | refine Run.condf ?_ | refine Run.condD (fun h => ?_) (fun h => ?_) | refine Run.condN (fun h => ?_) (fun h => ?_) | refine Run.condE (fun h => ?_) (fun h => ?_) | refine Run.condF (fun h => ?_) (fun h => ?_) | refine Run.condM (fun h => ?_) (fun h => ?_) | refine Run.condB (fun h => ?_) (fun h => ?_) | refine Run.check1 ?_ | (exfalso; omega) | refine Run.call (names_ok) rfl ?_ | refine Run.callE (ofS_ok hb _ txts (by omega) txtsS_ok hl6 hl6') (fun _ => rfl) (fun y hy => ?_) | refine Run.callE (ofS_ok hb _ linesS (by omega) linesS_ok hl13 hl13') (fun _ => rfl) (fun y hy => ?_) | refine Run.callE (pickS_ok hb _ _ (by omega) (by omega)) (fun _ => rfl) (fun k hk => ?_) | refine Run.callE2 (moveS_ok hb _ _ _ (by omega) hk.1 hy) (fun _ _ => rfl) (fun m q hm => ?_) | refine Run.callE (sdecS_ok _ hm.2.1) (fun _ => rfl) (fun t ht => ?_) | refine Run.callE (sdecS_ok _ hm.2.2.1) (fun _ => rfl) (fun t2 ht2 => ?_) | refine Run.callE (sdecS_ok _ hm.2.2.2.1) (fun _ => rfl) (fun t3 ht3 => ?_) | refine Run.callE (sdecS_ok _ (sm_60 hk.1 (by omega))) (fun _ => rfl) (fun t ht => ?_) | refine Run.need1 (by simp only [allP, true_and, and_true, app_size, bsz, List.length_cons, List.length_nil]; omega) ?_ | refine Run.round ⟨[(.t 8 0, .t 8 0)], [], []⟩ (ih _ _ _ hpr (by omega) ?_ ?_) rfl (by (repeat' (first | exact wkEnv_nil | refine wkEnv_cons rfl ?_ | exact wkSto_nil | refine wkSto_none ?_ | refine wkSto_some rfl ?_)); done) (by (repeat' (first | exact wkEnv_nil | refine wkEnv_cons rfl ?_ | exact wkSto_nil | refine wkSto_none ?_ | refine wkSto_some rfl ?_)); done)
      all_goals first
        | (exfalso; omega)
        | omega
        | (simp only [app_size, bsz, List.length_cons, List.length_nil]; omega)
        | trace_state
  repeat' (conv => arg 4; whnf); first | refine Run.ret ⟨?_, rfl⟩ | refine Run.condT ?_ | refine Run.condf ?_ | refine Run.condD (fun h => ?_) (fun h => ?_) | refine Run.condN (fun h => ?_) (fun h => ?_) | refine Run.condE (fun h => ?_) (fun h => ?_) | refine Run.condF (fun h => ?_) (fun h => ?_) | refine Run.condM (fun h => ?_) (fun h => ?_) | refine Run.condB (fun h => ?_) (fun h => ?_) | refine Run.check1 ?_ | refine Run.call (hop) rfl ?_ | refine Run.callE (pickS_ok hb _ _ (by omega) (by omega)) (fun _ => rfl) (fun k hk => ?_) | refine Run.round ⟨[(.t 8 0, .t 8 0)], [], []⟩ (loop k.toNat _ _ _ ?_ ?_ ?_ ?_) rfl (by (repeat' (first | exact wkEnv_nil | refine wkEnv_cons rfl ?_ | exact wkSto_nil | refine wkSto_none ?_ | refine wkSto_some rfl ?_)); done) (by (repeat' (first | exact wkEnv_nil | refine wkEnv_cons rfl ?_ | exact wkSto_nil | refine wkSto_none ?_ | refine wkSto_some rfl ?_)); done)
  all_goals first
    | (have := hk.1.1; have := hk.2; omega)
    | (show 0 ≤ _; omega)
    | trace_state
end Go.Proofs.YtlmdbeegmgfpnaaGreatDoor.AM

/- The law FnLines; condition: a code of bytes. -/
namespace Go.Proofs.YtlmdbeegmgfpnaaGreatDoor.AM
open Go.AM Go.RowKit
set_option linter.unusedVariables false
set_option linter.unusedSimpArgs false
set_option maxRecDepth 100000

set_option maxHeartbeats 1600000 in
theorem law_FnLines (bs : List Int) (hl : bs.length ≤ maxLen) (hw : ∀ z ∈ bs, (Lit.int .u8 z).wf = true) : Ok P 4 [.one (.lst (.int .u8) bs false)] [] (.one (.bool true)) [] := by
  obtain ⟨t, ht, hdr⟩ := drawSes_ok (bytes_of hw)
  have hti := session_ok t (by omega)
  have hts := ssession_ok t (by omega)
  have zB := sesM_size t
  generalize hB : sesM t = B at *
  have eB : (B.toList == B.toList) = true := beq_self_eq_true _
  -- what is said of a head of the text
  have tail : ∀ h : ByteArray, h.size ≤ 200000 → Ok P 6 [.one (.str h)] [] (.one (.str (sesM h))) [] ∧ Ok P 5 [.one (.str h)] [] (.one (.str (sesM h))) [] ∧ ((sesM h).toList == (sesM h).toList) = true := fun h hh => ⟨session_ok h (by omega), ssession_ok h (by omega), beq_self_eq_true _⟩
  refine Ok.of_run (F := mk Tryz.f4 0) Tryz.func4 rfl rfl tabOk mixed rfl rfl rfl rfl rfl (Nat.le_of_ble_eq_true rfl) (Nat.le_of_ble_eq_true rfl) (.go 5000 ?_)
  by_cases hbig : bs.length ≤ 1048576
  · have hm : 0 ≤ (bs.length : Int).tmod 12 ∧ (bs.length : Int).tmod 12 < 12 := by
      rw [show (bs.length : Int).tmod 12 = ((bs.length % 12 : Nat) : Int) from rfl]
      omega
    have loop : ∀ (d i : Nat) (z k : Int), z = i → i + d = t.size → -1000000000 ≤ k + i ∧ k ≤ 1000000000 → Run P (mk Tryz.f4 0) (fun v st => v = .one (.bool true) ∧ st = [])
        (.loop ⟨[(3, .one (.str t)), (4, .one (.int .i64 k)), (5, .one (.str t)), (6, .one (.int .i64 z))], [], [.lp [0, 1, 0, 1, 1, 1, 1, 1], .blk 0, .code [1, 1, 1, 1, 1, 1]], none⟩) := by
      intro d
      induction d with
      | zero =>
        intro i z k hz hd hk
        subst hz
        have z1 : B.size ≤ B.size := Nat.le_refl _
        cases hc : ((B.extract 0 (B.size : Int).toNat).toList == B.toList) with
        | true =>
          refine Run.loop ?_
          repeat' (conv => arg 4; whnf); first | rw [eB] | rw [hc] | refine Run.ret ⟨?_, rfl⟩ | refine Run.condT ?_ | refine Run.condf ?_ | refine Run.condD (fun h => ?_) (fun h => ?_) | refine Run.condN (fun h => ?_) (fun h => ?_) | refine Run.condE (fun h => ?_) (fun h => ?_) | refine Run.condF (fun h => ?_) (fun h => ?_) | refine Run.condM (fun h => ?_) (fun h => ?_) | refine Run.condB (fun h => ?_) (fun h => ?_) | refine Run.check1 ?_ | (exfalso; omega) | refine Run.call (hti) rfl ?_ | refine Run.call (hts) rfl ?_ | refine Run.need1 (by simp only [allP, true_and, and_true]; omega) ?_
          all_goals first | rfl | (exfalso; omega) | trace_state
        | false =>
          refine Run.loop ?_
          repeat' (conv => arg 4; whnf); first | rw [eB] | rw [hc] | refine Run.ret ⟨?_, rfl⟩ | refine Run.condT ?_ | refine Run.condf ?_ | refine Run.condD (fun h => ?_) (fun h => ?_) | refine Run.condN (fun h => ?_) (fun h => ?_) | refine Run.condE (fun h => ?_) (fun h => ?_) | refine Run.condF (fun h => ?_) (fun h => ?_) | refine Run.condM (fun h => ?_) (fun h => ?_) | refine Run.condB (fun h => ?_) (fun h => ?_) | refine Run.check1 ?_ | (exfalso; omega) | refine Run.call (hti) rfl ?_ | refine Run.call (hts) rfl ?_ | refine Run.need1 (by simp only [allP, true_and, and_true]; omega) ?_
          all_goals first | rfl | (exfalso; omega) | trace_state
      | succ d ih =>
        intro i z k hz hd hk
        subst hz
        have hi : i < t.size := by omega
        have e := fs (i := i) (by omega)
        have ek : Fact (wrap64 (k - 1) = k - 1) := ⟨wrap_eq (by omega) (by omega)⟩
        have hsz : (t.extract 0 (wrap64 ((i : Int) + 1)).toNat).size ≤ 200000 := by rw [e.h, Int.toNat_natCast, ByteArray.size_extract]; omega
        obtain ⟨hi1, hi2, eA⟩ := tail _ hsz
        generalize hA : sesM (t.extract 0 (wrap64 ((i : Int) + 1)).toNat) = A at *
        clear hA hsz tail
        cases hc : ((B.extract 0 (A.size : Int).toNat).toList == A.toList) with
        | true =>
          refine Run.loop ?_
          repeat' (conv => arg 4; whnf); first | rw [eA] | rw [eB] | rw [hc] | refine Run.ret ⟨?_, rfl⟩ | refine Run.condT ?_ | refine Run.condf ?_ | refine Run.condD (fun h => ?_) (fun h => ?_) | refine Run.condN (fun h => ?_) (fun h => ?_) | refine Run.condE (fun h => ?_) (fun h => ?_) | refine Run.condF (fun h => ?_) (fun h => ?_) | refine Run.condM (fun h => ?_) (fun h => ?_) | refine Run.condB (fun h => ?_) (fun h => ?_) | refine Run.check1 ?_ | (exfalso; omega) | refine Run.call (hi1) rfl ?_ | refine Run.call (hi2) rfl ?_ | refine Run.call (hti) rfl ?_ | refine Run.call (hts) rfl ?_ | refine Run.need1 (by simp only [allP, true_and, and_true]; omega) ?_ | refine Run.need1 (by simp only [allP, true_and, and_true, e.h]; omega) ?_ | refine Run.round ⟨[], [], []⟩ (ih (i + 1) _ _ e.h (by omega) ?_) rfl (by (repeat' (first | exact wkEnv_nil | refine wkEnv_cons rfl ?_ | exact wkSto_nil | refine wkSto_none ?_ | refine wkSto_some rfl ?_)); done) (by (repeat' (first | exact wkEnv_nil | refine wkEnv_cons rfl ?_ | exact wkSto_nil | refine wkSto_none ?_ | refine wkSto_some rfl ?_)); done)
          all_goals first | rfl | (exfalso; omega) | (rw [ek.h]; omega) | omega | trace_state
        | false =>
          refine Run.loop ?_
          repeat' (conv => arg 4; whnf); first | rw [eA] | rw [eB] | rw [hc] | refine Run.ret ⟨?_, rfl⟩ | refine Run.condT ?_ | refine Run.condf ?_ | refine Run.condD (fun h => ?_) (fun h => ?_) | refine Run.condN (fun h => ?_) (fun h => ?_) | refine Run.condE (fun h => ?_) (fun h => ?_) | refine Run.condF (fun h => ?_) (fun h => ?_) | refine Run.condM (fun h => ?_) (fun h => ?_) | refine Run.condB (fun h => ?_) (fun h => ?_) | refine Run.check1 ?_ | (exfalso; omega) | refine Run.call (hi1) rfl ?_ | refine Run.call (hi2) rfl ?_ | refine Run.call (hti) rfl ?_ | refine Run.call (hts) rfl ?_ | refine Run.need1 (by simp only [allP, true_and, and_true]; omega) ?_ | refine Run.need1 (by simp only [allP, true_and, and_true, e.h]; omega) ?_ | refine Run.round ⟨[], [], []⟩ (ih (i + 1) _ _ e.h (by omega) ?_) rfl (by (repeat' (first | exact wkEnv_nil | refine wkEnv_cons rfl ?_ | exact wkSto_nil | refine wkSto_none ?_ | refine wkSto_some rfl ?_)); done) (by (repeat' (first | exact wkEnv_nil | refine wkEnv_cons rfl ?_ | exact wkSto_nil | refine wkSto_none ?_ | refine wkSto_some rfl ?_)); done)
          all_goals first | rfl | (exfalso; omega) | (rw [ek.h]; omega) | omega | trace_state
    repeat' (conv => arg 4; whnf); first | refine Run.ret ⟨?_, rfl⟩ | refine Run.condT ?_ | refine Run.condf ?_ | refine Run.condD (fun h => ?_) (fun h => ?_) | refine Run.condN (fun h => ?_) (fun h => ?_) | refine Run.condE (fun h => ?_) (fun h => ?_) | refine Run.condF (fun h => ?_) (fun h => ?_) | refine Run.condM (fun h => ?_) (fun h => ?_) | refine Run.condB (fun h => ?_) (fun h => ?_) | refine Run.check1 ?_ | (exfalso; omega) | refine Run.call (hdr) rfl ?_ | refine Run.need1 (by simp only [allP, true_and, and_true]; omega) ?_ | refine Run.round ⟨[], [], []⟩ (loop t.size 0 _ _ rfl (by omega) ?_) rfl (by (repeat' (first | exact wkEnv_nil | refine wkEnv_cons rfl ?_ | exact wkSto_nil | refine wkSto_none ?_ | refine wkSto_some rfl ?_)); done) (by (repeat' (first | exact wkEnv_nil | refine wkEnv_cons rfl ?_ | exact wkSto_nil | refine wkSto_none ?_ | refine wkSto_some rfl ?_)); done)
    all_goals first | (exfalso; omega) | (rw [wrap_eq (by omega) (by omega)]; omega) | trace_state
  · repeat' (conv => arg 4; whnf); first | refine Run.ret ⟨?_, rfl⟩ | refine Run.condT ?_ | refine Run.condf ?_ | refine Run.condD (fun h => ?_) (fun h => ?_) | refine Run.condN (fun h => ?_) (fun h => ?_) | refine Run.condE (fun h => ?_) (fun h => ?_) | refine Run.condF (fun h => ?_) (fun h => ?_) | refine Run.condM (fun h => ?_) (fun h => ?_) | refine Run.condB (fun h => ?_) (fun h => ?_) | refine Run.check1 ?_ | (exfalso; omega)
    all_goals first | rfl | (exfalso; omega) | trace_state
end Go.Proofs.YtlmdbeegmgfpnaaGreatDoor.AM

/- What comes in as a row of bytes, in the machine's words; condition: the argument reads as data of its type. -/
namespace Go.Proofs.YtlmdbeegmgfpnaaGreatDoor.AM
open Go.Joins Go.ChangeShapes Go.WideShapes Go.RowKit Go.Deep Go.AM
set_option linter.unusedVariables false
set_option linter.unusedSimpArgs false
set_option maxRecDepth 100000
section
variable {H : Type} {enc : TypeId × Value → H} {w : World} {base : Nat} {spare : Nat → Bool} {held : Bool} {μ : Mu}
theorem open_bytes {t fuel : Nat} {cs : List Value} {y : DataW H × List MemPlace} (ht : Tryz.prog.underlying t = some (.slice 5)) (h : DataW.trod enc Tryz.prog w base spare held fuel t cs = some y) :
    ∃ (v : Value) (xs : List Int), cs = [v] ∧ repA μ w (Old w) (.lst (.int .u8) xs false) v ∧ xs.length ≤ maxLen ∧ ∀ z ∈ xs, (Lit.int .u8 z).wf = true :=
  open_sl (.int .u8) ht (by kernel_rfl) (by decide) (fun z => (Lit.int .u8 z).wf = true) (fun n cs' y hy hl => by
    obtain ⟨z, h1, _, h2⟩ := DataW.trod_int Tryz.underlying5 hy
    subst h1
    exact ⟨z, .cons rfl .nil, h2⟩) h
end
end Go.Proofs.YtlmdbeegmgfpnaaGreatDoor.AM

/- FnLines: for every input the law returns true and each argument reads behind the call as it read before; no condition. -/
namespace Go.Proofs.YtlmdbeegmgfpnaaGreatDoor.fnLines
open Go.ChangeShapes Go.WideShapes Go.ChangeAt Go.RowKit
open Go.ChangeMaps (open_string shut_string)
set_option linter.unusedVariables false
theorem own : ownKnob Tryz.prog.godebug = none := by kernel_rfl
theorem laidOut : laidOutB Tryz.prog = true := by kernel_rfl
theorem plain (w : World) : laidMetH Tryz.prog Rows.fnLinesRow.laid w = laidMet Tryz.prog Rows.fnLinesRow.laid w := MakeChecks.laidMetH_plain _ _ _ (by kernel_rfl)
set_option maxRecDepth 100000 in
theorem witness (os : Os) (H : Type) (enc : TypeId × Value → H) : ∃ (w : World) (tape : Tape) (i : Input), w.os = os ∧ (w.forCall tape i).Shaped Tryz.checked.prog ∧ i.vars = [] ∧ Input.okWide Tryz.checked.prog (w.forCall tape i) .any w.heap.size 4 i ∧
    ((Rows.fnLinesSpec.pre enc Tryz.checked.prog Tryz.f4 [] false (w.forCall tape i).memory i.args ∧ laidMetH Tryz.prog Rows.fnLinesRow.laid (w.forCall tape i).memory) ∧ sizedMet enc Tryz.checked.prog Tryz.f4 (OpenSpec.ofChange Rows.fnLinesSpec) false (w.forCall tape i).memory i.args) ∧ ({ modest := false } : Assume).holds Tryz.checked.prog (lone (Frame.enter Tryz.checked.prog 4 i.args .normal) [] (w.forCall tape i)) :=
  ChangeSpec.witness_shaped (enc := enc) (C := Tryz.checked) (os := os) (f := 4) (fn := Tryz.f4) (s := Rows.fnLinesSpec) (conds := []) (apart := false) (X := fun w _ => laidMetH Tryz.prog Rows.fnLinesRow.laid w) false (World.laidAll Tryz.prog os Rows.fnLinesRow.laid) #[.slice none 0 0] 8 (World.laidAll_os _ _ _)
    (World.shaped_of_ZipB (by kernel_rfl) (by kernel_rfl)) (by kernel_rfl) (by kernel_rfl) (by kernel_rfl) (by rw [plain]; exact laidMet_laidAll _ (by kernel_rfl) (by kernel_rfl))
theorem tabs_of {W : World} (h : laidMetH Tryz.prog Rows.fnLinesRow.laid W) : Go.AM.Tabs (Go.AM.Old W) W := by
  rw [plain] at h
  have hT : Lib.TabIs Tryz.prog W "internal/strconv.uint64pow10" .u64 Lib.pow10Tab :=
    Lib.tabIs_of_head (show Program.globalNamed Tryz.prog "internal/strconv.uint64pow10" = some 5 by kernel_rfl) (by kernel_rfl) Tryz.underlying182 (by kernel_rfl) (by kernel_rfl) (by kernel_rfl) (laidMet.tail (laidMet.tail h))
  refine ⟨fun b hb => ?_⟩
  obtain rfl : b = 5 := Nat.eq_of_beq_eq_true hb
  have hg : Program.globalNamed Tryz.prog "internal/strconv.uint64pow10" = some 5 := by kernel_rfl
  unfold Lib.TabIs World.var? at hT
  rw [hg] at hT
  simp only [Option.bind_some] at hT
  split at hT
  · rename_i cs te fz hc
    refine ⟨(Array.getElem?_eq_some_iff.1 hc).1, te, fz, ?_⟩
    rw [hc, ← Option.some.inj hT]
  · cases hT
set_option maxRecDepth 100000 in
theorem lifted (os : Os) (started : os.Started) (H : Type) (enc : TypeId × Value → H) :
    ReturnsInHanded {} Tryz.checked os 4 .any (fun w args => (Rows.fnLinesSpec.pre enc Tryz.prog Tryz.f4 [] false w args ∧ laidMetH Tryz.prog Rows.fnLinesRow.laid w) ∧ sizedMet enc Tryz.prog Tryz.f4 (OpenSpec.ofChange Rows.fnLinesSpec) false w args) (Rows.fnLinesSpec.post enc Tryz.prog Tryz.f4 false true false false) := by
  refine returnsInHanded_of_change_and (C := Tryz.checked) (X := fun w _ => laidMetH Tryz.prog Rows.fnLinesRow.laid w) (fun _ _ _ hh h => h.of_heap hh) own started (by kernel_rfl) Tryz.func4
    (witness os H enc) ?_
  intro W base args ds gs before hval0 hW hcnd hsz0 hL _
  have htab := tabs_of hL
  have hval : ∀ (j : Nat) t v, Tryz.f4.params[j]? = some t → args[j]? = some v → Value.okWide Tryz.prog W .any base t v := hval0
  have hW' := hW
  obtain ⟨p, q, hA0, hV, rfl, hfz, hnd⟩ := hW
  have hA : DataW.TrodAll enc Tryz.prog W 0 (fun _ => true) true Tryz.f4.params.toList args.toList ds p := hA0
  rw [Tryz.params4] at hA hval
  obtain ⟨v0, vs0, d0, ds0, p0, q0, hargs, rfl, rfl, h0, r0⟩ := trodAll_cons hA
  obtain ⟨rfl, rfl, rfl⟩ := trodAll_nil r0
  obtain rfl : args = #[v0] := by cases args; simp_all
  obtain ⟨rfl, rfl⟩ := trodVars_none hV
  have k0 := h0
  have lt0 : ∀ x ∈ p0, x.block < W.heap.size := by obtain ⟨m, hm⟩ := k0; exact DataW.trod_lt m _ _ _ hm
  obtain ⟨A0, len0, cap0, rfl⟩ := okWide_slice Tryz.underlying24 (hval 0 24 v0 rfl rfl)
  obtain ⟨fuel0, hf0⟩ := h0
  obtain ⟨u0, a0, e0, hr0, hm0, w0⟩ := AM.open_bytes (μ := fun _ => none) Tryz.underlying24 hf0
  simp [Value.cells] at e0
  subst e0
  refine (Go.AM.calls_true Tryz.func4 rfl rfl (AM.law_FnLines a0 hm0 w0) (by simp only [Go.AM.repVs]; exact ⟨_, _, rfl, (by simp only [Go.AM.repV]; exact hr0), rfl⟩) htab).mono fun e W' ⟨he, bel⟩ => ?_
  subst he
  exact ⟨_, rfl, _, _, _, [], _, [], hW', trodAll_mk1 (shut_bool Tryz.underlying4 _), (trodAll_cons_mk (Below.trod laidOut (by kernel_rfl) (of_decide_eq_true (by kernel_rfl)) k0 bel lt0) trodAll_mk0), rfl, bel.frame _, fun h => by cases h⟩
theorem over : Rows.fnLinesRow.holds Tryz.pinned (OpenSpec.ofChange Rows.fnLinesSpec) :=
  OpenClaim.holds_of_wide 4 Tryz.f4 rfl rfl rfl rfl rfl rfl rfl ⟨rfl, rfl, rfl, rfl, rfl⟩ rfl rfl rfl rfl rfl (by kernel_rfl) Tryz.func4 (by kernel_rfl)
    (of_decide_eq_true (by kernel_rfl)) (by unfold Func.isWrapper; first | (rw [if_pos (by decide +kernel)]; kernel_rfl) | (rw [if_neg (by decide +kernel)]; exact ⟨rfl, rfl⟩))
    (fun os started H enc _ => lifted os started H enc)
theorem card_holds : Rows.FnLinesCardSaid :=
  Claim7.holds_tied_plain_at .later [] [.data, .data, .data, .data, .sentinel, .sentinel, .pinned] true (true, "7d693f73ef6fffaa9411fdf8bd71477804d3f7ed7f55fcde49b151f33c4639a7") true over (fun _ h => by cases h) (by kernel_rfl) (fun _ h => by cases h) fnLines_row_tie rfl ⟨rfl, rfl⟩ (by kernel_rfl) rfl
    (fun f fn hf hfn => by
      obtain rfl : f = 4 := Option.some.inj ((show Tryz.prog.funcNamed "loop.example/lapstrip/laws.FnLines" = some 4 by kernel_rfl).symm.trans hf) |>.symm
      obtain rfl : fn = Tryz.f4 := (Option.some.inj (Tryz.func4.symm.trans hfn)).symm
      exact ⟨by kernel_rfl, fun j t ht => by
        rw [Tryz.params4] at ht
        have hm : t ∈ [24] := by simpa using Array.mem_of_getElem? ht
        have hall : ([24].all fun u => !Tryz.prog.wantsStandIn u) = true := by kernel_rfl
        exact (show Tryz.prog.wantsStandIn t = false by simpa using List.all_eq_true.1 hall t hm)⟩)
    (by kernel_rfl)
end Go.Proofs.YtlmdbeegmgfpnaaGreatDoor.fnLines
namespace Go.Proofs.YtlmdbeegmgfpnaaGreatDoor
theorem fnLines_holds : Rows.FnLinesCardSaid := fnLines.card_holds
#print axioms fnLines_holds
end Go.Proofs.YtlmdbeegmgfpnaaGreatDoor
