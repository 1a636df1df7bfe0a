/- FnLines, part 3 of 4: what the law's functions come to, plain laws on it, and the row; no condition -/
import Derived.Test.YtlmdbeegmgfpnaaGreatDoorYFLines2
/- Who goes round at their tick, the program's and the reference's; condition: a book that is ok, a place in it. -/
namespace Go.Proofs.YtlmdbeegmgfpnaaGreatDoor.AM
open Go.AM Go.RowKit
set_option linter.unusedVariables false
set_option linter.unusedSimpArgs false
set_option maxRecDepth 100000

theorem round_ok (b : Bk) (a : Nat) (hb : BkOk b) (ha : a < b.ms.length) : Ok P 64 [b.lent, .one (.int .i64 (a : Int))] [] (.tup [(roundI b a).1.own (.k 0) (.k 1), .one (.bool (roundI b a).2)]) [some (.row .mv (roundI b a).1.ms), some (.row (.int .i64) (roundI b a).1.ts)] := by
  refine nilB_ok ?_
  have hft := hb.2.2.1
  have h6 := hft.1.1
  have hlen := hft.2.1
  have hta := bk_tick hb ha
  have e4 : wrap64 (tk b.ts a + 4) = tk b.ts a + 4 := wrap_eq (by omega) (by omega)
  have e6 : wrap64 (tk b.ts a + 6) = tk b.ts a + 6 := wrap_eq (by omega) (by omega)
  refine Ok.of_rel (F := mk Tryz.f64 0) Tryz.func64 rfl rfl tabOk mixed rfl rfl rfl rfl rfl (Nat.le_of_ble_eq_true rfl) (by first | exact fun _ _ => nilR_len | exact fun _ _ => nilB_len) (.go 5000 ?_)
  have loop : ∀ (d i : Nat) (z y : Int) (s : List Mv), z = i → y = tk b.ts a → i + d = b.ms.length → s.length ≤ i → (a < i → GoneOk b a) → Fact (foldFrom (thenStep b a) i d s = thenL b a) → Run P (mk Tryz.f64 0) (NilB (roundI b a).1 (.one (.bool (roundI b a).2)))
      (.loop ⟨[(1, .one (.int .i64 (a : Int))), (2, .one (.ptr (.t 2 0) 0)), (4, .one (.ptr (.t 4 0) 0)), (6, .one (.int .i64 y)), (7, .one (.ptr (.t 7 0) 0)), (22, .one (.lst .mv b.ms false)), (23, .one (.int .i64 (b.ms.length : Int))), (24, .one (.int .i64 z))],
        [(.t 2 0, some (.cells b.lent.atoms)), (.t 4 0, some (.cells [.int .i64 0, .int .i64 0, .nil, .nil])), (.t 7 0, some (.cells [.int .i64 y, .int .i64 b.shift, .own (.t 1000 0), .nil])), (.t 1000 0, some (.row .mv s))], [.lp [0, 1, 0, 1, 1, 1], .blk 0, .code [1, 1, 1, 1]], none⟩) := by
    intro d
    induction d with
    | zero =>
      intro i z y s hz hy hd hl hg he
      subst hz; subst hy
      have hgo := hg (by omega)
      have hth : s = thenL b a := he.h
      subst hth
      have hplan := plan_ok (thenL b a) (tk b.ts a) 6 (then_movesOk hb ha hgo) (by omega) (by omega)
      rw [then_gone hb ha hgo]
      clear he
      refine Run.loop ?_
      repeat' (conv => arg 4; whnf); first | refine Run.ret ⟨?_, rfl⟩ | refine Run.condT ?_ | refine Run.condf ?_ | refine Run.condD (fun h => ?_) (fun h => ?_) | refine Run.condN (fun h => ?_) (fun h => ?_) | refine Run.condE (fun h => ?_) (fun h => ?_) | refine Run.condF (fun h => ?_) (fun h => ?_) | refine Run.condM (fun h => ?_) (fun h => ?_) | refine Run.condB (fun h => ?_) (fun h => ?_) | refine Run.check1 ?_ | refine Run.call (hplan) rfl ?_ | (refine Run.ret (.inl ⟨rfl, rfl⟩)) | (exfalso; omega)
      all_goals trace_state
    | succ d ih =>
      intro i z y s hz hy hd hl hg he
      subst hz; subst hy
      have hi : i < b.ms.length := by omega
      have e := fs (i := i) (by omega)
      have hs' := thenStep_len (b := b) (a := a) hl
      have he' : Fact (foldFrom (thenStep b a) (i + 1) d (thenStep b a i s) = thenL b a) := ⟨he.h⟩
      have st1 : i = a → thenStep b a i s = s ++ [{ at' b.ms i with f3 := tk b.ts a + 6, f5 := -1 }] := fun q => by unfold thenStep; rw [if_pos q]; rfl
      have st2 : ¬ i = a → tk b.ts i < tk b.ts a → thenStep b a i s = s := fun q q' => by unfold thenStep; rw [if_neg q, if_pos q']
      have st3 : ¬ i = a → ¬ tk b.ts i < tk b.ts a → tk b.ts i < tk b.ts a + 4 → thenStep b a i s = s ++ [{ at' b.ms i with f5 := tk b.ts i }] := fun q q' q'' => by unfold thenStep; rw [if_neg q, if_neg q', if_pos q'']
      have st4 : ¬ i = a → ¬ tk b.ts i < tk b.ts a → ¬ tk b.ts i < tk b.ts a + 4 → thenStep b a i s = s ++ [at' b.ms i] := fun q q' q'' => by unfold thenStep; rw [if_neg q, if_neg q', if_neg q'']
      have hno : i = a → (rdM b.ms (i : Int)).f4 < wrap64 (tk b.ts a + 6) → NilB (roundI b a).1 (.one (.bool (roundI b a).2)) (.tup [.agg [.int .i64 0, .int .i64 0, .nil, .nil], .one (.bool false)]) [] := fun q q' => by
        subst q
        rw [rdM_nat, e6] at q'
        have : ¬ GoneOk b i := fun k => by unfold GoneOk at k; omega
        rw [roundI_no this]
        exact .inr (.inr ⟨rfl, rfl, rfl, rfl⟩)
      clear he
      refine Run.loop ?_
      repeat' (conv => arg 4; whnf); first | refine Run.ret ⟨?_, rfl⟩ | refine Run.condT ?_ | refine Run.condf ?_ | refine Run.condD (fun h => ?_) (fun h => ?_) | refine Run.condN (fun h => ?_) (fun h => ?_) | refine Run.condE (fun h => ?_) (fun h => ?_) | refine Run.condF (fun h => ?_) (fun h => ?_) | refine Run.condM (fun h => ?_) (fun h => ?_) | refine Run.condB (fun h => ?_) (fun h => ?_) | refine Run.check1 ?_ | refine Run.need1 (by simp only [allP, true_and, and_true, List.length_cons, List.length_nil]; omega) ?_ | refine Run.round ⟨[(.t 2 0, .t 2 0), (.t 4 0, .t 4 0), (.t 7 0, .t 7 0), (.t 1000 0, .t 1000 0)], [], []⟩ (ih (i + 1) _ _ _ e.h rfl (by omega) ?_ ?_ ?_) rfl (by (repeat' (first | exact wkEnv_nil | refine wkEnv_cons rfl ?_ | exact wkSto_nil | refine wkSto_none ?_ | refine wkSto_some rfl ?_)); done) (by (repeat' (first | exact wkEnv_nil | refine wkEnv_cons rfl ?_ | exact wkSto_nil | refine wkSto_none ?_ | refine wkSto_some rfl ?_)); done) | refine Run.round ⟨[(.t 2 0, .t 2 0), (.t 4 0, .t 4 0), (.t 7 0, .t 7 0), (.t 70 0, .t 1000 0)], [], []⟩ (ih (i + 1) _ _ _ e.h rfl (by omega) ?_ ?_ ?_) rfl (by (repeat' (first | exact wkEnv_nil | refine wkEnv_cons rfl ?_ | exact wkSto_nil | refine wkSto_none ?_ | refine wkSto_some rfl ?_)); done) (by (repeat' (first | exact wkEnv_nil | refine wkEnv_cons rfl ?_ | exact wkSto_nil | refine wkSto_none ?_ | refine wkSto_some rfl ?_)); done) | (refine Run.ret (hno ?_ ?_)) | (exfalso; omega)
      all_goals clear ih hno
      all_goals simp only [rd_nat, rdM_nat, e4, e6] at *
      all_goals first
        | assumption
        | omega
        | (rw [st1 (by omega)] at hs' he'
           first | exact hs' | exact he')
        | (rw [st2 (by omega) (by omega)] at hs' he'
           first | exact hs' | exact he')
        | (rw [st3 (by omega) (by omega) (by omega)] at hs' he'
           first | exact hs' | exact he')
        | (rw [st4 (by omega) (by omega) (by omega)] at hs' he'
           first | exact hs' | exact he')
        | (intro q
           first
             | exact hg (by omega)
             | (obtain rfl : i = a := by omega
                unfold GoneOk
                omega))
        | trace_state
  repeat' (conv => arg 4; whnf); first | refine Run.ret ⟨?_, rfl⟩ | refine Run.condT ?_ | refine Run.condf ?_ | refine Run.condD (fun h => ?_) (fun h => ?_) | refine Run.condN (fun h => ?_) (fun h => ?_) | refine Run.condE (fun h => ?_) (fun h => ?_) | refine Run.condF (fun h => ?_) (fun h => ?_) | refine Run.condM (fun h => ?_) (fun h => ?_) | refine Run.condB (fun h => ?_) (fun h => ?_) | refine Run.check1 ?_ | refine Run.need1 (by simp only [allP, true_and, and_true]; omega) ?_ | refine Run.round ⟨[(.t 2 0, .t 2 0), (.t 4 0, .t 4 0), (.t 7 0, .t 7 0)], [(.t 1000 0, .mv)], []⟩ (loop b.ms.length 0 _ _ _ rfl ?_ ?_ ?_ ?_ ?_) rfl (by (repeat' (first | exact wkEnv_nil | refine wkEnv_cons rfl ?_ | exact wkSto_nil | refine wkSto_none ?_ | refine wkSto_some rfl ?_)); done) (by (repeat' (first | exact wkEnv_nil | refine wkEnv_cons rfl ?_ | exact wkSto_nil | refine wkSto_none ?_ | refine wkSto_some rfl ?_)); done)
  all_goals first | exact rd_nat _ _ | omega | exact Nat.le_refl _ | exact fun q => absurd q (by omega) | exact ⟨rfl⟩ | trace_state
def thenS (b : Bk) (a : Nat) : Bk × Bool := if GoneOk b a then (⟨tk b.ts a, b.shift, thenL b a, []⟩, true) else (Bk.z, false)
theorem gone_ok (m : Mv) (t : Int) (ht : 0 ≤ t ∧ t ≤ 10000) : Ok P 99 [.agg (encMv m), .one (.int .i64 t)] [] (.tup [.agg (encMv (goneMv t m)), .one (.bool (decide (t + 6 ≤ m.f4)))]) [] := by
  have e6 : wrap64 (t + 6) = t + 6 := wrap_eq (by omega) (by omega)
  refine Ok.of_run (F := mk Tryz.f99 0) Tryz.func99 rfl rfl tabOk mixed rfl rfl rfl rfl rfl (Nat.le_of_ble_eq_true rfl) (Nat.le_of_ble_eq_true rfl) (.go 5000 ?_)
  repeat' (conv => arg 4; whnf); first | refine Run.ret ⟨?_, rfl⟩ | refine Run.condT ?_ | refine Run.condf ?_ | refine Run.condD (fun h => ?_) (fun h => ?_) | refine Run.condN (fun h => ?_) (fun h => ?_) | refine Run.condE (fun h => ?_) (fun h => ?_) | refine Run.condF (fun h => ?_) (fun h => ?_) | refine Run.condM (fun h => ?_) (fun h => ?_) | refine Run.condB (fun h => ?_) (fun h => ?_) | refine Run.check1 ?_
  all_goals first | (simp only [e6]; rfl) | trace_state
theorem then_ok (b : Bk) (a : Nat) (hb : BkOk b) (ha : a < b.ms.length) : Ok P 73 [b.lent, .one (.int .i64 (a : Int))] [] (.tup [(thenS b a).1.own (.k 0) (.k 1), .one (.bool (thenS b a).2)]) [some (.row .mv (thenS b a).1.ms), some (.row (.int .i64) (thenS b a).1.ts)] := by
  refine nilB_ok ?_
  have hft := hb.2.2.1
  have h6 := hft.1.1
  have hlen := hft.2.1
  have hta := bk_tick hb ha
  have e4 : wrap64 (tk b.ts a + 4) = tk b.ts a + 4 := wrap_eq (by omega) (by omega)
  refine Ok.of_rel (F := mk Tryz.f73 0) Tryz.func73 rfl rfl tabOk mixed rfl rfl rfl rfl rfl (Nat.le_of_ble_eq_true rfl) (by first | exact fun _ _ => nilR_len | exact fun _ _ => nilB_len) (.go 5000 ?_)
  have loop : ∀ (d i : Nat) (z y : Int) (s : List Mv), z = i → y = tk b.ts a → i + d = b.ms.length → s.length ≤ i → (a < i → GoneOk b a) → Fact (foldFrom (thenStep b a) i d s = thenL b a) → Run P (mk Tryz.f73 0) (NilB (thenS b a).1 (.one (.bool (thenS b a).2)))
      (.loop ⟨[(1, .one (.int .i64 (a : Int))), (2, .one (.ptr (.t 2 0) 0)), (4, .one (.ptr (.t 4 0) 0)), (6, .one (.int .i64 y)), (7, .one (.ptr (.t 7 0) 0)), (8, .one (.int .i64 z))],
        [(.t 2 0, some (.cells b.lent.atoms)), (.t 4 0, some (.cells [.int .i64 0, .int .i64 0, .nil, .nil])), (.t 7 0, some (.cells [.int .i64 y, .int .i64 b.shift, .own (.t 1000 0), .nil])), (.t 1000 0, some (.row .mv s))], [.lp [0, 1, 0, 1, 1, 1], .blk 0, .code [1, 1, 1, 1]], none⟩) := by
    intro d
    induction d with
    | zero =>
      intro i z y s hz hy hd hl hg he
      subst hz; subst hy
      have hgo := hg (by omega)
      have hth : s = thenL b a := he.h
      subst hth
      rw [show thenS b a = (⟨tk b.ts a, b.shift, thenL b a, []⟩, true) from if_pos hgo]
      clear he
      refine Run.loop ?_
      repeat' (conv => arg 4; whnf); first | refine Run.ret ⟨?_, rfl⟩ | refine Run.condT ?_ | refine Run.condf ?_ | refine Run.condD (fun h => ?_) (fun h => ?_) | refine Run.condN (fun h => ?_) (fun h => ?_) | refine Run.condE (fun h => ?_) (fun h => ?_) | refine Run.condF (fun h => ?_) (fun h => ?_) | refine Run.condM (fun h => ?_) (fun h => ?_) | refine Run.condB (fun h => ?_) (fun h => ?_) | refine Run.check1 ?_ | (refine Run.ret (.inr (.inl ⟨rfl, rfl, rfl⟩))) | (exfalso; omega)
    | succ d ih =>
      intro i z y s hz hy hd hl hg he
      subst hz; subst hy
      have hi : i < b.ms.length := by omega
      have e := fs (i := i) (by omega)
      have hs' := thenStep_len (b := b) (a := a) hl
      have he' : Fact (foldFrom (thenStep b a) (i + 1) d (thenStep b a i s) = thenL b a) := ⟨he.h⟩
      have st1 : i = a → thenStep b a i s = s ++ [goneMv (tk b.ts a) (at' b.ms i)] := fun q => by unfold thenStep; rw [if_pos q]
      have st2 : ¬ i = a → tk b.ts i < tk b.ts a → thenStep b a i s = s := fun q q' => by unfold thenStep; rw [if_neg q, if_pos q']
      have st3 : ¬ i = a → ¬ tk b.ts i < tk b.ts a → tk b.ts i < tk b.ts a + 4 → thenStep b a i s = s ++ [{ at' b.ms i with f5 := tk b.ts i }] := fun q q' q'' => by unfold thenStep; rw [if_neg q, if_neg q', if_pos q'']
      have st4 : ¬ i = a → ¬ tk b.ts i < tk b.ts a → ¬ tk b.ts i < tk b.ts a + 4 → thenStep b a i s = s ++ [at' b.ms i] := fun q q' q'' => by unfold thenStep; rw [if_neg q, if_neg q', if_neg q'']
      have hgn := fun m => gone_ok m (tk b.ts a) (by omega)
      have hno : i = a → ¬ (tk b.ts a + 6 ≤ (rdM b.ms (i : Int)).f4) → NilB (thenS b a).1 (.one (.bool (thenS b a).2)) (.tup [.agg [.int .i64 0, .int .i64 0, .nil, .nil], .one (.bool false)]) [] := fun q q' => by
        subst q
        rw [rdM_nat] at q'
        rw [show thenS b i = (Bk.z, false) from if_neg q']
        exact .inr (.inr ⟨rfl, rfl, rfl, rfl⟩)
      clear he
      refine Run.loop ?_
      repeat' (conv => arg 4; whnf); first | refine Run.ret ⟨?_, rfl⟩ | refine Run.condT ?_ | refine Run.condf ?_ | refine Run.condD (fun h => ?_) (fun h => ?_) | refine Run.condN (fun h => ?_) (fun h => ?_) | refine Run.condE (fun h => ?_) (fun h => ?_) | refine Run.condF (fun h => ?_) (fun h => ?_) | refine Run.condM (fun h => ?_) (fun h => ?_) | refine Run.condB (fun h => ?_) (fun h => ?_) | refine Run.check1 ?_ | refine Run.call (hgn _) rfl ?_ | refine Run.need1 (by simp only [allP, true_and, and_true, List.length_cons, List.length_nil]; omega) ?_ | refine Run.round ⟨[(.t 2 0, .t 2 0), (.t 4 0, .t 4 0), (.t 7 0, .t 7 0), (.t 1000 0, .t 1000 0)], [], []⟩ (ih (i + 1) _ _ _ e.h rfl (by omega) ?_ ?_ ?_) rfl (by (repeat' (first | exact wkEnv_nil | refine wkEnv_cons rfl ?_ | exact wkSto_nil | refine wkSto_none ?_ | refine wkSto_some rfl ?_)); done) (by (repeat' (first | exact wkEnv_nil | refine wkEnv_cons rfl ?_ | exact wkSto_nil | refine wkSto_none ?_ | refine wkSto_some rfl ?_)); done) | refine Run.round ⟨[(.t 2 0, .t 2 0), (.t 4 0, .t 4 0), (.t 7 0, .t 7 0), (.t 49 0, .t 1000 0)], [], []⟩ (ih (i + 1) _ _ _ e.h rfl (by omega) ?_ ?_ ?_) rfl (by (repeat' (first | exact wkEnv_nil | refine wkEnv_cons rfl ?_ | exact wkSto_nil | refine wkSto_none ?_ | refine wkSto_some rfl ?_)); done) (by (repeat' (first | exact wkEnv_nil | refine wkEnv_cons rfl ?_ | exact wkSto_nil | refine wkSto_none ?_ | refine wkSto_some rfl ?_)); done) | refine Run.round ⟨[(.t 2 0, .t 2 0), (.t 4 0, .t 4 0), (.t 7 0, .t 7 0), (.t 76 0, .t 1000 0)], [], []⟩ (ih (i + 1) _ _ _ e.h rfl (by omega) ?_ ?_ ?_) rfl (by (repeat' (first | exact wkEnv_nil | refine wkEnv_cons rfl ?_ | exact wkSto_nil | refine wkSto_none ?_ | refine wkSto_some rfl ?_)); done) (by (repeat' (first | exact wkEnv_nil | refine wkEnv_cons rfl ?_ | exact wkSto_nil | refine wkSto_none ?_ | refine wkSto_some rfl ?_)); done) | (refine Run.ret (hno ?_ ?_)) | (exfalso; omega)
      all_goals clear ih hno
      all_goals simp only [rd_nat, rdM_nat, e4] at *
      all_goals first
        | assumption
        | omega
        | (rw [st1 (by omega)] at hs' he'
           first | exact hs' | exact he')
        | (rw [st2 (by omega) (by omega)] at hs' he'
           first | exact hs' | exact he')
        | (rw [st3 (by omega) (by omega) (by omega)] at hs' he'
           first | exact hs' | exact he')
        | (rw [st4 (by omega) (by omega) (by omega)] at hs' he'
           first | exact hs' | exact he')
        | (intro q
           first
             | exact hg (by omega)
             | (obtain rfl : i = a := by omega
                unfold GoneOk
                omega))
        | trace_state
  repeat' (conv => arg 4; whnf); first | refine Run.ret ⟨?_, rfl⟩ | refine Run.condT ?_ | refine Run.condf ?_ | refine Run.condD (fun h => ?_) (fun h => ?_) | refine Run.condN (fun h => ?_) (fun h => ?_) | refine Run.condE (fun h => ?_) (fun h => ?_) | refine Run.condF (fun h => ?_) (fun h => ?_) | refine Run.condM (fun h => ?_) (fun h => ?_) | refine Run.condB (fun h => ?_) (fun h => ?_) | refine Run.check1 ?_ | refine Run.need1 (by simp only [allP, true_and, and_true]; omega) ?_ | refine Run.round ⟨[(.t 2 0, .t 2 0), (.t 4 0, .t 4 0), (.t 7 0, .t 7 0)], [(.t 1000 0, .mv)], []⟩ (loop b.ms.length 0 _ _ _ rfl ?_ ?_ ?_ ?_ ?_) rfl (by (repeat' (first | exact wkEnv_nil | refine wkEnv_cons rfl ?_ | exact wkSto_nil | refine wkSto_none ?_ | refine wkSto_some rfl ?_)); done) (by (repeat' (first | exact wkEnv_nil | refine wkEnv_cons rfl ?_ | exact wkSto_nil | refine wkSto_none ?_ | refine wkSto_some rfl ?_)); done)
  all_goals first | exact rd_nat _ _ | omega | exact Nat.le_refl _ | exact fun q => absurd q (by omega) | exact ⟨rfl⟩ | trace_state
theorem sround_ok (b : Bk) (a : Nat) (hb : BkOk b) (ha : a < b.ms.length) : Ok P 45 [b.lent, .one (.int .i64 (a : Int))] [] (.tup [(roundS b a).1.own (.k 0) (.k 1), .one (.bool (roundS b a).2)]) [some (.row .mv (roundS b a).1.ms), some (.row (.int .i64) (roundS b a).1.ts)] := by
  refine nilB_ok ?_
  have hta := bk_tick hb ha
  have hth := then_ok b a hb ha
  refine Ok.of_rel (F := mk Tryz.f45 0) Tryz.func45 rfl rfl tabOk mixed rfl rfl rfl rfl rfl (Nat.le_of_ble_eq_true rfl) (by first | exact fun _ _ => nilR_len | exact fun _ _ => nilB_len) (.go 5000 ?_)
  by_cases hg : GoneOk b a
  · rw [show thenS b a = (⟨tk b.ts a, b.shift, thenL b a, []⟩, true) from if_pos hg] at hth
    have hplan := splan_ok (thenL b a) (tk b.ts a) 6 (then_movesOk hb ha hg) (by omega) (by omega)
    cases hp : (planM (thenL b a) (tk b.ts a) 6).2 with
    | true =>
      rw [roundS_yes ⟨hg, hp⟩]
      rw [hp] at hplan
      repeat' (conv => arg 4; whnf); first | refine Run.ret ⟨?_, rfl⟩ | refine Run.condT ?_ | refine Run.condf ?_ | refine Run.condD (fun h => ?_) (fun h => ?_) | refine Run.condN (fun h => ?_) (fun h => ?_) | refine Run.condE (fun h => ?_) (fun h => ?_) | refine Run.condF (fun h => ?_) (fun h => ?_) | refine Run.condM (fun h => ?_) (fun h => ?_) | refine Run.condB (fun h => ?_) (fun h => ?_) | refine Run.check1 ?_ | refine Run.call (hth) rfl ?_ | refine Run.call (hplan) rfl ?_ | (refine Run.ret (.inl ⟨rfl, rfl⟩)) | (exfalso; omega)
      all_goals trace_state
    | false =>
      rw [roundS_no fun q => absurd q.2 (by unfold roundP; rw [hp]; exact Bool.false_ne_true)]
      rw [hp] at hplan
      repeat' (conv => arg 4; whnf); first | refine Run.ret ⟨?_, rfl⟩ | refine Run.condT ?_ | refine Run.condf ?_ | refine Run.condD (fun h => ?_) (fun h => ?_) | refine Run.condN (fun h => ?_) (fun h => ?_) | refine Run.condE (fun h => ?_) (fun h => ?_) | refine Run.condF (fun h => ?_) (fun h => ?_) | refine Run.condM (fun h => ?_) (fun h => ?_) | refine Run.condB (fun h => ?_) (fun h => ?_) | refine Run.check1 ?_ | refine Run.call (hth) rfl ?_ | refine Run.call (hplan) rfl ?_ | (refine Run.ret (.inr (.inr ⟨rfl, rfl, rfl, rfl⟩))) | (exfalso; omega)
      all_goals trace_state
  · rw [show thenS b a = (Bk.z, false) from if_neg hg] at hth
    rw [roundS_no fun q => hg q.1]
    repeat' (conv => arg 4; whnf); first | refine Run.ret ⟨?_, rfl⟩ | refine Run.condT ?_ | refine Run.condf ?_ | refine Run.condD (fun h => ?_) (fun h => ?_) | refine Run.condN (fun h => ?_) (fun h => ?_) | refine Run.condE (fun h => ?_) (fun h => ?_) | refine Run.condF (fun h => ?_) (fun h => ?_) | refine Run.condM (fun h => ?_) (fun h => ?_) | refine Run.condB (fun h => ?_) (fun h => ?_) | refine Run.check1 ?_ | refine Run.call (hth) rfl ?_ | (refine Run.ret (.inr (.inr ⟨rfl, rfl, rfl, rfl⟩))) | (exfalso; omega)
    all_goals trace_state
end Go.Proofs.YtlmdbeegmgfpnaaGreatDoor.AM

/- StripSure, the program's and the reference's; condition: the ticks are of 64 bits. -/
namespace Go.Proofs.YtlmdbeegmgfpnaaGreatDoor.AM
open Go.AM Go.RowKit
set_option linter.unusedVariables false
set_option linter.unusedSimpArgs false
set_option maxRecDepth 100000

theorem sure_yes {b : Bk} (h : SureM b) : V.one (A.bool true) = V.one (A.bool (decide (SureM b))) := by rw [decide_eq_true h]
theorem sure_no {b : Bk} (h : ¬ SureM b) : V.one (A.bool false) = V.one (A.bool (decide (SureM b))) := by rw [decide_eq_false h]
theorem roundI_2 {b : Bk} {a : Nat} : (roundI b a).2 = decide (RoundOk b a) := by
  unfold roundI
  split
  · rename_i h
    cases hp : (roundP b a).2 with
    | true => exact (decide_eq_true (show RoundOk b a from ⟨h, hp⟩)).symm
    | false => exact (decide_eq_false (fun q : RoundOk b a => absurd q.2 (by rw [hp]; exact Bool.false_ne_true))).symm
  · rename_i h
    exact (decide_eq_false (fun q : RoundOk b a => h q.1)).symm
theorem roundS_2 {b : Bk} {a : Nat} : (roundS b a).2 = decide (RoundOk b a) := by
  unfold roundS
  split
  · rename_i h; exact (decide_eq_true h).symm
  · rename_i h; exact (decide_eq_false h).symm
theorem sure_ok (b : Bk) (hw : TkWf b.ts) : Ok P 35 [b.lent] [] (.one (.bool (decide (SureM b)))) [] := by
  have hbk := bookOk_ok b hw
  refine Ok.of_run (F := mk Tryz.f35 0) Tryz.func35 rfl rfl tabOk mixed rfl rfl rfl rfl rfl (Nat.le_of_ble_eq_true rfl) (Nat.le_of_ble_eq_true rfl) (.go 5000 ?_)
  by_cases hb : BkOk b
  · rw [decide_eq_true hb] at hbk
    have h6 := hb.2.2.1.1.1
    have loop : ∀ (d i : Nat) (z : Int), z = i → i + d = b.ms.length → (∀ j, j < i → (at' b.ms j).f1 = true → RoundOk b j) → Run P (mk Tryz.f35 0) (fun v st => v = .one (.bool (decide (SureM b))) ∧ st = []) (.loop ⟨[(1, .one (.ptr (.t 1 0) 0)), (11, .one (.lst .mv b.ms false)), (12, .one (.int .i64 (b.ms.length : Int))), (13, .one (.int .i64 z))], [(.t 1 0, some (.cells b.lent.atoms))], [.lp [0, 1, 0, 1, 1], .blk 0, .code [1, 1, 1]], none⟩) := by
      intro d
      induction d with
      | zero =>
        intro i z hz hd hall
        subst hz
        refine Run.loop ?_
        repeat' (conv => arg 4; whnf); first | refine Run.ret ⟨?_, rfl⟩ | refine Run.condT ?_ | refine Run.condf ?_ | refine Run.condD (fun h => ?_) (fun h => ?_) | refine Run.condN (fun h => ?_) (fun h => ?_) | refine Run.condE (fun h => ?_) (fun h => ?_) | refine Run.condF (fun h => ?_) (fun h => ?_) | refine Run.condM (fun h => ?_) (fun h => ?_) | refine Run.condB (fun h => ?_) (fun h => ?_) | refine Run.check1 ?_ | (exfalso; omega)
        all_goals first | exact sure_yes ⟨hb, fun j hj => hall j (by omega)⟩ | (exfalso; omega)
      | succ d ih =>
        intro i z hz hd hall
        subst hz
        have hi : i < b.ms.length := by omega
        have e := fs (i := i) (by omega)
        have hro := round_ok b i hb hi
        rw [roundI_2] at hro
        generalize (roundI b i).1 = rb at hro
        have no : (at' b.ms i).f1 = true → ¬ RoundOk b i → V.one (A.bool false) = V.one (A.bool (decide (SureM b))) := fun q h => sure_no fun k => h (k.2 i hi q)
        rw [← rdM_nat] at no
        refine Run.loop ?_
        repeat' (conv => arg 4; whnf); first | refine Run.ret ⟨?_, rfl⟩ | refine Run.condT ?_ | refine Run.condf ?_ | refine Run.condD (fun h => ?_) (fun h => ?_) | refine Run.condN (fun h => ?_) (fun h => ?_) | refine Run.condE (fun h => ?_) (fun h => ?_) | refine Run.condF (fun h => ?_) (fun h => ?_) | refine Run.condM (fun h => ?_) (fun h => ?_) | refine Run.condB (fun h => ?_) (fun h => ?_) | refine Run.check1 ?_ | refine Run.need1 (by simp only [allP, true_and, and_true]; omega) ?_ | refine Run.call (hro) rfl ?_ | refine Run.round ⟨[(.t 1 0, .t 1 0)], [], []⟩ (ih (i + 1) _ e.h (by omega) ?_) rfl (by (repeat' (first | exact wkEnv_nil | refine wkEnv_cons rfl ?_ | exact wkSto_nil | refine wkSto_none ?_ | refine wkSto_some rfl ?_)); done) (by (repeat' (first | exact wkEnv_nil | refine wkEnv_cons rfl ?_ | exact wkSto_nil | refine wkSto_none ?_ | refine wkSto_some rfl ?_)); done) | (exfalso; omega)
        all_goals clear ih
        all_goals first
          | (exfalso; omega)
          | exact no ‹_› ‹_›
          | (intro j hj hl
             rcases Nat.lt_or_ge j i with h1 | h1
             · exact hall j h1 hl
             · obtain rfl : j = i := by omega
               rw [← rdM_nat] at hl
               first | assumption | exact absurd hl (by assumption) | (simp_all; done))
          | trace_state
    repeat' (conv => arg 4; whnf); first | refine Run.ret ⟨?_, rfl⟩ | refine Run.condT ?_ | refine Run.condf ?_ | refine Run.condD (fun h => ?_) (fun h => ?_) | refine Run.condN (fun h => ?_) (fun h => ?_) | refine Run.condE (fun h => ?_) (fun h => ?_) | refine Run.condF (fun h => ?_) (fun h => ?_) | refine Run.condM (fun h => ?_) (fun h => ?_) | refine Run.condB (fun h => ?_) (fun h => ?_) | refine Run.check1 ?_ | refine Run.call (hbk) rfl ?_ | refine Run.round ⟨[(.t 1 0, .t 1 0)], [], []⟩ (loop b.ms.length 0 _ rfl (by omega) (fun j hj => absurd hj (by omega))) rfl (by (repeat' (first | exact wkEnv_nil | refine wkEnv_cons rfl ?_ | exact wkSto_nil | refine wkSto_none ?_ | refine wkSto_some rfl ?_)); done) (by (repeat' (first | exact wkEnv_nil | refine wkEnv_cons rfl ?_ | exact wkSto_nil | refine wkSto_none ?_ | refine wkSto_some rfl ?_)); done)
    all_goals trace_state
  · rw [decide_eq_false hb] at hbk
    repeat' (conv => arg 4; whnf); first | refine Run.ret ⟨?_, rfl⟩ | refine Run.condT ?_ | refine Run.condf ?_ | refine Run.condD (fun h => ?_) (fun h => ?_) | refine Run.condN (fun h => ?_) (fun h => ?_) | refine Run.condE (fun h => ?_) (fun h => ?_) | refine Run.condF (fun h => ?_) (fun h => ?_) | refine Run.condM (fun h => ?_) (fun h => ?_) | refine Run.condB (fun h => ?_) (fun h => ?_) | refine Run.check1 ?_ | refine Run.call (hbk) rfl ?_
    all_goals exact sure_no fun k => hb k.1
theorem ssure_ok (b : Bk) (hw : TkWf b.ts) : Ok P 26 [b.lent] [] (.one (.bool (decide (SureM b)))) [] := by
  have hbk := sbookOk_ok b hw
  refine Ok.of_run (F := mk Tryz.f26 0) Tryz.func26 rfl rfl tabOk mixed rfl rfl rfl rfl rfl (Nat.le_of_ble_eq_true rfl) (Nat.le_of_ble_eq_true rfl) (.go 5000 ?_)
  by_cases hb : BkOk b
  · rw [decide_eq_true hb] at hbk
    have h6 := hb.2.2.1.1.1
    have loop : ∀ (d i : Nat) (z : Int), z = i → i + d = b.ms.length → (∀ j, j < i → (at' b.ms j).f1 = true → RoundOk b j) → Run P (mk Tryz.f26 0) (fun v st => v = .one (.bool (decide (SureM b))) ∧ st = []) (.loop ⟨[(1, .one (.ptr (.t 1 0) 0)), (3, .one (.int .i64 z))], [(.t 1 0, some (.cells b.lent.atoms))], [.lp [0, 1, 0, 1, 1], .blk 0, .code [1, 1, 1]], none⟩) := by
      intro d
      induction d with
      | zero =>
        intro i z hz hd hall
        subst hz
        refine Run.loop ?_
        repeat' (conv => arg 4; whnf); first | refine Run.ret ⟨?_, rfl⟩ | refine Run.condT ?_ | refine Run.condf ?_ | refine Run.condD (fun h => ?_) (fun h => ?_) | refine Run.condN (fun h => ?_) (fun h => ?_) | refine Run.condE (fun h => ?_) (fun h => ?_) | refine Run.condF (fun h => ?_) (fun h => ?_) | refine Run.condM (fun h => ?_) (fun h => ?_) | refine Run.condB (fun h => ?_) (fun h => ?_) | refine Run.check1 ?_ | (exfalso; omega)
        all_goals first | exact sure_yes ⟨hb, fun j hj => hall j (by omega)⟩ | (exfalso; omega)
      | succ d ih =>
        intro i z hz hd hall
        subst hz
        have hi : i < b.ms.length := by omega
        have e := fs (i := i) (by omega)
        have hro := sround_ok b i hb hi
        rw [roundS_2] at hro
        generalize (roundS b i).1 = rb at hro
        have no : (at' b.ms i).f1 = true → ¬ RoundOk b i → V.one (A.bool false) = V.one (A.bool (decide (SureM b))) := fun q h => sure_no fun k => h (k.2 i hi q)
        rw [← rdM_nat] at no
        refine Run.loop ?_
        repeat' (conv => arg 4; whnf); first | refine Run.ret ⟨?_, rfl⟩ | refine Run.condT ?_ | refine Run.condf ?_ | refine Run.condD (fun h => ?_) (fun h => ?_) | refine Run.condN (fun h => ?_) (fun h => ?_) | refine Run.condE (fun h => ?_) (fun h => ?_) | refine Run.condF (fun h => ?_) (fun h => ?_) | refine Run.condM (fun h => ?_) (fun h => ?_) | refine Run.condB (fun h => ?_) (fun h => ?_) | refine Run.check1 ?_ | refine Run.need1 (by simp only [allP, true_and, and_true]; omega) ?_ | refine Run.call (hro) rfl ?_ | refine Run.round ⟨[(.t 1 0, .t 1 0)], [], []⟩ (ih (i + 1) _ e.h (by omega) ?_) rfl (by (repeat' (first | exact wkEnv_nil | refine wkEnv_cons rfl ?_ | exact wkSto_nil | refine wkSto_none ?_ | refine wkSto_some rfl ?_)); done) (by (repeat' (first | exact wkEnv_nil | refine wkEnv_cons rfl ?_ | exact wkSto_nil | refine wkSto_none ?_ | refine wkSto_some rfl ?_)); done) | (exfalso; omega)
        all_goals clear ih
        all_goals first
          | (exfalso; omega)
          | exact no ‹_› ‹_›
          | (intro j hj hl
             rcases Nat.lt_or_ge j i with h1 | h1
             · exact hall j h1 hl
             · obtain rfl : j = i := by omega
               rw [← rdM_nat] at hl
               first | assumption | exact absurd hl (by assumption) | (simp_all; done))
          | trace_state
    repeat' (conv => arg 4; whnf); first | refine Run.ret ⟨?_, rfl⟩ | refine Run.condT ?_ | refine Run.condf ?_ | refine Run.condD (fun h => ?_) (fun h => ?_) | refine Run.condN (fun h => ?_) (fun h => ?_) | refine Run.condE (fun h => ?_) (fun h => ?_) | refine Run.condF (fun h => ?_) (fun h => ?_) | refine Run.condM (fun h => ?_) (fun h => ?_) | refine Run.condB (fun h => ?_) (fun h => ?_) | refine Run.check1 ?_ | refine Run.call (hbk) rfl ?_ | refine Run.round ⟨[(.t 1 0, .t 1 0)], [], []⟩ (loop b.ms.length 0 _ rfl (by omega) (fun j hj => absurd hj (by omega))) rfl (by (repeat' (first | exact wkEnv_nil | refine wkEnv_cons rfl ?_ | exact wkSto_nil | refine wkSto_none ?_ | refine wkSto_some rfl ?_)); done) (by (repeat' (first | exact wkEnv_nil | refine wkEnv_cons rfl ?_ | exact wkSto_nil | refine wkSto_none ?_ | refine wkSto_some rfl ?_)); done)
    all_goals trace_state
  · rw [decide_eq_false hb] at hbk
    repeat' (conv => arg 4; whnf); first | refine Run.ret ⟨?_, rfl⟩ | refine Run.condT ?_ | refine Run.condf ?_ | refine Run.condD (fun h => ?_) (fun h => ?_) | refine Run.condN (fun h => ?_) (fun h => ?_) | refine Run.condE (fun h => ?_) (fun h => ?_) | refine Run.condF (fun h => ?_) (fun h => ?_) | refine Run.condM (fun h => ?_) (fun h => ?_) | refine Run.condB (fun h => ?_) (fun h => ?_) | refine Run.check1 ?_ | refine Run.call (hbk) rfl ?_
    all_goals exact sure_no fun k => hb k.1
end Go.Proofs.YtlmdbeegmgfpnaaGreatDoor.AM

/- The place of a name, StripRound, the program's and the reference's; condition: the ticks are of 64 bits. -/
namespace Go.Proofs.YtlmdbeegmgfpnaaGreatDoor.AM
open Go.AM Go.RowKit
set_option linter.unusedVariables false
set_option linter.unusedSimpArgs false
set_option maxRecDepth 100000

theorem at1_ok (m : Mv) (n : ByteArray) : Ok P 85 [.agg (encMv m), .one (.ptr (.k 0) 0)] [some (.cells [.str n])] (.one (.bool (m.f0.toList == n.toList))) [some (.cells [.str n])] := by
  refine Ok.of_run (F := mk Tryz.f85 1) Tryz.func85 rfl rfl tabOk mixed rfl rfl rfl rfl rfl (Nat.le_of_ble_eq_true rfl) (Nat.le_of_ble_eq_true rfl) (.go 5000 ?_)
  repeat' (conv => arg 4; whnf); first | refine Run.ret ⟨?_, rfl⟩ | refine Run.condT ?_ | refine Run.condf ?_ | refine Run.condD (fun h => ?_) (fun h => ?_) | refine Run.condN (fun h => ?_) (fun h => ?_) | refine Run.condE (fun h => ?_) (fun h => ?_) | refine Run.condF (fun h => ?_) (fun h => ?_) | refine Run.condM (fun h => ?_) (fun h => ?_) | refine Run.condB (fun h => ?_) (fun h => ?_) | refine Run.check1 ?_
  all_goals first | rfl | trace_state
theorem indexFunc_ok (l : List Mv) (n : ByteArray) (hl : l.length ≤ 1048576) : Ok P 84 [.one (.lst .mv l false), .one (.fn 85 [.ptr (.k 0) 0])] [some (.cells [.str n])] (.one (.int .i64 (atN l n))) [some (.cells [.str n])] := by
  refine Ok.of_run (F := mk Tryz.f84 1) Tryz.func84 rfl rfl tabOk mixed rfl rfl rfl rfl rfl (Nat.le_of_ble_eq_true rfl) (Nat.le_of_ble_eq_true rfl) (.go 5000 ?_)
  have loop : ∀ (d i : Nat) (z : Int), z = i → i + d = l.length → Fact (atFrom l n i d = atN l n) → Run P (mk Tryz.f84 1) (fun v st => v = .one (.int .i64 (atN l n)) ∧ st = [some (.cells [.str n])])
      (.loop ⟨[(0, .one (.lst .mv l false)), (1, .one (.fn 85 [.ptr (.k 0) 0])), (7, .one (.int .i64 (l.length : Int))), (8, .one (.int .i64 z))], [(.k 0, some (.cells [.str n]))], [.lp [0, 1, 0, 1], .blk 0, .code [1, 1]], none⟩) := by
    intro d
    induction d with
    | zero =>
      intro i z hz hd he
      subst hz
      refine Run.loop ?_
      repeat' (conv => arg 4; whnf); first | refine Run.ret ⟨?_, rfl⟩ | refine Run.condT ?_ | refine Run.condf ?_ | refine Run.condD (fun h => ?_) (fun h => ?_) | refine Run.condN (fun h => ?_) (fun h => ?_) | refine Run.condE (fun h => ?_) (fun h => ?_) | refine Run.condF (fun h => ?_) (fun h => ?_) | refine Run.condM (fun h => ?_) (fun h => ?_) | refine Run.condB (fun h => ?_) (fun h => ?_) | refine Run.check1 ?_ | (exfalso; omega)
      all_goals first | (rw [← he.h]; rfl) | (exfalso; omega) | trace_state
    | succ d ih =>
      intro i z hz hd he
      subst hz
      have e := fs (i := i) (by omega)
      have hc := he.h
      unfold atFrom at hc
      rw [← rdM_nat] at hc
      have h1 := at1_ok (rdM l (i : Int)) n
      cases hq : ((rdM l (i : Int)).f0.toList == n.toList) with
      | true =>
        rw [hq] at h1
        rw [if_pos hq] at hc
        refine Run.loop ?_
        repeat' (conv => arg 4; whnf); first | refine Run.ret ⟨?_, rfl⟩ | refine Run.condT ?_ | refine Run.condf ?_ | refine Run.condD (fun h => ?_) (fun h => ?_) | refine Run.condN (fun h => ?_) (fun h => ?_) | refine Run.condE (fun h => ?_) (fun h => ?_) | refine Run.condF (fun h => ?_) (fun h => ?_) | refine Run.condM (fun h => ?_) (fun h => ?_) | refine Run.condB (fun h => ?_) (fun h => ?_) | refine Run.check1 ?_ | (exfalso; omega) | refine Run.need1 (by simp only [allP, true_and, and_true]; omega) ?_ | refine Run.call (h1) rfl ?_
        all_goals first | (rw [← hc]; done) | rfl | (exfalso; omega) | trace_state
      | false =>
        rw [hq] at h1
        rw [if_neg (by rw [hq]; exact Bool.false_ne_true)] at hc
        refine Run.loop ?_
        repeat' (conv => arg 4; whnf); first | refine Run.ret ⟨?_, rfl⟩ | refine Run.condT ?_ | refine Run.condf ?_ | refine Run.condD (fun h => ?_) (fun h => ?_) | refine Run.condN (fun h => ?_) (fun h => ?_) | refine Run.condE (fun h => ?_) (fun h => ?_) | refine Run.condF (fun h => ?_) (fun h => ?_) | refine Run.condM (fun h => ?_) (fun h => ?_) | refine Run.condB (fun h => ?_) (fun h => ?_) | refine Run.check1 ?_ | (exfalso; omega) | refine Run.need1 (by simp only [allP, true_and, and_true]; omega) ?_ | refine Run.call (h1) rfl ?_ | refine Run.round ⟨[], [], []⟩ (ih (i + 1) _ e.h (by omega) ⟨hc⟩) rfl (by (repeat' (first | exact wkEnv_nil | refine wkEnv_cons rfl ?_ | exact wkSto_nil | refine wkSto_none ?_ | refine wkSto_some rfl ?_)); done) (by (repeat' (first | exact wkEnv_nil | refine wkEnv_cons rfl ?_ | exact wkSto_nil | refine wkSto_none ?_ | refine wkSto_some rfl ?_)); done)
        all_goals first | (exfalso; omega) | trace_state
  repeat' (conv => arg 4; whnf); first | refine Run.ret ⟨?_, rfl⟩ | refine Run.condT ?_ | refine Run.condf ?_ | refine Run.condD (fun h => ?_) (fun h => ?_) | refine Run.condN (fun h => ?_) (fun h => ?_) | refine Run.condE (fun h => ?_) (fun h => ?_) | refine Run.condF (fun h => ?_) (fun h => ?_) | refine Run.condM (fun h => ?_) (fun h => ?_) | refine Run.condB (fun h => ?_) (fun h => ?_) | refine Run.check1 ?_ | refine Run.round ⟨[], [], []⟩ (loop l.length 0 _ rfl (by omega) ⟨rfl⟩) rfl (by (repeat' (first | exact wkEnv_nil | refine wkEnv_cons rfl ?_ | exact wkSto_nil | refine wkSto_none ?_ | refine wkSto_some rfl ?_)); done) (by (repeat' (first | exact wkEnv_nil | refine wkEnv_cons rfl ?_ | exact wkSto_nil | refine wkSto_none ?_ | refine wkSto_some rfl ?_)); done)
  all_goals trace_state
theorem at_ok (b : Bk) (n : ByteArray) (hl : b.ms.length ≤ 1048576) : Ok P 57 [b.lent, .one (.str n)] [] (.one (.int .i64 (atN b.ms n))) [] := by
  refine Ok.of_run (F := mk Tryz.f57 0) Tryz.func57 rfl rfl tabOk mixed rfl rfl rfl rfl rfl (Nat.le_of_ble_eq_true rfl) (Nat.le_of_ble_eq_true rfl) (.go 5000 ?_)
  repeat' (conv => arg 4; whnf); first | refine Run.ret ⟨?_, rfl⟩ | refine Run.condT ?_ | refine Run.condf ?_ | refine Run.condD (fun h => ?_) (fun h => ?_) | refine Run.condN (fun h => ?_) (fun h => ?_) | refine Run.condE (fun h => ?_) (fun h => ?_) | refine Run.condF (fun h => ?_) (fun h => ?_) | refine Run.condM (fun h => ?_) (fun h => ?_) | refine Run.condB (fun h => ?_) (fun h => ?_) | refine Run.check1 ?_ | refine Run.call (indexFunc_ok b.ms n hl) rfl ?_
  all_goals rfl
theorem sat_ok (b : Bk) (n : ByteArray) (hl : b.ms.length ≤ 1048576) : Ok P 40 [b.lent, .one (.str n)] [] (.one (.int .i64 (atN b.ms n))) [] := by
  refine Ok.of_run (F := mk Tryz.f40 0) Tryz.func40 rfl rfl tabOk mixed rfl rfl rfl rfl rfl (Nat.le_of_ble_eq_true rfl) (Nat.le_of_ble_eq_true rfl) (.go 5000 ?_)
  have loop : ∀ (d i : Nat) (z : Int), z = i → i + d = b.ms.length → Fact (atFrom b.ms n i d = atN b.ms n) → Run P (mk Tryz.f40 0) (fun v st => v = .one (.int .i64 (atN b.ms n)) ∧ st = [])
      (.loop ⟨[(1, .one (.str n)), (2, .one (.ptr (.t 2 0) 0)), (5, .one (.int .i64 z))], [(.t 2 0, some (.cells b.lent.atoms))], [.lp [0, 1, 0, 1], .blk 0, .code [1, 1]], none⟩) := by
    intro d
    induction d with
    | zero =>
      intro i z hz hd he
      subst hz
      refine Run.loop ?_
      repeat' (conv => arg 4; whnf); first | refine Run.ret ⟨?_, rfl⟩ | refine Run.condT ?_ | refine Run.condf ?_ | refine Run.condD (fun h => ?_) (fun h => ?_) | refine Run.condN (fun h => ?_) (fun h => ?_) | refine Run.condE (fun h => ?_) (fun h => ?_) | refine Run.condF (fun h => ?_) (fun h => ?_) | refine Run.condM (fun h => ?_) (fun h => ?_) | refine Run.condB (fun h => ?_) (fun h => ?_) | refine Run.check1 ?_ | (exfalso; omega)
      all_goals first | (rw [← he.h]; rfl) | (exfalso; omega) | trace_state
    | succ d ih =>
      intro i z hz hd he
      subst hz
      have e := fs (i := i) (by omega)
      have hc := he.h
      unfold atFrom at hc
      rw [← rdM_nat] at hc
      refine Run.loop ?_
      repeat' (conv => arg 4; whnf); first | refine Run.ret ⟨?_, rfl⟩ | refine Run.condT ?_ | refine Run.condf ?_ | refine Run.condD (fun h => ?_) (fun h => ?_) | refine Run.condN (fun h => ?_) (fun h => ?_) | refine Run.condE (fun h => ?_) (fun h => ?_) | refine Run.condF (fun h => ?_) (fun h => ?_) | refine Run.condM (fun h => ?_) (fun h => ?_) | refine Run.condB (fun h => ?_) (fun h => ?_) | refine Run.check1 ?_ | (exfalso; omega) | refine Run.need1 (by simp only [allP, true_and, and_true]; omega) ?_ | refine Run.round ⟨[(.t 2 0, .t 2 0)], [], []⟩ (ih (i + 1) _ e.h (by omega) ⟨?_⟩) rfl (by (repeat' (first | exact wkEnv_nil | refine wkEnv_cons rfl ?_ | exact wkSto_nil | refine wkSto_none ?_ | refine wkSto_some rfl ?_)); done) (by (repeat' (first | exact wkEnv_nil | refine wkEnv_cons rfl ?_ | exact wkSto_nil | refine wkSto_none ?_ | refine wkSto_some rfl ?_)); done)
      all_goals first | (rw [← hc]; first | (rw [if_pos ‹_›]; done) | (rw [if_neg (by simp only [*, Bool.false_eq_true, not_false_eq_true])]; done)) | (exfalso; omega) | trace_state
  repeat' (conv => arg 4; whnf); first | refine Run.ret ⟨?_, rfl⟩ | refine Run.condT ?_ | refine Run.condf ?_ | refine Run.condD (fun h => ?_) (fun h => ?_) | refine Run.condN (fun h => ?_) (fun h => ?_) | refine Run.condE (fun h => ?_) (fun h => ?_) | refine Run.condF (fun h => ?_) (fun h => ?_) | refine Run.condM (fun h => ?_) (fun h => ?_) | refine Run.condB (fun h => ?_) (fun h => ?_) | refine Run.check1 ?_ | refine Run.round ⟨[(.t 2 0, .t 2 0)], [], []⟩ (loop b.ms.length 0 _ rfl (by omega) ⟨rfl⟩) rfl (by (repeat' (first | exact wkEnv_nil | refine wkEnv_cons rfl ?_ | exact wkSto_nil | refine wkSto_none ?_ | refine wkSto_some rfl ?_)); done) (by (repeat' (first | exact wkEnv_nil | refine wkEnv_cons rfl ?_ | exact wkSto_nil | refine wkSto_none ?_ | refine wkSto_some rfl ?_)); done)
  all_goals trace_state
theorem bestF_len6 (l : List Mv) (sh : Int) : (bestF l sh).1.length ≤ 6 := by
  unfold bestF
  split
  · rename_i h
    have h6 := h.1.1
    unfold bestM
    have hb := best_ok1 h.1 sh
    revert hb
    cases bestO l sh with
    | none => exact fun _ => Nat.zero_le _
    | some t =>
      intro hb
      have := (hb t rfl).2.1
      show t.length ≤ 6
      omega
  · exact Nat.zero_le _
theorem planM_len (l : List Mv) (now sh : Int) (hm : MovesOk l) (hn : 0 ≤ now) (hs : 0 ≤ sh ∧ sh ≤ 6) : (planM l now sh).1.length ≤ 6 := by
  rw [planM_eq hm hn hs]
  split
  · exact bestF_len6 _ _
  · exact Nat.zero_le _
theorem strip_round_ok (b : Bk) (n : ByteArray) (hl : b.ms.length ≤ 1048576) (ht : b.ts.length ≤ 1048576) (hw : TkWf b.ts) :
    Ok P 32 [b.lent, .one (.str n)] [] (.tup [(roundR b n).1.own (.k 0) (.k 1), .one (.int .i64 (roundR b n).2)]) [some (.row .mv (roundR b n).1.ms), some (.row (.int .i64) (roundR b n).1.ts)] := by
  refine nilB_ok ?_
  have hbk := bookOk_ok b hw
  refine Ok.of_rel (F := mk Tryz.f32 0) Tryz.func32 rfl rfl tabOk mixed rfl rfl rfl rfl rfl (Nat.le_of_ble_eq_true rfl) (by first | exact fun _ _ => nilR_len | exact fun _ _ => nilB_len) (.go 5000 ?_)
  by_cases hb : BkOk b
  · rw [decide_eq_true hb] at hbk
    have h6 := hb.2.2.1.1.1
    have hlen := hb.2.2.1.2.1
    have hat := at_ok b n hl
    rcases atN_range b.ms n with ⟨h1, _⟩ | ⟨a, h1, ha, _⟩
    · have hr : roundR b n = (b, 3) := by unfold roundR; rw [if_neg (fun q => q hb), if_pos (fun q => by omega)]
      rw [hr]
      rw [h1] at hat
      repeat' (conv => arg 4; whnf); first | refine Run.ret ⟨?_, rfl⟩ | refine Run.condT ?_ | refine Run.condf ?_ | refine Run.condD (fun h => ?_) (fun h => ?_) | refine Run.condN (fun h => ?_) (fun h => ?_) | refine Run.condE (fun h => ?_) (fun h => ?_) | refine Run.condF (fun h => ?_) (fun h => ?_) | refine Run.condM (fun h => ?_) (fun h => ?_) | refine Run.condB (fun h => ?_) (fun h => ?_) | refine Run.check1 ?_ | refine Run.call (hbk) rfl ?_ | refine Run.call (hat) rfl ?_ | refine Run.call (copyBook_ok b hl ht) rfl ?_ | (refine Run.ret (.inl ⟨rfl, rfl⟩)) | (exfalso; omega)
      all_goals trace_state
    · have hro := round_ok b a hb ha
      rw [h1] at hat
      rw [roundI_2] at hro
      have hrd : rd b.ts (a : Int) = tk b.ts a := rd_nat _ _
      cases hld : (rdM b.ms (a : Int)).f1 with
      | false =>
        have hr : roundR b n = (b, 3) := by unfold roundR; rw [if_neg (fun q => q hb), if_pos (fun q => by rw [h1, Int.toNat_natCast, ← rdM_nat, hld] at q; exact absurd q.2 Bool.false_ne_true)]
        rw [hr]
        repeat' (conv => arg 4; whnf); first | refine Run.ret ⟨?_, rfl⟩ | refine Run.condT ?_ | refine Run.condf ?_ | refine Run.condD (fun h => ?_) (fun h => ?_) | refine Run.condN (fun h => ?_) (fun h => ?_) | refine Run.condE (fun h => ?_) (fun h => ?_) | refine Run.condF (fun h => ?_) (fun h => ?_) | refine Run.condM (fun h => ?_) (fun h => ?_) | refine Run.condB (fun h => ?_) (fun h => ?_) | refine Run.check1 ?_ | refine Run.call (hbk) rfl ?_ | refine Run.call (hat) rfl ?_ | refine Run.need1 (by simp only [allP, true_and, and_true]; omega) ?_ | refine Run.call (copyBook_ok b hl ht) rfl ?_ | (refine Run.ret (.inl ⟨rfl, rfl⟩)) | (exfalso; omega) | (exfalso; rw [hld] at *; contradiction)
        all_goals trace_state
      | true =>
        have hr0 : roundR b n = if tk b.ts a ≠ b.now then (b, 6) else if RoundOk b a then (roundB b a, 0) else (b, 5) := by
          unfold roundR
          rw [if_neg (fun q => q hb), if_neg (fun q => q ⟨by omega, by rw [h1, Int.toNat_natCast, ← rdM_nat, hld]⟩), h1, Int.toNat_natCast]
        by_cases hnow : tk b.ts a = b.now
        · rw [if_neg (fun q => q hnow)] at hr0
          by_cases hrk : RoundOk b a
          · rw [hr0, if_pos hrk]
            rw [decide_eq_true hrk, then_gone hb ha hrk.1] at hro
            repeat' (conv => arg 4; whnf); first | refine Run.ret ⟨?_, rfl⟩ | refine Run.condT ?_ | refine Run.condf ?_ | refine Run.condD (fun h => ?_) (fun h => ?_) | refine Run.condN (fun h => ?_) (fun h => ?_) | refine Run.condE (fun h => ?_) (fun h => ?_) | refine Run.condF (fun h => ?_) (fun h => ?_) | refine Run.condM (fun h => ?_) (fun h => ?_) | refine Run.condB (fun h => ?_) (fun h => ?_) | refine Run.check1 ?_ | refine Run.call (hbk) rfl ?_ | refine Run.call (hat) rfl ?_ | refine Run.need1 (by simp only [allP, true_and, and_true]; omega) ?_ | refine Run.call (hro) rfl ?_ | (refine Run.ret (.inl ⟨rfl, rfl⟩)) | (exfalso; omega) | (exfalso; rw [hld] at *; contradiction)
            all_goals trace_state
          · rw [hr0, if_neg hrk]
            rw [decide_eq_false hrk] at hro
            generalize (roundI b a).1 = rb at hro
            repeat' (conv => arg 4; whnf); first | refine Run.ret ⟨?_, rfl⟩ | refine Run.condT ?_ | refine Run.condf ?_ | refine Run.condD (fun h => ?_) (fun h => ?_) | refine Run.condN (fun h => ?_) (fun h => ?_) | refine Run.condE (fun h => ?_) (fun h => ?_) | refine Run.condF (fun h => ?_) (fun h => ?_) | refine Run.condM (fun h => ?_) (fun h => ?_) | refine Run.condB (fun h => ?_) (fun h => ?_) | refine Run.check1 ?_ | refine Run.call (hbk) rfl ?_ | refine Run.call (hat) rfl ?_ | refine Run.need1 (by simp only [allP, true_and, and_true]; omega) ?_ | refine Run.call (hro) rfl ?_ | refine Run.call (copyBook_ok b hl ht) rfl ?_ | (refine Run.ret (.inl ⟨rfl, rfl⟩)) | (exfalso; omega) | (exfalso; rw [hld] at *; contradiction)
            all_goals trace_state
        · rw [hr0, if_pos hnow]
          repeat' (conv => arg 4; whnf); first | refine Run.ret ⟨?_, rfl⟩ | refine Run.condT ?_ | refine Run.condf ?_ | refine Run.condD (fun h => ?_) (fun h => ?_) | refine Run.condN (fun h => ?_) (fun h => ?_) | refine Run.condE (fun h => ?_) (fun h => ?_) | refine Run.condF (fun h => ?_) (fun h => ?_) | refine Run.condM (fun h => ?_) (fun h => ?_) | refine Run.condB (fun h => ?_) (fun h => ?_) | refine Run.check1 ?_ | refine Run.call (hbk) rfl ?_ | refine Run.call (hat) rfl ?_ | refine Run.need1 (by simp only [allP, true_and, and_true]; omega) ?_ | refine Run.call (copyBook_ok b hl ht) rfl ?_ | (refine Run.ret (.inl ⟨rfl, rfl⟩)) | (exfalso; omega) | (exfalso; rw [hld] at *; contradiction)
          all_goals trace_state
  · rw [decide_eq_false hb] at hbk
    rw [show roundR b n = (Bk.z, 1) from if_pos hb]
    repeat' (conv => arg 4; whnf); first | refine Run.ret ⟨?_, rfl⟩ | refine Run.condT ?_ | refine Run.condf ?_ | refine Run.condD (fun h => ?_) (fun h => ?_) | refine Run.condN (fun h => ?_) (fun h => ?_) | refine Run.condE (fun h => ?_) (fun h => ?_) | refine Run.condF (fun h => ?_) (fun h => ?_) | refine Run.condM (fun h => ?_) (fun h => ?_) | refine Run.condB (fun h => ?_) (fun h => ?_) | refine Run.check1 ?_ | refine Run.call (hbk) rfl ?_ | (refine Run.ret (.inr (.inr ⟨rfl, rfl, rfl, rfl⟩)))
    all_goals trace_state
theorem strip_sround_ok (b : Bk) (n : ByteArray) (hl : b.ms.length ≤ 1048576) (ht : b.ts.length ≤ 1048576) (hw : TkWf b.ts) :
    Ok P 23 [b.lent, .one (.str n)] [] (.tup [(roundR b n).1.own (.k 0) (.k 1), .one (.int .i64 (roundR b n).2)]) [some (.row .mv (roundR b n).1.ms), some (.row (.int .i64) (roundR b n).1.ts)] := by
  refine nilB_ok ?_
  have hbk := sbookOk_ok b hw
  refine Ok.of_rel (F := mk Tryz.f23 0) Tryz.func23 rfl rfl tabOk mixed rfl rfl rfl rfl rfl (Nat.le_of_ble_eq_true rfl) (by first | exact fun _ _ => nilR_len | exact fun _ _ => nilB_len) (.go 5000 ?_)
  by_cases hb : BkOk b
  · rw [decide_eq_true hb] at hbk
    have h6 := hb.2.2.1.1.1
    have hlen := hb.2.2.1.2.1
    have hat := sat_ok b n hl
    rcases atN_range b.ms n with ⟨h1, _⟩ | ⟨a, h1, ha, _⟩
    · have hr : roundR b n = (b, 3) := by unfold roundR; rw [if_neg (fun q => q hb), if_pos (fun q => by omega)]
      rw [hr]
      rw [h1] at hat
      repeat' (conv => arg 4; whnf); first | refine Run.ret ⟨?_, rfl⟩ | refine Run.condT ?_ | refine Run.condf ?_ | refine Run.condD (fun h => ?_) (fun h => ?_) | refine Run.condN (fun h => ?_) (fun h => ?_) | refine Run.condE (fun h => ?_) (fun h => ?_) | refine Run.condF (fun h => ?_) (fun h => ?_) | refine Run.condM (fun h => ?_) (fun h => ?_) | refine Run.condB (fun h => ?_) (fun h => ?_) | refine Run.check1 ?_ | refine Run.call (hbk) rfl ?_ | refine Run.call (hat) rfl ?_ | refine Run.call (scopy_ok b hl ht) rfl ?_ | (refine Run.ret (.inl ⟨rfl, rfl⟩)) | (exfalso; omega)
      all_goals trace_state
    · have hro := sround_ok b a hb ha
      rw [h1] at hat
      have hrd : rd b.ts (a : Int) = tk b.ts a := rd_nat _ _
      cases hld : (rdM b.ms (a : Int)).f1 with
      | false =>
        have hr : roundR b n = (b, 3) := by unfold roundR; rw [if_neg (fun q => q hb), if_pos (fun q => by rw [h1, Int.toNat_natCast, ← rdM_nat, hld] at q; exact absurd q.2 Bool.false_ne_true)]
        rw [hr]
        repeat' (conv => arg 4; whnf); first | refine Run.ret ⟨?_, rfl⟩ | refine Run.condT ?_ | refine Run.condf ?_ | refine Run.condD (fun h => ?_) (fun h => ?_) | refine Run.condN (fun h => ?_) (fun h => ?_) | refine Run.condE (fun h => ?_) (fun h => ?_) | refine Run.condF (fun h => ?_) (fun h => ?_) | refine Run.condM (fun h => ?_) (fun h => ?_) | refine Run.condB (fun h => ?_) (fun h => ?_) | refine Run.check1 ?_ | refine Run.call (hbk) rfl ?_ | refine Run.call (hat) rfl ?_ | refine Run.need1 (by simp only [allP, true_and, and_true]; omega) ?_ | refine Run.call (scopy_ok b hl ht) rfl ?_ | (refine Run.ret (.inl ⟨rfl, rfl⟩)) | (exfalso; omega) | (exfalso; rw [hld] at *; contradiction)
        all_goals trace_state
      | true =>
        have hr0 : roundR b n = if tk b.ts a ≠ b.now then (b, 6) else if RoundOk b a then (roundB b a, 0) else (b, 5) := by
          unfold roundR
          rw [if_neg (fun q => q hb), if_neg (fun q => q ⟨by omega, by rw [h1, Int.toNat_natCast, ← rdM_nat, hld]⟩), h1, Int.toNat_natCast]
        by_cases hnow : tk b.ts a = b.now
        · rw [if_neg (fun q => q hnow)] at hr0
          by_cases hrk : RoundOk b a
          · rw [hr0, if_pos hrk]
            rw [roundS_yes hrk] at hro
            have hlr : (roundB b a).ms.length ≤ 1048576 := by have := thenL_len b a; show (thenL b a).length ≤ _; omega
            have htr : (roundB b a).ts.length ≤ 1048576 := by
              have := planM_len (thenL b a) (tk b.ts a) 6 (then_movesOk hb ha hrk.1) (by have := bk_tick hb ha; omega) (by omega)
              show (planM (thenL b a) (tk b.ts a) 6).1.length ≤ _
              omega
            repeat' (conv => arg 4; whnf); first | refine Run.ret ⟨?_, rfl⟩ | refine Run.condT ?_ | refine Run.condf ?_ | refine Run.condD (fun h => ?_) (fun h => ?_) | refine Run.condN (fun h => ?_) (fun h => ?_) | refine Run.condE (fun h => ?_) (fun h => ?_) | refine Run.condF (fun h => ?_) (fun h => ?_) | refine Run.condM (fun h => ?_) (fun h => ?_) | refine Run.condB (fun h => ?_) (fun h => ?_) | refine Run.check1 ?_ | refine Run.call (hbk) rfl ?_ | refine Run.call (hat) rfl ?_ | refine Run.need1 (by simp only [allP, true_and, and_true]; omega) ?_ | refine Run.call (hro) rfl ?_ | refine Run.call (scopy_ok b hl ht) rfl ?_ | refine Run.call (scopy_ok (roundB b a) hlr htr) rfl ?_ | (refine Run.ret (.inl ⟨rfl, rfl⟩)) | (exfalso; omega) | (exfalso; rw [hld] at *; contradiction)
            all_goals trace_state
          · rw [hr0, if_neg hrk]
            rw [roundS_no hrk] at hro
            repeat' (conv => arg 4; whnf); first | refine Run.ret ⟨?_, rfl⟩ | refine Run.condT ?_ | refine Run.condf ?_ | refine Run.condD (fun h => ?_) (fun h => ?_) | refine Run.condN (fun h => ?_) (fun h => ?_) | refine Run.condE (fun h => ?_) (fun h => ?_) | refine Run.condF (fun h => ?_) (fun h => ?_) | refine Run.condM (fun h => ?_) (fun h => ?_) | refine Run.condB (fun h => ?_) (fun h => ?_) | refine Run.check1 ?_ | refine Run.call (hbk) rfl ?_ | refine Run.call (hat) rfl ?_ | refine Run.need1 (by simp only [allP, true_and, and_true]; omega) ?_ | refine Run.call (hro) rfl ?_ | refine Run.call (scopy_ok b hl ht) rfl ?_ | (refine Run.ret (.inl ⟨rfl, rfl⟩)) | (exfalso; omega) | (exfalso; rw [hld] at *; contradiction)
            all_goals trace_state
        · rw [hr0, if_pos hnow]
          repeat' (conv => arg 4; whnf); first | refine Run.ret ⟨?_, rfl⟩ | refine Run.condT ?_ | refine Run.condf ?_ | refine Run.condD (fun h => ?_) (fun h => ?_) | refine Run.condN (fun h => ?_) (fun h => ?_) | refine Run.condE (fun h => ?_) (fun h => ?_) | refine Run.condF (fun h => ?_) (fun h => ?_) | refine Run.condM (fun h => ?_) (fun h => ?_) | refine Run.condB (fun h => ?_) (fun h => ?_) | refine Run.check1 ?_ | refine Run.call (hbk) rfl ?_ | refine Run.call (hat) rfl ?_ | refine Run.need1 (by simp only [allP, true_and, and_true]; omega) ?_ | refine Run.call (scopy_ok b hl ht) rfl ?_ | (refine Run.ret (.inl ⟨rfl, rfl⟩)) | (exfalso; omega) | (exfalso; rw [hld] at *; contradiction)
          all_goals trace_state
  · rw [decide_eq_false hb] at hbk
    rw [show roundR b n = (Bk.z, 1) from if_pos hb]
    repeat' (conv => arg 4; whnf); first | refine Run.ret ⟨?_, rfl⟩ | refine Run.condT ?_ | refine Run.condf ?_ | refine Run.condD (fun h => ?_) (fun h => ?_) | refine Run.condN (fun h => ?_) (fun h => ?_) | refine Run.condE (fun h => ?_) (fun h => ?_) | refine Run.condF (fun h => ?_) (fun h => ?_) | refine Run.condM (fun h => ?_) (fun h => ?_) | refine Run.condB (fun h => ?_) (fun h => ?_) | refine Run.check1 ?_ | refine Run.call (hbk) rfl ?_ | (refine Run.ret (.inr (.inr ⟨rfl, rfl, rfl, rfl⟩)))
    all_goals trace_state
end Go.Proofs.YtlmdbeegmgfpnaaGreatDoor.AM

/- A contract whose answer is the head of the row that was handed over; no condition. -/
namespace Go.AM
set_option linter.unusedVariables false
set_option linter.unusedSimpArgs false
open Go.RowKit
variable {P : Program}

theorem Ok.cut {f : FuncId} {args : List V} {e : El} {ys xs zs : List e.T} {n : Nat} (h : Ok P f args [some (.row e ys)] (.one (.sub (.k 0) 0 n)) [some (.row e xs)]) (hn : n ≤ xs.length) (hne : 0 < xs.length) (hz : xs.take n = zs) :
    Ok P f args [some (.row e ys)] (.one (.own (.k 1))) [none, some (.row e zs)] := by
  subst hz
  obtain ⟨h1, h2⟩ := h
  refine ⟨Nat.le_succ_of_le (Nat.le_refl _), fun w μ G cargs hr hrep => (h2 w μ G cargs hr hrep).mono fun u w' ⟨μ', G', k1, k2⟩ => ?_⟩
  have hl0 : lkC (.k 0) (argSto 0 [some (.row e xs)]) = some (.row e xs) := rfl
  obtain ⟨B, b1, b2, b3⟩ := k2.hr.live _ _ hl0
  have hn1 : μ' (.k 1) = none := by
    cases hm : μ' (.k 1) with
    | none => rfl
    | some B =>
      have := k2.hr.known _ _ hm
      rw [argSto_lk] at this
      simp at this
  obtain ⟨c1, c2, c3, c4, c5⟩ := b2
  have hv : B.virt = false := by
    cases hq : B.virt with
    | false => rfl
    | true => rw [(c4 hq).1] at hne; simp at hne
  obtain ⟨d1, arr, te, d2, d3, d4⟩ := c5 hv
  let B2 : Blk := { B with len := n }
  let μ2 : Mu := fun l => if l = .k 1 then some B2 else μ' l
  have hx : ∀ l C, μ' l = some C → μ2 l = some C := by
    intro l C hC
    show (if l = .k 1 then _ else _) = _
    rw [if_neg (by rintro rfl; rw [hn1] at hC; cases hC)]
    exact hC
  have hl : μ2 (.k 1) = some B2 := if_pos rfl
  have hlk : ∀ l c, lkC l (argSto 0 [none, some (.row e (xs.take n))]) = some c → l = .k 1 ∧ c = .row e (xs.take n) := by
    intro l c hc
    rw [lkC_some, argSto_lk] at hc
    cases l with
    | t d j => cases hc
    | k i =>
      rcases i with _ | _ | i
      · simp at hc
      · exact ⟨rfl, by simpa using hc.symm⟩
      · simp at hc
  refine ⟨μ2, G', ?_, ⟨⟨fun l c hc => ?_, fun l C hC => ?_, fun l l' c c' C C' hc hc' hC hC' hvt hvt' hne' => ?_, k2.hr.good, k2.hr.tab⟩, fun i hi => ?_, k2.gnew, k2.frame, k2.size, k2.os, k2.tape, k2.output, fun l C hC => ?_, fun b hb => ?_⟩⟩
  · simp only [repV, repA] at k1 ⊢
    obtain ⟨C, o, q1, q2, q3, q4⟩ := k1
    rw [b1] at q1
    obtain rfl := Option.some.inj q1
    refine ⟨B2, hl, ?_⟩
    rw [q2, q4 (by omega), d1]
    simp [B2]
  · obtain ⟨rfl, rfl⟩ := hlk l c hc
    refine ⟨B2, hl, ⟨?_, ?_, c3, fun q => ?_, fun _ => ⟨d1, arr, te, d2, d3, fun i x hx' => ?_⟩⟩, b3⟩
    · show n = _
      rw [List.length_take]; omega
    · show n ≤ B.cap
      omega
    · rw [show B2.virt = B.virt from rfl, hv] at q; cases q
    · have hxi : xs[i]? = some x := by
        rw [List.getElem?_take] at hx'
        split at hx'
        · exact hx'
        · cases hx'
      obtain ⟨us, m1, m2⟩ := d4 i x hxi
      exact ⟨us, repAs_mono hx (fun _ _ => rfl) (fun _ h => h) _ _ m1, m2⟩
  · by_cases q : l = .k 1
    · subst q; rfl
    · have := k2.hr.known l C (by rw [← hC]; exact (if_neg q).symm)
      rw [argSto_lk] at this ⊢
      cases l with
      | t d j => cases this
      | k i =>
        rcases i with _ | i
        · rfl
        · simp at this
  · exact absurd ((hlk l c hc).1.trans (hlk l' c' hc').1.symm) hne'
  · have : i = 0 := by
      rw [argSto_lk] at hi
      rcases i with _ | i
      · rfl
      · simp at hi
    subst this
    show (if L.k 0 = .k 1 then _ else _) = _
    rw [if_neg (by simp)]
    exact k2.kk 0 hi
  · by_cases q : l = .k 1
    · subst q
      rw [hl] at hC
      obtain rfl := Option.some.inj hC
      rcases k2.new _ _ b1 with h3 | h3 | h3 | h3
      · exact .inr (.inr (.inr ⟨.k 0, _, B, rfl, h3, hv, rfl⟩))
      · rw [hv] at h3; cases h3
      · exact .inr (.inr (.inl h3))
      · exact .inr (.inr (.inr h3))
    · exact k2.new l C (by rw [← hC]; exact (if_neg q).symm)
  · obtain ⟨l, c, C, e1, e2, e3, rfl⟩ := hb
    obtain ⟨rfl, rfl⟩ := hlk l c e1
    rw [hl] at e2
    obtain rfl := Option.some.inj e2
    exact k2.liv _ ⟨.k 0, _, B, hl0, b1, hv, rfl⟩
end Go.AM

/- slices.Delete of one element; condition: a place in the list, at most 1000 of them. -/
namespace Go.Proofs.YtlmdbeegmgfpnaaGreatDoor.AM
open Go.AM Go.RowKit
set_option linter.unusedVariables false
set_option linter.unusedSimpArgs false
set_option maxRecDepth 100000

theorem dropL_len {α : Type} (l : List α) {a : Nat} (h : a < l.length) : (dropL l a).length = l.length - 1 := by
  unfold dropL
  rw [List.length_append, List.length_take, List.length_drop]
  omega
theorem del_row {α : Type} (l : List α) (z : α) {a : Nat} (h : a < l.length) {t X : List α} {n r q : Nat} (ht : t = l.drop (a + 1)) (hn : n = l.length - 1) (hr : r = 1) (hq : q = l.length) (hX : X = l.take a ++ t ++ l.drop (a + t.length)) :
    X.take n ++ List.replicate r z ++ X.drop q = dropL l a ++ [z] := by
  subst hX; subst ht; subst hn; subst hr; subst hq
  have h1 := dropL_len l h
  rw [show l.take a ++ l.drop (a + 1) = dropL l a from rfl, ← h1, List.take_left]
  have h2 : (dropL l a ++ l.drop (a + (l.drop (a + 1)).length)).drop l.length = [] := by
    apply List.drop_eq_nil_of_le
    rw [List.length_append, h1, List.length_drop, List.length_drop]
    omega
  rw [h2, List.append_nil]
  rfl
theorem delM_ok (l : List Mv) (a : Nat) (z : Int) (h : a < l.length) (hl : l.length ≤ 1000) (hz : z = ((a + 1 : Nat) : Int)) : Ok P 62 [.one (.own (.k 0)), .one (.int .i64 (a : Int)), .one (.int .i64 z)] [some (.row .mv l)] (.one (.own (.k 1))) [none, some (.row .mv (dropL l a))] := by
  subst hz
  refine Ok.cut (e := .mv) (n := l.length - 1) (xs := dropL l a ++ [Mv.z]) ?_ ?_ ?_ ?_
  · refine Ok.of_run (F := mk Tryz.f62 1) Tryz.func62 rfl rfl tabOk mixed rfl rfl rfl rfl rfl (Nat.le_of_ble_eq_true rfl) (Nat.le_of_ble_eq_true rfl) (.go 5000 ?_)
    repeat' (conv => arg 4; whnf); first | refine Run.ret ⟨?_, rfl⟩ | refine Run.condT ?_ | refine Run.condf ?_ | refine Run.condD (fun h => ?_) (fun h => ?_) | refine Run.condN (fun h => ?_) (fun h => ?_) | refine Run.condE (fun h => ?_) (fun h => ?_) | refine Run.condF (fun h => ?_) (fun h => ?_) | refine Run.condM (fun h => ?_) (fun h => ?_) | refine Run.condB (fun h => ?_) (fun h => ?_) | refine Run.check1 ?_ | (exfalso; omega) | refine Run.need1 (by simp only [allP, true_and, and_true]; omega) ?_ | refine Run.need1 (by simp only [allP, true_and, and_true, List.length_append, List.length_take, List.length_drop]; omega) ?_ | (refine Run.ret ⟨?_, ?_⟩)
    · simp only [Int.toNat_natCast, Nat.zero_add, List.length_take, List.length_drop]
      congr 2
      omega
    · simp only [Int.toNat_natCast, Nat.zero_add]
      refine congrArg (fun r => [some (C.row _ r)]) (del_row l _ ‹_› ?_ ?_ ?_ ?_ rfl)
      · apply List.take_of_length_le
        rw [List.length_drop]; exact Nat.le_refl _
      all_goals (simp only [List.length_take, List.length_drop]; omega)
  · rw [List.length_append, dropL_len l h]; omega
  · rw [List.length_append]; exact Nat.succ_pos _
  · rw [← dropL_len l h]; exact List.take_left
theorem delI_ok (l : List Int) (a : Nat) (z : Int) (h : a < l.length) (hl : l.length ≤ 1000) (hz : z = ((a + 1 : Nat) : Int)) : Ok P 63 [.one (.own (.k 0)), .one (.int .i64 (a : Int)), .one (.int .i64 z)] [some (.row (.int .i64) l)] (.one (.own (.k 1))) [none, some (.row (.int .i64) (dropL l a))] := by
  subst hz
  refine Ok.cut (e := .int .i64) (n := l.length - 1) (xs := dropL l a ++ [(0 : Int)]) ?_ ?_ ?_ ?_
  · refine Ok.of_run (F := mk Tryz.f63 1) Tryz.func63 rfl rfl tabOk mixed rfl rfl rfl rfl rfl (Nat.le_of_ble_eq_true rfl) (Nat.le_of_ble_eq_true rfl) (.go 5000 ?_)
    repeat' (conv => arg 4; whnf); first | refine Run.ret ⟨?_, rfl⟩ | refine Run.condT ?_ | refine Run.condf ?_ | refine Run.condD (fun h => ?_) (fun h => ?_) | refine Run.condN (fun h => ?_) (fun h => ?_) | refine Run.condE (fun h => ?_) (fun h => ?_) | refine Run.condF (fun h => ?_) (fun h => ?_) | refine Run.condM (fun h => ?_) (fun h => ?_) | refine Run.condB (fun h => ?_) (fun h => ?_) | refine Run.check1 ?_ | (exfalso; omega) | refine Run.need1 (by simp only [allP, true_and, and_true]; omega) ?_ | refine Run.need1 (by simp only [allP, true_and, and_true, List.length_append, List.length_take, List.length_drop]; omega) ?_ | (refine Run.ret ⟨?_, ?_⟩)
    · simp only [Int.toNat_natCast, Nat.zero_add, List.length_take, List.length_drop]
      congr 2
      omega
    · simp only [Int.toNat_natCast, Nat.zero_add]
      refine congrArg (fun r => [some (C.row _ r)]) (del_row l _ ‹_› ?_ ?_ ?_ ?_ rfl)
      · apply List.take_of_length_le
        rw [List.length_drop]; exact Nat.le_refl _
      all_goals (simp only [List.length_take, List.length_drop]; omega)
  · rw [List.length_append, dropL_len l h]; omega
  · rw [List.length_append]; exact Nat.succ_pos _
  · rw [← dropL_len l h]; exact List.take_left
end Go.Proofs.YtlmdbeegmgfpnaaGreatDoor.AM

/- StripDrop, the program's and the reference's; condition: the ticks are of 64 bits. -/
namespace Go.Proofs.YtlmdbeegmgfpnaaGreatDoor.AM
open Go.AM Go.RowKit
set_option linter.unusedVariables false
set_option linter.unusedSimpArgs false
set_option maxRecDepth 100000

theorem drop_movesOk {l : List Mv} (h : MovesOk l) (a : Nat) : MovesOk (dropL l a) := by
  have hs : (dropL l a).Sublist l := by
    unfold dropL
    have h1 : (l.drop (a + 1)).Sublist (l.drop a) := by
      rw [← List.drop_drop]; exact List.drop_sublist _ _
    have := (List.Sublist.refl (l.take a)).append h1
    rwa [List.take_append_drop] at this
  rw [movesOk_iff] at h ⊢
  exact ⟨Nat.le_trans hs.length_le h.1, fun m hm => h.2.1 m (hs.subset hm), List.Pairwise.sublist hs h.2.2⟩
theorem bestF_w64 (l : List Mv) (sh : Int) : W64L (bestF l sh).1 := by
  cases hq : (bestF l sh).2 with
  | false => rw [bestF_nil l sh hq]; exact w64l_nil
  | true =>
    unfold bestF at *
    split at hq
    · rename_i h
      rw [if_pos h]
      unfold bestM at *
      have hb := best_ok1 h.1 sh
      revert hb hq
      cases bestO l sh with
      | none => exact fun h => by cases h
      | some t => exact fun _ hb => fits_w64 (hb t rfl)
    · cases hq
theorem planM_w64 (l : List Mv) (now sh : Int) (hm : MovesOk l) (hn : 0 ≤ now) (hs : 0 ≤ sh ∧ sh ≤ 6) : W64L (planM l now sh).1 := by
  rw [planM_eq hm hn hs]
  split
  · exact bestF_w64 _ _
  · exact w64l_nil
theorem dropR_eq {b : Bk} {n : ByteArray} {a : Nat} (hb : BkOk b) (h : atN b.ms n = a) : dropR b n = if (dropP b a).2 = true ∧ NoLater (dropP b a).1 (dropL b.ts a) ∧ SureM ⟨b.now, b.shift, dropL b.ms a, (dropP b a).1⟩
    then (⟨b.now, b.shift, dropL b.ms a, (dropP b a).1⟩, 0) else (dropB b a, 0) := by
  unfold dropR
  rw [if_neg (fun q => q hb), if_neg (by omega), h, Int.toNat_natCast]
theorem dropP_len {b : Bk} {a : Nat} (hb : BkOk b) (ha : a < b.ms.length) (h : (dropP b a).2 = true) : (dropP b a).1.length = (dropL b.ts a).length ∧ (dropP b a).1.length ≤ 6 := by
  have hm := drop_movesOk hb.2.2.1.1 a
  have hlen := hb.2.2.1.2.1
  have h6 := hb.2.2.1.1.1
  have hd := dropL_len b.ms ha
  have hd2 := dropL_len b.ts (a := a) (by omega)
  unfold dropP at *
  rw [planM_eq hm hb.1.1 hb.2.1] at h ⊢
  split at h
  · rename_i hl
    rw [if_pos hl]
    unfold bestF at *
    split at h
    · rename_i hc
      rw [if_pos hc]
      unfold bestM at *
      have hb := best_ok1 hc.1 b.shift
      revert h hb
      cases bestO (laterL (b.now + 4) (dropL b.ms a)) b.shift with
      | none => exact fun h => by cases h
      | some t =>
        intro _ hb
        have := (hb t rfl).2.1
        have hll : (laterL (b.now + 4) (dropL b.ms a)).length = (dropL b.ms a).length := by simp [laterL]
        show t.length = _ ∧ t.length ≤ 6
        omega
    · cases h
  · cases h
theorem strip_drop_ok (b : Bk) (n : ByteArray) (hl : b.ms.length ≤ 1048576) (ht : b.ts.length ≤ 1048576) (hw : TkWf b.ts) :
    Ok P 31 [b.lent, .one (.str n)] [] (.tup [(dropR b n).1.own (.k 0) (.k 1), .one (.int .i64 (dropR b n).2)]) [some (.row .mv (dropR b n).1.ms), some (.row (.int .i64) (dropR b n).1.ts)] := by
  refine nilB_ok ?_
  have hbk := bookOk_ok b hw
  refine Ok.of_rel (F := mk Tryz.f31 0) Tryz.func31 rfl rfl tabOk mixed rfl rfl rfl rfl rfl (Nat.le_of_ble_eq_true rfl) (by first | exact fun _ _ => nilR_len | exact fun _ _ => nilB_len) (.go 5000 ?_)
  by_cases hb : BkOk b
  · rw [decide_eq_true hb] at hbk
    have h6 := hb.2.2.1.1.1
    have hlen := hb.2.2.1.2.1
    have hat := at_ok b n hl
    rcases atN_range b.ms n with ⟨h1, _⟩ | ⟨a, h1, ha, _⟩
    · have hr : dropR b n = (b, 3) := by unfold dropR; rw [if_neg (fun q => q hb), if_pos (by omega)]
      rw [hr]
      rw [h1] at hat
      repeat' (conv => arg 4; whnf); first | refine Run.ret ⟨?_, rfl⟩ | refine Run.condT ?_ | refine Run.condf ?_ | refine Run.condD (fun h => ?_) (fun h => ?_) | refine Run.condN (fun h => ?_) (fun h => ?_) | refine Run.condE (fun h => ?_) (fun h => ?_) | refine Run.condF (fun h => ?_) (fun h => ?_) | refine Run.condM (fun h => ?_) (fun h => ?_) | refine Run.condB (fun h => ?_) (fun h => ?_) | refine Run.check1 ?_ | refine Run.call (hbk) rfl ?_ | refine Run.call (hat) rfl ?_ | refine Run.call (copyBook_ok b hl ht) rfl ?_ | (refine Run.ret (.inl ⟨rfl, rfl⟩)) | (exfalso; omega)
      all_goals trace_state
    · rw [h1] at hat
      have e1 : wrap64 ((a : Int) + 1) = ((a + 1 : Nat) : Int) := wrap_eq (by omega) (by omega)
      have hd1 := delM_ok b.ms a (wrap64 ((a : Int) + 1)) ha (by omega) e1
      have hd2 := delI_ok b.ts a (wrap64 ((a : Int) + 1)) (by omega) (by omega) e1
      have hm := drop_movesOk hb.2.2.1.1 a
      have hplan := plan_ok (dropL b.ms a) b.now b.shift hm hb.1 hb.2.1
      rw [dropR_eq hb h1]
      rw [show planM (dropL b.ms a) b.now b.shift = dropP b a from rfl] at hplan
      have hw2 : W64L (dropP b a).1 := planM_w64 _ _ _ hm hb.1.1 hb.2.1
      have hl1 := dropL_len b.ms ha
      have hl2 := dropL_len b.ts (a := a) (by omega)
      cases hp : (dropP b a).2 with
      | false =>
        rw [if_neg (fun q => absurd q.1 Bool.false_ne_true)]
        rw [hp] at hplan
        repeat' (conv => arg 4; whnf); first | refine Run.ret ⟨?_, rfl⟩ | refine Run.condT ?_ | refine Run.condf ?_ | refine Run.condD (fun h => ?_) (fun h => ?_) | refine Run.condN (fun h => ?_) (fun h => ?_) | refine Run.condE (fun h => ?_) (fun h => ?_) | refine Run.condF (fun h => ?_) (fun h => ?_) | refine Run.condM (fun h => ?_) (fun h => ?_) | refine Run.condB (fun h => ?_) (fun h => ?_) | refine Run.check1 ?_ | refine Run.call (hbk) rfl ?_ | refine Run.call (hat) rfl ?_ | refine Run.call (hd1) rfl ?_ | refine Run.call (hd2) rfl ?_ | refine Run.call (hplan) rfl ?_ | refine Run.call (copyBook_ok b hl ht) rfl ?_ | (refine Run.ret (.inl ⟨rfl, rfl⟩)) | (exfalso; omega)
        all_goals trace_state
      | true =>
        obtain ⟨hpl, hp6⟩ := dropP_len hb ha hp
        rw [hp] at hplan
        have hcp := copyBook_ok (dropB b a) (show (dropL b.ms a).length ≤ _ by omega) (show (dropL b.ts a).length ≤ _ by omega)
        have hsu := sure_ok ⟨b.now, b.shift, dropL b.ms a, (dropP b a).1⟩ (tkWf_l hw2)
        generalize hrr : (if true = true ∧ NoLater (dropP b a).1 (dropL b.ts a) ∧ SureM ⟨b.now, b.shift, dropL b.ms a, (dropP b a).1⟩ then ((⟨b.now, b.shift, dropL b.ms a, (dropP b a).1⟩ : Bk), (0 : Int)) else (dropB b a, 0)) = rr
        have hno : ¬ NoLater (dropP b a).1 (dropL b.ts a) → rr = (dropB b a, 0) := fun q => by rw [← hrr, if_neg (fun k => q k.2.1)]
        have hns : ¬ SureM ⟨b.now, b.shift, dropL b.ms a, (dropP b a).1⟩ → rr = (dropB b a, 0) := fun q => by rw [← hrr, if_neg (fun k => q k.2.2)]
        have hys : NoLater (dropP b a).1 (dropL b.ts a) → SureM ⟨b.now, b.shift, dropL b.ms a, (dropP b a).1⟩ → rr = (⟨b.now, b.shift, dropL b.ms a, (dropP b a).1⟩, 0) := fun q k => by rw [← hrr, if_pos ⟨rfl, q, k⟩]
        have loop : ∀ (d i : Nat) (z : Int), z = i → i + d = (dropP b a).1.length → (∀ j, j < i → tk (dropP b a).1 j ≤ tk (dropL b.ts a) j) → Run P (mk Tryz.f31 0) (NilB rr.1 (.one (.int .i64 rr.2)))
            (.loop ⟨[(4, .one (.ptr (.t 4 0) 0)), (6, .one (.ptr (.t 6 0) 0)), (8, .one (.own (.t 1000 2))), (52, .one (.own (.t 1000 2))), (53, .one (.int .i64 ((dropP b a).1.length : Int))), (54, .one (.int .i64 z))],
              [(.t 4 0, some (.cells [.int .i64 0, .int .i64 0, .nil, .nil])), (.t 6 0, some (.cells [.int .i64 b.now, .int .i64 b.shift, .own (.t 1000 0), .own (.t 1000 1)])), (.t 1000 0, some (.row .mv (dropL b.ms a))), (.t 1000 1, some (.row (.int .i64) (dropL b.ts a))), (.t 1000 2, some (.row (.int .i64) (dropP b a).1))], [.lp [0, 1, 0, 1, 1, 1, 1, 1, 1, 1, 1, 1], .blk 0, .code [1, 1, 1, 1, 1, 1, 1, 1, 1, 1]], none⟩) := by
          clear hrr hd1 hd2 hplan hat hbk
          intro d
          induction d with
          | zero =>
            intro i z hz hd hall
            subst hz
            have hnl : NoLater (dropP b a).1 (dropL b.ts a) := fun j hj => hall j (by omega)
            by_cases hq : SureM ⟨b.now, b.shift, dropL b.ms a, (dropP b a).1⟩
            · rw [decide_eq_true hq] at hsu
              rw [hys hnl hq]
              refine Run.loop ?_
              repeat' (conv => arg 4; whnf); first | refine Run.ret ⟨?_, rfl⟩ | refine Run.condT ?_ | refine Run.condf ?_ | refine Run.condD (fun h => ?_) (fun h => ?_) | refine Run.condN (fun h => ?_) (fun h => ?_) | refine Run.condE (fun h => ?_) (fun h => ?_) | refine Run.condF (fun h => ?_) (fun h => ?_) | refine Run.condM (fun h => ?_) (fun h => ?_) | refine Run.condB (fun h => ?_) (fun h => ?_) | refine Run.check1 ?_ | refine Run.call (hcp) rfl ?_ | refine Run.call (hsu) rfl ?_ | (refine Run.ret (.inl ⟨rfl, rfl⟩)) | (exfalso; omega)
              all_goals trace_state
            · rw [decide_eq_false hq] at hsu
              rw [hns hq]
              refine Run.loop ?_
              repeat' (conv => arg 4; whnf); first | refine Run.ret ⟨?_, rfl⟩ | refine Run.condT ?_ | refine Run.condf ?_ | refine Run.condD (fun h => ?_) (fun h => ?_) | refine Run.condN (fun h => ?_) (fun h => ?_) | refine Run.condE (fun h => ?_) (fun h => ?_) | refine Run.condF (fun h => ?_) (fun h => ?_) | refine Run.condM (fun h => ?_) (fun h => ?_) | refine Run.condB (fun h => ?_) (fun h => ?_) | refine Run.check1 ?_ | refine Run.call (hcp) rfl ?_ | refine Run.call (hsu) rfl ?_ | (refine Run.ret (.inl ⟨rfl, rfl⟩)) | (exfalso; omega)
              all_goals trace_state
          | succ d ih =>
            intro i z hz hd hall
            subst hz
            have hi : i < (dropP b a).1.length := by omega
            have e := fs (i := i) (by omega)
            by_cases hlt : tk (dropL b.ts a) i < tk (dropP b a).1 i
            · rw [hno fun q => by have := q i hi; omega]
              rw [← rd_nat, ← rd_nat] at hlt
              refine Run.loop ?_
              repeat' (conv => arg 4; whnf); first | refine Run.ret ⟨?_, rfl⟩ | refine Run.condT ?_ | refine Run.condf ?_ | refine Run.condD (fun h => ?_) (fun h => ?_) | refine Run.condN (fun h => ?_) (fun h => ?_) | refine Run.condE (fun h => ?_) (fun h => ?_) | refine Run.condF (fun h => ?_) (fun h => ?_) | refine Run.condM (fun h => ?_) (fun h => ?_) | refine Run.condB (fun h => ?_) (fun h => ?_) | refine Run.check1 ?_ | refine Run.need1 (by simp only [allP, true_and, and_true]; omega) ?_ | (refine Run.ret (.inl ⟨rfl, rfl⟩)) | (exfalso; omega)
              all_goals trace_state
            · have hall' : ∀ j, j < i + 1 → tk (dropP b a).1 j ≤ tk (dropL b.ts a) j := fun j hj => by
                rcases Nat.lt_or_ge j i with h3 | h3
                · exact hall j h3
                · obtain rfl : j = i := by omega
                  omega
              rw [← rd_nat, ← rd_nat] at hlt
              refine Run.loop ?_
              repeat' (conv => arg 4; whnf); first | refine Run.ret ⟨?_, rfl⟩ | refine Run.condT ?_ | refine Run.condf ?_ | refine Run.condD (fun h => ?_) (fun h => ?_) | refine Run.condN (fun h => ?_) (fun h => ?_) | refine Run.condE (fun h => ?_) (fun h => ?_) | refine Run.condF (fun h => ?_) (fun h => ?_) | refine Run.condM (fun h => ?_) (fun h => ?_) | refine Run.condB (fun h => ?_) (fun h => ?_) | refine Run.check1 ?_ | refine Run.need1 (by simp only [allP, true_and, and_true]; omega) ?_ | refine Run.round ⟨[(.t 4 0, .t 4 0), (.t 6 0, .t 6 0), (.t 1000 0, .t 1000 0), (.t 1000 1, .t 1000 1), (.t 1000 2, .t 1000 2)], [], []⟩ (ih (i + 1) _ e.h (by omega) hall') rfl (by (repeat' (first | exact wkEnv_nil | refine wkEnv_cons rfl ?_ | exact wkSto_nil | refine wkSto_none ?_ | refine wkSto_some rfl ?_)); done) (by (repeat' (first | exact wkEnv_nil | refine wkEnv_cons rfl ?_ | exact wkSto_nil | refine wkSto_none ?_ | refine wkSto_some rfl ?_)); done) | (exfalso; omega)
              all_goals trace_state
        repeat' (conv => arg 4; whnf); first | refine Run.ret ⟨?_, rfl⟩ | refine Run.condT ?_ | refine Run.condf ?_ | refine Run.condD (fun h => ?_) (fun h => ?_) | refine Run.condN (fun h => ?_) (fun h => ?_) | refine Run.condE (fun h => ?_) (fun h => ?_) | refine Run.condF (fun h => ?_) (fun h => ?_) | refine Run.condM (fun h => ?_) (fun h => ?_) | refine Run.condB (fun h => ?_) (fun h => ?_) | refine Run.check1 ?_ | refine Run.call (hbk) rfl ?_ | refine Run.call (hat) rfl ?_ | refine Run.call (hd1) rfl ?_ | refine Run.call (hd2) rfl ?_ | refine Run.call (hplan) rfl ?_ | refine Run.call (copyBook_ok b hl ht) rfl ?_ | refine Run.round ⟨[(.t 4 0, .t 4 0), (.t 6 0, .t 6 0), (.t 30 0, .t 1000 0), (.t 37 0, .t 1000 1), (.t 46 0, .t 1000 2)], [], []⟩ (loop (dropP b a).1.length 0 _ rfl (by omega) (fun j hj => absurd hj (by omega))) rfl (by (repeat' (first | exact wkEnv_nil | refine wkEnv_cons rfl ?_ | exact wkSto_nil | refine wkSto_none ?_ | refine wkSto_some rfl ?_)); done) (by (repeat' (first | exact wkEnv_nil | refine wkEnv_cons rfl ?_ | exact wkSto_nil | refine wkSto_none ?_ | refine wkSto_some rfl ?_)); done) | (refine Run.ret (.inl ⟨rfl, rfl⟩)) | (exfalso; omega)
        all_goals trace_state
  · rw [decide_eq_false hb] at hbk
    rw [show dropR b n = (Bk.z, 1) from if_pos hb]
    repeat' (conv => arg 4; whnf); first | refine Run.ret ⟨?_, rfl⟩ | refine Run.condT ?_ | refine Run.condf ?_ | refine Run.condD (fun h => ?_) (fun h => ?_) | refine Run.condN (fun h => ?_) (fun h => ?_) | refine Run.condE (fun h => ?_) (fun h => ?_) | refine Run.condF (fun h => ?_) (fun h => ?_) | refine Run.condM (fun h => ?_) (fun h => ?_) | refine Run.condB (fun h => ?_) (fun h => ?_) | refine Run.check1 ?_ | refine Run.call (hbk) rfl ?_ | (refine Run.ret (.inr (.inr ⟨rfl, rfl, rfl, rfl⟩)))
    all_goals trace_state
end Go.Proofs.YtlmdbeegmgfpnaaGreatDoor.AM

/- StripAdd of the reference; condition: the ticks are of 64 bits. -/
namespace Go.Proofs.YtlmdbeegmgfpnaaGreatDoor.AM
open Go.AM Go.RowKit
set_option linter.unusedVariables false
set_option linter.unusedSimpArgs false
set_option maxRecDepth 100000

theorem put_ok (l : List Mv) (m : Mv) (hl : l.length ≤ 1000) : Ok P 41 [.one (.lst .mv l false), .agg (encMv m)] [] (.one (.own (.k 0))) [some (.row .mv (putM l m))] := by
  refine Ok.of_run (F := mk Tryz.f41 0) Tryz.func41 rfl rfl tabOk mixed rfl rfl rfl rfl rfl (Nat.le_of_ble_eq_true rfl) (Nat.le_of_ble_eq_true rfl) (.go 5000 ?_)
  have loop : ∀ (d k : Nat) (z : Int), z = k → k + d = l.length → (∀ q, q < k → ltN (at' l q).f0 m.f0 = true) → Run P (mk Tryz.f41 0) (fun v st => v = .one (.own (.k 0)) ∧ st = [some (.row .mv (putM l m))])
      (.loop ⟨[(0, .one (.lst .mv l false)), (3, .one (.ptr (.t 3 0) 0)), (5, .one (.int .i64 z))], [(.t 3 0, some (.cells (encMv m)))], [.lp [0, 0, 1, 1], .blk 0, .code [1, 1, 1]], none⟩) := by
    intro d
    have fin : ∀ k : Nat, k ≤ l.length → (∀ q, q < k → ltN (at' l q).f0 m.f0 = true) → (k < l.length → ltN (at' l k).f0 m.f0 = false) → Fact ([] ++ l.take (k : Int).toNat ++ [m] ++ l.drop (k : Int).toNat = putM l m) := by
      intro k hk hb hx
      refine ⟨?_⟩
      unfold putM
      rw [insA_at (k := k) (d := Mv.z) hk hb hx]
      simp
    induction d with
    | zero =>
      intro k z hz hd hb
      subst hz
      have fin := fin k (by omega) hb (fun h => absurd h (by omega))
      refine Run.loop ?_
      repeat' (conv => arg 4; whnf); first | refine Run.ret ⟨?_, rfl⟩ | refine Run.condT ?_ | refine Run.condf ?_ | refine Run.condD (fun h => ?_) (fun h => ?_) | refine Run.condN (fun h => ?_) (fun h => ?_) | refine Run.condE (fun h => ?_) (fun h => ?_) | refine Run.condF (fun h => ?_) (fun h => ?_) | refine Run.condM (fun h => ?_) (fun h => ?_) | refine Run.condB (fun h => ?_) (fun h => ?_) | refine Run.check1 ?_ | (exfalso; omega) | refine Run.need1 (by simp only [allP, true_and, and_true, List.length_cons, List.length_nil, List.length_append, List.length_take, List.length_drop]; omega) ?_ | (refine Run.ret ⟨rfl, ?_⟩)
      all_goals first | (exfalso; omega) | exact congrArg (fun r => [some (C.row El.mv r)]) fin.h | trace_state
    | succ d ih =>
      intro k z hz hd hb
      subst hz
      have e := fs (i := k) (by omega)
      have fin := fin k (by omega) hb
      have eM : Fact (rdM l (k : Int) = at' l k) := ⟨rdM_nat l k⟩
      refine Run.loop ?_
      repeat' (conv => arg 4; whnf); first | refine Run.ret ⟨?_, rfl⟩ | refine Run.condT ?_ | refine Run.condf ?_ | refine Run.condD (fun h => ?_) (fun h => ?_) | refine Run.condN (fun h => ?_) (fun h => ?_) | refine Run.condE (fun h => ?_) (fun h => ?_) | refine Run.condF (fun h => ?_) (fun h => ?_) | refine Run.condM (fun h => ?_) (fun h => ?_) | refine Run.condB (fun h => ?_) (fun h => ?_) | refine Run.check1 ?_ | (exfalso; omega) | refine Run.need1 (by simp only [allP, true_and, and_true]; omega) ?_ | refine Run.need1 (by simp only [allP, true_and, and_true, List.length_cons, List.length_nil, List.length_append, List.length_take, List.length_drop]; omega) ?_ | refine Run.round ⟨[(.t 3 0, .t 3 0)], [], []⟩ (ih (k + 1) _ e.h (by omega) ?_) rfl (by (repeat' (first | exact wkEnv_nil | refine wkEnv_cons rfl ?_ | exact wkSto_nil | refine wkSto_none ?_ | refine wkSto_some rfl ?_)); done) (by (repeat' (first | exact wkEnv_nil | refine wkEnv_cons rfl ?_ | exact wkSto_nil | refine wkSto_none ?_ | refine wkSto_some rfl ?_)); done) | (refine Run.ret ⟨rfl, ?_⟩)
      all_goals clear ih
      all_goals (rw [eM.h] at *)
      all_goals first
        | (exfalso; omega)
        | exact congrArg (fun r => [some (C.row El.mv r)]) (fin (fun _ => ‹_›)).h
        | (intro q hq
           rcases Nat.lt_or_ge q k with h | h
           · exact hb q h
           · rw [show q = k by omega]; assumption)
        | trace_state
  repeat' (conv => arg 4; whnf); first | refine Run.ret ⟨?_, rfl⟩ | refine Run.condT ?_ | refine Run.condf ?_ | refine Run.condD (fun h => ?_) (fun h => ?_) | refine Run.condN (fun h => ?_) (fun h => ?_) | refine Run.condE (fun h => ?_) (fun h => ?_) | refine Run.condF (fun h => ?_) (fun h => ?_) | refine Run.condM (fun h => ?_) (fun h => ?_) | refine Run.condB (fun h => ?_) (fun h => ?_) | refine Run.check1 ?_ | refine Run.round ⟨[(.t 3 0, .t 3 0)], [], []⟩ (loop l.length 0 _ rfl (by omega) (fun q hq => absurd hq (by omega))) rfl (by (repeat' (first | exact wkEnv_nil | refine wkEnv_cons rfl ?_ | exact wkSto_nil | refine wkSto_none ?_ | refine wkSto_some rfl ?_)); done) (by (repeat' (first | exact wkEnv_nil | refine wkEnv_cons rfl ?_ | exact wkSto_nil | refine wkSto_none ?_ | refine wkSto_some rfl ?_)); done)
  all_goals trace_state
theorem planM_len6 {l : List Mv} {now sh : Int} (hm : MovesOk l) (hn : 0 ≤ now) (hs : 0 ≤ sh ∧ sh ≤ 6) : (planM l now sh).1.length ≤ 6 := planM_len l now sh hm hn hs
theorem strip_sadd_ok (b : Bk) (m : Mv) (hl : b.ms.length ≤ 1048576) (ht : b.ts.length ≤ 1048576) (hw : TkWf b.ts) :
    Ok P 21 [b.lent, .agg (encMv m)] [] (.tup [(addR b m).1.own (.k 0) (.k 1), .one (.int .i64 (addR b m).2)]) [some (.row .mv (addR b m).1.ms), some (.row (.int .i64) (addR b m).1.ts)] := by
  refine nilB_ok ?_
  have hbk := sbookOk_ok b hw
  have hmk := smoveOk_ok m
  refine Ok.of_rel (F := mk Tryz.f21 0) Tryz.func21 rfl rfl tabOk mixed rfl rfl rfl rfl rfl (Nat.le_of_ble_eq_true rfl) (by first | exact fun _ _ => nilR_len | exact fun _ _ => nilB_len) (.go 5000 ?_)
  by_cases hb : BkOk b
  · rw [decide_eq_true hb] at hbk
    have h6 := hb.2.2.1.1.1
    have hlen := hb.2.2.1.2.1
    have hat := sat_ok b m.f0 hl
    by_cases hm : mvOk m = true ∧ m.f5 = -1
    · rw [hm.1] at hmk
      have h5 := hm.2
      rcases atN_range b.ms m.f0 with ⟨h1, hn⟩ | ⟨a, h1, ha, _⟩
      · rw [h1] at hat
        by_cases h6b : b.ms.length = 6
        · have hr : addR b m = (b, 4) := by unfold addR; rw [if_neg (fun q => q hb), if_neg (fun q => q hm), if_neg (by omega), if_pos h6b]
          rw [hr]
          clear hr
          repeat' (conv => arg 4; whnf); first | refine Run.ret ⟨?_, rfl⟩ | refine Run.condT ?_ | refine Run.condf ?_ | refine Run.condD (fun h => ?_) (fun h => ?_) | refine Run.condN (fun h => ?_) (fun h => ?_) | refine Run.condE (fun h => ?_) (fun h => ?_) | refine Run.condF (fun h => ?_) (fun h => ?_) | refine Run.condM (fun h => ?_) (fun h => ?_) | refine Run.condB (fun h => ?_) (fun h => ?_) | refine Run.check1 ?_ | refine Run.call (hbk) rfl ?_ | refine Run.call (hmk) rfl ?_ | refine Run.call (hat) rfl ?_ | refine Run.call (scopy_ok b hl ht) rfl ?_ | (refine Run.ret (.inl ⟨rfl, rfl⟩)) | (exfalso; omega)
          all_goals trace_state
        · have hpm := putM_ok hb.2.2.1.1 hm.1 hn (by omega)
          have hpl := putM_len b.ms m
          have hplan := splan_ok (putM b.ms m) b.now b.shift hpm hb.1 hb.2.1
          have hput := put_ok b.ms m (by omega)
          have hr0 : addR b m = if (planM (putM b.ms m) b.now b.shift).2 = false then (b, 5) else if ¬ SureM ⟨b.now, b.shift, putM b.ms m, (planM (putM b.ms m) b.now b.shift).1⟩ then (b, 6) else (⟨b.now, b.shift, putM b.ms m, (planM (putM b.ms m) b.now b.shift).1⟩, 0) := by
            unfold addR; rw [if_neg (fun q => q hb), if_neg (fun q => q hm), if_neg (by omega), if_neg h6b]
          have hw2 : W64L (planM (putM b.ms m) b.now b.shift).1 := planM_w64 _ _ _ hpm hb.1.1 hb.2.1
          have hl2 := planM_len (putM b.ms m) b.now b.shift hpm hb.1.1 hb.2.1
          generalize planM (putM b.ms m) b.now b.shift = pr at *
          generalize putM b.ms m = pm at *
          obtain ⟨pt, pb⟩ := pr
          dsimp only at hr0 hplan hw2 hl2
          have hsu := ssure_ok ⟨b.now, b.shift, pm, pt⟩ (tkWf_l hw2)
          cases pb with
          | false =>
            rw [if_pos rfl] at hr0
            rw [hr0]
            repeat' (conv => arg 4; whnf); first | refine Run.ret ⟨?_, rfl⟩ | refine Run.condT ?_ | refine Run.condf ?_ | refine Run.condD (fun h => ?_) (fun h => ?_) | refine Run.condN (fun h => ?_) (fun h => ?_) | refine Run.condE (fun h => ?_) (fun h => ?_) | refine Run.condF (fun h => ?_) (fun h => ?_) | refine Run.condM (fun h => ?_) (fun h => ?_) | refine Run.condB (fun h => ?_) (fun h => ?_) | refine Run.check1 ?_ | refine Run.call (hbk) rfl ?_ | refine Run.call (hmk) rfl ?_ | refine Run.call (hat) rfl ?_ | refine Run.call (hput) rfl ?_ | refine Run.call (hplan) rfl ?_ | refine Run.call (scopy_ok b hl ht) rfl ?_ | (refine Run.ret (.inl ⟨rfl, rfl⟩)) | (exfalso; omega)
            all_goals trace_state
          | true =>
            rw [if_neg (by decide)] at hr0
            by_cases hs : SureM ⟨b.now, b.shift, pm, pt⟩
            · rw [if_neg (fun q => q hs)] at hr0
              rw [hr0]
              rw [decide_eq_true hs] at hsu
              repeat' (conv => arg 4; whnf); first | refine Run.ret ⟨?_, rfl⟩ | refine Run.condT ?_ | refine Run.condf ?_ | refine Run.condD (fun h => ?_) (fun h => ?_) | refine Run.condN (fun h => ?_) (fun h => ?_) | refine Run.condE (fun h => ?_) (fun h => ?_) | refine Run.condF (fun h => ?_) (fun h => ?_) | refine Run.condM (fun h => ?_) (fun h => ?_) | refine Run.condB (fun h => ?_) (fun h => ?_) | refine Run.check1 ?_ | refine Run.call (hbk) rfl ?_ | refine Run.call (hmk) rfl ?_ | refine Run.call (hat) rfl ?_ | refine Run.call (hput) rfl ?_ | refine Run.call (hplan) rfl ?_ | refine Run.call (hsu) rfl ?_ | refine Run.call (scopy_ok b hl ht) rfl ?_ | refine Run.call (scopy_ok ⟨b.now, b.shift, pm, pt⟩ (show pm.length ≤ 1048576 by omega) (show pt.length ≤ 1048576 by omega)) rfl ?_ | (refine Run.ret (.inl ⟨rfl, rfl⟩)) | (exfalso; omega)
              all_goals trace_state
            · rw [if_pos hs] at hr0
              rw [hr0]
              rw [decide_eq_false hs] at hsu
              repeat' (conv => arg 4; whnf); first | refine Run.ret ⟨?_, rfl⟩ | refine Run.condT ?_ | refine Run.condf ?_ | refine Run.condD (fun h => ?_) (fun h => ?_) | refine Run.condN (fun h => ?_) (fun h => ?_) | refine Run.condE (fun h => ?_) (fun h => ?_) | refine Run.condF (fun h => ?_) (fun h => ?_) | refine Run.condM (fun h => ?_) (fun h => ?_) | refine Run.condB (fun h => ?_) (fun h => ?_) | refine Run.check1 ?_ | refine Run.call (hbk) rfl ?_ | refine Run.call (hmk) rfl ?_ | refine Run.call (hat) rfl ?_ | refine Run.call (hput) rfl ?_ | refine Run.call (hplan) rfl ?_ | refine Run.call (hsu) rfl ?_ | refine Run.call (scopy_ok b hl ht) rfl ?_ | (refine Run.ret (.inl ⟨rfl, rfl⟩)) | (exfalso; omega)
              all_goals trace_state
      · rw [h1] at hat
        have hr : addR b m = (b, 3) := by unfold addR; rw [if_neg (fun q => q hb), if_neg (fun q => q hm), if_pos (by omega)]
        rw [hr]
        clear hr
        repeat' (conv => arg 4; whnf); first | refine Run.ret ⟨?_, rfl⟩ | refine Run.condT ?_ | refine Run.condf ?_ | refine Run.condD (fun h => ?_) (fun h => ?_) | refine Run.condN (fun h => ?_) (fun h => ?_) | refine Run.condE (fun h => ?_) (fun h => ?_) | refine Run.condF (fun h => ?_) (fun h => ?_) | refine Run.condM (fun h => ?_) (fun h => ?_) | refine Run.condB (fun h => ?_) (fun h => ?_) | refine Run.check1 ?_ | refine Run.call (hbk) rfl ?_ | refine Run.call (hmk) rfl ?_ | refine Run.call (hat) rfl ?_ | refine Run.call (scopy_ok b hl ht) rfl ?_ | (refine Run.ret (.inl ⟨rfl, rfl⟩)) | (exfalso; omega)
        all_goals trace_state

    · have hr : addR b m = (b, 2) := by unfold addR; rw [if_neg (fun q => q hb), if_pos hm]
      rw [hr]
      clear hr
      cases hq : mvOk m with
      | false =>
        rw [hq] at hmk
        repeat' (conv => arg 4; whnf); first | refine Run.ret ⟨?_, rfl⟩ | refine Run.condT ?_ | refine Run.condf ?_ | refine Run.condD (fun h => ?_) (fun h => ?_) | refine Run.condN (fun h => ?_) (fun h => ?_) | refine Run.condE (fun h => ?_) (fun h => ?_) | refine Run.condF (fun h => ?_) (fun h => ?_) | refine Run.condM (fun h => ?_) (fun h => ?_) | refine Run.condB (fun h => ?_) (fun h => ?_) | refine Run.check1 ?_ | refine Run.call (hbk) rfl ?_ | refine Run.call (hmk) rfl ?_ | refine Run.call (scopy_ok b hl ht) rfl ?_ | (refine Run.ret (.inl ⟨rfl, rfl⟩)) | (exfalso; omega)
        all_goals trace_state
      | true =>
        have h5 : 0 ≤ m.f5 := by
          have := (mvOk_true.1 hq).2
          have h5 : m.f5 ≠ -1 := fun e => hm ⟨hq, e⟩
          omega
        rw [hq] at hmk
        repeat' (conv => arg 4; whnf); first | refine Run.ret ⟨?_, rfl⟩ | refine Run.condT ?_ | refine Run.condf ?_ | refine Run.condD (fun h => ?_) (fun h => ?_) | refine Run.condN (fun h => ?_) (fun h => ?_) | refine Run.condE (fun h => ?_) (fun h => ?_) | refine Run.condF (fun h => ?_) (fun h => ?_) | refine Run.condM (fun h => ?_) (fun h => ?_) | refine Run.condB (fun h => ?_) (fun h => ?_) | refine Run.check1 ?_ | refine Run.call (hbk) rfl ?_ | refine Run.call (hmk) rfl ?_ | refine Run.call (scopy_ok b hl ht) rfl ?_ | (refine Run.ret (.inl ⟨rfl, rfl⟩)) | (exfalso; omega)
        all_goals trace_state
  · rw [decide_eq_false hb] at hbk
    rw [show addR b m = (Bk.z, 1) from if_pos hb]
    repeat' (conv => arg 4; whnf); first | refine Run.ret ⟨?_, rfl⟩ | refine Run.condT ?_ | refine Run.condf ?_ | refine Run.condD (fun h => ?_) (fun h => ?_) | refine Run.condN (fun h => ?_) (fun h => ?_) | refine Run.condE (fun h => ?_) (fun h => ?_) | refine Run.condF (fun h => ?_) (fun h => ?_) | refine Run.condM (fun h => ?_) (fun h => ?_) | refine Run.condB (fun h => ?_) (fun h => ?_) | refine Run.check1 ?_ | refine Run.call (hbk) rfl ?_ | (refine Run.ret (.inr (.inr ⟨rfl, rfl, rfl, rfl⟩)))
    all_goals trace_state
end Go.Proofs.YtlmdbeegmgfpnaaGreatDoor.AM

/- StripAdd of the program; condition: the ticks are of 64 bits. -/
namespace Go.Proofs.YtlmdbeegmgfpnaaGreatDoor.AM
open Go.AM Go.RowKit
set_option linter.unusedVariables false
set_option linter.unusedSimpArgs false
set_option maxRecDepth 100000

/-- What the sort's comparison reads: the book that is made, its moves. -/
def stA (now shift : Int) (xs : List Mv) : List (Option C) := [some (.cells [.int .i64 now, .int .i64 shift, .own (.k 1), .nil]), some (.row .mv xs)]
theorem lessA_ok (now shift : Int) (xs : List Mv) (i j : Nat) (z y : Int) (hz : z = i) (hy : y = j) (hi : i < xs.length) (hj : j < xs.length) :
    Ok P 60 [.one (.int .i64 z), .one (.int .i64 y), .one (.ptr (.k 0) 0)] (stA now shift xs) (.one (.bool (ltM (xs.getD i Mv.z) (xs.getD j Mv.z)))) (stA now shift xs) := by
  subst hz hy
  have e1 : rdM xs (i : Int) = xs.getD i Mv.z := rdM_nat xs i
  have e2 : rdM xs (j : Int) = xs.getD j Mv.z := rdM_nat xs j
  refine Ok.of_run (F := mk Tryz.f60 2) Tryz.func60 rfl rfl tabOk mixed rfl rfl rfl rfl rfl (Nat.le_of_ble_eq_true rfl) (Nat.le_of_ble_eq_true rfl) (.go 5000 ?_)
  repeat' (conv => arg 4; whnf); first | refine Run.ret ⟨?_, rfl⟩ | refine Run.condT ?_ | refine Run.condf ?_ | refine Run.condD (fun h => ?_) (fun h => ?_) | refine Run.condN (fun h => ?_) (fun h => ?_) | refine Run.condE (fun h => ?_) (fun h => ?_) | refine Run.condF (fun h => ?_) (fun h => ?_) | refine Run.condM (fun h => ?_) (fun h => ?_) | refine Run.condB (fun h => ?_) (fun h => ?_) | refine Run.check1 ?_ | refine Run.need1 (by simp only [allP, true_and, and_true]; omega) ?_
  all_goals first | (refine vb ?_; rw [← e1, ← e2]; rfl) | trace_state
/-- The sort's comparison and its exchange. -/
noncomputable def dataA : V := .agg [.fn 60 [.ptr (.k 0) 0], .fn 121 [.own (.k 1), th P 43]]
theorem insA_ok (now shift : Int) (xs : List Mv) (h2 : 2 ≤ xs.length) (h20 : xs.length ≤ 1048576) (z y : Int) (hz : z = 0) (hy : y = xs.length) : Ok P 124 [dataA, .one (.int .i64 z), .one (.int .i64 y)] (stA now shift xs) (.tup []) (stA now shift (isort ltM Mv.z xs xs.length)) := by
  subst hz hy
  have hs : Srt ltM := ltM_srt
  have w1 : Fact (wrap64 (0 + 1) = ((1 : Nat) : Int)) := ⟨(wrap_eq (by omega) (by omega)).trans (by omega)⟩
  refine Ok.of_run (F := mk Tryz.f124 2) Tryz.func124 rfl rfl tabOk mixed rfl rfl rfl rfl rfl (Nat.le_of_ble_eq_true rfl) (Nat.le_of_ble_eq_true rfl) (.go 5000 ?_)
  have outer : ∀ (d i : Nat) (z : Int) (row : List Mv), z = i → row = sortedRow ltM Mv.z xs i → (i + d = xs.length ∨ (d = 0 ∧ xs.length ≤ i)) → (xs.length ≤ i → row = isort ltM Mv.z xs xs.length) → Run P (mk Tryz.f124 2) (fun v s => v = .tup [] ∧ s = stA now shift (isort ltM Mv.z xs xs.length)) (.loop ⟨[(1, .one (.int .i64 0)), (2, .one (.int .i64 (xs.length : Int))), (3, .one (.ptr (.t 3 0) 0)), (6, .one (.int .i64 z))],
      [(.k 0, some (.cells [.int .i64 now, .int .i64 shift, .own (.k 1), .nil])), (.k 1, some (.row .mv row)), (.t 3 0, some (.cells dataA.atoms))], [.lp [0, 1, 1], .blk 0], none⟩) := by
    intro d
    induction d with
    | zero =>
      intro i z row hz hrow hd hend
      subst hz
      have hend := hend (by omega)
      subst hend
      refine Run.loop ?_
      repeat' (conv => arg 4; whnf); first | refine Run.ret ⟨?_, rfl⟩ | refine Run.condT ?_ | refine Run.condf ?_ | refine Run.condD (fun h => ?_) (fun h => ?_) | refine Run.condN (fun h => ?_) (fun h => ?_) | refine Run.condE (fun h => ?_) (fun h => ?_) | refine Run.condF (fun h => ?_) (fun h => ?_) | refine Run.condM (fun h => ?_) (fun h => ?_) | refine Run.condB (fun h => ?_) (fun h => ?_) | refine Run.check1 ?_ | (exfalso; omega)
      all_goals first | (exfalso; omega) | rfl | trace_state
    | succ d ih =>
      intro i z row hz hrow hd hend
      subst hz
      have hi : i < xs.length := by omega
      clear hend
      have e := fs (i := i) (by omega)
      have inner : ∀ (j : Nat) (z : Int) (row : List Mv), z = j → j ≤ i → row = wayRow (isort ltM Mv.z xs i) (xs.getD i Mv.z) (xs.drop (i + 1)) j → (∀ q, j ≤ q → q < i → ltM (xs.getD i Mv.z) ((isort ltM Mv.z xs i).getD q Mv.z) = true) →
          Run P (mk Tryz.f124 2) (fun v s => v = .tup [] ∧ s = stA now shift (isort ltM Mv.z xs xs.length)) (.loop ⟨[(1, .one (.int .i64 0)), (2, .one (.int .i64 (xs.length : Int))), (3, .one (.ptr (.t 3 0) 0)), (6, .one (.int .i64 (i : Int))), (7, .one (.int .i64 z))],
            [(.k 0, some (.cells [.int .i64 now, .int .i64 shift, .own (.k 1), .nil])), (.k 1, some (.row .mv row)), (.t 3 0, some (.cells dataA.atoms))], [.lp [0, 1, 0, 0, 1, 0, 0, 1, 1], .blk 2, .blk 1, .code [1, 1, 0, 0, 1, 1], .lp [0, 1, 1], .blk 0], none⟩) := by
        intro j
        induction j with
        | zero =>
          intro z row hz hji hrow hb
          subst hz
          have he := sortedRow_end hs (d := Mv.z) hi hji hb (fun h => absurd h (by omega))
          rw [← hrow] at he
          subst he
          refine Run.loop ?_
          repeat' (conv => arg 4; whnf); first | refine Run.ret ⟨?_, rfl⟩ | refine Run.condT ?_ | refine Run.condf ?_ | refine Run.condD (fun h => ?_) (fun h => ?_) | refine Run.condN (fun h => ?_) (fun h => ?_) | refine Run.condE (fun h => ?_) (fun h => ?_) | refine Run.condF (fun h => ?_) (fun h => ?_) | refine Run.condM (fun h => ?_) (fun h => ?_) | refine Run.condB (fun h => ?_) (fun h => ?_) | refine Run.check1 ?_ | (exfalso; omega) | refine Run.round ⟨[(.t 3 0, .t 3 0)], [], []⟩ (ih (i + 1) _ _ e.h rfl (by omega) ?_) rfl (by (repeat' (first | exact wkEnv_nil | refine wkEnv_cons rfl ?_ | exact wkSto_nil | refine wkSto_none ?_ | refine wkSto_some rfl ?_)); done) (by (repeat' (first | exact wkEnv_nil | refine wkEnv_cons rfl ?_ | exact wkSto_nil | refine wkSto_none ?_ | refine wkSto_some rfl ?_)); done)
          all_goals first | (exfalso; omega) | (intro h; rw [show i + 1 = xs.length by omega]; exact sortedRow_all) | trace_state
        | succ j ihj =>
          intro z row hz hji hrow hb
          have hp := wrap_pred hz (by omega)
          have hlen : row.length = xs.length := by rw [hrow]; exact (way_xs hi).length_eq
          have el : ltM (row.getD (j + 1) Mv.z) (row.getD j Mv.z) = ltM (xs.getD i Mv.z) ((isort ltM Mv.z xs i).getD j Mv.z) := by
            rw [hrow, wayRow_here (by rw [isort_len]; exact hji), wayRow_ahead (Nat.lt_succ_self j) (by rw [isort_len]; exact hji)]
          have hsw : swapL Mv.z row (j + 1) j = wayRow (isort ltM Mv.z xs i) (xs.getD i Mv.z) (xs.drop (i + 1)) j := by
            rw [hrow]; exact way_swap (by rw [isort_len]; exact hji)
          have hend : ltM (xs.getD i Mv.z) ((isort ltM Mv.z xs i).getD j Mv.z) = false → row = sortedRow ltM Mv.z xs (i + 1) := fun h => by
            rw [hrow]; exact sortedRow_end hs (d := Mv.z) hi hji hb (fun _ => h)
          refine Run.loop ?_
          repeat' (conv => arg 4; whnf); first | refine Run.ret ⟨?_, rfl⟩ | refine Run.condT ?_ | refine Run.condf ?_ | refine Run.condD (fun h => ?_) (fun h => ?_) | refine Run.condN (fun h => ?_) (fun h => ?_) | refine Run.condE (fun h => ?_) (fun h => ?_) | refine Run.condF (fun h => ?_) (fun h => ?_) | refine Run.condM (fun h => ?_) (fun h => ?_) | refine Run.condB (fun h => ?_) (fun h => ?_) | refine Run.check1 ?_ | refine Run.call (lessA_ok now shift row (j + 1) j _ _ hz hp (by omega) (by omega)) rfl ?_ | refine Run.call (swapM_ok row (j + 1) j _ _ hz hp (by omega) (by omega)) rfl ?_ | refine Run.round ⟨[(.t 3 0, .t 3 0)], [], []⟩ (ih (i + 1) _ _ e.h ?_ (by omega) ?_) rfl (by (repeat' (first | exact wkEnv_nil | refine wkEnv_cons rfl ?_ | exact wkSto_nil | refine wkSto_none ?_ | refine wkSto_some rfl ?_)); done) (by (repeat' (first | exact wkEnv_nil | refine wkEnv_cons rfl ?_ | exact wkSto_nil | refine wkSto_none ?_ | refine wkSto_some rfl ?_)); done) | refine Run.round ⟨[(.t 3 0, .t 3 0)], [], []⟩ (ihj _ _ hp (by omega) hsw ?_) rfl (by (repeat' (first | exact wkEnv_nil | refine wkEnv_cons rfl ?_ | exact wkSto_nil | refine wkSto_none ?_ | refine wkSto_some rfl ?_)); done) (by (repeat' (first | exact wkEnv_nil | refine wkEnv_cons rfl ?_ | exact wkSto_nil | refine wkSto_none ?_ | refine wkSto_some rfl ?_)); done) | (exfalso; omega)
          all_goals clear ih ihj
          all_goals (rw [el] at *)
          all_goals first
            | (exfalso; omega)
            | exact hend ‹_›
            | (intro h; rw [hend ‹_›, show i + 1 = xs.length by omega]; exact sortedRow_all)
            | (intro q hq1 hq2
               rcases Nat.lt_or_ge q (j + 1) with h | h
               · rw [show q = j by omega]; assumption
               · exact hb q h hq2)
            | trace_state
      refine Run.loop ?_
      repeat' (conv => arg 4; whnf); first | refine Run.ret ⟨?_, rfl⟩ | refine Run.condT ?_ | refine Run.condf ?_ | refine Run.condD (fun h => ?_) (fun h => ?_) | refine Run.condN (fun h => ?_) (fun h => ?_) | refine Run.condE (fun h => ?_) (fun h => ?_) | refine Run.condF (fun h => ?_) (fun h => ?_) | refine Run.condM (fun h => ?_) (fun h => ?_) | refine Run.condB (fun h => ?_) (fun h => ?_) | refine Run.check1 ?_ | refine Run.round ⟨[(.t 3 0, .t 3 0)], [], []⟩ (inner i _ _ rfl (Nat.le_refl _) (hrow.trans (sortedRow_start hi)) ?_) rfl (by (repeat' (first | exact wkEnv_nil | refine wkEnv_cons rfl ?_ | exact wkSto_nil | refine wkSto_none ?_ | refine wkSto_some rfl ?_)); done) (by (repeat' (first | exact wkEnv_nil | refine wkEnv_cons rfl ?_ | exact wkSto_nil | refine wkSto_none ?_ | refine wkSto_some rfl ?_)); done) | (exfalso; omega)
      all_goals first | (intro q h1 h2; omega) | (exfalso; omega) | trace_state
  repeat' (conv => arg 4; whnf); first | refine Run.ret ⟨?_, rfl⟩ | refine Run.condT ?_ | refine Run.condf ?_ | refine Run.condD (fun h => ?_) (fun h => ?_) | refine Run.condN (fun h => ?_) (fun h => ?_) | refine Run.condE (fun h => ?_) (fun h => ?_) | refine Run.condF (fun h => ?_) (fun h => ?_) | refine Run.condM (fun h => ?_) (fun h => ?_) | refine Run.condB (fun h => ?_) (fun h => ?_) | refine Run.check1 ?_ | refine Run.round ⟨[(.t 3 0, .t 3 0)], [], []⟩ (outer (xs.length - 1) 1 _ _ w1.h ?_ ?_ ?_) rfl (by (repeat' (first | exact wkEnv_nil | refine wkEnv_cons rfl ?_ | exact wkSto_nil | refine wkSto_none ?_ | refine wkSto_some rfl ?_)); done) (by (repeat' (first | exact wkEnv_nil | refine wkEnv_cons rfl ?_ | exact wkSto_nil | refine wkSto_none ?_ | refine wkSto_some rfl ?_)); done)
  · exact (sortedRow_one (by omega)).symm
  · omega
  · intro h; omega
/-- One alone: nothing is compared. -/
theorem insA1_ok (now shift : Int) (xs : List Mv) (g : FuncId) (h1 : xs.length ≤ 1) (z y : Int) (hz : z = 0) (hy : y = xs.length) : Ok P 124 [.agg [.fn 60 [.ptr (.k 0) 0], .fn g []], .one (.int .i64 z), .one (.int .i64 y)] (stA now shift xs) (.tup []) (stA now shift xs) := by
  subst hz hy
  refine Ok.of_run (F := mk Tryz.f124 2) Tryz.func124 rfl rfl tabOk mixed rfl rfl rfl rfl rfl (Nat.le_of_ble_eq_true rfl) (Nat.le_of_ble_eq_true rfl) (.go 5000 ?_)
  have w1 : Fact (wrap64 (0 + 1) = 1) := ⟨(wrap_eq (by omega) (by omega)).trans (by omega)⟩
  conv => arg 4; whnf
  refine Run.loop ?_
  repeat' (conv => arg 4; whnf); first | refine Run.ret ⟨?_, rfl⟩ | refine Run.condT ?_ | refine Run.condf ?_ | refine Run.condD (fun h => ?_) (fun h => ?_) | refine Run.condN (fun h => ?_) (fun h => ?_) | refine Run.condE (fun h => ?_) (fun h => ?_) | refine Run.condF (fun h => ?_) (fun h => ?_) | refine Run.condM (fun h => ?_) (fun h => ?_) | refine Run.condB (fun h => ?_) (fun h => ?_) | refine Run.check1 ?_ | (exfalso; simp only [w1.h] at *; omega)
  all_goals first | rfl | (exfalso; simp only [w1.h] at *; omega) | trace_state
theorem pdqA1_ok (now shift : Int) (xs : List Mv) (g : FuncId) (h1 : xs.length ≤ 1) (y k : Int) (hy : y = xs.length) : Ok P 90 [.agg [.fn 60 [.ptr (.k 0) 0], .fn g []], .one (.int .i64 0), .one (.int .i64 y), .one (.int .i64 k)] (stA now shift xs) (.tup []) (stA now shift xs) := by
  subst hy
  have w : Fact (wrap64 ((xs.length : Int) - 0) = xs.length) := ⟨(wrap_eq (by omega) (by omega)).trans (by omega)⟩
  refine Ok.of_run (F := mk Tryz.f90 2) Tryz.func90 rfl rfl tabOk mixed rfl rfl rfl rfl rfl (Nat.le_of_ble_eq_true rfl) (Nat.le_of_ble_eq_true rfl) (.go 5000 ?_)
  conv => arg 4; whnf
  refine Run.loop ?_
  repeat' (conv => arg 4; whnf); first | refine Run.ret ⟨?_, rfl⟩ | refine Run.condT ?_ | refine Run.condf ?_ | refine Run.condD (fun h => ?_) (fun h => ?_) | refine Run.condN (fun h => ?_) (fun h => ?_) | refine Run.condE (fun h => ?_) (fun h => ?_) | refine Run.condF (fun h => ?_) (fun h => ?_) | refine Run.condM (fun h => ?_) (fun h => ?_) | refine Run.condB (fun h => ?_) (fun h => ?_) | refine Run.check1 ?_ | (exfalso; simp only [w.h] at *; omega) | refine Run.call (insA1_ok now shift xs g h1 _ _ rfl rfl) rfl ?_
  all_goals first | rfl | trace_state
theorem pdqA_ok (now shift : Int) (xs : List Mv) (h2 : 2 ≤ xs.length) (h12 : xs.length ≤ 12) (y k : Int) (hy : y = xs.length) : Ok P 90 [dataA, .one (.int .i64 0), .one (.int .i64 y), .one (.int .i64 k)] (stA now shift xs) (.tup []) (stA now shift (isort ltM Mv.z xs xs.length)) := by
  subst hy
  have w : Fact (wrap64 ((xs.length : Int) - 0) = xs.length) := ⟨(wrap_eq (by omega) (by omega)).trans (by omega)⟩
  refine Ok.of_run (F := mk Tryz.f90 2) Tryz.func90 rfl rfl tabOk mixed rfl rfl rfl rfl rfl (Nat.le_of_ble_eq_true rfl) (Nat.le_of_ble_eq_true rfl) (.go 5000 ?_)
  conv => arg 4; whnf
  refine Run.loop ?_
  repeat' (conv => arg 4; whnf); first | refine Run.ret ⟨?_, rfl⟩ | refine Run.condT ?_ | refine Run.condf ?_ | refine Run.condD (fun h => ?_) (fun h => ?_) | refine Run.condN (fun h => ?_) (fun h => ?_) | refine Run.condE (fun h => ?_) (fun h => ?_) | refine Run.condF (fun h => ?_) (fun h => ?_) | refine Run.condM (fun h => ?_) (fun h => ?_) | refine Run.condB (fun h => ?_) (fun h => ?_) | refine Run.check1 ?_ | (exfalso; simp only [w.h] at *; omega) | refine Run.call (insA_ok now shift xs h2 (by omega) _ _ rfl rfl) rfl ?_
  all_goals first | rfl | trace_state
theorem byte_ix {n : Int} {s : ByteArray} (h : 0 ≤ n ∧ n ≤ 255) (hs : s.size = 256) : 0 ≤ IntKind.u8.wrap n ∧ IntKind.u8.wrap n < (s.size : Int) := by
  have h1 : n % 2 ^ 8 = n := by omega
  have e : IntKind.u8.wrap n = n := h1
  rw [e, hs]
  omega
theorem bits_ok (n : Int) (hn : 0 ≤ n ∧ n ≤ 255) : ∃ k : Int, True ∧ Ok P 89 [.one (.int .u64 n)] [] (.one (.int .i64 k)) [] := by
  have hl : ∃ k : Int, True ∧ Ok P 123 [.one (.int .u64 n)] [] (.one (.int .i64 k)) [] := by
    refine Ok.of_ex (F := mk Tryz.f123 0) Tryz.func123 rfl rfl tabOk mixed rfl rfl rfl rfl rfl (Nat.le_of_ble_eq_true rfl) (fun _ => Nat.le_of_ble_eq_true rfl) (.go 5000 ?_)
    repeat' (conv => arg 4; whnf); first | refine Run.ret ⟨?_, rfl⟩ | refine Run.condT ?_ | refine Run.condf ?_ | refine Run.condD (fun h => ?_) (fun h => ?_) | refine Run.condN (fun h => ?_) (fun h => ?_) | refine Run.condE (fun h => ?_) (fun h => ?_) | refine Run.condF (fun h => ?_) (fun h => ?_) | refine Run.condM (fun h => ?_) (fun h => ?_) | refine Run.condB (fun h => ?_) (fun h => ?_) | refine Run.check1 ?_ | (exfalso; omega) | (refine Run.need1 (byte_ix hn (by kernel_rfl)) ?_) | (refine Run.ret ⟨_, trivial, rfl, rfl⟩)
    all_goals trace_state
  refine Ok.of_ex (F := mk Tryz.f89 0) Tryz.func89 rfl rfl tabOk mixed rfl rfl rfl rfl rfl (Nat.le_of_ble_eq_true rfl) (fun _ => Nat.le_of_ble_eq_true rfl) (.go 5000 ?_)
  repeat' (conv => arg 4; whnf); first | refine Run.ret ⟨?_, rfl⟩ | refine Run.condT ?_ | refine Run.condf ?_ | refine Run.condD (fun h => ?_) (fun h => ?_) | refine Run.condN (fun h => ?_) (fun h => ?_) | refine Run.condE (fun h => ?_) (fun h => ?_) | refine Run.condF (fun h => ?_) (fun h => ?_) | refine Run.condM (fun h => ?_) (fun h => ?_) | refine Run.condB (fun h => ?_) (fun h => ?_) | refine Run.check1 ?_ | (exfalso; omega) | refine Run.callE (hl) (fun _ => rfl) (fun x hx => ?_) | (refine Run.ret ⟨_, trivial, rfl, rfl⟩)
  all_goals trace_state
theorem isort1M (xs : List Mv) (h : xs.length ≤ 1) : isort ltM Mv.z xs xs.length = xs := by
  match xs, h with
  | [], _ => rfl
  | [x], _ => rfl
theorem sortA_ok (now shift : Int) (xs : List Mv) (h1 : 1 ≤ xs.length) (h12 : xs.length ≤ 12) : Ok P 59 [.one (.ifc 29 (.own (.k 0))), .one (.fn 60 [.ptr (.k 1) 0])] [some (.row .mv xs), some (.cells [.int .i64 now, .int .i64 shift, .own (.k 0), .nil])] (.tup [])
    [some (.row .mv (isort ltM Mv.z xs xs.length)), some (.cells [.int .i64 now, .int .i64 shift, .own (.k 0), .nil])] := by
  have hbits := bits_ok (xs.length : Int) (by omega)
  have ew : Fact ((IntKind.u64).wrap (xs.length : Int) = xs.length) := ⟨by
    have h1 : (xs.length : Int) % 2 ^ 64 = xs.length := by omega
    exact h1⟩
  rw [← ew.h] at hbits
  refine Ok.of_run (F := mk Tryz.f59 2) Tryz.func59 rfl rfl tabOk mixed rfl rfl rfl rfl rfl (Nat.le_of_ble_eq_true rfl) (Nat.le_of_ble_eq_true rfl) (.go 5000 ?_)
  rcases (show xs.length = 1 ∨ 2 ≤ xs.length by omega) with h | h
  · rw [isort1M _ (by omega)]
    repeat' (conv => arg 4; whnf); first | refine Run.ret ⟨?_, rfl⟩ | refine Run.condT ?_ | refine Run.condf ?_ | refine Run.condD (fun h => ?_) (fun h => ?_) | refine Run.condN (fun h => ?_) (fun h => ?_) | refine Run.condE (fun h => ?_) (fun h => ?_) | refine Run.condF (fun h => ?_) (fun h => ?_) | refine Run.condM (fun h => ?_) (fun h => ?_) | refine Run.condB (fun h => ?_) (fun h => ?_) | refine Run.check1 ?_ | refine Run.call (valueOfM_ok _) rfl ?_ | refine Run.call (swapper1M_ok _ h) rfl ?_ | refine Run.call (lenM_ok _) rfl ?_ | refine Run.callE (hbits) (fun _ => rfl) (fun x hx => ?_) | refine Run.call (pdqA1_ok _ _ _ _ (by omega) _ _ rfl) rfl ?_
    all_goals first | rfl | trace_state
  · repeat' (conv => arg 4; whnf); first | refine Run.ret ⟨?_, rfl⟩ | refine Run.condT ?_ | refine Run.condf ?_ | refine Run.condD (fun h => ?_) (fun h => ?_) | refine Run.condN (fun h => ?_) (fun h => ?_) | refine Run.condE (fun h => ?_) (fun h => ?_) | refine Run.condF (fun h => ?_) (fun h => ?_) | refine Run.condM (fun h => ?_) (fun h => ?_) | refine Run.condB (fun h => ?_) (fun h => ?_) | refine Run.check1 ?_ | refine Run.call (valueOfM_ok _) rfl ?_ | refine Run.call (swapperM_ok _ h) rfl ?_ | refine Run.call (lenM_ok _) rfl ?_ | refine Run.callE (hbits) (fun _ => rfl) (fun x hx => ?_) | refine Run.call (pdqA_ok _ _ _ h h12 _ _ rfl) rfl ?_
    all_goals first | rfl | trace_state
end Go.Proofs.YtlmdbeegmgfpnaaGreatDoor.AM

/- StripAdd of the program; condition: the ticks are of 64 bits. -/
namespace Go.Proofs.YtlmdbeegmgfpnaaGreatDoor.AM
open Go.AM Go.RowKit
set_option linter.unusedVariables false
set_option linter.unusedSimpArgs false
set_option maxRecDepth 100000

theorem strip_add_ok (b : Bk) (m : Mv) (hl : b.ms.length ≤ 1048576) (ht : b.ts.length ≤ 1048576) (hw : TkWf b.ts) :
    Ok P 30 [b.lent, .agg (encMv m)] [] (.tup [(addR b m).1.own (.k 0) (.k 1), .one (.int .i64 (addR b m).2)]) [some (.row .mv (addR b m).1.ms), some (.row (.int .i64) (addR b m).1.ts)] := by
  refine nilB_ok ?_
  have hbk := bookOk_ok b hw
  have hmk := moveOk_ok m
  refine Ok.of_rel (F := mk Tryz.f30 0) Tryz.func30 rfl rfl tabOk mixed rfl rfl rfl rfl rfl (Nat.le_of_ble_eq_true rfl) (by first | exact fun _ _ => nilR_len | exact fun _ _ => nilB_len) (.go 5000 ?_)
  by_cases hb : BkOk b
  · rw [decide_eq_true hb] at hbk
    have h6 := hb.2.2.1.1.1
    have hlen := hb.2.2.1.2.1
    have hat := at_ok b m.f0 hl
    by_cases hm : mvOk m = true ∧ m.f5 = -1
    · rw [hm.1] at hmk
      have h5 := hm.2
      rcases atN_range b.ms m.f0 with ⟨h1, hn⟩ | ⟨a, h1, ha, _⟩
      · rw [h1] at hat
        by_cases h6b : b.ms.length = 6
        · have hr : addR b m = (b, 4) := by unfold addR; rw [if_neg (fun q => q hb), if_neg (fun q => q hm), if_neg (by omega), if_pos h6b]
          rw [hr]
          clear hr
          repeat' (conv => arg 4; whnf); first | refine Run.ret ⟨?_, rfl⟩ | refine Run.condT ?_ | refine Run.condf ?_ | refine Run.condD (fun h => ?_) (fun h => ?_) | refine Run.condN (fun h => ?_) (fun h => ?_) | refine Run.condE (fun h => ?_) (fun h => ?_) | refine Run.condF (fun h => ?_) (fun h => ?_) | refine Run.condM (fun h => ?_) (fun h => ?_) | refine Run.condB (fun h => ?_) (fun h => ?_) | refine Run.check1 ?_ | refine Run.call (hbk) rfl ?_ | refine Run.call (hmk) rfl ?_ | refine Run.call (hat) rfl ?_ | refine Run.call (copyBook_ok b hl ht) rfl ?_ | (refine Run.ret (.inl ⟨rfl, rfl⟩)) | (exfalso; omega)
          all_goals trace_state
        · have hpm := putM_ok hb.2.2.1.1 hm.1 hn (by omega)
          have hpl := putM_len b.ms m
          have hplan := plan_ok (putM b.ms m) b.now b.shift hpm hb.1 hb.2.1
          have hput := sortA_ok b.now b.shift (b.ms ++ [m]) (by rw [List.length_append]; exact Nat.le_add_left _ _) (by rw [List.length_append, List.length_singleton]; omega)
          rw [isort_put (movesOk_iff.1 hb.2.2.1.1).2.2 hn] at hput
          have hcl := cloneM_ok b.ms hl
          have hr0 : addR b m = if (planM (putM b.ms m) b.now b.shift).2 = false then (b, 5) else if ¬ SureM ⟨b.now, b.shift, putM b.ms m, (planM (putM b.ms m) b.now b.shift).1⟩ then (b, 6) else (⟨b.now, b.shift, putM b.ms m, (planM (putM b.ms m) b.now b.shift).1⟩, 0) := by
            unfold addR; rw [if_neg (fun q => q hb), if_neg (fun q => q hm), if_neg (by omega), if_neg h6b]
          have hw2 : W64L (planM (putM b.ms m) b.now b.shift).1 := planM_w64 _ _ _ hpm hb.1.1 hb.2.1
          have hl2 := planM_len (putM b.ms m) b.now b.shift hpm hb.1.1 hb.2.1
          generalize planM (putM b.ms m) b.now b.shift = pr at *
          generalize putM b.ms m = pm at *
          obtain ⟨pt, pb⟩ := pr
          dsimp only at hr0 hplan hw2 hl2
          have hsu := sure_ok ⟨b.now, b.shift, pm, pt⟩ (tkWf_l hw2)
          cases pb with
          | false =>
            rw [if_pos rfl] at hr0
            rw [hr0]
            repeat' (conv => arg 4; whnf); first | refine Run.ret ⟨?_, rfl⟩ | refine Run.condT ?_ | refine Run.condf ?_ | refine Run.condD (fun h => ?_) (fun h => ?_) | refine Run.condN (fun h => ?_) (fun h => ?_) | refine Run.condE (fun h => ?_) (fun h => ?_) | refine Run.condF (fun h => ?_) (fun h => ?_) | refine Run.condM (fun h => ?_) (fun h => ?_) | refine Run.condB (fun h => ?_) (fun h => ?_) | refine Run.check1 ?_ | refine Run.call (hbk) rfl ?_ | refine Run.call (hmk) rfl ?_ | refine Run.call (hat) rfl ?_ | refine Run.call (hcl) rfl ?_ | refine Run.call (hput) rfl ?_ | refine Run.need1 (by simp only [allP, true_and, and_true, List.length_cons, List.length_nil]; omega) ?_ | refine Run.call (hplan) rfl ?_ | refine Run.call (copyBook_ok b hl ht) rfl ?_ | (refine Run.ret (.inl ⟨rfl, rfl⟩)) | (exfalso; omega)
            all_goals trace_state
          | true =>
            rw [if_neg (by decide)] at hr0
            by_cases hs : SureM ⟨b.now, b.shift, pm, pt⟩
            · rw [if_neg (fun q => q hs)] at hr0
              rw [hr0]
              rw [decide_eq_true hs] at hsu
              repeat' (conv => arg 4; whnf); first | refine Run.ret ⟨?_, rfl⟩ | refine Run.condT ?_ | refine Run.condf ?_ | refine Run.condD (fun h => ?_) (fun h => ?_) | refine Run.condN (fun h => ?_) (fun h => ?_) | refine Run.condE (fun h => ?_) (fun h => ?_) | refine Run.condF (fun h => ?_) (fun h => ?_) | refine Run.condM (fun h => ?_) (fun h => ?_) | refine Run.condB (fun h => ?_) (fun h => ?_) | refine Run.check1 ?_ | refine Run.call (hbk) rfl ?_ | refine Run.call (hmk) rfl ?_ | refine Run.call (hat) rfl ?_ | refine Run.call (hcl) rfl ?_ | refine Run.call (hput) rfl ?_ | refine Run.need1 (by simp only [allP, true_and, and_true, List.length_cons, List.length_nil]; omega) ?_ | refine Run.call (hplan) rfl ?_ | refine Run.call (hsu) rfl ?_ | refine Run.call (copyBook_ok b hl ht) rfl ?_ | (refine Run.ret (.inl ⟨rfl, rfl⟩)) | (exfalso; omega)
              all_goals trace_state
            · rw [if_pos hs] at hr0
              rw [hr0]
              rw [decide_eq_false hs] at hsu
              repeat' (conv => arg 4; whnf); first | refine Run.ret ⟨?_, rfl⟩ | refine Run.condT ?_ | refine Run.condf ?_ | refine Run.condD (fun h => ?_) (fun h => ?_) | refine Run.condN (fun h => ?_) (fun h => ?_) | refine Run.condE (fun h => ?_) (fun h => ?_) | refine Run.condF (fun h => ?_) (fun h => ?_) | refine Run.condM (fun h => ?_) (fun h => ?_) | refine Run.condB (fun h => ?_) (fun h => ?_) | refine Run.check1 ?_ | refine Run.call (hbk) rfl ?_ | refine Run.call (hmk) rfl ?_ | refine Run.call (hat) rfl ?_ | refine Run.call (hcl) rfl ?_ | refine Run.call (hput) rfl ?_ | refine Run.need1 (by simp only [allP, true_and, and_true, List.length_cons, List.length_nil]; omega) ?_ | refine Run.call (hplan) rfl ?_ | refine Run.call (hsu) rfl ?_ | refine Run.call (copyBook_ok b hl ht) rfl ?_ | (refine Run.ret (.inl ⟨rfl, rfl⟩)) | (exfalso; omega)
              all_goals trace_state
      · rw [h1] at hat
        have hr : addR b m = (b, 3) := by unfold addR; rw [if_neg (fun q => q hb), if_neg (fun q => q hm), if_pos (by omega)]
        rw [hr]
        clear hr
        repeat' (conv => arg 4; whnf); first | refine Run.ret ⟨?_, rfl⟩ | refine Run.condT ?_ | refine Run.condf ?_ | refine Run.condD (fun h => ?_) (fun h => ?_) | refine Run.condN (fun h => ?_) (fun h => ?_) | refine Run.condE (fun h => ?_) (fun h => ?_) | refine Run.condF (fun h => ?_) (fun h => ?_) | refine Run.condM (fun h => ?_) (fun h => ?_) | refine Run.condB (fun h => ?_) (fun h => ?_) | refine Run.check1 ?_ | refine Run.call (hbk) rfl ?_ | refine Run.call (hmk) rfl ?_ | refine Run.call (hat) rfl ?_ | refine Run.call (copyBook_ok b hl ht) rfl ?_ | (refine Run.ret (.inl ⟨rfl, rfl⟩)) | (exfalso; omega)
        all_goals trace_state

    · have hr : addR b m = (b, 2) := by unfold addR; rw [if_neg (fun q => q hb), if_pos hm]
      rw [hr]
      clear hr
      cases hq : mvOk m with
      | false =>
        rw [hq] at hmk
        repeat' (conv => arg 4; whnf); first | refine Run.ret ⟨?_, rfl⟩ | refine Run.condT ?_ | refine Run.condf ?_ | refine Run.condD (fun h => ?_) (fun h => ?_) | refine Run.condN (fun h => ?_) (fun h => ?_) | refine Run.condE (fun h => ?_) (fun h => ?_) | refine Run.condF (fun h => ?_) (fun h => ?_) | refine Run.condM (fun h => ?_) (fun h => ?_) | refine Run.condB (fun h => ?_) (fun h => ?_) | refine Run.check1 ?_ | refine Run.call (hbk) rfl ?_ | refine Run.call (hmk) rfl ?_ | refine Run.call (copyBook_ok b hl ht) rfl ?_ | (refine Run.ret (.inl ⟨rfl, rfl⟩)) | (exfalso; omega)
        all_goals trace_state
      | true =>
        have h5 : 0 ≤ m.f5 := by
          have := (mvOk_true.1 hq).2
          have h5 : m.f5 ≠ -1 := fun e => hm ⟨hq, e⟩
          omega
        rw [hq] at hmk
        repeat' (conv => arg 4; whnf); first | refine Run.ret ⟨?_, rfl⟩ | refine Run.condT ?_ | refine Run.condf ?_ | refine Run.condD (fun h => ?_) (fun h => ?_) | refine Run.condN (fun h => ?_) (fun h => ?_) | refine Run.condE (fun h => ?_) (fun h => ?_) | refine Run.condF (fun h => ?_) (fun h => ?_) | refine Run.condM (fun h => ?_) (fun h => ?_) | refine Run.condB (fun h => ?_) (fun h => ?_) | refine Run.check1 ?_ | refine Run.call (hbk) rfl ?_ | refine Run.call (hmk) rfl ?_ | refine Run.call (copyBook_ok b hl ht) rfl ?_ | (refine Run.ret (.inl ⟨rfl, rfl⟩)) | (exfalso; omega)
        all_goals trace_state
  · rw [decide_eq_false hb] at hbk
    rw [show addR b m = (Bk.z, 1) from if_pos hb]
    repeat' (conv => arg 4; whnf); first | refine Run.ret ⟨?_, rfl⟩ | refine Run.condT ?_ | refine Run.condf ?_ | refine Run.condD (fun h => ?_) (fun h => ?_) | refine Run.condN (fun h => ?_) (fun h => ?_) | refine Run.condE (fun h => ?_) (fun h => ?_) | refine Run.condF (fun h => ?_) (fun h => ?_) | refine Run.condM (fun h => ?_) (fun h => ?_) | refine Run.condB (fun h => ?_) (fun h => ?_) | refine Run.check1 ?_ | refine Run.call (hbk) rfl ?_ | (refine Run.ret (.inr (.inr ⟨rfl, rfl, rfl, rfl⟩)))
    all_goals trace_state
end Go.Proofs.YtlmdbeegmgfpnaaGreatDoor.AM

/- The places of a plan, sorted by their ticks; condition: places of the book. -/
namespace Go.Proofs.YtlmdbeegmgfpnaaGreatDoor.AM
open Go.AM Go.RowKit
set_option linter.unusedVariables false
set_option linter.unusedSimpArgs false
set_option maxRecDepth 100000

/-- What the sort's comparison reads: the book, the places. -/
def stP (b : Bk) (xs : List Int) : List (Option C) := [some (.cells b.lent.atoms), some (.cells [.own (.k 2)]), some (.row (.int .i64) xs)]
def InP (b : Bk) (xs : List Int) : Prop := ∀ x ∈ xs, 0 ≤ x ∧ x < (b.ts.length : Int)
theorem inP_get {b : Bk} {xs : List Int} (h : InP b xs) {i : Nat} (hi : i < xs.length) : 0 ≤ xs.getD i 0 ∧ xs.getD i 0 < (b.ts.length : Int) := by
  rw [List.getD_eq_getElem?_getD, List.getElem?_eq_getElem hi]
  exact h _ (List.getElem_mem hi)
theorem rd_nat' (xs : List Int) (i : Nat) : rd xs (i : Int) = xs.getD i 0 := by unfold rd; rw [Int.toNat_natCast]
theorem lessP_ok (b : Bk) (xs : List Int) (hx : InP b xs) (i j : Nat) (z y : Int) (hz : z = i) (hy : y = j) (hi : i < xs.length) (hj : j < xs.length) :
    Ok P 66 [.one (.int .i64 z), .one (.int .i64 y), .one (.ptr (.k 0) 0), .one (.ptr (.k 1) 0)] (stP b xs) (.one (.bool (byTick b.ts (xs.getD i 0) (xs.getD j 0)))) (stP b xs) := by
  subst hz hy
  have e1 : rd xs (i : Int) = xs.getD i 0 := rd_nat' xs i
  have e2 : rd xs (j : Int) = xs.getD j 0 := rd_nat' xs j
  have r1 := inP_get hx hi
  have r2 := inP_get hx hj
  rw [← e1] at r1
  rw [← e2] at r2
  refine Ok.of_run (F := mk Tryz.f66 3) Tryz.func66 rfl rfl tabOk mixed rfl rfl rfl rfl rfl (Nat.le_of_ble_eq_true rfl) (Nat.le_of_ble_eq_true rfl) (.go 5000 ?_)
  repeat' (conv => arg 4; whnf); first | refine Run.ret ⟨?_, rfl⟩ | refine Run.condT ?_ | refine Run.condf ?_ | refine Run.condD (fun h => ?_) (fun h => ?_) | refine Run.condN (fun h => ?_) (fun h => ?_) | refine Run.condE (fun h => ?_) (fun h => ?_) | refine Run.condF (fun h => ?_) (fun h => ?_) | refine Run.condM (fun h => ?_) (fun h => ?_) | refine Run.condB (fun h => ?_) (fun h => ?_) | refine Run.check1 ?_ | refine Run.need1 (by simp only [allP, true_and, and_true]; omega) ?_
  all_goals first | (refine vb ?_; rw [← e1, ← e2]; rfl) | trace_state
/-- The sort's comparison and its exchange. -/
noncomputable def dataP : V := .agg [.fn 66 [.ptr (.k 0) 0, .ptr (.k 1) 0], .fn 117 [.own (.k 2), th P 3]]
theorem insP_ok (b : Bk) (xs : List Int) (hx : InP b xs) (h2 : 2 ≤ xs.length) (h20 : xs.length ≤ 1048576) (z y : Int) (hz : z = 0) (hy : y = xs.length) : Ok P 124 [dataP, .one (.int .i64 z), .one (.int .i64 y)] (stP b xs) (.tup []) (stP b (isort (byTick b.ts) 0 xs xs.length)) := by
  subst hz hy
  have hs : Srt (byTick b.ts) := (ltT_srt fun a : Int => tk b.ts a.toNat)
  have w1 : Fact (wrap64 (0 + 1) = ((1 : Nat) : Int)) := ⟨(wrap_eq (by omega) (by omega)).trans (by omega)⟩
  refine Ok.of_run (F := mk Tryz.f124 3) Tryz.func124 rfl rfl tabOk mixed rfl rfl rfl rfl rfl (Nat.le_of_ble_eq_true rfl) (Nat.le_of_ble_eq_true rfl) (.go 5000 ?_)
  have outer : ∀ (d i : Nat) (z : Int) (row : List Int), z = i → row = sortedRow (byTick b.ts) 0 xs i → (i + d = xs.length ∨ (d = 0 ∧ xs.length ≤ i)) → (xs.length ≤ i → row = isort (byTick b.ts) 0 xs xs.length) → Run P (mk Tryz.f124 3) (fun v s => v = .tup [] ∧ s = stP b (isort (byTick b.ts) 0 xs xs.length)) (.loop ⟨[(1, .one (.int .i64 0)), (2, .one (.int .i64 (xs.length : Int))), (3, .one (.ptr (.t 3 0) 0)), (6, .one (.int .i64 z))],
      [(.k 0, some (.cells b.lent.atoms)), (.k 1, some (.cells [.own (.k 2)])), (.k 2, some (.row (.int .i64) row)), (.t 3 0, some (.cells dataP.atoms))], [.lp [0, 1, 1], .blk 0], none⟩) := by
    intro d
    induction d with
    | zero =>
      intro i z row hz hrow hd hend
      subst hz
      have hend := hend (by omega)
      subst hend
      refine Run.loop ?_
      repeat' (conv => arg 4; whnf); first | refine Run.ret ⟨?_, rfl⟩ | refine Run.condT ?_ | refine Run.condf ?_ | refine Run.condD (fun h => ?_) (fun h => ?_) | refine Run.condN (fun h => ?_) (fun h => ?_) | refine Run.condE (fun h => ?_) (fun h => ?_) | refine Run.condF (fun h => ?_) (fun h => ?_) | refine Run.condM (fun h => ?_) (fun h => ?_) | refine Run.condB (fun h => ?_) (fun h => ?_) | refine Run.check1 ?_ | (exfalso; omega)
      all_goals first | (exfalso; omega) | rfl | trace_state
    | succ d ih =>
      intro i z row hz hrow hd hend
      subst hz
      have hi : i < xs.length := by omega
      clear hend
      have e := fs (i := i) (by omega)
      have inner : ∀ (j : Nat) (z : Int) (row : List Int), z = j → j ≤ i → row = wayRow (isort (byTick b.ts) 0 xs i) (xs.getD i 0) (xs.drop (i + 1)) j → (∀ q, j ≤ q → q < i → byTick b.ts (xs.getD i 0) ((isort (byTick b.ts) 0 xs i).getD q 0) = true) →
          Run P (mk Tryz.f124 3) (fun v s => v = .tup [] ∧ s = stP b (isort (byTick b.ts) 0 xs xs.length)) (.loop ⟨[(1, .one (.int .i64 0)), (2, .one (.int .i64 (xs.length : Int))), (3, .one (.ptr (.t 3 0) 0)), (6, .one (.int .i64 (i : Int))), (7, .one (.int .i64 z))],
            [(.k 0, some (.cells b.lent.atoms)), (.k 1, some (.cells [.own (.k 2)])), (.k 2, some (.row (.int .i64) row)), (.t 3 0, some (.cells dataP.atoms))], [.lp [0, 1, 0, 0, 1, 0, 0, 1, 1], .blk 2, .blk 1, .code [1, 1, 0, 0, 1, 1], .lp [0, 1, 1], .blk 0], none⟩) := by
        intro j
        induction j with
        | zero =>
          intro z row hz hji hrow hb
          subst hz
          have he := sortedRow_end hs (d := 0) hi hji hb (fun h => absurd h (by omega))
          rw [← hrow] at he
          subst he
          refine Run.loop ?_
          repeat' (conv => arg 4; whnf); first | refine Run.ret ⟨?_, rfl⟩ | refine Run.condT ?_ | refine Run.condf ?_ | refine Run.condD (fun h => ?_) (fun h => ?_) | refine Run.condN (fun h => ?_) (fun h => ?_) | refine Run.condE (fun h => ?_) (fun h => ?_) | refine Run.condF (fun h => ?_) (fun h => ?_) | refine Run.condM (fun h => ?_) (fun h => ?_) | refine Run.condB (fun h => ?_) (fun h => ?_) | refine Run.check1 ?_ | (exfalso; omega) | refine Run.round ⟨[(.t 3 0, .t 3 0)], [], []⟩ (ih (i + 1) _ _ e.h rfl (by omega) ?_) rfl (by (repeat' (first | exact wkEnv_nil | refine wkEnv_cons rfl ?_ | exact wkSto_nil | refine wkSto_none ?_ | refine wkSto_some rfl ?_)); done) (by (repeat' (first | exact wkEnv_nil | refine wkEnv_cons rfl ?_ | exact wkSto_nil | refine wkSto_none ?_ | refine wkSto_some rfl ?_)); done)
          all_goals first | (exfalso; omega) | (intro h; rw [show i + 1 = xs.length by omega]; exact sortedRow_all) | trace_state
        | succ j ihj =>
          intro z row hz hji hrow hb
          have hp := wrap_pred hz (by omega)
          have hlen : row.length = xs.length := by rw [hrow]; exact (way_xs hi).length_eq
          have hrx : InP b row := fun x hm => hx x ((way_xs (lt := byTick b.ts) (d := 0) (j := j + 1) hi).mem_iff.1 (by rw [← hrow]; exact hm))
          have el : byTick b.ts (row.getD (j + 1) 0) (row.getD j 0) = byTick b.ts (xs.getD i 0) ((isort (byTick b.ts) 0 xs i).getD j 0) := by
            rw [hrow, wayRow_here (by rw [isort_len]; exact hji), wayRow_ahead (Nat.lt_succ_self j) (by rw [isort_len]; exact hji)]
          have hsw : swapL 0 row (j + 1) j = wayRow (isort (byTick b.ts) 0 xs i) (xs.getD i 0) (xs.drop (i + 1)) j := by
            rw [hrow]; exact way_swap (by rw [isort_len]; exact hji)
          have hend : byTick b.ts (xs.getD i 0) ((isort (byTick b.ts) 0 xs i).getD j 0) = false → row = sortedRow (byTick b.ts) 0 xs (i + 1) := fun h => by
            rw [hrow]; exact sortedRow_end hs (d := 0) hi hji hb (fun _ => h)
          have elt : tk b.ts (row.getD (j + 1) 0).toNat < tk b.ts (row.getD j 0).toNat → byTick b.ts (xs.getD i 0) ((isort (byTick b.ts) 0 xs i).getD j 0) = true := fun h => by rw [← el]; exact decide_eq_true h
          have hend2 : ¬ tk b.ts (row.getD (j + 1) 0).toNat < tk b.ts (row.getD j 0).toNat → row = sortedRow (byTick b.ts) 0 xs (i + 1) := fun h => hend (by rw [← el]; exact decide_eq_false h)
          refine Run.loop ?_
          repeat' (conv => arg 4; whnf); first | refine Run.ret ⟨?_, rfl⟩ | refine Run.condT ?_ | refine Run.condf ?_ | refine Run.condD (fun h => ?_) (fun h => ?_) | refine Run.condN (fun h => ?_) (fun h => ?_) | refine Run.condE (fun h => ?_) (fun h => ?_) | refine Run.condF (fun h => ?_) (fun h => ?_) | refine Run.condM (fun h => ?_) (fun h => ?_) | refine Run.condB (fun h => ?_) (fun h => ?_) | refine Run.check1 ?_ | refine Run.call (lessP_ok b row hrx (j + 1) j _ _ hz hp (by omega) (by omega)) rfl ?_ | refine Run.call (swapI_ok row (j + 1) j _ _ hz hp (by omega) (by omega)) rfl ?_ | refine Run.round ⟨[(.t 3 0, .t 3 0)], [], []⟩ (ih (i + 1) _ _ e.h ?_ (by omega) ?_) rfl (by (repeat' (first | exact wkEnv_nil | refine wkEnv_cons rfl ?_ | exact wkSto_nil | refine wkSto_none ?_ | refine wkSto_some rfl ?_)); done) (by (repeat' (first | exact wkEnv_nil | refine wkEnv_cons rfl ?_ | exact wkSto_nil | refine wkSto_none ?_ | refine wkSto_some rfl ?_)); done) | refine Run.round ⟨[(.t 3 0, .t 3 0)], [], []⟩ (ihj _ _ hp (by omega) hsw ?_) rfl (by (repeat' (first | exact wkEnv_nil | refine wkEnv_cons rfl ?_ | exact wkSto_nil | refine wkSto_none ?_ | refine wkSto_some rfl ?_)); done) (by (repeat' (first | exact wkEnv_nil | refine wkEnv_cons rfl ?_ | exact wkSto_nil | refine wkSto_none ?_ | refine wkSto_some rfl ?_)); done) | (exfalso; omega)
          all_goals clear ih ihj
          all_goals first
            | (exfalso; omega)
            | exact hend2 ‹_›
            | (intro h; rw [hend2 ‹_›, show i + 1 = xs.length by omega]; exact sortedRow_all)
            | (intro q hq1 hq2
               rcases Nat.lt_or_ge q (j + 1) with h | h
               · rw [show q = j by omega]; exact elt ‹_›
               · exact hb q h hq2)
            | trace_state
      refine Run.loop ?_
      repeat' (conv => arg 4; whnf); first | refine Run.ret ⟨?_, rfl⟩ | refine Run.condT ?_ | refine Run.condf ?_ | refine Run.condD (fun h => ?_) (fun h => ?_) | refine Run.condN (fun h => ?_) (fun h => ?_) | refine Run.condE (fun h => ?_) (fun h => ?_) | refine Run.condF (fun h => ?_) (fun h => ?_) | refine Run.condM (fun h => ?_) (fun h => ?_) | refine Run.condB (fun h => ?_) (fun h => ?_) | refine Run.check1 ?_ | refine Run.round ⟨[(.t 3 0, .t 3 0)], [], []⟩ (inner i _ _ rfl (Nat.le_refl _) (hrow.trans (sortedRow_start hi)) ?_) rfl (by (repeat' (first | exact wkEnv_nil | refine wkEnv_cons rfl ?_ | exact wkSto_nil | refine wkSto_none ?_ | refine wkSto_some rfl ?_)); done) (by (repeat' (first | exact wkEnv_nil | refine wkEnv_cons rfl ?_ | exact wkSto_nil | refine wkSto_none ?_ | refine wkSto_some rfl ?_)); done) | (exfalso; omega)
      all_goals first | (intro q h1 h2; omega) | (exfalso; omega) | trace_state
  repeat' (conv => arg 4; whnf); first | refine Run.ret ⟨?_, rfl⟩ | refine Run.condT ?_ | refine Run.condf ?_ | refine Run.condD (fun h => ?_) (fun h => ?_) | refine Run.condN (fun h => ?_) (fun h => ?_) | refine Run.condE (fun h => ?_) (fun h => ?_) | refine Run.condF (fun h => ?_) (fun h => ?_) | refine Run.condM (fun h => ?_) (fun h => ?_) | refine Run.condB (fun h => ?_) (fun h => ?_) | refine Run.check1 ?_ | refine Run.round ⟨[(.t 3 0, .t 3 0)], [], []⟩ (outer (xs.length - 1) 1 _ _ w1.h ?_ ?_ ?_) rfl (by (repeat' (first | exact wkEnv_nil | refine wkEnv_cons rfl ?_ | exact wkSto_nil | refine wkSto_none ?_ | refine wkSto_some rfl ?_)); done) (by (repeat' (first | exact wkEnv_nil | refine wkEnv_cons rfl ?_ | exact wkSto_nil | refine wkSto_none ?_ | refine wkSto_some rfl ?_)); done)
  · exact (sortedRow_one (by omega)).symm
  · omega
  · intro h; omega
/-- One alone: nothing is compared. -/
theorem insP1_ok (b : Bk) (xs : List Int) (g : FuncId) (h1 : xs.length ≤ 1) (z y : Int) (hz : z = 0) (hy : y = xs.length) : Ok P 124 [.agg [.fn 66 [.ptr (.k 0) 0, .ptr (.k 1) 0], .fn g []], .one (.int .i64 z), .one (.int .i64 y)] (stP b xs) (.tup []) (stP b xs) := by
  subst hz hy
  refine Ok.of_run (F := mk Tryz.f124 3) Tryz.func124 rfl rfl tabOk mixed rfl rfl rfl rfl rfl (Nat.le_of_ble_eq_true rfl) (Nat.le_of_ble_eq_true rfl) (.go 5000 ?_)
  have w1 : Fact (wrap64 (0 + 1) = 1) := ⟨(wrap_eq (by omega) (by omega)).trans (by omega)⟩
  conv => arg 4; whnf
  refine Run.loop ?_
  repeat' (conv => arg 4; whnf); first | refine Run.ret ⟨?_, rfl⟩ | refine Run.condT ?_ | refine Run.condf ?_ | refine Run.condD (fun h => ?_) (fun h => ?_) | refine Run.condN (fun h => ?_) (fun h => ?_) | refine Run.condE (fun h => ?_) (fun h => ?_) | refine Run.condF (fun h => ?_) (fun h => ?_) | refine Run.condM (fun h => ?_) (fun h => ?_) | refine Run.condB (fun h => ?_) (fun h => ?_) | refine Run.check1 ?_ | (exfalso; simp only [w1.h] at *; omega)
  all_goals first | rfl | (exfalso; simp only [w1.h] at *; omega) | trace_state
theorem pdqP1_ok (b : Bk) (xs : List Int) (g : FuncId) (h1 : xs.length ≤ 1) (y k : Int) (hy : y = xs.length) : Ok P 90 [.agg [.fn 66 [.ptr (.k 0) 0, .ptr (.k 1) 0], .fn g []], .one (.int .i64 0), .one (.int .i64 y), .one (.int .i64 k)] (stP b xs) (.tup []) (stP b xs) := by
  subst hy
  have w : Fact (wrap64 ((xs.length : Int) - 0) = xs.length) := ⟨(wrap_eq (by omega) (by omega)).trans (by omega)⟩
  refine Ok.of_run (F := mk Tryz.f90 3) Tryz.func90 rfl rfl tabOk mixed rfl rfl rfl rfl rfl (Nat.le_of_ble_eq_true rfl) (Nat.le_of_ble_eq_true rfl) (.go 5000 ?_)
  conv => arg 4; whnf
  refine Run.loop ?_
  repeat' (conv => arg 4; whnf); first | refine Run.ret ⟨?_, rfl⟩ | refine Run.condT ?_ | refine Run.condf ?_ | refine Run.condD (fun h => ?_) (fun h => ?_) | refine Run.condN (fun h => ?_) (fun h => ?_) | refine Run.condE (fun h => ?_) (fun h => ?_) | refine Run.condF (fun h => ?_) (fun h => ?_) | refine Run.condM (fun h => ?_) (fun h => ?_) | refine Run.condB (fun h => ?_) (fun h => ?_) | refine Run.check1 ?_ | (exfalso; simp only [w.h] at *; omega) | refine Run.call (insP1_ok b xs g h1 _ _ rfl rfl) rfl ?_
  all_goals first | rfl | trace_state
theorem pdqP_ok (b : Bk) (xs : List Int) (hx : InP b xs) (h2 : 2 ≤ xs.length) (h12 : xs.length ≤ 12) (y k : Int) (hy : y = xs.length) : Ok P 90 [dataP, .one (.int .i64 0), .one (.int .i64 y), .one (.int .i64 k)] (stP b xs) (.tup []) (stP b (isort (byTick b.ts) 0 xs xs.length)) := by
  subst hy
  have w : Fact (wrap64 ((xs.length : Int) - 0) = xs.length) := ⟨(wrap_eq (by omega) (by omega)).trans (by omega)⟩
  refine Ok.of_run (F := mk Tryz.f90 3) Tryz.func90 rfl rfl tabOk mixed rfl rfl rfl rfl rfl (Nat.le_of_ble_eq_true rfl) (Nat.le_of_ble_eq_true rfl) (.go 5000 ?_)
  conv => arg 4; whnf
  refine Run.loop ?_
  repeat' (conv => arg 4; whnf); first | refine Run.ret ⟨?_, rfl⟩ | refine Run.condT ?_ | refine Run.condf ?_ | refine Run.condD (fun h => ?_) (fun h => ?_) | refine Run.condN (fun h => ?_) (fun h => ?_) | refine Run.condE (fun h => ?_) (fun h => ?_) | refine Run.condF (fun h => ?_) (fun h => ?_) | refine Run.condM (fun h => ?_) (fun h => ?_) | refine Run.condB (fun h => ?_) (fun h => ?_) | refine Run.check1 ?_ | (exfalso; simp only [w.h] at *; omega) | refine Run.call (insP_ok b xs hx h2 (by omega) _ _ rfl rfl) rfl ?_
  all_goals first | rfl | trace_state
theorem isort1P (b : Bk) (xs : List Int) (h : xs.length ≤ 1) : isort (byTick b.ts) 0 xs xs.length = xs := by
  match xs, h with
  | [], _ => rfl
  | [x], _ => rfl
theorem sortP_ok (b : Bk) (xs : List Int) (hin : InP b xs) (h12 : xs.length ≤ 12) : Ok P 59 [.one (.ifc 30 (.own (.k 0))), .one (.fn 66 [.ptr (.k 1) 0, .ptr (.k 2) 0])] [some (.row (.int .i64) xs), some (.cells b.lent.atoms), some (.cells [.own (.k 0)])] (.tup [])
    [some (.row (.int .i64) (isort (byTick b.ts) 0 xs xs.length)), some (.cells b.lent.atoms), some (.cells [.own (.k 0)])] := by
  have hbits := bits_ok (xs.length : Int) (by omega)
  have ew : Fact ((IntKind.u64).wrap (xs.length : Int) = xs.length) := ⟨by
    have h1 : (xs.length : Int) % 2 ^ 64 = xs.length := by omega
    exact h1⟩
  rw [← ew.h] at hbits
  refine Ok.of_run (F := mk Tryz.f59 3) Tryz.func59 rfl rfl tabOk mixed rfl rfl rfl rfl rfl (Nat.le_of_ble_eq_true rfl) (Nat.le_of_ble_eq_true rfl) (.go 5000 ?_)
  rcases (show xs.length = 0 ∨ xs.length = 1 ∨ 2 ≤ xs.length by omega) with h | h | h
  · rw [isort1P _ _ (by omega)]
    repeat' (conv => arg 4; whnf); first | refine Run.ret ⟨?_, rfl⟩ | refine Run.condT ?_ | refine Run.condf ?_ | refine Run.condD (fun h => ?_) (fun h => ?_) | refine Run.condN (fun h => ?_) (fun h => ?_) | refine Run.condE (fun h => ?_) (fun h => ?_) | refine Run.condF (fun h => ?_) (fun h => ?_) | refine Run.condM (fun h => ?_) (fun h => ?_) | refine Run.condB (fun h => ?_) (fun h => ?_) | refine Run.check1 ?_ | refine Run.call (valueOfI_ok _) rfl ?_ | refine Run.call (swapper0I_ok _ h) rfl ?_ | refine Run.call (lenI_ok _) rfl ?_ | refine Run.callE (hbits) (fun _ => rfl) (fun x hx => ?_) | refine Run.call (pdqP1_ok _ _ _ (by omega) _ _ rfl) rfl ?_
    all_goals first | rfl | trace_state
  · rw [isort1P _ _ (by omega)]
    repeat' (conv => arg 4; whnf); first | refine Run.ret ⟨?_, rfl⟩ | refine Run.condT ?_ | refine Run.condf ?_ | refine Run.condD (fun h => ?_) (fun h => ?_) | refine Run.condN (fun h => ?_) (fun h => ?_) | refine Run.condE (fun h => ?_) (fun h => ?_) | refine Run.condF (fun h => ?_) (fun h => ?_) | refine Run.condM (fun h => ?_) (fun h => ?_) | refine Run.condB (fun h => ?_) (fun h => ?_) | refine Run.check1 ?_ | refine Run.call (valueOfI_ok _) rfl ?_ | refine Run.call (swapper1I_ok _ h) rfl ?_ | refine Run.call (lenI_ok _) rfl ?_ | refine Run.callE (hbits) (fun _ => rfl) (fun x hx => ?_) | refine Run.call (pdqP1_ok _ _ _ (by omega) _ _ rfl) rfl ?_
    all_goals first | rfl | trace_state
  · repeat' (conv => arg 4; whnf); first | refine Run.ret ⟨?_, rfl⟩ | refine Run.condT ?_ | refine Run.condf ?_ | refine Run.condD (fun h => ?_) (fun h => ?_) | refine Run.condN (fun h => ?_) (fun h => ?_) | refine Run.condE (fun h => ?_) (fun h => ?_) | refine Run.condF (fun h => ?_) (fun h => ?_) | refine Run.condM (fun h => ?_) (fun h => ?_) | refine Run.condB (fun h => ?_) (fun h => ?_) | refine Run.check1 ?_ | refine Run.call (valueOfI_ok _) rfl ?_ | refine Run.call (swapperI_ok _ h) rfl ?_ | refine Run.call (lenI_ok _) rfl ?_ | refine Run.callE (hbits) (fun _ => rfl) (fun x hx => ?_) | refine Run.call (pdqP_ok _ _ hin h h12 _ _ rfl) rfl ?_
    all_goals first | rfl | trace_state
end Go.Proofs.YtlmdbeegmgfpnaaGreatDoor.AM

/- The plan's text, on both sides; condition: a book that is right. -/
namespace Go.Proofs.YtlmdbeegmgfpnaaGreatDoor.AM
open Go.AM Go.RowKit
set_option linter.unusedVariables false
set_option linter.unusedSimpArgs false
set_option maxRecDepth 100000

theorem tAt_size : tAt.size = 1 := rfl
theorem tBang_size : tBang.size = 1 := rfl
theorem tLate_size : tLate.size = 6 := rfl
theorem tMost_size : tMost.size = 6 := rfl
theorem upTo_next (i : Nat) : upTo i ++ [(i : Int)] = upTo (i + 1) := by
  unfold upTo
  rw [List.range_succ, List.map_append]
  rfl
theorem splanI (b : Bk) (o : ByteArray) (i : Nat) (t : Int) (ht : tk b.ts i = t) : planI b o (i : Int) = if 0 ≤ (at' b.ms i).f5 then o ++ tSp ++ (at' b.ms i).f0 ++ tAt ++ decM t ++ tBang else o ++ tSp ++ (at' b.ms i).f0 ++ tAt ++ decM t := by
  unfold planI
  rw [Int.toNat_natCast, ht]
  simp only [ByteArray.append_assoc]
theorem scost_ok (l : List Mv) (t : List Int) (hw : TkWf t) : Ok P 47 [.one (.lst .mv l false), .one (.lst (.int .i64) t false)] [] (.tup [.one (.int .i64 (costF l t).1), .one (.int .i64 (costF l t).2)]) [] := by
  refine Ok.of_run (F := mk Tryz.f47 0) Tryz.func47 rfl rfl tabOk mixed rfl rfl rfl rfl rfl (Nat.le_of_ble_eq_true rfl) (Nat.le_of_ble_eq_true rfl) (.go 5000 ?_)
  by_cases hf : Fits l t
  · rw [show costF l t = costM l t from if_pos hf]
    repeat' (conv => arg 4; whnf); first | refine Run.ret ⟨?_, rfl⟩ | refine Run.condT ?_ | refine Run.condf ?_ | refine Run.condD (fun h => ?_) (fun h => ?_) | refine Run.condN (fun h => ?_) (fun h => ?_) | refine Run.condE (fun h => ?_) (fun h => ?_) | refine Run.condF (fun h => ?_) (fun h => ?_) | refine Run.condM (fun h => ?_) (fun h => ?_) | refine Run.condB (fun h => ?_) (fun h => ?_) | refine Run.check1 ?_ | refine Run.call (sfits_ok _ _ hw) rfl ?_ | refine Run.call (scost2_ok _ _ (fits_dl hf)) rfl ?_
    all_goals first | rfl | exact absurd hf ‹_›
  · rw [show costF l t = (0, 0) from if_neg hf]
    repeat' (conv => arg 4; whnf); first | refine Run.ret ⟨?_, rfl⟩ | refine Run.condT ?_ | refine Run.condf ?_ | refine Run.condD (fun h => ?_) (fun h => ?_) | refine Run.condN (fun h => ?_) (fun h => ?_) | refine Run.condE (fun h => ?_) (fun h => ?_) | refine Run.condF (fun h => ?_) (fun h => ?_) | refine Run.condM (fun h => ?_) (fun h => ?_) | refine Run.condB (fun h => ?_) (fun h => ?_) | refine Run.check1 ?_ | refine Run.call (sfits_ok _ _ hw) rfl ?_ | (exact absurd ‹_› hf)
    all_goals rfl
theorem stext_ok (b : Bk) (hb : BkOk b) : Ok P 25 [b.lent] [] (.one (.str (planS b))) [] := by
  have hfit := hb.2.2.1
  have hn := hb.1
  have h6 := hfit.1.1
  have hlen := hfit.2.1
  have hasc := planL_asc hfit
  have hmem := fun p => planL_mem b (p := p)
  have hll := planL_len b
  obtain ⟨c1, c2, c3, c4, c5, c6⟩ := cost_rng hb
  have hco := scost_ok b.ms b.ts (tkWf_l (bkD_of hb).td)
  have hi0 := sdecA_ok b.now (by unfold W60; omega)
  have hi1 := sdecA_ok (costF b.ms b.ts).1 (by unfold W60; omega)
  have hi2 := sdecA_ok (costF b.ms b.ts).2 (by unfold W60; omega)
  have hgs := fun (t i : Int) => planG_size hb _ (Qf b.ts t i (planL b)) (Nat.le_refl _) fun p hp => (planL_mem b).1 (List.mem_filter.1 hp).1
  have hgl := fun (t i : Int) => q_len (ts := b.ts) (L := planL b) (t := t) (i := i)
  refine Ok.of_run (F := mk Tryz.f25 0) Tryz.func25 rfl rfl tabOk mixed rfl rfl rfl rfl rfl (Nat.le_of_ble_eq_true rfl) (Nat.le_of_ble_eq_true rfl) (.go 5000 ?_)
  have outer : ∀ (d : Nat) (t z : Int) (o : ByteArray), z = t → t + d = 10001 → 0 ≤ t → o = planG b (Qf b.ts t 0 (planL b)) → Run P (mk Tryz.f25 0) (fun v st => v = .one (.str (planS b)) ∧ st = [])
      (.loop ⟨[(1, .one (.ptr (.t 1 0) 0)), (3, .one (.str o)), (4, .one (.int .i64 z))], [(.t 1 0, some (.cells b.lent.atoms))], [.lp [0, 1, 0, 1, 1], .blk 0, .code [1, 1, 1]], none⟩) := by
    intro d
    induction d with
    | zero =>
      intro t z o hz hd ht ho
      subst hz
      rw [q_all fun p hp => by
        have h1 := (hmem p).1 hp
        have h2 := inR_range hfit.1 (show p.toNat < b.ms.length by omega) (hfit.2.2 p.toNat (by omega)).1
        omega] at ho
      have hos : o.size ≤ 20 + 40 * 6 := by
        have := planG_size hb _ (planL b) (Nat.le_refl _) fun p hp => (hmem p).1 hp
        rw [← ho] at this
        omega
      subst ho
      refine Run.loop ?_
      repeat' (conv => arg 4; whnf); first | refine Run.ret ⟨?_, rfl⟩ | refine Run.condT ?_ | refine Run.condf ?_ | refine Run.condD (fun h => ?_) (fun h => ?_) | refine Run.condN (fun h => ?_) (fun h => ?_) | refine Run.condE (fun h => ?_) (fun h => ?_) | refine Run.condF (fun h => ?_) (fun h => ?_) | refine Run.condM (fun h => ?_) (fun h => ?_) | refine Run.condB (fun h => ?_) (fun h => ?_) | refine Run.check1 ?_ | (exfalso; omega) | refine Run.call (hco) rfl ?_ | refine Run.call (hi1) rfl ?_ | refine Run.call (hi2) rfl ?_ | refine Run.need1 (by simp only [allP, true_and, and_true, tLate_size, tMost_size, app_size]; omega) ?_
      all_goals first | rfl | (exfalso; omega) | trace_state
    | succ d ih =>
      intro t z o hz hd ht ho
      subst hz
      have et := Fact.mk (wrap_eq (x := z + 1) (by omega) (by omega))
      have hit := sdecA_ok z (by unfold W60; omega)
      have hdz := decM_size (n := z) (by unfold W64; omega)
      have inner : ∀ (c i : Nat) (y : Int) (o : ByteArray), y = i → i + c = b.ts.length → o = planG b (Qf b.ts z (i : Int) (planL b)) → Run P (mk Tryz.f25 0) (fun v st => v = .one (.str (planS b)) ∧ st = [])
          (.loop ⟨[(1, .one (.ptr (.t 1 0) 0)), (3, .one (.str o)), (4, .one (.int .i64 z)), (5, .one (.int .i64 y))], [(.t 1 0, some (.cells b.lent.atoms))], [.lp [0, 1, 0, 0, 1, 0, 0, 1, 0, 1, 1], .blk 2, .blk 1, .code [1, 1, 0, 0, 1, 0, 1, 1], .lp [0, 1, 0, 1, 1], .blk 0, .code [1, 1, 1]], none⟩) := by
        intro c
        induction c with
        | zero =>
          intro i y o hy hc ho
          subst hy
          have hi : i = b.ms.length := by omega
          rw [hi, q_next fun p hp => (hmem p).1 hp] at ho
          refine Run.loop ?_
          repeat' (conv => arg 4; whnf); first | refine Run.ret ⟨?_, rfl⟩ | refine Run.condT ?_ | refine Run.condf ?_ | refine Run.condD (fun h => ?_) (fun h => ?_) | refine Run.condN (fun h => ?_) (fun h => ?_) | refine Run.condE (fun h => ?_) (fun h => ?_) | refine Run.condF (fun h => ?_) (fun h => ?_) | refine Run.condM (fun h => ?_) (fun h => ?_) | refine Run.condB (fun h => ?_) (fun h => ?_) | refine Run.check1 ?_ | (exfalso; omega) | refine Run.round ⟨[(.t 1 0, .t 1 0)], [], []⟩ (ih (z + 1) _ _ et.h (by omega) (by omega) ho) rfl (by (repeat' (first | exact wkEnv_nil | refine wkEnv_cons rfl ?_ | exact wkSto_nil | refine wkSto_none ?_ | refine wkSto_some rfl ?_)); done) (by (repeat' (first | exact wkEnv_nil | refine wkEnv_cons rfl ?_ | exact wkSto_nil | refine wkSto_none ?_ | refine wkSto_some rfl ?_)); done)
          all_goals first | (exfalso; omega) | trace_state
        | succ c ihc =>
          intro i y o hy hc ho
          subst hy
          have hi : i < b.ms.length := by omega
          have e := fs (i := i) (by omega)
          have hos : o.size ≤ 20 + 40 * 6 := by
            have h1 := hgs z (i : Int)
            have h2 := hgl z (i : Int)
            rw [← ho] at h1
            omega
          have hnm : (rdM b.ms (i : Int)).f0.size ≤ 8 := (mvOk_range (hfit.1.2 i hi).1).2.1
          have hmiss : ¬ rd b.ts (i : Int) = z → o = planG b (Qf b.ts z ((i + 1 : Nat) : Int) (planL b)) := fun h => by
            rw [show ((i + 1 : Nat) : Int) = (i : Int) + 1 by omega, q_miss (by rw [Int.toNat_natCast, ← rd_nat]; exact h)]
            exact ho
          have hhit : rd b.ts (i : Int) = z → planI b o (i : Int) = planG b (Qf b.ts z ((i + 1 : Nat) : Int) (planL b)) := fun h => by
            rw [show ((i + 1 : Nat) : Int) = (i : Int) + 1 by omega, q_hit hasc ((hmem (i : Int)).2 (by omega)) (by rw [Int.toNat_natCast, ← rd_nat]; exact h), planG_snoc, ← ho]
          have hA : rd b.ts (i : Int) = z → 0 ≤ (rdM b.ms (i : Int)).f5 → o ++ tSp ++ (rdM b.ms (i : Int)).f0 ++ tAt ++ decM z ++ tBang = planG b (Qf b.ts z ((i + 1 : Nat) : Int) (planL b)) := fun h h5 => by
            rw [← hhit h, splanI b o i z (by rw [← rd_nat]; exact h), if_pos (show 0 ≤ (at' b.ms i).f5 from h5)]
            rfl
          have hB : rd b.ts (i : Int) = z → ¬ 0 ≤ (rdM b.ms (i : Int)).f5 → o ++ tSp ++ (rdM b.ms (i : Int)).f0 ++ tAt ++ decM z = planG b (Qf b.ts z ((i + 1 : Nat) : Int) (planL b)) := fun h h5 => by
            rw [← hhit h, splanI b o i z (by rw [← rd_nat]; exact h), if_neg (show ¬ 0 ≤ (at' b.ms i).f5 from h5)]
            rfl
          clear hhit ho ih hmem hgs hgl
          refine Run.loop ?_
          repeat' (conv => arg 4; whnf); first | refine Run.ret ⟨?_, rfl⟩ | refine Run.condT ?_ | refine Run.condf ?_ | refine Run.condD (fun h => ?_) (fun h => ?_) | refine Run.condN (fun h => ?_) (fun h => ?_) | refine Run.condE (fun h => ?_) (fun h => ?_) | refine Run.condF (fun h => ?_) (fun h => ?_) | refine Run.condM (fun h => ?_) (fun h => ?_) | refine Run.condB (fun h => ?_) (fun h => ?_) | refine Run.check1 ?_ | (exfalso; omega) | refine Run.call (hit) rfl ?_ | refine Run.need1 (by simp only [allP, true_and, and_true, tSp_size, tAt_size, tBang_size, app_size]; omega) ?_ | refine Run.round ⟨[(.t 1 0, .t 1 0)], [], []⟩ (ihc (i + 1) _ _ e.h (by omega) ?_) rfl (by (repeat' (first | exact wkEnv_nil | refine wkEnv_cons rfl ?_ | exact wkSto_nil | refine wkSto_none ?_ | refine wkSto_some rfl ?_)); done) (by (repeat' (first | exact wkEnv_nil | refine wkEnv_cons rfl ?_ | exact wkSto_nil | refine wkSto_none ?_ | refine wkSto_some rfl ?_)); done)
          all_goals first
            | exact hmiss ‹_›
            | exact hA ‹_› ‹_›
            | exact hB ‹_› ‹_›
            | (exfalso; omega)
            | trace_state
      refine Run.loop ?_
      repeat' (conv => arg 4; whnf); first | refine Run.ret ⟨?_, rfl⟩ | refine Run.condT ?_ | refine Run.condf ?_ | refine Run.condD (fun h => ?_) (fun h => ?_) | refine Run.condN (fun h => ?_) (fun h => ?_) | refine Run.condE (fun h => ?_) (fun h => ?_) | refine Run.condF (fun h => ?_) (fun h => ?_) | refine Run.condM (fun h => ?_) (fun h => ?_) | refine Run.condB (fun h => ?_) (fun h => ?_) | refine Run.check1 ?_ | (exfalso; omega) | refine Run.round ⟨[(.t 1 0, .t 1 0)], [], []⟩ (inner b.ts.length 0 _ _ rfl (by omega) ho) rfl (by (repeat' (first | exact wkEnv_nil | refine wkEnv_cons rfl ?_ | exact wkSto_nil | refine wkSto_none ?_ | refine wkSto_some rfl ?_)); done) (by (repeat' (first | exact wkEnv_nil | refine wkEnv_cons rfl ?_ | exact wkSto_nil | refine wkSto_none ?_ | refine wkSto_some rfl ?_)); done)
      all_goals first | (exfalso; omega) | trace_state
  repeat' (conv => arg 4; whnf); first | refine Run.ret ⟨?_, rfl⟩ | refine Run.condT ?_ | refine Run.condf ?_ | refine Run.condD (fun h => ?_) (fun h => ?_) | refine Run.condN (fun h => ?_) (fun h => ?_) | refine Run.condE (fun h => ?_) (fun h => ?_) | refine Run.condF (fun h => ?_) (fun h => ?_) | refine Run.condM (fun h => ?_) (fun h => ?_) | refine Run.condB (fun h => ?_) (fun h => ?_) | refine Run.check1 ?_ | refine Run.call (hi0) rfl ?_ | refine Run.round ⟨[(.t 1 0, .t 1 0)], [], []⟩ (outer (10001 - b.now).toNat b.now _ _ rfl (by omega) (by omega) ?_) rfl (by (repeat' (first | exact wkEnv_nil | refine wkEnv_cons rfl ?_ | exact wkSto_nil | refine wkSto_none ?_ | refine wkSto_some rfl ?_)); done) (by (repeat' (first | exact wkEnv_nil | refine wkEnv_cons rfl ?_ | exact wkSto_nil | refine wkSto_none ?_ | refine wkSto_some rfl ?_)); done)
  all_goals first
    | (rw [q_none fun p hp => by
        have h1 := (hmem p).1 hp
        exact ⟨h1.1, (hb.2.2.2 p.toNat (by omega)).1⟩]
       rfl)
    | trace_state
theorem text_ok (b : Bk) (hb : BkOk b) : Ok P 34 [.one (.ptr (.k 0) 0)] [some (.cells b.lent.atoms)] (.one (.str (planS b))) [some (.cells b.lent.atoms)] := by
  have hfit := hb.2.2.1
  have hn := hb.1
  have h6 := hfit.1.1
  have hlen := hfit.2.1
  have hmem := fun p => planL_mem b (p := p)
  have hll := planL_len b
  obtain ⟨c1, c2, c3, c4, c5, c6⟩ := cost_rng hb
  have hco := cost_ok b.ms b.ts (tkWf_l (bkD_of hb).td)
  have hi0 := itoa_ok b.now (by unfold W64; omega)
  have hi1 := itoa_ok (costF b.ms b.ts).1 c1
  have hi2 := itoa_ok (costF b.ms b.ts).2 c2
  have hsort := sortP_ok b (upTo b.ms.length) (fun x hx => by
    unfold upTo at hx
    simp only [List.mem_map, List.mem_range] at hx
    obtain ⟨i, hi, rfl⟩ := hx
    omega) (by rw [upTo_len]; omega)
  rw [upTo_len, show isort (byTick b.ts) 0 (upTo b.ms.length) b.ms.length = planL b from rfl] at hsort
  refine Ok.of_run (F := mk Tryz.f34 1) Tryz.func34 rfl rfl tabOk mixed rfl rfl rfl rfl rfl (Nat.le_of_ble_eq_true rfl) (Nat.le_of_ble_eq_true rfl) (.go 5000 ?_)
  have two : ∀ (d i : Nat) (z : Int) (o : ByteArray), z = i → i + d = b.ms.length → o = planG b ((planL b).take i) → Run P (mk Tryz.f34 1) (fun v st => v = .one (.str (planS b)) ∧ st = [some (.cells b.lent.atoms)])
      (.loop ⟨[(3, .one (.ptr (.t 3 0) 0)), (6, .one (.str o)), (34, .one (.own (.t 1000 0))), (35, .one (.int .i64 ((planL b).length : Int))), (36, .one (.int .i64 z))], [(.k 0, some (.cells b.lent.atoms)), (.t 3 0, some (.cells b.lent.atoms)), (.t 1000 0, some (.row (.int .i64) (planL b)))], [.lp [0, 1, 0, 1, 1, 1, 1, 1, 1], .blk 2, .code [1, 1, 1, 1, 1, 1, 1]], none⟩) := by
    intro d
    induction d with
    | zero =>
      intro i z o hz hd ho
      subst hz
      rw [List.take_of_length_le (by omega)] at ho
      have hos : o.size ≤ 20 + 40 * 6 := by
        have := planG_size hb _ (planL b) (Nat.le_refl _) fun p hp => (hmem p).1 hp
        rw [← ho] at this
        omega
      subst ho
      refine Run.loop ?_
      repeat' (conv => arg 4; whnf); first | refine Run.ret ⟨?_, rfl⟩ | refine Run.condT ?_ | refine Run.condf ?_ | refine Run.condD (fun h => ?_) (fun h => ?_) | refine Run.condN (fun h => ?_) (fun h => ?_) | refine Run.condE (fun h => ?_) (fun h => ?_) | refine Run.condF (fun h => ?_) (fun h => ?_) | refine Run.condM (fun h => ?_) (fun h => ?_) | refine Run.condB (fun h => ?_) (fun h => ?_) | refine Run.check1 ?_ | (exfalso; omega) | refine Run.call (hco) rfl ?_ | refine Run.call (hi1) rfl ?_ | refine Run.call (hi2) rfl ?_ | refine Run.need1 (by simp only [allP, true_and, and_true, tLate_size, tMost_size, app_size]; omega) ?_
      all_goals first | rfl | (exfalso; omega) | trace_state
    | succ d ih =>
      intro i z o hz hd ho
      subst hz
      have hi : i < (planL b).length := by omega
      have e := fs (i := i) (by omega)
      have hg : (planL b)[i] = rd (planL b) (i : Int) := by
        unfold rd
        rw [Int.toNat_natCast, List.getD_eq_getElem?_getD, List.getElem?_eq_getElem hi]
        rfl
      have hr := (hmem _).1 (List.getElem_mem hi)
      rw [hg] at hr
      have hos : o.size ≤ 20 + 40 * 6 := by
        have := planG_size hb _ ((planL b).take i) (Nat.le_refl _) fun p hp => (hmem p).1 (List.mem_of_mem_take hp)
        rw [← ho, List.length_take] at this
        omega
      have hnext : planI b o (rd (planL b) (i : Int)) = planG b ((planL b).take (i + 1)) := by
        rw [List.take_succ_eq_append_getElem hi, planG_snoc, ← ho, hg]
      obtain ⟨u, hu⟩ := Int.eq_ofNat_of_zero_le hr.1
      have key : ∀ p : Int, p = (u : Int) → planI b o p = planG b ((planL b).take (i + 1)) → (decM (rd b.ts p)).size ≤ 20 ∧ (rdM b.ms p).f0.size ≤ 8 ∧ Ok P 53 [.one (.int .i64 (rd b.ts p))] [] (.one (.str (decM (rd b.ts p)))) [] ∧
          (0 ≤ (rdM b.ms p).f5 → o ++ (tSp ++ (rdM b.ms p).f0 ++ tAt ++ decM (rd b.ts p)) ++ tBang = planG b ((planL b).take (i + 1))) ∧ (¬ 0 ≤ (rdM b.ms p).f5 → o ++ (tSp ++ (rdM b.ms p).f0 ++ tAt ++ decM (rd b.ts p)) = planG b ((planL b).take (i + 1))) := by
        rintro p rfl hnext
        obtain ⟨s1, s2, _⟩ := planI_size hb (o := o) (p := u) (by omega)
        rw [← rd_nat] at s1
        rw [← rdM_nat] at s2
        refine ⟨s1, s2, itoa_ok _ ?_, fun h5 => ?_, fun h5 => ?_⟩
        · have := inR_range hfit.1 (show u < b.ms.length by omega) (hfit.2.2 u (by omega)).1
          rw [rd_nat]
          unfold W64; omega
        · rw [← hnext]
          unfold planI
          rw [Int.toNat_natCast, if_pos (show 0 ≤ (at' b.ms u).f5 by rw [← rdM_nat]; exact h5), ← rdM_nat, ← rd_nat]
        · rw [← hnext]
          unfold planI
          rw [Int.toNat_natCast, if_neg (show ¬ 0 ≤ (at' b.ms u).f5 by rw [← rdM_nat]; exact h5), ← rdM_nat, ← rd_nat]
      obtain ⟨s1, s2, hit, hA, hB⟩ := key _ hu hnext
      clear hnext ho hmem hg key
      refine Run.loop ?_
      repeat' (conv => arg 4; whnf); first | refine Run.ret ⟨?_, rfl⟩ | refine Run.condT ?_ | refine Run.condf ?_ | refine Run.condD (fun h => ?_) (fun h => ?_) | refine Run.condN (fun h => ?_) (fun h => ?_) | refine Run.condE (fun h => ?_) (fun h => ?_) | refine Run.condF (fun h => ?_) (fun h => ?_) | refine Run.condM (fun h => ?_) (fun h => ?_) | refine Run.condB (fun h => ?_) (fun h => ?_) | refine Run.check1 ?_ | (exfalso; omega) | refine Run.call (hit) rfl ?_ | refine Run.need1 (by simp only [allP, true_and, and_true]; omega) ?_ | refine Run.need1 (by simp only [allP, true_and, and_true, tSp_size, tAt_size, tBang_size, app_size]; omega) ?_ | refine Run.round ⟨[(.t 3 0, .t 3 0), (.t 1000 0, .t 1000 0)], [], []⟩ (ih (i + 1) _ _ e.h (by omega) ?_) rfl (by (repeat' (first | exact wkEnv_nil | refine wkEnv_cons rfl ?_ | exact wkSto_nil | refine wkSto_none ?_ | refine wkSto_some rfl ?_)); done) (by (repeat' (first | exact wkEnv_nil | refine wkEnv_cons rfl ?_ | exact wkSto_nil | refine wkSto_none ?_ | refine wkSto_some rfl ?_)); done)
      all_goals first
        | exact hA ‹_›
        | exact hB ‹_›
        | (exfalso; omega)
        | trace_state
  have one : ∀ (d i : Nat) (z : Int), z = i → i + d = b.ms.length → Run P (mk Tryz.f34 1) (fun v st => v = .one (.str (planS b)) ∧ st = [some (.cells b.lent.atoms)])
      (.loop ⟨[(3, .one (.ptr (.t 3 0) 0)), (4, .one (.ptr (.t 4 0) 0)), (18, .one (.int .i64 (b.ms.length : Int))), (19, .one (.int .i64 z))], [(.k 0, some (.cells b.lent.atoms)), (.t 3 0, some (.cells b.lent.atoms)), (.t 4 0, some (.cells [.own (.t 1000 0)])), (.t 1000 0, some (.row (.int .i64) (upTo i)))], [.lp [0, 1, 0, 1, 1, 1], .blk 0, .code [1, 1, 1, 1]], none⟩) := by
    intro d
    induction d with
    | zero =>
      intro i z hz hd
      subst hz
      obtain rfl : i = b.ms.length := by omega
      refine Run.loop ?_
      repeat' (conv => arg 4; whnf); first | refine Run.ret ⟨?_, rfl⟩ | refine Run.condT ?_ | refine Run.condf ?_ | refine Run.condD (fun h => ?_) (fun h => ?_) | refine Run.condN (fun h => ?_) (fun h => ?_) | refine Run.condE (fun h => ?_) (fun h => ?_) | refine Run.condF (fun h => ?_) (fun h => ?_) | refine Run.condM (fun h => ?_) (fun h => ?_) | refine Run.condB (fun h => ?_) (fun h => ?_) | refine Run.check1 ?_ | (exfalso; omega) | refine Run.call (hsort) rfl ?_ | refine Run.call (hi0) rfl ?_ | refine Run.round ⟨[(.t 3 0, .t 3 0), (.t 1000 0, .t 1000 0)], [], []⟩ (two b.ms.length 0 _ _ rfl (by omega) rfl) rfl (by (repeat' (first | exact wkEnv_nil | refine wkEnv_cons rfl ?_ | exact wkSto_nil | refine wkSto_none ?_ | refine wkSto_some rfl ?_)); done) (by (repeat' (first | exact wkEnv_nil | refine wkEnv_cons rfl ?_ | exact wkSto_nil | refine wkSto_none ?_ | refine wkSto_some rfl ?_)); done)
      all_goals first | rfl | (exfalso; omega) | trace_state
    | succ d ih =>
      intro i z hz hd
      subst hz
      have e := fs (i := i) (by omega)
      have hup := upTo_next i
      have hul := upTo_len i
      refine Run.loop ?_
      repeat' (conv => arg 4; whnf); first | refine Run.ret ⟨?_, rfl⟩ | refine Run.condT ?_ | refine Run.condf ?_ | refine Run.condD (fun h => ?_) (fun h => ?_) | refine Run.condN (fun h => ?_) (fun h => ?_) | refine Run.condE (fun h => ?_) (fun h => ?_) | refine Run.condF (fun h => ?_) (fun h => ?_) | refine Run.condM (fun h => ?_) (fun h => ?_) | refine Run.condB (fun h => ?_) (fun h => ?_) | refine Run.check1 ?_ | (exfalso; omega) | refine Run.need1 (by simp only [allP, true_and, and_true, hul, List.length_cons, List.length_nil]; omega) ?_ | (rw [hup]) | refine Run.round ⟨[(.t 3 0, .t 3 0), (.t 4 0, .t 4 0), (.t 25 0, .t 1000 0)], [], []⟩ (ih (i + 1) _ e.h (by omega)) rfl (by (repeat' (first | exact wkEnv_nil | refine wkEnv_cons rfl ?_ | exact wkSto_nil | refine wkSto_none ?_ | refine wkSto_some rfl ?_)); done) (by (repeat' (first | exact wkEnv_nil | refine wkEnv_cons rfl ?_ | exact wkSto_nil | refine wkSto_none ?_ | refine wkSto_some rfl ?_)); done)
      all_goals first | (exfalso; omega) | trace_state
  repeat' (conv => arg 4; whnf); first | refine Run.ret ⟨?_, rfl⟩ | refine Run.condT ?_ | refine Run.condf ?_ | refine Run.condD (fun h => ?_) (fun h => ?_) | refine Run.condN (fun h => ?_) (fun h => ?_) | refine Run.condE (fun h => ?_) (fun h => ?_) | refine Run.condF (fun h => ?_) (fun h => ?_) | refine Run.condM (fun h => ?_) (fun h => ?_) | refine Run.condB (fun h => ?_) (fun h => ?_) | refine Run.check1 ?_ | refine Run.round ⟨[(.t 3 0, .t 3 0), (.t 4 0, .t 4 0), (.t 15 0, .t 1000 0)], [], []⟩ (one b.ms.length 0 _ rfl (by omega)) rfl (by (repeat' (first | exact wkEnv_nil | refine wkEnv_cons rfl ?_ | exact wkSto_nil | refine wkSto_none ?_ | refine wkSto_some rfl ?_)); done) (by (repeat' (first | exact wkEnv_nil | refine wkEnv_cons rfl ?_ | exact wkSto_nil | refine wkSto_none ?_ | refine wkSto_some rfl ?_)); done)
  all_goals trace_state
end Go.Proofs.YtlmdbeegmgfpnaaGreatDoor.AM

/- l5Without, l5NoLater of the reference; condition: the ticks are of 64 bits. -/
namespace Go.Proofs.YtlmdbeegmgfpnaaGreatDoor.AM
open Go.AM Go.RowKit
set_option linter.unusedVariables false
set_option linter.unusedSimpArgs false
set_option maxRecDepth 100000

theorem without_ok (l : List Mv) (a : Nat) (ha : a < l.length) (hl : l.length ≤ 1000) : Ok P 43 [.one (.lst .mv l false), .one (.int .i64 (a : Int))] [] (.one (.own (.k 0))) [some (.row .mv (dropL l a))] := by
  have e1 : wrap64 ((a : Int) + 1) = ((a + 1 : Nat) : Int) := wrap_eq (by omega) (by omega)
  refine Ok.of_run (F := mk Tryz.f43 0) Tryz.func43 rfl rfl tabOk mixed rfl rfl rfl rfl rfl (Nat.le_of_ble_eq_true rfl) (Nat.le_of_ble_eq_true rfl) (.go 5000 ?_)
  repeat' (conv => arg 4; whnf); first | refine Run.ret ⟨?_, rfl⟩ | refine Run.condT ?_ | refine Run.condf ?_ | refine Run.condD (fun h => ?_) (fun h => ?_) | refine Run.condN (fun h => ?_) (fun h => ?_) | refine Run.condE (fun h => ?_) (fun h => ?_) | refine Run.condF (fun h => ?_) (fun h => ?_) | refine Run.condM (fun h => ?_) (fun h => ?_) | refine Run.condB (fun h => ?_) (fun h => ?_) | refine Run.check1 ?_ | (exfalso; omega) | refine Run.need1 (by simp only [allP, true_and, and_true]; omega) ?_ | refine Run.need1 (by simp only [allP, true_and, and_true, List.length_append, List.length_take, List.length_drop, List.length_nil]; omega) ?_ | (refine Run.ret ⟨rfl, ?_⟩)
  all_goals first | rfl | (simp only [e1, Int.toNat_natCast, List.nil_append]; rfl) | trace_state
theorem noLater_ok (a b : List Int) (ha : a.length ≤ 1000) (hab : a.length = b.length) : Ok P 44 [.one (.lst (.int .i64) a false), .one (.lst (.int .i64) b false)] [] (.one (.bool (decide (NoLater a b)))) [] := by
  refine Ok.of_run (F := mk Tryz.f44 0) Tryz.func44 rfl rfl tabOk mixed rfl rfl rfl rfl rfl (Nat.le_of_ble_eq_true rfl) (Nat.le_of_ble_eq_true rfl) (.go 5000 ?_)
  have loop : ∀ (d i : Nat) (z : Int), z = i → i + d = a.length → (∀ j, j < i → tk a j ≤ tk b j) → Run P (mk Tryz.f44 0) (fun v st => v = .one (.bool (decide (NoLater a b))) ∧ st = []) (.loop ⟨[(0, .one (.lst (.int .i64) a false)), (1, .one (.lst (.int .i64) b false)), (5, .one (.int .i64 z))], [], [.lp [0, 1, 0, 1], .blk 0, .code [1, 1]], none⟩) := by
    intro d
    induction d with
    | zero =>
      intro i z hz hd hall
      subst hz
      have hnl : NoLater a b := fun j hj => hall j (by omega)
      rw [decide_eq_true hnl]
      refine Run.loop ?_
      repeat' (conv => arg 4; whnf); first | refine Run.ret ⟨?_, rfl⟩ | refine Run.condT ?_ | refine Run.condf ?_ | refine Run.condD (fun h => ?_) (fun h => ?_) | refine Run.condN (fun h => ?_) (fun h => ?_) | refine Run.condE (fun h => ?_) (fun h => ?_) | refine Run.condF (fun h => ?_) (fun h => ?_) | refine Run.condM (fun h => ?_) (fun h => ?_) | refine Run.condB (fun h => ?_) (fun h => ?_) | refine Run.check1 ?_ | (exfalso; omega)
      all_goals first | rfl | (exfalso; omega) | trace_state
    | succ d ih =>
      intro i z hz hd hall
      subst hz
      have hi : i < a.length := by omega
      have e := fs (i := i) (by omega)
      by_cases hlt : tk b i < tk a i
      · rw [decide_eq_false (fun q : NoLater a b => by have := q i hi; omega)]
        rw [← rd_nat, ← rd_nat] at hlt
        refine Run.loop ?_
        repeat' (conv => arg 4; whnf); first | refine Run.ret ⟨?_, rfl⟩ | refine Run.condT ?_ | refine Run.condf ?_ | refine Run.condD (fun h => ?_) (fun h => ?_) | refine Run.condN (fun h => ?_) (fun h => ?_) | refine Run.condE (fun h => ?_) (fun h => ?_) | refine Run.condF (fun h => ?_) (fun h => ?_) | refine Run.condM (fun h => ?_) (fun h => ?_) | refine Run.condB (fun h => ?_) (fun h => ?_) | refine Run.check1 ?_ | refine Run.need1 (by simp only [allP, true_and, and_true]; omega) ?_ | (exfalso; omega)
        all_goals first | rfl | (exfalso; omega) | trace_state
      · have hall' : ∀ j, j < i + 1 → tk a j ≤ tk b j := fun j hj => by
          rcases Nat.lt_or_ge j i with h3 | h3
          · exact hall j h3
          · obtain rfl : j = i := by omega
            omega
        rw [← rd_nat, ← rd_nat] at hlt
        refine Run.loop ?_
        repeat' (conv => arg 4; whnf); first | refine Run.ret ⟨?_, rfl⟩ | refine Run.condT ?_ | refine Run.condf ?_ | refine Run.condD (fun h => ?_) (fun h => ?_) | refine Run.condN (fun h => ?_) (fun h => ?_) | refine Run.condE (fun h => ?_) (fun h => ?_) | refine Run.condF (fun h => ?_) (fun h => ?_) | refine Run.condM (fun h => ?_) (fun h => ?_) | refine Run.condB (fun h => ?_) (fun h => ?_) | refine Run.check1 ?_ | refine Run.need1 (by simp only [allP, true_and, and_true]; omega) ?_ | refine Run.round ⟨[], [], []⟩ (ih (i + 1) _ e.h (by omega) hall') rfl (by (repeat' (first | exact wkEnv_nil | refine wkEnv_cons rfl ?_ | exact wkSto_nil | refine wkSto_none ?_ | refine wkSto_some rfl ?_)); done) (by (repeat' (first | exact wkEnv_nil | refine wkEnv_cons rfl ?_ | exact wkSto_nil | refine wkSto_none ?_ | refine wkSto_some rfl ?_)); done) | (exfalso; omega)
        all_goals first | rfl | (exfalso; omega) | trace_state
  repeat' (conv => arg 4; whnf); first | refine Run.ret ⟨?_, rfl⟩ | refine Run.condT ?_ | refine Run.condf ?_ | refine Run.condD (fun h => ?_) (fun h => ?_) | refine Run.condN (fun h => ?_) (fun h => ?_) | refine Run.condE (fun h => ?_) (fun h => ?_) | refine Run.condF (fun h => ?_) (fun h => ?_) | refine Run.condM (fun h => ?_) (fun h => ?_) | refine Run.condB (fun h => ?_) (fun h => ?_) | refine Run.check1 ?_ | refine Run.round ⟨[], [], []⟩ (loop a.length 0 _ rfl (by omega) (fun j hj => absurd hj (by omega))) rfl (by (repeat' (first | exact wkEnv_nil | refine wkEnv_cons rfl ?_ | exact wkSto_nil | refine wkSto_none ?_ | refine wkSto_some rfl ?_)); done) (by (repeat' (first | exact wkEnv_nil | refine wkEnv_cons rfl ?_ | exact wkSto_nil | refine wkSto_none ?_ | refine wkSto_some rfl ?_)); done)
  all_goals trace_state
end Go.Proofs.YtlmdbeegmgfpnaaGreatDoor.AM

/- StripDrop of the reference; condition: the ticks are of 64 bits.  -/
namespace Go.Proofs.YtlmdbeegmgfpnaaGreatDoor.AM
open Go.AM Go.RowKit
set_option linter.unusedVariables false
set_option linter.unusedSimpArgs false
set_option maxRecDepth 100000

set_option maxHeartbeats 8000000 in
theorem strip_sdrop_ok (b : Bk) (n : ByteArray) (hl : b.ms.length ≤ 1048576) (ht : b.ts.length ≤ 1048576) (hw : TkWf b.ts) :
    Ok P 22 [b.lent, .one (.str n)] [] (.tup [(dropR b n).1.own (.k 0) (.k 1), .one (.int .i64 (dropR b n).2)]) [some (.row .mv (dropR b n).1.ms), some (.row (.int .i64) (dropR b n).1.ts)] := by
  refine nilB_ok ?_
  have hbk := sbookOk_ok b hw
  refine Ok.of_rel (F := mk Tryz.f22 0) Tryz.func22 rfl rfl tabOk mixed rfl rfl rfl rfl rfl (Nat.le_of_ble_eq_true rfl) (by first | exact fun _ _ => nilR_len | exact fun _ _ => nilB_len) (.go 5000 ?_)
  by_cases hb : BkOk b
  · rw [decide_eq_true hb] at hbk
    have h6 := hb.2.2.1.1.1
    have hlen := hb.2.2.1.2.1
    have hat := sat_ok b n hl
    rcases atN_range b.ms n with ⟨h1, _⟩ | ⟨a, h1, ha, _⟩
    · have hr : dropR b n = (b, 3) := by unfold dropR; rw [if_neg (fun q => q hb), if_pos (by omega)]
      rw [hr]
      rw [h1] at hat
      repeat' (conv => arg 4; whnf); first | refine Run.ret ⟨?_, rfl⟩ | refine Run.condT ?_ | refine Run.condf ?_ | refine Run.condD (fun h => ?_) (fun h => ?_) | refine Run.condN (fun h => ?_) (fun h => ?_) | refine Run.condE (fun h => ?_) (fun h => ?_) | refine Run.condF (fun h => ?_) (fun h => ?_) | refine Run.condM (fun h => ?_) (fun h => ?_) | refine Run.condB (fun h => ?_) (fun h => ?_) | refine Run.check1 ?_ | refine Run.call (hbk) rfl ?_ | refine Run.call (hat) rfl ?_ | refine Run.call (scopy_ok b hl ht) rfl ?_ | (refine Run.ret (.inl ⟨rfl, rfl⟩)) | (exfalso; omega)
      all_goals trace_state
    · rw [h1] at hat
      have e1 : Fact (wrap64 ((a : Int) + 1) = ((a + 1 : Nat) : Int)) := fs (by omega)
      have hwo := without_ok b.ms a ha (by omega)
      have hm := drop_movesOk hb.2.2.1.1 a
      have hplan := splan_ok (dropL b.ms a) b.now b.shift hm hb.1 hb.2.1
      rw [dropR_eq hb h1]
      unfold dropB
      rw [show planM (dropL b.ms a) b.now b.shift = dropP b a from rfl] at hplan
      have hw2 : W64L (dropP b a).1 := planM_w64 _ _ _ hm hb.1.1 hb.2.1
      have hl1 := dropL_len b.ms ha
      have hl2 := dropL_len b.ts (a := a) (by omega)
      have hdl := fun h => dropP_len (b := b) (a := a) hb ha h
      have hrow : Fact (([] ++ b.ts.take ((a : Int)).toNat) ++ b.ts.drop (wrap64 ((a : Int) + 1)).toNat = dropL b.ts a) := by
        refine ⟨?_⟩
        rw [e1.h, Int.toNat_natCast, Int.toNat_natCast, List.nil_append]
        rfl
      have hsu := ssure_ok ⟨b.now, b.shift, dropL b.ms a, (dropP b a).1⟩ (tkWf_l hw2)
      have hcp := scopy_ok ⟨b.now, b.shift, dropL b.ms a, dropL b.ts a⟩ (show (dropL b.ms a).length ≤ _ by omega) (show (dropL b.ts a).length ≤ _ by omega)
      have tail : ∀ row : List Int, Fact (row = dropL b.ts a) → Run P (mk Tryz.f22 0) (NilB (if (dropP b a).2 = true ∧ NoLater (dropP b a).1 (dropL b.ts a) ∧ SureM ⟨b.now, b.shift, dropL b.ms a, (dropP b a).1⟩
            then ((⟨b.now, b.shift, dropL b.ms a, (dropP b a).1⟩ : Bk), (0 : Int)) else ((⟨b.now, b.shift, dropL b.ms a, dropL b.ts a⟩ : Bk), (0 : Int))).1 (.one (.int .i64 (if (dropP b a).2 = true ∧ NoLater (dropP b a).1 (dropL b.ts a) ∧ SureM ⟨b.now, b.shift, dropL b.ms a, (dropP b a).1⟩
            then ((⟨b.now, b.shift, dropL b.ms a, (dropP b a).1⟩ : Bk), (0 : Int)) else ((⟨b.now, b.shift, dropL b.ms a, dropL b.ts a⟩ : Bk), (0 : Int))).2)))
          (.fail 0 ⟨[(2, .one (.ptr (.t 2 0) 0)), (4, .one (.ptr (.t 4 0) 0)), (6, .one (.ptr (.t 6 0) 0))],
            [(.t 2 0, some (.cells b.lent.atoms)), (.t 4 0, some (.cells [.int .i64 0, .int .i64 0, .nil, .nil])), (.t 6 0, some (.cells [.int .i64 b.now, .int .i64 b.shift, .own (.t 1000 0), .own (.t 1000 1)])), (.t 1000 0, some (.row .mv (dropL b.ms a))), (.t 1000 1, some (.row (.int .i64) row))], [.code [1, 1, 1, 1, 1, 1, 1]], none⟩) := by
        intro row hr
        obtain rfl := hr.h
        clear hr hrow hwo hat hbk e1
        generalize dropP b a = pr at *
        obtain ⟨pt, pb⟩ := pr
        generalize dropL b.ms a = dm at *
        generalize dropL b.ts a = dt at *
        dsimp only at hplan hw2 hsu hdl
        cases pb with
        | false =>
          rw [if_neg (fun q => absurd q.1 Bool.false_ne_true)]
          refine Run.go 5000 ?_
          repeat' (conv => arg 4; whnf); first | refine Run.ret ⟨?_, rfl⟩ | refine Run.condT ?_ | refine Run.condf ?_ | refine Run.condD (fun h => ?_) (fun h => ?_) | refine Run.condN (fun h => ?_) (fun h => ?_) | refine Run.condE (fun h => ?_) (fun h => ?_) | refine Run.condF (fun h => ?_) (fun h => ?_) | refine Run.condM (fun h => ?_) (fun h => ?_) | refine Run.condB (fun h => ?_) (fun h => ?_) | refine Run.check1 ?_ | refine Run.call (hplan) rfl ?_ | refine Run.call (hcp) rfl ?_ | (refine Run.ret (.inl ⟨rfl, rfl⟩)) | (exfalso; omega)
          all_goals trace_state
        | true =>
          obtain ⟨hpl, hp6⟩ := hdl rfl
          have hnl := noLater_ok pt dt (by omega) hpl
          by_cases h2 : NoLater pt dt
          · rw [decide_eq_true h2] at hnl
            by_cases h3 : SureM ⟨b.now, b.shift, dm, pt⟩
            · rw [if_pos ⟨rfl, h2, h3⟩]
              rw [decide_eq_true h3] at hsu
              refine Run.go 5000 ?_
              repeat' (conv => arg 4; whnf); first | refine Run.ret ⟨?_, rfl⟩ | refine Run.condT ?_ | refine Run.condf ?_ | refine Run.condD (fun h => ?_) (fun h => ?_) | refine Run.condN (fun h => ?_) (fun h => ?_) | refine Run.condE (fun h => ?_) (fun h => ?_) | refine Run.condF (fun h => ?_) (fun h => ?_) | refine Run.condM (fun h => ?_) (fun h => ?_) | refine Run.condB (fun h => ?_) (fun h => ?_) | refine Run.check1 ?_ | refine Run.call (hplan) rfl ?_ | refine Run.call (hnl) rfl ?_ | refine Run.call (hsu) rfl ?_ | refine Run.call (hcp) rfl ?_ | (refine Run.ret (.inl ⟨rfl, rfl⟩)) | (exfalso; omega)
              all_goals trace_state
            · rw [if_neg (fun q => h3 q.2.2)]
              rw [decide_eq_false h3] at hsu
              refine Run.go 5000 ?_
              repeat' (conv => arg 4; whnf); first | refine Run.ret ⟨?_, rfl⟩ | refine Run.condT ?_ | refine Run.condf ?_ | refine Run.condD (fun h => ?_) (fun h => ?_) | refine Run.condN (fun h => ?_) (fun h => ?_) | refine Run.condE (fun h => ?_) (fun h => ?_) | refine Run.condF (fun h => ?_) (fun h => ?_) | refine Run.condM (fun h => ?_) (fun h => ?_) | refine Run.condB (fun h => ?_) (fun h => ?_) | refine Run.check1 ?_ | refine Run.call (hplan) rfl ?_ | refine Run.call (hnl) rfl ?_ | refine Run.call (hsu) rfl ?_ | refine Run.call (hcp) rfl ?_ | (refine Run.ret (.inl ⟨rfl, rfl⟩)) | (exfalso; omega)
              all_goals trace_state
          · rw [if_neg (fun q => h2 q.2.1)]
            rw [decide_eq_false h2] at hnl
            refine Run.go 5000 ?_
            repeat' (conv => arg 4; whnf); first | refine Run.ret ⟨?_, rfl⟩ | refine Run.condT ?_ | refine Run.condf ?_ | refine Run.condD (fun h => ?_) (fun h => ?_) | refine Run.condN (fun h => ?_) (fun h => ?_) | refine Run.condE (fun h => ?_) (fun h => ?_) | refine Run.condF (fun h => ?_) (fun h => ?_) | refine Run.condM (fun h => ?_) (fun h => ?_) | refine Run.condB (fun h => ?_) (fun h => ?_) | refine Run.check1 ?_ | refine Run.call (hplan) rfl ?_ | refine Run.call (hnl) rfl ?_ | refine Run.call (hcp) rfl ?_ | (refine Run.ret (.inl ⟨rfl, rfl⟩)) | (exfalso; omega)
            all_goals trace_state
      clear hsu hcp hplan hdl hw2 hm
      generalize (if (dropP b a).2 = true ∧ NoLater (dropP b a).1 (dropL b.ts a) ∧ SureM ⟨b.now, b.shift, dropL b.ms a, (dropP b a).1⟩
            then ((⟨b.now, b.shift, dropL b.ms a, (dropP b a).1⟩ : Bk), (0 : Int)) else ((⟨b.now, b.shift, dropL b.ms a, dropL b.ts a⟩ : Bk), (0 : Int))) = rr at tail ⊢
      repeat' (conv => arg 4; whnf); first
        | refine Run.condT ?_
        | refine Run.condf ?_
        | refine Run.condD (fun h => ?_) (fun h => ?_)
        | refine Run.call hbk rfl ?_
        | refine Run.call hat rfl ?_
        | refine Run.call hwo rfl ?_
        | refine Run.call (scopy_ok b hl ht) rfl ?_
        | (exfalso; omega)
        | refine Run.need1 (by simp only [allP, true_and, and_true, e1.h, List.length_append, List.length_take, List.length_drop, List.length_nil, Int.toNat_natCast]; omega) ?_
        | refine Run.check0 (by kernel_rfl) (Run.less ⟨[(.t 2 0, .t 2 0), (.t 4 0, .t 4 0), (.t 6 0, .t 6 0), (.t 26 0, .t 1000 0), (.t 39 0, .t 1000 1)], [], []⟩ (tail _ hrow) rfl (by (repeat' (first | exact wkEnv_nil | refine wkEnv_cons rfl ?_ | exact wkSto_nil | refine wkSto_none ?_ | refine wkSto_some rfl ?_)); done) (by (repeat' (first | exact wkEnv_nil | refine wkEnv_cons rfl ?_ | exact wkSto_nil | refine wkSto_none ?_ | refine wkSto_some rfl ?_)); done))
      all_goals trace_state
  · rw [decide_eq_false hb] at hbk
    rw [show dropR b n = (Bk.z, 1) from if_pos hb]
    repeat' (conv => arg 4; whnf); first | refine Run.ret ⟨?_, rfl⟩ | refine Run.condT ?_ | refine Run.condf ?_ | refine Run.condD (fun h => ?_) (fun h => ?_) | refine Run.condN (fun h => ?_) (fun h => ?_) | refine Run.condE (fun h => ?_) (fun h => ?_) | refine Run.condF (fun h => ?_) (fun h => ?_) | refine Run.condM (fun h => ?_) (fun h => ?_) | refine Run.condB (fun h => ?_) (fun h => ?_) | refine Run.check1 ?_ | refine Run.call (hbk) rfl ?_ | (refine Run.ret (.inr (.inr ⟨rfl, rfl, rfl, rfl⟩)))
    all_goals trace_state
end Go.Proofs.YtlmdbeegmgfpnaaGreatDoor.AM

/- Sessions: a line's answer; plain facts; no condition. -/
namespace Go.AM
set_option linter.unusedVariables false
set_option linter.unusedSimpArgs false
open Go.RowKit

abbrev tLand : ByteArray := ⟨#[108, 97, 110, 100]⟩
abbrev tLeave : ByteArray := ⟨#[108, 101, 97, 118, 101]⟩
abbrev tDrop : ByteArray := ⟨#[100, 114, 111, 112]⟩
abbrev tRound : ByteArray := ⟨#[114, 111, 117, 110, 100]⟩
abbrev tTick : ByteArray := ⟨#[116, 105, 99, 107]⟩
abbrev tPlan : ByteArray := ⟨#[112, 108, 97, 110]⟩
abbrev tSure : ByteArray := ⟨#[115, 117, 114, 101]⟩
def lineK (b : Bk) (ws : List ByteArray) (L V D R T Pn S : Bool) : Bk × ByteArray :=
  if (L = true ∨ V = true) ∧ ws.length = 5 then
    (if numI (rdS ws 2) < 0 ∨ numI (rdS ws 3) < 0 ∨ numI (rdS ws 4) < 0 then (b, tBad) else codeM b (addR b ⟨rdS ws 1, L, numI (rdS ws 2), numI (rdS ws 3), numI (rdS ws 4), -1⟩))
  else if D = true ∧ ws.length = 2 then codeM b (dropR b (rdS ws 1))
  else if R = true ∧ ws.length = 2 then codeM b (roundR b (rdS ws 1))
  else if T = true ∧ ws.length = 2 then (if numI (rdS ws 1) < 0 ∨ 100 < numI (rdS ws 1) then (b, tBad) else tickM (numI (rdS ws 1)).toNat b tE)
  else if Pn = true ∧ ws.length = 1 then (b, planS b)
  else if S = true ∧ ws.length = 1 then (b, if SureM b then tYes else tNo)
  else (b, tBad)
def isTx (w t : ByteArray) : Bool := w.toList == t.toList
def lineM (b : Bk) (ws : List ByteArray) : Bk × ByteArray := lineK b ws (isTx (rdS ws 0) tLand) (isTx (rdS ws 0) tLeave) (isTx (rdS ws 0) tDrop) (isTx (rdS ws 0) tRound) (isTx (rdS ws 0) tTick) (isTx (rdS ws 0) tPlan) (isTx (rdS ws 0) tSure)
/-- What the first word is. -/
structure WC (w : ByteArray) (L V D R T Pn S : Bool) : Prop where
  l : (w.toList == tLand.toList) = L
  v : (w.toList == tLeave.toList) = V
  d : (w.toList == tDrop.toList) = D
  r : (w.toList == tRound.toList) = R
  t : (w.toList == tTick.toList) = T
  p : (w.toList == tPlan.toList) = Pn
  s : (w.toList == tSure.toList) = S
theorem lineM_of {b : Bk} {ws : List ByteArray} {L V D R T Pn S : Bool} (h : WC (rdS ws 0) L V D R T Pn S) : lineM b ws = lineK b ws L V D R T Pn S := by
  unfold lineM isTx
  rw [h.l, h.v, h.d, h.r, h.t, h.p, h.s]
theorem beqT {x y : ByteArray} : (x.toList == y.toList) = true ↔ x = y := ⟨fun h => toList_inj (eq_of_beq h), fun h => by subst h; exact beq_self_eq_true _⟩
theorem beqF {x y : ByteArray} : (x.toList == y.toList) = false ↔ x ≠ y := by
  rw [← Bool.not_eq_true, beqT]
theorem wc_land : WC tLand true false false false false false false := by constructor <;> first | exact beqT.2 rfl | exact beqF.2 (by decide)
theorem wc_leave : WC tLeave false true false false false false false := by constructor <;> first | exact beqT.2 rfl | exact beqF.2 (by decide)
theorem wc_drop : WC tDrop false false true false false false false := by constructor <;> first | exact beqT.2 rfl | exact beqF.2 (by decide)
theorem wc_round : WC tRound false false false true false false false := by constructor <;> first | exact beqT.2 rfl | exact beqF.2 (by decide)
theorem wc_tick : WC tTick false false false false true false false := by constructor <;> first | exact beqT.2 rfl | exact beqF.2 (by decide)
theorem wc_plan : WC tPlan false false false false false true false := by constructor <;> first | exact beqT.2 rfl | exact beqF.2 (by decide)
theorem wc_sure : WC tSure false false false false false false true := by constructor <;> first | exact beqT.2 rfl | exact beqF.2 (by decide)
theorem wc_any (w : ByteArray) : (w = tLand ∧ WC w true false false false false false false) ∨ (w = tLeave ∧ WC w false true false false false false false) ∨ (w = tDrop ∧ WC w false false true false false false false) ∨ (w = tRound ∧ WC w false false false true false false false) ∨ (w = tTick ∧ WC w false false false false true false false) ∨
    (w = tPlan ∧ WC w false false false false false true false) ∨ (w = tSure ∧ WC w false false false false false false true) ∨ (w ≠ tPlan ∧ w ≠ tSure ∧ WC w false false false false false false false) := by
  by_cases h1 : w = tLand
  · subst h1; exact .inl ⟨rfl, wc_land⟩
  by_cases h2 : w = tLeave
  · subst h2; exact .inr (.inl ⟨rfl, wc_leave⟩)
  by_cases h3 : w = tDrop
  · subst h3; exact .inr (.inr (.inl ⟨rfl, wc_drop⟩))
  by_cases h4 : w = tRound
  · subst h4; exact .inr (.inr (.inr (.inl ⟨rfl, wc_round⟩)))
  by_cases h5 : w = tTick
  · subst h5; exact .inr (.inr (.inr (.inr (.inl ⟨rfl, wc_tick⟩))))
  by_cases h6 : w = tPlan
  · subst h6; exact .inr (.inr (.inr (.inr (.inr (.inl ⟨rfl, wc_plan⟩)))))
  by_cases h7 : w = tSure
  · subst h7; exact .inr (.inr (.inr (.inr (.inr (.inr (.inl ⟨rfl, wc_sure⟩))))))
  exact .inr (.inr (.inr (.inr (.inr (.inr (.inr ⟨h6, h7, beqF.2 h1, beqF.2 h2, beqF.2 h3, beqF.2 h4, beqF.2 h5, beqF.2 h6, beqF.2 h7⟩))))))
theorem nums1 {ws : List ByteArray} (h : ws.length = 2) : numsM (ws.drop 1) = if numI (rdS ws 1) < 0 then ([], false) else ([numI (rdS ws 1)], true) := by
  match ws, h with
  | [a, b], _ =>
    show numsM [b] = if numI b < 0 then ([], false) else ([numI b], true)
    simp only [numsM]
theorem nums3 {ws : List ByteArray} (h : ws.length = 5) (h2 : ¬ numI (rdS ws 2) < 0) (h3 : ¬ numI (rdS ws 3) < 0) (h4 : ¬ numI (rdS ws 4) < 0) : numsM (ws.drop 2) = ([numI (rdS ws 2), numI (rdS ws 3), numI (rdS ws 4)], true) := by
  match ws, h with
  | [a, b, c, d, e], _ =>
    have h2 : ¬ numI c < 0 := h2
    have h3 : ¬ numI d < 0 := h3
    have h4 : ¬ numI e < 0 := h4
    show numsM [c, d, e] = ([numI c, numI d, numI e], true)
    simp only [numsM, if_neg h2, if_neg h3, if_neg h4]
theorem nums3_bad {ws : List ByteArray} (h : ws.length = 5) (hb : numI (rdS ws 2) < 0 ∨ numI (rdS ws 3) < 0 ∨ numI (rdS ws 4) < 0) : (numsM (ws.drop 2)).2 = false := by
  match ws, h with
  | [a, b, c, d, e], _ =>
    have hb : numI c < 0 ∨ numI d < 0 ∨ numI e < 0 := hb
    show (numsM [c, d, e]).2 = false
    by_cases h2 : numI c < 0
    · simp only [numsM, if_pos h2]
    by_cases h3 : numI d < 0
    · simp only [numsM, if_neg h2, if_pos h3]
    by_cases h4 : numI e < 0
    · simp only [numsM, if_neg h2, if_neg h3, if_pos h4]
    · omega
/-- A line of one word. -/
theorem cut_word {w line : ByteArray} {c : UInt8} (hw : c ∉ w.data.toList) : line = w ↔ (rdS (cutM c line) 0 = w ∧ (cutM c line).length = 1) := by
  constructor
  · rintro rfl
    rw [cutM_none hw]
    exact ⟨rfl, rfl⟩
  · rintro ⟨h1, h2⟩
    obtain ⟨x, hx⟩ := List.length_eq_one_iff.1 h2
    rw [hx] at h1
    have : x = w := h1
    rw [← this]
    exact (cutM_one hx).symm
theorem line_is {w line : ByteArray} (hw : (32 : UInt8) ∉ w.data.toList) (b : Bool) (h : b = true ↔ (rdS (cutM 32 line) 0 = w ∧ (cutM 32 line).length = 1)) : (line.toList == w.toList) = b := by
  cases b with
  | true => exact beqT.2 ((cut_word hw).2 (h.1 rfl))
  | false => exact beqF.2 fun q => by have := h.2 ((cut_word hw).1 q); cases this
theorem no_plan32 : (32 : UInt8) ∉ tPlan.data.toList := by decide
theorem no_sure32 : (32 : UInt8) ∉ tSure.data.toList := by decide
/-! ### Codes -/
theorem code_add {b : Bk} (hb : BkOk b) (m : Mv) : (0 ≤ (addR b m).2 ∧ (addR b m).2 ≤ 6) ∧ ((addR b m).2 ≠ 0 → (addR b m).1 = b) := by
  rcases addR_cases m hb with ⟨c, h1, h2, h⟩ | ⟨t, h, _⟩ <;> rw [h]
  · exact ⟨⟨by show 0 ≤ c; omega, h2⟩, fun _ => rfl⟩
  · exact ⟨⟨Int.le_refl 0, show (0 : Int) ≤ 6 by decide⟩, fun q => absurd rfl q⟩
theorem code_drop {b : Bk} (hb : BkOk b) (n : ByteArray) : (0 ≤ (dropR b n).2 ∧ (dropR b n).2 ≤ 6) ∧ ((dropR b n).2 ≠ 0 → (dropR b n).1 = b) := by
  rcases dropR_codes n hb with ⟨h, _⟩ | ⟨h, h2⟩
  · rw [h]; exact ⟨⟨by decide, by decide⟩, fun q => absurd rfl q⟩
  · rw [h]; exact ⟨⟨by decide, by decide⟩, fun _ => h2⟩
theorem code_round {b : Bk} (hb : BkOk b) (n : ByteArray) : (0 ≤ (roundR b n).2 ∧ (roundR b n).2 ≤ 6) ∧ ((roundR b n).2 ≠ 0 → (roundR b n).1 = b) := by
  rcases roundR_cases n hb with ⟨c, h1, h2, h, _⟩ | ⟨a, _, _, _, _, _, h⟩ <;> rw [h]
  · exact ⟨⟨by show 0 ≤ c; omega, h2⟩, fun _ => rfl⟩
  · exact ⟨⟨Int.le_refl 0, show (0 : Int) ≤ 6 by decide⟩, fun q => absurd rfl q⟩
theorem codeM_eq {b : Bk} {r : Bk × Int} (h : r.2 ≠ 0 → r.1 = b) : codeM b r = (r.1, tCode ++ decM r.2) := by
  unfold codeM
  split
  · rfl
  · rename_i q
    rw [h q]
theorem codeM_ok {b : Bk} (hb : BkOk b) {r : Bk × Int} (h1 : BkOk r.1) (h : 0 ≤ r.2 ∧ r.2 ≤ 6) : BkOk (codeM b r).1 ∧ (codeM b r).2.size ≤ 2000 := by
  refine ⟨?_, ?_⟩
  · show BkOk (if r.2 = 0 then r.1 else b)
    split
    · exact h1
    · exact hb
  · show (tCode ++ decM r.2).size ≤ 2000
    rw [app_size]
    have : (decM r.2).size ≤ 20 := decM_size (by unfold W64; omega)
    show 5 + _ ≤ 2000
    omega
theorem line_ok {b : Bk} (hb : BkOk b) (ws : List ByteArray) : BkOk (lineM b ws).1 ∧ (lineM b ws).2.size ≤ 2000 := by
  have bad : BkOk b ∧ tBad.size ≤ 2000 := ⟨hb, by decide⟩
  unfold lineM lineK
  split
  · split
    · exact bad
    · exact codeM_ok hb (addR_facts b _).1 (code_add hb _).1
  split
  · exact codeM_ok hb (dropR_facts b _).1 (code_drop hb _).1
  split
  · exact codeM_ok hb (roundR_facts b _).1 (code_round hb _).1
  split
  · split
    · exact bad
    · obtain ⟨h1, h2⟩ := tickM_ok (numI (rdS ws 1)).toNat b tE hb
      have : tE.size = 0 := rfl
      exact ⟨h1, by omega⟩
  split
  · exact ⟨hb, by have := planS_size hb; show (planS b).size ≤ 2000; omega⟩
  split
  · refine ⟨hb, ?_⟩
    show (if SureM b then tYes else tNo).size ≤ 2000
    split <;> decide
  · exact bad
end Go.AM

/- A line, on the reference's side; condition: a book that is right. -/
namespace Go.Proofs.YtlmdbeegmgfpnaaGreatDoor.AM
open Go.AM Go.RowKit
set_option linter.unusedVariables false
set_option linter.unusedSimpArgs false
set_option maxRecDepth 100000

theorem sline_land (b : Bk) (ws : List ByteArray) (hb : BkOk b) (h1 : 1 ≤ ws.length) (hl : ws.length ≤ 1073741823) (hc : WC (rdS ws 0) true false false false false false false) : Ok P 9 [b.lent, .one (.lst .str ws false)] [] (.tup [(lineM b ws).1.lent, .one (.str (lineM b ws).2)]) [] := by
  have hbd := bkD_of hb
  have h6 := hbd.lm
  have h6' := hbd.lt
  have hw := tkWf_l hbd.td
  have hn1 := snums_ok (ws.drop 1) (by rw [List.length_drop]; omega)
  refine Ok.of_run (F := mk Tryz.f9 0) Tryz.func9 rfl rfl tabOk mixed rfl rfl rfl rfl rfl (Nat.le_of_ble_eq_true rfl) (Nat.le_of_ble_eq_true rfl) (.go 5000 ?_)
  by_cases h5 : ws.length = 5
  · have hl2 : (ws.drop 2).length ≤ 1073741824 := by rw [List.length_drop]; omega
    have hn2 := snums_ok (ws.drop 2) hl2
    by_cases hbad : numI (rdS ws 2) < 0 ∨ numI (rdS ws 3) < 0 ∨ numI (rdS ws 4) < 0
    · rw [nums3_bad h5 hbad] at hn2
      rw [show lineM b ws = (b, tBad) by rw [lineM_of hc]; unfold lineK; simp only [h5, if_pos hbad, Bool.false_eq_true, false_or, or_false, false_and, and_false, true_and, true_or, or_true, if_false, if_true, and_self]]
      repeat' (conv => arg 4; whnf); first | rw [hc.l] | rw [hc.v] | rw [hc.d] | rw [hc.r] | rw [hc.t] | rw [hc.p] | rw [hc.s] | refine Run.ret ⟨?_, rfl⟩ | refine Run.condT ?_ | refine Run.condf ?_ | refine Run.condD (fun h => ?_) (fun h => ?_) | refine Run.condN (fun h => ?_) (fun h => ?_) | refine Run.condE (fun h => ?_) (fun h => ?_) | refine Run.condF (fun h => ?_) (fun h => ?_) | refine Run.condM (fun h => ?_) (fun h => ?_) | refine Run.condB (fun h => ?_) (fun h => ?_) | refine Run.check1 ?_ | (exfalso; omega) | refine Run.call (hn1) rfl ?_ | refine Run.need1 (by simp only [allP, true_and, and_true, List.length_cons, List.length_nil]; omega) ?_ | refine Run.call (hn2) rfl ?_
      all_goals first | rfl | (exfalso; omega) | trace_state
    · have hnb := hbad
      simp only [not_or] at hnb
      rw [nums3 h5 hnb.1 hnb.2.1 hnb.2.2] at hn2
      have ha := strip_sadd_ok b ⟨rdS ws 1, true, numI (rdS ws 2), numI (rdS ws 3), numI (rdS ws 4), -1⟩ (by omega) (by omega) hw
      have hcd := code_add hb ⟨rdS ws 1, true, numI (rdS ws 2), numI (rdS ws 3), numI (rdS ws 4), -1⟩
      rw [show lineM b ws = codeM b (addR b ⟨rdS ws 1, true, numI (rdS ws 2), numI (rdS ws 3), numI (rdS ws 4), -1⟩) by rw [lineM_of hc]; unfold lineK; simp only [h5, if_neg hbad, Bool.false_eq_true, false_or, or_false, false_and, and_false, true_and, true_or, or_true, if_false, if_true, and_self], codeM_eq hcd.2]
      generalize addR b ⟨rdS ws 1, true, numI (rdS ws 2), numI (rdS ws 3), numI (rdS ws 4), -1⟩ = r at *
      obtain ⟨b', c⟩ := r
      dsimp only at ha hcd
      have hk := scode_ok b' c (by have := hcd.1; unfold W60; omega)
      clear hcd
      repeat' (conv => arg 4; whnf); first | rw [hc.l] | rw [hc.v] | rw [hc.d] | rw [hc.r] | rw [hc.t] | rw [hc.p] | rw [hc.s] | refine Run.ret ⟨?_, rfl⟩ | refine Run.condT ?_ | refine Run.condf ?_ | refine Run.condD (fun h => ?_) (fun h => ?_) | refine Run.condN (fun h => ?_) (fun h => ?_) | refine Run.condE (fun h => ?_) (fun h => ?_) | refine Run.condF (fun h => ?_) (fun h => ?_) | refine Run.condM (fun h => ?_) (fun h => ?_) | refine Run.condB (fun h => ?_) (fun h => ?_) | refine Run.check1 ?_ | (exfalso; omega) | refine Run.call (hn1) rfl ?_ | refine Run.need1 (by simp only [allP, true_and, and_true, List.length_cons, List.length_nil]; omega) ?_ | refine Run.call (ha) rfl ?_ | refine Run.call (hk) rfl ?_ | refine Run.call (hn2) rfl ?_
      all_goals first | rfl | (exfalso; omega) | trace_state
  · rw [show lineM b ws = (b, tBad) by rw [lineM_of hc]; unfold lineK; simp only [h5, Bool.false_eq_true, false_or, or_false, false_and, and_false, true_and, true_or, or_true, if_false, if_true, and_self]]
    repeat' (conv => arg 4; whnf); first | rw [hc.l] | rw [hc.v] | rw [hc.d] | rw [hc.r] | rw [hc.t] | rw [hc.p] | rw [hc.s] | refine Run.ret ⟨?_, rfl⟩ | refine Run.condT ?_ | refine Run.condf ?_ | refine Run.condD (fun h => ?_) (fun h => ?_) | refine Run.condN (fun h => ?_) (fun h => ?_) | refine Run.condE (fun h => ?_) (fun h => ?_) | refine Run.condF (fun h => ?_) (fun h => ?_) | refine Run.condM (fun h => ?_) (fun h => ?_) | refine Run.condB (fun h => ?_) (fun h => ?_) | refine Run.check1 ?_ | (exfalso; omega) | refine Run.call (hn1) rfl ?_ | refine Run.need1 (by simp only [allP, true_and, and_true, List.length_cons, List.length_nil]; omega) ?_
    all_goals first | rfl | (exfalso; omega) | trace_state
theorem sline_leave (b : Bk) (ws : List ByteArray) (hb : BkOk b) (h1 : 1 ≤ ws.length) (hl : ws.length ≤ 1073741823) (hc : WC (rdS ws 0) false true false false false false false) : Ok P 9 [b.lent, .one (.lst .str ws false)] [] (.tup [(lineM b ws).1.lent, .one (.str (lineM b ws).2)]) [] := by
  have hbd := bkD_of hb
  have h6 := hbd.lm
  have h6' := hbd.lt
  have hw := tkWf_l hbd.td
  have hn1 := snums_ok (ws.drop 1) (by rw [List.length_drop]; omega)
  refine Ok.of_run (F := mk Tryz.f9 0) Tryz.func9 rfl rfl tabOk mixed rfl rfl rfl rfl rfl (Nat.le_of_ble_eq_true rfl) (Nat.le_of_ble_eq_true rfl) (.go 5000 ?_)
  by_cases h5 : ws.length = 5
  · have hl2 : (ws.drop 2).length ≤ 1073741824 := by rw [List.length_drop]; omega
    have hn2 := snums_ok (ws.drop 2) hl2
    by_cases hbad : numI (rdS ws 2) < 0 ∨ numI (rdS ws 3) < 0 ∨ numI (rdS ws 4) < 0
    · rw [nums3_bad h5 hbad] at hn2
      rw [show lineM b ws = (b, tBad) by rw [lineM_of hc]; unfold lineK; simp only [h5, if_pos hbad, Bool.false_eq_true, false_or, or_false, false_and, and_false, true_and, true_or, or_true, if_false, if_true, and_self]]
      repeat' (conv => arg 4; whnf); first | rw [hc.l] | rw [hc.v] | rw [hc.d] | rw [hc.r] | rw [hc.t] | rw [hc.p] | rw [hc.s] | refine Run.ret ⟨?_, rfl⟩ | refine Run.condT ?_ | refine Run.condf ?_ | refine Run.condD (fun h => ?_) (fun h => ?_) | refine Run.condN (fun h => ?_) (fun h => ?_) | refine Run.condE (fun h => ?_) (fun h => ?_) | refine Run.condF (fun h => ?_) (fun h => ?_) | refine Run.condM (fun h => ?_) (fun h => ?_) | refine Run.condB (fun h => ?_) (fun h => ?_) | refine Run.check1 ?_ | (exfalso; omega) | refine Run.call (hn1) rfl ?_ | refine Run.need1 (by simp only [allP, true_and, and_true, List.length_cons, List.length_nil]; omega) ?_ | refine Run.call (hn2) rfl ?_
      all_goals first | rfl | (exfalso; omega) | trace_state
    · have hnb := hbad
      simp only [not_or] at hnb
      rw [nums3 h5 hnb.1 hnb.2.1 hnb.2.2] at hn2
      have ha := strip_sadd_ok b ⟨rdS ws 1, false, numI (rdS ws 2), numI (rdS ws 3), numI (rdS ws 4), -1⟩ (by omega) (by omega) hw
      have hcd := code_add hb ⟨rdS ws 1, false, numI (rdS ws 2), numI (rdS ws 3), numI (rdS ws 4), -1⟩
      rw [show lineM b ws = codeM b (addR b ⟨rdS ws 1, false, numI (rdS ws 2), numI (rdS ws 3), numI (rdS ws 4), -1⟩) by rw [lineM_of hc]; unfold lineK; simp only [h5, if_neg hbad, Bool.false_eq_true, false_or, or_false, false_and, and_false, true_and, true_or, or_true, if_false, if_true, and_self], codeM_eq hcd.2]
      generalize addR b ⟨rdS ws 1, false, numI (rdS ws 2), numI (rdS ws 3), numI (rdS ws 4), -1⟩ = r at *
      obtain ⟨b', c⟩ := r
      dsimp only at ha hcd
      have hk := scode_ok b' c (by have := hcd.1; unfold W60; omega)
      clear hcd
      repeat' (conv => arg 4; whnf); first | rw [hc.l] | rw [hc.v] | rw [hc.d] | rw [hc.r] | rw [hc.t] | rw [hc.p] | rw [hc.s] | refine Run.ret ⟨?_, rfl⟩ | refine Run.condT ?_ | refine Run.condf ?_ | refine Run.condD (fun h => ?_) (fun h => ?_) | refine Run.condN (fun h => ?_) (fun h => ?_) | refine Run.condE (fun h => ?_) (fun h => ?_) | refine Run.condF (fun h => ?_) (fun h => ?_) | refine Run.condM (fun h => ?_) (fun h => ?_) | refine Run.condB (fun h => ?_) (fun h => ?_) | refine Run.check1 ?_ | (exfalso; omega) | refine Run.call (hn1) rfl ?_ | refine Run.need1 (by simp only [allP, true_and, and_true, List.length_cons, List.length_nil]; omega) ?_ | refine Run.call (ha) rfl ?_ | refine Run.call (hk) rfl ?_ | refine Run.call (hn2) rfl ?_
      all_goals first | rfl | (exfalso; omega) | trace_state
  · rw [show lineM b ws = (b, tBad) by rw [lineM_of hc]; unfold lineK; simp only [h5, Bool.false_eq_true, false_or, or_false, false_and, and_false, true_and, true_or, or_true, if_false, if_true, and_self]]
    repeat' (conv => arg 4; whnf); first | rw [hc.l] | rw [hc.v] | rw [hc.d] | rw [hc.r] | rw [hc.t] | rw [hc.p] | rw [hc.s] | refine Run.ret ⟨?_, rfl⟩ | refine Run.condT ?_ | refine Run.condf ?_ | refine Run.condD (fun h => ?_) (fun h => ?_) | refine Run.condN (fun h => ?_) (fun h => ?_) | refine Run.condE (fun h => ?_) (fun h => ?_) | refine Run.condF (fun h => ?_) (fun h => ?_) | refine Run.condM (fun h => ?_) (fun h => ?_) | refine Run.condB (fun h => ?_) (fun h => ?_) | refine Run.check1 ?_ | (exfalso; omega) | refine Run.call (hn1) rfl ?_ | refine Run.need1 (by simp only [allP, true_and, and_true, List.length_cons, List.length_nil]; omega) ?_
    all_goals first | rfl | (exfalso; omega) | trace_state
theorem sline_drop (b : Bk) (ws : List ByteArray) (hb : BkOk b) (h1 : 1 ≤ ws.length) (hl : ws.length ≤ 1073741823) (hc : WC (rdS ws 0) false false true false false false false) : Ok P 9 [b.lent, .one (.lst .str ws false)] [] (.tup [(lineM b ws).1.lent, .one (.str (lineM b ws).2)]) [] := by
  have hbd := bkD_of hb
  have h6 := hbd.lm
  have h6' := hbd.lt
  have hw := tkWf_l hbd.td
  have hn1 := snums_ok (ws.drop 1) (by rw [List.length_drop]; omega)
  refine Ok.of_run (F := mk Tryz.f9 0) Tryz.func9 rfl rfl tabOk mixed rfl rfl rfl rfl rfl (Nat.le_of_ble_eq_true rfl) (Nat.le_of_ble_eq_true rfl) (.go 5000 ?_)
  by_cases h2 : ws.length = 2
  · have ha := strip_sdrop_ok b (rdS ws 1) (by omega) (by omega) hw
    have hcd := code_drop hb (rdS ws 1)
    rw [show lineM b ws = codeM b (dropR b (rdS ws 1)) by rw [lineM_of hc]; unfold lineK; simp only [h2, Bool.false_eq_true, false_or, or_false, false_and, and_false, true_and, true_or, or_true, if_false, if_true, and_self], codeM_eq hcd.2]
    generalize dropR b (rdS ws 1) = r at *
    obtain ⟨b', c⟩ := r
    dsimp only at ha hcd
    have hk := scode_ok b' c (by have := hcd.1; unfold W60; omega)
    clear hcd
    repeat' (conv => arg 4; whnf); first | rw [hc.l] | rw [hc.v] | rw [hc.d] | rw [hc.r] | rw [hc.t] | rw [hc.p] | rw [hc.s] | refine Run.ret ⟨?_, rfl⟩ | refine Run.condT ?_ | refine Run.condf ?_ | refine Run.condD (fun h => ?_) (fun h => ?_) | refine Run.condN (fun h => ?_) (fun h => ?_) | refine Run.condE (fun h => ?_) (fun h => ?_) | refine Run.condF (fun h => ?_) (fun h => ?_) | refine Run.condM (fun h => ?_) (fun h => ?_) | refine Run.condB (fun h => ?_) (fun h => ?_) | refine Run.check1 ?_ | (exfalso; omega) | refine Run.call (hn1) rfl ?_ | refine Run.need1 (by simp only [allP, true_and, and_true, List.length_cons, List.length_nil]; omega) ?_ | refine Run.call (ha) rfl ?_ | refine Run.call (hk) rfl ?_
    all_goals first | rfl | (exfalso; omega) | trace_state
  · rw [show lineM b ws = (b, tBad) by rw [lineM_of hc]; unfold lineK; simp only [h2, Bool.false_eq_true, false_or, or_false, false_and, and_false, true_and, true_or, or_true, if_false, if_true, and_self]]
    repeat' (conv => arg 4; whnf); first | rw [hc.l] | rw [hc.v] | rw [hc.d] | rw [hc.r] | rw [hc.t] | rw [hc.p] | rw [hc.s] | refine Run.ret ⟨?_, rfl⟩ | refine Run.condT ?_ | refine Run.condf ?_ | refine Run.condD (fun h => ?_) (fun h => ?_) | refine Run.condN (fun h => ?_) (fun h => ?_) | refine Run.condE (fun h => ?_) (fun h => ?_) | refine Run.condF (fun h => ?_) (fun h => ?_) | refine Run.condM (fun h => ?_) (fun h => ?_) | refine Run.condB (fun h => ?_) (fun h => ?_) | refine Run.check1 ?_ | (exfalso; omega) | refine Run.call (hn1) rfl ?_ | refine Run.need1 (by simp only [allP, true_and, and_true, List.length_cons, List.length_nil]; omega) ?_
    all_goals first | rfl | (exfalso; omega) | trace_state
theorem sline_round (b : Bk) (ws : List ByteArray) (hb : BkOk b) (h1 : 1 ≤ ws.length) (hl : ws.length ≤ 1073741823) (hc : WC (rdS ws 0) false false false true false false false) : Ok P 9 [b.lent, .one (.lst .str ws false)] [] (.tup [(lineM b ws).1.lent, .one (.str (lineM b ws).2)]) [] := by
  have hbd := bkD_of hb
  have h6 := hbd.lm
  have h6' := hbd.lt
  have hw := tkWf_l hbd.td
  have hn1 := snums_ok (ws.drop 1) (by rw [List.length_drop]; omega)
  refine Ok.of_run (F := mk Tryz.f9 0) Tryz.func9 rfl rfl tabOk mixed rfl rfl rfl rfl rfl (Nat.le_of_ble_eq_true rfl) (Nat.le_of_ble_eq_true rfl) (.go 5000 ?_)
  by_cases h2 : ws.length = 2
  · have ha := strip_sround_ok b (rdS ws 1) (by omega) (by omega) hw
    have hcd := code_round hb (rdS ws 1)
    rw [show lineM b ws = codeM b (roundR b (rdS ws 1)) by rw [lineM_of hc]; unfold lineK; simp only [h2, Bool.false_eq_true, false_or, or_false, false_and, and_false, true_and, true_or, or_true, if_false, if_true, and_self], codeM_eq hcd.2]
    generalize roundR b (rdS ws 1) = r at *
    obtain ⟨b', c⟩ := r
    dsimp only at ha hcd
    have hk := scode_ok b' c (by have := hcd.1; unfold W60; omega)
    clear hcd
    repeat' (conv => arg 4; whnf); first | rw [hc.l] | rw [hc.v] | rw [hc.d] | rw [hc.r] | rw [hc.t] | rw [hc.p] | rw [hc.s] | refine Run.ret ⟨?_, rfl⟩ | refine Run.condT ?_ | refine Run.condf ?_ | refine Run.condD (fun h => ?_) (fun h => ?_) | refine Run.condN (fun h => ?_) (fun h => ?_) | refine Run.condE (fun h => ?_) (fun h => ?_) | refine Run.condF (fun h => ?_) (fun h => ?_) | refine Run.condM (fun h => ?_) (fun h => ?_) | refine Run.condB (fun h => ?_) (fun h => ?_) | refine Run.check1 ?_ | (exfalso; omega) | refine Run.call (hn1) rfl ?_ | refine Run.need1 (by simp only [allP, true_and, and_true, List.length_cons, List.length_nil]; omega) ?_ | refine Run.call (ha) rfl ?_ | refine Run.call (hk) rfl ?_
    all_goals first | rfl | (exfalso; omega) | trace_state
  · rw [show lineM b ws = (b, tBad) by rw [lineM_of hc]; unfold lineK; simp only [h2, Bool.false_eq_true, false_or, or_false, false_and, and_false, true_and, true_or, or_true, if_false, if_true, and_self]]
    repeat' (conv => arg 4; whnf); first | rw [hc.l] | rw [hc.v] | rw [hc.d] | rw [hc.r] | rw [hc.t] | rw [hc.p] | rw [hc.s] | refine Run.ret ⟨?_, rfl⟩ | refine Run.condT ?_ | refine Run.condf ?_ | refine Run.condD (fun h => ?_) (fun h => ?_) | refine Run.condN (fun h => ?_) (fun h => ?_) | refine Run.condE (fun h => ?_) (fun h => ?_) | refine Run.condF (fun h => ?_) (fun h => ?_) | refine Run.condM (fun h => ?_) (fun h => ?_) | refine Run.condB (fun h => ?_) (fun h => ?_) | refine Run.check1 ?_ | (exfalso; omega) | refine Run.call (hn1) rfl ?_ | refine Run.need1 (by simp only [allP, true_and, and_true, List.length_cons, List.length_nil]; omega) ?_
    all_goals first | rfl | (exfalso; omega) | trace_state
theorem sline_tick (b : Bk) (ws : List ByteArray) (hb : BkOk b) (h1 : 1 ≤ ws.length) (hl : ws.length ≤ 1073741823) (hc : WC (rdS ws 0) false false false false true false false) : Ok P 9 [b.lent, .one (.lst .str ws false)] [] (.tup [(lineM b ws).1.lent, .one (.str (lineM b ws).2)]) [] := by
  have hbd := bkD_of hb
  have h6 := hbd.lm
  have h6' := hbd.lt
  have hw := tkWf_l hbd.td
  have hn1 := snums_ok (ws.drop 1) (by rw [List.length_drop]; omega)
  refine Ok.of_run (F := mk Tryz.f9 0) Tryz.func9 rfl rfl tabOk mixed rfl rfl rfl rfl rfl (Nat.le_of_ble_eq_true rfl) (Nat.le_of_ble_eq_true rfl) (.go 5000 ?_)
  by_cases h2 : ws.length = 2
  · rw [nums1 h2] at hn1
    have hlt := numI_lt (rdS ws 1)
    by_cases hneg : numI (rdS ws 1) < 0
    · rw [if_pos hneg] at hn1
      dsimp only at hn1
      rw [show lineM b ws = (b, tBad) by rw [lineM_of hc]; unfold lineK; simp only [h2, if_pos (show numI (rdS ws 1) < 0 ∨ 100 < numI (rdS ws 1) from .inl hneg), Bool.false_eq_true, false_or, or_false, false_and, and_false, true_and, true_or, or_true, if_false, if_true, and_self]]
      repeat' (conv => arg 4; whnf); first | rw [hc.l] | rw [hc.v] | rw [hc.d] | rw [hc.r] | rw [hc.t] | rw [hc.p] | rw [hc.s] | refine Run.ret ⟨?_, rfl⟩ | refine Run.condT ?_ | refine Run.condf ?_ | refine Run.condD (fun h => ?_) (fun h => ?_) | refine Run.condN (fun h => ?_) (fun h => ?_) | refine Run.condE (fun h => ?_) (fun h => ?_) | refine Run.condF (fun h => ?_) (fun h => ?_) | refine Run.condM (fun h => ?_) (fun h => ?_) | refine Run.condB (fun h => ?_) (fun h => ?_) | refine Run.check1 ?_ | (exfalso; omega) | refine Run.call (hn1) rfl ?_ | refine Run.need1 (by simp only [allP, true_and, and_true, List.length_cons, List.length_nil]; omega) ?_
      all_goals first | rfl | (exfalso; omega) | trace_state
    · rw [if_neg hneg] at hn1
      dsimp only at hn1
      by_cases hbig : 100 < numI (rdS ws 1)
      · rw [show lineM b ws = (b, tBad) by rw [lineM_of hc]; unfold lineK; simp only [h2, if_pos (show numI (rdS ws 1) < 0 ∨ 100 < numI (rdS ws 1) from .inr hbig), Bool.false_eq_true, false_or, or_false, false_and, and_false, true_and, true_or, or_true, if_false, if_true, and_self]]
        have hbg : ¬ rd [numI (rdS ws 1)] 0 ≤ 100 := by show ¬ numI (rdS ws 1) ≤ 100; omega
        repeat' (conv => arg 4; whnf); first | rw [hc.l] | rw [hc.v] | rw [hc.d] | rw [hc.r] | rw [hc.t] | rw [hc.p] | rw [hc.s] | refine Run.ret ⟨?_, rfl⟩ | refine Run.condT ?_ | refine Run.condf ?_ | refine Run.condD (fun h => ?_) (fun h => ?_) | refine Run.condN (fun h => ?_) (fun h => ?_) | refine Run.condE (fun h => ?_) (fun h => ?_) | refine Run.condF (fun h => ?_) (fun h => ?_) | refine Run.condM (fun h => ?_) (fun h => ?_) | refine Run.condB (fun h => ?_) (fun h => ?_) | refine Run.check1 ?_ | (exfalso; omega) | refine Run.call (hn1) rfl ?_ | refine Run.need1 (by simp only [allP, true_and, and_true, List.length_cons, List.length_nil]; omega) ?_ | (exfalso; exact hbg ‹_›)
        all_goals first | rfl | (exfalso; omega) | trace_state
      · rw [show lineM b ws = tickM (numI (rdS ws 1)).toNat b tE by rw [lineM_of hc]; unfold lineK; simp only [h2, if_neg (show ¬ (numI (rdS ws 1) < 0 ∨ 100 < numI (rdS ws 1)) by omega), Bool.false_eq_true, false_or, or_false, false_and, and_false, true_and, true_or, or_true, if_false, if_true, and_self]]
        have hbg : ¬ ¬ rd [numI (rdS ws 1)] 0 ≤ 100 := by show ¬ ¬ numI (rdS ws 1) ≤ 100; omega
        have hti := sticks_ok b (numI (rdS ws 1)).toNat hb (by omega) (rd [numI (rdS ws 1)] 0) (by show numI (rdS ws 1) = _; omega)
        repeat' (conv => arg 4; whnf); first | rw [hc.l] | rw [hc.v] | rw [hc.d] | rw [hc.r] | rw [hc.t] | rw [hc.p] | rw [hc.s] | refine Run.ret ⟨?_, rfl⟩ | refine Run.condT ?_ | refine Run.condf ?_ | refine Run.condD (fun h => ?_) (fun h => ?_) | refine Run.condN (fun h => ?_) (fun h => ?_) | refine Run.condE (fun h => ?_) (fun h => ?_) | refine Run.condF (fun h => ?_) (fun h => ?_) | refine Run.condM (fun h => ?_) (fun h => ?_) | refine Run.condB (fun h => ?_) (fun h => ?_) | refine Run.check1 ?_ | (exfalso; omega) | refine Run.call (hn1) rfl ?_ | refine Run.need1 (by simp only [allP, true_and, and_true, List.length_cons, List.length_nil]; omega) ?_ | (exfalso; exact hbg ‹_›) | refine Run.call (hti) rfl ?_
        all_goals first | rfl | (exfalso; omega) | trace_state
  · rw [show lineM b ws = (b, tBad) by rw [lineM_of hc]; unfold lineK; simp only [h2, Bool.false_eq_true, false_or, or_false, false_and, and_false, true_and, true_or, or_true, if_false, if_true, and_self]]
    repeat' (conv => arg 4; whnf); first | rw [hc.l] | rw [hc.v] | rw [hc.d] | rw [hc.r] | rw [hc.t] | rw [hc.p] | rw [hc.s] | refine Run.ret ⟨?_, rfl⟩ | refine Run.condT ?_ | refine Run.condf ?_ | refine Run.condD (fun h => ?_) (fun h => ?_) | refine Run.condN (fun h => ?_) (fun h => ?_) | refine Run.condE (fun h => ?_) (fun h => ?_) | refine Run.condF (fun h => ?_) (fun h => ?_) | refine Run.condM (fun h => ?_) (fun h => ?_) | refine Run.condB (fun h => ?_) (fun h => ?_) | refine Run.check1 ?_ | (exfalso; omega) | refine Run.call (hn1) rfl ?_ | refine Run.need1 (by simp only [allP, true_and, and_true, List.length_cons, List.length_nil]; omega) ?_
    all_goals first | rfl | (exfalso; omega) | trace_state
theorem sline_plan (b : Bk) (ws : List ByteArray) (hb : BkOk b) (h1 : 1 ≤ ws.length) (hl : ws.length ≤ 1073741823) (hc : WC (rdS ws 0) false false false false false true false) : Ok P 9 [b.lent, .one (.lst .str ws false)] [] (.tup [(lineM b ws).1.lent, .one (.str (lineM b ws).2)]) [] := by
  have hbd := bkD_of hb
  have h6 := hbd.lm
  have h6' := hbd.lt
  have hw := tkWf_l hbd.td
  have hn1 := snums_ok (ws.drop 1) (by rw [List.length_drop]; omega)
  refine Ok.of_run (F := mk Tryz.f9 0) Tryz.func9 rfl rfl tabOk mixed rfl rfl rfl rfl rfl (Nat.le_of_ble_eq_true rfl) (Nat.le_of_ble_eq_true rfl) (.go 5000 ?_)
  by_cases hu : ws.length = 1
  · rw [show lineM b ws = (b, planS b) by rw [lineM_of hc]; unfold lineK; simp only [hu, show ¬ (1 = 5) by decide, show ¬ (1 = 2) by decide, Bool.false_eq_true, false_or, or_false, false_and, and_false, true_and, true_or, or_true, if_false, if_true, and_self]]
    repeat' (conv => arg 4; whnf); first | rw [hc.l] | rw [hc.v] | rw [hc.d] | rw [hc.r] | rw [hc.t] | rw [hc.p] | rw [hc.s] | refine Run.ret ⟨?_, rfl⟩ | refine Run.condT ?_ | refine Run.condf ?_ | refine Run.condD (fun h => ?_) (fun h => ?_) | refine Run.condN (fun h => ?_) (fun h => ?_) | refine Run.condE (fun h => ?_) (fun h => ?_) | refine Run.condF (fun h => ?_) (fun h => ?_) | refine Run.condM (fun h => ?_) (fun h => ?_) | refine Run.condB (fun h => ?_) (fun h => ?_) | refine Run.check1 ?_ | (exfalso; omega) | refine Run.call (hn1) rfl ?_ | refine Run.need1 (by simp only [allP, true_and, and_true, List.length_cons, List.length_nil]; omega) ?_ | refine Run.call (stext_ok b hb) rfl ?_
    all_goals first | rfl | (exfalso; omega) | trace_state
  · rw [show lineM b ws = (b, tBad) by rw [lineM_of hc]; unfold lineK; simp only [hu, Bool.false_eq_true, false_or, or_false, false_and, and_false, true_and, true_or, or_true, if_false, if_true, and_self]]
    repeat' (conv => arg 4; whnf); first | rw [hc.l] | rw [hc.v] | rw [hc.d] | rw [hc.r] | rw [hc.t] | rw [hc.p] | rw [hc.s] | refine Run.ret ⟨?_, rfl⟩ | refine Run.condT ?_ | refine Run.condf ?_ | refine Run.condD (fun h => ?_) (fun h => ?_) | refine Run.condN (fun h => ?_) (fun h => ?_) | refine Run.condE (fun h => ?_) (fun h => ?_) | refine Run.condF (fun h => ?_) (fun h => ?_) | refine Run.condM (fun h => ?_) (fun h => ?_) | refine Run.condB (fun h => ?_) (fun h => ?_) | refine Run.check1 ?_ | (exfalso; omega) | refine Run.call (hn1) rfl ?_ | refine Run.need1 (by simp only [allP, true_and, and_true, List.length_cons, List.length_nil]; omega) ?_
    all_goals first | rfl | (exfalso; omega) | trace_state
theorem sline_sure (b : Bk) (ws : List ByteArray) (hb : BkOk b) (h1 : 1 ≤ ws.length) (hl : ws.length ≤ 1073741823) (hc : WC (rdS ws 0) false false false false false false true) : Ok P 9 [b.lent, .one (.lst .str ws false)] [] (.tup [(lineM b ws).1.lent, .one (.str (lineM b ws).2)]) [] := by
  have hbd := bkD_of hb
  have h6 := hbd.lm
  have h6' := hbd.lt
  have hw := tkWf_l hbd.td
  have hn1 := snums_ok (ws.drop 1) (by rw [List.length_drop]; omega)
  refine Ok.of_run (F := mk Tryz.f9 0) Tryz.func9 rfl rfl tabOk mixed rfl rfl rfl rfl rfl (Nat.le_of_ble_eq_true rfl) (Nat.le_of_ble_eq_true rfl) (.go 5000 ?_)
  by_cases hu : ws.length = 1
  · have hsu := ssure_ok b hw
    by_cases hs : SureM b
    · rw [decide_eq_true hs] at hsu
      rw [show lineM b ws = (b, tYes) by rw [lineM_of hc]; unfold lineK; simp only [hu, if_pos hs, Bool.false_eq_true, false_or, or_false, false_and, and_false, true_and, true_or, or_true, if_false, if_true, and_self]]
      repeat' (conv => arg 4; whnf); first | rw [hc.l] | rw [hc.v] | rw [hc.d] | rw [hc.r] | rw [hc.t] | rw [hc.p] | rw [hc.s] | refine Run.ret ⟨?_, rfl⟩ | refine Run.condT ?_ | refine Run.condf ?_ | refine Run.condD (fun h => ?_) (fun h => ?_) | refine Run.condN (fun h => ?_) (fun h => ?_) | refine Run.condE (fun h => ?_) (fun h => ?_) | refine Run.condF (fun h => ?_) (fun h => ?_) | refine Run.condM (fun h => ?_) (fun h => ?_) | refine Run.condB (fun h => ?_) (fun h => ?_) | refine Run.check1 ?_ | (exfalso; omega) | refine Run.call (hn1) rfl ?_ | refine Run.need1 (by simp only [allP, true_and, and_true, List.length_cons, List.length_nil]; omega) ?_ | refine Run.call (hsu) rfl ?_
      all_goals first | rfl | (exfalso; omega) | trace_state
    · rw [decide_eq_false hs] at hsu
      rw [show lineM b ws = (b, tNo) by rw [lineM_of hc]; unfold lineK; simp only [hu, if_neg hs, Bool.false_eq_true, false_or, or_false, false_and, and_false, true_and, true_or, or_true, if_false, if_true, and_self]]
      repeat' (conv => arg 4; whnf); first | rw [hc.l] | rw [hc.v] | rw [hc.d] | rw [hc.r] | rw [hc.t] | rw [hc.p] | rw [hc.s] | refine Run.ret ⟨?_, rfl⟩ | refine Run.condT ?_ | refine Run.condf ?_ | refine Run.condD (fun h => ?_) (fun h => ?_) | refine Run.condN (fun h => ?_) (fun h => ?_) | refine Run.condE (fun h => ?_) (fun h => ?_) | refine Run.condF (fun h => ?_) (fun h => ?_) | refine Run.condM (fun h => ?_) (fun h => ?_) | refine Run.condB (fun h => ?_) (fun h => ?_) | refine Run.check1 ?_ | (exfalso; omega) | refine Run.call (hn1) rfl ?_ | refine Run.need1 (by simp only [allP, true_and, and_true, List.length_cons, List.length_nil]; omega) ?_ | refine Run.call (hsu) rfl ?_
      all_goals first | rfl | (exfalso; omega) | trace_state
  · rw [show lineM b ws = (b, tBad) by rw [lineM_of hc]; unfold lineK; simp only [hu, Bool.false_eq_true, false_or, or_false, false_and, and_false, true_and, true_or, or_true, if_false, if_true, and_self]]
    repeat' (conv => arg 4; whnf); first | rw [hc.l] | rw [hc.v] | rw [hc.d] | rw [hc.r] | rw [hc.t] | rw [hc.p] | rw [hc.s] | refine Run.ret ⟨?_, rfl⟩ | refine Run.condT ?_ | refine Run.condf ?_ | refine Run.condD (fun h => ?_) (fun h => ?_) | refine Run.condN (fun h => ?_) (fun h => ?_) | refine Run.condE (fun h => ?_) (fun h => ?_) | refine Run.condF (fun h => ?_) (fun h => ?_) | refine Run.condM (fun h => ?_) (fun h => ?_) | refine Run.condB (fun h => ?_) (fun h => ?_) | refine Run.check1 ?_ | (exfalso; omega) | refine Run.call (hn1) rfl ?_ | refine Run.need1 (by simp only [allP, true_and, and_true, List.length_cons, List.length_nil]; omega) ?_
    all_goals first | rfl | (exfalso; omega) | trace_state
theorem sline_none (b : Bk) (ws : List ByteArray) (hb : BkOk b) (h1 : 1 ≤ ws.length) (hl : ws.length ≤ 1073741823) (hc : WC (rdS ws 0) false false false false false false false) : Ok P 9 [b.lent, .one (.lst .str ws false)] [] (.tup [(lineM b ws).1.lent, .one (.str (lineM b ws).2)]) [] := by
  have hbd := bkD_of hb
  have h6 := hbd.lm
  have h6' := hbd.lt
  have hw := tkWf_l hbd.td
  have hn1 := snums_ok (ws.drop 1) (by rw [List.length_drop]; omega)
  refine Ok.of_run (F := mk Tryz.f9 0) Tryz.func9 rfl rfl tabOk mixed rfl rfl rfl rfl rfl (Nat.le_of_ble_eq_true rfl) (Nat.le_of_ble_eq_true rfl) (.go 5000 ?_)
  rw [show lineM b ws = (b, tBad) by rw [lineM_of hc]; unfold lineK; simp only [Bool.false_eq_true, false_or, or_false, false_and, and_false, true_and, true_or, or_true, if_false, if_true, and_self]]
  repeat' (conv => arg 4; whnf); first | rw [hc.l] | rw [hc.v] | rw [hc.d] | rw [hc.r] | rw [hc.t] | rw [hc.p] | rw [hc.s] | refine Run.ret ⟨?_, rfl⟩ | refine Run.condT ?_ | refine Run.condf ?_ | refine Run.condD (fun h => ?_) (fun h => ?_) | refine Run.condN (fun h => ?_) (fun h => ?_) | refine Run.condE (fun h => ?_) (fun h => ?_) | refine Run.condF (fun h => ?_) (fun h => ?_) | refine Run.condM (fun h => ?_) (fun h => ?_) | refine Run.condB (fun h => ?_) (fun h => ?_) | refine Run.check1 ?_ | (exfalso; omega) | refine Run.call (hn1) rfl ?_ | refine Run.need1 (by simp only [allP, true_and, and_true, List.length_cons, List.length_nil]; omega) ?_
  all_goals first | rfl | (exfalso; omega) | trace_state
theorem sline_ok (b : Bk) (ws : List ByteArray) (hb : BkOk b) (h1 : 1 ≤ ws.length) (hl : ws.length ≤ 1073741823) : Ok P 9 [b.lent, .one (.lst .str ws false)] [] (.tup [(lineM b ws).1.lent, .one (.str (lineM b ws).2)]) [] := by
  rcases wc_any (rdS ws 0) with ⟨_, hc⟩ | ⟨_, hc⟩ | ⟨_, hc⟩ | ⟨_, hc⟩ | ⟨_, hc⟩ | ⟨_, hc⟩ | ⟨_, hc⟩ | ⟨_, _, hc⟩
  · exact sline_land b ws hb h1 hl hc
  · exact sline_leave b ws hb h1 hl hc
  · exact sline_drop b ws hb h1 hl hc
  · exact sline_round b ws hb h1 hl hc
  · exact sline_tick b ws hb h1 hl hc
  · exact sline_plan b ws hb h1 hl hc
  · exact sline_sure b ws hb h1 hl hc
  · exact sline_none b ws hb h1 hl hc
end Go.Proofs.YtlmdbeegmgfpnaaGreatDoor.AM
