/- FnTop, part 2 of 3: what the law's functions come to, plain laws on it, and the row; no condition -/
import Derived.Test.YtmppoajepbbmiaaGreatYFTop1
/- StripFits, the program's and the reference's; condition: the ticks are of 64 bits. -/
namespace Go.Proofs.YtmppoajepbbmiaaGreat.AM
open Go.AM Go.RowKit
set_option linter.unusedVariables false
set_option linter.unusedSimpArgs false
set_option maxRecDepth 100000

theorem fits_ok (l : List Mv) (t : List Int) (hw : TkWf t) : Ok P 62 [.one (.lst .mv l false), .one (.lst (.int .i64) t false)] [] (.one (.bool (decide (Fits l t)))) [] := by
  refine Ok.of_run (F := mk Tryz.f62 0) Tryz.func62 rfl rfl tabOk mixed rfl rfl rfl rfl rfl (Nat.le_of_ble_eq_true rfl) (Nat.le_of_ble_eq_true rfl) (.go 5000 ?_)
  have outer : MovesOk l → t.length = l.length → ∀ (d i : Nat) (z : Int), z = i → i + d = l.length → (∀ j, j < i → FitsAt l t j) → Run P (mk Tryz.f62 0) (fun v st => v = .one (.bool (decide (Fits l t))) ∧ st = []) (.loop ⟨[(0, .one (.lst .mv l false)), (1, .one (.lst (.int .i64) t false)), (19, .one (.lst .mv l false)), (20, .one (.int .i64 (l.length : Int))), (21, .one (.int .i64 z))], [], [.lp [0, 1, 0, 1, 1], .blk 0, .code [1, 1, 1]], none⟩) := by
    intro hm hlen d
    have h6 := hm.1
    induction d with
    | zero =>
      intro i z hz hd hall
      subst hz
      refine Run.loop ?_
      repeat' (conv => arg 4; whnf); first | refine Run.ret ⟨?_, rfl⟩ | refine Run.condT ?_ | refine Run.condf ?_ | refine Run.condD (fun h => ?_) (fun h => ?_) | refine Run.condN (fun h => ?_) (fun h => ?_) | refine Run.condE (fun h => ?_) (fun h => ?_) | refine Run.condF (fun h => ?_) (fun h => ?_) | refine Run.condM (fun h => ?_) (fun h => ?_) | refine Run.condB (fun h => ?_) (fun h => ?_) | refine Run.check1 ?_ | (exfalso; omega)
      all_goals first
        | (exfalso; omega)
        | exact fits_yes ⟨hm, hlen, fun j hj => hall j (by omega)⟩
    | succ d ih =>
      intro i z hz hd hall
      subst hz
      have e : wrap64 ((i : Int) + 1) = ((i + 1 : Nat) : Int) := wrap_eq (by omega) (by omega)
      have no : ¬ FitsAt l t i → V.one (A.bool false) = V.one (A.bool (decide (Fits l t))) := fun h => fits_no fun k => h (k.2.2 i (by omega))
      have inner : InR l t i → ∀ (c k : Nat) (z : Int), z = k → k + c = l.length → (∀ j, j < k → j ≠ i → Ap l t i j) → Run P (mk Tryz.f62 0) (fun v st => v = .one (.bool (decide (Fits l t))) ∧ st = []) (.loop ⟨[(0, .one (.lst .mv l false)), (1, .one (.lst (.int .i64) t false)), (5, .one (.int .i64 (i : Int))), (6, .one (.ptr (.t 6 0) 0)), (19, .one (.lst .mv l false)), (20, .one (.int .i64 (l.length : Int))), (21, .one (.int .i64 (i : Int))), (50, .one (.lst .mv l false)), (51, .one (.int .i64 (l.length : Int))), (52, .one (.int .i64 z))], [(.t 6 0, some (.cells (encMv (rdM l i))))], [.lp [0, 1, 1, 1, 0, 0, 1, 1, 0, 0, 1, 0, 1, 1], .blk 2, .blk 1, .code [1, 1, 1, 0, 0, 1, 0, 1, 1], .lp [0, 1, 0, 1, 1], .blk 0, .code [1, 1, 1]], none⟩) := by
        intro hin c
        have hr := inR_range hm (by omega) hin
        induction c with
        | zero =>
          intro k z hz hc hap
          subst hz
          refine Run.loop ?_
          repeat' (conv => arg 4; whnf); first | refine Run.ret ⟨?_, rfl⟩ | refine Run.condT ?_ | refine Run.condf ?_ | refine Run.condD (fun h => ?_) (fun h => ?_) | refine Run.condN (fun h => ?_) (fun h => ?_) | refine Run.condE (fun h => ?_) (fun h => ?_) | refine Run.condF (fun h => ?_) (fun h => ?_) | refine Run.condM (fun h => ?_) (fun h => ?_) | refine Run.condB (fun h => ?_) (fun h => ?_) | refine Run.check1 ?_ | (exfalso; omega) | refine Run.round ⟨[], [], []⟩ (ih (i + 1) _ e (by omega) ?_) rfl (by (repeat' (first | exact wkEnv_nil | refine wkEnv_cons rfl ?_ | exact wkSto_nil | refine wkSto_none ?_ | refine wkSto_some rfl ?_)); done) (by (repeat' (first | exact wkEnv_nil | refine wkEnv_cons rfl ?_ | exact wkSto_nil | refine wkSto_none ?_ | refine wkSto_some rfl ?_)); done)
          all_goals first
            | (exfalso; omega)
            | (intro j hj; rcases Nat.lt_or_ge j i with h1 | h1
               · exact hall j h1
               · obtain rfl : j = i := by omega
                 exact ⟨hin, fun q hq => hap q (by omega)⟩)
        | succ c ihc =>
          intro k z hz hc hap
          subst hz
          have e2 : wrap64 ((k : Int) + 1) = ((k + 1 : Nat) : Int) := wrap_eq (by omega) (by omega)
          have hA : Ap l t i k ↔ (rd t i ≠ rd t k ∧ (rd t i < rd t k → gap (rdM l i) (rdM l k) ≤ wrap64 (rd t k - rd t i))) := by
            have hk := hw k (by omega)
            unfold W64 at hk
            simp only [rdM_nat, rd_nat, Ap]
            refine and_congr_right fun _ => imp_congr_right fun h => ?_
            rw [wrap_eq (by omega) (by omega)]
          refine Run.loop ?_
          repeat' (conv => arg 4; whnf); first | refine Run.ret ⟨?_, rfl⟩ | refine Run.condT ?_ | refine Run.condf ?_ | refine Run.condD (fun h => ?_) (fun h => ?_) | refine Run.condN (fun h => ?_) (fun h => ?_) | refine Run.condE (fun h => ?_) (fun h => ?_) | refine Run.condF (fun h => ?_) (fun h => ?_) | refine Run.condM (fun h => ?_) (fun h => ?_) | refine Run.condB (fun h => ?_) (fun h => ?_) | refine Run.check1 ?_ | refine Run.call (gap_ok _ _) rfl ?_ | refine Run.need1 (by simp only [allP, true_and, and_true]; omega) ?_ | refine Run.round ⟨[(.t 6 0, .t 6 0)], [], []⟩ (ihc (k + 1) _ e2 (by omega) ?_) rfl (by (repeat' (first | exact wkEnv_nil | refine wkEnv_cons rfl ?_ | exact wkSto_nil | refine wkSto_none ?_ | refine wkSto_some rfl ?_)); done) (by (repeat' (first | exact wkEnv_nil | refine wkEnv_cons rfl ?_ | exact wkSto_nil | refine wkSto_none ?_ | refine wkSto_some rfl ?_)); done) | (exfalso; omega)
          all_goals first
            | (exfalso; omega)
            | (refine no fun q => ?_; have a := hA.1 (q.2 k (by omega) (by omega)); omega)
            | (intro j hj hne; rcases Nat.lt_or_ge j k with h1 | h1
               · exact hap j h1 hne
               · obtain rfl : j = k := by omega
                 exact hA.2 (by omega))
            | (intro j hj hne; exact hap j (by omega) hne)
            | trace_state
      have hI : InR l t i ↔ (((rdM l i).f3 ≤ rd t i ∧ rd t i ≤ (rdM l i).f4) ∧ (0 ≤ (rdM l i).f5 → rd t i = (rdM l i).f5)) := by
        simp only [rdM_nat, rd_nat, InR]
      refine Run.loop ?_
      repeat' (conv => arg 4; whnf); first | refine Run.ret ⟨?_, rfl⟩ | refine Run.condT ?_ | refine Run.condf ?_ | refine Run.condD (fun h => ?_) (fun h => ?_) | refine Run.condN (fun h => ?_) (fun h => ?_) | refine Run.condE (fun h => ?_) (fun h => ?_) | refine Run.condF (fun h => ?_) (fun h => ?_) | refine Run.condM (fun h => ?_) (fun h => ?_) | refine Run.condB (fun h => ?_) (fun h => ?_) | refine Run.check1 ?_ | refine Run.call (in_ok _ _ _) rfl ?_ | refine Run.need1 (by simp only [allP, true_and, and_true]; omega) ?_ | refine Run.round ⟨[(.t 6 0, .t 6 0)], [], []⟩ (inner ?_ l.length 0 _ rfl ?_ ?_) rfl (by (repeat' (first | exact wkEnv_nil | refine wkEnv_cons rfl ?_ | exact wkSto_nil | refine wkSto_none ?_ | refine wkSto_some rfl ?_)); done) (by (repeat' (first | exact wkEnv_nil | refine wkEnv_cons rfl ?_ | exact wkSto_nil | refine wkSto_none ?_ | refine wkSto_some rfl ?_)); done) | (exfalso; omega)
      all_goals first
        | (exfalso; omega)
        | omega
        | (refine no fun q => ?_; have a := hI.1 q.1; omega)
        | exact hI.2 (by omega)
        | trace_state
  repeat' (conv => arg 4; whnf); first | refine Run.ret ⟨?_, rfl⟩ | refine Run.condT ?_ | refine Run.condf ?_ | refine Run.condD (fun h => ?_) (fun h => ?_) | refine Run.condN (fun h => ?_) (fun h => ?_) | refine Run.condE (fun h => ?_) (fun h => ?_) | refine Run.condF (fun h => ?_) (fun h => ?_) | refine Run.condM (fun h => ?_) (fun h => ?_) | refine Run.condB (fun h => ?_) (fun h => ?_) | refine Run.check1 ?_ | refine Run.call (movesOk_ok _) rfl ?_ | refine Run.round ⟨[], [], []⟩ (outer ?_ ?_ l.length 0 _ rfl ?_ ?_) rfl (by (repeat' (first | exact wkEnv_nil | refine wkEnv_cons rfl ?_ | exact wkSto_nil | refine wkSto_none ?_ | refine wkSto_some rfl ?_)); done) (by (repeat' (first | exact wkEnv_nil | refine wkEnv_cons rfl ?_ | exact wkSto_nil | refine wkSto_none ?_ | refine wkSto_some rfl ?_)); done)
  all_goals first
    | omega
    | assumption
    | (refine fits_no fun k => ?_; have := k.1; have := k.2.1; simp_all; done)
    | trace_state
end Go.Proofs.YtmppoajepbbmiaaGreat.AM

/- StripFits of the reference, StripCost without the reference's; condition: the ticks are of 64 bits. -/
namespace Go.Proofs.YtmppoajepbbmiaaGreat.AM
open Go.AM Go.RowKit
set_option linter.unusedVariables false
set_option linter.unusedSimpArgs false
set_option maxRecDepth 100000

theorem sapart_ok (a : Mv) (s : Int) (b : Mv) (t : Int) (hs : 0 ≤ s ∧ s ≤ 10000) (ht : 0 ≤ t ∧ t ≤ 10000) : Ok P 126 [.agg (encMv a), .one (.int .i64 s), .agg (encMv b), .one (.int .i64 t)] [] (.one (.bool (decide (ap2 a s b t)))) [] := by
  refine Ok.of_run (F := mk Tryz.f126 0) Tryz.func126 rfl rfl tabOk mixed rfl rfl rfl rfl rfl (Nat.le_of_ble_eq_true rfl) (Nat.le_of_ble_eq_true rfl) (.go 5000 ?_)
  have e1 : wrap64 (s - t) = s - t := wrap_eq (by omega) (by omega)
  have e2 : wrap64 (t - s) = t - s := wrap_eq (by omega) (by omega)
  repeat' (conv => arg 4; whnf); first | refine Run.ret ⟨?_, rfl⟩ | refine Run.condT ?_ | refine Run.condf ?_ | refine Run.condD (fun h => ?_) (fun h => ?_) | refine Run.condN (fun h => ?_) (fun h => ?_) | refine Run.condE (fun h => ?_) (fun h => ?_) | refine Run.condF (fun h => ?_) (fun h => ?_) | refine Run.condM (fun h => ?_) (fun h => ?_) | refine Run.condB (fun h => ?_) (fun h => ?_) | refine Run.check1 ?_ | refine Run.call (sgap_ok _ _) rfl ?_
  all_goals (refine vb ?_; rw [decide_eq_true_eq (p := ap2 _ _ _ _)]; unfold ap2; simp only [decide_eq_true_eq, e1, e2, Bool.false_eq_true, false_iff]; omega)
theorem sfits_ok (l : List Mv) (t : List Int) (hw : TkWf t) : Ok P 89 [.one (.lst .mv l false), .one (.lst (.int .i64) t false)] [] (.one (.bool (decide (Fits l t)))) [] := by
  refine Ok.of_run (F := mk Tryz.f89 0) Tryz.func89 rfl rfl tabOk mixed rfl rfl rfl rfl rfl (Nat.le_of_ble_eq_true rfl) (Nat.le_of_ble_eq_true rfl) (.go 5000 ?_)
  have outer : MovesOk l → t.length = l.length → ∀ (d i : Nat) (z : Int), z = i → i + d = l.length → (∀ j, j < i → FitsSp l t j) → Run P (mk Tryz.f89 0) (fun v st => v = .one (.bool (decide (Fits l t))) ∧ st = []) (.loop ⟨[(0, .one (.lst .mv l false)), (1, .one (.lst (.int .i64) t false)), (5, .one (.int .i64 z))], [], [.lp [0, 1, 0, 1, 1], .blk 0, .code [1, 1, 1]], none⟩) := by
    intro hm hlen d
    have h6 := hm.1
    induction d with
    | zero =>
      intro i z hz hd hall
      subst hz
      refine Run.loop ?_
      repeat' (conv => arg 4; whnf); first | refine Run.ret ⟨?_, rfl⟩ | refine Run.condT ?_ | refine Run.condf ?_ | refine Run.condD (fun h => ?_) (fun h => ?_) | refine Run.condN (fun h => ?_) (fun h => ?_) | refine Run.condE (fun h => ?_) (fun h => ?_) | refine Run.condF (fun h => ?_) (fun h => ?_) | refine Run.condM (fun h => ?_) (fun h => ?_) | refine Run.condB (fun h => ?_) (fun h => ?_) | refine Run.check1 ?_ | (exfalso; omega)
      all_goals first
        | (exfalso; omega)
        | exact fits_yes ⟨hm, hlen, (fitsSp_iff l t).1 fun j hj => hall j (by omega)⟩
    | succ d ih =>
      intro i z hz hd hall
      subst hz
      have e : wrap64 ((i : Int) + 1) = ((i + 1 : Nat) : Int) := wrap_eq (by omega) (by omega)
      have no : ¬ FitsSp l t i → V.one (A.bool false) = V.one (A.bool (decide (Fits l t))) := fun h => fits_no fun k => h ((fitsSp_iff l t).2 k.2.2 i (by omega))
      have inner : InR l t i → ∀ (c k : Nat) (z : Int), z = k → k + c = i → (∀ j, j < k → Ap l t j i ∧ Ap l t i j) → Run P (mk Tryz.f89 0) (fun v st => v = .one (.bool (decide (Fits l t))) ∧ st = []) (.loop ⟨[(0, .one (.lst .mv l false)), (1, .one (.lst (.int .i64) t false)), (5, .one (.int .i64 (i : Int))), (6, .one (.int .i64 z))], [], [.lp [0, 1, 1, 0, 0, 1, 0, 0, 1, 0, 1, 1], .blk 2, .blk 1, .code [1, 1, 0, 0, 1, 0, 1, 1], .lp [0, 1, 0, 1, 1], .blk 0, .code [1, 1, 1]], none⟩) := by
        intro hin c
        have hr := inR_range hm (by omega) hin
        induction c with
        | zero =>
          intro k z hz hc hap
          subst hz
          refine Run.loop ?_
          repeat' (conv => arg 4; whnf); first | refine Run.ret ⟨?_, rfl⟩ | refine Run.condT ?_ | refine Run.condf ?_ | refine Run.condD (fun h => ?_) (fun h => ?_) | refine Run.condN (fun h => ?_) (fun h => ?_) | refine Run.condE (fun h => ?_) (fun h => ?_) | refine Run.condF (fun h => ?_) (fun h => ?_) | refine Run.condM (fun h => ?_) (fun h => ?_) | refine Run.condB (fun h => ?_) (fun h => ?_) | refine Run.check1 ?_ | (exfalso; omega) | refine Run.round ⟨[], [], []⟩ (ih (i + 1) _ e (by omega) ?_) rfl (by (repeat' (first | exact wkEnv_nil | refine wkEnv_cons rfl ?_ | exact wkSto_nil | refine wkSto_none ?_ | refine wkSto_some rfl ?_)); done) (by (repeat' (first | exact wkEnv_nil | refine wkEnv_cons rfl ?_ | exact wkSto_nil | refine wkSto_none ?_ | refine wkSto_some rfl ?_)); done)
          all_goals first
            | (exfalso; omega)
            | (intro j hj; rcases Nat.lt_or_ge j i with h1 | h1
               · exact hall j h1
               · obtain rfl : j = i := by omega
                 exact ⟨hin, fun q hq => hap q (by omega)⟩)
        | succ c ihc =>
          intro k z hz hc hap
          subst hz
          have e2 : wrap64 ((k : Int) + 1) = ((k + 1 : Nat) : Int) := wrap_eq (by omega) (by omega)
          have hA : ap2 (rdM l k) (rd t k) (rdM l i) (rd t i) ↔ Ap l t k i ∧ Ap l t i k := by
            simp only [rdM_nat, rd_nat, Ap, ap2]
            omega
          have hrk := inR_range hm (i := k) (by omega) (hall k (by omega)).1
          refine Run.loop ?_
          repeat' (conv => arg 4; whnf); first | refine Run.ret ⟨?_, rfl⟩ | refine Run.condT ?_ | refine Run.condf ?_ | refine Run.condD (fun h => ?_) (fun h => ?_) | refine Run.condN (fun h => ?_) (fun h => ?_) | refine Run.condE (fun h => ?_) (fun h => ?_) | refine Run.condF (fun h => ?_) (fun h => ?_) | refine Run.condM (fun h => ?_) (fun h => ?_) | refine Run.condB (fun h => ?_) (fun h => ?_) | refine Run.check1 ?_ | refine Run.call (sapart_ok _ _ _ _ (by rw [rd_nat]; exact hrk) (by rw [rd_nat]; exact hr)) rfl ?_ | refine Run.need1 (by simp only [allP, true_and, and_true]; omega) ?_ | refine Run.round ⟨[], [], []⟩ (ihc (k + 1) _ e2 (by omega) ?_) rfl (by (repeat' (first | exact wkEnv_nil | refine wkEnv_cons rfl ?_ | exact wkSto_nil | refine wkSto_none ?_ | refine wkSto_some rfl ?_)); done) (by (repeat' (first | exact wkEnv_nil | refine wkEnv_cons rfl ?_ | exact wkSto_nil | refine wkSto_none ?_ | refine wkSto_some rfl ?_)); done) | (exfalso; omega)
          all_goals first
            | (exfalso; omega)
            | (refine no fun q => ?_; exact absurd (hA.2 (q.2 k (by omega))) ‹_›)
            | (intro j hj; rcases Nat.lt_or_ge j k with h1 | h1
               · exact hap j h1
               · obtain rfl : j = k := by omega
                 exact hA.1 ‹_›)
            | trace_state
      have hI : InR l t i ↔ (((rdM l i).f3 ≤ rd t i ∧ rd t i ≤ (rdM l i).f4) ∧ (0 ≤ (rdM l i).f5 → rd t i = (rdM l i).f5)) := by
        simp only [rdM_nat, rd_nat, InR]
      refine Run.loop ?_
      repeat' (conv => arg 4; whnf); first | refine Run.ret ⟨?_, rfl⟩ | refine Run.condT ?_ | refine Run.condf ?_ | refine Run.condD (fun h => ?_) (fun h => ?_) | refine Run.condN (fun h => ?_) (fun h => ?_) | refine Run.condE (fun h => ?_) (fun h => ?_) | refine Run.condF (fun h => ?_) (fun h => ?_) | refine Run.condM (fun h => ?_) (fun h => ?_) | refine Run.condB (fun h => ?_) (fun h => ?_) | refine Run.check1 ?_ | refine Run.call (sin_ok _ _ _) rfl ?_ | refine Run.need1 (by simp only [allP, true_and, and_true]; omega) ?_ | refine Run.round ⟨[], [], []⟩ (inner ?_ i 0 _ rfl ?_ ?_) rfl (by (repeat' (first | exact wkEnv_nil | refine wkEnv_cons rfl ?_ | exact wkSto_nil | refine wkSto_none ?_ | refine wkSto_some rfl ?_)); done) (by (repeat' (first | exact wkEnv_nil | refine wkEnv_cons rfl ?_ | exact wkSto_nil | refine wkSto_none ?_ | refine wkSto_some rfl ?_)); done) | (exfalso; omega)
      all_goals first
        | (exfalso; omega)
        | omega
        | (refine no fun q => ?_; have a := hI.1 q.1; omega)
        | exact hI.2 (by omega)
        | trace_state
  repeat' (conv => arg 4; whnf); first | refine Run.ret ⟨?_, rfl⟩ | refine Run.condT ?_ | refine Run.condf ?_ | refine Run.condD (fun h => ?_) (fun h => ?_) | refine Run.condN (fun h => ?_) (fun h => ?_) | refine Run.condE (fun h => ?_) (fun h => ?_) | refine Run.condF (fun h => ?_) (fun h => ?_) | refine Run.condM (fun h => ?_) (fun h => ?_) | refine Run.condB (fun h => ?_) (fun h => ?_) | refine Run.check1 ?_ | refine Run.call (smovesOk_ok _) rfl ?_ | refine Run.round ⟨[], [], []⟩ (outer ?_ ?_ l.length 0 _ rfl ?_ ?_) rfl (by (repeat' (first | exact wkEnv_nil | refine wkEnv_cons rfl ?_ | exact wkSto_nil | refine wkSto_none ?_ | refine wkSto_some rfl ?_)); done) (by (repeat' (first | exact wkEnv_nil | refine wkEnv_cons rfl ?_ | exact wkSto_nil | refine wkSto_none ?_ | refine wkSto_some rfl ?_)); done)
  all_goals first
    | omega
    | assumption
    | (refine fits_no fun k => ?_; have := k.1; have := k.2.1; simp_all; done)
    | trace_state
theorem scost2_ok (l : List Mv) (t : List Int) (h : DlOk l t) : Ok P 149 [.one (.lst .mv l false), .one (.lst (.int .i64) t false)] [] (.tup [.one (.int .i64 (costM l t).1), .one (.int .i64 (costM l t).2)]) [] := by
  refine Ok.of_run (F := mk Tryz.f149 0) Tryz.func149 rfl rfl tabOk mixed rfl rfl rfl rfl rfl (Nat.le_of_ble_eq_true rfl) (Nat.le_of_ble_eq_true rfl) (.go 5000 ?_)
  obtain ⟨hlen, h6, hd⟩ := h
  have loop : ∀ (d i : Nat) (z s m : Int), z = i → i + d = l.length → CInv i (s, m) → foldFrom (cStep l t) i d (s, m) = costM l t → Run P (mk Tryz.f149 0) (fun v st => v = .tup [.one (.int .i64 (costM l t).1), .one (.int .i64 (costM l t).2)] ∧ st = []) (.loop ⟨[(0, .one (.lst .mv l false)), (1, .one (.lst (.int .i64) t false)), (6, .one (.int .i64 s)), (7, .one (.int .i64 m)), (8, .one (.int .i64 z))], [], [.lp [0, 1, 0, 1, 1, 1], .blk 0, .code [1, 1, 1, 1]], none⟩) := by
    intro d
    induction d with
    | zero =>
      intro i z s m hz hi hc he
      subst hz
      refine Run.loop ?_
      repeat' (conv => arg 4; whnf); first | refine Run.ret ⟨?_, rfl⟩ | refine Run.condT ?_ | refine Run.condf ?_ | refine Run.condD (fun h => ?_) (fun h => ?_) | refine Run.condN (fun h => ?_) (fun h => ?_) | refine Run.condE (fun h => ?_) (fun h => ?_) | refine Run.condF (fun h => ?_) (fun h => ?_) | refine Run.condM (fun h => ?_) (fun h => ?_) | refine Run.condB (fun h => ?_) (fun h => ?_) | refine Run.check1 ?_ | (exfalso; omega)
      all_goals first
        | (exfalso; omega)
        | (rw [← he]; rfl)
    | succ d ih =>
      intro i z s m hz hi hc he
      subst hz
      have e : wrap64 ((i : Int) + 1) = ((i + 1 : Nat) : Int) := wrap_eq (by omega) (by omega)
      have hdi := hd i (by omega)
      have hc' := cInv_step hdi hc
      have ed : wrap64 (rd t i - (rdM l i).f3) = dl l t i := by simp only [rd_nat, rdM_nat]; exact wrap_eq (by unfold dl at hdi; omega) (by unfold dl at hdi; omega)
      have es : wrap64 (s + dl l t i) = s + dl l t i := by unfold CInv at hc; exact wrap_eq (by omega) (by omega)
      refine Run.loop ?_
      repeat' (conv => arg 4; whnf); first | refine Run.ret ⟨?_, rfl⟩ | refine Run.condT ?_ | refine Run.condf ?_ | refine Run.condD (fun h => ?_) (fun h => ?_) | refine Run.condN (fun h => ?_) (fun h => ?_) | refine Run.condE (fun h => ?_) (fun h => ?_) | refine Run.condF (fun h => ?_) (fun h => ?_) | refine Run.condM (fun h => ?_) (fun h => ?_) | refine Run.condB (fun h => ?_) (fun h => ?_) | refine Run.check1 ?_ | refine Run.need1 (by simp only [allP, true_and, and_true]; omega) ?_ | refine Run.round ⟨[], [], []⟩ (ih (i + 1) _ _ _ e (by omega) ?_ ?_) rfl (by (repeat' (first | exact wkEnv_nil | refine wkEnv_cons rfl ?_ | exact wkSto_nil | refine wkSto_none ?_ | refine wkSto_some rfl ?_)); done) (by (repeat' (first | exact wkEnv_nil | refine wkEnv_cons rfl ?_ | exact wkSto_nil | refine wkSto_none ?_ | refine wkSto_some rfl ?_)); done) | (exfalso; omega)
      all_goals first
        | (exfalso; omega)
        | (simp only [ed, es] at *
           have em : max m (dl l t i) = dl l t i := by omega
           simp only [foldFrom, cStep, em] at hc' he
           first | exact hc' | exact he)
        | (simp only [ed, es] at *
           have em : max m (dl l t i) = m := by omega
           simp only [foldFrom, cStep, em] at hc' he
           first | exact hc' | exact he)
        | (simp only [ed, es] at *
           simp only [foldFrom, cStep] at hc' he
           first | exact hc' | exact he)
        | trace_state
  repeat' (conv => arg 4; whnf); first | refine Run.ret ⟨?_, rfl⟩ | refine Run.condT ?_ | refine Run.condf ?_ | refine Run.condD (fun h => ?_) (fun h => ?_) | refine Run.condN (fun h => ?_) (fun h => ?_) | refine Run.condE (fun h => ?_) (fun h => ?_) | refine Run.condF (fun h => ?_) (fun h => ?_) | refine Run.condM (fun h => ?_) (fun h => ?_) | refine Run.condB (fun h => ?_) (fun h => ?_) | refine Run.check1 ?_ | refine Run.round ⟨[], [], []⟩ (loop l.length 0 _ _ _ rfl ?_ ?_ ?_) rfl (by (repeat' (first | exact wkEnv_nil | refine wkEnv_cons rfl ?_ | exact wkSto_nil | refine wkSto_none ?_ | refine wkSto_some rfl ?_)); done) (by (repeat' (first | exact wkEnv_nil | refine wkEnv_cons rfl ?_ | exact wkSto_nil | refine wkSto_none ?_ | refine wkSto_some rfl ?_)); done)
  all_goals first | omega | rfl | (unfold CInv; simp) | trace_state
end Go.Proofs.YtmppoajepbbmiaaGreat.AM

/- All orders, the best of the reference; condition: a move list. -/
namespace Go.Proofs.YtmppoajepbbmiaaGreat.AM
open Go.AM Go.RowKit
set_option linter.unusedVariables false
set_option linter.unusedSimpArgs false
set_option maxRecDepth 100000

def rowF (f : Nat) (o : List Int) : List Int := (f : Int) :: o.map (bump f)
def upAll (n f : Nat) : List (List Int) := (List.range f).flatMap fun f => (allM n).map (rowF f)
theorem upAll_succ (n f : Nat) : upAll n (f + 1) = upAll n f ++ (allM n).map (rowF f) := by
  unfold upAll
  rw [List.range_succ, List.flatMap_append]
  simp
theorem upAll_len (n : Nat) : ∀ f, (upAll n f).length = f * (allM n).length
  | 0 => by simp [upAll]
  | f + 1 => by rw [upAll_succ, List.length_append, upAll_len n f, List.length_map, Nat.succ_mul]
theorem allM_len : ∀ n, n ≤ 6 → (allM n).length ≤ 720 := by decide +kernel
theorem alls_ok : ∀ (n : Nat), n ≤ 6 → Ok P 128 [.one (.int .i64 n)] [] (.one (.own (.k 0))) [some (.row .ints (allM n))] := by
  intro n
  induction n with
  | zero =>
    intro _
    refine Ok.of_run (F := mk Tryz.f128 0) Tryz.func128 rfl rfl tabOk mixed rfl rfl rfl rfl rfl (Nat.le_of_ble_eq_true rfl) (Nat.le_of_ble_eq_true rfl) (.go 5000 ?_)
    repeat' (conv => arg 4; whnf); first | refine Run.ret ⟨?_, rfl⟩ | refine Run.condT ?_ | refine Run.condf ?_ | refine Run.condD (fun h => ?_) (fun h => ?_) | refine Run.condN (fun h => ?_) (fun h => ?_) | refine Run.condE (fun h => ?_) (fun h => ?_) | refine Run.condF (fun h => ?_) (fun h => ?_) | refine Run.condM (fun h => ?_) (fun h => ?_) | refine Run.condB (fun h => ?_) (fun h => ?_) | refine Run.check1 ?_ | (exfalso; omega)
    all_goals rfl
  | succ n ihn =>
    intro hn
    have hl := ihn (by omega)
    have hlen := allM_len n (by omega)
    have e := wrap_eq (x := ((n + 1 : Nat) : Int) - 1) (by omega) (by omega)
    rw [show (n : Int) = wrap64 (((n + 1 : Nat) : Int) - 1) by rw [e]; omega] at hl
    refine Ok.of_run (F := mk Tryz.f128 0) Tryz.func128 rfl rfl tabOk mixed rfl rfl rfl rfl rfl (Nat.le_of_ble_eq_true rfl) (Nat.le_of_ble_eq_true rfl) (.go 5000 ?_)
    have loop : ∀ (d f : Nat) (z : Int), z = f → f + d = n + 1 → Run P (mk Tryz.f128 0) (fun v s => v = .one (.own (.k 0)) ∧ s = [some (.row .ints (allM (n + 1)))]) (.loop ⟨[(0, .one (.int .i64 ((n + 1 : Nat) : Int))), (3, .one (.own (.t 1000 0))), (4, .one (.lst .ints (allM n) false)), (5, .one (.int .i64 z))], [(.t 1000 0, some (.row .ints (upAll n f)))], [.lp [0, 1, 0, 1, 1, 1, 1], .blk 0, .code [1, 1, 1, 1, 1]], none⟩) := by
      intro d
      induction d with
      | zero =>
        intro f z hz hd
        subst hz
        obtain rfl : f = n + 1 := by omega
        refine Run.loop ?_
        repeat' (conv => arg 4; whnf); first | refine Run.ret ⟨?_, rfl⟩ | refine Run.condT ?_ | refine Run.condf ?_ | refine Run.condD (fun h => ?_) (fun h => ?_) | refine Run.condN (fun h => ?_) (fun h => ?_) | refine Run.condE (fun h => ?_) (fun h => ?_) | refine Run.condF (fun h => ?_) (fun h => ?_) | refine Run.condM (fun h => ?_) (fun h => ?_) | refine Run.condB (fun h => ?_) (fun h => ?_) | refine Run.check1 ?_ | (exfalso; omega)
        all_goals first | rfl | trace_state
      | succ d ih =>
        intro f z hz hd
        subst hz
        have ef := fs (i := f) (by omega)
        have loop1 : ∀ (c i : Nat) (z : Int), z = i → i + c = (allM n).length → Run P (mk Tryz.f128 0) (fun v s => v = .one (.own (.k 0)) ∧ s = [some (.row .ints (allM (n + 1)))]) (.loop ⟨[(0, .one (.int .i64 ((n + 1 : Nat) : Int))), (3, .one (.own (.t 1000 0))), (4, .one (.lst .ints (allM n) false)), (5, .one (.int .i64 (f : Int))), (6, .one (.int .i64 z))], [(.t 1000 0, some (.row .ints (upAll n f ++ ((allM n).take i).map (rowF f))))], [.lp [0, 1, 0, 0, 1, 0, 0, 1, 0, 1, 1, 1, 1], .blk 2, .blk 1, .code [1, 1, 0, 0, 1, 0, 1, 1, 1, 1], .lp [0, 1, 0, 1, 1, 1, 1], .blk 0, .code [1, 1, 1, 1, 1]], none⟩) := by
          intro c
          induction c with
          | zero =>
            intro i z hz hc
            subst hz
            obtain rfl : i = (allM n).length := by omega
            rw [List.take_length, ← upAll_succ]
            refine Run.loop ?_
            repeat' (conv => arg 4; whnf); first | refine Run.ret ⟨?_, rfl⟩ | refine Run.condT ?_ | refine Run.condf ?_ | refine Run.condD (fun h => ?_) (fun h => ?_) | refine Run.condN (fun h => ?_) (fun h => ?_) | refine Run.condE (fun h => ?_) (fun h => ?_) | refine Run.condF (fun h => ?_) (fun h => ?_) | refine Run.condM (fun h => ?_) (fun h => ?_) | refine Run.condB (fun h => ?_) (fun h => ?_) | refine Run.check1 ?_ | (exfalso; omega) | refine Run.round ⟨[(.t 1000 0, .t 1000 0)], [], []⟩ (ih (f + 1) _ ef.h (by omega)) rfl (by (repeat' (first | exact wkEnv_nil | refine wkEnv_cons rfl ?_ | exact wkSto_nil | refine wkSto_none ?_ | refine wkSto_some rfl ?_)); done) (by (repeat' (first | exact wkEnv_nil | refine wkEnv_cons rfl ?_ | exact wkSto_nil | refine wkSto_none ?_ | refine wkSto_some rfl ?_)); done)
            all_goals first | rfl | trace_state
          | succ c ih1 =>
            intro i z hz hc
            subst hz
            have ei := fs (i := i) (by omega)
            have hup : (upAll n f ++ ((allM n).take i).map (rowF f)).length ≤ 10000 := by
              rw [List.length_append, upAll_len, List.length_map, List.length_take]
              have := Nat.mul_le_mul (show f ≤ 6 by omega) hlen
              omega
            have hii : rdL (allM n) (i : Int) = (allM n).getD i [] := by unfold rdL; rw [Int.toNat_natCast]
            have hmi : rdL (allM n) (i : Int) ∈ allM n := by rw [hii, List.getD_eq_getElem?_getD, List.getElem?_eq_getElem (by omega)]; exact List.getElem_mem _
            obtain ⟨hrl, hro⟩ := allM_ord hmi
            have hnext : (upAll n f ++ ((allM n).take i).map (rowF f)) ++ [rowF f (rdL (allM n) (i : Int))] = upAll n f ++ ((allM n).take (i + 1)).map (rowF f) := by
              rw [List.append_assoc, hii, List.take_add_one, List.map_append]
              simp [List.getD_eq_getElem?_getD, List.getElem?_eq_getElem (show i < (allM n).length by omega)]
            have ihn1 := ih1 (i + 1) _ ei.h (by omega)
            rw [← hnext] at ihn1
            have loop2 : ∀ (b k : Nat) (z : Int), z = k → k + b = (rdL (allM n) (i : Int)).length → Run P (mk Tryz.f128 0) (fun v s => v = .one (.own (.k 0)) ∧ s = [some (.row .ints (allM (n + 1)))]) (.loop ⟨[(0, .one (.int .i64 ((n + 1 : Nat) : Int))), (3, .one (.own (.t 1000 0))), (4, .one (.lst .ints (allM n) false)), (5, .one (.int .i64 (f : Int))), (6, .one (.int .i64 (i : Int))), (7, .one (.own (.t 1001 0))), (8, .one (.int .i64 z))],
               [(.t 1000 0, some (.row .ints (upAll n f ++ ((allM n).take i).map (rowF f)))), (.t 1001 0, some (.row (.int .i64) (rowF f ((rdL (allM n) (i : Int)).take k))))], [.lp [0, 1, 0, 1, 0, 0, 1, 0, 0, 1, 0, 0, 1, 0, 0, 1, 0, 1, 1, 1, 1], .blk 4, .code [1, 1, 0, 0, 1, 0, 0, 1, 0, 0, 1, 0, 0, 1, 0, 1, 1, 1, 1], .blk 3, .code [1, 1, 0, 0, 1, 0, 0, 1, 0, 0, 1, 0, 1, 1, 1, 1], .lp [0, 1, 0, 0, 1, 0, 0, 1, 0, 1, 1, 1, 1], .blk 2, .blk 1, .code [1, 1, 0, 0, 1, 0, 1, 1, 1, 1], .lp [0, 1, 0, 1, 1, 1, 1], .blk 0, .code [1, 1, 1, 1, 1]], none⟩) := by
              intro b
              induction b with
              | zero =>
                intro k z hz hb
                subst hz
                obtain rfl : k = (rdL (allM n) (i : Int)).length := by omega
                rw [List.take_length]
                refine Run.round ⟨[(.t 1000 0, .t 1000 0)], [], [.t 1001 0]⟩ (env' := [(0, .one (.int .i64 ((n + 1 : Nat) : Int))), (3, .one (.own (.t 1000 0))), (4, .one (.lst .ints (allM n) false)), (5, .one (.int .i64 (f : Int))), (6, .one (.int .i64 (i : Int))), (7, .one (.lst (.int .i64) (rowF f (rdL (allM n) (i : Int))) false)), (8, .one (.int .i64 ((rdL (allM n) (i : Int)).length : Int)))])
                  (sto' := [(.t 1000 0, some (.row .ints (upAll n f ++ ((allM n).take i).map (rowF f))))]) (Run.loop ?_) rfl (by (repeat' (first | exact wkEnv_nil | refine wkEnv_cons rfl ?_ | exact wkSto_nil | refine wkSto_none ?_ | refine wkSto_some rfl ?_)); done) (by (repeat' (first | exact wkEnv_nil | refine wkEnv_cons rfl ?_ | exact wkSto_nil | refine wkSto_none ?_ | refine wkSto_some rfl ?_)); done)
                repeat' (conv => arg 4; whnf); first | refine Run.ret ⟨?_, rfl⟩ | refine Run.condT ?_ | refine Run.condf ?_ | refine Run.condD (fun h => ?_) (fun h => ?_) | refine Run.condN (fun h => ?_) (fun h => ?_) | refine Run.condE (fun h => ?_) (fun h => ?_) | refine Run.condF (fun h => ?_) (fun h => ?_) | refine Run.condM (fun h => ?_) (fun h => ?_) | refine Run.condB (fun h => ?_) (fun h => ?_) | refine Run.check1 ?_ | (exfalso; omega) | refine Run.need1 (by simp only [allP, true_and, and_true, List.length_cons, List.length_nil]; omega) ?_ | refine Run.round ⟨[(.t 59 0, .t 1000 0)], [], []⟩ (ihn1) rfl (by (repeat' (first | exact wkEnv_nil | refine wkEnv_cons rfl ?_ | exact wkSto_nil | refine wkSto_none ?_ | refine wkSto_some rfl ?_)); done) (by (repeat' (first | exact wkEnv_nil | refine wkEnv_cons rfl ?_ | exact wkSto_nil | refine wkSto_none ?_ | refine wkSto_some rfl ?_)); done)
                all_goals first | rfl | (exfalso; omega) | trace_state
              | succ b ih2 =>
                intro k z hz hb
                subst hz
                have ek := fs (i := k) (by omega)
                have hrk := hro k (by omega)
                have hrd : rd (rdL (allM n) (i : Int)) (k : Int) = (rdL (allM n) (i : Int)).getD k 0 := rd_nat _ _
                have hsn : ∀ x, x = bump f (rd (rdL (allM n) (i : Int)) (k : Int)) → rowF f ((rdL (allM n) (i : Int)).take k) ++ [x] = rowF f ((rdL (allM n) (i : Int)).take (k + 1)) := fun x hx => by
                  rw [hx, hrd]
                  unfold rowF
                  rw [List.take_add_one, List.map_append]
                  simp [List.getD_eq_getElem?_getD, List.getElem?_eq_getElem (show k < (rdL (allM n) (i : Int)).length by omega)]
                have hrw : (rowF f ((rdL (allM n) (i : Int)).take k)).length ≤ 10 := by simp [rowF]; omega
                by_cases hge : (f : Int) ≤ rd (rdL (allM n) (i : Int)) (k : Int)
                · have h2 := ih2 (k + 1) _ ek.h (by omega)
                  rw [← hsn (wrap64 (rd (rdL (allM n) (i : Int)) (k : Int) + 1)) (by rw [fw (by rw [hrd]; omega) |>.h]; unfold bump; rw [if_pos hge])] at h2
                  refine Run.loop ?_
                  repeat' (conv => arg 4; whnf); first | refine Run.ret ⟨?_, rfl⟩ | refine Run.condT ?_ | refine Run.condf ?_ | refine Run.condD (fun h => ?_) (fun h => ?_) | refine Run.condN (fun h => ?_) (fun h => ?_) | refine Run.condE (fun h => ?_) (fun h => ?_) | refine Run.condF (fun h => ?_) (fun h => ?_) | refine Run.condM (fun h => ?_) (fun h => ?_) | refine Run.condB (fun h => ?_) (fun h => ?_) | refine Run.check1 ?_ | (exfalso; omega) | refine Run.need1 (by simp only [allP, true_and, and_true]; omega) ?_ | refine Run.need1 (by simp only [allP, true_and, and_true, List.length_cons, List.length_nil]; omega) ?_ | refine Run.round ⟨[(.t 1000 0, .t 1000 0), (.t 55 0, .t 1001 0)], [], []⟩ (h2) rfl (by (repeat' (first | exact wkEnv_nil | refine wkEnv_cons rfl ?_ | exact wkSto_nil | refine wkSto_none ?_ | refine wkSto_some rfl ?_)); done) (by (repeat' (first | exact wkEnv_nil | refine wkEnv_cons rfl ?_ | exact wkSto_nil | refine wkSto_none ?_ | refine wkSto_some rfl ?_)); done)
                  all_goals first | rfl | (exfalso; omega) | trace_state
                · have h2 := ih2 (k + 1) _ ek.h (by omega)
                  rw [← hsn (rd (rdL (allM n) (i : Int)) (k : Int)) (by unfold bump; rw [if_neg hge])] at h2
                  refine Run.loop ?_
                  repeat' (conv => arg 4; whnf); first | refine Run.ret ⟨?_, rfl⟩ | refine Run.condT ?_ | refine Run.condf ?_ | refine Run.condD (fun h => ?_) (fun h => ?_) | refine Run.condN (fun h => ?_) (fun h => ?_) | refine Run.condE (fun h => ?_) (fun h => ?_) | refine Run.condF (fun h => ?_) (fun h => ?_) | refine Run.condM (fun h => ?_) (fun h => ?_) | refine Run.condB (fun h => ?_) (fun h => ?_) | refine Run.check1 ?_ | (exfalso; omega) | refine Run.need1 (by simp only [allP, true_and, and_true]; omega) ?_ | refine Run.need1 (by simp only [allP, true_and, and_true, List.length_cons, List.length_nil]; omega) ?_ | refine Run.round ⟨[(.t 1000 0, .t 1000 0), (.t 55 0, .t 1001 0)], [], []⟩ (h2) rfl (by (repeat' (first | exact wkEnv_nil | refine wkEnv_cons rfl ?_ | exact wkSto_nil | refine wkSto_none ?_ | refine wkSto_some rfl ?_)); done) (by (repeat' (first | exact wkEnv_nil | refine wkEnv_cons rfl ?_ | exact wkSto_nil | refine wkSto_none ?_ | refine wkSto_some rfl ?_)); done)
                  all_goals first | rfl | (exfalso; omega) | trace_state
            have hl2 := loop2 _ 0 _ rfl (Nat.zero_add _)
            rw [List.take_zero] at hl2
            refine Run.loop ?_
            repeat' (conv => arg 4; whnf); first | refine Run.ret ⟨?_, rfl⟩ | refine Run.condT ?_ | refine Run.condf ?_ | refine Run.condD (fun h => ?_) (fun h => ?_) | refine Run.condN (fun h => ?_) (fun h => ?_) | refine Run.condE (fun h => ?_) (fun h => ?_) | refine Run.condF (fun h => ?_) (fun h => ?_) | refine Run.condM (fun h => ?_) (fun h => ?_) | refine Run.condB (fun h => ?_) (fun h => ?_) | refine Run.check1 ?_ | (exfalso; omega) | refine Run.round ⟨[(.t 1000 0, .t 1000 0), (.t 30 0, .t 1001 0)], [], []⟩ (hl2) rfl (by (repeat' (first | exact wkEnv_nil | refine wkEnv_cons rfl ?_ | exact wkSto_nil | refine wkSto_none ?_ | refine wkSto_some rfl ?_)); done) (by (repeat' (first | exact wkEnv_nil | refine wkEnv_cons rfl ?_ | exact wkSto_nil | refine wkSto_none ?_ | refine wkSto_some rfl ?_)); done)
        refine Run.loop ?_
        have hl0 := loop1 (allM n).length 0 _ rfl (by omega)
        rw [List.take_zero, List.map_nil, List.append_nil] at hl0
        repeat' (conv => arg 4; whnf); first | refine Run.ret ⟨?_, rfl⟩ | refine Run.condT ?_ | refine Run.condf ?_ | refine Run.condD (fun h => ?_) (fun h => ?_) | refine Run.condN (fun h => ?_) (fun h => ?_) | refine Run.condE (fun h => ?_) (fun h => ?_) | refine Run.condF (fun h => ?_) (fun h => ?_) | refine Run.condM (fun h => ?_) (fun h => ?_) | refine Run.condB (fun h => ?_) (fun h => ?_) | refine Run.check1 ?_ | (exfalso; omega) | refine Run.round ⟨[(.t 1000 0, .t 1000 0)], [], []⟩ (hl0) rfl (by (repeat' (first | exact wkEnv_nil | refine wkEnv_cons rfl ?_ | exact wkSto_nil | refine wkSto_none ?_ | refine wkSto_some rfl ?_)); done) (by (repeat' (first | exact wkEnv_nil | refine wkEnv_cons rfl ?_ | exact wkSto_nil | refine wkSto_none ?_ | refine wkSto_some rfl ?_)); done)
        all_goals first | rfl | (exfalso; omega) | trace_state
    repeat' (conv => arg 4; whnf); first | refine Run.ret ⟨?_, rfl⟩ | refine Run.condT ?_ | refine Run.condf ?_ | refine Run.condD (fun h => ?_) (fun h => ?_) | refine Run.condN (fun h => ?_) (fun h => ?_) | refine Run.condE (fun h => ?_) (fun h => ?_) | refine Run.condF (fun h => ?_) (fun h => ?_) | refine Run.condM (fun h => ?_) (fun h => ?_) | refine Run.condB (fun h => ?_) (fun h => ?_) | refine Run.check1 ?_ | refine Run.call (hl) rfl ?_ | refine Run.round ⟨[(.t 14 0, .t 1000 0)], [], [.t 17 0]⟩ (loop (n + 1) 0 _ rfl (by omega)) rfl (by (repeat' (first | exact wkEnv_nil | refine wkEnv_cons rfl ?_ | exact wkSto_nil | refine wkSto_none ?_ | refine wkSto_some rfl ?_)); done) (by (repeat' (first | exact wkEnv_nil | refine wkEnv_cons rfl ?_ | exact wkSto_nil | refine wkSto_none ?_ | refine wkSto_some rfl ?_)); done) | (exfalso; omega)
    all_goals first | rfl | (exfalso; omega) | trace_state
theorem better_ok (l : List Mv) (a b : List Int) (ha : Fits l a) (hb : Fits l b) : Ok P 131 [.one (.lst .mv l false), .one (.lst (.int .i64) a false), .one (.lst (.int .i64) b false)] [] (.one (.bool (better l a b))) [] := by
  have h6 := ha.1.1
  have hal := ha.2.1
  have hbl := hb.2.1
  refine Ok.of_run (F := mk Tryz.f131 0) Tryz.func131 rfl rfl tabOk mixed rfl rfl rfl rfl rfl (Nat.le_of_ble_eq_true rfl) (Nat.le_of_ble_eq_true rfl) (.go 5000 ?_)
  have loop : ∀ (d i : Nat) (z : Int), z = i → i + d = a.length → Fact (lexFrom a b i d = better l a b) → Run P (mk Tryz.f131 0) (fun v st => v = .one (.bool (better l a b)) ∧ st = []) (.loop ⟨[(1, .one (.lst (.int .i64) a false)), (2, .one (.lst (.int .i64) b false)), (11, .one (.int .i64 z))], [], [.lp [0, 1, 0, 1, 1, 1, 1, 1], .blk 0, .code [1, 1, 1, 1, 1, 1]], none⟩) := by
    intro d
    induction d with
    | zero =>
      intro i z hz hd he
      subst hz
      refine Run.loop ?_
      repeat' (conv => arg 4; whnf); first | refine Run.ret ⟨?_, rfl⟩ | refine Run.condT ?_ | refine Run.condf ?_ | refine Run.condD (fun h => ?_) (fun h => ?_) | refine Run.condN (fun h => ?_) (fun h => ?_) | refine Run.condE (fun h => ?_) (fun h => ?_) | refine Run.condF (fun h => ?_) (fun h => ?_) | refine Run.condM (fun h => ?_) (fun h => ?_) | refine Run.condB (fun h => ?_) (fun h => ?_) | refine Run.check1 ?_ | (exfalso; omega)
      all_goals first | (rw [← he.h]; rfl) | (exfalso; omega)
    | succ d ih =>
      intro i z hz hd he
      subst hz
      have e := fs (i := i) (by omega)
      have hc := he.h
      unfold lexFrom at hc
      rw [← rd_nat, ← rd_nat] at hc
      by_cases hq : rd a (i : Int) = rd b (i : Int)
      · rw [if_pos hq] at hc
        refine Run.loop ?_
        repeat' (conv => arg 4; whnf); first | refine Run.ret ⟨?_, rfl⟩ | refine Run.condT ?_ | refine Run.condf ?_ | refine Run.condD (fun h => ?_) (fun h => ?_) | refine Run.condN (fun h => ?_) (fun h => ?_) | refine Run.condE (fun h => ?_) (fun h => ?_) | refine Run.condF (fun h => ?_) (fun h => ?_) | refine Run.condM (fun h => ?_) (fun h => ?_) | refine Run.condB (fun h => ?_) (fun h => ?_) | refine Run.check1 ?_ | (exfalso; omega) | refine Run.need1 (by simp only [allP, true_and, and_true]; omega) ?_ | refine Run.round ⟨[], [], []⟩ (ih (i + 1) _ e.h (by omega) ⟨hc⟩) rfl (by (repeat' (first | exact wkEnv_nil | refine wkEnv_cons rfl ?_ | exact wkSto_nil | refine wkSto_none ?_ | refine wkSto_some rfl ?_)); done) (by (repeat' (first | exact wkEnv_nil | refine wkEnv_cons rfl ?_ | exact wkSto_nil | refine wkSto_none ?_ | refine wkSto_some rfl ?_)); done)
        all_goals first | (exfalso; omega) | trace_state
      · rw [if_neg hq] at hc
        refine Run.loop ?_
        repeat' (conv => arg 4; whnf); first | refine Run.ret ⟨?_, rfl⟩ | refine Run.condT ?_ | refine Run.condf ?_ | refine Run.condD (fun h => ?_) (fun h => ?_) | refine Run.condN (fun h => ?_) (fun h => ?_) | refine Run.condE (fun h => ?_) (fun h => ?_) | refine Run.condF (fun h => ?_) (fun h => ?_) | refine Run.condM (fun h => ?_) (fun h => ?_) | refine Run.condB (fun h => ?_) (fun h => ?_) | refine Run.check1 ?_ | (exfalso; omega) | refine Run.need1 (by simp only [allP, true_and, and_true]; omega) ?_
        all_goals first | (exfalso; omega) | (rw [← hc]; done) | trace_state
  have hbe : better l a b = if (costM l a).1 = (costM l b).1 then (if (costM l a).2 = (costM l b).2 then lexFrom a b 0 a.length else decide ((costM l a).2 < (costM l b).2)) else decide ((costM l a).1 < (costM l b).1) := rfl
  repeat' (conv => arg 4; whnf); first | refine Run.ret ⟨?_, rfl⟩ | refine Run.condT ?_ | refine Run.condf ?_ | refine Run.condD (fun h => ?_) (fun h => ?_) | refine Run.condN (fun h => ?_) (fun h => ?_) | refine Run.condE (fun h => ?_) (fun h => ?_) | refine Run.condF (fun h => ?_) (fun h => ?_) | refine Run.condM (fun h => ?_) (fun h => ?_) | refine Run.condB (fun h => ?_) (fun h => ?_) | refine Run.check1 ?_ | refine Run.call (scost2_ok l a (fits_dl ha)) rfl ?_ | refine Run.call (scost2_ok l b (fits_dl hb)) rfl ?_ | refine Run.round ⟨[], [], []⟩ (loop a.length 0 _ rfl (by omega) ⟨?_⟩) rfl (by (repeat' (first | exact wkEnv_nil | refine wkEnv_cons rfl ?_ | exact wkSto_nil | refine wkSto_none ?_ | refine wkSto_some rfl ?_)); done) (by (repeat' (first | exact wkEnv_nil | refine wkEnv_cons rfl ?_ | exact wkSto_nil | refine wkSto_none ?_ | refine wkSto_some rfl ?_)); done)
  all_goals first
    | (rw [hbe]; (repeat' split) <;> first | rfl | (exfalso; omega) | contradiction)
    | trace_state
theorem sb_ok (l : List Mv) (sh : Int) (hm : MovesOk l) : Ok P 92 [.one (.lst .mv l false), .one (.int .i64 sh)] [] (.tup [.one (.own (.k 0)), .one (.bool (bestM l sh).2)]) [some (.row (.int .i64) (bestM l sh).1)] := by
  have h6 := hm.1
  have hlen := allM_len l.length h6
  obtain ⟨e1, e2⟩ := retO_t (bestO l sh)
  rw [show bestM l sh = retO (bestO l sh) from rfl, e1, e2]
  refine Ok.of_run (F := mk Tryz.f92 0) Tryz.func92 rfl rfl tabOk mixed rfl rfl rfl rfl rfl (Nat.le_of_ble_eq_true rfl) (Nat.le_of_ble_eq_true rfl) (.go 5000 ?_)
  have loop : ∀ (d i : Nat) (z : Int) (s : Option (List Int)), z = i → i + d = (allM l.length).length → s = ((allM l.length).take i).foldl (bestStep l (firstM l) sh) none → BestOk l s → Run P (mk Tryz.f92 0) (fun v st => v = .tup [.one (.own (.k 0)), .one (.bool (bestO l sh).isSome)] ∧ st = [some (.row (.int .i64) (tksO (bestO l sh)))])
     (.loop ⟨[(0, .one (.lst .mv l false)), (1, .one (.int .i64 sh)), (6, .one (.own (.t 1000 0))), (7, .one (.bool s.isSome)), (8, .one (.lst (.int .i64) (firstM l) false)), (9, .one (.lst .ints (allM l.length) false)), (10, .one (.int .i64 z))], [(.t 1000 0, some (.row (.int .i64) (tksO s)))], [.lp [0, 1, 0, 1, 1, 1, 1, 1], .blk 0, .code [1, 1, 1, 1, 1, 1]], none⟩) := by
    intro d
    induction d with
    | zero =>
      intro i z s hz hd hs hb
      subst hz
      obtain rfl : i = (allM l.length).length := by omega
      rw [List.take_length] at hs
      replace hs : s = bestO l sh := hs
      subst hs
      refine Run.loop ?_
      repeat' (conv => arg 4; whnf); first | refine Run.ret ⟨?_, rfl⟩ | refine Run.condT ?_ | refine Run.condf ?_ | refine Run.condD (fun h => ?_) (fun h => ?_) | refine Run.condN (fun h => ?_) (fun h => ?_) | refine Run.condE (fun h => ?_) (fun h => ?_) | refine Run.condF (fun h => ?_) (fun h => ?_) | refine Run.condM (fun h => ?_) (fun h => ?_) | refine Run.condB (fun h => ?_) (fun h => ?_) | refine Run.check1 ?_ | (exfalso; omega)
      all_goals first | rfl | (exfalso; omega) | trace_state
    | succ d ih =>
      intro i z s hz hd hs hb
      subst hz
      have e := fs (i := i) (by omega)
      have hii : rdL (allM l.length) (i : Int) = (allM l.length).getD i [] := by unfold rdL; rw [Int.toNat_natCast]
      have hmi : rdL (allM l.length) (i : Int) ∈ allM l.length := by rw [hii, List.getD_eq_getElem?_getD, List.getElem?_eq_getElem (by omega)]; exact List.getElem_mem _
      obtain ⟨hol, ho⟩ := allM_ord hmi
      have hnext : bestStep l (firstM l) sh s (rdL (allM l.length) (i : Int)) = ((allM l.length).take (i + 1)).foldl (bestStep l (firstM l) sh) none := by
        rw [List.take_add_one, List.foldl_append, ← hs, hii]
        simp [List.getD_eq_getElem?_getD, List.getElem?_eq_getElem (show i < (allM l.length).length by omega)]
      have hb' : BestOk l (bestStep l (firstM l) sh s (rdL (allM l.length) (i : Int))) := bestStep_ok hm ho hol hb
      have hfl := firstM_len l
      have hshift := sshift_ok (rdL (allM l.length) (i : Int)) (firstM l) (by omega) (by omega)
      rw [shiftM_symm] at hshift
      have hord := sordered_ok l (rdL (allM l.length) (i : Int)) (movesOk_all hm) (by omega) ho hol
      have hfit : (ordM l (rdL (allM l.length) (i : Int))).2 = true → Fits l (ordM l (rdL (allM l.length) (i : Int))).1 := fun h => ordM_fits hm ho hol h
      by_cases hsh : sh < shiftM (firstM l) (rdL (allM l.length) (i : Int))
      · rw [show bestStep l (firstM l) sh s (rdL (allM l.length) (i : Int)) = s from if_pos hsh] at hnext
        refine Run.loop ?_
        repeat' (conv => arg 4; whnf); first | refine Run.ret ⟨?_, rfl⟩ | refine Run.condT ?_ | refine Run.condf ?_ | refine Run.condD (fun h => ?_) (fun h => ?_) | refine Run.condN (fun h => ?_) (fun h => ?_) | refine Run.condE (fun h => ?_) (fun h => ?_) | refine Run.condF (fun h => ?_) (fun h => ?_) | refine Run.condM (fun h => ?_) (fun h => ?_) | refine Run.condB (fun h => ?_) (fun h => ?_) | refine Run.check1 ?_ | (exfalso; omega) | refine Run.need1 (by simp only [allP, true_and, and_true]; omega) ?_ | refine Run.call (hshift) rfl ?_ | refine Run.round ⟨[(.t 1000 0, .t 1000 0)], [], []⟩ (ih (i + 1) _ _ e.h (by omega) hnext hb) rfl (by (repeat' (first | exact wkEnv_nil | refine wkEnv_cons rfl ?_ | exact wkSto_nil | refine wkSto_none ?_ | refine wkSto_some rfl ?_)); done) (by (repeat' (first | exact wkEnv_nil | refine wkEnv_cons rfl ?_ | exact wkSto_nil | refine wkSto_none ?_ | refine wkSto_some rfl ?_)); done)
        all_goals first | (exfalso; omega) | trace_state
      · cases hok : (ordM l (rdL (allM l.length) (i : Int))).2 with
        | false =>
          rw [hok] at hord
          rw [show bestStep l (firstM l) sh s (rdL (allM l.length) (i : Int)) = s by rw [bestStep_chg, chg, if_neg hsh, hok]; rfl] at hnext
          refine Run.loop ?_
          repeat' (conv => arg 4; whnf); first | refine Run.ret ⟨?_, rfl⟩ | refine Run.condT ?_ | refine Run.condf ?_ | refine Run.condD (fun h => ?_) (fun h => ?_) | refine Run.condN (fun h => ?_) (fun h => ?_) | refine Run.condE (fun h => ?_) (fun h => ?_) | refine Run.condF (fun h => ?_) (fun h => ?_) | refine Run.condM (fun h => ?_) (fun h => ?_) | refine Run.condB (fun h => ?_) (fun h => ?_) | refine Run.check1 ?_ | (exfalso; omega) | refine Run.need1 (by simp only [allP, true_and, and_true]; omega) ?_ | refine Run.call (hshift) rfl ?_ | refine Run.call (hord) rfl ?_ | refine Run.round ⟨[(.t 1000 0, .t 1000 0)], [], []⟩ (ih (i + 1) _ _ e.h (by omega) hnext hb) rfl (by (repeat' (first | exact wkEnv_nil | refine wkEnv_cons rfl ?_ | exact wkSto_nil | refine wkSto_none ?_ | refine wkSto_some rfl ?_)); done) (by (repeat' (first | exact wkEnv_nil | refine wkEnv_cons rfl ?_ | exact wkSto_nil | refine wkSto_none ?_ | refine wkSto_some rfl ?_)); done)
          all_goals first | (exfalso; omega) | trace_state
        | true =>
          have hst : bestStep l (firstM l) sh s (rdL (allM l.length) (i : Int)) = if betO l (ordM l (rdL (allM l.length) (i : Int))).1 s = true then some (ordM l (rdL (allM l.length) (i : Int))).1 else s := by rw [bestStep_chg, chg, if_neg hsh, if_pos hok]
          rw [hok] at hord
          replace hfit := hfit hok
          rw [hst] at hnext hb'
          generalize (ordM l (rdL (allM l.length) (i : Int))).1 = ts at *
          cases s with
          | none =>
            rw [show betO l ts none = true from rfl, if_pos rfl] at hnext hb'
            refine Run.loop ?_
            repeat' (conv => arg 4; whnf); first | refine Run.ret ⟨?_, rfl⟩ | refine Run.condT ?_ | refine Run.condf ?_ | refine Run.condD (fun h => ?_) (fun h => ?_) | refine Run.condN (fun h => ?_) (fun h => ?_) | refine Run.condE (fun h => ?_) (fun h => ?_) | refine Run.condF (fun h => ?_) (fun h => ?_) | refine Run.condM (fun h => ?_) (fun h => ?_) | refine Run.condB (fun h => ?_) (fun h => ?_) | refine Run.check1 ?_ | (exfalso; omega) | refine Run.need1 (by simp only [allP, true_and, and_true]; omega) ?_ | refine Run.call (hshift) rfl ?_ | refine Run.call (hord) rfl ?_ | refine Run.round ⟨[(.t 39 0, .t 1000 0)], [], []⟩ (ih (i + 1) _ _ e.h (by omega) hnext hb') rfl (by (repeat' (first | exact wkEnv_nil | refine wkEnv_cons rfl ?_ | exact wkSto_nil | refine wkSto_none ?_ | refine wkSto_some rfl ?_)); done) (by (repeat' (first | exact wkEnv_nil | refine wkEnv_cons rfl ?_ | exact wkSto_nil | refine wkSto_none ?_ | refine wkSto_some rfl ?_)); done)
            all_goals first | (exfalso; omega) | trace_state
          | some b =>
            have hbb := better_ok l ts b hfit (hb b rfl)
            cases hbt : better l ts b with
            | true =>
              rw [show betO l ts (some b) = true from hbt, if_pos rfl] at hnext hb'
              rw [hbt] at hbb
              refine Run.loop ?_
              repeat' (conv => arg 4; whnf); first | refine Run.ret ⟨?_, rfl⟩ | refine Run.condT ?_ | refine Run.condf ?_ | refine Run.condD (fun h => ?_) (fun h => ?_) | refine Run.condN (fun h => ?_) (fun h => ?_) | refine Run.condE (fun h => ?_) (fun h => ?_) | refine Run.condF (fun h => ?_) (fun h => ?_) | refine Run.condM (fun h => ?_) (fun h => ?_) | refine Run.condB (fun h => ?_) (fun h => ?_) | refine Run.check1 ?_ | (exfalso; omega) | refine Run.need1 (by simp only [allP, true_and, and_true]; omega) ?_ | refine Run.call (hshift) rfl ?_ | refine Run.call (hord) rfl ?_ | refine Run.call (hbb) rfl ?_ | refine Run.round ⟨[(.t 39 0, .t 1000 0)], [], []⟩ (ih (i + 1) _ _ e.h (by omega) hnext hb') rfl (by (repeat' (first | exact wkEnv_nil | refine wkEnv_cons rfl ?_ | exact wkSto_nil | refine wkSto_none ?_ | refine wkSto_some rfl ?_)); done) (by (repeat' (first | exact wkEnv_nil | refine wkEnv_cons rfl ?_ | exact wkSto_nil | refine wkSto_none ?_ | refine wkSto_some rfl ?_)); done)
              all_goals first | (exfalso; omega) | trace_state
            | false =>
              rw [show betO l ts (some b) = false from hbt, if_neg Bool.false_ne_true] at hnext hb'
              rw [hbt] at hbb
              refine Run.loop ?_
              repeat' (conv => arg 4; whnf); first | refine Run.ret ⟨?_, rfl⟩ | refine Run.condT ?_ | refine Run.condf ?_ | refine Run.condD (fun h => ?_) (fun h => ?_) | refine Run.condN (fun h => ?_) (fun h => ?_) | refine Run.condE (fun h => ?_) (fun h => ?_) | refine Run.condF (fun h => ?_) (fun h => ?_) | refine Run.condM (fun h => ?_) (fun h => ?_) | refine Run.condB (fun h => ?_) (fun h => ?_) | refine Run.check1 ?_ | (exfalso; omega) | refine Run.need1 (by simp only [allP, true_and, and_true]; omega) ?_ | refine Run.call (hshift) rfl ?_ | refine Run.call (hord) rfl ?_ | refine Run.call (hbb) rfl ?_ | refine Run.round ⟨[(.t 1000 0, .t 1000 0)], [], []⟩ (ih (i + 1) _ _ e.h (by omega) hnext hb') rfl (by (repeat' (first | exact wkEnv_nil | refine wkEnv_cons rfl ?_ | exact wkSto_nil | refine wkSto_none ?_ | refine wkSto_some rfl ?_)); done) (by (repeat' (first | exact wkEnv_nil | refine wkEnv_cons rfl ?_ | exact wkSto_nil | refine wkSto_none ?_ | refine wkSto_some rfl ?_)); done)
              all_goals first | (exfalso; omega) | trace_state
  repeat' (conv => arg 4; whnf); first | refine Run.ret ⟨?_, rfl⟩ | refine Run.condT ?_ | refine Run.condf ?_ | refine Run.condD (fun h => ?_) (fun h => ?_) | refine Run.condN (fun h => ?_) (fun h => ?_) | refine Run.condE (fun h => ?_) (fun h => ?_) | refine Run.condF (fun h => ?_) (fun h => ?_) | refine Run.condM (fun h => ?_) (fun h => ?_) | refine Run.condB (fun h => ?_) (fun h => ?_) | refine Run.check1 ?_ | refine Run.call (sfirst_ok l (by omega)) rfl ?_ | refine Run.call (alls_ok _ (by omega)) rfl ?_ | refine Run.round ⟨[(.t 13 0, .t 1000 0)], [], [.t 15 0, .t 18 0]⟩ (loop (allM l.length).length 0 _ none rfl (by omega) rfl (fun t h => by cases h)) rfl (by (repeat' (first | exact wkEnv_nil | refine wkEnv_cons rfl ?_ | exact wkSto_nil | refine wkSto_none ?_ | refine wkSto_some rfl ?_)); done) (by (repeat' (first | exact wkEnv_nil | refine wkEnv_cons rfl ?_ | exact wkSto_nil | refine wkSto_none ?_ | refine wkSto_some rfl ?_)); done)
  all_goals first | (exfalso; omega) | trace_state
end Go.Proofs.YtmppoajepbbmiaaGreat.AM

/- slices.Clone, copies of books; condition: lengths. -/
namespace Go.Proofs.YtmppoajepbbmiaaGreat.AM
open Go.AM Go.RowKit
set_option linter.unusedVariables false
set_option linter.unusedSimpArgs false
set_option maxRecDepth 100000

theorem cloneM_ok (l : List Mv) (hl : l.length ≤ 1048576) : Ok P 45 [.one (.lst .mv l false)] [] (.one (.own (.k 0))) [some (.row .mv l)] := by
  refine Ok.of_run (F := mk Tryz.f45 0) Tryz.func45 rfl rfl tabOk mixed rfl rfl rfl rfl rfl (Nat.le_of_ble_eq_true rfl) (Nat.le_of_ble_eq_true rfl) (.go 5000 ?_)
  conv => arg 4; whnf
  refine Run.nilq ⟨_, _, rfl⟩ rfl (.go 5000 ?_) (fun h => .go 5000 ?_)
  · repeat' (conv => arg 4; whnf); first | refine Run.ret ⟨?_, rfl⟩ | refine Run.condT ?_ | refine Run.condf ?_ | refine Run.condD (fun h => ?_) (fun h => ?_) | refine Run.condN (fun h => ?_) (fun h => ?_) | refine Run.condE (fun h => ?_) (fun h => ?_) | refine Run.condF (fun h => ?_) (fun h => ?_) | refine Run.condM (fun h => ?_) (fun h => ?_) | refine Run.condB (fun h => ?_) (fun h => ?_) | refine Run.check1 ?_ | refine Run.need1 (by simp only [allP, true_and, and_true, List.length_nil, Nat.zero_add]; omega) ?_
    all_goals rfl
  · subst h
    refine Run.cond0 (fun _ => ?_) (fun h => by cases h)
    refine Run.go 4 ?_
    refine Run.less ⟨[], [(.t 9 0, .mv)], []⟩ (env' := [(2, .one (.own (.t 9 0)))]) (sto' := [(.t 9 0, some (.row .mv []))]) (.go 5000 ?_) rfl (by (repeat' (first | exact wkEnv_nil | refine wkEnv_cons rfl ?_ | exact wkSto_nil | refine wkSto_none ?_ | refine wkSto_some rfl ?_)); done) (by (repeat' (first | exact wkEnv_nil | refine wkEnv_cons rfl ?_ | exact wkSto_nil | refine wkSto_none ?_ | refine wkSto_some rfl ?_)); done)
    repeat' (conv => arg 4; whnf); first | refine Run.ret ⟨?_, rfl⟩ | refine Run.condT ?_ | refine Run.condf ?_ | refine Run.condD (fun h => ?_) (fun h => ?_) | refine Run.condN (fun h => ?_) (fun h => ?_) | refine Run.condE (fun h => ?_) (fun h => ?_) | refine Run.condF (fun h => ?_) (fun h => ?_) | refine Run.condM (fun h => ?_) (fun h => ?_) | refine Run.condB (fun h => ?_) (fun h => ?_) | refine Run.check1 ?_
    all_goals rfl
theorem cloneI_ok (l : List Int) (hl : l.length ≤ 1048576) : Ok P 79 [.one (.lst (.int .i64) l false)] [] (.one (.own (.k 0))) [some (.row (.int .i64) l)] := by
  refine Ok.of_run (F := mk Tryz.f79 0) Tryz.func79 rfl rfl tabOk mixed rfl rfl rfl rfl rfl (Nat.le_of_ble_eq_true rfl) (Nat.le_of_ble_eq_true rfl) (.go 5000 ?_)
  conv => arg 4; whnf
  refine Run.nilq ⟨_, _, rfl⟩ rfl (.go 5000 ?_) (fun h => .go 5000 ?_)
  · repeat' (conv => arg 4; whnf); first | refine Run.ret ⟨?_, rfl⟩ | refine Run.condT ?_ | refine Run.condf ?_ | refine Run.condD (fun h => ?_) (fun h => ?_) | refine Run.condN (fun h => ?_) (fun h => ?_) | refine Run.condE (fun h => ?_) (fun h => ?_) | refine Run.condF (fun h => ?_) (fun h => ?_) | refine Run.condM (fun h => ?_) (fun h => ?_) | refine Run.condB (fun h => ?_) (fun h => ?_) | refine Run.check1 ?_ | refine Run.need1 (by simp only [allP, true_and, and_true, List.length_nil, Nat.zero_add]; omega) ?_
    all_goals rfl
  · subst h
    refine Run.cond0 (fun _ => ?_) (fun h => by cases h)
    refine Run.go 4 ?_
    refine Run.less ⟨[], [(.t 9 0, (.int .i64))], []⟩ (env' := [(2, .one (.own (.t 9 0)))]) (sto' := [(.t 9 0, some (.row (.int .i64) []))]) (.go 5000 ?_) rfl (by (repeat' (first | exact wkEnv_nil | refine wkEnv_cons rfl ?_ | exact wkSto_nil | refine wkSto_none ?_ | refine wkSto_some rfl ?_)); done) (by (repeat' (first | exact wkEnv_nil | refine wkEnv_cons rfl ?_ | exact wkSto_nil | refine wkSto_none ?_ | refine wkSto_some rfl ?_)); done)
    repeat' (conv => arg 4; whnf); first | refine Run.ret ⟨?_, rfl⟩ | refine Run.condT ?_ | refine Run.condf ?_ | refine Run.condD (fun h => ?_) (fun h => ?_) | refine Run.condN (fun h => ?_) (fun h => ?_) | refine Run.condE (fun h => ?_) (fun h => ?_) | refine Run.condF (fun h => ?_) (fun h => ?_) | refine Run.condM (fun h => ?_) (fun h => ?_) | refine Run.condB (fun h => ?_) (fun h => ?_) | refine Run.check1 ?_
    all_goals rfl
theorem copyBook_ok (b : Bk) (hl : b.ms.length ≤ 1048576) (ht : b.ts.length ≤ 1048576) : Ok P 42 [b.lent] [] (b.own (.k 0) (.k 1)) [some (.row .mv b.ms), some (.row (.int .i64) b.ts)] := by
  refine Ok.of_run (F := mk Tryz.f42 0) Tryz.func42 rfl rfl tabOk mixed rfl rfl rfl rfl rfl (Nat.le_of_ble_eq_true rfl) (Nat.le_of_ble_eq_true rfl) (.go 5000 ?_)
  repeat' (conv => arg 4; whnf); first | refine Run.ret ⟨?_, rfl⟩ | refine Run.condT ?_ | refine Run.condf ?_ | refine Run.condD (fun h => ?_) (fun h => ?_) | refine Run.condN (fun h => ?_) (fun h => ?_) | refine Run.condE (fun h => ?_) (fun h => ?_) | refine Run.condF (fun h => ?_) (fun h => ?_) | refine Run.condM (fun h => ?_) (fun h => ?_) | refine Run.condB (fun h => ?_) (fun h => ?_) | refine Run.check1 ?_ | refine Run.call (cloneM_ok _ hl) rfl ?_ | refine Run.call (cloneI_ok _ ht) rfl ?_
  all_goals first | rfl | trace_state
theorem scopy_ok (b : Bk) (hl : b.ms.length ≤ 1048576) (ht : b.ts.length ≤ 1048576) : Ok P 50 [b.lent] [] (b.own (.k 0) (.k 1)) [some (.row .mv b.ms), some (.row (.int .i64) b.ts)] := by
  refine Ok.of_run (F := mk Tryz.f50 0) Tryz.func50 rfl rfl tabOk mixed rfl rfl rfl rfl rfl (Nat.le_of_ble_eq_true rfl) (Nat.le_of_ble_eq_true rfl) (.go 5000 ?_)
  repeat' (conv => arg 4; whnf); first | refine Run.ret ⟨?_, rfl⟩ | refine Run.condT ?_ | refine Run.condf ?_ | refine Run.condD (fun h => ?_) (fun h => ?_) | refine Run.condN (fun h => ?_) (fun h => ?_) | refine Run.condE (fun h => ?_) (fun h => ?_) | refine Run.condF (fun h => ?_) (fun h => ?_) | refine Run.condM (fun h => ?_) (fun h => ?_) | refine Run.condB (fun h => ?_) (fun h => ?_) | refine Run.check1 ?_ | refine Run.need1 (by simp only [allP, true_and, and_true, List.length_nil, Nat.zero_add]; omega) ?_
  all_goals first | rfl | trace_state
end Go.Proofs.YtmppoajepbbmiaaGreat.AM

/- Plans, the program's and the reference's; condition: a move list, a tick. -/
namespace Go.Proofs.YtmppoajepbbmiaaGreat.AM
open Go.AM Go.RowKit
set_option linter.unusedVariables false
set_option linter.unusedSimpArgs false
set_option maxRecDepth 100000

def LtTo (u : Int) (l s : List Mv) (i : Nat) : Prop := s.length = l.length ∧ ∀ j, j < l.length → at' s j = if j < i then laterMv u (at' l j) else at' l j
theorem ltTo_0 (u : Int) (l : List Mv) : LtTo u l l 0 := ⟨rfl, fun j hj => by simp⟩
theorem ltTo_all {u : Int} {l s : List Mv} (h : LtTo u l s l.length) : s = laterL u l := by
  refine List.ext_getElem (by simp [laterL, h.1]) fun j h1 h2 => ?_
  have hj : j < l.length := by rw [← h.1]; exact h1
  have := h.2 j hj
  rw [if_pos hj] at this
  simpa [laterL, at', List.getD_eq_getElem?_getD, List.getElem?_eq_getElem hj, List.getElem?_eq_getElem h1] using this
theorem rdM_set {s : List Mv} {i : Nat} (hi : i < s.length) (x : Mv) : rdM (s.set (i : Int).toNat x) (i : Int) = x := by
  rw [rdM_nat, Int.toNat_natCast]
  simp [at', List.getD_eq_getElem?_getD, hi]
theorem ltTo_keep {u : Int} {l s : List Mv} {i : Nat} (h : LtTo u l s i) (hi : i < l.length) (h5 : ¬ (rdM s i).f5 < 0) : LtTo u l s (i + 1) := by
  refine ⟨h.1, fun j hj => ?_⟩
  rw [h.2 j hj]
  by_cases e : j = i
  · subst e
    have := h.2 j hj
    rw [if_neg (by omega)] at this
    rw [rdM_nat, this] at h5
    rw [if_neg (by omega), if_pos (by omega), laterMv, if_neg h5]
  · by_cases h1 : j < i
    · rw [if_pos h1, if_pos (by omega)]
    · rw [if_neg h1, if_neg (by omega)]
theorem ltTo_set {u : Int} {l s : List Mv} {i : Nat} {x : Mv} (h : LtTo u l s i) (hi : i < l.length) (hx : x = laterMv u (at' l i)) : LtTo u l (s.set (i : Int).toNat x) (i + 1) := by
  refine ⟨by rw [List.length_set]; exact h.1, fun j hj => ?_⟩
  rw [Int.toNat_natCast]
  by_cases e : j = i
  · subst e
    rw [if_pos (by omega), ← hx]
    simp [at', List.getD_eq_getElem?_getD, h.1, hj]
  · have hne : ¬ i = j := fun q => e q.symm
    have := h.2 j hj
    rw [show at' (s.set i x) j = at' s j by simp [at', List.getD_eq_getElem?_getD, List.getElem?_set, hne], this]
    by_cases h1 : j < i
    · rw [if_pos h1, if_pos (by omega)]
    · rw [if_neg h1, if_neg (by omega)]
theorem planM_nil (l : List Mv) (now sh : Int) : (planM l now sh).2 = false → (planM l now sh).1 = [] := by
  unfold planM
  split
  · unfold bestM
    cases bestO (laterL (now + 4) l) sh with
    | none => exact fun _ => rfl
    | some t => exact fun h => by cases h
  · exact fun _ => rfl
theorem plan_ok (l : List Mv) (now sh : Int) (hm : MovesOk l) (hn : 0 ≤ now ∧ now ≤ 10000) (hs : 0 ≤ sh ∧ sh ≤ 6) : Ok P 48 [.one (.lst .mv l false), .one (.int .i64 now), .one (.int .i64 sh)] [] (.tup [.one (.own (.k 0)), .one (.bool (planM l now sh).2)]) [some (.row (.int .i64) (planM l now sh).1)] := by
  refine nilR_ok (planM_nil l now sh) ?_
  have h6 := hm.1
  have eu : wrap64 (now + 4) = now + 4 := wrap_eq (by omega) (by omega)
  refine Ok.of_rel (F := mk Tryz.f48 0) Tryz.func48 rfl rfl tabOk mixed rfl rfl rfl rfl rfl (Nat.le_of_ble_eq_true rfl) (by first | exact fun _ _ => nilR_len | exact fun _ _ => nilB_len) (.go 5000 ?_)
  have loop : ∀ (d i : Nat) (z : Int) (s : List Mv), z = i → i + d = l.length → LtTo (now + 4) l s i → (∀ j, j < i → LaterAt (now + 4) (at' l j)) → Run P (mk Tryz.f48 0) (NilR (planM l now sh)) (.loop ⟨[(1, .one (.int .i64 now)), (2, .one (.int .i64 sh)), (8, .one (.own (.t 1000 0))), (13, .one (.int .i64 (l.length : Int))), (14, .one (.int .i64 z))], [(.t 1000 0, some (.row .mv s))], [.lp [0, 1, 0, 1, 1], .blk 0, .code [1, 1, 1]], none⟩) := by
    intro d
    induction d with
    | zero =>
      intro i z s hz hd hst hl
      subst hz
      obtain rfl : i = l.length := by omega
      obtain rfl := ltTo_all hst
      rw [planM_eq hm hn.1 hs, if_pos (show LaterOk (now + 4) l from fun j hj => hl j hj)]
      refine Run.loop ?_
      repeat' (conv => arg 4; whnf); first | refine Run.ret ⟨?_, rfl⟩ | refine Run.condT ?_ | refine Run.condf ?_ | refine Run.condD (fun h => ?_) (fun h => ?_) | refine Run.condN (fun h => ?_) (fun h => ?_) | refine Run.condE (fun h => ?_) (fun h => ?_) | refine Run.condF (fun h => ?_) (fun h => ?_) | refine Run.condM (fun h => ?_) (fun h => ?_) | refine Run.condB (fun h => ?_) (fun h => ?_) | refine Run.check1 ?_ | refine Run.call (best_ok _ _) rfl ?_ | (refine Run.ret (.inl ⟨rfl, rfl⟩)) | (exfalso; omega)
    | succ d ih =>
      intro i z s hz hd hst hl
      subst hz
      have hi : i < l.length := by omega
      have e := fs (i := i) (by omega)
      have hsl := hst.1
      have hmi : rdM s (i : Int) = at' l i := by rw [rdM_nat, hst.2 i hi, if_neg (by omega)]
      have hset := fun x => rdM_set (i := i) (s := s) (by omega) x
      have ih' := fun s' h1 h2 => ih (i + 1) _ s' e.h (by omega) h1 h2
      have hno : ¬ LaterAt (now + 4) (at' l i) → NilR (planM l now sh) (.tup [.one .nil, .one (.bool false)]) [] := fun h => by
        have hq : planM l now sh = ([], false) := if_neg fun k => h (k i hi)
        rw [hq]
        exact .inr ⟨rfl, rfl, rfl⟩
      clear ih
      refine Run.loop ?_
      repeat' (conv => arg 4; whnf); first | refine Run.ret ⟨?_, rfl⟩ | refine Run.condT ?_ | refine Run.condf ?_ | refine Run.condD (fun h => ?_) (fun h => ?_) | refine Run.condN (fun h => ?_) (fun h => ?_) | refine Run.condE (fun h => ?_) (fun h => ?_) | refine Run.condF (fun h => ?_) (fun h => ?_) | refine Run.condM (fun h => ?_) (fun h => ?_) | refine Run.condB (fun h => ?_) (fun h => ?_) | refine Run.check1 ?_ | (exfalso; omega) | refine Run.need1 (by simp only [allP, true_and, and_true]; omega) ?_ | refine Run.need1 (by simp only [allP, true_and, and_true, List.length_set]; omega) ?_ | refine Run.round ⟨[(.t 1000 0, .t 1000 0)], [], []⟩ (ih' _ ?_ ?_) rfl (by (repeat' (first | exact wkEnv_nil | refine wkEnv_cons rfl ?_ | exact wkSto_nil | refine wkSto_none ?_ | refine wkSto_some rfl ?_)); done) (by (repeat' (first | exact wkEnv_nil | refine wkEnv_cons rfl ?_ | exact wkSto_nil | refine wkSto_none ?_ | refine wkSto_some rfl ?_)); done) | (refine Run.ret (hno ?_))
      all_goals clear ih' hno
      all_goals first
        | exact ltTo_keep hst hi ‹_›
        | (refine ltTo_set hst hi ?_
           have h5 : (rdM s (i : Int)).f5 < 0 := by assumption
           rw [hmi] at h5 ⊢
           rw [eu]
           unfold laterMv
           rw [if_pos h5])
        | (intro q
           unfold LaterAt at q
           simp only [hset, eu, hmi] at *
           omega)
        | (intro j hj
           by_cases hji : j < i
           · exact hl j hji
           · obtain rfl : j = i := by omega
             unfold LaterAt
             simp only [hset, eu, hmi] at *
             omega)
        | trace_state
  repeat' (conv => arg 4; whnf); first | refine Run.ret ⟨?_, rfl⟩ | refine Run.condT ?_ | refine Run.condf ?_ | refine Run.condD (fun h => ?_) (fun h => ?_) | refine Run.condN (fun h => ?_) (fun h => ?_) | refine Run.condE (fun h => ?_) (fun h => ?_) | refine Run.condF (fun h => ?_) (fun h => ?_) | refine Run.condM (fun h => ?_) (fun h => ?_) | refine Run.condB (fun h => ?_) (fun h => ?_) | refine Run.check1 ?_ | refine Run.call (cloneM_ok l (by omega)) rfl ?_ | refine Run.round ⟨[(.t 11 0, .t 1000 0)], [], []⟩ (loop l.length 0 _ _ rfl (by omega) (ltTo_0 _ _) (fun j hj => absurd hj (by omega))) rfl (by (repeat' (first | exact wkEnv_nil | refine wkEnv_cons rfl ?_ | exact wkSto_nil | refine wkSto_none ?_ | refine wkSto_some rfl ?_)); done) (by (repeat' (first | exact wkEnv_nil | refine wkEnv_cons rfl ?_ | exact wkSto_nil | refine wkSto_none ?_ | refine wkSto_some rfl ?_)); done)
  all_goals trace_state
theorem ltTo_keep2 {u : Int} {l s : List Mv} {i : Nat} (h : LtTo u l s i) (hi : i < l.length) (h5 : laterMv u (at' l i) = at' l i) : LtTo u l s (i + 1) := by
  refine ⟨h.1, fun j hj => ?_⟩
  rw [h.2 j hj]
  by_cases e : j = i
  · subst e
    rw [if_neg (by omega), if_pos (by omega), h5]
  · by_cases h1 : j < i
    · rw [if_pos h1, if_pos (by omega)]
    · rw [if_neg h1, if_neg (by omega)]
theorem laterMv_id {u : Int} {m : Mv} (h : ¬ (m.f5 < 0 ∧ m.f3 < u)) : laterMv u m = m := by
  unfold laterMv
  split
  · rw [show max m.f3 u = m.f3 by omega]
  · rfl
theorem later_ok (l : List Mv) (u : Int) (hm : MovesOk l) : ∃ s : List Mv, (LaterOk u l → s = laterL u l) ∧
    Ok P 91 [.one (.lst .mv l false), .one (.int .i64 u)] [] (.tup [.one (.own (.k 0)), .one (.bool (decide (LaterOk u l)))]) [some (.row .mv s)] := by
  have h6 := hm.1
  refine Ok.of_ex (F := mk Tryz.f91 0) Tryz.func91 rfl rfl tabOk mixed rfl rfl rfl rfl rfl (Nat.le_of_ble_eq_true rfl) (fun _ => Nat.le_of_ble_eq_true rfl) (.go 5000 ?_)
  have loop : ∀ (d i : Nat) (z : Int) (s : List Mv), z = i → i + d = l.length → LtTo u l s i → (∀ j, j < i → LaterAt u (at' l j)) → Run P (mk Tryz.f91 0) (fun v st => ∃ s : List Mv, (LaterOk u l → s = laterL u l) ∧ v = .tup [.one (.own (.k 0)), .one (.bool (decide (LaterOk u l)))] ∧ st = [some (.row .mv s)]) (.loop ⟨[(1, .one (.int .i64 u)), (6, .one (.own (.t 1000 0))), (7, .one (.int .i64 z))], [(.t 1000 0, some (.row .mv s))], [.lp [0, 1, 0, 1, 1], .blk 0, .code [1, 1, 1]], none⟩) := by
    intro d
    induction d with
    | zero =>
      intro i z s hz hd hst hl
      subst hz
      obtain rfl : i = l.length := by omega
      obtain rfl := ltTo_all hst
      have hlo : LaterOk u l := fun j hj => hl j hj
      have hsl := hst.1
      rw [decide_eq_true hlo]
      refine Run.loop ?_
      repeat' (conv => arg 4; whnf); first | refine Run.ret ⟨?_, rfl⟩ | refine Run.condT ?_ | refine Run.condf ?_ | refine Run.condD (fun h => ?_) (fun h => ?_) | refine Run.condN (fun h => ?_) (fun h => ?_) | refine Run.condE (fun h => ?_) (fun h => ?_) | refine Run.condF (fun h => ?_) (fun h => ?_) | refine Run.condM (fun h => ?_) (fun h => ?_) | refine Run.condB (fun h => ?_) (fun h => ?_) | refine Run.check1 ?_ | (exfalso; omega) | (refine Run.ret ⟨_, fun _ => rfl, rfl, rfl⟩)
    | succ d ih =>
      intro i z s hz hd hst hl
      subst hz
      have hi : i < l.length := by omega
      have e := fs (i := i) (by omega)
      have hsl := hst.1
      have hmi : rdM s (i : Int) = at' l i := by rw [rdM_nat, hst.2 i hi, if_neg (by omega)]
      have hset := fun x => rdM_set (i := i) (s := s) (by omega) x
      have ih' := fun s' h1 h2 => ih (i + 1) _ s' e.h (by omega) h1 h2
      have hmv := (mvOk_true (m := at' l i)).1 (hm.2 i hi).1
      clear ih
      refine Run.loop ?_
      repeat' (conv => arg 4; whnf); first | refine Run.ret ⟨?_, rfl⟩ | refine Run.condT ?_ | refine Run.condf ?_ | refine Run.condD (fun h => ?_) (fun h => ?_) | refine Run.condN (fun h => ?_) (fun h => ?_) | refine Run.condE (fun h => ?_) (fun h => ?_) | refine Run.condF (fun h => ?_) (fun h => ?_) | refine Run.condM (fun h => ?_) (fun h => ?_) | refine Run.condB (fun h => ?_) (fun h => ?_) | refine Run.check1 ?_ | (exfalso; omega) | refine Run.need1 (by simp only [allP, true_and, and_true]; omega) ?_ | refine Run.need1 (by simp only [allP, true_and, and_true, List.length_set]; omega) ?_ | refine Run.round ⟨[(.t 1000 0, .t 1000 0)], [], []⟩ (ih' _ ?_ ?_) rfl (by (repeat' (first | exact wkEnv_nil | refine wkEnv_cons rfl ?_ | exact wkSto_nil | refine wkSto_none ?_ | refine wkSto_some rfl ?_)); done) (by (repeat' (first | exact wkEnv_nil | refine wkEnv_cons rfl ?_ | exact wkSto_nil | refine wkSto_none ?_ | refine wkSto_some rfl ?_)); done) | (refine Run.ret ⟨_, ?_, ?_, rfl⟩)
      all_goals clear ih'
      all_goals first
        | (refine ltTo_keep2 hst hi (laterMv_id fun q => ?_)
           rw [hmi] at *
           omega)
        | (refine ltTo_set hst hi ?_
           simp only [hmi, hset] at *
           unfold laterMv
           rw [if_pos (by omega), show max (at' l i).f3 u = u by omega])
        | (intro j hj
           by_cases hji : j < i
           · exact hl j hji
           · obtain rfl : j = i := by omega
             unfold LaterAt
             simp only [hset, hmi] at *
             omega)
        | (have hnl : ¬ LaterOk u l := fun q => by
             have q := q i hi
             unfold LaterAt at q
             simp only [hset, hmi] at *
             omega
           first
             | exact fun q => absurd q hnl
             | (rw [decide_eq_false hnl]; done))
        | trace_state
  repeat' (conv => arg 4; whnf); first | refine Run.ret ⟨?_, rfl⟩ | refine Run.condT ?_ | refine Run.condf ?_ | refine Run.condD (fun h => ?_) (fun h => ?_) | refine Run.condN (fun h => ?_) (fun h => ?_) | refine Run.condE (fun h => ?_) (fun h => ?_) | refine Run.condF (fun h => ?_) (fun h => ?_) | refine Run.condM (fun h => ?_) (fun h => ?_) | refine Run.condB (fun h => ?_) (fun h => ?_) | refine Run.check1 ?_ | refine Run.need1 (by simp only [allP, true_and, and_true, List.length_nil, List.length_append, List.nil_append]; omega) ?_ | refine Run.round ⟨[(.t 10 0, .t 1000 0)], [], []⟩ (loop l.length 0 _ _ rfl (by omega) ?_ (fun j hj => absurd hj (by omega))) rfl (by (repeat' (first | exact wkEnv_nil | refine wkEnv_cons rfl ?_ | exact wkSto_nil | refine wkSto_none ?_ | refine wkSto_some rfl ?_)); done) (by (repeat' (first | exact wkEnv_nil | refine wkEnv_cons rfl ?_ | exact wkSto_nil | refine wkSto_none ?_ | refine wkSto_some rfl ?_)); done)
  all_goals first | exact ltTo_0 _ _ | trace_state
theorem splan_ok (l : List Mv) (now sh : Int) (hm : MovesOk l) (hn : 0 ≤ now ∧ now ≤ 10000) (hs : 0 ≤ sh ∧ sh ≤ 6) : Ok P 54 [.one (.lst .mv l false), .one (.int .i64 now), .one (.int .i64 sh)] [] (.tup [.one (.own (.k 0)), .one (.bool (planM l now sh).2)]) [some (.row (.int .i64) (planM l now sh).1)] := by
  have h6 := hm.1
  have eu : wrap64 (now + 4) = now + 4 := wrap_eq (by omega) (by omega)
  obtain ⟨s, hse, hla⟩ := later_ok l (wrap64 (now + 4)) hm
  rw [eu] at hse
  by_cases hlo : LaterOk (now + 4) l
  · obtain rfl := hse hlo
    rw [decide_eq_true (by rw [eu]; exact hlo)] at hla
    have hb := sb_ok (laterL (now + 4) l) sh (later_movesOk hm (by omega) hlo)
    rw [show planM l now sh = bestM (laterL (now + 4) l) sh from if_pos hlo]
    refine Ok.of_run (F := mk Tryz.f54 0) Tryz.func54 rfl rfl tabOk mixed rfl rfl rfl rfl rfl (Nat.le_of_ble_eq_true rfl) (Nat.le_of_ble_eq_true rfl) (.go 5000 ?_)
    repeat' (conv => arg 4; whnf); first | refine Run.ret ⟨?_, rfl⟩ | refine Run.condT ?_ | refine Run.condf ?_ | refine Run.condD (fun h => ?_) (fun h => ?_) | refine Run.condN (fun h => ?_) (fun h => ?_) | refine Run.condE (fun h => ?_) (fun h => ?_) | refine Run.condF (fun h => ?_) (fun h => ?_) | refine Run.condM (fun h => ?_) (fun h => ?_) | refine Run.condB (fun h => ?_) (fun h => ?_) | refine Run.check1 ?_ | refine Run.call (hla) rfl ?_ | refine Run.call (hb) rfl ?_
    all_goals first | rfl | trace_state
  · rw [decide_eq_false (by rw [eu]; exact hlo)] at hla
    rw [show planM l now sh = ([], false) from if_neg hlo]
    refine Ok.of_run (F := mk Tryz.f54 0) Tryz.func54 rfl rfl tabOk mixed rfl rfl rfl rfl rfl (Nat.le_of_ble_eq_true rfl) (Nat.le_of_ble_eq_true rfl) (.go 5000 ?_)
    repeat' (conv => arg 4; whnf); first | refine Run.ret ⟨?_, rfl⟩ | refine Run.condT ?_ | refine Run.condf ?_ | refine Run.condD (fun h => ?_) (fun h => ?_) | refine Run.condN (fun h => ?_) (fun h => ?_) | refine Run.condE (fun h => ?_) (fun h => ?_) | refine Run.condF (fun h => ?_) (fun h => ?_) | refine Run.condM (fun h => ?_) (fun h => ?_) | refine Run.condB (fun h => ?_) (fun h => ?_) | refine Run.check1 ?_ | refine Run.call (hla) rfl ?_
    all_goals first | rfl | trace_state
end Go.Proofs.YtmppoajepbbmiaaGreat.AM

/- StripBookOk, the program's and the reference's; condition: the ticks are of 64 bits. -/
namespace Go.Proofs.YtmppoajepbbmiaaGreat.AM
open Go.AM Go.RowKit
set_option linter.unusedVariables false
set_option linter.unusedSimpArgs false
set_option maxRecDepth 100000

theorem bookOk_ok (b : Bk) (hw : TkWf b.ts) : Ok P 16 [b.lent] [] (.one (.bool (decide (BkOk b)))) [] := by
  refine Ok.of_run (F := mk Tryz.f16 0) Tryz.func16 rfl rfl tabOk mixed rfl rfl rfl rfl rfl (Nat.le_of_ble_eq_true rfl) (Nat.le_of_ble_eq_true rfl) (.go 5000 ?_)
  have loop : (0 ≤ b.now ∧ b.now ≤ 10000) → (0 ≤ b.shift ∧ b.shift ≤ 6) → Fits b.ms b.ts → ∀ (d i : Nat) (z : Int), z = i → i + d = b.ts.length → (∀ j, j < i → SoonAt b j) → Run P (mk Tryz.f16 0) (fun v st => v = .one (.bool (decide (BkOk b))) ∧ st = []) (.loop ⟨[(1, .one (.ptr (.t 1 0) 0)), (24, .one (.lst (.int .i64) b.ts false)), (25, .one (.int .i64 (b.ts.length : Int))), (26, .one (.int .i64 z))], [(.t 1 0, some (.cells b.lent.atoms))], [.lp [0, 1, 0, 1, 1], .blk 0, .code [1, 1, 1]], none⟩) := by
    intro hn hs hf d
    have h6 := hf.1.1
    have hlen := hf.2.1
    induction d with
    | zero =>
      intro i z hz hd hall
      subst hz
      refine Run.loop ?_
      repeat' (conv => arg 4; whnf); first | refine Run.ret ⟨?_, rfl⟩ | refine Run.condT ?_ | refine Run.condf ?_ | refine Run.condD (fun h => ?_) (fun h => ?_) | refine Run.condN (fun h => ?_) (fun h => ?_) | refine Run.condE (fun h => ?_) (fun h => ?_) | refine Run.condF (fun h => ?_) (fun h => ?_) | refine Run.condM (fun h => ?_) (fun h => ?_) | refine Run.condB (fun h => ?_) (fun h => ?_) | refine Run.check1 ?_ | (exfalso; omega)
      all_goals first
        | (exfalso; omega)
        | exact bk_yes ⟨hn, hs, hf, fun j hj => hall j (by omega)⟩
    | succ d ih =>
      intro i z hz hd hall
      subst hz
      have e : wrap64 ((i : Int) + 1) = ((i + 1 : Nat) : Int) := wrap_eq (by omega) (by omega)
      have e4 : wrap64 (b.now + 4) = b.now + 4 := wrap_eq (by omega) (by omega)
      have no : ¬ SoonAt b i → V.one (A.bool false) = V.one (A.bool (decide (BkOk b))) := fun h => bk_no fun k => h (k.2.2.2 i (by omega))
      have hA : SoonAt b i ↔ (b.now ≤ rd b.ts i ∧ (rd b.ts i < wrap64 (b.now + 4) → 0 ≤ (rdM b.ms i).f5)) := by
        simp only [rdM_nat, rd_nat, e4, SoonAt]
      refine Run.loop ?_
      repeat' (conv => arg 4; whnf); first | refine Run.ret ⟨?_, rfl⟩ | refine Run.condT ?_ | refine Run.condf ?_ | refine Run.condD (fun h => ?_) (fun h => ?_) | refine Run.condN (fun h => ?_) (fun h => ?_) | refine Run.condE (fun h => ?_) (fun h => ?_) | refine Run.condF (fun h => ?_) (fun h => ?_) | refine Run.condM (fun h => ?_) (fun h => ?_) | refine Run.condB (fun h => ?_) (fun h => ?_) | refine Run.check1 ?_ | refine Run.need1 (by simp only [allP, true_and, and_true]; omega) ?_ | refine Run.round ⟨[(.t 1 0, .t 1 0)], [], []⟩ (ih (i + 1) _ e (by omega) ?_) rfl (by (repeat' (first | exact wkEnv_nil | refine wkEnv_cons rfl ?_ | exact wkSto_nil | refine wkSto_none ?_ | refine wkSto_some rfl ?_)); done) (by (repeat' (first | exact wkEnv_nil | refine wkEnv_cons rfl ?_ | exact wkSto_nil | refine wkSto_none ?_ | refine wkSto_some rfl ?_)); done) | (exfalso; omega)
      all_goals first
        | (exfalso; omega)
        | (refine no fun q => ?_; have a := hA.1 q; omega)
        | (intro j hj; rcases Nat.lt_or_ge j i with h1 | h1
           · exact hall j h1
           · obtain rfl : j = i := by omega
             exact hA.2 (by omega))
        | trace_state
  repeat' (conv => arg 4; whnf); first | refine Run.ret ⟨?_, rfl⟩ | refine Run.condT ?_ | refine Run.condf ?_ | refine Run.condD (fun h => ?_) (fun h => ?_) | refine Run.condN (fun h => ?_) (fun h => ?_) | refine Run.condE (fun h => ?_) (fun h => ?_) | refine Run.condF (fun h => ?_) (fun h => ?_) | refine Run.condM (fun h => ?_) (fun h => ?_) | refine Run.condB (fun h => ?_) (fun h => ?_) | refine Run.check1 ?_ | refine Run.call (in_ok _ _ _) rfl ?_ | refine Run.call (fits_ok _ _ hw) rfl ?_ | refine Run.round ⟨[(.t 1 0, .t 1 0)], [], []⟩ (loop ?_ ?_ ?_ b.ts.length 0 _ rfl ?_ ?_) rfl (by (repeat' (first | exact wkEnv_nil | refine wkEnv_cons rfl ?_ | exact wkSto_nil | refine wkSto_none ?_ | refine wkSto_some rfl ?_)); done) (by (repeat' (first | exact wkEnv_nil | refine wkEnv_cons rfl ?_ | exact wkSto_nil | refine wkSto_none ?_ | refine wkSto_some rfl ?_)); done)
  all_goals first
    | omega
    | assumption
    | (refine bk_no fun k => ?_; have := k.1; have := k.2.1; omega)
    | exact bk_no fun k => absurd k.2.2.1 ‹_›
    | trace_state
theorem sbookOk_ok (b : Bk) (hw : TkWf b.ts) : Ok P 49 [b.lent] [] (.one (.bool (decide (BkOk b)))) [] := by
  refine Ok.of_run (F := mk Tryz.f49 0) Tryz.func49 rfl rfl tabOk mixed rfl rfl rfl rfl rfl (Nat.le_of_ble_eq_true rfl) (Nat.le_of_ble_eq_true rfl) (.go 5000 ?_)
  have loop : (0 ≤ b.now ∧ b.now ≤ 10000) → (0 ≤ b.shift ∧ b.shift ≤ 6) → Fits b.ms b.ts → ∀ (d i : Nat) (z : Int), z = i → i + d = b.ts.length → (∀ j, j < i → SoonAt b j) → Run P (mk Tryz.f49 0) (fun v st => v = .one (.bool (decide (BkOk b))) ∧ st = []) (.loop ⟨[(1, .one (.ptr (.t 1 0) 0)), (3, .one (.int .i64 z))], [(.t 1 0, some (.cells b.lent.atoms))], [.lp [0, 1, 0, 1, 1], .blk 0, .code [1, 1, 1]], none⟩) := by
    intro hn hs hf d
    have h6 := hf.1.1
    have hlen := hf.2.1
    induction d with
    | zero =>
      intro i z hz hd hall
      subst hz
      refine Run.loop ?_
      repeat' (conv => arg 4; whnf); first | refine Run.ret ⟨?_, rfl⟩ | refine Run.condT ?_ | refine Run.condf ?_ | refine Run.condD (fun h => ?_) (fun h => ?_) | refine Run.condN (fun h => ?_) (fun h => ?_) | refine Run.condE (fun h => ?_) (fun h => ?_) | refine Run.condF (fun h => ?_) (fun h => ?_) | refine Run.condM (fun h => ?_) (fun h => ?_) | refine Run.condB (fun h => ?_) (fun h => ?_) | refine Run.check1 ?_ | (exfalso; omega)
      all_goals first
        | (exfalso; omega)
        | exact bk_yes ⟨hn, hs, hf, fun j hj => hall j (by omega)⟩
    | succ d ih =>
      intro i z hz hd hall
      subst hz
      have e : wrap64 ((i : Int) + 1) = ((i + 1 : Nat) : Int) := wrap_eq (by omega) (by omega)
      have e4 : wrap64 (b.now + 4) = b.now + 4 := wrap_eq (by omega) (by omega)
      have no : ¬ SoonAt b i → V.one (A.bool false) = V.one (A.bool (decide (BkOk b))) := fun h => bk_no fun k => h (k.2.2.2 i (by omega))
      have hA : SoonAt b i ↔ (b.now ≤ rd b.ts i ∧ (rd b.ts i < wrap64 (b.now + 4) → 0 ≤ (rdM b.ms i).f5)) := by
        simp only [rdM_nat, rd_nat, e4, SoonAt]
      refine Run.loop ?_
      repeat' (conv => arg 4; whnf); first | refine Run.ret ⟨?_, rfl⟩ | refine Run.condT ?_ | refine Run.condf ?_ | refine Run.condD (fun h => ?_) (fun h => ?_) | refine Run.condN (fun h => ?_) (fun h => ?_) | refine Run.condE (fun h => ?_) (fun h => ?_) | refine Run.condF (fun h => ?_) (fun h => ?_) | refine Run.condM (fun h => ?_) (fun h => ?_) | refine Run.condB (fun h => ?_) (fun h => ?_) | refine Run.check1 ?_ | refine Run.need1 (by simp only [allP, true_and, and_true]; omega) ?_ | refine Run.round ⟨[(.t 1 0, .t 1 0)], [], []⟩ (ih (i + 1) _ e (by omega) ?_) rfl (by (repeat' (first | exact wkEnv_nil | refine wkEnv_cons rfl ?_ | exact wkSto_nil | refine wkSto_none ?_ | refine wkSto_some rfl ?_)); done) (by (repeat' (first | exact wkEnv_nil | refine wkEnv_cons rfl ?_ | exact wkSto_nil | refine wkSto_none ?_ | refine wkSto_some rfl ?_)); done) | (exfalso; omega)
      all_goals first
        | (exfalso; omega)
        | (refine no fun q => ?_; have a := hA.1 q; omega)
        | (intro j hj; rcases Nat.lt_or_ge j i with h1 | h1
           · exact hall j h1
           · obtain rfl : j = i := by omega
             exact hA.2 (by omega))
        | trace_state
  repeat' (conv => arg 4; whnf); first | refine Run.ret ⟨?_, rfl⟩ | refine Run.condT ?_ | refine Run.condf ?_ | refine Run.condD (fun h => ?_) (fun h => ?_) | refine Run.condN (fun h => ?_) (fun h => ?_) | refine Run.condE (fun h => ?_) (fun h => ?_) | refine Run.condF (fun h => ?_) (fun h => ?_) | refine Run.condM (fun h => ?_) (fun h => ?_) | refine Run.condB (fun h => ?_) (fun h => ?_) | refine Run.check1 ?_ | refine Run.call (sin_ok _ _ _) rfl ?_ | refine Run.call (sfits_ok _ _ hw) rfl ?_ | refine Run.round ⟨[(.t 1 0, .t 1 0)], [], []⟩ (loop ?_ ?_ ?_ b.ts.length 0 _ rfl ?_ ?_) rfl (by (repeat' (first | exact wkEnv_nil | refine wkEnv_cons rfl ?_ | exact wkSto_nil | refine wkSto_none ?_ | refine wkSto_some rfl ?_)); done) (by (repeat' (first | exact wkEnv_nil | refine wkEnv_cons rfl ?_ | exact wkSto_nil | refine wkSto_none ?_ | refine wkSto_some rfl ?_)); done)
  all_goals first
    | omega
    | assumption
    | (refine bk_no fun k => ?_; have := k.1; have := k.2.1; omega)
    | exact bk_no fun k => absurd k.2.2.1 ‹_›
    | trace_state
end Go.Proofs.YtmppoajepbbmiaaGreat.AM

/- Plain facts behind the best: nothing that may be costs less; no condition. -/
namespace Go.AM
set_option linter.unusedVariables false
set_option linter.unusedSimpArgs false
open Go.RowKit

def CLe (l : List Mv) (a b : List Int) : Prop := (costM l a).1 < (costM l b).1 ∨ ((costM l a).1 = (costM l b).1 ∧ (costM l a).2 ≤ (costM l b).2)
theorem cLe_refl (l : List Mv) (a : List Int) : CLe l a a := .inr ⟨rfl, Int.le_refl _⟩
theorem cLe_trans {l : List Mv} {a b c : List Int} (h : CLe l a b) (k : CLe l b c) : CLe l a c := by unfold CLe at *; omega
theorem better_le {l : List Mv} {a b : List Int} : (better l a b = true → CLe l a b) ∧ (better l a b = false → CLe l b a) := by
  unfold better CLe
  split
  · split
    · exact ⟨fun _ => by omega, fun _ => by omega⟩
    · simp only [decide_eq_true_eq, decide_eq_false_iff_not]; omega
  · simp only [decide_eq_true_eq, decide_eq_false_iff_not]; omega
/-- What one order does. -/
theorem step_min {l : List Mv} {first : List Int} {sh : Int} (s : Option (List Int)) (o : List Int) :
    (∀ b, s = some b → ∃ t, bestStep l first sh s o = some t ∧ CLe l t b) ∧ (¬ sh < shiftM first o → (ordM l o).2 = true → ∃ t, bestStep l first sh s o = some t ∧ CLe l t (ordM l o).1) := by
  unfold bestStep
  by_cases h1 : sh < shiftM first o
  · rw [if_pos h1]
    exact ⟨fun b hb => ⟨b, hb, cLe_refl l b⟩, fun h => absurd h1 h⟩
  · rw [if_neg h1]
    cases h2 : (ordM l o).2 with
    | false =>
      rw [if_neg Bool.false_ne_true]
      exact ⟨fun b hb => ⟨b, hb, cLe_refl l b⟩, fun _ h => by cases h⟩
    | true =>
      rw [if_pos rfl]
      cases s with
      | none => exact ⟨fun b hb => (by cases hb), fun _ _ => ⟨_, rfl, cLe_refl _ _⟩⟩
      | some c =>
        simp only [Option.some.injEq, forall_eq']
        cases h3 : better l (ordM l o).1 c with
        | true => exact ⟨⟨_, rfl, better_le.1 h3⟩, fun _ _ => ⟨_, rfl, cLe_refl _ _⟩⟩
        | false => exact ⟨⟨_, rfl, cLe_refl _ _⟩, fun _ _ => ⟨_, rfl, better_le.2 h3⟩⟩
theorem fold_keep {l : List Mv} {first : List Int} {sh : Int} : ∀ {os : List (List Int)} {s : Option (List Int)} {b : List Int}, (∃ t, s = some t ∧ CLe l t b) → ∃ t, os.foldl (bestStep l first sh) s = some t ∧ CLe l t b
  | [], s, b, h => h
  | o :: os, s, b, ⟨t, h1, h2⟩ => by
    obtain ⟨t', h3, h4⟩ := (step_min (first := first) (sh := sh) s o).1 t h1
    exact fold_keep (os := os) ⟨t', h3, cLe_trans h4 h2⟩
theorem fold_min {l : List Mv} {first : List Int} {sh : Int} : ∀ {os : List (List Int)} {s : Option (List Int)} {o : List Int}, o ∈ os → ¬ sh < shiftM first o → (ordM l o).2 = true → ∃ t, os.foldl (bestStep l first sh) s = some t ∧ CLe l t (ordM l o).1
  | x :: os, s, o, hm, h1, h2 => by
    rcases List.mem_cons.1 hm with rfl | hm
    · exact fold_keep (os := os) ((step_min s o).2 h1 h2)
    · exact fold_min (os := os) hm h1 h2
theorem fold_from {l : List Mv} {first : List Int} {sh : Int} : ∀ {os : List (List Int)} {s : Option (List Int)} {t : List Int}, os.foldl (bestStep l first sh) s = some t → s = some t ∨ ∃ o, o ∈ os ∧ ¬ sh < shiftM first o ∧ (ordM l o).2 = true ∧ t = (ordM l o).1
  | [], s, t, h => .inl h
  | o :: os, s, t, h => by
    rcases fold_from (os := os) h with h1 | ⟨q, h1, h2⟩
    · rw [bestStep_chg] at h1
      split at h1
      · rename_i hc
        unfold chg at hc
        split at hc
        · cases hc
        · split at hc
          · exact .inr ⟨o, List.mem_cons_self, ‹_›, ‹_›, (Option.some.inj h1).symm⟩
          · cases hc
      · exact .inl h1
    · exact .inr ⟨q, List.mem_cons_of_mem _ h1, h2⟩
/-- The best costs no more than what any order gives that may be. -/
theorem bestO_min {l : List Mv} {sh : Int} {o : List Int} (ho : IsOrd o) (hl : o.length = l.length) (h1 : ¬ sh < shiftM (firstM l) o) (h2 : (ordM l o).2 = true) : ∃ t, bestO l sh = some t ∧ CLe l t (ordM l o).1 :=
  fold_min (allM_mem hl ho) h1 h2
theorem bestO_from {l : List Mv} {sh : Int} {t : List Int} (h : bestO l sh = some t) : ∃ o, (IsOrd o ∧ o.length = l.length) ∧ ¬ sh < shiftM (firstM l) o ∧ (ordM l o).2 = true ∧ t = (ordM l o).1 := by
  rcases fold_from h with h1 | ⟨o, h1, h2⟩
  · cases h1
  · exact ⟨o, ⟨(allM_ord h1).2, (allM_ord h1).1⟩, h2⟩
/-- With more shifts there is a best and it costs no more. -/
theorem bestO_more {l : List Mv} {sh sh' : Int} {t : List Int} (h : bestO l sh = some t) (hs : sh ≤ sh') : ∃ u, bestO l sh' = some u ∧ CLe l u t := by
  obtain ⟨o, ⟨h1, h2⟩, h3, h4, rfl⟩ := bestO_from h
  exact bestO_min (sh := sh') h1 h2 (by omega) h4
theorem ordF_ok {l : List Mv} {o : List Int} (h : (ordF l o).2 = true) : (MovesOk l ∧ o.length = l.length ∧ IsOrd o) ∧ (ordM l o).2 = true ∧ (ordF l o).1 = (ordM l o).1 := by
  unfold ordF at *
  split at h
  · rename_i hc; exact ⟨hc, h, by rw [if_pos hc]⟩
  · cases h
theorem bestO_ordF {l : List Mv} {sh : Int} {t o : List Int} (h : bestO l sh = some t) (h1 : (ordF l o).2 = true) (h2 : shiftM o (firstM l) ≤ sh) : ¬ (costM l (ordF l o).1).1 < (costM l t).1 := by
  obtain ⟨⟨_, hl, ho⟩, hm, he⟩ := ordF_ok h1
  rw [shiftM_symm] at h2
  obtain ⟨u, e, k⟩ := bestO_min (sh := sh) ho hl (by omega) hm
  obtain rfl : t = u := Option.some.inj (h.symm.trans e)
  rw [he]
  unfold CLe at k
  omega
end Go.AM

/- Books that may hold nil; no condition. -/
namespace Go.AM
set_option linter.unusedVariables false
set_option linter.unusedSimpArgs false
open Go.RowKit
variable {P : Program}

def NilB (b : Bk) (x : V) (v : V) (s : List (Option C)) : Prop :=
  (v = .tup [b.own (.k 0) (.k 1), x] ∧ s = [some (.row .mv b.ms), some (.row (.int .i64) b.ts)]) ∨
  (b.ts = [] ∧ v = .tup [.agg [.int .i64 b.now, .int .i64 b.shift, .own (.k 0), .nil], x] ∧ s = [some (.row .mv b.ms)]) ∨
  (b.ms = [] ∧ b.ts = [] ∧ v = .tup [.agg [.int .i64 b.now, .int .i64 b.shift, .nil, .nil], x] ∧ s = [])
theorem nilB_len {b : Bk} {x v : V} {s : List (Option C)} (h : NilB b x v s) : 0 ≤ s.length := Nat.zero_le _
theorem nilB_ok {b : Bk} {x : V} {f : FuncId} {args : List V} (h : ∃ v s, NilB b x v s ∧ Ok P f args [] v s) : Ok P f args [] (.tup [b.own (.k 0) (.k 1), x]) [some (.row .mv b.ms), some (.row (.int .i64) b.ts)] := by
  obtain ⟨v, s, (⟨rfl, rfl⟩ | ⟨h1, rfl, rfl⟩ | ⟨h1, h2, rfl, rfl⟩), k⟩ := h
  · exact k
  · rw [h1]
    exact k.virt (.int .i64) rfl
  · rw [h1, h2]
    exact (k.virt .mv rfl).virt (.int .i64) rfl
theorem then_gone {b : Bk} {a : Nat} (hb : BkOk b) (ha : a < b.ms.length) (hg : GoneOk b a) : roundI b a = (roundB b a, (planM (thenL b a) (tk b.ts a) 6).2) := by
  unfold roundI
  rw [if_pos hg]
  rfl
theorem roundI_no {b : Bk} {a : Nat} (hg : ¬ GoneOk b a) : roundI b a = (Bk.z, false) := if_neg hg
theorem roundS_yes {b : Bk} {a : Nat} (hg : RoundOk b a) : roundS b a = (roundB b a, true) := if_pos hg
theorem roundS_no {b : Bk} {a : Nat} (hg : ¬ RoundOk b a) : roundS b a = (Bk.z, false) := if_neg hg
end Go.AM

/- Who goes round at their tick, the program's and the reference's; condition: a book that is ok, a place in it. -/
namespace Go.Proofs.YtmppoajepbbmiaaGreat.AM
open Go.AM Go.RowKit
set_option linter.unusedVariables false
set_option linter.unusedSimpArgs false
set_option maxRecDepth 100000

theorem round_ok (b : Bk) (a : Nat) (hb : BkOk b) (ha : a < b.ms.length) : Ok P 64 [b.lent, .one (.int .i64 (a : Int))] [] (.tup [(roundI b a).1.own (.k 0) (.k 1), .one (.bool (roundI b a).2)]) [some (.row .mv (roundI b a).1.ms), some (.row (.int .i64) (roundI b a).1.ts)] := by
  refine nilB_ok ?_
  have hft := hb.2.2.1
  have h6 := hft.1.1
  have hlen := hft.2.1
  have hta := bk_tick hb ha
  have e4 : wrap64 (tk b.ts a + 4) = tk b.ts a + 4 := wrap_eq (by omega) (by omega)
  have e6 : wrap64 (tk b.ts a + 6) = tk b.ts a + 6 := wrap_eq (by omega) (by omega)
  refine Ok.of_rel (F := mk Tryz.f64 0) Tryz.func64 rfl rfl tabOk mixed rfl rfl rfl rfl rfl (Nat.le_of_ble_eq_true rfl) (by first | exact fun _ _ => nilR_len | exact fun _ _ => nilB_len) (.go 5000 ?_)
  have loop : ∀ (d i : Nat) (z y : Int) (s : List Mv), z = i → y = tk b.ts a → i + d = b.ms.length → s.length ≤ i → (a < i → GoneOk b a) → Fact (foldFrom (thenStep b a) i d s = thenL b a) → Run P (mk Tryz.f64 0) (NilB (roundI b a).1 (.one (.bool (roundI b a).2)))
      (.loop ⟨[(1, .one (.int .i64 (a : Int))), (2, .one (.ptr (.t 2 0) 0)), (4, .one (.ptr (.t 4 0) 0)), (6, .one (.int .i64 y)), (7, .one (.ptr (.t 7 0) 0)), (22, .one (.lst .mv b.ms false)), (23, .one (.int .i64 (b.ms.length : Int))), (24, .one (.int .i64 z))],
        [(.t 2 0, some (.cells b.lent.atoms)), (.t 4 0, some (.cells [.int .i64 0, .int .i64 0, .nil, .nil])), (.t 7 0, some (.cells [.int .i64 y, .int .i64 b.shift, .own (.t 1000 0), .nil])), (.t 1000 0, some (.row .mv s))], [.lp [0, 1, 0, 1, 1, 1], .blk 0, .code [1, 1, 1, 1]], none⟩) := by
    intro d
    induction d with
    | zero =>
      intro i z y s hz hy hd hl hg he
      subst hz; subst hy
      have hgo := hg (by omega)
      have hth : s = thenL b a := he.h
      subst hth
      have hplan := plan_ok (thenL b a) (tk b.ts a) 6 (then_movesOk hb ha hgo) (by omega) (by omega)
      rw [then_gone hb ha hgo]
      clear he
      refine Run.loop ?_
      repeat' (conv => arg 4; whnf); first | refine Run.ret ⟨?_, rfl⟩ | refine Run.condT ?_ | refine Run.condf ?_ | refine Run.condD (fun h => ?_) (fun h => ?_) | refine Run.condN (fun h => ?_) (fun h => ?_) | refine Run.condE (fun h => ?_) (fun h => ?_) | refine Run.condF (fun h => ?_) (fun h => ?_) | refine Run.condM (fun h => ?_) (fun h => ?_) | refine Run.condB (fun h => ?_) (fun h => ?_) | refine Run.check1 ?_ | refine Run.call (hplan) rfl ?_ | (refine Run.ret (.inl ⟨rfl, rfl⟩)) | (exfalso; omega)
      all_goals trace_state
    | succ d ih =>
      intro i z y s hz hy hd hl hg he
      subst hz; subst hy
      have hi : i < b.ms.length := by omega
      have e := fs (i := i) (by omega)
      have hs' := thenStep_len (b := b) (a := a) hl
      have he' : Fact (foldFrom (thenStep b a) (i + 1) d (thenStep b a i s) = thenL b a) := ⟨he.h⟩
      have st1 : i = a → thenStep b a i s = s ++ [{ at' b.ms i with f3 := tk b.ts a + 6, f5 := -1 }] := fun q => by unfold thenStep; rw [if_pos q]; rfl
      have st2 : ¬ i = a → tk b.ts i < tk b.ts a → thenStep b a i s = s := fun q q' => by unfold thenStep; rw [if_neg q, if_pos q']
      have st3 : ¬ i = a → ¬ tk b.ts i < tk b.ts a → tk b.ts i < tk b.ts a + 4 → thenStep b a i s = s ++ [{ at' b.ms i with f5 := tk b.ts i }] := fun q q' q'' => by unfold thenStep; rw [if_neg q, if_neg q', if_pos q'']
      have st4 : ¬ i = a → ¬ tk b.ts i < tk b.ts a → ¬ tk b.ts i < tk b.ts a + 4 → thenStep b a i s = s ++ [at' b.ms i] := fun q q' q'' => by unfold thenStep; rw [if_neg q, if_neg q', if_neg q'']
      have hno : i = a → (rdM b.ms (i : Int)).f4 < wrap64 (tk b.ts a + 6) → NilB (roundI b a).1 (.one (.bool (roundI b a).2)) (.tup [.agg [.int .i64 0, .int .i64 0, .nil, .nil], .one (.bool false)]) [] := fun q q' => by
        subst q
        rw [rdM_nat, e6] at q'
        have : ¬ GoneOk b i := fun k => by unfold GoneOk at k; omega
        rw [roundI_no this]
        exact .inr (.inr ⟨rfl, rfl, rfl, rfl⟩)
      clear he
      refine Run.loop ?_
      repeat' (conv => arg 4; whnf); first | refine Run.ret ⟨?_, rfl⟩ | refine Run.condT ?_ | refine Run.condf ?_ | refine Run.condD (fun h => ?_) (fun h => ?_) | refine Run.condN (fun h => ?_) (fun h => ?_) | refine Run.condE (fun h => ?_) (fun h => ?_) | refine Run.condF (fun h => ?_) (fun h => ?_) | refine Run.condM (fun h => ?_) (fun h => ?_) | refine Run.condB (fun h => ?_) (fun h => ?_) | refine Run.check1 ?_ | refine Run.need1 (by simp only [allP, true_and, and_true, List.length_cons, List.length_nil]; omega) ?_ | refine Run.round ⟨[(.t 2 0, .t 2 0), (.t 4 0, .t 4 0), (.t 7 0, .t 7 0), (.t 1000 0, .t 1000 0)], [], []⟩ (ih (i + 1) _ _ _ e.h rfl (by omega) ?_ ?_ ?_) rfl (by (repeat' (first | exact wkEnv_nil | refine wkEnv_cons rfl ?_ | exact wkSto_nil | refine wkSto_none ?_ | refine wkSto_some rfl ?_)); done) (by (repeat' (first | exact wkEnv_nil | refine wkEnv_cons rfl ?_ | exact wkSto_nil | refine wkSto_none ?_ | refine wkSto_some rfl ?_)); done) | refine Run.round ⟨[(.t 2 0, .t 2 0), (.t 4 0, .t 4 0), (.t 7 0, .t 7 0), (.t 70 0, .t 1000 0)], [], []⟩ (ih (i + 1) _ _ _ e.h rfl (by omega) ?_ ?_ ?_) rfl (by (repeat' (first | exact wkEnv_nil | refine wkEnv_cons rfl ?_ | exact wkSto_nil | refine wkSto_none ?_ | refine wkSto_some rfl ?_)); done) (by (repeat' (first | exact wkEnv_nil | refine wkEnv_cons rfl ?_ | exact wkSto_nil | refine wkSto_none ?_ | refine wkSto_some rfl ?_)); done) | (refine Run.ret (hno ?_ ?_)) | (exfalso; omega)
      all_goals clear ih hno
      all_goals simp only [rd_nat, rdM_nat, e4, e6] at *
      all_goals first
        | assumption
        | omega
        | (rw [st1 (by omega)] at hs' he'
           first | exact hs' | exact he')
        | (rw [st2 (by omega) (by omega)] at hs' he'
           first | exact hs' | exact he')
        | (rw [st3 (by omega) (by omega) (by omega)] at hs' he'
           first | exact hs' | exact he')
        | (rw [st4 (by omega) (by omega) (by omega)] at hs' he'
           first | exact hs' | exact he')
        | (intro q
           first
             | exact hg (by omega)
             | (obtain rfl : i = a := by omega
                unfold GoneOk
                omega))
        | trace_state
  repeat' (conv => arg 4; whnf); first | refine Run.ret ⟨?_, rfl⟩ | refine Run.condT ?_ | refine Run.condf ?_ | refine Run.condD (fun h => ?_) (fun h => ?_) | refine Run.condN (fun h => ?_) (fun h => ?_) | refine Run.condE (fun h => ?_) (fun h => ?_) | refine Run.condF (fun h => ?_) (fun h => ?_) | refine Run.condM (fun h => ?_) (fun h => ?_) | refine Run.condB (fun h => ?_) (fun h => ?_) | refine Run.check1 ?_ | refine Run.need1 (by simp only [allP, true_and, and_true]; omega) ?_ | refine Run.round ⟨[(.t 2 0, .t 2 0), (.t 4 0, .t 4 0), (.t 7 0, .t 7 0)], [(.t 1000 0, .mv)], []⟩ (loop b.ms.length 0 _ _ _ rfl ?_ ?_ ?_ ?_ ?_) rfl (by (repeat' (first | exact wkEnv_nil | refine wkEnv_cons rfl ?_ | exact wkSto_nil | refine wkSto_none ?_ | refine wkSto_some rfl ?_)); done) (by (repeat' (first | exact wkEnv_nil | refine wkEnv_cons rfl ?_ | exact wkSto_nil | refine wkSto_none ?_ | refine wkSto_some rfl ?_)); done)
  all_goals first | exact rd_nat _ _ | omega | exact Nat.le_refl _ | exact fun q => absurd q (by omega) | exact ⟨rfl⟩ | trace_state
def thenS (b : Bk) (a : Nat) : Bk × Bool := if GoneOk b a then (⟨tk b.ts a, b.shift, thenL b a, []⟩, true) else (Bk.z, false)
theorem gone_ok (m : Mv) (t : Int) (ht : 0 ≤ t ∧ t ≤ 10000) : Ok P 133 [.agg (encMv m), .one (.int .i64 t)] [] (.tup [.agg (encMv (goneMv t m)), .one (.bool (decide (t + 6 ≤ m.f4)))]) [] := by
  have e6 : wrap64 (t + 6) = t + 6 := wrap_eq (by omega) (by omega)
  refine Ok.of_run (F := mk Tryz.f133 0) Tryz.func133 rfl rfl tabOk mixed rfl rfl rfl rfl rfl (Nat.le_of_ble_eq_true rfl) (Nat.le_of_ble_eq_true rfl) (.go 5000 ?_)
  repeat' (conv => arg 4; whnf); first | refine Run.ret ⟨?_, rfl⟩ | refine Run.condT ?_ | refine Run.condf ?_ | refine Run.condD (fun h => ?_) (fun h => ?_) | refine Run.condN (fun h => ?_) (fun h => ?_) | refine Run.condE (fun h => ?_) (fun h => ?_) | refine Run.condF (fun h => ?_) (fun h => ?_) | refine Run.condM (fun h => ?_) (fun h => ?_) | refine Run.condB (fun h => ?_) (fun h => ?_) | refine Run.check1 ?_
  all_goals first | (simp only [e6]; rfl) | trace_state
theorem then_ok (b : Bk) (a : Nat) (hb : BkOk b) (ha : a < b.ms.length) : Ok P 97 [b.lent, .one (.int .i64 (a : Int))] [] (.tup [(thenS b a).1.own (.k 0) (.k 1), .one (.bool (thenS b a).2)]) [some (.row .mv (thenS b a).1.ms), some (.row (.int .i64) (thenS b a).1.ts)] := by
  refine nilB_ok ?_
  have hft := hb.2.2.1
  have h6 := hft.1.1
  have hlen := hft.2.1
  have hta := bk_tick hb ha
  have e4 : wrap64 (tk b.ts a + 4) = tk b.ts a + 4 := wrap_eq (by omega) (by omega)
  refine Ok.of_rel (F := mk Tryz.f97 0) Tryz.func97 rfl rfl tabOk mixed rfl rfl rfl rfl rfl (Nat.le_of_ble_eq_true rfl) (by first | exact fun _ _ => nilR_len | exact fun _ _ => nilB_len) (.go 5000 ?_)
  have loop : ∀ (d i : Nat) (z y : Int) (s : List Mv), z = i → y = tk b.ts a → i + d = b.ms.length → s.length ≤ i → (a < i → GoneOk b a) → Fact (foldFrom (thenStep b a) i d s = thenL b a) → Run P (mk Tryz.f97 0) (NilB (thenS b a).1 (.one (.bool (thenS b a).2)))
      (.loop ⟨[(1, .one (.int .i64 (a : Int))), (2, .one (.ptr (.t 2 0) 0)), (4, .one (.ptr (.t 4 0) 0)), (6, .one (.int .i64 y)), (7, .one (.ptr (.t 7 0) 0)), (8, .one (.int .i64 z))],
        [(.t 2 0, some (.cells b.lent.atoms)), (.t 4 0, some (.cells [.int .i64 0, .int .i64 0, .nil, .nil])), (.t 7 0, some (.cells [.int .i64 y, .int .i64 b.shift, .own (.t 1000 0), .nil])), (.t 1000 0, some (.row .mv s))], [.lp [0, 1, 0, 1, 1, 1], .blk 0, .code [1, 1, 1, 1]], none⟩) := by
    intro d
    induction d with
    | zero =>
      intro i z y s hz hy hd hl hg he
      subst hz; subst hy
      have hgo := hg (by omega)
      have hth : s = thenL b a := he.h
      subst hth
      rw [show thenS b a = (⟨tk b.ts a, b.shift, thenL b a, []⟩, true) from if_pos hgo]
      clear he
      refine Run.loop ?_
      repeat' (conv => arg 4; whnf); first | refine Run.ret ⟨?_, rfl⟩ | refine Run.condT ?_ | refine Run.condf ?_ | refine Run.condD (fun h => ?_) (fun h => ?_) | refine Run.condN (fun h => ?_) (fun h => ?_) | refine Run.condE (fun h => ?_) (fun h => ?_) | refine Run.condF (fun h => ?_) (fun h => ?_) | refine Run.condM (fun h => ?_) (fun h => ?_) | refine Run.condB (fun h => ?_) (fun h => ?_) | refine Run.check1 ?_ | (refine Run.ret (.inr (.inl ⟨rfl, rfl, rfl⟩))) | (exfalso; omega)
    | succ d ih =>
      intro i z y s hz hy hd hl hg he
      subst hz; subst hy
      have hi : i < b.ms.length := by omega
      have e := fs (i := i) (by omega)
      have hs' := thenStep_len (b := b) (a := a) hl
      have he' : Fact (foldFrom (thenStep b a) (i + 1) d (thenStep b a i s) = thenL b a) := ⟨he.h⟩
      have st1 : i = a → thenStep b a i s = s ++ [goneMv (tk b.ts a) (at' b.ms i)] := fun q => by unfold thenStep; rw [if_pos q]
      have st2 : ¬ i = a → tk b.ts i < tk b.ts a → thenStep b a i s = s := fun q q' => by unfold thenStep; rw [if_neg q, if_pos q']
      have st3 : ¬ i = a → ¬ tk b.ts i < tk b.ts a → tk b.ts i < tk b.ts a + 4 → thenStep b a i s = s ++ [{ at' b.ms i with f5 := tk b.ts i }] := fun q q' q'' => by unfold thenStep; rw [if_neg q, if_neg q', if_pos q'']
      have st4 : ¬ i = a → ¬ tk b.ts i < tk b.ts a → ¬ tk b.ts i < tk b.ts a + 4 → thenStep b a i s = s ++ [at' b.ms i] := fun q q' q'' => by unfold thenStep; rw [if_neg q, if_neg q', if_neg q'']
      have hgn := fun m => gone_ok m (tk b.ts a) (by omega)
      have hno : i = a → ¬ (tk b.ts a + 6 ≤ (rdM b.ms (i : Int)).f4) → NilB (thenS b a).1 (.one (.bool (thenS b a).2)) (.tup [.agg [.int .i64 0, .int .i64 0, .nil, .nil], .one (.bool false)]) [] := fun q q' => by
        subst q
        rw [rdM_nat] at q'
        rw [show thenS b i = (Bk.z, false) from if_neg q']
        exact .inr (.inr ⟨rfl, rfl, rfl, rfl⟩)
      clear he
      refine Run.loop ?_
      repeat' (conv => arg 4; whnf); first | refine Run.ret ⟨?_, rfl⟩ | refine Run.condT ?_ | refine Run.condf ?_ | refine Run.condD (fun h => ?_) (fun h => ?_) | refine Run.condN (fun h => ?_) (fun h => ?_) | refine Run.condE (fun h => ?_) (fun h => ?_) | refine Run.condF (fun h => ?_) (fun h => ?_) | refine Run.condM (fun h => ?_) (fun h => ?_) | refine Run.condB (fun h => ?_) (fun h => ?_) | refine Run.check1 ?_ | refine Run.call (hgn _) rfl ?_ | refine Run.need1 (by simp only [allP, true_and, and_true, List.length_cons, List.length_nil]; omega) ?_ | refine Run.round ⟨[(.t 2 0, .t 2 0), (.t 4 0, .t 4 0), (.t 7 0, .t 7 0), (.t 1000 0, .t 1000 0)], [], []⟩ (ih (i + 1) _ _ _ e.h rfl (by omega) ?_ ?_ ?_) rfl (by (repeat' (first | exact wkEnv_nil | refine wkEnv_cons rfl ?_ | exact wkSto_nil | refine wkSto_none ?_ | refine wkSto_some rfl ?_)); done) (by (repeat' (first | exact wkEnv_nil | refine wkEnv_cons rfl ?_ | exact wkSto_nil | refine wkSto_none ?_ | refine wkSto_some rfl ?_)); done) | refine Run.round ⟨[(.t 2 0, .t 2 0), (.t 4 0, .t 4 0), (.t 7 0, .t 7 0), (.t 49 0, .t 1000 0)], [], []⟩ (ih (i + 1) _ _ _ e.h rfl (by omega) ?_ ?_ ?_) rfl (by (repeat' (first | exact wkEnv_nil | refine wkEnv_cons rfl ?_ | exact wkSto_nil | refine wkSto_none ?_ | refine wkSto_some rfl ?_)); done) (by (repeat' (first | exact wkEnv_nil | refine wkEnv_cons rfl ?_ | exact wkSto_nil | refine wkSto_none ?_ | refine wkSto_some rfl ?_)); done) | refine Run.round ⟨[(.t 2 0, .t 2 0), (.t 4 0, .t 4 0), (.t 7 0, .t 7 0), (.t 76 0, .t 1000 0)], [], []⟩ (ih (i + 1) _ _ _ e.h rfl (by omega) ?_ ?_ ?_) rfl (by (repeat' (first | exact wkEnv_nil | refine wkEnv_cons rfl ?_ | exact wkSto_nil | refine wkSto_none ?_ | refine wkSto_some rfl ?_)); done) (by (repeat' (first | exact wkEnv_nil | refine wkEnv_cons rfl ?_ | exact wkSto_nil | refine wkSto_none ?_ | refine wkSto_some rfl ?_)); done) | (refine Run.ret (hno ?_ ?_)) | (exfalso; omega)
      all_goals clear ih hno
      all_goals simp only [rd_nat, rdM_nat, e4] at *
      all_goals first
        | assumption
        | omega
        | (rw [st1 (by omega)] at hs' he'
           first | exact hs' | exact he')
        | (rw [st2 (by omega) (by omega)] at hs' he'
           first | exact hs' | exact he')
        | (rw [st3 (by omega) (by omega) (by omega)] at hs' he'
           first | exact hs' | exact he')
        | (rw [st4 (by omega) (by omega) (by omega)] at hs' he'
           first | exact hs' | exact he')
        | (intro q
           first
             | exact hg (by omega)
             | (obtain rfl : i = a := by omega
                unfold GoneOk
                omega))
        | trace_state
  repeat' (conv => arg 4; whnf); first | refine Run.ret ⟨?_, rfl⟩ | refine Run.condT ?_ | refine Run.condf ?_ | refine Run.condD (fun h => ?_) (fun h => ?_) | refine Run.condN (fun h => ?_) (fun h => ?_) | refine Run.condE (fun h => ?_) (fun h => ?_) | refine Run.condF (fun h => ?_) (fun h => ?_) | refine Run.condM (fun h => ?_) (fun h => ?_) | refine Run.condB (fun h => ?_) (fun h => ?_) | refine Run.check1 ?_ | refine Run.need1 (by simp only [allP, true_and, and_true]; omega) ?_ | refine Run.round ⟨[(.t 2 0, .t 2 0), (.t 4 0, .t 4 0), (.t 7 0, .t 7 0)], [(.t 1000 0, .mv)], []⟩ (loop b.ms.length 0 _ _ _ rfl ?_ ?_ ?_ ?_ ?_) rfl (by (repeat' (first | exact wkEnv_nil | refine wkEnv_cons rfl ?_ | exact wkSto_nil | refine wkSto_none ?_ | refine wkSto_some rfl ?_)); done) (by (repeat' (first | exact wkEnv_nil | refine wkEnv_cons rfl ?_ | exact wkSto_nil | refine wkSto_none ?_ | refine wkSto_some rfl ?_)); done)
  all_goals first | exact rd_nat _ _ | omega | exact Nat.le_refl _ | exact fun q => absurd q (by omega) | exact ⟨rfl⟩ | trace_state
theorem sround_ok (b : Bk) (a : Nat) (hb : BkOk b) (ha : a < b.ms.length) : Ok P 67 [b.lent, .one (.int .i64 (a : Int))] [] (.tup [(roundS b a).1.own (.k 0) (.k 1), .one (.bool (roundS b a).2)]) [some (.row .mv (roundS b a).1.ms), some (.row (.int .i64) (roundS b a).1.ts)] := by
  refine nilB_ok ?_
  have hta := bk_tick hb ha
  have hth := then_ok b a hb ha
  refine Ok.of_rel (F := mk Tryz.f67 0) Tryz.func67 rfl rfl tabOk mixed rfl rfl rfl rfl rfl (Nat.le_of_ble_eq_true rfl) (by first | exact fun _ _ => nilR_len | exact fun _ _ => nilB_len) (.go 5000 ?_)
  by_cases hg : GoneOk b a
  · rw [show thenS b a = (⟨tk b.ts a, b.shift, thenL b a, []⟩, true) from if_pos hg] at hth
    have hplan := splan_ok (thenL b a) (tk b.ts a) 6 (then_movesOk hb ha hg) (by omega) (by omega)
    cases hp : (planM (thenL b a) (tk b.ts a) 6).2 with
    | true =>
      rw [roundS_yes ⟨hg, hp⟩]
      rw [hp] at hplan
      repeat' (conv => arg 4; whnf); first | refine Run.ret ⟨?_, rfl⟩ | refine Run.condT ?_ | refine Run.condf ?_ | refine Run.condD (fun h => ?_) (fun h => ?_) | refine Run.condN (fun h => ?_) (fun h => ?_) | refine Run.condE (fun h => ?_) (fun h => ?_) | refine Run.condF (fun h => ?_) (fun h => ?_) | refine Run.condM (fun h => ?_) (fun h => ?_) | refine Run.condB (fun h => ?_) (fun h => ?_) | refine Run.check1 ?_ | refine Run.call (hth) rfl ?_ | refine Run.call (hplan) rfl ?_ | (refine Run.ret (.inl ⟨rfl, rfl⟩)) | (exfalso; omega)
      all_goals trace_state
    | false =>
      rw [roundS_no fun q => absurd q.2 (by unfold roundP; rw [hp]; exact Bool.false_ne_true)]
      rw [hp] at hplan
      repeat' (conv => arg 4; whnf); first | refine Run.ret ⟨?_, rfl⟩ | refine Run.condT ?_ | refine Run.condf ?_ | refine Run.condD (fun h => ?_) (fun h => ?_) | refine Run.condN (fun h => ?_) (fun h => ?_) | refine Run.condE (fun h => ?_) (fun h => ?_) | refine Run.condF (fun h => ?_) (fun h => ?_) | refine Run.condM (fun h => ?_) (fun h => ?_) | refine Run.condB (fun h => ?_) (fun h => ?_) | refine Run.check1 ?_ | refine Run.call (hth) rfl ?_ | refine Run.call (hplan) rfl ?_ | (refine Run.ret (.inr (.inr ⟨rfl, rfl, rfl, rfl⟩))) | (exfalso; omega)
      all_goals trace_state
  · rw [show thenS b a = (Bk.z, false) from if_neg hg] at hth
    rw [roundS_no fun q => hg q.1]
    repeat' (conv => arg 4; whnf); first | refine Run.ret ⟨?_, rfl⟩ | refine Run.condT ?_ | refine Run.condf ?_ | refine Run.condD (fun h => ?_) (fun h => ?_) | refine Run.condN (fun h => ?_) (fun h => ?_) | refine Run.condE (fun h => ?_) (fun h => ?_) | refine Run.condF (fun h => ?_) (fun h => ?_) | refine Run.condM (fun h => ?_) (fun h => ?_) | refine Run.condB (fun h => ?_) (fun h => ?_) | refine Run.check1 ?_ | refine Run.call (hth) rfl ?_ | (refine Run.ret (.inr (.inr ⟨rfl, rfl, rfl, rfl⟩))) | (exfalso; omega)
    all_goals trace_state
end Go.Proofs.YtmppoajepbbmiaaGreat.AM

/- StripSure, the program's and the reference's; condition: the ticks are of 64 bits. -/
namespace Go.Proofs.YtmppoajepbbmiaaGreat.AM
open Go.AM Go.RowKit
set_option linter.unusedVariables false
set_option linter.unusedSimpArgs false
set_option maxRecDepth 100000

theorem sure_yes {b : Bk} (h : SureM b) : V.one (A.bool true) = V.one (A.bool (decide (SureM b))) := by rw [decide_eq_true h]
theorem sure_no {b : Bk} (h : ¬ SureM b) : V.one (A.bool false) = V.one (A.bool (decide (SureM b))) := by rw [decide_eq_false h]
theorem roundI_2 {b : Bk} {a : Nat} : (roundI b a).2 = decide (RoundOk b a) := by
  unfold roundI
  split
  · rename_i h
    cases hp : (roundP b a).2 with
    | true => exact (decide_eq_true (show RoundOk b a from ⟨h, hp⟩)).symm
    | false => exact (decide_eq_false (fun q : RoundOk b a => absurd q.2 (by rw [hp]; exact Bool.false_ne_true))).symm
  · rename_i h
    exact (decide_eq_false (fun q : RoundOk b a => h q.1)).symm
theorem roundS_2 {b : Bk} {a : Nat} : (roundS b a).2 = decide (RoundOk b a) := by
  unfold roundS
  split
  · rename_i h; exact (decide_eq_true h).symm
  · rename_i h; exact (decide_eq_false h).symm
theorem sure_ok (b : Bk) (hw : TkWf b.ts) : Ok P 18 [b.lent] [] (.one (.bool (decide (SureM b)))) [] := by
  have hbk := bookOk_ok b hw
  refine Ok.of_run (F := mk Tryz.f18 0) Tryz.func18 rfl rfl tabOk mixed rfl rfl rfl rfl rfl (Nat.le_of_ble_eq_true rfl) (Nat.le_of_ble_eq_true rfl) (.go 5000 ?_)
  by_cases hb : BkOk b
  · rw [decide_eq_true hb] at hbk
    have h6 := hb.2.2.1.1.1
    have loop : ∀ (d i : Nat) (z : Int), z = i → i + d = b.ms.length → (∀ j, j < i → (at' b.ms j).f1 = true → RoundOk b j) → Run P (mk Tryz.f18 0) (fun v st => v = .one (.bool (decide (SureM b))) ∧ st = []) (.loop ⟨[(1, .one (.ptr (.t 1 0) 0)), (11, .one (.lst .mv b.ms false)), (12, .one (.int .i64 (b.ms.length : Int))), (13, .one (.int .i64 z))], [(.t 1 0, some (.cells b.lent.atoms))], [.lp [0, 1, 0, 1, 1], .blk 0, .code [1, 1, 1]], none⟩) := by
      intro d
      induction d with
      | zero =>
        intro i z hz hd hall
        subst hz
        refine Run.loop ?_
        repeat' (conv => arg 4; whnf); first | refine Run.ret ⟨?_, rfl⟩ | refine Run.condT ?_ | refine Run.condf ?_ | refine Run.condD (fun h => ?_) (fun h => ?_) | refine Run.condN (fun h => ?_) (fun h => ?_) | refine Run.condE (fun h => ?_) (fun h => ?_) | refine Run.condF (fun h => ?_) (fun h => ?_) | refine Run.condM (fun h => ?_) (fun h => ?_) | refine Run.condB (fun h => ?_) (fun h => ?_) | refine Run.check1 ?_ | (exfalso; omega)
        all_goals first | exact sure_yes ⟨hb, fun j hj => hall j (by omega)⟩ | (exfalso; omega)
      | succ d ih =>
        intro i z hz hd hall
        subst hz
        have hi : i < b.ms.length := by omega
        have e := fs (i := i) (by omega)
        have hro := round_ok b i hb hi
        rw [roundI_2] at hro
        generalize (roundI b i).1 = rb at hro
        have no : (at' b.ms i).f1 = true → ¬ RoundOk b i → V.one (A.bool false) = V.one (A.bool (decide (SureM b))) := fun q h => sure_no fun k => h (k.2 i hi q)
        rw [← rdM_nat] at no
        refine Run.loop ?_
        repeat' (conv => arg 4; whnf); first | refine Run.ret ⟨?_, rfl⟩ | refine Run.condT ?_ | refine Run.condf ?_ | refine Run.condD (fun h => ?_) (fun h => ?_) | refine Run.condN (fun h => ?_) (fun h => ?_) | refine Run.condE (fun h => ?_) (fun h => ?_) | refine Run.condF (fun h => ?_) (fun h => ?_) | refine Run.condM (fun h => ?_) (fun h => ?_) | refine Run.condB (fun h => ?_) (fun h => ?_) | refine Run.check1 ?_ | refine Run.need1 (by simp only [allP, true_and, and_true]; omega) ?_ | refine Run.call (hro) rfl ?_ | refine Run.round ⟨[(.t 1 0, .t 1 0)], [], []⟩ (ih (i + 1) _ e.h (by omega) ?_) rfl (by (repeat' (first | exact wkEnv_nil | refine wkEnv_cons rfl ?_ | exact wkSto_nil | refine wkSto_none ?_ | refine wkSto_some rfl ?_)); done) (by (repeat' (first | exact wkEnv_nil | refine wkEnv_cons rfl ?_ | exact wkSto_nil | refine wkSto_none ?_ | refine wkSto_some rfl ?_)); done) | (exfalso; omega)
        all_goals clear ih
        all_goals first
          | (exfalso; omega)
          | exact no ‹_› ‹_›
          | (intro j hj hl
             rcases Nat.lt_or_ge j i with h1 | h1
             · exact hall j h1 hl
             · obtain rfl : j = i := by omega
               rw [← rdM_nat] at hl
               first | assumption | exact absurd hl (by assumption) | (simp_all; done))
          | trace_state
    repeat' (conv => arg 4; whnf); first | refine Run.ret ⟨?_, rfl⟩ | refine Run.condT ?_ | refine Run.condf ?_ | refine Run.condD (fun h => ?_) (fun h => ?_) | refine Run.condN (fun h => ?_) (fun h => ?_) | refine Run.condE (fun h => ?_) (fun h => ?_) | refine Run.condF (fun h => ?_) (fun h => ?_) | refine Run.condM (fun h => ?_) (fun h => ?_) | refine Run.condB (fun h => ?_) (fun h => ?_) | refine Run.check1 ?_ | refine Run.call (hbk) rfl ?_ | refine Run.round ⟨[(.t 1 0, .t 1 0)], [], []⟩ (loop b.ms.length 0 _ rfl (by omega) (fun j hj => absurd hj (by omega))) rfl (by (repeat' (first | exact wkEnv_nil | refine wkEnv_cons rfl ?_ | exact wkSto_nil | refine wkSto_none ?_ | refine wkSto_some rfl ?_)); done) (by (repeat' (first | exact wkEnv_nil | refine wkEnv_cons rfl ?_ | exact wkSto_nil | refine wkSto_none ?_ | refine wkSto_some rfl ?_)); done)
    all_goals trace_state
  · rw [decide_eq_false hb] at hbk
    repeat' (conv => arg 4; whnf); first | refine Run.ret ⟨?_, rfl⟩ | refine Run.condT ?_ | refine Run.condf ?_ | refine Run.condD (fun h => ?_) (fun h => ?_) | refine Run.condN (fun h => ?_) (fun h => ?_) | refine Run.condE (fun h => ?_) (fun h => ?_) | refine Run.condF (fun h => ?_) (fun h => ?_) | refine Run.condM (fun h => ?_) (fun h => ?_) | refine Run.condB (fun h => ?_) (fun h => ?_) | refine Run.check1 ?_ | refine Run.call (hbk) rfl ?_
    all_goals exact sure_no fun k => hb k.1
theorem ssure_ok (b : Bk) (hw : TkWf b.ts) : Ok P 24 [b.lent] [] (.one (.bool (decide (SureM b)))) [] := by
  have hbk := sbookOk_ok b hw
  refine Ok.of_run (F := mk Tryz.f24 0) Tryz.func24 rfl rfl tabOk mixed rfl rfl rfl rfl rfl (Nat.le_of_ble_eq_true rfl) (Nat.le_of_ble_eq_true rfl) (.go 5000 ?_)
  by_cases hb : BkOk b
  · rw [decide_eq_true hb] at hbk
    have h6 := hb.2.2.1.1.1
    have loop : ∀ (d i : Nat) (z : Int), z = i → i + d = b.ms.length → (∀ j, j < i → (at' b.ms j).f1 = true → RoundOk b j) → Run P (mk Tryz.f24 0) (fun v st => v = .one (.bool (decide (SureM b))) ∧ st = []) (.loop ⟨[(1, .one (.ptr (.t 1 0) 0)), (3, .one (.int .i64 z))], [(.t 1 0, some (.cells b.lent.atoms))], [.lp [0, 1, 0, 1, 1], .blk 0, .code [1, 1, 1]], none⟩) := by
      intro d
      induction d with
      | zero =>
        intro i z hz hd hall
        subst hz
        refine Run.loop ?_
        repeat' (conv => arg 4; whnf); first | refine Run.ret ⟨?_, rfl⟩ | refine Run.condT ?_ | refine Run.condf ?_ | refine Run.condD (fun h => ?_) (fun h => ?_) | refine Run.condN (fun h => ?_) (fun h => ?_) | refine Run.condE (fun h => ?_) (fun h => ?_) | refine Run.condF (fun h => ?_) (fun h => ?_) | refine Run.condM (fun h => ?_) (fun h => ?_) | refine Run.condB (fun h => ?_) (fun h => ?_) | refine Run.check1 ?_ | (exfalso; omega)
        all_goals first | exact sure_yes ⟨hb, fun j hj => hall j (by omega)⟩ | (exfalso; omega)
      | succ d ih =>
        intro i z hz hd hall
        subst hz
        have hi : i < b.ms.length := by omega
        have e := fs (i := i) (by omega)
        have hro := sround_ok b i hb hi
        rw [roundS_2] at hro
        generalize (roundS b i).1 = rb at hro
        have no : (at' b.ms i).f1 = true → ¬ RoundOk b i → V.one (A.bool false) = V.one (A.bool (decide (SureM b))) := fun q h => sure_no fun k => h (k.2 i hi q)
        rw [← rdM_nat] at no
        refine Run.loop ?_
        repeat' (conv => arg 4; whnf); first | refine Run.ret ⟨?_, rfl⟩ | refine Run.condT ?_ | refine Run.condf ?_ | refine Run.condD (fun h => ?_) (fun h => ?_) | refine Run.condN (fun h => ?_) (fun h => ?_) | refine Run.condE (fun h => ?_) (fun h => ?_) | refine Run.condF (fun h => ?_) (fun h => ?_) | refine Run.condM (fun h => ?_) (fun h => ?_) | refine Run.condB (fun h => ?_) (fun h => ?_) | refine Run.check1 ?_ | refine Run.need1 (by simp only [allP, true_and, and_true]; omega) ?_ | refine Run.call (hro) rfl ?_ | refine Run.round ⟨[(.t 1 0, .t 1 0)], [], []⟩ (ih (i + 1) _ e.h (by omega) ?_) rfl (by (repeat' (first | exact wkEnv_nil | refine wkEnv_cons rfl ?_ | exact wkSto_nil | refine wkSto_none ?_ | refine wkSto_some rfl ?_)); done) (by (repeat' (first | exact wkEnv_nil | refine wkEnv_cons rfl ?_ | exact wkSto_nil | refine wkSto_none ?_ | refine wkSto_some rfl ?_)); done) | (exfalso; omega)
        all_goals clear ih
        all_goals first
          | (exfalso; omega)
          | exact no ‹_› ‹_›
          | (intro j hj hl
             rcases Nat.lt_or_ge j i with h1 | h1
             · exact hall j h1 hl
             · obtain rfl : j = i := by omega
               rw [← rdM_nat] at hl
               first | assumption | exact absurd hl (by assumption) | (simp_all; done))
          | trace_state
    repeat' (conv => arg 4; whnf); first | refine Run.ret ⟨?_, rfl⟩ | refine Run.condT ?_ | refine Run.condf ?_ | refine Run.condD (fun h => ?_) (fun h => ?_) | refine Run.condN (fun h => ?_) (fun h => ?_) | refine Run.condE (fun h => ?_) (fun h => ?_) | refine Run.condF (fun h => ?_) (fun h => ?_) | refine Run.condM (fun h => ?_) (fun h => ?_) | refine Run.condB (fun h => ?_) (fun h => ?_) | refine Run.check1 ?_ | refine Run.call (hbk) rfl ?_ | refine Run.round ⟨[(.t 1 0, .t 1 0)], [], []⟩ (loop b.ms.length 0 _ rfl (by omega) (fun j hj => absurd hj (by omega))) rfl (by (repeat' (first | exact wkEnv_nil | refine wkEnv_cons rfl ?_ | exact wkSto_nil | refine wkSto_none ?_ | refine wkSto_some rfl ?_)); done) (by (repeat' (first | exact wkEnv_nil | refine wkEnv_cons rfl ?_ | exact wkSto_nil | refine wkSto_none ?_ | refine wkSto_some rfl ?_)); done)
    all_goals trace_state
  · rw [decide_eq_false hb] at hbk
    repeat' (conv => arg 4; whnf); first | refine Run.ret ⟨?_, rfl⟩ | refine Run.condT ?_ | refine Run.condf ?_ | refine Run.condD (fun h => ?_) (fun h => ?_) | refine Run.condN (fun h => ?_) (fun h => ?_) | refine Run.condE (fun h => ?_) (fun h => ?_) | refine Run.condF (fun h => ?_) (fun h => ?_) | refine Run.condM (fun h => ?_) (fun h => ?_) | refine Run.condB (fun h => ?_) (fun h => ?_) | refine Run.check1 ?_ | refine Run.call (hbk) rfl ?_
    all_goals exact sure_no fun k => hb k.1
end Go.Proofs.YtmppoajepbbmiaaGreat.AM

/- The place of a name, StripRound, the program's and the reference's; condition: the ticks are of 64 bits. -/
namespace Go.Proofs.YtmppoajepbbmiaaGreat.AM
open Go.AM Go.RowKit
set_option linter.unusedVariables false
set_option linter.unusedSimpArgs false
set_option maxRecDepth 100000

theorem at1_ok (m : Mv) (n : ByteArray) : Ok P 81 [.agg (encMv m), .one (.ptr (.k 0) 0)] [some (.cells [.str n])] (.one (.bool (m.f0.toList == n.toList))) [some (.cells [.str n])] := by
  refine Ok.of_run (F := mk Tryz.f81 1) Tryz.func81 rfl rfl tabOk mixed rfl rfl rfl rfl rfl (Nat.le_of_ble_eq_true rfl) (Nat.le_of_ble_eq_true rfl) (.go 5000 ?_)
  repeat' (conv => arg 4; whnf); first | refine Run.ret ⟨?_, rfl⟩ | refine Run.condT ?_ | refine Run.condf ?_ | refine Run.condD (fun h => ?_) (fun h => ?_) | refine Run.condN (fun h => ?_) (fun h => ?_) | refine Run.condE (fun h => ?_) (fun h => ?_) | refine Run.condF (fun h => ?_) (fun h => ?_) | refine Run.condM (fun h => ?_) (fun h => ?_) | refine Run.condB (fun h => ?_) (fun h => ?_) | refine Run.check1 ?_
  all_goals first | rfl | trace_state
theorem indexFunc_ok (l : List Mv) (n : ByteArray) (hl : l.length ≤ 1048576) : Ok P 80 [.one (.lst .mv l false), .one (.fn 81 [.ptr (.k 0) 0])] [some (.cells [.str n])] (.one (.int .i64 (atN l n))) [some (.cells [.str n])] := by
  refine Ok.of_run (F := mk Tryz.f80 1) Tryz.func80 rfl rfl tabOk mixed rfl rfl rfl rfl rfl (Nat.le_of_ble_eq_true rfl) (Nat.le_of_ble_eq_true rfl) (.go 5000 ?_)
  have loop : ∀ (d i : Nat) (z : Int), z = i → i + d = l.length → Fact (atFrom l n i d = atN l n) → Run P (mk Tryz.f80 1) (fun v st => v = .one (.int .i64 (atN l n)) ∧ st = [some (.cells [.str n])])
      (.loop ⟨[(0, .one (.lst .mv l false)), (1, .one (.fn 81 [.ptr (.k 0) 0])), (7, .one (.int .i64 (l.length : Int))), (8, .one (.int .i64 z))], [(.k 0, some (.cells [.str n]))], [.lp [0, 1, 0, 1], .blk 0, .code [1, 1]], none⟩) := by
    intro d
    induction d with
    | zero =>
      intro i z hz hd he
      subst hz
      refine Run.loop ?_
      repeat' (conv => arg 4; whnf); first | refine Run.ret ⟨?_, rfl⟩ | refine Run.condT ?_ | refine Run.condf ?_ | refine Run.condD (fun h => ?_) (fun h => ?_) | refine Run.condN (fun h => ?_) (fun h => ?_) | refine Run.condE (fun h => ?_) (fun h => ?_) | refine Run.condF (fun h => ?_) (fun h => ?_) | refine Run.condM (fun h => ?_) (fun h => ?_) | refine Run.condB (fun h => ?_) (fun h => ?_) | refine Run.check1 ?_ | (exfalso; omega)
      all_goals first | (rw [← he.h]; rfl) | (exfalso; omega) | trace_state
    | succ d ih =>
      intro i z hz hd he
      subst hz
      have e := fs (i := i) (by omega)
      have hc := he.h
      unfold atFrom at hc
      rw [← rdM_nat] at hc
      have h1 := at1_ok (rdM l (i : Int)) n
      cases hq : ((rdM l (i : Int)).f0.toList == n.toList) with
      | true =>
        rw [hq] at h1
        rw [if_pos hq] at hc
        refine Run.loop ?_
        repeat' (conv => arg 4; whnf); first | refine Run.ret ⟨?_, rfl⟩ | refine Run.condT ?_ | refine Run.condf ?_ | refine Run.condD (fun h => ?_) (fun h => ?_) | refine Run.condN (fun h => ?_) (fun h => ?_) | refine Run.condE (fun h => ?_) (fun h => ?_) | refine Run.condF (fun h => ?_) (fun h => ?_) | refine Run.condM (fun h => ?_) (fun h => ?_) | refine Run.condB (fun h => ?_) (fun h => ?_) | refine Run.check1 ?_ | (exfalso; omega) | refine Run.need1 (by simp only [allP, true_and, and_true]; omega) ?_ | refine Run.call (h1) rfl ?_
        all_goals first | (rw [← hc]; done) | rfl | (exfalso; omega) | trace_state
      | false =>
        rw [hq] at h1
        rw [if_neg (by rw [hq]; exact Bool.false_ne_true)] at hc
        refine Run.loop ?_
        repeat' (conv => arg 4; whnf); first | refine Run.ret ⟨?_, rfl⟩ | refine Run.condT ?_ | refine Run.condf ?_ | refine Run.condD (fun h => ?_) (fun h => ?_) | refine Run.condN (fun h => ?_) (fun h => ?_) | refine Run.condE (fun h => ?_) (fun h => ?_) | refine Run.condF (fun h => ?_) (fun h => ?_) | refine Run.condM (fun h => ?_) (fun h => ?_) | refine Run.condB (fun h => ?_) (fun h => ?_) | refine Run.check1 ?_ | (exfalso; omega) | refine Run.need1 (by simp only [allP, true_and, and_true]; omega) ?_ | refine Run.call (h1) rfl ?_ | refine Run.round ⟨[], [], []⟩ (ih (i + 1) _ e.h (by omega) ⟨hc⟩) rfl (by (repeat' (first | exact wkEnv_nil | refine wkEnv_cons rfl ?_ | exact wkSto_nil | refine wkSto_none ?_ | refine wkSto_some rfl ?_)); done) (by (repeat' (first | exact wkEnv_nil | refine wkEnv_cons rfl ?_ | exact wkSto_nil | refine wkSto_none ?_ | refine wkSto_some rfl ?_)); done)
        all_goals first | (exfalso; omega) | trace_state
  repeat' (conv => arg 4; whnf); first | refine Run.ret ⟨?_, rfl⟩ | refine Run.condT ?_ | refine Run.condf ?_ | refine Run.condD (fun h => ?_) (fun h => ?_) | refine Run.condN (fun h => ?_) (fun h => ?_) | refine Run.condE (fun h => ?_) (fun h => ?_) | refine Run.condF (fun h => ?_) (fun h => ?_) | refine Run.condM (fun h => ?_) (fun h => ?_) | refine Run.condB (fun h => ?_) (fun h => ?_) | refine Run.check1 ?_ | refine Run.round ⟨[], [], []⟩ (loop l.length 0 _ rfl (by omega) ⟨rfl⟩) rfl (by (repeat' (first | exact wkEnv_nil | refine wkEnv_cons rfl ?_ | exact wkSto_nil | refine wkSto_none ?_ | refine wkSto_some rfl ?_)); done) (by (repeat' (first | exact wkEnv_nil | refine wkEnv_cons rfl ?_ | exact wkSto_nil | refine wkSto_none ?_ | refine wkSto_some rfl ?_)); done)
  all_goals trace_state
theorem at_ok (b : Bk) (n : ByteArray) (hl : b.ms.length ≤ 1048576) : Ok P 44 [b.lent, .one (.str n)] [] (.one (.int .i64 (atN b.ms n))) [] := by
  refine Ok.of_run (F := mk Tryz.f44 0) Tryz.func44 rfl rfl tabOk mixed rfl rfl rfl rfl rfl (Nat.le_of_ble_eq_true rfl) (Nat.le_of_ble_eq_true rfl) (.go 5000 ?_)
  repeat' (conv => arg 4; whnf); first | refine Run.ret ⟨?_, rfl⟩ | refine Run.condT ?_ | refine Run.condf ?_ | refine Run.condD (fun h => ?_) (fun h => ?_) | refine Run.condN (fun h => ?_) (fun h => ?_) | refine Run.condE (fun h => ?_) (fun h => ?_) | refine Run.condF (fun h => ?_) (fun h => ?_) | refine Run.condM (fun h => ?_) (fun h => ?_) | refine Run.condB (fun h => ?_) (fun h => ?_) | refine Run.check1 ?_ | refine Run.call (indexFunc_ok b.ms n hl) rfl ?_
  all_goals rfl
theorem sat_ok (b : Bk) (n : ByteArray) (hl : b.ms.length ≤ 1048576) : Ok P 52 [b.lent, .one (.str n)] [] (.one (.int .i64 (atN b.ms n))) [] := by
  refine Ok.of_run (F := mk Tryz.f52 0) Tryz.func52 rfl rfl tabOk mixed rfl rfl rfl rfl rfl (Nat.le_of_ble_eq_true rfl) (Nat.le_of_ble_eq_true rfl) (.go 5000 ?_)
  have loop : ∀ (d i : Nat) (z : Int), z = i → i + d = b.ms.length → Fact (atFrom b.ms n i d = atN b.ms n) → Run P (mk Tryz.f52 0) (fun v st => v = .one (.int .i64 (atN b.ms n)) ∧ st = [])
      (.loop ⟨[(1, .one (.str n)), (2, .one (.ptr (.t 2 0) 0)), (5, .one (.int .i64 z))], [(.t 2 0, some (.cells b.lent.atoms))], [.lp [0, 1, 0, 1], .blk 0, .code [1, 1]], none⟩) := by
    intro d
    induction d with
    | zero =>
      intro i z hz hd he
      subst hz
      refine Run.loop ?_
      repeat' (conv => arg 4; whnf); first | refine Run.ret ⟨?_, rfl⟩ | refine Run.condT ?_ | refine Run.condf ?_ | refine Run.condD (fun h => ?_) (fun h => ?_) | refine Run.condN (fun h => ?_) (fun h => ?_) | refine Run.condE (fun h => ?_) (fun h => ?_) | refine Run.condF (fun h => ?_) (fun h => ?_) | refine Run.condM (fun h => ?_) (fun h => ?_) | refine Run.condB (fun h => ?_) (fun h => ?_) | refine Run.check1 ?_ | (exfalso; omega)
      all_goals first | (rw [← he.h]; rfl) | (exfalso; omega) | trace_state
    | succ d ih =>
      intro i z hz hd he
      subst hz
      have e := fs (i := i) (by omega)
      have hc := he.h
      unfold atFrom at hc
      rw [← rdM_nat] at hc
      refine Run.loop ?_
      repeat' (conv => arg 4; whnf); first | refine Run.ret ⟨?_, rfl⟩ | refine Run.condT ?_ | refine Run.condf ?_ | refine Run.condD (fun h => ?_) (fun h => ?_) | refine Run.condN (fun h => ?_) (fun h => ?_) | refine Run.condE (fun h => ?_) (fun h => ?_) | refine Run.condF (fun h => ?_) (fun h => ?_) | refine Run.condM (fun h => ?_) (fun h => ?_) | refine Run.condB (fun h => ?_) (fun h => ?_) | refine Run.check1 ?_ | (exfalso; omega) | refine Run.need1 (by simp only [allP, true_and, and_true]; omega) ?_ | refine Run.round ⟨[(.t 2 0, .t 2 0)], [], []⟩ (ih (i + 1) _ e.h (by omega) ⟨?_⟩) rfl (by (repeat' (first | exact wkEnv_nil | refine wkEnv_cons rfl ?_ | exact wkSto_nil | refine wkSto_none ?_ | refine wkSto_some rfl ?_)); done) (by (repeat' (first | exact wkEnv_nil | refine wkEnv_cons rfl ?_ | exact wkSto_nil | refine wkSto_none ?_ | refine wkSto_some rfl ?_)); done)
      all_goals first | (rw [← hc]; first | (rw [if_pos ‹_›]; done) | (rw [if_neg (by simp only [*, Bool.false_eq_true, not_false_eq_true])]; done)) | (exfalso; omega) | trace_state
  repeat' (conv => arg 4; whnf); first | refine Run.ret ⟨?_, rfl⟩ | refine Run.condT ?_ | refine Run.condf ?_ | refine Run.condD (fun h => ?_) (fun h => ?_) | refine Run.condN (fun h => ?_) (fun h => ?_) | refine Run.condE (fun h => ?_) (fun h => ?_) | refine Run.condF (fun h => ?_) (fun h => ?_) | refine Run.condM (fun h => ?_) (fun h => ?_) | refine Run.condB (fun h => ?_) (fun h => ?_) | refine Run.check1 ?_ | refine Run.round ⟨[(.t 2 0, .t 2 0)], [], []⟩ (loop b.ms.length 0 _ rfl (by omega) ⟨rfl⟩) rfl (by (repeat' (first | exact wkEnv_nil | refine wkEnv_cons rfl ?_ | exact wkSto_nil | refine wkSto_none ?_ | refine wkSto_some rfl ?_)); done) (by (repeat' (first | exact wkEnv_nil | refine wkEnv_cons rfl ?_ | exact wkSto_nil | refine wkSto_none ?_ | refine wkSto_some rfl ?_)); done)
  all_goals trace_state
theorem bestF_len6 (l : List Mv) (sh : Int) : (bestF l sh).1.length ≤ 6 := by
  unfold bestF
  split
  · rename_i h
    have h6 := h.1.1
    unfold bestM
    have hb := best_ok1 h.1 sh
    revert hb
    cases bestO l sh with
    | none => exact fun _ => Nat.zero_le _
    | some t =>
      intro hb
      have := (hb t rfl).2.1
      show t.length ≤ 6
      omega
  · exact Nat.zero_le _
theorem planM_len (l : List Mv) (now sh : Int) (hm : MovesOk l) (hn : 0 ≤ now) (hs : 0 ≤ sh ∧ sh ≤ 6) : (planM l now sh).1.length ≤ 6 := by
  rw [planM_eq hm hn hs]
  split
  · exact bestF_len6 _ _
  · exact Nat.zero_le _
theorem strip_round_ok (b : Bk) (n : ByteArray) (hl : b.ms.length ≤ 1048576) (ht : b.ts.length ≤ 1048576) (hw : TkWf b.ts) :
    Ok P 20 [b.lent, .one (.str n)] [] (.tup [(roundR b n).1.own (.k 0) (.k 1), .one (.int .i64 (roundR b n).2)]) [some (.row .mv (roundR b n).1.ms), some (.row (.int .i64) (roundR b n).1.ts)] := by
  refine nilB_ok ?_
  have hbk := bookOk_ok b hw
  refine Ok.of_rel (F := mk Tryz.f20 0) Tryz.func20 rfl rfl tabOk mixed rfl rfl rfl rfl rfl (Nat.le_of_ble_eq_true rfl) (by first | exact fun _ _ => nilR_len | exact fun _ _ => nilB_len) (.go 5000 ?_)
  by_cases hb : BkOk b
  · rw [decide_eq_true hb] at hbk
    have h6 := hb.2.2.1.1.1
    have hlen := hb.2.2.1.2.1
    have hat := at_ok b n hl
    rcases atN_range b.ms n with ⟨h1, _⟩ | ⟨a, h1, ha, _⟩
    · have hr : roundR b n = (b, 3) := by unfold roundR; rw [if_neg (fun q => q hb), if_pos (fun q => by omega)]
      rw [hr]
      rw [h1] at hat
      repeat' (conv => arg 4; whnf); first | refine Run.ret ⟨?_, rfl⟩ | refine Run.condT ?_ | refine Run.condf ?_ | refine Run.condD (fun h => ?_) (fun h => ?_) | refine Run.condN (fun h => ?_) (fun h => ?_) | refine Run.condE (fun h => ?_) (fun h => ?_) | refine Run.condF (fun h => ?_) (fun h => ?_) | refine Run.condM (fun h => ?_) (fun h => ?_) | refine Run.condB (fun h => ?_) (fun h => ?_) | refine Run.check1 ?_ | refine Run.call (hbk) rfl ?_ | refine Run.call (hat) rfl ?_ | refine Run.call (copyBook_ok b hl ht) rfl ?_ | (refine Run.ret (.inl ⟨rfl, rfl⟩)) | (exfalso; omega)
      all_goals trace_state
    · have hro := round_ok b a hb ha
      rw [h1] at hat
      rw [roundI_2] at hro
      have hrd : rd b.ts (a : Int) = tk b.ts a := rd_nat _ _
      cases hld : (rdM b.ms (a : Int)).f1 with
      | false =>
        have hr : roundR b n = (b, 3) := by unfold roundR; rw [if_neg (fun q => q hb), if_pos (fun q => by rw [h1, Int.toNat_natCast, ← rdM_nat, hld] at q; exact absurd q.2 Bool.false_ne_true)]
        rw [hr]
        repeat' (conv => arg 4; whnf); first | refine Run.ret ⟨?_, rfl⟩ | refine Run.condT ?_ | refine Run.condf ?_ | refine Run.condD (fun h => ?_) (fun h => ?_) | refine Run.condN (fun h => ?_) (fun h => ?_) | refine Run.condE (fun h => ?_) (fun h => ?_) | refine Run.condF (fun h => ?_) (fun h => ?_) | refine Run.condM (fun h => ?_) (fun h => ?_) | refine Run.condB (fun h => ?_) (fun h => ?_) | refine Run.check1 ?_ | refine Run.call (hbk) rfl ?_ | refine Run.call (hat) rfl ?_ | refine Run.need1 (by simp only [allP, true_and, and_true]; omega) ?_ | refine Run.call (copyBook_ok b hl ht) rfl ?_ | (refine Run.ret (.inl ⟨rfl, rfl⟩)) | (exfalso; omega) | (exfalso; rw [hld] at *; contradiction)
        all_goals trace_state
      | true =>
        have hr0 : roundR b n = if tk b.ts a ≠ b.now then (b, 6) else if RoundOk b a then (roundB b a, 0) else (b, 5) := by
          unfold roundR
          rw [if_neg (fun q => q hb), if_neg (fun q => q ⟨by omega, by rw [h1, Int.toNat_natCast, ← rdM_nat, hld]⟩), h1, Int.toNat_natCast]
        by_cases hnow : tk b.ts a = b.now
        · rw [if_neg (fun q => q hnow)] at hr0
          by_cases hrk : RoundOk b a
          · rw [hr0, if_pos hrk]
            rw [decide_eq_true hrk, then_gone hb ha hrk.1] at hro
            repeat' (conv => arg 4; whnf); first | refine Run.ret ⟨?_, rfl⟩ | refine Run.condT ?_ | refine Run.condf ?_ | refine Run.condD (fun h => ?_) (fun h => ?_) | refine Run.condN (fun h => ?_) (fun h => ?_) | refine Run.condE (fun h => ?_) (fun h => ?_) | refine Run.condF (fun h => ?_) (fun h => ?_) | refine Run.condM (fun h => ?_) (fun h => ?_) | refine Run.condB (fun h => ?_) (fun h => ?_) | refine Run.check1 ?_ | refine Run.call (hbk) rfl ?_ | refine Run.call (hat) rfl ?_ | refine Run.need1 (by simp only [allP, true_and, and_true]; omega) ?_ | refine Run.call (hro) rfl ?_ | (refine Run.ret (.inl ⟨rfl, rfl⟩)) | (exfalso; omega) | (exfalso; rw [hld] at *; contradiction)
            all_goals trace_state
          · rw [hr0, if_neg hrk]
            rw [decide_eq_false hrk] at hro
            generalize (roundI b a).1 = rb at hro
            repeat' (conv => arg 4; whnf); first | refine Run.ret ⟨?_, rfl⟩ | refine Run.condT ?_ | refine Run.condf ?_ | refine Run.condD (fun h => ?_) (fun h => ?_) | refine Run.condN (fun h => ?_) (fun h => ?_) | refine Run.condE (fun h => ?_) (fun h => ?_) | refine Run.condF (fun h => ?_) (fun h => ?_) | refine Run.condM (fun h => ?_) (fun h => ?_) | refine Run.condB (fun h => ?_) (fun h => ?_) | refine Run.check1 ?_ | refine Run.call (hbk) rfl ?_ | refine Run.call (hat) rfl ?_ | refine Run.need1 (by simp only [allP, true_and, and_true]; omega) ?_ | refine Run.call (hro) rfl ?_ | refine Run.call (copyBook_ok b hl ht) rfl ?_ | (refine Run.ret (.inl ⟨rfl, rfl⟩)) | (exfalso; omega) | (exfalso; rw [hld] at *; contradiction)
            all_goals trace_state
        · rw [hr0, if_pos hnow]
          repeat' (conv => arg 4; whnf); first | refine Run.ret ⟨?_, rfl⟩ | refine Run.condT ?_ | refine Run.condf ?_ | refine Run.condD (fun h => ?_) (fun h => ?_) | refine Run.condN (fun h => ?_) (fun h => ?_) | refine Run.condE (fun h => ?_) (fun h => ?_) | refine Run.condF (fun h => ?_) (fun h => ?_) | refine Run.condM (fun h => ?_) (fun h => ?_) | refine Run.condB (fun h => ?_) (fun h => ?_) | refine Run.check1 ?_ | refine Run.call (hbk) rfl ?_ | refine Run.call (hat) rfl ?_ | refine Run.need1 (by simp only [allP, true_and, and_true]; omega) ?_ | refine Run.call (copyBook_ok b hl ht) rfl ?_ | (refine Run.ret (.inl ⟨rfl, rfl⟩)) | (exfalso; omega) | (exfalso; rw [hld] at *; contradiction)
          all_goals trace_state
  · rw [decide_eq_false hb] at hbk
    rw [show roundR b n = (Bk.z, 1) from if_pos hb]
    repeat' (conv => arg 4; whnf); first | refine Run.ret ⟨?_, rfl⟩ | refine Run.condT ?_ | refine Run.condf ?_ | refine Run.condD (fun h => ?_) (fun h => ?_) | refine Run.condN (fun h => ?_) (fun h => ?_) | refine Run.condE (fun h => ?_) (fun h => ?_) | refine Run.condF (fun h => ?_) (fun h => ?_) | refine Run.condM (fun h => ?_) (fun h => ?_) | refine Run.condB (fun h => ?_) (fun h => ?_) | refine Run.check1 ?_ | refine Run.call (hbk) rfl ?_ | (refine Run.ret (.inr (.inr ⟨rfl, rfl, rfl, rfl⟩)))
    all_goals trace_state
theorem strip_sround_ok (b : Bk) (n : ByteArray) (hl : b.ms.length ≤ 1048576) (ht : b.ts.length ≤ 1048576) (hw : TkWf b.ts) :
    Ok P 23 [b.lent, .one (.str n)] [] (.tup [(roundR b n).1.own (.k 0) (.k 1), .one (.int .i64 (roundR b n).2)]) [some (.row .mv (roundR b n).1.ms), some (.row (.int .i64) (roundR b n).1.ts)] := by
  refine nilB_ok ?_
  have hbk := sbookOk_ok b hw
  refine Ok.of_rel (F := mk Tryz.f23 0) Tryz.func23 rfl rfl tabOk mixed rfl rfl rfl rfl rfl (Nat.le_of_ble_eq_true rfl) (by first | exact fun _ _ => nilR_len | exact fun _ _ => nilB_len) (.go 5000 ?_)
  by_cases hb : BkOk b
  · rw [decide_eq_true hb] at hbk
    have h6 := hb.2.2.1.1.1
    have hlen := hb.2.2.1.2.1
    have hat := sat_ok b n hl
    rcases atN_range b.ms n with ⟨h1, _⟩ | ⟨a, h1, ha, _⟩
    · have hr : roundR b n = (b, 3) := by unfold roundR; rw [if_neg (fun q => q hb), if_pos (fun q => by omega)]
      rw [hr]
      rw [h1] at hat
      repeat' (conv => arg 4; whnf); first | refine Run.ret ⟨?_, rfl⟩ | refine Run.condT ?_ | refine Run.condf ?_ | refine Run.condD (fun h => ?_) (fun h => ?_) | refine Run.condN (fun h => ?_) (fun h => ?_) | refine Run.condE (fun h => ?_) (fun h => ?_) | refine Run.condF (fun h => ?_) (fun h => ?_) | refine Run.condM (fun h => ?_) (fun h => ?_) | refine Run.condB (fun h => ?_) (fun h => ?_) | refine Run.check1 ?_ | refine Run.call (hbk) rfl ?_ | refine Run.call (hat) rfl ?_ | refine Run.call (scopy_ok b hl ht) rfl ?_ | (refine Run.ret (.inl ⟨rfl, rfl⟩)) | (exfalso; omega)
      all_goals trace_state
    · have hro := sround_ok b a hb ha
      rw [h1] at hat
      have hrd : rd b.ts (a : Int) = tk b.ts a := rd_nat _ _
      cases hld : (rdM b.ms (a : Int)).f1 with
      | false =>
        have hr : roundR b n = (b, 3) := by unfold roundR; rw [if_neg (fun q => q hb), if_pos (fun q => by rw [h1, Int.toNat_natCast, ← rdM_nat, hld] at q; exact absurd q.2 Bool.false_ne_true)]
        rw [hr]
        repeat' (conv => arg 4; whnf); first | refine Run.ret ⟨?_, rfl⟩ | refine Run.condT ?_ | refine Run.condf ?_ | refine Run.condD (fun h => ?_) (fun h => ?_) | refine Run.condN (fun h => ?_) (fun h => ?_) | refine Run.condE (fun h => ?_) (fun h => ?_) | refine Run.condF (fun h => ?_) (fun h => ?_) | refine Run.condM (fun h => ?_) (fun h => ?_) | refine Run.condB (fun h => ?_) (fun h => ?_) | refine Run.check1 ?_ | refine Run.call (hbk) rfl ?_ | refine Run.call (hat) rfl ?_ | refine Run.need1 (by simp only [allP, true_and, and_true]; omega) ?_ | refine Run.call (scopy_ok b hl ht) rfl ?_ | (refine Run.ret (.inl ⟨rfl, rfl⟩)) | (exfalso; omega) | (exfalso; rw [hld] at *; contradiction)
        all_goals trace_state
      | true =>
        have hr0 : roundR b n = if tk b.ts a ≠ b.now then (b, 6) else if RoundOk b a then (roundB b a, 0) else (b, 5) := by
          unfold roundR
          rw [if_neg (fun q => q hb), if_neg (fun q => q ⟨by omega, by rw [h1, Int.toNat_natCast, ← rdM_nat, hld]⟩), h1, Int.toNat_natCast]
        by_cases hnow : tk b.ts a = b.now
        · rw [if_neg (fun q => q hnow)] at hr0
          by_cases hrk : RoundOk b a
          · rw [hr0, if_pos hrk]
            rw [roundS_yes hrk] at hro
            have hlr : (roundB b a).ms.length ≤ 1048576 := by have := thenL_len b a; show (thenL b a).length ≤ _; omega
            have htr : (roundB b a).ts.length ≤ 1048576 := by
              have := planM_len (thenL b a) (tk b.ts a) 6 (then_movesOk hb ha hrk.1) (by have := bk_tick hb ha; omega) (by omega)
              show (planM (thenL b a) (tk b.ts a) 6).1.length ≤ _
              omega
            repeat' (conv => arg 4; whnf); first | refine Run.ret ⟨?_, rfl⟩ | refine Run.condT ?_ | refine Run.condf ?_ | refine Run.condD (fun h => ?_) (fun h => ?_) | refine Run.condN (fun h => ?_) (fun h => ?_) | refine Run.condE (fun h => ?_) (fun h => ?_) | refine Run.condF (fun h => ?_) (fun h => ?_) | refine Run.condM (fun h => ?_) (fun h => ?_) | refine Run.condB (fun h => ?_) (fun h => ?_) | refine Run.check1 ?_ | refine Run.call (hbk) rfl ?_ | refine Run.call (hat) rfl ?_ | refine Run.need1 (by simp only [allP, true_and, and_true]; omega) ?_ | refine Run.call (hro) rfl ?_ | refine Run.call (scopy_ok b hl ht) rfl ?_ | refine Run.call (scopy_ok (roundB b a) hlr htr) rfl ?_ | (refine Run.ret (.inl ⟨rfl, rfl⟩)) | (exfalso; omega) | (exfalso; rw [hld] at *; contradiction)
            all_goals trace_state
          · rw [hr0, if_neg hrk]
            rw [roundS_no hrk] at hro
            repeat' (conv => arg 4; whnf); first | refine Run.ret ⟨?_, rfl⟩ | refine Run.condT ?_ | refine Run.condf ?_ | refine Run.condD (fun h => ?_) (fun h => ?_) | refine Run.condN (fun h => ?_) (fun h => ?_) | refine Run.condE (fun h => ?_) (fun h => ?_) | refine Run.condF (fun h => ?_) (fun h => ?_) | refine Run.condM (fun h => ?_) (fun h => ?_) | refine Run.condB (fun h => ?_) (fun h => ?_) | refine Run.check1 ?_ | refine Run.call (hbk) rfl ?_ | refine Run.call (hat) rfl ?_ | refine Run.need1 (by simp only [allP, true_and, and_true]; omega) ?_ | refine Run.call (hro) rfl ?_ | refine Run.call (scopy_ok b hl ht) rfl ?_ | (refine Run.ret (.inl ⟨rfl, rfl⟩)) | (exfalso; omega) | (exfalso; rw [hld] at *; contradiction)
            all_goals trace_state
        · rw [hr0, if_pos hnow]
          repeat' (conv => arg 4; whnf); first | refine Run.ret ⟨?_, rfl⟩ | refine Run.condT ?_ | refine Run.condf ?_ | refine Run.condD (fun h => ?_) (fun h => ?_) | refine Run.condN (fun h => ?_) (fun h => ?_) | refine Run.condE (fun h => ?_) (fun h => ?_) | refine Run.condF (fun h => ?_) (fun h => ?_) | refine Run.condM (fun h => ?_) (fun h => ?_) | refine Run.condB (fun h => ?_) (fun h => ?_) | refine Run.check1 ?_ | refine Run.call (hbk) rfl ?_ | refine Run.call (hat) rfl ?_ | refine Run.need1 (by simp only [allP, true_and, and_true]; omega) ?_ | refine Run.call (scopy_ok b hl ht) rfl ?_ | (refine Run.ret (.inl ⟨rfl, rfl⟩)) | (exfalso; omega) | (exfalso; rw [hld] at *; contradiction)
          all_goals trace_state
  · rw [decide_eq_false hb] at hbk
    rw [show roundR b n = (Bk.z, 1) from if_pos hb]
    repeat' (conv => arg 4; whnf); first | refine Run.ret ⟨?_, rfl⟩ | refine Run.condT ?_ | refine Run.condf ?_ | refine Run.condD (fun h => ?_) (fun h => ?_) | refine Run.condN (fun h => ?_) (fun h => ?_) | refine Run.condE (fun h => ?_) (fun h => ?_) | refine Run.condF (fun h => ?_) (fun h => ?_) | refine Run.condM (fun h => ?_) (fun h => ?_) | refine Run.condB (fun h => ?_) (fun h => ?_) | refine Run.check1 ?_ | refine Run.call (hbk) rfl ?_ | (refine Run.ret (.inr (.inr ⟨rfl, rfl, rfl, rfl⟩)))
    all_goals trace_state
end Go.Proofs.YtmppoajepbbmiaaGreat.AM

/- A contract whose answer is the head of the row that was handed over; no condition. -/
namespace Go.AM
set_option linter.unusedVariables false
set_option linter.unusedSimpArgs false
open Go.RowKit
variable {P : Program}

theorem Ok.cut {f : FuncId} {args : List V} {e : El} {ys xs zs : List e.T} {n : Nat} (h : Ok P f args [some (.row e ys)] (.one (.sub (.k 0) 0 n)) [some (.row e xs)]) (hn : n ≤ xs.length) (hne : 0 < xs.length) (hz : xs.take n = zs) :
    Ok P f args [some (.row e ys)] (.one (.own (.k 1))) [none, some (.row e zs)] := by
  subst hz
  obtain ⟨h1, h2⟩ := h
  refine ⟨Nat.le_succ_of_le (Nat.le_refl _), fun w μ G cargs hr hrep => (h2 w μ G cargs hr hrep).mono fun u w' ⟨μ', G', k1, k2⟩ => ?_⟩
  have hl0 : lkC (.k 0) (argSto 0 [some (.row e xs)]) = some (.row e xs) := rfl
  obtain ⟨B, b1, b2, b3⟩ := k2.hr.live _ _ hl0
  have hn1 : μ' (.k 1) = none := by
    cases hm : μ' (.k 1) with
    | none => rfl
    | some B =>
      have := k2.hr.known _ _ hm
      rw [argSto_lk] at this
      simp at this
  obtain ⟨c1, c2, c3, c4, c5⟩ := b2
  have hv : B.virt = false := by
    cases hq : B.virt with
    | false => rfl
    | true => rw [(c4 hq).1] at hne; simp at hne
  obtain ⟨d1, arr, te, d2, d3, d4⟩ := c5 hv
  let B2 : Blk := { B with len := n }
  let μ2 : Mu := fun l => if l = .k 1 then some B2 else μ' l
  have hx : ∀ l C, μ' l = some C → μ2 l = some C := by
    intro l C hC
    show (if l = .k 1 then _ else _) = _
    rw [if_neg (by rintro rfl; rw [hn1] at hC; cases hC)]
    exact hC
  have hl : μ2 (.k 1) = some B2 := if_pos rfl
  have hlk : ∀ l c, lkC l (argSto 0 [none, some (.row e (xs.take n))]) = some c → l = .k 1 ∧ c = .row e (xs.take n) := by
    intro l c hc
    rw [lkC_some, argSto_lk] at hc
    cases l with
    | t d j => cases hc
    | k i =>
      rcases i with _ | _ | i
      · simp at hc
      · exact ⟨rfl, by simpa using hc.symm⟩
      · simp at hc
  refine ⟨μ2, G', ?_, ⟨⟨fun l c hc => ?_, fun l C hC => ?_, fun l l' c c' C C' hc hc' hC hC' hvt hvt' hne' => ?_, k2.hr.good⟩, fun i hi => ?_, k2.gnew, k2.frame, k2.size, k2.os, k2.tape, k2.output, fun l C hC => ?_, fun b hb => ?_⟩⟩
  · simp only [repV, repA] at k1 ⊢
    obtain ⟨C, o, q1, q2, q3, q4⟩ := k1
    rw [b1] at q1
    obtain rfl := Option.some.inj q1
    refine ⟨B2, hl, ?_⟩
    rw [q2, q4 (by omega), d1]
    simp [B2]
  · obtain ⟨rfl, rfl⟩ := hlk l c hc
    refine ⟨B2, hl, ⟨?_, ?_, c3, fun q => ?_, fun _ => ⟨d1, arr, te, d2, d3, fun i x hx' => ?_⟩⟩, b3⟩
    · show n = _
      rw [List.length_take]; omega
    · show n ≤ B.cap
      omega
    · rw [show B2.virt = B.virt from rfl, hv] at q; cases q
    · have hxi : xs[i]? = some x := by
        rw [List.getElem?_take] at hx'
        split at hx'
        · exact hx'
        · cases hx'
      obtain ⟨us, m1, m2⟩ := d4 i x hxi
      exact ⟨us, repAs_mono hx (fun _ _ => rfl) (fun _ h => h) _ _ m1, m2⟩
  · by_cases q : l = .k 1
    · subst q; rfl
    · have := k2.hr.known l C (by rw [← hC]; exact (if_neg q).symm)
      rw [argSto_lk] at this ⊢
      cases l with
      | t d j => cases this
      | k i =>
        rcases i with _ | i
        · rfl
        · simp at this
  · exact absurd ((hlk l c hc).1.trans (hlk l' c' hc').1.symm) hne'
  · have : i = 0 := by
      rw [argSto_lk] at hi
      rcases i with _ | i
      · rfl
      · simp at hi
    subst this
    show (if L.k 0 = .k 1 then _ else _) = _
    rw [if_neg (by simp)]
    exact k2.kk 0 hi
  · by_cases q : l = .k 1
    · subst q
      rw [hl] at hC
      obtain rfl := Option.some.inj hC
      rcases k2.new _ _ b1 with h3 | h3 | h3 | h3
      · exact .inr (.inr (.inr ⟨.k 0, _, B, rfl, h3, hv, rfl⟩))
      · rw [hv] at h3; cases h3
      · exact .inr (.inr (.inl h3))
      · exact .inr (.inr (.inr h3))
    · exact k2.new l C (by rw [← hC]; exact (if_neg q).symm)
  · obtain ⟨l, c, C, e1, e2, e3, rfl⟩ := hb
    obtain ⟨rfl, rfl⟩ := hlk l c e1
    rw [hl] at e2
    obtain rfl := Option.some.inj e2
    exact k2.liv _ ⟨.k 0, _, B, hl0, b1, hv, rfl⟩
end Go.AM

/- slices.Delete of one element; condition: a place in the list, at most 1000 of them. -/
namespace Go.Proofs.YtmppoajepbbmiaaGreat.AM
open Go.AM Go.RowKit
set_option linter.unusedVariables false
set_option linter.unusedSimpArgs false
set_option maxRecDepth 100000

theorem dropL_len {α : Type} (l : List α) {a : Nat} (h : a < l.length) : (dropL l a).length = l.length - 1 := by
  unfold dropL
  rw [List.length_append, List.length_take, List.length_drop]
  omega
theorem del_row {α : Type} (l : List α) (z : α) {a : Nat} (h : a < l.length) {t X : List α} {n r q : Nat} (ht : t = l.drop (a + 1)) (hn : n = l.length - 1) (hr : r = 1) (hq : q = l.length) (hX : X = l.take a ++ t ++ l.drop (a + t.length)) :
    X.take n ++ List.replicate r z ++ X.drop q = dropL l a ++ [z] := by
  subst hX; subst ht; subst hn; subst hr; subst hq
  have h1 := dropL_len l h
  rw [show l.take a ++ l.drop (a + 1) = dropL l a from rfl, ← h1, List.take_left]
  have h2 : (dropL l a ++ l.drop (a + (l.drop (a + 1)).length)).drop l.length = [] := by
    apply List.drop_eq_nil_of_le
    rw [List.length_append, h1, List.length_drop, List.length_drop]
    omega
  rw [h2, List.append_nil]
  rfl
theorem delM_ok (l : List Mv) (a : Nat) (z : Int) (h : a < l.length) (hl : l.length ≤ 1000) (hz : z = ((a + 1 : Nat) : Int)) : Ok P 55 [.one (.own (.k 0)), .one (.int .i64 (a : Int)), .one (.int .i64 z)] [some (.row .mv l)] (.one (.own (.k 1))) [none, some (.row .mv (dropL l a))] := by
  subst hz
  refine Ok.cut (e := .mv) (n := l.length - 1) (xs := dropL l a ++ [Mv.z]) ?_ ?_ ?_ ?_
  · refine Ok.of_run (F := mk Tryz.f55 1) Tryz.func55 rfl rfl tabOk mixed rfl rfl rfl rfl rfl (Nat.le_of_ble_eq_true rfl) (Nat.le_of_ble_eq_true rfl) (.go 5000 ?_)
    repeat' (conv => arg 4; whnf); first | refine Run.ret ⟨?_, rfl⟩ | refine Run.condT ?_ | refine Run.condf ?_ | refine Run.condD (fun h => ?_) (fun h => ?_) | refine Run.condN (fun h => ?_) (fun h => ?_) | refine Run.condE (fun h => ?_) (fun h => ?_) | refine Run.condF (fun h => ?_) (fun h => ?_) | refine Run.condM (fun h => ?_) (fun h => ?_) | refine Run.condB (fun h => ?_) (fun h => ?_) | refine Run.check1 ?_ | (exfalso; omega) | refine Run.need1 (by simp only [allP, true_and, and_true]; omega) ?_ | refine Run.need1 (by simp only [allP, true_and, and_true, List.length_append, List.length_take, List.length_drop]; omega) ?_ | (refine Run.ret ⟨?_, ?_⟩)
    · simp only [Int.toNat_natCast, Nat.zero_add, List.length_take, List.length_drop]
      congr 2
      omega
    · simp only [Int.toNat_natCast, Nat.zero_add]
      refine congrArg (fun r => [some (C.row _ r)]) (del_row l _ ‹_› ?_ ?_ ?_ ?_ rfl)
      · apply List.take_of_length_le
        rw [List.length_drop]; exact Nat.le_refl _
      all_goals (simp only [List.length_take, List.length_drop]; omega)
  · rw [List.length_append, dropL_len l h]; omega
  · rw [List.length_append]; exact Nat.succ_pos _
  · rw [← dropL_len l h]; exact List.take_left
theorem delI_ok (l : List Int) (a : Nat) (z : Int) (h : a < l.length) (hl : l.length ≤ 1000) (hz : z = ((a + 1 : Nat) : Int)) : Ok P 56 [.one (.own (.k 0)), .one (.int .i64 (a : Int)), .one (.int .i64 z)] [some (.row (.int .i64) l)] (.one (.own (.k 1))) [none, some (.row (.int .i64) (dropL l a))] := by
  subst hz
  refine Ok.cut (e := .int .i64) (n := l.length - 1) (xs := dropL l a ++ [(0 : Int)]) ?_ ?_ ?_ ?_
  · refine Ok.of_run (F := mk Tryz.f56 1) Tryz.func56 rfl rfl tabOk mixed rfl rfl rfl rfl rfl (Nat.le_of_ble_eq_true rfl) (Nat.le_of_ble_eq_true rfl) (.go 5000 ?_)
    repeat' (conv => arg 4; whnf); first | refine Run.ret ⟨?_, rfl⟩ | refine Run.condT ?_ | refine Run.condf ?_ | refine Run.condD (fun h => ?_) (fun h => ?_) | refine Run.condN (fun h => ?_) (fun h => ?_) | refine Run.condE (fun h => ?_) (fun h => ?_) | refine Run.condF (fun h => ?_) (fun h => ?_) | refine Run.condM (fun h => ?_) (fun h => ?_) | refine Run.condB (fun h => ?_) (fun h => ?_) | refine Run.check1 ?_ | (exfalso; omega) | refine Run.need1 (by simp only [allP, true_and, and_true]; omega) ?_ | refine Run.need1 (by simp only [allP, true_and, and_true, List.length_append, List.length_take, List.length_drop]; omega) ?_ | (refine Run.ret ⟨?_, ?_⟩)
    · simp only [Int.toNat_natCast, Nat.zero_add, List.length_take, List.length_drop]
      congr 2
      omega
    · simp only [Int.toNat_natCast, Nat.zero_add]
      refine congrArg (fun r => [some (C.row _ r)]) (del_row l _ ‹_› ?_ ?_ ?_ ?_ rfl)
      · apply List.take_of_length_le
        rw [List.length_drop]; exact Nat.le_refl _
      all_goals (simp only [List.length_take, List.length_drop]; omega)
  · rw [List.length_append, dropL_len l h]; omega
  · rw [List.length_append]; exact Nat.succ_pos _
  · rw [← dropL_len l h]; exact List.take_left
end Go.Proofs.YtmppoajepbbmiaaGreat.AM

/- StripDrop, the program's and the reference's; condition: the ticks are of 64 bits. -/
namespace Go.Proofs.YtmppoajepbbmiaaGreat.AM
open Go.AM Go.RowKit
set_option linter.unusedVariables false
set_option linter.unusedSimpArgs false
set_option maxRecDepth 100000

theorem drop_movesOk {l : List Mv} (h : MovesOk l) (a : Nat) : MovesOk (dropL l a) := by
  have hs : (dropL l a).Sublist l := by
    unfold dropL
    have h1 : (l.drop (a + 1)).Sublist (l.drop a) := by
      rw [← List.drop_drop]; exact List.drop_sublist _ _
    have := (List.Sublist.refl (l.take a)).append h1
    rwa [List.take_append_drop] at this
  rw [movesOk_iff] at h ⊢
  exact ⟨Nat.le_trans hs.length_le h.1, fun m hm => h.2.1 m (hs.subset hm), List.Pairwise.sublist hs h.2.2⟩
theorem bestF_w64 (l : List Mv) (sh : Int) : W64L (bestF l sh).1 := by
  cases hq : (bestF l sh).2 with
  | false => rw [bestF_nil l sh hq]; exact w64l_nil
  | true =>
    unfold bestF at *
    split at hq
    · rename_i h
      rw [if_pos h]
      unfold bestM at *
      have hb := best_ok1 h.1 sh
      revert hb hq
      cases bestO l sh with
      | none => exact fun h => by cases h
      | some t => exact fun _ hb => fits_w64 (hb t rfl)
    · cases hq
theorem planM_w64 (l : List Mv) (now sh : Int) (hm : MovesOk l) (hn : 0 ≤ now) (hs : 0 ≤ sh ∧ sh ≤ 6) : W64L (planM l now sh).1 := by
  rw [planM_eq hm hn hs]
  split
  · exact bestF_w64 _ _
  · exact w64l_nil
theorem dropR_eq {b : Bk} {n : ByteArray} {a : Nat} (hb : BkOk b) (h : atN b.ms n = a) : dropR b n = if (dropP b a).2 = true ∧ NoLater (dropP b a).1 (dropL b.ts a) ∧ SureM ⟨b.now, b.shift, dropL b.ms a, (dropP b a).1⟩
    then (⟨b.now, b.shift, dropL b.ms a, (dropP b a).1⟩, 0) else (dropB b a, 0) := by
  unfold dropR
  rw [if_neg (fun q => q hb), if_neg (by omega), h, Int.toNat_natCast]
theorem dropP_len {b : Bk} {a : Nat} (hb : BkOk b) (ha : a < b.ms.length) (h : (dropP b a).2 = true) : (dropP b a).1.length = (dropL b.ts a).length ∧ (dropP b a).1.length ≤ 6 := by
  have hm := drop_movesOk hb.2.2.1.1 a
  have hlen := hb.2.2.1.2.1
  have h6 := hb.2.2.1.1.1
  have hd := dropL_len b.ms ha
  have hd2 := dropL_len b.ts (a := a) (by omega)
  unfold dropP at *
  rw [planM_eq hm hb.1.1 hb.2.1] at h ⊢
  split at h
  · rename_i hl
    rw [if_pos hl]
    unfold bestF at *
    split at h
    · rename_i hc
      rw [if_pos hc]
      unfold bestM at *
      have hb := best_ok1 hc.1 b.shift
      revert h hb
      cases bestO (laterL (b.now + 4) (dropL b.ms a)) b.shift with
      | none => exact fun h => by cases h
      | some t =>
        intro _ hb
        have := (hb t rfl).2.1
        have hll : (laterL (b.now + 4) (dropL b.ms a)).length = (dropL b.ms a).length := by simp [laterL]
        show t.length = _ ∧ t.length ≤ 6
        omega
    · cases h
  · cases h
theorem strip_drop_ok (b : Bk) (n : ByteArray) (hl : b.ms.length ≤ 1048576) (ht : b.ts.length ≤ 1048576) (hw : TkWf b.ts) :
    Ok P 10 [b.lent, .one (.str n)] [] (.tup [(dropR b n).1.own (.k 0) (.k 1), .one (.int .i64 (dropR b n).2)]) [some (.row .mv (dropR b n).1.ms), some (.row (.int .i64) (dropR b n).1.ts)] := by
  refine nilB_ok ?_
  have hbk := bookOk_ok b hw
  refine Ok.of_rel (F := mk Tryz.f10 0) Tryz.func10 rfl rfl tabOk mixed rfl rfl rfl rfl rfl (Nat.le_of_ble_eq_true rfl) (by first | exact fun _ _ => nilR_len | exact fun _ _ => nilB_len) (.go 5000 ?_)
  by_cases hb : BkOk b
  · rw [decide_eq_true hb] at hbk
    have h6 := hb.2.2.1.1.1
    have hlen := hb.2.2.1.2.1
    have hat := at_ok b n hl
    rcases atN_range b.ms n with ⟨h1, _⟩ | ⟨a, h1, ha, _⟩
    · have hr : dropR b n = (b, 3) := by unfold dropR; rw [if_neg (fun q => q hb), if_pos (by omega)]
      rw [hr]
      rw [h1] at hat
      repeat' (conv => arg 4; whnf); first | refine Run.ret ⟨?_, rfl⟩ | refine Run.condT ?_ | refine Run.condf ?_ | refine Run.condD (fun h => ?_) (fun h => ?_) | refine Run.condN (fun h => ?_) (fun h => ?_) | refine Run.condE (fun h => ?_) (fun h => ?_) | refine Run.condF (fun h => ?_) (fun h => ?_) | refine Run.condM (fun h => ?_) (fun h => ?_) | refine Run.condB (fun h => ?_) (fun h => ?_) | refine Run.check1 ?_ | refine Run.call (hbk) rfl ?_ | refine Run.call (hat) rfl ?_ | refine Run.call (copyBook_ok b hl ht) rfl ?_ | (refine Run.ret (.inl ⟨rfl, rfl⟩)) | (exfalso; omega)
      all_goals trace_state
    · rw [h1] at hat
      have e1 : wrap64 ((a : Int) + 1) = ((a + 1 : Nat) : Int) := wrap_eq (by omega) (by omega)
      have hd1 := delM_ok b.ms a (wrap64 ((a : Int) + 1)) ha (by omega) e1
      have hd2 := delI_ok b.ts a (wrap64 ((a : Int) + 1)) (by omega) (by omega) e1
      have hm := drop_movesOk hb.2.2.1.1 a
      have hplan := plan_ok (dropL b.ms a) b.now b.shift hm hb.1 hb.2.1
      rw [dropR_eq hb h1]
      rw [show planM (dropL b.ms a) b.now b.shift = dropP b a from rfl] at hplan
      have hw2 : W64L (dropP b a).1 := planM_w64 _ _ _ hm hb.1.1 hb.2.1
      have hl1 := dropL_len b.ms ha
      have hl2 := dropL_len b.ts (a := a) (by omega)
      cases hp : (dropP b a).2 with
      | false =>
        rw [if_neg (fun q => absurd q.1 Bool.false_ne_true)]
        rw [hp] at hplan
        repeat' (conv => arg 4; whnf); first | refine Run.ret ⟨?_, rfl⟩ | refine Run.condT ?_ | refine Run.condf ?_ | refine Run.condD (fun h => ?_) (fun h => ?_) | refine Run.condN (fun h => ?_) (fun h => ?_) | refine Run.condE (fun h => ?_) (fun h => ?_) | refine Run.condF (fun h => ?_) (fun h => ?_) | refine Run.condM (fun h => ?_) (fun h => ?_) | refine Run.condB (fun h => ?_) (fun h => ?_) | refine Run.check1 ?_ | refine Run.call (hbk) rfl ?_ | refine Run.call (hat) rfl ?_ | refine Run.call (hd1) rfl ?_ | refine Run.call (hd2) rfl ?_ | refine Run.call (hplan) rfl ?_ | refine Run.call (copyBook_ok b hl ht) rfl ?_ | (refine Run.ret (.inl ⟨rfl, rfl⟩)) | (exfalso; omega)
        all_goals trace_state
      | true =>
        obtain ⟨hpl, hp6⟩ := dropP_len hb ha hp
        rw [hp] at hplan
        have hcp := copyBook_ok (dropB b a) (show (dropL b.ms a).length ≤ _ by omega) (show (dropL b.ts a).length ≤ _ by omega)
        have hsu := sure_ok ⟨b.now, b.shift, dropL b.ms a, (dropP b a).1⟩ (tkWf_l hw2)
        generalize hrr : (if true = true ∧ NoLater (dropP b a).1 (dropL b.ts a) ∧ SureM ⟨b.now, b.shift, dropL b.ms a, (dropP b a).1⟩ then ((⟨b.now, b.shift, dropL b.ms a, (dropP b a).1⟩ : Bk), (0 : Int)) else (dropB b a, 0)) = rr
        have hno : ¬ NoLater (dropP b a).1 (dropL b.ts a) → rr = (dropB b a, 0) := fun q => by rw [← hrr, if_neg (fun k => q k.2.1)]
        have hns : ¬ SureM ⟨b.now, b.shift, dropL b.ms a, (dropP b a).1⟩ → rr = (dropB b a, 0) := fun q => by rw [← hrr, if_neg (fun k => q k.2.2)]
        have hys : NoLater (dropP b a).1 (dropL b.ts a) → SureM ⟨b.now, b.shift, dropL b.ms a, (dropP b a).1⟩ → rr = (⟨b.now, b.shift, dropL b.ms a, (dropP b a).1⟩, 0) := fun q k => by rw [← hrr, if_pos ⟨rfl, q, k⟩]
        have loop : ∀ (d i : Nat) (z : Int), z = i → i + d = (dropP b a).1.length → (∀ j, j < i → tk (dropP b a).1 j ≤ tk (dropL b.ts a) j) → Run P (mk Tryz.f10 0) (NilB rr.1 (.one (.int .i64 rr.2)))
            (.loop ⟨[(4, .one (.ptr (.t 4 0) 0)), (6, .one (.ptr (.t 6 0) 0)), (8, .one (.own (.t 1000 2))), (52, .one (.own (.t 1000 2))), (53, .one (.int .i64 ((dropP b a).1.length : Int))), (54, .one (.int .i64 z))],
              [(.t 4 0, some (.cells [.int .i64 0, .int .i64 0, .nil, .nil])), (.t 6 0, some (.cells [.int .i64 b.now, .int .i64 b.shift, .own (.t 1000 0), .own (.t 1000 1)])), (.t 1000 0, some (.row .mv (dropL b.ms a))), (.t 1000 1, some (.row (.int .i64) (dropL b.ts a))), (.t 1000 2, some (.row (.int .i64) (dropP b a).1))], [.lp [0, 1, 0, 1, 1, 1, 1, 1, 1, 1, 1, 1], .blk 0, .code [1, 1, 1, 1, 1, 1, 1, 1, 1, 1]], none⟩) := by
          clear hrr hd1 hd2 hplan hat hbk
          intro d
          induction d with
          | zero =>
            intro i z hz hd hall
            subst hz
            have hnl : NoLater (dropP b a).1 (dropL b.ts a) := fun j hj => hall j (by omega)
            by_cases hq : SureM ⟨b.now, b.shift, dropL b.ms a, (dropP b a).1⟩
            · rw [decide_eq_true hq] at hsu
              rw [hys hnl hq]
              refine Run.loop ?_
              repeat' (conv => arg 4; whnf); first | refine Run.ret ⟨?_, rfl⟩ | refine Run.condT ?_ | refine Run.condf ?_ | refine Run.condD (fun h => ?_) (fun h => ?_) | refine Run.condN (fun h => ?_) (fun h => ?_) | refine Run.condE (fun h => ?_) (fun h => ?_) | refine Run.condF (fun h => ?_) (fun h => ?_) | refine Run.condM (fun h => ?_) (fun h => ?_) | refine Run.condB (fun h => ?_) (fun h => ?_) | refine Run.check1 ?_ | refine Run.call (hcp) rfl ?_ | refine Run.call (hsu) rfl ?_ | (refine Run.ret (.inl ⟨rfl, rfl⟩)) | (exfalso; omega)
              all_goals trace_state
            · rw [decide_eq_false hq] at hsu
              rw [hns hq]
              refine Run.loop ?_
              repeat' (conv => arg 4; whnf); first | refine Run.ret ⟨?_, rfl⟩ | refine Run.condT ?_ | refine Run.condf ?_ | refine Run.condD (fun h => ?_) (fun h => ?_) | refine Run.condN (fun h => ?_) (fun h => ?_) | refine Run.condE (fun h => ?_) (fun h => ?_) | refine Run.condF (fun h => ?_) (fun h => ?_) | refine Run.condM (fun h => ?_) (fun h => ?_) | refine Run.condB (fun h => ?_) (fun h => ?_) | refine Run.check1 ?_ | refine Run.call (hcp) rfl ?_ | refine Run.call (hsu) rfl ?_ | (refine Run.ret (.inl ⟨rfl, rfl⟩)) | (exfalso; omega)
              all_goals trace_state
          | succ d ih =>
            intro i z hz hd hall
            subst hz
            have hi : i < (dropP b a).1.length := by omega
            have e := fs (i := i) (by omega)
            by_cases hlt : tk (dropL b.ts a) i < tk (dropP b a).1 i
            · rw [hno fun q => by have := q i hi; omega]
              rw [← rd_nat, ← rd_nat] at hlt
              refine Run.loop ?_
              repeat' (conv => arg 4; whnf); first | refine Run.ret ⟨?_, rfl⟩ | refine Run.condT ?_ | refine Run.condf ?_ | refine Run.condD (fun h => ?_) (fun h => ?_) | refine Run.condN (fun h => ?_) (fun h => ?_) | refine Run.condE (fun h => ?_) (fun h => ?_) | refine Run.condF (fun h => ?_) (fun h => ?_) | refine Run.condM (fun h => ?_) (fun h => ?_) | refine Run.condB (fun h => ?_) (fun h => ?_) | refine Run.check1 ?_ | refine Run.need1 (by simp only [allP, true_and, and_true]; omega) ?_ | (refine Run.ret (.inl ⟨rfl, rfl⟩)) | (exfalso; omega)
              all_goals trace_state
            · have hall' : ∀ j, j < i + 1 → tk (dropP b a).1 j ≤ tk (dropL b.ts a) j := fun j hj => by
                rcases Nat.lt_or_ge j i with h3 | h3
                · exact hall j h3
                · obtain rfl : j = i := by omega
                  omega
              rw [← rd_nat, ← rd_nat] at hlt
              refine Run.loop ?_
              repeat' (conv => arg 4; whnf); first | refine Run.ret ⟨?_, rfl⟩ | refine Run.condT ?_ | refine Run.condf ?_ | refine Run.condD (fun h => ?_) (fun h => ?_) | refine Run.condN (fun h => ?_) (fun h => ?_) | refine Run.condE (fun h => ?_) (fun h => ?_) | refine Run.condF (fun h => ?_) (fun h => ?_) | refine Run.condM (fun h => ?_) (fun h => ?_) | refine Run.condB (fun h => ?_) (fun h => ?_) | refine Run.check1 ?_ | refine Run.need1 (by simp only [allP, true_and, and_true]; omega) ?_ | refine Run.round ⟨[(.t 4 0, .t 4 0), (.t 6 0, .t 6 0), (.t 1000 0, .t 1000 0), (.t 1000 1, .t 1000 1), (.t 1000 2, .t 1000 2)], [], []⟩ (ih (i + 1) _ e.h (by omega) hall') rfl (by (repeat' (first | exact wkEnv_nil | refine wkEnv_cons rfl ?_ | exact wkSto_nil | refine wkSto_none ?_ | refine wkSto_some rfl ?_)); done) (by (repeat' (first | exact wkEnv_nil | refine wkEnv_cons rfl ?_ | exact wkSto_nil | refine wkSto_none ?_ | refine wkSto_some rfl ?_)); done) | (exfalso; omega)
              all_goals trace_state
        repeat' (conv => arg 4; whnf); first | refine Run.ret ⟨?_, rfl⟩ | refine Run.condT ?_ | refine Run.condf ?_ | refine Run.condD (fun h => ?_) (fun h => ?_) | refine Run.condN (fun h => ?_) (fun h => ?_) | refine Run.condE (fun h => ?_) (fun h => ?_) | refine Run.condF (fun h => ?_) (fun h => ?_) | refine Run.condM (fun h => ?_) (fun h => ?_) | refine Run.condB (fun h => ?_) (fun h => ?_) | refine Run.check1 ?_ | refine Run.call (hbk) rfl ?_ | refine Run.call (hat) rfl ?_ | refine Run.call (hd1) rfl ?_ | refine Run.call (hd2) rfl ?_ | refine Run.call (hplan) rfl ?_ | refine Run.call (copyBook_ok b hl ht) rfl ?_ | refine Run.round ⟨[(.t 4 0, .t 4 0), (.t 6 0, .t 6 0), (.t 30 0, .t 1000 0), (.t 37 0, .t 1000 1), (.t 46 0, .t 1000 2)], [], []⟩ (loop (dropP b a).1.length 0 _ rfl (by omega) (fun j hj => absurd hj (by omega))) rfl (by (repeat' (first | exact wkEnv_nil | refine wkEnv_cons rfl ?_ | exact wkSto_nil | refine wkSto_none ?_ | refine wkSto_some rfl ?_)); done) (by (repeat' (first | exact wkEnv_nil | refine wkEnv_cons rfl ?_ | exact wkSto_nil | refine wkSto_none ?_ | refine wkSto_some rfl ?_)); done) | (refine Run.ret (.inl ⟨rfl, rfl⟩)) | (exfalso; omega)
        all_goals trace_state
  · rw [decide_eq_false hb] at hbk
    rw [show dropR b n = (Bk.z, 1) from if_pos hb]
    repeat' (conv => arg 4; whnf); first | refine Run.ret ⟨?_, rfl⟩ | refine Run.condT ?_ | refine Run.condf ?_ | refine Run.condD (fun h => ?_) (fun h => ?_) | refine Run.condN (fun h => ?_) (fun h => ?_) | refine Run.condE (fun h => ?_) (fun h => ?_) | refine Run.condF (fun h => ?_) (fun h => ?_) | refine Run.condM (fun h => ?_) (fun h => ?_) | refine Run.condB (fun h => ?_) (fun h => ?_) | refine Run.check1 ?_ | refine Run.call (hbk) rfl ?_ | (refine Run.ret (.inr (.inr ⟨rfl, rfl, rfl, rfl⟩)))
    all_goals trace_state
end Go.Proofs.YtmppoajepbbmiaaGreat.AM

/- Plain laws: parts of a book; what fits still fits when some are gone; sure stays sure; no condition. -/
namespace Go.AM
set_option linter.unusedVariables false
set_option linter.unusedSimpArgs false
open Go.RowKit

/-- What a round makes of a place. -/
def thenAt (b : Bk) (a k : Nat) : Option Mv := if k = a then some (goneMv (tk b.ts a) (at' b.ms k)) else if tk b.ts k < tk b.ts a then none else some (stayMv (tk b.ts a) (at' b.ms k) (tk b.ts k))
theorem thenStep_at (b : Bk) (a k : Nat) (s : List Mv) : thenStep b a k s = s ++ (thenAt b a k).toList := by
  rw [thenStep_eq]
  unfold thenAt
  (repeat' split) <;> simp
theorem thenFrom_at (b : Bk) (a : Nat) : ∀ d i s, foldFrom (thenStep b a) i d s = s ++ (List.range' i d).filterMap (thenAt b a) := by
  intro d
  induction d with
  | zero => intro i s; simp [foldFrom]
  | succ d ih =>
    intro i s
    show foldFrom (thenStep b a) (i + 1) d (thenStep b a i s) = _
    rw [ih, List.range'_succ, List.filterMap_cons, thenStep_at]
    cases thenAt b a i <;> simp
theorem thenL_at (b : Bk) (a : Nat) : thenL b a = (List.range b.ms.length).filterMap (thenAt b a) := by
  unfold thenL
  rw [thenFrom_at, List.range_eq_range']
  rfl
theorem range_getD (I : List Nat) : (List.range I.length).map (fun k => I.getD k 0) = I := by
  refine List.ext_getElem (by simp) fun j h1 h2 => ?_
  simp [List.getD_eq_getElem?_getD, List.getElem?_eq_getElem h2]
theorem filterMap_eqOn {α β : Type} {f g : α → Option β} : ∀ {l : List α}, (∀ x ∈ l, f x = g x) → l.filterMap f = l.filterMap g
  | [], _ => rfl
  | a :: l, h => by
    rw [List.filterMap_cons, List.filterMap_cons, h a List.mem_cons_self, filterMap_eqOn fun x hx => h x (List.mem_cons_of_mem _ hx)]
theorem filterMap_via {α : Type} {f g : Nat → Option α} {I : List Nat} (h : ∀ k, k < I.length → f k = g (I.getD k 0)) : (List.range I.length).filterMap f = I.filterMap g := by
  rw [← congrArg (List.filterMap g) (range_getD I), List.filterMap_map]
  exact filterMap_eqOn fun k hk => h k (List.mem_range.1 hk)

theorem sub_zip {α β : Type} : ∀ {l l' : List α}, l'.Sublist l → ∀ {t : List β}, t.length = l.length → ∃ t' : List β, t'.length = l'.length ∧ (l'.zip t').Sublist (l.zip t)
  | _, _, .slnil, t, h => ⟨[], rfl, by simp⟩
  | _, _, .cons a hs, [], h => by simp at h
  | _, _, .cons a hs, x :: t, h => by
    obtain ⟨t', h1, h2⟩ := sub_zip hs (t := t) (by simpa using h)
    exact ⟨t', h1, by rw [List.zip_cons_cons]; exact .cons _ h2⟩
  | _, _, .cons_cons a hs, [], h => by simp at h
  | _, _, .cons_cons a hs, x :: t, h => by
    obtain ⟨t', h1, h2⟩ := sub_zip hs (t := t) (by simpa using h)
    exact ⟨x :: t', by simp [h1], by rw [List.zip_cons_cons, List.zip_cons_cons]; exact .cons_cons _ h2⟩
theorem movesOk_sub {l l' : List Mv} (h : MovesOk l) (hs : l'.Sublist l) : MovesOk l' := by
  rw [movesOk_iff] at h ⊢
  exact ⟨Nat.le_trans hs.length_le h.1, fun m hm => h.2.1 m (hs.subset hm), List.Pairwise.sublist hs h.2.2⟩

/-- Moves with their ticks. -/
def InP (x : Mv × Int) : Prop := (x.1.f3 ≤ x.2 ∧ x.2 ≤ x.1.f4) ∧ (0 ≤ x.1.f5 → x.2 = x.1.f5)
def FitsP (p : List (Mv × Int)) : Prop := (∀ x ∈ p, InP x) ∧ p.Pairwise fun x y => ap2 x.1 x.2 y.1 y.2
theorem fitsP_sub {p q : List (Mv × Int)} (h : FitsP p) (hs : q.Sublist p) : FitsP q := ⟨fun x hx => h.1 x (hs.subset hx), List.Pairwise.sublist hs h.2⟩
theorem zip_at {l : List Mv} {t : List Int} (hl : t.length = l.length) {i : Nat} (hi : i < l.length) : (l.zip t)[i]'(by rw [List.length_zip]; omega) = (at' l i, tk t i) := by
  rw [List.getElem_zip]
  simp [at', tk, List.getD_eq_getElem?_getD, List.getElem?_eq_getElem hi, List.getElem?_eq_getElem (show i < t.length by omega)]
theorem mem_zip {l : List Mv} {t : List Int} (hl : t.length = l.length) {x : Mv × Int} (h : x ∈ l.zip t) : ∃ i, i < l.length ∧ x = (at' l i, tk t i) := by
  obtain ⟨i, hi, rfl⟩ := List.getElem_of_mem h
  rw [List.length_zip] at hi
  exact ⟨i, by omega, zip_at hl (by omega)⟩
theorem zip_mem {l : List Mv} {t : List Int} (hl : t.length = l.length) {i : Nat} (hi : i < l.length) : (at' l i, tk t i) ∈ l.zip t := by
  rw [← zip_at hl hi]
  exact List.getElem_mem _
theorem fits_iff {l : List Mv} {t : List Int} : Fits l t ↔ MovesOk l ∧ t.length = l.length ∧ FitsP (l.zip t) := by
  constructor
  · rintro ⟨h1, h2, h3⟩
    refine ⟨h1, h2, fun x hx => ?_, List.pairwise_iff_getElem.2 fun i j hi hj hij => ?_⟩
    · obtain ⟨i, hi, rfl⟩ := mem_zip h2 hx
      exact (h3 i hi).1
    · have hj' : j < l.length := by rw [List.length_zip] at hj; omega
      rw [zip_at h2 (show i < l.length by omega), zip_at h2 hj']
      have a := (h3 i (by omega)).2 j hj' (by omega)
      have b := (h3 j hj').2 i (by omega) (by omega)
      unfold Ap at a b
      exact ⟨a.1, a.2, b.2⟩
  · rintro ⟨h1, h2, h3, h4⟩
    refine ⟨h1, h2, fun i hi => ⟨h3 _ (zip_mem h2 hi), fun k hk hne => ?_⟩⟩
    have key : ∀ i j, i < j → j < l.length → ap2 (at' l i) (tk t i) (at' l j) (tk t j) := by
      intro i j hij hj
      have := (List.pairwise_iff_getElem.1 h4) i j (by rw [List.length_zip]; omega) (by rw [List.length_zip]; omega) hij
      rwa [zip_at h2 (show i < l.length by omega), zip_at h2 hj] at this
    unfold Ap
    rcases Nat.lt_or_ge i k with h | h
    · have := key i k h hk
      exact ⟨this.1, this.2.1⟩
    · have := key k i (by omega) hi
      exact ⟨fun e => this.1 e.symm, this.2.2⟩
theorem fits_sub {l l' : List Mv} {t : List Int} (h : Fits l t) (hs : l'.Sublist l) : ∃ t', Fits l' t' := by
  rw [fits_iff] at h
  obtain ⟨h1, h2, h3⟩ := h
  obtain ⟨t', h4, h5⟩ := sub_zip hs h2
  exact ⟨t', fits_iff.2 ⟨movesOk_sub h1 hs, h4, fitsP_sub h3 h5⟩⟩

/-! ### Plans -/
theorem laterOk_iff {u : Int} {l : List Mv} : LaterOk u l ↔ ∀ m ∈ l, LaterAt u m := by
  constructor
  · intro h m hm
    obtain ⟨i, hi, rfl⟩ := mem_at' hm
    exact h i hi
  · exact fun h i hi => h _ (at'_mem hi)
theorem planM_fits {l : List Mv} {now sh : Int} (hm : MovesOk l) (hn : 0 ≤ now) (hs : 0 ≤ sh ∧ sh ≤ 6) (h : (planM l now sh).2 = true) : LaterOk (now + 4) l ∧ Fits (laterL (now + 4) l) (planM l now sh).1 := by
  rw [planM_eq hm hn hs] at h ⊢
  split at h
  · rename_i hl
    rw [if_pos hl]
    refine ⟨hl, ?_⟩
    unfold bestF at *
    split at h
    · rename_i hc
      rw [if_pos hc]
      unfold bestM at *
      have hb := best_ok1 hc.1 sh
      revert h hb
      cases bestO (laterL (now + 4) l) sh with
      | none => exact fun h => by cases h
      | some t => exact fun _ hb => hb t rfl
    · cases h
  · cases h
theorem shiftM_le {a b : List Int} (h : a.length ≤ 6) : shiftM a b ≤ 6 := by
  unfold shiftM
  split
  · rename_i hc
    have := foldFrom_inv (step := shStep a b) (fun _ s => s ≤ 6) (n := a.length) (fun i s hi hs => by
      unfold shStep
      rcases pos_range b (a.getD i 0) with ⟨h1, _⟩ | ⟨j, h1, h2, _⟩
      · rw [h1]; omega
      · rw [h1]; omega) a.length 0 0 (by omega) (by omega)
    simpa using this
  · omega
theorem plan6_of {l : List Mv} {now : Int} {t : List Int} (hm : MovesOk l) (hn : 0 ≤ now) (hl : LaterOk (now + 4) l) (hf : Fits (laterL (now + 4) l) t) : (planM l now 6).2 = true := by
  rw [planM_eq hm hn (by omega), if_pos hl]
  unfold bestF
  rw [if_pos ⟨hf.1, by omega⟩]
  obtain ⟨ho, hlen⟩ := ordT_ord t (laterL (now + 4) l).length
  obtain ⟨u, e, _⟩ := bestO_min (sh := 6) ho hlen (by have := shiftM_le (a := firstM (laterL (now + 4) l)) (b := ordT t (laterL (now + 4) l).length) (by rw [firstM_len]; exact hf.1.1); omega) (fits_ordM hf)
  unfold bestM
  rw [e]
  rfl
theorem plan6_sub {l l' : List Mv} {now : Int} (hs : l'.Sublist l) (hm : MovesOk l) (hn : 0 ≤ now) (h : (planM l now 6).2 = true) : (planM l' now 6).2 = true := by
  obtain ⟨h1, h2⟩ := planM_fits hm hn (by omega) h
  obtain ⟨t', h3⟩ := fits_sub h2 (List.Sublist.map (laterMv (now + 4)) hs)
  refine plan6_of (movesOk_sub hm hs) hn ?_ h3
  rw [laterOk_iff] at h1 ⊢
  exact fun m hm => h1 m (hs.subset hm)
/-- A part of a book that is sure is sure. -/
theorem sure_sub {b b' : Bk} {I : List Nat} (h : SureM b) (hb : BkOk b') (hlen : b'.ms.length = I.length) (hI : I.Sublist (List.range b.ms.length))
    (hth : ∀ j k, j < I.length → k < I.length → thenAt b' j k = thenAt b (I.getD j 0) (I.getD k 0)) (hat : ∀ j, j < I.length → tk b'.ts j = tk b.ts (I.getD j 0) ∧ (at' b'.ms j).f4 = (at' b.ms (I.getD j 0)).f4 ∧ (at' b'.ms j).f1 = (at' b.ms (I.getD j 0)).f1) : SureM b' := by
  refine ⟨hb, fun j hj hl => ?_⟩
  rw [hlen] at hj
  obtain ⟨h1, h2, h3⟩ := hat j hj
  have hlt : I.getD j 0 < b.ms.length := by
    have : I.getD j 0 ∈ I := by rw [List.getD_eq_getElem?_getD, List.getElem?_eq_getElem hj]; exact List.getElem_mem hj
    exact List.mem_range.1 (hI.subset this)
  have hr := h.2 _ hlt (by rw [← h3]; exact hl)
  have hg : GoneOk b' j := by have := hr.1; unfold GoneOk at *; rw [h1, h2]; exact this
  refine ⟨hg, ?_⟩
  have hs : (thenL b' j).Sublist (thenL b (I.getD j 0)) := by
    rw [thenL_at, thenL_at, hlen, filterMap_via fun k hk => hth j k hj hk]
    exact hI.filterMap _
  unfold roundP
  rw [h1]
  exact plan6_sub hs (then_movesOk h.1 hlt hr.1) (bk_tick h.1 hlt).2.2.2.2.1 hr.2
theorem getD_inj {I : List Nat} (hn : I.Nodup) {j k : Nat} (hj : j < I.length) (hk : k < I.length) (e : I.getD j 0 = I.getD k 0) : j = k := by
  simp only [List.getD_eq_getElem?_getD, List.getElem?_eq_getElem hj, List.getElem?_eq_getElem hk, Option.getD_some] at e
  have hp := List.pairwise_iff_getElem.1 hn
  rcases Nat.lt_trichotomy j k with h | h | h
  · exact absurd e (hp j k hj hk h)
  · exact h
  · exact absurd e.symm (hp k j hk hj h)

/-! ### Books by pairs -/
theorem gap_of {a b a' b' : Mv} (h1 : a.f1 = a'.f1) (h2 : a.f2 = a'.f2) (h3 : b.f2 = b'.f2) : gap a b = gap a' b' := by
  unfold gap
  rw [h1, h2, h3]
theorem bkOk_iff {b : Bk} : BkOk b ↔ (0 ≤ b.now ∧ b.now ≤ 10000) ∧ (0 ≤ b.shift ∧ b.shift ≤ 6) ∧ MovesOk b.ms ∧ b.ts.length = b.ms.length ∧ FitsP (b.ms.zip b.ts) ∧ ∀ x ∈ b.ms.zip b.ts, b.now ≤ x.2 ∧ (x.2 < b.now + 4 → 0 ≤ x.1.f5) := by
  constructor
  · rintro ⟨h1, h2, h3, h4⟩
    have hf := fits_iff.1 h3
    refine ⟨h1, h2, hf.1, hf.2.1, hf.2.2, fun x hx => ?_⟩
    obtain ⟨i, hi, rfl⟩ := mem_zip hf.2.1 hx
    exact h4 i (by omega)
  · rintro ⟨h1, h2, h3, h4, h5, h6⟩
    exact ⟨h1, h2, fits_iff.2 ⟨h3, h4, h5⟩, fun i hi => h6 _ (zip_mem h4 (by omega))⟩
/-- A plan makes a book that is ok. -/
theorem plan_book {l : List Mv} {now sh sh' : Int} (hm : MovesOk l) (hn : 0 ≤ now ∧ now ≤ 10000) (hs : 0 ≤ sh ∧ sh ≤ 6) (hs' : 0 ≤ sh' ∧ sh' ≤ 6) (hp : ∀ m ∈ l, 0 ≤ m.f5 → now ≤ m.f5) (h : (planM l now sh).2 = true) : BkOk ⟨now, sh', l, (planM l now sh).1⟩ := by
  obtain ⟨h1, h2⟩ := planM_fits hm hn.1 hs h
  generalize (planM l now sh).1 = t at h2 ⊢
  have hl : t.length = l.length := by have := h2.2.1; simpa [laterL] using this
  have hat : ∀ i, i < l.length → at' (laterL (now + 4) l) i = laterMv (now + 4) (at' l i) := fun i hi => at'_map hi
  have hin : ∀ i, i < l.length → InR l t i ∧ ((at' l i).f5 < 0 → now + 4 ≤ tk t i) := fun i hi => by
    have := (h2.2.2 i (by simpa [laterL] using hi)).1
    unfold InR at *
    rw [hat i hi] at this
    unfold laterMv at this
    split at this
    · dsimp only at this; exact ⟨⟨⟨by omega, by omega⟩, fun h => by omega⟩, fun _ => by omega⟩
    · exact ⟨this, fun h => by omega⟩
  have hg : ∀ i k, i < l.length → k < l.length → gap (at' (laterL (now + 4) l) i) (at' (laterL (now + 4) l) k) = gap (at' l i) (at' l k) := fun i k hi hk => by
    rw [hat i hi, hat k hk]
    exact gap_of (by unfold laterMv; split <;> rfl) (by unfold laterMv; split <;> rfl) (by unfold laterMv; split <;> rfl)
  refine ⟨hn, hs', ⟨hm, hl, fun i hi => ⟨(hin i hi).1, fun k hk hne => ?_⟩⟩, fun i hi => ?_⟩
  · have := (h2.2.2 i (by simpa [laterL] using hi)).2 k (by simpa [laterL] using hk) hne
    unfold Ap at *
    rw [hg i k hi hk] at this
    exact this
  · dsimp only at hi
    have h3 := hin i (by omega)
    have h4 := hp _ (at'_mem (show i < l.length by omega))
    unfold SoonAt
    unfold InR at h3
    dsimp only
    by_cases h5 : (at' l i).f5 < 0
    · exact ⟨by omega, fun h => by omega⟩
    · exact ⟨by omega, fun h => by omega⟩
end Go.AM

/- Plain laws: dropping, a tick that passes, going round, coming in: what they leave; no condition. -/
namespace Go.AM
set_option linter.unusedVariables false
set_option linter.unusedSimpArgs false
open Go.RowKit

theorem bkz_ok : BkOk Bk.z := ⟨by decide, by decide, ⟨⟨by decide, fun i hi => absurd hi (Nat.not_lt_zero i)⟩, rfl, fun i hi => absurd hi (Nat.not_lt_zero i)⟩, fun i hi => absurd hi (Nat.not_lt_zero i)⟩
theorem getD_map {α β : Type} {f : α → β} {l : List α} {d : β} {e : α} {k : Nat} (h : k < l.length) : (l.map f).getD k d = f (l.getD k e) := by
  simp [List.getD_eq_getElem?_getD, List.getElem?_eq_getElem h]
theorem getD_mem {α : Type} {l : List α} {d : α} {k : Nat} (h : k < l.length) : l.getD k d ∈ l := by
  rw [List.getD_eq_getElem?_getD, List.getElem?_eq_getElem h]
  exact List.getElem_mem h
theorem name_inj {l : List Mv} (h : MovesOk l) {i j : Nat} (hi : i < l.length) (hj : j < l.length) (e : (at' l i).f0 = (at' l j).f0) : i = j := by
  rcases Nat.lt_trichotomy i j with k | k | k
  · have := movesOk_lt h k hj
    rw [e, ltN_irr] at this
    cases this
  · exact k
  · have := movesOk_lt h k hi
    rw [e, ltN_irr] at this
    cases this
/-- When somebody comes, -1 if they do not. -/
def wtk (b : Bk) (s : ByteArray) : Int := if atN b.ms s < 0 then -1 else tk b.ts (atN b.ms s).toNat
theorem wtk_cases {b : Bk} (s : ByteArray) : (wtk b s = -1 ∧ ∀ j, j < b.ms.length → (at' b.ms j).f0 ≠ s) ∨ (∃ j, j < b.ms.length ∧ (at' b.ms j).f0 = s ∧ wtk b s = tk b.ts j) := by
  unfold wtk
  rcases atN_range b.ms s with ⟨h1, h2⟩ | ⟨j, h1, h2, h3⟩
  · exact .inl ⟨by rw [if_pos (by omega)], h2⟩
  · exact .inr ⟨j, h2, h3, by rw [if_neg (by omega), h1, Int.toNat_natCast]⟩
theorem wtk_at {b : Bk} (h : MovesOk b.ms) {i : Nat} (hi : i < b.ms.length) : wtk b (at' b.ms i).f0 = tk b.ts i := by
  rcases wtk_cases (b := b) (at' b.ms i).f0 with ⟨_, h2⟩ | ⟨j, h1, h2, h3⟩
  · exact absurd rfl (h2 i hi)
  · rw [h3, name_inj h h1 hi h2]
/-- All who were promised a tick, but for one, still have it. -/
def PromB (a b : Bk) (s : ByteArray) : Prop := ∀ i, i < a.ms.length → (at' a.ms i).f0 ≠ s → 0 ≤ (at' a.ms i).f5 → 0 ≤ wtk b (at' a.ms i).f0 → wtk b (at' a.ms i).f0 = (at' a.ms i).f5
theorem prom_of {a b : Bk} {s : ByteArray} (hb : Fits b.ms b.ts) (h : ∀ i j, i < a.ms.length → j < b.ms.length → (at' a.ms i).f0 = (at' b.ms j).f0 → (at' a.ms i).f0 ≠ s → 0 ≤ (at' a.ms i).f5 → (at' b.ms j).f5 = (at' a.ms i).f5) : PromB a b s := by
  intro i hi hs h5 hw
  rcases wtk_cases (b := b) (at' a.ms i).f0 with ⟨h1, _⟩ | ⟨j, h1, h2, h3⟩
  · omega
  · have h4 := h i j hi h1 h2.symm hs h5
    have := (hb.2.2 j h1).1.2 (by omega)
    omega
theorem prom_self {b : Bk} {s : ByteArray} (hb : Fits b.ms b.ts) : PromB b b s := prom_of hb fun i j hi hj e _ _ => by rw [name_inj hb.1 hi hj e]
/-- Nobody who stays is later. -/
def NoLtB (a b : Bk) : Prop := ∀ j, j < b.ms.length → 0 ≤ wtk a (at' b.ms j).f0 → tk b.ts j ≤ wtk a (at' b.ms j).f0

/-! ### Dropping -/
def skip (c k : Nat) : Nat := if k < c then k else k + 1
theorem dropL_length {α : Type} (l : List α) {a : Nat} (h : a < l.length) : (dropL l a).length = l.length - 1 := by
  unfold dropL
  rw [List.length_append, List.length_take, List.length_drop]
  omega
theorem dropL_get {α : Type} (l : List α) (d : α) {c : Nat} (hc : c < l.length) (k : Nat) : (dropL l c).getD k d = l.getD (skip c k) d := by
  unfold dropL skip
  rw [List.getD_eq_getElem?_getD, List.getD_eq_getElem?_getD]
  by_cases h : k < c
  · rw [if_pos h, List.getElem?_append_left (by simp; omega), List.getElem?_take_of_lt h]
  · rw [if_neg h, List.getElem?_append_right (by simp; omega), List.getElem?_drop, List.length_take]
    congr 2
    omega
theorem dropL_sub {α : Type} (l : List α) (a : Nat) : (dropL l a).Sublist l := by
  unfold dropL
  have h1 : (l.drop (a + 1)).Sublist (l.drop a) := by
    rw [← List.drop_drop]; exact List.drop_sublist _ _
  have := (List.Sublist.refl (l.take a)).append h1
  rwa [List.take_append_drop] at this
theorem dropL_zip {α β : Type} (l : List α) (t : List β) (c : Nat) (h : l.length = t.length) : (dropL l c).zip (dropL t c) = dropL (l.zip t) c := by
  unfold dropL
  rw [List.zip_append (by simp [h])]
  simp only [List.zip, List.take_zipWith, List.drop_zipWith]
theorem dropB_ok {b : Bk} {c : Nat} (hb : BkOk b) (hc : c < b.ms.length) : BkOk (dropB b c) := by
  rw [bkOk_iff] at hb ⊢
  obtain ⟨h1, h2, h3, h4, h5, h6⟩ := hb
  have hs : ((dropB b c).ms.zip (dropB b c).ts).Sublist (b.ms.zip b.ts) := by
    show ((dropL b.ms c).zip (dropL b.ts c)).Sublist _
    rw [dropL_zip _ _ _ h4.symm]
    exact dropL_sub _ _
  refine ⟨h1, h2, movesOk_sub h3 (dropL_sub _ _), ?_, fitsP_sub h5 hs, fun x hx => h6 x (hs.subset hx)⟩
  show (dropL b.ts c).length = (dropL b.ms c).length
  rw [dropL_length _ hc, dropL_length _ (by omega), h4]
theorem dropB_sure {b : Bk} {c : Nat} (h : SureM b) (hc : c < b.ms.length) : SureM (dropB b c) := by
  have hl : b.ts.length = b.ms.length := h.1.2.2.1.2.1
  have hr : c < (List.range b.ms.length).length := by rw [List.length_range]; exact hc
  have hI : (dropL (List.range b.ms.length) c).length = b.ms.length - 1 := by rw [dropL_length _ hr, List.length_range]
  have hlen : (dropB b c).ms.length = b.ms.length - 1 := dropL_length _ hc
  have hk : ∀ k, k < b.ms.length - 1 → (dropL (List.range b.ms.length) c).getD k 0 = skip c k := fun k hk => by
    rw [dropL_get _ _ hr]
    have : skip c k < b.ms.length := by unfold skip; split <;> omega
    simp [List.getD_eq_getElem?_getD, this]
  have hm : ∀ k, at' (dropB b c).ms k = at' b.ms (skip c k) := fun k => dropL_get _ _ hc k
  have ht : ∀ k, tk (dropB b c).ts k = tk b.ts (skip c k) := fun k => dropL_get _ _ (by omega) k
  refine sure_sub h (dropB_ok h.1 hc) (I := dropL (List.range b.ms.length) c) (by rw [hlen, hI]) (dropL_sub _ _) (fun j k hj hk' => ?_) (fun j hj => ?_)
  · rw [hI] at hj hk'
    rw [hk j hj, hk k hk']
    unfold thenAt
    rw [hm, ht, ht]
    have this : k = j ↔ skip c k = skip c j := by unfold skip; split <;> split <;> omega
    by_cases e : k = j
    · rw [if_pos e, if_pos (this.1 e)]
    · rw [if_neg e, if_neg (fun q => e (this.2 q))]
  · rw [hI] at hj
    rw [hk j hj, ht, hm]
    exact ⟨rfl, rfl, rfl⟩
theorem dropP_ok {b : Bk} {c : Nat} (hb : BkOk b) (hc : c < b.ms.length) (s : SureM ⟨b.now, b.shift, dropL b.ms c, (dropP b c).1⟩) : True := trivial
/-- What dropping gives. -/
theorem dropR_cases {b : Bk} (n : ByteArray) (hb : BkOk b) : (∀ j, j < b.ms.length → (at' b.ms j).f0 ≠ n) ∧ dropR b n = (b, 3) ∨ (∃ c, c < b.ms.length ∧ (at' b.ms c).f0 = n ∧ (dropR b n = (dropB b c, 0) ∨ ∃ t, dropR b n = (⟨b.now, b.shift, dropL b.ms c, t⟩, 0) ∧ NoLater t (dropL b.ts c) ∧ SureM ⟨b.now, b.shift, dropL b.ms c, t⟩)) := by
  unfold dropR
  rw [if_neg (fun h => h hb)]
  rcases atN_range b.ms n with ⟨h1, h2⟩ | ⟨c, h1, h2, h3⟩
  · exact .inl ⟨h2, by rw [if_pos (by omega)]⟩
  · refine .inr ⟨c, h2, h3, ?_⟩
    rw [if_neg (by omega), h1, Int.toNat_natCast]
    split
    · rename_i hq
      exact .inr ⟨_, rfl, hq.2.1, hq.2.2⟩
    · exact .inl rfl
theorem dropR_ok {b : Bk} (n : ByteArray) : BkOk (dropR b n).1 := by
  by_cases hb : BkOk b
  · rcases dropR_cases n hb with ⟨_, h⟩ | ⟨c, h1, h2, h | ⟨t, h, _, h3⟩⟩
    · rw [h]; exact hb
    · rw [h]; exact dropB_ok hb h1
    · rw [h]; exact h3.1
  · unfold dropR
    rw [if_pos hb]
    exact bkz_ok
theorem dropR_sure {b : Bk} (n : ByteArray) (h : SureM b) : SureM (dropR b n).1 := by
  rcases dropR_cases n h.1 with ⟨_, e⟩ | ⟨c, h1, h2, e | ⟨t, e, _, h3⟩⟩
  · rw [e]; exact h
  · rw [e]; exact dropB_sure h h1
  · rw [e]; exact h3
theorem dropR_noLt {b : Bk} (n : ByteArray) (hb : BkOk b) : NoLtB b (dropR b n).1 := by
  have hm := hb.2.2.1.1
  have hl : b.ts.length = b.ms.length := hb.2.2.1.2.1
  rcases dropR_cases n hb with ⟨_, h⟩ | ⟨c, h1, h2, h | ⟨t, h, h3, h4⟩⟩
  · rw [h]
    intro j hj _
    rw [wtk_at hm hj]
    exact Int.le_refl _
  · rw [h]
    intro j hj _
    have hlen : (dropB b c).ms.length = b.ms.length - 1 := dropL_length _ h1
    have hj' : j < b.ms.length - 1 := by rw [← hlen]; exact hj
    have hsk : skip c j < b.ms.length := by unfold skip; split <;> omega
    rw [show at' (dropB b c).ms j = at' b.ms (skip c j) from dropL_get _ _ h1 j, wtk_at hm hsk, show tk (dropB b c).ts j = tk b.ts (skip c j) from dropL_get _ _ (by omega) j]
    exact Int.le_refl _
  · rw [h]
    intro j hj _
    have hlen : (dropL b.ms c).length = b.ms.length - 1 := dropL_length _ h1
    have hj' : j < b.ms.length - 1 := by rw [← hlen]; exact hj
    have hsk : skip c j < b.ms.length := by unfold skip; split <;> omega
    have ht : t.length = (dropL b.ms c).length := h4.1.2.2.1.2.1
    show tk t j ≤ wtk b (at' (dropL b.ms c) j).f0
    rw [show at' (dropL b.ms c) j = at' b.ms (skip c j) from dropL_get _ _ h1 j, wtk_at hm hsk, ← show tk (dropL b.ts c) j = tk b.ts (skip c j) from dropL_get _ _ (by omega) j]
    exact h3 j (by omega)
theorem dropR_prom {b : Bk} (n s : ByteArray) (hb : BkOk b) : PromB b (dropR b n).1 s := by
  have hm := hb.2.2.1.1
  have hf := (dropR_ok (b := b) n).2.2.1
  refine prom_of hf fun i j hi hj e _ _ => ?_
  rcases dropR_cases n hb with ⟨_, h⟩ | ⟨c, h1, h2, h3⟩
  · rw [h] at hj e ⊢
    rw [name_inj hm hi hj e]
  · have hms : (dropR b n).1.ms = dropL b.ms c := by
      rcases h3 with h | ⟨t, h, _⟩ <;> rw [h] <;> rfl
    rw [hms] at hj e ⊢
    rw [dropL_length _ h1] at hj
    have hsk : skip c j < b.ms.length := by unfold skip; split <;> omega
    rw [show at' (dropL b.ms c) j = at' b.ms (skip c j) from dropL_get _ _ h1 j] at e ⊢
    rw [name_inj hm hi hsk e]
theorem dropR_codes {b : Bk} (n : ByteArray) (hb : BkOk b) : ((dropR b n).2 = 0 ∧ (dropR b n).1.ms.length + 1 = b.ms.length) ∨ ((dropR b n).2 = 3 ∧ (dropR b n).1 = b) := by
  rcases dropR_cases n hb with ⟨_, h⟩ | ⟨c, h1, h2, h | ⟨t, h, _, h3⟩⟩
  · rw [h]; exact .inr ⟨rfl, rfl⟩
  · rw [h]; refine .inl ⟨rfl, ?_⟩; show (dropL b.ms c).length + 1 = _; rw [dropL_length _ h1]; omega
  · rw [h]; refine .inl ⟨rfl, ?_⟩; show (dropL b.ms c).length + 1 = _; rw [dropL_length _ h1]; omega

/-! ### A tick that passes -/
def stayI (b : Bk) : List Nat := (List.range b.ms.length).filter fun k => !decide (tk b.ts k = b.now)
def goI (b : Bk) : List Nat := (List.range b.ms.length).filter fun k => decide (tk b.ts k = b.now)
theorem tickFrom_eq (b : Bk) : ∀ d i s, foldFrom (tickStep b) i d s =
    (s.1 ++ ((List.range' i d).filter fun k => !decide (tk b.ts k = b.now)).map (fun k => soon b.now (at' b.ms k) (tk b.ts k)), s.2.1 ++ ((List.range' i d).filter fun k => !decide (tk b.ts k = b.now)).map (tk b.ts), s.2.2 ++ ((List.range' i d).filter fun k => decide (tk b.ts k = b.now)).map fun k => (at' b.ms k).f0) := by
  intro d
  induction d with
  | zero => intro i s; simp [foldFrom]
  | succ d ih =>
    intro i s
    show foldFrom (tickStep b) (i + 1) d (tickStep b i s) = _
    rw [ih, List.range'_succ]
    unfold tickStep
    by_cases h : tk b.ts i = b.now
    · rw [if_pos h]; simp [h]
    · rw [if_neg h]; simp [h]
theorem tickF_eq (b : Bk) : tickF b = ((stayI b).map (fun k => soon b.now (at' b.ms k) (tk b.ts k)), (stayI b).map (tk b.ts), (goI b).map fun k => (at' b.ms k).f0) := by
  unfold tickF stayI goI
  rw [tickFrom_eq, List.range_eq_range']
  simp
theorem filter_two {α : Type} (p : α → Bool) : ∀ l : List α, (l.filter fun k => !p k).length + (l.filter p).length = l.length
  | [] => rfl
  | a :: l => by
    have := filter_two p l
    cases h : p a <;> simp [h] <;> omega
theorem soon_gap {n : Int} {a b : Mv} {t u : Int} : gap (soon n a t) (soon n b u) = gap a b := by
  exact gap_of (by unfold soon; split <;> rfl) (by unfold soon; split <;> rfl) (by unfold soon; split <;> rfl)
theorem soon_name {n : Int} {a : Mv} {t : Int} : (soon n a t).f0 = a.f0 := by unfold soon; split <;> rfl
theorem stayI_mem {b : Bk} {k : Nat} (h : k ∈ stayI b) : k < b.ms.length ∧ tk b.ts k ≠ b.now := by
  unfold stayI at h
  rw [List.mem_filter] at h
  exact ⟨List.mem_range.1 h.1, by simpa using h.2⟩
theorem stayI_sub (b : Bk) : (stayI b).Sublist (List.range b.ms.length) := List.filter_sublist
theorem stayI_lt (b : Bk) : (stayI b).Pairwise (· < ·) := List.Pairwise.sublist (stayI_sub b) List.pairwise_lt_range
theorem tickB_ok {b : Bk} (hb : BkOk b) (hn : b.now ≠ 10000) : BkOk ⟨b.now + 1, b.shift, (tickF b).1, (tickF b).2.1⟩ := by
  have hft := hb.2.2.1
  have hm := hft.1
  have h0 := hb.1
  rw [bkOk_iff, tickF_eq]
  dsimp only
  have hin : ∀ k ∈ stayI b, (soon b.now (at' b.ms k) (tk b.ts k)).f0 = (at' b.ms k).f0 ∧ mvOk (soon b.now (at' b.ms k) (tk b.ts k)) = true ∧ InP (soon b.now (at' b.ms k) (tk b.ts k), tk b.ts k) ∧ b.now + 1 ≤ tk b.ts k ∧ (tk b.ts k < b.now + 1 + 4 → 0 ≤ (soon b.now (at' b.ms k) (tk b.ts k)).f5) := by
    intro k hk
    obtain ⟨h1, h2⟩ := stayI_mem hk
    obtain ⟨k1, k2, k3, k4, k5, k6⟩ := bk_tick hb h1
    have k7 := mvOk_true.1 k3
    unfold InR at k2
    have := k4.1
    refine ⟨soon_name, ?_, ?_, by omega, ?_⟩
    · unfold soon
      split
      · rw [mvOk_true]
        refine ⟨k7.1, ?_⟩
        have := k7.2
        dsimp only
        omega
      · exact k3
    · unfold soon InP
      split
      · exact ⟨k2.1, fun _ => rfl⟩
      · exact k2
    · intro h
      unfold soon
      rw [if_pos h]
      exact k5
  have hlen : (stayI b).length ≤ b.ms.length := by have := (stayI_sub b).length_le; rwa [List.length_range] at this
  refine ⟨by omega, hb.2.1, movesOk_iff.2 ⟨?_, fun m hm' => ?_, ?_⟩, by simp, ?_, ?_⟩
  · rw [List.length_map]; have := hm.1; omega
  · obtain ⟨k, hk, rfl⟩ := List.mem_map.1 hm'
    exact (hin k hk).2.1
  · refine List.pairwise_map.2 ((stayI_lt b).imp_of_mem fun {i j} hi hj hij => ?_)
    rw [(hin i hi).1, (hin j hj).1]
    exact movesOk_lt hm hij (stayI_mem hj).1
  · rw [List.zip_map']
    refine ⟨fun x hx => ?_, List.pairwise_map.2 ((stayI_lt b).imp_of_mem fun {i j} hi hj hij => ?_)⟩
    · obtain ⟨k, hk, rfl⟩ := List.mem_map.1 hx
      exact (hin k hk).2.2.1
    · have a := (hft.2.2 i (stayI_mem hi).1).2 j (stayI_mem hj).1 (by omega)
      have c := (hft.2.2 j (stayI_mem hj).1).2 i (stayI_mem hi).1 (by omega)
      unfold Ap at a c
      unfold ap2
      dsimp only
      rw [soon_gap, soon_gap]
      exact ⟨a.1, a.2, c.2⟩
  · rw [List.zip_map']
    intro x hx
    obtain ⟨k, hk, rfl⟩ := List.mem_map.1 hx
    exact (hin k hk).2.2.2
theorem tickR_cases {b : Bk} (hb : BkOk b) : (b.now = 10000 ∧ tickR b = (b, [], 2)) ∨ (b.now ≠ 10000 ∧ tickR b = (⟨b.now + 1, b.shift, (tickF b).1, (tickF b).2.1⟩, (tickF b).2.2, 0)) := by
  unfold tickR
  rw [if_pos hb]
  split
  · exact .inl ⟨‹_›, rfl⟩
  · exact .inr ⟨‹_›, rfl⟩
theorem tickR_ok (b : Bk) : BkOk (tickR b).1 := by
  by_cases hb : BkOk b
  · rcases tickR_cases hb with ⟨_, h⟩ | ⟨h1, h⟩
    · rw [h]; exact hb
    · rw [h]; exact tickB_ok hb h1
  · unfold tickR
    rw [if_neg hb]
    exact bkz_ok
theorem tick_one {b : Bk} (hb : BkOk b) : (goI b).length ≤ 1 := by
  have hp : (goI b).Pairwise (· < ·) := List.Pairwise.sublist List.filter_sublist List.pairwise_lt_range
  have hm : ∀ k ∈ goI b, k < b.ms.length ∧ tk b.ts k = b.now := fun k hk => by
    unfold goI at hk
    rw [List.mem_filter] at hk
    exact ⟨List.mem_range.1 hk.1, by simpa using hk.2⟩
  match h : goI b with
  | [] => simp
  | [x] => simp
  | x :: y :: r =>
    exfalso
    rw [h] at hp hm
    have h1 := hm x List.mem_cons_self
    have h2 := hm y (List.mem_cons_of_mem _ List.mem_cons_self)
    have h3 := (List.pairwise_cons.1 hp).1 y List.mem_cons_self
    have := ((hb.2.2.1.2.2 x h1.1).2 y h2.1 (by omega)).1
    omega
theorem tickR_codes {b : Bk} (hb : BkOk b) : ((tickR b).2.2 = 0 ∧ (tickR b).1.ms.length + (tickR b).2.1.length = b.ms.length ∧ (tickR b).2.1.length ≤ 1) ∨ ((tickR b).2.2 = 2 ∧ (tickR b).1 = b ∧ (tickR b).2.1 = []) := by
  rcases tickR_cases hb with ⟨_, h⟩ | ⟨h1, h⟩
  · rw [h]; exact .inr ⟨rfl, rfl, rfl⟩
  · rw [h, tickF_eq]
    refine .inl ⟨rfl, ?_, ?_⟩
    · dsimp only
      rw [List.length_map, List.length_map]
      have := filter_two (fun k => decide (tk b.ts k = b.now)) (List.range b.ms.length)
      rw [List.length_range] at this
      exact this
    · dsimp only
      rw [List.length_map]
      exact tick_one hb
theorem tickR_prom {b : Bk} (s : ByteArray) (hb : BkOk b) : PromB b (tickR b).1 s := by
  have hm := hb.2.2.1.1
  refine prom_of (tickR_ok b).2.2.1 fun i j hi hj e _ h5 => ?_
  rcases tickR_cases hb with ⟨_, h⟩ | ⟨h1, h⟩
  · rw [h] at hj e ⊢
    rw [name_inj hm hi hj e]
  · rw [h, tickF_eq] at hj e ⊢
    dsimp only at hj e ⊢
    rw [List.length_map] at hj
    rw [show at' ((stayI b).map fun k => soon b.now (at' b.ms k) (tk b.ts k)) j = soon b.now (at' b.ms ((stayI b).getD j 0)) (tk b.ts ((stayI b).getD j 0)) from getD_map hj] at e ⊢
    have hk := (stayI_mem (getD_mem (d := 0) hj)).1
    rw [soon_name] at e
    rw [← name_inj hm hi hk e]
    unfold soon
    split
    · exact (hb.2.2.1.2.2 i hi).1.2 h5
    · rfl
theorem tickR_sure {b : Bk} (h : SureM b) : SureM (tickR b).1 := by
  have hb := h.1
  rcases tickR_cases hb with ⟨_, e⟩ | ⟨h1, e⟩
  · rw [e]; exact h
  · have hok := tickR_ok b
    rw [e, tickF_eq] at hok ⊢
    dsimp only at hok ⊢
    have hm : ∀ k, k < (stayI b).length → at' ((stayI b).map fun k => soon b.now (at' b.ms k) (tk b.ts k)) k = soon b.now (at' b.ms ((stayI b).getD k 0)) (tk b.ts ((stayI b).getD k 0)) := fun k hk => getD_map hk
    have ht : ∀ k, k < (stayI b).length → tk ((stayI b).map (tk b.ts)) k = tk b.ts ((stayI b).getD k 0) := fun k hk => getD_map hk
    have hnd : (stayI b).Nodup := (stayI_lt b).imp fun h => Nat.ne_of_lt h
    refine sure_sub h hok (I := stayI b) (by simp) (stayI_sub b) (fun j k hj hk => ?_) (fun j hj => ?_)
    · unfold thenAt
      dsimp only
      rw [hm k hk, ht j hj, ht k hk]
      have hq : k = j ↔ (stayI b).getD k 0 = (stayI b).getD j 0 := ⟨fun e => by rw [e], fun e => getD_inj hnd hk hj e⟩
      have hj2 := stayI_mem (getD_mem (d := 0) hj)
      have hk2 := stayI_mem (getD_mem (d := 0) hk)
      have hjn := (bk_tick hb hj2.1).2.2.2.1.1
      have hkn := (bk_tick hb hk2.1).2.2.2.1.1
      generalize (stayI b).getD j 0 = x at *
      generalize (stayI b).getD k 0 = y at *
      by_cases e : k = j
      · rw [if_pos e, if_pos (hq.1 e)]
        unfold soon goneMv
        split <;> rfl
      · rw [if_neg e, if_neg (fun q => e (hq.2 q))]
        split
        · rfl
        · unfold soon stayMv
          split
          · split <;> rfl
          · rw [if_neg (by omega)]
    · dsimp only
      rw [hm j hj, ht j hj]
      refine ⟨rfl, ?_, ?_⟩ <;> (unfold soon; split <;> rfl)
end Go.AM

/- Plain laws: going round, coming in; what the laws ask of a round; no condition. -/
namespace Go.AM
set_option linter.unusedVariables false
set_option linter.unusedSimpArgs false
open Go.RowKit

theorem then_mem {b : Bk} {a : Nat} {m : Mv} (h : m ∈ thenL b a) : ∃ k, k < b.ms.length ∧ ((k = a ∧ m = goneMv (tk b.ts a) (at' b.ms k)) ∨ (k ≠ a ∧ ¬ tk b.ts k < tk b.ts a ∧ m = stayMv (tk b.ts a) (at' b.ms k) (tk b.ts k))) := by
  rw [thenL_at] at h
  obtain ⟨k, hk, e⟩ := List.mem_filterMap.1 h
  refine ⟨k, List.mem_range.1 hk, ?_⟩
  unfold thenAt at e
  split at e
  · exact .inl ⟨‹_›, (Option.some.inj e).symm⟩
  · split at e
    · cases e
    · exact .inr ⟨‹_›, ‹_›, (Option.some.inj e).symm⟩
theorem then_gone_mem {b : Bk} {a : Nat} (ha : a < b.ms.length) : goneMv (tk b.ts a) (at' b.ms a) ∈ thenL b a := by
  rw [thenL_at]
  exact List.mem_filterMap.2 ⟨a, List.mem_range.2 ha, if_pos rfl⟩
theorem stay_name {t : Int} {m : Mv} {u : Int} : (stayMv t m u).f0 = m.f0 := by unfold stayMv; split <;> rfl
theorem roundB_ok {b : Bk} {a : Nat} (hb : BkOk b) (ha : a < b.ms.length) (hr : RoundOk b a) : BkOk (roundB b a) := by
  have ht := bk_tick hb ha
  refine plan_book (then_movesOk hb ha hr.1) (by omega) (by omega) hb.2.1 (fun m hm h5 => ?_) hr.2
  obtain ⟨k, hk, ⟨rfl, rfl⟩ | ⟨h1, h2, rfl⟩⟩ := then_mem hm
  · exact absurd (show (0 : Int) ≤ -1 from h5) (by omega)
  · have := (hb.2.2.1.2.2 k hk).1.2
    unfold stayMv at h5 ⊢
    by_cases q : tk b.ts k < tk b.ts a + 4
    · rw [if_pos q]; dsimp only; omega
    · rw [if_neg q] at h5 ⊢
      have := this h5
      omega
theorem round_prom {b : Bk} {a : Nat} (hb : BkOk b) (ha : a < b.ms.length) (hr : RoundOk b a) : PromB b (roundB b a) (at' b.ms a).f0 := by
  have hm := hb.2.2.1.1
  refine prom_of (roundB_ok hb ha hr).2.2.1 fun i j hi hj e hs h5 => ?_
  obtain ⟨k, hk, ⟨rfl, h⟩ | ⟨h1, h2, h⟩⟩ := then_mem (at'_mem (l := thenL b a) hj)
  · rw [show at' (roundB b k).ms j = _ from h] at e
    exact absurd e hs
  · rw [show at' (roundB b a).ms j = _ from h] at e ⊢
    rw [stay_name] at e
    obtain rfl := name_inj hm hi hk e
    unfold stayMv
    split
    · exact (hb.2.2.1.2.2 i hi).1.2 h5
    · rfl
theorem round_late {b : Bk} {a : Nat} (hb : BkOk b) (ha : a < b.ms.length) (hr : RoundOk b a) : tk b.ts a + 6 ≤ wtk (roundB b a) (at' b.ms a).f0 := by
  have hm := hb.2.2.1.1
  have hf := (roundB_ok hb ha hr).2.2.1
  rcases wtk_cases (b := roundB b a) (at' b.ms a).f0 with ⟨_, h⟩ | ⟨j, h1, h2, h3⟩
  · obtain ⟨j, hj, e⟩ := mem_at' (then_gone_mem ha)
    refine absurd ?_ (h j hj)
    show (at' (thenL b a) j).f0 = _
    rw [e]
    rfl
  · rw [h3]
    obtain ⟨k, hk, ⟨rfl, h⟩ | ⟨h4, _, h⟩⟩ := then_mem (at'_mem (l := thenL b a) h1)
    · have := (hf.2.2 j h1).1.1
      rw [show at' (roundB b k).ms j = _ from h] at this
      exact this.1
    · rw [show at' (roundB b a).ms j = _ from h, stay_name] at h2
      exact absurd (name_inj hm hk ha h2) h4
theorem filterMap_all {α β : Type} {f : α → Option β} : ∀ {l : List α}, (∀ x ∈ l, f x ≠ none) → (l.filterMap f).length = l.length
  | [], _ => rfl
  | a :: l, h => by
    have := filterMap_all (f := f) (l := l) fun x hx => h x (List.mem_cons_of_mem _ hx)
    cases e : f a with
    | none => exact absurd e (h a List.mem_cons_self)
    | some y => rw [List.filterMap_cons, e, List.length_cons, List.length_cons, this]
theorem then_full {b : Bk} {a : Nat} (h : ∀ k, k < b.ms.length → tk b.ts a ≤ tk b.ts k) : (thenL b a).length = b.ms.length := by
  rw [thenL_at, filterMap_all, List.length_range]
  intro k hk
  have := h k (List.mem_range.1 hk)
  unfold thenAt
  split
  · simp
  · rw [if_neg (by omega)]; simp
/-- What going round gives. -/
theorem roundR_cases {b : Bk} (n : ByteArray) (hb : BkOk b) : (∃ c, 3 ≤ c ∧ c ≤ 6 ∧ roundR b n = (b, c) ∧ (c = 5 → ¬ SureM b)) ∨ (∃ a, a < b.ms.length ∧ (at' b.ms a).f0 = n ∧ (at' b.ms a).f1 = true ∧ tk b.ts a = b.now ∧ RoundOk b a ∧ roundR b n = (roundB b a, 0)) := by
  unfold roundR
  rw [if_neg (fun h => h hb)]
  rcases atN_range b.ms n with ⟨h1, h2⟩ | ⟨a, h1, h2, h3⟩
  · exact .inl ⟨3, by omega, by omega, by rw [if_pos (fun q => by omega)], fun h => by omega⟩
  · rw [h1, Int.toNat_natCast]
    split
    · exact .inl ⟨3, by omega, by omega, rfl, fun h => by omega⟩
    · rename_i q
      have q := Classical.byContradiction q
      split
      · exact .inl ⟨6, by omega, by omega, rfl, fun h => by omega⟩
      · rename_i q2
        have q2 := Classical.byContradiction q2
        split
        · exact .inr ⟨a, h2, h3, q.2, q2, ‹_›, rfl⟩
        · rename_i q3
          exact .inl ⟨5, by omega, by omega, rfl, fun _ hs => q3 (hs.2 a h2 q.2)⟩
theorem roundR_ok (b : Bk) (n : ByteArray) : BkOk (roundR b n).1 := by
  by_cases hb : BkOk b
  · rcases roundR_cases n hb with ⟨c, _, _, h, _⟩ | ⟨a, h1, _, _, _, h2, h⟩
    · rw [h]; exact hb
    · rw [h]; exact roundB_ok hb h1 h2
  · unfold roundR
    rw [if_pos hb]
    exact bkz_ok
/-- One whose turn to land it is can go round, in a book that is sure. -/
theorem round_turn {b : Bk} (h : SureM b) {k : Nat} (hk : k < b.ms.length) (ht : tk b.ts k = b.now) (hl : (at' b.ms k).f1 = true) :
    roundR b (at' b.ms k).f0 = (roundB b k, 0) ∧ RoundOk b k ∧ (roundB b k).ms.length = b.ms.length := by
  have hb := h.1
  have hm := hb.2.2.1.1
  have hr := h.2 k hk hl
  refine ⟨?_, hr, ?_⟩
  · rcases roundR_cases (at' b.ms k).f0 hb with ⟨c, h1, h2, e, h3⟩ | ⟨a, h1, h2, h3, h4, h5, e⟩
    · exfalso
      unfold roundR at e
      rw [if_neg (fun h => h hb)] at e
      rcases atN_range b.ms (at' b.ms k).f0 with ⟨_, h5⟩ | ⟨a, h5, h6, h7⟩
      · exact h5 k hk rfl
      · obtain rfl := name_inj hm h6 hk h7
        rw [h5, Int.toNat_natCast, if_neg (fun q => q ⟨by omega, hl⟩), if_neg (fun q => q ht), if_pos hr] at e
        have := congrArg Prod.snd e
        dsimp only at this
        omega
    · obtain rfl := name_inj hm h1 hk h2
      exact e
  · refine then_full fun j hj => ?_
    have := (bk_tick hb hj).2.2.2.1.1
    omega

/-! ### Coming in -/
theorem putM_mem {l : List Mv} {m x : Mv} : x ∈ putM l m ↔ x = m ∨ x ∈ l := by
  unfold putM
  rw [insA_perm.mem_iff, List.mem_cons]
theorem putM_len (l : List Mv) (m : Mv) : (putM l m).length = l.length + 1 := insA_len
theorem addR_cases {b : Bk} (m : Mv) (hb : BkOk b) : (∃ c, 2 ≤ c ∧ c ≤ 6 ∧ addR b m = (b, c)) ∨ (∃ t, addR b m = (⟨b.now, b.shift, putM b.ms m, t⟩, 0) ∧ SureM ⟨b.now, b.shift, putM b.ms m, t⟩ ∧ (∀ j, j < b.ms.length → (at' b.ms j).f0 ≠ m.f0) ∧ b.ms.length ≤ 5 ∧ mvOk m = true) := by
  unfold addR
  rw [if_neg (fun h => h hb)]
  split
  · exact .inl ⟨2, by omega, by omega, rfl⟩
  · rename_i hm
    have hm := Classical.byContradiction hm
    split
    · exact .inl ⟨3, by omega, by omega, rfl⟩
    · rename_i h0
      split
      · exact .inl ⟨4, by omega, by omega, rfl⟩
      · rename_i h6
        split
        · exact .inl ⟨5, by omega, by omega, rfl⟩
        · split
          · exact .inl ⟨6, by omega, by omega, rfl⟩
          · rename_i hs
            have hs := Classical.byContradiction hs
            refine .inr ⟨_, rfl, hs, ?_, ?_, hm.1⟩
            · rcases atN_range b.ms m.f0 with ⟨_, h2⟩ | ⟨a, h1, _, _⟩
              · exact h2
              · exact absurd (by omega) h0
            · have := hb.2.2.1.1.1
              omega
theorem addR_ok (b : Bk) (m : Mv) : BkOk (addR b m).1 := by
  by_cases hb : BkOk b
  · rcases addR_cases m hb with ⟨c, _, _, h⟩ | ⟨t, h, h2, _⟩
    · rw [h]; exact hb
    · rw [h]; exact h2.1
  · unfold addR
    rw [if_pos hb]
    exact bkz_ok
theorem addR_sure {b : Bk} (m : Mv) (h : SureM b) : SureM (addR b m).1 := by
  rcases addR_cases m h.1 with ⟨c, _, _, e⟩ | ⟨t, e, h2, _⟩
  · rw [e]; exact h
  · rw [e]; exact h2
theorem addR_prom {b : Bk} (m : Mv) (s : ByteArray) (hb : BkOk b) : PromB b (addR b m).1 s := by
  have hm := hb.2.2.1.1
  rcases addR_cases m hb with ⟨c, _, _, h⟩ | ⟨t, h, h2, h3, _⟩
  · rw [h]; exact prom_self hb.2.2.1
  · rw [h]
    refine prom_of h2.1.2.2.1 fun i j hi hj e _ _ => ?_
    dsimp only at hj e ⊢
    rcases putM_mem.1 (at'_mem hj) with q | q
    · rw [q] at e
      exact absurd e (h3 i hi)
    · obtain ⟨k, hk, e2⟩ := mem_at' q
      rw [← e2] at e ⊢
      rw [name_inj hm hi hk e]

/-! ### What FnSure asks of a round -/
def wrL (b : Bk) (a i : Nat) : List Mv := laterL (tk b.ts a + 4) ((List.range i).filterMap (thenAt b a))
def WrOk (b : Bk) (a i : Nat) : Prop := ∀ k m, k < i → thenAt b a k = some m → LaterAt (tk b.ts a + 4) m
theorem wrL_none {b : Bk} {a i : Nat} (h : thenAt b a i = none) : wrL b a (i + 1) = wrL b a i := by
  unfold wrL
  rw [List.range_succ, List.filterMap_append]
  simp [h]
theorem wrL_some {b : Bk} {a i : Nat} {m x : Mv} (h : thenAt b a i = some m) (hx : x = laterMv (tk b.ts a + 4) m) : wrL b a (i + 1) = wrL b a i ++ [x] := by
  unfold wrL
  rw [List.range_succ, List.filterMap_append]
  simp [h, laterL, hx]
theorem wrOk_succ {b : Bk} {a i : Nat} (h : WrOk b a i) (h' : ∀ m, thenAt b a i = some m → LaterAt (tk b.ts a + 4) m) : WrOk b a (i + 1) := by
  intro k m hk e
  by_cases hki : k = i
  · subst hki; exact h' m e
  · exact h k m (by omega) e
theorem wrL_all (b : Bk) (a : Nat) : wrL b a b.ms.length = laterL (tk b.ts a + 4) (thenL b a) := by
  unfold wrL
  rw [thenL_at]
theorem wrL_len (b : Bk) (a i : Nat) : (wrL b a i).length ≤ i := by
  unfold wrL laterL
  rw [List.length_map]
  have := List.length_filterMap_le (thenAt b a) (List.range i)
  rwa [List.length_range] at this
theorem wrOk_all {b : Bk} {a : Nat} (h : WrOk b a b.ms.length) : LaterOk (tk b.ts a + 4) (thenL b a) := by
  rw [laterOk_iff, thenL_at]
  intro m hm
  obtain ⟨k, hk, e⟩ := List.mem_filterMap.1 hm
  exact h k m (List.mem_range.1 hk) e
theorem wr_round {b : Bk} {a : Nat} (hb : BkOk b) (ha : a < b.ms.length) (hg : GoneOk b a) (h : WrOk b a b.ms.length) : (bestF (wrL b a b.ms.length) 6).2 = decide (RoundOk b a) := by
  have e : (bestF (wrL b a b.ms.length) 6).2 = (roundP b a).2 := by
    unfold roundP
    rw [planM_eq (then_movesOk hb ha hg) (bk_tick hb ha).2.2.2.2.1 (by omega), if_pos (wrOk_all h), wrL_all]
  rw [e]
  cases hp : (roundP b a).2 with
  | true => exact (decide_eq_true (show RoundOk b a from ⟨hg, hp⟩)).symm
  | false => exact (decide_eq_false fun q : RoundOk b a => absurd (hp.symm.trans q.2) Bool.false_ne_true).symm
theorem wr_no {b : Bk} {a k : Nat} {m : Mv} (hb : BkOk b) (ha : a < b.ms.length) (hk : k < b.ms.length) (h : thenAt b a k = some m) (hl : ¬ LaterAt (tk b.ts a + 4) m) : ¬ RoundOk b a := by
  intro hr
  have h1 := (planM_fits (then_movesOk hb ha hr.1) (bk_tick hb ha).2.2.2.2.1 (by omega) hr.2).1
  rw [laterOk_iff, thenL_at] at h1
  exact hl (h1 m (List.mem_filterMap.2 ⟨k, List.mem_range.2 hk, h⟩))
end Go.AM

/- Plain laws: a move put among others; drawn books; the places of a round; no condition. -/
namespace Go.AM
set_option linter.unusedVariables false
set_option linter.unusedSimpArgs false
open Go.RowKit

theorem insA_asc {m : Mv} : ∀ {l : List Mv}, Asc l → (∀ y ∈ l, y.f0 ≠ m.f0) → Asc (insA (fun y => ltN y.f0 m.f0) m l)
  | [], _, _ => List.pairwise_singleton _ _
  | y :: ys, h, hn => by
    unfold Asc at h ⊢
    rw [List.pairwise_cons] at h
    unfold insA
    split
    · rename_i e
      rw [List.pairwise_cons]
      refine ⟨fun z hz => ?_, insA_asc h.2 fun z hz => hn z (List.mem_cons_of_mem _ hz)⟩
      rcases List.mem_cons.1 (insA_perm.mem_iff.1 hz) with rfl | hz
      · exact e
      · exact h.1 z hz
    · rename_i e
      have e : ltN m.f0 y.f0 = true := by
        cases q : ltN m.f0 y.f0 with
        | true => rfl
        | false => exact absurd (ltN_tri (by simpa using e) q) (hn y List.mem_cons_self)
      rw [List.pairwise_cons, List.pairwise_cons]
      refine ⟨fun z hz => ?_, h⟩
      rcases List.mem_cons.1 hz with rfl | hz
      · exact e
      · exact ltN_trans e (h.1 z hz)
theorem putM_ok {l : List Mv} {m : Mv} (h : MovesOk l) (hm : mvOk m = true) (hn : ∀ j, j < l.length → (at' l j).f0 ≠ m.f0) (hl : l.length ≤ 5) : MovesOk (putM l m) := by
  rw [movesOk_iff] at h ⊢
  refine ⟨by rw [putM_len]; omega, fun x hx => ?_, insA_asc h.2.2 fun y hy => ?_⟩
  · rcases putM_mem.1 hx with rfl | hx
    · exact hm
    · exact h.2.1 x hx
  · obtain ⟨j, hj, rfl⟩ := mem_at' hy
    exact hn j hj
theorem insA_congr {α : Type} {p q : α → Bool} {x : α} : ∀ {l : List α}, (∀ y ∈ l, p y = q y) → insA p x l = insA q x l
  | [], _ => rfl
  | y :: ys, h => by
    unfold insA
    rw [h y List.mem_cons_self, insA_congr fun z hz => h z (List.mem_cons_of_mem _ hz)]
theorem insA_last {α : Type} {p : α → Bool} {x : α} : ∀ {l : List α}, (∀ y ∈ l, p y = true) → insA p x l = l ++ [x]
  | [], _ => rfl
  | y :: ys, h => by
    unfold insA
    rw [if_pos (h y List.mem_cons_self), insA_last fun z hz => h z (List.mem_cons_of_mem _ hz)]
    rfl
def ltM (a b : Mv) : Bool := ltN a.f0 b.f0
theorem ltM_srt : Srt ltM := by
  constructor
  · intro a b h; exact ltN_asymm h
  · intro a b c h k
    unfold ltM at *
    cases q : ltN c.f0 a.f0 with
    | false => rfl
    | true =>
      cases q2 : ltN a.f0 b.f0 with
      | true => rw [ltN_trans q q2] at k; cases k
      | false => rw [← ltN_tri q2 h, q] at k; cases k
theorem isort_front {l : List Mv} (h : Asc l) (r : List Mv) : ∀ n, n ≤ l.length → isort ltM Mv.z (l ++ r) n = l.take n
  | 0, _ => rfl
  | n + 1, hn => by
    have hg : (l ++ r).getD n Mv.z = l[n]'(by omega) := by
      rw [List.getD_eq_getElem?_getD, List.getElem?_append_left (by omega), List.getElem?_eq_getElem (by omega)]
      rfl
    rw [isort_succ, isortA, isort_front h r n (by omega), hg, insA_last, List.take_succ_eq_append_getElem (by omega)]
    intro y hy
    obtain ⟨j, hj, rfl⟩ := List.getElem_of_mem hy
    rw [List.length_take] at hj
    have := (List.pairwise_iff_getElem.1 h) j n (by omega) (by omega) (by omega)
    rw [List.getElem_take]
    simp only [Bool.not_eq_true']
    exact ltN_asymm this
/-- What the program's sort makes of moves and one more behind them. -/
theorem isort_put {l : List Mv} {m : Mv} (h : Asc l) (hn : ∀ j, j < l.length → (at' l j).f0 ≠ m.f0) : isort ltM Mv.z (l ++ [m]) (l ++ [m]).length = putM l m := by
  have hg : (l ++ [m]).getD l.length Mv.z = m := by
    rw [List.getD_eq_getElem?_getD, List.getElem?_append_right (Nat.le_refl _)]
    simp
  rw [show (l ++ [m]).length = l.length + 1 by simp, isort_succ, isortA, isort_front h _ _ (Nat.le_refl _), hg, List.take_length]
  refine insA_congr fun y hy => ?_
  obtain ⟨j, hj, rfl⟩ := mem_at' hy
  have hne := hn j hj
  unfold ltM
  cases q : ltN m.f0 (at' l j).f0 with
  | true => rw [ltN_asymm q]; rfl
  | false =>
    cases q2 : ltN (at' l j).f0 m.f0 with
    | true => rfl
    | false => exact absurd (ltN_tri q2 q) hne

/-! ### Drawn books -/
/-- What is known of a book that is drawn. -/
structure BkD (b : Bk) : Prop where
  lm : b.ms.length ≤ 6
  lt : b.ts.length ≤ 6
  md : MvsD b.ms
  td : W64L b.ts
  nd : W64 b.now
  sd : W64 b.shift
theorem mvD_of {m : Mv} (h : mvOk m = true) : MvD m := by
  have := mvOk_range h
  unfold MvD W64
  omega
theorem bkD_of {b : Bk} (h : BkOk b) : BkD b := by
  have hf := h.2.2.1
  have h1 := hf.1.1
  have h2 := hf.2.1
  refine ⟨h1, by omega, fun m hm => ?_, fits_w64 hf, ?_, ?_⟩
  · obtain ⟨i, hi, rfl⟩ := mem_at' hm
    exact mvD_of (hf.1.2 i hi).1
  · have := h.1; unfold W64; omega
  · have := h.2.1; unfold W64; omega
theorem bk_empty {now shift : Int} (h : 0 ≤ now ∧ now ≤ 10000) (h' : 0 ≤ shift ∧ shift ≤ 6) : BkOk ⟨now, shift, [], []⟩ := ⟨h, h', ⟨⟨Nat.zero_le _, fun i hi => absurd hi (Nat.not_lt_zero i)⟩, rfl, fun i hi => absurd hi (Nat.not_lt_zero i)⟩, fun i hi => absurd hi (Nat.not_lt_zero i)⟩

/-! ### The places of a round, one by one -/
variable {b : Bk} {a i : Nat}
theorem wr_1 (h : i = a) (hg : GoneOk b a) (hw : WrOk b a i) : wrL b a (i + 1) = wrL b a i ++ [⟨(at' b.ms i).f0, (at' b.ms i).f1, (at' b.ms i).f2, tk b.ts a + 6, (at' b.ms i).f4, -1⟩] ∧ WrOk b a (i + 1) := by
  subst h
  have e : thenAt b i i = some (goneMv (tk b.ts i) (at' b.ms i)) := if_pos rfl
  refine ⟨wrL_some e ?_, wrOk_succ hw fun m hm => ?_⟩
  · unfold goneMv laterMv
    dsimp only
    rw [if_pos (by omega), show max (tk b.ts i + 6) (tk b.ts i + 4) = tk b.ts i + 6 by omega]
  · rw [e] at hm
    obtain rfl := Option.some.inj hm
    unfold GoneOk at hg
    unfold LaterAt goneMv
    dsimp only
    omega
theorem wr_2 (h : i ≠ a) (h2 : tk b.ts i < tk b.ts a) (hw : WrOk b a i) : wrL b a (i + 1) = wrL b a i ∧ WrOk b a (i + 1) := by
  have e : thenAt b a i = none := by unfold thenAt; rw [if_neg h, if_pos h2]
  exact ⟨wrL_none e, wrOk_succ hw fun m hm => by rw [e] at hm; cases hm⟩
theorem wr_stay (h : i ≠ a) (h2 : ¬ tk b.ts i < tk b.ts a) : thenAt b a i = some (stayMv (tk b.ts a) (at' b.ms i) (tk b.ts i)) := by unfold thenAt; rw [if_neg h, if_neg h2]
theorem wr_3 (hb : BkOk b) (hi : i < b.ms.length) (h : i ≠ a) (h2 : ¬ tk b.ts i < tk b.ts a) (h3 : tk b.ts i < tk b.ts a + 4) (hw : WrOk b a i) : wrL b a (i + 1) = wrL b a i ++ [⟨(at' b.ms i).f0, (at' b.ms i).f1, (at' b.ms i).f2, (at' b.ms i).f3, (at' b.ms i).f4, tk b.ts i⟩] ∧ WrOk b a (i + 1) := by
  have e := wr_stay h h2
  have h0 := (bk_tick hb hi).2.2.2.2.1
  have es : stayMv (tk b.ts a) (at' b.ms i) (tk b.ts i) = ⟨(at' b.ms i).f0, (at' b.ms i).f1, (at' b.ms i).f2, (at' b.ms i).f3, (at' b.ms i).f4, tk b.ts i⟩ := by unfold stayMv; rw [if_pos h3]
  rw [es] at e
  refine ⟨wrL_some e ?_, wrOk_succ hw fun m hm => ?_⟩
  · unfold laterMv
    dsimp only
    rw [if_neg (by omega)]
  · rw [e] at hm
    obtain rfl := Option.some.inj hm
    unfold LaterAt
    dsimp only
    omega
theorem wr_4 (h : i ≠ a) (h2 : ¬ tk b.ts i < tk b.ts a) (h3 : ¬ tk b.ts i < tk b.ts a + 4) (h5 : (at' b.ms i).f5 < 0) (h6 : (at' b.ms i).f3 < tk b.ts a + 4) (h7 : tk b.ts a + 4 ≤ (at' b.ms i).f4) (hw : WrOk b a i) : wrL b a (i + 1) = wrL b a i ++ [⟨(at' b.ms i).f0, (at' b.ms i).f1, (at' b.ms i).f2, tk b.ts a + 4, (at' b.ms i).f4, (at' b.ms i).f5⟩] ∧ WrOk b a (i + 1) := by
  have e := wr_stay h h2
  have es : stayMv (tk b.ts a) (at' b.ms i) (tk b.ts i) = at' b.ms i := by unfold stayMv; rw [if_neg h3]
  rw [es] at e
  refine ⟨wrL_some e ?_, wrOk_succ hw fun m hm => ?_⟩
  · unfold laterMv
    rw [if_pos h5, show max (at' b.ms i).f3 (tk b.ts a + 4) = tk b.ts a + 4 by omega]
  · rw [e] at hm
    obtain rfl := Option.some.inj hm
    unfold LaterAt
    omega
theorem wr_5 (hb : BkOk b) (hi : i < b.ms.length) (h : i ≠ a) (h2 : ¬ tk b.ts i < tk b.ts a) (h3 : ¬ tk b.ts i < tk b.ts a + 4) (h5 : ¬ ((at' b.ms i).f5 < 0 ∧ (at' b.ms i).f3 < tk b.ts a + 4)) (hw : WrOk b a i) : wrL b a (i + 1) = wrL b a i ++ [⟨(at' b.ms i).f0, (at' b.ms i).f1, (at' b.ms i).f2, (at' b.ms i).f3, (at' b.ms i).f4, (at' b.ms i).f5⟩] ∧ WrOk b a (i + 1) := by
  have e := wr_stay h h2
  have hr := mvOk_range (bk_tick hb hi).2.2.1
  have es : stayMv (tk b.ts a) (at' b.ms i) (tk b.ts i) = at' b.ms i := by unfold stayMv; rw [if_neg h3]
  rw [es] at e
  refine ⟨wrL_some e ?_, wrOk_succ hw fun m hm => ?_⟩
  · unfold laterMv
    split
    · rw [show max (at' b.ms i).f3 (tk b.ts a + 4) = (at' b.ms i).f3 by omega]
    · rfl
  · rw [e] at hm
    obtain rfl := Option.some.inj hm
    unfold LaterAt
    omega
theorem wr_no1 (h : i = a) (h2 : ¬ tk b.ts a + 6 ≤ (at' b.ms i).f4) : ¬ RoundOk b a := fun h3 => by
  subst h
  exact h2 h3.1
theorem wr_no4 (hb : BkOk b) (ha : a < b.ms.length) (hi : i < b.ms.length) (h : i ≠ a) (h2 : ¬ tk b.ts i < tk b.ts a) (h3 : ¬ tk b.ts i < tk b.ts a + 4) (h5 : (at' b.ms i).f5 < 0) (h7 : ¬ tk b.ts a + 4 ≤ (at' b.ms i).f4) : ¬ RoundOk b a := by
  have e := wr_stay h h2
  have es : stayMv (tk b.ts a) (at' b.ms i) (tk b.ts i) = at' b.ms i := by unfold stayMv; rw [if_neg h3]
  rw [es] at e
  refine wr_no hb ha hi e fun q => ?_
  unfold LaterAt at q
  omega
end Go.AM

/- StripAdd of the reference; condition: the ticks are of 64 bits. -/
namespace Go.Proofs.YtmppoajepbbmiaaGreat.AM
open Go.AM Go.RowKit
set_option linter.unusedVariables false
set_option linter.unusedSimpArgs false
set_option maxRecDepth 100000

theorem put_ok (l : List Mv) (m : Mv) (hl : l.length ≤ 1000) : Ok P 53 [.one (.lst .mv l false), .agg (encMv m)] [] (.one (.own (.k 0))) [some (.row .mv (putM l m))] := by
  refine Ok.of_run (F := mk Tryz.f53 0) Tryz.func53 rfl rfl tabOk mixed rfl rfl rfl rfl rfl (Nat.le_of_ble_eq_true rfl) (Nat.le_of_ble_eq_true rfl) (.go 5000 ?_)
  have loop : ∀ (d k : Nat) (z : Int), z = k → k + d = l.length → (∀ q, q < k → ltN (at' l q).f0 m.f0 = true) → Run P (mk Tryz.f53 0) (fun v st => v = .one (.own (.k 0)) ∧ st = [some (.row .mv (putM l m))])
      (.loop ⟨[(0, .one (.lst .mv l false)), (3, .one (.ptr (.t 3 0) 0)), (5, .one (.int .i64 z))], [(.t 3 0, some (.cells (encMv m)))], [.lp [0, 0, 1, 1], .blk 0, .code [1, 1, 1]], none⟩) := by
    intro d
    have fin : ∀ k : Nat, k ≤ l.length → (∀ q, q < k → ltN (at' l q).f0 m.f0 = true) → (k < l.length → ltN (at' l k).f0 m.f0 = false) → Fact ([] ++ l.take (k : Int).toNat ++ [m] ++ l.drop (k : Int).toNat = putM l m) := by
      intro k hk hb hx
      refine ⟨?_⟩
      unfold putM
      rw [insA_at (k := k) (d := Mv.z) hk hb hx]
      simp
    induction d with
    | zero =>
      intro k z hz hd hb
      subst hz
      have fin := fin k (by omega) hb (fun h => absurd h (by omega))
      refine Run.loop ?_
      repeat' (conv => arg 4; whnf); first | refine Run.ret ⟨?_, rfl⟩ | refine Run.condT ?_ | refine Run.condf ?_ | refine Run.condD (fun h => ?_) (fun h => ?_) | refine Run.condN (fun h => ?_) (fun h => ?_) | refine Run.condE (fun h => ?_) (fun h => ?_) | refine Run.condF (fun h => ?_) (fun h => ?_) | refine Run.condM (fun h => ?_) (fun h => ?_) | refine Run.condB (fun h => ?_) (fun h => ?_) | refine Run.check1 ?_ | (exfalso; omega) | refine Run.need1 (by simp only [allP, true_and, and_true, List.length_cons, List.length_nil, List.length_append, List.length_take, List.length_drop]; omega) ?_ | (refine Run.ret ⟨rfl, ?_⟩)
      all_goals first | (exfalso; omega) | exact congrArg (fun r => [some (C.row El.mv r)]) fin.h | trace_state
    | succ d ih =>
      intro k z hz hd hb
      subst hz
      have e := fs (i := k) (by omega)
      have fin := fin k (by omega) hb
      have eM : Fact (rdM l (k : Int) = at' l k) := ⟨rdM_nat l k⟩
      refine Run.loop ?_
      repeat' (conv => arg 4; whnf); first | refine Run.ret ⟨?_, rfl⟩ | refine Run.condT ?_ | refine Run.condf ?_ | refine Run.condD (fun h => ?_) (fun h => ?_) | refine Run.condN (fun h => ?_) (fun h => ?_) | refine Run.condE (fun h => ?_) (fun h => ?_) | refine Run.condF (fun h => ?_) (fun h => ?_) | refine Run.condM (fun h => ?_) (fun h => ?_) | refine Run.condB (fun h => ?_) (fun h => ?_) | refine Run.check1 ?_ | (exfalso; omega) | refine Run.need1 (by simp only [allP, true_and, and_true]; omega) ?_ | refine Run.need1 (by simp only [allP, true_and, and_true, List.length_cons, List.length_nil, List.length_append, List.length_take, List.length_drop]; omega) ?_ | refine Run.round ⟨[(.t 3 0, .t 3 0)], [], []⟩ (ih (k + 1) _ e.h (by omega) ?_) rfl (by (repeat' (first | exact wkEnv_nil | refine wkEnv_cons rfl ?_ | exact wkSto_nil | refine wkSto_none ?_ | refine wkSto_some rfl ?_)); done) (by (repeat' (first | exact wkEnv_nil | refine wkEnv_cons rfl ?_ | exact wkSto_nil | refine wkSto_none ?_ | refine wkSto_some rfl ?_)); done) | (refine Run.ret ⟨rfl, ?_⟩)
      all_goals clear ih
      all_goals (rw [eM.h] at *)
      all_goals first
        | (exfalso; omega)
        | exact congrArg (fun r => [some (C.row El.mv r)]) (fin (fun _ => ‹_›)).h
        | (intro q hq
           rcases Nat.lt_or_ge q k with h | h
           · exact hb q h
           · rw [show q = k by omega]; assumption)
        | trace_state
  repeat' (conv => arg 4; whnf); first | refine Run.ret ⟨?_, rfl⟩ | refine Run.condT ?_ | refine Run.condf ?_ | refine Run.condD (fun h => ?_) (fun h => ?_) | refine Run.condN (fun h => ?_) (fun h => ?_) | refine Run.condE (fun h => ?_) (fun h => ?_) | refine Run.condF (fun h => ?_) (fun h => ?_) | refine Run.condM (fun h => ?_) (fun h => ?_) | refine Run.condB (fun h => ?_) (fun h => ?_) | refine Run.check1 ?_ | refine Run.round ⟨[(.t 3 0, .t 3 0)], [], []⟩ (loop l.length 0 _ rfl (by omega) (fun q hq => absurd hq (by omega))) rfl (by (repeat' (first | exact wkEnv_nil | refine wkEnv_cons rfl ?_ | exact wkSto_nil | refine wkSto_none ?_ | refine wkSto_some rfl ?_)); done) (by (repeat' (first | exact wkEnv_nil | refine wkEnv_cons rfl ?_ | exact wkSto_nil | refine wkSto_none ?_ | refine wkSto_some rfl ?_)); done)
  all_goals trace_state
theorem planM_len6 {l : List Mv} {now sh : Int} (hm : MovesOk l) (hn : 0 ≤ now) (hs : 0 ≤ sh ∧ sh ≤ 6) : (planM l now sh).1.length ≤ 6 := planM_len l now sh hm hn hs
theorem strip_sadd_ok (b : Bk) (m : Mv) (hl : b.ms.length ≤ 1048576) (ht : b.ts.length ≤ 1048576) (hw : TkWf b.ts) :
    Ok P 9 [b.lent, .agg (encMv m)] [] (.tup [(addR b m).1.own (.k 0) (.k 1), .one (.int .i64 (addR b m).2)]) [some (.row .mv (addR b m).1.ms), some (.row (.int .i64) (addR b m).1.ts)] := by
  refine nilB_ok ?_
  have hbk := sbookOk_ok b hw
  have hmk := smoveOk_ok m
  refine Ok.of_rel (F := mk Tryz.f9 0) Tryz.func9 rfl rfl tabOk mixed rfl rfl rfl rfl rfl (Nat.le_of_ble_eq_true rfl) (by first | exact fun _ _ => nilR_len | exact fun _ _ => nilB_len) (.go 5000 ?_)
  by_cases hb : BkOk b
  · rw [decide_eq_true hb] at hbk
    have h6 := hb.2.2.1.1.1
    have hlen := hb.2.2.1.2.1
    have hat := sat_ok b m.f0 hl
    by_cases hm : mvOk m = true ∧ m.f5 = -1
    · rw [hm.1] at hmk
      have h5 := hm.2
      rcases atN_range b.ms m.f0 with ⟨h1, hn⟩ | ⟨a, h1, ha, _⟩
      · rw [h1] at hat
        by_cases h6b : b.ms.length = 6
        · have hr : addR b m = (b, 4) := by unfold addR; rw [if_neg (fun q => q hb), if_neg (fun q => q hm), if_neg (by omega), if_pos h6b]
          rw [hr]
          clear hr
          repeat' (conv => arg 4; whnf); first | refine Run.ret ⟨?_, rfl⟩ | refine Run.condT ?_ | refine Run.condf ?_ | refine Run.condD (fun h => ?_) (fun h => ?_) | refine Run.condN (fun h => ?_) (fun h => ?_) | refine Run.condE (fun h => ?_) (fun h => ?_) | refine Run.condF (fun h => ?_) (fun h => ?_) | refine Run.condM (fun h => ?_) (fun h => ?_) | refine Run.condB (fun h => ?_) (fun h => ?_) | refine Run.check1 ?_ | refine Run.call (hbk) rfl ?_ | refine Run.call (hmk) rfl ?_ | refine Run.call (hat) rfl ?_ | refine Run.call (scopy_ok b hl ht) rfl ?_ | (refine Run.ret (.inl ⟨rfl, rfl⟩)) | (exfalso; omega)
          all_goals trace_state
        · have hpm := putM_ok hb.2.2.1.1 hm.1 hn (by omega)
          have hpl := putM_len b.ms m
          have hplan := splan_ok (putM b.ms m) b.now b.shift hpm hb.1 hb.2.1
          have hput := put_ok b.ms m (by omega)
          have hr0 : addR b m = if (planM (putM b.ms m) b.now b.shift).2 = false then (b, 5) else if ¬ SureM ⟨b.now, b.shift, putM b.ms m, (planM (putM b.ms m) b.now b.shift).1⟩ then (b, 6) else (⟨b.now, b.shift, putM b.ms m, (planM (putM b.ms m) b.now b.shift).1⟩, 0) := by
            unfold addR; rw [if_neg (fun q => q hb), if_neg (fun q => q hm), if_neg (by omega), if_neg h6b]
          have hw2 : W64L (planM (putM b.ms m) b.now b.shift).1 := planM_w64 _ _ _ hpm hb.1.1 hb.2.1
          have hl2 := planM_len (putM b.ms m) b.now b.shift hpm hb.1.1 hb.2.1
          generalize planM (putM b.ms m) b.now b.shift = pr at *
          generalize putM b.ms m = pm at *
          obtain ⟨pt, pb⟩ := pr
          dsimp only at hr0 hplan hw2 hl2
          have hsu := ssure_ok ⟨b.now, b.shift, pm, pt⟩ (tkWf_l hw2)
          cases pb with
          | false =>
            rw [if_pos rfl] at hr0
            rw [hr0]
            repeat' (conv => arg 4; whnf); first | refine Run.ret ⟨?_, rfl⟩ | refine Run.condT ?_ | refine Run.condf ?_ | refine Run.condD (fun h => ?_) (fun h => ?_) | refine Run.condN (fun h => ?_) (fun h => ?_) | refine Run.condE (fun h => ?_) (fun h => ?_) | refine Run.condF (fun h => ?_) (fun h => ?_) | refine Run.condM (fun h => ?_) (fun h => ?_) | refine Run.condB (fun h => ?_) (fun h => ?_) | refine Run.check1 ?_ | refine Run.call (hbk) rfl ?_ | refine Run.call (hmk) rfl ?_ | refine Run.call (hat) rfl ?_ | refine Run.call (hput) rfl ?_ | refine Run.call (hplan) rfl ?_ | refine Run.call (scopy_ok b hl ht) rfl ?_ | (refine Run.ret (.inl ⟨rfl, rfl⟩)) | (exfalso; omega)
            all_goals trace_state
          | true =>
            rw [if_neg (by decide)] at hr0
            by_cases hs : SureM ⟨b.now, b.shift, pm, pt⟩
            · rw [if_neg (fun q => q hs)] at hr0
              rw [hr0]
              rw [decide_eq_true hs] at hsu
              repeat' (conv => arg 4; whnf); first | refine Run.ret ⟨?_, rfl⟩ | refine Run.condT ?_ | refine Run.condf ?_ | refine Run.condD (fun h => ?_) (fun h => ?_) | refine Run.condN (fun h => ?_) (fun h => ?_) | refine Run.condE (fun h => ?_) (fun h => ?_) | refine Run.condF (fun h => ?_) (fun h => ?_) | refine Run.condM (fun h => ?_) (fun h => ?_) | refine Run.condB (fun h => ?_) (fun h => ?_) | refine Run.check1 ?_ | refine Run.call (hbk) rfl ?_ | refine Run.call (hmk) rfl ?_ | refine Run.call (hat) rfl ?_ | refine Run.call (hput) rfl ?_ | refine Run.call (hplan) rfl ?_ | refine Run.call (hsu) rfl ?_ | refine Run.call (scopy_ok b hl ht) rfl ?_ | refine Run.call (scopy_ok ⟨b.now, b.shift, pm, pt⟩ (show pm.length ≤ 1048576 by omega) (show pt.length ≤ 1048576 by omega)) rfl ?_ | (refine Run.ret (.inl ⟨rfl, rfl⟩)) | (exfalso; omega)
              all_goals trace_state
            · rw [if_pos hs] at hr0
              rw [hr0]
              rw [decide_eq_false hs] at hsu
              repeat' (conv => arg 4; whnf); first | refine Run.ret ⟨?_, rfl⟩ | refine Run.condT ?_ | refine Run.condf ?_ | refine Run.condD (fun h => ?_) (fun h => ?_) | refine Run.condN (fun h => ?_) (fun h => ?_) | refine Run.condE (fun h => ?_) (fun h => ?_) | refine Run.condF (fun h => ?_) (fun h => ?_) | refine Run.condM (fun h => ?_) (fun h => ?_) | refine Run.condB (fun h => ?_) (fun h => ?_) | refine Run.check1 ?_ | refine Run.call (hbk) rfl ?_ | refine Run.call (hmk) rfl ?_ | refine Run.call (hat) rfl ?_ | refine Run.call (hput) rfl ?_ | refine Run.call (hplan) rfl ?_ | refine Run.call (hsu) rfl ?_ | refine Run.call (scopy_ok b hl ht) rfl ?_ | (refine Run.ret (.inl ⟨rfl, rfl⟩)) | (exfalso; omega)
              all_goals trace_state
      · rw [h1] at hat
        have hr : addR b m = (b, 3) := by unfold addR; rw [if_neg (fun q => q hb), if_neg (fun q => q hm), if_pos (by omega)]
        rw [hr]
        clear hr
        repeat' (conv => arg 4; whnf); first | refine Run.ret ⟨?_, rfl⟩ | refine Run.condT ?_ | refine Run.condf ?_ | refine Run.condD (fun h => ?_) (fun h => ?_) | refine Run.condN (fun h => ?_) (fun h => ?_) | refine Run.condE (fun h => ?_) (fun h => ?_) | refine Run.condF (fun h => ?_) (fun h => ?_) | refine Run.condM (fun h => ?_) (fun h => ?_) | refine Run.condB (fun h => ?_) (fun h => ?_) | refine Run.check1 ?_ | refine Run.call (hbk) rfl ?_ | refine Run.call (hmk) rfl ?_ | refine Run.call (hat) rfl ?_ | refine Run.call (scopy_ok b hl ht) rfl ?_ | (refine Run.ret (.inl ⟨rfl, rfl⟩)) | (exfalso; omega)
        all_goals trace_state

    · have hr : addR b m = (b, 2) := by unfold addR; rw [if_neg (fun q => q hb), if_pos hm]
      rw [hr]
      clear hr
      cases hq : mvOk m with
      | false =>
        rw [hq] at hmk
        repeat' (conv => arg 4; whnf); first | refine Run.ret ⟨?_, rfl⟩ | refine Run.condT ?_ | refine Run.condf ?_ | refine Run.condD (fun h => ?_) (fun h => ?_) | refine Run.condN (fun h => ?_) (fun h => ?_) | refine Run.condE (fun h => ?_) (fun h => ?_) | refine Run.condF (fun h => ?_) (fun h => ?_) | refine Run.condM (fun h => ?_) (fun h => ?_) | refine Run.condB (fun h => ?_) (fun h => ?_) | refine Run.check1 ?_ | refine Run.call (hbk) rfl ?_ | refine Run.call (hmk) rfl ?_ | refine Run.call (scopy_ok b hl ht) rfl ?_ | (refine Run.ret (.inl ⟨rfl, rfl⟩)) | (exfalso; omega)
        all_goals trace_state
      | true =>
        have h5 : 0 ≤ m.f5 := by
          have := (mvOk_true.1 hq).2
          have h5 : m.f5 ≠ -1 := fun e => hm ⟨hq, e⟩
          omega
        rw [hq] at hmk
        repeat' (conv => arg 4; whnf); first | refine Run.ret ⟨?_, rfl⟩ | refine Run.condT ?_ | refine Run.condf ?_ | refine Run.condD (fun h => ?_) (fun h => ?_) | refine Run.condN (fun h => ?_) (fun h => ?_) | refine Run.condE (fun h => ?_) (fun h => ?_) | refine Run.condF (fun h => ?_) (fun h => ?_) | refine Run.condM (fun h => ?_) (fun h => ?_) | refine Run.condB (fun h => ?_) (fun h => ?_) | refine Run.check1 ?_ | refine Run.call (hbk) rfl ?_ | refine Run.call (hmk) rfl ?_ | refine Run.call (scopy_ok b hl ht) rfl ?_ | (refine Run.ret (.inl ⟨rfl, rfl⟩)) | (exfalso; omega)
        all_goals trace_state
  · rw [decide_eq_false hb] at hbk
    rw [show addR b m = (Bk.z, 1) from if_pos hb]
    repeat' (conv => arg 4; whnf); first | refine Run.ret ⟨?_, rfl⟩ | refine Run.condT ?_ | refine Run.condf ?_ | refine Run.condD (fun h => ?_) (fun h => ?_) | refine Run.condN (fun h => ?_) (fun h => ?_) | refine Run.condE (fun h => ?_) (fun h => ?_) | refine Run.condF (fun h => ?_) (fun h => ?_) | refine Run.condM (fun h => ?_) (fun h => ?_) | refine Run.condB (fun h => ?_) (fun h => ?_) | refine Run.check1 ?_ | refine Run.call (hbk) rfl ?_ | (refine Run.ret (.inr (.inr ⟨rfl, rfl, rfl, rfl⟩)))
    all_goals trace_state
end Go.Proofs.YtmppoajepbbmiaaGreat.AM

/- l5Without, l5NoLater of the reference; condition: the ticks are of 64 bits. -/
namespace Go.Proofs.YtmppoajepbbmiaaGreat.AM
open Go.AM Go.RowKit
set_option linter.unusedVariables false
set_option linter.unusedSimpArgs false
set_option maxRecDepth 100000

theorem without_ok (l : List Mv) (a : Nat) (ha : a < l.length) (hl : l.length ≤ 1000) : Ok P 57 [.one (.lst .mv l false), .one (.int .i64 (a : Int))] [] (.one (.own (.k 0))) [some (.row .mv (dropL l a))] := by
  have e1 : wrap64 ((a : Int) + 1) = ((a + 1 : Nat) : Int) := wrap_eq (by omega) (by omega)
  refine Ok.of_run (F := mk Tryz.f57 0) Tryz.func57 rfl rfl tabOk mixed rfl rfl rfl rfl rfl (Nat.le_of_ble_eq_true rfl) (Nat.le_of_ble_eq_true rfl) (.go 5000 ?_)
  repeat' (conv => arg 4; whnf); first | refine Run.ret ⟨?_, rfl⟩ | refine Run.condT ?_ | refine Run.condf ?_ | refine Run.condD (fun h => ?_) (fun h => ?_) | refine Run.condN (fun h => ?_) (fun h => ?_) | refine Run.condE (fun h => ?_) (fun h => ?_) | refine Run.condF (fun h => ?_) (fun h => ?_) | refine Run.condM (fun h => ?_) (fun h => ?_) | refine Run.condB (fun h => ?_) (fun h => ?_) | refine Run.check1 ?_ | (exfalso; omega) | refine Run.need1 (by simp only [allP, true_and, and_true]; omega) ?_ | refine Run.need1 (by simp only [allP, true_and, and_true, List.length_append, List.length_take, List.length_drop, List.length_nil]; omega) ?_ | (refine Run.ret ⟨rfl, ?_⟩)
  all_goals first | rfl | (simp only [e1, Int.toNat_natCast, List.nil_append]; rfl) | trace_state
theorem noLater_ok (a b : List Int) (ha : a.length ≤ 1000) (hab : a.length = b.length) : Ok P 58 [.one (.lst (.int .i64) a false), .one (.lst (.int .i64) b false)] [] (.one (.bool (decide (NoLater a b)))) [] := by
  refine Ok.of_run (F := mk Tryz.f58 0) Tryz.func58 rfl rfl tabOk mixed rfl rfl rfl rfl rfl (Nat.le_of_ble_eq_true rfl) (Nat.le_of_ble_eq_true rfl) (.go 5000 ?_)
  have loop : ∀ (d i : Nat) (z : Int), z = i → i + d = a.length → (∀ j, j < i → tk a j ≤ tk b j) → Run P (mk Tryz.f58 0) (fun v st => v = .one (.bool (decide (NoLater a b))) ∧ st = []) (.loop ⟨[(0, .one (.lst (.int .i64) a false)), (1, .one (.lst (.int .i64) b false)), (5, .one (.int .i64 z))], [], [.lp [0, 1, 0, 1], .blk 0, .code [1, 1]], none⟩) := by
    intro d
    induction d with
    | zero =>
      intro i z hz hd hall
      subst hz
      have hnl : NoLater a b := fun j hj => hall j (by omega)
      rw [decide_eq_true hnl]
      refine Run.loop ?_
      repeat' (conv => arg 4; whnf); first | refine Run.ret ⟨?_, rfl⟩ | refine Run.condT ?_ | refine Run.condf ?_ | refine Run.condD (fun h => ?_) (fun h => ?_) | refine Run.condN (fun h => ?_) (fun h => ?_) | refine Run.condE (fun h => ?_) (fun h => ?_) | refine Run.condF (fun h => ?_) (fun h => ?_) | refine Run.condM (fun h => ?_) (fun h => ?_) | refine Run.condB (fun h => ?_) (fun h => ?_) | refine Run.check1 ?_ | (exfalso; omega)
      all_goals first | rfl | (exfalso; omega) | trace_state
    | succ d ih =>
      intro i z hz hd hall
      subst hz
      have hi : i < a.length := by omega
      have e := fs (i := i) (by omega)
      by_cases hlt : tk b i < tk a i
      · rw [decide_eq_false (fun q : NoLater a b => by have := q i hi; omega)]
        rw [← rd_nat, ← rd_nat] at hlt
        refine Run.loop ?_
        repeat' (conv => arg 4; whnf); first | refine Run.ret ⟨?_, rfl⟩ | refine Run.condT ?_ | refine Run.condf ?_ | refine Run.condD (fun h => ?_) (fun h => ?_) | refine Run.condN (fun h => ?_) (fun h => ?_) | refine Run.condE (fun h => ?_) (fun h => ?_) | refine Run.condF (fun h => ?_) (fun h => ?_) | refine Run.condM (fun h => ?_) (fun h => ?_) | refine Run.condB (fun h => ?_) (fun h => ?_) | refine Run.check1 ?_ | refine Run.need1 (by simp only [allP, true_and, and_true]; omega) ?_ | (exfalso; omega)
        all_goals first | rfl | (exfalso; omega) | trace_state
      · have hall' : ∀ j, j < i + 1 → tk a j ≤ tk b j := fun j hj => by
          rcases Nat.lt_or_ge j i with h3 | h3
          · exact hall j h3
          · obtain rfl : j = i := by omega
            omega
        rw [← rd_nat, ← rd_nat] at hlt
        refine Run.loop ?_
        repeat' (conv => arg 4; whnf); first | refine Run.ret ⟨?_, rfl⟩ | refine Run.condT ?_ | refine Run.condf ?_ | refine Run.condD (fun h => ?_) (fun h => ?_) | refine Run.condN (fun h => ?_) (fun h => ?_) | refine Run.condE (fun h => ?_) (fun h => ?_) | refine Run.condF (fun h => ?_) (fun h => ?_) | refine Run.condM (fun h => ?_) (fun h => ?_) | refine Run.condB (fun h => ?_) (fun h => ?_) | refine Run.check1 ?_ | refine Run.need1 (by simp only [allP, true_and, and_true]; omega) ?_ | refine Run.round ⟨[], [], []⟩ (ih (i + 1) _ e.h (by omega) hall') rfl (by (repeat' (first | exact wkEnv_nil | refine wkEnv_cons rfl ?_ | exact wkSto_nil | refine wkSto_none ?_ | refine wkSto_some rfl ?_)); done) (by (repeat' (first | exact wkEnv_nil | refine wkEnv_cons rfl ?_ | exact wkSto_nil | refine wkSto_none ?_ | refine wkSto_some rfl ?_)); done) | (exfalso; omega)
        all_goals first | rfl | (exfalso; omega) | trace_state
  repeat' (conv => arg 4; whnf); first | refine Run.ret ⟨?_, rfl⟩ | refine Run.condT ?_ | refine Run.condf ?_ | refine Run.condD (fun h => ?_) (fun h => ?_) | refine Run.condN (fun h => ?_) (fun h => ?_) | refine Run.condE (fun h => ?_) (fun h => ?_) | refine Run.condF (fun h => ?_) (fun h => ?_) | refine Run.condM (fun h => ?_) (fun h => ?_) | refine Run.condB (fun h => ?_) (fun h => ?_) | refine Run.check1 ?_ | refine Run.round ⟨[], [], []⟩ (loop a.length 0 _ rfl (by omega) (fun j hj => absurd hj (by omega))) rfl (by (repeat' (first | exact wkEnv_nil | refine wkEnv_cons rfl ?_ | exact wkSto_nil | refine wkSto_none ?_ | refine wkSto_some rfl ?_)); done) (by (repeat' (first | exact wkEnv_nil | refine wkEnv_cons rfl ?_ | exact wkSto_nil | refine wkSto_none ?_ | refine wkSto_some rfl ?_)); done)
  all_goals trace_state
end Go.Proofs.YtmppoajepbbmiaaGreat.AM

/- StripDrop of the reference; condition: the ticks are of 64 bits.  -/
namespace Go.Proofs.YtmppoajepbbmiaaGreat.AM
open Go.AM Go.RowKit
set_option linter.unusedVariables false
set_option linter.unusedSimpArgs false
set_option maxRecDepth 100000

set_option maxHeartbeats 8000000 in
theorem strip_sdrop_ok (b : Bk) (n : ByteArray) (hl : b.ms.length ≤ 1048576) (ht : b.ts.length ≤ 1048576) (hw : TkWf b.ts) :
    Ok P 11 [b.lent, .one (.str n)] [] (.tup [(dropR b n).1.own (.k 0) (.k 1), .one (.int .i64 (dropR b n).2)]) [some (.row .mv (dropR b n).1.ms), some (.row (.int .i64) (dropR b n).1.ts)] := by
  refine nilB_ok ?_
  have hbk := sbookOk_ok b hw
  refine Ok.of_rel (F := mk Tryz.f11 0) Tryz.func11 rfl rfl tabOk mixed rfl rfl rfl rfl rfl (Nat.le_of_ble_eq_true rfl) (by first | exact fun _ _ => nilR_len | exact fun _ _ => nilB_len) (.go 5000 ?_)
  by_cases hb : BkOk b
  · rw [decide_eq_true hb] at hbk
    have h6 := hb.2.2.1.1.1
    have hlen := hb.2.2.1.2.1
    have hat := sat_ok b n hl
    rcases atN_range b.ms n with ⟨h1, _⟩ | ⟨a, h1, ha, _⟩
    · have hr : dropR b n = (b, 3) := by unfold dropR; rw [if_neg (fun q => q hb), if_pos (by omega)]
      rw [hr]
      rw [h1] at hat
      repeat' (conv => arg 4; whnf); first | refine Run.ret ⟨?_, rfl⟩ | refine Run.condT ?_ | refine Run.condf ?_ | refine Run.condD (fun h => ?_) (fun h => ?_) | refine Run.condN (fun h => ?_) (fun h => ?_) | refine Run.condE (fun h => ?_) (fun h => ?_) | refine Run.condF (fun h => ?_) (fun h => ?_) | refine Run.condM (fun h => ?_) (fun h => ?_) | refine Run.condB (fun h => ?_) (fun h => ?_) | refine Run.check1 ?_ | refine Run.call (hbk) rfl ?_ | refine Run.call (hat) rfl ?_ | refine Run.call (scopy_ok b hl ht) rfl ?_ | (refine Run.ret (.inl ⟨rfl, rfl⟩)) | (exfalso; omega)
      all_goals trace_state
    · rw [h1] at hat
      have e1 : Fact (wrap64 ((a : Int) + 1) = ((a + 1 : Nat) : Int)) := fs (by omega)
      have hwo := without_ok b.ms a ha (by omega)
      have hm := drop_movesOk hb.2.2.1.1 a
      have hplan := splan_ok (dropL b.ms a) b.now b.shift hm hb.1 hb.2.1
      rw [dropR_eq hb h1]
      unfold dropB
      rw [show planM (dropL b.ms a) b.now b.shift = dropP b a from rfl] at hplan
      have hw2 : W64L (dropP b a).1 := planM_w64 _ _ _ hm hb.1.1 hb.2.1
      have hl1 := dropL_len b.ms ha
      have hl2 := dropL_len b.ts (a := a) (by omega)
      have hdl := fun h => dropP_len (b := b) (a := a) hb ha h
      have hrow : Fact (([] ++ b.ts.take ((a : Int)).toNat) ++ b.ts.drop (wrap64 ((a : Int) + 1)).toNat = dropL b.ts a) := by
        refine ⟨?_⟩
        rw [e1.h, Int.toNat_natCast, Int.toNat_natCast, List.nil_append]
        rfl
      have hsu := ssure_ok ⟨b.now, b.shift, dropL b.ms a, (dropP b a).1⟩ (tkWf_l hw2)
      have hcp := scopy_ok ⟨b.now, b.shift, dropL b.ms a, dropL b.ts a⟩ (show (dropL b.ms a).length ≤ _ by omega) (show (dropL b.ts a).length ≤ _ by omega)
      have tail : ∀ row : List Int, Fact (row = dropL b.ts a) → Run P (mk Tryz.f11 0) (NilB (if (dropP b a).2 = true ∧ NoLater (dropP b a).1 (dropL b.ts a) ∧ SureM ⟨b.now, b.shift, dropL b.ms a, (dropP b a).1⟩
            then ((⟨b.now, b.shift, dropL b.ms a, (dropP b a).1⟩ : Bk), (0 : Int)) else ((⟨b.now, b.shift, dropL b.ms a, dropL b.ts a⟩ : Bk), (0 : Int))).1 (.one (.int .i64 (if (dropP b a).2 = true ∧ NoLater (dropP b a).1 (dropL b.ts a) ∧ SureM ⟨b.now, b.shift, dropL b.ms a, (dropP b a).1⟩
            then ((⟨b.now, b.shift, dropL b.ms a, (dropP b a).1⟩ : Bk), (0 : Int)) else ((⟨b.now, b.shift, dropL b.ms a, dropL b.ts a⟩ : Bk), (0 : Int))).2)))
          (.fail 0 ⟨[(2, .one (.ptr (.t 2 0) 0)), (4, .one (.ptr (.t 4 0) 0)), (6, .one (.ptr (.t 6 0) 0))],
            [(.t 2 0, some (.cells b.lent.atoms)), (.t 4 0, some (.cells [.int .i64 0, .int .i64 0, .nil, .nil])), (.t 6 0, some (.cells [.int .i64 b.now, .int .i64 b.shift, .own (.t 1000 0), .own (.t 1000 1)])), (.t 1000 0, some (.row .mv (dropL b.ms a))), (.t 1000 1, some (.row (.int .i64) row))], [.code [1, 1, 1, 1, 1, 1, 1]], none⟩) := by
        intro row hr
        obtain rfl := hr.h
        clear hr hrow hwo hat hbk e1
        generalize dropP b a = pr at *
        obtain ⟨pt, pb⟩ := pr
        generalize dropL b.ms a = dm at *
        generalize dropL b.ts a = dt at *
        dsimp only at hplan hw2 hsu hdl
        cases pb with
        | false =>
          rw [if_neg (fun q => absurd q.1 Bool.false_ne_true)]
          refine Run.go 5000 ?_
          repeat' (conv => arg 4; whnf); first | refine Run.ret ⟨?_, rfl⟩ | refine Run.condT ?_ | refine Run.condf ?_ | refine Run.condD (fun h => ?_) (fun h => ?_) | refine Run.condN (fun h => ?_) (fun h => ?_) | refine Run.condE (fun h => ?_) (fun h => ?_) | refine Run.condF (fun h => ?_) (fun h => ?_) | refine Run.condM (fun h => ?_) (fun h => ?_) | refine Run.condB (fun h => ?_) (fun h => ?_) | refine Run.check1 ?_ | refine Run.call (hplan) rfl ?_ | refine Run.call (hcp) rfl ?_ | (refine Run.ret (.inl ⟨rfl, rfl⟩)) | (exfalso; omega)
          all_goals trace_state
        | true =>
          obtain ⟨hpl, hp6⟩ := hdl rfl
          have hnl := noLater_ok pt dt (by omega) hpl
          by_cases h2 : NoLater pt dt
          · rw [decide_eq_true h2] at hnl
            by_cases h3 : SureM ⟨b.now, b.shift, dm, pt⟩
            · rw [if_pos ⟨rfl, h2, h3⟩]
              rw [decide_eq_true h3] at hsu
              refine Run.go 5000 ?_
              repeat' (conv => arg 4; whnf); first | refine Run.ret ⟨?_, rfl⟩ | refine Run.condT ?_ | refine Run.condf ?_ | refine Run.condD (fun h => ?_) (fun h => ?_) | refine Run.condN (fun h => ?_) (fun h => ?_) | refine Run.condE (fun h => ?_) (fun h => ?_) | refine Run.condF (fun h => ?_) (fun h => ?_) | refine Run.condM (fun h => ?_) (fun h => ?_) | refine Run.condB (fun h => ?_) (fun h => ?_) | refine Run.check1 ?_ | refine Run.call (hplan) rfl ?_ | refine Run.call (hnl) rfl ?_ | refine Run.call (hsu) rfl ?_ | refine Run.call (hcp) rfl ?_ | (refine Run.ret (.inl ⟨rfl, rfl⟩)) | (exfalso; omega)
              all_goals trace_state
            · rw [if_neg (fun q => h3 q.2.2)]
              rw [decide_eq_false h3] at hsu
              refine Run.go 5000 ?_
              repeat' (conv => arg 4; whnf); first | refine Run.ret ⟨?_, rfl⟩ | refine Run.condT ?_ | refine Run.condf ?_ | refine Run.condD (fun h => ?_) (fun h => ?_) | refine Run.condN (fun h => ?_) (fun h => ?_) | refine Run.condE (fun h => ?_) (fun h => ?_) | refine Run.condF (fun h => ?_) (fun h => ?_) | refine Run.condM (fun h => ?_) (fun h => ?_) | refine Run.condB (fun h => ?_) (fun h => ?_) | refine Run.check1 ?_ | refine Run.call (hplan) rfl ?_ | refine Run.call (hnl) rfl ?_ | refine Run.call (hsu) rfl ?_ | refine Run.call (hcp) rfl ?_ | (refine Run.ret (.inl ⟨rfl, rfl⟩)) | (exfalso; omega)
              all_goals trace_state
          · rw [if_neg (fun q => h2 q.2.1)]
            rw [decide_eq_false h2] at hnl
            refine Run.go 5000 ?_
            repeat' (conv => arg 4; whnf); first | refine Run.ret ⟨?_, rfl⟩ | refine Run.condT ?_ | refine Run.condf ?_ | refine Run.condD (fun h => ?_) (fun h => ?_) | refine Run.condN (fun h => ?_) (fun h => ?_) | refine Run.condE (fun h => ?_) (fun h => ?_) | refine Run.condF (fun h => ?_) (fun h => ?_) | refine Run.condM (fun h => ?_) (fun h => ?_) | refine Run.condB (fun h => ?_) (fun h => ?_) | refine Run.check1 ?_ | refine Run.call (hplan) rfl ?_ | refine Run.call (hnl) rfl ?_ | refine Run.call (hcp) rfl ?_ | (refine Run.ret (.inl ⟨rfl, rfl⟩)) | (exfalso; omega)
            all_goals trace_state
      clear hsu hcp hplan hdl hw2 hm
      generalize (if (dropP b a).2 = true ∧ NoLater (dropP b a).1 (dropL b.ts a) ∧ SureM ⟨b.now, b.shift, dropL b.ms a, (dropP b a).1⟩
            then ((⟨b.now, b.shift, dropL b.ms a, (dropP b a).1⟩ : Bk), (0 : Int)) else ((⟨b.now, b.shift, dropL b.ms a, dropL b.ts a⟩ : Bk), (0 : Int))) = rr at tail ⊢
      repeat' (conv => arg 4; whnf); first
        | refine Run.condT ?_
        | refine Run.condf ?_
        | refine Run.condD (fun h => ?_) (fun h => ?_)
        | refine Run.call hbk rfl ?_
        | refine Run.call hat rfl ?_
        | refine Run.call hwo rfl ?_
        | refine Run.call (scopy_ok b hl ht) rfl ?_
        | (exfalso; omega)
        | refine Run.need1 (by simp only [allP, true_and, and_true, e1.h, List.length_append, List.length_take, List.length_drop, List.length_nil, Int.toNat_natCast]; omega) ?_
        | refine Run.check0 (by kernel_rfl) (Run.less ⟨[(.t 2 0, .t 2 0), (.t 4 0, .t 4 0), (.t 6 0, .t 6 0), (.t 26 0, .t 1000 0), (.t 39 0, .t 1000 1)], [], []⟩ (tail _ hrow) rfl (by (repeat' (first | exact wkEnv_nil | refine wkEnv_cons rfl ?_ | exact wkSto_nil | refine wkSto_none ?_ | refine wkSto_some rfl ?_)); done) (by (repeat' (first | exact wkEnv_nil | refine wkEnv_cons rfl ?_ | exact wkSto_nil | refine wkSto_none ?_ | refine wkSto_some rfl ?_)); done))
      all_goals trace_state
  · rw [decide_eq_false hb] at hbk
    rw [show dropR b n = (Bk.z, 1) from if_pos hb]
    repeat' (conv => arg 4; whnf); first | refine Run.ret ⟨?_, rfl⟩ | refine Run.condT ?_ | refine Run.condf ?_ | refine Run.condD (fun h => ?_) (fun h => ?_) | refine Run.condN (fun h => ?_) (fun h => ?_) | refine Run.condE (fun h => ?_) (fun h => ?_) | refine Run.condF (fun h => ?_) (fun h => ?_) | refine Run.condM (fun h => ?_) (fun h => ?_) | refine Run.condB (fun h => ?_) (fun h => ?_) | refine Run.check1 ?_ | refine Run.call (hbk) rfl ?_ | (refine Run.ret (.inr (.inr ⟨rfl, rfl, rfl, rfl⟩)))
    all_goals trace_state
end Go.Proofs.YtmppoajepbbmiaaGreat.AM

/- StripTick of the reference; condition: the ticks are of 64 bits. -/
namespace Go.Proofs.YtmppoajepbbmiaaGreat.AM
open Go.AM Go.RowKit
set_option linter.unusedVariables false
set_option linter.unusedSimpArgs false
set_option maxRecDepth 100000

theorem stick_ok (b : Bk) (hl : b.ms.length ≤ 1048576) (ht : b.ts.length ≤ 1048576) (hw : TkWf b.ts) :
    Ok P 14 [b.lent] [] (.tup [(tickR b).1.own (.k 0) (.k 1), .one (.own (.k 2)), .one (.int .i64 (tickR b).2.2)]) [some (.row .mv (tickR b).1.ms), some (.row (.int .i64) (tickR b).1.ts), some (.row .str (tickR b).2.1)] := by
  refine Ok.of_run (F := mk Tryz.f14 0) Tryz.func14 rfl rfl tabOk mixed rfl rfl rfl rfl rfl (Nat.le_of_ble_eq_true rfl) (Nat.le_of_ble_eq_true rfl) (.go 5000 ?_)
  by_cases hb : BkOk b
  · by_cases hn : b.now = 10000
    · rw [show tickR b = (b, [], 2) by unfold tickR; rw [if_pos hb, if_pos hn]]
      repeat' (conv => arg 4; whnf); first | refine Run.ret ⟨?_, rfl⟩ | refine Run.condT ?_ | refine Run.condf ?_ | refine Run.condD (fun h => ?_) (fun h => ?_) | refine Run.condN (fun h => ?_) (fun h => ?_) | refine Run.condE (fun h => ?_) (fun h => ?_) | refine Run.condF (fun h => ?_) (fun h => ?_) | refine Run.condM (fun h => ?_) (fun h => ?_) | refine Run.condB (fun h => ?_) (fun h => ?_) | refine Run.check1 ?_ | refine Run.call (sbookOk_ok _ hw) rfl ?_ | refine Run.call (scopy_ok ⟨_, _, _, _⟩ hl ht) rfl ?_ | contradiction
      all_goals first | rfl | (exfalso; omega) | contradiction | trace_state
    · rw [show tickR b = (⟨b.now + 1, b.shift, (tickF b).1, (tickF b).2.1⟩, (tickF b).2.2, 0) by unfold tickR; rw [if_pos hb, if_neg hn]]
      have hnow := hb.1
      have h6 := hb.2.2.1.1.1
      have hlen := hb.2.2.1.2.1
      have e1 : wrap64 (b.now + 1) = b.now + 1 := wrap_eq (by omega) (by omega)
      have e5 : wrap64 (b.now + 1 + 4) = b.now + 1 + 4 := wrap_eq (by omega) (by omega)
      have loop : ∀ (d i : Nat) (z y : Int) (s1 : List Mv) (s2 : List Int) (s3 : List ByteArray), z = i → y = b.now + 1 → i + d = b.ms.length → Len3 i (s1, s2, s3) → foldFrom (tickStep b) i d (s1, s2, s3) = tickF b →
          Run P (mk Tryz.f14 0) (fun v st => v = .tup [Bk.own ⟨b.now + 1, b.shift, (tickF b).1, (tickF b).2.1⟩ (.k 0) (.k 1), .one (.own (.k 2)), .one (.int .i64 0)] ∧ st = [some (.row .mv (tickF b).1), some (.row (.int .i64) (tickF b).2.1), some (.row .str (tickF b).2.2)])
            (.loop ⟨[(1, .one (.ptr (.t 1 0) 0)), (2, .one (.ptr (.t 2 0) 0)), (5, .one (.own (.t 1000 2))), (7, .one (.ptr (.t 7 0) 0)), (8, .one (.int .i64 z))],
              [(.t 1 0, some (.cells b.lent.atoms)), (.t 2 0, some (.cells [.int .i64 0, .int .i64 0, .nil, .nil])), (.t 7 0, some (.cells [.int .i64 y, .int .i64 b.shift, .own (.t 1000 0), .own (.t 1000 1)])), (.t 1000 0, some (.row .mv s1)), (.t 1000 1, some (.row (.int .i64) s2)), (.t 1000 2, some (.row .str s3))], [.lp [0, 1, 0, 1, 1, 1, 1, 1, 1], .blk 0, .code [1, 1, 1, 1, 1, 1, 1]], none⟩) := by
        intro d
        induction d with
        | zero =>
          intro i z y s1 s2 s3 hz hy hd hc he
          subst hz; subst hy
          rw [← he]
          refine Run.loop ?_
          obtain ⟨c1, c2, c3⟩ := hc
          simp only at c1 c2 c3
          repeat' (conv => arg 4; whnf); first | refine Run.ret ⟨?_, rfl⟩ | refine Run.condT ?_ | refine Run.condf ?_ | refine Run.condD (fun h => ?_) (fun h => ?_) | refine Run.condN (fun h => ?_) (fun h => ?_) | refine Run.condE (fun h => ?_) (fun h => ?_) | refine Run.condF (fun h => ?_) (fun h => ?_) | refine Run.condM (fun h => ?_) (fun h => ?_) | refine Run.condB (fun h => ?_) (fun h => ?_) | refine Run.check1 ?_ | refine Run.call (scopy_ok ⟨_, _, _, _⟩ (show s1.length ≤ 1048576 by omega) (show s2.length ≤ 1048576 by omega)) rfl ?_ | (exfalso; omega)
          all_goals first | rfl | (exfalso; omega) | trace_state
        | succ d ih =>
          intro i z y s1 s2 s3 hz hy hd hc he
          subst hz; subst hy
          have e : wrap64 ((i : Int) + 1) = ((i + 1 : Nat) : Int) := wrap_eq (by omega) (by omega)
          have hc' := len3_step (b := b) hc
          have he' : foldFrom (tickStep b) (i + 1) d (tickStep b i (s1, s2, s3)) = tickF b := he
          have st1 : tk b.ts i = b.now → tickStep b i (s1, s2, s3) = (s1, s2, s3 ++ [(at' b.ms i).f0]) := fun q => by unfold tickStep; rw [if_pos q]
          have st2 : ¬ tk b.ts i = b.now → tk b.ts i < b.now + 1 + 4 → tickStep b i (s1, s2, s3) = (s1 ++ [{ at' b.ms i with f5 := tk b.ts i }], s2 ++ [tk b.ts i], s3) := fun q q' => by unfold tickStep soon; rw [if_neg q, if_pos q']
          have st3 : ¬ tk b.ts i = b.now → ¬ tk b.ts i < b.now + 1 + 4 → tickStep b i (s1, s2, s3) = (s1 ++ [at' b.ms i], s2 ++ [tk b.ts i], s3) := fun q q' => by unfold tickStep soon; rw [if_neg q, if_neg q']
          obtain ⟨c1, c2, c3⟩ := hc
          simp only at c1 c2 c3
          refine Run.loop ?_
          repeat' (conv => arg 4; whnf); first | refine Run.ret ⟨?_, rfl⟩ | refine Run.condT ?_ | refine Run.condf ?_ | refine Run.condD (fun h => ?_) (fun h => ?_) | refine Run.condN (fun h => ?_) (fun h => ?_) | refine Run.condE (fun h => ?_) (fun h => ?_) | refine Run.condF (fun h => ?_) (fun h => ?_) | refine Run.condM (fun h => ?_) (fun h => ?_) | refine Run.condB (fun h => ?_) (fun h => ?_) | refine Run.check1 ?_ | refine Run.need1 (by simp only [allP, true_and, and_true, List.length_cons, List.length_nil]; omega) ?_ | refine Run.round ⟨[(.t 1 0, .t 1 0), (.t 2 0, .t 2 0), (.t 7 0, .t 7 0), (.t 1000 0, .t 1000 0), (.t 1000 1, .t 1000 1), (.t 53 0, .t 1000 2)], [], []⟩ (ih (i + 1) _ _ _ _ _ e rfl (by omega) ?_ ?_) rfl (by (repeat' (first | exact wkEnv_nil | refine wkEnv_cons rfl ?_ | exact wkSto_nil | refine wkSto_none ?_ | refine wkSto_some rfl ?_)); done) (by (repeat' (first | exact wkEnv_nil | refine wkEnv_cons rfl ?_ | exact wkSto_nil | refine wkSto_none ?_ | refine wkSto_some rfl ?_)); done) | refine Run.round ⟨[(.t 1 0, .t 1 0), (.t 2 0, .t 2 0), (.t 7 0, .t 7 0), (.t 73 0, .t 1000 0), (.t 83 0, .t 1000 1), (.t 1000 2, .t 1000 2)], [], []⟩ (ih (i + 1) _ _ _ _ _ e rfl (by omega) ?_ ?_) rfl (by (repeat' (first | exact wkEnv_nil | refine wkEnv_cons rfl ?_ | exact wkSto_nil | refine wkSto_none ?_ | refine wkSto_some rfl ?_)); done) (by (repeat' (first | exact wkEnv_nil | refine wkEnv_cons rfl ?_ | exact wkSto_nil | refine wkSto_none ?_ | refine wkSto_some rfl ?_)); done) | (exfalso; omega)
          all_goals (simp only [rd_nat, rdM_nat, e5] at *)
          all_goals first
            | (exfalso; omega)
            | (rw [st1 (by omega)] at hc' he'
               first | exact hc' | exact he')
            | (rw [st2 (by omega) (by omega)] at hc' he'
               first | exact hc' | exact he')
            | (rw [st3 (by omega) (by omega)] at hc' he'
               first | exact hc' | exact he')
            | trace_state
      repeat' (conv => arg 4; whnf); first | refine Run.ret ⟨?_, rfl⟩ | refine Run.condT ?_ | refine Run.condf ?_ | refine Run.condD (fun h => ?_) (fun h => ?_) | refine Run.condN (fun h => ?_) (fun h => ?_) | refine Run.condE (fun h => ?_) (fun h => ?_) | refine Run.condF (fun h => ?_) (fun h => ?_) | refine Run.condM (fun h => ?_) (fun h => ?_) | refine Run.condB (fun h => ?_) (fun h => ?_) | refine Run.check1 ?_ | refine Run.call (sbookOk_ok _ hw) rfl ?_ | refine Run.call (scopy_ok ⟨_, _, _, _⟩ hl ht) rfl ?_ | refine Run.round ⟨[(.t 1 0, .t 1 0), (.t 2 0, .t 2 0), (.t 7 0, .t 7 0), (.t 10 0, .t 1000 2)], [(.t 1000 0, .mv), (.t 1000 1, .int .i64)], []⟩ (loop b.ms.length 0 _ _ _ _ _ rfl ?_ ?_ ?_ ?_) rfl (by (repeat' (first | exact wkEnv_nil | refine wkEnv_cons rfl ?_ | exact wkSto_nil | refine wkSto_none ?_ | refine wkSto_some rfl ?_)); done) (by (repeat' (first | exact wkEnv_nil | refine wkEnv_cons rfl ?_ | exact wkSto_nil | refine wkSto_none ?_ | refine wkSto_some rfl ?_)); done) | (exfalso; omega) | (exact absurd hb ‹¬ BkOk b›)
      all_goals first | exact e1 | omega | rfl | exact ⟨Nat.le_refl _, Nat.le_refl _, Nat.le_refl _⟩ | trace_state
  · rw [show tickR b = (⟨0, 0, [], []⟩, [], 1) by unfold tickR; rw [if_neg hb]]
    conv => arg 4; whnf
    refine Run.call0 (sbookOk_ok b hw) rfl (.go 5000 ?_)
    rw [decide_eq_false hb]
    conv => arg 4; whnf
    refine Run.cond0 (fun _ => ?_) (fun h => by cases h)
    refine Run.to [1, 0, 1, 0, 1, 1] 5000 ?_
    conv => arg 4; whnf
    refine Run.less ⟨[(.t 2 0, .t 2 0), (.t 10 0, .t 1000 2)], [(.t 1000 0, .mv), (.t 1000 1, .int .i64)], []⟩ (env' := [(2, .one (.ptr (.t 2 0) 0)), (3, .one (.own (.t 1000 2))), (4, .one (.int .i64 1))]) (sto' := [(.t 2 0, some (.cells [.int .i64 0, .int .i64 0, .own (.t 1000 0), .own (.t 1000 1)])), (.t 1000 0, some (.row .mv [])), (.t 1000 1, some (.row (.int .i64) [])), (.t 1000 2, some (.row .str []))]) (.go 5000 ?_) rfl (by (repeat' (first | exact wkEnv_nil | refine wkEnv_cons rfl ?_ | exact wkSto_nil | refine wkSto_none ?_ | refine wkSto_some rfl ?_)); done) (by (repeat' (first | exact wkEnv_nil | refine wkEnv_cons rfl ?_ | exact wkSto_nil | refine wkSto_none ?_ | refine wkSto_some rfl ?_)); done)
    repeat' (conv => arg 4; whnf); first | refine Run.ret ⟨?_, rfl⟩ | refine Run.condT ?_ | refine Run.condf ?_ | refine Run.condD (fun h => ?_) (fun h => ?_) | refine Run.condN (fun h => ?_) (fun h => ?_) | refine Run.condE (fun h => ?_) (fun h => ?_) | refine Run.condF (fun h => ?_) (fun h => ?_) | refine Run.condM (fun h => ?_) (fun h => ?_) | refine Run.condB (fun h => ?_) (fun h => ?_) | refine Run.check1 ?_
    all_goals rfl
end Go.Proofs.YtmppoajepbbmiaaGreat.AM

/- A contract whose answer ends with the head of a row of its own; no condition. -/
namespace Go.AM
set_option linter.unusedVariables false
set_option linter.unusedSimpArgs false
open Go.RowKit
variable {P : Program}

theorem repAs_snoc {μ μ2 : Mu} {w : World} {G : Nat → Prop} {a b : A} (hx : ∀ l C, μ l = some C → μ2 l = some C) (hab : ∀ u, repA μ w G a u → repA μ2 w G b u) : ∀ {ls : List A} {us : List Value}, repAs μ w G (ls ++ [a]) us → repAs μ2 w G (ls ++ [b]) us
  | [], us, h => by
    simp only [List.nil_append, repAs] at h ⊢
    obtain ⟨u, us', rfl, h1, h2⟩ := h
    exact ⟨u, us', rfl, hab u h1, h2⟩
  | x :: ls, us, h => by
    simp only [List.cons_append, repAs] at h ⊢
    obtain ⟨u, us', rfl, h1, h2⟩ := h
    exact ⟨u, us', rfl, repA_mono hx (fun _ _ => rfl) (fun _ h => h) _ _ h1, repAs_snoc hx hab h2⟩
theorem argSto_k {st : List (Option C)} {i : Nat} : lkL (.k i) (argSto 0 st) = st[i]? := by
  rw [argSto_lk]
  simp only [Nat.zero_le, if_true, Nat.sub_zero]
theorem argSto_t {st : List (Option C)} {d j : Nat} : lkL (.t d j) (argSto 0 st) = none := by rw [argSto_lk]
theorem Ok.cutB {f : FuncId} {args : List V} {s st0 : List (Option C)} {pre : List A} {e : El} {xs zs : List e.T} {n : Nat} (h : Ok P f args s (.agg (pre ++ [.sub (.k st0.length) 0 n])) (st0 ++ [some (.row e xs)])) (hs : s.length ≤ st0.length) (hn : n ≤ xs.length) (hne : 0 < xs.length) (hz : xs.take n = zs) :
    Ok P f args s (.agg (pre ++ [.own (.k (st0.length + 1))])) (st0 ++ [none, some (.row e zs)]) := by
  subst hz
  obtain ⟨h1, h2⟩ := h
  refine ⟨by simp; omega, fun w μ G cargs hr hrep => (h2 w μ G cargs hr hrep).mono fun u w' ⟨μ', G', k1, k2⟩ => ?_⟩
  have hl0 : lkC (.k st0.length) (argSto 0 (st0 ++ [some (.row e xs)])) = some (.row e xs) := by rw [lkC_some, argSto_k]; simp
  obtain ⟨B, b1, b2, b3⟩ := k2.hr.live _ _ hl0
  have hn1 : μ' (.k (st0.length + 1)) = none := by
    cases hm : μ' (.k (st0.length + 1)) with
    | none => rfl
    | some B =>
      have := k2.hr.known _ _ hm
      rw [argSto_k] at this
      simp at this
  obtain ⟨c1, c2, c3, c4, c5⟩ := b2
  have hv : B.virt = false := by
    cases hq : B.virt with
    | false => rfl
    | true => rw [(c4 hq).1] at hne; simp at hne
  obtain ⟨d1, arr, te, d2, d3, d4⟩ := c5 hv
  let B2 : Blk := { B with len := n }
  let μ2 : Mu := fun l => if l = .k (st0.length + 1) then some B2 else μ' l
  have hx : ∀ l C, μ' l = some C → μ2 l = some C := by
    intro l C hC
    show (if l = .k (st0.length + 1) then _ else _) = _
    rw [if_neg (by rintro rfl; rw [hn1] at hC; cases hC)]
    exact hC
  have hl : μ2 (.k (st0.length + 1)) = some B2 := if_pos rfl
  have hlk : ∀ l c, lkC l (argSto 0 (st0 ++ [none, some (.row e (xs.take n))])) = some c → (l = .k (st0.length + 1) ∧ c = .row e (xs.take n)) ∨ (l ≠ .k (st0.length + 1) ∧ l ≠ .k st0.length ∧ lkC l (argSto 0 (st0 ++ [some (.row e xs)])) = some c ∧ μ2 l = μ' l) := by
    intro l c hc
    cases l with
    | t d j => rw [lkC_some, argSto_t] at hc; cases hc
    | k i =>
      rw [lkC_some, argSto_k] at hc
      rcases Nat.lt_trichotomy i st0.length with q | q | q
      · rw [List.getElem?_append_left q] at hc
        refine .inr ⟨by simp; omega, by simp; omega, ?_, if_neg (by simp; omega)⟩
        rw [lkC_some, argSto_k, List.getElem?_append_left q]
        exact hc
      · subst q
        simp at hc
      · rw [List.getElem?_append_right (by omega)] at hc
        by_cases q2 : i = st0.length + 1
        · subst q2
          rw [show st0.length + 1 - st0.length = 1 by omega] at hc
          exact .inl ⟨rfl, by simpa using hc.symm⟩
        · rw [List.getElem?_eq_none (by simp; omega)] at hc
          cases hc
  have hlive : ∀ b, Live μ2 (argSto 0 (st0 ++ [none, some (.row e (xs.take n))])) b → Live μ' (argSto 0 (st0 ++ [some (.row e xs)])) b := by
    rintro b ⟨l, c, C, e1, e2, e3, rfl⟩
    rcases hlk l c e1 with ⟨rfl, _⟩ | ⟨_, _, q2, q3⟩
    · rw [hl] at e2
      obtain rfl := Option.some.inj e2
      exact ⟨.k st0.length, _, B, hl0, b1, hv, rfl⟩
    · exact ⟨l, c, C, q2, by rw [← q3]; exact e2, e3, rfl⟩
  refine ⟨μ2, G', ?_, ⟨⟨fun l c hc => ?_, fun l C hC => ?_, fun l l' c c' C C' hc hc' hC hC' hvt hvt' hne' => ?_, k2.hr.good⟩, fun i hi => ?_, k2.gnew, k2.frame, k2.size, k2.os, k2.tape, k2.output, fun l C hC => ?_, fun b hb => k2.liv b (hlive b hb)⟩⟩
  · simp only [repV] at k1 ⊢
    obtain ⟨us, rfl, k1⟩ := k1
    refine ⟨us, rfl, repAs_snoc hx (fun u k1 => ?_) k1⟩
    simp only [repA] at k1 ⊢
    obtain ⟨C, o, q1, q2, q3, q4⟩ := k1
    rw [b1] at q1
    obtain rfl := Option.some.inj q1
    refine ⟨B2, hl, ?_⟩
    rw [q2, q4 (by omega), d1]
    simp [B2]
  · rcases hlk l c hc with ⟨rfl, rfl⟩ | ⟨_, _, q2, q3⟩
    · refine ⟨B2, hl, ⟨?_, ?_, c3, fun q => ?_, fun _ => ⟨d1, arr, te, d2, d3, fun i x hx' => ?_⟩⟩, b3⟩
      · show n = _
        rw [List.length_take]; omega
      · show n ≤ B.cap
        omega
      · rw [show B2.virt = B.virt from rfl, hv] at q; cases q
      · have hxi : xs[i]? = some x := by
          rw [List.getElem?_take] at hx'
          split at hx'
          · exact hx'
          · cases hx'
        obtain ⟨us, m1, m2⟩ := d4 i x hxi
        exact ⟨us, repAs_mono hx (fun _ _ => rfl) (fun _ h => h) _ _ m1, m2⟩
    · obtain ⟨C, m1, m2, m3⟩ := k2.hr.live l c q2
      exact ⟨C, hx l C m1, crep_mono hx (fun _ _ => rfl) (fun _ h => h) (fun _ => rfl) m2, m3⟩
  · by_cases q : l = .k (st0.length + 1)
    · subst q; rw [argSto_k]; simp
    · have := k2.hr.known l C (by rw [← hC]; exact (if_neg q).symm)
      cases l with
      | t d j => rw [argSto_t] at this; cases this
      | k i =>
        rw [argSto_k] at this ⊢
        obtain ⟨oc, ho⟩ := Option.isSome_iff_exists.mp this
        have := (List.getElem?_eq_some_iff.1 ho).1
        rw [List.getElem?_eq_getElem (by simp at this ⊢; omega)]
        rfl
  · rcases hlk l c hc with ⟨rfl, _⟩ | ⟨p1, p2, q2, q3⟩
    · rw [hl] at hC
      obtain rfl := Option.some.inj hC
      rcases hlk l' c' hc' with ⟨rfl, _⟩ | ⟨r1, r2, r3, r4⟩
      · exact absurd rfl hne'
      · exact k2.hr.apart (.k st0.length) l' _ c' B C' hl0 r3 b1 (by rw [← r4]; exact hC') hv hvt' fun e => r2 e.symm
    · rcases hlk l' c' hc' with ⟨rfl, _⟩ | ⟨r1, r2, r3, r4⟩
      · rw [hl] at hC'
        obtain rfl := Option.some.inj hC'
        exact k2.hr.apart l (.k st0.length) c _ C B q2 hl0 (by rw [← q3]; exact hC) b1 hvt hv p2
      · exact k2.hr.apart l l' c c' C C' q2 r3 (by rw [← q3]; exact hC) (by rw [← r4]; exact hC') hvt hvt' hne'
  · have : i < s.length := by
      rw [argSto_k] at hi
      obtain ⟨oc, ho⟩ := Option.isSome_iff_exists.mp hi
      exact (List.getElem?_eq_some_iff.1 ho).1
    show (if L.k i = .k (st0.length + 1) then _ else _) = _
    rw [if_neg (by simp; omega)]
    exact k2.kk i hi
  · by_cases q : l = .k (st0.length + 1)
    · subst q
      rw [hl] at hC
      obtain rfl := Option.some.inj hC
      rcases k2.new _ _ b1 with h3 | h3 | h3 | h3
      · have := hr.known _ _ h3
        rw [argSto_k, List.getElem?_eq_none hs] at this
        cases this
      · rw [hv] at h3; cases h3
      · exact .inr (.inr (.inl h3))
      · exact .inr (.inr (.inr h3))
    · exact k2.new l C (by rw [← hC]; exact (if_neg q).symm)
end Go.AM
