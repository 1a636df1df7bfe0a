/- FnExactStripBest, part 2 of 2: what the law's functions come to, plain laws on it, and the row; no condition -/
import Derived.Test.YtmppoajepbbmiaaRows
import Derived.Test.YtmppoajepbbmiaaChecked
import Derived.WalkKit
import Derived.ProofKit
import Derived.OpenShut
import Derived.ShutString
import Derived.ChangeOld
import Derived.Below
import Derived.SizedLaws
import Derived.Test.YtmppoajepbbmiaaYXBest1
/- StripFits of the reference, StripCost without the reference's; condition: the ticks are of 64 bits. -/
namespace Go.Proofs.Ytmppoajepbbmiaa.AM
open Go.AM Go.RowKit
set_option linter.unusedVariables false
set_option linter.unusedSimpArgs false
set_option maxRecDepth 100000

theorem sapart_ok (a : Mv) (s : Int) (b : Mv) (t : Int) (hs : 0 ≤ s ∧ s ≤ 10000) (ht : 0 ≤ t ∧ t ≤ 10000) : Ok P 112 [.agg (encMv a), .one (.int .i64 s), .agg (encMv b), .one (.int .i64 t)] [] (.one (.bool (decide (ap2 a s b t)))) [] := by
  refine Ok.of_run (F := mk Try.f112 0) Try.func112 rfl rfl tabOk mixed rfl rfl rfl rfl rfl (Nat.le_of_ble_eq_true rfl) (Nat.le_of_ble_eq_true rfl) (.go 5000 ?_)
  have e1 : wrap64 (s - t) = s - t := wrap_eq (by omega) (by omega)
  have e2 : wrap64 (t - s) = t - s := wrap_eq (by omega) (by omega)
  repeat' (conv => arg 4; whnf); first | refine Run.ret ⟨?_, rfl⟩ | refine Run.condT ?_ | refine Run.condf ?_ | refine Run.condD (fun h => ?_) (fun h => ?_) | refine Run.condN (fun h => ?_) (fun h => ?_) | refine Run.condE (fun h => ?_) (fun h => ?_) | refine Run.condF (fun h => ?_) (fun h => ?_) | refine Run.condM (fun h => ?_) (fun h => ?_) | refine Run.condB (fun h => ?_) (fun h => ?_) | refine Run.check1 ?_ | refine Run.call (sgap_ok _ _) rfl ?_
  all_goals (refine vb ?_; rw [decide_eq_true_eq (p := ap2 _ _ _ _)]; unfold ap2; simp only [decide_eq_true_eq, e1, e2, Bool.false_eq_true, false_iff]; omega)
theorem sfits_ok (l : List Mv) (t : List Int) (hw : TkWf t) : Ok P 85 [.one (.lst .mv l false), .one (.lst (.int .i64) t false)] [] (.one (.bool (decide (Fits l t)))) [] := by
  refine Ok.of_run (F := mk Try.f85 0) Try.func85 rfl rfl tabOk mixed rfl rfl rfl rfl rfl (Nat.le_of_ble_eq_true rfl) (Nat.le_of_ble_eq_true rfl) (.go 5000 ?_)
  have outer : MovesOk l → t.length = l.length → ∀ (d i : Nat) (z : Int), z = i → i + d = l.length → (∀ j, j < i → FitsSp l t j) → Run P (mk Try.f85 0) (fun v st => v = .one (.bool (decide (Fits l t))) ∧ st = []) (.loop ⟨[(0, .one (.lst .mv l false)), (1, .one (.lst (.int .i64) t false)), (5, .one (.int .i64 z))], [], [.lp [0, 1, 0, 1, 1], .blk 0, .code [1, 1, 1]], none⟩) := by
    intro hm hlen d
    have h6 := hm.1
    induction d with
    | zero =>
      intro i z hz hd hall
      subst hz
      refine Run.loop ?_
      repeat' (conv => arg 4; whnf); first | refine Run.ret ⟨?_, rfl⟩ | refine Run.condT ?_ | refine Run.condf ?_ | refine Run.condD (fun h => ?_) (fun h => ?_) | refine Run.condN (fun h => ?_) (fun h => ?_) | refine Run.condE (fun h => ?_) (fun h => ?_) | refine Run.condF (fun h => ?_) (fun h => ?_) | refine Run.condM (fun h => ?_) (fun h => ?_) | refine Run.condB (fun h => ?_) (fun h => ?_) | refine Run.check1 ?_ | (exfalso; omega)
      all_goals first
        | (exfalso; omega)
        | exact fits_yes ⟨hm, hlen, (fitsSp_iff l t).1 fun j hj => hall j (by omega)⟩
    | succ d ih =>
      intro i z hz hd hall
      subst hz
      have e : wrap64 ((i : Int) + 1) = ((i + 1 : Nat) : Int) := wrap_eq (by omega) (by omega)
      have no : ¬ FitsSp l t i → V.one (A.bool false) = V.one (A.bool (decide (Fits l t))) := fun h => fits_no fun k => h ((fitsSp_iff l t).2 k.2.2 i (by omega))
      have inner : InR l t i → ∀ (c k : Nat) (z : Int), z = k → k + c = i → (∀ j, j < k → Ap l t j i ∧ Ap l t i j) → Run P (mk Try.f85 0) (fun v st => v = .one (.bool (decide (Fits l t))) ∧ st = []) (.loop ⟨[(0, .one (.lst .mv l false)), (1, .one (.lst (.int .i64) t false)), (5, .one (.int .i64 (i : Int))), (6, .one (.int .i64 z))], [], [.lp [0, 1, 1, 0, 0, 1, 0, 0, 1, 0, 1, 1], .blk 2, .blk 1, .code [1, 1, 0, 0, 1, 0, 1, 1], .lp [0, 1, 0, 1, 1], .blk 0, .code [1, 1, 1]], none⟩) := by
        intro hin c
        have hr := inR_range hm (by omega) hin
        induction c with
        | zero =>
          intro k z hz hc hap
          subst hz
          refine Run.loop ?_
          repeat' (conv => arg 4; whnf); first | refine Run.ret ⟨?_, rfl⟩ | refine Run.condT ?_ | refine Run.condf ?_ | refine Run.condD (fun h => ?_) (fun h => ?_) | refine Run.condN (fun h => ?_) (fun h => ?_) | refine Run.condE (fun h => ?_) (fun h => ?_) | refine Run.condF (fun h => ?_) (fun h => ?_) | refine Run.condM (fun h => ?_) (fun h => ?_) | refine Run.condB (fun h => ?_) (fun h => ?_) | refine Run.check1 ?_ | (exfalso; omega) | refine Run.round ⟨[], [], []⟩ (ih (i + 1) _ e (by omega) ?_) rfl (by (repeat' (first | exact wkEnv_nil | refine wkEnv_cons rfl ?_ | exact wkSto_nil | refine wkSto_none ?_ | refine wkSto_some rfl ?_)); done) (by (repeat' (first | exact wkEnv_nil | refine wkEnv_cons rfl ?_ | exact wkSto_nil | refine wkSto_none ?_ | refine wkSto_some rfl ?_)); done)
          all_goals first
            | (exfalso; omega)
            | (intro j hj; rcases Nat.lt_or_ge j i with h1 | h1
               · exact hall j h1
               · obtain rfl : j = i := by omega
                 exact ⟨hin, fun q hq => hap q (by omega)⟩)
        | succ c ihc =>
          intro k z hz hc hap
          subst hz
          have e2 : wrap64 ((k : Int) + 1) = ((k + 1 : Nat) : Int) := wrap_eq (by omega) (by omega)
          have hA : ap2 (rdM l k) (rd t k) (rdM l i) (rd t i) ↔ Ap l t k i ∧ Ap l t i k := by
            simp only [rdM_nat, rd_nat, Ap, ap2]
            omega
          have hrk := inR_range hm (i := k) (by omega) (hall k (by omega)).1
          refine Run.loop ?_
          repeat' (conv => arg 4; whnf); first | refine Run.ret ⟨?_, rfl⟩ | refine Run.condT ?_ | refine Run.condf ?_ | refine Run.condD (fun h => ?_) (fun h => ?_) | refine Run.condN (fun h => ?_) (fun h => ?_) | refine Run.condE (fun h => ?_) (fun h => ?_) | refine Run.condF (fun h => ?_) (fun h => ?_) | refine Run.condM (fun h => ?_) (fun h => ?_) | refine Run.condB (fun h => ?_) (fun h => ?_) | refine Run.check1 ?_ | refine Run.call (sapart_ok _ _ _ _ (by rw [rd_nat]; exact hrk) (by rw [rd_nat]; exact hr)) rfl ?_ | refine Run.need1 (by simp only [allP, true_and, and_true]; omega) ?_ | refine Run.round ⟨[], [], []⟩ (ihc (k + 1) _ e2 (by omega) ?_) rfl (by (repeat' (first | exact wkEnv_nil | refine wkEnv_cons rfl ?_ | exact wkSto_nil | refine wkSto_none ?_ | refine wkSto_some rfl ?_)); done) (by (repeat' (first | exact wkEnv_nil | refine wkEnv_cons rfl ?_ | exact wkSto_nil | refine wkSto_none ?_ | refine wkSto_some rfl ?_)); done) | (exfalso; omega)
          all_goals first
            | (exfalso; omega)
            | (refine no fun q => ?_; exact absurd (hA.2 (q.2 k (by omega))) ‹_›)
            | (intro j hj; rcases Nat.lt_or_ge j k with h1 | h1
               · exact hap j h1
               · obtain rfl : j = k := by omega
                 exact hA.1 ‹_›)
            | trace_state
      have hI : InR l t i ↔ (((rdM l i).f3 ≤ rd t i ∧ rd t i ≤ (rdM l i).f4) ∧ (0 ≤ (rdM l i).f5 → rd t i = (rdM l i).f5)) := by
        simp only [rdM_nat, rd_nat, InR]
      refine Run.loop ?_
      repeat' (conv => arg 4; whnf); first | refine Run.ret ⟨?_, rfl⟩ | refine Run.condT ?_ | refine Run.condf ?_ | refine Run.condD (fun h => ?_) (fun h => ?_) | refine Run.condN (fun h => ?_) (fun h => ?_) | refine Run.condE (fun h => ?_) (fun h => ?_) | refine Run.condF (fun h => ?_) (fun h => ?_) | refine Run.condM (fun h => ?_) (fun h => ?_) | refine Run.condB (fun h => ?_) (fun h => ?_) | refine Run.check1 ?_ | refine Run.call (sin_ok _ _ _) rfl ?_ | refine Run.need1 (by simp only [allP, true_and, and_true]; omega) ?_ | refine Run.round ⟨[], [], []⟩ (inner ?_ i 0 _ rfl ?_ ?_) rfl (by (repeat' (first | exact wkEnv_nil | refine wkEnv_cons rfl ?_ | exact wkSto_nil | refine wkSto_none ?_ | refine wkSto_some rfl ?_)); done) (by (repeat' (first | exact wkEnv_nil | refine wkEnv_cons rfl ?_ | exact wkSto_nil | refine wkSto_none ?_ | refine wkSto_some rfl ?_)); done) | (exfalso; omega)
      all_goals first
        | (exfalso; omega)
        | omega
        | (refine no fun q => ?_; have a := hI.1 q.1; omega)
        | exact hI.2 (by omega)
        | trace_state
  repeat' (conv => arg 4; whnf); first | refine Run.ret ⟨?_, rfl⟩ | refine Run.condT ?_ | refine Run.condf ?_ | refine Run.condD (fun h => ?_) (fun h => ?_) | refine Run.condN (fun h => ?_) (fun h => ?_) | refine Run.condE (fun h => ?_) (fun h => ?_) | refine Run.condF (fun h => ?_) (fun h => ?_) | refine Run.condM (fun h => ?_) (fun h => ?_) | refine Run.condB (fun h => ?_) (fun h => ?_) | refine Run.check1 ?_ | refine Run.call (smovesOk_ok _) rfl ?_ | refine Run.round ⟨[], [], []⟩ (outer ?_ ?_ l.length 0 _ rfl ?_ ?_) rfl (by (repeat' (first | exact wkEnv_nil | refine wkEnv_cons rfl ?_ | exact wkSto_nil | refine wkSto_none ?_ | refine wkSto_some rfl ?_)); done) (by (repeat' (first | exact wkEnv_nil | refine wkEnv_cons rfl ?_ | exact wkSto_nil | refine wkSto_none ?_ | refine wkSto_some rfl ?_)); done)
  all_goals first
    | omega
    | assumption
    | (refine fits_no fun k => ?_; have := k.1; have := k.2.1; simp_all; done)
    | trace_state
theorem scost2_ok (l : List Mv) (t : List Int) (h : DlOk l t) : Ok P 128 [.one (.lst .mv l false), .one (.lst (.int .i64) t false)] [] (.tup [.one (.int .i64 (costM l t).1), .one (.int .i64 (costM l t).2)]) [] := by
  refine Ok.of_run (F := mk Try.f128 0) Try.func128 rfl rfl tabOk mixed rfl rfl rfl rfl rfl (Nat.le_of_ble_eq_true rfl) (Nat.le_of_ble_eq_true rfl) (.go 5000 ?_)
  obtain ⟨hlen, h6, hd⟩ := h
  have loop : ∀ (d i : Nat) (z s m : Int), z = i → i + d = l.length → CInv i (s, m) → foldFrom (cStep l t) i d (s, m) = costM l t → Run P (mk Try.f128 0) (fun v st => v = .tup [.one (.int .i64 (costM l t).1), .one (.int .i64 (costM l t).2)] ∧ st = []) (.loop ⟨[(0, .one (.lst .mv l false)), (1, .one (.lst (.int .i64) t false)), (6, .one (.int .i64 s)), (7, .one (.int .i64 m)), (8, .one (.int .i64 z))], [], [.lp [0, 1, 0, 1, 1, 1], .blk 0, .code [1, 1, 1, 1]], none⟩) := by
    intro d
    induction d with
    | zero =>
      intro i z s m hz hi hc he
      subst hz
      refine Run.loop ?_
      repeat' (conv => arg 4; whnf); first | refine Run.ret ⟨?_, rfl⟩ | refine Run.condT ?_ | refine Run.condf ?_ | refine Run.condD (fun h => ?_) (fun h => ?_) | refine Run.condN (fun h => ?_) (fun h => ?_) | refine Run.condE (fun h => ?_) (fun h => ?_) | refine Run.condF (fun h => ?_) (fun h => ?_) | refine Run.condM (fun h => ?_) (fun h => ?_) | refine Run.condB (fun h => ?_) (fun h => ?_) | refine Run.check1 ?_ | (exfalso; omega)
      all_goals first
        | (exfalso; omega)
        | (rw [← he]; rfl)
    | succ d ih =>
      intro i z s m hz hi hc he
      subst hz
      have e : wrap64 ((i : Int) + 1) = ((i + 1 : Nat) : Int) := wrap_eq (by omega) (by omega)
      have hdi := hd i (by omega)
      have hc' := cInv_step hdi hc
      have ed : wrap64 (rd t i - (rdM l i).f3) = dl l t i := by simp only [rd_nat, rdM_nat]; exact wrap_eq (by unfold dl at hdi; omega) (by unfold dl at hdi; omega)
      have es : wrap64 (s + dl l t i) = s + dl l t i := by unfold CInv at hc; exact wrap_eq (by omega) (by omega)
      refine Run.loop ?_
      repeat' (conv => arg 4; whnf); first | refine Run.ret ⟨?_, rfl⟩ | refine Run.condT ?_ | refine Run.condf ?_ | refine Run.condD (fun h => ?_) (fun h => ?_) | refine Run.condN (fun h => ?_) (fun h => ?_) | refine Run.condE (fun h => ?_) (fun h => ?_) | refine Run.condF (fun h => ?_) (fun h => ?_) | refine Run.condM (fun h => ?_) (fun h => ?_) | refine Run.condB (fun h => ?_) (fun h => ?_) | refine Run.check1 ?_ | refine Run.need1 (by simp only [allP, true_and, and_true]; omega) ?_ | refine Run.round ⟨[], [], []⟩ (ih (i + 1) _ _ _ e (by omega) ?_ ?_) rfl (by (repeat' (first | exact wkEnv_nil | refine wkEnv_cons rfl ?_ | exact wkSto_nil | refine wkSto_none ?_ | refine wkSto_some rfl ?_)); done) (by (repeat' (first | exact wkEnv_nil | refine wkEnv_cons rfl ?_ | exact wkSto_nil | refine wkSto_none ?_ | refine wkSto_some rfl ?_)); done) | (exfalso; omega)
      all_goals first
        | (exfalso; omega)
        | (simp only [ed, es] at *
           have em : max m (dl l t i) = dl l t i := by omega
           simp only [foldFrom, cStep, em] at hc' he
           first | exact hc' | exact he)
        | (simp only [ed, es] at *
           have em : max m (dl l t i) = m := by omega
           simp only [foldFrom, cStep, em] at hc' he
           first | exact hc' | exact he)
        | (simp only [ed, es] at *
           simp only [foldFrom, cStep] at hc' he
           first | exact hc' | exact he)
        | trace_state
  repeat' (conv => arg 4; whnf); first | refine Run.ret ⟨?_, rfl⟩ | refine Run.condT ?_ | refine Run.condf ?_ | refine Run.condD (fun h => ?_) (fun h => ?_) | refine Run.condN (fun h => ?_) (fun h => ?_) | refine Run.condE (fun h => ?_) (fun h => ?_) | refine Run.condF (fun h => ?_) (fun h => ?_) | refine Run.condM (fun h => ?_) (fun h => ?_) | refine Run.condB (fun h => ?_) (fun h => ?_) | refine Run.check1 ?_ | refine Run.round ⟨[], [], []⟩ (loop l.length 0 _ _ _ rfl ?_ ?_ ?_) rfl (by (repeat' (first | exact wkEnv_nil | refine wkEnv_cons rfl ?_ | exact wkSto_nil | refine wkSto_none ?_ | refine wkSto_some rfl ?_)); done) (by (repeat' (first | exact wkEnv_nil | refine wkEnv_cons rfl ?_ | exact wkSto_nil | refine wkSto_none ?_ | refine wkSto_some rfl ?_)); done)
  all_goals first | omega | rfl | (unfold CInv; simp) | trace_state
theorem cost_ok (l : List Mv) (t : List Int) (hw : TkWf t) : Ok P 31 [.one (.lst .mv l false), .one (.lst (.int .i64) t false)] [] (.tup [.one (.int .i64 (costF l t).1), .one (.int .i64 (costF l t).2)]) [] := by
  refine Ok.of_run (F := mk Try.f31 0) Try.func31 rfl rfl tabOk mixed rfl rfl rfl rfl rfl (Nat.le_of_ble_eq_true rfl) (Nat.le_of_ble_eq_true rfl) (.go 5000 ?_)
  by_cases hf : Fits l t
  · rw [show costF l t = costM l t from if_pos hf]
    obtain ⟨hlen, h6, hd⟩ := fits_dl hf
    have loop : ∀ (d i : Nat) (z s m : Int), z = i → i + d = l.length → CInv i (s, m) → foldFrom (cStep l t) i d (s, m) = costM l t → Run P (mk Try.f31 0) (fun v st => v = .tup [.one (.int .i64 (costM l t).1), .one (.int .i64 (costM l t).2)] ∧ st = []) (.loop ⟨[(1, .one (.lst (.int .i64) t false)), (6, .one (.int .i64 s)), (7, .one (.int .i64 m)), (14, .one (.lst .mv l false)), (15, .one (.int .i64 (l.length : Int))), (16, .one (.int .i64 z))], [], [.lp [0, 1, 0, 1, 1, 1], .blk 0, .code [1, 1, 1, 1]], none⟩) := by
      intro d
      induction d with
      | zero =>
        intro i z s m hz hi hc he
        subst hz
        refine Run.loop ?_
        repeat' (conv => arg 4; whnf); first | refine Run.ret ⟨?_, rfl⟩ | refine Run.condT ?_ | refine Run.condf ?_ | refine Run.condD (fun h => ?_) (fun h => ?_) | refine Run.condN (fun h => ?_) (fun h => ?_) | refine Run.condE (fun h => ?_) (fun h => ?_) | refine Run.condF (fun h => ?_) (fun h => ?_) | refine Run.condM (fun h => ?_) (fun h => ?_) | refine Run.condB (fun h => ?_) (fun h => ?_) | refine Run.check1 ?_ | (exfalso; omega)
        all_goals first
          | (exfalso; omega)
          | (rw [← he]; rfl)
      | succ d ih =>
        intro i z s m hz hi hc he
        subst hz
        have e : wrap64 ((i : Int) + 1) = ((i + 1 : Nat) : Int) := wrap_eq (by omega) (by omega)
        have hdi := hd i (by omega)
        have hc' := cInv_step hdi hc
        have ed : wrap64 (rd t i - (rdM l i).f3) = dl l t i := by simp only [rd_nat, rdM_nat]; exact wrap_eq (by unfold dl at hdi; omega) (by unfold dl at hdi; omega)
        have es : wrap64 (s + dl l t i) = s + dl l t i := by unfold CInv at hc; exact wrap_eq (by omega) (by omega)
        refine Run.loop ?_
        repeat' (conv => arg 4; whnf); first | refine Run.ret ⟨?_, rfl⟩ | refine Run.condT ?_ | refine Run.condf ?_ | refine Run.condD (fun h => ?_) (fun h => ?_) | refine Run.condN (fun h => ?_) (fun h => ?_) | refine Run.condE (fun h => ?_) (fun h => ?_) | refine Run.condF (fun h => ?_) (fun h => ?_) | refine Run.condM (fun h => ?_) (fun h => ?_) | refine Run.condB (fun h => ?_) (fun h => ?_) | refine Run.check1 ?_ | refine Run.need1 (by simp only [allP, true_and, and_true]; omega) ?_ | refine Run.round ⟨[], [], []⟩ (ih (i + 1) _ _ _ e (by omega) ?_ ?_) rfl (by (repeat' (first | exact wkEnv_nil | refine wkEnv_cons rfl ?_ | exact wkSto_nil | refine wkSto_none ?_ | refine wkSto_some rfl ?_)); done) (by (repeat' (first | exact wkEnv_nil | refine wkEnv_cons rfl ?_ | exact wkSto_nil | refine wkSto_none ?_ | refine wkSto_some rfl ?_)); done) | (exfalso; omega)
        all_goals first
          | (exfalso; omega)
          | (simp only [ed, es] at *
             have em : max m (dl l t i) = dl l t i := by omega
             simp only [foldFrom, cStep, em] at hc' he
             first | exact hc' | exact he)
          | (simp only [ed, es] at *
             have em : max m (dl l t i) = m := by omega
             simp only [foldFrom, cStep, em] at hc' he
             first | exact hc' | exact he)
          | (simp only [ed, es] at *
             simp only [foldFrom, cStep] at hc' he
             first | exact hc' | exact he)
          | trace_state
    repeat' (conv => arg 4; whnf); first | refine Run.ret ⟨?_, rfl⟩ | refine Run.condT ?_ | refine Run.condf ?_ | refine Run.condD (fun h => ?_) (fun h => ?_) | refine Run.condN (fun h => ?_) (fun h => ?_) | refine Run.condE (fun h => ?_) (fun h => ?_) | refine Run.condF (fun h => ?_) (fun h => ?_) | refine Run.condM (fun h => ?_) (fun h => ?_) | refine Run.condB (fun h => ?_) (fun h => ?_) | refine Run.check1 ?_ | refine Run.call (fits_ok _ _ hw) rfl ?_ | refine Run.round ⟨[], [], []⟩ (loop l.length 0 _ _ _ rfl ?_ ?_ ?_) rfl (by (repeat' (first | exact wkEnv_nil | refine wkEnv_cons rfl ?_ | exact wkSto_nil | refine wkSto_none ?_ | refine wkSto_some rfl ?_)); done) (by (repeat' (first | exact wkEnv_nil | refine wkEnv_cons rfl ?_ | exact wkSto_nil | refine wkSto_none ?_ | refine wkSto_some rfl ?_)); done)
    all_goals first | omega | rfl | (unfold CInv; simp; done) | exact absurd hf ‹_› | trace_state
  · rw [show costF l t = (0, 0) from if_neg hf]
    repeat' (conv => arg 4; whnf); first | refine Run.ret ⟨?_, rfl⟩ | refine Run.condT ?_ | refine Run.condf ?_ | refine Run.condD (fun h => ?_) (fun h => ?_) | refine Run.condN (fun h => ?_) (fun h => ?_) | refine Run.condE (fun h => ?_) (fun h => ?_) | refine Run.condF (fun h => ?_) (fun h => ?_) | refine Run.condM (fun h => ?_) (fun h => ?_) | refine Run.condB (fun h => ?_) (fun h => ?_) | refine Run.check1 ?_ | refine Run.call (fits_ok _ _ hw) rfl ?_ | (exact absurd ‹_› hf)
    all_goals rfl
end Go.Proofs.Ytmppoajepbbmiaa.AM

/- All orders, the best of the reference; condition: a move list. -/
namespace Go.Proofs.Ytmppoajepbbmiaa.AM
open Go.AM Go.RowKit
set_option linter.unusedVariables false
set_option linter.unusedSimpArgs false
set_option maxRecDepth 100000

def rowF (f : Nat) (o : List Int) : List Int := (f : Int) :: o.map (bump f)
def upAll (n f : Nat) : List (List Int) := (List.range f).flatMap fun f => (allM n).map (rowF f)
theorem upAll_succ (n f : Nat) : upAll n (f + 1) = upAll n f ++ (allM n).map (rowF f) := by
  unfold upAll
  rw [List.range_succ, List.flatMap_append]
  simp
theorem upAll_len (n : Nat) : ∀ f, (upAll n f).length = f * (allM n).length
  | 0 => by simp [upAll]
  | f + 1 => by rw [upAll_succ, List.length_append, upAll_len n f, List.length_map, Nat.succ_mul]
theorem allM_len : ∀ n, n ≤ 6 → (allM n).length ≤ 720 := by decide +kernel
theorem alls_ok : ∀ (n : Nat), n ≤ 6 → Ok P 100 [.one (.int .i64 n)] [] (.one (.own (.k 0))) [some (.row .ints (allM n))] := by
  intro n
  induction n with
  | zero =>
    intro _
    refine Ok.of_run (F := mk Try.f100 0) Try.func100 rfl rfl tabOk mixed rfl rfl rfl rfl rfl (Nat.le_of_ble_eq_true rfl) (Nat.le_of_ble_eq_true rfl) (.go 5000 ?_)
    repeat' (conv => arg 4; whnf); first | refine Run.ret ⟨?_, rfl⟩ | refine Run.condT ?_ | refine Run.condf ?_ | refine Run.condD (fun h => ?_) (fun h => ?_) | refine Run.condN (fun h => ?_) (fun h => ?_) | refine Run.condE (fun h => ?_) (fun h => ?_) | refine Run.condF (fun h => ?_) (fun h => ?_) | refine Run.condM (fun h => ?_) (fun h => ?_) | refine Run.condB (fun h => ?_) (fun h => ?_) | refine Run.check1 ?_ | (exfalso; omega)
    all_goals rfl
  | succ n ihn =>
    intro hn
    have hl := ihn (by omega)
    have hlen := allM_len n (by omega)
    have e := wrap_eq (x := ((n + 1 : Nat) : Int) - 1) (by omega) (by omega)
    rw [show (n : Int) = wrap64 (((n + 1 : Nat) : Int) - 1) by rw [e]; omega] at hl
    refine Ok.of_run (F := mk Try.f100 0) Try.func100 rfl rfl tabOk mixed rfl rfl rfl rfl rfl (Nat.le_of_ble_eq_true rfl) (Nat.le_of_ble_eq_true rfl) (.go 5000 ?_)
    have loop : ∀ (d f : Nat) (z : Int), z = f → f + d = n + 1 → Run P (mk Try.f100 0) (fun v s => v = .one (.own (.k 0)) ∧ s = [some (.row .ints (allM (n + 1)))]) (.loop ⟨[(0, .one (.int .i64 ((n + 1 : Nat) : Int))), (3, .one (.own (.t 1000 0))), (4, .one (.lst .ints (allM n) false)), (5, .one (.int .i64 z))], [(.t 1000 0, some (.row .ints (upAll n f)))], [.lp [0, 1, 0, 1, 1, 1, 1], .blk 0, .code [1, 1, 1, 1, 1]], none⟩) := by
      intro d
      induction d with
      | zero =>
        intro f z hz hd
        subst hz
        obtain rfl : f = n + 1 := by omega
        refine Run.loop ?_
        repeat' (conv => arg 4; whnf); first | refine Run.ret ⟨?_, rfl⟩ | refine Run.condT ?_ | refine Run.condf ?_ | refine Run.condD (fun h => ?_) (fun h => ?_) | refine Run.condN (fun h => ?_) (fun h => ?_) | refine Run.condE (fun h => ?_) (fun h => ?_) | refine Run.condF (fun h => ?_) (fun h => ?_) | refine Run.condM (fun h => ?_) (fun h => ?_) | refine Run.condB (fun h => ?_) (fun h => ?_) | refine Run.check1 ?_ | (exfalso; omega)
        all_goals first | rfl | trace_state
      | succ d ih =>
        intro f z hz hd
        subst hz
        have ef := fs (i := f) (by omega)
        have loop1 : ∀ (c i : Nat) (z : Int), z = i → i + c = (allM n).length → Run P (mk Try.f100 0) (fun v s => v = .one (.own (.k 0)) ∧ s = [some (.row .ints (allM (n + 1)))]) (.loop ⟨[(0, .one (.int .i64 ((n + 1 : Nat) : Int))), (3, .one (.own (.t 1000 0))), (4, .one (.lst .ints (allM n) false)), (5, .one (.int .i64 (f : Int))), (6, .one (.int .i64 z))], [(.t 1000 0, some (.row .ints (upAll n f ++ ((allM n).take i).map (rowF f))))], [.lp [0, 1, 0, 0, 1, 0, 0, 1, 0, 1, 1, 1, 1], .blk 2, .blk 1, .code [1, 1, 0, 0, 1, 0, 1, 1, 1, 1], .lp [0, 1, 0, 1, 1, 1, 1], .blk 0, .code [1, 1, 1, 1, 1]], none⟩) := by
          intro c
          induction c with
          | zero =>
            intro i z hz hc
            subst hz
            obtain rfl : i = (allM n).length := by omega
            rw [List.take_length, ← upAll_succ]
            refine Run.loop ?_
            repeat' (conv => arg 4; whnf); first | refine Run.ret ⟨?_, rfl⟩ | refine Run.condT ?_ | refine Run.condf ?_ | refine Run.condD (fun h => ?_) (fun h => ?_) | refine Run.condN (fun h => ?_) (fun h => ?_) | refine Run.condE (fun h => ?_) (fun h => ?_) | refine Run.condF (fun h => ?_) (fun h => ?_) | refine Run.condM (fun h => ?_) (fun h => ?_) | refine Run.condB (fun h => ?_) (fun h => ?_) | refine Run.check1 ?_ | (exfalso; omega) | refine Run.round ⟨[(.t 1000 0, .t 1000 0)], [], []⟩ (ih (f + 1) _ ef.h (by omega)) rfl (by (repeat' (first | exact wkEnv_nil | refine wkEnv_cons rfl ?_ | exact wkSto_nil | refine wkSto_none ?_ | refine wkSto_some rfl ?_)); done) (by (repeat' (first | exact wkEnv_nil | refine wkEnv_cons rfl ?_ | exact wkSto_nil | refine wkSto_none ?_ | refine wkSto_some rfl ?_)); done)
            all_goals first | rfl | trace_state
          | succ c ih1 =>
            intro i z hz hc
            subst hz
            have ei := fs (i := i) (by omega)
            have hup : (upAll n f ++ ((allM n).take i).map (rowF f)).length ≤ 10000 := by
              rw [List.length_append, upAll_len, List.length_map, List.length_take]
              have := Nat.mul_le_mul (show f ≤ 6 by omega) hlen
              omega
            have hii : rdL (allM n) (i : Int) = (allM n).getD i [] := by unfold rdL; rw [Int.toNat_natCast]
            have hmi : rdL (allM n) (i : Int) ∈ allM n := by rw [hii, List.getD_eq_getElem?_getD, List.getElem?_eq_getElem (by omega)]; exact List.getElem_mem _
            obtain ⟨hrl, hro⟩ := allM_ord hmi
            have hnext : (upAll n f ++ ((allM n).take i).map (rowF f)) ++ [rowF f (rdL (allM n) (i : Int))] = upAll n f ++ ((allM n).take (i + 1)).map (rowF f) := by
              rw [List.append_assoc, hii, List.take_add_one, List.map_append]
              simp [List.getD_eq_getElem?_getD, List.getElem?_eq_getElem (show i < (allM n).length by omega)]
            have ihn1 := ih1 (i + 1) _ ei.h (by omega)
            rw [← hnext] at ihn1
            have loop2 : ∀ (b k : Nat) (z : Int), z = k → k + b = (rdL (allM n) (i : Int)).length → Run P (mk Try.f100 0) (fun v s => v = .one (.own (.k 0)) ∧ s = [some (.row .ints (allM (n + 1)))]) (.loop ⟨[(0, .one (.int .i64 ((n + 1 : Nat) : Int))), (3, .one (.own (.t 1000 0))), (4, .one (.lst .ints (allM n) false)), (5, .one (.int .i64 (f : Int))), (6, .one (.int .i64 (i : Int))), (7, .one (.own (.t 1001 0))), (8, .one (.int .i64 z))],
               [(.t 1000 0, some (.row .ints (upAll n f ++ ((allM n).take i).map (rowF f)))), (.t 1001 0, some (.row (.int .i64) (rowF f ((rdL (allM n) (i : Int)).take k))))], [.lp [0, 1, 0, 1, 0, 0, 1, 0, 0, 1, 0, 0, 1, 0, 0, 1, 0, 1, 1, 1, 1], .blk 4, .code [1, 1, 0, 0, 1, 0, 0, 1, 0, 0, 1, 0, 0, 1, 0, 1, 1, 1, 1], .blk 3, .code [1, 1, 0, 0, 1, 0, 0, 1, 0, 0, 1, 0, 1, 1, 1, 1], .lp [0, 1, 0, 0, 1, 0, 0, 1, 0, 1, 1, 1, 1], .blk 2, .blk 1, .code [1, 1, 0, 0, 1, 0, 1, 1, 1, 1], .lp [0, 1, 0, 1, 1, 1, 1], .blk 0, .code [1, 1, 1, 1, 1]], none⟩) := by
              intro b
              induction b with
              | zero =>
                intro k z hz hb
                subst hz
                obtain rfl : k = (rdL (allM n) (i : Int)).length := by omega
                rw [List.take_length]
                refine Run.round ⟨[(.t 1000 0, .t 1000 0)], [], [.t 1001 0]⟩ (env' := [(0, .one (.int .i64 ((n + 1 : Nat) : Int))), (3, .one (.own (.t 1000 0))), (4, .one (.lst .ints (allM n) false)), (5, .one (.int .i64 (f : Int))), (6, .one (.int .i64 (i : Int))), (7, .one (.lst (.int .i64) (rowF f (rdL (allM n) (i : Int))) false)), (8, .one (.int .i64 ((rdL (allM n) (i : Int)).length : Int)))])
                  (sto' := [(.t 1000 0, some (.row .ints (upAll n f ++ ((allM n).take i).map (rowF f))))]) (Run.loop ?_) rfl (by (repeat' (first | exact wkEnv_nil | refine wkEnv_cons rfl ?_ | exact wkSto_nil | refine wkSto_none ?_ | refine wkSto_some rfl ?_)); done) (by (repeat' (first | exact wkEnv_nil | refine wkEnv_cons rfl ?_ | exact wkSto_nil | refine wkSto_none ?_ | refine wkSto_some rfl ?_)); done)
                repeat' (conv => arg 4; whnf); first | refine Run.ret ⟨?_, rfl⟩ | refine Run.condT ?_ | refine Run.condf ?_ | refine Run.condD (fun h => ?_) (fun h => ?_) | refine Run.condN (fun h => ?_) (fun h => ?_) | refine Run.condE (fun h => ?_) (fun h => ?_) | refine Run.condF (fun h => ?_) (fun h => ?_) | refine Run.condM (fun h => ?_) (fun h => ?_) | refine Run.condB (fun h => ?_) (fun h => ?_) | refine Run.check1 ?_ | (exfalso; omega) | refine Run.need1 (by simp only [allP, true_and, and_true, List.length_cons, List.length_nil]; omega) ?_ | refine Run.round ⟨[(.t 59 0, .t 1000 0)], [], []⟩ (ihn1) rfl (by (repeat' (first | exact wkEnv_nil | refine wkEnv_cons rfl ?_ | exact wkSto_nil | refine wkSto_none ?_ | refine wkSto_some rfl ?_)); done) (by (repeat' (first | exact wkEnv_nil | refine wkEnv_cons rfl ?_ | exact wkSto_nil | refine wkSto_none ?_ | refine wkSto_some rfl ?_)); done)
                all_goals first | rfl | (exfalso; omega) | trace_state
              | succ b ih2 =>
                intro k z hz hb
                subst hz
                have ek := fs (i := k) (by omega)
                have hrk := hro k (by omega)
                have hrd : rd (rdL (allM n) (i : Int)) (k : Int) = (rdL (allM n) (i : Int)).getD k 0 := rd_nat _ _
                have hsn : ∀ x, x = bump f (rd (rdL (allM n) (i : Int)) (k : Int)) → rowF f ((rdL (allM n) (i : Int)).take k) ++ [x] = rowF f ((rdL (allM n) (i : Int)).take (k + 1)) := fun x hx => by
                  rw [hx, hrd]
                  unfold rowF
                  rw [List.take_add_one, List.map_append]
                  simp [List.getD_eq_getElem?_getD, List.getElem?_eq_getElem (show k < (rdL (allM n) (i : Int)).length by omega)]
                have hrw : (rowF f ((rdL (allM n) (i : Int)).take k)).length ≤ 10 := by simp [rowF]; omega
                by_cases hge : (f : Int) ≤ rd (rdL (allM n) (i : Int)) (k : Int)
                · have h2 := ih2 (k + 1) _ ek.h (by omega)
                  rw [← hsn (wrap64 (rd (rdL (allM n) (i : Int)) (k : Int) + 1)) (by rw [fw (by rw [hrd]; omega) |>.h]; unfold bump; rw [if_pos hge])] at h2
                  refine Run.loop ?_
                  repeat' (conv => arg 4; whnf); first | refine Run.ret ⟨?_, rfl⟩ | refine Run.condT ?_ | refine Run.condf ?_ | refine Run.condD (fun h => ?_) (fun h => ?_) | refine Run.condN (fun h => ?_) (fun h => ?_) | refine Run.condE (fun h => ?_) (fun h => ?_) | refine Run.condF (fun h => ?_) (fun h => ?_) | refine Run.condM (fun h => ?_) (fun h => ?_) | refine Run.condB (fun h => ?_) (fun h => ?_) | refine Run.check1 ?_ | (exfalso; omega) | refine Run.need1 (by simp only [allP, true_and, and_true]; omega) ?_ | refine Run.need1 (by simp only [allP, true_and, and_true, List.length_cons, List.length_nil]; omega) ?_ | refine Run.round ⟨[(.t 1000 0, .t 1000 0), (.t 55 0, .t 1001 0)], [], []⟩ (h2) rfl (by (repeat' (first | exact wkEnv_nil | refine wkEnv_cons rfl ?_ | exact wkSto_nil | refine wkSto_none ?_ | refine wkSto_some rfl ?_)); done) (by (repeat' (first | exact wkEnv_nil | refine wkEnv_cons rfl ?_ | exact wkSto_nil | refine wkSto_none ?_ | refine wkSto_some rfl ?_)); done)
                  all_goals first | rfl | (exfalso; omega) | trace_state
                · have h2 := ih2 (k + 1) _ ek.h (by omega)
                  rw [← hsn (rd (rdL (allM n) (i : Int)) (k : Int)) (by unfold bump; rw [if_neg hge])] at h2
                  refine Run.loop ?_
                  repeat' (conv => arg 4; whnf); first | refine Run.ret ⟨?_, rfl⟩ | refine Run.condT ?_ | refine Run.condf ?_ | refine Run.condD (fun h => ?_) (fun h => ?_) | refine Run.condN (fun h => ?_) (fun h => ?_) | refine Run.condE (fun h => ?_) (fun h => ?_) | refine Run.condF (fun h => ?_) (fun h => ?_) | refine Run.condM (fun h => ?_) (fun h => ?_) | refine Run.condB (fun h => ?_) (fun h => ?_) | refine Run.check1 ?_ | (exfalso; omega) | refine Run.need1 (by simp only [allP, true_and, and_true]; omega) ?_ | refine Run.need1 (by simp only [allP, true_and, and_true, List.length_cons, List.length_nil]; omega) ?_ | refine Run.round ⟨[(.t 1000 0, .t 1000 0), (.t 55 0, .t 1001 0)], [], []⟩ (h2) rfl (by (repeat' (first | exact wkEnv_nil | refine wkEnv_cons rfl ?_ | exact wkSto_nil | refine wkSto_none ?_ | refine wkSto_some rfl ?_)); done) (by (repeat' (first | exact wkEnv_nil | refine wkEnv_cons rfl ?_ | exact wkSto_nil | refine wkSto_none ?_ | refine wkSto_some rfl ?_)); done)
                  all_goals first | rfl | (exfalso; omega) | trace_state
            have hl2 := loop2 _ 0 _ rfl (Nat.zero_add _)
            rw [List.take_zero] at hl2
            refine Run.loop ?_
            repeat' (conv => arg 4; whnf); first | refine Run.ret ⟨?_, rfl⟩ | refine Run.condT ?_ | refine Run.condf ?_ | refine Run.condD (fun h => ?_) (fun h => ?_) | refine Run.condN (fun h => ?_) (fun h => ?_) | refine Run.condE (fun h => ?_) (fun h => ?_) | refine Run.condF (fun h => ?_) (fun h => ?_) | refine Run.condM (fun h => ?_) (fun h => ?_) | refine Run.condB (fun h => ?_) (fun h => ?_) | refine Run.check1 ?_ | (exfalso; omega) | refine Run.round ⟨[(.t 1000 0, .t 1000 0), (.t 30 0, .t 1001 0)], [], []⟩ (hl2) rfl (by (repeat' (first | exact wkEnv_nil | refine wkEnv_cons rfl ?_ | exact wkSto_nil | refine wkSto_none ?_ | refine wkSto_some rfl ?_)); done) (by (repeat' (first | exact wkEnv_nil | refine wkEnv_cons rfl ?_ | exact wkSto_nil | refine wkSto_none ?_ | refine wkSto_some rfl ?_)); done)
        refine Run.loop ?_
        have hl0 := loop1 (allM n).length 0 _ rfl (by omega)
        rw [List.take_zero, List.map_nil, List.append_nil] at hl0
        repeat' (conv => arg 4; whnf); first | refine Run.ret ⟨?_, rfl⟩ | refine Run.condT ?_ | refine Run.condf ?_ | refine Run.condD (fun h => ?_) (fun h => ?_) | refine Run.condN (fun h => ?_) (fun h => ?_) | refine Run.condE (fun h => ?_) (fun h => ?_) | refine Run.condF (fun h => ?_) (fun h => ?_) | refine Run.condM (fun h => ?_) (fun h => ?_) | refine Run.condB (fun h => ?_) (fun h => ?_) | refine Run.check1 ?_ | (exfalso; omega) | refine Run.round ⟨[(.t 1000 0, .t 1000 0)], [], []⟩ (hl0) rfl (by (repeat' (first | exact wkEnv_nil | refine wkEnv_cons rfl ?_ | exact wkSto_nil | refine wkSto_none ?_ | refine wkSto_some rfl ?_)); done) (by (repeat' (first | exact wkEnv_nil | refine wkEnv_cons rfl ?_ | exact wkSto_nil | refine wkSto_none ?_ | refine wkSto_some rfl ?_)); done)
        all_goals first | rfl | (exfalso; omega) | trace_state
    repeat' (conv => arg 4; whnf); first | refine Run.ret ⟨?_, rfl⟩ | refine Run.condT ?_ | refine Run.condf ?_ | refine Run.condD (fun h => ?_) (fun h => ?_) | refine Run.condN (fun h => ?_) (fun h => ?_) | refine Run.condE (fun h => ?_) (fun h => ?_) | refine Run.condF (fun h => ?_) (fun h => ?_) | refine Run.condM (fun h => ?_) (fun h => ?_) | refine Run.condB (fun h => ?_) (fun h => ?_) | refine Run.check1 ?_ | refine Run.call (hl) rfl ?_ | refine Run.round ⟨[(.t 14 0, .t 1000 0)], [], [.t 17 0]⟩ (loop (n + 1) 0 _ rfl (by omega)) rfl (by (repeat' (first | exact wkEnv_nil | refine wkEnv_cons rfl ?_ | exact wkSto_nil | refine wkSto_none ?_ | refine wkSto_some rfl ?_)); done) (by (repeat' (first | exact wkEnv_nil | refine wkEnv_cons rfl ?_ | exact wkSto_nil | refine wkSto_none ?_ | refine wkSto_some rfl ?_)); done) | (exfalso; omega)
    all_goals first | rfl | (exfalso; omega) | trace_state
theorem better_ok (l : List Mv) (a b : List Int) (ha : Fits l a) (hb : Fits l b) : Ok P 102 [.one (.lst .mv l false), .one (.lst (.int .i64) a false), .one (.lst (.int .i64) b false)] [] (.one (.bool (better l a b))) [] := by
  have h6 := ha.1.1
  have hal := ha.2.1
  have hbl := hb.2.1
  refine Ok.of_run (F := mk Try.f102 0) Try.func102 rfl rfl tabOk mixed rfl rfl rfl rfl rfl (Nat.le_of_ble_eq_true rfl) (Nat.le_of_ble_eq_true rfl) (.go 5000 ?_)
  have loop : ∀ (d i : Nat) (z : Int), z = i → i + d = a.length → Fact (lexFrom a b i d = better l a b) → Run P (mk Try.f102 0) (fun v st => v = .one (.bool (better l a b)) ∧ st = []) (.loop ⟨[(1, .one (.lst (.int .i64) a false)), (2, .one (.lst (.int .i64) b false)), (11, .one (.int .i64 z))], [], [.lp [0, 1, 0, 1, 1, 1, 1, 1], .blk 0, .code [1, 1, 1, 1, 1, 1]], none⟩) := by
    intro d
    induction d with
    | zero =>
      intro i z hz hd he
      subst hz
      refine Run.loop ?_
      repeat' (conv => arg 4; whnf); first | refine Run.ret ⟨?_, rfl⟩ | refine Run.condT ?_ | refine Run.condf ?_ | refine Run.condD (fun h => ?_) (fun h => ?_) | refine Run.condN (fun h => ?_) (fun h => ?_) | refine Run.condE (fun h => ?_) (fun h => ?_) | refine Run.condF (fun h => ?_) (fun h => ?_) | refine Run.condM (fun h => ?_) (fun h => ?_) | refine Run.condB (fun h => ?_) (fun h => ?_) | refine Run.check1 ?_ | (exfalso; omega)
      all_goals first | (rw [← he.h]; rfl) | (exfalso; omega)
    | succ d ih =>
      intro i z hz hd he
      subst hz
      have e := fs (i := i) (by omega)
      have hc := he.h
      unfold lexFrom at hc
      rw [← rd_nat, ← rd_nat] at hc
      by_cases hq : rd a (i : Int) = rd b (i : Int)
      · rw [if_pos hq] at hc
        refine Run.loop ?_
        repeat' (conv => arg 4; whnf); first | refine Run.ret ⟨?_, rfl⟩ | refine Run.condT ?_ | refine Run.condf ?_ | refine Run.condD (fun h => ?_) (fun h => ?_) | refine Run.condN (fun h => ?_) (fun h => ?_) | refine Run.condE (fun h => ?_) (fun h => ?_) | refine Run.condF (fun h => ?_) (fun h => ?_) | refine Run.condM (fun h => ?_) (fun h => ?_) | refine Run.condB (fun h => ?_) (fun h => ?_) | refine Run.check1 ?_ | (exfalso; omega) | refine Run.need1 (by simp only [allP, true_and, and_true]; omega) ?_ | refine Run.round ⟨[], [], []⟩ (ih (i + 1) _ e.h (by omega) ⟨hc⟩) rfl (by (repeat' (first | exact wkEnv_nil | refine wkEnv_cons rfl ?_ | exact wkSto_nil | refine wkSto_none ?_ | refine wkSto_some rfl ?_)); done) (by (repeat' (first | exact wkEnv_nil | refine wkEnv_cons rfl ?_ | exact wkSto_nil | refine wkSto_none ?_ | refine wkSto_some rfl ?_)); done)
        all_goals first | (exfalso; omega) | trace_state
      · rw [if_neg hq] at hc
        refine Run.loop ?_
        repeat' (conv => arg 4; whnf); first | refine Run.ret ⟨?_, rfl⟩ | refine Run.condT ?_ | refine Run.condf ?_ | refine Run.condD (fun h => ?_) (fun h => ?_) | refine Run.condN (fun h => ?_) (fun h => ?_) | refine Run.condE (fun h => ?_) (fun h => ?_) | refine Run.condF (fun h => ?_) (fun h => ?_) | refine Run.condM (fun h => ?_) (fun h => ?_) | refine Run.condB (fun h => ?_) (fun h => ?_) | refine Run.check1 ?_ | (exfalso; omega) | refine Run.need1 (by simp only [allP, true_and, and_true]; omega) ?_
        all_goals first | (exfalso; omega) | (rw [← hc]; done) | trace_state
  have hbe : better l a b = if (costM l a).1 = (costM l b).1 then (if (costM l a).2 = (costM l b).2 then lexFrom a b 0 a.length else decide ((costM l a).2 < (costM l b).2)) else decide ((costM l a).1 < (costM l b).1) := rfl
  repeat' (conv => arg 4; whnf); first | refine Run.ret ⟨?_, rfl⟩ | refine Run.condT ?_ | refine Run.condf ?_ | refine Run.condD (fun h => ?_) (fun h => ?_) | refine Run.condN (fun h => ?_) (fun h => ?_) | refine Run.condE (fun h => ?_) (fun h => ?_) | refine Run.condF (fun h => ?_) (fun h => ?_) | refine Run.condM (fun h => ?_) (fun h => ?_) | refine Run.condB (fun h => ?_) (fun h => ?_) | refine Run.check1 ?_ | refine Run.call (scost2_ok l a (fits_dl ha)) rfl ?_ | refine Run.call (scost2_ok l b (fits_dl hb)) rfl ?_ | refine Run.round ⟨[], [], []⟩ (loop a.length 0 _ rfl (by omega) ⟨?_⟩) rfl (by (repeat' (first | exact wkEnv_nil | refine wkEnv_cons rfl ?_ | exact wkSto_nil | refine wkSto_none ?_ | refine wkSto_some rfl ?_)); done) (by (repeat' (first | exact wkEnv_nil | refine wkEnv_cons rfl ?_ | exact wkSto_nil | refine wkSto_none ?_ | refine wkSto_some rfl ?_)); done)
  all_goals first
    | (rw [hbe]; (repeat' split) <;> first | rfl | (exfalso; omega) | contradiction)
    | trace_state
theorem sb_ok (l : List Mv) (sh : Int) (hm : MovesOk l) : Ok P 70 [.one (.lst .mv l false), .one (.int .i64 sh)] [] (.tup [.one (.own (.k 0)), .one (.bool (bestM l sh).2)]) [some (.row (.int .i64) (bestM l sh).1)] := by
  have h6 := hm.1
  have hlen := allM_len l.length h6
  obtain ⟨e1, e2⟩ := retO_t (bestO l sh)
  rw [show bestM l sh = retO (bestO l sh) from rfl, e1, e2]
  refine Ok.of_run (F := mk Try.f70 0) Try.func70 rfl rfl tabOk mixed rfl rfl rfl rfl rfl (Nat.le_of_ble_eq_true rfl) (Nat.le_of_ble_eq_true rfl) (.go 5000 ?_)
  have loop : ∀ (d i : Nat) (z : Int) (s : Option (List Int)), z = i → i + d = (allM l.length).length → s = ((allM l.length).take i).foldl (bestStep l (firstM l) sh) none → BestOk l s → Run P (mk Try.f70 0) (fun v st => v = .tup [.one (.own (.k 0)), .one (.bool (bestO l sh).isSome)] ∧ st = [some (.row (.int .i64) (tksO (bestO l sh)))])
     (.loop ⟨[(0, .one (.lst .mv l false)), (1, .one (.int .i64 sh)), (6, .one (.own (.t 1000 0))), (7, .one (.bool s.isSome)), (8, .one (.lst (.int .i64) (firstM l) false)), (9, .one (.lst .ints (allM l.length) false)), (10, .one (.int .i64 z))], [(.t 1000 0, some (.row (.int .i64) (tksO s)))], [.lp [0, 1, 0, 1, 1, 1, 1, 1], .blk 0, .code [1, 1, 1, 1, 1, 1]], none⟩) := by
    intro d
    induction d with
    | zero =>
      intro i z s hz hd hs hb
      subst hz
      obtain rfl : i = (allM l.length).length := by omega
      rw [List.take_length] at hs
      replace hs : s = bestO l sh := hs
      subst hs
      refine Run.loop ?_
      repeat' (conv => arg 4; whnf); first | refine Run.ret ⟨?_, rfl⟩ | refine Run.condT ?_ | refine Run.condf ?_ | refine Run.condD (fun h => ?_) (fun h => ?_) | refine Run.condN (fun h => ?_) (fun h => ?_) | refine Run.condE (fun h => ?_) (fun h => ?_) | refine Run.condF (fun h => ?_) (fun h => ?_) | refine Run.condM (fun h => ?_) (fun h => ?_) | refine Run.condB (fun h => ?_) (fun h => ?_) | refine Run.check1 ?_ | (exfalso; omega)
      all_goals first | rfl | (exfalso; omega) | trace_state
    | succ d ih =>
      intro i z s hz hd hs hb
      subst hz
      have e := fs (i := i) (by omega)
      have hii : rdL (allM l.length) (i : Int) = (allM l.length).getD i [] := by unfold rdL; rw [Int.toNat_natCast]
      have hmi : rdL (allM l.length) (i : Int) ∈ allM l.length := by rw [hii, List.getD_eq_getElem?_getD, List.getElem?_eq_getElem (by omega)]; exact List.getElem_mem _
      obtain ⟨hol, ho⟩ := allM_ord hmi
      have hnext : bestStep l (firstM l) sh s (rdL (allM l.length) (i : Int)) = ((allM l.length).take (i + 1)).foldl (bestStep l (firstM l) sh) none := by
        rw [List.take_add_one, List.foldl_append, ← hs, hii]
        simp [List.getD_eq_getElem?_getD, List.getElem?_eq_getElem (show i < (allM l.length).length by omega)]
      have hb' : BestOk l (bestStep l (firstM l) sh s (rdL (allM l.length) (i : Int))) := bestStep_ok hm ho hol hb
      have hfl := firstM_len l
      have hshift := sshift_ok (rdL (allM l.length) (i : Int)) (firstM l) (by omega) (by omega)
      rw [shiftM_symm] at hshift
      have hord := sordered_ok l (rdL (allM l.length) (i : Int)) (movesOk_all hm) (by omega) ho hol
      have hfit : (ordM l (rdL (allM l.length) (i : Int))).2 = true → Fits l (ordM l (rdL (allM l.length) (i : Int))).1 := fun h => ordM_fits hm ho hol h
      by_cases hsh : sh < shiftM (firstM l) (rdL (allM l.length) (i : Int))
      · rw [show bestStep l (firstM l) sh s (rdL (allM l.length) (i : Int)) = s from if_pos hsh] at hnext
        refine Run.loop ?_
        repeat' (conv => arg 4; whnf); first | refine Run.ret ⟨?_, rfl⟩ | refine Run.condT ?_ | refine Run.condf ?_ | refine Run.condD (fun h => ?_) (fun h => ?_) | refine Run.condN (fun h => ?_) (fun h => ?_) | refine Run.condE (fun h => ?_) (fun h => ?_) | refine Run.condF (fun h => ?_) (fun h => ?_) | refine Run.condM (fun h => ?_) (fun h => ?_) | refine Run.condB (fun h => ?_) (fun h => ?_) | refine Run.check1 ?_ | (exfalso; omega) | refine Run.need1 (by simp only [allP, true_and, and_true]; omega) ?_ | refine Run.call (hshift) rfl ?_ | refine Run.round ⟨[(.t 1000 0, .t 1000 0)], [], []⟩ (ih (i + 1) _ _ e.h (by omega) hnext hb) rfl (by (repeat' (first | exact wkEnv_nil | refine wkEnv_cons rfl ?_ | exact wkSto_nil | refine wkSto_none ?_ | refine wkSto_some rfl ?_)); done) (by (repeat' (first | exact wkEnv_nil | refine wkEnv_cons rfl ?_ | exact wkSto_nil | refine wkSto_none ?_ | refine wkSto_some rfl ?_)); done)
        all_goals first | (exfalso; omega) | trace_state
      · cases hok : (ordM l (rdL (allM l.length) (i : Int))).2 with
        | false =>
          rw [hok] at hord
          rw [show bestStep l (firstM l) sh s (rdL (allM l.length) (i : Int)) = s by rw [bestStep_chg, chg, if_neg hsh, hok]; rfl] at hnext
          refine Run.loop ?_
          repeat' (conv => arg 4; whnf); first | refine Run.ret ⟨?_, rfl⟩ | refine Run.condT ?_ | refine Run.condf ?_ | refine Run.condD (fun h => ?_) (fun h => ?_) | refine Run.condN (fun h => ?_) (fun h => ?_) | refine Run.condE (fun h => ?_) (fun h => ?_) | refine Run.condF (fun h => ?_) (fun h => ?_) | refine Run.condM (fun h => ?_) (fun h => ?_) | refine Run.condB (fun h => ?_) (fun h => ?_) | refine Run.check1 ?_ | (exfalso; omega) | refine Run.need1 (by simp only [allP, true_and, and_true]; omega) ?_ | refine Run.call (hshift) rfl ?_ | refine Run.call (hord) rfl ?_ | refine Run.round ⟨[(.t 1000 0, .t 1000 0)], [], []⟩ (ih (i + 1) _ _ e.h (by omega) hnext hb) rfl (by (repeat' (first | exact wkEnv_nil | refine wkEnv_cons rfl ?_ | exact wkSto_nil | refine wkSto_none ?_ | refine wkSto_some rfl ?_)); done) (by (repeat' (first | exact wkEnv_nil | refine wkEnv_cons rfl ?_ | exact wkSto_nil | refine wkSto_none ?_ | refine wkSto_some rfl ?_)); done)
          all_goals first | (exfalso; omega) | trace_state
        | true =>
          have hst : bestStep l (firstM l) sh s (rdL (allM l.length) (i : Int)) = if betO l (ordM l (rdL (allM l.length) (i : Int))).1 s = true then some (ordM l (rdL (allM l.length) (i : Int))).1 else s := by rw [bestStep_chg, chg, if_neg hsh, if_pos hok]
          rw [hok] at hord
          replace hfit := hfit hok
          rw [hst] at hnext hb'
          generalize (ordM l (rdL (allM l.length) (i : Int))).1 = ts at *
          cases s with
          | none =>
            rw [show betO l ts none = true from rfl, if_pos rfl] at hnext hb'
            refine Run.loop ?_
            repeat' (conv => arg 4; whnf); first | refine Run.ret ⟨?_, rfl⟩ | refine Run.condT ?_ | refine Run.condf ?_ | refine Run.condD (fun h => ?_) (fun h => ?_) | refine Run.condN (fun h => ?_) (fun h => ?_) | refine Run.condE (fun h => ?_) (fun h => ?_) | refine Run.condF (fun h => ?_) (fun h => ?_) | refine Run.condM (fun h => ?_) (fun h => ?_) | refine Run.condB (fun h => ?_) (fun h => ?_) | refine Run.check1 ?_ | (exfalso; omega) | refine Run.need1 (by simp only [allP, true_and, and_true]; omega) ?_ | refine Run.call (hshift) rfl ?_ | refine Run.call (hord) rfl ?_ | refine Run.round ⟨[(.t 39 0, .t 1000 0)], [], []⟩ (ih (i + 1) _ _ e.h (by omega) hnext hb') rfl (by (repeat' (first | exact wkEnv_nil | refine wkEnv_cons rfl ?_ | exact wkSto_nil | refine wkSto_none ?_ | refine wkSto_some rfl ?_)); done) (by (repeat' (first | exact wkEnv_nil | refine wkEnv_cons rfl ?_ | exact wkSto_nil | refine wkSto_none ?_ | refine wkSto_some rfl ?_)); done)
            all_goals first | (exfalso; omega) | trace_state
          | some b =>
            have hbb := better_ok l ts b hfit (hb b rfl)
            cases hbt : better l ts b with
            | true =>
              rw [show betO l ts (some b) = true from hbt, if_pos rfl] at hnext hb'
              rw [hbt] at hbb
              refine Run.loop ?_
              repeat' (conv => arg 4; whnf); first | refine Run.ret ⟨?_, rfl⟩ | refine Run.condT ?_ | refine Run.condf ?_ | refine Run.condD (fun h => ?_) (fun h => ?_) | refine Run.condN (fun h => ?_) (fun h => ?_) | refine Run.condE (fun h => ?_) (fun h => ?_) | refine Run.condF (fun h => ?_) (fun h => ?_) | refine Run.condM (fun h => ?_) (fun h => ?_) | refine Run.condB (fun h => ?_) (fun h => ?_) | refine Run.check1 ?_ | (exfalso; omega) | refine Run.need1 (by simp only [allP, true_and, and_true]; omega) ?_ | refine Run.call (hshift) rfl ?_ | refine Run.call (hord) rfl ?_ | refine Run.call (hbb) rfl ?_ | refine Run.round ⟨[(.t 39 0, .t 1000 0)], [], []⟩ (ih (i + 1) _ _ e.h (by omega) hnext hb') rfl (by (repeat' (first | exact wkEnv_nil | refine wkEnv_cons rfl ?_ | exact wkSto_nil | refine wkSto_none ?_ | refine wkSto_some rfl ?_)); done) (by (repeat' (first | exact wkEnv_nil | refine wkEnv_cons rfl ?_ | exact wkSto_nil | refine wkSto_none ?_ | refine wkSto_some rfl ?_)); done)
              all_goals first | (exfalso; omega) | trace_state
            | false =>
              rw [show betO l ts (some b) = false from hbt, if_neg Bool.false_ne_true] at hnext hb'
              rw [hbt] at hbb
              refine Run.loop ?_
              repeat' (conv => arg 4; whnf); first | refine Run.ret ⟨?_, rfl⟩ | refine Run.condT ?_ | refine Run.condf ?_ | refine Run.condD (fun h => ?_) (fun h => ?_) | refine Run.condN (fun h => ?_) (fun h => ?_) | refine Run.condE (fun h => ?_) (fun h => ?_) | refine Run.condF (fun h => ?_) (fun h => ?_) | refine Run.condM (fun h => ?_) (fun h => ?_) | refine Run.condB (fun h => ?_) (fun h => ?_) | refine Run.check1 ?_ | (exfalso; omega) | refine Run.need1 (by simp only [allP, true_and, and_true]; omega) ?_ | refine Run.call (hshift) rfl ?_ | refine Run.call (hord) rfl ?_ | refine Run.call (hbb) rfl ?_ | refine Run.round ⟨[(.t 1000 0, .t 1000 0)], [], []⟩ (ih (i + 1) _ _ e.h (by omega) hnext hb') rfl (by (repeat' (first | exact wkEnv_nil | refine wkEnv_cons rfl ?_ | exact wkSto_nil | refine wkSto_none ?_ | refine wkSto_some rfl ?_)); done) (by (repeat' (first | exact wkEnv_nil | refine wkEnv_cons rfl ?_ | exact wkSto_nil | refine wkSto_none ?_ | refine wkSto_some rfl ?_)); done)
              all_goals first | (exfalso; omega) | trace_state
  repeat' (conv => arg 4; whnf); first | refine Run.ret ⟨?_, rfl⟩ | refine Run.condT ?_ | refine Run.condf ?_ | refine Run.condD (fun h => ?_) (fun h => ?_) | refine Run.condN (fun h => ?_) (fun h => ?_) | refine Run.condE (fun h => ?_) (fun h => ?_) | refine Run.condF (fun h => ?_) (fun h => ?_) | refine Run.condM (fun h => ?_) (fun h => ?_) | refine Run.condB (fun h => ?_) (fun h => ?_) | refine Run.check1 ?_ | refine Run.call (sfirst_ok l (by omega)) rfl ?_ | refine Run.call (alls_ok _ (by omega)) rfl ?_ | refine Run.round ⟨[(.t 13 0, .t 1000 0)], [], [.t 15 0, .t 18 0]⟩ (loop (allM l.length).length 0 _ none rfl (by omega) rfl (fun t h => by cases h)) rfl (by (repeat' (first | exact wkEnv_nil | refine wkEnv_cons rfl ?_ | exact wkSto_nil | refine wkSto_none ?_ | refine wkSto_some rfl ?_)); done) (by (repeat' (first | exact wkEnv_nil | refine wkEnv_cons rfl ?_ | exact wkSto_nil | refine wkSto_none ?_ | refine wkSto_some rfl ?_)); done)
  all_goals first | (exfalso; omega) | trace_state
theorem sbest_ok (l : List Mv) (sh : Int) : Ok P 28 [.one (.lst .mv l false), .one (.int .i64 sh)] [] (.tup [.one (.own (.k 0)), .one (.bool (bestF l sh).2)]) [some (.row (.int .i64) (bestF l sh).1)] := by
  refine Ok.of_run (F := mk Try.f28 0) Try.func28 rfl rfl tabOk mixed rfl rfl rfl rfl rfl (Nat.le_of_ble_eq_true rfl) (Nat.le_of_ble_eq_true rfl) (.go 5000 ?_)
  by_cases hc : MovesOk l ∧ 0 ≤ sh ∧ sh ≤ 6
  · rw [show bestF l sh = bestM l sh from if_pos hc]
    obtain ⟨hm, hs1, hs2⟩ := hc
    have hmo := smovesOk_ok l
    rw [decide_eq_true hm] at hmo
    have hin := sin_ok sh 0 6
    rw [decide_eq_true ⟨hs1, hs2⟩] at hin
    repeat' (conv => arg 4; whnf); first | refine Run.ret ⟨?_, rfl⟩ | refine Run.condT ?_ | refine Run.condf ?_ | refine Run.condD (fun h => ?_) (fun h => ?_) | refine Run.condN (fun h => ?_) (fun h => ?_) | refine Run.condE (fun h => ?_) (fun h => ?_) | refine Run.condF (fun h => ?_) (fun h => ?_) | refine Run.condM (fun h => ?_) (fun h => ?_) | refine Run.condB (fun h => ?_) (fun h => ?_) | refine Run.check1 ?_ | refine Run.call (hmo) rfl ?_ | refine Run.call (hin) rfl ?_ | refine Run.call (sb_ok l sh hm) rfl ?_
    all_goals first | rfl | trace_state
  · rw [show bestF l sh = ([], false) from if_neg hc]
    repeat' (conv => arg 4; whnf); first | refine Run.ret ⟨?_, rfl⟩ | refine Run.condT ?_ | refine Run.condf ?_ | refine Run.condD (fun h => ?_) (fun h => ?_) | refine Run.condN (fun h => ?_) (fun h => ?_) | refine Run.condE (fun h => ?_) (fun h => ?_) | refine Run.condF (fun h => ?_) (fun h => ?_) | refine Run.condM (fun h => ?_) (fun h => ?_) | refine Run.condB (fun h => ?_) (fun h => ?_) | refine Run.check1 ?_ | refine Run.call (smovesOk_ok _) rfl ?_ | refine Run.call (sin_ok _ _ _) rfl ?_ | (exfalso; exact hc ⟨‹MovesOk l›, ‹0 ≤ sh ∧ sh ≤ 6›⟩)
    all_goals first | rfl | trace_state
end Go.Proofs.Ytmppoajepbbmiaa.AM

/- The exact laws' helpers; condition: sizes. -/
namespace Go.Proofs.Ytmppoajepbbmiaa.AM
open Go.AM Go.RowKit
set_option linter.unusedVariables false
set_option linter.unusedSimpArgs false
set_option maxRecDepth 100000

theorem toInts_ok (t : List Int) (ht : t.length ≤ 1048576) : Ok P 77 [.one (.lst (.int .i64) t false)] [] (.one (.own (.k 0))) [some (.row (.int .i64) t)] := by
  refine Ok.of_run (F := mk Try.f77 0) Try.func77 rfl rfl tabOk mixed rfl rfl rfl rfl rfl (Nat.le_of_ble_eq_true rfl) (Nat.le_of_ble_eq_true rfl) (.go 5000 ?_)
  have loop : ∀ (d i : Nat) (z : Int) (s : List Int), z = i → i + d = t.length → Cp 0 t s i → Run P (mk Try.f77 0) (fun v st => v = .one (.own (.k 0)) ∧ st = [some (.row (.int .i64) t)]) (.loop ⟨[(0, .one (.lst (.int .i64) t false)), (3, .one (.own (.t 7 0))), (4, .one (.int .i64 z))], [(.t 7 0, some (.row (.int .i64) s))], [.lp [0, 1, 0, 1, 1], .blk 0, .code [1, 1, 1]], none⟩) := by
    intro d
    induction d with
    | zero =>
      intro i z s hz hd hc
      subst hz
      obtain rfl := cp_end hc (by omega)
      refine Run.loop ?_
      repeat' (conv => arg 4; whnf); first | refine Run.ret ⟨?_, rfl⟩ | refine Run.condT ?_ | refine Run.condf ?_ | refine Run.condD (fun h => ?_) (fun h => ?_) | refine Run.condN (fun h => ?_) (fun h => ?_) | refine Run.condE (fun h => ?_) (fun h => ?_) | refine Run.condF (fun h => ?_) (fun h => ?_) | refine Run.condM (fun h => ?_) (fun h => ?_) | refine Run.condB (fun h => ?_) (fun h => ?_) | refine Run.check1 ?_ | (exfalso; omega)
      all_goals first | rfl | (exfalso; omega)
    | succ d ih =>
      intro i z s hz hd hc
      subst hz
      have e : wrap64 ((i : Int) + 1) = ((i + 1 : Nat) : Int) := wrap_eq (by omega) (by omega)
      have hl := hc.1
      have hs := cp_step hc (i := i) (by omega)
      refine Run.loop ?_
      repeat' (conv => arg 4; whnf); first | refine Run.ret ⟨?_, rfl⟩ | refine Run.condT ?_ | refine Run.condf ?_ | refine Run.condD (fun h => ?_) (fun h => ?_) | refine Run.condN (fun h => ?_) (fun h => ?_) | refine Run.condE (fun h => ?_) (fun h => ?_) | refine Run.condF (fun h => ?_) (fun h => ?_) | refine Run.condM (fun h => ?_) (fun h => ?_) | refine Run.condB (fun h => ?_) (fun h => ?_) | refine Run.check1 ?_ | refine Run.need1 (by simp only [allP, true_and, and_true]; omega) ?_ | refine Run.round ⟨[(.t 7 0, .t 7 0)], [], []⟩ (ih (i + 1) _ _ e (by omega) ?_) rfl (by (repeat' (first | exact wkEnv_nil | refine wkEnv_cons rfl ?_ | exact wkSto_nil | refine wkSto_none ?_ | refine wkSto_some rfl ?_)); done) (by (repeat' (first | exact wkEnv_nil | refine wkEnv_cons rfl ?_ | exact wkSto_nil | refine wkSto_none ?_ | refine wkSto_some rfl ?_)); done) | (exfalso; omega)
      all_goals first
        | (exfalso; omega)
        | (simpa [rd] using hs)
        | trace_state
  repeat' (conv => arg 4; whnf); first | refine Run.ret ⟨?_, rfl⟩ | refine Run.condT ?_ | refine Run.condf ?_ | refine Run.condD (fun h => ?_) (fun h => ?_) | refine Run.condN (fun h => ?_) (fun h => ?_) | refine Run.condE (fun h => ?_) (fun h => ?_) | refine Run.condF (fun h => ?_) (fun h => ?_) | refine Run.condM (fun h => ?_) (fun h => ?_) | refine Run.condB (fun h => ?_) (fun h => ?_) | refine Run.check1 ?_ | refine Run.need1 (by simp only [allP, true_and, and_true]; omega) ?_ | refine Run.round ⟨[(.t 7 0, .t 7 0)], [], []⟩ (loop t.length 0 _ _ rfl ?_ ?_) rfl (by (repeat' (first | exact wkEnv_nil | refine wkEnv_cons rfl ?_ | exact wkSto_nil | refine wkSto_none ?_ | refine wkSto_some rfl ?_)); done) (by (repeat' (first | exact wkEnv_nil | refine wkEnv_cons rfl ?_ | exact wkSto_nil | refine wkSto_none ?_ | refine wkSto_some rfl ?_)); done)
  all_goals first
    | omega
    | exact ⟨by simp, fun j hj => absurd hj (by omega)⟩
    | trace_state
theorem toMove_ok (m : Mv) : Ok P 50 [.agg (encMv m)] [] (.agg (encMv m)) [] := by
  refine Ok.of_run (F := mk Try.f50 0) Try.func50 rfl rfl tabOk mixed rfl rfl rfl rfl rfl (Nat.le_of_ble_eq_true rfl) (Nat.le_of_ble_eq_true rfl) (.go 5000 ?_)
  repeat' (conv => arg 4; whnf); first | refine Run.ret ⟨?_, rfl⟩ | refine Run.condT ?_ | refine Run.condf ?_ | refine Run.condD (fun h => ?_) (fun h => ?_) | refine Run.condN (fun h => ?_) (fun h => ?_) | refine Run.condE (fun h => ?_) (fun h => ?_) | refine Run.condF (fun h => ?_) (fun h => ?_) | refine Run.condM (fun h => ?_) (fun h => ?_) | refine Run.condB (fun h => ?_) (fun h => ?_) | refine Run.check1 ?_
  rfl
theorem toMoves_ok (t : List Mv) (ht : t.length ≤ 1048576) : Ok P 13 [.one (.lst .mv t false)] [] (.one (.own (.k 0))) [some (.row .mv t)] := by
  refine Ok.of_run (F := mk Try.f13 0) Try.func13 rfl rfl tabOk mixed rfl rfl rfl rfl rfl (Nat.le_of_ble_eq_true rfl) (Nat.le_of_ble_eq_true rfl) (.go 5000 ?_)
  have loop : ∀ (d i : Nat) (z : Int) (s : List Mv), z = i → i + d = t.length → Cp Mv.z t s i → Run P (mk Try.f13 0) (fun v st => v = .one (.own (.k 0)) ∧ st = [some (.row .mv t)]) (.loop ⟨[(0, .one (.lst .mv t false)), (3, .one (.own (.t 7 0))), (4, .one (.int .i64 z))], [(.t 7 0, some (.row .mv s))], [.lp [0, 1, 0, 1, 1], .blk 0, .code [1, 1, 1]], none⟩) := by
    intro d
    induction d with
    | zero =>
      intro i z s hz hd hc
      subst hz
      obtain rfl := cp_end hc (by omega)
      refine Run.loop ?_
      repeat' (conv => arg 4; whnf); first | refine Run.ret ⟨?_, rfl⟩ | refine Run.condT ?_ | refine Run.condf ?_ | refine Run.condD (fun h => ?_) (fun h => ?_) | refine Run.condN (fun h => ?_) (fun h => ?_) | refine Run.condE (fun h => ?_) (fun h => ?_) | refine Run.condF (fun h => ?_) (fun h => ?_) | refine Run.condM (fun h => ?_) (fun h => ?_) | refine Run.condB (fun h => ?_) (fun h => ?_) | refine Run.check1 ?_ | (exfalso; omega)
      all_goals first | rfl | (exfalso; omega)
    | succ d ih =>
      intro i z s hz hd hc
      subst hz
      have e : wrap64 ((i : Int) + 1) = ((i + 1 : Nat) : Int) := wrap_eq (by omega) (by omega)
      have hl := hc.1
      have hs := cp_step hc (i := i) (by omega)
      refine Run.loop ?_
      repeat' (conv => arg 4; whnf); first | refine Run.ret ⟨?_, rfl⟩ | refine Run.condT ?_ | refine Run.condf ?_ | refine Run.condD (fun h => ?_) (fun h => ?_) | refine Run.condN (fun h => ?_) (fun h => ?_) | refine Run.condE (fun h => ?_) (fun h => ?_) | refine Run.condF (fun h => ?_) (fun h => ?_) | refine Run.condM (fun h => ?_) (fun h => ?_) | refine Run.condB (fun h => ?_) (fun h => ?_) | refine Run.check1 ?_ | refine Run.call (toMove_ok _) rfl ?_ | refine Run.need1 (by simp only [allP, true_and, and_true]; omega) ?_ | refine Run.round ⟨[(.t 7 0, .t 7 0)], [], []⟩ (ih (i + 1) _ _ e (by omega) ?_) rfl (by (repeat' (first | exact wkEnv_nil | refine wkEnv_cons rfl ?_ | exact wkSto_nil | refine wkSto_none ?_ | refine wkSto_some rfl ?_)); done) (by (repeat' (first | exact wkEnv_nil | refine wkEnv_cons rfl ?_ | exact wkSto_nil | refine wkSto_none ?_ | refine wkSto_some rfl ?_)); done) | (exfalso; omega)
      all_goals first
        | (exfalso; omega)
        | (simpa [rdM] using hs)
        | trace_state
  repeat' (conv => arg 4; whnf); first | refine Run.ret ⟨?_, rfl⟩ | refine Run.condT ?_ | refine Run.condf ?_ | refine Run.condD (fun h => ?_) (fun h => ?_) | refine Run.condN (fun h => ?_) (fun h => ?_) | refine Run.condE (fun h => ?_) (fun h => ?_) | refine Run.condF (fun h => ?_) (fun h => ?_) | refine Run.condM (fun h => ?_) (fun h => ?_) | refine Run.condB (fun h => ?_) (fun h => ?_) | refine Run.check1 ?_ | refine Run.need1 (by simp only [allP, true_and, and_true]; omega) ?_ | refine Run.round ⟨[(.t 7 0, .t 7 0)], [], []⟩ (loop t.length 0 _ _ rfl ?_ ?_) rfl (by (repeat' (first | exact wkEnv_nil | refine wkEnv_cons rfl ?_ | exact wkSto_nil | refine wkSto_none ?_ | refine wkSto_some rfl ?_)); done) (by (repeat' (first | exact wkEnv_nil | refine wkEnv_cons rfl ?_ | exact wkSto_nil | refine wkSto_none ?_ | refine wkSto_some rfl ?_)); done)
  all_goals first
    | omega
    | exact ⟨by simp, fun j hj => absurd hj (by omega)⟩
    | trace_state
theorem szMove_ok (m : Mv) (left : Int) (h : 0 ≤ left ∧ left ≤ 1048576) (hm : m.f0.size ≤ maxLen) : Ok P 48 [.agg (encMv m), .one (.int .i64 left)] [] (.one (.int .i64 (szM m left))) [] := by
  refine Ok.of_run (F := mk Try.f48 0) Try.func48 rfl rfl tabOk mixed rfl rfl rfl rfl rfl (Nat.le_of_ble_eq_true rfl) (Nat.le_of_ble_eq_true rfl) (.go 5000 ?_)
  have e : wrap64 (left - m.f0.size) = left - m.f0.size := wrap_eq (by unfold maxLen at hm; omega) (by omega)
  repeat' (conv => arg 4; whnf); first | refine Run.ret ⟨?_, rfl⟩ | refine Run.condT ?_ | refine Run.condf ?_ | refine Run.condD (fun h => ?_) (fun h => ?_) | refine Run.condN (fun h => ?_) (fun h => ?_) | refine Run.condE (fun h => ?_) (fun h => ?_) | refine Run.condF (fun h => ?_) (fun h => ?_) | refine Run.condM (fun h => ?_) (fun h => ?_) | refine Run.condB (fun h => ?_) (fun h => ?_) | refine Run.check1 ?_
  all_goals (refine vi ?_; unfold szM; rw [e] at *; first | rw [if_pos ‹_›] | rw [if_neg ‹_›])
theorem szMoves_ok (l : List Mv) (left : Int) (h : 0 ≤ left ∧ left ≤ 1048576) (hl : l.length ≤ maxLen) (hm : ∀ i, i < l.length → (at' l i).f0.size ≤ maxLen) : Ok P 11 [.one (.lst .mv l false), .one (.int .i64 left)] [] (.one (.int .i64 (szMs l left))) [] := by
  refine Ok.of_run (F := mk Try.f11 0) Try.func11 rfl rfl tabOk mixed rfl rfl rfl rfl rfl (Nat.le_of_ble_eq_true rfl) (Nat.le_of_ble_eq_true rfl) (.go 5000 ?_)
  have e0 : wrap64 (left - l.length) = left - l.length := wrap_eq (by unfold maxLen at hl; omega) (by omega)
  have loop : ∀ (d i : Nat) (z s : Int), z = i → i + d = l.length → l.length ≤ 1048576 → 0 ≤ s ∧ s ≤ 1048576 → szFrom l d i s = szMs l left → Run P (mk Try.f11 0) (fun v st => v = .one (.int .i64 (szMs l left)) ∧ st = []) (.loop ⟨[(0, .one (.lst .mv l false)), (1, .one (.int .i64 s)), (5, .one (.int .i64 z))], [], [.lp [0, 1, 0, 1, 1, 1], .blk 0, .code [1, 1, 1, 1]], none⟩) := by
    intro d
    induction d with
    | zero =>
      intro i z s hz hd hb hs he
      subst hz
      refine Run.loop ?_
      repeat' (conv => arg 4; whnf); first | refine Run.ret ⟨?_, rfl⟩ | refine Run.condT ?_ | refine Run.condf ?_ | refine Run.condD (fun h => ?_) (fun h => ?_) | refine Run.condN (fun h => ?_) (fun h => ?_) | refine Run.condE (fun h => ?_) (fun h => ?_) | refine Run.condF (fun h => ?_) (fun h => ?_) | refine Run.condM (fun h => ?_) (fun h => ?_) | refine Run.condB (fun h => ?_) (fun h => ?_) | refine Run.check1 ?_ | (exfalso; omega)
      all_goals first | (rw [← he]; rfl) | (exfalso; omega)
    | succ d ih =>
      intro i z s hz hd hb hs he
      subst hz
      have e : wrap64 ((i : Int) + 1) = ((i + 1 : Nat) : Int) := wrap_eq (by omega) (by omega)
      have hle := szM_le (m := at' l i) hs.1
      refine Run.loop ?_
      repeat' (conv => arg 4; whnf); first | refine Run.ret ⟨?_, rfl⟩ | refine Run.condT ?_ | refine Run.condf ?_ | refine Run.condD (fun h => ?_) (fun h => ?_) | refine Run.condN (fun h => ?_) (fun h => ?_) | refine Run.condE (fun h => ?_) (fun h => ?_) | refine Run.condF (fun h => ?_) (fun h => ?_) | refine Run.condM (fun h => ?_) (fun h => ?_) | refine Run.condB (fun h => ?_) (fun h => ?_) | refine Run.check1 ?_ | refine Run.call (szMove_ok _ _ hs (by rw [rdM_nat]; exact hm i (by omega))) rfl ?_ | refine Run.need1 (by simp only [allP, true_and, and_true]; omega) ?_ | refine Run.round ⟨[], [], []⟩ (ih (i + 1) _ _ e (by omega) hb ?_ ?_) rfl (by (repeat' (first | exact wkEnv_nil | refine wkEnv_cons rfl ?_ | exact wkSto_nil | refine wkSto_none ?_ | refine wkSto_some rfl ?_)); done) (by (repeat' (first | exact wkEnv_nil | refine wkEnv_cons rfl ?_ | exact wkSto_nil | refine wkSto_none ?_ | refine wkSto_some rfl ?_)); done) | (exfalso; omega)
      all_goals (rw [szFrom] at he; try simp only [rdM_nat] at *)
      all_goals first
        | (exfalso; omega)
        | omega
        | (rw [if_pos ‹_›] at he; rw [he])
        | (rw [if_neg ‹_›] at he; exact he)
        | trace_state
  repeat' (conv => arg 4; whnf); first | refine Run.ret ⟨?_, rfl⟩ | refine Run.condT ?_ | refine Run.condf ?_ | refine Run.condD (fun h => ?_) (fun h => ?_) | refine Run.condN (fun h => ?_) (fun h => ?_) | refine Run.condE (fun h => ?_) (fun h => ?_) | refine Run.condF (fun h => ?_) (fun h => ?_) | refine Run.condM (fun h => ?_) (fun h => ?_) | refine Run.condB (fun h => ?_) (fun h => ?_) | refine Run.check1 ?_ | refine Run.round ⟨[], [], []⟩ (loop l.length 0 _ _ rfl ?_ ?_ ?_ ?_) rfl (by (repeat' (first | exact wkEnv_nil | refine wkEnv_cons rfl ?_ | exact wkSto_nil | refine wkSto_none ?_ | refine wkSto_some rfl ?_)); done) (by (repeat' (first | exact wkEnv_nil | refine wkEnv_cons rfl ?_ | exact wkSto_nil | refine wkSto_none ?_ | refine wkSto_some rfl ?_)); done)
  all_goals (simp only [e0] at *)
  all_goals try unfold szMs
  all_goals first
    | omega
    | (rw [if_pos ‹_›])
    | (rw [if_neg ‹_›])
    | trace_state
end Go.Proofs.Ytmppoajepbbmiaa.AM

/- The exact laws' helpers: equal things are found equal; books; condition: sizes. -/
namespace Go.Proofs.Ytmppoajepbbmiaa.AM
open Go.AM Go.RowKit
set_option linter.unusedVariables false
set_option linter.unusedSimpArgs false
set_option maxRecDepth 100000

theorem eqInts_ok (t : List Int) (ht : t.length ≤ 1048576) : Ok P 15 [.one (.lst (.int .i64) t false), .one (.lst (.int .i64) t false)] [] (.one (.bool true)) [] := by
  refine Ok.of_run (F := mk Try.f15 0) Try.func15 rfl rfl tabOk mixed rfl rfl rfl rfl rfl (Nat.le_of_ble_eq_true rfl) (Nat.le_of_ble_eq_true rfl) (.go 5000 ?_)
  have loop : ∀ (d i : Nat) (z : Int), z = i → i + d = t.length → Run P (mk Try.f15 0) (fun v st => v = .one (.bool true) ∧ st = []) (.loop ⟨[(0, .one (.lst (.int .i64) t false)), (1, .one (.lst (.int .i64) t false)), (5, .one (.int .i64 z))], [], [.lp [0, 1, 0, 1, 1], .blk 0, .code [1, 1, 1]], none⟩) := by
    intro d
    induction d with
    | zero =>
      intro i z hz hd
      subst hz
      refine Run.loop ?_
      repeat' (conv => arg 4; whnf); first | refine Run.ret ⟨?_, rfl⟩ | refine Run.condT ?_ | refine Run.condf ?_ | refine Run.condD (fun h => ?_) (fun h => ?_) | refine Run.condN (fun h => ?_) (fun h => ?_) | refine Run.condE (fun h => ?_) (fun h => ?_) | refine Run.condF (fun h => ?_) (fun h => ?_) | refine Run.condM (fun h => ?_) (fun h => ?_) | refine Run.condB (fun h => ?_) (fun h => ?_) | refine Run.check1 ?_ | (exfalso; omega)
      all_goals first | rfl | (exfalso; omega)
    | succ d ih =>
      intro i z hz hd
      subst hz
      have e : wrap64 ((i : Int) + 1) = ((i + 1 : Nat) : Int) := wrap_eq (by omega) (by omega)
      refine Run.loop ?_
      repeat' (conv => arg 4; whnf); first | refine Run.ret ⟨?_, rfl⟩ | refine Run.condT ?_ | refine Run.condf ?_ | refine Run.condD (fun h => ?_) (fun h => ?_) | refine Run.condN (fun h => ?_) (fun h => ?_) | refine Run.condE (fun h => ?_) (fun h => ?_) | refine Run.condF (fun h => ?_) (fun h => ?_) | refine Run.condM (fun h => ?_) (fun h => ?_) | refine Run.condB (fun h => ?_) (fun h => ?_) | refine Run.check1 ?_ | refine Run.need1 (by simp only [allP, true_and, and_true]; omega) ?_ | (exact absurd rfl ‹_ ≠ _›) | refine Run.round ⟨[], [], []⟩ (ih (i + 1) _ e (by omega)) rfl (by (repeat' (first | exact wkEnv_nil | refine wkEnv_cons rfl ?_ | exact wkSto_nil | refine wkSto_none ?_ | refine wkSto_some rfl ?_)); done) (by (repeat' (first | exact wkEnv_nil | refine wkEnv_cons rfl ?_ | exact wkSto_nil | refine wkSto_none ?_ | refine wkSto_some rfl ?_)); done) | (exfalso; omega)
      all_goals first | (exact absurd rfl ‹_ ≠ _›) | (exfalso; omega) | trace_state
  repeat' (conv => arg 4; whnf); first | refine Run.ret ⟨?_, rfl⟩ | refine Run.condT ?_ | refine Run.condf ?_ | refine Run.condD (fun h => ?_) (fun h => ?_) | refine Run.condN (fun h => ?_) (fun h => ?_) | refine Run.condE (fun h => ?_) (fun h => ?_) | refine Run.condF (fun h => ?_) (fun h => ?_) | refine Run.condM (fun h => ?_) (fun h => ?_) | refine Run.condB (fun h => ?_) (fun h => ?_) | refine Run.check1 ?_ | (exact absurd rfl ‹_ ≠ _›) | refine Run.round ⟨[], [], []⟩ (loop t.length 0 _ rfl (by omega)) rfl (by (repeat' (first | exact wkEnv_nil | refine wkEnv_cons rfl ?_ | exact wkSto_nil | refine wkSto_none ?_ | refine wkSto_some rfl ?_)); done) (by (repeat' (first | exact wkEnv_nil | refine wkEnv_cons rfl ?_ | exact wkSto_nil | refine wkSto_none ?_ | refine wkSto_some rfl ?_)); done)
  all_goals first | (exact absurd rfl ‹_ ≠ _›) | trace_state
theorem eqMove_ok (m : Mv) : Ok P 54 [.agg (encMv m), .agg (encMv m)] [] (.one (.bool true)) [] := by
  refine Ok.of_run (F := mk Try.f54 0) Try.func54 rfl rfl tabOk mixed rfl rfl rfl rfl rfl (Nat.le_of_ble_eq_true rfl) (Nat.le_of_ble_eq_true rfl) (.go 5000 ?_)
  repeat' (conv => arg 4; whnf); first | refine Run.ret ⟨?_, rfl⟩ | refine Run.condT ?_ | refine Run.condf ?_ | refine Run.condD (fun h => ?_) (fun h => ?_) | refine Run.condN (fun h => ?_) (fun h => ?_) | refine Run.condE (fun h => ?_) (fun h => ?_) | refine Run.condF (fun h => ?_) (fun h => ?_) | refine Run.condM (fun h => ?_) (fun h => ?_) | refine Run.condB (fun h => ?_) (fun h => ?_) | refine Run.check1 ?_
  all_goals first | rfl | (exact absurd rfl ‹_ ≠ _›) | (exfalso; have h := ‹_ = false›; simp at h; done) | trace_state
theorem eqMoves_ok (t : List Mv) (ht : t.length ≤ 1048576) : Ok P 16 [.one (.lst .mv t false), .one (.lst .mv t false)] [] (.one (.bool true)) [] := by
  refine Ok.of_run (F := mk Try.f16 0) Try.func16 rfl rfl tabOk mixed rfl rfl rfl rfl rfl (Nat.le_of_ble_eq_true rfl) (Nat.le_of_ble_eq_true rfl) (.go 5000 ?_)
  have loop : ∀ (d i : Nat) (z : Int), z = i → i + d = t.length → Run P (mk Try.f16 0) (fun v st => v = .one (.bool true) ∧ st = []) (.loop ⟨[(0, .one (.lst .mv t false)), (1, .one (.lst .mv t false)), (5, .one (.int .i64 z))], [], [.lp [0, 1, 0, 1, 1], .blk 0, .code [1, 1, 1]], none⟩) := by
    intro d
    induction d with
    | zero =>
      intro i z hz hd
      subst hz
      refine Run.loop ?_
      repeat' (conv => arg 4; whnf); first | refine Run.ret ⟨?_, rfl⟩ | refine Run.condT ?_ | refine Run.condf ?_ | refine Run.condD (fun h => ?_) (fun h => ?_) | refine Run.condN (fun h => ?_) (fun h => ?_) | refine Run.condE (fun h => ?_) (fun h => ?_) | refine Run.condF (fun h => ?_) (fun h => ?_) | refine Run.condM (fun h => ?_) (fun h => ?_) | refine Run.condB (fun h => ?_) (fun h => ?_) | refine Run.check1 ?_ | (exfalso; omega)
      all_goals first | rfl | (exfalso; omega)
    | succ d ih =>
      intro i z hz hd
      subst hz
      have e : wrap64 ((i : Int) + 1) = ((i + 1 : Nat) : Int) := wrap_eq (by omega) (by omega)
      refine Run.loop ?_
      repeat' (conv => arg 4; whnf); first | refine Run.ret ⟨?_, rfl⟩ | refine Run.condT ?_ | refine Run.condf ?_ | refine Run.condD (fun h => ?_) (fun h => ?_) | refine Run.condN (fun h => ?_) (fun h => ?_) | refine Run.condE (fun h => ?_) (fun h => ?_) | refine Run.condF (fun h => ?_) (fun h => ?_) | refine Run.condM (fun h => ?_) (fun h => ?_) | refine Run.condB (fun h => ?_) (fun h => ?_) | refine Run.check1 ?_ | refine Run.call (eqMove_ok _) rfl ?_ | refine Run.need1 (by simp only [allP, true_and, and_true]; omega) ?_ | refine Run.round ⟨[], [], []⟩ (ih (i + 1) _ e (by omega)) rfl (by (repeat' (first | exact wkEnv_nil | refine wkEnv_cons rfl ?_ | exact wkSto_nil | refine wkSto_none ?_ | refine wkSto_some rfl ?_)); done) (by (repeat' (first | exact wkEnv_nil | refine wkEnv_cons rfl ?_ | exact wkSto_nil | refine wkSto_none ?_ | refine wkSto_some rfl ?_)); done) | (exfalso; omega)
      all_goals first | (exfalso; omega) | trace_state
  repeat' (conv => arg 4; whnf); first | refine Run.ret ⟨?_, rfl⟩ | refine Run.condT ?_ | refine Run.condf ?_ | refine Run.condD (fun h => ?_) (fun h => ?_) | refine Run.condN (fun h => ?_) (fun h => ?_) | refine Run.condE (fun h => ?_) (fun h => ?_) | refine Run.condF (fun h => ?_) (fun h => ?_) | refine Run.condM (fun h => ?_) (fun h => ?_) | refine Run.condB (fun h => ?_) (fun h => ?_) | refine Run.check1 ?_ | (exact absurd rfl ‹_ ≠ _›) | refine Run.round ⟨[], [], []⟩ (loop t.length 0 _ rfl (by omega)) rfl (by (repeat' (first | exact wkEnv_nil | refine wkEnv_cons rfl ?_ | exact wkSto_nil | refine wkSto_none ?_ | refine wkSto_some rfl ?_)); done) (by (repeat' (first | exact wkEnv_nil | refine wkEnv_cons rfl ?_ | exact wkSto_nil | refine wkSto_none ?_ | refine wkSto_some rfl ?_)); done)
  all_goals first | (exact absurd rfl ‹_ ≠ _›) | trace_state
theorem szInts_ok (l : List Int) (left : Int) (h : 0 ≤ left ∧ left ≤ 1048576) (hl : l.length ≤ maxLen) : Ok P 75 [.one (.lst (.int .i64) l false), .one (.int .i64 left)] [] (.one (.int .i64 (szIs l left))) [] := by
  refine Ok.of_run (F := mk Try.f75 0) Try.func75 rfl rfl tabOk mixed rfl rfl rfl rfl rfl (Nat.le_of_ble_eq_true rfl) (Nat.le_of_ble_eq_true rfl) (.go 5000 ?_)
  have e : wrap64 (left - l.length) = left - l.length := wrap_eq (by unfold maxLen at hl; omega) (by omega)
  repeat' (conv => arg 4; whnf); first | refine Run.ret ⟨?_, rfl⟩ | refine Run.condT ?_ | refine Run.condf ?_ | refine Run.condD (fun h => ?_) (fun h => ?_) | refine Run.condN (fun h => ?_) (fun h => ?_) | refine Run.condE (fun h => ?_) (fun h => ?_) | refine Run.condF (fun h => ?_) (fun h => ?_) | refine Run.condM (fun h => ?_) (fun h => ?_) | refine Run.condB (fun h => ?_) (fun h => ?_) | refine Run.check1 ?_
  all_goals (refine vi ?_; unfold szIs; rw [e] at *; first | rw [if_pos ‹_›] | rw [if_neg ‹_›])
theorem szBook_ok (b : Bk) (left : Int) (h : 0 ≤ left ∧ left ≤ 1048576) (hl : b.ms.length ≤ maxLen) (hm : ∀ i, i < b.ms.length → (at' b.ms i).f0.size ≤ maxLen) (ht : b.ts.length ≤ maxLen) : Ok P 33 [b.lent, .one (.int .i64 left)] [] (.one (.int .i64 (szB b left))) [] := by
  refine Ok.of_run (F := mk Try.f33 0) Try.func33 rfl rfl tabOk mixed rfl rfl rfl rfl rfl (Nat.le_of_ble_eq_true rfl) (Nat.le_of_ble_eq_true rfl) (.go 5000 ?_)
  have hle := szMs_le (l := b.ms) h.1
  repeat' (conv => arg 4; whnf); first | refine Run.ret ⟨?_, rfl⟩ | refine Run.condT ?_ | refine Run.condf ?_ | refine Run.condD (fun h => ?_) (fun h => ?_) | refine Run.condN (fun h => ?_) (fun h => ?_) | refine Run.condE (fun h => ?_) (fun h => ?_) | refine Run.condF (fun h => ?_) (fun h => ?_) | refine Run.condM (fun h => ?_) (fun h => ?_) | refine Run.condB (fun h => ?_) (fun h => ?_) | refine Run.check1 ?_ | refine Run.call (szMoves_ok _ _ h hl hm) rfl ?_ | refine Run.call (szInts_ok _ _ (by omega) ht) rfl ?_
  all_goals (refine vi ?_; unfold szB; first | (rw [if_pos ‹_›]; done) | (rw [if_neg ‹_›, if_pos ‹_›]; done) | (rw [if_neg ‹_›, if_neg ‹_›]; done) | trace_state)
theorem toBook_ok (b : Bk) (hl : b.ms.length ≤ 1048576) (ht : b.ts.length ≤ 1048576) : Ok P 35 [b.lent] [] (b.own (.k 0) (.k 1)) [some (.row .mv b.ms), some (.row (.int .i64) b.ts)] := by
  refine Ok.of_run (F := mk Try.f35 0) Try.func35 rfl rfl tabOk mixed rfl rfl rfl rfl rfl (Nat.le_of_ble_eq_true rfl) (Nat.le_of_ble_eq_true rfl) (.go 5000 ?_)
  repeat' (conv => arg 4; whnf); first | refine Run.ret ⟨?_, rfl⟩ | refine Run.condT ?_ | refine Run.condf ?_ | refine Run.condD (fun h => ?_) (fun h => ?_) | refine Run.condN (fun h => ?_) (fun h => ?_) | refine Run.condE (fun h => ?_) (fun h => ?_) | refine Run.condF (fun h => ?_) (fun h => ?_) | refine Run.condM (fun h => ?_) (fun h => ?_) | refine Run.condB (fun h => ?_) (fun h => ?_) | refine Run.check1 ?_ | refine Run.call (toMoves_ok _ hl) rfl ?_ | refine Run.call (toInts_ok _ ht) rfl ?_
  all_goals first | rfl | trace_state
theorem eqBook_ok (b : Bk) (hl : b.ms.length ≤ 1048576) (ht : b.ts.length ≤ 1048576) : Ok P 37 [b.lent, b.lent] [] (.one (.bool true)) [] := by
  refine Ok.of_run (F := mk Try.f37 0) Try.func37 rfl rfl tabOk mixed rfl rfl rfl rfl rfl (Nat.le_of_ble_eq_true rfl) (Nat.le_of_ble_eq_true rfl) (.go 5000 ?_)
  repeat' (conv => arg 4; whnf); first | refine Run.ret ⟨?_, rfl⟩ | refine Run.condT ?_ | refine Run.condf ?_ | refine Run.condD (fun h => ?_) (fun h => ?_) | refine Run.condN (fun h => ?_) (fun h => ?_) | refine Run.condE (fun h => ?_) (fun h => ?_) | refine Run.condF (fun h => ?_) (fun h => ?_) | refine Run.condM (fun h => ?_) (fun h => ?_) | refine Run.condB (fun h => ?_) (fun h => ?_) | refine Run.check1 ?_ | (exact absurd rfl ‹_ ≠ _›) | refine Run.call (eqMoves_ok _ hl) rfl ?_ | refine Run.call (eqInts_ok _ ht) rfl ?_
  all_goals first | rfl | (exact absurd rfl ‹_ ≠ _›) | trace_state
end Go.Proofs.Ytmppoajepbbmiaa.AM

/- The exact laws' marks on numbers; condition: bounds. -/
namespace Go.Proofs.Ytmppoajepbbmiaa.AM
open Go.AM Go.RowKit
set_option linter.unusedVariables false
set_option linter.unusedSimpArgs false
set_option maxRecDepth 100000

def mkI (k : Int) (n : Nat) : List Int := (List.range n).map fun i : Nat => k + (i : Int)
theorem mkI_len (k : Int) (n : Nat) : (mkI k n).length = n := by simp [mkI]
theorem mkI_at (k : Int) (n : Nat) {i : Nat} (h : i < n) : (mkI k n).getD i 0 = k + i := by simp [mkI, List.getD_eq_getElem?_getD, h]
theorem markInts_ok (t : List Int) (k : Int) (ht : t.length ≤ 1048576) (hk : 0 ≤ k ∧ k ≤ 1000000000000) : Ok P 18 [.one (.own (.k 0)), .one (.int .i64 k)] [some (.row (.int .i64) t)] (.one (.int .i64 (k + t.length))) [some (.row (.int .i64) (mkI k t.length))] := by
  refine Ok.of_run (F := mk Try.f18 1) Try.func18 rfl rfl tabOk mixed rfl rfl rfl rfl rfl (Nat.le_of_ble_eq_true rfl) (Nat.le_of_ble_eq_true rfl) (.go 5000 ?_)
  have loop : ∀ (d i : Nat) (z y : Int) (s : List Int), z = i → y = k + i → i + d = t.length → Cp 0 (mkI k t.length) s i → Run P (mk Try.f18 1) (fun v st => v = .one (.int .i64 (k + t.length)) ∧ st = [some (.row (.int .i64) (mkI k t.length))]) (.loop ⟨[(0, .one (.own (.k 0))), (1, .one (.int .i64 y)), (5, .one (.int .i64 z))], [(.k 0, some (.row (.int .i64) s))], [.lp [0, 1, 0, 1], .blk 0, .code [1, 1]], none⟩) := by
    intro d
    induction d with
    | zero =>
      intro i z y s hz hy hd hc
      subst hz; subst hy
      have hl := hc.1
      rw [mkI_len] at hl
      obtain rfl := cp_end hc (by rw [mkI_len]; omega)
      refine Run.loop ?_
      repeat' (conv => arg 4; whnf); first | refine Run.ret ⟨?_, rfl⟩ | refine Run.condT ?_ | refine Run.condf ?_ | refine Run.condD (fun h => ?_) (fun h => ?_) | refine Run.condN (fun h => ?_) (fun h => ?_) | refine Run.condE (fun h => ?_) (fun h => ?_) | refine Run.condF (fun h => ?_) (fun h => ?_) | refine Run.condM (fun h => ?_) (fun h => ?_) | refine Run.condB (fun h => ?_) (fun h => ?_) | refine Run.check1 ?_ | (exfalso; omega)
      all_goals first | (exfalso; omega) | (refine vi ?_; omega) | trace_state
    | succ d ih =>
      intro i z y s hz hy hd hc
      subst hz; subst hy
      have e : wrap64 ((i : Int) + 1) = ((i + 1 : Nat) : Int) := wrap_eq (by omega) (by omega)
      have ek : wrap64 (k + i + 1) = k + ((i + 1 : Nat) : Int) := (wrap_eq (by omega) (by omega)).trans (by omega)
      have hl := hc.1
      rw [mkI_len] at hl
      have hs := cp_step hc (i := i) (by rw [mkI_len]; omega)
      rw [mkI_at _ _ (by omega)] at hs
      refine Run.loop ?_
      repeat' (conv => arg 4; whnf); first | refine Run.ret ⟨?_, rfl⟩ | refine Run.condT ?_ | refine Run.condf ?_ | refine Run.condD (fun h => ?_) (fun h => ?_) | refine Run.condN (fun h => ?_) (fun h => ?_) | refine Run.condE (fun h => ?_) (fun h => ?_) | refine Run.condF (fun h => ?_) (fun h => ?_) | refine Run.condM (fun h => ?_) (fun h => ?_) | refine Run.condB (fun h => ?_) (fun h => ?_) | refine Run.check1 ?_ | refine Run.need1 (by simp only [allP, true_and, and_true]; omega) ?_ | refine Run.round ⟨[], [], []⟩ (ih (i + 1) _ _ _ e ek (by omega) ?_) rfl (by (repeat' (first | exact wkEnv_nil | refine wkEnv_cons rfl ?_ | exact wkSto_nil | refine wkSto_none ?_ | refine wkSto_some rfl ?_)); done) (by (repeat' (first | exact wkEnv_nil | refine wkEnv_cons rfl ?_ | exact wkSto_nil | refine wkSto_none ?_ | refine wkSto_some rfl ?_)); done) | (exfalso; omega)
      all_goals first
        | (exfalso; omega)
        | (simpa using hs)
        | trace_state
  repeat' (conv => arg 4; whnf); first | refine Run.ret ⟨?_, rfl⟩ | refine Run.condT ?_ | refine Run.condf ?_ | refine Run.condD (fun h => ?_) (fun h => ?_) | refine Run.condN (fun h => ?_) (fun h => ?_) | refine Run.condE (fun h => ?_) (fun h => ?_) | refine Run.condF (fun h => ?_) (fun h => ?_) | refine Run.condM (fun h => ?_) (fun h => ?_) | refine Run.condB (fun h => ?_) (fun h => ?_) | refine Run.check1 ?_ | refine Run.round ⟨[], [], []⟩ (loop t.length 0 _ _ _ rfl ?_ ?_ ?_) rfl (by (repeat' (first | exact wkEnv_nil | refine wkEnv_cons rfl ?_ | exact wkSto_nil | refine wkSto_none ?_ | refine wkSto_some rfl ?_)); done) (by (repeat' (first | exact wkEnv_nil | refine wkEnv_cons rfl ?_ | exact wkSto_nil | refine wkSto_none ?_ | refine wkSto_some rfl ?_)); done)
  all_goals first
    | omega
    | exact ⟨by rw [mkI_len], fun j hj => absurd hj (by omega)⟩
    | trace_state
theorem heldInts_ok (n : Nat) (k : Int) (hn : n ≤ 1048576) (hk : 0 ≤ k ∧ k ≤ 1000000000000) : Ok P 19 [.one (.lst (.int .i64) (mkI k n) false), .one (.int .i64 k)] [] (.one (.int .i64 (k + n))) [] := by
  refine Ok.of_run (F := mk Try.f19 0) Try.func19 rfl rfl tabOk mixed rfl rfl rfl rfl rfl (Nat.le_of_ble_eq_true rfl) (Nat.le_of_ble_eq_true rfl) (.go 5000 ?_)
  have hlen := mkI_len k n
  have loop : ∀ (d i : Nat) (z y : Int), z = i → y = k + i → i + d = n → Run P (mk Try.f19 0) (fun v st => v = .one (.int .i64 (k + n)) ∧ st = []) (.loop ⟨[(0, .one (.lst (.int .i64) (mkI k n) false)), (1, .one (.int .i64 y)), (5, .one (.int .i64 z))], [], [.lp [0, 1, 0, 1], .blk 0, .code [1, 1]], none⟩) := by
    intro d
    induction d with
    | zero =>
      intro i z y hz hy hd
      subst hz; subst hy
      refine Run.loop ?_
      repeat' (conv => arg 4; whnf); first | refine Run.ret ⟨?_, rfl⟩ | refine Run.condT ?_ | refine Run.condf ?_ | refine Run.condD (fun h => ?_) (fun h => ?_) | refine Run.condN (fun h => ?_) (fun h => ?_) | refine Run.condE (fun h => ?_) (fun h => ?_) | refine Run.condF (fun h => ?_) (fun h => ?_) | refine Run.condM (fun h => ?_) (fun h => ?_) | refine Run.condB (fun h => ?_) (fun h => ?_) | refine Run.check1 ?_ | (exfalso; omega)
      all_goals first | (exfalso; omega) | (refine vi ?_; omega) | trace_state
    | succ d ih =>
      intro i z y hz hy hd
      subst hz; subst hy
      have e : wrap64 ((i : Int) + 1) = ((i + 1 : Nat) : Int) := wrap_eq (by omega) (by omega)
      have ek : wrap64 (k + i + 1) = k + ((i + 1 : Nat) : Int) := (wrap_eq (by omega) (by omega)).trans (by omega)
      have ea : rd (mkI k n) i = k + i := by rw [rd_nat]; exact mkI_at k n (by omega)
      refine Run.loop ?_
      repeat' (conv => arg 4; whnf); first | refine Run.ret ⟨?_, rfl⟩ | refine Run.condT ?_ | refine Run.condf ?_ | refine Run.condD (fun h => ?_) (fun h => ?_) | refine Run.condN (fun h => ?_) (fun h => ?_) | refine Run.condE (fun h => ?_) (fun h => ?_) | refine Run.condF (fun h => ?_) (fun h => ?_) | refine Run.condM (fun h => ?_) (fun h => ?_) | refine Run.condB (fun h => ?_) (fun h => ?_) | refine Run.check1 ?_ | refine Run.need1 (by simp only [allP, true_and, and_true]; omega) ?_ | refine Run.round ⟨[], [], []⟩ (ih (i + 1) _ _ e ek (by omega)) rfl (by (repeat' (first | exact wkEnv_nil | refine wkEnv_cons rfl ?_ | exact wkSto_nil | refine wkSto_none ?_ | refine wkSto_some rfl ?_)); done) (by (repeat' (first | exact wkEnv_nil | refine wkEnv_cons rfl ?_ | exact wkSto_nil | refine wkSto_none ?_ | refine wkSto_some rfl ?_)); done) | contradiction | (exfalso; omega)
      all_goals first
        | (exfalso; omega)
        | contradiction
        | trace_state
  repeat' (conv => arg 4; whnf); first | refine Run.ret ⟨?_, rfl⟩ | refine Run.condT ?_ | refine Run.condf ?_ | refine Run.condD (fun h => ?_) (fun h => ?_) | refine Run.condN (fun h => ?_) (fun h => ?_) | refine Run.condE (fun h => ?_) (fun h => ?_) | refine Run.condF (fun h => ?_) (fun h => ?_) | refine Run.condM (fun h => ?_) (fun h => ?_) | refine Run.condB (fun h => ?_) (fun h => ?_) | refine Run.check1 ?_ | refine Run.round ⟨[], [], []⟩ (loop n 0 _ _ rfl ?_ ?_) rfl (by (repeat' (first | exact wkEnv_nil | refine wkEnv_cons rfl ?_ | exact wkSto_nil | refine wkSto_none ?_ | refine wkSto_some rfl ?_)); done) (by (repeat' (first | exact wkEnv_nil | refine wkEnv_cons rfl ?_ | exact wkSto_nil | refine wkSto_none ?_ | refine wkSto_some rfl ?_)); done)
  all_goals first
    | omega
    | trace_state
theorem ofBytes_size (xs : List Int) : (ofBytes xs).size = xs.length := by simp [ofBytes, ByteArray.size]
theorem markText_ex (k : Int) (hk : k ≤ 1000000000000) : ∃ s, Ok P 55 [.one (.int .i64 k)] [] (.one (.str s)) [] := by
  by_cases h0 : k ≤ 0
  · refine ⟨⟨#[109, 48]⟩, ?_⟩
    refine Ok.of_run (F := mk Try.f55 0) Try.func55 rfl rfl tabOk mixed rfl rfl rfl rfl rfl (Nat.le_of_ble_eq_true rfl) (Nat.le_of_ble_eq_true rfl) (.go 5000 ?_)
    repeat' (conv => arg 4; whnf); first | refine Run.ret ⟨?_, rfl⟩ | refine Run.condT ?_ | refine Run.condf ?_ | refine Run.condD (fun h => ?_) (fun h => ?_) | refine Run.condN (fun h => ?_) (fun h => ?_) | refine Run.condE (fun h => ?_) (fun h => ?_) | refine Run.condF (fun h => ?_) (fun h => ?_) | refine Run.condM (fun h => ?_) (fun h => ?_) | refine Run.condB (fun h => ?_) (fun h => ?_) | refine Run.check1 ?_ | (exfalso; omega)
    all_goals rfl
  · have loop : ∀ (d : Nat) (y : Int) (out : ByteArray), 0 ≤ y → y ≤ 1000000000000 → y < 10 ^ d → out.size + d ≤ 40 → ∃ s, Run P (mk Try.f55 0) (fun v st => v = .one (.str s) ∧ st = []) (.loop ⟨[(0, .one (.int .i64 y)), (3, .one (.str out))], [], [.lp [0, 0, 1, 1, 1], .blk 0, .code [1, 1, 1, 1]], none⟩) := by
      intro d
      induction d with
      | zero =>
        intro y out h1 hm h2 h3
        have hy : ¬ 0 < y := by simp at h2; omega
        refine ⟨⟨#[109]⟩ ++ out, Run.loop ?_⟩
        have hs : (⟨#[109]⟩ : ByteArray).size = 1 := rfl
        repeat' (conv => arg 4; whnf); first | refine Run.ret ⟨?_, rfl⟩ | refine Run.condT ?_ | refine Run.condf ?_ | refine Run.condD (fun h => ?_) (fun h => ?_) | refine Run.condN (fun h => ?_) (fun h => ?_) | refine Run.condE (fun h => ?_) (fun h => ?_) | refine Run.condF (fun h => ?_) (fun h => ?_) | refine Run.condM (fun h => ?_) (fun h => ?_) | refine Run.condB (fun h => ?_) (fun h => ?_) | refine Run.check1 ?_ | (exact absurd ‹0 < y› hy) | refine Run.need1 (by simp only [allP, true_and, and_true, hs]; omega) ?_
        all_goals first | rfl | (exact absurd ‹0 < y› hy) | trace_state
      | succ d ih =>
        intro y out h1 hm h2 h3
        by_cases hy : 0 < y
        · have hq : y.tdiv 10 = y / 10 := Int.tdiv_eq_ediv_of_nonneg h1
          have hlt : y / 10 < 10 ^ d := by
            rw [Int.pow_succ] at h2
            omega
          have e : wrap64 (y.tdiv 10) = y.tdiv 10 := by rw [hq]; exact wrap_eq (by omega) (by omega)
          obtain ⟨s, hs⟩ := ih (wrap64 (y.tdiv 10)) (ofBytes [IntKind.u8.wrap (wrap64 (48 + y.tmod 10))] ++ out) (by rw [e, hq]; omega) (by rw [e, hq]; omega) (by rw [e, hq]; exact hlt) (by rw [ByteArray.size_append, ofBytes_size]; simp; omega)
          refine ⟨s, Run.loop ?_⟩
          repeat' (conv => arg 4; whnf); first | refine Run.ret ⟨?_, rfl⟩ | refine Run.condT ?_ | refine Run.condf ?_ | refine Run.condD (fun h => ?_) (fun h => ?_) | refine Run.condN (fun h => ?_) (fun h => ?_) | refine Run.condE (fun h => ?_) (fun h => ?_) | refine Run.condF (fun h => ?_) (fun h => ?_) | refine Run.condM (fun h => ?_) (fun h => ?_) | refine Run.condB (fun h => ?_) (fun h => ?_) | refine Run.check1 ?_ | refine Run.need1 (by simp only [allP, true_and, and_true, ofBytes_size, List.length_cons, List.length_nil]; omega) ?_ | refine Run.round ⟨[], [], []⟩ (hs) rfl (by (repeat' (first | exact wkEnv_nil | refine wkEnv_cons rfl ?_ | exact wkSto_nil | refine wkSto_none ?_ | refine wkSto_some rfl ?_)); done) (by (repeat' (first | exact wkEnv_nil | refine wkEnv_cons rfl ?_ | exact wkSto_nil | refine wkSto_none ?_ | refine wkSto_some rfl ?_)); done) | contradiction
          all_goals first | contradiction | trace_state
        · refine ⟨⟨#[109]⟩ ++ out, Run.loop ?_⟩
          have hs : (⟨#[109]⟩ : ByteArray).size = 1 := rfl
          repeat' (conv => arg 4; whnf); first | refine Run.ret ⟨?_, rfl⟩ | refine Run.condT ?_ | refine Run.condf ?_ | refine Run.condD (fun h => ?_) (fun h => ?_) | refine Run.condN (fun h => ?_) (fun h => ?_) | refine Run.condE (fun h => ?_) (fun h => ?_) | refine Run.condF (fun h => ?_) (fun h => ?_) | refine Run.condM (fun h => ?_) (fun h => ?_) | refine Run.condB (fun h => ?_) (fun h => ?_) | refine Run.check1 ?_ | (exact absurd ‹0 < y› hy) | refine Run.need1 (by simp only [allP, true_and, and_true, hs]; omega) ?_
          all_goals first | rfl | (exact absurd ‹0 < y› hy) | trace_state
    obtain ⟨s, hs⟩ := loop 13 k ByteArray.empty (by omega) (by omega) (by omega) (by simp)
    refine ⟨s, ?_⟩
    refine Ok.of_run (F := mk Try.f55 0) Try.func55 rfl rfl tabOk mixed rfl rfl rfl rfl rfl (Nat.le_of_ble_eq_true rfl) (Nat.le_of_ble_eq_true rfl) (.go 5000 ?_)
    repeat' (conv => arg 4; whnf); first | refine Run.ret ⟨?_, rfl⟩ | refine Run.condT ?_ | refine Run.condf ?_ | refine Run.condD (fun h => ?_) (fun h => ?_) | refine Run.condN (fun h => ?_) (fun h => ?_) | refine Run.condE (fun h => ?_) (fun h => ?_) | refine Run.condF (fun h => ?_) (fun h => ?_) | refine Run.condM (fun h => ?_) (fun h => ?_) | refine Run.condB (fun h => ?_) (fun h => ?_) | refine Run.check1 ?_ | refine Run.round ⟨[], [], []⟩ (hs) rfl (by (repeat' (first | exact wkEnv_nil | refine wkEnv_cons rfl ?_ | exact wkSto_nil | refine wkSto_none ?_ | refine wkSto_some rfl ?_)); done) (by (repeat' (first | exact wkEnv_nil | refine wkEnv_cons rfl ?_ | exact wkSto_nil | refine wkSto_none ?_ | refine wkSto_some rfl ?_)); done) | contradiction
    all_goals first | contradiction | trace_state
/-- The text of a number, as the laws mark with it. -/
noncomputable def mtext (k : Int) : ByteArray := open Classical in if h : ∃ s, Ok P 55 [.one (.int .i64 k)] [] (.one (.str s)) [] then Classical.choose h else ByteArray.empty
theorem markText_ok (k : Int) (hk : k ≤ 1000000000000) : Ok P 55 [.one (.int .i64 k)] [] (.one (.str (mtext k))) [] := by
  unfold mtext
  rw [dif_pos (markText_ex k hk)]
  exact Classical.choose_spec (markText_ex k hk)
/-- Marked moves. -/
noncomputable def mkM (k : Int) (i : Nat) : Mv := ⟨mtext (k + 6 * i), (k + 6 * i + 1).tmod 3 == 0, k + 6 * i + 2, k + 6 * i + 3, k + 6 * i + 4, k + 6 * i + 5⟩
noncomputable def mkMs (k : Int) (n : Nat) : List Mv := (List.range n).map (mkM k)
theorem mkMs_len (k : Int) (n : Nat) : (mkMs k n).length = n := by simp [mkMs]
theorem mkMs_at (k : Int) (n : Nat) {i : Nat} (h : i < n) : (mkMs k n).getD i Mv.z = mkM k i := by simp [mkMs, List.getD_eq_getElem?_getD, h]
end Go.Proofs.Ytmppoajepbbmiaa.AM

/- The exact laws' marks on moves, books, texts; condition: bounds. -/
namespace Go.Proofs.Ytmppoajepbbmiaa.AM
open Go.AM Go.RowKit
set_option linter.unusedVariables false
set_option linter.unusedSimpArgs false
set_option maxRecDepth 100000

theorem markMoves_ok (t : List Mv) (k : Int) (ht : t.length ≤ 1048576) (hk : 0 ≤ k ∧ k ≤ 1000000) : Ok P 17 [.one (.own (.k 0)), .one (.int .i64 k)] [some (.row .mv t)] (.one (.int .i64 (k + 6 * t.length))) [some (.row .mv (mkMs k t.length))] := by
  refine Ok.of_run (F := mk Try.f17 1) Try.func17 rfl rfl tabOk mixed rfl rfl rfl rfl rfl (Nat.le_of_ble_eq_true rfl) (Nat.le_of_ble_eq_true rfl) (.go 5000 ?_)
  have loop : ∀ (d i : Nat) (z y : Int) (s : List Mv), z = i → y = k + 6 * i → i + d = t.length → Cp Mv.z (mkMs k t.length) s i → Run P (mk Try.f17 1) (fun v st => v = .one (.int .i64 (k + 6 * t.length)) ∧ st = [some (.row .mv (mkMs k t.length))]) (.loop ⟨[(0, .one (.own (.k 0))), (1, .one (.int .i64 y)), (5, .one (.int .i64 z))], [(.k 0, some (.row .mv s))], [.lp [0, 1, 0, 1], .blk 0, .code [1, 1]], none⟩) := by
    intro d
    induction d with
    | zero =>
      intro i z y s hz hy hd hc
      subst hz; subst hy
      have hl := hc.1
      rw [mkMs_len] at hl
      obtain rfl := cp_end hc (by rw [mkMs_len]; omega)
      refine Run.loop ?_
      repeat' (conv => arg 4; whnf); first | refine Run.ret ⟨?_, rfl⟩ | refine Run.condT ?_ | refine Run.condf ?_ | refine Run.condD (fun h => ?_) (fun h => ?_) | refine Run.condN (fun h => ?_) (fun h => ?_) | refine Run.condE (fun h => ?_) (fun h => ?_) | refine Run.condF (fun h => ?_) (fun h => ?_) | refine Run.condM (fun h => ?_) (fun h => ?_) | refine Run.condB (fun h => ?_) (fun h => ?_) | refine Run.check1 ?_ | (exfalso; omega)
      all_goals first | (exfalso; omega) | (refine vi ?_; omega) | trace_state
    | succ d ih =>
      intro i z y s hz hy hd hc
      subst hz; subst hy
      have e : wrap64 ((i : Int) + 1) = ((i + 1 : Nat) : Int) := wrap_eq (by omega) (by omega)
      have e1 : wrap64 (k + 6 * i + 1) = k + 6 * i + 1 := wrap_eq (by omega) (by omega)
      have e2 : wrap64 (k + 6 * i + 1 + 1) = k + 6 * i + 2 := (wrap_eq (by omega) (by omega)).trans (by omega)
      have e3 : wrap64 (k + 6 * i + 2 + 1) = k + 6 * i + 3 := (wrap_eq (by omega) (by omega)).trans (by omega)
      have e4 : wrap64 (k + 6 * i + 3 + 1) = k + 6 * i + 4 := (wrap_eq (by omega) (by omega)).trans (by omega)
      have e5 : wrap64 (k + 6 * i + 4 + 1) = k + 6 * i + 5 := (wrap_eq (by omega) (by omega)).trans (by omega)
      have e6 : wrap64 (k + 6 * i + 5 + 1) = k + 6 * ((i + 1 : Nat) : Int) := (wrap_eq (by omega) (by omega)).trans (by omega)
      have hl := hc.1
      rw [mkMs_len] at hl
      have hs := cp_step hc (i := i) (by rw [mkMs_len]; omega)
      have hrd : ∀ x : Mv, rdM (s.set i x) (i : Int) = x := fun x => by
        rw [rdM_nat, at', getD_set, if_pos ⟨rfl, by omega⟩]
      rw [mkMs_at _ _ (by omega)] at hs
      refine Run.loop ?_
      repeat' (conv => arg 4; whnf); first | refine Run.ret ⟨?_, rfl⟩ | refine Run.condT ?_ | refine Run.condf ?_ | refine Run.condD (fun h => ?_) (fun h => ?_) | refine Run.condN (fun h => ?_) (fun h => ?_) | refine Run.condE (fun h => ?_) (fun h => ?_) | refine Run.condF (fun h => ?_) (fun h => ?_) | refine Run.condM (fun h => ?_) (fun h => ?_) | refine Run.condB (fun h => ?_) (fun h => ?_) | refine Run.check1 ?_ | refine Run.call (markText_ok _ (by omega)) rfl ?_ | refine Run.need1 (by simp only [allP, true_and, and_true]; omega) ?_ | refine Run.need1 (by simp only [allP, true_and, and_true, List.length_set]; omega) ?_ | refine Run.round ⟨[], [], []⟩ (ih (i + 1) _ _ _ e ?_ (by omega) ?_) rfl (by (repeat' (first | exact wkEnv_nil | refine wkEnv_cons rfl ?_ | exact wkSto_nil | refine wkSto_none ?_ | refine wkSto_some rfl ?_)); done) (by (repeat' (first | exact wkEnv_nil | refine wkEnv_cons rfl ?_ | exact wkSto_nil | refine wkSto_none ?_ | refine wkSto_some rfl ?_)); done) | (exfalso; omega)
      all_goals clear ih
      all_goals first
        | (exfalso; omega)
        | (simp only [e1, e2, e3, e4, e5, e6]; done)
        | (simp only [Int.toNat_natCast, List.set_set, hrd, e1, e2, e3, e4, e5, e6]; exact hs)
        | trace_state
  repeat' (conv => arg 4; whnf); first | refine Run.ret ⟨?_, rfl⟩ | refine Run.condT ?_ | refine Run.condf ?_ | refine Run.condD (fun h => ?_) (fun h => ?_) | refine Run.condN (fun h => ?_) (fun h => ?_) | refine Run.condE (fun h => ?_) (fun h => ?_) | refine Run.condF (fun h => ?_) (fun h => ?_) | refine Run.condM (fun h => ?_) (fun h => ?_) | refine Run.condB (fun h => ?_) (fun h => ?_) | refine Run.check1 ?_ | refine Run.round ⟨[], [], []⟩ (loop t.length 0 _ _ _ rfl ?_ ?_ ?_) rfl (by (repeat' (first | exact wkEnv_nil | refine wkEnv_cons rfl ?_ | exact wkSto_nil | refine wkSto_none ?_ | refine wkSto_some rfl ?_)); done) (by (repeat' (first | exact wkEnv_nil | refine wkEnv_cons rfl ?_ | exact wkSto_nil | refine wkSto_none ?_ | refine wkSto_some rfl ?_)); done)
  all_goals first
    | omega
    | exact ⟨by rw [mkMs_len], fun j hj => absurd hj (by omega)⟩
    | trace_state
theorem heldMoves_ok (n : Nat) (k : Int) (hn : n ≤ 1048576) (hk : 0 ≤ k ∧ k ≤ 1000000) : Ok P 83 [.one (.lst .mv (mkMs k n) false), .one (.int .i64 k)] [] (.one (.int .i64 (k + 6 * n))) [] := by
  refine Ok.of_run (F := mk Try.f83 0) Try.func83 rfl rfl tabOk mixed rfl rfl rfl rfl rfl (Nat.le_of_ble_eq_true rfl) (Nat.le_of_ble_eq_true rfl) (.go 5000 ?_)
  have hlen := mkMs_len k n
  have loop : ∀ (d i : Nat) (z y : Int), z = i → y = k + 6 * i → i + d = n → Run P (mk Try.f83 0) (fun v st => v = .one (.int .i64 (k + 6 * n)) ∧ st = []) (.loop ⟨[(0, .one (.lst .mv (mkMs k n) false)), (1, .one (.int .i64 y)), (5, .one (.int .i64 z))], [], [.lp [0, 1, 0, 1], .blk 0, .code [1, 1]], none⟩) := by
    intro d
    induction d with
    | zero =>
      intro i z y hz hy hd
      subst hz; subst hy
      refine Run.loop ?_
      repeat' (conv => arg 4; whnf); first | refine Run.ret ⟨?_, rfl⟩ | refine Run.condT ?_ | refine Run.condf ?_ | refine Run.condD (fun h => ?_) (fun h => ?_) | refine Run.condN (fun h => ?_) (fun h => ?_) | refine Run.condE (fun h => ?_) (fun h => ?_) | refine Run.condF (fun h => ?_) (fun h => ?_) | refine Run.condM (fun h => ?_) (fun h => ?_) | refine Run.condB (fun h => ?_) (fun h => ?_) | refine Run.check1 ?_ | (exfalso; omega)
      all_goals first | (exfalso; omega) | (refine vi ?_; omega) | trace_state
    | succ d ih =>
      intro i z y hz hy hd
      subst hz; subst hy
      have e : wrap64 ((i : Int) + 1) = ((i + 1 : Nat) : Int) := wrap_eq (by omega) (by omega)
      have e1 : wrap64 (k + 6 * i + 1) = k + 6 * i + 1 := wrap_eq (by omega) (by omega)
      have e2 : wrap64 (k + 6 * i + 1 + 1) = k + 6 * i + 2 := (wrap_eq (by omega) (by omega)).trans (by omega)
      have e3 : wrap64 (k + 6 * i + 2 + 1) = k + 6 * i + 3 := (wrap_eq (by omega) (by omega)).trans (by omega)
      have e4 : wrap64 (k + 6 * i + 3 + 1) = k + 6 * i + 4 := (wrap_eq (by omega) (by omega)).trans (by omega)
      have e5 : wrap64 (k + 6 * i + 4 + 1) = k + 6 * i + 5 := (wrap_eq (by omega) (by omega)).trans (by omega)
      have e6 : wrap64 (k + 6 * i + 5 + 1) = k + 6 * ((i + 1 : Nat) : Int) := (wrap_eq (by omega) (by omega)).trans (by omega)
      have em : rdM (mkMs k n) i = mkM k i := by rw [rdM_nat]; exact mkMs_at k n (by omega)
      refine Run.loop ?_
      repeat' (conv => arg 4; whnf); first | refine Run.ret ⟨?_, rfl⟩ | refine Run.condT ?_ | refine Run.condf ?_ | refine Run.condD (fun h => ?_) (fun h => ?_) | refine Run.condN (fun h => ?_) (fun h => ?_) | refine Run.condE (fun h => ?_) (fun h => ?_) | refine Run.condF (fun h => ?_) (fun h => ?_) | refine Run.condM (fun h => ?_) (fun h => ?_) | refine Run.condB (fun h => ?_) (fun h => ?_) | refine Run.check1 ?_ | refine Run.call (markText_ok _ (by omega)) rfl ?_ | refine Run.need1 (by simp only [allP, true_and, and_true]; omega) ?_ | refine Run.round ⟨[], [], []⟩ (ih (i + 1) _ _ e ?_ (by omega)) rfl (by (repeat' (first | exact wkEnv_nil | refine wkEnv_cons rfl ?_ | exact wkSto_nil | refine wkSto_none ?_ | refine wkSto_some rfl ?_)); done) (by (repeat' (first | exact wkEnv_nil | refine wkEnv_cons rfl ?_ | exact wkSto_nil | refine wkSto_none ?_ | refine wkSto_some rfl ?_)); done) | (exfalso; omega)
      all_goals clear ih
      all_goals first
        | (exfalso; omega)
        | (simp only [e1, e2, e3, e4, e5, e6]; done)
        | (exfalso; simp only [em, mkM, e1, e2, e3, e4, e5, e6] at *; simp_all; done)
        | trace_state
  repeat' (conv => arg 4; whnf); first | refine Run.ret ⟨?_, rfl⟩ | refine Run.condT ?_ | refine Run.condf ?_ | refine Run.condD (fun h => ?_) (fun h => ?_) | refine Run.condN (fun h => ?_) (fun h => ?_) | refine Run.condE (fun h => ?_) (fun h => ?_) | refine Run.condF (fun h => ?_) (fun h => ?_) | refine Run.condM (fun h => ?_) (fun h => ?_) | refine Run.condB (fun h => ?_) (fun h => ?_) | refine Run.check1 ?_ | refine Run.round ⟨[], [], []⟩ (loop n 0 _ _ rfl ?_ ?_) rfl (by (repeat' (first | exact wkEnv_nil | refine wkEnv_cons rfl ?_ | exact wkSto_nil | refine wkSto_none ?_ | refine wkSto_some rfl ?_)); done) (by (repeat' (first | exact wkEnv_nil | refine wkEnv_cons rfl ?_ | exact wkSto_nil | refine wkSto_none ?_ | refine wkSto_some rfl ?_)); done)
  all_goals first
    | omega
    | trace_state
theorem markBook_ok (b : Bk) (k : Int) (hl : b.ms.length ≤ 1048576) (ht : b.ts.length ≤ 1048576) (hk : 0 ≤ k ∧ k ≤ 1000000) : Ok P 40 [b.own (.k 0) (.k 1), .one (.int .i64 k)] [some (.row .mv b.ms), some (.row (.int .i64) b.ts)] (.one (.int .i64 (k + 6 * b.ms.length + b.ts.length))) [some (.row .mv (mkMs k b.ms.length)), some (.row (.int .i64) (mkI (k + 6 * b.ms.length) b.ts.length))] := by
  refine Ok.of_run (F := mk Try.f40 2) Try.func40 rfl rfl tabOk mixed rfl rfl rfl rfl rfl (Nat.le_of_ble_eq_true rfl) (Nat.le_of_ble_eq_true rfl) (.go 5000 ?_)
  repeat' (conv => arg 4; whnf); first | refine Run.ret ⟨?_, rfl⟩ | refine Run.condT ?_ | refine Run.condf ?_ | refine Run.condD (fun h => ?_) (fun h => ?_) | refine Run.condN (fun h => ?_) (fun h => ?_) | refine Run.condE (fun h => ?_) (fun h => ?_) | refine Run.condF (fun h => ?_) (fun h => ?_) | refine Run.condM (fun h => ?_) (fun h => ?_) | refine Run.condB (fun h => ?_) (fun h => ?_) | refine Run.check1 ?_ | refine Run.call (markMoves_ok _ _ hl hk) rfl ?_ | refine Run.call (markInts_ok _ _ ht (by omega)) rfl ?_
  all_goals first | rfl | trace_state
theorem heldBook_ok (x y : Int) (n m : Nat) (k : Int) (hn : n ≤ 1048576) (hm : m ≤ 1048576) (hk : 0 ≤ k ∧ k ≤ 1000000) : Ok P 41 [Bk.lent ⟨x, y, mkMs k n, mkI (k + 6 * n) m⟩, .one (.int .i64 k)] [] (.one (.int .i64 (k + 6 * n + m))) [] := by
  refine Ok.of_run (F := mk Try.f41 0) Try.func41 rfl rfl tabOk mixed rfl rfl rfl rfl rfl (Nat.le_of_ble_eq_true rfl) (Nat.le_of_ble_eq_true rfl) (.go 5000 ?_)
  repeat' (conv => arg 4; whnf); first | refine Run.ret ⟨?_, rfl⟩ | refine Run.condT ?_ | refine Run.condf ?_ | refine Run.condD (fun h => ?_) (fun h => ?_) | refine Run.condN (fun h => ?_) (fun h => ?_) | refine Run.condE (fun h => ?_) (fun h => ?_) | refine Run.condF (fun h => ?_) (fun h => ?_) | refine Run.condM (fun h => ?_) (fun h => ?_) | refine Run.condB (fun h => ?_) (fun h => ?_) | refine Run.check1 ?_ | refine Run.call (heldMoves_ok _ _ hn hk) rfl ?_ | refine Run.call (heldInts_ok _ _ hm (by omega)) rfl ?_ | (exfalso; omega)
  all_goals first | rfl | (exfalso; omega) | trace_state
end Go.Proofs.Ytmppoajepbbmiaa.AM

/- FnExactStripBest, walked; condition: the sizes that the row gives. -/
namespace Go.Proofs.Ytmppoajepbbmiaa.AM
open Go.AM Go.RowKit
set_option linter.unusedVariables false
set_option linter.unusedSimpArgs false
set_option maxRecDepth 100000

theorem bestF_len (l : List Mv) (sh : Int) : (bestF l sh).1.length ≤ 6 := by
  unfold bestF
  split
  · rename_i h
    have h6 := h.1.1
    unfold bestM
    have hb := best_ok1 h.1 sh
    revert hb
    cases bestO l sh with
    | none => exact fun _ => Nat.zero_le _
    | some t =>
      intro hb
      have := (hb t rfl).2.1
      show t.length ≤ 6
      omega
  · exact Nat.zero_le _
theorem law_FnExactStripBest (l : List Mv) (hl : l.length ≤ maxLen) (hwl : ∀ z ∈ l, MvWf z) (sh : Int) (hs : W64 sh) : Ok P 5 [.one (.lst .mv l false), .one (.int .i64 sh)] [] (.one (.bool true)) [] := by
  have hm : ∀ i, i < l.length → (at' l i).f0.size ≤ maxLen := fun i hi => (mvWf_at hwl i hi).1
  have hle := szMs_le (l := l) (left := 1048576) (by omega)
  have h1 := best_ok l sh
  have h2 := sbest_ok l sh
  have h3 := bestF_len l sh
  generalize bestF l sh = r at h1 h2 h3
  obtain ⟨ts, ok⟩ := r
  simp only at h1 h2 h3
  refine Ok.of_run (F := mk Try.f5 0) Try.func5 rfl rfl tabOk mixed rfl rfl rfl rfl rfl (Nat.le_of_ble_eq_true rfl) (Nat.le_of_ble_eq_true rfl) (.go 5000 ?_)
  conv => arg 4; whnf
  refine Run.call (szMoves_ok _ _ (by omega) hl hm) rfl ?_
  conv => arg 4; whnf
  refine Run.condD (fun h => ?_) (fun h => ?_)
  · repeat' (conv => arg 4; whnf); first | refine Run.ret ⟨?_, rfl⟩ | refine Run.condT ?_ | refine Run.condf ?_ | refine Run.condD (fun h => ?_) (fun h => ?_) | refine Run.condN (fun h => ?_) (fun h => ?_) | refine Run.condE (fun h => ?_) (fun h => ?_) | refine Run.condF (fun h => ?_) (fun h => ?_) | refine Run.condM (fun h => ?_) (fun h => ?_) | refine Run.condB (fun h => ?_) (fun h => ?_) | refine Run.check1 ?_
    rfl
  have hl2 : l.length ≤ 1048576 := by omega
  repeat' (conv => arg 4; whnf); first | refine Run.ret ⟨?_, rfl⟩ | refine Run.condT ?_ | refine Run.condf ?_ | refine Run.condD (fun h => ?_) (fun h => ?_) | refine Run.condN (fun h => ?_) (fun h => ?_) | refine Run.condE (fun h => ?_) (fun h => ?_) | refine Run.condF (fun h => ?_) (fun h => ?_) | refine Run.condM (fun h => ?_) (fun h => ?_) | refine Run.condB (fun h => ?_) (fun h => ?_) | refine Run.check1 ?_ | refine Run.call (toMoves_ok _ hl2) rfl ?_ | refine Run.call (h1) rfl ?_ | refine Run.call (h2) rfl ?_ | refine Run.call (eqMoves_ok _ hl2) rfl ?_ | refine Run.call (eqInts_ok ts (by omega)) rfl ?_ | refine Run.call (markMoves_ok l _ hl2 (by omega)) rfl ?_ | refine Run.call (markInts_ok ts _ (by omega) (by omega)) rfl ?_ | refine Run.call (heldInts_ok _ _ (by omega) (by omega)) rfl ?_ | (exfalso; omega) | contradiction
  all_goals first | rfl | contradiction | (exact absurd rfl ‹_›) | (exfalso; omega) | trace_state
end Go.Proofs.Ytmppoajepbbmiaa.AM

/- What comes in as a struct, a slice or a book, in the machine's words; condition: the argument reads as data of its type. -/
namespace Go.Proofs.Ytmppoajepbbmiaa.AM
open Go.Joins Go.ChangeShapes Go.WideShapes Go.RowKit Go.Deep Go.AM
set_option linter.unusedVariables false
set_option linter.unusedSimpArgs false
set_option maxRecDepth 100000
section
variable {H : Type} {enc : TypeId × Value → H} {w : World} {base : Nat} {spare : Nat → Bool} {held : Bool} {μ : Mu}
theorem open_mv {n : Nat} {cs : List Value} {y : DataW H × List MemPlace} (h : DataW.trod enc Try.prog w base spare held n 66 cs = some y) (hl : cs.length = 6) :
    ∃ m : Mv, cs = [.string m.f0, .bool m.f1, .int .i64 m.f2, .int .i64 m.f3, .int .i64 m.f4, .int .i64 m.f5] ∧ MvWf m := by
  obtain ⟨xs, n', _, _, _, hxl, hf⟩ := DataW.trod_struct Try.underlying66 h
  match cs, hl with
  | [c0, c1, c2, c3, c4, c5], _ =>
    have h0 := hf 0 _ rfl
    have h1 := hf 1 _ rfl
    have h2 := hf 2 _ rfl
    have h3 := hf 3 _ rfl
    have h4 := hf 4 _ rfl
    have h5 := hf 5 _ rfl
    have k1 : Try.prog.cellsOf 9 = 1 := by kernel_rfl
    have k2 : Try.prog.cellsOf 4 = 1 := by kernel_rfl
    have k3 : Try.prog.cellsOf 3 = 1 := by kernel_rfl
    have e0 : xs[0]? = some (xs[0]'(by rw [hxl]; decide)) := List.getElem?_eq_getElem _
    have e1 : xs[1]? = some (xs[1]'(by rw [hxl]; decide)) := List.getElem?_eq_getElem _
    have e2 : xs[2]? = some (xs[2]'(by rw [hxl]; decide)) := List.getElem?_eq_getElem _
    have e3 : xs[3]? = some (xs[3]'(by rw [hxl]; decide)) := List.getElem?_eq_getElem _
    have e4 : xs[4]? = some (xs[4]'(by rw [hxl]; decide)) := List.getElem?_eq_getElem _
    have e5 : xs[5]? = some (xs[5]'(by rw [hxl]; decide)) := List.getElem?_eq_getElem _
    obtain ⟨a0, q0, _, w0⟩ := DataW.trod_string Try.underlying9 (h0.trans e0)
    obtain ⟨a1, q1, _⟩ := DataW.trod_bool Try.underlying4 (h1.trans e1)
    obtain ⟨a2, q2, _, w2⟩ := DataW.trod_int Try.underlying3 (h2.trans e2)
    obtain ⟨a3, q3, _, w3⟩ := DataW.trod_int Try.underlying3 (h3.trans e3)
    obtain ⟨a4, q4, _, w4⟩ := DataW.trod_int Try.underlying3 (h4.trans e4)
    obtain ⟨a5, q5, _, w5⟩ := DataW.trod_int Try.underlying3 (h5.trans e5)
    simp [k1, k2, k3] at q0 q1 q2 q3 q4 q5
    subst q0 q1 q2 q3 q4 q5
    exact ⟨⟨a0, a1, a2, a3, a4, a5⟩, rfl, w0, wf64 w2, wf64 w3, wf64 w4, wf64 w5⟩
theorem open_ints {t fuel : Nat} {cs : List Value} {y : DataW H × List MemPlace} (ht : Try.prog.underlying t = some (.slice 3)) (h : DataW.trod enc Try.prog w base spare held fuel t cs = some y) :
    ∃ (v : Value) (xs : List Int), cs = [v] ∧ repA μ w (Old w) (.lst (.int .i64) xs false) v ∧ xs.length ≤ maxLen ∧ ∀ z ∈ xs, W64 z :=
  open_sl (.int .i64) ht (by kernel_rfl) (by decide) W64 (fun n cs' y hy hl => by
    obtain ⟨z, h1, _, h2⟩ := DataW.trod_int Try.underlying3 hy
    subst h1
    exact ⟨z, .cons rfl .nil, wf64 h2⟩) h
theorem open_bytes {t fuel : Nat} {cs : List Value} {y : DataW H × List MemPlace} (ht : Try.prog.underlying t = some (.slice 5)) (h : DataW.trod enc Try.prog w base spare held fuel t cs = some y) :
    ∃ (v : Value) (xs : List Int), cs = [v] ∧ repA μ w (Old w) (.lst (.int .u8) xs false) v ∧ xs.length ≤ maxLen ∧ ∀ z ∈ xs, (Lit.int .u8 z).wf = true :=
  open_sl (.int .u8) ht (by kernel_rfl) (by decide) (fun z => (Lit.int .u8 z).wf = true) (fun n cs' y hy hl => by
    obtain ⟨z, h1, _, h2⟩ := DataW.trod_int Try.underlying5 hy
    subst h1
    exact ⟨z, .cons rfl .nil, h2⟩) h
theorem open_mvs {t fuel : Nat} {cs : List Value} {y : DataW H × List MemPlace} (ht : Try.prog.underlying t = some (.slice 66)) (h : DataW.trod enc Try.prog w base spare held fuel t cs = some y) :
    ∃ (v : Value) (xs : List Mv), cs = [v] ∧ repA μ w (Old w) (.lst .mv xs false) v ∧ xs.length ≤ maxLen ∧ ∀ z ∈ xs, MvWf z :=
  open_sl .mv ht (by kernel_rfl) (by decide) MvWf (fun n cs' y hy hl => by
    obtain ⟨m, rfl, hm⟩ := open_mv hy hl
    exact ⟨m, .cons rfl (.cons rfl (.cons rfl (.cons rfl (.cons rfl (.cons rfl .nil))))), hm⟩) h
theorem open_bk {n : Nat} {cs : List Value} {y : DataW H × List MemPlace} (h : DataW.trod enc Try.prog w base spare held n 49 cs = some y) (hl : cs.length = 4) :
    ∃ b : Bk, repV μ w (Old w) b.lent (.agg ⟨cs⟩) ∧ W64 b.now ∧ W64 b.shift ∧ b.ms.length ≤ maxLen ∧ (∀ z ∈ b.ms, MvWf z) ∧ b.ts.length ≤ maxLen ∧ ∀ z ∈ b.ts, W64 z := by
  obtain ⟨xs, n', _, _, _, hxl, hf⟩ := DataW.trod_struct Try.underlying49 h
  match cs, hl with
  | [d0, d1, d2, d3], _ =>
    have h0 := hf 0 _ rfl
    have h1 := hf 1 _ rfl
    have h2 := hf 2 _ rfl
    have h3 := hf 3 _ rfl
    have k1 : Try.prog.cellsOf 3 = 1 := by kernel_rfl
    have k2 : Try.prog.cellsOf 22 = 1 := by kernel_rfl
    have k3 : Try.prog.cellsOf 24 = 1 := by kernel_rfl
    have e0 : xs[0]? = some (xs[0]'(by rw [hxl]; decide)) := List.getElem?_eq_getElem _
    have e1 : xs[1]? = some (xs[1]'(by rw [hxl]; decide)) := List.getElem?_eq_getElem _
    have e2 : xs[2]? = some (xs[2]'(by rw [hxl]; decide)) := List.getElem?_eq_getElem _
    have e3 : xs[3]? = some (xs[3]'(by rw [hxl]; decide)) := List.getElem?_eq_getElem _
    obtain ⟨a0, q0, _, w0⟩ := DataW.trod_int Try.underlying3 (h0.trans e0)
    obtain ⟨a1, q1, _, w1⟩ := DataW.trod_int Try.underlying3 (h1.trans e1)
    obtain ⟨v2, l2, q2, hr2, hm2, w2⟩ := open_mvs (μ := μ) Try.underlying22 (h2.trans e2)
    obtain ⟨v3, l3, q3, hr3, hm3, w3⟩ := open_ints (μ := μ) Try.underlying24 (h3.trans e3)
    simp [k1, k2, k3] at q0 q1 q2 q3
    subst q0 q1 q2 q3
    refine ⟨⟨a0, a1, l2, l3⟩, ?_, wf64 w0, wf64 w1, hm2, w2, hm3, w3⟩
    simp only [Bk.lent, repV]
    refine ⟨_, rfl, ?_⟩
    simp only [repAs]
    exact ⟨_, _, rfl, by simp only [repA], _, _, rfl, by simp only [repA], _, _, rfl, hr2, _, _, rfl, hr3, rfl⟩
end
end Go.Proofs.Ytmppoajepbbmiaa.AM

/- FnExactStripBest: for every input the law returns true and each argument reads behind the call as it read before; no condition. -/
namespace Go.Proofs.Ytmppoajepbbmiaa.fnExactStripBest
open Go.ChangeShapes Go.WideShapes Go.ChangeAt Go.RowKit
open Go.ChangeMaps (open_string shut_string)
set_option linter.unusedVariables false
theorem own : ownKnob Try.prog.godebug = none := by kernel_rfl
theorem laidOut : laidOutB Try.prog = true := by kernel_rfl
set_option maxRecDepth 100000 in
theorem lifted (os : Os) (started : os.Started) (H : Type) (enc : TypeId × Value → H) :
    ReturnsInHanded {} Try.checked os 5 .any (Rows.fnExactStripBestSpec.pre6 enc Try.prog Try.f5 Rows.fnExactStripBestRow.domain false) (Rows.fnExactStripBestSpec.post enc Try.prog Try.f5 false true false false) := by
  refine returnsInHanded_of_change_sized (C := Try.checked) own started (by kernel_rfl) Try.func5
    (ChangeSpec.witness6 (enc := enc) (C := Try.checked) false ⟨#[], #[.slice none 0 0, .int .i64 0], []⟩ 8 (by kernel_rfl) (by kernel_rfl) (by kernel_rfl) (by kernel_rfl)) ?_
  intro W base args ds gs before hval0 hW hcnd hsz0 _
  have hval : ∀ (j : Nat) t v, Try.f5.params[j]? = some t → args[j]? = some v → Value.okWide Try.prog W .any base t v := hval0
  have hW' := hW
  obtain ⟨p, q, hA0, hV, rfl, hfz, hnd⟩ := hW
  have hA : DataW.TrodAll enc Try.prog W 0 (fun _ => true) true Try.f5.params.toList args.toList ds p := hA0
  rw [Try.params5] at hA hval
  obtain ⟨v0, vs0, d0, ds0, p0, q0, hargs, rfl, rfl, h0, r0⟩ := trodAll_cons hA
  obtain ⟨v1, vs1, d1, ds1, p1, q1, rfl, rfl, rfl, h1, r1⟩ := trodAll_cons r0
  obtain ⟨rfl, rfl, rfl⟩ := trodAll_nil r1
  obtain rfl : args = #[v0, v1] := by cases args; simp_all
  obtain ⟨rfl, rfl⟩ := trodVars_none hV
  have k0 := h0
  have lt0 : ∀ x ∈ p0, x.block < W.heap.size := by obtain ⟨m, hm⟩ := k0; exact DataW.trod_lt m _ _ _ hm
  obtain ⟨A0, len0, cap0, rfl⟩ := okWide_slice Try.underlying22 (hval 0 22 v0 rfl rfl)
  obtain ⟨fuel0, hf0⟩ := h0
  obtain ⟨u0, a0, e0, hr0, hm0, w0⟩ := AM.open_mvs (μ := fun _ => none) Try.underlying22 hf0
  simp [Value.cells] at e0
  subst e0
  have k1 := h1
  have lt1 : ∀ x ∈ p1, x.block < W.heap.size := by obtain ⟨m, hm⟩ := k1; exact DataW.trod_lt m _ _ _ hm
  obtain ⟨a1, rfl, _, _, w1⟩ := open_int Try.underlying3 (hval 1 3 v1 rfl rfl) h1
  refine (Go.AM.calls_true Try.func5 rfl rfl (AM.law_FnExactStripBest a0 hm0 w0 a1 (Go.AM.wf64 w1)) (by simp only [Go.AM.repVs]; exact ⟨_, _, rfl, (by simp only [Go.AM.repV]; exact hr0), ⟨_, _, rfl, (by simp only [Go.AM.repV, Go.AM.repA]), rfl⟩⟩)).mono fun e W' ⟨he, bel⟩ => ?_
  subst he
  exact ⟨_, rfl, _, _, _, [], _, [], hW', trodAll_mk1 (shut_bool Try.underlying4 _), (trodAll_cons_mk (Below.trod laidOut (by kernel_rfl) (of_decide_eq_true (by kernel_rfl)) k0 bel lt0) (trodAll_cons_mk (Below.trod laidOut (by kernel_rfl) (of_decide_eq_true (by kernel_rfl)) k1 bel lt1) trodAll_mk0)), rfl, bel.frame _, fun h => by cases h⟩
theorem over : Rows.fnExactStripBestRow.holds Try.pinned (OpenSpec.ofChange Rows.fnExactStripBestSpec) :=
  OpenClaim.holds_of_wide 5 Try.f5 rfl rfl rfl rfl rfl rfl rfl ⟨rfl, rfl, rfl, rfl, rfl⟩ rfl rfl rfl rfl rfl (by kernel_rfl) Try.func5 (by kernel_rfl)
    (of_decide_eq_true (by kernel_rfl)) (by unfold Func.isWrapper; first | (rw [if_pos (by decide +kernel)]; kernel_rfl) | (rw [if_neg (by decide +kernel)]; exact ⟨rfl, rfl⟩))
    (fun os started H enc _ => lifted os started H enc)
theorem proved : Rows.FnExactStripBestSaid := over
end Go.Proofs.Ytmppoajepbbmiaa.fnExactStripBest
namespace Go.Proofs.Ytmppoajepbbmiaa
theorem fnExactStripBest_holds : Rows.FnExactStripBestSaid := fnExactStripBest.proved
#print axioms fnExactStripBest_holds
end Go.Proofs.Ytmppoajepbbmiaa
