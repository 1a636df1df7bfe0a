/- FnBest, part 2 of 2: what the law's functions come to, plain laws on it, and the row; no condition -/
import Derived.Test.YtmppoajepbbmiaaRows
import Derived.Test.YtmppoajepbbmiaaChecked
import Derived.WalkKit
import Derived.ProofKit
import Derived.OpenShut
import Derived.ShutString
import Derived.ChangeOld
import Derived.Below
import Derived.SizedLaws
import Derived.Test.YtmppoajepbbmiaaYFBest1
/- StripShift of the reference; condition: lengths. -/
namespace Go.Proofs.Ytmppoajepbbmiaa.AM
open Go.AM Go.RowKit
set_option linter.unusedVariables false
set_option linter.unusedSimpArgs false
set_option maxRecDepth 100000

theorem sshift_ok (a b : List Int) (ha : a.length ≤ 1048576) (hb : b.length ≤ 1048576) : Ok P 101 [.one (.lst (.int .i64) a false), .one (.lst (.int .i64) b false)] [] (.one (.int .i64 (shiftM a b))) [] := by
  refine Ok.of_run (F := mk Try.f101 0) Try.func101 rfl rfl tabOk mixed rfl rfl rfl rfl rfl (Nat.le_of_ble_eq_true rfl) (Nat.le_of_ble_eq_true rfl) (.go 5000 ?_)
  by_cases hc : a.length = b.length ∧ IsOrd a ∧ IsOrd b
  · have hf : shiftM a b = foldFrom (shStep a b) 0 a.length 0 := if_pos hc
    obtain ⟨hl, h1, h2⟩ := hc
    have outer : ∀ (d i : Nat) (z s : Int), z = i → i + d = a.length → 0 ≤ s ∧ s ≤ 1048576 → Fact (foldFrom (shStep a b) i d s = shiftM a b) → Run P (mk Try.f101 0) (fun x st => x = .one (.int .i64 (shiftM a b)) ∧ st = []) (.loop ⟨[(0, .one (.lst (.int .i64) a false)), (1, .one (.lst (.int .i64) b false)), (5, .one (.int .i64 s)), (6, .one (.int .i64 z))], [], [.lp [0, 1, 0, 1, 1, 1], .blk 0, .code [1, 1, 1, 1]], none⟩) := by
      intro d
      induction d with
      | zero =>
        intro i z s hz hd hs he
        subst hz
        refine Run.loop ?_
        repeat' (conv => arg 4; whnf); first | refine Run.ret ⟨?_, rfl⟩ | refine Run.condT ?_ | refine Run.condf ?_ | refine Run.condD (fun h => ?_) (fun h => ?_) | refine Run.condN (fun h => ?_) (fun h => ?_) | refine Run.condE (fun h => ?_) (fun h => ?_) | refine Run.condF (fun h => ?_) (fun h => ?_) | refine Run.condM (fun h => ?_) (fun h => ?_) | refine Run.condB (fun h => ?_) (fun h => ?_) | refine Run.check1 ?_ | (exfalso; omega)
        all_goals first | (rw [← he.h]; rfl) | (exfalso; omega)
      | succ d ih =>
        intro i z s hz hd hs he
        subst hz
        have e := fs (i := i) (by omega)
        have ei : rd a i = a.getD i 0 := rd_nat a i
        have he' : foldFrom (shStep a b) (i + 1) d (shStep a b i s) = shiftM a b := he.h
        have hv := (h1 i (by omega)).1
        obtain ⟨q, hq, eq⟩ := ord_onto h2 (a.getD i 0).toNat (by omega)
        have hall := shUpd_all a b h2 i (fun s hs => by unfold shStep; omega) ⟨q, hq, by omega⟩ s
        rw [← hall] at he'
        replace he' : Fact _ := ⟨he'⟩
        clear hall
        have inner : ∀ (c k : Nat) (z r : Int), z = k → k + c = b.length → 0 ≤ r ∧ r ≤ 1048576 → Fact (foldFrom (shStep a b) (i + 1) d (foldFrom (shUpd a b i) k c r) = shiftM a b) → Run P (mk Try.f101 0) (fun x st => x = .one (.int .i64 (shiftM a b)) ∧ st = []) (.loop ⟨[(0, .one (.lst (.int .i64) a false)), (1, .one (.lst (.int .i64) b false)), (5, .one (.int .i64 r)), (6, .one (.int .i64 (i : Int))), (7, .one (.int .i64 z))], [], [.lp [0, 1, 0, 0, 1, 0, 0, 1, 0, 1, 1, 1], .blk 2, .blk 1, .code [1, 1, 0, 0, 1, 0, 1, 1, 1], .lp [0, 1, 0, 1, 1, 1], .blk 0, .code [1, 1, 1, 1]], none⟩) := by
          intro c
          induction c with
          | zero =>
            intro k z r hz hk hr hee
            subst hz
            refine Run.loop ?_
            repeat' (conv => arg 4; whnf); first | refine Run.ret ⟨?_, rfl⟩ | refine Run.condT ?_ | refine Run.condf ?_ | refine Run.condD (fun h => ?_) (fun h => ?_) | refine Run.condN (fun h => ?_) (fun h => ?_) | refine Run.condE (fun h => ?_) (fun h => ?_) | refine Run.condF (fun h => ?_) (fun h => ?_) | refine Run.condM (fun h => ?_) (fun h => ?_) | refine Run.condB (fun h => ?_) (fun h => ?_) | refine Run.check1 ?_ | refine Run.round ⟨[], [], []⟩ (ih (i + 1) _ _ e.h (by omega) hr hee) rfl (by (repeat' (first | exact wkEnv_nil | refine wkEnv_cons rfl ?_ | exact wkSto_nil | refine wkSto_none ?_ | refine wkSto_some rfl ?_)); done) (by (repeat' (first | exact wkEnv_nil | refine wkEnv_cons rfl ?_ | exact wkSto_nil | refine wkSto_none ?_ | refine wkSto_some rfl ?_)); done) | (exfalso; omega)
            all_goals (exfalso; omega)
          | succ c ihc =>
            intro k z r hz hk hr hee
            subst hz
            have e2 := fs (i := k) (by omega)
            have ek : rd b k = b.getD k 0 := rd_nat b k
            have d1 := fw (x := (i : Int) - k) (by omega)
            have d2 := fw (x := (k : Int) - i) (by omega)
            have hu : Fact (shUpd a b i k r = if rd a i = rd b k then max (max r ((i : Int) - k)) ((k : Int) - i) else r) := ⟨by rw [ei, ek]; rfl⟩
            clear ek
            have hee' : Fact (foldFrom (shStep a b) (i + 1) d (foldFrom (shUpd a b i) (k + 1) c (shUpd a b i k r)) = shiftM a b) := ⟨hee.h⟩
            refine Run.loop ?_
            repeat' (conv => arg 4; whnf); first | refine Run.ret ⟨?_, rfl⟩ | refine Run.condT ?_ | refine Run.condf ?_ | refine Run.condD (fun h => ?_) (fun h => ?_) | refine Run.condN (fun h => ?_) (fun h => ?_) | refine Run.condE (fun h => ?_) (fun h => ?_) | refine Run.condF (fun h => ?_) (fun h => ?_) | refine Run.condM (fun h => ?_) (fun h => ?_) | refine Run.condB (fun h => ?_) (fun h => ?_) | refine Run.check1 ?_ | refine Run.need1 (by simp only [allP, true_and, and_true]; omega) ?_ | refine Run.round ⟨[], [], []⟩ (ihc (k + 1) _ _ e2.h (by omega) ?_ ?_) rfl (by (repeat' (first | exact wkEnv_nil | refine wkEnv_cons rfl ?_ | exact wkSto_nil | refine wkSto_none ?_ | refine wkSto_some rfl ?_)); done) (by (repeat' (first | exact wkEnv_nil | refine wkEnv_cons rfl ?_ | exact wkSto_nil | refine wkSto_none ?_ | refine wkSto_some rfl ?_)); done) | (exfalso; omega)
            all_goals clear ih ihc
            all_goals first
              | (exfalso; omega)
              | (simp only [d1.h, d2.h] at *; omega)
              | (simp only [d1.h, d2.h] at *
                 have hx : shUpd a b i k r = (i : Int) - k := by rw [hu.h, if_pos (by omega)]; omega
                 rw [hx] at hee'; exact hee')
              | (simp only [d1.h, d2.h] at *
                 have hx : shUpd a b i k r = (k : Int) - i := by rw [hu.h, if_pos (by omega)]; omega
                 rw [hx] at hee'; exact hee')
              | (simp only [d1.h, d2.h] at *
                 have hx : shUpd a b i k r = r := by
                   rw [hu.h]; split <;> omega
                 rw [hx] at hee'; exact hee')
              | trace_state
        refine Run.loop ?_
        repeat' (conv => arg 4; whnf); first | refine Run.ret ⟨?_, rfl⟩ | refine Run.condT ?_ | refine Run.condf ?_ | refine Run.condD (fun h => ?_) (fun h => ?_) | refine Run.condN (fun h => ?_) (fun h => ?_) | refine Run.condE (fun h => ?_) (fun h => ?_) | refine Run.condF (fun h => ?_) (fun h => ?_) | refine Run.condM (fun h => ?_) (fun h => ?_) | refine Run.condB (fun h => ?_) (fun h => ?_) | refine Run.check1 ?_ | refine Run.round ⟨[], [], []⟩ (inner b.length 0 _ _ rfl (by omega) hs he') rfl (by (repeat' (first | exact wkEnv_nil | refine wkEnv_cons rfl ?_ | exact wkSto_nil | refine wkSto_none ?_ | refine wkSto_some rfl ?_)); done) (by (repeat' (first | exact wkEnv_nil | refine wkEnv_cons rfl ?_ | exact wkSto_nil | refine wkSto_none ?_ | refine wkSto_some rfl ?_)); done) | (exfalso; omega)
        all_goals (exfalso; omega)
    repeat' (conv => arg 4; whnf); first | refine Run.ret ⟨?_, rfl⟩ | refine Run.condT ?_ | refine Run.condf ?_ | refine Run.condD (fun h => ?_) (fun h => ?_) | refine Run.condN (fun h => ?_) (fun h => ?_) | refine Run.condE (fun h => ?_) (fun h => ?_) | refine Run.condF (fun h => ?_) (fun h => ?_) | refine Run.condM (fun h => ?_) (fun h => ?_) | refine Run.condB (fun h => ?_) (fun h => ?_) | refine Run.check1 ?_ | refine Run.call (sordOk_ok _ b.length hb) rfl ?_ | refine Run.call (sordOk_ok _ a.length ha) rfl ?_ | refine Run.round ⟨[], [], []⟩ (outer a.length 0 _ _ rfl (by omega) (by omega) ⟨hf.symm⟩) rfl (by (repeat' (first | exact wkEnv_nil | refine wkEnv_cons rfl ?_ | exact wkSto_nil | refine wkSto_none ?_ | refine wkSto_some rfl ?_)); done) (by (repeat' (first | exact wkEnv_nil | refine wkEnv_cons rfl ?_ | exact wkSto_nil | refine wkSto_none ?_ | refine wkSto_some rfl ?_)); done) | (exfalso; exact ‹¬ (a.length = b.length ∧ IsOrd a)› ⟨hl, h1⟩) | (exfalso; exact ‹¬ (b.length = a.length ∧ IsOrd b)› ⟨hl.symm, h2⟩)
    all_goals first | (exfalso; exact ‹¬ (a.length = b.length ∧ IsOrd a)› ⟨hl, h1⟩) | (exfalso; exact ‹¬ (b.length = a.length ∧ IsOrd b)› ⟨hl.symm, h2⟩) | trace_state
  · have hf : shiftM a b = -1 := if_neg hc
    rw [hf]
    repeat' (conv => arg 4; whnf); first | refine Run.ret ⟨?_, rfl⟩ | refine Run.condT ?_ | refine Run.condf ?_ | refine Run.condD (fun h => ?_) (fun h => ?_) | refine Run.condN (fun h => ?_) (fun h => ?_) | refine Run.condE (fun h => ?_) (fun h => ?_) | refine Run.condF (fun h => ?_) (fun h => ?_) | refine Run.condM (fun h => ?_) (fun h => ?_) | refine Run.condB (fun h => ?_) (fun h => ?_) | refine Run.check1 ?_ | refine Run.call (sordOk_ok _ b.length hb) rfl ?_ | refine Run.call (sordOk_ok _ a.length ha) rfl ?_ | (exfalso; exact hc ⟨(‹a.length = b.length ∧ IsOrd a›).1, (‹a.length = b.length ∧ IsOrd a›).2, (‹b.length = a.length ∧ IsOrd b›).2⟩)
    all_goals first | rfl | trace_state
end Go.Proofs.Ytmppoajepbbmiaa.AM

/- StripOrder, the program's and the reference's; condition: lengths. -/
namespace Go.Proofs.Ytmppoajepbbmiaa.AM
open Go.AM Go.RowKit
set_option linter.unusedVariables false
set_option linter.unusedSimpArgs false
set_option maxRecDepth 100000

theorem order_ok (l : List Mv) (o : List Int) (hl : l.length ≤ 1048576) (hol : o.length ≤ 1048576) : Ok P 21 [.one (.lst .mv l false), .one (.lst (.int .i64) o false)] [] (.tup [.one (.own (.k 0)), .one (.bool (ordF l o).2)]) [some (.row (.int .i64) (ordF l o).1)] := by
  refine nilR_ok (ordF_nil l o) ?_
  refine Ok.of_rel (F := mk Try.f21 0) Try.func21 rfl rfl tabOk mixed rfl rfl rfl rfl rfl (Nat.le_of_ble_eq_true rfl) (by first | exact fun _ _ => nilR_len | exact fun _ _ => nilB_len) (.go 5000 ?_)
  by_cases hc : MovesOk l ∧ o.length = l.length ∧ IsOrd o
  · rw [show ordF l o = ordM l o from if_pos hc]
    obtain ⟨h1, h2, h3⟩ := hc
    repeat' (conv => arg 4; whnf); first | refine Run.ret ⟨?_, rfl⟩ | refine Run.condT ?_ | refine Run.condf ?_ | refine Run.condD (fun h => ?_) (fun h => ?_) | refine Run.condN (fun h => ?_) (fun h => ?_) | refine Run.condE (fun h => ?_) (fun h => ?_) | refine Run.condF (fun h => ?_) (fun h => ?_) | refine Run.condM (fun h => ?_) (fun h => ?_) | refine Run.condB (fun h => ?_) (fun h => ?_) | refine Run.check1 ?_ | refine Run.call (movesOk_ok _) rfl ?_ | refine Run.call (isOrder_ok _ hol) rfl ?_ | refine Run.call (ordered_ok l o (movesOk_all h1) hl h3 h2) rfl ?_ | (refine Run.ret (.inl ⟨rfl, rfl⟩)) | (exfalso; contradiction) | (exfalso; omega)
  · rw [show ordF l o = ([], false) from if_neg hc]
    repeat' (conv => arg 4; whnf); first | refine Run.ret ⟨?_, rfl⟩ | refine Run.condT ?_ | refine Run.condf ?_ | refine Run.condD (fun h => ?_) (fun h => ?_) | refine Run.condN (fun h => ?_) (fun h => ?_) | refine Run.condE (fun h => ?_) (fun h => ?_) | refine Run.condF (fun h => ?_) (fun h => ?_) | refine Run.condM (fun h => ?_) (fun h => ?_) | refine Run.condB (fun h => ?_) (fun h => ?_) | refine Run.check1 ?_ | refine Run.call (movesOk_ok _) rfl ?_ | refine Run.call (isOrder_ok _ hol) rfl ?_ | (refine Run.ret (.inr ⟨rfl, rfl, rfl⟩)) | (exfalso; exact hc ⟨‹MovesOk l›, by omega, ‹IsOrd o›⟩)
theorem sorder_ok (l : List Mv) (o : List Int) (hl : l.length ≤ 1048576) (hol : o.length ≤ 1048576) : Ok P 22 [.one (.lst .mv l false), .one (.lst (.int .i64) o false)] [] (.tup [.one (.own (.k 0)), .one (.bool (ordF l o).2)]) [some (.row (.int .i64) (ordF l o).1)] := by
  refine Ok.of_run (F := mk Try.f22 0) Try.func22 rfl rfl tabOk mixed rfl rfl rfl rfl rfl (Nat.le_of_ble_eq_true rfl) (Nat.le_of_ble_eq_true rfl) (.go 5000 ?_)
  by_cases hc : MovesOk l ∧ o.length = l.length ∧ IsOrd o
  · rw [show ordF l o = ordM l o from if_pos hc]
    obtain ⟨h1, h2, h3⟩ := hc
    repeat' (conv => arg 4; whnf); first | refine Run.ret ⟨?_, rfl⟩ | refine Run.condT ?_ | refine Run.condf ?_ | refine Run.condD (fun h => ?_) (fun h => ?_) | refine Run.condN (fun h => ?_) (fun h => ?_) | refine Run.condE (fun h => ?_) (fun h => ?_) | refine Run.condF (fun h => ?_) (fun h => ?_) | refine Run.condM (fun h => ?_) (fun h => ?_) | refine Run.condB (fun h => ?_) (fun h => ?_) | refine Run.check1 ?_ | refine Run.call (smovesOk_ok _) rfl ?_ | refine Run.call (sordOk_ok _ l.length hl) rfl ?_ | refine Run.call (sordered_ok l o (movesOk_all h1) hl h3 h2) rfl ?_ | (exfalso; contradiction) | (exfalso; exact absurd (And.intro h2 h3) ‹_›)
    all_goals first | rfl | (exfalso; exact absurd h1 ‹_›) | (exfalso; exact absurd (And.intro h2 h3) ‹_›) | trace_state
  · rw [show ordF l o = ([], false) from if_neg hc]
    repeat' (conv => arg 4; whnf); first | refine Run.ret ⟨?_, rfl⟩ | refine Run.condT ?_ | refine Run.condf ?_ | refine Run.condD (fun h => ?_) (fun h => ?_) | refine Run.condN (fun h => ?_) (fun h => ?_) | refine Run.condE (fun h => ?_) (fun h => ?_) | refine Run.condF (fun h => ?_) (fun h => ?_) | refine Run.condM (fun h => ?_) (fun h => ?_) | refine Run.condB (fun h => ?_) (fun h => ?_) | refine Run.check1 ?_ | refine Run.call (smovesOk_ok _) rfl ?_ | refine Run.call (sordOk_ok _ l.length hl) rfl ?_ | (exfalso; exact hc ⟨‹MovesOk l›, ‹o.length = l.length ∧ IsOrd o›⟩)
    all_goals first | rfl | trace_state
end Go.Proofs.Ytmppoajepbbmiaa.AM

/- StripFits, the program's and the reference's; condition: the ticks are of 64 bits. -/
namespace Go.Proofs.Ytmppoajepbbmiaa.AM
open Go.AM Go.RowKit
set_option linter.unusedVariables false
set_option linter.unusedSimpArgs false
set_option maxRecDepth 100000

theorem fits_ok (l : List Mv) (t : List Int) (hw : TkWf t) : Ok P 26 [.one (.lst .mv l false), .one (.lst (.int .i64) t false)] [] (.one (.bool (decide (Fits l t)))) [] := by
  refine Ok.of_run (F := mk Try.f26 0) Try.func26 rfl rfl tabOk mixed rfl rfl rfl rfl rfl (Nat.le_of_ble_eq_true rfl) (Nat.le_of_ble_eq_true rfl) (.go 5000 ?_)
  have outer : MovesOk l → t.length = l.length → ∀ (d i : Nat) (z : Int), z = i → i + d = l.length → (∀ j, j < i → FitsAt l t j) → Run P (mk Try.f26 0) (fun v st => v = .one (.bool (decide (Fits l t))) ∧ st = []) (.loop ⟨[(0, .one (.lst .mv l false)), (1, .one (.lst (.int .i64) t false)), (19, .one (.lst .mv l false)), (20, .one (.int .i64 (l.length : Int))), (21, .one (.int .i64 z))], [], [.lp [0, 1, 0, 1, 1], .blk 0, .code [1, 1, 1]], none⟩) := by
    intro hm hlen d
    have h6 := hm.1
    induction d with
    | zero =>
      intro i z hz hd hall
      subst hz
      refine Run.loop ?_
      repeat' (conv => arg 4; whnf); first | refine Run.ret ⟨?_, rfl⟩ | refine Run.condT ?_ | refine Run.condf ?_ | refine Run.condD (fun h => ?_) (fun h => ?_) | refine Run.condN (fun h => ?_) (fun h => ?_) | refine Run.condE (fun h => ?_) (fun h => ?_) | refine Run.condF (fun h => ?_) (fun h => ?_) | refine Run.condM (fun h => ?_) (fun h => ?_) | refine Run.condB (fun h => ?_) (fun h => ?_) | refine Run.check1 ?_ | (exfalso; omega)
      all_goals first
        | (exfalso; omega)
        | exact fits_yes ⟨hm, hlen, fun j hj => hall j (by omega)⟩
    | succ d ih =>
      intro i z hz hd hall
      subst hz
      have e : wrap64 ((i : Int) + 1) = ((i + 1 : Nat) : Int) := wrap_eq (by omega) (by omega)
      have no : ¬ FitsAt l t i → V.one (A.bool false) = V.one (A.bool (decide (Fits l t))) := fun h => fits_no fun k => h (k.2.2 i (by omega))
      have inner : InR l t i → ∀ (c k : Nat) (z : Int), z = k → k + c = l.length → (∀ j, j < k → j ≠ i → Ap l t i j) → Run P (mk Try.f26 0) (fun v st => v = .one (.bool (decide (Fits l t))) ∧ st = []) (.loop ⟨[(0, .one (.lst .mv l false)), (1, .one (.lst (.int .i64) t false)), (5, .one (.int .i64 (i : Int))), (6, .one (.ptr (.t 6 0) 0)), (19, .one (.lst .mv l false)), (20, .one (.int .i64 (l.length : Int))), (21, .one (.int .i64 (i : Int))), (50, .one (.lst .mv l false)), (51, .one (.int .i64 (l.length : Int))), (52, .one (.int .i64 z))], [(.t 6 0, some (.cells (encMv (rdM l i))))], [.lp [0, 1, 1, 1, 0, 0, 1, 1, 0, 0, 1, 0, 1, 1], .blk 2, .blk 1, .code [1, 1, 1, 0, 0, 1, 0, 1, 1], .lp [0, 1, 0, 1, 1], .blk 0, .code [1, 1, 1]], none⟩) := by
        intro hin c
        have hr := inR_range hm (by omega) hin
        induction c with
        | zero =>
          intro k z hz hc hap
          subst hz
          refine Run.loop ?_
          repeat' (conv => arg 4; whnf); first | refine Run.ret ⟨?_, rfl⟩ | refine Run.condT ?_ | refine Run.condf ?_ | refine Run.condD (fun h => ?_) (fun h => ?_) | refine Run.condN (fun h => ?_) (fun h => ?_) | refine Run.condE (fun h => ?_) (fun h => ?_) | refine Run.condF (fun h => ?_) (fun h => ?_) | refine Run.condM (fun h => ?_) (fun h => ?_) | refine Run.condB (fun h => ?_) (fun h => ?_) | refine Run.check1 ?_ | (exfalso; omega) | refine Run.round ⟨[], [], []⟩ (ih (i + 1) _ e (by omega) ?_) rfl (by (repeat' (first | exact wkEnv_nil | refine wkEnv_cons rfl ?_ | exact wkSto_nil | refine wkSto_none ?_ | refine wkSto_some rfl ?_)); done) (by (repeat' (first | exact wkEnv_nil | refine wkEnv_cons rfl ?_ | exact wkSto_nil | refine wkSto_none ?_ | refine wkSto_some rfl ?_)); done)
          all_goals first
            | (exfalso; omega)
            | (intro j hj; rcases Nat.lt_or_ge j i with h1 | h1
               · exact hall j h1
               · obtain rfl : j = i := by omega
                 exact ⟨hin, fun q hq => hap q (by omega)⟩)
        | succ c ihc =>
          intro k z hz hc hap
          subst hz
          have e2 : wrap64 ((k : Int) + 1) = ((k + 1 : Nat) : Int) := wrap_eq (by omega) (by omega)
          have hA : Ap l t i k ↔ (rd t i ≠ rd t k ∧ (rd t i < rd t k → gap (rdM l i) (rdM l k) ≤ wrap64 (rd t k - rd t i))) := by
            have hk := hw k (by omega)
            unfold W64 at hk
            simp only [rdM_nat, rd_nat, Ap]
            refine and_congr_right fun _ => imp_congr_right fun h => ?_
            rw [wrap_eq (by omega) (by omega)]
          refine Run.loop ?_
          repeat' (conv => arg 4; whnf); first | refine Run.ret ⟨?_, rfl⟩ | refine Run.condT ?_ | refine Run.condf ?_ | refine Run.condD (fun h => ?_) (fun h => ?_) | refine Run.condN (fun h => ?_) (fun h => ?_) | refine Run.condE (fun h => ?_) (fun h => ?_) | refine Run.condF (fun h => ?_) (fun h => ?_) | refine Run.condM (fun h => ?_) (fun h => ?_) | refine Run.condB (fun h => ?_) (fun h => ?_) | refine Run.check1 ?_ | refine Run.call (gap_ok _ _) rfl ?_ | refine Run.need1 (by simp only [allP, true_and, and_true]; omega) ?_ | refine Run.round ⟨[(.t 6 0, .t 6 0)], [], []⟩ (ihc (k + 1) _ e2 (by omega) ?_) rfl (by (repeat' (first | exact wkEnv_nil | refine wkEnv_cons rfl ?_ | exact wkSto_nil | refine wkSto_none ?_ | refine wkSto_some rfl ?_)); done) (by (repeat' (first | exact wkEnv_nil | refine wkEnv_cons rfl ?_ | exact wkSto_nil | refine wkSto_none ?_ | refine wkSto_some rfl ?_)); done) | (exfalso; omega)
          all_goals first
            | (exfalso; omega)
            | (refine no fun q => ?_; have a := hA.1 (q.2 k (by omega) (by omega)); omega)
            | (intro j hj hne; rcases Nat.lt_or_ge j k with h1 | h1
               · exact hap j h1 hne
               · obtain rfl : j = k := by omega
                 exact hA.2 (by omega))
            | (intro j hj hne; exact hap j (by omega) hne)
            | trace_state
      have hI : InR l t i ↔ (((rdM l i).f3 ≤ rd t i ∧ rd t i ≤ (rdM l i).f4) ∧ (0 ≤ (rdM l i).f5 → rd t i = (rdM l i).f5)) := by
        simp only [rdM_nat, rd_nat, InR]
      refine Run.loop ?_
      repeat' (conv => arg 4; whnf); first | refine Run.ret ⟨?_, rfl⟩ | refine Run.condT ?_ | refine Run.condf ?_ | refine Run.condD (fun h => ?_) (fun h => ?_) | refine Run.condN (fun h => ?_) (fun h => ?_) | refine Run.condE (fun h => ?_) (fun h => ?_) | refine Run.condF (fun h => ?_) (fun h => ?_) | refine Run.condM (fun h => ?_) (fun h => ?_) | refine Run.condB (fun h => ?_) (fun h => ?_) | refine Run.check1 ?_ | refine Run.call (in_ok _ _ _) rfl ?_ | refine Run.need1 (by simp only [allP, true_and, and_true]; omega) ?_ | refine Run.round ⟨[(.t 6 0, .t 6 0)], [], []⟩ (inner ?_ l.length 0 _ rfl ?_ ?_) rfl (by (repeat' (first | exact wkEnv_nil | refine wkEnv_cons rfl ?_ | exact wkSto_nil | refine wkSto_none ?_ | refine wkSto_some rfl ?_)); done) (by (repeat' (first | exact wkEnv_nil | refine wkEnv_cons rfl ?_ | exact wkSto_nil | refine wkSto_none ?_ | refine wkSto_some rfl ?_)); done) | (exfalso; omega)
      all_goals first
        | (exfalso; omega)
        | omega
        | (refine no fun q => ?_; have a := hI.1 q.1; omega)
        | exact hI.2 (by omega)
        | trace_state
  repeat' (conv => arg 4; whnf); first | refine Run.ret ⟨?_, rfl⟩ | refine Run.condT ?_ | refine Run.condf ?_ | refine Run.condD (fun h => ?_) (fun h => ?_) | refine Run.condN (fun h => ?_) (fun h => ?_) | refine Run.condE (fun h => ?_) (fun h => ?_) | refine Run.condF (fun h => ?_) (fun h => ?_) | refine Run.condM (fun h => ?_) (fun h => ?_) | refine Run.condB (fun h => ?_) (fun h => ?_) | refine Run.check1 ?_ | refine Run.call (movesOk_ok _) rfl ?_ | refine Run.round ⟨[], [], []⟩ (outer ?_ ?_ l.length 0 _ rfl ?_ ?_) rfl (by (repeat' (first | exact wkEnv_nil | refine wkEnv_cons rfl ?_ | exact wkSto_nil | refine wkSto_none ?_ | refine wkSto_some rfl ?_)); done) (by (repeat' (first | exact wkEnv_nil | refine wkEnv_cons rfl ?_ | exact wkSto_nil | refine wkSto_none ?_ | refine wkSto_some rfl ?_)); done)
  all_goals first
    | omega
    | assumption
    | (refine fits_no fun k => ?_; have := k.1; have := k.2.1; simp_all; done)
    | trace_state
end Go.Proofs.Ytmppoajepbbmiaa.AM

/- StripFits of the reference, StripCost without the reference's; condition: the ticks are of 64 bits. -/
namespace Go.Proofs.Ytmppoajepbbmiaa.AM
open Go.AM Go.RowKit
set_option linter.unusedVariables false
set_option linter.unusedSimpArgs false
set_option maxRecDepth 100000

theorem sapart_ok (a : Mv) (s : Int) (b : Mv) (t : Int) (hs : 0 ≤ s ∧ s ≤ 10000) (ht : 0 ≤ t ∧ t ≤ 10000) : Ok P 112 [.agg (encMv a), .one (.int .i64 s), .agg (encMv b), .one (.int .i64 t)] [] (.one (.bool (decide (ap2 a s b t)))) [] := by
  refine Ok.of_run (F := mk Try.f112 0) Try.func112 rfl rfl tabOk mixed rfl rfl rfl rfl rfl (Nat.le_of_ble_eq_true rfl) (Nat.le_of_ble_eq_true rfl) (.go 5000 ?_)
  have e1 : wrap64 (s - t) = s - t := wrap_eq (by omega) (by omega)
  have e2 : wrap64 (t - s) = t - s := wrap_eq (by omega) (by omega)
  repeat' (conv => arg 4; whnf); first | refine Run.ret ⟨?_, rfl⟩ | refine Run.condT ?_ | refine Run.condf ?_ | refine Run.condD (fun h => ?_) (fun h => ?_) | refine Run.condN (fun h => ?_) (fun h => ?_) | refine Run.condE (fun h => ?_) (fun h => ?_) | refine Run.condF (fun h => ?_) (fun h => ?_) | refine Run.condM (fun h => ?_) (fun h => ?_) | refine Run.condB (fun h => ?_) (fun h => ?_) | refine Run.check1 ?_ | refine Run.call (sgap_ok _ _) rfl ?_
  all_goals (refine vb ?_; rw [decide_eq_true_eq (p := ap2 _ _ _ _)]; unfold ap2; simp only [decide_eq_true_eq, e1, e2, Bool.false_eq_true, false_iff]; omega)
theorem sfits_ok (l : List Mv) (t : List Int) (hw : TkWf t) : Ok P 85 [.one (.lst .mv l false), .one (.lst (.int .i64) t false)] [] (.one (.bool (decide (Fits l t)))) [] := by
  refine Ok.of_run (F := mk Try.f85 0) Try.func85 rfl rfl tabOk mixed rfl rfl rfl rfl rfl (Nat.le_of_ble_eq_true rfl) (Nat.le_of_ble_eq_true rfl) (.go 5000 ?_)
  have outer : MovesOk l → t.length = l.length → ∀ (d i : Nat) (z : Int), z = i → i + d = l.length → (∀ j, j < i → FitsSp l t j) → Run P (mk Try.f85 0) (fun v st => v = .one (.bool (decide (Fits l t))) ∧ st = []) (.loop ⟨[(0, .one (.lst .mv l false)), (1, .one (.lst (.int .i64) t false)), (5, .one (.int .i64 z))], [], [.lp [0, 1, 0, 1, 1], .blk 0, .code [1, 1, 1]], none⟩) := by
    intro hm hlen d
    have h6 := hm.1
    induction d with
    | zero =>
      intro i z hz hd hall
      subst hz
      refine Run.loop ?_
      repeat' (conv => arg 4; whnf); first | refine Run.ret ⟨?_, rfl⟩ | refine Run.condT ?_ | refine Run.condf ?_ | refine Run.condD (fun h => ?_) (fun h => ?_) | refine Run.condN (fun h => ?_) (fun h => ?_) | refine Run.condE (fun h => ?_) (fun h => ?_) | refine Run.condF (fun h => ?_) (fun h => ?_) | refine Run.condM (fun h => ?_) (fun h => ?_) | refine Run.condB (fun h => ?_) (fun h => ?_) | refine Run.check1 ?_ | (exfalso; omega)
      all_goals first
        | (exfalso; omega)
        | exact fits_yes ⟨hm, hlen, (fitsSp_iff l t).1 fun j hj => hall j (by omega)⟩
    | succ d ih =>
      intro i z hz hd hall
      subst hz
      have e : wrap64 ((i : Int) + 1) = ((i + 1 : Nat) : Int) := wrap_eq (by omega) (by omega)
      have no : ¬ FitsSp l t i → V.one (A.bool false) = V.one (A.bool (decide (Fits l t))) := fun h => fits_no fun k => h ((fitsSp_iff l t).2 k.2.2 i (by omega))
      have inner : InR l t i → ∀ (c k : Nat) (z : Int), z = k → k + c = i → (∀ j, j < k → Ap l t j i ∧ Ap l t i j) → Run P (mk Try.f85 0) (fun v st => v = .one (.bool (decide (Fits l t))) ∧ st = []) (.loop ⟨[(0, .one (.lst .mv l false)), (1, .one (.lst (.int .i64) t false)), (5, .one (.int .i64 (i : Int))), (6, .one (.int .i64 z))], [], [.lp [0, 1, 1, 0, 0, 1, 0, 0, 1, 0, 1, 1], .blk 2, .blk 1, .code [1, 1, 0, 0, 1, 0, 1, 1], .lp [0, 1, 0, 1, 1], .blk 0, .code [1, 1, 1]], none⟩) := by
        intro hin c
        have hr := inR_range hm (by omega) hin
        induction c with
        | zero =>
          intro k z hz hc hap
          subst hz
          refine Run.loop ?_
          repeat' (conv => arg 4; whnf); first | refine Run.ret ⟨?_, rfl⟩ | refine Run.condT ?_ | refine Run.condf ?_ | refine Run.condD (fun h => ?_) (fun h => ?_) | refine Run.condN (fun h => ?_) (fun h => ?_) | refine Run.condE (fun h => ?_) (fun h => ?_) | refine Run.condF (fun h => ?_) (fun h => ?_) | refine Run.condM (fun h => ?_) (fun h => ?_) | refine Run.condB (fun h => ?_) (fun h => ?_) | refine Run.check1 ?_ | (exfalso; omega) | refine Run.round ⟨[], [], []⟩ (ih (i + 1) _ e (by omega) ?_) rfl (by (repeat' (first | exact wkEnv_nil | refine wkEnv_cons rfl ?_ | exact wkSto_nil | refine wkSto_none ?_ | refine wkSto_some rfl ?_)); done) (by (repeat' (first | exact wkEnv_nil | refine wkEnv_cons rfl ?_ | exact wkSto_nil | refine wkSto_none ?_ | refine wkSto_some rfl ?_)); done)
          all_goals first
            | (exfalso; omega)
            | (intro j hj; rcases Nat.lt_or_ge j i with h1 | h1
               · exact hall j h1
               · obtain rfl : j = i := by omega
                 exact ⟨hin, fun q hq => hap q (by omega)⟩)
        | succ c ihc =>
          intro k z hz hc hap
          subst hz
          have e2 : wrap64 ((k : Int) + 1) = ((k + 1 : Nat) : Int) := wrap_eq (by omega) (by omega)
          have hA : ap2 (rdM l k) (rd t k) (rdM l i) (rd t i) ↔ Ap l t k i ∧ Ap l t i k := by
            simp only [rdM_nat, rd_nat, Ap, ap2]
            omega
          have hrk := inR_range hm (i := k) (by omega) (hall k (by omega)).1
          refine Run.loop ?_
          repeat' (conv => arg 4; whnf); first | refine Run.ret ⟨?_, rfl⟩ | refine Run.condT ?_ | refine Run.condf ?_ | refine Run.condD (fun h => ?_) (fun h => ?_) | refine Run.condN (fun h => ?_) (fun h => ?_) | refine Run.condE (fun h => ?_) (fun h => ?_) | refine Run.condF (fun h => ?_) (fun h => ?_) | refine Run.condM (fun h => ?_) (fun h => ?_) | refine Run.condB (fun h => ?_) (fun h => ?_) | refine Run.check1 ?_ | refine Run.call (sapart_ok _ _ _ _ (by rw [rd_nat]; exact hrk) (by rw [rd_nat]; exact hr)) rfl ?_ | refine Run.need1 (by simp only [allP, true_and, and_true]; omega) ?_ | refine Run.round ⟨[], [], []⟩ (ihc (k + 1) _ e2 (by omega) ?_) rfl (by (repeat' (first | exact wkEnv_nil | refine wkEnv_cons rfl ?_ | exact wkSto_nil | refine wkSto_none ?_ | refine wkSto_some rfl ?_)); done) (by (repeat' (first | exact wkEnv_nil | refine wkEnv_cons rfl ?_ | exact wkSto_nil | refine wkSto_none ?_ | refine wkSto_some rfl ?_)); done) | (exfalso; omega)
          all_goals first
            | (exfalso; omega)
            | (refine no fun q => ?_; exact absurd (hA.2 (q.2 k (by omega))) ‹_›)
            | (intro j hj; rcases Nat.lt_or_ge j k with h1 | h1
               · exact hap j h1
               · obtain rfl : j = k := by omega
                 exact hA.1 ‹_›)
            | trace_state
      have hI : InR l t i ↔ (((rdM l i).f3 ≤ rd t i ∧ rd t i ≤ (rdM l i).f4) ∧ (0 ≤ (rdM l i).f5 → rd t i = (rdM l i).f5)) := by
        simp only [rdM_nat, rd_nat, InR]
      refine Run.loop ?_
      repeat' (conv => arg 4; whnf); first | refine Run.ret ⟨?_, rfl⟩ | refine Run.condT ?_ | refine Run.condf ?_ | refine Run.condD (fun h => ?_) (fun h => ?_) | refine Run.condN (fun h => ?_) (fun h => ?_) | refine Run.condE (fun h => ?_) (fun h => ?_) | refine Run.condF (fun h => ?_) (fun h => ?_) | refine Run.condM (fun h => ?_) (fun h => ?_) | refine Run.condB (fun h => ?_) (fun h => ?_) | refine Run.check1 ?_ | refine Run.call (sin_ok _ _ _) rfl ?_ | refine Run.need1 (by simp only [allP, true_and, and_true]; omega) ?_ | refine Run.round ⟨[], [], []⟩ (inner ?_ i 0 _ rfl ?_ ?_) rfl (by (repeat' (first | exact wkEnv_nil | refine wkEnv_cons rfl ?_ | exact wkSto_nil | refine wkSto_none ?_ | refine wkSto_some rfl ?_)); done) (by (repeat' (first | exact wkEnv_nil | refine wkEnv_cons rfl ?_ | exact wkSto_nil | refine wkSto_none ?_ | refine wkSto_some rfl ?_)); done) | (exfalso; omega)
      all_goals first
        | (exfalso; omega)
        | omega
        | (refine no fun q => ?_; have a := hI.1 q.1; omega)
        | exact hI.2 (by omega)
        | trace_state
  repeat' (conv => arg 4; whnf); first | refine Run.ret ⟨?_, rfl⟩ | refine Run.condT ?_ | refine Run.condf ?_ | refine Run.condD (fun h => ?_) (fun h => ?_) | refine Run.condN (fun h => ?_) (fun h => ?_) | refine Run.condE (fun h => ?_) (fun h => ?_) | refine Run.condF (fun h => ?_) (fun h => ?_) | refine Run.condM (fun h => ?_) (fun h => ?_) | refine Run.condB (fun h => ?_) (fun h => ?_) | refine Run.check1 ?_ | refine Run.call (smovesOk_ok _) rfl ?_ | refine Run.round ⟨[], [], []⟩ (outer ?_ ?_ l.length 0 _ rfl ?_ ?_) rfl (by (repeat' (first | exact wkEnv_nil | refine wkEnv_cons rfl ?_ | exact wkSto_nil | refine wkSto_none ?_ | refine wkSto_some rfl ?_)); done) (by (repeat' (first | exact wkEnv_nil | refine wkEnv_cons rfl ?_ | exact wkSto_nil | refine wkSto_none ?_ | refine wkSto_some rfl ?_)); done)
  all_goals first
    | omega
    | assumption
    | (refine fits_no fun k => ?_; have := k.1; have := k.2.1; simp_all; done)
    | trace_state
theorem scost2_ok (l : List Mv) (t : List Int) (h : DlOk l t) : Ok P 128 [.one (.lst .mv l false), .one (.lst (.int .i64) t false)] [] (.tup [.one (.int .i64 (costM l t).1), .one (.int .i64 (costM l t).2)]) [] := by
  refine Ok.of_run (F := mk Try.f128 0) Try.func128 rfl rfl tabOk mixed rfl rfl rfl rfl rfl (Nat.le_of_ble_eq_true rfl) (Nat.le_of_ble_eq_true rfl) (.go 5000 ?_)
  obtain ⟨hlen, h6, hd⟩ := h
  have loop : ∀ (d i : Nat) (z s m : Int), z = i → i + d = l.length → CInv i (s, m) → foldFrom (cStep l t) i d (s, m) = costM l t → Run P (mk Try.f128 0) (fun v st => v = .tup [.one (.int .i64 (costM l t).1), .one (.int .i64 (costM l t).2)] ∧ st = []) (.loop ⟨[(0, .one (.lst .mv l false)), (1, .one (.lst (.int .i64) t false)), (6, .one (.int .i64 s)), (7, .one (.int .i64 m)), (8, .one (.int .i64 z))], [], [.lp [0, 1, 0, 1, 1, 1], .blk 0, .code [1, 1, 1, 1]], none⟩) := by
    intro d
    induction d with
    | zero =>
      intro i z s m hz hi hc he
      subst hz
      refine Run.loop ?_
      repeat' (conv => arg 4; whnf); first | refine Run.ret ⟨?_, rfl⟩ | refine Run.condT ?_ | refine Run.condf ?_ | refine Run.condD (fun h => ?_) (fun h => ?_) | refine Run.condN (fun h => ?_) (fun h => ?_) | refine Run.condE (fun h => ?_) (fun h => ?_) | refine Run.condF (fun h => ?_) (fun h => ?_) | refine Run.condM (fun h => ?_) (fun h => ?_) | refine Run.condB (fun h => ?_) (fun h => ?_) | refine Run.check1 ?_ | (exfalso; omega)
      all_goals first
        | (exfalso; omega)
        | (rw [← he]; rfl)
    | succ d ih =>
      intro i z s m hz hi hc he
      subst hz
      have e : wrap64 ((i : Int) + 1) = ((i + 1 : Nat) : Int) := wrap_eq (by omega) (by omega)
      have hdi := hd i (by omega)
      have hc' := cInv_step hdi hc
      have ed : wrap64 (rd t i - (rdM l i).f3) = dl l t i := by simp only [rd_nat, rdM_nat]; exact wrap_eq (by unfold dl at hdi; omega) (by unfold dl at hdi; omega)
      have es : wrap64 (s + dl l t i) = s + dl l t i := by unfold CInv at hc; exact wrap_eq (by omega) (by omega)
      refine Run.loop ?_
      repeat' (conv => arg 4; whnf); first | refine Run.ret ⟨?_, rfl⟩ | refine Run.condT ?_ | refine Run.condf ?_ | refine Run.condD (fun h => ?_) (fun h => ?_) | refine Run.condN (fun h => ?_) (fun h => ?_) | refine Run.condE (fun h => ?_) (fun h => ?_) | refine Run.condF (fun h => ?_) (fun h => ?_) | refine Run.condM (fun h => ?_) (fun h => ?_) | refine Run.condB (fun h => ?_) (fun h => ?_) | refine Run.check1 ?_ | refine Run.need1 (by simp only [allP, true_and, and_true]; omega) ?_ | refine Run.round ⟨[], [], []⟩ (ih (i + 1) _ _ _ e (by omega) ?_ ?_) rfl (by (repeat' (first | exact wkEnv_nil | refine wkEnv_cons rfl ?_ | exact wkSto_nil | refine wkSto_none ?_ | refine wkSto_some rfl ?_)); done) (by (repeat' (first | exact wkEnv_nil | refine wkEnv_cons rfl ?_ | exact wkSto_nil | refine wkSto_none ?_ | refine wkSto_some rfl ?_)); done) | (exfalso; omega)
      all_goals first
        | (exfalso; omega)
        | (simp only [ed, es] at *
           have em : max m (dl l t i) = dl l t i := by omega
           simp only [foldFrom, cStep, em] at hc' he
           first | exact hc' | exact he)
        | (simp only [ed, es] at *
           have em : max m (dl l t i) = m := by omega
           simp only [foldFrom, cStep, em] at hc' he
           first | exact hc' | exact he)
        | (simp only [ed, es] at *
           simp only [foldFrom, cStep] at hc' he
           first | exact hc' | exact he)
        | trace_state
  repeat' (conv => arg 4; whnf); first | refine Run.ret ⟨?_, rfl⟩ | refine Run.condT ?_ | refine Run.condf ?_ | refine Run.condD (fun h => ?_) (fun h => ?_) | refine Run.condN (fun h => ?_) (fun h => ?_) | refine Run.condE (fun h => ?_) (fun h => ?_) | refine Run.condF (fun h => ?_) (fun h => ?_) | refine Run.condM (fun h => ?_) (fun h => ?_) | refine Run.condB (fun h => ?_) (fun h => ?_) | refine Run.check1 ?_ | refine Run.round ⟨[], [], []⟩ (loop l.length 0 _ _ _ rfl ?_ ?_ ?_) rfl (by (repeat' (first | exact wkEnv_nil | refine wkEnv_cons rfl ?_ | exact wkSto_nil | refine wkSto_none ?_ | refine wkSto_some rfl ?_)); done) (by (repeat' (first | exact wkEnv_nil | refine wkEnv_cons rfl ?_ | exact wkSto_nil | refine wkSto_none ?_ | refine wkSto_some rfl ?_)); done)
  all_goals first | omega | rfl | (unfold CInv; simp) | trace_state
theorem cost_ok (l : List Mv) (t : List Int) (hw : TkWf t) : Ok P 31 [.one (.lst .mv l false), .one (.lst (.int .i64) t false)] [] (.tup [.one (.int .i64 (costF l t).1), .one (.int .i64 (costF l t).2)]) [] := by
  refine Ok.of_run (F := mk Try.f31 0) Try.func31 rfl rfl tabOk mixed rfl rfl rfl rfl rfl (Nat.le_of_ble_eq_true rfl) (Nat.le_of_ble_eq_true rfl) (.go 5000 ?_)
  by_cases hf : Fits l t
  · rw [show costF l t = costM l t from if_pos hf]
    obtain ⟨hlen, h6, hd⟩ := fits_dl hf
    have loop : ∀ (d i : Nat) (z s m : Int), z = i → i + d = l.length → CInv i (s, m) → foldFrom (cStep l t) i d (s, m) = costM l t → Run P (mk Try.f31 0) (fun v st => v = .tup [.one (.int .i64 (costM l t).1), .one (.int .i64 (costM l t).2)] ∧ st = []) (.loop ⟨[(1, .one (.lst (.int .i64) t false)), (6, .one (.int .i64 s)), (7, .one (.int .i64 m)), (14, .one (.lst .mv l false)), (15, .one (.int .i64 (l.length : Int))), (16, .one (.int .i64 z))], [], [.lp [0, 1, 0, 1, 1, 1], .blk 0, .code [1, 1, 1, 1]], none⟩) := by
      intro d
      induction d with
      | zero =>
        intro i z s m hz hi hc he
        subst hz
        refine Run.loop ?_
        repeat' (conv => arg 4; whnf); first | refine Run.ret ⟨?_, rfl⟩ | refine Run.condT ?_ | refine Run.condf ?_ | refine Run.condD (fun h => ?_) (fun h => ?_) | refine Run.condN (fun h => ?_) (fun h => ?_) | refine Run.condE (fun h => ?_) (fun h => ?_) | refine Run.condF (fun h => ?_) (fun h => ?_) | refine Run.condM (fun h => ?_) (fun h => ?_) | refine Run.condB (fun h => ?_) (fun h => ?_) | refine Run.check1 ?_ | (exfalso; omega)
        all_goals first
          | (exfalso; omega)
          | (rw [← he]; rfl)
      | succ d ih =>
        intro i z s m hz hi hc he
        subst hz
        have e : wrap64 ((i : Int) + 1) = ((i + 1 : Nat) : Int) := wrap_eq (by omega) (by omega)
        have hdi := hd i (by omega)
        have hc' := cInv_step hdi hc
        have ed : wrap64 (rd t i - (rdM l i).f3) = dl l t i := by simp only [rd_nat, rdM_nat]; exact wrap_eq (by unfold dl at hdi; omega) (by unfold dl at hdi; omega)
        have es : wrap64 (s + dl l t i) = s + dl l t i := by unfold CInv at hc; exact wrap_eq (by omega) (by omega)
        refine Run.loop ?_
        repeat' (conv => arg 4; whnf); first | refine Run.ret ⟨?_, rfl⟩ | refine Run.condT ?_ | refine Run.condf ?_ | refine Run.condD (fun h => ?_) (fun h => ?_) | refine Run.condN (fun h => ?_) (fun h => ?_) | refine Run.condE (fun h => ?_) (fun h => ?_) | refine Run.condF (fun h => ?_) (fun h => ?_) | refine Run.condM (fun h => ?_) (fun h => ?_) | refine Run.condB (fun h => ?_) (fun h => ?_) | refine Run.check1 ?_ | refine Run.need1 (by simp only [allP, true_and, and_true]; omega) ?_ | refine Run.round ⟨[], [], []⟩ (ih (i + 1) _ _ _ e (by omega) ?_ ?_) rfl (by (repeat' (first | exact wkEnv_nil | refine wkEnv_cons rfl ?_ | exact wkSto_nil | refine wkSto_none ?_ | refine wkSto_some rfl ?_)); done) (by (repeat' (first | exact wkEnv_nil | refine wkEnv_cons rfl ?_ | exact wkSto_nil | refine wkSto_none ?_ | refine wkSto_some rfl ?_)); done) | (exfalso; omega)
        all_goals first
          | (exfalso; omega)
          | (simp only [ed, es] at *
             have em : max m (dl l t i) = dl l t i := by omega
             simp only [foldFrom, cStep, em] at hc' he
             first | exact hc' | exact he)
          | (simp only [ed, es] at *
             have em : max m (dl l t i) = m := by omega
             simp only [foldFrom, cStep, em] at hc' he
             first | exact hc' | exact he)
          | (simp only [ed, es] at *
             simp only [foldFrom, cStep] at hc' he
             first | exact hc' | exact he)
          | trace_state
    repeat' (conv => arg 4; whnf); first | refine Run.ret ⟨?_, rfl⟩ | refine Run.condT ?_ | refine Run.condf ?_ | refine Run.condD (fun h => ?_) (fun h => ?_) | refine Run.condN (fun h => ?_) (fun h => ?_) | refine Run.condE (fun h => ?_) (fun h => ?_) | refine Run.condF (fun h => ?_) (fun h => ?_) | refine Run.condM (fun h => ?_) (fun h => ?_) | refine Run.condB (fun h => ?_) (fun h => ?_) | refine Run.check1 ?_ | refine Run.call (fits_ok _ _ hw) rfl ?_ | refine Run.round ⟨[], [], []⟩ (loop l.length 0 _ _ _ rfl ?_ ?_ ?_) rfl (by (repeat' (first | exact wkEnv_nil | refine wkEnv_cons rfl ?_ | exact wkSto_nil | refine wkSto_none ?_ | refine wkSto_some rfl ?_)); done) (by (repeat' (first | exact wkEnv_nil | refine wkEnv_cons rfl ?_ | exact wkSto_nil | refine wkSto_none ?_ | refine wkSto_some rfl ?_)); done)
    all_goals first | omega | rfl | (unfold CInv; simp; done) | exact absurd hf ‹_› | trace_state
  · rw [show costF l t = (0, 0) from if_neg hf]
    repeat' (conv => arg 4; whnf); first | refine Run.ret ⟨?_, rfl⟩ | refine Run.condT ?_ | refine Run.condf ?_ | refine Run.condD (fun h => ?_) (fun h => ?_) | refine Run.condN (fun h => ?_) (fun h => ?_) | refine Run.condE (fun h => ?_) (fun h => ?_) | refine Run.condF (fun h => ?_) (fun h => ?_) | refine Run.condM (fun h => ?_) (fun h => ?_) | refine Run.condB (fun h => ?_) (fun h => ?_) | refine Run.check1 ?_ | refine Run.call (fits_ok _ _ hw) rfl ?_ | (exact absurd ‹_› hf)
    all_goals rfl
end Go.Proofs.Ytmppoajepbbmiaa.AM

/- All orders, the best of the reference; condition: a move list. -/
namespace Go.Proofs.Ytmppoajepbbmiaa.AM
open Go.AM Go.RowKit
set_option linter.unusedVariables false
set_option linter.unusedSimpArgs false
set_option maxRecDepth 100000

def rowF (f : Nat) (o : List Int) : List Int := (f : Int) :: o.map (bump f)
def upAll (n f : Nat) : List (List Int) := (List.range f).flatMap fun f => (allM n).map (rowF f)
theorem upAll_succ (n f : Nat) : upAll n (f + 1) = upAll n f ++ (allM n).map (rowF f) := by
  unfold upAll
  rw [List.range_succ, List.flatMap_append]
  simp
theorem upAll_len (n : Nat) : ∀ f, (upAll n f).length = f * (allM n).length
  | 0 => by simp [upAll]
  | f + 1 => by rw [upAll_succ, List.length_append, upAll_len n f, List.length_map, Nat.succ_mul]
theorem allM_len : ∀ n, n ≤ 6 → (allM n).length ≤ 720 := by decide +kernel
theorem alls_ok : ∀ (n : Nat), n ≤ 6 → Ok P 100 [.one (.int .i64 n)] [] (.one (.own (.k 0))) [some (.row .ints (allM n))] := by
  intro n
  induction n with
  | zero =>
    intro _
    refine Ok.of_run (F := mk Try.f100 0) Try.func100 rfl rfl tabOk mixed rfl rfl rfl rfl rfl (Nat.le_of_ble_eq_true rfl) (Nat.le_of_ble_eq_true rfl) (.go 5000 ?_)
    repeat' (conv => arg 4; whnf); first | refine Run.ret ⟨?_, rfl⟩ | refine Run.condT ?_ | refine Run.condf ?_ | refine Run.condD (fun h => ?_) (fun h => ?_) | refine Run.condN (fun h => ?_) (fun h => ?_) | refine Run.condE (fun h => ?_) (fun h => ?_) | refine Run.condF (fun h => ?_) (fun h => ?_) | refine Run.condM (fun h => ?_) (fun h => ?_) | refine Run.condB (fun h => ?_) (fun h => ?_) | refine Run.check1 ?_ | (exfalso; omega)
    all_goals rfl
  | succ n ihn =>
    intro hn
    have hl := ihn (by omega)
    have hlen := allM_len n (by omega)
    have e := wrap_eq (x := ((n + 1 : Nat) : Int) - 1) (by omega) (by omega)
    rw [show (n : Int) = wrap64 (((n + 1 : Nat) : Int) - 1) by rw [e]; omega] at hl
    refine Ok.of_run (F := mk Try.f100 0) Try.func100 rfl rfl tabOk mixed rfl rfl rfl rfl rfl (Nat.le_of_ble_eq_true rfl) (Nat.le_of_ble_eq_true rfl) (.go 5000 ?_)
    have loop : ∀ (d f : Nat) (z : Int), z = f → f + d = n + 1 → Run P (mk Try.f100 0) (fun v s => v = .one (.own (.k 0)) ∧ s = [some (.row .ints (allM (n + 1)))]) (.loop ⟨[(0, .one (.int .i64 ((n + 1 : Nat) : Int))), (3, .one (.own (.t 1000 0))), (4, .one (.lst .ints (allM n) false)), (5, .one (.int .i64 z))], [(.t 1000 0, some (.row .ints (upAll n f)))], [.lp [0, 1, 0, 1, 1, 1, 1], .blk 0, .code [1, 1, 1, 1, 1]], none⟩) := by
      intro d
      induction d with
      | zero =>
        intro f z hz hd
        subst hz
        obtain rfl : f = n + 1 := by omega
        refine Run.loop ?_
        repeat' (conv => arg 4; whnf); first | refine Run.ret ⟨?_, rfl⟩ | refine Run.condT ?_ | refine Run.condf ?_ | refine Run.condD (fun h => ?_) (fun h => ?_) | refine Run.condN (fun h => ?_) (fun h => ?_) | refine Run.condE (fun h => ?_) (fun h => ?_) | refine Run.condF (fun h => ?_) (fun h => ?_) | refine Run.condM (fun h => ?_) (fun h => ?_) | refine Run.condB (fun h => ?_) (fun h => ?_) | refine Run.check1 ?_ | (exfalso; omega)
        all_goals first | rfl | trace_state
      | succ d ih =>
        intro f z hz hd
        subst hz
        have ef := fs (i := f) (by omega)
        have loop1 : ∀ (c i : Nat) (z : Int), z = i → i + c = (allM n).length → Run P (mk Try.f100 0) (fun v s => v = .one (.own (.k 0)) ∧ s = [some (.row .ints (allM (n + 1)))]) (.loop ⟨[(0, .one (.int .i64 ((n + 1 : Nat) : Int))), (3, .one (.own (.t 1000 0))), (4, .one (.lst .ints (allM n) false)), (5, .one (.int .i64 (f : Int))), (6, .one (.int .i64 z))], [(.t 1000 0, some (.row .ints (upAll n f ++ ((allM n).take i).map (rowF f))))], [.lp [0, 1, 0, 0, 1, 0, 0, 1, 0, 1, 1, 1, 1], .blk 2, .blk 1, .code [1, 1, 0, 0, 1, 0, 1, 1, 1, 1], .lp [0, 1, 0, 1, 1, 1, 1], .blk 0, .code [1, 1, 1, 1, 1]], none⟩) := by
          intro c
          induction c with
          | zero =>
            intro i z hz hc
            subst hz
            obtain rfl : i = (allM n).length := by omega
            rw [List.take_length, ← upAll_succ]
            refine Run.loop ?_
            repeat' (conv => arg 4; whnf); first | refine Run.ret ⟨?_, rfl⟩ | refine Run.condT ?_ | refine Run.condf ?_ | refine Run.condD (fun h => ?_) (fun h => ?_) | refine Run.condN (fun h => ?_) (fun h => ?_) | refine Run.condE (fun h => ?_) (fun h => ?_) | refine Run.condF (fun h => ?_) (fun h => ?_) | refine Run.condM (fun h => ?_) (fun h => ?_) | refine Run.condB (fun h => ?_) (fun h => ?_) | refine Run.check1 ?_ | (exfalso; omega) | refine Run.round ⟨[(.t 1000 0, .t 1000 0)], [], []⟩ (ih (f + 1) _ ef.h (by omega)) rfl (by (repeat' (first | exact wkEnv_nil | refine wkEnv_cons rfl ?_ | exact wkSto_nil | refine wkSto_none ?_ | refine wkSto_some rfl ?_)); done) (by (repeat' (first | exact wkEnv_nil | refine wkEnv_cons rfl ?_ | exact wkSto_nil | refine wkSto_none ?_ | refine wkSto_some rfl ?_)); done)
            all_goals first | rfl | trace_state
          | succ c ih1 =>
            intro i z hz hc
            subst hz
            have ei := fs (i := i) (by omega)
            have hup : (upAll n f ++ ((allM n).take i).map (rowF f)).length ≤ 10000 := by
              rw [List.length_append, upAll_len, List.length_map, List.length_take]
              have := Nat.mul_le_mul (show f ≤ 6 by omega) hlen
              omega
            have hii : rdL (allM n) (i : Int) = (allM n).getD i [] := by unfold rdL; rw [Int.toNat_natCast]
            have hmi : rdL (allM n) (i : Int) ∈ allM n := by rw [hii, List.getD_eq_getElem?_getD, List.getElem?_eq_getElem (by omega)]; exact List.getElem_mem _
            obtain ⟨hrl, hro⟩ := allM_ord hmi
            have hnext : (upAll n f ++ ((allM n).take i).map (rowF f)) ++ [rowF f (rdL (allM n) (i : Int))] = upAll n f ++ ((allM n).take (i + 1)).map (rowF f) := by
              rw [List.append_assoc, hii, List.take_add_one, List.map_append]
              simp [List.getD_eq_getElem?_getD, List.getElem?_eq_getElem (show i < (allM n).length by omega)]
            have ihn1 := ih1 (i + 1) _ ei.h (by omega)
            rw [← hnext] at ihn1
            have loop2 : ∀ (b k : Nat) (z : Int), z = k → k + b = (rdL (allM n) (i : Int)).length → Run P (mk Try.f100 0) (fun v s => v = .one (.own (.k 0)) ∧ s = [some (.row .ints (allM (n + 1)))]) (.loop ⟨[(0, .one (.int .i64 ((n + 1 : Nat) : Int))), (3, .one (.own (.t 1000 0))), (4, .one (.lst .ints (allM n) false)), (5, .one (.int .i64 (f : Int))), (6, .one (.int .i64 (i : Int))), (7, .one (.own (.t 1001 0))), (8, .one (.int .i64 z))],
               [(.t 1000 0, some (.row .ints (upAll n f ++ ((allM n).take i).map (rowF f)))), (.t 1001 0, some (.row (.int .i64) (rowF f ((rdL (allM n) (i : Int)).take k))))], [.lp [0, 1, 0, 1, 0, 0, 1, 0, 0, 1, 0, 0, 1, 0, 0, 1, 0, 1, 1, 1, 1], .blk 4, .code [1, 1, 0, 0, 1, 0, 0, 1, 0, 0, 1, 0, 0, 1, 0, 1, 1, 1, 1], .blk 3, .code [1, 1, 0, 0, 1, 0, 0, 1, 0, 0, 1, 0, 1, 1, 1, 1], .lp [0, 1, 0, 0, 1, 0, 0, 1, 0, 1, 1, 1, 1], .blk 2, .blk 1, .code [1, 1, 0, 0, 1, 0, 1, 1, 1, 1], .lp [0, 1, 0, 1, 1, 1, 1], .blk 0, .code [1, 1, 1, 1, 1]], none⟩) := by
              intro b
              induction b with
              | zero =>
                intro k z hz hb
                subst hz
                obtain rfl : k = (rdL (allM n) (i : Int)).length := by omega
                rw [List.take_length]
                refine Run.round ⟨[(.t 1000 0, .t 1000 0)], [], [.t 1001 0]⟩ (env' := [(0, .one (.int .i64 ((n + 1 : Nat) : Int))), (3, .one (.own (.t 1000 0))), (4, .one (.lst .ints (allM n) false)), (5, .one (.int .i64 (f : Int))), (6, .one (.int .i64 (i : Int))), (7, .one (.lst (.int .i64) (rowF f (rdL (allM n) (i : Int))) false)), (8, .one (.int .i64 ((rdL (allM n) (i : Int)).length : Int)))])
                  (sto' := [(.t 1000 0, some (.row .ints (upAll n f ++ ((allM n).take i).map (rowF f))))]) (Run.loop ?_) rfl (by (repeat' (first | exact wkEnv_nil | refine wkEnv_cons rfl ?_ | exact wkSto_nil | refine wkSto_none ?_ | refine wkSto_some rfl ?_)); done) (by (repeat' (first | exact wkEnv_nil | refine wkEnv_cons rfl ?_ | exact wkSto_nil | refine wkSto_none ?_ | refine wkSto_some rfl ?_)); done)
                repeat' (conv => arg 4; whnf); first | refine Run.ret ⟨?_, rfl⟩ | refine Run.condT ?_ | refine Run.condf ?_ | refine Run.condD (fun h => ?_) (fun h => ?_) | refine Run.condN (fun h => ?_) (fun h => ?_) | refine Run.condE (fun h => ?_) (fun h => ?_) | refine Run.condF (fun h => ?_) (fun h => ?_) | refine Run.condM (fun h => ?_) (fun h => ?_) | refine Run.condB (fun h => ?_) (fun h => ?_) | refine Run.check1 ?_ | (exfalso; omega) | refine Run.need1 (by simp only [allP, true_and, and_true, List.length_cons, List.length_nil]; omega) ?_ | refine Run.round ⟨[(.t 59 0, .t 1000 0)], [], []⟩ (ihn1) rfl (by (repeat' (first | exact wkEnv_nil | refine wkEnv_cons rfl ?_ | exact wkSto_nil | refine wkSto_none ?_ | refine wkSto_some rfl ?_)); done) (by (repeat' (first | exact wkEnv_nil | refine wkEnv_cons rfl ?_ | exact wkSto_nil | refine wkSto_none ?_ | refine wkSto_some rfl ?_)); done)
                all_goals first | rfl | (exfalso; omega) | trace_state
              | succ b ih2 =>
                intro k z hz hb
                subst hz
                have ek := fs (i := k) (by omega)
                have hrk := hro k (by omega)
                have hrd : rd (rdL (allM n) (i : Int)) (k : Int) = (rdL (allM n) (i : Int)).getD k 0 := rd_nat _ _
                have hsn : ∀ x, x = bump f (rd (rdL (allM n) (i : Int)) (k : Int)) → rowF f ((rdL (allM n) (i : Int)).take k) ++ [x] = rowF f ((rdL (allM n) (i : Int)).take (k + 1)) := fun x hx => by
                  rw [hx, hrd]
                  unfold rowF
                  rw [List.take_add_one, List.map_append]
                  simp [List.getD_eq_getElem?_getD, List.getElem?_eq_getElem (show k < (rdL (allM n) (i : Int)).length by omega)]
                have hrw : (rowF f ((rdL (allM n) (i : Int)).take k)).length ≤ 10 := by simp [rowF]; omega
                by_cases hge : (f : Int) ≤ rd (rdL (allM n) (i : Int)) (k : Int)
                · have h2 := ih2 (k + 1) _ ek.h (by omega)
                  rw [← hsn (wrap64 (rd (rdL (allM n) (i : Int)) (k : Int) + 1)) (by rw [fw (by rw [hrd]; omega) |>.h]; unfold bump; rw [if_pos hge])] at h2
                  refine Run.loop ?_
                  repeat' (conv => arg 4; whnf); first | refine Run.ret ⟨?_, rfl⟩ | refine Run.condT ?_ | refine Run.condf ?_ | refine Run.condD (fun h => ?_) (fun h => ?_) | refine Run.condN (fun h => ?_) (fun h => ?_) | refine Run.condE (fun h => ?_) (fun h => ?_) | refine Run.condF (fun h => ?_) (fun h => ?_) | refine Run.condM (fun h => ?_) (fun h => ?_) | refine Run.condB (fun h => ?_) (fun h => ?_) | refine Run.check1 ?_ | (exfalso; omega) | refine Run.need1 (by simp only [allP, true_and, and_true]; omega) ?_ | refine Run.need1 (by simp only [allP, true_and, and_true, List.length_cons, List.length_nil]; omega) ?_ | refine Run.round ⟨[(.t 1000 0, .t 1000 0), (.t 55 0, .t 1001 0)], [], []⟩ (h2) rfl (by (repeat' (first | exact wkEnv_nil | refine wkEnv_cons rfl ?_ | exact wkSto_nil | refine wkSto_none ?_ | refine wkSto_some rfl ?_)); done) (by (repeat' (first | exact wkEnv_nil | refine wkEnv_cons rfl ?_ | exact wkSto_nil | refine wkSto_none ?_ | refine wkSto_some rfl ?_)); done)
                  all_goals first | rfl | (exfalso; omega) | trace_state
                · have h2 := ih2 (k + 1) _ ek.h (by omega)
                  rw [← hsn (rd (rdL (allM n) (i : Int)) (k : Int)) (by unfold bump; rw [if_neg hge])] at h2
                  refine Run.loop ?_
                  repeat' (conv => arg 4; whnf); first | refine Run.ret ⟨?_, rfl⟩ | refine Run.condT ?_ | refine Run.condf ?_ | refine Run.condD (fun h => ?_) (fun h => ?_) | refine Run.condN (fun h => ?_) (fun h => ?_) | refine Run.condE (fun h => ?_) (fun h => ?_) | refine Run.condF (fun h => ?_) (fun h => ?_) | refine Run.condM (fun h => ?_) (fun h => ?_) | refine Run.condB (fun h => ?_) (fun h => ?_) | refine Run.check1 ?_ | (exfalso; omega) | refine Run.need1 (by simp only [allP, true_and, and_true]; omega) ?_ | refine Run.need1 (by simp only [allP, true_and, and_true, List.length_cons, List.length_nil]; omega) ?_ | refine Run.round ⟨[(.t 1000 0, .t 1000 0), (.t 55 0, .t 1001 0)], [], []⟩ (h2) rfl (by (repeat' (first | exact wkEnv_nil | refine wkEnv_cons rfl ?_ | exact wkSto_nil | refine wkSto_none ?_ | refine wkSto_some rfl ?_)); done) (by (repeat' (first | exact wkEnv_nil | refine wkEnv_cons rfl ?_ | exact wkSto_nil | refine wkSto_none ?_ | refine wkSto_some rfl ?_)); done)
                  all_goals first | rfl | (exfalso; omega) | trace_state
            have hl2 := loop2 _ 0 _ rfl (Nat.zero_add _)
            rw [List.take_zero] at hl2
            refine Run.loop ?_
            repeat' (conv => arg 4; whnf); first | refine Run.ret ⟨?_, rfl⟩ | refine Run.condT ?_ | refine Run.condf ?_ | refine Run.condD (fun h => ?_) (fun h => ?_) | refine Run.condN (fun h => ?_) (fun h => ?_) | refine Run.condE (fun h => ?_) (fun h => ?_) | refine Run.condF (fun h => ?_) (fun h => ?_) | refine Run.condM (fun h => ?_) (fun h => ?_) | refine Run.condB (fun h => ?_) (fun h => ?_) | refine Run.check1 ?_ | (exfalso; omega) | refine Run.round ⟨[(.t 1000 0, .t 1000 0), (.t 30 0, .t 1001 0)], [], []⟩ (hl2) rfl (by (repeat' (first | exact wkEnv_nil | refine wkEnv_cons rfl ?_ | exact wkSto_nil | refine wkSto_none ?_ | refine wkSto_some rfl ?_)); done) (by (repeat' (first | exact wkEnv_nil | refine wkEnv_cons rfl ?_ | exact wkSto_nil | refine wkSto_none ?_ | refine wkSto_some rfl ?_)); done)
        refine Run.loop ?_
        have hl0 := loop1 (allM n).length 0 _ rfl (by omega)
        rw [List.take_zero, List.map_nil, List.append_nil] at hl0
        repeat' (conv => arg 4; whnf); first | refine Run.ret ⟨?_, rfl⟩ | refine Run.condT ?_ | refine Run.condf ?_ | refine Run.condD (fun h => ?_) (fun h => ?_) | refine Run.condN (fun h => ?_) (fun h => ?_) | refine Run.condE (fun h => ?_) (fun h => ?_) | refine Run.condF (fun h => ?_) (fun h => ?_) | refine Run.condM (fun h => ?_) (fun h => ?_) | refine Run.condB (fun h => ?_) (fun h => ?_) | refine Run.check1 ?_ | (exfalso; omega) | refine Run.round ⟨[(.t 1000 0, .t 1000 0)], [], []⟩ (hl0) rfl (by (repeat' (first | exact wkEnv_nil | refine wkEnv_cons rfl ?_ | exact wkSto_nil | refine wkSto_none ?_ | refine wkSto_some rfl ?_)); done) (by (repeat' (first | exact wkEnv_nil | refine wkEnv_cons rfl ?_ | exact wkSto_nil | refine wkSto_none ?_ | refine wkSto_some rfl ?_)); done)
        all_goals first | rfl | (exfalso; omega) | trace_state
    repeat' (conv => arg 4; whnf); first | refine Run.ret ⟨?_, rfl⟩ | refine Run.condT ?_ | refine Run.condf ?_ | refine Run.condD (fun h => ?_) (fun h => ?_) | refine Run.condN (fun h => ?_) (fun h => ?_) | refine Run.condE (fun h => ?_) (fun h => ?_) | refine Run.condF (fun h => ?_) (fun h => ?_) | refine Run.condM (fun h => ?_) (fun h => ?_) | refine Run.condB (fun h => ?_) (fun h => ?_) | refine Run.check1 ?_ | refine Run.call (hl) rfl ?_ | refine Run.round ⟨[(.t 14 0, .t 1000 0)], [], [.t 17 0]⟩ (loop (n + 1) 0 _ rfl (by omega)) rfl (by (repeat' (first | exact wkEnv_nil | refine wkEnv_cons rfl ?_ | exact wkSto_nil | refine wkSto_none ?_ | refine wkSto_some rfl ?_)); done) (by (repeat' (first | exact wkEnv_nil | refine wkEnv_cons rfl ?_ | exact wkSto_nil | refine wkSto_none ?_ | refine wkSto_some rfl ?_)); done) | (exfalso; omega)
    all_goals first | rfl | (exfalso; omega) | trace_state
theorem better_ok (l : List Mv) (a b : List Int) (ha : Fits l a) (hb : Fits l b) : Ok P 102 [.one (.lst .mv l false), .one (.lst (.int .i64) a false), .one (.lst (.int .i64) b false)] [] (.one (.bool (better l a b))) [] := by
  have h6 := ha.1.1
  have hal := ha.2.1
  have hbl := hb.2.1
  refine Ok.of_run (F := mk Try.f102 0) Try.func102 rfl rfl tabOk mixed rfl rfl rfl rfl rfl (Nat.le_of_ble_eq_true rfl) (Nat.le_of_ble_eq_true rfl) (.go 5000 ?_)
  have loop : ∀ (d i : Nat) (z : Int), z = i → i + d = a.length → Fact (lexFrom a b i d = better l a b) → Run P (mk Try.f102 0) (fun v st => v = .one (.bool (better l a b)) ∧ st = []) (.loop ⟨[(1, .one (.lst (.int .i64) a false)), (2, .one (.lst (.int .i64) b false)), (11, .one (.int .i64 z))], [], [.lp [0, 1, 0, 1, 1, 1, 1, 1], .blk 0, .code [1, 1, 1, 1, 1, 1]], none⟩) := by
    intro d
    induction d with
    | zero =>
      intro i z hz hd he
      subst hz
      refine Run.loop ?_
      repeat' (conv => arg 4; whnf); first | refine Run.ret ⟨?_, rfl⟩ | refine Run.condT ?_ | refine Run.condf ?_ | refine Run.condD (fun h => ?_) (fun h => ?_) | refine Run.condN (fun h => ?_) (fun h => ?_) | refine Run.condE (fun h => ?_) (fun h => ?_) | refine Run.condF (fun h => ?_) (fun h => ?_) | refine Run.condM (fun h => ?_) (fun h => ?_) | refine Run.condB (fun h => ?_) (fun h => ?_) | refine Run.check1 ?_ | (exfalso; omega)
      all_goals first | (rw [← he.h]; rfl) | (exfalso; omega)
    | succ d ih =>
      intro i z hz hd he
      subst hz
      have e := fs (i := i) (by omega)
      have hc := he.h
      unfold lexFrom at hc
      rw [← rd_nat, ← rd_nat] at hc
      by_cases hq : rd a (i : Int) = rd b (i : Int)
      · rw [if_pos hq] at hc
        refine Run.loop ?_
        repeat' (conv => arg 4; whnf); first | refine Run.ret ⟨?_, rfl⟩ | refine Run.condT ?_ | refine Run.condf ?_ | refine Run.condD (fun h => ?_) (fun h => ?_) | refine Run.condN (fun h => ?_) (fun h => ?_) | refine Run.condE (fun h => ?_) (fun h => ?_) | refine Run.condF (fun h => ?_) (fun h => ?_) | refine Run.condM (fun h => ?_) (fun h => ?_) | refine Run.condB (fun h => ?_) (fun h => ?_) | refine Run.check1 ?_ | (exfalso; omega) | refine Run.need1 (by simp only [allP, true_and, and_true]; omega) ?_ | refine Run.round ⟨[], [], []⟩ (ih (i + 1) _ e.h (by omega) ⟨hc⟩) rfl (by (repeat' (first | exact wkEnv_nil | refine wkEnv_cons rfl ?_ | exact wkSto_nil | refine wkSto_none ?_ | refine wkSto_some rfl ?_)); done) (by (repeat' (first | exact wkEnv_nil | refine wkEnv_cons rfl ?_ | exact wkSto_nil | refine wkSto_none ?_ | refine wkSto_some rfl ?_)); done)
        all_goals first | (exfalso; omega) | trace_state
      · rw [if_neg hq] at hc
        refine Run.loop ?_
        repeat' (conv => arg 4; whnf); first | refine Run.ret ⟨?_, rfl⟩ | refine Run.condT ?_ | refine Run.condf ?_ | refine Run.condD (fun h => ?_) (fun h => ?_) | refine Run.condN (fun h => ?_) (fun h => ?_) | refine Run.condE (fun h => ?_) (fun h => ?_) | refine Run.condF (fun h => ?_) (fun h => ?_) | refine Run.condM (fun h => ?_) (fun h => ?_) | refine Run.condB (fun h => ?_) (fun h => ?_) | refine Run.check1 ?_ | (exfalso; omega) | refine Run.need1 (by simp only [allP, true_and, and_true]; omega) ?_
        all_goals first | (exfalso; omega) | (rw [← hc]; done) | trace_state
  have hbe : better l a b = if (costM l a).1 = (costM l b).1 then (if (costM l a).2 = (costM l b).2 then lexFrom a b 0 a.length else decide ((costM l a).2 < (costM l b).2)) else decide ((costM l a).1 < (costM l b).1) := rfl
  repeat' (conv => arg 4; whnf); first | refine Run.ret ⟨?_, rfl⟩ | refine Run.condT ?_ | refine Run.condf ?_ | refine Run.condD (fun h => ?_) (fun h => ?_) | refine Run.condN (fun h => ?_) (fun h => ?_) | refine Run.condE (fun h => ?_) (fun h => ?_) | refine Run.condF (fun h => ?_) (fun h => ?_) | refine Run.condM (fun h => ?_) (fun h => ?_) | refine Run.condB (fun h => ?_) (fun h => ?_) | refine Run.check1 ?_ | refine Run.call (scost2_ok l a (fits_dl ha)) rfl ?_ | refine Run.call (scost2_ok l b (fits_dl hb)) rfl ?_ | refine Run.round ⟨[], [], []⟩ (loop a.length 0 _ rfl (by omega) ⟨?_⟩) rfl (by (repeat' (first | exact wkEnv_nil | refine wkEnv_cons rfl ?_ | exact wkSto_nil | refine wkSto_none ?_ | refine wkSto_some rfl ?_)); done) (by (repeat' (first | exact wkEnv_nil | refine wkEnv_cons rfl ?_ | exact wkSto_nil | refine wkSto_none ?_ | refine wkSto_some rfl ?_)); done)
  all_goals first
    | (rw [hbe]; (repeat' split) <;> first | rfl | (exfalso; omega) | contradiction)
    | trace_state
theorem sb_ok (l : List Mv) (sh : Int) (hm : MovesOk l) : Ok P 70 [.one (.lst .mv l false), .one (.int .i64 sh)] [] (.tup [.one (.own (.k 0)), .one (.bool (bestM l sh).2)]) [some (.row (.int .i64) (bestM l sh).1)] := by
  have h6 := hm.1
  have hlen := allM_len l.length h6
  obtain ⟨e1, e2⟩ := retO_t (bestO l sh)
  rw [show bestM l sh = retO (bestO l sh) from rfl, e1, e2]
  refine Ok.of_run (F := mk Try.f70 0) Try.func70 rfl rfl tabOk mixed rfl rfl rfl rfl rfl (Nat.le_of_ble_eq_true rfl) (Nat.le_of_ble_eq_true rfl) (.go 5000 ?_)
  have loop : ∀ (d i : Nat) (z : Int) (s : Option (List Int)), z = i → i + d = (allM l.length).length → s = ((allM l.length).take i).foldl (bestStep l (firstM l) sh) none → BestOk l s → Run P (mk Try.f70 0) (fun v st => v = .tup [.one (.own (.k 0)), .one (.bool (bestO l sh).isSome)] ∧ st = [some (.row (.int .i64) (tksO (bestO l sh)))])
     (.loop ⟨[(0, .one (.lst .mv l false)), (1, .one (.int .i64 sh)), (6, .one (.own (.t 1000 0))), (7, .one (.bool s.isSome)), (8, .one (.lst (.int .i64) (firstM l) false)), (9, .one (.lst .ints (allM l.length) false)), (10, .one (.int .i64 z))], [(.t 1000 0, some (.row (.int .i64) (tksO s)))], [.lp [0, 1, 0, 1, 1, 1, 1, 1], .blk 0, .code [1, 1, 1, 1, 1, 1]], none⟩) := by
    intro d
    induction d with
    | zero =>
      intro i z s hz hd hs hb
      subst hz
      obtain rfl : i = (allM l.length).length := by omega
      rw [List.take_length] at hs
      replace hs : s = bestO l sh := hs
      subst hs
      refine Run.loop ?_
      repeat' (conv => arg 4; whnf); first | refine Run.ret ⟨?_, rfl⟩ | refine Run.condT ?_ | refine Run.condf ?_ | refine Run.condD (fun h => ?_) (fun h => ?_) | refine Run.condN (fun h => ?_) (fun h => ?_) | refine Run.condE (fun h => ?_) (fun h => ?_) | refine Run.condF (fun h => ?_) (fun h => ?_) | refine Run.condM (fun h => ?_) (fun h => ?_) | refine Run.condB (fun h => ?_) (fun h => ?_) | refine Run.check1 ?_ | (exfalso; omega)
      all_goals first | rfl | (exfalso; omega) | trace_state
    | succ d ih =>
      intro i z s hz hd hs hb
      subst hz
      have e := fs (i := i) (by omega)
      have hii : rdL (allM l.length) (i : Int) = (allM l.length).getD i [] := by unfold rdL; rw [Int.toNat_natCast]
      have hmi : rdL (allM l.length) (i : Int) ∈ allM l.length := by rw [hii, List.getD_eq_getElem?_getD, List.getElem?_eq_getElem (by omega)]; exact List.getElem_mem _
      obtain ⟨hol, ho⟩ := allM_ord hmi
      have hnext : bestStep l (firstM l) sh s (rdL (allM l.length) (i : Int)) = ((allM l.length).take (i + 1)).foldl (bestStep l (firstM l) sh) none := by
        rw [List.take_add_one, List.foldl_append, ← hs, hii]
        simp [List.getD_eq_getElem?_getD, List.getElem?_eq_getElem (show i < (allM l.length).length by omega)]
      have hb' : BestOk l (bestStep l (firstM l) sh s (rdL (allM l.length) (i : Int))) := bestStep_ok hm ho hol hb
      have hfl := firstM_len l
      have hshift := sshift_ok (rdL (allM l.length) (i : Int)) (firstM l) (by omega) (by omega)
      rw [shiftM_symm] at hshift
      have hord := sordered_ok l (rdL (allM l.length) (i : Int)) (movesOk_all hm) (by omega) ho hol
      have hfit : (ordM l (rdL (allM l.length) (i : Int))).2 = true → Fits l (ordM l (rdL (allM l.length) (i : Int))).1 := fun h => ordM_fits hm ho hol h
      by_cases hsh : sh < shiftM (firstM l) (rdL (allM l.length) (i : Int))
      · rw [show bestStep l (firstM l) sh s (rdL (allM l.length) (i : Int)) = s from if_pos hsh] at hnext
        refine Run.loop ?_
        repeat' (conv => arg 4; whnf); first | refine Run.ret ⟨?_, rfl⟩ | refine Run.condT ?_ | refine Run.condf ?_ | refine Run.condD (fun h => ?_) (fun h => ?_) | refine Run.condN (fun h => ?_) (fun h => ?_) | refine Run.condE (fun h => ?_) (fun h => ?_) | refine Run.condF (fun h => ?_) (fun h => ?_) | refine Run.condM (fun h => ?_) (fun h => ?_) | refine Run.condB (fun h => ?_) (fun h => ?_) | refine Run.check1 ?_ | (exfalso; omega) | refine Run.need1 (by simp only [allP, true_and, and_true]; omega) ?_ | refine Run.call (hshift) rfl ?_ | refine Run.round ⟨[(.t 1000 0, .t 1000 0)], [], []⟩ (ih (i + 1) _ _ e.h (by omega) hnext hb) rfl (by (repeat' (first | exact wkEnv_nil | refine wkEnv_cons rfl ?_ | exact wkSto_nil | refine wkSto_none ?_ | refine wkSto_some rfl ?_)); done) (by (repeat' (first | exact wkEnv_nil | refine wkEnv_cons rfl ?_ | exact wkSto_nil | refine wkSto_none ?_ | refine wkSto_some rfl ?_)); done)
        all_goals first | (exfalso; omega) | trace_state
      · cases hok : (ordM l (rdL (allM l.length) (i : Int))).2 with
        | false =>
          rw [hok] at hord
          rw [show bestStep l (firstM l) sh s (rdL (allM l.length) (i : Int)) = s by rw [bestStep_chg, chg, if_neg hsh, hok]; rfl] at hnext
          refine Run.loop ?_
          repeat' (conv => arg 4; whnf); first | refine Run.ret ⟨?_, rfl⟩ | refine Run.condT ?_ | refine Run.condf ?_ | refine Run.condD (fun h => ?_) (fun h => ?_) | refine Run.condN (fun h => ?_) (fun h => ?_) | refine Run.condE (fun h => ?_) (fun h => ?_) | refine Run.condF (fun h => ?_) (fun h => ?_) | refine Run.condM (fun h => ?_) (fun h => ?_) | refine Run.condB (fun h => ?_) (fun h => ?_) | refine Run.check1 ?_ | (exfalso; omega) | refine Run.need1 (by simp only [allP, true_and, and_true]; omega) ?_ | refine Run.call (hshift) rfl ?_ | refine Run.call (hord) rfl ?_ | refine Run.round ⟨[(.t 1000 0, .t 1000 0)], [], []⟩ (ih (i + 1) _ _ e.h (by omega) hnext hb) rfl (by (repeat' (first | exact wkEnv_nil | refine wkEnv_cons rfl ?_ | exact wkSto_nil | refine wkSto_none ?_ | refine wkSto_some rfl ?_)); done) (by (repeat' (first | exact wkEnv_nil | refine wkEnv_cons rfl ?_ | exact wkSto_nil | refine wkSto_none ?_ | refine wkSto_some rfl ?_)); done)
          all_goals first | (exfalso; omega) | trace_state
        | true =>
          have hst : bestStep l (firstM l) sh s (rdL (allM l.length) (i : Int)) = if betO l (ordM l (rdL (allM l.length) (i : Int))).1 s = true then some (ordM l (rdL (allM l.length) (i : Int))).1 else s := by rw [bestStep_chg, chg, if_neg hsh, if_pos hok]
          rw [hok] at hord
          replace hfit := hfit hok
          rw [hst] at hnext hb'
          generalize (ordM l (rdL (allM l.length) (i : Int))).1 = ts at *
          cases s with
          | none =>
            rw [show betO l ts none = true from rfl, if_pos rfl] at hnext hb'
            refine Run.loop ?_
            repeat' (conv => arg 4; whnf); first | refine Run.ret ⟨?_, rfl⟩ | refine Run.condT ?_ | refine Run.condf ?_ | refine Run.condD (fun h => ?_) (fun h => ?_) | refine Run.condN (fun h => ?_) (fun h => ?_) | refine Run.condE (fun h => ?_) (fun h => ?_) | refine Run.condF (fun h => ?_) (fun h => ?_) | refine Run.condM (fun h => ?_) (fun h => ?_) | refine Run.condB (fun h => ?_) (fun h => ?_) | refine Run.check1 ?_ | (exfalso; omega) | refine Run.need1 (by simp only [allP, true_and, and_true]; omega) ?_ | refine Run.call (hshift) rfl ?_ | refine Run.call (hord) rfl ?_ | refine Run.round ⟨[(.t 39 0, .t 1000 0)], [], []⟩ (ih (i + 1) _ _ e.h (by omega) hnext hb') rfl (by (repeat' (first | exact wkEnv_nil | refine wkEnv_cons rfl ?_ | exact wkSto_nil | refine wkSto_none ?_ | refine wkSto_some rfl ?_)); done) (by (repeat' (first | exact wkEnv_nil | refine wkEnv_cons rfl ?_ | exact wkSto_nil | refine wkSto_none ?_ | refine wkSto_some rfl ?_)); done)
            all_goals first | (exfalso; omega) | trace_state
          | some b =>
            have hbb := better_ok l ts b hfit (hb b rfl)
            cases hbt : better l ts b with
            | true =>
              rw [show betO l ts (some b) = true from hbt, if_pos rfl] at hnext hb'
              rw [hbt] at hbb
              refine Run.loop ?_
              repeat' (conv => arg 4; whnf); first | refine Run.ret ⟨?_, rfl⟩ | refine Run.condT ?_ | refine Run.condf ?_ | refine Run.condD (fun h => ?_) (fun h => ?_) | refine Run.condN (fun h => ?_) (fun h => ?_) | refine Run.condE (fun h => ?_) (fun h => ?_) | refine Run.condF (fun h => ?_) (fun h => ?_) | refine Run.condM (fun h => ?_) (fun h => ?_) | refine Run.condB (fun h => ?_) (fun h => ?_) | refine Run.check1 ?_ | (exfalso; omega) | refine Run.need1 (by simp only [allP, true_and, and_true]; omega) ?_ | refine Run.call (hshift) rfl ?_ | refine Run.call (hord) rfl ?_ | refine Run.call (hbb) rfl ?_ | refine Run.round ⟨[(.t 39 0, .t 1000 0)], [], []⟩ (ih (i + 1) _ _ e.h (by omega) hnext hb') rfl (by (repeat' (first | exact wkEnv_nil | refine wkEnv_cons rfl ?_ | exact wkSto_nil | refine wkSto_none ?_ | refine wkSto_some rfl ?_)); done) (by (repeat' (first | exact wkEnv_nil | refine wkEnv_cons rfl ?_ | exact wkSto_nil | refine wkSto_none ?_ | refine wkSto_some rfl ?_)); done)
              all_goals first | (exfalso; omega) | trace_state
            | false =>
              rw [show betO l ts (some b) = false from hbt, if_neg Bool.false_ne_true] at hnext hb'
              rw [hbt] at hbb
              refine Run.loop ?_
              repeat' (conv => arg 4; whnf); first | refine Run.ret ⟨?_, rfl⟩ | refine Run.condT ?_ | refine Run.condf ?_ | refine Run.condD (fun h => ?_) (fun h => ?_) | refine Run.condN (fun h => ?_) (fun h => ?_) | refine Run.condE (fun h => ?_) (fun h => ?_) | refine Run.condF (fun h => ?_) (fun h => ?_) | refine Run.condM (fun h => ?_) (fun h => ?_) | refine Run.condB (fun h => ?_) (fun h => ?_) | refine Run.check1 ?_ | (exfalso; omega) | refine Run.need1 (by simp only [allP, true_and, and_true]; omega) ?_ | refine Run.call (hshift) rfl ?_ | refine Run.call (hord) rfl ?_ | refine Run.call (hbb) rfl ?_ | refine Run.round ⟨[(.t 1000 0, .t 1000 0)], [], []⟩ (ih (i + 1) _ _ e.h (by omega) hnext hb') rfl (by (repeat' (first | exact wkEnv_nil | refine wkEnv_cons rfl ?_ | exact wkSto_nil | refine wkSto_none ?_ | refine wkSto_some rfl ?_)); done) (by (repeat' (first | exact wkEnv_nil | refine wkEnv_cons rfl ?_ | exact wkSto_nil | refine wkSto_none ?_ | refine wkSto_some rfl ?_)); done)
              all_goals first | (exfalso; omega) | trace_state
  repeat' (conv => arg 4; whnf); first | refine Run.ret ⟨?_, rfl⟩ | refine Run.condT ?_ | refine Run.condf ?_ | refine Run.condD (fun h => ?_) (fun h => ?_) | refine Run.condN (fun h => ?_) (fun h => ?_) | refine Run.condE (fun h => ?_) (fun h => ?_) | refine Run.condF (fun h => ?_) (fun h => ?_) | refine Run.condM (fun h => ?_) (fun h => ?_) | refine Run.condB (fun h => ?_) (fun h => ?_) | refine Run.check1 ?_ | refine Run.call (sfirst_ok l (by omega)) rfl ?_ | refine Run.call (alls_ok _ (by omega)) rfl ?_ | refine Run.round ⟨[(.t 13 0, .t 1000 0)], [], [.t 15 0, .t 18 0]⟩ (loop (allM l.length).length 0 _ none rfl (by omega) rfl (fun t h => by cases h)) rfl (by (repeat' (first | exact wkEnv_nil | refine wkEnv_cons rfl ?_ | exact wkSto_nil | refine wkSto_none ?_ | refine wkSto_some rfl ?_)); done) (by (repeat' (first | exact wkEnv_nil | refine wkEnv_cons rfl ?_ | exact wkSto_nil | refine wkSto_none ?_ | refine wkSto_some rfl ?_)); done)
  all_goals first | (exfalso; omega) | trace_state
theorem sbest_ok (l : List Mv) (sh : Int) : Ok P 28 [.one (.lst .mv l false), .one (.int .i64 sh)] [] (.tup [.one (.own (.k 0)), .one (.bool (bestF l sh).2)]) [some (.row (.int .i64) (bestF l sh).1)] := by
  refine Ok.of_run (F := mk Try.f28 0) Try.func28 rfl rfl tabOk mixed rfl rfl rfl rfl rfl (Nat.le_of_ble_eq_true rfl) (Nat.le_of_ble_eq_true rfl) (.go 5000 ?_)
  by_cases hc : MovesOk l ∧ 0 ≤ sh ∧ sh ≤ 6
  · rw [show bestF l sh = bestM l sh from if_pos hc]
    obtain ⟨hm, hs1, hs2⟩ := hc
    have hmo := smovesOk_ok l
    rw [decide_eq_true hm] at hmo
    have hin := sin_ok sh 0 6
    rw [decide_eq_true ⟨hs1, hs2⟩] at hin
    repeat' (conv => arg 4; whnf); first | refine Run.ret ⟨?_, rfl⟩ | refine Run.condT ?_ | refine Run.condf ?_ | refine Run.condD (fun h => ?_) (fun h => ?_) | refine Run.condN (fun h => ?_) (fun h => ?_) | refine Run.condE (fun h => ?_) (fun h => ?_) | refine Run.condF (fun h => ?_) (fun h => ?_) | refine Run.condM (fun h => ?_) (fun h => ?_) | refine Run.condB (fun h => ?_) (fun h => ?_) | refine Run.check1 ?_ | refine Run.call (hmo) rfl ?_ | refine Run.call (hin) rfl ?_ | refine Run.call (sb_ok l sh hm) rfl ?_
    all_goals first | rfl | trace_state
  · rw [show bestF l sh = ([], false) from if_neg hc]
    repeat' (conv => arg 4; whnf); first | refine Run.ret ⟨?_, rfl⟩ | refine Run.condT ?_ | refine Run.condf ?_ | refine Run.condD (fun h => ?_) (fun h => ?_) | refine Run.condN (fun h => ?_) (fun h => ?_) | refine Run.condE (fun h => ?_) (fun h => ?_) | refine Run.condF (fun h => ?_) (fun h => ?_) | refine Run.condM (fun h => ?_) (fun h => ?_) | refine Run.condB (fun h => ?_) (fun h => ?_) | refine Run.check1 ?_ | refine Run.call (smovesOk_ok _) rfl ?_ | refine Run.call (sin_ok _ _ _) rfl ?_ | (exfalso; exact hc ⟨‹MovesOk l›, ‹0 ≤ sh ∧ sh ≤ 6›⟩)
    all_goals first | rfl | trace_state
end Go.Proofs.Ytmppoajepbbmiaa.AM

/- The laws' own words on numbers and ticks; condition: as each says. -/
namespace Go.Proofs.Ytmppoajepbbmiaa.AM
open Go.AM Go.RowKit
set_option linter.unusedVariables false
set_option linter.unusedSimpArgs false
set_option maxRecDepth 100000

theorem wints_ok (t : List Int) (ht : t.length ≤ 1048576) : Ok P 23 [.one (.lst (.int .i64) t false), .one (.lst (.int .i64) t false)] [] (.one (.bool true)) [] := by
  refine Ok.of_run (F := mk Try.f23 0) Try.func23 rfl rfl tabOk mixed rfl rfl rfl rfl rfl (Nat.le_of_ble_eq_true rfl) (Nat.le_of_ble_eq_true rfl) (.go 5000 ?_)
  have loop : ∀ (d i : Nat) (z : Int), z = i → i + d = t.length → Run P (mk Try.f23 0) (fun v st => v = .one (.bool true) ∧ st = []) (.loop ⟨[(0, .one (.lst (.int .i64) t false)), (1, .one (.lst (.int .i64) t false)), (5, .one (.int .i64 z))], [], [.lp [0, 1, 0, 1, 1], .blk 0, .code [1, 1, 1]], none⟩) := by
    intro d
    induction d with
    | zero =>
      intro i z hz hd
      subst hz
      refine Run.loop ?_
      repeat' (conv => arg 4; whnf); first | refine Run.ret ⟨?_, rfl⟩ | refine Run.condT ?_ | refine Run.condf ?_ | refine Run.condD (fun h => ?_) (fun h => ?_) | refine Run.condN (fun h => ?_) (fun h => ?_) | refine Run.condE (fun h => ?_) (fun h => ?_) | refine Run.condF (fun h => ?_) (fun h => ?_) | refine Run.condM (fun h => ?_) (fun h => ?_) | refine Run.condB (fun h => ?_) (fun h => ?_) | refine Run.check1 ?_ | (exfalso; omega)
      all_goals first | rfl | (exfalso; omega)
    | succ d ih =>
      intro i z hz hd
      subst hz
      have e := fs (i := i) (by omega)
      refine Run.loop ?_
      repeat' (conv => arg 4; whnf); first | refine Run.ret ⟨?_, rfl⟩ | refine Run.condT ?_ | refine Run.condf ?_ | refine Run.condD (fun h => ?_) (fun h => ?_) | refine Run.condN (fun h => ?_) (fun h => ?_) | refine Run.condE (fun h => ?_) (fun h => ?_) | refine Run.condF (fun h => ?_) (fun h => ?_) | refine Run.condM (fun h => ?_) (fun h => ?_) | refine Run.condB (fun h => ?_) (fun h => ?_) | refine Run.check1 ?_ | refine Run.need1 (by simp only [allP, true_and, and_true]; omega) ?_ | refine Run.round ⟨[], [], []⟩ (ih (i + 1) _ e.h (by omega)) rfl (by (repeat' (first | exact wkEnv_nil | refine wkEnv_cons rfl ?_ | exact wkSto_nil | refine wkSto_none ?_ | refine wkSto_some rfl ?_)); done) (by (repeat' (first | exact wkEnv_nil | refine wkEnv_cons rfl ?_ | exact wkSto_nil | refine wkSto_none ?_ | refine wkSto_some rfl ?_)); done) | (exfalso; omega)
      all_goals (exfalso; omega)
  repeat' (conv => arg 4; whnf); first | refine Run.ret ⟨?_, rfl⟩ | refine Run.condT ?_ | refine Run.condf ?_ | refine Run.condD (fun h => ?_) (fun h => ?_) | refine Run.condN (fun h => ?_) (fun h => ?_) | refine Run.condE (fun h => ?_) (fun h => ?_) | refine Run.condF (fun h => ?_) (fun h => ?_) | refine Run.condM (fun h => ?_) (fun h => ?_) | refine Run.condB (fun h => ?_) (fun h => ?_) | refine Run.check1 ?_ | refine Run.round ⟨[], [], []⟩ (loop t.length 0 _ rfl (by omega)) rfl (by (repeat' (first | exact wkEnv_nil | refine wkEnv_cons rfl ?_ | exact wkSto_nil | refine wkSto_none ?_ | refine wkSto_some rfl ?_)); done) (by (repeat' (first | exact wkEnv_nil | refine wkEnv_cons rfl ?_ | exact wkSto_nil | refine wkSto_none ?_ | refine wkSto_some rfl ?_)); done)
  all_goals (exfalso; omega)
theorem wgap_ok (a b : Mv) (ha : 1 ≤ a.f2 ∧ a.f2 ≤ 3) (hb : 1 ≤ b.f2 ∧ b.f2 ≤ 3) : Ok P 68 [.agg (encMv a), .agg (encMv b)] [] (.one (.int .i64 (gap a b))) [] := by
  refine Ok.of_run (F := mk Try.f68 0) Try.func68 rfl rfl tabOk mixed rfl rfl rfl rfl rfl (Nat.le_of_ble_eq_true rfl) (Nat.le_of_ble_eq_true rfl) (.go 5000 ?_)
  repeat' (conv => arg 4; whnf); first | refine Run.ret ⟨?_, rfl⟩ | refine Run.condT ?_ | refine Run.condf ?_ | refine Run.condD (fun h => ?_) (fun h => ?_) | refine Run.condN (fun h => ?_) (fun h => ?_) | refine Run.condE (fun h => ?_) (fun h => ?_) | refine Run.condF (fun h => ?_) (fun h => ?_) | refine Run.condM (fun h => ?_) (fun h => ?_) | refine Run.condB (fun h => ?_) (fun h => ?_) | refine Run.check1 ?_
  all_goals (refine congrArg (fun n => V.one (.int .i64 n)) ?_; simp only [gap, wrap64, *]; (repeat' split) <;> first | omega | simp_all)
theorem wfits_ok (l : List Mv) (t : List Int) (hm : MovesOk l) (hlen : t.length = l.length) (hw : TkWf t) : Ok P 27 [.one (.lst .mv l false), .one (.lst (.int .i64) t false)] [] (.one (.bool (decide (Fits l t)))) [] := by
  have h6 := hm.1
  have hwk : ∀ i, i < l.length → 1 ≤ (at' l i).f2 ∧ (at' l i).f2 ≤ 3 := fun i hi => by
    have := mvOk_range (hm.2 i hi).1
    exact ⟨this.2.2.1, this.2.2.2.1⟩
  refine Ok.of_run (F := mk Try.f27 0) Try.func27 rfl rfl tabOk mixed rfl rfl rfl rfl rfl (Nat.le_of_ble_eq_true rfl) (Nat.le_of_ble_eq_true rfl) (.go 5000 ?_)
  have outer : ∀ (d i : Nat) (z : Int), z = i → i + d = l.length → (∀ j, j < i → FitsAt l t j) → Run P (mk Try.f27 0) (fun v st => v = .one (.bool (decide (Fits l t))) ∧ st = []) (.loop ⟨[(0, .one (.lst .mv l false)), (1, .one (.lst (.int .i64) t false)), (5, .one (.int .i64 z))], [], [.lp [0, 1, 0, 1], .blk 0, .code [1, 1]], none⟩) := by
    intro d
    induction d with
    | zero =>
      intro i z hz hd hall
      subst hz
      refine Run.loop ?_
      repeat' (conv => arg 4; whnf); first | refine Run.ret ⟨?_, rfl⟩ | refine Run.condT ?_ | refine Run.condf ?_ | refine Run.condD (fun h => ?_) (fun h => ?_) | refine Run.condN (fun h => ?_) (fun h => ?_) | refine Run.condE (fun h => ?_) (fun h => ?_) | refine Run.condF (fun h => ?_) (fun h => ?_) | refine Run.condM (fun h => ?_) (fun h => ?_) | refine Run.condB (fun h => ?_) (fun h => ?_) | refine Run.check1 ?_ | (exfalso; omega)
      all_goals first
        | (exfalso; omega)
        | exact fits_yes ⟨hm, hlen, fun j hj => hall j (by omega)⟩
    | succ d ih =>
      intro i z hz hd hall
      subst hz
      have e := fs (i := i) (by omega)
      have no : ¬ FitsAt l t i → V.one (A.bool false) = V.one (A.bool (decide (Fits l t))) := fun h => fits_no fun k => h (k.2.2 i (by omega))
      have inner : InR l t i → ∀ (c k : Nat) (z : Int), z = k → k + c = l.length → (∀ j, j < k → j ≠ i → Ap l t i j) → Run P (mk Try.f27 0) (fun v st => v = .one (.bool (decide (Fits l t))) ∧ st = []) (.loop ⟨[(0, .one (.lst .mv l false)), (1, .one (.lst (.int .i64) t false)), (5, .one (.int .i64 (i : Int))), (6, .one (.ptr (.t 6 0) 0)), (7, .one (.int .i64 z))], [(.t 6 0, some (.cells (encMv (rdM l i))))], [.lp [0, 1, 1, 1, 0, 0, 1, 0, 0, 1, 0, 1], .blk 2, .blk 1, .code [1, 1, 0, 0, 1, 0, 1], .lp [0, 1, 0, 1], .blk 0, .code [1, 1]], none⟩) := by
        intro hin c
        have hr := inR_range hm (by omega) hin
        induction c with
        | zero =>
          intro k z hz hc hap
          subst hz
          refine Run.loop ?_
          repeat' (conv => arg 4; whnf); first | refine Run.ret ⟨?_, rfl⟩ | refine Run.condT ?_ | refine Run.condf ?_ | refine Run.condD (fun h => ?_) (fun h => ?_) | refine Run.condN (fun h => ?_) (fun h => ?_) | refine Run.condE (fun h => ?_) (fun h => ?_) | refine Run.condF (fun h => ?_) (fun h => ?_) | refine Run.condM (fun h => ?_) (fun h => ?_) | refine Run.condB (fun h => ?_) (fun h => ?_) | refine Run.check1 ?_ | (exfalso; omega) | refine Run.round ⟨[], [], []⟩ (ih (i + 1) _ e.h (by omega) ?_) rfl (by (repeat' (first | exact wkEnv_nil | refine wkEnv_cons rfl ?_ | exact wkSto_nil | refine wkSto_none ?_ | refine wkSto_some rfl ?_)); done) (by (repeat' (first | exact wkEnv_nil | refine wkEnv_cons rfl ?_ | exact wkSto_nil | refine wkSto_none ?_ | refine wkSto_some rfl ?_)); done)
          all_goals first
            | (exfalso; omega)
            | (intro j hj; rcases Nat.lt_or_ge j i with h1 | h1
               · exact hall j h1
               · obtain rfl : j = i := by omega
                 exact ⟨hin, fun q hq => hap q (by omega)⟩)
        | succ c ihc =>
          intro k z hz hc hap
          subst hz
          have e2 := fs (i := k) (by omega)
          have hA : Ap l t i k ↔ (rd t i ≠ rd t k ∧ (rd t i < rd t k → gap (rdM l i) (rdM l k) ≤ rd t k - rd t i)) := by
            simp only [rdM_nat, rd_nat, Ap]
          have hw1 : 1 ≤ (rdM l i).f2 ∧ (rdM l i).f2 ≤ 3 := by rw [rdM_nat]; exact hwk i (by omega)
          have hw2 : 1 ≤ (rdM l k).f2 ∧ (rdM l k).f2 ≤ 3 := by rw [rdM_nat]; exact hwk k (by omega)
          have hg := gap_range (rdM l i) (rdM l k)
          have hr2 : 0 ≤ rd t i ∧ rd t i ≤ 10000 := by rw [rd_nat]; exact hr
          have e3 := fw (x := rd t i + gap (rdM l i) (rdM l k)) (by omega)
          refine Run.loop ?_
          repeat' (conv => arg 4; whnf); first | refine Run.ret ⟨?_, rfl⟩ | refine Run.condT ?_ | refine Run.condf ?_ | refine Run.condD (fun h => ?_) (fun h => ?_) | refine Run.condN (fun h => ?_) (fun h => ?_) | refine Run.condE (fun h => ?_) (fun h => ?_) | refine Run.condF (fun h => ?_) (fun h => ?_) | refine Run.condM (fun h => ?_) (fun h => ?_) | refine Run.condB (fun h => ?_) (fun h => ?_) | refine Run.check1 ?_ | (exfalso; omega) | refine Run.call (wgap_ok _ _ hw1 hw2) rfl ?_ | refine Run.need1 (by simp only [allP, true_and, and_true]; omega) ?_ | refine Run.round ⟨[(.t 6 0, .t 6 0)], [], []⟩ (ihc (k + 1) _ e2.h (by omega) ?_) rfl (by (repeat' (first | exact wkEnv_nil | refine wkEnv_cons rfl ?_ | exact wkSto_nil | refine wkSto_none ?_ | refine wkSto_some rfl ?_)); done) (by (repeat' (first | exact wkEnv_nil | refine wkEnv_cons rfl ?_ | exact wkSto_nil | refine wkSto_none ?_ | refine wkSto_some rfl ?_)); done)
          all_goals clear ih ihc
          all_goals (try simp only [e3.h] at *)
          all_goals first
            | (exfalso; omega)
            | (refine no fun q => ?_; have a := hA.1 (q.2 k (by omega) (by omega)); omega)
            | (intro j hj hne; rcases Nat.lt_or_ge j k with h1 | h1
               · exact hap j h1 hne
               · obtain rfl : j = k := by omega
                 exact hA.2 (by omega))
            | (intro j hj hne; exact hap j (by omega) hne)
            | trace_state
      have hI : InR l t i ↔ (((rdM l i).f3 ≤ rd t i ∧ rd t i ≤ (rdM l i).f4) ∧ (0 ≤ (rdM l i).f5 → rd t i = (rdM l i).f5)) := by
        simp only [rdM_nat, rd_nat, InR]
      refine Run.loop ?_
      repeat' (conv => arg 4; whnf); first | refine Run.ret ⟨?_, rfl⟩ | refine Run.condT ?_ | refine Run.condf ?_ | refine Run.condD (fun h => ?_) (fun h => ?_) | refine Run.condN (fun h => ?_) (fun h => ?_) | refine Run.condE (fun h => ?_) (fun h => ?_) | refine Run.condF (fun h => ?_) (fun h => ?_) | refine Run.condM (fun h => ?_) (fun h => ?_) | refine Run.condB (fun h => ?_) (fun h => ?_) | refine Run.check1 ?_ | refine Run.need1 (by simp only [allP, true_and, and_true]; omega) ?_ | refine Run.round ⟨[(.t 6 0, .t 6 0)], [], []⟩ (inner ?_ l.length 0 _ rfl ?_ ?_) rfl (by (repeat' (first | exact wkEnv_nil | refine wkEnv_cons rfl ?_ | exact wkSto_nil | refine wkSto_none ?_ | refine wkSto_some rfl ?_)); done) (by (repeat' (first | exact wkEnv_nil | refine wkEnv_cons rfl ?_ | exact wkSto_nil | refine wkSto_none ?_ | refine wkSto_some rfl ?_)); done) | (exfalso; omega)
      all_goals clear ih inner
      all_goals first
        | (exfalso; omega)
        | omega
        | (refine no fun q => ?_; have a := hI.1 q.1; omega)
        | exact hI.2 (by omega)
        | (intro j hj; omega)
        | trace_state
  repeat' (conv => arg 4; whnf); first | refine Run.ret ⟨?_, rfl⟩ | refine Run.condT ?_ | refine Run.condf ?_ | refine Run.condD (fun h => ?_) (fun h => ?_) | refine Run.condN (fun h => ?_) (fun h => ?_) | refine Run.condE (fun h => ?_) (fun h => ?_) | refine Run.condF (fun h => ?_) (fun h => ?_) | refine Run.condM (fun h => ?_) (fun h => ?_) | refine Run.condB (fun h => ?_) (fun h => ?_) | refine Run.check1 ?_ | refine Run.round ⟨[], [], []⟩ (outer l.length 0 _ rfl (by omega) ?_) rfl (by (repeat' (first | exact wkEnv_nil | refine wkEnv_cons rfl ?_ | exact wkSto_nil | refine wkSto_none ?_ | refine wkSto_some rfl ?_)); done) (by (repeat' (first | exact wkEnv_nil | refine wkEnv_cons rfl ?_ | exact wkSto_nil | refine wkSto_none ?_ | refine wkSto_some rfl ?_)); done)
  all_goals (intro j hj; omega)
end Go.Proofs.Ytmppoajepbbmiaa.AM

/- Plain facts behind the best: nothing that may be costs less; no condition. -/
namespace Go.AM
set_option linter.unusedVariables false
set_option linter.unusedSimpArgs false
open Go.RowKit

def CLe (l : List Mv) (a b : List Int) : Prop := (costM l a).1 < (costM l b).1 ∨ ((costM l a).1 = (costM l b).1 ∧ (costM l a).2 ≤ (costM l b).2)
theorem cLe_refl (l : List Mv) (a : List Int) : CLe l a a := .inr ⟨rfl, Int.le_refl _⟩
theorem cLe_trans {l : List Mv} {a b c : List Int} (h : CLe l a b) (k : CLe l b c) : CLe l a c := by unfold CLe at *; omega
theorem better_le {l : List Mv} {a b : List Int} : (better l a b = true → CLe l a b) ∧ (better l a b = false → CLe l b a) := by
  unfold better CLe
  split
  · split
    · exact ⟨fun _ => by omega, fun _ => by omega⟩
    · simp only [decide_eq_true_eq, decide_eq_false_iff_not]; omega
  · simp only [decide_eq_true_eq, decide_eq_false_iff_not]; omega
/-- What one order does. -/
theorem step_min {l : List Mv} {first : List Int} {sh : Int} (s : Option (List Int)) (o : List Int) :
    (∀ b, s = some b → ∃ t, bestStep l first sh s o = some t ∧ CLe l t b) ∧ (¬ sh < shiftM first o → (ordM l o).2 = true → ∃ t, bestStep l first sh s o = some t ∧ CLe l t (ordM l o).1) := by
  unfold bestStep
  by_cases h1 : sh < shiftM first o
  · rw [if_pos h1]
    exact ⟨fun b hb => ⟨b, hb, cLe_refl l b⟩, fun h => absurd h1 h⟩
  · rw [if_neg h1]
    cases h2 : (ordM l o).2 with
    | false =>
      rw [if_neg Bool.false_ne_true]
      exact ⟨fun b hb => ⟨b, hb, cLe_refl l b⟩, fun _ h => by cases h⟩
    | true =>
      rw [if_pos rfl]
      cases s with
      | none => exact ⟨fun b hb => (by cases hb), fun _ _ => ⟨_, rfl, cLe_refl _ _⟩⟩
      | some c =>
        simp only [Option.some.injEq, forall_eq']
        cases h3 : better l (ordM l o).1 c with
        | true => exact ⟨⟨_, rfl, better_le.1 h3⟩, fun _ _ => ⟨_, rfl, cLe_refl _ _⟩⟩
        | false => exact ⟨⟨_, rfl, cLe_refl _ _⟩, fun _ _ => ⟨_, rfl, better_le.2 h3⟩⟩
theorem fold_keep {l : List Mv} {first : List Int} {sh : Int} : ∀ {os : List (List Int)} {s : Option (List Int)} {b : List Int}, (∃ t, s = some t ∧ CLe l t b) → ∃ t, os.foldl (bestStep l first sh) s = some t ∧ CLe l t b
  | [], s, b, h => h
  | o :: os, s, b, ⟨t, h1, h2⟩ => by
    obtain ⟨t', h3, h4⟩ := (step_min (first := first) (sh := sh) s o).1 t h1
    exact fold_keep (os := os) ⟨t', h3, cLe_trans h4 h2⟩
theorem fold_min {l : List Mv} {first : List Int} {sh : Int} : ∀ {os : List (List Int)} {s : Option (List Int)} {o : List Int}, o ∈ os → ¬ sh < shiftM first o → (ordM l o).2 = true → ∃ t, os.foldl (bestStep l first sh) s = some t ∧ CLe l t (ordM l o).1
  | x :: os, s, o, hm, h1, h2 => by
    rcases List.mem_cons.1 hm with rfl | hm
    · exact fold_keep (os := os) ((step_min s o).2 h1 h2)
    · exact fold_min (os := os) hm h1 h2
theorem fold_from {l : List Mv} {first : List Int} {sh : Int} : ∀ {os : List (List Int)} {s : Option (List Int)} {t : List Int}, os.foldl (bestStep l first sh) s = some t → s = some t ∨ ∃ o, o ∈ os ∧ ¬ sh < shiftM first o ∧ (ordM l o).2 = true ∧ t = (ordM l o).1
  | [], s, t, h => .inl h
  | o :: os, s, t, h => by
    rcases fold_from (os := os) h with h1 | ⟨q, h1, h2⟩
    · rw [bestStep_chg] at h1
      split at h1
      · rename_i hc
        unfold chg at hc
        split at hc
        · cases hc
        · split at hc
          · exact .inr ⟨o, List.mem_cons_self, ‹_›, ‹_›, (Option.some.inj h1).symm⟩
          · cases hc
      · exact .inl h1
    · exact .inr ⟨q, List.mem_cons_of_mem _ h1, h2⟩
/-- The best costs no more than what any order gives that may be. -/
theorem bestO_min {l : List Mv} {sh : Int} {o : List Int} (ho : IsOrd o) (hl : o.length = l.length) (h1 : ¬ sh < shiftM (firstM l) o) (h2 : (ordM l o).2 = true) : ∃ t, bestO l sh = some t ∧ CLe l t (ordM l o).1 :=
  fold_min (allM_mem hl ho) h1 h2
theorem bestO_from {l : List Mv} {sh : Int} {t : List Int} (h : bestO l sh = some t) : ∃ o, (IsOrd o ∧ o.length = l.length) ∧ ¬ sh < shiftM (firstM l) o ∧ (ordM l o).2 = true ∧ t = (ordM l o).1 := by
  rcases fold_from h with h1 | ⟨o, h1, h2⟩
  · cases h1
  · exact ⟨o, ⟨(allM_ord h1).2, (allM_ord h1).1⟩, h2⟩
/-- With more shifts there is a best and it costs no more. -/
theorem bestO_more {l : List Mv} {sh sh' : Int} {t : List Int} (h : bestO l sh = some t) (hs : sh ≤ sh') : ∃ u, bestO l sh' = some u ∧ CLe l u t := by
  obtain ⟨o, ⟨h1, h2⟩, h3, h4, rfl⟩ := bestO_from h
  exact bestO_min (sh := sh') h1 h2 (by omega) h4
theorem ordF_ok {l : List Mv} {o : List Int} (h : (ordF l o).2 = true) : (MovesOk l ∧ o.length = l.length ∧ IsOrd o) ∧ (ordM l o).2 = true ∧ (ordF l o).1 = (ordM l o).1 := by
  unfold ordF at *
  split at h
  · rename_i hc; exact ⟨hc, h, by rw [if_pos hc]⟩
  · cases h
theorem bestO_ordF {l : List Mv} {sh : Int} {t o : List Int} (h : bestO l sh = some t) (h1 : (ordF l o).2 = true) (h2 : shiftM o (firstM l) ≤ sh) : ¬ (costM l (ordF l o).1).1 < (costM l t).1 := by
  obtain ⟨⟨_, hl, ho⟩, hm, he⟩ := ordF_ok h1
  rw [shiftM_symm] at h2
  obtain ⟨u, e, k⟩ := bestO_min (sh := sh) ho hl (by omega) hm
  obtain rfl : t = u := Option.some.inj (h.symm.trans e)
  rw [he]
  unfold CLe at k
  omega
end Go.AM

/- FnBest, walked; condition: a code of bytes. -/
namespace Go.Proofs.Ytmppoajepbbmiaa.AM
open Go.AM Go.RowKit
set_option linter.unusedVariables false
set_option linter.unusedSimpArgs false
set_option maxRecDepth 100000

theorem bestF_true {l : List Mv} {sh : Int} (h : (bestF l sh).2 = true) : ∃ t, bestF l sh = (t, true) ∧ MovesOk l ∧ (0 ≤ sh ∧ sh ≤ 6) ∧ bestO l sh = some t := by
  unfold bestF at *
  split at h
  · rename_i hc
    rw [if_pos hc]
    unfold bestM at *
    cases hb : bestO l sh with
    | none => rw [hb] at h; cases h
    | some t => exact ⟨t, rfl, hc.1, hc.2, rfl⟩
  · cases h
theorem bestF_more {l : List Mv} {sh : Int} {t : List Int} (hm : MovesOk l) (hs : 0 ≤ sh ∧ sh ≤ 6) (h : bestO l sh = some t) : ∃ u, bestF l 6 = (u, true) ∧ CLe l u t ∧ Fits l u := by
  obtain ⟨u, h1, h2⟩ := bestO_more h hs.2
  exact ⟨u, by unfold bestF bestM; rw [if_pos ⟨hm, by omega, by omega⟩, h1]; rfl, h2, best_ok1 hm 6 u h1⟩
theorem ordF_cost {l : List Mv} {o : List Int} (h : (ordF l o).2 = true) : costF l (ordF l o).1 = costM l (ordF l o).1 := if_pos (ordF_fits h)
set_option maxHeartbeats 8000000 in
theorem law_FnBest (bs : List Int) (hbl : bs.length ≤ maxLen) (hbw : ∀ z ∈ bs, (Lit.int .u8 z).wf = true) : Ok P 6 [.one (.lst (.int .u8) bs false)] [] (.one (.bool true)) [] := by
  have hb := bytes_of hbw
  obtain ⟨l, sh, ⟨h1, h2, h3⟩, hdraw⟩ := drawBest_ok hb
  have hbest := best_ok l sh
  have hsbest := sbest_ok l sh
  have hmore := best_ok l 6
  cases hok : (bestF l sh).2 with
  | false =>
    have hn := bestF_nil l sh hok
    rw [hok, hn] at hbest hsbest
    generalize bestF l 6 = r6 at hmore
    obtain ⟨u, c⟩ := r6
    simp only at hmore
    refine Ok.of_run (F := mk Try.f6 0) Try.func6 rfl rfl tabOk mixed rfl rfl rfl rfl rfl (Nat.le_of_ble_eq_true rfl) (Nat.le_of_ble_eq_true rfl) (.go 5000 ?_)
    repeat' (conv => arg 4; whnf); first | refine Run.ret ⟨?_, rfl⟩ | refine Run.condT ?_ | refine Run.condf ?_ | refine Run.condD (fun h => ?_) (fun h => ?_) | refine Run.condN (fun h => ?_) (fun h => ?_) | refine Run.condE (fun h => ?_) (fun h => ?_) | refine Run.condF (fun h => ?_) (fun h => ?_) | refine Run.condM (fun h => ?_) (fun h => ?_) | refine Run.condB (fun h => ?_) (fun h => ?_) | refine Run.check1 ?_ | refine Run.call (hdraw) rfl ?_ | refine Run.call (hbest) rfl ?_ | refine Run.call (hsbest) rfl ?_ | refine Run.call (hmore) rfl ?_ | refine Run.call (wints_ok [] (by simp)) rfl ?_ | (exfalso; simp_all; done)
    all_goals first | rfl | (exact absurd rfl ‹_›) | trace_state
  | true =>
    obtain ⟨t, e1, hm, hs, hbo⟩ := bestF_true hok
    obtain ⟨u, e2, hle, hfu⟩ := bestF_more hm hs hbo
    have hft := best_ok1 hm sh t hbo
    have hmin : ∀ o, (ordF l o).2 = true → shiftM o (firstM l) ≤ sh → ¬ (costF l (ordF l o).1).1 < (costF l t).1 := fun o g1 g2 => by
      rw [ordF_cost g1, show costF l t = costM l t from if_pos hft]
      exact bestO_ordF hbo g1 g2
    rw [e1] at hbest hsbest
    rw [e2] at hmore
    dsimp only at hbest hsbest hmore
    have htl := hft.2.1
    have hul := hfu.2.1
    have hct := cost_ok l t (tkWf_l (fits_w64 hft))
    have hcu := cost_ok l u (tkWf_l (fits_w64 hfu))
    have hfits := fits_ok l t (tkWf_l (fits_w64 hft))
    rw [decide_eq_true hft] at hfits
    have hle2 : (costF l u).1 < (costF l t).1 ∨ ((costF l u).1 = (costF l t).1 ∧ (costF l u).2 ≤ (costF l t).2) := by
      rw [show costF l t = costM l t from if_pos hft, show costF l u = costM l u from if_pos hfu]
      exact hle
    have hfl := firstM_len l
    have hfirst := first_ok l (by omega)
    have hco : ∀ o, Ok P 31 [.one (.lst .mv l false), .one (.lst (.int .i64) (ordF l o).1 false)] [] (.tup [.one (.int .i64 (costF l (ordF l o).1).1), .one (.int .i64 (costF l (ordF l o).1).2)]) [] := fun o => cost_ok l _ (tkWf_l (ordF_w64 l o))
    refine Ok.of_run (F := mk Try.f6 0) Try.func6 rfl rfl tabOk mixed rfl rfl rfl rfl rfl (Nat.le_of_ble_eq_true rfl) (Nat.le_of_ble_eq_true rfl) (.go 5000 ?_)
    have hshf := fun o (h : o.length ≤ 10) => shift_ok o (firstM l) (by omega) (by omega)
    have hord := fun o (h : o.length ≤ 10) => order_ok l o (by omega) (by omega)
    have loop : ∀ (d k : Nat) (z : Int), z = k → k + d = l.length → Run P (mk Try.f6 0) (fun v st => v = .one (.bool true) ∧ st = []) (.loop ⟨[(3, .one (.lst .mv l false)), (4, .one (.int .i64 sh)), (11, .one (.int .i64 (costF l t).1)), (15, .one (.lst (.int .i64) (firstM l) false)), (16, .one (.int .i64 z))], [], [.lp [0, 1, 0, 1, 1, 1, 1, 1, 1, 1, 1, 1, 1, 1, 1], .blk 0, .code [1, 1, 1, 1, 1, 1, 1, 1, 1, 1, 1, 1, 1]], none⟩) := by
      clear hbest hsbest hmore hdraw hct hcu hfits hfirst hle2 hle
      intro d
      induction d with
      | zero =>
        intro k z hz hd
        subst hz
        have e := fs (i := k) (by omega)
        refine Run.loop ?_
        repeat' (conv => arg 4; whnf); first | refine Run.ret ⟨?_, rfl⟩ | refine Run.condT ?_ | refine Run.condf ?_ | refine Run.condD (fun h => ?_) (fun h => ?_) | refine Run.condN (fun h => ?_) (fun h => ?_) | refine Run.condE (fun h => ?_) (fun h => ?_) | refine Run.condF (fun h => ?_) (fun h => ?_) | refine Run.condM (fun h => ?_) (fun h => ?_) | refine Run.condB (fun h => ?_) (fun h => ?_) | refine Run.check1 ?_ | (exfalso; have := e.h; omega)
        all_goals first | rfl | (exfalso; omega) | trace_state
      | succ d ih =>
        intro k z hz hd
        subst hz
        have e := fs (i := k) (by omega)
        have e0 : Fact (wrap64 (0 + 1) = 1) := ⟨(wrap_eq (by omega) (by omega)).trans (by omega)⟩
        have e1 : Fact (wrap64 (1 + 1) = 2) := ⟨(wrap_eq (by omega) (by omega)).trans (by omega)⟩
        have in2 : ∀ (o : List Int) (z : Int), z = 2 → Run P (mk Try.f6 0) (fun v st => v = .one (.bool true) ∧ st = []) (.loop ⟨[(3, .one (.lst .mv l false)), (4, .one (.int .i64 sh)), (11, .one (.int .i64 (costF l t).1)), (15, .one (.lst (.int .i64) (firstM l) false)), (16, .one (.int .i64 (k : Int))), (17, .one (.lst (.int .i64) o false)), (18, .one (.int .i64 z))], [], [.lp [0, 1, 1, 1, 1, 0, 0, 1, 0, 0, 1, 0, 1, 1, 1, 1, 1, 1, 1, 1, 1, 1, 1, 1], .blk 2, .blk 1, .code [1, 1, 0, 0, 1, 0, 1, 1, 1, 1, 1, 1, 1, 1, 1, 1, 1, 1], .lp [0, 1, 0, 1, 1, 1, 1, 1, 1, 1, 1, 1, 1, 1, 1], .blk 0, .code [1, 1, 1, 1, 1, 1, 1, 1, 1, 1, 1, 1, 1]], none⟩) := by
          intro o z hz
          subst hz
          refine Run.loop ?_
          repeat' (conv => arg 4; whnf); first | refine Run.ret ⟨?_, rfl⟩ | refine Run.condT ?_ | refine Run.condf ?_ | refine Run.condD (fun h => ?_) (fun h => ?_) | refine Run.condN (fun h => ?_) (fun h => ?_) | refine Run.condE (fun h => ?_) (fun h => ?_) | refine Run.condF (fun h => ?_) (fun h => ?_) | refine Run.condM (fun h => ?_) (fun h => ?_) | refine Run.condB (fun h => ?_) (fun h => ?_) | refine Run.check1 ?_ | (exfalso; omega) | refine Run.round ⟨[], [], []⟩ (ih (k + 1) _ e.h (by omega)) rfl (by (repeat' (first | exact wkEnv_nil | refine wkEnv_cons rfl ?_ | exact wkSto_nil | refine wkSto_none ?_ | refine wkSto_some rfl ?_)); done) (by (repeat' (first | exact wkEnv_nil | refine wkEnv_cons rfl ?_ | exact wkSto_nil | refine wkSto_none ?_ | refine wkSto_some rfl ?_)); done)
          all_goals first | rfl | (exfalso; omega) | trace_state
        clear ih
        have in1 : ∀ (o : List Int) (z : Int), o.length ≤ 10 → z = 1 → Run P (mk Try.f6 0) (fun v st => v = .one (.bool true) ∧ st = []) (.loop ⟨[(3, .one (.lst .mv l false)), (4, .one (.int .i64 sh)), (11, .one (.int .i64 (costF l t).1)), (15, .one (.lst (.int .i64) (firstM l) false)), (16, .one (.int .i64 (k : Int))), (17, .one (.lst (.int .i64) o false)), (18, .one (.int .i64 z))], [], [.lp [0, 1, 1, 1, 1, 0, 0, 1, 0, 0, 1, 0, 1, 1, 1, 1, 1, 1, 1, 1, 1, 1, 1, 1], .blk 2, .blk 1, .code [1, 1, 0, 0, 1, 0, 1, 1, 1, 1, 1, 1, 1, 1, 1, 1, 1, 1], .lp [0, 1, 0, 1, 1, 1, 1, 1, 1, 1, 1, 1, 1, 1, 1], .blk 0, .code [1, 1, 1, 1, 1, 1, 1, 1, 1, 1, 1, 1, 1]], none⟩) := by
          intro o z ho hz
          subst hz
          have g := hmin (firstM l)
          refine Run.loop ?_
          repeat' (conv => arg 4; whnf); first | refine Run.ret ⟨?_, rfl⟩ | refine Run.condT ?_ | refine Run.condf ?_ | refine Run.condD (fun h => ?_) (fun h => ?_) | refine Run.condN (fun h => ?_) (fun h => ?_) | refine Run.condE (fun h => ?_) (fun h => ?_) | refine Run.condF (fun h => ?_) (fun h => ?_) | refine Run.condM (fun h => ?_) (fun h => ?_) | refine Run.condB (fun h => ?_) (fun h => ?_) | refine Run.check1 ?_ | refine Run.call (hord _ (by omega)) rfl ?_ | refine Run.call (hco _) rfl ?_ | refine Run.call (hshf _ (by omega)) rfl ?_ | refine Run.round ⟨[], [], []⟩ (in2 _ _ e1.h) rfl (by (repeat' (first | exact wkEnv_nil | refine wkEnv_cons rfl ?_ | exact wkSto_nil | refine wkSto_none ?_ | refine wkSto_some rfl ?_)); done) (by (repeat' (first | exact wkEnv_nil | refine wkEnv_cons rfl ?_ | exact wkSto_nil | refine wkSto_none ?_ | refine wkSto_some rfl ?_)); done) | (exfalso; omega)
          all_goals first | rfl | (exfalso; exact g ‹_› ‹_› ‹_›) | (exfalso; omega) | trace_state
        have in0 : ∀ (o : List Int) (z : Int), o.length ≤ 10 → z = 0 → Run P (mk Try.f6 0) (fun v st => v = .one (.bool true) ∧ st = []) (.loop ⟨[(3, .one (.lst .mv l false)), (4, .one (.int .i64 sh)), (11, .one (.int .i64 (costF l t).1)), (15, .one (.lst (.int .i64) (firstM l) false)), (16, .one (.int .i64 (k : Int))), (17, .one (.lst (.int .i64) o false)), (18, .one (.int .i64 z))], [], [.lp [0, 1, 1, 1, 1, 0, 0, 1, 0, 0, 1, 0, 1, 1, 1, 1, 1, 1, 1, 1, 1, 1, 1, 1], .blk 2, .blk 1, .code [1, 1, 0, 0, 1, 0, 1, 1, 1, 1, 1, 1, 1, 1, 1, 1, 1, 1], .lp [0, 1, 0, 1, 1, 1, 1, 1, 1, 1, 1, 1, 1, 1, 1], .blk 0, .code [1, 1, 1, 1, 1, 1, 1, 1, 1, 1, 1, 1, 1]], none⟩) := by
          intro o z ho hz
          subst hz
          have g := hmin o
          refine Run.loop ?_
          repeat' (conv => arg 4; whnf); first | refine Run.ret ⟨?_, rfl⟩ | refine Run.condT ?_ | refine Run.condf ?_ | refine Run.condD (fun h => ?_) (fun h => ?_) | refine Run.condN (fun h => ?_) (fun h => ?_) | refine Run.condE (fun h => ?_) (fun h => ?_) | refine Run.condF (fun h => ?_) (fun h => ?_) | refine Run.condM (fun h => ?_) (fun h => ?_) | refine Run.condB (fun h => ?_) (fun h => ?_) | refine Run.check1 ?_ | refine Run.call (hord _ (by omega)) rfl ?_ | refine Run.call (hco _) rfl ?_ | refine Run.call (hshf _ (by omega)) rfl ?_ | refine Run.round ⟨[], [], []⟩ (in1 _ _ ho e0.h) rfl (by (repeat' (first | exact wkEnv_nil | refine wkEnv_cons rfl ?_ | exact wkSto_nil | refine wkSto_none ?_ | refine wkSto_some rfl ?_)); done) (by (repeat' (first | exact wkEnv_nil | refine wkEnv_cons rfl ?_ | exact wkSto_nil | refine wkSto_none ?_ | refine wkSto_some rfl ?_)); done) | (exfalso; omega)
          all_goals first | rfl | (exfalso; exact g ‹_› ‹_› ‹_›) | (exfalso; omega) | trace_state
        refine Run.loop ?_
        repeat' (conv => arg 4; whnf); first | refine Run.ret ⟨?_, rfl⟩ | refine Run.condT ?_ | refine Run.condf ?_ | refine Run.condD (fun h => ?_) (fun h => ?_) | refine Run.condN (fun h => ?_) (fun h => ?_) | refine Run.condE (fun h => ?_) (fun h => ?_) | refine Run.condF (fun h => ?_) (fun h => ?_) | refine Run.condM (fun h => ?_) (fun h => ?_) | refine Run.condB (fun h => ?_) (fun h => ?_) | refine Run.check1 ?_ | (exfalso; omega) | refine Run.need1 (by simp only [allP, true_and, and_true]; omega) ?_ | (have := e.h; refine Run.need1 (by simp only [allP, true_and, and_true, List.length_append, List.length_nil, List.length_set]; omega) ?_) | (have := e.h; refine Run.need1 (by simp only [allP, true_and, and_true, List.length_append, List.length_nil, List.length_set]; simp; omega) ?_) | refine Run.round ⟨[], [], [.t 108 0]⟩ (in0 _ _ ?_ rfl) rfl (by (repeat' (first | exact wkEnv_nil | refine wkEnv_cons rfl ?_ | exact wkSto_nil | refine wkSto_none ?_ | refine wkSto_some rfl ?_)); done) (by (repeat' (first | exact wkEnv_nil | refine wkEnv_cons rfl ?_ | exact wkSto_nil | refine wkSto_none ?_ | refine wkSto_some rfl ?_)); done)
        all_goals first | rfl | (simp only [List.length_set, List.length_append, List.length_nil]; omega) | (exfalso; omega) | trace_state
    repeat' (conv => arg 4; whnf); first | refine Run.ret ⟨?_, rfl⟩ | refine Run.condT ?_ | refine Run.condf ?_ | refine Run.condD (fun h => ?_) (fun h => ?_) | refine Run.condN (fun h => ?_) (fun h => ?_) | refine Run.condE (fun h => ?_) (fun h => ?_) | refine Run.condF (fun h => ?_) (fun h => ?_) | refine Run.condM (fun h => ?_) (fun h => ?_) | refine Run.condB (fun h => ?_) (fun h => ?_) | refine Run.check1 ?_ | refine Run.call (hdraw) rfl ?_ | refine Run.call (hbest) rfl ?_ | refine Run.call (hsbest) rfl ?_ | refine Run.call (hmore) rfl ?_ | refine Run.call (wints_ok t (by omega)) rfl ?_ | refine Run.call (hct) rfl ?_ | refine Run.call (hcu) rfl ?_ | refine Run.call (hfits) rfl ?_ | refine Run.call (hfirst) rfl ?_ | refine Run.round ⟨[], [], [.t 28 0, .t 98 0]⟩ (loop l.length 0 _ rfl (by omega)) rfl (by (repeat' (first | exact wkEnv_nil | refine wkEnv_cons rfl ?_ | exact wkSto_nil | refine wkSto_none ?_ | refine wkSto_some rfl ?_)); done) (by (repeat' (first | exact wkEnv_nil | refine wkEnv_cons rfl ?_ | exact wkSto_nil | refine wkSto_none ?_ | refine wkSto_some rfl ?_)); done) | (exfalso; simp_all; done) | (exfalso; omega)
    all_goals first | rfl | (exact absurd rfl ‹_›) | (exfalso; omega) | trace_state
end Go.Proofs.Ytmppoajepbbmiaa.AM

/- What comes in as a struct, a slice or a book, in the machine's words; condition: the argument reads as data of its type. -/
namespace Go.Proofs.Ytmppoajepbbmiaa.AM
open Go.Joins Go.ChangeShapes Go.WideShapes Go.RowKit Go.Deep Go.AM
set_option linter.unusedVariables false
set_option linter.unusedSimpArgs false
set_option maxRecDepth 100000
section
variable {H : Type} {enc : TypeId × Value → H} {w : World} {base : Nat} {spare : Nat → Bool} {held : Bool} {μ : Mu}
theorem open_mv {n : Nat} {cs : List Value} {y : DataW H × List MemPlace} (h : DataW.trod enc Try.prog w base spare held n 66 cs = some y) (hl : cs.length = 6) :
    ∃ m : Mv, cs = [.string m.f0, .bool m.f1, .int .i64 m.f2, .int .i64 m.f3, .int .i64 m.f4, .int .i64 m.f5] ∧ MvWf m := by
  obtain ⟨xs, n', _, _, _, hxl, hf⟩ := DataW.trod_struct Try.underlying66 h
  match cs, hl with
  | [c0, c1, c2, c3, c4, c5], _ =>
    have h0 := hf 0 _ rfl
    have h1 := hf 1 _ rfl
    have h2 := hf 2 _ rfl
    have h3 := hf 3 _ rfl
    have h4 := hf 4 _ rfl
    have h5 := hf 5 _ rfl
    have k1 : Try.prog.cellsOf 9 = 1 := by kernel_rfl
    have k2 : Try.prog.cellsOf 4 = 1 := by kernel_rfl
    have k3 : Try.prog.cellsOf 3 = 1 := by kernel_rfl
    have e0 : xs[0]? = some (xs[0]'(by rw [hxl]; decide)) := List.getElem?_eq_getElem _
    have e1 : xs[1]? = some (xs[1]'(by rw [hxl]; decide)) := List.getElem?_eq_getElem _
    have e2 : xs[2]? = some (xs[2]'(by rw [hxl]; decide)) := List.getElem?_eq_getElem _
    have e3 : xs[3]? = some (xs[3]'(by rw [hxl]; decide)) := List.getElem?_eq_getElem _
    have e4 : xs[4]? = some (xs[4]'(by rw [hxl]; decide)) := List.getElem?_eq_getElem _
    have e5 : xs[5]? = some (xs[5]'(by rw [hxl]; decide)) := List.getElem?_eq_getElem _
    obtain ⟨a0, q0, _, w0⟩ := DataW.trod_string Try.underlying9 (h0.trans e0)
    obtain ⟨a1, q1, _⟩ := DataW.trod_bool Try.underlying4 (h1.trans e1)
    obtain ⟨a2, q2, _, w2⟩ := DataW.trod_int Try.underlying3 (h2.trans e2)
    obtain ⟨a3, q3, _, w3⟩ := DataW.trod_int Try.underlying3 (h3.trans e3)
    obtain ⟨a4, q4, _, w4⟩ := DataW.trod_int Try.underlying3 (h4.trans e4)
    obtain ⟨a5, q5, _, w5⟩ := DataW.trod_int Try.underlying3 (h5.trans e5)
    simp [k1, k2, k3] at q0 q1 q2 q3 q4 q5
    subst q0 q1 q2 q3 q4 q5
    exact ⟨⟨a0, a1, a2, a3, a4, a5⟩, rfl, w0, wf64 w2, wf64 w3, wf64 w4, wf64 w5⟩
theorem open_ints {t fuel : Nat} {cs : List Value} {y : DataW H × List MemPlace} (ht : Try.prog.underlying t = some (.slice 3)) (h : DataW.trod enc Try.prog w base spare held fuel t cs = some y) :
    ∃ (v : Value) (xs : List Int), cs = [v] ∧ repA μ w (Old w) (.lst (.int .i64) xs false) v ∧ xs.length ≤ maxLen ∧ ∀ z ∈ xs, W64 z :=
  open_sl (.int .i64) ht (by kernel_rfl) (by decide) W64 (fun n cs' y hy hl => by
    obtain ⟨z, h1, _, h2⟩ := DataW.trod_int Try.underlying3 hy
    subst h1
    exact ⟨z, .cons rfl .nil, wf64 h2⟩) h
theorem open_bytes {t fuel : Nat} {cs : List Value} {y : DataW H × List MemPlace} (ht : Try.prog.underlying t = some (.slice 5)) (h : DataW.trod enc Try.prog w base spare held fuel t cs = some y) :
    ∃ (v : Value) (xs : List Int), cs = [v] ∧ repA μ w (Old w) (.lst (.int .u8) xs false) v ∧ xs.length ≤ maxLen ∧ ∀ z ∈ xs, (Lit.int .u8 z).wf = true :=
  open_sl (.int .u8) ht (by kernel_rfl) (by decide) (fun z => (Lit.int .u8 z).wf = true) (fun n cs' y hy hl => by
    obtain ⟨z, h1, _, h2⟩ := DataW.trod_int Try.underlying5 hy
    subst h1
    exact ⟨z, .cons rfl .nil, h2⟩) h
theorem open_mvs {t fuel : Nat} {cs : List Value} {y : DataW H × List MemPlace} (ht : Try.prog.underlying t = some (.slice 66)) (h : DataW.trod enc Try.prog w base spare held fuel t cs = some y) :
    ∃ (v : Value) (xs : List Mv), cs = [v] ∧ repA μ w (Old w) (.lst .mv xs false) v ∧ xs.length ≤ maxLen ∧ ∀ z ∈ xs, MvWf z :=
  open_sl .mv ht (by kernel_rfl) (by decide) MvWf (fun n cs' y hy hl => by
    obtain ⟨m, rfl, hm⟩ := open_mv hy hl
    exact ⟨m, .cons rfl (.cons rfl (.cons rfl (.cons rfl (.cons rfl (.cons rfl .nil))))), hm⟩) h
theorem open_bk {n : Nat} {cs : List Value} {y : DataW H × List MemPlace} (h : DataW.trod enc Try.prog w base spare held n 49 cs = some y) (hl : cs.length = 4) :
    ∃ b : Bk, repV μ w (Old w) b.lent (.agg ⟨cs⟩) ∧ W64 b.now ∧ W64 b.shift ∧ b.ms.length ≤ maxLen ∧ (∀ z ∈ b.ms, MvWf z) ∧ b.ts.length ≤ maxLen ∧ ∀ z ∈ b.ts, W64 z := by
  obtain ⟨xs, n', _, _, _, hxl, hf⟩ := DataW.trod_struct Try.underlying49 h
  match cs, hl with
  | [d0, d1, d2, d3], _ =>
    have h0 := hf 0 _ rfl
    have h1 := hf 1 _ rfl
    have h2 := hf 2 _ rfl
    have h3 := hf 3 _ rfl
    have k1 : Try.prog.cellsOf 3 = 1 := by kernel_rfl
    have k2 : Try.prog.cellsOf 22 = 1 := by kernel_rfl
    have k3 : Try.prog.cellsOf 24 = 1 := by kernel_rfl
    have e0 : xs[0]? = some (xs[0]'(by rw [hxl]; decide)) := List.getElem?_eq_getElem _
    have e1 : xs[1]? = some (xs[1]'(by rw [hxl]; decide)) := List.getElem?_eq_getElem _
    have e2 : xs[2]? = some (xs[2]'(by rw [hxl]; decide)) := List.getElem?_eq_getElem _
    have e3 : xs[3]? = some (xs[3]'(by rw [hxl]; decide)) := List.getElem?_eq_getElem _
    obtain ⟨a0, q0, _, w0⟩ := DataW.trod_int Try.underlying3 (h0.trans e0)
    obtain ⟨a1, q1, _, w1⟩ := DataW.trod_int Try.underlying3 (h1.trans e1)
    obtain ⟨v2, l2, q2, hr2, hm2, w2⟩ := open_mvs (μ := μ) Try.underlying22 (h2.trans e2)
    obtain ⟨v3, l3, q3, hr3, hm3, w3⟩ := open_ints (μ := μ) Try.underlying24 (h3.trans e3)
    simp [k1, k2, k3] at q0 q1 q2 q3
    subst q0 q1 q2 q3
    refine ⟨⟨a0, a1, l2, l3⟩, ?_, wf64 w0, wf64 w1, hm2, w2, hm3, w3⟩
    simp only [Bk.lent, repV]
    refine ⟨_, rfl, ?_⟩
    simp only [repAs]
    exact ⟨_, _, rfl, by simp only [repA], _, _, rfl, by simp only [repA], _, _, rfl, hr2, _, _, rfl, hr3, rfl⟩
end
end Go.Proofs.Ytmppoajepbbmiaa.AM

/- FnBest: for every input the law returns true and each argument reads behind the call as it read before; no condition. -/
namespace Go.Proofs.Ytmppoajepbbmiaa.fnBest
open Go.ChangeShapes Go.WideShapes Go.ChangeAt Go.RowKit
open Go.ChangeMaps (open_string shut_string)
set_option linter.unusedVariables false
theorem own : ownKnob Try.prog.godebug = none := by kernel_rfl
theorem laidOut : laidOutB Try.prog = true := by kernel_rfl
set_option maxRecDepth 100000 in
theorem lifted (os : Os) (started : os.Started) (H : Type) (enc : TypeId × Value → H) :
    ReturnsInHanded {} Try.checked os 6 .any (Rows.fnBestSpec.pre6 enc Try.prog Try.f6 Rows.fnBestRow.domain false) (Rows.fnBestSpec.post enc Try.prog Try.f6 false true false false) := by
  refine returnsInHanded_of_change_sized (C := Try.checked) own started (by kernel_rfl) Try.func6
    (ChangeSpec.witness6 (enc := enc) (C := Try.checked) false ⟨#[], #[.slice none 0 0], []⟩ 8 (by kernel_rfl) (by kernel_rfl) (by kernel_rfl) (by kernel_rfl)) ?_
  intro W base args ds gs before hval0 hW hcnd hsz0 _
  have hval : ∀ (j : Nat) t v, Try.f6.params[j]? = some t → args[j]? = some v → Value.okWide Try.prog W .any base t v := hval0
  have hW' := hW
  obtain ⟨p, q, hA0, hV, rfl, hfz, hnd⟩ := hW
  have hA : DataW.TrodAll enc Try.prog W 0 (fun _ => true) true Try.f6.params.toList args.toList ds p := hA0
  rw [Try.params6] at hA hval
  obtain ⟨v0, vs0, d0, ds0, p0, q0, hargs, rfl, rfl, h0, r0⟩ := trodAll_cons hA
  obtain ⟨rfl, rfl, rfl⟩ := trodAll_nil r0
  obtain rfl : args = #[v0] := by cases args; simp_all
  obtain ⟨rfl, rfl⟩ := trodVars_none hV
  have k0 := h0
  have lt0 : ∀ x ∈ p0, x.block < W.heap.size := by obtain ⟨m, hm⟩ := k0; exact DataW.trod_lt m _ _ _ hm
  obtain ⟨A0, len0, cap0, rfl⟩ := okWide_slice Try.underlying33 (hval 0 33 v0 rfl rfl)
  obtain ⟨fuel0, hf0⟩ := h0
  obtain ⟨u0, a0, e0, hr0, hm0, w0⟩ := AM.open_bytes (μ := fun _ => none) Try.underlying33 hf0
  simp [Value.cells] at e0
  subst e0
  refine (Go.AM.calls_true Try.func6 rfl rfl (AM.law_FnBest a0 hm0 w0) (by simp only [Go.AM.repVs]; exact ⟨_, _, rfl, (by simp only [Go.AM.repV]; exact hr0), rfl⟩)).mono fun e W' ⟨he, bel⟩ => ?_
  subst he
  exact ⟨_, rfl, _, _, _, [], _, [], hW', trodAll_mk1 (shut_bool Try.underlying4 _), (trodAll_cons_mk (Below.trod laidOut (by kernel_rfl) (of_decide_eq_true (by kernel_rfl)) k0 bel lt0) trodAll_mk0), rfl, bel.frame _, fun h => by cases h⟩
theorem over : Rows.fnBestRow.holds Try.pinned (OpenSpec.ofChange Rows.fnBestSpec) :=
  OpenClaim.holds_of_wide 6 Try.f6 rfl rfl rfl rfl rfl rfl rfl ⟨rfl, rfl, rfl, rfl, rfl⟩ rfl rfl rfl rfl rfl (by kernel_rfl) Try.func6 (by kernel_rfl)
    (of_decide_eq_true (by kernel_rfl)) (by unfold Func.isWrapper; first | (rw [if_pos (by decide +kernel)]; kernel_rfl) | (rw [if_neg (by decide +kernel)]; exact ⟨rfl, rfl⟩))
    (fun os started H enc _ => lifted os started H enc)
theorem proved : Rows.FnBestSaid := over
end Go.Proofs.Ytmppoajepbbmiaa.fnBest
namespace Go.Proofs.Ytmppoajepbbmiaa
theorem fnBest_holds : Rows.FnBestSaid := fnBest.proved
#print axioms fnBest_holds
end Go.Proofs.Ytmppoajepbbmiaa
