/- FnExactStripAdd, part 3 of 3: what the law's functions come to, plain laws on it, and the row; no condition -/
import Derived.Test.YtmppoajepbbmiaaGreatRows
import Derived.Test.YtmppoajepbbmiaaGreatChecked
import Derived.WalkKit
import Derived.ProofKit
import Derived.OpenShut
import Derived.ShutString
import Derived.ChangeOld
import Derived.Below
import Derived.SizedLaws
import Derived.Test.YtmppoajepbbmiaaGreatYXAdd2
/- The exact laws' marks on numbers; condition: bounds. -/
namespace Go.Proofs.YtmppoajepbbmiaaGreat.AM
open Go.AM Go.RowKit
set_option linter.unusedVariables false
set_option linter.unusedSimpArgs false
set_option maxRecDepth 100000

def mkI (k : Int) (n : Nat) : List Int := (List.range n).map fun i : Nat => k + (i : Int)
theorem mkI_len (k : Int) (n : Nat) : (mkI k n).length = n := by simp [mkI]
theorem mkI_at (k : Int) (n : Nat) {i : Nat} (h : i < n) : (mkI k n).getD i 0 = k + i := by simp [mkI, List.getD_eq_getElem?_getD, h]
theorem markInts_ok (t : List Int) (k : Int) (ht : t.length ≤ 1048576) (hk : 0 ≤ k ∧ k ≤ 1000000000000) : Ok P 75 [.one (.own (.k 0)), .one (.int .i64 k)] [some (.row (.int .i64) t)] (.one (.int .i64 (k + t.length))) [some (.row (.int .i64) (mkI k t.length))] := by
  refine Ok.of_run (F := mk Tryz.f75 1) Tryz.func75 rfl rfl tabOk mixed rfl rfl rfl rfl rfl (Nat.le_of_ble_eq_true rfl) (Nat.le_of_ble_eq_true rfl) (.go 5000 ?_)
  have loop : ∀ (d i : Nat) (z y : Int) (s : List Int), z = i → y = k + i → i + d = t.length → Cp 0 (mkI k t.length) s i → Run P (mk Tryz.f75 1) (fun v st => v = .one (.int .i64 (k + t.length)) ∧ st = [some (.row (.int .i64) (mkI k t.length))]) (.loop ⟨[(0, .one (.own (.k 0))), (1, .one (.int .i64 y)), (5, .one (.int .i64 z))], [(.k 0, some (.row (.int .i64) s))], [.lp [0, 1, 0, 1], .blk 0, .code [1, 1]], none⟩) := by
    intro d
    induction d with
    | zero =>
      intro i z y s hz hy hd hc
      subst hz; subst hy
      have hl := hc.1
      rw [mkI_len] at hl
      obtain rfl := cp_end hc (by rw [mkI_len]; omega)
      refine Run.loop ?_
      repeat' (conv => arg 4; whnf); first | refine Run.ret ⟨?_, rfl⟩ | refine Run.condT ?_ | refine Run.condf ?_ | refine Run.condD (fun h => ?_) (fun h => ?_) | refine Run.condN (fun h => ?_) (fun h => ?_) | refine Run.condE (fun h => ?_) (fun h => ?_) | refine Run.condF (fun h => ?_) (fun h => ?_) | refine Run.condM (fun h => ?_) (fun h => ?_) | refine Run.condB (fun h => ?_) (fun h => ?_) | refine Run.check1 ?_ | (exfalso; omega)
      all_goals first | (exfalso; omega) | (refine vi ?_; omega) | trace_state
    | succ d ih =>
      intro i z y s hz hy hd hc
      subst hz; subst hy
      have e : wrap64 ((i : Int) + 1) = ((i + 1 : Nat) : Int) := wrap_eq (by omega) (by omega)
      have ek : wrap64 (k + i + 1) = k + ((i + 1 : Nat) : Int) := (wrap_eq (by omega) (by omega)).trans (by omega)
      have hl := hc.1
      rw [mkI_len] at hl
      have hs := cp_step hc (i := i) (by rw [mkI_len]; omega)
      rw [mkI_at _ _ (by omega)] at hs
      refine Run.loop ?_
      repeat' (conv => arg 4; whnf); first | refine Run.ret ⟨?_, rfl⟩ | refine Run.condT ?_ | refine Run.condf ?_ | refine Run.condD (fun h => ?_) (fun h => ?_) | refine Run.condN (fun h => ?_) (fun h => ?_) | refine Run.condE (fun h => ?_) (fun h => ?_) | refine Run.condF (fun h => ?_) (fun h => ?_) | refine Run.condM (fun h => ?_) (fun h => ?_) | refine Run.condB (fun h => ?_) (fun h => ?_) | refine Run.check1 ?_ | refine Run.need1 (by simp only [allP, true_and, and_true]; omega) ?_ | refine Run.round ⟨[], [], []⟩ (ih (i + 1) _ _ _ e ek (by omega) ?_) rfl (by (repeat' (first | exact wkEnv_nil | refine wkEnv_cons rfl ?_ | exact wkSto_nil | refine wkSto_none ?_ | refine wkSto_some rfl ?_)); done) (by (repeat' (first | exact wkEnv_nil | refine wkEnv_cons rfl ?_ | exact wkSto_nil | refine wkSto_none ?_ | refine wkSto_some rfl ?_)); done) | (exfalso; omega)
      all_goals first
        | (exfalso; omega)
        | (simpa using hs)
        | trace_state
  repeat' (conv => arg 4; whnf); first | refine Run.ret ⟨?_, rfl⟩ | refine Run.condT ?_ | refine Run.condf ?_ | refine Run.condD (fun h => ?_) (fun h => ?_) | refine Run.condN (fun h => ?_) (fun h => ?_) | refine Run.condE (fun h => ?_) (fun h => ?_) | refine Run.condF (fun h => ?_) (fun h => ?_) | refine Run.condM (fun h => ?_) (fun h => ?_) | refine Run.condB (fun h => ?_) (fun h => ?_) | refine Run.check1 ?_ | refine Run.round ⟨[], [], []⟩ (loop t.length 0 _ _ _ rfl ?_ ?_ ?_) rfl (by (repeat' (first | exact wkEnv_nil | refine wkEnv_cons rfl ?_ | exact wkSto_nil | refine wkSto_none ?_ | refine wkSto_some rfl ?_)); done) (by (repeat' (first | exact wkEnv_nil | refine wkEnv_cons rfl ?_ | exact wkSto_nil | refine wkSto_none ?_ | refine wkSto_some rfl ?_)); done)
  all_goals first
    | omega
    | exact ⟨by rw [mkI_len], fun j hj => absurd hj (by omega)⟩
    | trace_state
theorem heldInts_ok (n : Nat) (k : Int) (hn : n ≤ 1048576) (hk : 0 ≤ k ∧ k ≤ 1000000000000) : Ok P 77 [.one (.lst (.int .i64) (mkI k n) false), .one (.int .i64 k)] [] (.one (.int .i64 (k + n))) [] := by
  refine Ok.of_run (F := mk Tryz.f77 0) Tryz.func77 rfl rfl tabOk mixed rfl rfl rfl rfl rfl (Nat.le_of_ble_eq_true rfl) (Nat.le_of_ble_eq_true rfl) (.go 5000 ?_)
  have hlen := mkI_len k n
  have loop : ∀ (d i : Nat) (z y : Int), z = i → y = k + i → i + d = n → Run P (mk Tryz.f77 0) (fun v st => v = .one (.int .i64 (k + n)) ∧ st = []) (.loop ⟨[(0, .one (.lst (.int .i64) (mkI k n) false)), (1, .one (.int .i64 y)), (5, .one (.int .i64 z))], [], [.lp [0, 1, 0, 1], .blk 0, .code [1, 1]], none⟩) := by
    intro d
    induction d with
    | zero =>
      intro i z y hz hy hd
      subst hz; subst hy
      refine Run.loop ?_
      repeat' (conv => arg 4; whnf); first | refine Run.ret ⟨?_, rfl⟩ | refine Run.condT ?_ | refine Run.condf ?_ | refine Run.condD (fun h => ?_) (fun h => ?_) | refine Run.condN (fun h => ?_) (fun h => ?_) | refine Run.condE (fun h => ?_) (fun h => ?_) | refine Run.condF (fun h => ?_) (fun h => ?_) | refine Run.condM (fun h => ?_) (fun h => ?_) | refine Run.condB (fun h => ?_) (fun h => ?_) | refine Run.check1 ?_ | (exfalso; omega)
      all_goals first | (exfalso; omega) | (refine vi ?_; omega) | trace_state
    | succ d ih =>
      intro i z y hz hy hd
      subst hz; subst hy
      have e : wrap64 ((i : Int) + 1) = ((i + 1 : Nat) : Int) := wrap_eq (by omega) (by omega)
      have ek : wrap64 (k + i + 1) = k + ((i + 1 : Nat) : Int) := (wrap_eq (by omega) (by omega)).trans (by omega)
      have ea : rd (mkI k n) i = k + i := by rw [rd_nat]; exact mkI_at k n (by omega)
      refine Run.loop ?_
      repeat' (conv => arg 4; whnf); first | refine Run.ret ⟨?_, rfl⟩ | refine Run.condT ?_ | refine Run.condf ?_ | refine Run.condD (fun h => ?_) (fun h => ?_) | refine Run.condN (fun h => ?_) (fun h => ?_) | refine Run.condE (fun h => ?_) (fun h => ?_) | refine Run.condF (fun h => ?_) (fun h => ?_) | refine Run.condM (fun h => ?_) (fun h => ?_) | refine Run.condB (fun h => ?_) (fun h => ?_) | refine Run.check1 ?_ | refine Run.need1 (by simp only [allP, true_and, and_true]; omega) ?_ | refine Run.round ⟨[], [], []⟩ (ih (i + 1) _ _ e ek (by omega)) rfl (by (repeat' (first | exact wkEnv_nil | refine wkEnv_cons rfl ?_ | exact wkSto_nil | refine wkSto_none ?_ | refine wkSto_some rfl ?_)); done) (by (repeat' (first | exact wkEnv_nil | refine wkEnv_cons rfl ?_ | exact wkSto_nil | refine wkSto_none ?_ | refine wkSto_some rfl ?_)); done) | contradiction | (exfalso; omega)
      all_goals first
        | (exfalso; omega)
        | contradiction
        | trace_state
  repeat' (conv => arg 4; whnf); first | refine Run.ret ⟨?_, rfl⟩ | refine Run.condT ?_ | refine Run.condf ?_ | refine Run.condD (fun h => ?_) (fun h => ?_) | refine Run.condN (fun h => ?_) (fun h => ?_) | refine Run.condE (fun h => ?_) (fun h => ?_) | refine Run.condF (fun h => ?_) (fun h => ?_) | refine Run.condM (fun h => ?_) (fun h => ?_) | refine Run.condB (fun h => ?_) (fun h => ?_) | refine Run.check1 ?_ | refine Run.round ⟨[], [], []⟩ (loop n 0 _ _ rfl ?_ ?_) rfl (by (repeat' (first | exact wkEnv_nil | refine wkEnv_cons rfl ?_ | exact wkSto_nil | refine wkSto_none ?_ | refine wkSto_some rfl ?_)); done) (by (repeat' (first | exact wkEnv_nil | refine wkEnv_cons rfl ?_ | exact wkSto_nil | refine wkSto_none ?_ | refine wkSto_some rfl ?_)); done)
  all_goals first
    | omega
    | trace_state
theorem ofBytes_size (xs : List Int) : (ofBytes xs).size = xs.length := by simp [ofBytes, ByteArray.size]
theorem markText_ex (k : Int) (hk : k ≤ 1000000000000) : ∃ s, Ok P 99 [.one (.int .i64 k)] [] (.one (.str s)) [] := by
  by_cases h0 : k ≤ 0
  · refine ⟨⟨#[109, 48]⟩, ?_⟩
    refine Ok.of_run (F := mk Tryz.f99 0) Tryz.func99 rfl rfl tabOk mixed rfl rfl rfl rfl rfl (Nat.le_of_ble_eq_true rfl) (Nat.le_of_ble_eq_true rfl) (.go 5000 ?_)
    repeat' (conv => arg 4; whnf); first | refine Run.ret ⟨?_, rfl⟩ | refine Run.condT ?_ | refine Run.condf ?_ | refine Run.condD (fun h => ?_) (fun h => ?_) | refine Run.condN (fun h => ?_) (fun h => ?_) | refine Run.condE (fun h => ?_) (fun h => ?_) | refine Run.condF (fun h => ?_) (fun h => ?_) | refine Run.condM (fun h => ?_) (fun h => ?_) | refine Run.condB (fun h => ?_) (fun h => ?_) | refine Run.check1 ?_ | (exfalso; omega)
    all_goals rfl
  · have loop : ∀ (d : Nat) (y : Int) (out : ByteArray), 0 ≤ y → y ≤ 1000000000000 → y < 10 ^ d → out.size + d ≤ 40 → ∃ s, Run P (mk Tryz.f99 0) (fun v st => v = .one (.str s) ∧ st = []) (.loop ⟨[(0, .one (.int .i64 y)), (3, .one (.str out))], [], [.lp [0, 0, 1, 1, 1], .blk 0, .code [1, 1, 1, 1]], none⟩) := by
      intro d
      induction d with
      | zero =>
        intro y out h1 hm h2 h3
        have hy : ¬ 0 < y := by simp at h2; omega
        refine ⟨⟨#[109]⟩ ++ out, Run.loop ?_⟩
        have hs : (⟨#[109]⟩ : ByteArray).size = 1 := rfl
        repeat' (conv => arg 4; whnf); first | refine Run.ret ⟨?_, rfl⟩ | refine Run.condT ?_ | refine Run.condf ?_ | refine Run.condD (fun h => ?_) (fun h => ?_) | refine Run.condN (fun h => ?_) (fun h => ?_) | refine Run.condE (fun h => ?_) (fun h => ?_) | refine Run.condF (fun h => ?_) (fun h => ?_) | refine Run.condM (fun h => ?_) (fun h => ?_) | refine Run.condB (fun h => ?_) (fun h => ?_) | refine Run.check1 ?_ | (exact absurd ‹0 < y› hy) | refine Run.need1 (by simp only [allP, true_and, and_true, hs]; omega) ?_
        all_goals first | rfl | (exact absurd ‹0 < y› hy) | trace_state
      | succ d ih =>
        intro y out h1 hm h2 h3
        by_cases hy : 0 < y
        · have hq : y.tdiv 10 = y / 10 := Int.tdiv_eq_ediv_of_nonneg h1
          have hlt : y / 10 < 10 ^ d := by
            rw [Int.pow_succ] at h2
            omega
          have e : wrap64 (y.tdiv 10) = y.tdiv 10 := by rw [hq]; exact wrap_eq (by omega) (by omega)
          obtain ⟨s, hs⟩ := ih (wrap64 (y.tdiv 10)) (ofBytes [IntKind.u8.wrap (wrap64 (48 + y.tmod 10))] ++ out) (by rw [e, hq]; omega) (by rw [e, hq]; omega) (by rw [e, hq]; exact hlt) (by rw [ByteArray.size_append, ofBytes_size]; simp; omega)
          refine ⟨s, Run.loop ?_⟩
          repeat' (conv => arg 4; whnf); first | refine Run.ret ⟨?_, rfl⟩ | refine Run.condT ?_ | refine Run.condf ?_ | refine Run.condD (fun h => ?_) (fun h => ?_) | refine Run.condN (fun h => ?_) (fun h => ?_) | refine Run.condE (fun h => ?_) (fun h => ?_) | refine Run.condF (fun h => ?_) (fun h => ?_) | refine Run.condM (fun h => ?_) (fun h => ?_) | refine Run.condB (fun h => ?_) (fun h => ?_) | refine Run.check1 ?_ | refine Run.need1 (by simp only [allP, true_and, and_true, ofBytes_size, List.length_cons, List.length_nil]; omega) ?_ | refine Run.round ⟨[], [], []⟩ (hs) rfl (by (repeat' (first | exact wkEnv_nil | refine wkEnv_cons rfl ?_ | exact wkSto_nil | refine wkSto_none ?_ | refine wkSto_some rfl ?_)); done) (by (repeat' (first | exact wkEnv_nil | refine wkEnv_cons rfl ?_ | exact wkSto_nil | refine wkSto_none ?_ | refine wkSto_some rfl ?_)); done) | contradiction
          all_goals first | contradiction | trace_state
        · refine ⟨⟨#[109]⟩ ++ out, Run.loop ?_⟩
          have hs : (⟨#[109]⟩ : ByteArray).size = 1 := rfl
          repeat' (conv => arg 4; whnf); first | refine Run.ret ⟨?_, rfl⟩ | refine Run.condT ?_ | refine Run.condf ?_ | refine Run.condD (fun h => ?_) (fun h => ?_) | refine Run.condN (fun h => ?_) (fun h => ?_) | refine Run.condE (fun h => ?_) (fun h => ?_) | refine Run.condF (fun h => ?_) (fun h => ?_) | refine Run.condM (fun h => ?_) (fun h => ?_) | refine Run.condB (fun h => ?_) (fun h => ?_) | refine Run.check1 ?_ | (exact absurd ‹0 < y› hy) | refine Run.need1 (by simp only [allP, true_and, and_true, hs]; omega) ?_
          all_goals first | rfl | (exact absurd ‹0 < y› hy) | trace_state
    obtain ⟨s, hs⟩ := loop 13 k ByteArray.empty (by omega) (by omega) (by omega) (by simp)
    refine ⟨s, ?_⟩
    refine Ok.of_run (F := mk Tryz.f99 0) Tryz.func99 rfl rfl tabOk mixed rfl rfl rfl rfl rfl (Nat.le_of_ble_eq_true rfl) (Nat.le_of_ble_eq_true rfl) (.go 5000 ?_)
    repeat' (conv => arg 4; whnf); first | refine Run.ret ⟨?_, rfl⟩ | refine Run.condT ?_ | refine Run.condf ?_ | refine Run.condD (fun h => ?_) (fun h => ?_) | refine Run.condN (fun h => ?_) (fun h => ?_) | refine Run.condE (fun h => ?_) (fun h => ?_) | refine Run.condF (fun h => ?_) (fun h => ?_) | refine Run.condM (fun h => ?_) (fun h => ?_) | refine Run.condB (fun h => ?_) (fun h => ?_) | refine Run.check1 ?_ | refine Run.round ⟨[], [], []⟩ (hs) rfl (by (repeat' (first | exact wkEnv_nil | refine wkEnv_cons rfl ?_ | exact wkSto_nil | refine wkSto_none ?_ | refine wkSto_some rfl ?_)); done) (by (repeat' (first | exact wkEnv_nil | refine wkEnv_cons rfl ?_ | exact wkSto_nil | refine wkSto_none ?_ | refine wkSto_some rfl ?_)); done) | contradiction
    all_goals first | contradiction | trace_state
/-- The text of a number, as the laws mark with it. -/
noncomputable def mtext (k : Int) : ByteArray := open Classical in if h : ∃ s, Ok P 99 [.one (.int .i64 k)] [] (.one (.str s)) [] then Classical.choose h else ByteArray.empty
theorem markText_ok (k : Int) (hk : k ≤ 1000000000000) : Ok P 99 [.one (.int .i64 k)] [] (.one (.str (mtext k))) [] := by
  unfold mtext
  rw [dif_pos (markText_ex k hk)]
  exact Classical.choose_spec (markText_ex k hk)
/-- Marked moves. -/
noncomputable def mkM (k : Int) (i : Nat) : Mv := ⟨mtext (k + 6 * i), (k + 6 * i + 1).tmod 3 == 0, k + 6 * i + 2, k + 6 * i + 3, k + 6 * i + 4, k + 6 * i + 5⟩
noncomputable def mkMs (k : Int) (n : Nat) : List Mv := (List.range n).map (mkM k)
theorem mkMs_len (k : Int) (n : Nat) : (mkMs k n).length = n := by simp [mkMs]
theorem mkMs_at (k : Int) (n : Nat) {i : Nat} (h : i < n) : (mkMs k n).getD i Mv.z = mkM k i := by simp [mkMs, List.getD_eq_getElem?_getD, h]
end Go.Proofs.YtmppoajepbbmiaaGreat.AM

/- The exact laws' marks on moves, books, texts; condition: bounds. -/
namespace Go.Proofs.YtmppoajepbbmiaaGreat.AM
open Go.AM Go.RowKit
set_option linter.unusedVariables false
set_option linter.unusedSimpArgs false
set_option maxRecDepth 100000

theorem markMoves_ok (t : List Mv) (k : Int) (ht : t.length ≤ 1048576) (hk : 0 ≤ k ∧ k ≤ 1000000) : Ok P 74 [.one (.own (.k 0)), .one (.int .i64 k)] [some (.row .mv t)] (.one (.int .i64 (k + 6 * t.length))) [some (.row .mv (mkMs k t.length))] := by
  refine Ok.of_run (F := mk Tryz.f74 1) Tryz.func74 rfl rfl tabOk mixed rfl rfl rfl rfl rfl (Nat.le_of_ble_eq_true rfl) (Nat.le_of_ble_eq_true rfl) (.go 5000 ?_)
  have loop : ∀ (d i : Nat) (z y : Int) (s : List Mv), z = i → y = k + 6 * i → i + d = t.length → Cp Mv.z (mkMs k t.length) s i → Run P (mk Tryz.f74 1) (fun v st => v = .one (.int .i64 (k + 6 * t.length)) ∧ st = [some (.row .mv (mkMs k t.length))]) (.loop ⟨[(0, .one (.own (.k 0))), (1, .one (.int .i64 y)), (5, .one (.int .i64 z))], [(.k 0, some (.row .mv s))], [.lp [0, 1, 0, 1], .blk 0, .code [1, 1]], none⟩) := by
    intro d
    induction d with
    | zero =>
      intro i z y s hz hy hd hc
      subst hz; subst hy
      have hl := hc.1
      rw [mkMs_len] at hl
      obtain rfl := cp_end hc (by rw [mkMs_len]; omega)
      refine Run.loop ?_
      repeat' (conv => arg 4; whnf); first | refine Run.ret ⟨?_, rfl⟩ | refine Run.condT ?_ | refine Run.condf ?_ | refine Run.condD (fun h => ?_) (fun h => ?_) | refine Run.condN (fun h => ?_) (fun h => ?_) | refine Run.condE (fun h => ?_) (fun h => ?_) | refine Run.condF (fun h => ?_) (fun h => ?_) | refine Run.condM (fun h => ?_) (fun h => ?_) | refine Run.condB (fun h => ?_) (fun h => ?_) | refine Run.check1 ?_ | (exfalso; omega)
      all_goals first | (exfalso; omega) | (refine vi ?_; omega) | trace_state
    | succ d ih =>
      intro i z y s hz hy hd hc
      subst hz; subst hy
      have e : wrap64 ((i : Int) + 1) = ((i + 1 : Nat) : Int) := wrap_eq (by omega) (by omega)
      have e1 : wrap64 (k + 6 * i + 1) = k + 6 * i + 1 := wrap_eq (by omega) (by omega)
      have e2 : wrap64 (k + 6 * i + 1 + 1) = k + 6 * i + 2 := (wrap_eq (by omega) (by omega)).trans (by omega)
      have e3 : wrap64 (k + 6 * i + 2 + 1) = k + 6 * i + 3 := (wrap_eq (by omega) (by omega)).trans (by omega)
      have e4 : wrap64 (k + 6 * i + 3 + 1) = k + 6 * i + 4 := (wrap_eq (by omega) (by omega)).trans (by omega)
      have e5 : wrap64 (k + 6 * i + 4 + 1) = k + 6 * i + 5 := (wrap_eq (by omega) (by omega)).trans (by omega)
      have e6 : wrap64 (k + 6 * i + 5 + 1) = k + 6 * ((i + 1 : Nat) : Int) := (wrap_eq (by omega) (by omega)).trans (by omega)
      have hl := hc.1
      rw [mkMs_len] at hl
      have hs := cp_step hc (i := i) (by rw [mkMs_len]; omega)
      have hrd : ∀ x : Mv, rdM (s.set i x) (i : Int) = x := fun x => by
        rw [rdM_nat, at', getD_set, if_pos ⟨rfl, by omega⟩]
      rw [mkMs_at _ _ (by omega)] at hs
      refine Run.loop ?_
      repeat' (conv => arg 4; whnf); first | refine Run.ret ⟨?_, rfl⟩ | refine Run.condT ?_ | refine Run.condf ?_ | refine Run.condD (fun h => ?_) (fun h => ?_) | refine Run.condN (fun h => ?_) (fun h => ?_) | refine Run.condE (fun h => ?_) (fun h => ?_) | refine Run.condF (fun h => ?_) (fun h => ?_) | refine Run.condM (fun h => ?_) (fun h => ?_) | refine Run.condB (fun h => ?_) (fun h => ?_) | refine Run.check1 ?_ | refine Run.call (markText_ok _ (by omega)) rfl ?_ | refine Run.need1 (by simp only [allP, true_and, and_true]; omega) ?_ | refine Run.need1 (by simp only [allP, true_and, and_true, List.length_set]; omega) ?_ | refine Run.round ⟨[], [], []⟩ (ih (i + 1) _ _ _ e ?_ (by omega) ?_) rfl (by (repeat' (first | exact wkEnv_nil | refine wkEnv_cons rfl ?_ | exact wkSto_nil | refine wkSto_none ?_ | refine wkSto_some rfl ?_)); done) (by (repeat' (first | exact wkEnv_nil | refine wkEnv_cons rfl ?_ | exact wkSto_nil | refine wkSto_none ?_ | refine wkSto_some rfl ?_)); done) | (exfalso; omega)
      all_goals clear ih
      all_goals first
        | (exfalso; omega)
        | (simp only [e1, e2, e3, e4, e5, e6]; done)
        | (simp only [Int.toNat_natCast, List.set_set, hrd, e1, e2, e3, e4, e5, e6]; exact hs)
        | trace_state
  repeat' (conv => arg 4; whnf); first | refine Run.ret ⟨?_, rfl⟩ | refine Run.condT ?_ | refine Run.condf ?_ | refine Run.condD (fun h => ?_) (fun h => ?_) | refine Run.condN (fun h => ?_) (fun h => ?_) | refine Run.condE (fun h => ?_) (fun h => ?_) | refine Run.condF (fun h => ?_) (fun h => ?_) | refine Run.condM (fun h => ?_) (fun h => ?_) | refine Run.condB (fun h => ?_) (fun h => ?_) | refine Run.check1 ?_ | refine Run.round ⟨[], [], []⟩ (loop t.length 0 _ _ _ rfl ?_ ?_ ?_) rfl (by (repeat' (first | exact wkEnv_nil | refine wkEnv_cons rfl ?_ | exact wkSto_nil | refine wkSto_none ?_ | refine wkSto_some rfl ?_)); done) (by (repeat' (first | exact wkEnv_nil | refine wkEnv_cons rfl ?_ | exact wkSto_nil | refine wkSto_none ?_ | refine wkSto_some rfl ?_)); done)
  all_goals first
    | omega
    | exact ⟨by rw [mkMs_len], fun j hj => absurd hj (by omega)⟩
    | trace_state
theorem heldMoves_ok (n : Nat) (k : Int) (hn : n ≤ 1048576) (hk : 0 ≤ k ∧ k ≤ 1000000) : Ok P 76 [.one (.lst .mv (mkMs k n) false), .one (.int .i64 k)] [] (.one (.int .i64 (k + 6 * n))) [] := by
  refine Ok.of_run (F := mk Tryz.f76 0) Tryz.func76 rfl rfl tabOk mixed rfl rfl rfl rfl rfl (Nat.le_of_ble_eq_true rfl) (Nat.le_of_ble_eq_true rfl) (.go 5000 ?_)
  have hlen := mkMs_len k n
  have loop : ∀ (d i : Nat) (z y : Int), z = i → y = k + 6 * i → i + d = n → Run P (mk Tryz.f76 0) (fun v st => v = .one (.int .i64 (k + 6 * n)) ∧ st = []) (.loop ⟨[(0, .one (.lst .mv (mkMs k n) false)), (1, .one (.int .i64 y)), (5, .one (.int .i64 z))], [], [.lp [0, 1, 0, 1], .blk 0, .code [1, 1]], none⟩) := by
    intro d
    induction d with
    | zero =>
      intro i z y hz hy hd
      subst hz; subst hy
      refine Run.loop ?_
      repeat' (conv => arg 4; whnf); first | refine Run.ret ⟨?_, rfl⟩ | refine Run.condT ?_ | refine Run.condf ?_ | refine Run.condD (fun h => ?_) (fun h => ?_) | refine Run.condN (fun h => ?_) (fun h => ?_) | refine Run.condE (fun h => ?_) (fun h => ?_) | refine Run.condF (fun h => ?_) (fun h => ?_) | refine Run.condM (fun h => ?_) (fun h => ?_) | refine Run.condB (fun h => ?_) (fun h => ?_) | refine Run.check1 ?_ | (exfalso; omega)
      all_goals first | (exfalso; omega) | (refine vi ?_; omega) | trace_state
    | succ d ih =>
      intro i z y hz hy hd
      subst hz; subst hy
      have e : wrap64 ((i : Int) + 1) = ((i + 1 : Nat) : Int) := wrap_eq (by omega) (by omega)
      have e1 : wrap64 (k + 6 * i + 1) = k + 6 * i + 1 := wrap_eq (by omega) (by omega)
      have e2 : wrap64 (k + 6 * i + 1 + 1) = k + 6 * i + 2 := (wrap_eq (by omega) (by omega)).trans (by omega)
      have e3 : wrap64 (k + 6 * i + 2 + 1) = k + 6 * i + 3 := (wrap_eq (by omega) (by omega)).trans (by omega)
      have e4 : wrap64 (k + 6 * i + 3 + 1) = k + 6 * i + 4 := (wrap_eq (by omega) (by omega)).trans (by omega)
      have e5 : wrap64 (k + 6 * i + 4 + 1) = k + 6 * i + 5 := (wrap_eq (by omega) (by omega)).trans (by omega)
      have e6 : wrap64 (k + 6 * i + 5 + 1) = k + 6 * ((i + 1 : Nat) : Int) := (wrap_eq (by omega) (by omega)).trans (by omega)
      have em : rdM (mkMs k n) i = mkM k i := by rw [rdM_nat]; exact mkMs_at k n (by omega)
      refine Run.loop ?_
      repeat' (conv => arg 4; whnf); first | refine Run.ret ⟨?_, rfl⟩ | refine Run.condT ?_ | refine Run.condf ?_ | refine Run.condD (fun h => ?_) (fun h => ?_) | refine Run.condN (fun h => ?_) (fun h => ?_) | refine Run.condE (fun h => ?_) (fun h => ?_) | refine Run.condF (fun h => ?_) (fun h => ?_) | refine Run.condM (fun h => ?_) (fun h => ?_) | refine Run.condB (fun h => ?_) (fun h => ?_) | refine Run.check1 ?_ | refine Run.call (markText_ok _ (by omega)) rfl ?_ | refine Run.need1 (by simp only [allP, true_and, and_true]; omega) ?_ | refine Run.round ⟨[], [], []⟩ (ih (i + 1) _ _ e ?_ (by omega)) rfl (by (repeat' (first | exact wkEnv_nil | refine wkEnv_cons rfl ?_ | exact wkSto_nil | refine wkSto_none ?_ | refine wkSto_some rfl ?_)); done) (by (repeat' (first | exact wkEnv_nil | refine wkEnv_cons rfl ?_ | exact wkSto_nil | refine wkSto_none ?_ | refine wkSto_some rfl ?_)); done) | (exfalso; omega)
      all_goals clear ih
      all_goals first
        | (exfalso; omega)
        | (simp only [e1, e2, e3, e4, e5, e6]; done)
        | (exfalso; simp only [em, mkM, e1, e2, e3, e4, e5, e6] at *; simp_all; done)
        | trace_state
  repeat' (conv => arg 4; whnf); first | refine Run.ret ⟨?_, rfl⟩ | refine Run.condT ?_ | refine Run.condf ?_ | refine Run.condD (fun h => ?_) (fun h => ?_) | refine Run.condN (fun h => ?_) (fun h => ?_) | refine Run.condE (fun h => ?_) (fun h => ?_) | refine Run.condF (fun h => ?_) (fun h => ?_) | refine Run.condM (fun h => ?_) (fun h => ?_) | refine Run.condB (fun h => ?_) (fun h => ?_) | refine Run.check1 ?_ | refine Run.round ⟨[], [], []⟩ (loop n 0 _ _ rfl ?_ ?_) rfl (by (repeat' (first | exact wkEnv_nil | refine wkEnv_cons rfl ?_ | exact wkSto_nil | refine wkSto_none ?_ | refine wkSto_some rfl ?_)); done) (by (repeat' (first | exact wkEnv_nil | refine wkEnv_cons rfl ?_ | exact wkSto_nil | refine wkSto_none ?_ | refine wkSto_some rfl ?_)); done)
  all_goals first
    | omega
    | trace_state
theorem markBook_ok (b : Bk) (k : Int) (hl : b.ms.length ≤ 1048576) (ht : b.ts.length ≤ 1048576) (hk : 0 ≤ k ∧ k ≤ 1000000) : Ok P 33 [b.own (.k 0) (.k 1), .one (.int .i64 k)] [some (.row .mv b.ms), some (.row (.int .i64) b.ts)] (.one (.int .i64 (k + 6 * b.ms.length + b.ts.length))) [some (.row .mv (mkMs k b.ms.length)), some (.row (.int .i64) (mkI (k + 6 * b.ms.length) b.ts.length))] := by
  refine Ok.of_run (F := mk Tryz.f33 2) Tryz.func33 rfl rfl tabOk mixed rfl rfl rfl rfl rfl (Nat.le_of_ble_eq_true rfl) (Nat.le_of_ble_eq_true rfl) (.go 5000 ?_)
  repeat' (conv => arg 4; whnf); first | refine Run.ret ⟨?_, rfl⟩ | refine Run.condT ?_ | refine Run.condf ?_ | refine Run.condD (fun h => ?_) (fun h => ?_) | refine Run.condN (fun h => ?_) (fun h => ?_) | refine Run.condE (fun h => ?_) (fun h => ?_) | refine Run.condF (fun h => ?_) (fun h => ?_) | refine Run.condM (fun h => ?_) (fun h => ?_) | refine Run.condB (fun h => ?_) (fun h => ?_) | refine Run.check1 ?_ | refine Run.call (markMoves_ok _ _ hl hk) rfl ?_ | refine Run.call (markInts_ok _ _ ht (by omega)) rfl ?_
  all_goals first | rfl | trace_state
theorem heldBook_ok (x y : Int) (n m : Nat) (k : Int) (hn : n ≤ 1048576) (hm : m ≤ 1048576) (hk : 0 ≤ k ∧ k ≤ 1000000) : Ok P 34 [Bk.lent ⟨x, y, mkMs k n, mkI (k + 6 * n) m⟩, .one (.int .i64 k)] [] (.one (.int .i64 (k + 6 * n + m))) [] := by
  refine Ok.of_run (F := mk Tryz.f34 0) Tryz.func34 rfl rfl tabOk mixed rfl rfl rfl rfl rfl (Nat.le_of_ble_eq_true rfl) (Nat.le_of_ble_eq_true rfl) (.go 5000 ?_)
  repeat' (conv => arg 4; whnf); first | refine Run.ret ⟨?_, rfl⟩ | refine Run.condT ?_ | refine Run.condf ?_ | refine Run.condD (fun h => ?_) (fun h => ?_) | refine Run.condN (fun h => ?_) (fun h => ?_) | refine Run.condE (fun h => ?_) (fun h => ?_) | refine Run.condF (fun h => ?_) (fun h => ?_) | refine Run.condM (fun h => ?_) (fun h => ?_) | refine Run.condB (fun h => ?_) (fun h => ?_) | refine Run.check1 ?_ | refine Run.call (heldMoves_ok _ _ hn hk) rfl ?_ | refine Run.call (heldInts_ok _ _ hm (by omega)) rfl ?_ | (exfalso; omega)
  all_goals first | rfl | (exfalso; omega) | trace_state
end Go.Proofs.YtmppoajepbbmiaaGreat.AM

/- FnExactStripAdd, walked; condition: the sizes that the row gives. -/
namespace Go.Proofs.YtmppoajepbbmiaaGreat.AM
open Go.AM Go.RowKit
set_option linter.unusedVariables false
set_option linter.unusedSimpArgs false
set_option maxRecDepth 100000

theorem addR_len (b : Bk) (m : Mv) : (addR b m).1.ms.length ≤ 1048576 ∧ (addR b m).1.ts.length ≤ 1048576 := by
  have h := (addR_ok b m).2.2.1
  have h1 := h.1.1
  have h2 := h.2.1
  omega
theorem law_FnExactStripAdd (b : Bk) (hn : W64 b.now) (hs : W64 b.shift) (hl : b.ms.length ≤ maxLen) (hwl : ∀ z ∈ b.ms, MvWf z) (ht : b.ts.length ≤ maxLen) (hwt : ∀ z ∈ b.ts, W64 z) (m : Mv) (hmw : MvWf m) : Ok P 5 [b.lent, .agg (encMv m)] [] (.one (.bool true)) [] := by
  have hm : ∀ i, i < b.ms.length → (at' b.ms i).f0.size ≤ maxLen := fun i hi => (mvWf_at hwl i hi).1
  have hw := tkWf_of hwt
  have hsz := szB_le (b := b) (left := 1048576) (by omega)
  refine Ok.of_run (F := mk Tryz.f5 0) Tryz.func5 rfl rfl tabOk mixed rfl rfl rfl rfl rfl (Nat.le_of_ble_eq_true rfl) (Nat.le_of_ble_eq_true rfl) (.go 5000 ?_)
  conv => arg 4; whnf
  refine Run.call (szBook_ok b _ (by omega) hl hm ht) rfl ?_
  conv => arg 4; whnf
  refine Run.condD (fun h => ?_) (fun h => ?_)
  · repeat' (conv => arg 4; whnf); first | refine Run.ret ⟨?_, rfl⟩ | refine Run.condT ?_ | refine Run.condf ?_ | refine Run.condD (fun h => ?_) (fun h => ?_) | refine Run.condN (fun h => ?_) (fun h => ?_) | refine Run.condE (fun h => ?_) (fun h => ?_) | refine Run.condF (fun h => ?_) (fun h => ?_) | refine Run.condM (fun h => ?_) (fun h => ?_) | refine Run.condB (fun h => ?_) (fun h => ?_) | refine Run.check1 ?_
    rfl
  obtain ⟨hl2, ht2⟩ := hsz h
  have hle : szB b 1048576 ≤ 1048576 := by
    unfold szB szIs
    have := szMs_le (l := b.ms) (left := 1048576) (by omega)
    (repeat' split) <;> omega
  conv => arg 4; whnf
  refine Run.call (szMove_ok m _ (by omega) hmw.1) rfl ?_
  conv => arg 4; whnf
  refine Run.condD (fun h => ?_) (fun h => ?_)
  · repeat' (conv => arg 4; whnf); first | refine Run.ret ⟨?_, rfl⟩ | refine Run.condT ?_ | refine Run.condf ?_ | refine Run.condD (fun h => ?_) (fun h => ?_) | refine Run.condN (fun h => ?_) (fun h => ?_) | refine Run.condE (fun h => ?_) (fun h => ?_) | refine Run.condF (fun h => ?_) (fun h => ?_) | refine Run.condM (fun h => ?_) (fun h => ?_) | refine Run.condB (fun h => ?_) (fun h => ?_) | refine Run.check1 ?_
    rfl
  have hl3 : b.ms.length ≤ 1048576 := by omega
  have ht3 : b.ts.length ≤ 1048576 := by omega
  have h1 := strip_add_ok b m hl3 ht3 hw
  have h2 := strip_sadd_ok b m hl3 ht3 hw
  have hr := addR_len b m
  generalize addR b m = r at h1 h2 hr
  obtain ⟨rb, rc⟩ := r
  simp only at h1 h2 hr
  obtain ⟨r1, r2⟩ := hr
  repeat' (conv => arg 4; whnf); first | refine Run.ret ⟨?_, rfl⟩ | refine Run.condT ?_ | refine Run.condf ?_ | refine Run.condD (fun h => ?_) (fun h => ?_) | refine Run.condN (fun h => ?_) (fun h => ?_) | refine Run.condE (fun h => ?_) (fun h => ?_) | refine Run.condF (fun h => ?_) (fun h => ?_) | refine Run.condM (fun h => ?_) (fun h => ?_) | refine Run.condB (fun h => ?_) (fun h => ?_) | refine Run.check1 ?_ | refine Run.call (toBook_ok b hl3 ht3) rfl ?_ | refine Run.call (toMove_ok m) rfl ?_ | refine Run.call (h1) rfl ?_ | refine Run.call (h2) rfl ?_ | refine Run.call (eqBook_ok rb r1 r2) rfl ?_ | refine Run.call (eqBook_ok b hl3 ht3) rfl ?_ | refine Run.call (markBook_ok b _ hl3 ht3 (by omega)) rfl ?_ | refine Run.call (markBook_ok rb _ r1 r2 (by omega)) rfl ?_ | refine Run.call (heldBook_ok _ _ _ _ _ r1 r2 (by omega)) rfl ?_ | (exfalso; omega) | contradiction
  all_goals first | rfl | contradiction | (exfalso; omega) | trace_state
end Go.Proofs.YtmppoajepbbmiaaGreat.AM

/- What comes in as a struct, a slice or a book, in the machine's words; condition: the argument reads as data of its type. -/
namespace Go.Proofs.YtmppoajepbbmiaaGreat.AM
open Go.Joins Go.ChangeShapes Go.WideShapes Go.RowKit Go.Deep Go.AM
set_option linter.unusedVariables false
set_option linter.unusedSimpArgs false
set_option maxRecDepth 100000
section
variable {H : Type} {enc : TypeId × Value → H} {w : World} {base : Nat} {spare : Nat → Bool} {held : Bool} {μ : Mu}
theorem open_mv {n : Nat} {cs : List Value} {y : DataW H × List MemPlace} (h : DataW.trod enc Tryz.prog w base spare held n 51 cs = some y) (hl : cs.length = 6) :
    ∃ m : Mv, cs = [.string m.f0, .bool m.f1, .int .i64 m.f2, .int .i64 m.f3, .int .i64 m.f4, .int .i64 m.f5] ∧ MvWf m := by
  obtain ⟨xs, n', _, _, _, hxl, hf⟩ := DataW.trod_struct Tryz.underlying51 h
  match cs, hl with
  | [c0, c1, c2, c3, c4, c5], _ =>
    have h0 := hf 0 _ rfl
    have h1 := hf 1 _ rfl
    have h2 := hf 2 _ rfl
    have h3 := hf 3 _ rfl
    have h4 := hf 4 _ rfl
    have h5 := hf 5 _ rfl
    have k1 : Tryz.prog.cellsOf 9 = 1 := by kernel_rfl
    have k2 : Tryz.prog.cellsOf 4 = 1 := by kernel_rfl
    have k3 : Tryz.prog.cellsOf 3 = 1 := by kernel_rfl
    have e0 : xs[0]? = some (xs[0]'(by rw [hxl]; decide)) := List.getElem?_eq_getElem _
    have e1 : xs[1]? = some (xs[1]'(by rw [hxl]; decide)) := List.getElem?_eq_getElem _
    have e2 : xs[2]? = some (xs[2]'(by rw [hxl]; decide)) := List.getElem?_eq_getElem _
    have e3 : xs[3]? = some (xs[3]'(by rw [hxl]; decide)) := List.getElem?_eq_getElem _
    have e4 : xs[4]? = some (xs[4]'(by rw [hxl]; decide)) := List.getElem?_eq_getElem _
    have e5 : xs[5]? = some (xs[5]'(by rw [hxl]; decide)) := List.getElem?_eq_getElem _
    obtain ⟨a0, q0, _, w0⟩ := DataW.trod_string Tryz.underlying9 (h0.trans e0)
    obtain ⟨a1, q1, _⟩ := DataW.trod_bool Tryz.underlying4 (h1.trans e1)
    obtain ⟨a2, q2, _, w2⟩ := DataW.trod_int Tryz.underlying3 (h2.trans e2)
    obtain ⟨a3, q3, _, w3⟩ := DataW.trod_int Tryz.underlying3 (h3.trans e3)
    obtain ⟨a4, q4, _, w4⟩ := DataW.trod_int Tryz.underlying3 (h4.trans e4)
    obtain ⟨a5, q5, _, w5⟩ := DataW.trod_int Tryz.underlying3 (h5.trans e5)
    simp [k1, k2, k3] at q0 q1 q2 q3 q4 q5
    subst q0 q1 q2 q3 q4 q5
    exact ⟨⟨a0, a1, a2, a3, a4, a5⟩, rfl, w0, wf64 w2, wf64 w3, wf64 w4, wf64 w5⟩
theorem open_ints {t fuel : Nat} {cs : List Value} {y : DataW H × List MemPlace} (ht : Tryz.prog.underlying t = some (.slice 3)) (h : DataW.trod enc Tryz.prog w base spare held fuel t cs = some y) :
    ∃ (v : Value) (xs : List Int), cs = [v] ∧ repA μ w (Old w) (.lst (.int .i64) xs false) v ∧ xs.length ≤ maxLen ∧ ∀ z ∈ xs, W64 z :=
  open_sl (.int .i64) ht (by kernel_rfl) (by decide) W64 (fun n cs' y hy hl => by
    obtain ⟨z, h1, _, h2⟩ := DataW.trod_int Tryz.underlying3 hy
    subst h1
    exact ⟨z, .cons rfl .nil, wf64 h2⟩) h
theorem open_bytes {t fuel : Nat} {cs : List Value} {y : DataW H × List MemPlace} (ht : Tryz.prog.underlying t = some (.slice 5)) (h : DataW.trod enc Tryz.prog w base spare held fuel t cs = some y) :
    ∃ (v : Value) (xs : List Int), cs = [v] ∧ repA μ w (Old w) (.lst (.int .u8) xs false) v ∧ xs.length ≤ maxLen ∧ ∀ z ∈ xs, (Lit.int .u8 z).wf = true :=
  open_sl (.int .u8) ht (by kernel_rfl) (by decide) (fun z => (Lit.int .u8 z).wf = true) (fun n cs' y hy hl => by
    obtain ⟨z, h1, _, h2⟩ := DataW.trod_int Tryz.underlying5 hy
    subst h1
    exact ⟨z, .cons rfl .nil, h2⟩) h
theorem open_mvs {t fuel : Nat} {cs : List Value} {y : DataW H × List MemPlace} (ht : Tryz.prog.underlying t = some (.slice 51)) (h : DataW.trod enc Tryz.prog w base spare held fuel t cs = some y) :
    ∃ (v : Value) (xs : List Mv), cs = [v] ∧ repA μ w (Old w) (.lst .mv xs false) v ∧ xs.length ≤ maxLen ∧ ∀ z ∈ xs, MvWf z :=
  open_sl .mv ht (by kernel_rfl) (by decide) MvWf (fun n cs' y hy hl => by
    obtain ⟨m, rfl, hm⟩ := open_mv hy hl
    exact ⟨m, .cons rfl (.cons rfl (.cons rfl (.cons rfl (.cons rfl (.cons rfl .nil))))), hm⟩) h
theorem open_bk {n : Nat} {cs : List Value} {y : DataW H × List MemPlace} (h : DataW.trod enc Tryz.prog w base spare held n 50 cs = some y) (hl : cs.length = 4) :
    ∃ b : Bk, repV μ w (Old w) b.lent (.agg ⟨cs⟩) ∧ W64 b.now ∧ W64 b.shift ∧ b.ms.length ≤ maxLen ∧ (∀ z ∈ b.ms, MvWf z) ∧ b.ts.length ≤ maxLen ∧ ∀ z ∈ b.ts, W64 z := by
  obtain ⟨xs, n', _, _, _, hxl, hf⟩ := DataW.trod_struct Tryz.underlying50 h
  match cs, hl with
  | [d0, d1, d2, d3], _ =>
    have h0 := hf 0 _ rfl
    have h1 := hf 1 _ rfl
    have h2 := hf 2 _ rfl
    have h3 := hf 3 _ rfl
    have k1 : Tryz.prog.cellsOf 3 = 1 := by kernel_rfl
    have k2 : Tryz.prog.cellsOf 48 = 1 := by kernel_rfl
    have k3 : Tryz.prog.cellsOf 27 = 1 := by kernel_rfl
    have e0 : xs[0]? = some (xs[0]'(by rw [hxl]; decide)) := List.getElem?_eq_getElem _
    have e1 : xs[1]? = some (xs[1]'(by rw [hxl]; decide)) := List.getElem?_eq_getElem _
    have e2 : xs[2]? = some (xs[2]'(by rw [hxl]; decide)) := List.getElem?_eq_getElem _
    have e3 : xs[3]? = some (xs[3]'(by rw [hxl]; decide)) := List.getElem?_eq_getElem _
    obtain ⟨a0, q0, _, w0⟩ := DataW.trod_int Tryz.underlying3 (h0.trans e0)
    obtain ⟨a1, q1, _, w1⟩ := DataW.trod_int Tryz.underlying3 (h1.trans e1)
    obtain ⟨v2, l2, q2, hr2, hm2, w2⟩ := open_mvs (μ := μ) Tryz.underlying48 (h2.trans e2)
    obtain ⟨v3, l3, q3, hr3, hm3, w3⟩ := open_ints (μ := μ) Tryz.underlying27 (h3.trans e3)
    simp [k1, k2, k3] at q0 q1 q2 q3
    subst q0 q1 q2 q3
    refine ⟨⟨a0, a1, l2, l3⟩, ?_, wf64 w0, wf64 w1, hm2, w2, hm3, w3⟩
    simp only [Bk.lent, repV]
    refine ⟨_, rfl, ?_⟩
    simp only [repAs]
    exact ⟨_, _, rfl, by simp only [repA], _, _, rfl, by simp only [repA], _, _, rfl, hr2, _, _, rfl, hr3, rfl⟩
end
end Go.Proofs.YtmppoajepbbmiaaGreat.AM

/- FnExactStripAdd: for every input the law returns true and each argument reads behind the call as it read before; no condition. -/
namespace Go.Proofs.YtmppoajepbbmiaaGreat.fnExactStripAdd
open Go.ChangeShapes Go.WideShapes Go.ChangeAt Go.RowKit
open Go.ChangeMaps (open_string shut_string)
set_option linter.unusedVariables false
theorem own : ownKnob Tryz.prog.godebug = none := by kernel_rfl
theorem laidOut : laidOutB Tryz.prog = true := by kernel_rfl
set_option maxRecDepth 100000 in
theorem lifted (os : Os) (started : os.Started) (H : Type) (enc : TypeId × Value → H) :
    ReturnsInHanded {} Tryz.checked os 5 .any (Rows.fnExactStripAddSpec.pre6 enc Tryz.prog Tryz.f5 Rows.fnExactStripAddRow.domain false) (Rows.fnExactStripAddSpec.post enc Tryz.prog Tryz.f5 false true false false) := by
  refine returnsInHanded_of_change_sized (C := Tryz.checked) own started (by kernel_rfl) Tryz.func5
    (ChangeSpec.witness6 (enc := enc) (C := Tryz.checked) false ⟨#[], #[.agg #[.int .i64 0, .int .i64 0, .slice none 0 0, .slice none 0 0], .agg #[.string ByteArray.empty, .bool false, .int .i64 0, .int .i64 0, .int .i64 0, .int .i64 0]], []⟩ 8 (by kernel_rfl) (by kernel_rfl) (by kernel_rfl) (by kernel_rfl)) ?_
  intro W base args ds gs before hval0 hW hcnd hsz0 _
  have hval : ∀ (j : Nat) t v, Tryz.f5.params[j]? = some t → args[j]? = some v → Value.okWide Tryz.prog W .any base t v := hval0
  have hW' := hW
  obtain ⟨p, q, hA0, hV, rfl, hfz, hnd⟩ := hW
  have hA : DataW.TrodAll enc Tryz.prog W 0 (fun _ => true) true Tryz.f5.params.toList args.toList ds p := hA0
  rw [Tryz.params5] at hA hval
  obtain ⟨v0, vs0, d0, ds0, p0, q0, hargs, rfl, rfl, h0, r0⟩ := trodAll_cons hA
  obtain ⟨v1, vs1, d1, ds1, p1, q1, rfl, rfl, rfl, h1, r1⟩ := trodAll_cons r0
  obtain ⟨rfl, rfl, rfl⟩ := trodAll_nil r1
  obtain rfl : args = #[v0, v1] := by cases args; simp_all
  obtain ⟨rfl, rfl⟩ := trodVars_none hV
  have k0 := h0
  have lt0 : ∀ x ∈ p0, x.block < W.heap.size := by obtain ⟨m, hm⟩ := k0; exact DataW.trod_lt m _ _ _ hm
  obtain ⟨cs0, rfl, hsz0⟩ := okWide_struct Tryz.underlying50 (hval 0 50 v0 rfl rfl)
  obtain ⟨b0⟩ := cs0
  obtain ⟨fuel0, hf0⟩ := h0
  obtain ⟨a0, hr0, wn0, ws0, hl0, wl0, ht0, wt0⟩ := AM.open_bk (μ := fun _ => none) hf0 (hsz0.trans (by kernel_rfl))
  have k1 := h1
  have lt1 : ∀ x ∈ p1, x.block < W.heap.size := by obtain ⟨m, hm⟩ := k1; exact DataW.trod_lt m _ _ _ hm
  obtain ⟨cs1, rfl, hsz1⟩ := okWide_struct Tryz.underlying51 (hval 1 51 v1 rfl rfl)
  obtain ⟨b1⟩ := cs1
  obtain ⟨fuel1, hf1⟩ := h1
  obtain ⟨a1, rfl, w1⟩ := AM.open_mv hf1 (hsz1.trans (by kernel_rfl))
  refine (Go.AM.calls_true Tryz.func5 rfl rfl (AM.law_FnExactStripAdd a0 wn0 ws0 hl0 wl0 ht0 wt0 a1 w1) (by simp only [Go.AM.repVs]; exact ⟨_, _, rfl, hr0, ⟨_, _, rfl, (Go.AM.rep_mv a1), rfl⟩⟩)).mono fun e W' ⟨he, bel⟩ => ?_
  subst he
  exact ⟨_, rfl, _, _, _, [], _, [], hW', trodAll_mk1 (shut_bool Tryz.underlying4 _), (trodAll_cons_mk (Below.trod laidOut (by kernel_rfl) (of_decide_eq_true (by kernel_rfl)) k0 bel lt0) (trodAll_cons_mk (Below.trod laidOut (by kernel_rfl) (of_decide_eq_true (by kernel_rfl)) k1 bel lt1) trodAll_mk0)), rfl, bel.frame _, fun h => by cases h⟩
theorem over : Rows.fnExactStripAddRow.holds Tryz.pinned (OpenSpec.ofChange Rows.fnExactStripAddSpec) :=
  OpenClaim.holds_of_wide 5 Tryz.f5 rfl rfl rfl rfl rfl rfl rfl ⟨rfl, rfl, rfl, rfl, rfl⟩ rfl rfl rfl rfl rfl (by kernel_rfl) Tryz.func5 (by kernel_rfl)
    (of_decide_eq_true (by kernel_rfl)) (by unfold Func.isWrapper; first | (rw [if_pos (by decide +kernel)]; kernel_rfl) | (rw [if_neg (by decide +kernel)]; exact ⟨rfl, rfl⟩))
    (fun os started H enc _ => lifted os started H enc)
theorem proved : Rows.FnExactStripAddSaid := over
end Go.Proofs.YtmppoajepbbmiaaGreat.fnExactStripAdd
namespace Go.Proofs.YtmppoajepbbmiaaGreat
theorem fnExactStripAdd_holds : Rows.FnExactStripAddSaid := fnExactStripAdd.proved
#print axioms fnExactStripAdd_holds
end Go.Proofs.YtmppoajepbbmiaaGreat
