/- FnTop, part 3 of 3: what the law's functions come to, plain laws on it, and the row; no condition -/
import Derived.Test.YtmppoajepbbmiaaGreatRows
import Derived.Test.YtmppoajepbbmiaaGreatChecked
import Derived.WalkKit
import Derived.ProofKit
import Derived.OpenShut
import Derived.ShutString
import Derived.ChangeOld
import Derived.Below
import Derived.SizedLaws
import Derived.Test.YtmppoajepbbmiaaGreatYFTop2
/- The reference's draws of books: some book within bounds; condition: a code of bytes, few draws before. -/
namespace Go.Proofs.YtmppoajepbbmiaaGreat.AM
open Go.AM Go.RowKit
set_option linter.unusedVariables false
set_option linter.unusedSimpArgs false
set_option maxRecDepth 100000

theorem bk_lens {b : Bk} (hb : BkOk b) : b.ms.length ≤ 6 ∧ b.ts.length = b.ms.length := ⟨hb.2.2.1.1.1, hb.2.2.1.2.1⟩
theorem name_size {b : Bk} (hb : BkOk b) {i : Int} (h0 : 0 ≤ i) (h1 : i < b.ms.length) : (rdM b.ms i).f0.size ≤ 1000 := (mvsD_rd (bkD_of hb).md h0 h1).1
theorem event_ok {bs : List Int} (hbs : Bytes bs) (p : Int) (b : Bk) (hb : BkOk b) (hp : 0 ≤ p ∧ p < 1099511626000) : ∃ (b' : Bk) (q : Int), (BkOk b' ∧ p ≤ q ∧ q ≤ p + 20) ∧
    Ok P 132 [.one (.ptr (.k 0) 0), b.own (.k 1) (.k 2)] [some (.cells [.lst (.int .u8) bs false, .int .i64 p]), some (.row .mv b.ms), some (.row (.int .i64) b.ts)]
      (b'.own (.k 3) (.k 4)) [some (.cells [.lst (.int .u8) bs false, .int .i64 q]), some (.row .mv b.ms), some (.row (.int .i64) b.ts), some (.row .mv b'.ms), some (.row (.int .i64) b'.ts)] := by
  obtain ⟨hl, ht⟩ := bk_lens hb
  have hw := tkWf_l (bkD_of hb).td
  have htx : txts.length = 6 := rfl
  have hadd := fun m => strip_sadd_ok b m (by omega) (by omega) hw
  have hdrop := fun n => strip_sdrop_ok b n (by omega) (by omega) hw
  have hround := fun n => strip_sround_ok b n (by omega) (by omega) hw
  have htick := stick_ok b (by omega) (by omega) hw
  refine Ok.of_ex2 (F := mk Tryz.f132 3) Tryz.func132 rfl rfl tabOk mixed rfl rfl rfl rfl rfl (Nat.le_of_ble_eq_true rfl) (fun _ _ => Nat.le_of_ble_eq_true rfl) (.go 5000 ?_)
  have loop : ∀ (d i : Nat) (z q : Int) (s : ByteArray), z = i → i + d = b.ms.length → p ≤ q ∧ q ≤ p + 20 → Run P (mk Tryz.f132 3) (fun v st => ∃ (b' : Bk) (q : Int), (BkOk b' ∧ p ≤ q ∧ q ≤ p + 20) ∧ v = b'.own (.k 3) (.k 4) ∧ st = [some (.cells [.lst (.int .u8) bs false, .int .i64 q]), some (.row .mv b.ms), some (.row (.int .i64) b.ts), some (.row .mv b'.ms), some (.row (.int .i64) b'.ts)])
      (.loop ⟨[(3, .one (.ptr (.t 3 0) 0)), (4, .one (.ptr (.t 4 0) 0)), (5, .one (.str s)), (6, .one (.int .i64 z))],
        [(.k 0, some (.cells [.lst (.int .u8) bs false, .int .i64 q])), (.k 1, some (.row .mv b.ms)), (.k 2, some (.row (.int .i64) b.ts)), (.t 3 0, some (.cells [.int .i64 b.now, .int .i64 b.shift, .own (.k 1), .own (.k 2)])), (.t 4 0, some (.cells [.int .i64 0, .int .i64 0, .nil, .nil]))], [.lp [0, 1, 0, 0, 1, 1, 1, 1, 1, 0, 1, 0, 1, 1, 1], .blk 1, .code [1, 0, 1, 1, 1, 1, 1, 0, 1, 0, 1, 1, 1], .blk 0, .code [1, 1, 1, 1]], none⟩) := by
    intro d
    induction d with
    | zero =>
      intro i z q s hz hd hq
      subst hz
      refine Run.loop ?_
      repeat' (conv => arg 4; whnf); first | refine Run.ret ⟨?_, rfl⟩ | refine Run.condT ?_ | refine Run.condf ?_ | refine Run.condD (fun h => ?_) (fun h => ?_) | refine Run.condN (fun h => ?_) (fun h => ?_) | refine Run.condE (fun h => ?_) (fun h => ?_) | refine Run.condF (fun h => ?_) (fun h => ?_) | refine Run.condM (fun h => ?_) (fun h => ?_) | refine Run.condB (fun h => ?_) (fun h => ?_) | refine Run.check1 ?_ | (exfalso; omega) | refine Run.call (hround _) rfl ?_ | (refine Run.ret ⟨⟨_, _, _, _⟩, _, ⟨?_, ?_, ?_⟩, rfl, rfl⟩)
      all_goals first | exact roundR_ok _ _ | omega | trace_state
    | succ d ih =>
      intro i z q s hz hd hq
      subst hz
      have e := fs (i := i) (by omega)
      refine Run.loop ?_
      repeat' (conv => arg 4; whnf); first | refine Run.ret ⟨?_, rfl⟩ | refine Run.condT ?_ | refine Run.condf ?_ | refine Run.condD (fun h => ?_) (fun h => ?_) | refine Run.condN (fun h => ?_) (fun h => ?_) | refine Run.condE (fun h => ?_) (fun h => ?_) | refine Run.condF (fun h => ?_) (fun h => ?_) | refine Run.condM (fun h => ?_) (fun h => ?_) | refine Run.condB (fun h => ?_) (fun h => ?_) | refine Run.check1 ?_ | (exfalso; omega) | refine Run.need1 (by simp only [allP, true_and, and_true]; omega) ?_ | refine Run.round ⟨[(.t 3 0, .t 3 0), (.t 4 0, .t 4 0)], [], []⟩ (ih (i + 1) _ _ _ e.h (by omega) hq) rfl (by (repeat' (first | exact wkEnv_nil | refine wkEnv_cons rfl ?_ | exact wkSto_nil | refine wkSto_none ?_ | refine wkSto_some rfl ?_)); done) (by (repeat' (first | exact wkEnv_nil | refine wkEnv_cons rfl ?_ | exact wkSto_nil | refine wkSto_none ?_ | refine wkSto_some rfl ?_)); done)
      all_goals trace_state
  repeat' (conv => arg 4; whnf); first | refine Run.ret ⟨?_, rfl⟩ | refine Run.condT ?_ | refine Run.condf ?_ | refine Run.condD (fun h => ?_) (fun h => ?_) | refine Run.condN (fun h => ?_) (fun h => ?_) | refine Run.condE (fun h => ?_) (fun h => ?_) | refine Run.condF (fun h => ?_) (fun h => ?_) | refine Run.condM (fun h => ?_) (fun h => ?_) | refine Run.condB (fun h => ?_) (fun h => ?_) | refine Run.check1 ?_ | (exfalso; omega) | refine Run.call (names_ok) rfl ?_ | refine Run.callE (of_ok hbs _ _ (by omega) txts_ok (by omega) (by omega)) (fun _ => rfl) (fun x hx => ?_) | refine Run.callE (pick_ok hbs _ _ (by omega)) (fun _ => rfl) (fun x hx => ?_) | refine Run.callE2 (move_ok hbs _ _ _ (by omega) (by assumption)) (fun _ _ => rfl) (fun m q2 hm => ?_) | refine Run.call (hadd m) rfl ?_ | refine Run.call (hdrop _) rfl ?_ | refine Run.call (htick) rfl ?_ | refine Run.need1 (by simp only [allP, true_and, and_true]; omega) ?_ | refine Run.round ⟨[(.t 3 0, .t 3 0), (.t 4 0, .t 4 0)], [], []⟩ (loop b.ms.length 0 _ _ _ rfl (by omega) ?_) rfl (by (repeat' (first | exact wkEnv_nil | refine wkEnv_cons rfl ?_ | exact wkSto_nil | refine wkSto_none ?_ | refine wkSto_some rfl ?_)); done) (by (repeat' (first | exact wkEnv_nil | refine wkEnv_cons rfl ?_ | exact wkSto_nil | refine wkSto_none ?_ | refine wkSto_some rfl ?_)); done) | (refine Run.ret ⟨⟨_, _, _, _⟩, _, ⟨?_, ?_, ?_⟩, rfl, rfl⟩)
  all_goals first
    | exact addR_ok _ _
    | exact dropR_ok _
    | exact tickR_ok _
    | omega
    | trace_state
theorem l6book_ok {bs : List Int} (hbs : Bytes bs) (p : Int) (hp : 0 ≤ p ∧ p < 1099511620000) : ∃ (b : Bk) (q : Int), (BkOk b ∧ p ≤ q ∧ q ≤ p + 400) ∧
    Ok P 95 [.one (.ptr (.k 0) 0)] [some (.cells [.lst (.int .u8) bs false, .int .i64 p])] (b.own (.k 1) (.k 2)) [some (.cells [.lst (.int .u8) bs false, .int .i64 q]), some (.row .mv b.ms), some (.row (.int .i64) b.ts)] := by
  refine Ok.of_ex2 (F := mk Tryz.f95 1) Tryz.func95 rfl rfl tabOk mixed rfl rfl rfl rfl rfl (Nat.le_of_ble_eq_true rfl) (fun _ _ => Nat.le_of_ble_eq_true rfl) (.go 5000 ?_)
  have loop : ∀ (d : Nat) (z q : Int) (b : Bk), z = d → d ≤ 14 → BkOk b → p ≤ q ∧ q + 25 * d ≤ p + 400 → Run P (mk Tryz.f95 1) (fun v st => ∃ (b : Bk) (q : Int), (BkOk b ∧ p ≤ q ∧ q ≤ p + 400) ∧ v = b.own (.k 1) (.k 2) ∧ st = [some (.cells [.lst (.int .u8) bs false, .int .i64 q]), some (.row .mv b.ms), some (.row (.int .i64) b.ts)])
      (.loop ⟨[(0, .one (.ptr (.k 0) 0)), (2, .one (.ptr (.t 2 0) 0)), (3, .one (.ptr (.t 3 0) 0)), (4, .one (.int .i64 z))],
        [(.k 0, some (.cells [.lst (.int .u8) bs false, .int .i64 q])), (.t 2 0, some (.cells [.int .i64 0, .int .i64 0, .nil, .nil])), (.t 3 0, some (.cells [.int .i64 b.now, .int .i64 b.shift, .own (.t 1000 0), .own (.t 1000 1)])), (.t 1000 0, some (.row .mv b.ms)), (.t 1000 1, some (.row (.int .i64) b.ts))], [.lp [0, 1, 0, 1, 1, 1], .blk 0, .code [1, 1, 1, 1]], none⟩) := by
    intro d
    induction d with
    | zero =>
      intro z q b hz hd hb hq
      subst hz
      refine Run.loop ?_
      repeat' (conv => arg 4; whnf); first | refine Run.ret ⟨?_, rfl⟩ | refine Run.condT ?_ | refine Run.condf ?_ | refine Run.condD (fun h => ?_) (fun h => ?_) | refine Run.condN (fun h => ?_) (fun h => ?_) | refine Run.condE (fun h => ?_) (fun h => ?_) | refine Run.condF (fun h => ?_) (fun h => ?_) | refine Run.condM (fun h => ?_) (fun h => ?_) | refine Run.condB (fun h => ?_) (fun h => ?_) | refine Run.check1 ?_ | (exfalso; omega) | (refine Run.ret ⟨⟨_, _, _, _⟩, _, ⟨hb, ?_, ?_⟩, rfl, rfl⟩)
      all_goals first | omega | trace_state
    | succ d ih =>
      intro z q b hz hd hb hq
      subst hz
      have e : Fact (wrap64 (((d + 1 : Nat) : Int) - 1) = (d : Int)) := ⟨(wrap_eq (by omega) (by omega)).trans (by omega)⟩
      obtain ⟨hl, ht⟩ := bk_lens hb
      have hw := tkWf_l (bkD_of hb).td
      have htick := stick_ok b (by omega) (by omega) hw
      have hev := fun q h => event_ok hbs q b hb h
      have ih1 := fun q h => ih _ q (tickR b).1 e.h (by omega) (tickR_ok b) h
      have ih2 := fun q b' hb' h => ih _ q b' e.h (by omega) hb' h
      clear ih
      refine Run.loop ?_
      repeat' (conv => arg 4; whnf); first | refine Run.ret ⟨?_, rfl⟩ | refine Run.condT ?_ | refine Run.condf ?_ | refine Run.condD (fun h => ?_) (fun h => ?_) | refine Run.condN (fun h => ?_) (fun h => ?_) | refine Run.condE (fun h => ?_) (fun h => ?_) | refine Run.condF (fun h => ?_) (fun h => ?_) | refine Run.condM (fun h => ?_) (fun h => ?_) | refine Run.condB (fun h => ?_) (fun h => ?_) | refine Run.check1 ?_ | (exfalso; omega) | refine Run.callE (pick_ok hbs _ _ (by omega)) (fun _ => rfl) (fun x hx => ?_) | refine Run.call (htick) rfl ?_ | refine Run.callE2 (hev _ (by omega)) (fun _ _ => rfl) (fun b2 q2 hb2 => ?_) | refine Run.round ⟨[(.t 2 0, .t 2 0), (.t 3 0, .t 3 0), (.t 34 0, .t 1000 0), (.t 34 1, .t 1000 1)], [], []⟩ (ih1 _ ?_) rfl (by (repeat' (first | exact wkEnv_nil | refine wkEnv_cons rfl ?_ | exact wkSto_nil | refine wkSto_none ?_ | refine wkSto_some rfl ?_)); done) (by (repeat' (first | exact wkEnv_nil | refine wkEnv_cons rfl ?_ | exact wkSto_nil | refine wkSto_none ?_ | refine wkSto_some rfl ?_)); done) | refine Run.round ⟨[(.t 2 0, .t 2 0), (.t 3 0, .t 3 0), (.t 40 0, .t 1000 0), (.t 40 1, .t 1000 1)], [], []⟩ (ih2 q2 b2 hb2.1 (by omega)) rfl (by (repeat' (first | exact wkEnv_nil | refine wkEnv_cons rfl ?_ | exact wkSto_nil | refine wkSto_none ?_ | refine wkSto_some rfl ?_)); done) (by (repeat' (first | exact wkEnv_nil | refine wkEnv_cons rfl ?_ | exact wkSto_nil | refine wkSto_none ?_ | refine wkSto_some rfl ?_)); done)
      all_goals first | omega | trace_state
  repeat' (conv => arg 4; whnf); first | refine Run.ret ⟨?_, rfl⟩ | refine Run.condT ?_ | refine Run.condf ?_ | refine Run.condD (fun h => ?_) (fun h => ?_) | refine Run.condN (fun h => ?_) (fun h => ?_) | refine Run.condE (fun h => ?_) (fun h => ?_) | refine Run.condF (fun h => ?_) (fun h => ?_) | refine Run.condM (fun h => ?_) (fun h => ?_) | refine Run.condB (fun h => ?_) (fun h => ?_) | refine Run.check1 ?_ | (exfalso; omega) | refine Run.callE (pick_ok hbs _ _ (by omega)) (fun _ => rfl) (fun x hx => ?_) | refine Run.round ⟨[(.t 2 0, .t 2 0), (.t 3 0, .t 3 0)], [(.t 1000 0, .mv), (.t 1000 1, .int .i64)], []⟩ (loop (Int.toNat _) _ _ ⟨_, _, [], []⟩ (Int.toNat_of_nonneg ?_).symm ?_ (bk_empty ?_ ?_) ?_) rfl (by (repeat' (first | exact wkEnv_nil | refine wkEnv_cons rfl ?_ | exact wkSto_nil | refine wkSto_none ?_ | refine wkSto_some rfl ?_)); done) (by (repeat' (first | exact wkEnv_nil | refine wkEnv_cons rfl ?_ | exact wkSto_nil | refine wkSto_none ?_ | refine wkSto_some rfl ?_)); done)
  all_goals (try dsimp only)
  all_goals first
    | omega
    | (rw [wrap_eq (by omega) (by omega)]; omega)
    | trace_state
/-- What spoiling a book comes to. -/
def SpoilR (bs : List Int) (p : Int) (b : Bk) (v : V) (st : List (Option C)) : Prop := ∃ (b' : Bk) (q : Int), (BkD b' ∧ p ≤ q ∧ q ≤ p + 10) ∧
  ((v = b'.own (.k 3) (.k 4) ∧ st = [some (.cells [.lst (.int .u8) bs false, .int .i64 q]), some (.row .mv b.ms), some (.row (.int .i64) b.ts), some (.row .mv b'.ms), some (.row (.int .i64) b'.ts)]) ∨
   (∃ (xs : List Int) (n : Nat), n ≤ xs.length ∧ 0 < xs.length ∧ xs.take n = b'.ts ∧ v = .agg [.int .i64 b'.now, .int .i64 b'.shift, .own (.k 3), .sub (.k 4) 0 n] ∧
     st = [some (.cells [.lst (.int .u8) bs false, .int .i64 q]), some (.row .mv b.ms), some (.row (.int .i64) b.ts), some (.row .mv b'.ms), some (.row (.int .i64) xs)]))
theorem spoilR_len {bs : List Int} {p : Int} {b : Bk} {v : V} {st : List (Option C)} (h : SpoilR bs p b v st) : 3 ≤ st.length := by
  obtain ⟨b', q, _, ⟨_, rfl⟩ | ⟨xs, n, _, _, _, _, rfl⟩⟩ := h <;> exact Nat.le_of_ble_eq_true rfl
theorem spoilR_own {bs : List Int} {p : Int} {b : Bk} {now shift q : Int} {ms : List Mv} {ts : List Int} (h : BkD ⟨now, shift, ms, ts⟩) (h1 : p ≤ q) (h2 : q ≤ p + 10) :
    SpoilR bs p b (.agg [.int .i64 now, .int .i64 shift, .own (.k 3), .own (.k 4)]) [some (.cells [.lst (.int .u8) bs false, .int .i64 q]), some (.row .mv b.ms), some (.row (.int .i64) b.ts), some (.row .mv ms), some (.row (.int .i64) ts)] := ⟨⟨now, shift, ms, ts⟩, q, ⟨h, h1, h2⟩, .inl ⟨rfl, rfl⟩⟩
theorem spoilR_sub {bs : List Int} {p : Int} {b : Bk} {now shift q : Int} {ms : List Mv} {xs : List Int} {n : Nat} (h : BkD ⟨now, shift, ms, xs.take n⟩) (h1 : p ≤ q) (h2 : q ≤ p + 10) (h3 : n ≤ xs.length) (h4 : 0 < xs.length) :
    SpoilR bs p b (.agg [.int .i64 now, .int .i64 shift, .own (.k 3), .sub (.k 4) 0 n]) [some (.cells [.lst (.int .u8) bs false, .int .i64 q]), some (.row .mv b.ms), some (.row (.int .i64) b.ts), some (.row .mv ms), some (.row (.int .i64) xs)] := ⟨⟨now, shift, ms, xs.take n⟩, q, ⟨h, h1, h2⟩, .inr ⟨xs, n, h3, h4, rfl, rfl, rfl⟩⟩
theorem l6spoil_rel {bs : List Int} (hbs : Bytes bs) (p : Int) (b : Bk) (hb : BkOk b) (hp : 0 ≤ p ∧ p < 1099511621000) : ∃ v st, SpoilR bs p b v st ∧
    Ok P 96 [.one (.ptr (.k 0) 0), b.own (.k 1) (.k 2)] [some (.cells [.lst (.int .u8) bs false, .int .i64 p]), some (.row .mv b.ms), some (.row (.int .i64) b.ts)] v st := by
  obtain ⟨hl, ht⟩ := bk_lens hb
  have hD := bkD_of hb
  have hcp := scopy_ok b (by omega) (by omega)
  have hset : ∀ (i : Int), W64L (b.ts.set i.toNat (wrap64 (wrap64 (rd b.ts i + 0)))) → True := fun _ _ => trivial
  refine Ok.of_rel (F := mk Tryz.f96 3) Tryz.func96 rfl rfl tabOk mixed rfl rfl rfl rfl rfl (Nat.le_of_ble_eq_true rfl) (R := SpoilR bs p b) (fun _ _ h => spoilR_len h) (.go 5000 ?_)
  repeat' (conv => arg 4; whnf); first | refine Run.ret ⟨?_, rfl⟩ | refine Run.condT ?_ | refine Run.condf ?_ | refine Run.condD (fun h => ?_) (fun h => ?_) | refine Run.condN (fun h => ?_) (fun h => ?_) | refine Run.condE (fun h => ?_) (fun h => ?_) | refine Run.condF (fun h => ?_) (fun h => ?_) | refine Run.condM (fun h => ?_) (fun h => ?_) | refine Run.condB (fun h => ?_) (fun h => ?_) | refine Run.check1 ?_ | (exfalso; omega) | refine Run.call (hcp) rfl ?_ | refine Run.callE (pick_ok hbs _ _ (by omega)) (fun _ => rfl) (fun x hx => ?_) | refine Run.callE2 (spoil_ok hbs _ _ (by omega) (mvsD_rd hD.md (by omega) (by omega))) (fun _ _ => rfl) (fun m q2 hm => ?_) | refine Run.need1 (by simp only [allP, true_and, and_true, List.length_cons, List.length_nil]; omega) ?_ | (refine Run.ret (spoilR_own ⟨?_, ?_, ?_, ?_, ?_, ?_⟩ ?_ ?_)) | (refine Run.ret (spoilR_sub ⟨?_, ?_, ?_, ?_, ?_, ?_⟩ ?_ ?_ ?_ ?_))
  all_goals clear hset
  all_goals (try dsimp only)
  all_goals first
    | omega
    | exact hD.md
    | exact hD.lt
    | exact hD.lm
    | exact hD.td
    | exact hD.nd
    | exact hD.sd
    | exact w64_wrap _
    | (simp only [List.length_set, List.length_take]; omega)
    | exact mvsD_set hD.md hm.1 _
    | exact w64l_set hD.td (w64_wrap _) _
    | exact w64l_take hD.td _
    | (refine w64_rd ?_ _
       repeat' first | exact w64l_nil | refine w64l_cons ?_ ?_
       all_goals (exact w64_lit (by omega)))
    | (conv => arg 4; whnf)
    | trace_state
theorem l6any_ok {bs : List Int} (hbs : Bytes bs) (p : Int) (hp : 0 ≤ p ∧ p < 1099511610000) : ∃ (b : Bk) (q : Int), (BkD b ∧ p ≤ q ∧ q ≤ p + 420) ∧
    Ok P 65 [.one (.ptr (.k 0) 0)] [some (.cells [.lst (.int .u8) bs false, .int .i64 p])] (b.own (.k 1) (.k 2)) [some (.cells [.lst (.int .u8) bs false, .int .i64 q]), some (.row .mv b.ms), some (.row (.int .i64) b.ts)] := by
  refine Ok.of_ex2 (F := mk Tryz.f65 1) Tryz.func65 rfl rfl tabOk mixed rfl rfl rfl rfl rfl (Nat.le_of_ble_eq_true rfl) (fun _ _ => Nat.le_of_ble_eq_true rfl) (.go 5000 ?_)
  repeat' (conv => arg 4; whnf); first | refine Run.ret ⟨?_, rfl⟩ | refine Run.condT ?_ | refine Run.condf ?_ | refine Run.condD (fun h => ?_) (fun h => ?_) | refine Run.condN (fun h => ?_) (fun h => ?_) | refine Run.condE (fun h => ?_) (fun h => ?_) | refine Run.condF (fun h => ?_) (fun h => ?_) | refine Run.condM (fun h => ?_) (fun h => ?_) | refine Run.condB (fun h => ?_) (fun h => ?_) | refine Run.check1 ?_ | (exfalso; omega) | refine Run.callE2 (l6book_ok hbs _ (by omega)) (fun _ _ => rfl) (fun b q1 hb => ?_) | refine Run.callE (pick_ok hbs _ _ (by omega)) (fun _ => rfl) (fun x hx => ?_) | (rcases l6spoil_rel hbs (q1 + 1) b hb.1 (by omega) with ⟨_, _, ⟨b', q, hq, ⟨rfl, rfl⟩ | ⟨xs, n, h1, h2, h3, rfl, rfl⟩⟩, hok⟩; all_goals first | refine Run.call (Ok.cutB (pre := [.int .i64 b'.now, .int .i64 b'.shift, .own (.k 3)]) (st0 := [_, _, _, _]) hok (Nat.le_of_ble_eq_true rfl) h1 h2 h3) rfl ?_ | refine Run.call hok rfl ?_) | (refine Run.ret ⟨⟨_, _, _, _⟩, _, ⟨?_, ?_, ?_⟩, rfl, rfl⟩)
  all_goals first
    | exact bkD_of hb.1
    | omega
    | exact hq.1
    | trace_state
end Go.Proofs.YtmppoajepbbmiaaGreat.AM

/- The reference's draws of books with a move, a name; of events; condition: a code of bytes. -/
namespace Go.Proofs.YtmppoajepbbmiaaGreat.AM
open Go.AM Go.RowKit
set_option linter.unusedVariables false
set_option linter.unusedSimpArgs false
set_option maxRecDepth 100000

theorem txt3 {a b c : ByteArray} (ha : a.size ≤ 1000) (hb : b.size ≤ 1000) (hc : c.size ≤ 1000) : Txt [a, b, c] := by
  intro z hz
  simp only [List.mem_cons, List.not_mem_nil, or_false] at hz
  rcases hz with rfl | rfl | rfl <;> assumption
theorem lname_ok {bs : List Int} (hbs : Bytes bs) (p : Int) (b : Bk) (hb : BkD b) (hp : 0 ≤ p ∧ p < 1099511626000) : ∃ (n : ByteArray) (q : Int), (n.size ≤ 1000 ∧ p ≤ q ∧ q ≤ p + 2) ∧
    Ok P 66 [.one (.ptr (.k 0) 0), b.own (.k 1) (.k 2)] [some (.cells [.lst (.int .u8) bs false, .int .i64 p]), some (.row .mv b.ms), some (.row (.int .i64) b.ts)]
      (.one (.str n)) [some (.cells [.lst (.int .u8) bs false, .int .i64 q]), some (.row .mv b.ms), some (.row (.int .i64) b.ts)] := by
  have hl := hb.lm
  refine Ok.of_ex2 (F := mk Tryz.f66 3) Tryz.func66 rfl rfl tabOk mixed rfl rfl rfl rfl rfl (Nat.le_of_ble_eq_true rfl) (fun _ _ => Nat.le_of_ble_eq_true rfl) (.go 5000 ?_)
  repeat' (conv => arg 4; whnf); first | refine Run.ret ⟨?_, rfl⟩ | refine Run.condT ?_ | refine Run.condf ?_ | refine Run.condD (fun h => ?_) (fun h => ?_) | refine Run.condN (fun h => ?_) (fun h => ?_) | refine Run.condE (fun h => ?_) (fun h => ?_) | refine Run.condF (fun h => ?_) (fun h => ?_) | refine Run.condM (fun h => ?_) (fun h => ?_) | refine Run.condB (fun h => ?_) (fun h => ?_) | refine Run.check1 ?_ | (exfalso; omega) | refine Run.callE (of_ok hbs _ _ (by omega) (txt3 (by decide) (by decide) (by decide)) (Nat.le_of_ble_eq_true rfl) (Nat.le_of_ble_eq_true rfl)) (fun _ => rfl) (fun s hs => ?_) | refine Run.callE (pick_ok hbs _ _ (by omega)) (fun _ => rfl) (fun x hx => ?_) | refine Run.need1 (by simp only [allP, true_and, and_true]; omega) ?_ | (refine Run.ret ⟨_, _, ⟨?_, ?_, ?_⟩, rfl, rfl⟩)
  all_goals first
    | omega
    | exact (mvsD_rd hb.md (by omega) (by omega)).1
    | assumption
    | trace_state
theorem drawAdd_ok {bs : List Int} (hb : Bytes bs) : ∃ (b : Bk) (m : Mv), (BkD b ∧ MvD m) ∧
    Ok P 35 [.one (.lst (.int .u8) bs false)] [] (.tup [b.own (.k 0) (.k 1), .agg (encMv m)]) [some (.row .mv b.ms), some (.row (.int .i64) b.ts)] := by
  have hb2 := bytes_take hb 2000
  have htx : txts.length = 6 := rfl
  refine Ok.of_ex2 (F := mk Tryz.f35 0) Tryz.func35 rfl rfl tabOk mixed rfl rfl rfl rfl rfl (Nat.le_of_ble_eq_true rfl) (fun _ _ => Nat.le_of_ble_eq_true rfl) (.go 5000 ?_)
  repeat' (conv => arg 4; whnf); first | refine Run.ret ⟨?_, rfl⟩ | refine Run.condT ?_ | refine Run.condf ?_ | refine Run.condD (fun h => ?_) (fun h => ?_) | refine Run.condN (fun h => ?_) (fun h => ?_) | refine Run.condE (fun h => ?_) (fun h => ?_) | refine Run.condF (fun h => ?_) (fun h => ?_) | refine Run.condM (fun h => ?_) (fun h => ?_) | refine Run.condB (fun h => ?_) (fun h => ?_) | refine Run.check1 ?_ | (exfalso; omega) | refine Run.call (open_ok) rfl ?_ | refine Run.callE2 (l6any_ok hb2 _ (by omega)) (fun _ _ => rfl) (fun b q1 hD => ?_) | refine Run.call (names_ok) rfl ?_ | refine Run.callE (of_ok hb2 _ _ (by omega) txts_ok (by omega) (by omega)) (fun _ => rfl) (fun s hs => ?_) | refine Run.callE2 (move_ok hb2 _ _ _ (by omega) (by assumption)) (fun _ _ => rfl) (fun m q2 hm => ?_) | refine Run.callE (pick_ok hb2 _ _ (by omega)) (fun _ => rfl) (fun x hx => ?_) | refine Run.callE2 (spoil_ok hb2 _ _ (by omega) hm.2.1) (fun _ _ => rfl) (fun m2 q3 hm2 => ?_) | (refine Run.ret ⟨⟨_, _, _, _⟩, ⟨_, _, _, _, _, _⟩, ⟨hD.1, ?_⟩, rfl, rfl⟩)
  all_goals first
    | exact hm.2.1
    | exact hm2.1
    | trace_state
theorem drawDrop_ok {bs : List Int} (hb : Bytes bs) : ∃ (b : Bk) (n : ByteArray), (BkD b ∧ n.size ≤ 1000) ∧
    Ok P 36 [.one (.lst (.int .u8) bs false)] [] (.tup [b.own (.k 0) (.k 1), .one (.str n)]) [some (.row .mv b.ms), some (.row (.int .i64) b.ts)] := by
  have hb2 := bytes_take hb 2000
  refine Ok.of_ex2 (F := mk Tryz.f36 0) Tryz.func36 rfl rfl tabOk mixed rfl rfl rfl rfl rfl (Nat.le_of_ble_eq_true rfl) (fun _ _ => Nat.le_of_ble_eq_true rfl) (.go 5000 ?_)
  repeat' (conv => arg 4; whnf); first | refine Run.ret ⟨?_, rfl⟩ | refine Run.condT ?_ | refine Run.condf ?_ | refine Run.condD (fun h => ?_) (fun h => ?_) | refine Run.condN (fun h => ?_) (fun h => ?_) | refine Run.condE (fun h => ?_) (fun h => ?_) | refine Run.condF (fun h => ?_) (fun h => ?_) | refine Run.condM (fun h => ?_) (fun h => ?_) | refine Run.condB (fun h => ?_) (fun h => ?_) | refine Run.check1 ?_ | (exfalso; omega) | refine Run.call (open_ok) rfl ?_ | refine Run.callE2 (l6any_ok hb2 _ (by omega)) (fun _ _ => rfl) (fun b q1 hD => ?_) | refine Run.callE2 (lname_ok hb2 _ b hD.1 (by omega)) (fun _ _ => rfl) (fun n q2 hn => ?_) | (refine Run.ret ⟨⟨_, _, _, _⟩, _, ⟨hD.1, hn.1⟩, rfl, rfl⟩)
  all_goals trace_state
theorem drawTick_ok {bs : List Int} (hb : Bytes bs) : ∃ b : Bk, BkD b ∧
    Ok P 26 [.one (.lst (.int .u8) bs false)] [] (b.own (.k 0) (.k 1)) [some (.row .mv b.ms), some (.row (.int .i64) b.ts)] := by
  have hb2 := bytes_take hb 2000
  refine Ok.of_ex (F := mk Tryz.f26 0) Tryz.func26 rfl rfl tabOk mixed rfl rfl rfl rfl rfl (Nat.le_of_ble_eq_true rfl) (fun _ => Nat.le_of_ble_eq_true rfl) (.go 5000 ?_)
  repeat' (conv => arg 4; whnf); first | refine Run.ret ⟨?_, rfl⟩ | refine Run.condT ?_ | refine Run.condf ?_ | refine Run.condD (fun h => ?_) (fun h => ?_) | refine Run.condN (fun h => ?_) (fun h => ?_) | refine Run.condE (fun h => ?_) (fun h => ?_) | refine Run.condF (fun h => ?_) (fun h => ?_) | refine Run.condM (fun h => ?_) (fun h => ?_) | refine Run.condB (fun h => ?_) (fun h => ?_) | refine Run.check1 ?_ | (exfalso; omega) | refine Run.call (open_ok) rfl ?_ | refine Run.callE2 (l6any_ok hb2 _ (by omega)) (fun _ _ => rfl) (fun b q1 hD => ?_) | (refine Run.ret ⟨⟨_, _, _, _⟩, hD.1, rfl, rfl⟩)
  all_goals trace_state
theorem drawRound_ok {bs : List Int} (hb : Bytes bs) : ∃ (b : Bk) (n : ByteArray), (BkD b ∧ n.size ≤ 1000) ∧
    Ok P 22 [.one (.lst (.int .u8) bs false)] [] (.tup [b.own (.k 0) (.k 1), .one (.str n)]) [some (.row .mv b.ms), some (.row (.int .i64) b.ts)] := by
  have hb2 := bytes_take hb 2000
  refine Ok.of_ex2 (F := mk Tryz.f22 0) Tryz.func22 rfl rfl tabOk mixed rfl rfl rfl rfl rfl (Nat.le_of_ble_eq_true rfl) (fun _ _ => Nat.le_of_ble_eq_true rfl) (.go 5000 ?_)
  have outer : ∀ (d : Nat) (z q : Int) (b : Bk), z = d → d ≤ 30 → BkD b → 0 ≤ q ∧ q + 10 * d ≤ 2000 → Run P (mk Tryz.f22 0) (fun v st => ∃ (b : Bk) (n : ByteArray), (BkD b ∧ n.size ≤ 1000) ∧ v = .tup [b.own (.k 0) (.k 1), .one (.str n)] ∧ st = [some (.row .mv b.ms), some (.row (.int .i64) b.ts)])
      (.loop ⟨[(2, .one (.ptr (.t 2 0) 0)), (4, .one (.ptr (.t 9 0) 0)), (5, .one (.ptr (.t 5 0) 0)), (6, .one (.int .i64 z))],
        [(.t 2 0, some (.cells [.int .i64 0, .int .i64 0, .nil, .nil])), (.t 9 0, some (.cells [.lst (.int .u8) (bs.take 2000) false, .int .i64 q])), (.t 5 0, some (.cells [.int .i64 b.now, .int .i64 b.shift, .own (.t 1000 0), .own (.t 1000 1)])), (.t 1000 0, some (.row .mv b.ms)), (.t 1000 1, some (.row (.int .i64) b.ts))], [.lp [0, 1, 0, 1, 1, 1], .blk 0, .code [1, 1, 1, 1]], none⟩) := by
    intro d
    induction d with
    | zero =>
      intro z q b hz hd hD hq
      subst hz
      refine Run.loop ?_
      repeat' (conv => arg 4; whnf); first | refine Run.ret ⟨?_, rfl⟩ | refine Run.condT ?_ | refine Run.condf ?_ | refine Run.condD (fun h => ?_) (fun h => ?_) | refine Run.condN (fun h => ?_) (fun h => ?_) | refine Run.condE (fun h => ?_) (fun h => ?_) | refine Run.condF (fun h => ?_) (fun h => ?_) | refine Run.condM (fun h => ?_) (fun h => ?_) | refine Run.condB (fun h => ?_) (fun h => ?_) | refine Run.check1 ?_ | (exfalso; omega) | refine Run.callE2 (lname_ok hb2 _ b hD (by omega)) (fun _ _ => rfl) (fun n q2 hn => ?_) | (refine Run.ret ⟨⟨_, _, _, _⟩, _, ⟨hD, hn.1⟩, rfl, rfl⟩)
      all_goals trace_state
    | succ d ih =>
      intro z q b hz hd hD hq
      subst hz
      have e : Fact (wrap64 (((d + 1 : Nat) : Int) - 1) = (d : Int)) := ⟨(wrap_eq (by omega) (by omega)).trans (by omega)⟩
      have hl := hD.lm
      have hlt := hD.lt
      have hw := tkWf_l hD.td
      have hbk := sbookOk_ok b hw
      have htick := stick_ok b (by omega) (by omega) hw
      have inner : BkOk b → ∀ (c i : Nat) (z q' : Int), z = i → i + c = b.ms.length → 0 ≤ q' ∧ q' ≤ q + i → Run P (mk Tryz.f22 0) (fun v st => ∃ (b : Bk) (n : ByteArray), (BkD b ∧ n.size ≤ 1000) ∧ v = .tup [b.own (.k 0) (.k 1), .one (.str n)] ∧ st = [some (.row .mv b.ms), some (.row (.int .i64) b.ts)])
          (.loop ⟨[(2, .one (.ptr (.t 2 0) 0)), (4, .one (.ptr (.t 9 0) 0)), (5, .one (.ptr (.t 5 0) 0)), (6, .one (.int .i64 ((d + 1 : Nat) : Int))), (7, .one (.int .i64 z))],
            [(.t 2 0, some (.cells [.int .i64 0, .int .i64 0, .nil, .nil])), (.t 9 0, some (.cells [.lst (.int .u8) (bs.take 2000) false, .int .i64 q'])), (.t 5 0, some (.cells [.int .i64 b.now, .int .i64 b.shift, .own (.t 1000 0), .own (.t 1000 1)])), (.t 1000 0, some (.row .mv b.ms)), (.t 1000 1, some (.row (.int .i64) b.ts))], [.lp [0, 1, 0, 0, 0, 1, 0, 0, 1, 0, 1, 1, 1], .blk 2, .code [1, 0, 0, 1, 0, 0, 1, 0, 1, 1, 1], .blk 1, .code [1, 1, 0, 0, 1, 0, 1, 1, 1], .lp [0, 1, 0, 1, 1, 1], .blk 0, .code [1, 1, 1, 1]], none⟩) := by
        intro hb c
        have hll : b.ts.length = b.ms.length := hb.2.2.1.2.1
        induction c with
        | zero =>
          intro i z q' hz hc hq'
          subst hz
          have ih' := ih _ q' (tickR b).1 e.h (by omega) (bkD_of (tickR_ok b)) (by omega)
          clear ih
          refine Run.loop ?_
          repeat' (conv => arg 4; whnf); first | refine Run.ret ⟨?_, rfl⟩ | refine Run.condT ?_ | refine Run.condf ?_ | refine Run.condD (fun h => ?_) (fun h => ?_) | refine Run.condN (fun h => ?_) (fun h => ?_) | refine Run.condE (fun h => ?_) (fun h => ?_) | refine Run.condF (fun h => ?_) (fun h => ?_) | refine Run.condM (fun h => ?_) (fun h => ?_) | refine Run.condB (fun h => ?_) (fun h => ?_) | refine Run.check1 ?_ | (exfalso; omega) | refine Run.call (htick) rfl ?_ | refine Run.round ⟨[(.t 2 0, .t 2 0), (.t 9 0, .t 9 0), (.t 5 0, .t 5 0), (.t 65 0, .t 1000 0), (.t 65 1, .t 1000 1)], [], []⟩ (ih') rfl (by (repeat' (first | exact wkEnv_nil | refine wkEnv_cons rfl ?_ | exact wkSto_nil | refine wkSto_none ?_ | refine wkSto_some rfl ?_)); done) (by (repeat' (first | exact wkEnv_nil | refine wkEnv_cons rfl ?_ | exact wkSto_nil | refine wkSto_none ?_ | refine wkSto_some rfl ?_)); done)
          all_goals trace_state
        | succ c ihc =>
          intro i z q' hz hc hq'
          subst hz
          have e2 := fs (i := i) (by omega)
          have hn := fun h => (mvsD_rd hD.md (i := (i : Int)) (by omega) h).1
          clear ih
          refine Run.loop ?_
          repeat' (conv => arg 4; whnf); first | refine Run.ret ⟨?_, rfl⟩ | refine Run.condT ?_ | refine Run.condf ?_ | refine Run.condD (fun h => ?_) (fun h => ?_) | refine Run.condN (fun h => ?_) (fun h => ?_) | refine Run.condE (fun h => ?_) (fun h => ?_) | refine Run.condF (fun h => ?_) (fun h => ?_) | refine Run.condM (fun h => ?_) (fun h => ?_) | refine Run.condB (fun h => ?_) (fun h => ?_) | refine Run.check1 ?_ | (exfalso; omega) | refine Run.need1 (by simp only [allP, true_and, and_true]; omega) ?_ | refine Run.callE (pick_ok hb2 _ _ (by omega)) (fun _ => rfl) (fun y hy => ?_) | refine Run.round ⟨[(.t 2 0, .t 2 0), (.t 9 0, .t 9 0), (.t 5 0, .t 5 0), (.t 1000 0, .t 1000 0), (.t 1000 1, .t 1000 1)], [], []⟩ (ihc (i + 1) _ _ e2.h (by omega) ?_) rfl (by (repeat' (first | exact wkEnv_nil | refine wkEnv_cons rfl ?_ | exact wkSto_nil | refine wkSto_none ?_ | refine wkSto_some rfl ?_)); done) (by (repeat' (first | exact wkEnv_nil | refine wkEnv_cons rfl ?_ | exact wkSto_nil | refine wkSto_none ?_ | refine wkSto_some rfl ?_)); done) | (refine Run.ret ⟨⟨_, _, _, _⟩, _, ⟨hD, hn (by omega)⟩, rfl, rfl⟩)
          all_goals first | omega | trace_state
      clear ih
      refine Run.loop ?_
      repeat' (conv => arg 4; whnf); first | refine Run.ret ⟨?_, rfl⟩ | refine Run.condT ?_ | refine Run.condf ?_ | refine Run.condD (fun h => ?_) (fun h => ?_) | refine Run.condN (fun h => ?_) (fun h => ?_) | refine Run.condE (fun h => ?_) (fun h => ?_) | refine Run.condF (fun h => ?_) (fun h => ?_) | refine Run.condM (fun h => ?_) (fun h => ?_) | refine Run.condB (fun h => ?_) (fun h => ?_) | refine Run.check1 ?_ | (exfalso; omega) | refine Run.call (hbk) rfl ?_ | refine Run.round ⟨[(.t 2 0, .t 2 0), (.t 9 0, .t 9 0), (.t 5 0, .t 5 0), (.t 1000 0, .t 1000 0), (.t 1000 1, .t 1000 1)], [], []⟩ (inner ?_ b.ms.length 0 _ q rfl (by omega) (by omega)) rfl (by (repeat' (first | exact wkEnv_nil | refine wkEnv_cons rfl ?_ | exact wkSto_nil | refine wkSto_none ?_ | refine wkSto_some rfl ?_)); done) (by (repeat' (first | exact wkEnv_nil | refine wkEnv_cons rfl ?_ | exact wkSto_nil | refine wkSto_none ?_ | refine wkSto_some rfl ?_)); done) | refine Run.callE2 (lname_ok hb2 _ b hD (by omega)) (fun _ _ => rfl) (fun n q2 hn => ?_) | (refine Run.ret ⟨⟨_, _, _, _⟩, _, ⟨hD, hn.1⟩, rfl, rfl⟩)
      all_goals first | assumption | trace_state
  repeat' (conv => arg 4; whnf); first | refine Run.ret ⟨?_, rfl⟩ | refine Run.condT ?_ | refine Run.condf ?_ | refine Run.condD (fun h => ?_) (fun h => ?_) | refine Run.condN (fun h => ?_) (fun h => ?_) | refine Run.condE (fun h => ?_) (fun h => ?_) | refine Run.condF (fun h => ?_) (fun h => ?_) | refine Run.condM (fun h => ?_) (fun h => ?_) | refine Run.condB (fun h => ?_) (fun h => ?_) | refine Run.check1 ?_ | (exfalso; omega) | refine Run.call (open_ok) rfl ?_ | refine Run.callE2 (l6any_ok hb2 _ (by omega)) (fun _ _ => rfl) (fun b q1 hD => ?_) | refine Run.callE (pick_ok hb2 _ _ (by omega)) (fun _ => rfl) (fun x hx => ?_) | refine Run.round ⟨[(.t 2 0, .t 2 0), (.t 9 0, .t 9 0), (.t 5 0, .t 5 0), (.t 11 0, .t 1000 0), (.t 11 1, .t 1000 1)], [], []⟩ (outer (Int.toNat _) _ _ b (Int.toNat_of_nonneg ?_).symm ?_ hD.1 ?_) rfl (by (repeat' (first | exact wkEnv_nil | refine wkEnv_cons rfl ?_ | exact wkSto_nil | refine wkSto_none ?_ | refine wkSto_some rfl ?_)); done) (by (repeat' (first | exact wkEnv_nil | refine wkEnv_cons rfl ?_ | exact wkSto_nil | refine wkSto_none ?_ | refine wkSto_some rfl ?_)); done)
  all_goals first | omega | trace_state
theorem mvD_0 : MvD ⟨ByteArray.empty, false, 0, 0, 0, -1⟩ := ⟨by decide, ⟨by decide, by decide⟩, ⟨by decide, by decide⟩, ⟨by decide, by decide⟩, ⟨by decide, by decide⟩⟩
theorem txt_app {l : List ByteArray} {s : ByteArray} (h : Txt l) (hs : s.size ≤ 1000) : Txt (l ++ [s]) := fun z hz => by
  rcases List.mem_append.1 hz with h1 | h1
  · exact h z h1
  · rw [List.mem_singleton.1 h1]; exact hs
theorem drawEvents_ok {bs : List Int} (hb : Bytes bs) : ∃ (ms : List Mv) (ns : List ByteArray), (MvsD ms ∧ Txt ns ∧ ns.length = ms.length ∧ ms.length ≤ 16) ∧
    Ok P 7 [.one (.lst (.int .u8) bs false)] [] (.tup [.one (.own (.k 0)), .one (.own (.k 1))]) [some (.row .mv ms), some (.row .str ns)] := by
  have hb2 := bytes_take hb 2000
  have htx : txts.length = 6 := rfl
  refine Ok.of_ex2 (F := mk Tryz.f7 0) Tryz.func7 rfl rfl tabOk mixed rfl rfl rfl rfl rfl (Nat.le_of_ble_eq_true rfl) (fun _ _ => Nat.le_of_ble_eq_true rfl) (.go 5000 ?_)
  have loop : ∀ (d : Nat) (z q now : Int) (ms : List Mv) (ns : List ByteArray), z = d → d ≤ 16 → MvsD ms → Txt ns → ns.length = ms.length → ms.length + d ≤ 16 → 0 ≤ q ∧ q + 20 * d ≤ 2000 → Run P (mk Tryz.f7 0) (fun v st => ∃ (ms : List Mv) (ns : List ByteArray), (MvsD ms ∧ Txt ns ∧ ns.length = ms.length ∧ ms.length ≤ 16) ∧ v = .tup [.one (.own (.k 0)), .one (.own (.k 1))] ∧ st = [some (.row .mv ms), some (.row .str ns)])
      (.loop ⟨[(4, .one (.ptr (.t 12 0) 0)), (5, .one (.own (.t 1000 0))), (6, .one (.own (.t 1000 1))), (7, .one (.int .i64 now)), (8, .one (.int .i64 z))],
        [(.t 12 0, some (.cells [.lst (.int .u8) (bs.take 2000) false, .int .i64 q])), (.t 1000 0, some (.row .mv ms)), (.t 1000 1, some (.row .str ns))], [.lp [0, 1, 0, 1, 1, 1, 1, 1], .blk 0, .code [1, 1, 1, 1, 1, 1]], none⟩) := by
    intro d
    induction d with
    | zero =>
      intro z q now ms ns hz hd hm hn hl hl2 hq
      subst hz
      refine Run.loop ?_
      repeat' (conv => arg 4; whnf); first | refine Run.ret ⟨?_, rfl⟩ | refine Run.condT ?_ | refine Run.condf ?_ | refine Run.condD (fun h => ?_) (fun h => ?_) | refine Run.condN (fun h => ?_) (fun h => ?_) | refine Run.condE (fun h => ?_) (fun h => ?_) | refine Run.condF (fun h => ?_) (fun h => ?_) | refine Run.condM (fun h => ?_) (fun h => ?_) | refine Run.condB (fun h => ?_) (fun h => ?_) | refine Run.check1 ?_ | (exfalso; omega) | (refine Run.ret ⟨_, _, ⟨hm, hn, hl, by omega⟩, rfl, rfl⟩)
      all_goals trace_state
    | succ d ih =>
      intro z q now ms ns hz hd hm hn hl hl2 hq
      subst hz
      have e : Fact (wrap64 (((d + 1 : Nat) : Int) - 1) = (d : Int)) := ⟨(wrap_eq (by omega) (by omega)).trans (by omega)⟩
      have ih' := fun q now (m : Mv) (s : ByteArray) (h1 : MvD m) (h2 : s.size ≤ 1000) hq => ih _ q now (ms ++ [m]) (ns ++ [s]) e.h (by omega) (mvsD_app hm h1) (txt_app hn h2) (by rw [List.length_append, List.length_append, hl]; rfl) (by rw [List.length_append, List.length_singleton]; omega) hq
      clear ih
      refine Run.loop ?_
      repeat' (conv => arg 4; whnf); first | refine Run.ret ⟨?_, rfl⟩ | refine Run.condT ?_ | refine Run.condf ?_ | refine Run.condD (fun h => ?_) (fun h => ?_) | refine Run.condN (fun h => ?_) (fun h => ?_) | refine Run.condE (fun h => ?_) (fun h => ?_) | refine Run.condF (fun h => ?_) (fun h => ?_) | refine Run.condM (fun h => ?_) (fun h => ?_) | refine Run.condB (fun h => ?_) (fun h => ?_) | refine Run.check1 ?_ | (exfalso; omega) | refine Run.call (names_ok) rfl ?_ | refine Run.callE (of_ok hb2 _ _ (by omega) txts_ok (by omega) (by omega)) (fun _ => rfl) (fun s hs => ?_) | refine Run.callE2 (move_ok hb2 _ _ _ (by omega) (by assumption)) (fun _ _ => rfl) (fun m q2 hm2 => ?_) | refine Run.callE (pick_ok hb2 _ _ (by omega)) (fun _ => rfl) (fun x hx => ?_) | refine Run.need1 (by simp only [allP, true_and, and_true, List.length_cons, List.length_nil]; omega) ?_ | refine Run.round ⟨[(.t 12 0, .t 12 0), (.t 44 0, .t 1000 0), (.t 48 0, .t 1000 1)], [], []⟩ (ih' _ _ ⟨_, _, _, _, _, _⟩ _ ?_ ?_ ?_) rfl (by (repeat' (first | exact wkEnv_nil | refine wkEnv_cons rfl ?_ | exact wkSto_nil | refine wkSto_none ?_ | refine wkSto_some rfl ?_)); done) (by (repeat' (first | exact wkEnv_nil | refine wkEnv_cons rfl ?_ | exact wkSto_nil | refine wkSto_none ?_ | refine wkSto_some rfl ?_)); done)
      all_goals first
        | omega
        | exact hm2.2.1
        | assumption
        | exact mvD_0
        | decide
        | trace_state
  repeat' (conv => arg 4; whnf); first | refine Run.ret ⟨?_, rfl⟩ | refine Run.condT ?_ | refine Run.condf ?_ | refine Run.condD (fun h => ?_) (fun h => ?_) | refine Run.condN (fun h => ?_) (fun h => ?_) | refine Run.condE (fun h => ?_) (fun h => ?_) | refine Run.condF (fun h => ?_) (fun h => ?_) | refine Run.condM (fun h => ?_) (fun h => ?_) | refine Run.condB (fun h => ?_) (fun h => ?_) | refine Run.check1 ?_ | (exfalso; omega) | refine Run.call (open_ok) rfl ?_ | refine Run.callE (pick_ok hb2 _ _ (by omega)) (fun _ => rfl) (fun x hx => ?_) | refine Run.round ⟨[(.t 12 0, .t 12 0), (.t 13 0, .t 1000 0), (.t 14 0, .t 1000 1)], [], []⟩ (loop (Int.toNat _) _ _ _ _ _ (Int.toNat_of_nonneg ?_).symm ?_ mvsD_nil (fun z hz => absurd hz List.not_mem_nil) rfl ?_ ?_) rfl (by (repeat' (first | exact wkEnv_nil | refine wkEnv_cons rfl ?_ | exact wkSto_nil | refine wkSto_none ?_ | refine wkSto_some rfl ?_)); done) (by (repeat' (first | exact wkEnv_nil | refine wkEnv_cons rfl ?_ | exact wkSto_nil | refine wkSto_none ?_ | refine wkSto_some rfl ?_)); done)
  all_goals (try rw [List.length_nil])
  all_goals first | omega | trace_state
end Go.Proofs.YtmppoajepbbmiaaGreat.AM

/- StripTick of the program; condition: the ticks are of 64 bits. -/
namespace Go.Proofs.YtmppoajepbbmiaaGreat.AM
open Go.AM Go.RowKit
set_option linter.unusedVariables false
set_option linter.unusedSimpArgs false
set_option maxRecDepth 100000

theorem tick_ok (b : Bk) (hl : b.ms.length ≤ 1048576) (ht : b.ts.length ≤ 1048576) (hw : TkWf b.ts) :
    Ok P 13 [b.lent] [] (.tup [(tickR b).1.own (.k 0) (.k 1), .one (.own (.k 2)), .one (.int .i64 (tickR b).2.2)]) [some (.row .mv (tickR b).1.ms), some (.row (.int .i64) (tickR b).1.ts), some (.row .str (tickR b).2.1)] := by
  refine Ok.of_run (F := mk Tryz.f13 0) Tryz.func13 rfl rfl tabOk mixed rfl rfl rfl rfl rfl (Nat.le_of_ble_eq_true rfl) (Nat.le_of_ble_eq_true rfl) (.go 5000 ?_)
  by_cases hb : BkOk b
  · by_cases hn : b.now = 10000
    · rw [show tickR b = (b, [], 2) by unfold tickR; rw [if_pos hb, if_pos hn]]
      conv => arg 4; whnf
      refine Run.call0 (bookOk_ok b hw) rfl (.go 5000 ?_)
      conv => arg 4; whnf
      refine Run.condN (fun h => absurd hb h) (fun _ => ?_)
      conv => arg 4; whnf
      refine Run.cond0 (fun _ => ?_) (fun h => absurd hn (by simpa using h))
      refine Run.go 5000 ?_
      conv => arg 4; whnf
      refine Run.call0 (copyBook_ok b hl ht) rfl (Run.to [1, 0, 1, 0, 1, 1] 5000 ?_)
      conv => arg 4; whnf
      refine Run.less ⟨[(.t 2 0, .t 2 0), (.t 17 0, .t 1000 0), (.t 17 1, .t 1000 1)], [(.t 1000 2, .str)], []⟩ (env' := [(2, .one (.ptr (.t 2 0) 0)), (3, .one (.own (.t 1000 2))), (4, .one (.int .i64 2))]) (sto' := [(.t 2 0, some (.cells [.int .i64 b.now, .int .i64 b.shift, .own (.t 1000 0), .own (.t 1000 1)])), (.t 1000 0, some (.row .mv b.ms)), (.t 1000 1, some (.row (.int .i64) b.ts)), (.t 1000 2, some (.row .str []))]) (.go 5000 ?_) rfl (by (repeat' (first | exact wkEnv_nil | refine wkEnv_cons rfl ?_ | exact wkSto_nil | refine wkSto_none ?_ | refine wkSto_some rfl ?_)); done) (by (repeat' (first | exact wkEnv_nil | refine wkEnv_cons rfl ?_ | exact wkSto_nil | refine wkSto_none ?_ | refine wkSto_some rfl ?_)); done)
      repeat' (conv => arg 4; whnf); first | refine Run.ret ⟨?_, rfl⟩ | refine Run.condT ?_ | refine Run.condf ?_ | refine Run.condD (fun h => ?_) (fun h => ?_) | refine Run.condN (fun h => ?_) (fun h => ?_) | refine Run.condE (fun h => ?_) (fun h => ?_) | refine Run.condF (fun h => ?_) (fun h => ?_) | refine Run.condM (fun h => ?_) (fun h => ?_) | refine Run.condB (fun h => ?_) (fun h => ?_) | refine Run.check1 ?_
      all_goals rfl
    · rw [show tickR b = (⟨b.now + 1, b.shift, (tickF b).1, (tickF b).2.1⟩, (tickF b).2.2, 0) by unfold tickR; rw [if_pos hb, if_neg hn]]
      have hnow := hb.1
      have h6 := hb.2.2.1.1.1
      have hlen := hb.2.2.1.2.1
      have e1 : wrap64 (b.now + 1) = b.now + 1 := wrap_eq (by omega) (by omega)
      have e5 : wrap64 (b.now + 1 + 4) = b.now + 1 + 4 := wrap_eq (by omega) (by omega)
      have loop : ∀ (d i : Nat) (z y : Int) (s1 : List Mv) (s2 : List Int) (s3 : List ByteArray), z = i → y = b.now + 1 → i + d = b.ms.length → Len3 i (s1, s2, s3) → foldFrom (tickStep b) i d (s1, s2, s3) = tickF b →
          Run P (mk Tryz.f13 0) (fun v st => v = .tup [Bk.own ⟨b.now + 1, b.shift, (tickF b).1, (tickF b).2.1⟩ (.k 0) (.k 1), .one (.own (.k 2)), .one (.int .i64 0)] ∧ st = [some (.row .mv (tickF b).1), some (.row (.int .i64) (tickF b).2.1), some (.row .str (tickF b).2.2)])
            (.loop ⟨[(1, .one (.ptr (.t 1 0) 0)), (2, .one (.ptr (.t 2 0) 0)), (5, .one (.ptr (.t 5 0) 0)), (6, .one (.own (.t 1000 2))), (26, .one (.lst .mv b.ms false)), (27, .one (.int .i64 (b.ms.length : Int))), (28, .one (.int .i64 z))],
              [(.t 1 0, some (.cells b.lent.atoms)), (.t 2 0, some (.cells [.int .i64 0, .int .i64 0, .nil, .nil])), (.t 5 0, some (.cells [.int .i64 y, .int .i64 b.shift, .own (.t 1000 0), .own (.t 1000 1)])), (.t 1000 0, some (.row .mv s1)), (.t 1000 1, some (.row (.int .i64) s2)), (.t 1000 2, some (.row .str s3))], [.lp [0, 1, 0, 1, 1, 1, 1, 1], .blk 0, .code [1, 1, 1, 1, 1, 1]], none⟩) := by
        intro d
        induction d with
        | zero =>
          intro i z y s1 s2 s3 hz hy hd hc he
          subst hz; subst hy
          rw [← he]
          refine Run.loop ?_
          repeat' (conv => arg 4; whnf); first | refine Run.ret ⟨?_, rfl⟩ | refine Run.condT ?_ | refine Run.condf ?_ | refine Run.condD (fun h => ?_) (fun h => ?_) | refine Run.condN (fun h => ?_) (fun h => ?_) | refine Run.condE (fun h => ?_) (fun h => ?_) | refine Run.condF (fun h => ?_) (fun h => ?_) | refine Run.condM (fun h => ?_) (fun h => ?_) | refine Run.condB (fun h => ?_) (fun h => ?_) | refine Run.check1 ?_ | (exfalso; omega)
          all_goals first | rfl | (exfalso; omega) | trace_state
        | succ d ih =>
          intro i z y s1 s2 s3 hz hy hd hc he
          subst hz; subst hy
          have e : wrap64 ((i : Int) + 1) = ((i + 1 : Nat) : Int) := wrap_eq (by omega) (by omega)
          have hc' := len3_step (b := b) hc
          have he' : foldFrom (tickStep b) (i + 1) d (tickStep b i (s1, s2, s3)) = tickF b := he
          have st1 : tk b.ts i = b.now → tickStep b i (s1, s2, s3) = (s1, s2, s3 ++ [(at' b.ms i).f0]) := fun q => by unfold tickStep; rw [if_pos q]
          have st2 : ¬ tk b.ts i = b.now → tk b.ts i < b.now + 1 + 4 → tickStep b i (s1, s2, s3) = (s1 ++ [{ at' b.ms i with f5 := tk b.ts i }], s2 ++ [tk b.ts i], s3) := fun q q' => by unfold tickStep soon; rw [if_neg q, if_pos q']
          have st3 : ¬ tk b.ts i = b.now → ¬ tk b.ts i < b.now + 1 + 4 → tickStep b i (s1, s2, s3) = (s1 ++ [at' b.ms i], s2 ++ [tk b.ts i], s3) := fun q q' => by unfold tickStep soon; rw [if_neg q, if_neg q']
          obtain ⟨c1, c2, c3⟩ := hc
          simp only at c1 c2 c3
          refine Run.loop ?_
          repeat' (conv => arg 4; whnf); first | refine Run.ret ⟨?_, rfl⟩ | refine Run.condT ?_ | refine Run.condf ?_ | refine Run.condD (fun h => ?_) (fun h => ?_) | refine Run.condN (fun h => ?_) (fun h => ?_) | refine Run.condE (fun h => ?_) (fun h => ?_) | refine Run.condF (fun h => ?_) (fun h => ?_) | refine Run.condM (fun h => ?_) (fun h => ?_) | refine Run.condB (fun h => ?_) (fun h => ?_) | refine Run.check1 ?_ | refine Run.need1 (by simp only [allP, true_and, and_true, List.length_cons, List.length_nil]; omega) ?_ | refine Run.round ⟨[(.t 1 0, .t 1 0), (.t 2 0, .t 2 0), (.t 5 0, .t 5 0), (.t 1000 0, .t 1000 0), (.t 1000 1, .t 1000 1), (.t 45 0, .t 1000 2)], [], []⟩ (ih (i + 1) _ _ _ _ _ e rfl (by omega) ?_ ?_) rfl (by (repeat' (first | exact wkEnv_nil | refine wkEnv_cons rfl ?_ | exact wkSto_nil | refine wkSto_none ?_ | refine wkSto_some rfl ?_)); done) (by (repeat' (first | exact wkEnv_nil | refine wkEnv_cons rfl ?_ | exact wkSto_nil | refine wkSto_none ?_ | refine wkSto_some rfl ?_)); done) | refine Run.round ⟨[(.t 1 0, .t 1 0), (.t 2 0, .t 2 0), (.t 5 0, .t 5 0), (.t 65 0, .t 1000 0), (.t 75 0, .t 1000 1), (.t 1000 2, .t 1000 2)], [], []⟩ (ih (i + 1) _ _ _ _ _ e rfl (by omega) ?_ ?_) rfl (by (repeat' (first | exact wkEnv_nil | refine wkEnv_cons rfl ?_ | exact wkSto_nil | refine wkSto_none ?_ | refine wkSto_some rfl ?_)); done) (by (repeat' (first | exact wkEnv_nil | refine wkEnv_cons rfl ?_ | exact wkSto_nil | refine wkSto_none ?_ | refine wkSto_some rfl ?_)); done) | (exfalso; omega)
          all_goals (simp only [rd_nat, rdM_nat, e5] at *)
          all_goals first
            | (exfalso; omega)
            | (rw [st1 (by omega)] at hc' he'
               first | exact hc' | exact he')
            | (rw [st2 (by omega) (by omega)] at hc' he'
               first | exact hc' | exact he')
            | (rw [st3 (by omega) (by omega)] at hc' he'
               first | exact hc' | exact he')
            | trace_state
      repeat' (conv => arg 4; whnf); first | refine Run.ret ⟨?_, rfl⟩ | refine Run.condT ?_ | refine Run.condf ?_ | refine Run.condD (fun h => ?_) (fun h => ?_) | refine Run.condN (fun h => ?_) (fun h => ?_) | refine Run.condE (fun h => ?_) (fun h => ?_) | refine Run.condF (fun h => ?_) (fun h => ?_) | refine Run.condM (fun h => ?_) (fun h => ?_) | refine Run.condB (fun h => ?_) (fun h => ?_) | refine Run.check1 ?_ | refine Run.call (bookOk_ok _ hw) rfl ?_ | refine Run.round ⟨[(.t 1 0, .t 1 0), (.t 2 0, .t 2 0), (.t 5 0, .t 5 0), (.t 24 0, .t 1000 2)], [(.t 1000 0, .mv), (.t 1000 1, .int .i64)], []⟩ (loop b.ms.length 0 _ _ _ _ _ rfl ?_ ?_ ?_ ?_) rfl (by (repeat' (first | exact wkEnv_nil | refine wkEnv_cons rfl ?_ | exact wkSto_nil | refine wkSto_none ?_ | refine wkSto_some rfl ?_)); done) (by (repeat' (first | exact wkEnv_nil | refine wkEnv_cons rfl ?_ | exact wkSto_nil | refine wkSto_none ?_ | refine wkSto_some rfl ?_)); done) | (exact absurd ‹b.now = 10000› hn) | (exact absurd hb ‹¬ BkOk b›)
      all_goals first | exact e1 | omega | rfl | exact ⟨Nat.le_refl _, Nat.le_refl _, Nat.le_refl _⟩ | trace_state
  · rw [show tickR b = (⟨0, 0, [], []⟩, [], 1) by unfold tickR; rw [if_neg hb]]
    conv => arg 4; whnf
    refine Run.call0 (bookOk_ok b hw) rfl (.go 5000 ?_)
    rw [decide_eq_false hb]
    conv => arg 4; whnf
    refine Run.cond0 (fun _ => ?_) (fun h => by cases h)
    refine Run.to [1, 0, 1, 0, 1] 5000 ?_
    conv => arg 4; whnf
    refine Run.less ⟨[(.t 2 0, .t 2 0)], [(.t 1000 0, .mv), (.t 1000 1, .int .i64), (.t 1000 2, .str)], []⟩ (env' := [(2, .one (.ptr (.t 2 0) 0)), (3, .one (.own (.t 1000 2))), (4, .one (.int .i64 1))]) (sto' := [(.t 2 0, some (.cells [.int .i64 0, .int .i64 0, .own (.t 1000 0), .own (.t 1000 1)])), (.t 1000 0, some (.row .mv [])), (.t 1000 1, some (.row (.int .i64) [])), (.t 1000 2, some (.row .str []))]) (.go 5000 ?_) rfl (by (repeat' (first | exact wkEnv_nil | refine wkEnv_cons rfl ?_ | exact wkSto_nil | refine wkSto_none ?_ | refine wkSto_some rfl ?_)); done) (by (repeat' (first | exact wkEnv_nil | refine wkEnv_cons rfl ?_ | exact wkSto_nil | refine wkSto_none ?_ | refine wkSto_some rfl ?_)); done)
    repeat' (conv => arg 4; whnf); first | refine Run.ret ⟨?_, rfl⟩ | refine Run.condT ?_ | refine Run.condf ?_ | refine Run.condD (fun h => ?_) (fun h => ?_) | refine Run.condN (fun h => ?_) (fun h => ?_) | refine Run.condE (fun h => ?_) (fun h => ?_) | refine Run.condF (fun h => ?_) (fun h => ?_) | refine Run.condM (fun h => ?_) (fun h => ?_) | refine Run.condB (fun h => ?_) (fun h => ?_) | refine Run.check1 ?_
    all_goals rfl
end Go.Proofs.YtmppoajepbbmiaaGreat.AM

/- The laws' own words on numbers and ticks; condition: as each says. -/
namespace Go.Proofs.YtmppoajepbbmiaaGreat.AM
open Go.AM Go.RowKit
set_option linter.unusedVariables false
set_option linter.unusedSimpArgs false
set_option maxRecDepth 100000

theorem wints_ok (t : List Int) (ht : t.length ≤ 1048576) : Ok P 60 [.one (.lst (.int .i64) t false), .one (.lst (.int .i64) t false)] [] (.one (.bool true)) [] := by
  refine Ok.of_run (F := mk Tryz.f60 0) Tryz.func60 rfl rfl tabOk mixed rfl rfl rfl rfl rfl (Nat.le_of_ble_eq_true rfl) (Nat.le_of_ble_eq_true rfl) (.go 5000 ?_)
  have loop : ∀ (d i : Nat) (z : Int), z = i → i + d = t.length → Run P (mk Tryz.f60 0) (fun v st => v = .one (.bool true) ∧ st = []) (.loop ⟨[(0, .one (.lst (.int .i64) t false)), (1, .one (.lst (.int .i64) t false)), (5, .one (.int .i64 z))], [], [.lp [0, 1, 0, 1, 1], .blk 0, .code [1, 1, 1]], none⟩) := by
    intro d
    induction d with
    | zero =>
      intro i z hz hd
      subst hz
      refine Run.loop ?_
      repeat' (conv => arg 4; whnf); first | refine Run.ret ⟨?_, rfl⟩ | refine Run.condT ?_ | refine Run.condf ?_ | refine Run.condD (fun h => ?_) (fun h => ?_) | refine Run.condN (fun h => ?_) (fun h => ?_) | refine Run.condE (fun h => ?_) (fun h => ?_) | refine Run.condF (fun h => ?_) (fun h => ?_) | refine Run.condM (fun h => ?_) (fun h => ?_) | refine Run.condB (fun h => ?_) (fun h => ?_) | refine Run.check1 ?_ | (exfalso; omega)
      all_goals first | rfl | (exfalso; omega)
    | succ d ih =>
      intro i z hz hd
      subst hz
      have e := fs (i := i) (by omega)
      refine Run.loop ?_
      repeat' (conv => arg 4; whnf); first | refine Run.ret ⟨?_, rfl⟩ | refine Run.condT ?_ | refine Run.condf ?_ | refine Run.condD (fun h => ?_) (fun h => ?_) | refine Run.condN (fun h => ?_) (fun h => ?_) | refine Run.condE (fun h => ?_) (fun h => ?_) | refine Run.condF (fun h => ?_) (fun h => ?_) | refine Run.condM (fun h => ?_) (fun h => ?_) | refine Run.condB (fun h => ?_) (fun h => ?_) | refine Run.check1 ?_ | refine Run.need1 (by simp only [allP, true_and, and_true]; omega) ?_ | refine Run.round ⟨[], [], []⟩ (ih (i + 1) _ e.h (by omega)) rfl (by (repeat' (first | exact wkEnv_nil | refine wkEnv_cons rfl ?_ | exact wkSto_nil | refine wkSto_none ?_ | refine wkSto_some rfl ?_)); done) (by (repeat' (first | exact wkEnv_nil | refine wkEnv_cons rfl ?_ | exact wkSto_nil | refine wkSto_none ?_ | refine wkSto_some rfl ?_)); done) | (exfalso; omega)
      all_goals (exfalso; omega)
  repeat' (conv => arg 4; whnf); first | refine Run.ret ⟨?_, rfl⟩ | refine Run.condT ?_ | refine Run.condf ?_ | refine Run.condD (fun h => ?_) (fun h => ?_) | refine Run.condN (fun h => ?_) (fun h => ?_) | refine Run.condE (fun h => ?_) (fun h => ?_) | refine Run.condF (fun h => ?_) (fun h => ?_) | refine Run.condM (fun h => ?_) (fun h => ?_) | refine Run.condB (fun h => ?_) (fun h => ?_) | refine Run.check1 ?_ | refine Run.round ⟨[], [], []⟩ (loop t.length 0 _ rfl (by omega)) rfl (by (repeat' (first | exact wkEnv_nil | refine wkEnv_cons rfl ?_ | exact wkSto_nil | refine wkSto_none ?_ | refine wkSto_some rfl ?_)); done) (by (repeat' (first | exact wkEnv_nil | refine wkEnv_cons rfl ?_ | exact wkSto_nil | refine wkSto_none ?_ | refine wkSto_some rfl ?_)); done)
  all_goals (exfalso; omega)
theorem wgap_ok (a b : Mv) (ha : 1 ≤ a.f2 ∧ a.f2 ≤ 3) (hb : 1 ≤ b.f2 ∧ b.f2 ≤ 3) : Ok P 63 [.agg (encMv a), .agg (encMv b)] [] (.one (.int .i64 (gap a b))) [] := by
  refine Ok.of_run (F := mk Tryz.f63 0) Tryz.func63 rfl rfl tabOk mixed rfl rfl rfl rfl rfl (Nat.le_of_ble_eq_true rfl) (Nat.le_of_ble_eq_true rfl) (.go 5000 ?_)
  repeat' (conv => arg 4; whnf); first | refine Run.ret ⟨?_, rfl⟩ | refine Run.condT ?_ | refine Run.condf ?_ | refine Run.condD (fun h => ?_) (fun h => ?_) | refine Run.condN (fun h => ?_) (fun h => ?_) | refine Run.condE (fun h => ?_) (fun h => ?_) | refine Run.condF (fun h => ?_) (fun h => ?_) | refine Run.condM (fun h => ?_) (fun h => ?_) | refine Run.condB (fun h => ?_) (fun h => ?_) | refine Run.check1 ?_
  all_goals (refine congrArg (fun n => V.one (.int .i64 n)) ?_; simp only [gap, wrap64, *]; (repeat' split) <;> first | omega | simp_all)
theorem wfits_ok (l : List Mv) (t : List Int) (hm : MovesOk l) (hlen : t.length = l.length) (hw : TkWf t) : Ok P 17 [.one (.lst .mv l false), .one (.lst (.int .i64) t false)] [] (.one (.bool (decide (Fits l t)))) [] := by
  have h6 := hm.1
  have hwk : ∀ i, i < l.length → 1 ≤ (at' l i).f2 ∧ (at' l i).f2 ≤ 3 := fun i hi => by
    have := mvOk_range (hm.2 i hi).1
    exact ⟨this.2.2.1, this.2.2.2.1⟩
  refine Ok.of_run (F := mk Tryz.f17 0) Tryz.func17 rfl rfl tabOk mixed rfl rfl rfl rfl rfl (Nat.le_of_ble_eq_true rfl) (Nat.le_of_ble_eq_true rfl) (.go 5000 ?_)
  have outer : ∀ (d i : Nat) (z : Int), z = i → i + d = l.length → (∀ j, j < i → FitsAt l t j) → Run P (mk Tryz.f17 0) (fun v st => v = .one (.bool (decide (Fits l t))) ∧ st = []) (.loop ⟨[(0, .one (.lst .mv l false)), (1, .one (.lst (.int .i64) t false)), (5, .one (.int .i64 z))], [], [.lp [0, 1, 0, 1], .blk 0, .code [1, 1]], none⟩) := by
    intro d
    induction d with
    | zero =>
      intro i z hz hd hall
      subst hz
      refine Run.loop ?_
      repeat' (conv => arg 4; whnf); first | refine Run.ret ⟨?_, rfl⟩ | refine Run.condT ?_ | refine Run.condf ?_ | refine Run.condD (fun h => ?_) (fun h => ?_) | refine Run.condN (fun h => ?_) (fun h => ?_) | refine Run.condE (fun h => ?_) (fun h => ?_) | refine Run.condF (fun h => ?_) (fun h => ?_) | refine Run.condM (fun h => ?_) (fun h => ?_) | refine Run.condB (fun h => ?_) (fun h => ?_) | refine Run.check1 ?_ | (exfalso; omega)
      all_goals first
        | (exfalso; omega)
        | exact fits_yes ⟨hm, hlen, fun j hj => hall j (by omega)⟩
    | succ d ih =>
      intro i z hz hd hall
      subst hz
      have e := fs (i := i) (by omega)
      have no : ¬ FitsAt l t i → V.one (A.bool false) = V.one (A.bool (decide (Fits l t))) := fun h => fits_no fun k => h (k.2.2 i (by omega))
      have inner : InR l t i → ∀ (c k : Nat) (z : Int), z = k → k + c = l.length → (∀ j, j < k → j ≠ i → Ap l t i j) → Run P (mk Tryz.f17 0) (fun v st => v = .one (.bool (decide (Fits l t))) ∧ st = []) (.loop ⟨[(0, .one (.lst .mv l false)), (1, .one (.lst (.int .i64) t false)), (5, .one (.int .i64 (i : Int))), (6, .one (.ptr (.t 6 0) 0)), (7, .one (.int .i64 z))], [(.t 6 0, some (.cells (encMv (rdM l i))))], [.lp [0, 1, 1, 1, 0, 0, 1, 0, 0, 1, 0, 1], .blk 2, .blk 1, .code [1, 1, 0, 0, 1, 0, 1], .lp [0, 1, 0, 1], .blk 0, .code [1, 1]], none⟩) := by
        intro hin c
        have hr := inR_range hm (by omega) hin
        induction c with
        | zero =>
          intro k z hz hc hap
          subst hz
          refine Run.loop ?_
          repeat' (conv => arg 4; whnf); first | refine Run.ret ⟨?_, rfl⟩ | refine Run.condT ?_ | refine Run.condf ?_ | refine Run.condD (fun h => ?_) (fun h => ?_) | refine Run.condN (fun h => ?_) (fun h => ?_) | refine Run.condE (fun h => ?_) (fun h => ?_) | refine Run.condF (fun h => ?_) (fun h => ?_) | refine Run.condM (fun h => ?_) (fun h => ?_) | refine Run.condB (fun h => ?_) (fun h => ?_) | refine Run.check1 ?_ | (exfalso; omega) | refine Run.round ⟨[], [], []⟩ (ih (i + 1) _ e.h (by omega) ?_) rfl (by (repeat' (first | exact wkEnv_nil | refine wkEnv_cons rfl ?_ | exact wkSto_nil | refine wkSto_none ?_ | refine wkSto_some rfl ?_)); done) (by (repeat' (first | exact wkEnv_nil | refine wkEnv_cons rfl ?_ | exact wkSto_nil | refine wkSto_none ?_ | refine wkSto_some rfl ?_)); done)
          all_goals first
            | (exfalso; omega)
            | (intro j hj; rcases Nat.lt_or_ge j i with h1 | h1
               · exact hall j h1
               · obtain rfl : j = i := by omega
                 exact ⟨hin, fun q hq => hap q (by omega)⟩)
        | succ c ihc =>
          intro k z hz hc hap
          subst hz
          have e2 := fs (i := k) (by omega)
          have hA : Ap l t i k ↔ (rd t i ≠ rd t k ∧ (rd t i < rd t k → gap (rdM l i) (rdM l k) ≤ rd t k - rd t i)) := by
            simp only [rdM_nat, rd_nat, Ap]
          have hw1 : 1 ≤ (rdM l i).f2 ∧ (rdM l i).f2 ≤ 3 := by rw [rdM_nat]; exact hwk i (by omega)
          have hw2 : 1 ≤ (rdM l k).f2 ∧ (rdM l k).f2 ≤ 3 := by rw [rdM_nat]; exact hwk k (by omega)
          have hg := gap_range (rdM l i) (rdM l k)
          have hr2 : 0 ≤ rd t i ∧ rd t i ≤ 10000 := by rw [rd_nat]; exact hr
          have e3 := fw (x := rd t i + gap (rdM l i) (rdM l k)) (by omega)
          refine Run.loop ?_
          repeat' (conv => arg 4; whnf); first | refine Run.ret ⟨?_, rfl⟩ | refine Run.condT ?_ | refine Run.condf ?_ | refine Run.condD (fun h => ?_) (fun h => ?_) | refine Run.condN (fun h => ?_) (fun h => ?_) | refine Run.condE (fun h => ?_) (fun h => ?_) | refine Run.condF (fun h => ?_) (fun h => ?_) | refine Run.condM (fun h => ?_) (fun h => ?_) | refine Run.condB (fun h => ?_) (fun h => ?_) | refine Run.check1 ?_ | (exfalso; omega) | refine Run.call (wgap_ok _ _ hw1 hw2) rfl ?_ | refine Run.need1 (by simp only [allP, true_and, and_true]; omega) ?_ | refine Run.round ⟨[(.t 6 0, .t 6 0)], [], []⟩ (ihc (k + 1) _ e2.h (by omega) ?_) rfl (by (repeat' (first | exact wkEnv_nil | refine wkEnv_cons rfl ?_ | exact wkSto_nil | refine wkSto_none ?_ | refine wkSto_some rfl ?_)); done) (by (repeat' (first | exact wkEnv_nil | refine wkEnv_cons rfl ?_ | exact wkSto_nil | refine wkSto_none ?_ | refine wkSto_some rfl ?_)); done)
          all_goals clear ih ihc
          all_goals (try simp only [e3.h] at *)
          all_goals first
            | (exfalso; omega)
            | (refine no fun q => ?_; have a := hA.1 (q.2 k (by omega) (by omega)); omega)
            | (intro j hj hne; rcases Nat.lt_or_ge j k with h1 | h1
               · exact hap j h1 hne
               · obtain rfl : j = k := by omega
                 exact hA.2 (by omega))
            | (intro j hj hne; exact hap j (by omega) hne)
            | trace_state
      have hI : InR l t i ↔ (((rdM l i).f3 ≤ rd t i ∧ rd t i ≤ (rdM l i).f4) ∧ (0 ≤ (rdM l i).f5 → rd t i = (rdM l i).f5)) := by
        simp only [rdM_nat, rd_nat, InR]
      refine Run.loop ?_
      repeat' (conv => arg 4; whnf); first | refine Run.ret ⟨?_, rfl⟩ | refine Run.condT ?_ | refine Run.condf ?_ | refine Run.condD (fun h => ?_) (fun h => ?_) | refine Run.condN (fun h => ?_) (fun h => ?_) | refine Run.condE (fun h => ?_) (fun h => ?_) | refine Run.condF (fun h => ?_) (fun h => ?_) | refine Run.condM (fun h => ?_) (fun h => ?_) | refine Run.condB (fun h => ?_) (fun h => ?_) | refine Run.check1 ?_ | refine Run.need1 (by simp only [allP, true_and, and_true]; omega) ?_ | refine Run.round ⟨[(.t 6 0, .t 6 0)], [], []⟩ (inner ?_ l.length 0 _ rfl ?_ ?_) rfl (by (repeat' (first | exact wkEnv_nil | refine wkEnv_cons rfl ?_ | exact wkSto_nil | refine wkSto_none ?_ | refine wkSto_some rfl ?_)); done) (by (repeat' (first | exact wkEnv_nil | refine wkEnv_cons rfl ?_ | exact wkSto_nil | refine wkSto_none ?_ | refine wkSto_some rfl ?_)); done) | (exfalso; omega)
      all_goals clear ih inner
      all_goals first
        | (exfalso; omega)
        | omega
        | (refine no fun q => ?_; have a := hI.1 q.1; omega)
        | exact hI.2 (by omega)
        | (intro j hj; omega)
        | trace_state
  repeat' (conv => arg 4; whnf); first | refine Run.ret ⟨?_, rfl⟩ | refine Run.condT ?_ | refine Run.condf ?_ | refine Run.condD (fun h => ?_) (fun h => ?_) | refine Run.condN (fun h => ?_) (fun h => ?_) | refine Run.condE (fun h => ?_) (fun h => ?_) | refine Run.condF (fun h => ?_) (fun h => ?_) | refine Run.condM (fun h => ?_) (fun h => ?_) | refine Run.condB (fun h => ?_) (fun h => ?_) | refine Run.check1 ?_ | refine Run.round ⟨[], [], []⟩ (outer l.length 0 _ rfl (by omega) ?_) rfl (by (repeat' (first | exact wkEnv_nil | refine wkEnv_cons rfl ?_ | exact wkSto_nil | refine wkSto_none ?_ | refine wkSto_some rfl ?_)); done) (by (repeat' (first | exact wkEnv_nil | refine wkEnv_cons rfl ?_ | exact wkSto_nil | refine wkSto_none ?_ | refine wkSto_some rfl ?_)); done)
  all_goals (intro j hj; omega)
end Go.Proofs.YtmppoajepbbmiaaGreat.AM

/- The laws' own words on books; condition: what they ask holds. -/
namespace Go.Proofs.YtmppoajepbbmiaaGreat.AM
open Go.AM Go.RowKit
set_option linter.unusedVariables false
set_option linter.unusedSimpArgs false
set_option maxRecDepth 100000

theorem wmoves_ok (t : List Mv) (ht : t.length ≤ 1048576) : Ok P 59 [.one (.lst .mv t false), .one (.lst .mv t false)] [] (.one (.bool true)) [] := by
  refine Ok.of_run (F := mk Tryz.f59 0) Tryz.func59 rfl rfl tabOk mixed rfl rfl rfl rfl rfl (Nat.le_of_ble_eq_true rfl) (Nat.le_of_ble_eq_true rfl) (.go 5000 ?_)
  have loop : ∀ (d i : Nat) (z : Int), z = i → i + d = t.length → Run P (mk Tryz.f59 0) (fun v st => v = .one (.bool true) ∧ st = []) (.loop ⟨[(0, .one (.lst .mv t false)), (1, .one (.lst .mv t false)), (5, .one (.int .i64 z))], [], [.lp [0, 1, 0, 1, 1], .blk 0, .code [1, 1, 1]], none⟩) := by
    intro d
    induction d with
    | zero =>
      intro i z hz hd
      subst hz
      refine Run.loop ?_
      repeat' (conv => arg 4; whnf); first | refine Run.ret ⟨?_, rfl⟩ | refine Run.condT ?_ | refine Run.condf ?_ | refine Run.condD (fun h => ?_) (fun h => ?_) | refine Run.condN (fun h => ?_) (fun h => ?_) | refine Run.condE (fun h => ?_) (fun h => ?_) | refine Run.condF (fun h => ?_) (fun h => ?_) | refine Run.condM (fun h => ?_) (fun h => ?_) | refine Run.condB (fun h => ?_) (fun h => ?_) | refine Run.check1 ?_ | (exfalso; omega)
      all_goals first | rfl | (exfalso; omega)
    | succ d ih =>
      intro i z hz hd
      subst hz
      have e := fs (i := i) (by omega)
      refine Run.loop ?_
      repeat' (conv => arg 4; whnf); first | refine Run.ret ⟨?_, rfl⟩ | refine Run.condT ?_ | refine Run.condf ?_ | refine Run.condD (fun h => ?_) (fun h => ?_) | refine Run.condN (fun h => ?_) (fun h => ?_) | refine Run.condE (fun h => ?_) (fun h => ?_) | refine Run.condF (fun h => ?_) (fun h => ?_) | refine Run.condM (fun h => ?_) (fun h => ?_) | refine Run.condB (fun h => ?_) (fun h => ?_) | refine Run.check1 ?_ | refine Run.need1 (by simp only [allP, true_and, and_true]; omega) ?_ | refine Run.round ⟨[], [], []⟩ (ih (i + 1) _ e.h (by omega)) rfl (by (repeat' (first | exact wkEnv_nil | refine wkEnv_cons rfl ?_ | exact wkSto_nil | refine wkSto_none ?_ | refine wkSto_some rfl ?_)); done) (by (repeat' (first | exact wkEnv_nil | refine wkEnv_cons rfl ?_ | exact wkSto_nil | refine wkSto_none ?_ | refine wkSto_some rfl ?_)); done) | (exfalso; omega)
      all_goals first | (exfalso; omega) | (exfalso; simp [beq_toListBytes] at *; done) | trace_state
  repeat' (conv => arg 4; whnf); first | refine Run.ret ⟨?_, rfl⟩ | refine Run.condT ?_ | refine Run.condf ?_ | refine Run.condD (fun h => ?_) (fun h => ?_) | refine Run.condN (fun h => ?_) (fun h => ?_) | refine Run.condE (fun h => ?_) (fun h => ?_) | refine Run.condF (fun h => ?_) (fun h => ?_) | refine Run.condM (fun h => ?_) (fun h => ?_) | refine Run.condB (fun h => ?_) (fun h => ?_) | refine Run.check1 ?_ | refine Run.round ⟨[], [], []⟩ (loop t.length 0 _ rfl (by omega)) rfl (by (repeat' (first | exact wkEnv_nil | refine wkEnv_cons rfl ?_ | exact wkSto_nil | refine wkSto_none ?_ | refine wkSto_some rfl ?_)); done) (by (repeat' (first | exact wkEnv_nil | refine wkEnv_cons rfl ?_ | exact wkSto_nil | refine wkSto_none ?_ | refine wkSto_some rfl ?_)); done)
  all_goals (exfalso; omega)
theorem wtexts_ok (t : List ByteArray) (ht : t.length ≤ 1048576) : Ok P 27 [.one (.lst .str t false), .one (.lst .str t false)] [] (.one (.bool true)) [] := by
  refine Ok.of_run (F := mk Tryz.f27 0) Tryz.func27 rfl rfl tabOk mixed rfl rfl rfl rfl rfl (Nat.le_of_ble_eq_true rfl) (Nat.le_of_ble_eq_true rfl) (.go 5000 ?_)
  have loop : ∀ (d i : Nat) (z : Int), z = i → i + d = t.length → Run P (mk Tryz.f27 0) (fun v st => v = .one (.bool true) ∧ st = []) (.loop ⟨[(0, .one (.lst .str t false)), (1, .one (.lst .str t false)), (5, .one (.int .i64 z))], [], [.lp [0, 1, 0, 1, 1], .blk 0, .code [1, 1, 1]], none⟩) := by
    intro d
    induction d with
    | zero =>
      intro i z hz hd
      subst hz
      refine Run.loop ?_
      repeat' (conv => arg 4; whnf); first | refine Run.ret ⟨?_, rfl⟩ | refine Run.condT ?_ | refine Run.condf ?_ | refine Run.condD (fun h => ?_) (fun h => ?_) | refine Run.condN (fun h => ?_) (fun h => ?_) | refine Run.condE (fun h => ?_) (fun h => ?_) | refine Run.condF (fun h => ?_) (fun h => ?_) | refine Run.condM (fun h => ?_) (fun h => ?_) | refine Run.condB (fun h => ?_) (fun h => ?_) | refine Run.check1 ?_ | (exfalso; omega)
      all_goals first | rfl | (exfalso; omega)
    | succ d ih =>
      intro i z hz hd
      subst hz
      have e := fs (i := i) (by omega)
      refine Run.loop ?_
      repeat' (conv => arg 4; whnf); first | refine Run.ret ⟨?_, rfl⟩ | refine Run.condT ?_ | refine Run.condf ?_ | refine Run.condD (fun h => ?_) (fun h => ?_) | refine Run.condN (fun h => ?_) (fun h => ?_) | refine Run.condE (fun h => ?_) (fun h => ?_) | refine Run.condF (fun h => ?_) (fun h => ?_) | refine Run.condM (fun h => ?_) (fun h => ?_) | refine Run.condB (fun h => ?_) (fun h => ?_) | refine Run.check1 ?_ | refine Run.need1 (by simp only [allP, true_and, and_true]; omega) ?_ | refine Run.round ⟨[], [], []⟩ (ih (i + 1) _ e.h (by omega)) rfl (by (repeat' (first | exact wkEnv_nil | refine wkEnv_cons rfl ?_ | exact wkSto_nil | refine wkSto_none ?_ | refine wkSto_some rfl ?_)); done) (by (repeat' (first | exact wkEnv_nil | refine wkEnv_cons rfl ?_ | exact wkSto_nil | refine wkSto_none ?_ | refine wkSto_some rfl ?_)); done) | (exfalso; omega)
      all_goals first | (exfalso; omega) | (exfalso; simp [beq_toListBytes] at *; done) | trace_state
  repeat' (conv => arg 4; whnf); first | refine Run.ret ⟨?_, rfl⟩ | refine Run.condT ?_ | refine Run.condf ?_ | refine Run.condD (fun h => ?_) (fun h => ?_) | refine Run.condN (fun h => ?_) (fun h => ?_) | refine Run.condE (fun h => ?_) (fun h => ?_) | refine Run.condF (fun h => ?_) (fun h => ?_) | refine Run.condM (fun h => ?_) (fun h => ?_) | refine Run.condB (fun h => ?_) (fun h => ?_) | refine Run.check1 ?_ | refine Run.round ⟨[], [], []⟩ (loop t.length 0 _ rfl (by omega)) rfl (by (repeat' (first | exact wkEnv_nil | refine wkEnv_cons rfl ?_ | exact wkSto_nil | refine wkSto_none ?_ | refine wkSto_some rfl ?_)); done) (by (repeat' (first | exact wkEnv_nil | refine wkEnv_cons rfl ?_ | exact wkSto_nil | refine wkSto_none ?_ | refine wkSto_some rfl ?_)); done)
  all_goals (exfalso; omega)
theorem wbook_ok (b : Bk) (hl : b.ms.length ≤ 1048576) (ht : b.ts.length ≤ 1048576) : Ok P 15 [b.lent, b.lent] [] (.one (.bool true)) [] := by
  refine Ok.of_run (F := mk Tryz.f15 0) Tryz.func15 rfl rfl tabOk mixed rfl rfl rfl rfl rfl (Nat.le_of_ble_eq_true rfl) (Nat.le_of_ble_eq_true rfl) (.go 5000 ?_)
  repeat' (conv => arg 4; whnf); first | refine Run.ret ⟨?_, rfl⟩ | refine Run.condT ?_ | refine Run.condf ?_ | refine Run.condD (fun h => ?_) (fun h => ?_) | refine Run.condN (fun h => ?_) (fun h => ?_) | refine Run.condE (fun h => ?_) (fun h => ?_) | refine Run.condF (fun h => ?_) (fun h => ?_) | refine Run.condM (fun h => ?_) (fun h => ?_) | refine Run.condB (fun h => ?_) (fun h => ?_) | refine Run.check1 ?_ | refine Run.call (wmoves_ok _ hl) rfl ?_ | refine Run.call (wints_ok _ ht) rfl ?_
  all_goals first | rfl | contradiction | trace_state
theorem wtick_ok (b : Bk) (s : ByteArray) (hm : MovesOk b.ms) (hl : b.ts.length = b.ms.length) : Ok P 25 [b.lent, .one (.str s)] [] (.one (.int .i64 (wtk b s))) [] := by
  have h6 := hm.1
  refine Ok.of_run (F := mk Tryz.f25 0) Tryz.func25 rfl rfl tabOk mixed rfl rfl rfl rfl rfl (Nat.le_of_ble_eq_true rfl) (Nat.le_of_ble_eq_true rfl) (.go 5000 ?_)
  have loop : ∀ (d i : Nat) (z : Int), z = i → i + d = b.ms.length → (∀ j, j < i → (at' b.ms j).f0 ≠ s) → Run P (mk Tryz.f25 0) (fun v st => v = .one (.int .i64 (wtk b s)) ∧ st = [])
      (.loop ⟨[(1, .one (.str s)), (2, .one (.ptr (.t 2 0) 0)), (5, .one (.int .i64 z))], [(.t 2 0, some (.cells b.lent.atoms))], [.lp [0, 1, 0, 1], .blk 0, .code [1, 1]], none⟩) := by
    intro d
    induction d with
    | zero =>
      intro i z hz hd hall
      subst hz
      have hw : wtk b s = -1 := by
        rcases wtk_cases (b := b) s with ⟨h, _⟩ | ⟨j, h1, h2, _⟩
        · exact h
        · exact absurd h2 (hall j (by omega))
      rw [hw]
      refine Run.loop ?_
      repeat' (conv => arg 4; whnf); first | refine Run.ret ⟨?_, rfl⟩ | refine Run.condT ?_ | refine Run.condf ?_ | refine Run.condD (fun h => ?_) (fun h => ?_) | refine Run.condN (fun h => ?_) (fun h => ?_) | refine Run.condE (fun h => ?_) (fun h => ?_) | refine Run.condF (fun h => ?_) (fun h => ?_) | refine Run.condM (fun h => ?_) (fun h => ?_) | refine Run.condB (fun h => ?_) (fun h => ?_) | refine Run.check1 ?_ | (exfalso; omega)
      all_goals first | rfl | (exfalso; omega) | trace_state
    | succ d ih =>
      intro i z hz hd hall
      subst hz
      have hi : i < b.ms.length := by omega
      have e := fs (i := i) (by omega)
      have hy : (rdM b.ms (i : Int)).f0.toList = s.toList → rd b.ts i = wtk b s := fun h => by
        rw [rdM_nat] at h
        rw [← toList_inj h, wtk_at hm hi, rd_nat]
      have hn : (rdM b.ms (i : Int)).f0.toList ≠ s.toList → ∀ j, j < i + 1 → (at' b.ms j).f0 ≠ s := fun h j hj q => by
        by_cases e : j = i
        · subst e; rw [rdM_nat] at h; exact h (by rw [q])
        · exact hall j (by omega) q
      refine Run.loop ?_
      repeat' (conv => arg 4; whnf); first | refine Run.ret ⟨?_, rfl⟩ | refine Run.condT ?_ | refine Run.condf ?_ | refine Run.condD (fun h => ?_) (fun h => ?_) | refine Run.condN (fun h => ?_) (fun h => ?_) | refine Run.condE (fun h => ?_) (fun h => ?_) | refine Run.condF (fun h => ?_) (fun h => ?_) | refine Run.condM (fun h => ?_) (fun h => ?_) | refine Run.condB (fun h => ?_) (fun h => ?_) | refine Run.check1 ?_ | (exfalso; omega) | refine Run.need1 (by simp only [allP, true_and, and_true]; omega) ?_ | refine Run.round ⟨[(.t 2 0, .t 2 0)], [], []⟩ (ih (i + 1) _ e.h (by omega) (hn ?_)) rfl (by (repeat' (first | exact wkEnv_nil | refine wkEnv_cons rfl ?_ | exact wkSto_nil | refine wkSto_none ?_ | refine wkSto_some rfl ?_)); done) (by (repeat' (first | exact wkEnv_nil | refine wkEnv_cons rfl ?_ | exact wkSto_nil | refine wkSto_none ?_ | refine wkSto_some rfl ?_)); done)
      all_goals clear ih
      all_goals first
        | (exfalso; omega)
        | exact vi (hy (eq_of_beq (by assumption)))
        | exact ne_of_beq_false (by assumption)
        | trace_state
  repeat' (conv => arg 4; whnf); first | refine Run.ret ⟨?_, rfl⟩ | refine Run.condT ?_ | refine Run.condf ?_ | refine Run.condD (fun h => ?_) (fun h => ?_) | refine Run.condN (fun h => ?_) (fun h => ?_) | refine Run.condE (fun h => ?_) (fun h => ?_) | refine Run.condF (fun h => ?_) (fun h => ?_) | refine Run.condM (fun h => ?_) (fun h => ?_) | refine Run.condB (fun h => ?_) (fun h => ?_) | refine Run.check1 ?_ | refine Run.round ⟨[(.t 2 0, .t 2 0)], [], []⟩ (loop b.ms.length 0 _ rfl (by omega) (fun j hj => absurd hj (by omega))) rfl (by (repeat' (first | exact wkEnv_nil | refine wkEnv_cons rfl ?_ | exact wkSto_nil | refine wkSto_none ?_ | refine wkSto_some rfl ?_)); done) (by (repeat' (first | exact wkEnv_nil | refine wkEnv_cons rfl ?_ | exact wkSto_nil | refine wkSto_none ?_ | refine wkSto_some rfl ?_)); done)
  all_goals trace_state
theorem wprombut_ok (a b : Bk) (s : ByteArray) (hma : a.ms.length ≤ 1048576) (hm : MovesOk b.ms) (hl : b.ts.length = b.ms.length) (hp : PromB a b s) : Ok P 21 [a.lent, b.lent, .one (.str s)] [] (.one (.bool true)) [] := by
  have hwt := fun n => wtick_ok b n hm hl
  refine Ok.of_run (F := mk Tryz.f21 0) Tryz.func21 rfl rfl tabOk mixed rfl rfl rfl rfl rfl (Nat.le_of_ble_eq_true rfl) (Nat.le_of_ble_eq_true rfl) (.go 5000 ?_)
  have loop : ∀ (d i : Nat) (z : Int), z = i → i + d = a.ms.length → Run P (mk Tryz.f21 0) (fun v st => v = .one (.bool true) ∧ st = [])
      (.loop ⟨[(2, .one (.str s)), (3, .one (.ptr (.t 3 0) 0)), (4, .one (.ptr (.t 4 0) 0)), (7, .one (.int .i64 z))], [(.t 3 0, some (.cells a.lent.atoms)), (.t 4 0, some (.cells b.lent.atoms))], [.lp [0, 1, 0, 1], .blk 0, .code [1, 1]], none⟩) := by
    intro d
    induction d with
    | zero =>
      intro i z hz hd
      subst hz
      refine Run.loop ?_
      repeat' (conv => arg 4; whnf); first | refine Run.ret ⟨?_, rfl⟩ | refine Run.condT ?_ | refine Run.condf ?_ | refine Run.condD (fun h => ?_) (fun h => ?_) | refine Run.condN (fun h => ?_) (fun h => ?_) | refine Run.condE (fun h => ?_) (fun h => ?_) | refine Run.condF (fun h => ?_) (fun h => ?_) | refine Run.condM (fun h => ?_) (fun h => ?_) | refine Run.condB (fun h => ?_) (fun h => ?_) | refine Run.check1 ?_ | (exfalso; omega)
      all_goals first | rfl | (exfalso; omega) | trace_state
    | succ d ih =>
      intro i z hz hd
      subst hz
      have hi : i < a.ms.length := by omega
      have e := fs (i := i) (by omega)
      have hpi := hp i hi
      rw [← rdM_nat] at hpi
      refine Run.loop ?_
      repeat' (conv => arg 4; whnf); first | refine Run.ret ⟨?_, rfl⟩ | refine Run.condT ?_ | refine Run.condf ?_ | refine Run.condD (fun h => ?_) (fun h => ?_) | refine Run.condN (fun h => ?_) (fun h => ?_) | refine Run.condE (fun h => ?_) (fun h => ?_) | refine Run.condF (fun h => ?_) (fun h => ?_) | refine Run.condM (fun h => ?_) (fun h => ?_) | refine Run.condB (fun h => ?_) (fun h => ?_) | refine Run.check1 ?_ | (exfalso; omega) | refine Run.need1 (by simp only [allP, true_and, and_true]; omega) ?_ | refine Run.call (hwt _) rfl ?_ | refine Run.round ⟨[(.t 3 0, .t 3 0), (.t 4 0, .t 4 0)], [], []⟩ (ih (i + 1) _ e.h (by omega)) rfl (by (repeat' (first | exact wkEnv_nil | refine wkEnv_cons rfl ?_ | exact wkSto_nil | refine wkSto_none ?_ | refine wkSto_some rfl ?_)); done) (by (repeat' (first | exact wkEnv_nil | refine wkEnv_cons rfl ?_ | exact wkSto_nil | refine wkSto_none ?_ | refine wkSto_some rfl ?_)); done)
      all_goals clear ih
      all_goals first
        | (exfalso; omega)
        | (exfalso; exact absurd (hpi (fun q => absurd (congrArg ByteArray.toList q) (ne_of_beq_false (by assumption))) (by assumption) (by assumption)) (by assumption))
        | trace_state
  repeat' (conv => arg 4; whnf); first | refine Run.ret ⟨?_, rfl⟩ | refine Run.condT ?_ | refine Run.condf ?_ | refine Run.condD (fun h => ?_) (fun h => ?_) | refine Run.condN (fun h => ?_) (fun h => ?_) | refine Run.condE (fun h => ?_) (fun h => ?_) | refine Run.condF (fun h => ?_) (fun h => ?_) | refine Run.condM (fun h => ?_) (fun h => ?_) | refine Run.condB (fun h => ?_) (fun h => ?_) | refine Run.check1 ?_ | refine Run.round ⟨[(.t 3 0, .t 3 0), (.t 4 0, .t 4 0)], [], []⟩ (loop a.ms.length 0 _ rfl (by omega)) rfl (by (repeat' (first | exact wkEnv_nil | refine wkEnv_cons rfl ?_ | exact wkSto_nil | refine wkSto_none ?_ | refine wkSto_some rfl ?_)); done) (by (repeat' (first | exact wkEnv_nil | refine wkEnv_cons rfl ?_ | exact wkSto_nil | refine wkSto_none ?_ | refine wkSto_some rfl ?_)); done)
  all_goals trace_state
theorem wpromised_ok (a b : Bk) (hma : a.ms.length ≤ 1048576) (hm : MovesOk b.ms) (hl : b.ts.length = b.ms.length) (hp : PromB a b ByteArray.empty) : Ok P 19 [a.lent, b.lent] [] (.one (.bool true)) [] := by
  refine Ok.of_run (F := mk Tryz.f19 0) Tryz.func19 rfl rfl tabOk mixed rfl rfl rfl rfl rfl (Nat.le_of_ble_eq_true rfl) (Nat.le_of_ble_eq_true rfl) (.go 5000 ?_)
  repeat' (conv => arg 4; whnf); first | refine Run.ret ⟨?_, rfl⟩ | refine Run.condT ?_ | refine Run.condf ?_ | refine Run.condD (fun h => ?_) (fun h => ?_) | refine Run.condN (fun h => ?_) (fun h => ?_) | refine Run.condE (fun h => ?_) (fun h => ?_) | refine Run.condF (fun h => ?_) (fun h => ?_) | refine Run.condM (fun h => ?_) (fun h => ?_) | refine Run.condB (fun h => ?_) (fun h => ?_) | refine Run.check1 ?_ | refine Run.call (wprombut_ok a b _ hma hm hl hp) rfl ?_
  all_goals first | rfl | trace_state
theorem wnolater_ok (a b : Bk) (hma : b.ms.length ≤ 1048576) (hlb : b.ts.length = b.ms.length) (hm : MovesOk a.ms) (hl : a.ts.length = a.ms.length) (hp : NoLtB a b) : Ok P 12 [a.lent, b.lent] [] (.one (.bool true)) [] := by
  have hwt := fun n => wtick_ok a n hm hl
  refine Ok.of_run (F := mk Tryz.f12 0) Tryz.func12 rfl rfl tabOk mixed rfl rfl rfl rfl rfl (Nat.le_of_ble_eq_true rfl) (Nat.le_of_ble_eq_true rfl) (.go 5000 ?_)
  have loop : ∀ (d i : Nat) (z : Int), z = i → i + d = b.ms.length → Run P (mk Tryz.f12 0) (fun v st => v = .one (.bool true) ∧ st = [])
      (.loop ⟨[(2, .one (.ptr (.t 2 0) 0)), (3, .one (.ptr (.t 3 0) 0)), (5, .one (.int .i64 z))], [(.t 2 0, some (.cells a.lent.atoms)), (.t 3 0, some (.cells b.lent.atoms))], [.lp [0, 1, 0, 1], .blk 0, .code [1, 1]], none⟩) := by
    intro d
    induction d with
    | zero =>
      intro i z hz hd
      subst hz
      refine Run.loop ?_
      repeat' (conv => arg 4; whnf); first | refine Run.ret ⟨?_, rfl⟩ | refine Run.condT ?_ | refine Run.condf ?_ | refine Run.condD (fun h => ?_) (fun h => ?_) | refine Run.condN (fun h => ?_) (fun h => ?_) | refine Run.condE (fun h => ?_) (fun h => ?_) | refine Run.condF (fun h => ?_) (fun h => ?_) | refine Run.condM (fun h => ?_) (fun h => ?_) | refine Run.condB (fun h => ?_) (fun h => ?_) | refine Run.check1 ?_ | (exfalso; omega)
      all_goals first | rfl | (exfalso; omega) | trace_state
    | succ d ih =>
      intro i z hz hd
      subst hz
      have hi : i < b.ms.length := by omega
      have e := fs (i := i) (by omega)
      have hpi := hp i hi
      rw [← rdM_nat, ← rd_nat] at hpi
      refine Run.loop ?_
      repeat' (conv => arg 4; whnf); first | refine Run.ret ⟨?_, rfl⟩ | refine Run.condT ?_ | refine Run.condf ?_ | refine Run.condD (fun h => ?_) (fun h => ?_) | refine Run.condN (fun h => ?_) (fun h => ?_) | refine Run.condE (fun h => ?_) (fun h => ?_) | refine Run.condF (fun h => ?_) (fun h => ?_) | refine Run.condM (fun h => ?_) (fun h => ?_) | refine Run.condB (fun h => ?_) (fun h => ?_) | refine Run.check1 ?_ | (exfalso; omega) | refine Run.need1 (by simp only [allP, true_and, and_true]; omega) ?_ | refine Run.call (hwt _) rfl ?_ | refine Run.round ⟨[(.t 2 0, .t 2 0), (.t 3 0, .t 3 0)], [], []⟩ (ih (i + 1) _ e.h (by omega)) rfl (by (repeat' (first | exact wkEnv_nil | refine wkEnv_cons rfl ?_ | exact wkSto_nil | refine wkSto_none ?_ | refine wkSto_some rfl ?_)); done) (by (repeat' (first | exact wkEnv_nil | refine wkEnv_cons rfl ?_ | exact wkSto_nil | refine wkSto_none ?_ | refine wkSto_some rfl ?_)); done)
      all_goals clear ih
      all_goals first
        | (exfalso; omega)
        | (exfalso; have := hpi (by omega); omega)
        | trace_state
  repeat' (conv => arg 4; whnf); first | refine Run.ret ⟨?_, rfl⟩ | refine Run.condT ?_ | refine Run.condf ?_ | refine Run.condD (fun h => ?_) (fun h => ?_) | refine Run.condN (fun h => ?_) (fun h => ?_) | refine Run.condE (fun h => ?_) (fun h => ?_) | refine Run.condF (fun h => ?_) (fun h => ?_) | refine Run.condM (fun h => ?_) (fun h => ?_) | refine Run.condB (fun h => ?_) (fun h => ?_) | refine Run.check1 ?_ | refine Run.round ⟨[(.t 2 0, .t 2 0), (.t 3 0, .t 3 0)], [], []⟩ (loop b.ms.length 0 _ rfl (by omega)) rfl (by (repeat' (first | exact wkEnv_nil | refine wkEnv_cons rfl ?_ | exact wkSto_nil | refine wkSto_none ?_ | refine wkSto_some rfl ?_)); done) (by (repeat' (first | exact wkEnv_nil | refine wkEnv_cons rfl ?_ | exact wkSto_nil | refine wkSto_none ?_ | refine wkSto_some rfl ?_)); done)
  all_goals trace_state
end Go.Proofs.YtmppoajepbbmiaaGreat.AM

/- Plain facts: what the laws ask of the four ways to change a book; no condition. -/
namespace Go.AM
set_option linter.unusedVariables false
set_option linter.unusedSimpArgs false
open Go.RowKit

theorem roundR_facts (b : Bk) (n : ByteArray) : BkOk (roundR b n).1 ∧ ((roundR b n).2 = 5 → ¬ SureM b) ∧ (1 < (roundR b n).2 → (roundR b n).1 = b) ∧ ((roundR b n).2 = 0 → BkOk b ∧ PromB b (roundR b n).1 n ∧ b.now + 6 ≤ wtk (roundR b n).1 n) := by
  refine ⟨roundR_ok b n, ?_⟩
  by_cases hb : BkOk b
  · rcases roundR_cases n hb with ⟨c, h1, h2, h, h3⟩ | ⟨a, h1, h2, h3, h4, h5, h⟩
    · rw [h]
      exact ⟨h3, fun _ => rfl, fun h => absurd (show c = 0 from h) (by omega)⟩
    · rw [h]
      refine ⟨fun h => absurd (show (0 : Int) = 5 from h) (by omega), fun h => absurd (show (1 : Int) < 0 from h) (by omega), fun _ => ⟨hb, ?_, ?_⟩⟩
      · rw [← h2]; exact round_prom hb h1 h5
      · rw [← h2, ← h4]; exact round_late hb h1 h5
  · have h : roundR b n = (Bk.z, 1) := by unfold roundR; rw [if_pos hb]
    rw [h]
    exact ⟨fun h => absurd (show (1 : Int) = 5 from h) (by omega), fun h => absurd (show (1 : Int) < 1 from h) (by omega), fun h => absurd (show (1 : Int) = 0 from h) (by omega)⟩
theorem addR_facts (b : Bk) (m : Mv) : BkOk (addR b m).1 ∧ (1 < (addR b m).2 → (addR b m).1 = b) ∧ ((addR b m).2 = 0 → SureM (addR b m).1 ∧ (addR b m).1.ms.length = b.ms.length + 1 ∧ PromB b (addR b m).1 ByteArray.empty) := by
  refine ⟨addR_ok b m, ?_⟩
  by_cases hb : BkOk b
  · have hp := addR_prom m ByteArray.empty hb
    rcases addR_cases m hb with ⟨c, h1, h2, h⟩ | ⟨t, h, h2, h3, _⟩
    · rw [h]
      exact ⟨fun _ => rfl, fun h => absurd (show c = 0 from h) (by omega)⟩
    · rw [h] at hp ⊢
      exact ⟨fun h => absurd (show (1 : Int) < 0 from h) (by omega), fun _ => ⟨h2, putM_len _ _, hp⟩⟩
  · have h : addR b m = (Bk.z, 1) := by unfold addR; rw [if_pos hb]
    rw [h]
    exact ⟨fun h => absurd (show (1 : Int) < 1 from h) (by omega), fun h => absurd (show (1 : Int) = 0 from h) (by omega)⟩
theorem dropR_facts (b : Bk) (n : ByteArray) : BkOk (dropR b n).1 ∧ (1 < (dropR b n).2 → (dropR b n).1 = b) ∧ ((dropR b n).2 = 0 → BkOk b ∧ NoLtB b (dropR b n).1 ∧ (dropR b n).1.ms.length + 1 = b.ms.length ∧ (SureM b → SureM (dropR b n).1)) := by
  refine ⟨dropR_ok n, ?_⟩
  by_cases hb : BkOk b
  · have h1 := dropR_noLt n hb
    have h2 := fun h => dropR_sure (b := b) n h
    rcases dropR_codes n hb with ⟨h, h3⟩ | ⟨h, h3⟩
    · exact ⟨fun q => absurd q (by omega), fun _ => ⟨hb, h1, h3, h2⟩⟩
    · exact ⟨fun _ => h3, fun q => absurd q (by omega)⟩
  · have h : dropR b n = (Bk.z, 1) := by unfold dropR; rw [if_pos hb]
    rw [h]
    exact ⟨fun h => absurd (show (1 : Int) < 1 from h) (by omega), fun h => absurd (show (1 : Int) = 0 from h) (by omega)⟩
theorem tickR_facts (b : Bk) : BkOk (tickR b).1 ∧ (tickR b).2.1.length ≤ 1 ∧ (1 < (tickR b).2.2 → (tickR b).1 = b) ∧ ((tickR b).2.2 = 0 → BkOk b ∧ PromB b (tickR b).1 ByteArray.empty ∧ (tickR b).1.ms.length + (tickR b).2.1.length = b.ms.length ∧ (SureM b → SureM (tickR b).1)) := by
  refine ⟨tickR_ok b, ?_⟩
  by_cases hb : BkOk b
  · have h1 := tickR_prom ByteArray.empty hb
    have h2 := fun h => tickR_sure (b := b) h
    rcases tickR_codes hb with ⟨h, h3, h4⟩ | ⟨h, h3, h4⟩
    · exact ⟨h4, fun q => absurd q (by omega), fun _ => ⟨hb, h1, h3, h2⟩⟩
    · exact ⟨by rw [h4]; exact Nat.zero_le _, fun _ => h3, fun q => absurd q (by omega)⟩
  · have h : tickR b = (⟨0, 0, [], []⟩, [], 1) := by unfold tickR; rw [if_neg hb]
    rw [h]
    exact ⟨Nat.zero_le _, fun h => absurd (show (1 : Int) < 1 from h) (by omega), fun h => absurd (show (1 : Int) = 0 from h) (by omega)⟩
/-! ### Books that are sure stay so -/
theorem gen_add {b : Bk} (h : SureM b) (m : Mv) : SureM (addR b m).1 ∧ PromB b (addR b m).1 ByteArray.empty ∧ (1 < (addR b m).2 → (addR b m).1 = b) := ⟨addR_sure m h, addR_prom m _ h.1, (addR_facts b m).2.1⟩
theorem gen_drop {b : Bk} (h : SureM b) (n : ByteArray) : SureM (dropR b n).1 ∧ PromB b (dropR b n).1 ByteArray.empty ∧ (1 < (dropR b n).2 → (dropR b n).1 = b) ∧ NoLtB b (dropR b n).1 := ⟨dropR_sure n h, dropR_prom n _ h.1, (dropR_facts b n).2.1, dropR_noLt n h.1⟩
theorem gen_tick {b : Bk} (h : SureM b) : SureM (tickR b).1 ∧ PromB b (tickR b).1 ByteArray.empty ∧ (1 < (tickR b).2.2 → (tickR b).1 = b) ∧ True := ⟨tickR_sure h, tickR_prom _ h.1, (tickR_facts b).2.2.1, trivial⟩
end Go.AM

/- FnRound, walked; condition: codes of bytes. -/
namespace Go.Proofs.YtmppoajepbbmiaaGreat.AM
open Go.AM Go.RowKit
set_option linter.unusedVariables false
set_option linter.unusedSimpArgs false
set_option maxRecDepth 100000

theorem wbook2_ok (a b : Bk) (h : a = b) (hl : b.ms.length ≤ 1048576) (ht : b.ts.length ≤ 1048576) : Ok P 15 [a.lent, b.lent] [] (.one (.bool true)) [] := by
  subst h
  exact wbook_ok a hl ht
theorem bk_one {a : Bk} (h : BkOk a) : Ok P 16 [a.lent] [] (.one (.bool true)) [] := by
  have := bookOk_ok a (tkWf_l (bkD_of h).td)
  rwa [decide_eq_true h] at this
set_option maxHeartbeats 8000000 in
theorem law_FnRound (bs : List Int) (hbl : bs.length ≤ maxLen) (hbw : ∀ z ∈ bs, (Lit.int .u8 z).wf = true) (cs : List Int) (hcl : cs.length ≤ maxLen) (hcw : ∀ z ∈ cs, (Lit.int .u8 z).wf = true) : Ok P 4 [.one (.lst (.int .u8) bs false), .one (.lst (.int .u8) cs false)] [] (.one (.bool true)) [] := by
  have hb := bytes_of hbw
  have hc := bytes_of hcw
  obtain ⟨b, n, ⟨hB, hn⟩, hdraw⟩ := drawRound_ok hb
  obtain ⟨d, hD, hdt⟩ := drawTick_ok hc
  have hlb := hB.lm
  have htb := hB.lt
  have hld := hD.lm
  have htd := hD.lt
  have hwb := tkWf_l hB.td
  have hwd := tkWf_l hD.td
  have h1 := strip_round_ok b n (by omega) (by omega) hwb
  have h2 := strip_sround_ok b n (by omega) (by omega) hwb
  have h3 := sure_ok b hwb
  have h4 := ssure_ok b hwb
  have h5 := tick_ok d (by omega) (by omega) hwd
  have h6 := stick_ok d (by omega) (by omega) hwd
  have h7 := sure_ok d hwd
  obtain ⟨f1, f2, f3, f4⟩ := roundR_facts b n
  obtain ⟨g1, g2, g3, g4⟩ := tickR_facts d
  generalize roundR b n = rr at *
  generalize tickR d = tr at *
  obtain ⟨X, c⟩ := rr
  obtain ⟨Y, tl, e⟩ := tr
  dsimp only at *
  obtain ⟨hlX, htX⟩ := bk_lens f1
  obtain ⟨hlY, htY⟩ := bk_lens g1
  have w1 := wbook_ok X (by omega) (by omega)
  have w2 := wbook_ok Y (by omega) (by omega)
  have w3 := wtexts_ok tl (by omega)
  have w4 := fun h => wbook2_ok X b (f3 h) (by omega) (by omega)
  have w5 := bk_one f1
  have w6 := bk_one g1
  have w7 := fun h => wprombut_ok b X n (by omega) f1.2.2.1.1 htX (f4 h).2.1
  have w8 := wtick_ok X n f1.2.2.1.1 htX
  have w9 := fun h => wpromised_ok d Y (by omega) g1.2.2.1.1 htY (g4 h).2.1
  have w10 := sure_ok Y (tkWf_l (bkD_of g1).td)
  have e6 : c = 0 → Fact (wrap64 (b.now + 6) = b.now + 6) := fun h => fw (by have := (f4 h).1.1; omega)
  have elen : Fact (wrap64 ((Y.ms.length : Int) + (tl.length : Int)) = (Y.ms.length : Int) + (tl.length : Int)) := fw (by omega)
  have hlate : c = 0 → b.now + 6 ≤ wtk X n := fun h => (f4 h).2.2
  have hsum : e = 0 → Y.ms.length + tl.length = d.ms.length := fun h => (g4 h).2.2.1
  have hkeep : e = 0 → SureM d → SureM Y := fun h => (g4 h).2.2.2
  clear f4 g4 f3 g3
  refine Ok.of_run (F := mk Tryz.f4 0) Tryz.func4 rfl rfl tabOk mixed rfl rfl rfl rfl rfl (Nat.le_of_ble_eq_true rfl) (Nat.le_of_ble_eq_true rfl) (.go 5000 ?_)
  by_cases hS : SureM b
  · have f5 : c ≠ 5 := fun h => f2 h hS
    clear f2
    rw [decide_eq_true hS] at h3 h4
    repeat' (conv => arg 4; whnf); first | refine Run.ret ⟨?_, rfl⟩ | refine Run.condT ?_ | refine Run.condf ?_ | refine Run.condD (fun h => ?_) (fun h => ?_) | refine Run.condN (fun h => ?_) (fun h => ?_) | refine Run.condE (fun h => ?_) (fun h => ?_) | refine Run.condF (fun h => ?_) (fun h => ?_) | refine Run.condM (fun h => ?_) (fun h => ?_) | refine Run.condB (fun h => ?_) (fun h => ?_) | refine Run.check1 ?_ | refine Run.call (hdraw) rfl ?_ | refine Run.call (h1) rfl ?_ | refine Run.call (h2) rfl ?_ | refine Run.call (h3) rfl ?_ | refine Run.call (h4) rfl ?_ | refine Run.call (hdt) rfl ?_ | refine Run.call (h5) rfl ?_ | refine Run.call (h6) rfl ?_ | refine Run.call (h7) rfl ?_ | refine Run.call (w1) rfl ?_ | refine Run.call (w2) rfl ?_ | refine Run.call (w3) rfl ?_ | refine Run.call (w4 (by omega)) rfl ?_ | refine Run.call (w5) rfl ?_ | refine Run.call (w6) rfl ?_ | refine Run.call (w7 (by omega)) rfl ?_ | refine Run.call (w8) rfl ?_ | refine Run.call (w9 (by omega)) rfl ?_ | refine Run.call (w10) rfl ?_ | (exfalso; omega)
    all_goals first
      | rfl
      | exact absurd rfl (by assumption)
      | (exfalso; omega)
      | exact congrArg (fun q => V.one (A.bool q)) (decide_eq_true (hkeep (by omega) (by assumption)))
      | exact absurd (hkeep (by omega) (by assumption)) (by assumption)
      | (exfalso; have ew := (e6 (by assumption)).h; rw [ew] at *; omega)
      | (exfalso; have ew := (e6 (by omega)).h; simp only [ew] at *; omega)
      | (exfalso; simp only [elen.h] at *; omega)
      | (refine congrArg (fun q => V.one (A.bool q)) ?_; simp only [elen.h, beq_iff_eq]; omega)
      | trace_state
  · clear f2
    rw [decide_eq_false hS] at h3 h4
    repeat' (conv => arg 4; whnf); first | refine Run.ret ⟨?_, rfl⟩ | refine Run.condT ?_ | refine Run.condf ?_ | refine Run.condD (fun h => ?_) (fun h => ?_) | refine Run.condN (fun h => ?_) (fun h => ?_) | refine Run.condE (fun h => ?_) (fun h => ?_) | refine Run.condF (fun h => ?_) (fun h => ?_) | refine Run.condM (fun h => ?_) (fun h => ?_) | refine Run.condB (fun h => ?_) (fun h => ?_) | refine Run.check1 ?_ | refine Run.call (hdraw) rfl ?_ | refine Run.call (h1) rfl ?_ | refine Run.call (h2) rfl ?_ | refine Run.call (h3) rfl ?_ | refine Run.call (h4) rfl ?_ | refine Run.call (hdt) rfl ?_ | refine Run.call (h5) rfl ?_ | refine Run.call (h6) rfl ?_ | refine Run.call (h7) rfl ?_ | refine Run.call (w1) rfl ?_ | refine Run.call (w2) rfl ?_ | refine Run.call (w3) rfl ?_ | refine Run.call (w4 (by omega)) rfl ?_ | refine Run.call (w5) rfl ?_ | refine Run.call (w6) rfl ?_ | refine Run.call (w7 (by omega)) rfl ?_ | refine Run.call (w8) rfl ?_ | refine Run.call (w9 (by omega)) rfl ?_ | refine Run.call (w10) rfl ?_ | (exfalso; omega)
    all_goals first
      | rfl
      | exact absurd rfl (by assumption)
      | (exfalso; omega)
      | exact congrArg (fun q => V.one (A.bool q)) (decide_eq_true (hkeep (by omega) (by assumption)))
      | exact absurd (hkeep (by omega) (by assumption)) (by assumption)
      | (exfalso; have ew := (e6 (by assumption)).h; rw [ew] at *; omega)
      | (exfalso; have ew := (e6 (by omega)).h; simp only [ew] at *; omega)
      | (exfalso; simp only [elen.h] at *; omega)
      | (refine congrArg (fun q => V.one (A.bool q)) ?_; simp only [elen.h, beq_iff_eq]; omega)
      | trace_state
end Go.Proofs.YtmppoajepbbmiaaGreat.AM

/- StripAdd of the program; condition: the ticks are of 64 bits. -/
namespace Go.Proofs.YtmppoajepbbmiaaGreat.AM
open Go.AM Go.RowKit
set_option linter.unusedVariables false
set_option linter.unusedSimpArgs false
set_option maxRecDepth 100000

/-- What the sort's comparison reads: the book that is made, its moves. -/
def stA (now shift : Int) (xs : List Mv) : List (Option C) := [some (.cells [.int .i64 now, .int .i64 shift, .own (.k 1), .nil]), some (.row .mv xs)]
theorem lessA_ok (now shift : Int) (xs : List Mv) (i j : Nat) (z y : Int) (hz : z = i) (hy : y = j) (hi : i < xs.length) (hj : j < xs.length) :
    Ok P 47 [.one (.int .i64 z), .one (.int .i64 y), .one (.ptr (.k 0) 0)] (stA now shift xs) (.one (.bool (ltM (xs.getD i Mv.z) (xs.getD j Mv.z)))) (stA now shift xs) := by
  subst hz hy
  have e1 : rdM xs (i : Int) = xs.getD i Mv.z := rdM_nat xs i
  have e2 : rdM xs (j : Int) = xs.getD j Mv.z := rdM_nat xs j
  refine Ok.of_run (F := mk Tryz.f47 2) Tryz.func47 rfl rfl tabOk mixed rfl rfl rfl rfl rfl (Nat.le_of_ble_eq_true rfl) (Nat.le_of_ble_eq_true rfl) (.go 5000 ?_)
  repeat' (conv => arg 4; whnf); first | refine Run.ret ⟨?_, rfl⟩ | refine Run.condT ?_ | refine Run.condf ?_ | refine Run.condD (fun h => ?_) (fun h => ?_) | refine Run.condN (fun h => ?_) (fun h => ?_) | refine Run.condE (fun h => ?_) (fun h => ?_) | refine Run.condF (fun h => ?_) (fun h => ?_) | refine Run.condM (fun h => ?_) (fun h => ?_) | refine Run.condB (fun h => ?_) (fun h => ?_) | refine Run.check1 ?_ | refine Run.need1 (by simp only [allP, true_and, and_true]; omega) ?_
  all_goals first | (refine vb ?_; rw [← e1, ← e2]; rfl) | trace_state
/-- The sort's comparison and its exchange. -/
noncomputable def dataA : V := .agg [.fn 47 [.ptr (.k 0) 0], .fn 108 [.own (.k 1), th P 31]]
theorem insA_ok (now shift : Int) (xs : List Mv) (h2 : 2 ≤ xs.length) (h20 : xs.length ≤ 1048576) (z y : Int) (hz : z = 0) (hy : y = xs.length) : Ok P 111 [dataA, .one (.int .i64 z), .one (.int .i64 y)] (stA now shift xs) (.tup []) (stA now shift (isort ltM Mv.z xs xs.length)) := by
  subst hz hy
  have hs : Srt ltM := ltM_srt
  have w1 : Fact (wrap64 (0 + 1) = ((1 : Nat) : Int)) := ⟨(wrap_eq (by omega) (by omega)).trans (by omega)⟩
  refine Ok.of_run (F := mk Tryz.f111 2) Tryz.func111 rfl rfl tabOk mixed rfl rfl rfl rfl rfl (Nat.le_of_ble_eq_true rfl) (Nat.le_of_ble_eq_true rfl) (.go 5000 ?_)
  have outer : ∀ (d i : Nat) (z : Int) (row : List Mv), z = i → row = sortedRow ltM Mv.z xs i → (i + d = xs.length ∨ (d = 0 ∧ xs.length ≤ i)) → (xs.length ≤ i → row = isort ltM Mv.z xs xs.length) → Run P (mk Tryz.f111 2) (fun v s => v = .tup [] ∧ s = stA now shift (isort ltM Mv.z xs xs.length)) (.loop ⟨[(1, .one (.int .i64 0)), (2, .one (.int .i64 (xs.length : Int))), (3, .one (.ptr (.t 3 0) 0)), (6, .one (.int .i64 z))],
      [(.k 0, some (.cells [.int .i64 now, .int .i64 shift, .own (.k 1), .nil])), (.k 1, some (.row .mv row)), (.t 3 0, some (.cells dataA.atoms))], [.lp [0, 1, 1], .blk 0], none⟩) := by
    intro d
    induction d with
    | zero =>
      intro i z row hz hrow hd hend
      subst hz
      have hend := hend (by omega)
      subst hend
      refine Run.loop ?_
      repeat' (conv => arg 4; whnf); first | refine Run.ret ⟨?_, rfl⟩ | refine Run.condT ?_ | refine Run.condf ?_ | refine Run.condD (fun h => ?_) (fun h => ?_) | refine Run.condN (fun h => ?_) (fun h => ?_) | refine Run.condE (fun h => ?_) (fun h => ?_) | refine Run.condF (fun h => ?_) (fun h => ?_) | refine Run.condM (fun h => ?_) (fun h => ?_) | refine Run.condB (fun h => ?_) (fun h => ?_) | refine Run.check1 ?_ | (exfalso; omega)
      all_goals first | (exfalso; omega) | rfl | trace_state
    | succ d ih =>
      intro i z row hz hrow hd hend
      subst hz
      have hi : i < xs.length := by omega
      clear hend
      have e := fs (i := i) (by omega)
      have inner : ∀ (j : Nat) (z : Int) (row : List Mv), z = j → j ≤ i → row = wayRow (isort ltM Mv.z xs i) (xs.getD i Mv.z) (xs.drop (i + 1)) j → (∀ q, j ≤ q → q < i → ltM (xs.getD i Mv.z) ((isort ltM Mv.z xs i).getD q Mv.z) = true) →
          Run P (mk Tryz.f111 2) (fun v s => v = .tup [] ∧ s = stA now shift (isort ltM Mv.z xs xs.length)) (.loop ⟨[(1, .one (.int .i64 0)), (2, .one (.int .i64 (xs.length : Int))), (3, .one (.ptr (.t 3 0) 0)), (6, .one (.int .i64 (i : Int))), (7, .one (.int .i64 z))],
            [(.k 0, some (.cells [.int .i64 now, .int .i64 shift, .own (.k 1), .nil])), (.k 1, some (.row .mv row)), (.t 3 0, some (.cells dataA.atoms))], [.lp [0, 1, 0, 0, 1, 0, 0, 1, 1], .blk 2, .blk 1, .code [1, 1, 0, 0, 1, 1], .lp [0, 1, 1], .blk 0], none⟩) := by
        intro j
        induction j with
        | zero =>
          intro z row hz hji hrow hb
          subst hz
          have he := sortedRow_end hs (d := Mv.z) hi hji hb (fun h => absurd h (by omega))
          rw [← hrow] at he
          subst he
          refine Run.loop ?_
          repeat' (conv => arg 4; whnf); first | refine Run.ret ⟨?_, rfl⟩ | refine Run.condT ?_ | refine Run.condf ?_ | refine Run.condD (fun h => ?_) (fun h => ?_) | refine Run.condN (fun h => ?_) (fun h => ?_) | refine Run.condE (fun h => ?_) (fun h => ?_) | refine Run.condF (fun h => ?_) (fun h => ?_) | refine Run.condM (fun h => ?_) (fun h => ?_) | refine Run.condB (fun h => ?_) (fun h => ?_) | refine Run.check1 ?_ | (exfalso; omega) | refine Run.round ⟨[(.t 3 0, .t 3 0)], [], []⟩ (ih (i + 1) _ _ e.h rfl (by omega) ?_) rfl (by (repeat' (first | exact wkEnv_nil | refine wkEnv_cons rfl ?_ | exact wkSto_nil | refine wkSto_none ?_ | refine wkSto_some rfl ?_)); done) (by (repeat' (first | exact wkEnv_nil | refine wkEnv_cons rfl ?_ | exact wkSto_nil | refine wkSto_none ?_ | refine wkSto_some rfl ?_)); done)
          all_goals first | (exfalso; omega) | (intro h; rw [show i + 1 = xs.length by omega]; exact sortedRow_all) | trace_state
        | succ j ihj =>
          intro z row hz hji hrow hb
          have hp := wrap_pred hz (by omega)
          have hlen : row.length = xs.length := by rw [hrow]; exact (way_xs hi).length_eq
          have el : ltM (row.getD (j + 1) Mv.z) (row.getD j Mv.z) = ltM (xs.getD i Mv.z) ((isort ltM Mv.z xs i).getD j Mv.z) := by
            rw [hrow, wayRow_here (by rw [isort_len]; exact hji), wayRow_ahead (Nat.lt_succ_self j) (by rw [isort_len]; exact hji)]
          have hsw : swapL Mv.z row (j + 1) j = wayRow (isort ltM Mv.z xs i) (xs.getD i Mv.z) (xs.drop (i + 1)) j := by
            rw [hrow]; exact way_swap (by rw [isort_len]; exact hji)
          have hend : ltM (xs.getD i Mv.z) ((isort ltM Mv.z xs i).getD j Mv.z) = false → row = sortedRow ltM Mv.z xs (i + 1) := fun h => by
            rw [hrow]; exact sortedRow_end hs (d := Mv.z) hi hji hb (fun _ => h)
          refine Run.loop ?_
          repeat' (conv => arg 4; whnf); first | refine Run.ret ⟨?_, rfl⟩ | refine Run.condT ?_ | refine Run.condf ?_ | refine Run.condD (fun h => ?_) (fun h => ?_) | refine Run.condN (fun h => ?_) (fun h => ?_) | refine Run.condE (fun h => ?_) (fun h => ?_) | refine Run.condF (fun h => ?_) (fun h => ?_) | refine Run.condM (fun h => ?_) (fun h => ?_) | refine Run.condB (fun h => ?_) (fun h => ?_) | refine Run.check1 ?_ | refine Run.call (lessA_ok now shift row (j + 1) j _ _ hz hp (by omega) (by omega)) rfl ?_ | refine Run.call (swapM_ok row (j + 1) j _ _ hz hp (by omega) (by omega)) rfl ?_ | refine Run.round ⟨[(.t 3 0, .t 3 0)], [], []⟩ (ih (i + 1) _ _ e.h ?_ (by omega) ?_) rfl (by (repeat' (first | exact wkEnv_nil | refine wkEnv_cons rfl ?_ | exact wkSto_nil | refine wkSto_none ?_ | refine wkSto_some rfl ?_)); done) (by (repeat' (first | exact wkEnv_nil | refine wkEnv_cons rfl ?_ | exact wkSto_nil | refine wkSto_none ?_ | refine wkSto_some rfl ?_)); done) | refine Run.round ⟨[(.t 3 0, .t 3 0)], [], []⟩ (ihj _ _ hp (by omega) hsw ?_) rfl (by (repeat' (first | exact wkEnv_nil | refine wkEnv_cons rfl ?_ | exact wkSto_nil | refine wkSto_none ?_ | refine wkSto_some rfl ?_)); done) (by (repeat' (first | exact wkEnv_nil | refine wkEnv_cons rfl ?_ | exact wkSto_nil | refine wkSto_none ?_ | refine wkSto_some rfl ?_)); done) | (exfalso; omega)
          all_goals clear ih ihj
          all_goals (rw [el] at *)
          all_goals first
            | (exfalso; omega)
            | exact hend ‹_›
            | (intro h; rw [hend ‹_›, show i + 1 = xs.length by omega]; exact sortedRow_all)
            | (intro q hq1 hq2
               rcases Nat.lt_or_ge q (j + 1) with h | h
               · rw [show q = j by omega]; assumption
               · exact hb q h hq2)
            | trace_state
      refine Run.loop ?_
      repeat' (conv => arg 4; whnf); first | refine Run.ret ⟨?_, rfl⟩ | refine Run.condT ?_ | refine Run.condf ?_ | refine Run.condD (fun h => ?_) (fun h => ?_) | refine Run.condN (fun h => ?_) (fun h => ?_) | refine Run.condE (fun h => ?_) (fun h => ?_) | refine Run.condF (fun h => ?_) (fun h => ?_) | refine Run.condM (fun h => ?_) (fun h => ?_) | refine Run.condB (fun h => ?_) (fun h => ?_) | refine Run.check1 ?_ | refine Run.round ⟨[(.t 3 0, .t 3 0)], [], []⟩ (inner i _ _ rfl (Nat.le_refl _) (hrow.trans (sortedRow_start hi)) ?_) rfl (by (repeat' (first | exact wkEnv_nil | refine wkEnv_cons rfl ?_ | exact wkSto_nil | refine wkSto_none ?_ | refine wkSto_some rfl ?_)); done) (by (repeat' (first | exact wkEnv_nil | refine wkEnv_cons rfl ?_ | exact wkSto_nil | refine wkSto_none ?_ | refine wkSto_some rfl ?_)); done) | (exfalso; omega)
      all_goals first | (intro q h1 h2; omega) | (exfalso; omega) | trace_state
  repeat' (conv => arg 4; whnf); first | refine Run.ret ⟨?_, rfl⟩ | refine Run.condT ?_ | refine Run.condf ?_ | refine Run.condD (fun h => ?_) (fun h => ?_) | refine Run.condN (fun h => ?_) (fun h => ?_) | refine Run.condE (fun h => ?_) (fun h => ?_) | refine Run.condF (fun h => ?_) (fun h => ?_) | refine Run.condM (fun h => ?_) (fun h => ?_) | refine Run.condB (fun h => ?_) (fun h => ?_) | refine Run.check1 ?_ | refine Run.round ⟨[(.t 3 0, .t 3 0)], [], []⟩ (outer (xs.length - 1) 1 _ _ w1.h ?_ ?_ ?_) rfl (by (repeat' (first | exact wkEnv_nil | refine wkEnv_cons rfl ?_ | exact wkSto_nil | refine wkSto_none ?_ | refine wkSto_some rfl ?_)); done) (by (repeat' (first | exact wkEnv_nil | refine wkEnv_cons rfl ?_ | exact wkSto_nil | refine wkSto_none ?_ | refine wkSto_some rfl ?_)); done)
  · exact (sortedRow_one (by omega)).symm
  · omega
  · intro h; omega
/-- One alone: nothing is compared. -/
theorem insA1_ok (now shift : Int) (xs : List Mv) (g : FuncId) (h1 : xs.length ≤ 1) (z y : Int) (hz : z = 0) (hy : y = xs.length) : Ok P 111 [.agg [.fn 47 [.ptr (.k 0) 0], .fn g []], .one (.int .i64 z), .one (.int .i64 y)] (stA now shift xs) (.tup []) (stA now shift xs) := by
  subst hz hy
  refine Ok.of_run (F := mk Tryz.f111 2) Tryz.func111 rfl rfl tabOk mixed rfl rfl rfl rfl rfl (Nat.le_of_ble_eq_true rfl) (Nat.le_of_ble_eq_true rfl) (.go 5000 ?_)
  have w1 : Fact (wrap64 (0 + 1) = 1) := ⟨(wrap_eq (by omega) (by omega)).trans (by omega)⟩
  conv => arg 4; whnf
  refine Run.loop ?_
  repeat' (conv => arg 4; whnf); first | refine Run.ret ⟨?_, rfl⟩ | refine Run.condT ?_ | refine Run.condf ?_ | refine Run.condD (fun h => ?_) (fun h => ?_) | refine Run.condN (fun h => ?_) (fun h => ?_) | refine Run.condE (fun h => ?_) (fun h => ?_) | refine Run.condF (fun h => ?_) (fun h => ?_) | refine Run.condM (fun h => ?_) (fun h => ?_) | refine Run.condB (fun h => ?_) (fun h => ?_) | refine Run.check1 ?_ | (exfalso; simp only [w1.h] at *; omega)
  all_goals first | rfl | (exfalso; simp only [w1.h] at *; omega) | trace_state
theorem pdqA1_ok (now shift : Int) (xs : List Mv) (g : FuncId) (h1 : xs.length ≤ 1) (y k : Int) (hy : y = xs.length) : Ok P 86 [.agg [.fn 47 [.ptr (.k 0) 0], .fn g []], .one (.int .i64 0), .one (.int .i64 y), .one (.int .i64 k)] (stA now shift xs) (.tup []) (stA now shift xs) := by
  subst hy
  have w : Fact (wrap64 ((xs.length : Int) - 0) = xs.length) := ⟨(wrap_eq (by omega) (by omega)).trans (by omega)⟩
  refine Ok.of_run (F := mk Tryz.f86 2) Tryz.func86 rfl rfl tabOk mixed rfl rfl rfl rfl rfl (Nat.le_of_ble_eq_true rfl) (Nat.le_of_ble_eq_true rfl) (.go 5000 ?_)
  conv => arg 4; whnf
  refine Run.loop ?_
  repeat' (conv => arg 4; whnf); first | refine Run.ret ⟨?_, rfl⟩ | refine Run.condT ?_ | refine Run.condf ?_ | refine Run.condD (fun h => ?_) (fun h => ?_) | refine Run.condN (fun h => ?_) (fun h => ?_) | refine Run.condE (fun h => ?_) (fun h => ?_) | refine Run.condF (fun h => ?_) (fun h => ?_) | refine Run.condM (fun h => ?_) (fun h => ?_) | refine Run.condB (fun h => ?_) (fun h => ?_) | refine Run.check1 ?_ | (exfalso; simp only [w.h] at *; omega) | refine Run.call (insA1_ok now shift xs g h1 _ _ rfl rfl) rfl ?_
  all_goals first | rfl | trace_state
theorem pdqA_ok (now shift : Int) (xs : List Mv) (h2 : 2 ≤ xs.length) (h12 : xs.length ≤ 12) (y k : Int) (hy : y = xs.length) : Ok P 86 [dataA, .one (.int .i64 0), .one (.int .i64 y), .one (.int .i64 k)] (stA now shift xs) (.tup []) (stA now shift (isort ltM Mv.z xs xs.length)) := by
  subst hy
  have w : Fact (wrap64 ((xs.length : Int) - 0) = xs.length) := ⟨(wrap_eq (by omega) (by omega)).trans (by omega)⟩
  refine Ok.of_run (F := mk Tryz.f86 2) Tryz.func86 rfl rfl tabOk mixed rfl rfl rfl rfl rfl (Nat.le_of_ble_eq_true rfl) (Nat.le_of_ble_eq_true rfl) (.go 5000 ?_)
  conv => arg 4; whnf
  refine Run.loop ?_
  repeat' (conv => arg 4; whnf); first | refine Run.ret ⟨?_, rfl⟩ | refine Run.condT ?_ | refine Run.condf ?_ | refine Run.condD (fun h => ?_) (fun h => ?_) | refine Run.condN (fun h => ?_) (fun h => ?_) | refine Run.condE (fun h => ?_) (fun h => ?_) | refine Run.condF (fun h => ?_) (fun h => ?_) | refine Run.condM (fun h => ?_) (fun h => ?_) | refine Run.condB (fun h => ?_) (fun h => ?_) | refine Run.check1 ?_ | (exfalso; simp only [w.h] at *; omega) | refine Run.call (insA_ok now shift xs h2 (by omega) _ _ rfl rfl) rfl ?_
  all_goals first | rfl | trace_state
theorem byte_ix {n : Int} {s : ByteArray} (h : 0 ≤ n ∧ n ≤ 255) (hs : s.size = 256) : 0 ≤ IntKind.u8.wrap n ∧ IntKind.u8.wrap n < (s.size : Int) := by
  have h1 : n % 2 ^ 8 = n := by omega
  have e : IntKind.u8.wrap n = n := h1
  rw [e, hs]
  omega
theorem bits_ok (n : Int) (hn : 0 ≤ n ∧ n ≤ 255) : ∃ k : Int, True ∧ Ok P 85 [.one (.int .u64 n)] [] (.one (.int .i64 k)) [] := by
  have hl : ∃ k : Int, True ∧ Ok P 110 [.one (.int .u64 n)] [] (.one (.int .i64 k)) [] := by
    refine Ok.of_ex (F := mk Tryz.f110 0) Tryz.func110 rfl rfl tabOk mixed rfl rfl rfl rfl rfl (Nat.le_of_ble_eq_true rfl) (fun _ => Nat.le_of_ble_eq_true rfl) (.go 5000 ?_)
    repeat' (conv => arg 4; whnf); first | refine Run.ret ⟨?_, rfl⟩ | refine Run.condT ?_ | refine Run.condf ?_ | refine Run.condD (fun h => ?_) (fun h => ?_) | refine Run.condN (fun h => ?_) (fun h => ?_) | refine Run.condE (fun h => ?_) (fun h => ?_) | refine Run.condF (fun h => ?_) (fun h => ?_) | refine Run.condM (fun h => ?_) (fun h => ?_) | refine Run.condB (fun h => ?_) (fun h => ?_) | refine Run.check1 ?_ | (exfalso; omega) | (refine Run.need1 (byte_ix hn (by kernel_rfl)) ?_) | (refine Run.ret ⟨_, trivial, rfl, rfl⟩)
    all_goals trace_state
  refine Ok.of_ex (F := mk Tryz.f85 0) Tryz.func85 rfl rfl tabOk mixed rfl rfl rfl rfl rfl (Nat.le_of_ble_eq_true rfl) (fun _ => Nat.le_of_ble_eq_true rfl) (.go 5000 ?_)
  repeat' (conv => arg 4; whnf); first | refine Run.ret ⟨?_, rfl⟩ | refine Run.condT ?_ | refine Run.condf ?_ | refine Run.condD (fun h => ?_) (fun h => ?_) | refine Run.condN (fun h => ?_) (fun h => ?_) | refine Run.condE (fun h => ?_) (fun h => ?_) | refine Run.condF (fun h => ?_) (fun h => ?_) | refine Run.condM (fun h => ?_) (fun h => ?_) | refine Run.condB (fun h => ?_) (fun h => ?_) | refine Run.check1 ?_ | (exfalso; omega) | refine Run.callE (hl) (fun _ => rfl) (fun x hx => ?_) | (refine Run.ret ⟨_, trivial, rfl, rfl⟩)
  all_goals trace_state
theorem isort1M (xs : List Mv) (h : xs.length ≤ 1) : isort ltM Mv.z xs xs.length = xs := by
  match xs, h with
  | [], _ => rfl
  | [x], _ => rfl
theorem sortA_ok (now shift : Int) (xs : List Mv) (h1 : 1 ≤ xs.length) (h12 : xs.length ≤ 12) : Ok P 46 [.one (.ifc 23 (.own (.k 0))), .one (.fn 47 [.ptr (.k 1) 0])] [some (.row .mv xs), some (.cells [.int .i64 now, .int .i64 shift, .own (.k 0), .nil])] (.tup [])
    [some (.row .mv (isort ltM Mv.z xs xs.length)), some (.cells [.int .i64 now, .int .i64 shift, .own (.k 0), .nil])] := by
  have hbits := bits_ok (xs.length : Int) (by omega)
  have ew : Fact ((IntKind.u64).wrap (xs.length : Int) = xs.length) := ⟨by
    have h1 : (xs.length : Int) % 2 ^ 64 = xs.length := by omega
    exact h1⟩
  rw [← ew.h] at hbits
  refine Ok.of_run (F := mk Tryz.f46 2) Tryz.func46 rfl rfl tabOk mixed rfl rfl rfl rfl rfl (Nat.le_of_ble_eq_true rfl) (Nat.le_of_ble_eq_true rfl) (.go 5000 ?_)
  rcases (show xs.length = 1 ∨ 2 ≤ xs.length by omega) with h | h
  · rw [isort1M _ (by omega)]
    repeat' (conv => arg 4; whnf); first | refine Run.ret ⟨?_, rfl⟩ | refine Run.condT ?_ | refine Run.condf ?_ | refine Run.condD (fun h => ?_) (fun h => ?_) | refine Run.condN (fun h => ?_) (fun h => ?_) | refine Run.condE (fun h => ?_) (fun h => ?_) | refine Run.condF (fun h => ?_) (fun h => ?_) | refine Run.condM (fun h => ?_) (fun h => ?_) | refine Run.condB (fun h => ?_) (fun h => ?_) | refine Run.check1 ?_ | refine Run.call (valueOfM_ok _) rfl ?_ | refine Run.call (swapper1M_ok _ h) rfl ?_ | refine Run.call (lenM_ok _) rfl ?_ | refine Run.callE (hbits) (fun _ => rfl) (fun x hx => ?_) | refine Run.call (pdqA1_ok _ _ _ _ (by omega) _ _ rfl) rfl ?_
    all_goals first | rfl | trace_state
  · repeat' (conv => arg 4; whnf); first | refine Run.ret ⟨?_, rfl⟩ | refine Run.condT ?_ | refine Run.condf ?_ | refine Run.condD (fun h => ?_) (fun h => ?_) | refine Run.condN (fun h => ?_) (fun h => ?_) | refine Run.condE (fun h => ?_) (fun h => ?_) | refine Run.condF (fun h => ?_) (fun h => ?_) | refine Run.condM (fun h => ?_) (fun h => ?_) | refine Run.condB (fun h => ?_) (fun h => ?_) | refine Run.check1 ?_ | refine Run.call (valueOfM_ok _) rfl ?_ | refine Run.call (swapperM_ok _ h) rfl ?_ | refine Run.call (lenM_ok _) rfl ?_ | refine Run.callE (hbits) (fun _ => rfl) (fun x hx => ?_) | refine Run.call (pdqA_ok _ _ _ h h12 _ _ rfl) rfl ?_
    all_goals first | rfl | trace_state
end Go.Proofs.YtmppoajepbbmiaaGreat.AM

/- StripAdd of the program; condition: the ticks are of 64 bits. -/
namespace Go.Proofs.YtmppoajepbbmiaaGreat.AM
open Go.AM Go.RowKit
set_option linter.unusedVariables false
set_option linter.unusedSimpArgs false
set_option maxRecDepth 100000

theorem strip_add_ok (b : Bk) (m : Mv) (hl : b.ms.length ≤ 1048576) (ht : b.ts.length ≤ 1048576) (hw : TkWf b.ts) :
    Ok P 8 [b.lent, .agg (encMv m)] [] (.tup [(addR b m).1.own (.k 0) (.k 1), .one (.int .i64 (addR b m).2)]) [some (.row .mv (addR b m).1.ms), some (.row (.int .i64) (addR b m).1.ts)] := by
  refine nilB_ok ?_
  have hbk := bookOk_ok b hw
  have hmk := moveOk_ok m
  refine Ok.of_rel (F := mk Tryz.f8 0) Tryz.func8 rfl rfl tabOk mixed rfl rfl rfl rfl rfl (Nat.le_of_ble_eq_true rfl) (by first | exact fun _ _ => nilR_len | exact fun _ _ => nilB_len) (.go 5000 ?_)
  by_cases hb : BkOk b
  · rw [decide_eq_true hb] at hbk
    have h6 := hb.2.2.1.1.1
    have hlen := hb.2.2.1.2.1
    have hat := at_ok b m.f0 hl
    by_cases hm : mvOk m = true ∧ m.f5 = -1
    · rw [hm.1] at hmk
      have h5 := hm.2
      rcases atN_range b.ms m.f0 with ⟨h1, hn⟩ | ⟨a, h1, ha, _⟩
      · rw [h1] at hat
        by_cases h6b : b.ms.length = 6
        · have hr : addR b m = (b, 4) := by unfold addR; rw [if_neg (fun q => q hb), if_neg (fun q => q hm), if_neg (by omega), if_pos h6b]
          rw [hr]
          clear hr
          repeat' (conv => arg 4; whnf); first | refine Run.ret ⟨?_, rfl⟩ | refine Run.condT ?_ | refine Run.condf ?_ | refine Run.condD (fun h => ?_) (fun h => ?_) | refine Run.condN (fun h => ?_) (fun h => ?_) | refine Run.condE (fun h => ?_) (fun h => ?_) | refine Run.condF (fun h => ?_) (fun h => ?_) | refine Run.condM (fun h => ?_) (fun h => ?_) | refine Run.condB (fun h => ?_) (fun h => ?_) | refine Run.check1 ?_ | refine Run.call (hbk) rfl ?_ | refine Run.call (hmk) rfl ?_ | refine Run.call (hat) rfl ?_ | refine Run.call (copyBook_ok b hl ht) rfl ?_ | (refine Run.ret (.inl ⟨rfl, rfl⟩)) | (exfalso; omega)
          all_goals trace_state
        · have hpm := putM_ok hb.2.2.1.1 hm.1 hn (by omega)
          have hpl := putM_len b.ms m
          have hplan := plan_ok (putM b.ms m) b.now b.shift hpm hb.1 hb.2.1
          have hput := sortA_ok b.now b.shift (b.ms ++ [m]) (by rw [List.length_append]; exact Nat.le_add_left _ _) (by rw [List.length_append, List.length_singleton]; omega)
          rw [isort_put (movesOk_iff.1 hb.2.2.1.1).2.2 hn] at hput
          have hcl := cloneM_ok b.ms hl
          have hr0 : addR b m = if (planM (putM b.ms m) b.now b.shift).2 = false then (b, 5) else if ¬ SureM ⟨b.now, b.shift, putM b.ms m, (planM (putM b.ms m) b.now b.shift).1⟩ then (b, 6) else (⟨b.now, b.shift, putM b.ms m, (planM (putM b.ms m) b.now b.shift).1⟩, 0) := by
            unfold addR; rw [if_neg (fun q => q hb), if_neg (fun q => q hm), if_neg (by omega), if_neg h6b]
          have hw2 : W64L (planM (putM b.ms m) b.now b.shift).1 := planM_w64 _ _ _ hpm hb.1.1 hb.2.1
          have hl2 := planM_len (putM b.ms m) b.now b.shift hpm hb.1.1 hb.2.1
          generalize planM (putM b.ms m) b.now b.shift = pr at *
          generalize putM b.ms m = pm at *
          obtain ⟨pt, pb⟩ := pr
          dsimp only at hr0 hplan hw2 hl2
          have hsu := sure_ok ⟨b.now, b.shift, pm, pt⟩ (tkWf_l hw2)
          cases pb with
          | false =>
            rw [if_pos rfl] at hr0
            rw [hr0]
            repeat' (conv => arg 4; whnf); first | refine Run.ret ⟨?_, rfl⟩ | refine Run.condT ?_ | refine Run.condf ?_ | refine Run.condD (fun h => ?_) (fun h => ?_) | refine Run.condN (fun h => ?_) (fun h => ?_) | refine Run.condE (fun h => ?_) (fun h => ?_) | refine Run.condF (fun h => ?_) (fun h => ?_) | refine Run.condM (fun h => ?_) (fun h => ?_) | refine Run.condB (fun h => ?_) (fun h => ?_) | refine Run.check1 ?_ | refine Run.call (hbk) rfl ?_ | refine Run.call (hmk) rfl ?_ | refine Run.call (hat) rfl ?_ | refine Run.call (hcl) rfl ?_ | refine Run.call (hput) rfl ?_ | refine Run.need1 (by simp only [allP, true_and, and_true, List.length_cons, List.length_nil]; omega) ?_ | refine Run.call (hplan) rfl ?_ | refine Run.call (copyBook_ok b hl ht) rfl ?_ | (refine Run.ret (.inl ⟨rfl, rfl⟩)) | (exfalso; omega)
            all_goals trace_state
          | true =>
            rw [if_neg (by decide)] at hr0
            by_cases hs : SureM ⟨b.now, b.shift, pm, pt⟩
            · rw [if_neg (fun q => q hs)] at hr0
              rw [hr0]
              rw [decide_eq_true hs] at hsu
              repeat' (conv => arg 4; whnf); first | refine Run.ret ⟨?_, rfl⟩ | refine Run.condT ?_ | refine Run.condf ?_ | refine Run.condD (fun h => ?_) (fun h => ?_) | refine Run.condN (fun h => ?_) (fun h => ?_) | refine Run.condE (fun h => ?_) (fun h => ?_) | refine Run.condF (fun h => ?_) (fun h => ?_) | refine Run.condM (fun h => ?_) (fun h => ?_) | refine Run.condB (fun h => ?_) (fun h => ?_) | refine Run.check1 ?_ | refine Run.call (hbk) rfl ?_ | refine Run.call (hmk) rfl ?_ | refine Run.call (hat) rfl ?_ | refine Run.call (hcl) rfl ?_ | refine Run.call (hput) rfl ?_ | refine Run.need1 (by simp only [allP, true_and, and_true, List.length_cons, List.length_nil]; omega) ?_ | refine Run.call (hplan) rfl ?_ | refine Run.call (hsu) rfl ?_ | refine Run.call (copyBook_ok b hl ht) rfl ?_ | (refine Run.ret (.inl ⟨rfl, rfl⟩)) | (exfalso; omega)
              all_goals trace_state
            · rw [if_pos hs] at hr0
              rw [hr0]
              rw [decide_eq_false hs] at hsu
              repeat' (conv => arg 4; whnf); first | refine Run.ret ⟨?_, rfl⟩ | refine Run.condT ?_ | refine Run.condf ?_ | refine Run.condD (fun h => ?_) (fun h => ?_) | refine Run.condN (fun h => ?_) (fun h => ?_) | refine Run.condE (fun h => ?_) (fun h => ?_) | refine Run.condF (fun h => ?_) (fun h => ?_) | refine Run.condM (fun h => ?_) (fun h => ?_) | refine Run.condB (fun h => ?_) (fun h => ?_) | refine Run.check1 ?_ | refine Run.call (hbk) rfl ?_ | refine Run.call (hmk) rfl ?_ | refine Run.call (hat) rfl ?_ | refine Run.call (hcl) rfl ?_ | refine Run.call (hput) rfl ?_ | refine Run.need1 (by simp only [allP, true_and, and_true, List.length_cons, List.length_nil]; omega) ?_ | refine Run.call (hplan) rfl ?_ | refine Run.call (hsu) rfl ?_ | refine Run.call (copyBook_ok b hl ht) rfl ?_ | (refine Run.ret (.inl ⟨rfl, rfl⟩)) | (exfalso; omega)
              all_goals trace_state
      · rw [h1] at hat
        have hr : addR b m = (b, 3) := by unfold addR; rw [if_neg (fun q => q hb), if_neg (fun q => q hm), if_pos (by omega)]
        rw [hr]
        clear hr
        repeat' (conv => arg 4; whnf); first | refine Run.ret ⟨?_, rfl⟩ | refine Run.condT ?_ | refine Run.condf ?_ | refine Run.condD (fun h => ?_) (fun h => ?_) | refine Run.condN (fun h => ?_) (fun h => ?_) | refine Run.condE (fun h => ?_) (fun h => ?_) | refine Run.condF (fun h => ?_) (fun h => ?_) | refine Run.condM (fun h => ?_) (fun h => ?_) | refine Run.condB (fun h => ?_) (fun h => ?_) | refine Run.check1 ?_ | refine Run.call (hbk) rfl ?_ | refine Run.call (hmk) rfl ?_ | refine Run.call (hat) rfl ?_ | refine Run.call (copyBook_ok b hl ht) rfl ?_ | (refine Run.ret (.inl ⟨rfl, rfl⟩)) | (exfalso; omega)
        all_goals trace_state

    · have hr : addR b m = (b, 2) := by unfold addR; rw [if_neg (fun q => q hb), if_pos hm]
      rw [hr]
      clear hr
      cases hq : mvOk m with
      | false =>
        rw [hq] at hmk
        repeat' (conv => arg 4; whnf); first | refine Run.ret ⟨?_, rfl⟩ | refine Run.condT ?_ | refine Run.condf ?_ | refine Run.condD (fun h => ?_) (fun h => ?_) | refine Run.condN (fun h => ?_) (fun h => ?_) | refine Run.condE (fun h => ?_) (fun h => ?_) | refine Run.condF (fun h => ?_) (fun h => ?_) | refine Run.condM (fun h => ?_) (fun h => ?_) | refine Run.condB (fun h => ?_) (fun h => ?_) | refine Run.check1 ?_ | refine Run.call (hbk) rfl ?_ | refine Run.call (hmk) rfl ?_ | refine Run.call (copyBook_ok b hl ht) rfl ?_ | (refine Run.ret (.inl ⟨rfl, rfl⟩)) | (exfalso; omega)
        all_goals trace_state
      | true =>
        have h5 : 0 ≤ m.f5 := by
          have := (mvOk_true.1 hq).2
          have h5 : m.f5 ≠ -1 := fun e => hm ⟨hq, e⟩
          omega
        rw [hq] at hmk
        repeat' (conv => arg 4; whnf); first | refine Run.ret ⟨?_, rfl⟩ | refine Run.condT ?_ | refine Run.condf ?_ | refine Run.condD (fun h => ?_) (fun h => ?_) | refine Run.condN (fun h => ?_) (fun h => ?_) | refine Run.condE (fun h => ?_) (fun h => ?_) | refine Run.condF (fun h => ?_) (fun h => ?_) | refine Run.condM (fun h => ?_) (fun h => ?_) | refine Run.condB (fun h => ?_) (fun h => ?_) | refine Run.check1 ?_ | refine Run.call (hbk) rfl ?_ | refine Run.call (hmk) rfl ?_ | refine Run.call (copyBook_ok b hl ht) rfl ?_ | (refine Run.ret (.inl ⟨rfl, rfl⟩)) | (exfalso; omega)
        all_goals trace_state
  · rw [decide_eq_false hb] at hbk
    rw [show addR b m = (Bk.z, 1) from if_pos hb]
    repeat' (conv => arg 4; whnf); first | refine Run.ret ⟨?_, rfl⟩ | refine Run.condT ?_ | refine Run.condf ?_ | refine Run.condD (fun h => ?_) (fun h => ?_) | refine Run.condN (fun h => ?_) (fun h => ?_) | refine Run.condE (fun h => ?_) (fun h => ?_) | refine Run.condF (fun h => ?_) (fun h => ?_) | refine Run.condM (fun h => ?_) (fun h => ?_) | refine Run.condB (fun h => ?_) (fun h => ?_) | refine Run.check1 ?_ | refine Run.call (hbk) rfl ?_ | (refine Run.ret (.inr (.inr ⟨rfl, rfl, rfl, rfl⟩)))
    all_goals trace_state
end Go.Proofs.YtmppoajepbbmiaaGreat.AM

/- FnTop, walked; condition: a code of bytes. -/
namespace Go.Proofs.YtmppoajepbbmiaaGreat.AM
open Go.AM Go.RowKit
set_option linter.unusedVariables false
set_option linter.unusedSimpArgs false
set_option maxRecDepth 100000

theorem sure_one {a : Bk} (h : SureM a) : Ok P 18 [a.lent] [] (.one (.bool true)) [] := by
  have := sure_ok a (tkWf_l (bkD_of h.1).td)
  rwa [decide_eq_true h] at this
theorem wfits_one {a : Bk} (h : BkOk a) : Ok P 17 [.one (.lst .mv a.ms false), .one (.lst (.int .i64) a.ts false)] [] (.one (.bool true)) [] := by
  have := wfits_ok a.ms a.ts h.2.2.1.1 h.2.2.1.2.1 (tkWf_l (bkD_of h).td)
  rwa [decide_eq_true h.2.2.1] at this
/-- What the walk needs of one whose turn to land it is. -/
theorem turn_ok {X : Bk} (hs : SureM X) {k : Nat} (hk : k < X.ms.length) (h1 : rd X.ts (k : Int) = X.now) (h2 : (rdM X.ms (k : Int)).f1 = true) :
    Ok P 20 [X.lent, .one (.str (rdM X.ms (k : Int)).f0)] [] (.tup [(roundB X k).own (.k 0) (.k 1), .one (.int .i64 0)]) [some (.row .mv (roundB X k).ms), some (.row (.int .i64) (roundB X k).ts)] ∧
    Ok P 16 [(roundB X k).lent] [] (.one (.bool true)) [] ∧
    Ok P 21 [X.lent, (roundB X k).lent, .one (.str (rdM X.ms (k : Int)).f0)] [] (.one (.bool true)) [] ∧ (roundB X k).ms.length = X.ms.length := by
  rw [rd_nat] at h1
  rw [rdM_nat] at h2 ⊢
  obtain ⟨e, hr, hl⟩ := round_turn hs hk h1 h2
  obtain ⟨hlX, htX⟩ := bk_lens hs.1
  have hok := roundB_ok hs.1 hk hr
  obtain ⟨hlY, htY⟩ := bk_lens hok
  have h := strip_round_ok X (at' X.ms k).f0 (by omega) (by omega) (tkWf_l (bkD_of hs.1).td)
  rw [e] at h
  exact ⟨h, bk_one hok, wprombut_ok X (roundB X k) _ (by omega) hok.2.2.1.1 htY (round_prom hs.1 hk hr), hl⟩
set_option maxHeartbeats 16000000 in
theorem law_FnTop (bs : List Int) (hbl : bs.length ≤ maxLen) (hbw : ∀ z ∈ bs, (Lit.int .u8 z).wf = true) : Ok P 3 [.one (.lst (.int .u8) bs false)] [] (.one (.bool true)) [] := by
  have hb := bytes_of hbw
  obtain ⟨ms, ns, ⟨hM, hN, hlen, h16⟩, hdraw⟩ := drawEvents_ok hb
  refine Ok.of_run (F := mk Tryz.f3 0) Tryz.func3 rfl rfl tabOk mixed rfl rfl rfl rfl rfl (Nat.le_of_ble_eq_true rfl) (Nat.le_of_ble_eq_true rfl) (.go 5000 ?_)
  have outer : ∀ (d i : Nat) (z : Int) (b : Bk), z = i → i + d = ms.length → SureM b → Run P (mk Tryz.f3 0) (fun v st => v = .one (.bool true) ∧ st = [])
      (.loop ⟨[(3, .one (.own (.t 1003 0))), (4, .one (.own (.t 1003 1))), (5, .one (.ptr (.t 5 0) 0)), (6, .one (.int .i64 z))],
        [(.t 1003 0, some (.row .mv ms)), (.t 1003 1, some (.row .str ns)), (.t 5 0, some (.cells [.int .i64 b.now, .int .i64 b.shift, .own (.t 1000 0), .own (.t 1000 1)])), (.t 1000 0, some (.row .mv b.ms)), (.t 1000 1, some (.row (.int .i64) b.ts))], [.lp [0, 1, 0, 1, 1, 1, 1], .blk 0, .code [1, 1, 1, 1, 1]], none⟩) := by
    intro d
    induction d with
    | zero =>
      intro i z b hz hd hS
      subst hz
      have hk := bk_one hS.1
      refine Run.loop ?_
      repeat' (conv => arg 4; whnf); first | refine Run.ret ⟨?_, rfl⟩ | refine Run.condT ?_ | refine Run.condf ?_ | refine Run.condD (fun h => ?_) (fun h => ?_) | refine Run.condN (fun h => ?_) (fun h => ?_) | refine Run.condE (fun h => ?_) (fun h => ?_) | refine Run.condF (fun h => ?_) (fun h => ?_) | refine Run.condM (fun h => ?_) (fun h => ?_) | refine Run.condB (fun h => ?_) (fun h => ?_) | refine Run.check1 ?_ | (exfalso; omega) | refine Run.call (hk) rfl ?_
      all_goals first | rfl | (exfalso; omega) | trace_state
    | succ d ih =>
      intro i z b hz hd hS
      subst hz
      have hi : i < ms.length := by omega
      have e := fs (i := i) (by omega)
      obtain ⟨hlb, htb⟩ := bk_lens hS.1
      have inner : ∀ (X : Bk), SureM X → ∀ (c k : Nat) (z : Int), z = k → k + c = X.ms.length → Run P (mk Tryz.f3 0) (fun v st => v = .one (.bool true) ∧ st = [])
          (.loop ⟨[(3, .one (.own (.t 1003 0))), (4, .one (.own (.t 1003 1))), (5, .one (.ptr (.t 5 0) 0)), (6, .one (.int .i64 (i : Int))), (7, .one (.ptr (.t 7 0) 0)), (11, .one (.int .i64 z))],
            [(.t 1003 0, some (.row .mv ms)), (.t 1003 1, some (.row .str ns)), (.t 5 0, some (.cells [.int .i64 b.now, .int .i64 b.shift, .own (.t 1000 0), .own (.t 1000 1)])), (.t 1000 0, some (.row .mv b.ms)), (.t 1000 1, some (.row (.int .i64) b.ts)),
             (.t 7 0, some (.cells [.int .i64 X.now, .int .i64 X.shift, .own (.t 1001 0), .own (.t 1001 1)])), (.t 1001 0, some (.row .mv X.ms)), (.t 1001 1, some (.row (.int .i64) X.ts))], [.lp [0, 1, 0, 1, 1, 1, 1, 1, 1, 0, 0, 1, 0, 0, 1, 0, 1, 1, 1, 1], .blk 3, .code [1, 1, 1, 1, 1, 1, 1, 0, 0, 1, 0, 0, 1, 0, 1, 1, 1, 1], .blk 1, .code [1, 1, 0, 0, 1, 0, 1, 1, 1, 1], .lp [0, 1, 0, 1, 1, 1, 1], .blk 0, .code [1, 1, 1, 1, 1]], none⟩) := by
        intro X hX c
        obtain ⟨hlX, htX⟩ := bk_lens hX.1
        induction c with
        | zero =>
          intro k z hz hc
          subst hz
          have ih' := ih (i + 1) _ X e.h (by omega) hX
          clear ih
          refine Run.loop ?_
          repeat' (conv => arg 4; whnf); first | refine Run.ret ⟨?_, rfl⟩ | refine Run.condT ?_ | refine Run.condf ?_ | refine Run.condD (fun h => ?_) (fun h => ?_) | refine Run.condN (fun h => ?_) (fun h => ?_) | refine Run.condE (fun h => ?_) (fun h => ?_) | refine Run.condF (fun h => ?_) (fun h => ?_) | refine Run.condM (fun h => ?_) (fun h => ?_) | refine Run.condB (fun h => ?_) (fun h => ?_) | refine Run.check1 ?_ | (exfalso; omega) | refine Run.round ⟨[(.t 1003 0, .t 1003 0), (.t 1003 1, .t 1003 1), (.t 5 0, .t 5 0), (.t 1001 0, .t 1000 0), (.t 1001 1, .t 1000 1)], [], []⟩ (ih') rfl (by (repeat' (first | exact wkEnv_nil | refine wkEnv_cons rfl ?_ | exact wkSto_nil | refine wkSto_none ?_ | refine wkSto_some rfl ?_)); done) (by (repeat' (first | exact wkEnv_nil | refine wkEnv_cons rfl ?_ | exact wkSto_nil | refine wkSto_none ?_ | refine wkSto_some rfl ?_)); done)
          all_goals trace_state
        | succ c ihc =>
          intro k z hz hc
          subst hz
          have e2 := fs (i := k) (by omega)
          have ht := fun h1 h2 => turn_ok hX (k := k) (by omega) h1 h2
          clear ih
          refine Run.loop ?_
          repeat' (conv => arg 4; whnf); first | refine Run.ret ⟨?_, rfl⟩ | refine Run.condT ?_ | refine Run.condf ?_ | refine Run.condD (fun h => ?_) (fun h => ?_) | refine Run.condN (fun h => ?_) (fun h => ?_) | refine Run.condE (fun h => ?_) (fun h => ?_) | refine Run.condF (fun h => ?_) (fun h => ?_) | refine Run.condM (fun h => ?_) (fun h => ?_) | refine Run.condB (fun h => ?_) (fun h => ?_) | refine Run.check1 ?_ | (exfalso; omega) | refine Run.need1 (by simp only [allP, true_and, and_true]; omega) ?_ | refine Run.call ((ht (by assumption) (by assumption)).1) rfl ?_ | refine Run.call ((ht (by assumption) (by assumption)).2.1) rfl ?_ | refine Run.call ((ht (by assumption) (by assumption)).2.2.1) rfl ?_ | refine Run.round ⟨[(.t 1003 0, .t 1003 0), (.t 1003 1, .t 1003 1), (.t 5 0, .t 5 0), (.t 1000 0, .t 1000 0), (.t 1000 1, .t 1000 1), (.t 7 0, .t 7 0), (.t 1001 0, .t 1001 0), (.t 1001 1, .t 1001 1)], [], []⟩ (ihc (k + 1) _ e2.h (by omega)) rfl (by (repeat' (first | exact wkEnv_nil | refine wkEnv_cons rfl ?_ | exact wkSto_nil | refine wkSto_none ?_ | refine wkSto_some rfl ?_)); done) (by (repeat' (first | exact wkEnv_nil | refine wkEnv_cons rfl ?_ | exact wkSto_nil | refine wkSto_none ?_ | refine wkSto_some rfl ?_)); done) | (have hl := (ht (by assumption) (by assumption)).2.2.2; exfalso; omega) | (exact absurd rfl ‹_›)
          all_goals clear ihc
          all_goals first
            | (exfalso; omega)
            | (have hl := (ht (by assumption) (by assumption)).2.2.2
               exfalso; omega)
            | trace_state
      clear ih
      have hw := tkWf_l (bkD_of hS.1).td
      have a1 := fun m => strip_add_ok b m (by omega) (by omega) hw
      have a2 := fun m => strip_sadd_ok b m (by omega) (by omega) hw
      have d1 := fun n => strip_drop_ok b n (by omega) (by omega) hw
      have d2 := fun n => strip_sdrop_ok b n (by omega) (by omega) hw
      have t1 := tick_ok b (by omega) (by omega) hw
      have t2 := stick_ok b (by omega) (by omega) hw
      have gen : ∀ (X : Bk) (c : Int), SureM X → PromB b X ByteArray.empty → (1 < c → X = b) → Ok P 15 [X.lent, X.lent] [] (.one (.bool true)) [] ∧ Ok P 16 [X.lent] [] (.one (.bool true)) [] ∧
          Ok P 17 [.one (.lst .mv X.ms false), .one (.lst (.int .i64) X.ts false)] [] (.one (.bool true)) [] ∧ Ok P 18 [X.lent] [] (.one (.bool true)) [] ∧ Ok P 19 [b.lent, X.lent] [] (.one (.bool true)) [] ∧
          (1 < c → Ok P 15 [X.lent, b.lent] [] (.one (.bool true)) []) := fun X c hX hp h1 => by
        obtain ⟨hlX, htX⟩ := bk_lens hX.1
        exact ⟨wbook_ok X (by omega) (by omega), bk_one hX.1, wfits_one hX.1, sure_one hX, wpromised_ok b X (by omega) hX.1.2.2.1.1 htX hp, fun h => wbook2_ok X b (h1 h) (by omega) (by omega)⟩
      by_cases hm : ((rdM ms (i : Int)).f0.toList == (ByteArray.mk #[]).toList) = true
      · by_cases hn : ((rdS ns (i : Int)).toList == (ByteArray.mk #[]).toList) = true
        · obtain ⟨g1, g2, g3, g4⟩ := gen_tick hS
          obtain ⟨w1, w2, w3, w4, w5, w6⟩ := gen _ _ g1 g2 g3
          have inn := inner _ g1
          clear inner gen a1 a2 d1 d2
          generalize tickR b = r at *
          obtain ⟨X, tl, c⟩ := r
          dsimp only at *
          refine Run.loop ?_
          repeat' (conv => arg 4; whnf); first | refine Run.ret ⟨?_, rfl⟩ | refine Run.condT ?_ | refine Run.condf ?_ | refine Run.condD (fun h => ?_) (fun h => ?_) | refine Run.condN (fun h => ?_) (fun h => ?_) | refine Run.condE (fun h => ?_) (fun h => ?_) | refine Run.condF (fun h => ?_) (fun h => ?_) | refine Run.condM (fun h => ?_) (fun h => ?_) | refine Run.condB (fun h => ?_) (fun h => ?_) | refine Run.check1 ?_ | (exfalso; omega) | (exact absurd (show true = false from Eq.trans (Eq.symm hm) (by assumption)) (by decide)) | (exact absurd (show true = false from Eq.trans (Eq.symm hn) (by assumption)) (by decide)) | refine Run.need1 (by simp only [allP, true_and, and_true]; omega) ?_ | refine Run.call (t1) rfl ?_ | refine Run.call (t2) rfl ?_ | refine Run.call (w1) rfl ?_ | refine Run.call (w2) rfl ?_ | refine Run.call (w3) rfl ?_ | refine Run.call (w4) rfl ?_ | refine Run.call (w5) rfl ?_ | refine Run.call (w6 (by omega)) rfl ?_ | refine Run.round ⟨[(.t 1003 0, .t 1003 0), (.t 1003 1, .t 1003 1), (.t 5 0, .t 5 0), (.t 1000 0, .t 1000 0), (.t 1000 1, .t 1000 1), (.t 7 0, .t 7 0), (.t 37 0, .t 1001 0), (.t 37 1, .t 1001 1)], [], []⟩ (inn X.ms.length 0 _ rfl (by omega)) rfl (by (repeat' (first | exact wkEnv_nil | refine wkEnv_cons rfl ?_ | exact wkSto_nil | refine wkSto_none ?_ | refine wkSto_some rfl ?_)); done) (by (repeat' (first | exact wkEnv_nil | refine wkEnv_cons rfl ?_ | exact wkSto_nil | refine wkSto_none ?_ | refine wkSto_some rfl ?_)); done) | (exact absurd rfl ‹_›)
          all_goals first | (exfalso; omega) | contradiction | (exfalso; simp only [*, Bool.true_eq_false, Bool.false_eq_true] at *; done) | trace_state
        · obtain ⟨g1, g2, g3, g4⟩ := gen_drop hS (rdS ns (i : Int))
          obtain ⟨w1, w2, w3, w4, w5, w6⟩ := gen _ _ g1 g2 g3
          have inn := inner _ g1
          have d1 := d1 (rdS ns (i : Int))
          have d2 := d2 (rdS ns (i : Int))
          have hls := bk_lens g1.1
          have w7 := wnolater_ok b _ (show (dropR b (rdS ns (i : Int))).1.ms.length ≤ 1048576 by omega) hls.2 hS.1.2.2.1.1 htb g4
          clear inner gen a1 a2 t1 t2
          generalize dropR b (rdS ns (i : Int)) = r at *
          obtain ⟨X, c⟩ := r
          dsimp only at *
          refine Run.loop ?_
          repeat' (conv => arg 4; whnf); first | refine Run.ret ⟨?_, rfl⟩ | refine Run.condT ?_ | refine Run.condf ?_ | refine Run.condD (fun h => ?_) (fun h => ?_) | refine Run.condN (fun h => ?_) (fun h => ?_) | refine Run.condE (fun h => ?_) (fun h => ?_) | refine Run.condF (fun h => ?_) (fun h => ?_) | refine Run.condM (fun h => ?_) (fun h => ?_) | refine Run.condB (fun h => ?_) (fun h => ?_) | refine Run.check1 ?_ | (exfalso; omega) | (exact absurd (show true = false from Eq.trans (Eq.symm hm) (by assumption)) (by decide)) | refine Run.need1 (by simp only [allP, true_and, and_true]; omega) ?_ | refine Run.call (d1) rfl ?_ | refine Run.call (d2) rfl ?_ | refine Run.call (w7) rfl ?_ | refine Run.call (w1) rfl ?_ | refine Run.call (w2) rfl ?_ | refine Run.call (w3) rfl ?_ | refine Run.call (w4) rfl ?_ | refine Run.call (w5) rfl ?_ | refine Run.call (w6 (by omega)) rfl ?_ | refine Run.round ⟨[(.t 1003 0, .t 1003 0), (.t 1003 1, .t 1003 1), (.t 5 0, .t 5 0), (.t 1000 0, .t 1000 0), (.t 1000 1, .t 1000 1), (.t 7 0, .t 7 0), (.t 84 0, .t 1001 0), (.t 84 1, .t 1001 1)], [], []⟩ (inn X.ms.length 0 _ rfl (by omega)) rfl (by (repeat' (first | exact wkEnv_nil | refine wkEnv_cons rfl ?_ | exact wkSto_nil | refine wkSto_none ?_ | refine wkSto_some rfl ?_)); done) (by (repeat' (first | exact wkEnv_nil | refine wkEnv_cons rfl ?_ | exact wkSto_nil | refine wkSto_none ?_ | refine wkSto_some rfl ?_)); done) | (exact absurd rfl ‹_›)
          all_goals first | (exfalso; omega) | contradiction | (exfalso; simp only [*, Bool.true_eq_false, Bool.false_eq_true] at *; done) | trace_state
      · obtain ⟨g1, g2, g3⟩ := gen_add hS (rdM ms (i : Int))
        obtain ⟨w1, w2, w3, w4, w5, w6⟩ := gen _ _ g1 g2 g3
        have inn := inner _ g1
        have a1 := a1 (rdM ms (i : Int))
        have a2 := a2 (rdM ms (i : Int))
        clear inner gen d1 d2 t1 t2
        generalize addR b (rdM ms (i : Int)) = r at *
        obtain ⟨X, c⟩ := r
        dsimp only at *
        refine Run.loop ?_
        repeat' (conv => arg 4; whnf); first | refine Run.ret ⟨?_, rfl⟩ | refine Run.condT ?_ | refine Run.condf ?_ | refine Run.condD (fun h => ?_) (fun h => ?_) | refine Run.condN (fun h => ?_) (fun h => ?_) | refine Run.condE (fun h => ?_) (fun h => ?_) | refine Run.condF (fun h => ?_) (fun h => ?_) | refine Run.condM (fun h => ?_) (fun h => ?_) | refine Run.condB (fun h => ?_) (fun h => ?_) | refine Run.check1 ?_ | (exfalso; omega) | refine Run.need1 (by simp only [allP, true_and, and_true]; omega) ?_ | refine Run.call (a1) rfl ?_ | refine Run.call (a2) rfl ?_ | refine Run.call (w1) rfl ?_ | refine Run.call (w2) rfl ?_ | refine Run.call (w3) rfl ?_ | refine Run.call (w4) rfl ?_ | refine Run.call (w5) rfl ?_ | refine Run.call (w6 (by omega)) rfl ?_ | refine Run.round ⟨[(.t 1003 0, .t 1003 0), (.t 1003 1, .t 1003 1), (.t 5 0, .t 5 0), (.t 1000 0, .t 1000 0), (.t 1000 1, .t 1000 1), (.t 7 0, .t 7 0), (.t 60 0, .t 1001 0), (.t 60 1, .t 1001 1)], [], []⟩ (inn X.ms.length 0 _ rfl (by omega)) rfl (by (repeat' (first | exact wkEnv_nil | refine wkEnv_cons rfl ?_ | exact wkSto_nil | refine wkSto_none ?_ | refine wkSto_some rfl ?_)); done) (by (repeat' (first | exact wkEnv_nil | refine wkEnv_cons rfl ?_ | exact wkSto_nil | refine wkSto_none ?_ | refine wkSto_some rfl ?_)); done) | (exact absurd rfl ‹_›)
        all_goals first | (exfalso; omega) | contradiction | (exfalso; simp only [*, Bool.true_eq_false, Bool.false_eq_true] at *; done) | trace_state
  have hmod : 0 ≤ Int.tmod (bs.length : Int) 3 ∧ Int.tmod (bs.length : Int) 3 < 3 := ⟨Int.tmod_nonneg _ (by omega), Int.tmod_lt_of_pos _ (by omega)⟩
  have hstart : ∀ s : Int, s = 1 + Int.tmod (bs.length : Int) 3 → SureM ⟨0, s, [], []⟩ := fun s hs => ⟨bk_empty (by omega) (by omega), fun i hi => absurd hi (Nat.not_lt_zero i)⟩
  have es : Fact (wrap64 (1 + Int.tmod (bs.length : Int) 3) = 1 + Int.tmod (bs.length : Int) 3) := fw (by omega)
  repeat' (conv => arg 4; whnf); first | refine Run.ret ⟨?_, rfl⟩ | refine Run.condT ?_ | refine Run.condf ?_ | refine Run.condD (fun h => ?_) (fun h => ?_) | refine Run.condN (fun h => ?_) (fun h => ?_) | refine Run.condE (fun h => ?_) (fun h => ?_) | refine Run.condF (fun h => ?_) (fun h => ?_) | refine Run.condM (fun h => ?_) (fun h => ?_) | refine Run.condB (fun h => ?_) (fun h => ?_) | refine Run.check1 ?_ | (exfalso; omega) | refine Run.call (hdraw) rfl ?_ | (refine Run.need1 (by simp only [allP]; decide) ?_) | refine Run.round ⟨[(.t 19 0, .t 1003 0), (.t 19 1, .t 1003 1), (.t 5 0, .t 5 0)], [(.t 1000 0, .mv), (.t 1000 1, .int .i64)], []⟩ (outer ms.length 0 _ ⟨_, _, [], []⟩ rfl (by omega) (hstart _ es.h)) rfl (by (repeat' (first | exact wkEnv_nil | refine wkEnv_cons rfl ?_ | exact wkSto_nil | refine wkSto_none ?_ | refine wkSto_some rfl ?_)); done) (by (repeat' (first | exact wkEnv_nil | refine wkEnv_cons rfl ?_ | exact wkSto_nil | refine wkSto_none ?_ | refine wkSto_some rfl ?_)); done)
  all_goals first | rfl | trace_state
end Go.Proofs.YtmppoajepbbmiaaGreat.AM

/- What comes in as a struct, a slice or a book, in the machine's words; condition: the argument reads as data of its type. -/
namespace Go.Proofs.YtmppoajepbbmiaaGreat.AM
open Go.Joins Go.ChangeShapes Go.WideShapes Go.RowKit Go.Deep Go.AM
set_option linter.unusedVariables false
set_option linter.unusedSimpArgs false
set_option maxRecDepth 100000
section
variable {H : Type} {enc : TypeId × Value → H} {w : World} {base : Nat} {spare : Nat → Bool} {held : Bool} {μ : Mu}
theorem open_mv {n : Nat} {cs : List Value} {y : DataW H × List MemPlace} (h : DataW.trod enc Tryz.prog w base spare held n 51 cs = some y) (hl : cs.length = 6) :
    ∃ m : Mv, cs = [.string m.f0, .bool m.f1, .int .i64 m.f2, .int .i64 m.f3, .int .i64 m.f4, .int .i64 m.f5] ∧ MvWf m := by
  obtain ⟨xs, n', _, _, _, hxl, hf⟩ := DataW.trod_struct Tryz.underlying51 h
  match cs, hl with
  | [c0, c1, c2, c3, c4, c5], _ =>
    have h0 := hf 0 _ rfl
    have h1 := hf 1 _ rfl
    have h2 := hf 2 _ rfl
    have h3 := hf 3 _ rfl
    have h4 := hf 4 _ rfl
    have h5 := hf 5 _ rfl
    have k1 : Tryz.prog.cellsOf 9 = 1 := by kernel_rfl
    have k2 : Tryz.prog.cellsOf 4 = 1 := by kernel_rfl
    have k3 : Tryz.prog.cellsOf 3 = 1 := by kernel_rfl
    have e0 : xs[0]? = some (xs[0]'(by rw [hxl]; decide)) := List.getElem?_eq_getElem _
    have e1 : xs[1]? = some (xs[1]'(by rw [hxl]; decide)) := List.getElem?_eq_getElem _
    have e2 : xs[2]? = some (xs[2]'(by rw [hxl]; decide)) := List.getElem?_eq_getElem _
    have e3 : xs[3]? = some (xs[3]'(by rw [hxl]; decide)) := List.getElem?_eq_getElem _
    have e4 : xs[4]? = some (xs[4]'(by rw [hxl]; decide)) := List.getElem?_eq_getElem _
    have e5 : xs[5]? = some (xs[5]'(by rw [hxl]; decide)) := List.getElem?_eq_getElem _
    obtain ⟨a0, q0, _, w0⟩ := DataW.trod_string Tryz.underlying9 (h0.trans e0)
    obtain ⟨a1, q1, _⟩ := DataW.trod_bool Tryz.underlying4 (h1.trans e1)
    obtain ⟨a2, q2, _, w2⟩ := DataW.trod_int Tryz.underlying3 (h2.trans e2)
    obtain ⟨a3, q3, _, w3⟩ := DataW.trod_int Tryz.underlying3 (h3.trans e3)
    obtain ⟨a4, q4, _, w4⟩ := DataW.trod_int Tryz.underlying3 (h4.trans e4)
    obtain ⟨a5, q5, _, w5⟩ := DataW.trod_int Tryz.underlying3 (h5.trans e5)
    simp [k1, k2, k3] at q0 q1 q2 q3 q4 q5
    subst q0 q1 q2 q3 q4 q5
    exact ⟨⟨a0, a1, a2, a3, a4, a5⟩, rfl, w0, wf64 w2, wf64 w3, wf64 w4, wf64 w5⟩
theorem open_ints {t fuel : Nat} {cs : List Value} {y : DataW H × List MemPlace} (ht : Tryz.prog.underlying t = some (.slice 3)) (h : DataW.trod enc Tryz.prog w base spare held fuel t cs = some y) :
    ∃ (v : Value) (xs : List Int), cs = [v] ∧ repA μ w (Old w) (.lst (.int .i64) xs false) v ∧ xs.length ≤ maxLen ∧ ∀ z ∈ xs, W64 z :=
  open_sl (.int .i64) ht (by kernel_rfl) (by decide) W64 (fun n cs' y hy hl => by
    obtain ⟨z, h1, _, h2⟩ := DataW.trod_int Tryz.underlying3 hy
    subst h1
    exact ⟨z, .cons rfl .nil, wf64 h2⟩) h
theorem open_bytes {t fuel : Nat} {cs : List Value} {y : DataW H × List MemPlace} (ht : Tryz.prog.underlying t = some (.slice 5)) (h : DataW.trod enc Tryz.prog w base spare held fuel t cs = some y) :
    ∃ (v : Value) (xs : List Int), cs = [v] ∧ repA μ w (Old w) (.lst (.int .u8) xs false) v ∧ xs.length ≤ maxLen ∧ ∀ z ∈ xs, (Lit.int .u8 z).wf = true :=
  open_sl (.int .u8) ht (by kernel_rfl) (by decide) (fun z => (Lit.int .u8 z).wf = true) (fun n cs' y hy hl => by
    obtain ⟨z, h1, _, h2⟩ := DataW.trod_int Tryz.underlying5 hy
    subst h1
    exact ⟨z, .cons rfl .nil, h2⟩) h
theorem open_mvs {t fuel : Nat} {cs : List Value} {y : DataW H × List MemPlace} (ht : Tryz.prog.underlying t = some (.slice 51)) (h : DataW.trod enc Tryz.prog w base spare held fuel t cs = some y) :
    ∃ (v : Value) (xs : List Mv), cs = [v] ∧ repA μ w (Old w) (.lst .mv xs false) v ∧ xs.length ≤ maxLen ∧ ∀ z ∈ xs, MvWf z :=
  open_sl .mv ht (by kernel_rfl) (by decide) MvWf (fun n cs' y hy hl => by
    obtain ⟨m, rfl, hm⟩ := open_mv hy hl
    exact ⟨m, .cons rfl (.cons rfl (.cons rfl (.cons rfl (.cons rfl (.cons rfl .nil))))), hm⟩) h
theorem open_bk {n : Nat} {cs : List Value} {y : DataW H × List MemPlace} (h : DataW.trod enc Tryz.prog w base spare held n 50 cs = some y) (hl : cs.length = 4) :
    ∃ b : Bk, repV μ w (Old w) b.lent (.agg ⟨cs⟩) ∧ W64 b.now ∧ W64 b.shift ∧ b.ms.length ≤ maxLen ∧ (∀ z ∈ b.ms, MvWf z) ∧ b.ts.length ≤ maxLen ∧ ∀ z ∈ b.ts, W64 z := by
  obtain ⟨xs, n', _, _, _, hxl, hf⟩ := DataW.trod_struct Tryz.underlying50 h
  match cs, hl with
  | [d0, d1, d2, d3], _ =>
    have h0 := hf 0 _ rfl
    have h1 := hf 1 _ rfl
    have h2 := hf 2 _ rfl
    have h3 := hf 3 _ rfl
    have k1 : Tryz.prog.cellsOf 3 = 1 := by kernel_rfl
    have k2 : Tryz.prog.cellsOf 48 = 1 := by kernel_rfl
    have k3 : Tryz.prog.cellsOf 27 = 1 := by kernel_rfl
    have e0 : xs[0]? = some (xs[0]'(by rw [hxl]; decide)) := List.getElem?_eq_getElem _
    have e1 : xs[1]? = some (xs[1]'(by rw [hxl]; decide)) := List.getElem?_eq_getElem _
    have e2 : xs[2]? = some (xs[2]'(by rw [hxl]; decide)) := List.getElem?_eq_getElem _
    have e3 : xs[3]? = some (xs[3]'(by rw [hxl]; decide)) := List.getElem?_eq_getElem _
    obtain ⟨a0, q0, _, w0⟩ := DataW.trod_int Tryz.underlying3 (h0.trans e0)
    obtain ⟨a1, q1, _, w1⟩ := DataW.trod_int Tryz.underlying3 (h1.trans e1)
    obtain ⟨v2, l2, q2, hr2, hm2, w2⟩ := open_mvs (μ := μ) Tryz.underlying48 (h2.trans e2)
    obtain ⟨v3, l3, q3, hr3, hm3, w3⟩ := open_ints (μ := μ) Tryz.underlying27 (h3.trans e3)
    simp [k1, k2, k3] at q0 q1 q2 q3
    subst q0 q1 q2 q3
    refine ⟨⟨a0, a1, l2, l3⟩, ?_, wf64 w0, wf64 w1, hm2, w2, hm3, w3⟩
    simp only [Bk.lent, repV]
    refine ⟨_, rfl, ?_⟩
    simp only [repAs]
    exact ⟨_, _, rfl, by simp only [repA], _, _, rfl, by simp only [repA], _, _, rfl, hr2, _, _, rfl, hr3, rfl⟩
end
end Go.Proofs.YtmppoajepbbmiaaGreat.AM

/- FnTop: for every input the law returns true and each argument reads behind the call as it read before; no condition. -/
namespace Go.Proofs.YtmppoajepbbmiaaGreat.fnTop
open Go.ChangeShapes Go.WideShapes Go.ChangeAt Go.RowKit
open Go.ChangeMaps (open_string shut_string)
set_option linter.unusedVariables false
theorem own : ownKnob Tryz.prog.godebug = none := by kernel_rfl
theorem laidOut : laidOutB Tryz.prog = true := by kernel_rfl
set_option maxRecDepth 100000 in
theorem lifted (os : Os) (started : os.Started) (H : Type) (enc : TypeId × Value → H) :
    ReturnsInHanded {} Tryz.checked os 3 .any (Rows.fnTopSpec.pre6 enc Tryz.prog Tryz.f3 Rows.fnTopRow.domain false) (Rows.fnTopSpec.post enc Tryz.prog Tryz.f3 false true false false) := by
  refine returnsInHanded_of_change_sized (C := Tryz.checked) own started (by kernel_rfl) Tryz.func3
    (ChangeSpec.witness6 (enc := enc) (C := Tryz.checked) false ⟨#[], #[.slice none 0 0], []⟩ 8 (by kernel_rfl) (by kernel_rfl) (by kernel_rfl) (by kernel_rfl)) ?_
  intro W base args ds gs before hval0 hW hcnd hsz0 _
  have hval : ∀ (j : Nat) t v, Tryz.f3.params[j]? = some t → args[j]? = some v → Value.okWide Tryz.prog W .any base t v := hval0
  have hW' := hW
  obtain ⟨p, q, hA0, hV, rfl, hfz, hnd⟩ := hW
  have hA : DataW.TrodAll enc Tryz.prog W 0 (fun _ => true) true Tryz.f3.params.toList args.toList ds p := hA0
  rw [Tryz.params3] at hA hval
  obtain ⟨v0, vs0, d0, ds0, p0, q0, hargs, rfl, rfl, h0, r0⟩ := trodAll_cons hA
  obtain ⟨rfl, rfl, rfl⟩ := trodAll_nil r0
  obtain rfl : args = #[v0] := by cases args; simp_all
  obtain ⟨rfl, rfl⟩ := trodVars_none hV
  have k0 := h0
  have lt0 : ∀ x ∈ p0, x.block < W.heap.size := by obtain ⟨m, hm⟩ := k0; exact DataW.trod_lt m _ _ _ hm
  obtain ⟨A0, len0, cap0, rfl⟩ := okWide_slice Tryz.underlying22 (hval 0 22 v0 rfl rfl)
  obtain ⟨fuel0, hf0⟩ := h0
  obtain ⟨u0, a0, e0, hr0, hm0, w0⟩ := AM.open_bytes (μ := fun _ => none) Tryz.underlying22 hf0
  simp [Value.cells] at e0
  subst e0
  refine (Go.AM.calls_true Tryz.func3 rfl rfl (AM.law_FnTop a0 hm0 w0) (by simp only [Go.AM.repVs]; exact ⟨_, _, rfl, (by simp only [Go.AM.repV]; exact hr0), rfl⟩)).mono fun e W' ⟨he, bel⟩ => ?_
  subst he
  exact ⟨_, rfl, _, _, _, [], _, [], hW', trodAll_mk1 (shut_bool Tryz.underlying4 _), (trodAll_cons_mk (Below.trod laidOut (by kernel_rfl) (of_decide_eq_true (by kernel_rfl)) k0 bel lt0) trodAll_mk0), rfl, bel.frame _, fun h => by cases h⟩
theorem over : Rows.fnTopRow.holds Tryz.pinned (OpenSpec.ofChange Rows.fnTopSpec) :=
  OpenClaim.holds_of_wide 3 Tryz.f3 rfl rfl rfl rfl rfl rfl rfl ⟨rfl, rfl, rfl, rfl, rfl⟩ rfl rfl rfl rfl rfl (by kernel_rfl) Tryz.func3 (by kernel_rfl)
    (of_decide_eq_true (by kernel_rfl)) (by unfold Func.isWrapper; first | (rw [if_pos (by decide +kernel)]; kernel_rfl) | (rw [if_neg (by decide +kernel)]; exact ⟨rfl, rfl⟩))
    (fun os started H enc _ => lifted os started H enc)
theorem proved : Rows.FnTopSaid := over
end Go.Proofs.YtmppoajepbbmiaaGreat.fnTop
namespace Go.Proofs.YtmppoajepbbmiaaGreat
theorem fnTop_holds : Rows.FnTopSaid := fnTop.proved
#print axioms fnTop_holds
end Go.Proofs.YtmppoajepbbmiaaGreat
