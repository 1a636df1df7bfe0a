/- FnSure, part 3 of 3: what the law's functions come to, plain laws on it, and the row; no condition -/
import Derived.Test.YtmppoajepbbmiaaRows
import Derived.Test.YtmppoajepbbmiaaChecked
import Derived.WalkKit
import Derived.ProofKit
import Derived.OpenShut
import Derived.ShutString
import Derived.ChangeOld
import Derived.Below
import Derived.SizedLaws
import Derived.Test.YtmppoajepbbmiaaYFSure2
/- A contract whose answer ends with the head of a row of its own; no condition. -/
namespace Go.AM
set_option linter.unusedVariables false
set_option linter.unusedSimpArgs false
open Go.RowKit
variable {P : Program}

theorem repAs_snoc {μ μ2 : Mu} {w : World} {G : Nat → Prop} {a b : A} (hx : ∀ l C, μ l = some C → μ2 l = some C) (hab : ∀ u, repA μ w G a u → repA μ2 w G b u) : ∀ {ls : List A} {us : List Value}, repAs μ w G (ls ++ [a]) us → repAs μ2 w G (ls ++ [b]) us
  | [], us, h => by
    simp only [List.nil_append, repAs] at h ⊢
    obtain ⟨u, us', rfl, h1, h2⟩ := h
    exact ⟨u, us', rfl, hab u h1, h2⟩
  | x :: ls, us, h => by
    simp only [List.cons_append, repAs] at h ⊢
    obtain ⟨u, us', rfl, h1, h2⟩ := h
    exact ⟨u, us', rfl, repA_mono hx (fun _ _ => rfl) (fun _ h => h) _ _ h1, repAs_snoc hx hab h2⟩
theorem argSto_k {st : List (Option C)} {i : Nat} : lkL (.k i) (argSto 0 st) = st[i]? := by
  rw [argSto_lk]
  simp only [Nat.zero_le, if_true, Nat.sub_zero]
theorem argSto_t {st : List (Option C)} {d j : Nat} : lkL (.t d j) (argSto 0 st) = none := by rw [argSto_lk]
theorem Ok.cutB {f : FuncId} {args : List V} {s st0 : List (Option C)} {pre : List A} {e : El} {xs zs : List e.T} {n : Nat} (h : Ok P f args s (.agg (pre ++ [.sub (.k st0.length) 0 n])) (st0 ++ [some (.row e xs)])) (hs : s.length ≤ st0.length) (hn : n ≤ xs.length) (hne : 0 < xs.length) (hz : xs.take n = zs) :
    Ok P f args s (.agg (pre ++ [.own (.k (st0.length + 1))])) (st0 ++ [none, some (.row e zs)]) := by
  subst hz
  obtain ⟨h1, h2⟩ := h
  refine ⟨by simp; omega, fun w μ G cargs hr hrep => (h2 w μ G cargs hr hrep).mono fun u w' ⟨μ', G', k1, k2⟩ => ?_⟩
  have hl0 : lkC (.k st0.length) (argSto 0 (st0 ++ [some (.row e xs)])) = some (.row e xs) := by rw [lkC_some, argSto_k]; simp
  obtain ⟨B, b1, b2, b3⟩ := k2.hr.live _ _ hl0
  have hn1 : μ' (.k (st0.length + 1)) = none := by
    cases hm : μ' (.k (st0.length + 1)) with
    | none => rfl
    | some B =>
      have := k2.hr.known _ _ hm
      rw [argSto_k] at this
      simp at this
  obtain ⟨c1, c2, c3, c4, c5⟩ := b2
  have hv : B.virt = false := by
    cases hq : B.virt with
    | false => rfl
    | true => rw [(c4 hq).1] at hne; simp at hne
  obtain ⟨d1, arr, te, d2, d3, d4⟩ := c5 hv
  let B2 : Blk := { B with len := n }
  let μ2 : Mu := fun l => if l = .k (st0.length + 1) then some B2 else μ' l
  have hx : ∀ l C, μ' l = some C → μ2 l = some C := by
    intro l C hC
    show (if l = .k (st0.length + 1) then _ else _) = _
    rw [if_neg (by rintro rfl; rw [hn1] at hC; cases hC)]
    exact hC
  have hl : μ2 (.k (st0.length + 1)) = some B2 := if_pos rfl
  have hlk : ∀ l c, lkC l (argSto 0 (st0 ++ [none, some (.row e (xs.take n))])) = some c → (l = .k (st0.length + 1) ∧ c = .row e (xs.take n)) ∨ (l ≠ .k (st0.length + 1) ∧ l ≠ .k st0.length ∧ lkC l (argSto 0 (st0 ++ [some (.row e xs)])) = some c ∧ μ2 l = μ' l) := by
    intro l c hc
    cases l with
    | t d j => rw [lkC_some, argSto_t] at hc; cases hc
    | k i =>
      rw [lkC_some, argSto_k] at hc
      rcases Nat.lt_trichotomy i st0.length with q | q | q
      · rw [List.getElem?_append_left q] at hc
        refine .inr ⟨by simp; omega, by simp; omega, ?_, if_neg (by simp; omega)⟩
        rw [lkC_some, argSto_k, List.getElem?_append_left q]
        exact hc
      · subst q
        simp at hc
      · rw [List.getElem?_append_right (by omega)] at hc
        by_cases q2 : i = st0.length + 1
        · subst q2
          rw [show st0.length + 1 - st0.length = 1 by omega] at hc
          exact .inl ⟨rfl, by simpa using hc.symm⟩
        · rw [List.getElem?_eq_none (by simp; omega)] at hc
          cases hc
  have hlive : ∀ b, Live μ2 (argSto 0 (st0 ++ [none, some (.row e (xs.take n))])) b → Live μ' (argSto 0 (st0 ++ [some (.row e xs)])) b := by
    rintro b ⟨l, c, C, e1, e2, e3, rfl⟩
    rcases hlk l c e1 with ⟨rfl, _⟩ | ⟨_, _, q2, q3⟩
    · rw [hl] at e2
      obtain rfl := Option.some.inj e2
      exact ⟨.k st0.length, _, B, hl0, b1, hv, rfl⟩
    · exact ⟨l, c, C, q2, by rw [← q3]; exact e2, e3, rfl⟩
  refine ⟨μ2, G', ?_, ⟨⟨fun l c hc => ?_, fun l C hC => ?_, fun l l' c c' C C' hc hc' hC hC' hvt hvt' hne' => ?_, k2.hr.good⟩, fun i hi => ?_, k2.gnew, k2.frame, k2.size, k2.os, k2.tape, k2.output, fun l C hC => ?_, fun b hb => k2.liv b (hlive b hb)⟩⟩
  · simp only [repV] at k1 ⊢
    obtain ⟨us, rfl, k1⟩ := k1
    refine ⟨us, rfl, repAs_snoc hx (fun u k1 => ?_) k1⟩
    simp only [repA] at k1 ⊢
    obtain ⟨C, o, q1, q2, q3, q4⟩ := k1
    rw [b1] at q1
    obtain rfl := Option.some.inj q1
    refine ⟨B2, hl, ?_⟩
    rw [q2, q4 (by omega), d1]
    simp [B2]
  · rcases hlk l c hc with ⟨rfl, rfl⟩ | ⟨_, _, q2, q3⟩
    · refine ⟨B2, hl, ⟨?_, ?_, c3, fun q => ?_, fun _ => ⟨d1, arr, te, d2, d3, fun i x hx' => ?_⟩⟩, b3⟩
      · show n = _
        rw [List.length_take]; omega
      · show n ≤ B.cap
        omega
      · rw [show B2.virt = B.virt from rfl, hv] at q; cases q
      · have hxi : xs[i]? = some x := by
          rw [List.getElem?_take] at hx'
          split at hx'
          · exact hx'
          · cases hx'
        obtain ⟨us, m1, m2⟩ := d4 i x hxi
        exact ⟨us, repAs_mono hx (fun _ _ => rfl) (fun _ h => h) _ _ m1, m2⟩
    · obtain ⟨C, m1, m2, m3⟩ := k2.hr.live l c q2
      exact ⟨C, hx l C m1, crep_mono hx (fun _ _ => rfl) (fun _ h => h) (fun _ => rfl) m2, m3⟩
  · by_cases q : l = .k (st0.length + 1)
    · subst q; rw [argSto_k]; simp
    · have := k2.hr.known l C (by rw [← hC]; exact (if_neg q).symm)
      cases l with
      | t d j => rw [argSto_t] at this; cases this
      | k i =>
        rw [argSto_k] at this ⊢
        obtain ⟨oc, ho⟩ := Option.isSome_iff_exists.mp this
        have := (List.getElem?_eq_some_iff.1 ho).1
        rw [List.getElem?_eq_getElem (by simp at this ⊢; omega)]
        rfl
  · rcases hlk l c hc with ⟨rfl, _⟩ | ⟨p1, p2, q2, q3⟩
    · rw [hl] at hC
      obtain rfl := Option.some.inj hC
      rcases hlk l' c' hc' with ⟨rfl, _⟩ | ⟨r1, r2, r3, r4⟩
      · exact absurd rfl hne'
      · exact k2.hr.apart (.k st0.length) l' _ c' B C' hl0 r3 b1 (by rw [← r4]; exact hC') hv hvt' fun e => r2 e.symm
    · rcases hlk l' c' hc' with ⟨rfl, _⟩ | ⟨r1, r2, r3, r4⟩
      · rw [hl] at hC'
        obtain rfl := Option.some.inj hC'
        exact k2.hr.apart l (.k st0.length) c _ C B q2 hl0 (by rw [← q3]; exact hC) b1 hvt hv p2
      · exact k2.hr.apart l l' c c' C C' q2 r3 (by rw [← q3]; exact hC) (by rw [← r4]; exact hC') hvt hvt' hne'
  · have : i < s.length := by
      rw [argSto_k] at hi
      obtain ⟨oc, ho⟩ := Option.isSome_iff_exists.mp hi
      exact (List.getElem?_eq_some_iff.1 ho).1
    show (if L.k i = .k (st0.length + 1) then _ else _) = _
    rw [if_neg (by simp; omega)]
    exact k2.kk i hi
  · by_cases q : l = .k (st0.length + 1)
    · subst q
      rw [hl] at hC
      obtain rfl := Option.some.inj hC
      rcases k2.new _ _ b1 with h3 | h3 | h3 | h3
      · have := hr.known _ _ h3
        rw [argSto_k, List.getElem?_eq_none hs] at this
        cases this
      · rw [hv] at h3; cases h3
      · exact .inr (.inr (.inl h3))
      · exact .inr (.inr (.inr h3))
    · exact k2.new l C (by rw [← hC]; exact (if_neg q).symm)
end Go.AM

/- The reference's draws of books: some book within bounds; condition: a code of bytes, few draws before. -/
namespace Go.Proofs.Ytmppoajepbbmiaa.AM
open Go.AM Go.RowKit
set_option linter.unusedVariables false
set_option linter.unusedSimpArgs false
set_option maxRecDepth 100000

theorem bk_lens {b : Bk} (hb : BkOk b) : b.ms.length ≤ 6 ∧ b.ts.length = b.ms.length := ⟨hb.2.2.1.1.1, hb.2.2.1.2.1⟩
theorem name_size {b : Bk} (hb : BkOk b) {i : Int} (h0 : 0 ≤ i) (h1 : i < b.ms.length) : (rdM b.ms i).f0.size ≤ 1000 := (mvsD_rd (bkD_of hb).md h0 h1).1
theorem event_ok {bs : List Int} (hbs : Bytes bs) (p : Int) (b : Bk) (hb : BkOk b) (hp : 0 ≤ p ∧ p < 1099511626000) : ∃ (b' : Bk) (q : Int), (BkOk b' ∧ p ≤ q ∧ q ≤ p + 20) ∧
    Ok P 132 [.one (.ptr (.k 0) 0), b.own (.k 1) (.k 2)] [some (.cells [.lst (.int .u8) bs false, .int .i64 p]), some (.row .mv b.ms), some (.row (.int .i64) b.ts)]
      (b'.own (.k 3) (.k 4)) [some (.cells [.lst (.int .u8) bs false, .int .i64 q]), some (.row .mv b.ms), some (.row (.int .i64) b.ts), some (.row .mv b'.ms), some (.row (.int .i64) b'.ts)] := by
  obtain ⟨hl, ht⟩ := bk_lens hb
  have hw := tkWf_l (bkD_of hb).td
  have htx : txts.length = 6 := rfl
  have hadd := fun m => strip_sadd_ok b m (by omega) (by omega) hw
  have hdrop := fun n => strip_sdrop_ok b n (by omega) (by omega) hw
  have hround := fun n => strip_sround_ok b n (by omega) (by omega) hw
  have htick := stick_ok b (by omega) (by omega) hw
  refine Ok.of_ex2 (F := mk Try.f132 3) Try.func132 rfl rfl tabOk mixed rfl rfl rfl rfl rfl (Nat.le_of_ble_eq_true rfl) (fun _ _ => Nat.le_of_ble_eq_true rfl) (.go 5000 ?_)
  have loop : ∀ (d i : Nat) (z q : Int) (s : ByteArray), z = i → i + d = b.ms.length → p ≤ q ∧ q ≤ p + 20 → Run P (mk Try.f132 3) (fun v st => ∃ (b' : Bk) (q : Int), (BkOk b' ∧ p ≤ q ∧ q ≤ p + 20) ∧ v = b'.own (.k 3) (.k 4) ∧ st = [some (.cells [.lst (.int .u8) bs false, .int .i64 q]), some (.row .mv b.ms), some (.row (.int .i64) b.ts), some (.row .mv b'.ms), some (.row (.int .i64) b'.ts)])
      (.loop ⟨[(3, .one (.ptr (.t 3 0) 0)), (4, .one (.ptr (.t 4 0) 0)), (5, .one (.str s)), (6, .one (.int .i64 z))],
        [(.k 0, some (.cells [.lst (.int .u8) bs false, .int .i64 q])), (.k 1, some (.row .mv b.ms)), (.k 2, some (.row (.int .i64) b.ts)), (.t 3 0, some (.cells [.int .i64 b.now, .int .i64 b.shift, .own (.k 1), .own (.k 2)])), (.t 4 0, some (.cells [.int .i64 0, .int .i64 0, .nil, .nil]))], [.lp [0, 1, 0, 0, 1, 1, 1, 1, 1, 0, 1, 0, 1, 1, 1], .blk 1, .code [1, 0, 1, 1, 1, 1, 1, 0, 1, 0, 1, 1, 1], .blk 0, .code [1, 1, 1, 1]], none⟩) := by
    intro d
    induction d with
    | zero =>
      intro i z q s hz hd hq
      subst hz
      refine Run.loop ?_
      repeat' (conv => arg 4; whnf); first | refine Run.ret ⟨?_, rfl⟩ | refine Run.condT ?_ | refine Run.condf ?_ | refine Run.condD (fun h => ?_) (fun h => ?_) | refine Run.condN (fun h => ?_) (fun h => ?_) | refine Run.condE (fun h => ?_) (fun h => ?_) | refine Run.condF (fun h => ?_) (fun h => ?_) | refine Run.condM (fun h => ?_) (fun h => ?_) | refine Run.condB (fun h => ?_) (fun h => ?_) | refine Run.check1 ?_ | (exfalso; omega) | refine Run.call (hround _) rfl ?_ | (refine Run.ret ⟨⟨_, _, _, _⟩, _, ⟨?_, ?_, ?_⟩, rfl, rfl⟩)
      all_goals first | exact roundR_ok _ _ | omega | trace_state
    | succ d ih =>
      intro i z q s hz hd hq
      subst hz
      have e := fs (i := i) (by omega)
      refine Run.loop ?_
      repeat' (conv => arg 4; whnf); first | refine Run.ret ⟨?_, rfl⟩ | refine Run.condT ?_ | refine Run.condf ?_ | refine Run.condD (fun h => ?_) (fun h => ?_) | refine Run.condN (fun h => ?_) (fun h => ?_) | refine Run.condE (fun h => ?_) (fun h => ?_) | refine Run.condF (fun h => ?_) (fun h => ?_) | refine Run.condM (fun h => ?_) (fun h => ?_) | refine Run.condB (fun h => ?_) (fun h => ?_) | refine Run.check1 ?_ | (exfalso; omega) | refine Run.need1 (by simp only [allP, true_and, and_true]; omega) ?_ | refine Run.round ⟨[(.t 3 0, .t 3 0), (.t 4 0, .t 4 0)], [], []⟩ (ih (i + 1) _ _ _ e.h (by omega) hq) rfl (by (repeat' (first | exact wkEnv_nil | refine wkEnv_cons rfl ?_ | exact wkSto_nil | refine wkSto_none ?_ | refine wkSto_some rfl ?_)); done) (by (repeat' (first | exact wkEnv_nil | refine wkEnv_cons rfl ?_ | exact wkSto_nil | refine wkSto_none ?_ | refine wkSto_some rfl ?_)); done)
      all_goals trace_state
  repeat' (conv => arg 4; whnf); first | refine Run.ret ⟨?_, rfl⟩ | refine Run.condT ?_ | refine Run.condf ?_ | refine Run.condD (fun h => ?_) (fun h => ?_) | refine Run.condN (fun h => ?_) (fun h => ?_) | refine Run.condE (fun h => ?_) (fun h => ?_) | refine Run.condF (fun h => ?_) (fun h => ?_) | refine Run.condM (fun h => ?_) (fun h => ?_) | refine Run.condB (fun h => ?_) (fun h => ?_) | refine Run.check1 ?_ | (exfalso; omega) | refine Run.call (names_ok) rfl ?_ | refine Run.callE (of_ok hbs _ _ (by omega) txts_ok (by omega) (by omega)) (fun _ => rfl) (fun x hx => ?_) | refine Run.callE (pick_ok hbs _ _ (by omega)) (fun _ => rfl) (fun x hx => ?_) | refine Run.callE2 (move_ok hbs _ _ _ (by omega) (by assumption)) (fun _ _ => rfl) (fun m q2 hm => ?_) | refine Run.call (hadd m) rfl ?_ | refine Run.call (hdrop _) rfl ?_ | refine Run.call (htick) rfl ?_ | refine Run.need1 (by simp only [allP, true_and, and_true]; omega) ?_ | refine Run.round ⟨[(.t 3 0, .t 3 0), (.t 4 0, .t 4 0)], [], []⟩ (loop b.ms.length 0 _ _ _ rfl (by omega) ?_) rfl (by (repeat' (first | exact wkEnv_nil | refine wkEnv_cons rfl ?_ | exact wkSto_nil | refine wkSto_none ?_ | refine wkSto_some rfl ?_)); done) (by (repeat' (first | exact wkEnv_nil | refine wkEnv_cons rfl ?_ | exact wkSto_nil | refine wkSto_none ?_ | refine wkSto_some rfl ?_)); done) | (refine Run.ret ⟨⟨_, _, _, _⟩, _, ⟨?_, ?_, ?_⟩, rfl, rfl⟩)
  all_goals first
    | exact addR_ok _ _
    | exact dropR_ok _
    | exact tickR_ok _
    | omega
    | trace_state
theorem l6book_ok {bs : List Int} (hbs : Bytes bs) (p : Int) (hp : 0 ≤ p ∧ p < 1099511620000) : ∃ (b : Bk) (q : Int), (BkOk b ∧ p ≤ q ∧ q ≤ p + 400) ∧
    Ok P 110 [.one (.ptr (.k 0) 0)] [some (.cells [.lst (.int .u8) bs false, .int .i64 p])] (b.own (.k 1) (.k 2)) [some (.cells [.lst (.int .u8) bs false, .int .i64 q]), some (.row .mv b.ms), some (.row (.int .i64) b.ts)] := by
  refine Ok.of_ex2 (F := mk Try.f110 1) Try.func110 rfl rfl tabOk mixed rfl rfl rfl rfl rfl (Nat.le_of_ble_eq_true rfl) (fun _ _ => Nat.le_of_ble_eq_true rfl) (.go 5000 ?_)
  have loop : ∀ (d : Nat) (z q : Int) (b : Bk), z = d → d ≤ 14 → BkOk b → p ≤ q ∧ q + 25 * d ≤ p + 400 → Run P (mk Try.f110 1) (fun v st => ∃ (b : Bk) (q : Int), (BkOk b ∧ p ≤ q ∧ q ≤ p + 400) ∧ v = b.own (.k 1) (.k 2) ∧ st = [some (.cells [.lst (.int .u8) bs false, .int .i64 q]), some (.row .mv b.ms), some (.row (.int .i64) b.ts)])
      (.loop ⟨[(0, .one (.ptr (.k 0) 0)), (2, .one (.ptr (.t 2 0) 0)), (3, .one (.ptr (.t 3 0) 0)), (4, .one (.int .i64 z))],
        [(.k 0, some (.cells [.lst (.int .u8) bs false, .int .i64 q])), (.t 2 0, some (.cells [.int .i64 0, .int .i64 0, .nil, .nil])), (.t 3 0, some (.cells [.int .i64 b.now, .int .i64 b.shift, .own (.t 1000 0), .own (.t 1000 1)])), (.t 1000 0, some (.row .mv b.ms)), (.t 1000 1, some (.row (.int .i64) b.ts))], [.lp [0, 1, 0, 1, 1, 1], .blk 0, .code [1, 1, 1, 1]], none⟩) := by
    intro d
    induction d with
    | zero =>
      intro z q b hz hd hb hq
      subst hz
      refine Run.loop ?_
      repeat' (conv => arg 4; whnf); first | refine Run.ret ⟨?_, rfl⟩ | refine Run.condT ?_ | refine Run.condf ?_ | refine Run.condD (fun h => ?_) (fun h => ?_) | refine Run.condN (fun h => ?_) (fun h => ?_) | refine Run.condE (fun h => ?_) (fun h => ?_) | refine Run.condF (fun h => ?_) (fun h => ?_) | refine Run.condM (fun h => ?_) (fun h => ?_) | refine Run.condB (fun h => ?_) (fun h => ?_) | refine Run.check1 ?_ | (exfalso; omega) | (refine Run.ret ⟨⟨_, _, _, _⟩, _, ⟨hb, ?_, ?_⟩, rfl, rfl⟩)
      all_goals first | omega | trace_state
    | succ d ih =>
      intro z q b hz hd hb hq
      subst hz
      have e : Fact (wrap64 (((d + 1 : Nat) : Int) - 1) = (d : Int)) := ⟨(wrap_eq (by omega) (by omega)).trans (by omega)⟩
      obtain ⟨hl, ht⟩ := bk_lens hb
      have hw := tkWf_l (bkD_of hb).td
      have htick := stick_ok b (by omega) (by omega) hw
      have hev := fun q h => event_ok hbs q b hb h
      have ih1 := fun q h => ih _ q (tickR b).1 e.h (by omega) (tickR_ok b) h
      have ih2 := fun q b' hb' h => ih _ q b' e.h (by omega) hb' h
      clear ih
      refine Run.loop ?_
      repeat' (conv => arg 4; whnf); first | refine Run.ret ⟨?_, rfl⟩ | refine Run.condT ?_ | refine Run.condf ?_ | refine Run.condD (fun h => ?_) (fun h => ?_) | refine Run.condN (fun h => ?_) (fun h => ?_) | refine Run.condE (fun h => ?_) (fun h => ?_) | refine Run.condF (fun h => ?_) (fun h => ?_) | refine Run.condM (fun h => ?_) (fun h => ?_) | refine Run.condB (fun h => ?_) (fun h => ?_) | refine Run.check1 ?_ | (exfalso; omega) | refine Run.callE (pick_ok hbs _ _ (by omega)) (fun _ => rfl) (fun x hx => ?_) | refine Run.call (htick) rfl ?_ | refine Run.callE2 (hev _ (by omega)) (fun _ _ => rfl) (fun b2 q2 hb2 => ?_) | refine Run.round ⟨[(.t 2 0, .t 2 0), (.t 3 0, .t 3 0), (.t 34 0, .t 1000 0), (.t 34 1, .t 1000 1)], [], []⟩ (ih1 _ ?_) rfl (by (repeat' (first | exact wkEnv_nil | refine wkEnv_cons rfl ?_ | exact wkSto_nil | refine wkSto_none ?_ | refine wkSto_some rfl ?_)); done) (by (repeat' (first | exact wkEnv_nil | refine wkEnv_cons rfl ?_ | exact wkSto_nil | refine wkSto_none ?_ | refine wkSto_some rfl ?_)); done) | refine Run.round ⟨[(.t 2 0, .t 2 0), (.t 3 0, .t 3 0), (.t 40 0, .t 1000 0), (.t 40 1, .t 1000 1)], [], []⟩ (ih2 q2 b2 hb2.1 (by omega)) rfl (by (repeat' (first | exact wkEnv_nil | refine wkEnv_cons rfl ?_ | exact wkSto_nil | refine wkSto_none ?_ | refine wkSto_some rfl ?_)); done) (by (repeat' (first | exact wkEnv_nil | refine wkEnv_cons rfl ?_ | exact wkSto_nil | refine wkSto_none ?_ | refine wkSto_some rfl ?_)); done)
      all_goals first | omega | trace_state
  repeat' (conv => arg 4; whnf); first | refine Run.ret ⟨?_, rfl⟩ | refine Run.condT ?_ | refine Run.condf ?_ | refine Run.condD (fun h => ?_) (fun h => ?_) | refine Run.condN (fun h => ?_) (fun h => ?_) | refine Run.condE (fun h => ?_) (fun h => ?_) | refine Run.condF (fun h => ?_) (fun h => ?_) | refine Run.condM (fun h => ?_) (fun h => ?_) | refine Run.condB (fun h => ?_) (fun h => ?_) | refine Run.check1 ?_ | (exfalso; omega) | refine Run.callE (pick_ok hbs _ _ (by omega)) (fun _ => rfl) (fun x hx => ?_) | refine Run.round ⟨[(.t 2 0, .t 2 0), (.t 3 0, .t 3 0)], [(.t 1000 0, .mv), (.t 1000 1, .int .i64)], []⟩ (loop (Int.toNat _) _ _ ⟨_, _, [], []⟩ (Int.toNat_of_nonneg ?_).symm ?_ (bk_empty ?_ ?_) ?_) rfl (by (repeat' (first | exact wkEnv_nil | refine wkEnv_cons rfl ?_ | exact wkSto_nil | refine wkSto_none ?_ | refine wkSto_some rfl ?_)); done) (by (repeat' (first | exact wkEnv_nil | refine wkEnv_cons rfl ?_ | exact wkSto_nil | refine wkSto_none ?_ | refine wkSto_some rfl ?_)); done)
  all_goals (try dsimp only)
  all_goals first
    | omega
    | (rw [wrap_eq (by omega) (by omega)]; omega)
    | trace_state
/-- What spoiling a book comes to. -/
def SpoilR (bs : List Int) (p : Int) (b : Bk) (v : V) (st : List (Option C)) : Prop := ∃ (b' : Bk) (q : Int), (BkD b' ∧ p ≤ q ∧ q ≤ p + 10) ∧
  ((v = b'.own (.k 3) (.k 4) ∧ st = [some (.cells [.lst (.int .u8) bs false, .int .i64 q]), some (.row .mv b.ms), some (.row (.int .i64) b.ts), some (.row .mv b'.ms), some (.row (.int .i64) b'.ts)]) ∨
   (∃ (xs : List Int) (n : Nat), n ≤ xs.length ∧ 0 < xs.length ∧ xs.take n = b'.ts ∧ v = .agg [.int .i64 b'.now, .int .i64 b'.shift, .own (.k 3), .sub (.k 4) 0 n] ∧
     st = [some (.cells [.lst (.int .u8) bs false, .int .i64 q]), some (.row .mv b.ms), some (.row (.int .i64) b.ts), some (.row .mv b'.ms), some (.row (.int .i64) xs)]))
theorem spoilR_len {bs : List Int} {p : Int} {b : Bk} {v : V} {st : List (Option C)} (h : SpoilR bs p b v st) : 3 ≤ st.length := by
  obtain ⟨b', q, _, ⟨_, rfl⟩ | ⟨xs, n, _, _, _, _, rfl⟩⟩ := h <;> exact Nat.le_of_ble_eq_true rfl
theorem spoilR_own {bs : List Int} {p : Int} {b : Bk} {now shift q : Int} {ms : List Mv} {ts : List Int} (h : BkD ⟨now, shift, ms, ts⟩) (h1 : p ≤ q) (h2 : q ≤ p + 10) :
    SpoilR bs p b (.agg [.int .i64 now, .int .i64 shift, .own (.k 3), .own (.k 4)]) [some (.cells [.lst (.int .u8) bs false, .int .i64 q]), some (.row .mv b.ms), some (.row (.int .i64) b.ts), some (.row .mv ms), some (.row (.int .i64) ts)] := ⟨⟨now, shift, ms, ts⟩, q, ⟨h, h1, h2⟩, .inl ⟨rfl, rfl⟩⟩
theorem spoilR_sub {bs : List Int} {p : Int} {b : Bk} {now shift q : Int} {ms : List Mv} {xs : List Int} {n : Nat} (h : BkD ⟨now, shift, ms, xs.take n⟩) (h1 : p ≤ q) (h2 : q ≤ p + 10) (h3 : n ≤ xs.length) (h4 : 0 < xs.length) :
    SpoilR bs p b (.agg [.int .i64 now, .int .i64 shift, .own (.k 3), .sub (.k 4) 0 n]) [some (.cells [.lst (.int .u8) bs false, .int .i64 q]), some (.row .mv b.ms), some (.row (.int .i64) b.ts), some (.row .mv ms), some (.row (.int .i64) xs)] := ⟨⟨now, shift, ms, xs.take n⟩, q, ⟨h, h1, h2⟩, .inr ⟨xs, n, h3, h4, rfl, rfl, rfl⟩⟩
theorem l6spoil_rel {bs : List Int} (hbs : Bytes bs) (p : Int) (b : Bk) (hb : BkOk b) (hp : 0 ≤ p ∧ p < 1099511621000) : ∃ v st, SpoilR bs p b v st ∧
    Ok P 111 [.one (.ptr (.k 0) 0), b.own (.k 1) (.k 2)] [some (.cells [.lst (.int .u8) bs false, .int .i64 p]), some (.row .mv b.ms), some (.row (.int .i64) b.ts)] v st := by
  obtain ⟨hl, ht⟩ := bk_lens hb
  have hD := bkD_of hb
  have hcp := scopy_ok b (by omega) (by omega)
  have hset : ∀ (i : Int), W64L (b.ts.set i.toNat (wrap64 (wrap64 (rd b.ts i + 0)))) → True := fun _ _ => trivial
  refine Ok.of_rel (F := mk Try.f111 3) Try.func111 rfl rfl tabOk mixed rfl rfl rfl rfl rfl (Nat.le_of_ble_eq_true rfl) (R := SpoilR bs p b) (fun _ _ h => spoilR_len h) (.go 5000 ?_)
  repeat' (conv => arg 4; whnf); first | refine Run.ret ⟨?_, rfl⟩ | refine Run.condT ?_ | refine Run.condf ?_ | refine Run.condD (fun h => ?_) (fun h => ?_) | refine Run.condN (fun h => ?_) (fun h => ?_) | refine Run.condE (fun h => ?_) (fun h => ?_) | refine Run.condF (fun h => ?_) (fun h => ?_) | refine Run.condM (fun h => ?_) (fun h => ?_) | refine Run.condB (fun h => ?_) (fun h => ?_) | refine Run.check1 ?_ | (exfalso; omega) | refine Run.call (hcp) rfl ?_ | refine Run.callE (pick_ok hbs _ _ (by omega)) (fun _ => rfl) (fun x hx => ?_) | refine Run.callE2 (spoil_ok hbs _ _ (by omega) (mvsD_rd hD.md (by omega) (by omega))) (fun _ _ => rfl) (fun m q2 hm => ?_) | refine Run.need1 (by simp only [allP, true_and, and_true, List.length_cons, List.length_nil]; omega) ?_ | (refine Run.ret (spoilR_own ⟨?_, ?_, ?_, ?_, ?_, ?_⟩ ?_ ?_)) | (refine Run.ret (spoilR_sub ⟨?_, ?_, ?_, ?_, ?_, ?_⟩ ?_ ?_ ?_ ?_))
  all_goals clear hset
  all_goals (try dsimp only)
  all_goals first
    | omega
    | exact hD.md
    | exact hD.lt
    | exact hD.lm
    | exact hD.td
    | exact hD.nd
    | exact hD.sd
    | exact w64_wrap _
    | (simp only [List.length_set, List.length_take]; omega)
    | exact mvsD_set hD.md hm.1 _
    | exact w64l_set hD.td (w64_wrap _) _
    | exact w64l_take hD.td _
    | (refine w64_rd ?_ _
       repeat' first | exact w64l_nil | refine w64l_cons ?_ ?_
       all_goals (exact w64_lit (by omega)))
    | (conv => arg 4; whnf)
    | trace_state
theorem l6any_ok {bs : List Int} (hbs : Bytes bs) (p : Int) (hp : 0 ≤ p ∧ p < 1099511610000) : ∃ (b : Bk) (q : Int), (BkD b ∧ p ≤ q ∧ q ≤ p + 420) ∧
    Ok P 84 [.one (.ptr (.k 0) 0)] [some (.cells [.lst (.int .u8) bs false, .int .i64 p])] (b.own (.k 1) (.k 2)) [some (.cells [.lst (.int .u8) bs false, .int .i64 q]), some (.row .mv b.ms), some (.row (.int .i64) b.ts)] := by
  refine Ok.of_ex2 (F := mk Try.f84 1) Try.func84 rfl rfl tabOk mixed rfl rfl rfl rfl rfl (Nat.le_of_ble_eq_true rfl) (fun _ _ => Nat.le_of_ble_eq_true rfl) (.go 5000 ?_)
  repeat' (conv => arg 4; whnf); first | refine Run.ret ⟨?_, rfl⟩ | refine Run.condT ?_ | refine Run.condf ?_ | refine Run.condD (fun h => ?_) (fun h => ?_) | refine Run.condN (fun h => ?_) (fun h => ?_) | refine Run.condE (fun h => ?_) (fun h => ?_) | refine Run.condF (fun h => ?_) (fun h => ?_) | refine Run.condM (fun h => ?_) (fun h => ?_) | refine Run.condB (fun h => ?_) (fun h => ?_) | refine Run.check1 ?_ | (exfalso; omega) | refine Run.callE2 (l6book_ok hbs _ (by omega)) (fun _ _ => rfl) (fun b q1 hb => ?_) | refine Run.callE (pick_ok hbs _ _ (by omega)) (fun _ => rfl) (fun x hx => ?_) | (rcases l6spoil_rel hbs (q1 + 1) b hb.1 (by omega) with ⟨_, _, ⟨b', q, hq, ⟨rfl, rfl⟩ | ⟨xs, n, h1, h2, h3, rfl, rfl⟩⟩, hok⟩; all_goals first | refine Run.call (Ok.cutB (pre := [.int .i64 b'.now, .int .i64 b'.shift, .own (.k 3)]) (st0 := [_, _, _, _]) hok (Nat.le_of_ble_eq_true rfl) h1 h2 h3) rfl ?_ | refine Run.call hok rfl ?_) | (refine Run.ret ⟨⟨_, _, _, _⟩, _, ⟨?_, ?_, ?_⟩, rfl, rfl⟩)
  all_goals first
    | exact bkD_of hb.1
    | omega
    | exact hq.1
    | trace_state
end Go.Proofs.Ytmppoajepbbmiaa.AM

/- The reference's draw of a book that may hardly be sure; condition: a code of bytes. -/
namespace Go.Proofs.Ytmppoajepbbmiaa.AM
open Go.AM Go.RowKit
set_option linter.unusedVariables false
set_option linter.unusedSimpArgs false
set_option maxRecDepth 100000

theorem bkd_own {now shift : Int} {ms : List Mv} {ts : List Int} (h : BkD ⟨now, shift, ms, ts⟩) : ∃ b : Bk, BkD b ∧ (V.agg [.int .i64 now, .int .i64 shift, .own (.k 0), .own (.k 1)]) = b.own (.k 0) (.k 1) ∧ ([some (.row .mv ms), some (.row (.int .i64) ts)] : List (Option C)) = [some (.row .mv b.ms), some (.row (.int .i64) b.ts)] := ⟨⟨now, shift, ms, ts⟩, h, rfl, rfl⟩
theorem mvsD_late {l : List Mv} (h : MvsD l) {i : Int} (h0 : 0 ≤ i) (h1 : i < l.length) {t : Int} (ht : W64 t) : MvsD (l.set i.toNat ⟨(rdM l i).f0, (rdM l i).f1, (rdM l i).f2, (rdM l i).f3, t, (rdM l i).f5⟩) := by
  obtain ⟨k0, k1, k2, k3, k4⟩ := mvsD_rd h h0 h1
  refine mvsD_set h ?_ _
  exact ⟨k0, k1, k2, ht, k4⟩
theorem drawSure_ok {bs : List Int} (hb : Bytes bs) : ∃ b : Bk, BkD b ∧
    Ok P 42 [.one (.lst (.int .u8) bs false)] [] (b.own (.k 0) (.k 1)) [some (.row .mv b.ms), some (.row (.int .i64) b.ts)] := by
  have hb2 := bytes_take hb 2000
  refine Ok.of_ex (F := mk Try.f42 0) Try.func42 rfl rfl tabOk mixed rfl rfl rfl rfl rfl (Nat.le_of_ble_eq_true rfl) (fun _ => Nat.le_of_ble_eq_true rfl) (.go 5000 ?_)
  repeat' (conv => arg 4; whnf); first | refine Run.ret ⟨?_, rfl⟩ | refine Run.condT ?_ | refine Run.condf ?_ | refine Run.condD (fun h => ?_) (fun h => ?_) | refine Run.condN (fun h => ?_) (fun h => ?_) | refine Run.condE (fun h => ?_) (fun h => ?_) | refine Run.condF (fun h => ?_) (fun h => ?_) | refine Run.condM (fun h => ?_) (fun h => ?_) | refine Run.condB (fun h => ?_) (fun h => ?_) | refine Run.check1 ?_ | (exfalso; omega) | refine Run.call (open_ok) rfl ?_ | refine Run.callE2 (l6any_ok hb2 _ (by omega)) (fun _ _ => rfl) (fun b q1 hD => ?_) | refine Run.callE (pick_ok hb2 _ _ (by omega)) (fun _ => rfl) (fun x hx => ?_) | refine Run.need1 (by simp only [allP, true_and, and_true, List.length_set]; omega) ?_ | (refine Run.ret (bkd_own ⟨?_, ?_, ?_, ?_, ?_, ?_⟩))
  all_goals (try dsimp only)
  all_goals first
    | exact hD.1.md
    | exact hD.1.td
    | exact hD.1.nd
    | exact hD.1.sd
    | exact hD.1.lt
    | exact hD.1.lm
    | (simp only [List.length_set]; exact hD.1.lm; done)
    | (refine mvsD_late hD.1.md (by omega) (by omega) (w64_wrap _); done)
    | (refine mvsD_late (mvsD_late hD.1.md (by omega) (by omega) (w64_wrap _)) (by omega) (by rw [List.length_set]; omega) (w64_lit (by omega)); done)
    | trace_state
end Go.Proofs.Ytmppoajepbbmiaa.AM

/- What FnSure asks of a round; condition: a book that is ok, a place in it. -/
namespace Go.Proofs.Ytmppoajepbbmiaa.AM
open Go.AM Go.RowKit
set_option linter.unusedVariables false
set_option linter.unusedSimpArgs false
set_option maxRecDepth 100000

theorem wround_ok (b : Bk) (a : Nat) (hb : BkOk b) (ha : a < b.ms.length) : Ok P 45 [b.lent, .one (.int .i64 (a : Int))] [] (.one (.bool (decide (RoundOk b a)))) [] := by
  have hft := hb.2.2.1
  have h6 := hft.1.1
  have hlen := hft.2.1
  have hta := bk_tick hb ha
  have e4 : Fact (wrap64 (tk b.ts a + 4) = tk b.ts a + 4) := fw (by omega)
  have e6 : Fact (wrap64 (tk b.ts a + 6) = tk b.ts a + 6) := fw (by omega)
  refine Ok.of_run (F := mk Try.f45 0) Try.func45 rfl rfl tabOk mixed rfl rfl rfl rfl rfl (Nat.le_of_ble_eq_true rfl) (Nat.le_of_ble_eq_true rfl) (.go 5000 ?_)
  have loop : ∀ (d i : Nat) (z y : Int) (s : List Mv), z = i → y = tk b.ts a → i + d = b.ms.length → s = wrL b a i → (a < i → GoneOk b a) → WrOk b a i → Run P (mk Try.f45 0) (fun v st => v = .one (.bool (decide (RoundOk b a))) ∧ st = [])
      (.loop ⟨[(1, .one (.int .i64 (a : Int))), (2, .one (.ptr (.t 2 0) 0)), (5, .one (.int .i64 y)), (6, .one (.own (.t 1000 0))), (7, .one (.int .i64 z))], [(.t 2 0, some (.cells b.lent.atoms)), (.t 1000 0, some (.row .mv s))], [.lp [0, 1, 0, 1, 1, 1], .blk 0, .code [1, 1, 1, 1]], none⟩) := by
    intro d
    induction d with
    | zero =>
      intro i z y s hz hy hd hs hg hw
      subst hz; subst hy
      obtain rfl : i = b.ms.length := by omega
      have hbest := best_ok s 6
      rw [hs, wr_round hb ha (hg ha) hw] at hbest
      subst hs
      refine Run.loop ?_
      repeat' (conv => arg 4; whnf); first | refine Run.ret ⟨?_, rfl⟩ | refine Run.condT ?_ | refine Run.condf ?_ | refine Run.condD (fun h => ?_) (fun h => ?_) | refine Run.condN (fun h => ?_) (fun h => ?_) | refine Run.condE (fun h => ?_) (fun h => ?_) | refine Run.condF (fun h => ?_) (fun h => ?_) | refine Run.condM (fun h => ?_) (fun h => ?_) | refine Run.condB (fun h => ?_) (fun h => ?_) | refine Run.check1 ?_ | (exfalso; omega) | refine Run.call (hbest) rfl ?_
      all_goals first | rfl | (exfalso; omega) | trace_state
    | succ d ih =>
      intro i z y s hz hy hd hs hg hw
      subst hz; subst hy
      have hi : i < b.ms.length := by omega
      have e := fs (i := i) (by omega)
      have hsl : s.length ≤ i := by rw [hs]; exact wrL_len b a i
      have hri := mvOk_range (bk_tick hb hi).2.2.1
      have no : ¬ RoundOk b a → V.one (A.bool false) = V.one (A.bool (decide (RoundOk b a))) := fun h => by rw [decide_eq_false h]
      refine Run.loop ?_
      repeat' (conv => arg 4; whnf); first | refine Run.ret ⟨?_, rfl⟩ | refine Run.condT ?_ | refine Run.condf ?_ | refine Run.condD (fun h => ?_) (fun h => ?_) | refine Run.condN (fun h => ?_) (fun h => ?_) | refine Run.condE (fun h => ?_) (fun h => ?_) | refine Run.condF (fun h => ?_) (fun h => ?_) | refine Run.condM (fun h => ?_) (fun h => ?_) | refine Run.condB (fun h => ?_) (fun h => ?_) | refine Run.check1 ?_ | refine Run.need1 (by simp only [allP, true_and, and_true, List.length_cons, List.length_nil]; omega) ?_ | refine Run.round ⟨[(.t 2 0, .t 2 0), (.t 1000 0, .t 1000 0)], [], []⟩ (ih (i + 1) _ _ _ e.h rfl (by omega) ?_ ?_ ?_) rfl (by (repeat' (first | exact wkEnv_nil | refine wkEnv_cons rfl ?_ | exact wkSto_nil | refine wkSto_none ?_ | refine wkSto_some rfl ?_)); done) (by (repeat' (first | exact wkEnv_nil | refine wkEnv_cons rfl ?_ | exact wkSto_nil | refine wkSto_none ?_ | refine wkSto_some rfl ?_)); done) | refine Run.round ⟨[(.t 2 0, .t 2 0), (.t 82 0, .t 1000 0)], [], []⟩ (ih (i + 1) _ _ _ e.h rfl (by omega) ?_ ?_ ?_) rfl (by (repeat' (first | exact wkEnv_nil | refine wkEnv_cons rfl ?_ | exact wkSto_nil | refine wkSto_none ?_ | refine wkSto_some rfl ?_)); done) (by (repeat' (first | exact wkEnv_nil | refine wkEnv_cons rfl ?_ | exact wkSto_nil | refine wkSto_none ?_ | refine wkSto_some rfl ?_)); done) | (exfalso; omega)
      all_goals clear ih
      all_goals simp only [rd_nat, rdM_nat, e4.h, e6.h] at *
      all_goals first
        | exact no (wr_no1 (i := i) (by omega) (by omega))
        | exact no (wr_no4 (i := i) hb ha hi (by omega) (by omega) (by omega) (by omega) (by omega))
        | (exfalso; omega)
        | (rw [hs, (wr_2 (by omega) (by omega) hw).1]; done)
        | exact (wr_2 (i := i) (by omega) (by omega) hw).2
        | (rw [hs, (wr_3 hb hi (by omega) (by omega) (by omega) hw).1]; done)
        | exact (wr_3 (i := i) hb hi (by omega) (by omega) (by omega) hw).2
        | (rw [hs, (wr_4 (by omega) (by omega) (by omega) (by omega) (by omega) (by omega) hw).1]; done)
        | exact (wr_4 (i := i) (by omega) (by omega) (by omega) (by omega) (by omega) (by omega) hw).2
        | (rw [hs, (wr_5 hb hi (by omega) (by omega) (by omega) (by omega) hw).1]; done)
        | exact (wr_5 (i := i) hb hi (by omega) (by omega) (by omega) (by omega) hw).2
        | (have hia : i = a := by omega
           subst hia
           have hgo : GoneOk b i := by unfold GoneOk; omega
           first
             | (rw [hs, (wr_1 rfl hgo hw).1]; done)
             | exact (wr_1 rfl hgo hw).2
             | exact fun _ => hgo)
        | exact fun h => hg (by omega)
        | trace_state
  repeat' (conv => arg 4; whnf); first | refine Run.ret ⟨?_, rfl⟩ | refine Run.condT ?_ | refine Run.condf ?_ | refine Run.condD (fun h => ?_) (fun h => ?_) | refine Run.condN (fun h => ?_) (fun h => ?_) | refine Run.condE (fun h => ?_) (fun h => ?_) | refine Run.condF (fun h => ?_) (fun h => ?_) | refine Run.condM (fun h => ?_) (fun h => ?_) | refine Run.condB (fun h => ?_) (fun h => ?_) | refine Run.check1 ?_ | refine Run.need1 (by simp only [allP, true_and, and_true]; omega) ?_ | refine Run.round ⟨[(.t 2 0, .t 2 0), (.t 16 0, .t 1000 0)], [], []⟩ (loop b.ms.length 0 _ _ _ rfl ?_ (by omega) ?_ (fun h => absurd h (by omega)) (fun k m hk => absurd hk (by omega))) rfl (by (repeat' (first | exact wkEnv_nil | refine wkEnv_cons rfl ?_ | exact wkSto_nil | refine wkSto_none ?_ | refine wkSto_some rfl ?_)); done) (by (repeat' (first | exact wkEnv_nil | refine wkEnv_cons rfl ?_ | exact wkSto_nil | refine wkSto_none ?_ | refine wkSto_some rfl ?_)); done)
  all_goals first | exact rd_nat _ _ | rfl | trace_state
end Go.Proofs.Ytmppoajepbbmiaa.AM

/- The laws' own words on numbers and ticks; condition: as each says. -/
namespace Go.Proofs.Ytmppoajepbbmiaa.AM
open Go.AM Go.RowKit
set_option linter.unusedVariables false
set_option linter.unusedSimpArgs false
set_option maxRecDepth 100000

theorem wints_ok (t : List Int) (ht : t.length ≤ 1048576) : Ok P 23 [.one (.lst (.int .i64) t false), .one (.lst (.int .i64) t false)] [] (.one (.bool true)) [] := by
  refine Ok.of_run (F := mk Try.f23 0) Try.func23 rfl rfl tabOk mixed rfl rfl rfl rfl rfl (Nat.le_of_ble_eq_true rfl) (Nat.le_of_ble_eq_true rfl) (.go 5000 ?_)
  have loop : ∀ (d i : Nat) (z : Int), z = i → i + d = t.length → Run P (mk Try.f23 0) (fun v st => v = .one (.bool true) ∧ st = []) (.loop ⟨[(0, .one (.lst (.int .i64) t false)), (1, .one (.lst (.int .i64) t false)), (5, .one (.int .i64 z))], [], [.lp [0, 1, 0, 1, 1], .blk 0, .code [1, 1, 1]], none⟩) := by
    intro d
    induction d with
    | zero =>
      intro i z hz hd
      subst hz
      refine Run.loop ?_
      repeat' (conv => arg 4; whnf); first | refine Run.ret ⟨?_, rfl⟩ | refine Run.condT ?_ | refine Run.condf ?_ | refine Run.condD (fun h => ?_) (fun h => ?_) | refine Run.condN (fun h => ?_) (fun h => ?_) | refine Run.condE (fun h => ?_) (fun h => ?_) | refine Run.condF (fun h => ?_) (fun h => ?_) | refine Run.condM (fun h => ?_) (fun h => ?_) | refine Run.condB (fun h => ?_) (fun h => ?_) | refine Run.check1 ?_ | (exfalso; omega)
      all_goals first | rfl | (exfalso; omega)
    | succ d ih =>
      intro i z hz hd
      subst hz
      have e := fs (i := i) (by omega)
      refine Run.loop ?_
      repeat' (conv => arg 4; whnf); first | refine Run.ret ⟨?_, rfl⟩ | refine Run.condT ?_ | refine Run.condf ?_ | refine Run.condD (fun h => ?_) (fun h => ?_) | refine Run.condN (fun h => ?_) (fun h => ?_) | refine Run.condE (fun h => ?_) (fun h => ?_) | refine Run.condF (fun h => ?_) (fun h => ?_) | refine Run.condM (fun h => ?_) (fun h => ?_) | refine Run.condB (fun h => ?_) (fun h => ?_) | refine Run.check1 ?_ | refine Run.need1 (by simp only [allP, true_and, and_true]; omega) ?_ | refine Run.round ⟨[], [], []⟩ (ih (i + 1) _ e.h (by omega)) rfl (by (repeat' (first | exact wkEnv_nil | refine wkEnv_cons rfl ?_ | exact wkSto_nil | refine wkSto_none ?_ | refine wkSto_some rfl ?_)); done) (by (repeat' (first | exact wkEnv_nil | refine wkEnv_cons rfl ?_ | exact wkSto_nil | refine wkSto_none ?_ | refine wkSto_some rfl ?_)); done) | (exfalso; omega)
      all_goals (exfalso; omega)
  repeat' (conv => arg 4; whnf); first | refine Run.ret ⟨?_, rfl⟩ | refine Run.condT ?_ | refine Run.condf ?_ | refine Run.condD (fun h => ?_) (fun h => ?_) | refine Run.condN (fun h => ?_) (fun h => ?_) | refine Run.condE (fun h => ?_) (fun h => ?_) | refine Run.condF (fun h => ?_) (fun h => ?_) | refine Run.condM (fun h => ?_) (fun h => ?_) | refine Run.condB (fun h => ?_) (fun h => ?_) | refine Run.check1 ?_ | refine Run.round ⟨[], [], []⟩ (loop t.length 0 _ rfl (by omega)) rfl (by (repeat' (first | exact wkEnv_nil | refine wkEnv_cons rfl ?_ | exact wkSto_nil | refine wkSto_none ?_ | refine wkSto_some rfl ?_)); done) (by (repeat' (first | exact wkEnv_nil | refine wkEnv_cons rfl ?_ | exact wkSto_nil | refine wkSto_none ?_ | refine wkSto_some rfl ?_)); done)
  all_goals (exfalso; omega)
theorem wgap_ok (a b : Mv) (ha : 1 ≤ a.f2 ∧ a.f2 ≤ 3) (hb : 1 ≤ b.f2 ∧ b.f2 ≤ 3) : Ok P 68 [.agg (encMv a), .agg (encMv b)] [] (.one (.int .i64 (gap a b))) [] := by
  refine Ok.of_run (F := mk Try.f68 0) Try.func68 rfl rfl tabOk mixed rfl rfl rfl rfl rfl (Nat.le_of_ble_eq_true rfl) (Nat.le_of_ble_eq_true rfl) (.go 5000 ?_)
  repeat' (conv => arg 4; whnf); first | refine Run.ret ⟨?_, rfl⟩ | refine Run.condT ?_ | refine Run.condf ?_ | refine Run.condD (fun h => ?_) (fun h => ?_) | refine Run.condN (fun h => ?_) (fun h => ?_) | refine Run.condE (fun h => ?_) (fun h => ?_) | refine Run.condF (fun h => ?_) (fun h => ?_) | refine Run.condM (fun h => ?_) (fun h => ?_) | refine Run.condB (fun h => ?_) (fun h => ?_) | refine Run.check1 ?_
  all_goals (refine congrArg (fun n => V.one (.int .i64 n)) ?_; simp only [gap, wrap64, *]; (repeat' split) <;> first | omega | simp_all)
theorem wfits_ok (l : List Mv) (t : List Int) (hm : MovesOk l) (hlen : t.length = l.length) (hw : TkWf t) : Ok P 27 [.one (.lst .mv l false), .one (.lst (.int .i64) t false)] [] (.one (.bool (decide (Fits l t)))) [] := by
  have h6 := hm.1
  have hwk : ∀ i, i < l.length → 1 ≤ (at' l i).f2 ∧ (at' l i).f2 ≤ 3 := fun i hi => by
    have := mvOk_range (hm.2 i hi).1
    exact ⟨this.2.2.1, this.2.2.2.1⟩
  refine Ok.of_run (F := mk Try.f27 0) Try.func27 rfl rfl tabOk mixed rfl rfl rfl rfl rfl (Nat.le_of_ble_eq_true rfl) (Nat.le_of_ble_eq_true rfl) (.go 5000 ?_)
  have outer : ∀ (d i : Nat) (z : Int), z = i → i + d = l.length → (∀ j, j < i → FitsAt l t j) → Run P (mk Try.f27 0) (fun v st => v = .one (.bool (decide (Fits l t))) ∧ st = []) (.loop ⟨[(0, .one (.lst .mv l false)), (1, .one (.lst (.int .i64) t false)), (5, .one (.int .i64 z))], [], [.lp [0, 1, 0, 1], .blk 0, .code [1, 1]], none⟩) := by
    intro d
    induction d with
    | zero =>
      intro i z hz hd hall
      subst hz
      refine Run.loop ?_
      repeat' (conv => arg 4; whnf); first | refine Run.ret ⟨?_, rfl⟩ | refine Run.condT ?_ | refine Run.condf ?_ | refine Run.condD (fun h => ?_) (fun h => ?_) | refine Run.condN (fun h => ?_) (fun h => ?_) | refine Run.condE (fun h => ?_) (fun h => ?_) | refine Run.condF (fun h => ?_) (fun h => ?_) | refine Run.condM (fun h => ?_) (fun h => ?_) | refine Run.condB (fun h => ?_) (fun h => ?_) | refine Run.check1 ?_ | (exfalso; omega)
      all_goals first
        | (exfalso; omega)
        | exact fits_yes ⟨hm, hlen, fun j hj => hall j (by omega)⟩
    | succ d ih =>
      intro i z hz hd hall
      subst hz
      have e := fs (i := i) (by omega)
      have no : ¬ FitsAt l t i → V.one (A.bool false) = V.one (A.bool (decide (Fits l t))) := fun h => fits_no fun k => h (k.2.2 i (by omega))
      have inner : InR l t i → ∀ (c k : Nat) (z : Int), z = k → k + c = l.length → (∀ j, j < k → j ≠ i → Ap l t i j) → Run P (mk Try.f27 0) (fun v st => v = .one (.bool (decide (Fits l t))) ∧ st = []) (.loop ⟨[(0, .one (.lst .mv l false)), (1, .one (.lst (.int .i64) t false)), (5, .one (.int .i64 (i : Int))), (6, .one (.ptr (.t 6 0) 0)), (7, .one (.int .i64 z))], [(.t 6 0, some (.cells (encMv (rdM l i))))], [.lp [0, 1, 1, 1, 0, 0, 1, 0, 0, 1, 0, 1], .blk 2, .blk 1, .code [1, 1, 0, 0, 1, 0, 1], .lp [0, 1, 0, 1], .blk 0, .code [1, 1]], none⟩) := by
        intro hin c
        have hr := inR_range hm (by omega) hin
        induction c with
        | zero =>
          intro k z hz hc hap
          subst hz
          refine Run.loop ?_
          repeat' (conv => arg 4; whnf); first | refine Run.ret ⟨?_, rfl⟩ | refine Run.condT ?_ | refine Run.condf ?_ | refine Run.condD (fun h => ?_) (fun h => ?_) | refine Run.condN (fun h => ?_) (fun h => ?_) | refine Run.condE (fun h => ?_) (fun h => ?_) | refine Run.condF (fun h => ?_) (fun h => ?_) | refine Run.condM (fun h => ?_) (fun h => ?_) | refine Run.condB (fun h => ?_) (fun h => ?_) | refine Run.check1 ?_ | (exfalso; omega) | refine Run.round ⟨[], [], []⟩ (ih (i + 1) _ e.h (by omega) ?_) rfl (by (repeat' (first | exact wkEnv_nil | refine wkEnv_cons rfl ?_ | exact wkSto_nil | refine wkSto_none ?_ | refine wkSto_some rfl ?_)); done) (by (repeat' (first | exact wkEnv_nil | refine wkEnv_cons rfl ?_ | exact wkSto_nil | refine wkSto_none ?_ | refine wkSto_some rfl ?_)); done)
          all_goals first
            | (exfalso; omega)
            | (intro j hj; rcases Nat.lt_or_ge j i with h1 | h1
               · exact hall j h1
               · obtain rfl : j = i := by omega
                 exact ⟨hin, fun q hq => hap q (by omega)⟩)
        | succ c ihc =>
          intro k z hz hc hap
          subst hz
          have e2 := fs (i := k) (by omega)
          have hA : Ap l t i k ↔ (rd t i ≠ rd t k ∧ (rd t i < rd t k → gap (rdM l i) (rdM l k) ≤ rd t k - rd t i)) := by
            simp only [rdM_nat, rd_nat, Ap]
          have hw1 : 1 ≤ (rdM l i).f2 ∧ (rdM l i).f2 ≤ 3 := by rw [rdM_nat]; exact hwk i (by omega)
          have hw2 : 1 ≤ (rdM l k).f2 ∧ (rdM l k).f2 ≤ 3 := by rw [rdM_nat]; exact hwk k (by omega)
          have hg := gap_range (rdM l i) (rdM l k)
          have hr2 : 0 ≤ rd t i ∧ rd t i ≤ 10000 := by rw [rd_nat]; exact hr
          have e3 := fw (x := rd t i + gap (rdM l i) (rdM l k)) (by omega)
          refine Run.loop ?_
          repeat' (conv => arg 4; whnf); first | refine Run.ret ⟨?_, rfl⟩ | refine Run.condT ?_ | refine Run.condf ?_ | refine Run.condD (fun h => ?_) (fun h => ?_) | refine Run.condN (fun h => ?_) (fun h => ?_) | refine Run.condE (fun h => ?_) (fun h => ?_) | refine Run.condF (fun h => ?_) (fun h => ?_) | refine Run.condM (fun h => ?_) (fun h => ?_) | refine Run.condB (fun h => ?_) (fun h => ?_) | refine Run.check1 ?_ | (exfalso; omega) | refine Run.call (wgap_ok _ _ hw1 hw2) rfl ?_ | refine Run.need1 (by simp only [allP, true_and, and_true]; omega) ?_ | refine Run.round ⟨[(.t 6 0, .t 6 0)], [], []⟩ (ihc (k + 1) _ e2.h (by omega) ?_) rfl (by (repeat' (first | exact wkEnv_nil | refine wkEnv_cons rfl ?_ | exact wkSto_nil | refine wkSto_none ?_ | refine wkSto_some rfl ?_)); done) (by (repeat' (first | exact wkEnv_nil | refine wkEnv_cons rfl ?_ | exact wkSto_nil | refine wkSto_none ?_ | refine wkSto_some rfl ?_)); done)
          all_goals clear ih ihc
          all_goals (try simp only [e3.h] at *)
          all_goals first
            | (exfalso; omega)
            | (refine no fun q => ?_; have a := hA.1 (q.2 k (by omega) (by omega)); omega)
            | (intro j hj hne; rcases Nat.lt_or_ge j k with h1 | h1
               · exact hap j h1 hne
               · obtain rfl : j = k := by omega
                 exact hA.2 (by omega))
            | (intro j hj hne; exact hap j (by omega) hne)
            | trace_state
      have hI : InR l t i ↔ (((rdM l i).f3 ≤ rd t i ∧ rd t i ≤ (rdM l i).f4) ∧ (0 ≤ (rdM l i).f5 → rd t i = (rdM l i).f5)) := by
        simp only [rdM_nat, rd_nat, InR]
      refine Run.loop ?_
      repeat' (conv => arg 4; whnf); first | refine Run.ret ⟨?_, rfl⟩ | refine Run.condT ?_ | refine Run.condf ?_ | refine Run.condD (fun h => ?_) (fun h => ?_) | refine Run.condN (fun h => ?_) (fun h => ?_) | refine Run.condE (fun h => ?_) (fun h => ?_) | refine Run.condF (fun h => ?_) (fun h => ?_) | refine Run.condM (fun h => ?_) (fun h => ?_) | refine Run.condB (fun h => ?_) (fun h => ?_) | refine Run.check1 ?_ | refine Run.need1 (by simp only [allP, true_and, and_true]; omega) ?_ | refine Run.round ⟨[(.t 6 0, .t 6 0)], [], []⟩ (inner ?_ l.length 0 _ rfl ?_ ?_) rfl (by (repeat' (first | exact wkEnv_nil | refine wkEnv_cons rfl ?_ | exact wkSto_nil | refine wkSto_none ?_ | refine wkSto_some rfl ?_)); done) (by (repeat' (first | exact wkEnv_nil | refine wkEnv_cons rfl ?_ | exact wkSto_nil | refine wkSto_none ?_ | refine wkSto_some rfl ?_)); done) | (exfalso; omega)
      all_goals clear ih inner
      all_goals first
        | (exfalso; omega)
        | omega
        | (refine no fun q => ?_; have a := hI.1 q.1; omega)
        | exact hI.2 (by omega)
        | (intro j hj; omega)
        | trace_state
  repeat' (conv => arg 4; whnf); first | refine Run.ret ⟨?_, rfl⟩ | refine Run.condT ?_ | refine Run.condf ?_ | refine Run.condD (fun h => ?_) (fun h => ?_) | refine Run.condN (fun h => ?_) (fun h => ?_) | refine Run.condE (fun h => ?_) (fun h => ?_) | refine Run.condF (fun h => ?_) (fun h => ?_) | refine Run.condM (fun h => ?_) (fun h => ?_) | refine Run.condB (fun h => ?_) (fun h => ?_) | refine Run.check1 ?_ | refine Run.round ⟨[], [], []⟩ (outer l.length 0 _ rfl (by omega) ?_) rfl (by (repeat' (first | exact wkEnv_nil | refine wkEnv_cons rfl ?_ | exact wkSto_nil | refine wkSto_none ?_ | refine wkSto_some rfl ?_)); done) (by (repeat' (first | exact wkEnv_nil | refine wkEnv_cons rfl ?_ | exact wkSto_nil | refine wkSto_none ?_ | refine wkSto_some rfl ?_)); done)
  all_goals (intro j hj; omega)
end Go.Proofs.Ytmppoajepbbmiaa.AM

/- FnSure, walked; condition: a code of bytes. -/
namespace Go.Proofs.Ytmppoajepbbmiaa.AM
open Go.AM Go.RowKit
set_option linter.unusedVariables false
set_option linter.unusedSimpArgs false
set_option maxRecDepth 100000

theorem law_FnSure (bs : List Int) (hbl : bs.length ≤ maxLen) (hbw : ∀ z ∈ bs, (Lit.int .u8 z).wf = true) : Ok P 9 [.one (.lst (.int .u8) bs false)] [] (.one (.bool true)) [] := by
  have hb := bytes_of hbw
  obtain ⟨b, hd, hdraw⟩ := drawSure_ok hb
  have hw := tkWf_l hd.td
  have hsu := sure_ok b hw
  have hssu := ssure_ok b hw
  have hbk := bookOk_ok b hw
  have hsbk := sbookOk_ok b hw
  refine Ok.of_run (F := mk Try.f9 0) Try.func9 rfl rfl tabOk mixed rfl rfl rfl rfl rfl (Nat.le_of_ble_eq_true rfl) (Nat.le_of_ble_eq_true rfl) (.go 5000 ?_)
  by_cases hk : BkOk b
  · rw [decide_eq_true hk] at hbk hsbk
    have h6 := hk.2.2.1.1.1
    have hwr := fun a ha => wround_ok b a hk ha
    have loop : ∀ (d i : Nat) (z : Int) (al : Bool), z = i → i + d = b.ms.length → (al = true ↔ ∀ j, j < i → (at' b.ms j).f1 = true → RoundOk b j) → Run P (mk Try.f9 0) (fun v st => v = .one (.bool true) ∧ st = [])
        (.loop ⟨[(3, .one (.ptr (.t 3 0) 0)), (4, .one (.bool (decide (SureM b)))), (5, .one (.bool al)), (6, .one (.int .i64 z))], [(.t 3 0, some (.cells [.int .i64 b.now, .int .i64 b.shift, .own (.t 1000 0), .own (.t 1000 1)])), (.t 1000 0, some (.row .mv b.ms)), (.t 1000 1, some (.row (.int .i64) b.ts))], [.lp [0, 1, 0, 1, 1, 1, 1, 1, 1, 1], .blk 0, .code [1, 1, 1, 1, 1, 1, 1, 1]], none⟩) := by
      intro d
      induction d with
      | zero =>
        intro i z al hz hi hal
        subst hz
        have ha : al = decide (SureM b) := by
          rw [Bool.eq_iff_iff, hal, decide_eq_true_eq]
          exact ⟨fun h => ⟨hk, fun j hj => h j (by omega)⟩, fun h j hj => h.2 j (by omega)⟩
        subst ha
        refine Run.loop ?_
        repeat' (conv => arg 4; whnf); first | refine Run.ret ⟨?_, rfl⟩ | refine Run.condT ?_ | refine Run.condf ?_ | refine Run.condD (fun h => ?_) (fun h => ?_) | refine Run.condN (fun h => ?_) (fun h => ?_) | refine Run.condE (fun h => ?_) (fun h => ?_) | refine Run.condF (fun h => ?_) (fun h => ?_) | refine Run.condM (fun h => ?_) (fun h => ?_) | refine Run.condB (fun h => ?_) (fun h => ?_) | refine Run.check1 ?_ | (exfalso; omega)
        all_goals first | exact congrArg (fun q => V.one (A.bool q)) (by simp) | (exfalso; omega) | trace_state
      | succ d ih =>
        intro i z al hz hi hal
        subst hz
        have hil : i < b.ms.length := by omega
        have e := fs (i := i) (by omega)
        have h1 := hwr i hil
        refine Run.loop ?_
        have hst : ((at' b.ms i).f1 = true → RoundOk b i) → (al = true ↔ ∀ j, j < i + 1 → (at' b.ms j).f1 = true → RoundOk b j) := fun q => by
          rw [hal]
          refine ⟨fun k j hj => ?_, fun k j hj => k j (by omega)⟩
          by_cases hji : j = i
          · subst hji; exact q
          · exact k j (by omega)
        have hno : (at' b.ms i).f1 = true → ¬ RoundOk b i → (false = true ↔ ∀ j, j < i + 1 → (at' b.ms j).f1 = true → RoundOk b j) := fun q q2 => ⟨fun h => (by cases h), fun k => absurd (k i (by omega) q) q2⟩
        rw [← rdM_nat] at hst hno
        repeat' (conv => arg 4; whnf); first | refine Run.ret ⟨?_, rfl⟩ | refine Run.condT ?_ | refine Run.condf ?_ | refine Run.condD (fun h => ?_) (fun h => ?_) | refine Run.condN (fun h => ?_) (fun h => ?_) | refine Run.condE (fun h => ?_) (fun h => ?_) | refine Run.condF (fun h => ?_) (fun h => ?_) | refine Run.condM (fun h => ?_) (fun h => ?_) | refine Run.condB (fun h => ?_) (fun h => ?_) | refine Run.check1 ?_ | refine Run.need1 (by simp only [allP, true_and, and_true]; omega) ?_ | refine Run.call (h1) rfl ?_ | refine Run.round ⟨[(.t 3 0, .t 3 0), (.t 1000 0, .t 1000 0), (.t 1000 1, .t 1000 1)], [], []⟩ (ih (i + 1) _ _ e.h (by omega) ?_) rfl (by (repeat' (first | exact wkEnv_nil | refine wkEnv_cons rfl ?_ | exact wkSto_nil | refine wkSto_none ?_ | refine wkSto_some rfl ?_)); done) (by (repeat' (first | exact wkEnv_nil | refine wkEnv_cons rfl ?_ | exact wkSto_nil | refine wkSto_none ?_ | refine wkSto_some rfl ?_)); done) | (exfalso; omega)
        all_goals clear ih
        all_goals first
          | (exfalso; omega)
          | exact hno ‹_› ‹_›
          | exact hst (fun _ => ‹_›)
          | exact hst (fun q => absurd q (by simp only [*, Bool.false_eq_true, not_false_eq_true]))
          | trace_state
    repeat' (conv => arg 4; whnf); first | refine Run.ret ⟨?_, rfl⟩ | refine Run.condT ?_ | refine Run.condf ?_ | refine Run.condD (fun h => ?_) (fun h => ?_) | refine Run.condN (fun h => ?_) (fun h => ?_) | refine Run.condE (fun h => ?_) (fun h => ?_) | refine Run.condF (fun h => ?_) (fun h => ?_) | refine Run.condM (fun h => ?_) (fun h => ?_) | refine Run.condB (fun h => ?_) (fun h => ?_) | refine Run.check1 ?_ | refine Run.call (hdraw) rfl ?_ | refine Run.call (hsu) rfl ?_ | refine Run.call (hssu) rfl ?_ | refine Run.call (hbk) rfl ?_ | refine Run.call (hsbk) rfl ?_ | refine Run.round ⟨[(.t 3 0, .t 3 0), (.t 11 0, .t 1000 0), (.t 11 1, .t 1000 1)], [], []⟩ (loop b.ms.length 0 _ _ rfl (by omega) ?_) rfl (by (repeat' (first | exact wkEnv_nil | refine wkEnv_cons rfl ?_ | exact wkSto_nil | refine wkSto_none ?_ | refine wkSto_some rfl ?_)); done) (by (repeat' (first | exact wkEnv_nil | refine wkEnv_cons rfl ?_ | exact wkSto_nil | refine wkSto_none ?_ | refine wkSto_some rfl ?_)); done) | (exfalso; omega)
    all_goals first | exact ⟨fun _ j hj => absurd hj (by omega), fun _ => rfl⟩ | rfl | contradiction | (exfalso; simp at *; done) | trace_state
  · rw [decide_eq_false hk] at hbk hsbk
    rw [decide_eq_false (fun h : SureM b => hk h.1)] at hsu hssu
    repeat' (conv => arg 4; whnf); first | refine Run.ret ⟨?_, rfl⟩ | refine Run.condT ?_ | refine Run.condf ?_ | refine Run.condD (fun h => ?_) (fun h => ?_) | refine Run.condN (fun h => ?_) (fun h => ?_) | refine Run.condE (fun h => ?_) (fun h => ?_) | refine Run.condF (fun h => ?_) (fun h => ?_) | refine Run.condM (fun h => ?_) (fun h => ?_) | refine Run.condB (fun h => ?_) (fun h => ?_) | refine Run.check1 ?_ | refine Run.call (hdraw) rfl ?_ | refine Run.call (hsu) rfl ?_ | refine Run.call (hssu) rfl ?_ | refine Run.call (hbk) rfl ?_ | refine Run.call (hsbk) rfl ?_ | (exfalso; omega)
    all_goals first | rfl | contradiction | (exfalso; simp at *; done) | trace_state
end Go.Proofs.Ytmppoajepbbmiaa.AM

/- What comes in as a struct, a slice or a book, in the machine's words; condition: the argument reads as data of its type. -/
namespace Go.Proofs.Ytmppoajepbbmiaa.AM
open Go.Joins Go.ChangeShapes Go.WideShapes Go.RowKit Go.Deep Go.AM
set_option linter.unusedVariables false
set_option linter.unusedSimpArgs false
set_option maxRecDepth 100000
section
variable {H : Type} {enc : TypeId × Value → H} {w : World} {base : Nat} {spare : Nat → Bool} {held : Bool} {μ : Mu}
theorem open_mv {n : Nat} {cs : List Value} {y : DataW H × List MemPlace} (h : DataW.trod enc Try.prog w base spare held n 66 cs = some y) (hl : cs.length = 6) :
    ∃ m : Mv, cs = [.string m.f0, .bool m.f1, .int .i64 m.f2, .int .i64 m.f3, .int .i64 m.f4, .int .i64 m.f5] ∧ MvWf m := by
  obtain ⟨xs, n', _, _, _, hxl, hf⟩ := DataW.trod_struct Try.underlying66 h
  match cs, hl with
  | [c0, c1, c2, c3, c4, c5], _ =>
    have h0 := hf 0 _ rfl
    have h1 := hf 1 _ rfl
    have h2 := hf 2 _ rfl
    have h3 := hf 3 _ rfl
    have h4 := hf 4 _ rfl
    have h5 := hf 5 _ rfl
    have k1 : Try.prog.cellsOf 9 = 1 := by kernel_rfl
    have k2 : Try.prog.cellsOf 4 = 1 := by kernel_rfl
    have k3 : Try.prog.cellsOf 3 = 1 := by kernel_rfl
    have e0 : xs[0]? = some (xs[0]'(by rw [hxl]; decide)) := List.getElem?_eq_getElem _
    have e1 : xs[1]? = some (xs[1]'(by rw [hxl]; decide)) := List.getElem?_eq_getElem _
    have e2 : xs[2]? = some (xs[2]'(by rw [hxl]; decide)) := List.getElem?_eq_getElem _
    have e3 : xs[3]? = some (xs[3]'(by rw [hxl]; decide)) := List.getElem?_eq_getElem _
    have e4 : xs[4]? = some (xs[4]'(by rw [hxl]; decide)) := List.getElem?_eq_getElem _
    have e5 : xs[5]? = some (xs[5]'(by rw [hxl]; decide)) := List.getElem?_eq_getElem _
    obtain ⟨a0, q0, _, w0⟩ := DataW.trod_string Try.underlying9 (h0.trans e0)
    obtain ⟨a1, q1, _⟩ := DataW.trod_bool Try.underlying4 (h1.trans e1)
    obtain ⟨a2, q2, _, w2⟩ := DataW.trod_int Try.underlying3 (h2.trans e2)
    obtain ⟨a3, q3, _, w3⟩ := DataW.trod_int Try.underlying3 (h3.trans e3)
    obtain ⟨a4, q4, _, w4⟩ := DataW.trod_int Try.underlying3 (h4.trans e4)
    obtain ⟨a5, q5, _, w5⟩ := DataW.trod_int Try.underlying3 (h5.trans e5)
    simp [k1, k2, k3] at q0 q1 q2 q3 q4 q5
    subst q0 q1 q2 q3 q4 q5
    exact ⟨⟨a0, a1, a2, a3, a4, a5⟩, rfl, w0, wf64 w2, wf64 w3, wf64 w4, wf64 w5⟩
theorem open_ints {t fuel : Nat} {cs : List Value} {y : DataW H × List MemPlace} (ht : Try.prog.underlying t = some (.slice 3)) (h : DataW.trod enc Try.prog w base spare held fuel t cs = some y) :
    ∃ (v : Value) (xs : List Int), cs = [v] ∧ repA μ w (Old w) (.lst (.int .i64) xs false) v ∧ xs.length ≤ maxLen ∧ ∀ z ∈ xs, W64 z :=
  open_sl (.int .i64) ht (by kernel_rfl) (by decide) W64 (fun n cs' y hy hl => by
    obtain ⟨z, h1, _, h2⟩ := DataW.trod_int Try.underlying3 hy
    subst h1
    exact ⟨z, .cons rfl .nil, wf64 h2⟩) h
theorem open_bytes {t fuel : Nat} {cs : List Value} {y : DataW H × List MemPlace} (ht : Try.prog.underlying t = some (.slice 5)) (h : DataW.trod enc Try.prog w base spare held fuel t cs = some y) :
    ∃ (v : Value) (xs : List Int), cs = [v] ∧ repA μ w (Old w) (.lst (.int .u8) xs false) v ∧ xs.length ≤ maxLen ∧ ∀ z ∈ xs, (Lit.int .u8 z).wf = true :=
  open_sl (.int .u8) ht (by kernel_rfl) (by decide) (fun z => (Lit.int .u8 z).wf = true) (fun n cs' y hy hl => by
    obtain ⟨z, h1, _, h2⟩ := DataW.trod_int Try.underlying5 hy
    subst h1
    exact ⟨z, .cons rfl .nil, h2⟩) h
theorem open_mvs {t fuel : Nat} {cs : List Value} {y : DataW H × List MemPlace} (ht : Try.prog.underlying t = some (.slice 66)) (h : DataW.trod enc Try.prog w base spare held fuel t cs = some y) :
    ∃ (v : Value) (xs : List Mv), cs = [v] ∧ repA μ w (Old w) (.lst .mv xs false) v ∧ xs.length ≤ maxLen ∧ ∀ z ∈ xs, MvWf z :=
  open_sl .mv ht (by kernel_rfl) (by decide) MvWf (fun n cs' y hy hl => by
    obtain ⟨m, rfl, hm⟩ := open_mv hy hl
    exact ⟨m, .cons rfl (.cons rfl (.cons rfl (.cons rfl (.cons rfl (.cons rfl .nil))))), hm⟩) h
theorem open_bk {n : Nat} {cs : List Value} {y : DataW H × List MemPlace} (h : DataW.trod enc Try.prog w base spare held n 49 cs = some y) (hl : cs.length = 4) :
    ∃ b : Bk, repV μ w (Old w) b.lent (.agg ⟨cs⟩) ∧ W64 b.now ∧ W64 b.shift ∧ b.ms.length ≤ maxLen ∧ (∀ z ∈ b.ms, MvWf z) ∧ b.ts.length ≤ maxLen ∧ ∀ z ∈ b.ts, W64 z := by
  obtain ⟨xs, n', _, _, _, hxl, hf⟩ := DataW.trod_struct Try.underlying49 h
  match cs, hl with
  | [d0, d1, d2, d3], _ =>
    have h0 := hf 0 _ rfl
    have h1 := hf 1 _ rfl
    have h2 := hf 2 _ rfl
    have h3 := hf 3 _ rfl
    have k1 : Try.prog.cellsOf 3 = 1 := by kernel_rfl
    have k2 : Try.prog.cellsOf 22 = 1 := by kernel_rfl
    have k3 : Try.prog.cellsOf 24 = 1 := by kernel_rfl
    have e0 : xs[0]? = some (xs[0]'(by rw [hxl]; decide)) := List.getElem?_eq_getElem _
    have e1 : xs[1]? = some (xs[1]'(by rw [hxl]; decide)) := List.getElem?_eq_getElem _
    have e2 : xs[2]? = some (xs[2]'(by rw [hxl]; decide)) := List.getElem?_eq_getElem _
    have e3 : xs[3]? = some (xs[3]'(by rw [hxl]; decide)) := List.getElem?_eq_getElem _
    obtain ⟨a0, q0, _, w0⟩ := DataW.trod_int Try.underlying3 (h0.trans e0)
    obtain ⟨a1, q1, _, w1⟩ := DataW.trod_int Try.underlying3 (h1.trans e1)
    obtain ⟨v2, l2, q2, hr2, hm2, w2⟩ := open_mvs (μ := μ) Try.underlying22 (h2.trans e2)
    obtain ⟨v3, l3, q3, hr3, hm3, w3⟩ := open_ints (μ := μ) Try.underlying24 (h3.trans e3)
    simp [k1, k2, k3] at q0 q1 q2 q3
    subst q0 q1 q2 q3
    refine ⟨⟨a0, a1, l2, l3⟩, ?_, wf64 w0, wf64 w1, hm2, w2, hm3, w3⟩
    simp only [Bk.lent, repV]
    refine ⟨_, rfl, ?_⟩
    simp only [repAs]
    exact ⟨_, _, rfl, by simp only [repA], _, _, rfl, by simp only [repA], _, _, rfl, hr2, _, _, rfl, hr3, rfl⟩
end
end Go.Proofs.Ytmppoajepbbmiaa.AM

/- FnSure: for every input the law returns true and each argument reads behind the call as it read before; no condition. -/
namespace Go.Proofs.Ytmppoajepbbmiaa.fnSure
open Go.ChangeShapes Go.WideShapes Go.ChangeAt Go.RowKit
open Go.ChangeMaps (open_string shut_string)
set_option linter.unusedVariables false
theorem own : ownKnob Try.prog.godebug = none := by kernel_rfl
theorem laidOut : laidOutB Try.prog = true := by kernel_rfl
set_option maxRecDepth 100000 in
theorem lifted (os : Os) (started : os.Started) (H : Type) (enc : TypeId × Value → H) :
    ReturnsInHanded {} Try.checked os 9 .any (Rows.fnSureSpec.pre6 enc Try.prog Try.f9 Rows.fnSureRow.domain false) (Rows.fnSureSpec.post enc Try.prog Try.f9 false true false false) := by
  refine returnsInHanded_of_change_sized (C := Try.checked) own started (by kernel_rfl) Try.func9
    (ChangeSpec.witness6 (enc := enc) (C := Try.checked) false ⟨#[], #[.slice none 0 0], []⟩ 8 (by kernel_rfl) (by kernel_rfl) (by kernel_rfl) (by kernel_rfl)) ?_
  intro W base args ds gs before hval0 hW hcnd hsz0 _
  have hval : ∀ (j : Nat) t v, Try.f9.params[j]? = some t → args[j]? = some v → Value.okWide Try.prog W .any base t v := hval0
  have hW' := hW
  obtain ⟨p, q, hA0, hV, rfl, hfz, hnd⟩ := hW
  have hA : DataW.TrodAll enc Try.prog W 0 (fun _ => true) true Try.f9.params.toList args.toList ds p := hA0
  rw [Try.params9] at hA hval
  obtain ⟨v0, vs0, d0, ds0, p0, q0, hargs, rfl, rfl, h0, r0⟩ := trodAll_cons hA
  obtain ⟨rfl, rfl, rfl⟩ := trodAll_nil r0
  obtain rfl : args = #[v0] := by cases args; simp_all
  obtain ⟨rfl, rfl⟩ := trodVars_none hV
  have k0 := h0
  have lt0 : ∀ x ∈ p0, x.block < W.heap.size := by obtain ⟨m, hm⟩ := k0; exact DataW.trod_lt m _ _ _ hm
  obtain ⟨A0, len0, cap0, rfl⟩ := okWide_slice Try.underlying33 (hval 0 33 v0 rfl rfl)
  obtain ⟨fuel0, hf0⟩ := h0
  obtain ⟨u0, a0, e0, hr0, hm0, w0⟩ := AM.open_bytes (μ := fun _ => none) Try.underlying33 hf0
  simp [Value.cells] at e0
  subst e0
  refine (Go.AM.calls_true Try.func9 rfl rfl (AM.law_FnSure a0 hm0 w0) (by simp only [Go.AM.repVs]; exact ⟨_, _, rfl, (by simp only [Go.AM.repV]; exact hr0), rfl⟩)).mono fun e W' ⟨he, bel⟩ => ?_
  subst he
  exact ⟨_, rfl, _, _, _, [], _, [], hW', trodAll_mk1 (shut_bool Try.underlying4 _), (trodAll_cons_mk (Below.trod laidOut (by kernel_rfl) (of_decide_eq_true (by kernel_rfl)) k0 bel lt0) trodAll_mk0), rfl, bel.frame _, fun h => by cases h⟩
theorem over : Rows.fnSureRow.holds Try.pinned (OpenSpec.ofChange Rows.fnSureSpec) :=
  OpenClaim.holds_of_wide 9 Try.f9 rfl rfl rfl rfl rfl rfl rfl ⟨rfl, rfl, rfl, rfl, rfl⟩ rfl rfl rfl rfl rfl (by kernel_rfl) Try.func9 (by kernel_rfl)
    (of_decide_eq_true (by kernel_rfl)) (by unfold Func.isWrapper; first | (rw [if_pos (by decide +kernel)]; kernel_rfl) | (rw [if_neg (by decide +kernel)]; exact ⟨rfl, rfl⟩))
    (fun os started H enc _ => lifted os started H enc)
theorem proved : Rows.FnSureSaid := over
end Go.Proofs.Ytmppoajepbbmiaa.fnSure
namespace Go.Proofs.Ytmppoajepbbmiaa
theorem fnSure_holds : Rows.FnSureSaid := fnSure.proved
#print axioms fnSure_holds
end Go.Proofs.Ytmppoajepbbmiaa
