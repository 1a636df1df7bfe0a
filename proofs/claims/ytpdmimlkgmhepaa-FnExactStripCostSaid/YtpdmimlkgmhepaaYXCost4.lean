/- FnExactStripCost, part 4 of 4: for every input the law returns true and each argument reads behind the call as it read before; no condition -/
import Derived.Test.YtpdmimlkgmhepaaRows
import Derived.WalkKit
import Derived.ProofKit
import Derived.OpenShut
import Derived.ShutString
import Derived.ChangeOld
import Derived.Below
import Derived.SizedLaws
import Derived.Test.YtpdmimlkgmhepaaYXCost0
import Derived.Test.YtpdmimlkgmhepaaYXCost1
import Derived.Test.YtpdmimlkgmhepaaYXCost2
import Derived.Test.YtpdmimlkgmhepaaYXCost3
/- Plain laws of loops 'from some number of rounds on'; no condition. -/
namespace Go.Proofs.Ytpdmimlkgmhepaa.Pure
set_option linter.unusedVariables false
set_option linter.unusedSimpArgs false
open Go.RowKit Go.Proofs.YtpdmimlkgmhepaaW.PrintWords

/-- A loop that ends at the first place that fails. -/
theorem ev_all {β : Type} {n : Nat} {P : Nat → Prop} {R F : β} (g : Nat → Nat → Option β) (hend : Ev (g n) R)
    (hyes : ∀ i, i < n → P i → ∀ r, Ev (g (i + 1)) r → Ev (g i) r) (hno : ∀ i, i < n → (∀ j, j < i → P j) → ¬ P i → Ev (g i) F) :
    ((∀ j, j < n → P j) → Ev (g 0) R) ∧ ((¬ ∀ j, j < n → P j) → Ev (g 0) F) := by
  have key : ∀ d i, i + d = n → (∀ j, j < i → P j) → ((∀ j, i ≤ j → j < n → P j) → Ev (g i) R) ∧ ((¬ ∀ j, i ≤ j → j < n → P j) → Ev (g i) F) := by
    intro d
    induction d with
    | zero =>
      intro i hi _
      obtain rfl : i = n := by omega
      exact ⟨fun _ => hend, fun h => absurd (fun j h1 h2 => absurd h1 (by omega)) h⟩
    | succ d ih =>
      intro i hi hp
      by_cases hP : P i
      · obtain ⟨h1, h2⟩ := ih (i + 1) (by omega) (fun j hj => by
          by_cases e : j = i
          · exact e ▸ hP
          · exact hp j (by omega))
        refine ⟨fun h => hyes i (by omega) hP _ (h1 fun j hj => h j (by omega)), fun h => hyes i (by omega) hP _ (h2 fun h' => h fun j hj hn => ?_)⟩
        by_cases e : j = i
        · exact e ▸ hP
        · exact h' j (by omega) hn
      · exact ⟨fun h => absurd (h i (Nat.le_refl _) (by omega)) hP, fun _ => hno i (by omega) hp hP⟩
  obtain ⟨h1, h2⟩ := key n 0 (by omega) (fun j hj => absurd hj (by omega))
  exact ⟨fun h => h1 fun j _ hj => h j hj, fun h => h2 fun h' => h fun j hj => h' j (by omega) hj⟩
theorem ev_yes {β : Type} {n : Nat} {P : Nat → Prop} {R : β} (g : Nat → Nat → Option β) (h : ∀ j, j < n → P j) (hend : Ev (g n) R) (hyes : ∀ i, i < n → P i → Ev (g (i + 1)) R → Ev (g i) R) : Ev (g 0) R := by
  have key : ∀ d i, i + d = n → Ev (g i) R := by
    intro d
    induction d with
    | zero =>
      intro i hi
      obtain rfl : i = n := by omega
      exact hend
    | succ d ih => exact fun i hi => hyes i (by omega) (h i (by omega)) (ih (i + 1) (by omega))
  exact key n 0 (by omega)
/-- The same, with what held ahead at hand. -/
theorem ev_no' {β : Type} {n : Nat} {P : Nat → Prop} {F : β} (g : Nat → Nat → Option β) (h : ¬ ∀ j, j < n → P j) (hyes : ∀ i, i < n → (∀ j, j < i → P j) → P i → Ev (g (i + 1)) F → Ev (g i) F) (hno : ∀ i, i < n → (∀ j, j < i → P j) → ¬ P i → Ev (g i) F) : Ev (g 0) F := by
  have key : ∀ d i, i + d = n → (∀ j, j < i → P j) → (¬ ∀ j, i ≤ j → j < n → P j) → Ev (g i) F := by
    intro d
    induction d with
    | zero => exact fun i hi _ h => absurd (fun j h1 h2 => absurd h1 (by omega)) h
    | succ d ih =>
      intro i hi hp h
      by_cases hP : P i
      · refine hyes i (by omega) hp hP (ih (i + 1) (by omega) (fun j hj => ?_) fun h' => h fun j hj hn => ?_)
        · by_cases e : j = i
          · exact e ▸ hP
          · exact hp j (by omega)
        · by_cases e : j = i
          · exact e ▸ hP
          · exact h' j (by omega) hn
      · exact hno i (by omega) hp hP
  exact key n 0 (by omega) (fun j hj => absurd hj (by omega)) fun h' => h fun j hj => h' j (by omega) hj
theorem ev_no {β : Type} {n : Nat} {P : Nat → Prop} {F : β} (g : Nat → Nat → Option β) (h : ¬ ∀ j, j < n → P j) (hyes : ∀ i, i < n → P i → Ev (g (i + 1)) F → Ev (g i) F) (hno : ∀ i, i < n → (∀ j, j < i → P j) → ¬ P i → Ev (g i) F) : Ev (g 0) F := by
  have key : ∀ d i, i + d = n → (∀ j, j < i → P j) → (¬ ∀ j, i ≤ j → j < n → P j) → Ev (g i) F := by
    intro d
    induction d with
    | zero => exact fun i hi _ h => absurd (fun j h1 h2 => absurd h1 (by omega)) h
    | succ d ih =>
      intro i hi hp h
      by_cases hP : P i
      · refine hyes i (by omega) hP (ih (i + 1) (by omega) (fun j hj => ?_) fun h' => h fun j hj hn => ?_)
        · by_cases e : j = i
          · exact e ▸ hP
          · exact hp j (by omega)
        · by_cases e : j = i
          · exact e ▸ hP
          · exact h' j (by omega) hn
      · exact hno i (by omega) hp hP
  exact key n 0 (by omega) (fun j hj => absurd hj (by omega)) fun h' => h fun j hj => h' j (by omega) hj
theorem ev_all_if {β : Type} {n : Nat} {P : Nat → Prop} {R F : β} [Decidable (∀ j, j < n → P j)] (g : Nat → Nat → Option β) (hend : Ev (g n) R)
    (hyes : ∀ i, i < n → P i → ∀ r, Ev (g (i + 1)) r → Ev (g i) r) (hno : ∀ i, i < n → (∀ j, j < i → P j) → ¬ P i → Ev (g i) F) : Ev (g 0) (if ∀ j, j < n → P j then R else F) := by
  obtain ⟨h1, h2⟩ := ev_all g hend hyes hno
  by_cases h : ∀ j, j < n → P j
  · rw [if_pos h]; exact h1 h
  · rw [if_neg h]; exact h2 h

/-- d steps from place i on. -/
def foldFrom {σ : Type} (step : Nat → σ → σ) : Nat → Nat → σ → σ
  | _, 0, s => s
  | i, d + 1, s => foldFrom step (i + 1) d (step i s)
theorem foldFrom_last {σ : Type} (step : Nat → σ → σ) (d : Nat) : ∀ i s, foldFrom step i (d + 1) s = step (i + d) (foldFrom step i d s) := by
  induction d with
  | zero => intro i s; rfl
  | succ d ih =>
    intro i s
    show foldFrom step (i + 1) (d + 1) (step i s) = _
    rw [ih, show i + 1 + d = i + (d + 1) by omega]
    rfl
theorem foldFrom_inv {σ : Type} {step : Nat → σ → σ} (I : Nat → σ → Prop) {n : Nat} (hI : ∀ i s, i < n → I i s → I (i + 1) (step i s)) : ∀ d i s, i + d ≤ n → I i s → I (i + d) (foldFrom step i d s) := by
  intro d
  induction d with
  | zero => intro i s _ h; exact h
  | succ d ih =>
    intro i s hd h
    have := ih (i + 1) (step i s) (by omega) (hI i s (by omega) h)
    rwa [show i + 1 + d = i + (d + 1) by omega] at this
theorem foldFrom_congr {σ : Type} {f g : Nat → σ → σ} : ∀ d i s, (∀ j s, i ≤ j → j < i + d → f j s = g j s) → foldFrom f i d s = foldFrom g i d s := by
  intro d
  induction d with
  | zero => intro i s _; rfl
  | succ d ih =>
    intro i s h
    show foldFrom f (i + 1) d (f i s) = foldFrom g (i + 1) d (g i s)
    rw [h i s (Nat.le_refl _) (by omega)]
    exact ih _ _ fun j s h1 h2 => h j s (by omega) (by omega)
/-- A loop that goes on to its end. -/
theorem ev_fold {σ β : Type} {n : Nat} (I : Nat → σ → Prop) (step : Nat → σ → σ) (g : Nat → σ → Nat → Option β) (hI : ∀ i s, i < n → I i s → I (i + 1) (step i s))
    (hstep : ∀ i s r, i < n → I i s → Ev (g (i + 1) (step i s)) r → Ev (g i s) r) (s : σ) (r : β) (h0 : I 0 s) (hend : I n (foldFrom step 0 n s) → Ev (g n (foldFrom step 0 n s)) r) : Ev (g 0 s) r := by
  have key : ∀ d i s, i + d = n → I i s → Ev (g n (foldFrom step i d s)) r → Ev (g i s) r := by
    intro d
    induction d with
    | zero =>
      intro i s hi _ h
      obtain rfl : i = n := by omega
      exact h
    | succ d ih =>
      intro i s hi hs h
      exact hstep i s r (by omega) hs (ih (i + 1) _ (by omega) (hI i s (by omega) hs) h)
  refine key n 0 s (by omega) h0 (hend ?_)
  have := foldFrom_inv I hI n 0 s (by omega) h0
  simpa using this

theorem rd_nat (xs : List Int) (i : Nat) : rd xs (i : Int) = xs.getD i 0 := by simp [rd]
theorem rdOf_nat {α : Type} (d : α) (xs : List α) (i : Nat) : rdOf d xs (i : Int) = xs.getD i d := by simp [rdOf]
theorem wrap_succ {i n : Nat} (h : i < n) (hn : n ≤ 1000000000000000000) : wrap64 ((i : Int) + 1) = ((i + 1 : Nat) : Int) := by unfold wrap64; omega
end Go.Proofs.Ytpdmimlkgmhepaa.Pure

/- The laws' helpers on whole numbers: a copy is the list, equal lists are equal, what was marked is held; condition: at most 2^20 elements. -/
namespace Go.Proofs.Ytpdmimlkgmhepaa.Pure
set_option linter.unusedVariables false
set_option linter.unusedSimpArgs false
open Go.RowKit Go.Proofs.YtpdmimlkgmhepaaW.PrintWords Go.Proofs.Ytpdmimlkgmhepaa.G

theorem copy_step {α : Type} (f : Nat → α) {n i : Nat} {s : List α} (d : α) (hl : s.length = n) (hs : ∀ j, j < i → s.getD j d = f j) (hi : i < n) : (s.set i (f i)).length = n ∧ ∀ j, j < i + 1 → (s.set i (f i)).getD j d = f j := by
  refine ⟨by rw [List.length_set]; exact hl, fun j hj => ?_⟩
  by_cases e : j = i
  · subst e
    rw [List.getD_eq_getElem?_getD, List.getElem?_set_self (by omega)]
    rfl
  · rw [List.getD_eq_getElem?_getD, List.getElem?_set_ne (fun h => e h.symm), ← List.getD_eq_getElem?_getD]
    exact hs j (by omega)
theorem list_eq_getD {α : Type} {a b : List α} (d : α) (hl : a.length = b.length) (h : ∀ j, j < a.length → a.getD j d = b.getD j d) : a = b := by
  refine List.ext_getElem hl fun j h1 h2 => ?_
  have := h j h1
  rw [List.getD_eq_getElem?_getD, List.getD_eq_getElem?_getD, List.getElem?_eq_getElem h1, List.getElem?_eq_getElem h2] at this
  exact this

theorem toInts (l : List Int) (hl : l.length ≤ 1048576) : Ev (fun k => laws_toIntS.f k l) l := by
  unfold laws_toIntS.f
  refine Ev.pos (by omega) (Ev.pos (by omega) ?_)
  simp only [Int.toNat_natCast]
  have key : ∀ d i (s : List Int), i + d = l.length → s.length = l.length → (∀ j, j < i → s.getD j 0 = l.getD j 0) → Ev (fun k => laws_toIntS.l0 k l s i) l := by
    intro d
    induction d with
    | zero =>
      intro i s hi hs hp
      refine Ev.step (fun _ => laws_toIntS.l0.eq_2 ..) (Ev.neg (by omega) (Ev.some ?_))
      exact list_eq_getD 0 hs fun j hj => hp j (by omega)
    | succ d ih =>
      intro i s hi hs hp
      refine Ev.step (fun _ => laws_toIntS.l0.eq_2 ..) (Ev.pos (by omega) (Ev.pos (by omega) (Ev.pos (by omega) ?_)))
      simp only [rd_nat, Int.toNat_natCast, wrap_succ (show i < l.length by omega) (show l.length ≤ 1000000000000000000 by omega)]
      obtain ⟨h1, h2⟩ := copy_step (fun j => l.getD j 0) 0 hs hp (show i < l.length by omega)
      exact ih (i + 1) _ (by omega) h1 h2
  exact key l.length 0 _ (by omega) (by simp) (fun j hj => absurd hj (by omega))

theorem eqInts (a : List Int) (hl : a.length ≤ 1048576) : Ev (fun k => laws_eqIntS.f k a a) true := by
  unfold laws_eqIntS.f
  refine Ev.pos rfl ?_
  refine ev_yes (n := a.length) (P := fun _ => True) (fun i k => laws_eqIntS.l0 k a a i) (fun _ _ => trivial) ?_ ?_
  · exact Ev.step (fun _ => laws_eqIntS.l0.eq_2 ..) (Ev.neg (by omega) (Ev.some rfl))
  · intro i hi _ hr
    refine Ev.step (fun _ => laws_eqIntS.l0.eq_2 ..) (Ev.pos (by omega) (Ev.pos (by omega) (Ev.pos (by omega) (Ev.pos rfl ?_))))
    simpa only [wrap_succ hi (show a.length ≤ 1000000000000000000 by omega)] using hr
end Go.Proofs.Ytpdmimlkgmhepaa.Pure

/- StripMoveOk, the program's and the reference's, is one plain test; condition: enough rounds. -/
namespace Go.Proofs.Ytpdmimlkgmhepaa.Pure
set_option linter.unusedVariables false
set_option linter.unusedSimpArgs false
open Go.RowKit Go.Proofs.YtpdmimlkgmhepaaW.PrintWords Go.Proofs.Ytpdmimlkgmhepaa.G

theorem spec_in {α : Type} (a b c : Int) (f : Bool → Option α) : (spec_l1In.f a b c).bind f = if b ≤ a ∧ a ≤ c then f true else f false := by
  unfold spec_l1In.f
  by_cases h : b ≤ a
  · by_cases h2 : a ≤ c <;> simp [h, h2]
  · simp [h]
theorem impl_in {α : Type} (a b c : Int) (f : Bool → Option α) : (impl_in.f a b c).bind f = if b ≤ a ∧ a ≤ c then f true else f false := by
  unfold impl_in.f
  by_cases h : b ≤ a
  · by_cases h2 : a ≤ c <;> simp [h, h2]
  · simp [h]
def okB (c : Int) : Bool := decide (97 ≤ c ∧ c ≤ 122 ∨ 48 ≤ c ∧ c ≤ 57 ∨ c = 45)
def allB (s : ByteArray) : Nat → Int → Bool
  | 0, _ => true
  | d + 1, i => okB (bt s i) && allB s d (i + 1)
theorem allB_succ (s : ByteArray) (d : Nat) (i : Int) : allB s (d + 1) i = (okB (bt s i) && allB s d (i + 1)) := rfl
/-- What a move's other parts must be. -/
def MoveP (n : Nat) (w e l p : Int) : Prop := 1 ≤ n ∧ n ≤ 8 ∧ 1 ≤ w ∧ w ≤ 3 ∧ 0 ≤ e ∧ e ≤ l ∧ l ≤ 10000 ∧ (p = -1 ∨ e ≤ p ∧ p ≤ l)
instance (n : Nat) (w e l p : Int) : Decidable (MoveP n w e l p) := by unfold MoveP; infer_instance
def moveOkM (s : ByteArray) (w e l p : Int) : Bool := if MoveP s.size w e l p then allB s s.size 0 else false
theorem moveOkM_pos {s : ByteArray} {w e l p : Int} (h : MoveP s.size w e l p) : moveOkM s w e l p = allB s s.size 0 := if_pos h
theorem moveOkM_neg {s : ByteArray} {w e l p : Int} (h : ¬ MoveP s.size w e l p) : moveOkM s w e l p = false := if_neg h

theorem ite_okB {α : Type} (c : Int) (A B : α) : (if c ≥ 97 then (if c ≤ 122 then A else (if c ≥ 48 then (if c ≤ 57 then A else (if c = 45 then A else B)) else (if c = 45 then A else B))) else (if c ≥ 48 then (if c ≤ 57 then A else (if c = 45 then A else B)) else (if c = 45 then A else B))) = if okB c = true then A else B := by
  by_cases h : okB c = true
  · rw [if_pos h]
    simp only [okB, decide_eq_true_eq] at h
    (repeat' split) <;> first | rfl | (exfalso; omega)
  · rw [if_neg h]
    simp only [okB, decide_eq_true_eq] at h
    (repeat' split) <;> first | rfl | (exfalso; omega)

theorem spec_name_l (s : ByteArray) (hs : s.size ≤ 8) (d : Nat) : ∀ (k : Nat) (i : Int), 0 ≤ i → (s.size : Int) - i = d → d < k → spec_l1NameOk.l0 k s i = some (allB s d i) := by
  induction d with
  | zero =>
    intro k i h0 hd hk
    obtain ⟨k, rfl⟩ : ∃ m, k = m + 1 := ⟨k - 1, by omega⟩
    simp only [spec_l1NameOk.l0]
    rw [if_neg (by omega)]; rfl
  | succ d ih =>
    intro k i h0 hd hk
    obtain ⟨k, rfl⟩ : ∃ m, k = m + 1 := ⟨k - 1, by omega⟩
    have ih' := ih k (i + 1) (by omega) (by omega) (by omega)
    simp only [spec_l1NameOk.l0]
    rw [if_pos (show i < (s.size : Int) by omega), if_pos h0, wrap_eq (x := i + 1) (by omega) (by omega), ih', ite_okB, allB_succ]
    cases okB (bt s i) <;> rfl

theorem spec_moveOk (s : ByteArray) (b : Bool) (w e l p : Int) (k : Nat) (hk : 9 < k) : spec_StripMoveOk.f k s b w e l p = some (moveOkM s w e l p) := by
  simp only [spec_StripMoveOk.f, spec_l1NameOk.f, spec_in, if_true, Bool.false_eq_true, if_false]
  by_cases hs : 1 ≤ s.size ∧ s.size ≤ 8
  · rw [if_pos (show 1 ≤ (s.size : Int) ∧ (s.size : Int) ≤ 8 by omega), spec_name_l s hs.2 s.size k 0 (by omega) (by omega) (by omega)]
    simp only [Option.bind_some]
    by_cases hm : MoveP s.size w e l p
    · rw [moveOkM_pos hm]
      unfold MoveP at hm
      cases allB s s.size 0 <;> simp only [if_true, Bool.false_eq_true, if_false] <;> (repeat' split) <;> first | rfl | (exfalso; omega)
    · rw [moveOkM_neg hm]
      unfold MoveP at hm
      cases allB s s.size 0 <;> simp only [if_true, Bool.false_eq_true, if_false] <;> (repeat' split) <;> first | rfl | (exfalso; omega)
  · rw [if_neg (show ¬ (1 ≤ (s.size : Int) ∧ (s.size : Int) ≤ 8) by omega), moveOkM_neg (fun h => hs ⟨h.1, h.2.1⟩)]
    rfl

def promM (e l p : Int) : Bool := if p = -1 ∨ e ≤ p ∧ p ≤ l then true else false
theorem impl_name_l (s : ByteArray) (b : Bool) (w e l p : Int) (hs : s.size ≤ 8) (d : Nat) : ∀ (k : Nat) (i : Int), 0 ≤ i → (s.size : Int) - i = d → d < k → impl_StripMoveOk.l0 k i s b w e l p = some (allB s d i && promM e l p) := by
  induction d with
  | zero =>
    intro k i h0 hd hk
    obtain ⟨k, rfl⟩ : ∃ m, k = m + 1 := ⟨k - 1, by omega⟩
    simp only [impl_StripMoveOk.l0, impl_in, allB, promM, Bool.true_and]
    rw [if_neg (show ¬ i < (s.size : Int) by omega)]
    (repeat' split) <;> first | rfl | (exfalso; omega)
  | succ d ih =>
    intro k i h0 hd hk
    obtain ⟨k, rfl⟩ : ∃ m, k = m + 1 := ⟨k - 1, by omega⟩
    have ih' := ih k (i + 1) (by omega) (by omega) (by omega)
    simp only [impl_StripMoveOk.l0]
    rw [if_pos (show i < (s.size : Int) by omega), if_pos h0, wrap_eq (x := i + 1) (by omega) (by omega), ih', ite_okB, allB_succ]
    cases okB (bt s i) <;> rfl

theorem impl_moveOk (s : ByteArray) (b : Bool) (w e l p : Int) (k : Nat) (hk : 10 < k) : impl_StripMoveOk.f k s b w e l p = some (moveOkM s w e l p) := by
  obtain ⟨k, rfl⟩ : ∃ m, k = m + 1 := ⟨k - 1, by omega⟩
  simp only [impl_StripMoveOk.f, impl_StripMoveOk.j0, impl_in, if_true, Bool.false_eq_true, if_false, decide_eq_true_eq]
  by_cases hs : 1 ≤ s.size ∧ s.size ≤ 8
  · rw [if_pos (show 1 ≤ (s.size : Int) ∧ (s.size : Int) ≤ 8 by omega), impl_name_l s b w e l p hs.2 s.size k 0 (by omega) (by omega) (by omega)]
    unfold promM
    by_cases hm : MoveP s.size w e l p
    · rw [moveOkM_pos hm]
      unfold MoveP at hm
      cases allB s s.size 0 <;> (repeat' split) <;> first | rfl | (exfalso; omega)
    · rw [moveOkM_neg hm]
      unfold MoveP at hm
      cases allB s s.size 0 <;> (repeat' split) <;> first | rfl | (exfalso; omega)
  · rw [if_neg (show ¬ (1 ≤ (s.size : Int) ∧ (s.size : Int) ≤ 8) by omega), moveOkM_neg (fun h => hs ⟨h.1, h.2.1⟩)]
end Go.Proofs.Ytpdmimlkgmhepaa.Pure

/- StripMovesOk, the program's and the reference's, is one plain test; no condition. -/
namespace Go.Proofs.Ytpdmimlkgmhepaa.Pure
set_option linter.unusedVariables false
set_option linter.unusedSimpArgs false
open Go.RowKit Go.Proofs.YtpdmimlkgmhepaaW.PrintWords Go.Proofs.Ytpdmimlkgmhepaa.G

/-- The program's moves. -/
abbrev Mv := S54
abbrev z0 : Mv := z54
/-- The move at a place. -/
def at' (l : List Mv) (i : Nat) : Mv := l.getD i z0
theorem rdM (l : List Mv) (i : Nat) : rd_T54 l (i : Int) = at' l i := by simp [rd_T54, at']
theorem rdM_pred (l : List Mv) (i : Nat) (h : 0 < i) : rd_T54 l ((i : Int) - 1) = at' l (i - 1) := by rw [show (i : Int) - 1 = ((i - 1 : Nat) : Int) by omega, rdM]
def mvOk (m : Mv) : Bool := moveOkM m.f0 m.f2 m.f3 m.f4 m.f5
def ltN (a b : ByteArray) : Bool := Op.bytesLess a.toList b.toList
/-- Place i is ok, and above the one ahead. -/
def OkAt (l : List Mv) (i : Nat) : Prop := mvOk (at' l i) = true ∧ (0 < i → ltN (at' l (i - 1)).f0 (at' l i).f0 = true)
instance (l : List Mv) (i : Nat) : Decidable (OkAt l i) := by unfold OkAt; infer_instance
def MovesOk (l : List Mv) : Prop := l.length ≤ 6 ∧ ∀ i, i < l.length → OkAt l i
instance (l : List Mv) : Decidable (MovesOk l) := by unfold MovesOk; infer_instance

theorem spec_mvOk (m : Mv) : Ev (fun k => spec_StripMoveOk.f k m.f0 m.f1 m.f2 m.f3 m.f4 m.f5) (mvOk m) := ⟨10, fun k hk => spec_moveOk _ _ _ _ _ _ k (by omega)⟩
theorem impl_mvOk (m : Mv) : Ev (fun k => impl_StripMoveOk.f k m.f0 m.f1 m.f2 m.f3 m.f4 m.f5) (mvOk m) := ⟨11, fun k hk => impl_moveOk _ _ _ _ _ _ k (by omega)⟩

theorem spec_movesOk (l : List Mv) : Ev (fun k => spec_StripMovesOk.f k l) (decide (MovesOk l)) := by
  unfold spec_StripMovesOk.f
  by_cases h6 : l.length ≤ 6
  · refine Ev.neg (by omega) ?_
    have step : ∀ (i : Nat) (r : Bool), i < l.length → OkAt l i → Ev (fun k => spec_StripMovesOk.l0 k l ((i + 1 : Nat) : Int)) r → Ev (fun k => spec_StripMovesOk.l0 k l (i : Int)) r := by
      intro i r hi ⟨h1, h2⟩ hr
      refine Ev.step (fun _ => spec_StripMovesOk.l0.eq_2 ..) (Ev.pos (by omega) (Ev.pos (by omega) ?_))
      simp only [rdM, wrap_succ hi (show l.length ≤ 1000000000000000000 by omega)]
      refine Ev.bind (spec_mvOk _) (Ev.pos h1 ?_)
      by_cases hp : 0 < i
      · refine Ev.pos (by omega) ?_
        simp only [wrap_eq (x := (i : Int) - 1) (by omega) (by omega), rdM_pred l i hp]
        exact Ev.pos (by omega) (Ev.pos (by omega) (Ev.pos (h2 hp) hr))
      · exact Ev.neg (by omega) hr
    by_cases hall : ∀ i, i < l.length → OkAt l i
    · rw [decide_eq_true (show MovesOk l from ⟨h6, hall⟩)]
      refine ev_yes (n := l.length) (fun i k => spec_StripMovesOk.l0 k l i) hall ?_ (fun i hi h hr => step i _ hi h hr)
      exact Ev.step (fun _ => spec_StripMovesOk.l0.eq_2 ..) (Ev.neg (by omega) (Ev.some rfl))
    · rw [decide_eq_false (fun h : MovesOk l => hall h.2)]
      refine ev_no (n := l.length) (fun i k => spec_StripMovesOk.l0 k l i) hall (fun i hi h hr => step i _ hi h hr) ?_
      intro i hi _ hno
      refine Ev.step (fun _ => spec_StripMovesOk.l0.eq_2 ..) (Ev.pos (by omega) (Ev.pos (by omega) ?_))
      simp only [rdM]
      refine Ev.bind (spec_mvOk _) ?_
      refine Ev.ite (fun h1 => ?_) (fun _ => Ev.some rfl)
      have hp : 0 < i := by
        rcases Nat.eq_zero_or_pos i with e | h
        · exact absurd ⟨h1, fun h => absurd h (by omega)⟩ hno
        · exact h
      refine Ev.pos (by omega) ?_
      simp only [wrap_eq (x := (i : Int) - 1) (by omega) (by omega), rdM_pred l i hp]
      exact Ev.pos (by omega) (Ev.pos (by omega) (Ev.neg (fun h => hno ⟨h1, fun _ => h⟩) (Ev.some rfl)))
  · rw [decide_eq_false (fun h : MovesOk l => h6 h.1)]
    exact Ev.pos (by omega) (Ev.some rfl)

theorem impl_movesOk (l : List Mv) : Ev (fun k => impl_StripMovesOk.f k l) (decide (MovesOk l)) := by
  unfold impl_StripMovesOk.f
  by_cases h6 : l.length ≤ 6
  · refine Ev.neg (by omega) ?_
    have step : ∀ (i : Nat) (r : Bool), i < l.length → OkAt l i → Ev (fun k => impl_StripMovesOk.l0 k l l (l.length : Int) ((i + 1 : Nat) : Int)) r → Ev (fun k => impl_StripMovesOk.l0 k l l (l.length : Int) (i : Int)) r := by
      intro i r hi ⟨h1, h2⟩ hr
      refine Ev.step (fun _ => impl_StripMovesOk.l0.eq_2 ..) (Ev.pos (by omega) (Ev.pos (by omega) (Ev.pos (by omega) ?_)))
      simp only [rdM, wrap_succ hi (show l.length ≤ 1000000000000000000 by omega)]
      refine Ev.bind (impl_mvOk _) (Ev.pos h1 ?_)
      by_cases hp : 0 < i
      · refine Ev.pos (by omega) ?_
        simp only [wrap_eq (x := (i : Int) - 1) (by omega) (by omega), rdM_pred l i hp]
        exact Ev.pos (by omega) (Ev.pos (by omega) (Ev.pos (h2 hp) hr))
      · exact Ev.neg (by omega) hr
    by_cases hall : ∀ i, i < l.length → OkAt l i
    · rw [decide_eq_true (show MovesOk l from ⟨h6, hall⟩)]
      refine ev_yes (n := l.length) (fun i k => impl_StripMovesOk.l0 k l l (l.length : Int) i) hall ?_ (fun i hi h hr => step i _ hi h hr)
      exact Ev.step (fun _ => impl_StripMovesOk.l0.eq_2 ..) (Ev.neg (by omega) (Ev.some rfl))
    · rw [decide_eq_false (fun h : MovesOk l => hall h.2)]
      refine ev_no (n := l.length) (fun i k => impl_StripMovesOk.l0 k l l (l.length : Int) i) hall (fun i hi h hr => step i _ hi h hr) ?_
      intro i hi _ hno
      refine Ev.step (fun _ => impl_StripMovesOk.l0.eq_2 ..) (Ev.pos (by omega) (Ev.pos (by omega) (Ev.pos (by omega) ?_)))
      simp only [rdM]
      refine Ev.bind (impl_mvOk _) ?_
      refine Ev.ite (fun h1 => ?_) (fun _ => Ev.some rfl)
      have hp : 0 < i := by
        rcases Nat.eq_zero_or_pos i with e | h
        · exact absurd ⟨h1, fun h => absurd h (by omega)⟩ hno
        · exact h
      refine Ev.pos (by omega) ?_
      simp only [wrap_eq (x := (i : Int) - 1) (by omega) (by omega), rdM_pred l i hp]
      exact Ev.pos (by omega) (Ev.pos (by omega) (Ev.neg (fun h => hno ⟨h1, fun _ => h⟩) (Ev.some rfl)))
  · rw [decide_eq_false (fun h : MovesOk l => h6 h.1)]
    exact Ev.pos (by omega) (Ev.some rfl)
end Go.Proofs.Ytpdmimlkgmhepaa.Pure

/- The laws' helpers on moves: a copy is the list, turned move by move; equal lists are equal; sizes; condition: what the laws' own guard lets by. -/
namespace Go.Proofs.Ytpdmimlkgmhepaa.Pure
set_option linter.unusedVariables false
set_option linter.unusedSimpArgs false
open Go.RowKit Go.Proofs.YtpdmimlkgmhepaaW.PrintWords Go.Proofs.Ytpdmimlkgmhepaa.G
/-- The laws' moves. -/
abbrev Lm := S71
def LmWf (x : Lm) : Prop := x.f0.size ≤ maxLen ∧ (Lit.int .i64 x.f2).wf = true ∧ (Lit.int .i64 x.f3).wf = true ∧ (Lit.int .i64 x.f4).wf = true ∧ (Lit.int .i64 x.f5).wf = true
def toM (x : Lm) : Mv := ⟨x.f0, x.f1, x.f2, x.f3, x.f4, x.f5⟩
def lat (l : List Lm) (i : Nat) : Lm := l.getD i z71
theorem rdL (l : List Lm) (i : Nat) : rd_T71 l (i : Int) = lat l i := by simp [rd_T71, lat]

theorem toMoves (l : List Lm) (hl : l.length ≤ 1048576) : Ev (fun k => laws_toStripMoveS.f k l) (l.map toM) := by
  unfold laws_toStripMoveS.f
  refine Ev.pos (by omega) (Ev.pos (by omega) ?_)
  simp only [Int.toNat_natCast]
  have key : ∀ d i (s : List Mv), i + d = l.length → s.length = l.length → (∀ j, j < i → s.getD j z0 = toM (lat l j)) → Ev (fun k => laws_toStripMoveS.l0 k l s i) (l.map toM) := by
    intro d
    induction d with
    | zero =>
      intro i s hi hs hp
      refine Ev.step (fun _ => laws_toStripMoveS.l0.eq_2 ..) (Ev.neg (by omega) (Ev.some ?_))
      refine list_eq_getD z0 (by rw [hs, List.length_map]) fun j hj => ?_
      rw [hp j (by omega)]
      simp [List.getD_eq_getElem?_getD, lat, List.getElem?_eq_getElem (show j < l.length by omega)]
    | succ d ih =>
      intro i s hi hs hp
      refine Ev.step (fun _ => laws_toStripMoveS.l0.eq_2 ..) (Ev.pos (by omega) (Ev.pos (by omega) ?_))
      simp only [rdL, laws_toStripMove.f, Option.bind_some, Int.toNat_natCast, wrap_succ (show i < l.length by omega) (show l.length ≤ 1000000000000000000 by omega)]
      refine Ev.pos (by omega) ?_
      obtain ⟨h1, h2⟩ := copy_step (fun j => toM (lat l j)) z0 hs hp (show i < l.length by omega)
      exact ih (i + 1) _ (by omega) h1 h2
  exact key l.length 0 _ (by omega) (by simp) (fun j hj => absurd hj (by omega))

theorem eqMove_self (m : Mv) : laws_eqStripMove.f m.f0 m.f1 m.f2 m.f3 m.f4 m.f5 m.f0 m.f1 m.f2 m.f3 m.f4 m.f5 = some true := by
  unfold laws_eqStripMove.f
  simp
theorem eqMoves (a : List Mv) (hl : a.length ≤ 1048576) : Ev (fun k => laws_eqStripMoveS.f k a a) true := by
  unfold laws_eqStripMoveS.f
  refine Ev.pos rfl ?_
  refine ev_yes (n := a.length) (P := fun _ => True) (fun i k => laws_eqStripMoveS.l0 k a a i) (fun _ _ => trivial) ?_ ?_
  · exact Ev.step (fun _ => laws_eqStripMoveS.l0.eq_2 ..) (Ev.neg (by omega) (Ev.some rfl))
  · intro i hi _ hr
    refine Ev.step (fun _ => laws_eqStripMoveS.l0.eq_2 ..) (Ev.pos (by omega) (Ev.pos (by omega) (Ev.pos (by omega) ?_)))
    simp only [eqMove_self, Option.bind_some]
    refine Ev.pos trivial ?_
    simpa only [wrap_succ hi (show a.length ≤ 1000000000000000000 by omega)] using hr

/-- What the laws' guard says of what it lets by. -/
theorem szMoves (l : List Lm) (a : Int) (ha : 0 ≤ a) (ha' : a ≤ 1048576) (hl : l.length ≤ maxLen) (hw : ∀ x ∈ l, LmWf x) :
    ∃ t : Int, Ev (fun k => laws_szStripMoveS.f k l a) t ∧ t ≤ 1048576 ∧ (0 ≤ t → (l.length : Int) ≤ a ∧ ∀ i, i < l.length → (lat l i).f0.size ≤ 1048576) := by
  unfold maxLen at hl
  unfold laws_szStripMoveS.f
  simp only [wrap_eq (x := a - (l.length : Int)) (by omega) (by omega)]
  by_cases h : a - (l.length : Int) < 0
  · exact ⟨-1, Ev.pos h (Ev.some rfl), by omega, fun h => absurd h (by omega)⟩
  · have key : ∀ d (i : Nat) (a : Int), 0 ≤ a → a ≤ 1048576 → i + d = l.length → (∀ j, j < i → (lat l j).f0.size ≤ 1048576) →
        ∃ t : Int, Ev (fun k => laws_szStripMoveS.l0 k l a (i : Int)) t ∧ t ≤ 1048576 ∧ (0 ≤ t → ∀ i, i < l.length → (lat l i).f0.size ≤ 1048576) := by
      intro d
      induction d with
      | zero =>
        intro i a h0 h1 hi hp
        exact ⟨a, Ev.step (fun _ => laws_szStripMoveS.l0.eq_2 ..) (Ev.neg (by omega) (Ev.some rfl)), h1, fun _ j hj => hp j (by omega)⟩
      | succ d ih =>
        intro i a h0 h1 hi hp
        have hx : LmWf (lat l i) := by
          unfold lat
          rw [List.getD_eq_getElem?_getD, List.getElem?_eq_getElem (show i < l.length by omega)]
          exact hw _ (List.getElem_mem _)
        have hn := hx.1
        unfold maxLen at hn
        by_cases hs : a - ((lat l i).f0.size : Int) < 0
        · refine ⟨-1, Ev.step (fun _ => laws_szStripMoveS.l0.eq_2 ..) (Ev.pos (by omega) (Ev.pos (by omega) ?_)), by omega, fun h => absurd h (by omega)⟩
          simp only [rdL, laws_szStripMove.f, wrap_eq (x := a - ((lat l i).f0.size : Int)) (by omega) (by omega)]
          simp only [if_pos hs, Option.bind_some]
          exact Ev.pos (by decide) (Ev.some rfl)
        · obtain ⟨t, h2, h3, h4⟩ := ih (i + 1) (a - (lat l i).f0.size) (by omega) (by omega) (by omega) (fun j hj => by
            by_cases e : j = i
            · subst e; omega
            · exact hp j (by omega))
          refine ⟨t, Ev.step (fun _ => laws_szStripMoveS.l0.eq_2 ..) (Ev.pos (by omega) (Ev.pos (by omega) ?_)), h3, h4⟩
          simp only [rdL, laws_szStripMove.f, wrap_eq (x := a - ((lat l i).f0.size : Int)) (by omega) (by omega), wrap_succ (show i < l.length by omega) (show l.length ≤ 1000000000000000000 by omega)]
          simp only [if_neg hs, Option.bind_some]
          exact h2
    obtain ⟨t, h2, h3, h4⟩ := key l.length 0 (a - (l.length : Int)) (by omega) (by omega) (by omega) (fun j hj => absurd hj (by omega))
    exact ⟨t, Ev.neg h h2, h3, fun ht => ⟨by omega, h4 ht⟩⟩
end Go.Proofs.Ytpdmimlkgmhepaa.Pure

/- Slices of moves and books that come in read as plain lists; condition: the argument reads as data of its type. -/
namespace Go.Proofs.Ytpdmimlkgmhepaa.G
open Go.Joins Go.ChangeShapes Go.WideShapes Go.RowKit Go.Deep Go.Proofs.YtpdmimlkgmhepaaW.PrintWords
section
variable {H : Type} {enc : TypeId × Value → H} {w : World} {base : Nat} {spare : Nat → Bool} {held : Bool}
theorem open_moves {t fuel : Nat} {cs : List Value} {y : DataW H × List MemPlace} (ht : Try.prog.underlying t = some (.slice 71)) (h : DataW.trod enc Try.prog w base spare held fuel t cs = some y) :
    ∃ A c, ∃ xs : List S71, cs = [.slice A xs.length c] ∧ xs.length ≤ c ∧ c ≤ maxLen ∧ k71.C w A xs.length xs ∧ (∀ z ∈ xs, Pure.LmWf z) :=
  open_rows k71 Pure.LmWf ht (by kernel_rfl) (fun n cs' y hy => by
    have hl : cs'.length = 6 := by
      obtain ⟨_, _, _, _, hl, _⟩ := DataW.trod_struct Try.underlying71 hy
      exact hl.trans (by kernel_rfl)
    obtain ⟨a0, a1, a2, a3, a4, a5, rfl, w0, w2, w3, w4, w5⟩ := open_move hy hl
    exact ⟨⟨a0, a1, a2, a3, a4, a5⟩, k71_mk w ⟨a0, a1, a2, a3, a4, a5⟩, w0, w2, w3, w4, w5⟩) h
/-- A book: four cells. -/
theorem open_book {n : Nat} {cs : List Value} {y : DataW H × List MemPlace} (h : DataW.trod enc Try.prog w base spare held n 38 cs = some y) (hl : cs.length = 4) :
    ∃ (a0 a1 : Int) (A2 : Option Addr) (c2 : Nat) (l2 : List S71) (A3 : Option Addr) (c3 : Nat) (l3 : List Int), cs = [.int .i64 a0, .int .i64 a1, .slice A2 l2.length c2, .slice A3 l3.length c3] ∧
      (Lit.int .i64 a0).wf = true ∧ (Lit.int .i64 a1).wf = true ∧ l2.length ≤ c2 ∧ c2 ≤ maxLen ∧ k71.C w A2 l2.length l2 ∧ (∀ z ∈ l2, Pure.LmWf z) ∧
      l3.length ≤ c3 ∧ c3 ≤ maxLen ∧ (Kd.int .i64).C w A3 l3.length l3 ∧ (∀ z ∈ l3, (Lit.int .i64 z).wf = true) := by
  obtain ⟨xs, n', _, _, _, hxl, hf⟩ := DataW.trod_struct Try.underlying38 h
  match cs, hl with
  | [d0, d1, d2, d3], _ =>
    have h0 := hf 0 _ rfl
    have h1 := hf 1 _ rfl
    have h2 := hf 2 _ rfl
    have h3 := hf 3 _ rfl
    have k1 : Try.prog.cellsOf 3 = 1 := by kernel_rfl
    have k2 : Try.prog.cellsOf 26 = 1 := by kernel_rfl
    have k3 : Try.prog.cellsOf 22 = 1 := by kernel_rfl
    have e0 : xs[0]? = some (xs[0]'(by rw [hxl]; decide)) := List.getElem?_eq_getElem _
    have e1 : xs[1]? = some (xs[1]'(by rw [hxl]; decide)) := List.getElem?_eq_getElem _
    have e2 : xs[2]? = some (xs[2]'(by rw [hxl]; decide)) := List.getElem?_eq_getElem _
    have e3 : xs[3]? = some (xs[3]'(by rw [hxl]; decide)) := List.getElem?_eq_getElem _
    obtain ⟨a0, q0, _, w0⟩ := DataW.trod_int Try.underlying3 (h0.trans e0)
    obtain ⟨a1, q1, _, w1⟩ := DataW.trod_int Try.underlying3 (h1.trans e1)
    obtain ⟨A2, c2, l2, q2, hc2, hm2, hr2, w2⟩ := open_moves Try.underlying26 (h2.trans e2)
    obtain ⟨A3, c3, l3, q3, hc3, hm3, hr3, w3⟩ := open_ints_rows Try.underlying22 Try.underlying3 (by kernel_rfl) (h3.trans e3)
    simp [k1, k2, k3] at q0 q1 q2 q3
    subst q0 q1 q2 q3
    exact ⟨a0, a1, A2, c2, l2, A3, c3, l3, rfl, w0, w1, hc2, hm2, hr2, w2, hc3, hm3, hr3, w3⟩
end
end Go.Proofs.Ytpdmimlkgmhepaa.G

/- StripGap, the program's and the reference's, is one plain number; condition: a round. -/
namespace Go.Proofs.Ytpdmimlkgmhepaa.Pure
set_option linter.unusedVariables false
set_option linter.unusedSimpArgs false
open Go.RowKit Go.Proofs.YtpdmimlkgmhepaaW.PrintWords Go.Proofs.Ytpdmimlkgmhepaa.G

/-- The gap, plainly. -/
def gapM (l : Bool) (a b : Int) : Int := (if l = true then 2 else 1) + (if 1 ≤ a ∧ a ≤ 3 ∧ 1 ≤ b ∧ b ≤ 3 ∧ b < a then a - b else 0)

theorem spec_gap (n1 n2 : ByteArray) (b1 b2 : Bool) (w1 e1 l1 p1 w2 e2 l2 p2 : Int) (k : Nat) : spec_StripGap.f (k + 1) n1 b1 w1 e1 l1 p1 n2 b2 w2 e2 l2 p2 = some (gapM b1 w1 w2) := by
  simp only [spec_StripGap.f, spec_StripGap.j0, spec_l1In.f, gapM]
  cases b1 <;> (repeat' split) <;> simp_all [wrap64] <;> (repeat' split) <;> omega

theorem impl_gap (n1 n2 : ByteArray) (b1 b2 : Bool) (w1 e1 l1 p1 w2 e2 l2 p2 : Int) (k : Nat) : impl_StripGap.f (k + 1) n1 b1 w1 e1 l1 p1 n2 b2 w2 e2 l2 p2 = some (gapM b1 w1 w2) := by
  simp only [impl_StripGap.f, impl_StripGap.j0, impl_in.f, gapM]
  cases b1 <;> (repeat' split) <;> simp_all [wrap64] <;> (repeat' split) <;> omega

theorem gapM_range (l : Bool) (a b : Int) : 1 ≤ gapM l a b ∧ gapM l a b ≤ 4 := by
  unfold gapM
  (repeat' split) <;> omega
end Go.Proofs.Ytpdmimlkgmhepaa.Pure

/- StripFits, StripCost and StripBookOk, the program's and the reference's, plainly; condition: ticks are int64s. -/
namespace Go.Proofs.Ytpdmimlkgmhepaa.Pure
set_option linter.unusedVariables false
set_option linter.unusedSimpArgs false
open Go.RowKit Go.Proofs.YtpdmimlkgmhepaaW.PrintWords Go.Proofs.Ytpdmimlkgmhepaa.G

def gap (a b : Mv) : Int := gapM a.f1 a.f2 b.f2
theorem gap_range (a b : Mv) : 1 ≤ gap a b ∧ gap a b ≤ 4 := gapM_range _ _ _
theorem spec_gapE (a b : Mv) : Ev (fun k => spec_StripGap.f k a.f0 a.f1 a.f2 a.f3 a.f4 a.f5 b.f0 b.f1 b.f2 b.f3 b.f4 b.f5) (gap a b) := ⟨1, fun k hk => by
  obtain ⟨k, rfl⟩ : ∃ m, k = m + 1 := ⟨k - 1, by omega⟩
  exact spec_gap ..⟩
theorem impl_gapE (a b : Mv) : Ev (fun k => impl_StripGap.f k a.f0 a.f1 a.f2 a.f3 a.f4 a.f5 b.f0 b.f1 b.f2 b.f3 b.f4 b.f5) (gap a b) := ⟨1, fun k hk => by
  obtain ⟨k, rfl⟩ : ∃ m, k = m + 1 := ⟨k - 1, by omega⟩
  exact impl_gap ..⟩

/-- The tick at a place. -/
def tk (t : List Int) (i : Nat) : Int := t.getD i 0
def TkWf (t : List Int) : Prop := ∀ i, i < t.length → -9223372036854775808 ≤ tk t i ∧ tk t i ≤ 9223372036854775807
theorem rdT (t : List Int) (i : Nat) : rd t (i : Int) = tk t i := rd_nat t i
/-- Tick i is within its move's bounds. -/
def InR (l : List Mv) (t : List Int) (i : Nat) : Prop := ((at' l i).f3 ≤ tk t i ∧ tk t i ≤ (at' l i).f4) ∧ (0 ≤ (at' l i).f5 → tk t i = (at' l i).f5)
/-- Place k is far enough behind place i, if it is behind. -/
def Ap (l : List Mv) (t : List Int) (i k : Nat) : Prop := tk t i ≠ tk t k ∧ (tk t i < tk t k → gap (at' l i) (at' l k) ≤ tk t k - tk t i)
instance (l : List Mv) (t : List Int) (i : Nat) : Decidable (InR l t i) := by unfold InR; infer_instance
instance (l : List Mv) (t : List Int) (i k : Nat) : Decidable (Ap l t i k) := by unfold Ap; infer_instance
def FitsAt (l : List Mv) (t : List Int) (i : Nat) : Prop := InR l t i ∧ ∀ k, k < l.length → k ≠ i → Ap l t i k
instance (l : List Mv) (t : List Int) (i : Nat) : Decidable (FitsAt l t i) := by unfold FitsAt; infer_instance
def Fits (l : List Mv) (t : List Int) : Prop := MovesOk l ∧ t.length = l.length ∧ ∀ i, i < l.length → FitsAt l t i
instance (l : List Mv) (t : List Int) : Decidable (Fits l t) := by unfold Fits; infer_instance

theorem mvOk_range {m : Mv} (h : mvOk m = true) : 1 ≤ m.f0.size ∧ m.f0.size ≤ 8 ∧ 1 ≤ m.f2 ∧ m.f2 ≤ 3 ∧ 0 ≤ m.f3 ∧ m.f3 ≤ m.f4 ∧ m.f4 ≤ 10000 ∧ (m.f5 = -1 ∨ m.f3 ≤ m.f5 ∧ m.f5 ≤ m.f4) := by
  unfold mvOk at h
  by_cases hm : MoveP m.f0.size m.f2 m.f3 m.f4 m.f5
  · exact hm
  · rw [moveOkM_neg hm] at h
    cases h

theorem impl_fits (l : List Mv) (t : List Int) (hl : l.length ≤ 1048576) (ht : t.length ≤ 1048576) (hw : TkWf t) : Ev (fun k => impl_StripFits.f k l t) (decide (Fits l t)) := by
  unfold impl_StripFits.f
  refine Ev.bind (impl_movesOk l) ?_
  by_cases hm : MovesOk l
  · refine Ev.pos (decide_eq_true hm) (Ev.step (fun _ => impl_StripFits.j0.eq_2 ..) ?_)
    by_cases hlen : t.length = l.length
    · refine Ev.neg (by simp [hlen]) ?_
      -- a round up to its second loop
      have open_ : ∀ (i : Nat) (r : Bool), i < l.length → (InR l t i → Ev (fun k => impl_StripFits.l1 k l t i l l.length i l l.length 0 (at' l i).f0 (at' l i).f1 (at' l i).f2 (at' l i).f3 (at' l i).f4 (at' l i).f5) r) → (¬ InR l t i → r = false) →
          Ev (fun k => impl_StripFits.l0 k l t l l.length i) r := by
        intro i r hi h1 h2
        refine Ev.step (fun _ => impl_StripFits.l0.eq_2 ..) (Ev.pos (by omega) (Ev.pos (by omega) (Ev.pos (by omega) (Ev.pos (by omega) ?_))))
        simp only [rdM, rdT, impl_in]
        refine Ev.ite (fun hr => ?_) (fun hr => ?_)
        · simp only [if_true]
          refine Ev.ite (fun hp => ?_) (fun hp => ?_)
          · refine Ev.step (fun _ => impl_StripFits.j2.eq_2 ..) ?_
            by_cases he : tk t i = (at' l i).f5
            · exact Ev.neg (by simp [he]) (h1 ⟨hr, fun _ => he⟩)
            · exact Ev.pos (by simp [he]) (Ev.some (h2 fun h => he (h.2 hp)).symm)
          · exact Ev.step (fun _ => impl_StripFits.j2.eq_2 ..) (Ev.neg (by decide) (h1 ⟨hr, fun h => absurd h hp⟩))
        · simp only [Bool.false_eq_true, if_false]
          exact Ev.step (fun _ => impl_StripFits.j2.eq_2 ..) (Ev.pos rfl (Ev.some (h2 fun h => hr h.1).symm))
      -- one step of the second loop
      have inner : ∀ (i j : Nat) (r : Bool), i < l.length → InR l t i → j < l.length → (j ≠ i → Ap l t i j) →
          Ev (fun k => impl_StripFits.l1 k l t i l l.length i l l.length ((j + 1 : Nat) : Int) (at' l i).f0 (at' l i).f1 (at' l i).f2 (at' l i).f3 (at' l i).f4 (at' l i).f5) r →
          Ev (fun k => impl_StripFits.l1 k l t i l l.length i l l.length (j : Int) (at' l i).f0 (at' l i).f1 (at' l i).f2 (at' l i).f3 (at' l i).f4 (at' l i).f5) r := by
        intro i j r hi hin hj hap hr
        have hmi := mvOk_range (hm.2 i hi).1
        have hwj := hw j (by omega)
        have hir := hin.1
        refine Ev.step (fun _ => impl_StripFits.l1.eq_2 ..) (Ev.pos (by omega) (Ev.pos (by omega) (Ev.pos (by omega) ?_)))
        simp only [rdM, rdT, wrap_succ hj (show l.length ≤ 1000000000000000000 by omega)]
        by_cases e : j = i
        · exact Ev.pos (by omega) hr
        · have hne := hap e
          refine Ev.neg (by omega) (Ev.pos (by omega) (Ev.pos (by omega) (Ev.pos (by omega) (Ev.neg hne.1 ?_))))
          refine Ev.ite (fun hlt => ?_) (fun _ => hr)
          refine Ev.bind (impl_gapE _ _) ?_
          simp only [wrap_eq (x := tk t j - tk t i) (by omega) (by omega)]
          exact Ev.neg (by have := hne.2 hlt; omega) hr
      by_cases hall : ∀ i, i < l.length → FitsAt l t i
      · rw [decide_eq_true (show Fits l t from ⟨hm, hlen, hall⟩)]
        refine ev_yes (n := l.length) (fun i k => impl_StripFits.l0 k l t l l.length i) hall ?_ ?_
        · exact Ev.step (fun _ => impl_StripFits.l0.eq_2 ..) (Ev.neg (by omega) (Ev.some rfl))
        · intro i hi hP hr
          refine open_ i true hi (fun hin => ?_) (fun h => absurd hP.1 h)
          refine ev_yes (n := l.length) (P := fun j => j ≠ i → Ap l t i j) (fun j k => impl_StripFits.l1 k l t i l l.length i l l.length (j : Int) (at' l i).f0 (at' l i).f1 (at' l i).f2 (at' l i).f3 (at' l i).f4 (at' l i).f5) (fun j hj => hP.2 j hj) ?_ (fun j hj hp hr' => inner i j true hi hin hj hp hr')
          refine Ev.step (fun _ => impl_StripFits.l1.eq_2 ..) (Ev.neg (by omega) ?_)
          simpa only [wrap_succ hi (show l.length ≤ 1000000000000000000 by omega)] using hr
      · rw [decide_eq_false (fun h : Fits l t => hall h.2.2)]
        refine ev_no (n := l.length) (fun i k => impl_StripFits.l0 k l t l l.length i) hall ?_ ?_
        · intro i hi hP hr
          refine open_ i false hi (fun hin => ?_) (fun h => absurd hP.1 h)
          refine ev_yes (n := l.length) (P := fun j => j ≠ i → Ap l t i j) (fun j k => impl_StripFits.l1 k l t i l l.length i l l.length (j : Int) (at' l i).f0 (at' l i).f1 (at' l i).f2 (at' l i).f3 (at' l i).f4 (at' l i).f5) (fun j hj => hP.2 j hj) ?_ (fun j hj hp hr' => inner i j false hi hin hj hp hr')
          refine Ev.step (fun _ => impl_StripFits.l1.eq_2 ..) (Ev.neg (by omega) ?_)
          simpa only [wrap_succ hi (show l.length ≤ 1000000000000000000 by omega)] using hr
        · intro i hi _ hno
          refine open_ i false hi (fun hin => ?_) (fun _ => rfl)
          have hx : ¬ ∀ j, j < l.length → (j ≠ i → Ap l t i j) := fun h => hno ⟨hin, h⟩
          refine ev_no (n := l.length) (P := fun j => j ≠ i → Ap l t i j) (fun j k => impl_StripFits.l1 k l t i l l.length i l l.length (j : Int) (at' l i).f0 (at' l i).f1 (at' l i).f2 (at' l i).f3 (at' l i).f4 (at' l i).f5) hx (fun j hj hp hr' => inner i j false hi hin hj hp hr') ?_
          intro j hj _ hnp
          have hmi := mvOk_range (hm.2 i hi).1
          have hwj := hw j (by omega)
          have hir := hin.1
          have e : j ≠ i := fun e => hnp fun h => absurd e h
          have hna : ¬ Ap l t i j := fun h => hnp fun _ => h
          refine Ev.step (fun _ => impl_StripFits.l1.eq_2 ..) (Ev.pos (by omega) (Ev.pos (by omega) (Ev.pos (by omega) ?_)))
          simp only [rdM, rdT]
          refine Ev.neg (by omega) (Ev.pos (by omega) (Ev.pos (by omega) (Ev.pos (by omega) ?_)))
          by_cases heq : tk t i = tk t j
          · exact Ev.pos heq (Ev.some rfl)
          · refine Ev.neg heq ?_
            have hlt : tk t i < tk t j := by
              rcases Int.lt_trichotomy (tk t i) (tk t j) with h | h | h
              · exact h
              · exact absurd h heq
              · exact absurd ⟨heq, fun h' => absurd h' (by omega)⟩ hna
            refine Ev.pos hlt (Ev.bind (impl_gapE _ _) ?_)
            simp only [wrap_eq (x := tk t j - tk t i) (by omega) (by omega)]
            refine Ev.pos ?_ (Ev.some rfl)
            by_cases hg : tk t j - tk t i < gap (at' l i) (at' l j)
            · exact hg
            · exact absurd ⟨heq, fun _ => by omega⟩ hna
    · rw [decide_eq_false (fun h : Fits l t => hlen h.2.1)]
      refine Ev.pos ?_ (Ev.some rfl)
      simp only [bne_iff_ne, ne_eq]
      omega
  · rw [decide_eq_false (fun h : Fits l t => hm h.1)]
    refine Ev.neg (by simp [hm]) (Ev.step (fun _ => impl_StripFits.j0.eq_2 ..) (Ev.pos rfl (Ev.some rfl)))

/-- What the reference asks at a place. -/
def FitsSp (l : List Mv) (t : List Int) (i : Nat) : Prop := InR l t i ∧ ∀ k, k < i → Ap l t k i ∧ Ap l t i k
theorem fitsSp_iff (l : List Mv) (t : List Int) : (∀ i, i < l.length → FitsSp l t i) ↔ ∀ i, i < l.length → FitsAt l t i := by
  constructor
  · intro h i hi
    refine ⟨(h i hi).1, fun k hk hne => ?_⟩
    rcases Nat.lt_or_ge k i with hlt | hge
    · exact ((h i hi).2 k hlt).2
    · exact ((h k hk).2 i (by omega)).1
  · intro h i hi
    exact ⟨(h i hi).1, fun k hk => ⟨(h k (by omega)).2 i hi (by omega), (h i hi).2 k (by omega) (by omega)⟩⟩

theorem spec_apart (a b : Mv) (s t : Int) (hs : 0 ≤ s ∧ s ≤ 10000) (ht : 0 ≤ t ∧ t ≤ 10000) :
    Ev (fun k => spec_l2Apart.f k a.f0 a.f1 a.f2 a.f3 a.f4 a.f5 s b.f0 b.f1 b.f2 b.f3 b.f4 b.f5 t) (decide ((s ≠ t ∧ (s < t → gap a b ≤ t - s)) ∧ (t ≠ s ∧ (t < s → gap b a ≤ s - t)))) := by
  unfold spec_l2Apart.f
  simp only [wrap_eq (x := s - t) (by omega) (by omega), wrap_eq (x := t - s) (by omega) (by omega)]
  refine Ev.ite (fun e => ?_) (fun e => Ev.ite (fun hlt => ?_) (fun hge => ?_))
  · exact Ev.some (by simp [e])
  · refine Ev.bind (spec_gapE a b) (Ev.some ?_)
    refine decide_eq_decide.2 ⟨fun h => ⟨⟨e, fun _ => h⟩, fun h' => e h'.symm, fun h' => absurd h' (by omega)⟩, fun h => h.1.2 hlt⟩
  · refine Ev.bind (spec_gapE b a) (Ev.some ?_)
    refine decide_eq_decide.2 ⟨fun h => ⟨⟨e, fun h' => absurd h' hge⟩, fun h' => e h'.symm, fun _ => h⟩, fun h => h.2.2 (by omega)⟩

theorem spec_fits (l : List Mv) (t : List Int) (hl : l.length ≤ 1048576) (ht : t.length ≤ 1048576) : Ev (fun k => spec_StripFits.f k l t) (decide (Fits l t)) := by
  unfold spec_StripFits.f
  refine Ev.bind (spec_movesOk l) ?_
  by_cases hm : MovesOk l
  · refine Ev.pos (decide_eq_true hm) (Ev.step (fun _ => spec_StripFits.j0.eq_2 ..) ?_)
    by_cases hlen : t.length = l.length
    · refine Ev.neg (by simp [hlen]) ?_
      have rng : ∀ i, i < l.length → InR l t i → 0 ≤ tk t i ∧ tk t i ≤ 10000 := by
        intro i hi hin
        have hmi := mvOk_range (hm.2 i hi).1
        have hir := hin.1
        omega
      have open_ : ∀ (i : Nat) (r : Bool), i < l.length → (InR l t i → Ev (fun k => spec_StripFits.l1 k l t i 0) r) → (¬ InR l t i → r = false) → Ev (fun k => spec_StripFits.l0 k l t i) r := by
        intro i r hi h1 h2
        refine Ev.step (fun _ => spec_StripFits.l0.eq_2 ..) (Ev.pos (by omega) (Ev.pos (by omega) (Ev.pos (by omega) ?_)))
        simp only [rdM, rdT, spec_in]
        refine Ev.ite (fun hr => ?_) (fun hr => ?_)
        · simp only [if_true]
          refine Ev.ite (fun hp => ?_) (fun hp => ?_)
          · refine Ev.step (fun _ => spec_StripFits.j2.eq_2 ..) ?_
            by_cases he : tk t i = (at' l i).f5
            · exact Ev.neg (by simp [he]) (h1 ⟨hr, fun _ => he⟩)
            · exact Ev.pos (by simp [he]) (Ev.some (h2 fun h => he (h.2 hp)).symm)
          · exact Ev.step (fun _ => spec_StripFits.j2.eq_2 ..) (Ev.neg (by decide) (h1 ⟨hr, fun h => absurd h hp⟩))
        · simp only [Bool.false_eq_true, if_false]
          exact Ev.step (fun _ => spec_StripFits.j2.eq_2 ..) (Ev.pos rfl (Ev.some (h2 fun h => hr h.1).symm))
      have inner : ∀ (i j : Nat) (r : Bool), i < l.length → InR l t i → InR l t j → j < i → (Ap l t j i ∧ Ap l t i j → Ev (fun k => spec_StripFits.l1 k l t i ((j + 1 : Nat) : Int)) r) → (¬ (Ap l t j i ∧ Ap l t i j) → r = false) →
          Ev (fun k => spec_StripFits.l1 k l t i (j : Int)) r := by
        intro i j r hi hin hjn hj h1 h2
        refine Ev.step (fun _ => spec_StripFits.l1.eq_2 ..) (Ev.pos (by omega) (Ev.pos (by omega) (Ev.pos (by omega) (Ev.pos (by omega) (Ev.pos (by omega) (Ev.pos (by omega) (Ev.pos (by omega) ?_)))))))
        simp only [rdM, rdT, wrap_succ hj (show i ≤ 1000000000000000000 by omega)]
        refine Ev.bind (spec_apart _ _ _ _ (rng j (by omega) hjn) (rng i hi hin)) ?_
        refine Ev.ite (fun h => h1 (of_decide_eq_true h)) (fun h => Ev.some (h2 fun h' => h (decide_eq_true h')).symm)
      by_cases hall : ∀ i, i < l.length → FitsSp l t i
      · rw [decide_eq_true (show Fits l t from ⟨hm, hlen, (fitsSp_iff l t).1 hall⟩)]
        refine ev_yes (n := l.length) (fun i k => spec_StripFits.l0 k l t i) hall ?_ ?_
        · exact Ev.step (fun _ => spec_StripFits.l0.eq_2 ..) (Ev.neg (by omega) (Ev.some rfl))
        · intro i hi hP hr
          refine open_ i true hi (fun hin => ?_) (fun h => absurd hP.1 h)
          refine ev_yes (n := i) (P := fun j => Ap l t j i ∧ Ap l t i j) (fun j k => spec_StripFits.l1 k l t i j) hP.2 ?_ (fun j hj hp hr' => inner i j true hi hin (hall j (by omega)).1 hj (fun _ => hr') (fun h => absurd hp h))
          refine Ev.step (fun _ => spec_StripFits.l1.eq_2 ..) (Ev.neg (by omega) ?_)
          simpa only [wrap_succ hi (show l.length ≤ 1000000000000000000 by omega)] using hr
      · rw [decide_eq_false (fun h : Fits l t => hall ((fitsSp_iff l t).2 h.2.2))]
        refine ev_no' (n := l.length) (fun i k => spec_StripFits.l0 k l t i) hall ?_ ?_
        · intro i hi hpre hP hr
          refine open_ i false hi (fun hin => ?_) (fun h => absurd hP.1 h)
          refine ev_yes (n := i) (P := fun j => Ap l t j i ∧ Ap l t i j) (fun j k => spec_StripFits.l1 k l t i j) hP.2 ?_ (fun j hj hp hr' => inner i j false hi hin (hpre j hj).1 hj (fun _ => hr') (fun _ => rfl))
          refine Ev.step (fun _ => spec_StripFits.l1.eq_2 ..) (Ev.neg (by omega) ?_)
          simpa only [wrap_succ hi (show l.length ≤ 1000000000000000000 by omega)] using hr
        · intro i hi hpre hno
          refine open_ i false hi (fun hin => ?_) (fun _ => rfl)
          have hx : ¬ ∀ j, j < i → (Ap l t j i ∧ Ap l t i j) := fun h => hno ⟨hin, h⟩
          exact ev_no (n := i) (P := fun j => Ap l t j i ∧ Ap l t i j) (fun j k => spec_StripFits.l1 k l t i j) hx (fun j hj hp hr' => inner i j false hi hin (hpre j hj).1 hj (fun _ => hr') (fun _ => rfl))
            (fun j hj _ hnp => inner i j false hi hin (hpre j hj).1 hj (fun h => absurd h hnp) (fun _ => rfl))
    · rw [decide_eq_false (fun h : Fits l t => hlen h.2.1)]
      refine Ev.pos ?_ (Ev.some rfl)
      simp only [bne_iff_ne, ne_eq]
      omega
  · rw [decide_eq_false (fun h : Fits l t => hm h.1)]
    refine Ev.neg (by simp [hm]) (Ev.step (fun _ => spec_StripFits.j0.eq_2 ..) (Ev.pos rfl (Ev.some rfl)))
end Go.Proofs.Ytpdmimlkgmhepaa.Pure

/- The plain functions of this seat's Go text and, for each, that the call comes to what its plain function says: written for this claim by a program of the session (drv.py) over the kit's print.py. -/
namespace Go.Proofs.Ytpdmimlkgmhepaa.G
open Go.RowKit Go.Proofs.YtpdmimlkgmhepaaW.PrintWords Go.Proofs.YtpdmimlkgmhepaaW.PrintLast Go.Proofs.YtpdmimlkgmhepaaW.PrintMore
attribute [local go_sem] max2_int min2_int max_two min_two max_three min_three max_four min_four   -- for this text's walks alone
set_option linter.unusedVariables false
set_option linter.unusedSimpArgs false

/-! ### laws_szIntS: function 60 -/
def laws_szIntS.f (l0 : List Int) (a1 : Int) : Option (Int) := if (wrap64 (a1 - (l0.length : Int))) < 0 then (some (-1)) else (some (wrap64 (a1 - (l0.length : Int))))
set_option maxHeartbeats 8000000 in
set_option maxRecDepth 100000 in
theorem laws_szIntS.calls (A0 : Option Addr) (c0 : Nat) (l0 : List Int) (a1 : Int) (r : Int) (w : World) (hr0 : Kd.C (Kd.int .i64) w A0 l0.length l0) (hc0 : l0.length ≤ c0) (h : laws_szIntS.f l0 a1 = some r) :
  Calls Try.prog 60 #[.slice A0 l0.length c0, .int .i64 a1] w fun e w' => e = .returned (.int .i64 r) ∧ Drawn0 w w' := by
 have HR0 := Aside0.mk hr0
 have HC0 := Aside0.mk hc0
 clear hr0 hc0
 have H : (if (wrap64 (a1 - (l0.length : Int))) < 0 then (some (-1)) else (some (wrap64 (a1 - (l0.length : Int))))) = some r := h
 clear h
 by_cases c3 : (wrap64 (a1 - (l0.length : Int))) < 0
 ·rw [if_pos c3] at H
  have c3b0 : decide ((wrap64 (a1 - (l0.length : Int))) < 0) = true := decide_eq_true c3
  clear c3
  obtain rfl := Option.some.inj H
  go_enter Try.func60, Try.ntmps60
  go_wp2
  go_ret
  exact ⟨by first | rfl | (simp; done) | (simp [*]; done), by repeat (first | exact Drawn0.refl _ | apply Drawn0.step)⟩
 ·rw [if_neg c3] at H
  have c3b0 : decide ((wrap64 (a1 - (l0.length : Int))) < 0) = false := decide_eq_false c3
  clear c3
  obtain rfl := Option.some.inj H
  go_enter Try.func60, Try.ntmps60
  go_wp2
  go_ret
  exact ⟨by first | rfl | (simp; done) | (simp [*]; done), by repeat (first | exact Drawn0.refl _ | apply Drawn0.step)⟩

end Go.Proofs.Ytpdmimlkgmhepaa.G

/- The plain functions of this seat's Go text and, for each, that the call comes to what its plain function says: written for this claim by a program of the session (drv.py) over the kit's print.py. -/
namespace Go.Proofs.Ytpdmimlkgmhepaa.G
open Go.RowKit Go.Proofs.YtpdmimlkgmhepaaW.PrintWords Go.Proofs.YtpdmimlkgmhepaaW.PrintLast Go.Proofs.YtpdmimlkgmhepaaW.PrintMore
attribute [local go_sem] max2_int min2_int max_two min_two max_three min_three max_four min_four   -- for this text's walks alone
set_option linter.unusedVariables false
set_option linter.unusedSimpArgs false

/-! ### laws_szStripBook: function 24 -/
def laws_szStripBook.f (k : Nat) (a0_0 : Int) (a0_1 : Int) (l0_2 : List (S71)) (l0_3 : List Int) (a1 : Int) : Option (Int) := (laws_szStripMoveS.f k l0_2 a1).bind fun t102 => (if t102 < 0 then (some (-1)) else ((laws_szIntS.f l0_3 t102).bind fun t103 => (if t103 < 0 then (some (-1)) else (some t103))))
theorem laws_szStripBook.mono : ∀ a0 a1 a2 a3 a4 k, LeO (laws_szStripBook.f k a0 a1 a2 a3 a4) (laws_szStripBook.f (k + 1) a0 a1 a2 a3 a4) := by
 intro a0 a1 a2 a3 a4 k
 unfold laws_szStripBook.f
 repeat' first
   | (with_reducible exact laws_szStripMoveS.mono _ _ _)
   | (with_reducible exact LeO.refl _)
   | (with_reducible exact LeO.none _)
   | (with_reducible refine LeO.ite ?_ ?_)
   | (with_reducible refine LeO.bind ?_ (fun _ => ?_))
   | exact laws_szStripMoveS.mono _ _ _
   | exact LeO.none _
   | refine LeO.ite ?_ ?_
   | refine LeO.bind ?_ (fun _ => ?_)
set_option maxHeartbeats 8000000 in
set_option maxRecDepth 100000 in
theorem laws_szStripBook.calls (k : Nat) (a0_0 : Int) (a0_1 : Int) (A0_2 : Option Addr) (c0_2 : Nat) (l0_2 : List (S71)) (A0_3 : Option Addr) (c0_3 : Nat) (l0_3 : List Int) (a1 : Int) (r : Int) (w : World) (hr0_2 : Kd.C k71 w A0_2 l0_2.length l0_2) (hc0_2 : l0_2.length ≤ c0_2) (hr0_3 : Kd.C (Kd.int .i64) w A0_3 l0_3.length l0_3) (hc0_3 : l0_3.length ≤ c0_3) (h : laws_szStripBook.f k a0_0 a0_1 l0_2 l0_3 a1 = some r) :
  Calls Try.prog 24 #[.agg #[.int .i64 a0_0, .int .i64 a0_1, .slice A0_2 l0_2.length c0_2, .slice A0_3 l0_3.length c0_3], .int .i64 a1] w fun e w' => e = .returned (.int .i64 r) ∧ Below w.heap.size w w' := by
 have hu38 := Try.underlying38
 have HR0_2 := Aside0.mk hr0_2
 have HC0_2 := Aside0.mk hc0_2
 clear hr0_2 hc0_2
 have HR0_3 := Aside0.mk hr0_3
 have HC0_3 := Aside0.mk hc0_3
 clear hr0_3 hc0_3
 have HB := Aside0.mk (Below.refl w.heap.size w)
 have H : ((laws_szStripMoveS.f k l0_2 a1).bind fun t102 => (if t102 < 0 then (some (-1)) else ((laws_szIntS.f l0_3 t102).bind fun t103 => (if t103 < 0 then (some (-1)) else (some t103))))) = some r := h
 clear h
 replace H := Option.bind_eq_some_iff.mp H
 obtain ⟨t102, A30, H⟩ := H
 replace H : (if t102 < 0 then (some (-1)) else ((laws_szIntS.f l0_3 t102).bind fun t103 => (if t103 < 0 then (some (-1)) else (some t103)))) = some r := H
 have A3 := Aside0.mk A30
 clear A30
 by_cases c4 : t102 < 0
 ·rw [if_pos c4] at H
  have c4b0 : decide (t102 < 0) = true := decide_eq_true c4
  clear c4
  obtain rfl := Option.some.inj H
  go_enter Try.func24, Try.ntmps24
  go_wp2_with (first | ((with_reducible refine gate_dst (N := 2) rfl ?_); refine box_event ?hg (N := 2) ?hd (cs := #[.int .i64 a0_0, .int .i64 a0_1, .slice A0_2 l0_2.length c0_2, .slice A0_3 l0_3.length c0_3]) (t := 38) ?hr ?_; (case hd => rfl); (case hg => rfl); (case hr => first | (go_simp; done) | (go_simp; rfl)); intro gb101 hg w5 hbox hb; have n0_ := Aside0.mk (below_step (eb HB.out) hb); have n1_ := Aside0.mk (hbox); have n2_ := Aside0.mk ((by rw [hg]; exact (below_size (eb HB.out)) : w.heap.size ≤ gb101)); have n3_ := Aside0.mk ((by rw [hg]; exact (below_size (eb HB.out)) : w.heap.size ≤ gb101)); clear HB; have HB := n0_; have BK101 := n1_; have GW101 := n2_; have GE101 := n3_; clear n0_ n1_ n2_ n3_; clear hb hbox hg; obtain ⟨hcz6_0, hcz6_1, hcz6_2, hcz6_3⟩ := bc4 BK101.out; obtain ⟨hfz6_0, hfz6_1, hfz6_2, hfz6_3⟩ := bf4 BK101.out) | ((with_reducible refine gate_callee (f := 15) rfl ?_); refine goesL_ (some 8) rfl rfl Try.func15 (by kernel_rfl) rfl #[.slice A0_2 l0_2.length c0_2, .int .i64 a1] rfl (by (try simp only [List.map_toArray, List.map_cons, List.map_nil]); first | done | rfl | (simp only [List.length_drop, List.length_take]; rfl)) ?_; (with_reducible refine (laws_szStripMoveS.calls k _ _ l0_2 a1 t102 _ ?side1 ?side2 A3.out).mono ?_); (case side1 => repeat (first | exact (Kd.C_below HR0_2.out HB.out) | (with_reducible refine Kd.C_alloc ?_ _) | (with_reducible refine Kd.C_drewN ?_ _) | (with_reducible refine Kd.C_drew ?_))); (case side2 => exact HC0_2.out); rintro e w7 ⟨rfl, hb⟩; refine ⟨_, rfl, ?_⟩; have n0_ := Aside0.mk (blk_below (g := gb101) (o := .cells #[.int .i64 a0_0, .int .i64 a0_1, .slice A0_2 l0_2.length c0_2, .slice A0_3 l0_3.length c0_3] 38 (0, 0)) (ex BK101.out) hb); have n1_ := Aside0.mk (below_step (by repeat (first | (with_reducible first | exact HB.out | apply below_alloc | apply pw_below_drewN | apply below_drew1 | refine below_set ?_ GE101.out) | exact HB.out)) hb); clear BK101; clear HB; have BK101 := n0_; have HB := n1_; clear n0_ n1_; (try clear hb); (try clear hb2); (try clear hk); (try clear hi)))
  go_ret
  exact ⟨by first | rfl | (simp [errW_none, errW_some] <;> rfl) | (simp [*, errW_none, errW_some] <;> rfl), by repeat (first | (with_reducible first | exact HB.out | apply below_alloc | apply pw_below_drewN | apply below_drew1 | refine below_set ?_ GE101.out) | exact HB.out)⟩
 ·rw [if_neg c4] at H
  have c4b0 : decide (t102 < 0) = false := decide_eq_false c4
  clear c4
  replace H := Option.bind_eq_some_iff.mp H
  obtain ⟨t103, A80, H⟩ := H
  replace H : (if t103 < 0 then (some (-1)) else (some t103)) = some r := H
  have A8 := Aside0.mk A80
  clear A80
  by_cases c9 : t103 < 0
  ·rw [if_pos c9] at H
   have c9b0 : decide (t103 < 0) = true := decide_eq_true c9
   clear c9
   obtain rfl := Option.some.inj H
   go_enter Try.func24, Try.ntmps24
   go_wp2_with (first | ((with_reducible refine gate_dst (N := 2) rfl ?_); refine box_event ?hg (N := 2) ?hd (cs := #[.int .i64 a0_0, .int .i64 a0_1, .slice A0_2 l0_2.length c0_2, .slice A0_3 l0_3.length c0_3]) (t := 38) ?hr ?_; (case hd => rfl); (case hg => rfl); (case hr => first | (go_simp; done) | (go_simp; rfl)); intro gb101 hg w10 hbox hb; have n0_ := Aside0.mk (below_step (eb HB.out) hb); have n1_ := Aside0.mk (hbox); have n2_ := Aside0.mk ((by rw [hg]; exact (below_size (eb HB.out)) : w.heap.size ≤ gb101)); have n3_ := Aside0.mk ((by rw [hg]; exact (below_size (eb HB.out)) : w.heap.size ≤ gb101)); clear HB; have HB := n0_; have BK101 := n1_; have GW101 := n2_; have GE101 := n3_; clear n0_ n1_ n2_ n3_; clear hb hbox hg; obtain ⟨hcz11_0, hcz11_1, hcz11_2, hcz11_3⟩ := bc4 BK101.out; obtain ⟨hfz11_0, hfz11_1, hfz11_2, hfz11_3⟩ := bf4 BK101.out) | ((with_reducible refine gate_callee (f := 15) rfl ?_); refine goesL_ (some 8) rfl rfl Try.func15 (by kernel_rfl) rfl #[.slice A0_2 l0_2.length c0_2, .int .i64 a1] rfl (by (try simp only [List.map_toArray, List.map_cons, List.map_nil]); first | done | rfl | (simp only [List.length_drop, List.length_take]; rfl)) ?_; (with_reducible refine (laws_szStripMoveS.calls k _ _ l0_2 a1 t102 _ ?side1 ?side2 A3.out).mono ?_); (case side1 => repeat (first | exact (Kd.C_below HR0_2.out HB.out) | (with_reducible refine Kd.C_alloc ?_ _) | (with_reducible refine Kd.C_drewN ?_ _) | (with_reducible refine Kd.C_drew ?_))); (case side2 => exact HC0_2.out); rintro e w12 ⟨rfl, hb⟩; refine ⟨_, rfl, ?_⟩; have n0_ := Aside0.mk (blk_below (g := gb101) (o := .cells #[.int .i64 a0_0, .int .i64 a0_1, .slice A0_2 l0_2.length c0_2, .slice A0_3 l0_3.length c0_3] 38 (0, 0)) (ex BK101.out) hb); have n1_ := Aside0.mk (below_step (by repeat (first | (with_reducible first | exact HB.out | apply below_alloc | apply pw_below_drewN | apply below_drew1 | refine below_set ?_ GE101.out) | exact HB.out)) hb); clear BK101; clear HB; have BK101 := n0_; have HB := n1_; clear n0_ n1_; (try clear hb); (try clear hb2); (try clear hk); (try clear hi); obtain ⟨hcz13_0, hcz13_1, hcz13_2, hcz13_3⟩ := bc4 BK101.out; obtain ⟨hfz13_0, hfz13_1, hfz13_2, hfz13_3⟩ := bf4 BK101.out) | ((with_reducible refine gate_callee (f := 60) rfl ?_); refine goesL_ (some 14) rfl rfl Try.func60 (by kernel_rfl) rfl #[.slice A0_3 l0_3.length c0_3, .int .i64 t102] rfl (by (try simp only [List.map_toArray, List.map_cons, List.map_nil]); first | done | rfl | (simp only [List.length_drop, List.length_take]; rfl)) ?_; (with_reducible refine (laws_szIntS.calls _ _ l0_3 t102 t103 _ ?side1 ?side2 A8.out).mono ?_); (case side1 => repeat (first | exact (Kd.C_below HR0_3.out HB.out) | (with_reducible refine Kd.C_alloc ?_ _) | (with_reducible refine Kd.C_drewN ?_ _) | (with_reducible refine Kd.C_drew ?_))); (case side2 => exact HC0_3.out); rintro e w' ⟨rfl, ⟨nd, rfl⟩⟩; refine ⟨_, rfl, ?_⟩))
   go_ret
   exact ⟨by first | rfl | (simp [errW_none, errW_some] <;> rfl) | (simp [*, errW_none, errW_some] <;> rfl), by repeat (first | (with_reducible first | exact HB.out | apply below_alloc | apply pw_below_drewN | apply below_drew1 | refine below_set ?_ GE101.out) | exact HB.out)⟩
  ·rw [if_neg c9] at H
   have c9b0 : decide (t103 < 0) = false := decide_eq_false c9
   clear c9
   obtain rfl := Option.some.inj H
   go_enter Try.func24, Try.ntmps24
   go_wp2_with (first | ((with_reducible refine gate_dst (N := 2) rfl ?_); refine box_event ?hg (N := 2) ?hd (cs := #[.int .i64 a0_0, .int .i64 a0_1, .slice A0_2 l0_2.length c0_2, .slice A0_3 l0_3.length c0_3]) (t := 38) ?hr ?_; (case hd => rfl); (case hg => rfl); (case hr => first | (go_simp; done) | (go_simp; rfl)); intro gb101 hg w14 hbox hb; have n0_ := Aside0.mk (below_step (eb HB.out) hb); have n1_ := Aside0.mk (hbox); have n2_ := Aside0.mk ((by rw [hg]; exact (below_size (eb HB.out)) : w.heap.size ≤ gb101)); have n3_ := Aside0.mk ((by rw [hg]; exact (below_size (eb HB.out)) : w.heap.size ≤ gb101)); clear HB; have HB := n0_; have BK101 := n1_; have GW101 := n2_; have GE101 := n3_; clear n0_ n1_ n2_ n3_; clear hb hbox hg; obtain ⟨hcz15_0, hcz15_1, hcz15_2, hcz15_3⟩ := bc4 BK101.out; obtain ⟨hfz15_0, hfz15_1, hfz15_2, hfz15_3⟩ := bf4 BK101.out) | ((with_reducible refine gate_callee (f := 15) rfl ?_); refine goesL_ (some 8) rfl rfl Try.func15 (by kernel_rfl) rfl #[.slice A0_2 l0_2.length c0_2, .int .i64 a1] rfl (by (try simp only [List.map_toArray, List.map_cons, List.map_nil]); first | done | rfl | (simp only [List.length_drop, List.length_take]; rfl)) ?_; (with_reducible refine (laws_szStripMoveS.calls k _ _ l0_2 a1 t102 _ ?side1 ?side2 A3.out).mono ?_); (case side1 => repeat (first | exact (Kd.C_below HR0_2.out HB.out) | (with_reducible refine Kd.C_alloc ?_ _) | (with_reducible refine Kd.C_drewN ?_ _) | (with_reducible refine Kd.C_drew ?_))); (case side2 => exact HC0_2.out); rintro e w16 ⟨rfl, hb⟩; refine ⟨_, rfl, ?_⟩; have n0_ := Aside0.mk (blk_below (g := gb101) (o := .cells #[.int .i64 a0_0, .int .i64 a0_1, .slice A0_2 l0_2.length c0_2, .slice A0_3 l0_3.length c0_3] 38 (0, 0)) (ex BK101.out) hb); have n1_ := Aside0.mk (below_step (by repeat (first | (with_reducible first | exact HB.out | apply below_alloc | apply pw_below_drewN | apply below_drew1 | refine below_set ?_ GE101.out) | exact HB.out)) hb); clear BK101; clear HB; have BK101 := n0_; have HB := n1_; clear n0_ n1_; (try clear hb); (try clear hb2); (try clear hk); (try clear hi); obtain ⟨hcz17_0, hcz17_1, hcz17_2, hcz17_3⟩ := bc4 BK101.out; obtain ⟨hfz17_0, hfz17_1, hfz17_2, hfz17_3⟩ := bf4 BK101.out) | ((with_reducible refine gate_callee (f := 60) rfl ?_); refine goesL_ (some 14) rfl rfl Try.func60 (by kernel_rfl) rfl #[.slice A0_3 l0_3.length c0_3, .int .i64 t102] rfl (by (try simp only [List.map_toArray, List.map_cons, List.map_nil]); first | done | rfl | (simp only [List.length_drop, List.length_take]; rfl)) ?_; (with_reducible refine (laws_szIntS.calls _ _ l0_3 t102 t103 _ ?side1 ?side2 A8.out).mono ?_); (case side1 => repeat (first | exact (Kd.C_below HR0_3.out HB.out) | (with_reducible refine Kd.C_alloc ?_ _) | (with_reducible refine Kd.C_drewN ?_ _) | (with_reducible refine Kd.C_drew ?_))); (case side2 => exact HC0_3.out); rintro e w' ⟨rfl, ⟨nd, rfl⟩⟩; refine ⟨_, rfl, ?_⟩))
   go_ret
   exact ⟨by first | rfl | (simp [errW_none, errW_some] <;> rfl) | (simp [*, errW_none, errW_some] <;> rfl), by repeat (first | (with_reducible first | exact HB.out | apply below_alloc | apply pw_below_drewN | apply below_drew1 | refine below_set ?_ GE101.out) | exact HB.out)⟩

end Go.Proofs.Ytpdmimlkgmhepaa.G

/- The plain functions of this seat's Go text and, for each, that the call comes to what its plain function says: written for this claim by a program of the session (drv.py) over the kit's print.py. -/
namespace Go.Proofs.Ytpdmimlkgmhepaa.G
open Go.RowKit Go.Proofs.YtpdmimlkgmhepaaW.PrintWords Go.Proofs.YtpdmimlkgmhepaaW.PrintLast Go.Proofs.YtpdmimlkgmhepaaW.PrintMore
attribute [local go_sem] max2_int min2_int max_two min_two max_three min_three max_four min_four   -- for this text's walks alone
set_option linter.unusedVariables false
set_option linter.unusedSimpArgs false

/-! ### laws_toStripBook: function 26 -/
def laws_toStripBook.f (k : Nat) (a0_0 : Int) (a0_1 : Int) (l0_2 : List (S71)) (l0_3 : List Int) : Option (Int × Int × (List (S54)) × List Int) := (laws_toStripMoveS.f k l0_2).bind fun t104 => ((laws_toIntS.f k l0_3).bind fun t107 => (some (a0_0, a0_1, t104, t107)))
theorem laws_toStripBook.mono : ∀ a0 a1 a2 a3 k, LeO (laws_toStripBook.f k a0 a1 a2 a3) (laws_toStripBook.f (k + 1) a0 a1 a2 a3) := by
 intro a0 a1 a2 a3 k
 unfold laws_toStripBook.f
 repeat' first
   | (with_reducible exact laws_toIntS.mono _ _)
   | (with_reducible exact laws_toStripMoveS.mono _ _)
   | (with_reducible exact LeO.refl _)
   | (with_reducible exact LeO.none _)
   | (with_reducible refine LeO.ite ?_ ?_)
   | (with_reducible refine LeO.bind ?_ (fun _ => ?_))
   | exact laws_toIntS.mono _ _
   | exact laws_toStripMoveS.mono _ _
   | exact LeO.none _
   | refine LeO.ite ?_ ?_
   | refine LeO.bind ?_ (fun _ => ?_)
set_option maxHeartbeats 8000000 in
set_option maxRecDepth 100000 in
theorem laws_toStripBook.calls (k : Nat) (a0_0 : Int) (a0_1 : Int) (A0_2 : Option Addr) (c0_2 : Nat) (l0_2 : List (S71)) (A0_3 : Option Addr) (c0_3 : Nat) (l0_3 : List Int) (r1 : Int) (r2 : Int) (r3 : List (S54)) (r4 : List Int) (w : World) (hr0_2 : Kd.C k71 w A0_2 l0_2.length l0_2) (hc0_2 : l0_2.length ≤ c0_2) (hr0_3 : Kd.C (Kd.int .i64) w A0_3 l0_3.length l0_3) (hc0_3 : l0_3.length ≤ c0_3) (h : laws_toStripBook.f k a0_0 a0_1 l0_2 l0_3 = some (r1, r2, r3, r4)) :
  Calls Try.prog 26 #[.agg #[.int .i64 a0_0, .int .i64 a0_1, .slice A0_2 l0_2.length c0_2, .slice A0_3 l0_3.length c0_3]] w fun e w' => ∃ v2_ v3_ : Value, e = .returned (.agg #[.int .i64 r1, .int .i64 r2, v2_, v3_]) ∧ Kd.R k54 54 w' w.heap.size (fun _ => True) v2_ r3 ∧ Kd.R (Kd.int .i64) 3 w' w.heap.size (fun _ => True) v3_ r4 ∧ Below w.heap.size w w' := by
 have hu38 := Try.underlying38
 have hu42 := Try.underlying42
 have HR0_2 := Aside0.mk hr0_2
 have HC0_2 := Aside0.mk hc0_2
 clear hr0_2 hc0_2
 have HR0_3 := Aside0.mk hr0_3
 have HC0_3 := Aside0.mk hc0_3
 clear hr0_3 hc0_3
 have HB := Aside0.mk (Below.refl w.heap.size w)
 have H : ((laws_toStripMoveS.f k l0_2).bind fun t104 => ((laws_toIntS.f k l0_3).bind fun t107 => (some (a0_0, a0_1, t104, t107)))) = some (r1, r2, r3, r4) := h
 clear h
 replace H := Option.bind_eq_some_iff.mp H
 obtain ⟨t104, A20, H⟩ := H
 replace H : ((laws_toIntS.f k l0_3).bind fun t107 => (some (a0_0, a0_1, t104, t107))) = some (r1, r2, r3, r4) := H
 have A2 := Aside0.mk A20
 clear A20
 replace H := Option.bind_eq_some_iff.mp H
 obtain ⟨t107, A30, H⟩ := H
 replace H : (some (a0_0, a0_1, t104, t107)) = some (r1, r2, r3, r4) := H
 have A3 := Aside0.mk A30
 clear A30
 simp only [Option.some.injEq, Prod.mk.injEq] at H
 obtain ⟨rfl, rfl, rfl, rfl⟩ := H
 go_enter Try.func26, Try.ntmps26
 go_wp2_with (first | ((with_reducible refine gate_dst (N := 1) rfl ?_); refine box_event ?hg (N := 1) ?hd (cs := #[.int .i64 a0_0, .int .i64 a0_1, .slice A0_2 l0_2.length c0_2, .slice A0_3 l0_3.length c0_3]) (t := 38) ?hr ?_; (case hd => rfl); (case hg => rfl); (case hr => first | (go_simp; done) | (go_simp; rfl)); intro gb101 hg w4 hbox hb; have n0_ := Aside0.mk (below_step (eb HB.out) hb); have n1_ := Aside0.mk (hbox); have n2_ := Aside0.mk ((by rw [hg]; exact (below_size (eb HB.out)) : w.heap.size ≤ gb101)); have n3_ := Aside0.mk ((by rw [hg]; exact (below_size (eb HB.out)) : w.heap.size ≤ gb101)); clear HB; have HB := n0_; have BK101 := n1_; have GW101 := n2_; have GE101 := n3_; clear n0_ n1_ n2_ n3_; clear hb hbox hg) | ((with_reducible refine gate_dst (N := 2) rfl ?_); refine box_event ?hg (N := 2) ?hd (cs := #[.int .i64 0, .int .i64 0, .slice none 0 0, .slice none 0 0]) (t := 42) ?hr ?_; (case hd => rfl); (case hg => rfl); (case hr => first | (go_simp; done) | (go_simp; rfl)); intro gb102 hg w5 hbox hb; have n0_ := Aside0.mk (blk_below (g := gb101) (o := .cells #[.int .i64 a0_0, .int .i64 a0_1, .slice A0_2 l0_2.length c0_2, .slice A0_3 l0_3.length c0_3] 38 (0, 0)) (ex BK101.out) hb); have n1_ := Aside0.mk (below_step (by repeat (first | (with_reducible first | exact HB.out | apply below_alloc | apply pw_below_drewN | apply below_drew1 | refine below_set ?_ GE101.out) | exact HB.out)) hb); have n2_ := Aside0.mk (hbox); have n3_ := Aside0.mk ((by rw [hg]; exact (below_size (by repeat (first | (with_reducible first | exact HB.out | apply below_alloc | apply pw_below_drewN | apply below_drew1 | refine below_set ?_ GE101.out) | exact HB.out))) : w.heap.size ≤ gb102)); have n4_ := Aside0.mk ((by rw [hg]; exact (below_size (by repeat (first | (with_reducible first | exact HB.out | apply below_alloc | apply pw_below_drewN | apply below_drew1 | refine below_set ?_ GE101.out) | exact HB.out))) : w.heap.size ≤ gb102)); have n5_ := Aside0.mk ((by rw [hg]; exact Nat.ne_of_lt (blk_lt (g := gb101) (o := .cells #[.int .i64 a0_0, .int .i64 a0_1, .slice A0_2 l0_2.length c0_2, .slice A0_3 l0_3.length c0_3] 38 (0, 0)) (ex BK101.out)) : gb101 ≠ gb102)); have n6_ := Aside0.mk ((by rw [hg]; exact Nat.ne_of_gt (blk_lt (g := gb101) (o := .cells #[.int .i64 a0_0, .int .i64 a0_1, .slice A0_2 l0_2.length c0_2, .slice A0_3 l0_3.length c0_3] 38 (0, 0)) (ex BK101.out)) : gb102 ≠ gb101)); clear BK101; clear HB; have BK101 := n0_; have HB := n1_; have BK102 := n2_; have GW102 := n3_; have GE102 := n4_; have NB101_102 := n5_; have NB102_101 := n6_; clear n0_ n1_ n2_ n3_ n4_ n5_ n6_; clear hb hbox hg) | ((with_reducible refine gate_dst (N := 3) rfl ?_); refine box_event ?hg (N := 3) ?hd (cs := #[.int .i64 0, .int .i64 0, .slice none 0 0, .slice none 0 0]) (t := 42) ?hr ?_; (case hd => rfl); (case hg => rfl); (case hr => first | (go_simp; done) | (go_simp; rfl)); intro gb103 hg w6 hbox hb; have n0_ := Aside0.mk (blk_below (g := gb101) (o := .cells #[.int .i64 a0_0, .int .i64 a0_1, .slice A0_2 l0_2.length c0_2, .slice A0_3 l0_3.length c0_3] 38 (0, 0)) (ex BK101.out) hb); have n1_ := Aside0.mk (blk_below (g := gb102) (o := .cells #[.int .i64 0, .int .i64 0, .slice none 0 0, .slice none 0 0] 42 (0, 0)) (ex BK102.out) hb); have n2_ := Aside0.mk (below_step (by repeat (first | (with_reducible first | exact HB.out | apply below_alloc | apply pw_below_drewN | apply below_drew1 | refine below_set ?_ GE101.out | refine below_set ?_ GE102.out) | exact HB.out)) hb); have n3_ := Aside0.mk (hbox); have n4_ := Aside0.mk ((by rw [hg]; exact (below_size (by repeat (first | (with_reducible first | exact HB.out | apply below_alloc | apply pw_below_drewN | apply below_drew1 | refine below_set ?_ GE101.out | refine below_set ?_ GE102.out) | exact HB.out))) : w.heap.size ≤ gb103)); have n5_ := Aside0.mk ((by rw [hg]; exact (below_size (by repeat (first | (with_reducible first | exact HB.out | apply below_alloc | apply pw_below_drewN | apply below_drew1 | refine below_set ?_ GE101.out | refine below_set ?_ GE102.out) | exact HB.out))) : w.heap.size ≤ gb103)); have n6_ := Aside0.mk ((by rw [hg]; exact Nat.ne_of_lt (blk_lt (g := gb101) (o := .cells #[.int .i64 a0_0, .int .i64 a0_1, .slice A0_2 l0_2.length c0_2, .slice A0_3 l0_3.length c0_3] 38 (0, 0)) (ex BK101.out)) : gb101 ≠ gb103)); have n7_ := Aside0.mk ((by rw [hg]; exact Nat.ne_of_gt (blk_lt (g := gb101) (o := .cells #[.int .i64 a0_0, .int .i64 a0_1, .slice A0_2 l0_2.length c0_2, .slice A0_3 l0_3.length c0_3] 38 (0, 0)) (ex BK101.out)) : gb103 ≠ gb101)); have n8_ := Aside0.mk ((by rw [hg]; exact Nat.ne_of_lt (blk_lt (g := gb102) (o := .cells #[.int .i64 0, .int .i64 0, .slice none 0 0, .slice none 0 0] 42 (0, 0)) (ex BK102.out)) : gb102 ≠ gb103)); have n9_ := Aside0.mk ((by rw [hg]; exact Nat.ne_of_gt (blk_lt (g := gb102) (o := .cells #[.int .i64 0, .int .i64 0, .slice none 0 0, .slice none 0 0] 42 (0, 0)) (ex BK102.out)) : gb103 ≠ gb102)); clear BK101; clear BK102; clear HB; have BK101 := n0_; have BK102 := n1_; have HB := n2_; have BK103 := n3_; have GW103 := n4_; have GE103 := n5_; have NB101_103 := n6_; have NB103_101 := n7_; have NB102_103 := n8_; have NB103_102 := n9_; clear n0_ n1_ n2_ n3_ n4_ n5_ n6_ n7_ n8_ n9_; clear hb hbox hg; have hnb7 := NB101_102.out; have hnc7 := NB102_101.out; have hnb8 := NB101_103.out; have hnc8 := NB103_101.out; obtain ⟨hcz9_0, hcz9_1, hcz9_2, hcz9_3⟩ := bc4 BK101.out; obtain ⟨hfz9_0, hfz9_1, hfz9_2, hfz9_3⟩ := bf4 BK101.out; have hnb10 := NB103_102.out; have hnc10 := NB102_103.out; obtain ⟨hcz11_0, hcz11_1, hcz11_2, hcz11_3⟩ := bc4 BK103.out; obtain ⟨hfz11_0, hfz11_1, hfz11_2, hfz11_3⟩ := bf4 BK103.out) | ((with_reducible refine gate_callee (f := 17) rfl ?_); refine goesL_ (some 12) rfl rfl Try.func17 (by kernel_rfl) rfl #[.slice A0_2 l0_2.length c0_2] rfl (by (try simp only [List.map_toArray, List.map_cons, List.map_nil]); first | done | rfl | (simp only [List.length_drop, List.length_take]; rfl)) ?_; (with_reducible refine (laws_toStripMoveS.calls k _ _ l0_2 t104 _ ?side1 ?side2 A2.out).mono ?_); (case side1 => exact Kd.C_below HR0_2.out (by repeat (first | (with_reducible first | exact HB.out | apply below_alloc | apply pw_below_drewN | apply below_drew1 | refine below_set ?_ GE101.out | refine below_set ?_ GE102.out | refine below_set ?_ GE103.out) | exact HB.out))); (case side2 => exact HC0_2.out); rintro e w12 ⟨v105, rfl, ho0, hb⟩; refine ⟨_, rfl, ?_⟩; have n0_ := Aside0.mk (Kd.R_lower ho0 (below_size (by repeat (first | (with_reducible first | exact HB.out | apply below_alloc | apply pw_below_drewN | apply below_drew1 | refine below_set ?_ GE101.out | refine below_set ?_ GE102.out | refine below_set ?_ GE103.out) | exact HB.out)))); have n1_ := Aside0.mk (blk_below (g := gb101) (o := .cells #[.int .i64 a0_0, .int .i64 a0_1, .slice A0_2 l0_2.length c0_2, .slice A0_3 l0_3.length c0_3] 38 (0, 0)) (by refine px ?_; refine blk_far ?_ NB101_103.out _; refine px ?_; refine blk_far ?_ NB101_103.out _; refine px ?_; exact BK101.out) hb); have n2_ := Aside0.mk (blk_below (g := gb102) (o := .cells #[.int .i64 0, .int .i64 0, .slice none 0 0, .slice none 0 0] 42 (0, 0)) (by refine px ?_; refine blk_far ?_ NB102_103.out _; refine px ?_; refine blk_far ?_ NB102_103.out _; refine px ?_; exact BK102.out) hb); have n3_ := Aside0.mk (blk_below (g := gb103) (o := .cells #[.int .i64 a0_0, .int .i64 a0_1, .slice none 0 0, .slice none 0 0] 42 (0, 0)) (by refine px ?_; refine blk_put (cs := #[.int .i64 a0_0, .int .i64 0, .slice none 0 0, .slice none 0 0]) ?_ 1 _ rfl; refine px ?_; refine blk_put (cs := #[.int .i64 0, .int .i64 0, .slice none 0 0, .slice none 0 0]) ?_ 0 _ rfl; refine px ?_; exact BK103.out) hb); have n4_ := Aside0.mk (below_step (by repeat (first | (with_reducible first | exact HB.out | apply below_alloc | apply pw_below_drewN | apply below_drew1 | refine below_set ?_ GE101.out | refine below_set ?_ GE102.out | refine below_set ?_ GE103.out) | exact HB.out)) hb); clear BK101; clear BK102; clear BK103; clear HB; have HO106 := n0_; have BK101 := n1_; have BK102 := n2_; have BK103 := n3_; have HB := n4_; clear n0_ n1_ n2_ n3_ n4_; (try clear hb); (try clear hb2); (try clear hk); (try clear hi); (try clear ho0); obtain ⟨Ao13, co13, eo13⟩ := Kd.R_slice HO106.out; subst eo13; obtain ⟨hcz14_0, hcz14_1, hcz14_2, hcz14_3⟩ := bc4 BK103.out; obtain ⟨hfz14_0, hfz14_1, hfz14_2, hfz14_3⟩ := bf4 BK103.out; obtain ⟨hcz15_0, hcz15_1, hcz15_2, hcz15_3⟩ := bc4 BK101.out; obtain ⟨hfz15_0, hfz15_1, hfz15_2, hfz15_3⟩ := bf4 BK101.out) | ((with_reducible refine gate_callee (f := 12) rfl ?_); refine goesL_ (some 16) rfl rfl Try.func12 (by kernel_rfl) rfl #[.slice A0_3 l0_3.length c0_3] rfl (by (try simp only [List.map_toArray, List.map_cons, List.map_nil]); first | done | rfl | (simp only [List.length_drop, List.length_take]; rfl)) ?_; (with_reducible refine (laws_toIntS.calls k _ _ l0_3 t107 _ ?side1 ?side2 A3.out).mono ?_); (case side1 => exact Kd.C_below HR0_3.out (by repeat (first | (with_reducible first | exact HB.out | apply below_alloc | apply pw_below_drewN | apply below_drew1 | refine below_set ?_ GE101.out | refine below_set ?_ GE102.out | refine below_set ?_ GE103.out) | exact HB.out))); (case side2 => exact HC0_3.out); rintro e w16 ⟨v108, rfl, ho0, hb⟩; refine ⟨_, rfl, ?_⟩; have n0_ := Aside0.mk (Kd.R_below (by (with_reducible repeat (first | apply Kd.R_alloc | apply Kd.R_drewN | apply Kd.R_drew)); exact (Kd.R_mono (Kd.R_far (p := ⟨gb103, 2, none⟩) (Kd.R_types HO106.out BK103.out (by decide)) (fun _ hk => hk.2) (.slice Ao13 t104.length co13)) (fun _ h_ => h_.1))) hb); have n1_ := Aside0.mk (Kd.R_lower ho0 (below_size (by repeat (first | (with_reducible first | exact HB.out | apply below_alloc | apply pw_below_drewN | apply below_drew1 | refine below_set ?_ GE101.out | refine below_set ?_ GE102.out | refine below_set ?_ GE103.out) | exact HB.out)))); have n2_ := Aside0.mk (blk_below (g := gb101) (o := .cells #[.int .i64 a0_0, .int .i64 a0_1, .slice A0_2 l0_2.length c0_2, .slice A0_3 l0_3.length c0_3] 38 (0, 0)) (by refine px ?_; refine blk_far ?_ NB101_103.out _; refine px ?_; exact BK101.out) hb); have n3_ := Aside0.mk (blk_below (g := gb102) (o := .cells #[.int .i64 0, .int .i64 0, .slice none 0 0, .slice none 0 0] 42 (0, 0)) (by refine px ?_; refine blk_far ?_ NB102_103.out _; refine px ?_; exact BK102.out) hb); have n4_ := Aside0.mk (blk_below (g := gb103) (o := .cells #[.int .i64 a0_0, .int .i64 a0_1, .slice Ao13 t104.length co13, .slice none 0 0] 42 (0, 0)) (by refine px ?_; refine blk_put (cs := #[.int .i64 a0_0, .int .i64 a0_1, .slice none 0 0, .slice none 0 0]) ?_ 2 _ rfl; refine px ?_; exact BK103.out) hb); have n5_ := Aside0.mk (below_step (by repeat (first | (with_reducible first | exact HB.out | apply below_alloc | apply pw_below_drewN | apply below_drew1 | refine below_set ?_ GE101.out | refine below_set ?_ GE102.out | refine below_set ?_ GE103.out) | exact HB.out)) hb); clear HO106; clear BK101; clear BK102; clear BK103; clear HB; have HO106 := n0_; have HO109 := n1_; have BK101 := n2_; have BK102 := n3_; have BK103 := n4_; have HB := n5_; clear n0_ n1_ n2_ n3_ n4_ n5_; (try clear hb); (try clear hb2); (try clear hk); (try clear hi); (try clear ho0); obtain ⟨Ao17, co17, eo17⟩ := Kd.R_slice HO109.out; subst eo17; obtain ⟨hcz18_0, hcz18_1, hcz18_2, hcz18_3⟩ := bc4 BK103.out; obtain ⟨hfz18_0, hfz18_1, hfz18_2, hfz18_3⟩ := bf4 BK103.out; obtain ⟨hcz19_0, hcz19_1, hcz19_2, hcz19_3⟩ := bc4 BK102.out; obtain ⟨hfz19_0, hfz19_1, hfz19_2, hfz19_3⟩ := bf4 BK102.out))
 refine bodyPost_ret (results_cell_row rfl _ _ gb102 42 #[.int .i64 a0_0, .int .i64 a0_1, .slice Ao13 t104.length co13, .slice Ao17 t107.length co17] (0, 0) _ rfl (by refine px ?_; refine blk_put (cs := #[.int .i64 a0_0, .int .i64 a0_1, .slice Ao13 t104.length co13, .slice none 0 0]) ?_ 3 _ rfl; refine px ?_; refine blk_put (cs := #[.int .i64 a0_0, .int .i64 a0_1, .slice none 0 0, .slice none 0 0]) ?_ 2 _ rfl; refine px ?_; refine blk_put (cs := #[.int .i64 a0_0, .int .i64 0, .slice none 0 0, .slice none 0 0]) ?_ 1 _ rfl; refine px ?_; refine blk_put (cs := #[.int .i64 0, .int .i64 0, .slice none 0 0, .slice none 0 0]) ?_ 0 _ rfl; refine px ?_; refine blk_far ?_ NB102_103.out _; refine px ?_; exact BK102.out) Try.underlying42 rfl (by kernel_rfl)) rfl ?_
 exact ⟨_, _, by first | rfl | (simp [errW_none, errW_some] <;> rfl) | (simp [*, errW_none, errW_some] <;> rfl), by (with_reducible repeat (first | apply Kd.R_alloc | apply Kd.R_drewN | apply Kd.R_drew)); exact Kd.R_mono (Kd.R_far (p := ⟨gb102, 3, none⟩) (Kd.R_far (p := ⟨gb102, 2, none⟩) (Kd.R_far (p := ⟨gb102, 1, none⟩) (Kd.R_far (p := ⟨gb102, 0, none⟩) (Kd.R_far (p := ⟨gb103, 3, none⟩) (Kd.R_types (Kd.R_types HO106.out BK103.out (by decide)) BK102.out (by decide)) (fun _ hk => hk.1.2) (.slice Ao17 t107.length co17)) (fun _ hk => hk.2) (.int .i64 a0_0)) (fun _ hk => hk.2) (.int .i64 a0_1)) (fun _ hk => hk.2) (.slice Ao13 t104.length co13)) (fun _ hk => hk.2) (.slice Ao17 t107.length co17)) (fun _ hk => trivial), by (with_reducible repeat (first | apply Kd.R_alloc | apply Kd.R_drewN | apply Kd.R_drew)); exact Kd.R_mono (Kd.R_far (p := ⟨gb102, 3, none⟩) (Kd.R_far (p := ⟨gb102, 2, none⟩) (Kd.R_far (p := ⟨gb102, 1, none⟩) (Kd.R_far (p := ⟨gb102, 0, none⟩) (Kd.R_far (p := ⟨gb103, 3, none⟩) (Kd.R_types (Kd.R_types HO109.out BK103.out (by decide)) BK102.out (by decide)) (fun _ hk => hk.1.2) (.slice Ao17 t107.length co17)) (fun _ hk => hk.2) (.int .i64 a0_0)) (fun _ hk => hk.2) (.int .i64 a0_1)) (fun _ hk => hk.2) (.slice Ao13 t104.length co13)) (fun _ hk => hk.2) (.slice Ao17 t107.length co17)) (fun _ hk => trivial), by repeat (first | (with_reducible first | exact HB.out | apply below_alloc | apply pw_below_drewN | apply below_drew1 | refine below_set ?_ GE101.out | refine below_set ?_ GE102.out | refine below_set ?_ GE103.out) | exact HB.out)⟩

end Go.Proofs.Ytpdmimlkgmhepaa.G

/- The plain functions of this seat's Go text and, for each, that the call comes to what its plain function says: written for this claim by a program of the session (drv.py) over the kit's print.py. -/
namespace Go.Proofs.Ytpdmimlkgmhepaa.G
open Go.RowKit Go.Proofs.YtpdmimlkgmhepaaW.PrintWords Go.Proofs.YtpdmimlkgmhepaaW.PrintLast Go.Proofs.YtpdmimlkgmhepaaW.PrintMore
attribute [local go_sem] max2_int min2_int max_two min_two max_three min_three max_four min_four   -- for this text's walks alone
set_option linter.unusedVariables false
set_option linter.unusedSimpArgs false

/-! ### laws_eqStripBook: function 28 -/
def laws_eqStripBook.f (k : Nat) (a0_0 : Int) (a0_1 : Int) (l0_2 : List (S54)) (l0_3 : List Int) (a1_0 : Int) (a1_1 : Int) (l1_2 : List (S54)) (l1_3 : List Int) : Option (Bool) := if a0_0 = a1_0 then (if a0_1 = a1_1 then ((laws_eqStripMoveS.f k l0_2 l1_2).bind fun t103 => (if t103 = true then ((laws_eqIntS.f k l0_3 l1_3).bind fun t104 => (if t104 = true then (some true) else (some false))) else (some false))) else (some false)) else (some false)
theorem laws_eqStripBook.mono : ∀ a0 a1 a2 a3 a4 a5 a6 a7 k, LeO (laws_eqStripBook.f k a0 a1 a2 a3 a4 a5 a6 a7) (laws_eqStripBook.f (k + 1) a0 a1 a2 a3 a4 a5 a6 a7) := by
 intro a0 a1 a2 a3 a4 a5 a6 a7 k
 unfold laws_eqStripBook.f
 repeat' first
   | (with_reducible exact laws_eqIntS.mono _ _ _)
   | (with_reducible exact laws_eqStripMoveS.mono _ _ _)
   | (with_reducible exact LeO.refl _)
   | (with_reducible exact LeO.none _)
   | (with_reducible refine LeO.ite ?_ ?_)
   | (with_reducible refine LeO.bind ?_ (fun _ => ?_))
   | exact laws_eqIntS.mono _ _ _
   | exact laws_eqStripMoveS.mono _ _ _
   | exact LeO.none _
   | refine LeO.ite ?_ ?_
   | refine LeO.bind ?_ (fun _ => ?_)
set_option maxHeartbeats 8000000 in
set_option maxRecDepth 100000 in
theorem laws_eqStripBook.calls (k : Nat) (a0_0 : Int) (a0_1 : Int) (A0_2 : Option Addr) (c0_2 : Nat) (l0_2 : List (S54)) (A0_3 : Option Addr) (c0_3 : Nat) (l0_3 : List Int) (a1_0 : Int) (a1_1 : Int) (A1_2 : Option Addr) (c1_2 : Nat) (l1_2 : List (S54)) (A1_3 : Option Addr) (c1_3 : Nat) (l1_3 : List Int) (r : Bool) (w : World) (hr0_2 : Kd.C k54 w A0_2 l0_2.length l0_2) (hc0_2 : l0_2.length ≤ c0_2) (hr0_3 : Kd.C (Kd.int .i64) w A0_3 l0_3.length l0_3) (hc0_3 : l0_3.length ≤ c0_3) (hr1_2 : Kd.C k54 w A1_2 l1_2.length l1_2) (hc1_2 : l1_2.length ≤ c1_2) (hr1_3 : Kd.C (Kd.int .i64) w A1_3 l1_3.length l1_3) (hc1_3 : l1_3.length ≤ c1_3) (h : laws_eqStripBook.f k a0_0 a0_1 l0_2 l0_3 a1_0 a1_1 l1_2 l1_3 = some r) :
  Calls Try.prog 28 #[.agg #[.int .i64 a0_0, .int .i64 a0_1, .slice A0_2 l0_2.length c0_2, .slice A0_3 l0_3.length c0_3], .agg #[.int .i64 a1_0, .int .i64 a1_1, .slice A1_2 l1_2.length c1_2, .slice A1_3 l1_3.length c1_3]] w fun e w' => e = .returned (.bool r) ∧ Below w.heap.size w w' := by
 have hu42 := Try.underlying42
 have HR0_2 := Aside0.mk hr0_2
 have HC0_2 := Aside0.mk hc0_2
 clear hr0_2 hc0_2
 have HR0_3 := Aside0.mk hr0_3
 have HC0_3 := Aside0.mk hc0_3
 clear hr0_3 hc0_3
 have HR1_2 := Aside0.mk hr1_2
 have HC1_2 := Aside0.mk hc1_2
 clear hr1_2 hc1_2
 have HR1_3 := Aside0.mk hr1_3
 have HC1_3 := Aside0.mk hc1_3
 clear hr1_3 hc1_3
 have HB := Aside0.mk (Below.refl w.heap.size w)
 have H : (if a0_0 = a1_0 then (if a0_1 = a1_1 then ((laws_eqStripMoveS.f k l0_2 l1_2).bind fun t103 => (if t103 = true then ((laws_eqIntS.f k l0_3 l1_3).bind fun t104 => (if t104 = true then (some true) else (some false))) else (some false))) else (some false)) else (some false)) = some r := h
 clear h
 by_cases c3 : a0_0 = a1_0
 ·rw [if_pos c3] at H
  have c3b0 : (a0_0 == a1_0) = true := beq_iff_eq.mpr c3
  have c3b1 : (a0_0 != a1_0) = false := bne_eq_false_iff_eq.mpr c3
  clear c3
  by_cases c4 : a0_1 = a1_1
  ·rw [if_pos c4] at H
   have c4b0 : (a0_1 == a1_1) = true := beq_iff_eq.mpr c4
   have c4b1 : (a0_1 != a1_1) = false := bne_eq_false_iff_eq.mpr c4
   clear c4
   replace H := Option.bind_eq_some_iff.mp H
   obtain ⟨t103, A50, H⟩ := H
   replace H : (if t103 = true then ((laws_eqIntS.f k l0_3 l1_3).bind fun t104 => (if t104 = true then (some true) else (some false))) else (some false)) = some r := H
   have A5 := Aside0.mk A50
   clear A50
   by_cases c6 : t103 = true
   ·subst c6
    have H1 : ((laws_eqIntS.f k l0_3 l1_3).bind fun t104 => (if t104 = true then (some true) else (some false))) = some r := by rw [if_pos rfl] at H; exact H
    clear H
    have H := H1
    clear H1
    replace H := Option.bind_eq_some_iff.mp H
    obtain ⟨t104, A70, H⟩ := H
    replace H : (if t104 = true then (some true) else (some false)) = some r := H
    have A7 := Aside0.mk A70
    clear A70
    by_cases c8 : t104 = true
    ·subst c8
     have H1 : (some true) = some r := by rw [if_pos rfl] at H; exact H
     clear H
     have H := H1
     clear H1
     obtain rfl := Option.some.inj H
     go_enter Try.func28, Try.ntmps28
     go_wp2_with (first | ((with_reducible refine gate_dst (N := 2) rfl ?_); refine box_event ?hg (N := 2) ?hd (cs := #[.int .i64 a0_0, .int .i64 a0_1, .slice A0_2 l0_2.length c0_2, .slice A0_3 l0_3.length c0_3]) (t := 42) ?hr ?_; (case hd => rfl); (case hg => rfl); (case hr => first | (go_simp; done) | (go_simp; rfl)); intro gb101 hg w9 hbox hb; have n0_ := Aside0.mk (below_step (eb HB.out) hb); have n1_ := Aside0.mk (hbox); have n2_ := Aside0.mk ((by rw [hg]; exact (below_size (eb HB.out)) : w.heap.size ≤ gb101)); have n3_ := Aside0.mk ((by rw [hg]; exact (below_size (eb HB.out)) : w.heap.size ≤ gb101)); clear HB; have HB := n0_; have BK101 := n1_; have GW101 := n2_; have GE101 := n3_; clear n0_ n1_ n2_ n3_; clear hb hbox hg) | ((with_reducible refine gate_dst (N := 3) rfl ?_); refine box_event ?hg (N := 3) ?hd (cs := #[.int .i64 a1_0, .int .i64 a1_1, .slice A1_2 l1_2.length c1_2, .slice A1_3 l1_3.length c1_3]) (t := 42) ?hr ?_; (case hd => rfl); (case hg => rfl); (case hr => first | (go_simp; done) | (go_simp; rfl)); intro gb102 hg w10 hbox hb; have n0_ := Aside0.mk (blk_below (g := gb101) (o := .cells #[.int .i64 a0_0, .int .i64 a0_1, .slice A0_2 l0_2.length c0_2, .slice A0_3 l0_3.length c0_3] 42 (0, 0)) (ex BK101.out) hb); have n1_ := Aside0.mk (below_step (by repeat (first | (with_reducible first | exact HB.out | apply below_alloc | apply pw_below_drewN | apply below_drew1 | refine below_set ?_ GE101.out) | exact HB.out)) hb); have n2_ := Aside0.mk (hbox); have n3_ := Aside0.mk ((by rw [hg]; exact (below_size (by repeat (first | (with_reducible first | exact HB.out | apply below_alloc | apply pw_below_drewN | apply below_drew1 | refine below_set ?_ GE101.out) | exact HB.out))) : w.heap.size ≤ gb102)); have n4_ := Aside0.mk ((by rw [hg]; exact (below_size (by repeat (first | (with_reducible first | exact HB.out | apply below_alloc | apply pw_below_drewN | apply below_drew1 | refine below_set ?_ GE101.out) | exact HB.out))) : w.heap.size ≤ gb102)); have n5_ := Aside0.mk ((by rw [hg]; exact Nat.ne_of_lt (blk_lt (g := gb101) (o := .cells #[.int .i64 a0_0, .int .i64 a0_1, .slice A0_2 l0_2.length c0_2, .slice A0_3 l0_3.length c0_3] 42 (0, 0)) (ex BK101.out)) : gb101 ≠ gb102)); have n6_ := Aside0.mk ((by rw [hg]; exact Nat.ne_of_gt (blk_lt (g := gb101) (o := .cells #[.int .i64 a0_0, .int .i64 a0_1, .slice A0_2 l0_2.length c0_2, .slice A0_3 l0_3.length c0_3] 42 (0, 0)) (ex BK101.out)) : gb102 ≠ gb101)); clear BK101; clear HB; have BK101 := n0_; have HB := n1_; have BK102 := n2_; have GW102 := n3_; have GE102 := n4_; have NB101_102 := n5_; have NB102_101 := n6_; clear n0_ n1_ n2_ n3_ n4_ n5_ n6_; clear hb hbox hg; have hnb11 := NB101_102.out; have hnc11 := NB102_101.out; obtain ⟨hcz12_0, hcz12_1, hcz12_2, hcz12_3⟩ := bc4 BK101.out; obtain ⟨hfz12_0, hfz12_1, hfz12_2, hfz12_3⟩ := bf4 BK101.out; obtain ⟨hcz13_0, hcz13_1, hcz13_2, hcz13_3⟩ := bc4 BK102.out; obtain ⟨hfz13_0, hfz13_1, hfz13_2, hfz13_3⟩ := bf4 BK102.out) | ((with_reducible refine gate_callee (f := 19) rfl ?_); refine goesL_ (some 19) rfl rfl Try.func19 (by kernel_rfl) rfl #[.slice A0_2 l0_2.length c0_2, .slice A1_2 l1_2.length c1_2] rfl (by (try simp only [List.map_toArray, List.map_cons, List.map_nil]); first | done | rfl | (simp only [List.length_drop, List.length_take]; rfl)) ?_; (with_reducible refine (laws_eqStripMoveS.calls k _ _ l0_2 _ _ l1_2 true _ ?side1 ?side2 ?side3 ?side4 A5.out).mono ?_); (case side1 => repeat (first | exact (Kd.C_below HR0_2.out HB.out) | (with_reducible refine Kd.C_alloc ?_ _) | (with_reducible refine Kd.C_drewN ?_ _) | (with_reducible refine Kd.C_drew ?_))); (case side2 => exact HC0_2.out); (case side3 => repeat (first | exact (Kd.C_below HR1_2.out HB.out) | (with_reducible refine Kd.C_alloc ?_ _) | (with_reducible refine Kd.C_drewN ?_ _) | (with_reducible refine Kd.C_drew ?_))); (case side4 => exact HC1_2.out); rintro e w14 ⟨rfl, hb⟩; refine ⟨_, rfl, ?_⟩; have n0_ := Aside0.mk (blk_below (g := gb101) (o := .cells #[.int .i64 a0_0, .int .i64 a0_1, .slice A0_2 l0_2.length c0_2, .slice A0_3 l0_3.length c0_3] 42 (0, 0)) (ex BK101.out) hb); have n1_ := Aside0.mk (blk_below (g := gb102) (o := .cells #[.int .i64 a1_0, .int .i64 a1_1, .slice A1_2 l1_2.length c1_2, .slice A1_3 l1_3.length c1_3] 42 (0, 0)) (ex BK102.out) hb); have n2_ := Aside0.mk (below_step (by repeat (first | (with_reducible first | exact HB.out | apply below_alloc | apply pw_below_drewN | apply below_drew1 | refine below_set ?_ GE101.out | refine below_set ?_ GE102.out) | exact HB.out)) hb); clear BK101; clear BK102; clear HB; have BK101 := n0_; have BK102 := n1_; have HB := n2_; clear n0_ n1_ n2_; (try clear hb); (try clear hb2); (try clear hk); (try clear hi); obtain ⟨hcz15_0, hcz15_1, hcz15_2, hcz15_3⟩ := bc4 BK101.out; obtain ⟨hfz15_0, hfz15_1, hfz15_2, hfz15_3⟩ := bf4 BK101.out; obtain ⟨hcz16_0, hcz16_1, hcz16_2, hcz16_3⟩ := bc4 BK102.out; obtain ⟨hfz16_0, hfz16_1, hfz16_2, hfz16_3⟩ := bf4 BK102.out) | ((with_reducible refine gate_callee (f := 14) rfl ?_); refine goesL_ (some 25) rfl rfl Try.func14 (by kernel_rfl) rfl #[.slice A0_3 l0_3.length c0_3, .slice A1_3 l1_3.length c1_3] rfl (by (try simp only [List.map_toArray, List.map_cons, List.map_nil]); first | done | rfl | (simp only [List.length_drop, List.length_take]; rfl)) ?_; (with_reducible refine (laws_eqIntS.calls k _ _ l0_3 _ _ l1_3 true _ ?side1 ?side2 ?side3 ?side4 A7.out).mono ?_); (case side1 => repeat (first | exact (Kd.C_below HR0_3.out HB.out) | (with_reducible refine Kd.C_alloc ?_ _) | (with_reducible refine Kd.C_drewN ?_ _) | (with_reducible refine Kd.C_drew ?_))); (case side2 => exact HC0_3.out); (case side3 => repeat (first | exact (Kd.C_below HR1_3.out HB.out) | (with_reducible refine Kd.C_alloc ?_ _) | (with_reducible refine Kd.C_drewN ?_ _) | (with_reducible refine Kd.C_drew ?_))); (case side4 => exact HC1_3.out); rintro e w' ⟨rfl, ⟨nd, rfl⟩⟩; refine ⟨_, rfl, ?_⟩))
     go_ret
     exact ⟨by first | rfl | (simp [errW_none, errW_some] <;> rfl) | (simp [*, errW_none, errW_some] <;> rfl), by repeat (first | (with_reducible first | exact HB.out | apply below_alloc | apply pw_below_drewN | apply below_drew1 | refine below_set ?_ GE101.out | refine below_set ?_ GE102.out) | exact HB.out)⟩
    ·replace c8 := Bool.eq_false_iff.mpr c8
     subst c8
     have H1 : (some false) = some r := by rw [if_neg (show ¬ (false = true) by decide)] at H; exact H
     clear H
     have H := H1
     clear H1
     obtain rfl := Option.some.inj H
     go_enter Try.func28, Try.ntmps28
     go_wp2_with (first | ((with_reducible refine gate_dst (N := 2) rfl ?_); refine box_event ?hg (N := 2) ?hd (cs := #[.int .i64 a0_0, .int .i64 a0_1, .slice A0_2 l0_2.length c0_2, .slice A0_3 l0_3.length c0_3]) (t := 42) ?hr ?_; (case hd => rfl); (case hg => rfl); (case hr => first | (go_simp; done) | (go_simp; rfl)); intro gb101 hg w17 hbox hb; have n0_ := Aside0.mk (below_step (eb HB.out) hb); have n1_ := Aside0.mk (hbox); have n2_ := Aside0.mk ((by rw [hg]; exact (below_size (eb HB.out)) : w.heap.size ≤ gb101)); have n3_ := Aside0.mk ((by rw [hg]; exact (below_size (eb HB.out)) : w.heap.size ≤ gb101)); clear HB; have HB := n0_; have BK101 := n1_; have GW101 := n2_; have GE101 := n3_; clear n0_ n1_ n2_ n3_; clear hb hbox hg) | ((with_reducible refine gate_dst (N := 3) rfl ?_); refine box_event ?hg (N := 3) ?hd (cs := #[.int .i64 a1_0, .int .i64 a1_1, .slice A1_2 l1_2.length c1_2, .slice A1_3 l1_3.length c1_3]) (t := 42) ?hr ?_; (case hd => rfl); (case hg => rfl); (case hr => first | (go_simp; done) | (go_simp; rfl)); intro gb102 hg w18 hbox hb; have n0_ := Aside0.mk (blk_below (g := gb101) (o := .cells #[.int .i64 a0_0, .int .i64 a0_1, .slice A0_2 l0_2.length c0_2, .slice A0_3 l0_3.length c0_3] 42 (0, 0)) (ex BK101.out) hb); have n1_ := Aside0.mk (below_step (by repeat (first | (with_reducible first | exact HB.out | apply below_alloc | apply pw_below_drewN | apply below_drew1 | refine below_set ?_ GE101.out) | exact HB.out)) hb); have n2_ := Aside0.mk (hbox); have n3_ := Aside0.mk ((by rw [hg]; exact (below_size (by repeat (first | (with_reducible first | exact HB.out | apply below_alloc | apply pw_below_drewN | apply below_drew1 | refine below_set ?_ GE101.out) | exact HB.out))) : w.heap.size ≤ gb102)); have n4_ := Aside0.mk ((by rw [hg]; exact (below_size (by repeat (first | (with_reducible first | exact HB.out | apply below_alloc | apply pw_below_drewN | apply below_drew1 | refine below_set ?_ GE101.out) | exact HB.out))) : w.heap.size ≤ gb102)); have n5_ := Aside0.mk ((by rw [hg]; exact Nat.ne_of_lt (blk_lt (g := gb101) (o := .cells #[.int .i64 a0_0, .int .i64 a0_1, .slice A0_2 l0_2.length c0_2, .slice A0_3 l0_3.length c0_3] 42 (0, 0)) (ex BK101.out)) : gb101 ≠ gb102)); have n6_ := Aside0.mk ((by rw [hg]; exact Nat.ne_of_gt (blk_lt (g := gb101) (o := .cells #[.int .i64 a0_0, .int .i64 a0_1, .slice A0_2 l0_2.length c0_2, .slice A0_3 l0_3.length c0_3] 42 (0, 0)) (ex BK101.out)) : gb102 ≠ gb101)); clear BK101; clear HB; have BK101 := n0_; have HB := n1_; have BK102 := n2_; have GW102 := n3_; have GE102 := n4_; have NB101_102 := n5_; have NB102_101 := n6_; clear n0_ n1_ n2_ n3_ n4_ n5_ n6_; clear hb hbox hg; have hnb19 := NB101_102.out; have hnc19 := NB102_101.out; obtain ⟨hcz20_0, hcz20_1, hcz20_2, hcz20_3⟩ := bc4 BK101.out; obtain ⟨hfz20_0, hfz20_1, hfz20_2, hfz20_3⟩ := bf4 BK101.out; obtain ⟨hcz21_0, hcz21_1, hcz21_2, hcz21_3⟩ := bc4 BK102.out; obtain ⟨hfz21_0, hfz21_1, hfz21_2, hfz21_3⟩ := bf4 BK102.out) | ((with_reducible refine gate_callee (f := 19) rfl ?_); refine goesL_ (some 19) rfl rfl Try.func19 (by kernel_rfl) rfl #[.slice A0_2 l0_2.length c0_2, .slice A1_2 l1_2.length c1_2] rfl (by (try simp only [List.map_toArray, List.map_cons, List.map_nil]); first | done | rfl | (simp only [List.length_drop, List.length_take]; rfl)) ?_; (with_reducible refine (laws_eqStripMoveS.calls k _ _ l0_2 _ _ l1_2 true _ ?side1 ?side2 ?side3 ?side4 A5.out).mono ?_); (case side1 => repeat (first | exact (Kd.C_below HR0_2.out HB.out) | (with_reducible refine Kd.C_alloc ?_ _) | (with_reducible refine Kd.C_drewN ?_ _) | (with_reducible refine Kd.C_drew ?_))); (case side2 => exact HC0_2.out); (case side3 => repeat (first | exact (Kd.C_below HR1_2.out HB.out) | (with_reducible refine Kd.C_alloc ?_ _) | (with_reducible refine Kd.C_drewN ?_ _) | (with_reducible refine Kd.C_drew ?_))); (case side4 => exact HC1_2.out); rintro e w22 ⟨rfl, hb⟩; refine ⟨_, rfl, ?_⟩; have n0_ := Aside0.mk (blk_below (g := gb101) (o := .cells #[.int .i64 a0_0, .int .i64 a0_1, .slice A0_2 l0_2.length c0_2, .slice A0_3 l0_3.length c0_3] 42 (0, 0)) (ex BK101.out) hb); have n1_ := Aside0.mk (blk_below (g := gb102) (o := .cells #[.int .i64 a1_0, .int .i64 a1_1, .slice A1_2 l1_2.length c1_2, .slice A1_3 l1_3.length c1_3] 42 (0, 0)) (ex BK102.out) hb); have n2_ := Aside0.mk (below_step (by repeat (first | (with_reducible first | exact HB.out | apply below_alloc | apply pw_below_drewN | apply below_drew1 | refine below_set ?_ GE101.out | refine below_set ?_ GE102.out) | exact HB.out)) hb); clear BK101; clear BK102; clear HB; have BK101 := n0_; have BK102 := n1_; have HB := n2_; clear n0_ n1_ n2_; (try clear hb); (try clear hb2); (try clear hk); (try clear hi); obtain ⟨hcz23_0, hcz23_1, hcz23_2, hcz23_3⟩ := bc4 BK101.out; obtain ⟨hfz23_0, hfz23_1, hfz23_2, hfz23_3⟩ := bf4 BK101.out; obtain ⟨hcz24_0, hcz24_1, hcz24_2, hcz24_3⟩ := bc4 BK102.out; obtain ⟨hfz24_0, hfz24_1, hfz24_2, hfz24_3⟩ := bf4 BK102.out) | ((with_reducible refine gate_callee (f := 14) rfl ?_); refine goesL_ (some 25) rfl rfl Try.func14 (by kernel_rfl) rfl #[.slice A0_3 l0_3.length c0_3, .slice A1_3 l1_3.length c1_3] rfl (by (try simp only [List.map_toArray, List.map_cons, List.map_nil]); first | done | rfl | (simp only [List.length_drop, List.length_take]; rfl)) ?_; (with_reducible refine (laws_eqIntS.calls k _ _ l0_3 _ _ l1_3 false _ ?side1 ?side2 ?side3 ?side4 A7.out).mono ?_); (case side1 => repeat (first | exact (Kd.C_below HR0_3.out HB.out) | (with_reducible refine Kd.C_alloc ?_ _) | (with_reducible refine Kd.C_drewN ?_ _) | (with_reducible refine Kd.C_drew ?_))); (case side2 => exact HC0_3.out); (case side3 => repeat (first | exact (Kd.C_below HR1_3.out HB.out) | (with_reducible refine Kd.C_alloc ?_ _) | (with_reducible refine Kd.C_drewN ?_ _) | (with_reducible refine Kd.C_drew ?_))); (case side4 => exact HC1_3.out); rintro e w' ⟨rfl, ⟨nd, rfl⟩⟩; refine ⟨_, rfl, ?_⟩))
     go_ret
     exact ⟨by first | rfl | (simp [errW_none, errW_some] <;> rfl) | (simp [*, errW_none, errW_some] <;> rfl), by repeat (first | (with_reducible first | exact HB.out | apply below_alloc | apply pw_below_drewN | apply below_drew1 | refine below_set ?_ GE101.out | refine below_set ?_ GE102.out) | exact HB.out)⟩
   ·replace c6 := Bool.eq_false_iff.mpr c6
    subst c6
    have H1 : (some false) = some r := by rw [if_neg (show ¬ (false = true) by decide)] at H; exact H
    clear H
    have H := H1
    clear H1
    obtain rfl := Option.some.inj H
    go_enter Try.func28, Try.ntmps28
    go_wp2_with (first | ((with_reducible refine gate_dst (N := 2) rfl ?_); refine box_event ?hg (N := 2) ?hd (cs := #[.int .i64 a0_0, .int .i64 a0_1, .slice A0_2 l0_2.length c0_2, .slice A0_3 l0_3.length c0_3]) (t := 42) ?hr ?_; (case hd => rfl); (case hg => rfl); (case hr => first | (go_simp; done) | (go_simp; rfl)); intro gb101 hg w25 hbox hb; have n0_ := Aside0.mk (below_step (eb HB.out) hb); have n1_ := Aside0.mk (hbox); have n2_ := Aside0.mk ((by rw [hg]; exact (below_size (eb HB.out)) : w.heap.size ≤ gb101)); have n3_ := Aside0.mk ((by rw [hg]; exact (below_size (eb HB.out)) : w.heap.size ≤ gb101)); clear HB; have HB := n0_; have BK101 := n1_; have GW101 := n2_; have GE101 := n3_; clear n0_ n1_ n2_ n3_; clear hb hbox hg) | ((with_reducible refine gate_dst (N := 3) rfl ?_); refine box_event ?hg (N := 3) ?hd (cs := #[.int .i64 a1_0, .int .i64 a1_1, .slice A1_2 l1_2.length c1_2, .slice A1_3 l1_3.length c1_3]) (t := 42) ?hr ?_; (case hd => rfl); (case hg => rfl); (case hr => first | (go_simp; done) | (go_simp; rfl)); intro gb102 hg w26 hbox hb; have n0_ := Aside0.mk (blk_below (g := gb101) (o := .cells #[.int .i64 a0_0, .int .i64 a0_1, .slice A0_2 l0_2.length c0_2, .slice A0_3 l0_3.length c0_3] 42 (0, 0)) (ex BK101.out) hb); have n1_ := Aside0.mk (below_step (by repeat (first | (with_reducible first | exact HB.out | apply below_alloc | apply pw_below_drewN | apply below_drew1 | refine below_set ?_ GE101.out) | exact HB.out)) hb); have n2_ := Aside0.mk (hbox); have n3_ := Aside0.mk ((by rw [hg]; exact (below_size (by repeat (first | (with_reducible first | exact HB.out | apply below_alloc | apply pw_below_drewN | apply below_drew1 | refine below_set ?_ GE101.out) | exact HB.out))) : w.heap.size ≤ gb102)); have n4_ := Aside0.mk ((by rw [hg]; exact (below_size (by repeat (first | (with_reducible first | exact HB.out | apply below_alloc | apply pw_below_drewN | apply below_drew1 | refine below_set ?_ GE101.out) | exact HB.out))) : w.heap.size ≤ gb102)); have n5_ := Aside0.mk ((by rw [hg]; exact Nat.ne_of_lt (blk_lt (g := gb101) (o := .cells #[.int .i64 a0_0, .int .i64 a0_1, .slice A0_2 l0_2.length c0_2, .slice A0_3 l0_3.length c0_3] 42 (0, 0)) (ex BK101.out)) : gb101 ≠ gb102)); have n6_ := Aside0.mk ((by rw [hg]; exact Nat.ne_of_gt (blk_lt (g := gb101) (o := .cells #[.int .i64 a0_0, .int .i64 a0_1, .slice A0_2 l0_2.length c0_2, .slice A0_3 l0_3.length c0_3] 42 (0, 0)) (ex BK101.out)) : gb102 ≠ gb101)); clear BK101; clear HB; have BK101 := n0_; have HB := n1_; have BK102 := n2_; have GW102 := n3_; have GE102 := n4_; have NB101_102 := n5_; have NB102_101 := n6_; clear n0_ n1_ n2_ n3_ n4_ n5_ n6_; clear hb hbox hg; have hnb27 := NB101_102.out; have hnc27 := NB102_101.out; obtain ⟨hcz28_0, hcz28_1, hcz28_2, hcz28_3⟩ := bc4 BK101.out; obtain ⟨hfz28_0, hfz28_1, hfz28_2, hfz28_3⟩ := bf4 BK101.out; obtain ⟨hcz29_0, hcz29_1, hcz29_2, hcz29_3⟩ := bc4 BK102.out; obtain ⟨hfz29_0, hfz29_1, hfz29_2, hfz29_3⟩ := bf4 BK102.out) | ((with_reducible refine gate_callee (f := 19) rfl ?_); refine goesL_ (some 19) rfl rfl Try.func19 (by kernel_rfl) rfl #[.slice A0_2 l0_2.length c0_2, .slice A1_2 l1_2.length c1_2] rfl (by (try simp only [List.map_toArray, List.map_cons, List.map_nil]); first | done | rfl | (simp only [List.length_drop, List.length_take]; rfl)) ?_; (with_reducible refine (laws_eqStripMoveS.calls k _ _ l0_2 _ _ l1_2 false _ ?side1 ?side2 ?side3 ?side4 A5.out).mono ?_); (case side1 => repeat (first | exact (Kd.C_below HR0_2.out HB.out) | (with_reducible refine Kd.C_alloc ?_ _) | (with_reducible refine Kd.C_drewN ?_ _) | (with_reducible refine Kd.C_drew ?_))); (case side2 => exact HC0_2.out); (case side3 => repeat (first | exact (Kd.C_below HR1_2.out HB.out) | (with_reducible refine Kd.C_alloc ?_ _) | (with_reducible refine Kd.C_drewN ?_ _) | (with_reducible refine Kd.C_drew ?_))); (case side4 => exact HC1_2.out); rintro e w30 ⟨rfl, hb⟩; refine ⟨_, rfl, ?_⟩; have n0_ := Aside0.mk (blk_below (g := gb101) (o := .cells #[.int .i64 a0_0, .int .i64 a0_1, .slice A0_2 l0_2.length c0_2, .slice A0_3 l0_3.length c0_3] 42 (0, 0)) (ex BK101.out) hb); have n1_ := Aside0.mk (blk_below (g := gb102) (o := .cells #[.int .i64 a1_0, .int .i64 a1_1, .slice A1_2 l1_2.length c1_2, .slice A1_3 l1_3.length c1_3] 42 (0, 0)) (ex BK102.out) hb); have n2_ := Aside0.mk (below_step (by repeat (first | (with_reducible first | exact HB.out | apply below_alloc | apply pw_below_drewN | apply below_drew1 | refine below_set ?_ GE101.out | refine below_set ?_ GE102.out) | exact HB.out)) hb); clear BK101; clear BK102; clear HB; have BK101 := n0_; have BK102 := n1_; have HB := n2_; clear n0_ n1_ n2_; (try clear hb); (try clear hb2); (try clear hk); (try clear hi)))
    go_ret
    exact ⟨by first | rfl | (simp [errW_none, errW_some] <;> rfl) | (simp [*, errW_none, errW_some] <;> rfl), by repeat (first | (with_reducible first | exact HB.out | apply below_alloc | apply pw_below_drewN | apply below_drew1 | refine below_set ?_ GE101.out | refine below_set ?_ GE102.out) | exact HB.out)⟩
  ·rw [if_neg c4] at H
   have c4b0 : (a0_1 == a1_1) = false := beq_eq_false_iff_ne.mpr c4
   have c4b1 : (a0_1 != a1_1) = true := bne_iff_ne.mpr c4
   obtain rfl := Option.some.inj H
   go_enter Try.func28, Try.ntmps28
   go_wp2_with (first | ((with_reducible refine gate_dst (N := 2) rfl ?_); refine box_event ?hg (N := 2) ?hd (cs := #[.int .i64 a0_0, .int .i64 a0_1, .slice A0_2 l0_2.length c0_2, .slice A0_3 l0_3.length c0_3]) (t := 42) ?hr ?_; (case hd => rfl); (case hg => rfl); (case hr => first | (go_simp; done) | (go_simp; rfl)); intro gb101 hg w31 hbox hb; have n0_ := Aside0.mk (below_step (eb HB.out) hb); have n1_ := Aside0.mk (hbox); have n2_ := Aside0.mk ((by rw [hg]; exact (below_size (eb HB.out)) : w.heap.size ≤ gb101)); have n3_ := Aside0.mk ((by rw [hg]; exact (below_size (eb HB.out)) : w.heap.size ≤ gb101)); clear HB; have HB := n0_; have BK101 := n1_; have GW101 := n2_; have GE101 := n3_; clear n0_ n1_ n2_ n3_; clear hb hbox hg) | ((with_reducible refine gate_dst (N := 3) rfl ?_); refine box_event ?hg (N := 3) ?hd (cs := #[.int .i64 a1_0, .int .i64 a1_1, .slice A1_2 l1_2.length c1_2, .slice A1_3 l1_3.length c1_3]) (t := 42) ?hr ?_; (case hd => rfl); (case hg => rfl); (case hr => first | (go_simp; done) | (go_simp; rfl)); intro gb102 hg w32 hbox hb; have n0_ := Aside0.mk (blk_below (g := gb101) (o := .cells #[.int .i64 a0_0, .int .i64 a0_1, .slice A0_2 l0_2.length c0_2, .slice A0_3 l0_3.length c0_3] 42 (0, 0)) (ex BK101.out) hb); have n1_ := Aside0.mk (below_step (by repeat (first | (with_reducible first | exact HB.out | apply below_alloc | apply pw_below_drewN | apply below_drew1 | refine below_set ?_ GE101.out) | exact HB.out)) hb); have n2_ := Aside0.mk (hbox); have n3_ := Aside0.mk ((by rw [hg]; exact (below_size (by repeat (first | (with_reducible first | exact HB.out | apply below_alloc | apply pw_below_drewN | apply below_drew1 | refine below_set ?_ GE101.out) | exact HB.out))) : w.heap.size ≤ gb102)); have n4_ := Aside0.mk ((by rw [hg]; exact (below_size (by repeat (first | (with_reducible first | exact HB.out | apply below_alloc | apply pw_below_drewN | apply below_drew1 | refine below_set ?_ GE101.out) | exact HB.out))) : w.heap.size ≤ gb102)); have n5_ := Aside0.mk ((by rw [hg]; exact Nat.ne_of_lt (blk_lt (g := gb101) (o := .cells #[.int .i64 a0_0, .int .i64 a0_1, .slice A0_2 l0_2.length c0_2, .slice A0_3 l0_3.length c0_3] 42 (0, 0)) (ex BK101.out)) : gb101 ≠ gb102)); have n6_ := Aside0.mk ((by rw [hg]; exact Nat.ne_of_gt (blk_lt (g := gb101) (o := .cells #[.int .i64 a0_0, .int .i64 a0_1, .slice A0_2 l0_2.length c0_2, .slice A0_3 l0_3.length c0_3] 42 (0, 0)) (ex BK101.out)) : gb102 ≠ gb101)); clear BK101; clear HB; have BK101 := n0_; have HB := n1_; have BK102 := n2_; have GW102 := n3_; have GE102 := n4_; have NB101_102 := n5_; have NB102_101 := n6_; clear n0_ n1_ n2_ n3_ n4_ n5_ n6_; clear hb hbox hg; have hnb33 := NB101_102.out; have hnc33 := NB102_101.out; obtain ⟨hcz34_0, hcz34_1, hcz34_2, hcz34_3⟩ := bc4 BK101.out; obtain ⟨hfz34_0, hfz34_1, hfz34_2, hfz34_3⟩ := bf4 BK101.out; obtain ⟨hcz35_0, hcz35_1, hcz35_2, hcz35_3⟩ := bc4 BK102.out; obtain ⟨hfz35_0, hfz35_1, hfz35_2, hfz35_3⟩ := bf4 BK102.out))
   go_ret
   exact ⟨by first | rfl | (simp [errW_none, errW_some] <;> rfl) | (simp [*, errW_none, errW_some] <;> rfl), by repeat (first | (with_reducible first | exact HB.out | apply below_alloc | apply pw_below_drewN | apply below_drew1 | refine below_set ?_ GE101.out | refine below_set ?_ GE102.out) | exact HB.out)⟩
 ·rw [if_neg c3] at H
  have c3b0 : (a0_0 == a1_0) = false := beq_eq_false_iff_ne.mpr c3
  have c3b1 : (a0_0 != a1_0) = true := bne_iff_ne.mpr c3
  obtain rfl := Option.some.inj H
  go_enter Try.func28, Try.ntmps28
  go_wp2_with (first | ((with_reducible refine gate_dst (N := 2) rfl ?_); refine box_event ?hg (N := 2) ?hd (cs := #[.int .i64 a0_0, .int .i64 a0_1, .slice A0_2 l0_2.length c0_2, .slice A0_3 l0_3.length c0_3]) (t := 42) ?hr ?_; (case hd => rfl); (case hg => rfl); (case hr => first | (go_simp; done) | (go_simp; rfl)); intro gb101 hg w36 hbox hb; have n0_ := Aside0.mk (below_step (eb HB.out) hb); have n1_ := Aside0.mk (hbox); have n2_ := Aside0.mk ((by rw [hg]; exact (below_size (eb HB.out)) : w.heap.size ≤ gb101)); have n3_ := Aside0.mk ((by rw [hg]; exact (below_size (eb HB.out)) : w.heap.size ≤ gb101)); clear HB; have HB := n0_; have BK101 := n1_; have GW101 := n2_; have GE101 := n3_; clear n0_ n1_ n2_ n3_; clear hb hbox hg) | ((with_reducible refine gate_dst (N := 3) rfl ?_); refine box_event ?hg (N := 3) ?hd (cs := #[.int .i64 a1_0, .int .i64 a1_1, .slice A1_2 l1_2.length c1_2, .slice A1_3 l1_3.length c1_3]) (t := 42) ?hr ?_; (case hd => rfl); (case hg => rfl); (case hr => first | (go_simp; done) | (go_simp; rfl)); intro gb102 hg w37 hbox hb; have n0_ := Aside0.mk (blk_below (g := gb101) (o := .cells #[.int .i64 a0_0, .int .i64 a0_1, .slice A0_2 l0_2.length c0_2, .slice A0_3 l0_3.length c0_3] 42 (0, 0)) (ex BK101.out) hb); have n1_ := Aside0.mk (below_step (by repeat (first | (with_reducible first | exact HB.out | apply below_alloc | apply pw_below_drewN | apply below_drew1 | refine below_set ?_ GE101.out) | exact HB.out)) hb); have n2_ := Aside0.mk (hbox); have n3_ := Aside0.mk ((by rw [hg]; exact (below_size (by repeat (first | (with_reducible first | exact HB.out | apply below_alloc | apply pw_below_drewN | apply below_drew1 | refine below_set ?_ GE101.out) | exact HB.out))) : w.heap.size ≤ gb102)); have n4_ := Aside0.mk ((by rw [hg]; exact (below_size (by repeat (first | (with_reducible first | exact HB.out | apply below_alloc | apply pw_below_drewN | apply below_drew1 | refine below_set ?_ GE101.out) | exact HB.out))) : w.heap.size ≤ gb102)); have n5_ := Aside0.mk ((by rw [hg]; exact Nat.ne_of_lt (blk_lt (g := gb101) (o := .cells #[.int .i64 a0_0, .int .i64 a0_1, .slice A0_2 l0_2.length c0_2, .slice A0_3 l0_3.length c0_3] 42 (0, 0)) (ex BK101.out)) : gb101 ≠ gb102)); have n6_ := Aside0.mk ((by rw [hg]; exact Nat.ne_of_gt (blk_lt (g := gb101) (o := .cells #[.int .i64 a0_0, .int .i64 a0_1, .slice A0_2 l0_2.length c0_2, .slice A0_3 l0_3.length c0_3] 42 (0, 0)) (ex BK101.out)) : gb102 ≠ gb101)); clear BK101; clear HB; have BK101 := n0_; have HB := n1_; have BK102 := n2_; have GW102 := n3_; have GE102 := n4_; have NB101_102 := n5_; have NB102_101 := n6_; clear n0_ n1_ n2_ n3_ n4_ n5_ n6_; clear hb hbox hg; have hnb38 := NB101_102.out; have hnc38 := NB102_101.out; obtain ⟨hcz39_0, hcz39_1, hcz39_2, hcz39_3⟩ := bc4 BK101.out; obtain ⟨hfz39_0, hfz39_1, hfz39_2, hfz39_3⟩ := bf4 BK101.out; obtain ⟨hcz40_0, hcz40_1, hcz40_2, hcz40_3⟩ := bc4 BK102.out; obtain ⟨hfz40_0, hfz40_1, hfz40_2, hfz40_3⟩ := bf4 BK102.out))
  go_ret
  exact ⟨by first | rfl | (simp [errW_none, errW_some] <;> rfl) | (simp [*, errW_none, errW_some] <;> rfl), by repeat (first | (with_reducible first | exact HB.out | apply below_alloc | apply pw_below_drewN | apply below_drew1 | refine below_set ?_ GE101.out | refine below_set ?_ GE102.out) | exact HB.out)⟩

end Go.Proofs.Ytpdmimlkgmhepaa.G

/- The laws' helpers on books: a copy, equal books, sizes; condition: what the laws' own guard lets by. -/
namespace Go.Proofs.Ytpdmimlkgmhepaa.Pure
set_option linter.unusedVariables false
set_option linter.unusedSimpArgs false
open Go.RowKit Go.Proofs.YtpdmimlkgmhepaaW.PrintWords Go.Proofs.Ytpdmimlkgmhepaa.G
theorem tkWf {t : List Int} (h : ∀ z ∈ t, (Lit.int .i64 z).wf = true) : TkWf t := by
  intro i hi
  have e : tk t i = t[i] := by simp [tk, List.getD_eq_getElem?_getD, List.getElem?_eq_getElem hi]
  rw [e]
  exact wf_range (h _ (List.getElem_mem _))
theorem szBook (a0 a1 : Int) (l : List Lm) (t : List Int) (hl : l.length ≤ maxLen) (hw : ∀ x ∈ l, LmWf x) (ht : t.length ≤ maxLen) :
    ∃ r : Int, Ev (fun k => laws_szStripBook.f k a0 a1 l t 1048576) r ∧ r ≤ 1048576 ∧ (0 ≤ r → l.length ≤ 1048576 ∧ t.length ≤ 1048576 ∧ ∀ i, i < l.length → (lat l i).f0.size ≤ 1048576) := by
  unfold maxLen at ht
  unfold laws_szStripBook.f
  obtain ⟨r, h1, h2, h3⟩ := szMoves l 1048576 (by omega) (by omega) hl hw
  by_cases h0 : r < 0
  · exact ⟨-1, Ev.bind h1 (Ev.pos h0 (Ev.some rfl)), by omega, fun h => absurd h (by omega)⟩
  · obtain ⟨h4, h5⟩ := h3 (by omega)
    by_cases h6 : r - (t.length : Int) < 0
    · refine ⟨-1, Ev.bind h1 (Ev.neg h0 ?_), by omega, fun h => absurd h (by omega)⟩
      simp only [laws_szIntS.f, wrap_eq (x := r - (t.length : Int)) (by omega) (by omega), if_pos h6, Option.bind_some]
      exact Ev.pos (by decide) (Ev.some rfl)
    · refine ⟨r - t.length, Ev.bind h1 (Ev.neg h0 ?_), by omega, fun h => ⟨by omega, by omega, h5⟩⟩
      simp only [laws_szIntS.f, wrap_eq (x := r - (t.length : Int)) (by omega) (by omega), if_neg h6, Option.bind_some]
      exact Ev.some rfl
theorem toBook (a0 a1 : Int) (l : List Lm) (t : List Int) (hl : l.length ≤ 1048576) (ht : t.length ≤ 1048576) : Ev (fun k => laws_toStripBook.f k a0 a1 l t) (a0, a1, l.map toM, t) := by
  unfold laws_toStripBook.f
  exact Ev.bind (toMoves l hl) (Ev.bind (toInts t ht) (Ev.some rfl))
theorem eqBook (a0 a1 : Int) (l : List Mv) (t : List Int) (hl : l.length ≤ 1048576) (ht : t.length ≤ 1048576) : Ev (fun k => laws_eqStripBook.f k a0 a1 l t a0 a1 l t) true := by
  unfold laws_eqStripBook.f
  exact Ev.pos rfl (Ev.pos rfl (Ev.bind (eqMoves l hl) (Ev.pos rfl (Ev.bind (eqInts t ht) (Ev.pos rfl (Ev.some rfl))))))
end Go.Proofs.Ytpdmimlkgmhepaa.Pure

/- StripCost, the program's and the reference's, plainly; condition: ticks are int64s, at most 2^20. -/
namespace Go.Proofs.Ytpdmimlkgmhepaa.Pure
set_option linter.unusedVariables false
set_option linter.unusedSimpArgs false
open Go.RowKit Go.Proofs.YtpdmimlkgmhepaaW.PrintWords Go.Proofs.YtpdmimlkgmhepaaW.PrintMore Go.Proofs.Ytpdmimlkgmhepaa.G

/-- How late a place is. -/
def dl (l : List Mv) (t : List Int) (i : Nat) : Int := tk t i - (at' l i).f3
def cStep (l : List Mv) (t : List Int) (i : Nat) (s : Int × Int) : Int × Int := (s.1 + dl l t i, mx s.2 (dl l t i))
def costM (l : List Mv) (t : List Int) : Int × Int := foldFrom (cStep l t) 0 l.length (0, 0)
def CInv (i : Nat) (s : Int × Int) : Prop := 0 ≤ s.1 ∧ s.1 ≤ (i : Int) * 10000 ∧ 0 ≤ s.2 ∧ s.2 ≤ 10000
theorem cInv_step {l : List Mv} {t : List Int} {i : Nat} {s : Int × Int} (hd : 0 ≤ dl l t i ∧ dl l t i ≤ 10000) (h : CInv i s) : CInv (i + 1) (cStep l t i s) := by
  unfold CInv cStep mx at *
  dsimp only
  split <;> omega
/-- What holds of moves and ticks that are not ahead of them. -/
def DlOk (l : List Mv) (t : List Int) : Prop := t.length = l.length ∧ l.length ≤ 6 ∧ ∀ i, i < l.length → 0 ≤ (at' l i).f3 ∧ (at' l i).f3 ≤ tk t i ∧ tk t i ≤ 10000
theorem fits_dl {l : List Mv} {t : List Int} (h : Fits l t) : DlOk l t := by
  refine ⟨h.2.1, h.1.1, fun i hi => ?_⟩
  have hmi := mvOk_range (h.1.2 i hi).1
  have hir := (h.2.2 i hi).1.1
  omega
theorem costM_inv {l : List Mv} {t : List Int} (h : DlOk l t) : CInv l.length (costM l t) := by
  have := foldFrom_inv (step := cStep l t) CInv (n := l.length) (fun i s hi hs => cInv_step (by unfold dl; have := h.2.2 i hi; omega) hs) l.length 0 (0, 0) (by omega) (by unfold CInv; simp)
  simpa [costM] using this

theorem spec_cost2 (l : List Mv) (t : List Int) (h : DlOk l t) : Ev (fun k => spec_l2Cost.f k l t) (costM l t) := by
  unfold spec_l2Cost.f
  obtain ⟨hlen, h6, hd⟩ := h
  refine ev_fold (n := l.length) (σ := Int × Int) CInv (cStep l t) (fun i s k => spec_l2Cost.l0 k l t s.1 s.2 i) (fun i s hi hs => cInv_step (by unfold dl; have := hd i hi; omega) hs) ?_ (0, 0) _ (by unfold CInv; simp) ?_
  · intro i s r hi hs hr
    have hdi := hd i hi
    unfold CInv at hs
    refine Ev.step (fun _ => spec_l2Cost.l0.eq_2 ..) (Ev.pos (by omega) (Ev.pos (by omega) (Ev.pos (by omega) ?_)))
    simp only [rdM, rdT, wrap_succ hi (show l.length ≤ 1000000000000000000 by omega), wrap_eq (x := tk t i - (at' l i).f3) (by omega) (by omega), wrap_eq (x := s.1 + (tk t i - (at' l i).f3)) (by omega) (by omega)]
    unfold cStep mx dl at hr
    dsimp only at hr
    refine Ev.ite (fun hlt => ?_) (fun hge => ?_)
    · rwa [if_pos (by omega)] at hr
    · rwa [if_neg (by omega)] at hr
  · intro _
    exact Ev.step (fun _ => spec_l2Cost.l0.eq_2 ..) (Ev.neg (by omega) (Ev.some rfl))

def costF (l : List Mv) (t : List Int) : Int × Int := if Fits l t then costM l t else (0, 0)
theorem spec_cost (l : List Mv) (t : List Int) (hl : l.length ≤ 1048576) (ht : t.length ≤ 1048576) : Ev (fun k => spec_StripCost.f k l t) (costF l t) := by
  unfold spec_StripCost.f costF
  refine Ev.bind (spec_fits l t hl ht) ?_
  by_cases hf : Fits l t
  · rw [if_pos hf]
    exact Ev.pos (decide_eq_true hf) (Ev.bind (spec_cost2 l t (fits_dl hf)) (Ev.some rfl))
  · rw [if_neg hf]
    exact Ev.neg (by simp [hf]) (Ev.some rfl)
theorem impl_cost (l : List Mv) (t : List Int) (hl : l.length ≤ 1048576) (ht : t.length ≤ 1048576) (hw : TkWf t) : Ev (fun k => impl_StripCost.f k l t) (costF l t) := by
  unfold impl_StripCost.f costF
  refine Ev.bind (impl_fits l t hl ht hw) ?_
  by_cases hf : Fits l t
  · rw [if_pos hf]
    obtain ⟨hlen, h6, hd⟩ := fits_dl hf
    refine Ev.pos (decide_eq_true hf) ?_
    refine ev_fold (n := l.length) (σ := Int × Int) CInv (cStep l t) (fun i s k => impl_StripCost.l0 k t s.1 s.2 l l.length i) (fun i s hi hs => cInv_step (by unfold dl; have := hd i hi; omega) hs) ?_ (0, 0) _ (by unfold CInv; simp) ?_
    · intro i s r hi hs hr
      have hdi := hd i hi
      unfold CInv at hs
      refine Ev.step (fun _ => impl_StripCost.l0.eq_2 ..) (Ev.pos (by omega) (Ev.pos (by omega) (Ev.pos (by omega) (Ev.pos (by omega) ?_))))
      simp only [rdM, rdT, wrap_succ hi (show l.length ≤ 1000000000000000000 by omega), wrap_eq (x := tk t i - (at' l i).f3) (by omega) (by omega), wrap_eq (x := s.1 + (tk t i - (at' l i).f3)) (by omega) (by omega)]
      exact hr
    · intro _
      exact Ev.step (fun _ => impl_StripCost.l0.eq_2 ..) (Ev.neg (by omega) (Ev.some rfl))
  · rw [if_neg hf]
    exact Ev.neg (by simp [hf]) (Ev.some rfl)
end Go.Proofs.Ytpdmimlkgmhepaa.Pure

/- FnExactStripCost, the pure statement: both answers are the same and the lists read as before; no condition but the arguments' kinds. -/
namespace Go.Proofs.Ytpdmimlkgmhepaa.Pure
set_option linter.unusedVariables false
set_option linter.unusedSimpArgs false
open Go.RowKit Go.Proofs.YtpdmimlkgmhepaaW.PrintWords Go.Proofs.Ytpdmimlkgmhepaa.G
theorem FnExactStripCost (l : List Lm) (hl : l.length ≤ maxLen) (hw : ∀ x ∈ l, LmWf x) (t : List Int) (ht : t.length ≤ maxLen) (hwt : ∀ z ∈ t, (Lit.int .i64 z).wf = true) : ∃ k, laws_FnExactStripCost.f k l t = some true := by
  refine Ev.rounds (r := true) ?_
  unfold laws_FnExactStripCost.f
  refine Ev.ite (fun _ => Ev.some rfl) (fun hlt => ?_)
  obtain ⟨r, h1, h2, h3⟩ := szMoves l 1048576 (by omega) (by omega) hl hw
  refine Ev.bind h1 (Ev.ite (fun _ => Ev.some rfl) (fun h0 => ?_))
  obtain ⟨h4, _⟩ := h3 (by omega)
  have k0 : l.length ≤ 1048576 := by omega
  have k1 : (l.map toM).length ≤ 1048576 := by rw [List.length_map]; exact k0
  have k2 : t.length ≤ 1048576 := by omega
  refine Ev.bind (toMoves l k0) (Ev.bind (toInts t k2) (Ev.bind (spec_cost _ _ k1 k2) (Ev.bind (toMoves l k0) (Ev.bind (toInts t k2) (Ev.bind (impl_cost _ _ k1 k2 (tkWf hwt)) (Ev.pos rfl ?_))))))
  refine Ev.step (fun _ => laws_FnExactStripCost.j0.eq_2 ..) (Ev.neg (by simp) ?_)
  refine Ev.bind (toMoves l k0) (Ev.bind (eqMoves _ k1) (Ev.pos rfl ?_))
  exact Ev.bind (toInts t k2) (Ev.bind (eqInts t k2) (Ev.pos rfl (Ev.some rfl)))
end Go.Proofs.Ytpdmimlkgmhepaa.Pure

/- FnExactStripCost: for every input the law returns true and each argument reads behind the call as it read before; no condition. -/
namespace Go.Proofs.Ytpdmimlkgmhepaa.fnExactStripCost
open Go.ChangeShapes Go.WideShapes Go.ChangeAt Go.RowKit
open Go.ChangeMaps (open_string shut_string)
set_option linter.unusedVariables false
theorem own : ownKnob Try.prog.godebug = none := by kernel_rfl
theorem laidOut : laidOutB Try.prog = true := by kernel_rfl
set_option maxRecDepth 100000 in
theorem lifted (os : Os) (started : os.Started) (H : Type) (enc : TypeId × Value → H) :
    ReturnsInHanded {} Try.checked os 6 .any (Rows.fnExactStripCostSpec.pre6 enc Try.prog Try.f6 Rows.fnExactStripCostRow.domain false) (Rows.fnExactStripCostSpec.post enc Try.prog Try.f6 false true false false) := by
  refine returnsInHanded_of_change_sized (C := Try.checked) own started (by kernel_rfl) Try.func6
    (ChangeSpec.witness6 (enc := enc) (C := Try.checked) false ⟨#[], #[.slice none 0 0, .slice none 0 0], []⟩ 8 (by kernel_rfl) (by kernel_rfl) (by kernel_rfl) (by kernel_rfl)) ?_
  intro W base args ds gs before hval0 hW hcnd hsz0 _
  have hval : ∀ (j : Nat) t v, Try.f6.params[j]? = some t → args[j]? = some v → Value.okWide Try.prog W .any base t v := hval0
  have hW' := hW
  obtain ⟨p, q, hA0, hV, rfl, hfz, hnd⟩ := hW
  have hA : DataW.TrodAll enc Try.prog W 0 (fun _ => true) true Try.f6.params.toList args.toList ds p := hA0
  rw [Try.params6] at hA hval
  obtain ⟨v0, vs0, d0, ds0, p0, q0, hargs, rfl, rfl, h0, r0⟩ := trodAll_cons hA
  obtain ⟨v1, vs1, d1, ds1, p1, q1, rfl, rfl, rfl, h1, r1⟩ := trodAll_cons r0
  obtain ⟨rfl, rfl, rfl⟩ := trodAll_nil r1
  obtain rfl : args = #[v0, v1] := by cases args; simp_all
  obtain ⟨rfl, rfl⟩ := trodVars_none hV
  have k0 := h0
  have lt0 : ∀ x ∈ p0, x.block < W.heap.size := by obtain ⟨m, hm⟩ := k0; exact DataW.trod_lt m _ _ _ hm
  obtain ⟨A0, len0, cap0, rfl⟩ := okWide_slice Try.underlying26 (hval 0 26 v0 rfl rfl)
  obtain ⟨fuel0, hf0⟩ := h0
  obtain ⟨A0', c0, l0, e0, hc0, hm0, hr0, w0⟩ := G.open_moves (t := 26) Try.underlying26 hf0
  simp [Value.cells] at e0
  obtain ⟨rfl, rfl, rfl⟩ := e0
  have hm0' : l0.length ≤ maxLen := Nat.le_trans hc0 hm0
  have k1 := h1
  have lt1 : ∀ x ∈ p1, x.block < W.heap.size := by obtain ⟨m, hm⟩ := k1; exact DataW.trod_lt m _ _ _ hm
  obtain ⟨A1, len1, cap1, rfl⟩ := okWide_slice Try.underlying22 (hval 1 22 v1 rfl rfl)
  obtain ⟨fuel1, hf1⟩ := h1
  obtain ⟨A1', c1, l1, e1, hc1, hm1, hr1, w1⟩ := G.open_ints_rows Try.underlying22 Try.underlying3 (by kernel_rfl) hf1
  simp [Value.cells] at e1
  obtain ⟨rfl, rfl, rfl⟩ := e1
  have hm1' : l1.length ≤ maxLen := Nat.le_trans hc1 hm1
  obtain ⟨k, hp⟩ := Pure.FnExactStripCost l0 hm0' w0 l1 hm1' w1
  refine (G.laws_FnExactStripCost.calls k _ _ l0 _ _ l1 true W hr0 hc0 hr1 hc1 hp).mono fun e W' ⟨he, bel0⟩ => ?_
  have bel : Below W.heap.size W W' := by first | exact bel0 | exact bel0.below
  subst he
  exact ⟨_, rfl, _, _, _, [], _, [], hW', trodAll_mk1 (shut_bool Try.underlying4 _), (trodAll_cons_mk (Below.trod laidOut (by kernel_rfl) (of_decide_eq_true (by kernel_rfl)) k0 bel lt0) (trodAll_cons_mk (Below.trod laidOut (by kernel_rfl) (of_decide_eq_true (by kernel_rfl)) k1 bel lt1) trodAll_mk0)), rfl, bel.frame _, fun h => by cases h⟩
theorem over : Rows.fnExactStripCostRow.holds Try.pinned (OpenSpec.ofChange Rows.fnExactStripCostSpec) :=
  OpenClaim.holds_of_wide 6 Try.f6 rfl rfl rfl rfl rfl rfl rfl ⟨rfl, rfl, rfl, rfl, rfl⟩ rfl rfl rfl rfl rfl (by kernel_rfl) Try.func6 (by kernel_rfl)
    (of_decide_eq_true (by kernel_rfl)) (by unfold Func.isWrapper; first | (rw [if_pos (by decide +kernel)]; kernel_rfl) | (rw [if_neg (by decide +kernel)]; exact ⟨rfl, rfl⟩))
    (fun os started H enc _ => lifted os started H enc)
theorem proved : Rows.FnExactStripCostSaid := over
end Go.Proofs.Ytpdmimlkgmhepaa.fnExactStripCost
namespace Go.Proofs.Ytpdmimlkgmhepaa
theorem fnExactStripCost_holds : Rows.FnExactStripCostSaid := fnExactStripCost.proved
#print axioms fnExactStripCost_holds
end Go.Proofs.Ytpdmimlkgmhepaa
