/- Plain laws of loops 'from some number of rounds on'; no condition. -/
import Derived.Test.YtpdmimlkgmhepaaBase
namespace Go.Proofs.Ytpdmimlkgmhepaa.Pure
set_option linter.unusedVariables false
set_option linter.unusedSimpArgs false
open Go.RowKit Go.Proofs.YtpdmimlkgmhepaaW.PrintWords

/-- A loop that ends at the first place that fails. -/
theorem ev_all {β : Type} {n : Nat} {P : Nat → Prop} {R F : β} (g : Nat → Nat → Option β) (hend : Ev (g n) R)
    (hyes : ∀ i, i < n → P i → ∀ r, Ev (g (i + 1)) r → Ev (g i) r) (hno : ∀ i, i < n → (∀ j, j < i → P j) → ¬ P i → Ev (g i) F) :
    ((∀ j, j < n → P j) → Ev (g 0) R) ∧ ((¬ ∀ j, j < n → P j) → Ev (g 0) F) := by
  have key : ∀ d i, i + d = n → (∀ j, j < i → P j) → ((∀ j, i ≤ j → j < n → P j) → Ev (g i) R) ∧ ((¬ ∀ j, i ≤ j → j < n → P j) → Ev (g i) F) := by
    intro d
    induction d with
    | zero =>
      intro i hi _
      obtain rfl : i = n := by omega
      exact ⟨fun _ => hend, fun h => absurd (fun j h1 h2 => absurd h1 (by omega)) h⟩
    | succ d ih =>
      intro i hi hp
      by_cases hP : P i
      · obtain ⟨h1, h2⟩ := ih (i + 1) (by omega) (fun j hj => by
          by_cases e : j = i
          · exact e ▸ hP
          · exact hp j (by omega))
        refine ⟨fun h => hyes i (by omega) hP _ (h1 fun j hj => h j (by omega)), fun h => hyes i (by omega) hP _ (h2 fun h' => h fun j hj hn => ?_)⟩
        by_cases e : j = i
        · exact e ▸ hP
        · exact h' j (by omega) hn
      · exact ⟨fun h => absurd (h i (Nat.le_refl _) (by omega)) hP, fun _ => hno i (by omega) hp hP⟩
  obtain ⟨h1, h2⟩ := key n 0 (by omega) (fun j hj => absurd hj (by omega))
  exact ⟨fun h => h1 fun j _ hj => h j hj, fun h => h2 fun h' => h fun j hj => h' j (by omega) hj⟩
theorem ev_yes {β : Type} {n : Nat} {P : Nat → Prop} {R : β} (g : Nat → Nat → Option β) (h : ∀ j, j < n → P j) (hend : Ev (g n) R) (hyes : ∀ i, i < n → P i → Ev (g (i + 1)) R → Ev (g i) R) : Ev (g 0) R := by
  have key : ∀ d i, i + d = n → Ev (g i) R := by
    intro d
    induction d with
    | zero =>
      intro i hi
      obtain rfl : i = n := by omega
      exact hend
    | succ d ih => exact fun i hi => hyes i (by omega) (h i (by omega)) (ih (i + 1) (by omega))
  exact key n 0 (by omega)
/-- The same, with what held ahead at hand. -/
theorem ev_no' {β : Type} {n : Nat} {P : Nat → Prop} {F : β} (g : Nat → Nat → Option β) (h : ¬ ∀ j, j < n → P j) (hyes : ∀ i, i < n → (∀ j, j < i → P j) → P i → Ev (g (i + 1)) F → Ev (g i) F) (hno : ∀ i, i < n → (∀ j, j < i → P j) → ¬ P i → Ev (g i) F) : Ev (g 0) F := by
  have key : ∀ d i, i + d = n → (∀ j, j < i → P j) → (¬ ∀ j, i ≤ j → j < n → P j) → Ev (g i) F := by
    intro d
    induction d with
    | zero => exact fun i hi _ h => absurd (fun j h1 h2 => absurd h1 (by omega)) h
    | succ d ih =>
      intro i hi hp h
      by_cases hP : P i
      · refine hyes i (by omega) hp hP (ih (i + 1) (by omega) (fun j hj => ?_) fun h' => h fun j hj hn => ?_)
        · by_cases e : j = i
          · exact e ▸ hP
          · exact hp j (by omega)
        · by_cases e : j = i
          · exact e ▸ hP
          · exact h' j (by omega) hn
      · exact hno i (by omega) hp hP
  exact key n 0 (by omega) (fun j hj => absurd hj (by omega)) fun h' => h fun j hj => h' j (by omega) hj
theorem ev_no {β : Type} {n : Nat} {P : Nat → Prop} {F : β} (g : Nat → Nat → Option β) (h : ¬ ∀ j, j < n → P j) (hyes : ∀ i, i < n → P i → Ev (g (i + 1)) F → Ev (g i) F) (hno : ∀ i, i < n → (∀ j, j < i → P j) → ¬ P i → Ev (g i) F) : Ev (g 0) F := by
  have key : ∀ d i, i + d = n → (∀ j, j < i → P j) → (¬ ∀ j, i ≤ j → j < n → P j) → Ev (g i) F := by
    intro d
    induction d with
    | zero => exact fun i hi _ h => absurd (fun j h1 h2 => absurd h1 (by omega)) h
    | succ d ih =>
      intro i hi hp h
      by_cases hP : P i
      · refine hyes i (by omega) hP (ih (i + 1) (by omega) (fun j hj => ?_) fun h' => h fun j hj hn => ?_)
        · by_cases e : j = i
          · exact e ▸ hP
          · exact hp j (by omega)
        · by_cases e : j = i
          · exact e ▸ hP
          · exact h' j (by omega) hn
      · exact hno i (by omega) hp hP
  exact key n 0 (by omega) (fun j hj => absurd hj (by omega)) fun h' => h fun j hj => h' j (by omega) hj
theorem ev_all_if {β : Type} {n : Nat} {P : Nat → Prop} {R F : β} [Decidable (∀ j, j < n → P j)] (g : Nat → Nat → Option β) (hend : Ev (g n) R)
    (hyes : ∀ i, i < n → P i → ∀ r, Ev (g (i + 1)) r → Ev (g i) r) (hno : ∀ i, i < n → (∀ j, j < i → P j) → ¬ P i → Ev (g i) F) : Ev (g 0) (if ∀ j, j < n → P j then R else F) := by
  obtain ⟨h1, h2⟩ := ev_all g hend hyes hno
  by_cases h : ∀ j, j < n → P j
  · rw [if_pos h]; exact h1 h
  · rw [if_neg h]; exact h2 h

/-- d steps from place i on. -/
def foldFrom {σ : Type} (step : Nat → σ → σ) : Nat → Nat → σ → σ
  | _, 0, s => s
  | i, d + 1, s => foldFrom step (i + 1) d (step i s)
theorem foldFrom_last {σ : Type} (step : Nat → σ → σ) (d : Nat) : ∀ i s, foldFrom step i (d + 1) s = step (i + d) (foldFrom step i d s) := by
  induction d with
  | zero => intro i s; rfl
  | succ d ih =>
    intro i s
    show foldFrom step (i + 1) (d + 1) (step i s) = _
    rw [ih, show i + 1 + d = i + (d + 1) by omega]
    rfl
theorem foldFrom_inv {σ : Type} {step : Nat → σ → σ} (I : Nat → σ → Prop) {n : Nat} (hI : ∀ i s, i < n → I i s → I (i + 1) (step i s)) : ∀ d i s, i + d ≤ n → I i s → I (i + d) (foldFrom step i d s) := by
  intro d
  induction d with
  | zero => intro i s _ h; exact h
  | succ d ih =>
    intro i s hd h
    have := ih (i + 1) (step i s) (by omega) (hI i s (by omega) h)
    rwa [show i + 1 + d = i + (d + 1) by omega] at this
theorem foldFrom_congr {σ : Type} {f g : Nat → σ → σ} : ∀ d i s, (∀ j s, i ≤ j → j < i + d → f j s = g j s) → foldFrom f i d s = foldFrom g i d s := by
  intro d
  induction d with
  | zero => intro i s _; rfl
  | succ d ih =>
    intro i s h
    show foldFrom f (i + 1) d (f i s) = foldFrom g (i + 1) d (g i s)
    rw [h i s (Nat.le_refl _) (by omega)]
    exact ih _ _ fun j s h1 h2 => h j s (by omega) (by omega)
/-- A loop that goes on to its end. -/
theorem ev_fold {σ β : Type} {n : Nat} (I : Nat → σ → Prop) (step : Nat → σ → σ) (g : Nat → σ → Nat → Option β) (hI : ∀ i s, i < n → I i s → I (i + 1) (step i s))
    (hstep : ∀ i s r, i < n → I i s → Ev (g (i + 1) (step i s)) r → Ev (g i s) r) (s : σ) (r : β) (h0 : I 0 s) (hend : I n (foldFrom step 0 n s) → Ev (g n (foldFrom step 0 n s)) r) : Ev (g 0 s) r := by
  have key : ∀ d i s, i + d = n → I i s → Ev (g n (foldFrom step i d s)) r → Ev (g i s) r := by
    intro d
    induction d with
    | zero =>
      intro i s hi _ h
      obtain rfl : i = n := by omega
      exact h
    | succ d ih =>
      intro i s hi hs h
      exact hstep i s r (by omega) hs (ih (i + 1) _ (by omega) (hI i s (by omega) hs) h)
  refine key n 0 s (by omega) h0 (hend ?_)
  have := foldFrom_inv I hI n 0 s (by omega) h0
  simpa using this

theorem rd_nat (xs : List Int) (i : Nat) : rd xs (i : Int) = xs.getD i 0 := by simp [rd]
theorem rdOf_nat {α : Type} (d : α) (xs : List α) (i : Nat) : rdOf d xs (i : Int) = xs.getD i d := by simp [rdOf]
theorem wrap_succ {i n : Nat} (h : i < n) (hn : n ≤ 1000000000000000000) : wrap64 ((i : Int) + 1) = ((i + 1 : Nat) : Int) := by unfold wrap64; omega
end Go.Proofs.Ytpdmimlkgmhepaa.Pure
