/- Orders, the program's and the reference's test and shift, plainly; condition: lists no longer than 10^18. -/
import Derived.Test.YtpdmimlkgmhepaaLoops
import Derived.Test.YtpdmimlkgmhepaaMoveOk
import Derived.Test.YtpdmimlkgmhepaaGspec0l3OrderOk
import Derived.Test.YtpdmimlkgmhepaaGimpl0isOrder
import Derived.Test.YtpdmimlkgmhepaaGspec0StripShift
import Derived.Test.YtpdmimlkgmhepaaGimpl0StripShift
namespace Go.Proofs.Ytpdmimlkgmhepaa.Pure
set_option linter.unusedVariables false
set_option linter.unusedSimpArgs false
open Go.RowKit Go.Proofs.YtpdmimlkgmhepaaW.PrintWords Go.Proofs.Ytpdmimlkgmhepaa.G
/-- Each of 0 to its length - 1 once. -/
def IsOrd (a : List Int) : Prop := ∀ i, i < a.length → (0 ≤ a.getD i 0 ∧ a.getD i 0 ≤ (a.length : Int) - 1) ∧ ∀ k, k < i → a.getD k 0 ≠ a.getD i 0
instance (a : List Int) : Decidable (IsOrd a) := by unfold IsOrd; infer_instance

theorem spec_ordOk (a : List Int) (n : Nat) (hn : a.length ≤ 1000000000000000000) : Ev (fun k => spec_l3OrderOk.f k (n : Int) a) (decide (a.length = n ∧ IsOrd a)) := by
  unfold spec_l3OrderOk.f
  by_cases hl : a.length = n
  · refine Ev.pos (by omega) ?_
    subst hl
    by_cases ho : IsOrd a
    · rw [decide_eq_true ⟨rfl, ho⟩]
      refine ev_yes (n := a.length) (fun i k => spec_l3OrderOk.l0 k a.length a i) ho ?_ ?_
      · refine Ev.step (fun _ => spec_l3OrderOk.l0.eq_2 ..) (Ev.neg (by omega) (Ev.some rfl))
      · rintro i hi ⟨h1, h2⟩ hr
        refine Ev.step (fun _ => spec_l3OrderOk.l0.eq_2 ..) (Ev.pos (by omega) (Ev.pos (by omega) (Ev.pos (by omega) ?_)))
        simp only [spec_in, rd_nat, wrap_eq (x := (a.length : Int) - 1) (by omega) (by omega)]
        refine Ev.pos ⟨h1.1, h1.2⟩ ?_
        simp only [if_true]
        refine ev_yes (n := i) (P := fun k => a.getD k 0 ≠ a.getD i 0) (fun j k => spec_l3OrderOk.l1 k a.length a i j) h2 ?_ ?_
        · refine Ev.step (fun _ => spec_l3OrderOk.l1.eq_2 ..) (Ev.neg (by omega) ?_)
          simpa only [wrap_succ hi hn] using hr
        · intro j hj hne hr'
          refine Ev.step (fun _ => spec_l3OrderOk.l1.eq_2 ..) (Ev.pos (by omega) (Ev.pos (by omega) (Ev.pos (by omega) (Ev.pos (by omega) (Ev.pos (by omega) ?_)))))
          simp only [rd_nat, wrap_succ (Nat.lt_trans hj hi) hn]
          exact Ev.neg hne hr'
    · rw [decide_eq_false (fun h => ho h.2)]
      refine ev_no (n := a.length) (fun i k => spec_l3OrderOk.l0 k a.length a i) ho ?_ ?_
      · rintro i hi ⟨h1, h2⟩ hr
        refine Ev.step (fun _ => spec_l3OrderOk.l0.eq_2 ..) (Ev.pos (by omega) (Ev.pos (by omega) (Ev.pos (by omega) ?_)))
        simp only [spec_in, rd_nat, wrap_eq (x := (a.length : Int) - 1) (by omega) (by omega)]
        refine Ev.pos ⟨h1.1, h1.2⟩ ?_
        simp only [if_true]
        refine ev_yes (n := i) (P := fun k => a.getD k 0 ≠ a.getD i 0) (fun j k => spec_l3OrderOk.l1 k a.length a i j) h2 ?_ ?_
        · refine Ev.step (fun _ => spec_l3OrderOk.l1.eq_2 ..) (Ev.neg (by omega) ?_)
          simpa only [wrap_succ hi hn] using hr
        · intro j hj hne hr'
          refine Ev.step (fun _ => spec_l3OrderOk.l1.eq_2 ..) (Ev.pos (by omega) (Ev.pos (by omega) (Ev.pos (by omega) (Ev.pos (by omega) (Ev.pos (by omega) ?_)))))
          simp only [rd_nat, wrap_succ (Nat.lt_trans hj hi) hn]
          exact Ev.neg hne hr'
      · intro i hi _ hno
        refine Ev.step (fun _ => spec_l3OrderOk.l0.eq_2 ..) (Ev.pos (by omega) (Ev.pos (by omega) (Ev.pos (by omega) ?_)))
        simp only [spec_in, rd_nat, wrap_eq (x := (a.length : Int) - 1) (by omega) (by omega)]
        by_cases h1 : 0 ≤ a.getD i 0 ∧ a.getD i 0 ≤ (a.length : Int) - 1
        · refine Ev.pos h1 ?_
          simp only [if_true]
          have hx : ¬ ∀ k, k < i → a.getD k 0 ≠ a.getD i 0 := fun h => hno ⟨h1, h⟩
          refine ev_no (n := i) (P := fun k => a.getD k 0 ≠ a.getD i 0) (fun j k => spec_l3OrderOk.l1 k a.length a i j) hx ?_ ?_
          · intro j hj hne hr'
            refine Ev.step (fun _ => spec_l3OrderOk.l1.eq_2 ..) (Ev.pos (by omega) (Ev.pos (by omega) (Ev.pos (by omega) (Ev.pos (by omega) (Ev.pos (by omega) ?_)))))
            simp only [rd_nat, wrap_succ (Nat.lt_trans hj hi) hn]
            exact Ev.neg hne hr'
          · intro j hj _ hne
            refine Ev.step (fun _ => spec_l3OrderOk.l1.eq_2 ..) (Ev.pos (by omega) (Ev.pos (by omega) (Ev.pos (by omega) (Ev.pos (by omega) (Ev.pos (by omega) ?_)))))
            simp only [rd_nat]
            exact Ev.pos (Classical.not_not.1 hne) (Ev.some rfl)
        · refine Ev.neg h1 ?_
          simp only [Bool.false_eq_true, if_false]
          exact Ev.some rfl
  · rw [decide_eq_false (fun h => hl h.1)]
    exact Ev.neg (by omega) (Ev.some rfl)

/-- What the program's test has seen. -/
def Seen (a : List Int) (n i : Nat) (s : List Bool) : Prop := s.length = n ∧ ∀ v : Nat, v < n → (s.getD v false = true ↔ ∃ j, j < i ∧ a.getD j 0 = v)
theorem seen_set {a : List Int} {n i : Nat} {s : List Bool} (h : Seen a n i s) {v : Nat} (hv : v < n) (e : a.getD i 0 = v) : Seen a n (i + 1) (s.set v true) := by
  refine ⟨by rw [List.length_set]; exact h.1, fun u hu => ?_⟩
  have hs := h.1
  by_cases huv : u = v
  · subst huv
    constructor
    · exact fun _ => ⟨i, by omega, e⟩
    · intro _
      rw [List.getD_eq_getElem?_getD, List.getElem?_set_self (by omega)]
      rfl
  · rw [List.getD_eq_getElem?_getD, List.getElem?_set_ne (fun h => huv h.symm), ← List.getD_eq_getElem?_getD, h.2 u hu]
    constructor
    · rintro ⟨j, hj, e2⟩
      exact ⟨j, by omega, e2⟩
    · rintro ⟨j, hj, e2⟩
      by_cases hji : j = i
      · subst hji
        omega
      · exact ⟨j, by omega, e2⟩

theorem impl_ordOk (a : List Int) (hn : a.length ≤ 1048576) : Ev (fun k => impl_isOrder.f k a) (decide (IsOrd a)) := by
  unfold impl_isOrder.f
  refine Ev.pos (by omega) (Ev.pos (by omega) ?_)
  have key : ∀ (d i : Nat) (s : List Bool), i + d = a.length → Seen a a.length i s → (∀ j, j < i → (0 ≤ a.getD j 0 ∧ a.getD j 0 ≤ (a.length : Int) - 1) ∧ ∀ k, k < j → a.getD k 0 ≠ a.getD j 0) →
      Ev (fun k => impl_isOrder.l0 k a s a a.length i) (decide (IsOrd a)) := by
    intro d
    induction d with
    | zero =>
      intro i s hi _ hp
      obtain rfl : i = a.length := by omega
      rw [decide_eq_true (show IsOrd a from hp)]
      exact Ev.step (fun _ => impl_isOrder.l0.eq_2 ..) (Ev.neg (by omega) (Ev.some rfl))
    | succ d ih =>
      intro i s hi hs hp
      refine Ev.step (fun _ => impl_isOrder.l0.eq_2 ..) (Ev.pos (by omega) (Ev.pos (by omega) (Ev.pos (by omega) ?_)))
      simp only [impl_in, rd_nat, wrap_eq (x := (a.length : Int) - 1) (by omega) (by omega)]
      by_cases h1 : 0 ≤ a.getD i 0 ∧ a.getD i 0 ≤ (a.length : Int) - 1
      · refine Ev.pos h1 ?_
        simp only [if_true]
        obtain ⟨v, hv⟩ : ∃ v : Nat, a.getD i 0 = v := ⟨(a.getD i 0).toNat, by omega⟩
        have hvl : v < a.length := by omega
        have hsl := hs.1
        simp only [hv, rdOf_nat, Int.toNat_natCast, wrap_succ (show i < a.length by omega) (show a.length ≤ 1000000000000000000 by omega)]
        refine Ev.pos (by omega) (Ev.pos (by omega) ?_)
        by_cases hx : s.getD v false = true
        · refine Ev.pos hx ?_
          obtain ⟨j, hj, e⟩ := (hs.2 v hvl).1 hx
          rw [decide_eq_false (fun ho : IsOrd a => (ho i (by omega)).2 j hj (by rw [e, hv]))]
          exact Ev.some rfl
        · refine Ev.neg hx (ih (i + 1) _ (by omega) (seen_set hs hvl hv) fun j hj => ?_)
          by_cases hji : j = i
          · subst hji
            exact ⟨h1, fun k hk e => hx ((hs.2 v hvl).2 ⟨k, hk, by rw [e, hv]⟩)⟩
          · exact hp j (by omega)
      · refine Ev.neg h1 ?_
        simp only [Bool.false_eq_true, if_false]
        rw [decide_eq_false (fun ho : IsOrd a => h1 (ho i (by omega)).1)]
        exact Ev.some rfl
  refine key a.length 0 _ (by omega) ⟨by simp, fun v hv => ?_⟩ (fun j hj => absurd hj (by omega))
  constructor
  · intro h
    simp [List.getD_eq_getElem?_getD, hv] at h
  · rintro ⟨j, hj, _⟩
    exact absurd hj (by omega)

/-- Where a value stands first from place i on, -1 if nowhere. -/
def posFrom (b : List Int) (v : Int) : Nat → Nat → Int
  | _, 0 => -1
  | i, d + 1 => if v = b.getD i 0 then (i : Int) else posFrom b v (i + 1) d
def pos (b : List Int) (v : Int) : Int := posFrom b v 0 b.length
theorem impl_index (b : List Int) (v : Int) (hn : b.length ≤ 1048576) : Ev (fun k => slices_Index_int_int.f k b v) (pos b v) := by
  unfold slices_Index_int_int.f pos
  have key : ∀ d i, i + d = b.length → Ev (fun k => slices_Index_int_int.l0 k b v b.length i) (posFrom b v i d) := by
    intro d
    induction d with
    | zero =>
      intro i hi
      exact Ev.step (fun _ => slices_Index_int_int.l0.eq_2 ..) (Ev.neg (by omega) (Ev.some rfl))
    | succ d ih =>
      intro i hi
      refine Ev.step (fun _ => slices_Index_int_int.l0.eq_2 ..) (Ev.pos (by omega) (Ev.pos (by omega) (Ev.pos (by omega) ?_)))
      simp only [rd_nat, wrap_succ (show i < b.length by omega) (show b.length ≤ 1000000000000000000 by omega)]
      unfold posFrom
      by_cases h : v = b.getD i 0
      · rw [if_pos h]
        exact Ev.pos h (Ev.some rfl)
      · rw [if_neg h]
        exact Ev.neg h (ih (i + 1) (by omega))
  exact key b.length 0 (by omega)
theorem posFrom_range (b : List Int) (v : Int) : ∀ d i, i + d = b.length → (posFrom b v i d = -1 ∧ ∀ j, i ≤ j → j < b.length → b.getD j 0 ≠ v) ∨ (∃ j : Nat, posFrom b v i d = j ∧ i ≤ j ∧ j < b.length ∧ b.getD j 0 = v) := by
  intro d
  induction d with
  | zero => exact fun i hi => .inl ⟨rfl, fun j h1 h2 => absurd h1 (by omega)⟩
  | succ d ih =>
    intro i hi
    unfold posFrom
    by_cases h : v = b.getD i 0
    · rw [if_pos h]
      exact .inr ⟨i, rfl, Nat.le_refl _, by omega, h.symm⟩
    · rw [if_neg h]
      rcases ih (i + 1) (by omega) with ⟨h1, h2⟩ | ⟨j, h1, h2, h3, h4⟩
      · refine .inl ⟨h1, fun j hj hl => ?_⟩
        by_cases e : j = i
        · exact e ▸ fun h' => h h'.symm
        · exact h2 j (by omega) hl
      · exact .inr ⟨j, h1, by omega, h3, h4⟩
theorem pos_range (b : List Int) (v : Int) : (pos b v = -1 ∧ ∀ j, j < b.length → b.getD j 0 ≠ v) ∨ (∃ j : Nat, pos b v = j ∧ j < b.length ∧ b.getD j 0 = v) := by
  rcases posFrom_range b v b.length 0 (by omega) with ⟨h1, h2⟩ | ⟨j, h1, _, h3, h4⟩
  · exact .inl ⟨h1, fun j hj => h2 j (by omega) hj⟩
  · exact .inr ⟨j, h1, h3, h4⟩

/-- One step of the shift. -/
def shStep (a b : List Int) (i : Nat) (s : Int) : Int := mx (mx s ((i : Int) - pos b (a.getD i 0))) (pos b (a.getD i 0) - (i : Int))
def shiftM (a b : List Int) : Int := if a.length = b.length ∧ IsOrd a ∧ IsOrd b then foldFrom (shStep a b) 0 a.length 0 else -1

theorem impl_shift (a b : List Int) (ha : a.length ≤ 1048576) (hb : b.length ≤ 1048576) : Ev (fun k => impl_StripShift.f k a b) (shiftM a b) := by
  unfold impl_StripShift.f shiftM
  by_cases hl : a.length = b.length
  · refine Ev.pos (by omega) (Ev.bind (impl_ordOk a ha) ?_)
    by_cases h1 : IsOrd a
    · rw [decide_eq_true h1]
      refine Ev.pos rfl (Ev.bind (impl_ordOk b hb) ?_)
      by_cases h2 : IsOrd b
      · rw [decide_eq_true h2, if_pos ⟨hl, h1, h2⟩]
        refine Ev.step (fun _ => impl_StripShift.j0.eq_2 ..) (Ev.neg (by decide) ?_)
        refine ev_fold (n := a.length) (fun _ _ => True) (shStep a b) (fun i s k => impl_StripShift.l0 k b s a a.length i) (fun _ _ _ _ => trivial) ?_ 0 _ trivial ?_
        · intro i s r hi _ hr
          refine Ev.step (fun _ => impl_StripShift.l0.eq_2 ..) (Ev.pos (by omega) (Ev.pos (by omega) (Ev.pos (by omega) ?_)))
          simp only [rd_nat]
          refine Ev.bind (impl_index b _ hb) ?_
          have hp : -1 ≤ pos b (a.getD i 0) ∧ pos b (a.getD i 0) ≤ 1048576 := by
            rcases pos_range b (a.getD i 0) with ⟨h, _⟩ | ⟨j, h, hj, _⟩ <;> omega
          simp only [wrap_succ hi (show a.length ≤ 1000000000000000000 by omega), wrap_eq (x := (i : Int) - pos b (a.getD i 0)) (by omega) (by omega), wrap_eq (x := pos b (a.getD i 0) - (i : Int)) (by omega) (by omega)]
          exact hr
        · intro _
          exact Ev.step (fun _ => impl_StripShift.l0.eq_2 ..) (Ev.neg (by omega) (Ev.some rfl))
      · rw [decide_eq_false h2, if_neg (fun h => h2 h.2.2)]
        exact Ev.step (fun _ => impl_StripShift.j0.eq_2 ..) (Ev.pos rfl (Ev.some rfl))
    · rw [decide_eq_false h1, if_neg (fun h => h1 h.2.1)]
      refine Ev.neg (by decide) ?_
      exact Ev.step (fun _ => impl_StripShift.j0.eq_2 ..) (Ev.pos rfl (Ev.some rfl))
  · rw [if_neg (fun h => hl h.1)]
    refine Ev.neg (by omega) ?_
    exact Ev.step (fun _ => impl_StripShift.j0.eq_2 ..) (Ev.pos rfl (Ev.some rfl))

theorem ord_inj {b : List Int} (h : IsOrd b) {i j : Nat} (hi : i < b.length) (hj : j < b.length) (e : b.getD i 0 = b.getD j 0) : i = j := by
  rcases Nat.lt_trichotomy i j with hlt | he | hgt
  · exact absurd e ((h j hj).2 i hlt)
  · exact he
  · exact absurd e.symm ((h i hi).2 j hgt)

/-- What the reference's inner loop does with one place. -/
def shUpd (a b : List Int) (i j : Nat) (s : Int) : Int := if a.getD i 0 = b.getD j 0 then mx (mx s ((i : Int) - j)) ((j : Int) - i) else s
theorem shUpd_none (a b : List Int) (i : Nat) : ∀ d j s, (∀ q, j ≤ q → q < j + d → b.getD q 0 ≠ a.getD i 0) → foldFrom (shUpd a b i) j d s = s := by
  intro d
  induction d with
  | zero => exact fun _ _ _ => rfl
  | succ d ih =>
    intro j s h
    show foldFrom (shUpd a b i) (j + 1) d (shUpd a b i j s) = s
    have e : shUpd a b i j s = s := if_neg (fun e => h j (Nat.le_refl _) (by omega) e.symm)
    rw [e]
    exact ih _ _ fun q h1 h2 => h q (by omega) (by omega)
theorem foldFrom_split {σ : Type} (step : Nat → σ → σ) (d e : Nat) : ∀ i s, foldFrom step i (d + e) s = foldFrom step (i + d) e (foldFrom step i d s) := by
  induction d with
  | zero => intro i s; rw [Nat.zero_add]; rfl
  | succ d ih =>
    intro i s
    rw [show d + 1 + e = (d + e) + 1 by omega]
    show foldFrom step (i + 1) (d + e) (step i s) = _
    rw [ih, show i + 1 + d = i + (d + 1) by omega]
    rfl
theorem shUpd_all (a b : List Int) (hb : IsOrd b) (i : Nat) (hs : ∀ s, 0 ≤ s → 0 ≤ shStep a b i s) (hex : ∃ j, j < b.length ∧ b.getD j 0 = a.getD i 0) (s : Int) : foldFrom (shUpd a b i) 0 b.length s = shStep a b i s := by
  obtain ⟨j, hj, e⟩ := hex
  have hp : pos b (a.getD i 0) = j := by
    rcases pos_range b (a.getD i 0) with ⟨_, h⟩ | ⟨q, h, hq, hv⟩
    · exact absurd e (h j hj)
    · rw [h, ord_inj hb hq hj (by rw [hv, e])]
  rw [show b.length = j + (1 + (b.length - j - 1)) by omega, foldFrom_split, foldFrom_split]
  rw [shUpd_none a b i j 0 s (fun q _ h2 h => by
    have := ord_inj hb (show q < b.length by omega) hj (by rw [h, e])
    omega)]
  rw [shUpd_none a b i (b.length - j - 1) (0 + j + 1) _ (fun q h1 h2 h => by
    have := ord_inj hb (show q < b.length by omega) hj (by rw [h, e])
    omega)]
  show shUpd a b i (0 + j) s = _
  rw [Nat.zero_add]
  unfold shUpd shStep
  rw [if_pos e.symm, hp]

/-- Places below n, each once: every number below n is there. -/
theorem ord_onto {b : List Int} (h : IsOrd b) (v : Nat) (hv : v < b.length) : ∃ j, j < b.length ∧ b.getD j 0 = v := by
  classical
  by_cases hx : ∃ j, j < b.length ∧ b.getD j 0 = v
  · exact hx
  · exfalso
    let l : List Nat := b.map Int.toNat
    have hnd : l.Nodup := by
      refine List.pairwise_iff_getElem.2 ?_
      intro i j hi hj hij e
      have hjl : j < b.length := by simpa [l] using hj
      have hil : i < b.length := by omega
      have e' : (b.getD i 0).toNat = (b.getD j 0).toNat := by
        simpa [l, List.getD_eq_getElem?_getD, List.getElem?_eq_getElem hil, List.getElem?_eq_getElem hjl] using e
      have h1 := (h i hil).1
      have h2 := (h j hjl).1
      exact (h j hjl).2 i hij (by omega)
    have hsub : ∀ x ∈ l, x ∈ (List.range b.length).erase v := by
      intro x hxm
      obtain ⟨y, hy, rfl⟩ := List.mem_map.1 hxm
      obtain ⟨j, hj, e⟩ := List.getElem_of_mem hy
      have e2 : b.getD j 0 = y := by rw [List.getD_eq_getElem?_getD, List.getElem?_eq_getElem hj, e]; rfl
      have h1 := (h j hj).1
      rw [e2] at h1
      refine (List.mem_erase_of_ne (fun he => hx ⟨j, hj, ?_⟩)).2 (List.mem_range.2 (by omega))
      rw [e2, ← he]
      omega
    have hlen := List.Nodup.length_le_of_subset (l₁ := l) hnd hsub
    rw [List.length_erase_of_mem (List.mem_range.2 hv), List.length_range] at hlen
    simp [l] at hlen
    omega

theorem spec_shift (a b : List Int) (ha : a.length ≤ 1048576) (hb : b.length ≤ 1048576) : Ev (fun k => spec_StripShift.f k a b) (shiftM a b) := by
  unfold spec_StripShift.f shiftM
  refine Ev.bind (spec_ordOk a b.length (by omega)) ?_
  by_cases h1 : a.length = b.length ∧ IsOrd a
  · rw [decide_eq_true h1]
    refine Ev.pos rfl (Ev.bind (spec_ordOk b a.length (by omega)) ?_)
    obtain ⟨hl, h1⟩ := h1
    by_cases h2 : IsOrd b
    · rw [decide_eq_true ⟨hl.symm, h2⟩, if_pos ⟨hl, h1, h2⟩]
      refine Ev.step (fun _ => spec_StripShift.j0.eq_2 ..) (Ev.neg (by decide) ?_)
      refine ev_fold (n := a.length) (fun _ s => 0 ≤ s ∧ s ≤ 1048576) (shStep a b) (fun i s k => spec_StripShift.l0 k a b s i) ?_ ?_ 0 _ (by omega) ?_
      · intro i s hi hs
        unfold shStep mx
        rcases pos_range b (a.getD i 0) with ⟨h, h'⟩ | ⟨j, h, hj, _⟩
        · obtain ⟨j, hj, e⟩ := ord_onto h2 (a.getD i 0).toNat (by have := (h1 i hi).1; omega)
          exact absurd (by rw [e]; have := (h1 i hi).1; omega) (h' j hj)
        · rw [h]
          (repeat' split) <;> omega
      · intro i s r hi hs hr
        have hex : ∃ j, j < b.length ∧ b.getD j 0 = a.getD i 0 := by
          obtain ⟨j, hj, e⟩ := ord_onto h2 (a.getD i 0).toNat (by have := (h1 i hi).1; omega)
          exact ⟨j, hj, by rw [e]; have := (h1 i hi).1; omega⟩
        refine Ev.step (fun _ => spec_StripShift.l0.eq_2 ..) (Ev.pos (by omega) ?_)
        refine ev_fold (n := b.length) (fun _ s => 0 ≤ s ∧ s ≤ 1048576) (shUpd a b i) (fun j s k => spec_StripShift.l1 k a b s i j) ?_ ?_ s r hs ?_
        · intro j s hj hs
          unfold shUpd mx
          (repeat' split) <;> omega
        · intro j s r' hj hs hr'
          refine Ev.step (fun _ => spec_StripShift.l1.eq_2 ..) (Ev.pos (by omega) (Ev.pos (by omega) (Ev.pos (by omega) (Ev.pos (by omega) ?_))))
          simp only [rd_nat, wrap_eq (x := (i : Int) - j) (by omega) (by omega)]
          unfold shUpd mx at hr'
          by_cases he : a.getD i 0 = b.getD j 0
          · refine Ev.pos he (Ev.step (fun _ => spec_StripShift.j3.eq_2 ..) ?_)
            simp only [rd_nat, wrap_eq (x := (i : Int) - j) (by omega) (by omega), wrap_eq (x := (j : Int) - i) (by omega) (by omega), wrap_succ hj (show b.length ≤ 1000000000000000000 by omega)]
            rw [if_pos he] at hr'
            refine Ev.ite (fun hd => ?_) (fun hd => ?_)
            · have hd' := of_decide_eq_true hd
              rw [if_pos (show s < (i : Int) - j by omega)] at hr'
              refine Ev.pos (by omega) (Ev.pos (by omega) (Ev.pos (by omega) (Ev.pos (by omega) (Ev.pos he ?_))))
              refine Ev.ite (fun h => ?_) (fun h => ?_)
              · rwa [if_pos (by omega)] at hr'
              · rwa [if_neg (by omega)] at hr'
            · have hd' : ¬ ((i : Int) - j > s) := fun h => hd (decide_eq_true h)
              rw [if_neg (show ¬ s < (i : Int) - j by omega)] at hr'
              refine Ev.pos (by omega) (Ev.pos (by omega) (Ev.pos (by omega) (Ev.pos (by omega) (Ev.pos he ?_))))
              refine Ev.ite (fun h => ?_) (fun h => ?_)
              · rwa [if_pos (by omega)] at hr'
              · rwa [if_neg (by omega)] at hr'
          · refine Ev.neg he (Ev.step (fun _ => spec_StripShift.j3.eq_2 ..) (Ev.neg (by decide) ?_))
            simp only [rd_nat, wrap_eq (x := (i : Int) - j) (by omega) (by omega), wrap_succ hj (show b.length ≤ 1000000000000000000 by omega)]
            rw [if_neg he] at hr'
            exact Ev.pos (by omega) (Ev.pos (by omega) (Ev.pos (by omega) (Ev.pos (by omega) (Ev.neg he hr'))))
        · intro _
          rw [shUpd_all a b h2 i (fun s hs => by
            unfold shStep mx
            (repeat' split) <;> omega) hex]
          refine Ev.step (fun _ => spec_StripShift.l1.eq_2 ..) (Ev.neg (by omega) ?_)
          simpa only [wrap_succ hi (show a.length ≤ 1000000000000000000 by omega)] using hr
      · intro _
        exact Ev.step (fun _ => spec_StripShift.l0.eq_2 ..) (Ev.neg (by omega) (Ev.some rfl))
    · rw [decide_eq_false (fun h => h2 h.2), if_neg (fun h => h2 h.2.2)]
      exact Ev.step (fun _ => spec_StripShift.j0.eq_2 ..) (Ev.pos rfl (Ev.some rfl))
  · rw [decide_eq_false h1, if_neg (fun h => h1 ⟨h.1, h.2.1⟩)]
    refine Ev.neg (by decide) ?_
    exact Ev.step (fun _ => spec_StripShift.j0.eq_2 ..) (Ev.pos rfl (Ev.some rfl))
end Go.Proofs.Ytpdmimlkgmhepaa.Pure
