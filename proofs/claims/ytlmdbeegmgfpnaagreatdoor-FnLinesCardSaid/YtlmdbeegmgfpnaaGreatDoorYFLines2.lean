/- FnLines, part 2 of 4: what the law's functions come to, plain laws on it, and the row; no condition -/
import Derived.Test.YtlmdbeegmgfpnaaGreatDoorYFLines1
/- Plain laws: parts of a book; what fits still fits when some are gone; sure stays sure; no condition. -/
namespace Go.AM
set_option linter.unusedVariables false
set_option linter.unusedSimpArgs false
open Go.RowKit

/-- What a round makes of a place. -/
def thenAt (b : Bk) (a k : Nat) : Option Mv := if k = a then some (goneMv (tk b.ts a) (at' b.ms k)) else if tk b.ts k < tk b.ts a then none else some (stayMv (tk b.ts a) (at' b.ms k) (tk b.ts k))
theorem thenStep_at (b : Bk) (a k : Nat) (s : List Mv) : thenStep b a k s = s ++ (thenAt b a k).toList := by
  rw [thenStep_eq]
  unfold thenAt
  (repeat' split) <;> simp
theorem thenFrom_at (b : Bk) (a : Nat) : ∀ d i s, foldFrom (thenStep b a) i d s = s ++ (List.range' i d).filterMap (thenAt b a) := by
  intro d
  induction d with
  | zero => intro i s; simp [foldFrom]
  | succ d ih =>
    intro i s
    show foldFrom (thenStep b a) (i + 1) d (thenStep b a i s) = _
    rw [ih, List.range'_succ, List.filterMap_cons, thenStep_at]
    cases thenAt b a i <;> simp
theorem thenL_at (b : Bk) (a : Nat) : thenL b a = (List.range b.ms.length).filterMap (thenAt b a) := by
  unfold thenL
  rw [thenFrom_at, List.range_eq_range']
  rfl
theorem range_getD (I : List Nat) : (List.range I.length).map (fun k => I.getD k 0) = I := by
  refine List.ext_getElem (by simp) fun j h1 h2 => ?_
  simp [List.getD_eq_getElem?_getD, List.getElem?_eq_getElem h2]
theorem filterMap_eqOn {α β : Type} {f g : α → Option β} : ∀ {l : List α}, (∀ x ∈ l, f x = g x) → l.filterMap f = l.filterMap g
  | [], _ => rfl
  | a :: l, h => by
    rw [List.filterMap_cons, List.filterMap_cons, h a List.mem_cons_self, filterMap_eqOn fun x hx => h x (List.mem_cons_of_mem _ hx)]
theorem filterMap_via {α : Type} {f g : Nat → Option α} {I : List Nat} (h : ∀ k, k < I.length → f k = g (I.getD k 0)) : (List.range I.length).filterMap f = I.filterMap g := by
  rw [← congrArg (List.filterMap g) (range_getD I), List.filterMap_map]
  exact filterMap_eqOn fun k hk => h k (List.mem_range.1 hk)

theorem sub_zip {α β : Type} : ∀ {l l' : List α}, l'.Sublist l → ∀ {t : List β}, t.length = l.length → ∃ t' : List β, t'.length = l'.length ∧ (l'.zip t').Sublist (l.zip t)
  | _, _, .slnil, t, h => ⟨[], rfl, by simp⟩
  | _, _, .cons a hs, [], h => by simp at h
  | _, _, .cons a hs, x :: t, h => by
    obtain ⟨t', h1, h2⟩ := sub_zip hs (t := t) (by simpa using h)
    exact ⟨t', h1, by rw [List.zip_cons_cons]; exact .cons _ h2⟩
  | _, _, .cons_cons a hs, [], h => by simp at h
  | _, _, .cons_cons a hs, x :: t, h => by
    obtain ⟨t', h1, h2⟩ := sub_zip hs (t := t) (by simpa using h)
    exact ⟨x :: t', by simp [h1], by rw [List.zip_cons_cons, List.zip_cons_cons]; exact .cons_cons _ h2⟩
theorem movesOk_sub {l l' : List Mv} (h : MovesOk l) (hs : l'.Sublist l) : MovesOk l' := by
  rw [movesOk_iff] at h ⊢
  exact ⟨Nat.le_trans hs.length_le h.1, fun m hm => h.2.1 m (hs.subset hm), List.Pairwise.sublist hs h.2.2⟩

/-- Moves with their ticks. -/
def InP (x : Mv × Int) : Prop := (x.1.f3 ≤ x.2 ∧ x.2 ≤ x.1.f4) ∧ (0 ≤ x.1.f5 → x.2 = x.1.f5)
def FitsP (p : List (Mv × Int)) : Prop := (∀ x ∈ p, InP x) ∧ p.Pairwise fun x y => ap2 x.1 x.2 y.1 y.2
theorem fitsP_sub {p q : List (Mv × Int)} (h : FitsP p) (hs : q.Sublist p) : FitsP q := ⟨fun x hx => h.1 x (hs.subset hx), List.Pairwise.sublist hs h.2⟩
theorem zip_at {l : List Mv} {t : List Int} (hl : t.length = l.length) {i : Nat} (hi : i < l.length) : (l.zip t)[i]'(by rw [List.length_zip]; omega) = (at' l i, tk t i) := by
  rw [List.getElem_zip]
  simp [at', tk, List.getD_eq_getElem?_getD, List.getElem?_eq_getElem hi, List.getElem?_eq_getElem (show i < t.length by omega)]
theorem mem_zip {l : List Mv} {t : List Int} (hl : t.length = l.length) {x : Mv × Int} (h : x ∈ l.zip t) : ∃ i, i < l.length ∧ x = (at' l i, tk t i) := by
  obtain ⟨i, hi, rfl⟩ := List.getElem_of_mem h
  rw [List.length_zip] at hi
  exact ⟨i, by omega, zip_at hl (by omega)⟩
theorem zip_mem {l : List Mv} {t : List Int} (hl : t.length = l.length) {i : Nat} (hi : i < l.length) : (at' l i, tk t i) ∈ l.zip t := by
  rw [← zip_at hl hi]
  exact List.getElem_mem _
theorem fits_iff {l : List Mv} {t : List Int} : Fits l t ↔ MovesOk l ∧ t.length = l.length ∧ FitsP (l.zip t) := by
  constructor
  · rintro ⟨h1, h2, h3⟩
    refine ⟨h1, h2, fun x hx => ?_, List.pairwise_iff_getElem.2 fun i j hi hj hij => ?_⟩
    · obtain ⟨i, hi, rfl⟩ := mem_zip h2 hx
      exact (h3 i hi).1
    · have hj' : j < l.length := by rw [List.length_zip] at hj; omega
      rw [zip_at h2 (show i < l.length by omega), zip_at h2 hj']
      have a := (h3 i (by omega)).2 j hj' (by omega)
      have b := (h3 j hj').2 i (by omega) (by omega)
      unfold Ap at a b
      exact ⟨a.1, a.2, b.2⟩
  · rintro ⟨h1, h2, h3, h4⟩
    refine ⟨h1, h2, fun i hi => ⟨h3 _ (zip_mem h2 hi), fun k hk hne => ?_⟩⟩
    have key : ∀ i j, i < j → j < l.length → ap2 (at' l i) (tk t i) (at' l j) (tk t j) := by
      intro i j hij hj
      have := (List.pairwise_iff_getElem.1 h4) i j (by rw [List.length_zip]; omega) (by rw [List.length_zip]; omega) hij
      rwa [zip_at h2 (show i < l.length by omega), zip_at h2 hj] at this
    unfold Ap
    rcases Nat.lt_or_ge i k with h | h
    · have := key i k h hk
      exact ⟨this.1, this.2.1⟩
    · have := key k i (by omega) hi
      exact ⟨fun e => this.1 e.symm, this.2.2⟩
theorem fits_sub {l l' : List Mv} {t : List Int} (h : Fits l t) (hs : l'.Sublist l) : ∃ t', Fits l' t' := by
  rw [fits_iff] at h
  obtain ⟨h1, h2, h3⟩ := h
  obtain ⟨t', h4, h5⟩ := sub_zip hs h2
  exact ⟨t', fits_iff.2 ⟨movesOk_sub h1 hs, h4, fitsP_sub h3 h5⟩⟩

/-! ### Plans -/
theorem laterOk_iff {u : Int} {l : List Mv} : LaterOk u l ↔ ∀ m ∈ l, LaterAt u m := by
  constructor
  · intro h m hm
    obtain ⟨i, hi, rfl⟩ := mem_at' hm
    exact h i hi
  · exact fun h i hi => h _ (at'_mem hi)
theorem planM_fits {l : List Mv} {now sh : Int} (hm : MovesOk l) (hn : 0 ≤ now) (hs : 0 ≤ sh ∧ sh ≤ 6) (h : (planM l now sh).2 = true) : LaterOk (now + 4) l ∧ Fits (laterL (now + 4) l) (planM l now sh).1 := by
  rw [planM_eq hm hn hs] at h ⊢
  split at h
  · rename_i hl
    rw [if_pos hl]
    refine ⟨hl, ?_⟩
    unfold bestF at *
    split at h
    · rename_i hc
      rw [if_pos hc]
      unfold bestM at *
      have hb := best_ok1 hc.1 sh
      revert h hb
      cases bestO (laterL (now + 4) l) sh with
      | none => exact fun h => by cases h
      | some t => exact fun _ hb => hb t rfl
    · cases h
  · cases h
theorem shiftM_le {a b : List Int} (h : a.length ≤ 6) : shiftM a b ≤ 6 := by
  unfold shiftM
  split
  · rename_i hc
    have := foldFrom_inv (step := shStep a b) (fun _ s => s ≤ 6) (n := a.length) (fun i s hi hs => by
      unfold shStep
      rcases pos_range b (a.getD i 0) with ⟨h1, _⟩ | ⟨j, h1, h2, _⟩
      · rw [h1]; omega
      · rw [h1]; omega) a.length 0 0 (by omega) (by omega)
    simpa using this
  · omega
theorem plan6_of {l : List Mv} {now : Int} {t : List Int} (hm : MovesOk l) (hn : 0 ≤ now) (hl : LaterOk (now + 4) l) (hf : Fits (laterL (now + 4) l) t) : (planM l now 6).2 = true := by
  rw [planM_eq hm hn (by omega), if_pos hl]
  unfold bestF
  rw [if_pos ⟨hf.1, by omega⟩]
  obtain ⟨ho, hlen⟩ := ordT_ord t (laterL (now + 4) l).length
  obtain ⟨u, e, _⟩ := bestO_min (sh := 6) ho hlen (by have := shiftM_le (a := firstM (laterL (now + 4) l)) (b := ordT t (laterL (now + 4) l).length) (by rw [firstM_len]; exact hf.1.1); omega) (fits_ordM hf)
  unfold bestM
  rw [e]
  rfl
theorem plan6_sub {l l' : List Mv} {now : Int} (hs : l'.Sublist l) (hm : MovesOk l) (hn : 0 ≤ now) (h : (planM l now 6).2 = true) : (planM l' now 6).2 = true := by
  obtain ⟨h1, h2⟩ := planM_fits hm hn (by omega) h
  obtain ⟨t', h3⟩ := fits_sub h2 (List.Sublist.map (laterMv (now + 4)) hs)
  refine plan6_of (movesOk_sub hm hs) hn ?_ h3
  rw [laterOk_iff] at h1 ⊢
  exact fun m hm => h1 m (hs.subset hm)
/-- A part of a book that is sure is sure. -/
theorem sure_sub {b b' : Bk} {I : List Nat} (h : SureM b) (hb : BkOk b') (hlen : b'.ms.length = I.length) (hI : I.Sublist (List.range b.ms.length))
    (hth : ∀ j k, j < I.length → k < I.length → thenAt b' j k = thenAt b (I.getD j 0) (I.getD k 0)) (hat : ∀ j, j < I.length → tk b'.ts j = tk b.ts (I.getD j 0) ∧ (at' b'.ms j).f4 = (at' b.ms (I.getD j 0)).f4 ∧ (at' b'.ms j).f1 = (at' b.ms (I.getD j 0)).f1) : SureM b' := by
  refine ⟨hb, fun j hj hl => ?_⟩
  rw [hlen] at hj
  obtain ⟨h1, h2, h3⟩ := hat j hj
  have hlt : I.getD j 0 < b.ms.length := by
    have : I.getD j 0 ∈ I := by rw [List.getD_eq_getElem?_getD, List.getElem?_eq_getElem hj]; exact List.getElem_mem hj
    exact List.mem_range.1 (hI.subset this)
  have hr := h.2 _ hlt (by rw [← h3]; exact hl)
  have hg : GoneOk b' j := by have := hr.1; unfold GoneOk at *; rw [h1, h2]; exact this
  refine ⟨hg, ?_⟩
  have hs : (thenL b' j).Sublist (thenL b (I.getD j 0)) := by
    rw [thenL_at, thenL_at, hlen, filterMap_via fun k hk => hth j k hj hk]
    exact hI.filterMap _
  unfold roundP
  rw [h1]
  exact plan6_sub hs (then_movesOk h.1 hlt hr.1) (bk_tick h.1 hlt).2.2.2.2.1 hr.2
theorem getD_inj {I : List Nat} (hn : I.Nodup) {j k : Nat} (hj : j < I.length) (hk : k < I.length) (e : I.getD j 0 = I.getD k 0) : j = k := by
  simp only [List.getD_eq_getElem?_getD, List.getElem?_eq_getElem hj, List.getElem?_eq_getElem hk, Option.getD_some] at e
  have hp := List.pairwise_iff_getElem.1 hn
  rcases Nat.lt_trichotomy j k with h | h | h
  · exact absurd e (hp j k hj hk h)
  · exact h
  · exact absurd e.symm (hp k j hk hj h)

/-! ### Books by pairs -/
theorem gap_of {a b a' b' : Mv} (h1 : a.f1 = a'.f1) (h2 : a.f2 = a'.f2) (h3 : b.f2 = b'.f2) : gap a b = gap a' b' := by
  unfold gap
  rw [h1, h2, h3]
theorem bkOk_iff {b : Bk} : BkOk b ↔ (0 ≤ b.now ∧ b.now ≤ 10000) ∧ (0 ≤ b.shift ∧ b.shift ≤ 6) ∧ MovesOk b.ms ∧ b.ts.length = b.ms.length ∧ FitsP (b.ms.zip b.ts) ∧ ∀ x ∈ b.ms.zip b.ts, b.now ≤ x.2 ∧ (x.2 < b.now + 4 → 0 ≤ x.1.f5) := by
  constructor
  · rintro ⟨h1, h2, h3, h4⟩
    have hf := fits_iff.1 h3
    refine ⟨h1, h2, hf.1, hf.2.1, hf.2.2, fun x hx => ?_⟩
    obtain ⟨i, hi, rfl⟩ := mem_zip hf.2.1 hx
    exact h4 i (by omega)
  · rintro ⟨h1, h2, h3, h4, h5, h6⟩
    exact ⟨h1, h2, fits_iff.2 ⟨h3, h4, h5⟩, fun i hi => h6 _ (zip_mem h4 (by omega))⟩
/-- A plan makes a book that is ok. -/
theorem plan_book {l : List Mv} {now sh sh' : Int} (hm : MovesOk l) (hn : 0 ≤ now ∧ now ≤ 10000) (hs : 0 ≤ sh ∧ sh ≤ 6) (hs' : 0 ≤ sh' ∧ sh' ≤ 6) (hp : ∀ m ∈ l, 0 ≤ m.f5 → now ≤ m.f5) (h : (planM l now sh).2 = true) : BkOk ⟨now, sh', l, (planM l now sh).1⟩ := by
  obtain ⟨h1, h2⟩ := planM_fits hm hn.1 hs h
  generalize (planM l now sh).1 = t at h2 ⊢
  have hl : t.length = l.length := by have := h2.2.1; simpa [laterL] using this
  have hat : ∀ i, i < l.length → at' (laterL (now + 4) l) i = laterMv (now + 4) (at' l i) := fun i hi => at'_map hi
  have hin : ∀ i, i < l.length → InR l t i ∧ ((at' l i).f5 < 0 → now + 4 ≤ tk t i) := fun i hi => by
    have := (h2.2.2 i (by simpa [laterL] using hi)).1
    unfold InR at *
    rw [hat i hi] at this
    unfold laterMv at this
    split at this
    · dsimp only at this; exact ⟨⟨⟨by omega, by omega⟩, fun h => by omega⟩, fun _ => by omega⟩
    · exact ⟨this, fun h => by omega⟩
  have hg : ∀ i k, i < l.length → k < l.length → gap (at' (laterL (now + 4) l) i) (at' (laterL (now + 4) l) k) = gap (at' l i) (at' l k) := fun i k hi hk => by
    rw [hat i hi, hat k hk]
    exact gap_of (by unfold laterMv; split <;> rfl) (by unfold laterMv; split <;> rfl) (by unfold laterMv; split <;> rfl)
  refine ⟨hn, hs', ⟨hm, hl, fun i hi => ⟨(hin i hi).1, fun k hk hne => ?_⟩⟩, fun i hi => ?_⟩
  · have := (h2.2.2 i (by simpa [laterL] using hi)).2 k (by simpa [laterL] using hk) hne
    unfold Ap at *
    rw [hg i k hi hk] at this
    exact this
  · dsimp only at hi
    have h3 := hin i (by omega)
    have h4 := hp _ (at'_mem (show i < l.length by omega))
    unfold SoonAt
    unfold InR at h3
    dsimp only
    by_cases h5 : (at' l i).f5 < 0
    · exact ⟨by omega, fun h => by omega⟩
    · exact ⟨by omega, fun h => by omega⟩
end Go.AM

/- Plain laws: dropping, a tick that passes, going round, coming in: what they leave; no condition. -/
namespace Go.AM
set_option linter.unusedVariables false
set_option linter.unusedSimpArgs false
open Go.RowKit

theorem bkz_ok : BkOk Bk.z := ⟨by decide, by decide, ⟨⟨by decide, fun i hi => absurd hi (Nat.not_lt_zero i)⟩, rfl, fun i hi => absurd hi (Nat.not_lt_zero i)⟩, fun i hi => absurd hi (Nat.not_lt_zero i)⟩
theorem getD_map {α β : Type} {f : α → β} {l : List α} {d : β} {e : α} {k : Nat} (h : k < l.length) : (l.map f).getD k d = f (l.getD k e) := by
  simp [List.getD_eq_getElem?_getD, List.getElem?_eq_getElem h]
theorem getD_mem {α : Type} {l : List α} {d : α} {k : Nat} (h : k < l.length) : l.getD k d ∈ l := by
  rw [List.getD_eq_getElem?_getD, List.getElem?_eq_getElem h]
  exact List.getElem_mem h
theorem name_inj {l : List Mv} (h : MovesOk l) {i j : Nat} (hi : i < l.length) (hj : j < l.length) (e : (at' l i).f0 = (at' l j).f0) : i = j := by
  rcases Nat.lt_trichotomy i j with k | k | k
  · have := movesOk_lt h k hj
    rw [e, ltN_irr] at this
    cases this
  · exact k
  · have := movesOk_lt h k hi
    rw [e, ltN_irr] at this
    cases this
/-- When somebody comes, -1 if they do not. -/
def wtk (b : Bk) (s : ByteArray) : Int := if atN b.ms s < 0 then -1 else tk b.ts (atN b.ms s).toNat
theorem wtk_cases {b : Bk} (s : ByteArray) : (wtk b s = -1 ∧ ∀ j, j < b.ms.length → (at' b.ms j).f0 ≠ s) ∨ (∃ j, j < b.ms.length ∧ (at' b.ms j).f0 = s ∧ wtk b s = tk b.ts j) := by
  unfold wtk
  rcases atN_range b.ms s with ⟨h1, h2⟩ | ⟨j, h1, h2, h3⟩
  · exact .inl ⟨by rw [if_pos (by omega)], h2⟩
  · exact .inr ⟨j, h2, h3, by rw [if_neg (by omega), h1, Int.toNat_natCast]⟩
theorem wtk_at {b : Bk} (h : MovesOk b.ms) {i : Nat} (hi : i < b.ms.length) : wtk b (at' b.ms i).f0 = tk b.ts i := by
  rcases wtk_cases (b := b) (at' b.ms i).f0 with ⟨_, h2⟩ | ⟨j, h1, h2, h3⟩
  · exact absurd rfl (h2 i hi)
  · rw [h3, name_inj h h1 hi h2]
/-- All who were promised a tick, but for one, still have it. -/
def PromB (a b : Bk) (s : ByteArray) : Prop := ∀ i, i < a.ms.length → (at' a.ms i).f0 ≠ s → 0 ≤ (at' a.ms i).f5 → 0 ≤ wtk b (at' a.ms i).f0 → wtk b (at' a.ms i).f0 = (at' a.ms i).f5
theorem prom_of {a b : Bk} {s : ByteArray} (hb : Fits b.ms b.ts) (h : ∀ i j, i < a.ms.length → j < b.ms.length → (at' a.ms i).f0 = (at' b.ms j).f0 → (at' a.ms i).f0 ≠ s → 0 ≤ (at' a.ms i).f5 → (at' b.ms j).f5 = (at' a.ms i).f5) : PromB a b s := by
  intro i hi hs h5 hw
  rcases wtk_cases (b := b) (at' a.ms i).f0 with ⟨h1, _⟩ | ⟨j, h1, h2, h3⟩
  · omega
  · have h4 := h i j hi h1 h2.symm hs h5
    have := (hb.2.2 j h1).1.2 (by omega)
    omega
theorem prom_self {b : Bk} {s : ByteArray} (hb : Fits b.ms b.ts) : PromB b b s := prom_of hb fun i j hi hj e _ _ => by rw [name_inj hb.1 hi hj e]
/-- Nobody who stays is later. -/
def NoLtB (a b : Bk) : Prop := ∀ j, j < b.ms.length → 0 ≤ wtk a (at' b.ms j).f0 → tk b.ts j ≤ wtk a (at' b.ms j).f0

/-! ### Dropping -/
def skip (c k : Nat) : Nat := if k < c then k else k + 1
theorem dropL_length {α : Type} (l : List α) {a : Nat} (h : a < l.length) : (dropL l a).length = l.length - 1 := by
  unfold dropL
  rw [List.length_append, List.length_take, List.length_drop]
  omega
theorem dropL_get {α : Type} (l : List α) (d : α) {c : Nat} (hc : c < l.length) (k : Nat) : (dropL l c).getD k d = l.getD (skip c k) d := by
  unfold dropL skip
  rw [List.getD_eq_getElem?_getD, List.getD_eq_getElem?_getD]
  by_cases h : k < c
  · rw [if_pos h, List.getElem?_append_left (by simp; omega), List.getElem?_take_of_lt h]
  · rw [if_neg h, List.getElem?_append_right (by simp; omega), List.getElem?_drop, List.length_take]
    congr 2
    omega
theorem dropL_sub {α : Type} (l : List α) (a : Nat) : (dropL l a).Sublist l := by
  unfold dropL
  have h1 : (l.drop (a + 1)).Sublist (l.drop a) := by
    rw [← List.drop_drop]; exact List.drop_sublist _ _
  have := (List.Sublist.refl (l.take a)).append h1
  rwa [List.take_append_drop] at this
theorem dropL_zip {α β : Type} (l : List α) (t : List β) (c : Nat) (h : l.length = t.length) : (dropL l c).zip (dropL t c) = dropL (l.zip t) c := by
  unfold dropL
  rw [List.zip_append (by simp [h])]
  simp only [List.zip, List.take_zipWith, List.drop_zipWith]
theorem dropB_ok {b : Bk} {c : Nat} (hb : BkOk b) (hc : c < b.ms.length) : BkOk (dropB b c) := by
  rw [bkOk_iff] at hb ⊢
  obtain ⟨h1, h2, h3, h4, h5, h6⟩ := hb
  have hs : ((dropB b c).ms.zip (dropB b c).ts).Sublist (b.ms.zip b.ts) := by
    show ((dropL b.ms c).zip (dropL b.ts c)).Sublist _
    rw [dropL_zip _ _ _ h4.symm]
    exact dropL_sub _ _
  refine ⟨h1, h2, movesOk_sub h3 (dropL_sub _ _), ?_, fitsP_sub h5 hs, fun x hx => h6 x (hs.subset hx)⟩
  show (dropL b.ts c).length = (dropL b.ms c).length
  rw [dropL_length _ hc, dropL_length _ (by omega), h4]
theorem dropB_sure {b : Bk} {c : Nat} (h : SureM b) (hc : c < b.ms.length) : SureM (dropB b c) := by
  have hl : b.ts.length = b.ms.length := h.1.2.2.1.2.1
  have hr : c < (List.range b.ms.length).length := by rw [List.length_range]; exact hc
  have hI : (dropL (List.range b.ms.length) c).length = b.ms.length - 1 := by rw [dropL_length _ hr, List.length_range]
  have hlen : (dropB b c).ms.length = b.ms.length - 1 := dropL_length _ hc
  have hk : ∀ k, k < b.ms.length - 1 → (dropL (List.range b.ms.length) c).getD k 0 = skip c k := fun k hk => by
    rw [dropL_get _ _ hr]
    have : skip c k < b.ms.length := by unfold skip; split <;> omega
    simp [List.getD_eq_getElem?_getD, this]
  have hm : ∀ k, at' (dropB b c).ms k = at' b.ms (skip c k) := fun k => dropL_get _ _ hc k
  have ht : ∀ k, tk (dropB b c).ts k = tk b.ts (skip c k) := fun k => dropL_get _ _ (by omega) k
  refine sure_sub h (dropB_ok h.1 hc) (I := dropL (List.range b.ms.length) c) (by rw [hlen, hI]) (dropL_sub _ _) (fun j k hj hk' => ?_) (fun j hj => ?_)
  · rw [hI] at hj hk'
    rw [hk j hj, hk k hk']
    unfold thenAt
    rw [hm, ht, ht]
    have this : k = j ↔ skip c k = skip c j := by unfold skip; split <;> split <;> omega
    by_cases e : k = j
    · rw [if_pos e, if_pos (this.1 e)]
    · rw [if_neg e, if_neg (fun q => e (this.2 q))]
  · rw [hI] at hj
    rw [hk j hj, ht, hm]
    exact ⟨rfl, rfl, rfl⟩
theorem dropP_ok {b : Bk} {c : Nat} (hb : BkOk b) (hc : c < b.ms.length) (s : SureM ⟨b.now, b.shift, dropL b.ms c, (dropP b c).1⟩) : True := trivial
/-- What dropping gives. -/
theorem dropR_cases {b : Bk} (n : ByteArray) (hb : BkOk b) : (∀ j, j < b.ms.length → (at' b.ms j).f0 ≠ n) ∧ dropR b n = (b, 3) ∨ (∃ c, c < b.ms.length ∧ (at' b.ms c).f0 = n ∧ (dropR b n = (dropB b c, 0) ∨ ∃ t, dropR b n = (⟨b.now, b.shift, dropL b.ms c, t⟩, 0) ∧ NoLater t (dropL b.ts c) ∧ SureM ⟨b.now, b.shift, dropL b.ms c, t⟩)) := by
  unfold dropR
  rw [if_neg (fun h => h hb)]
  rcases atN_range b.ms n with ⟨h1, h2⟩ | ⟨c, h1, h2, h3⟩
  · exact .inl ⟨h2, by rw [if_pos (by omega)]⟩
  · refine .inr ⟨c, h2, h3, ?_⟩
    rw [if_neg (by omega), h1, Int.toNat_natCast]
    split
    · rename_i hq
      exact .inr ⟨_, rfl, hq.2.1, hq.2.2⟩
    · exact .inl rfl
theorem dropR_ok {b : Bk} (n : ByteArray) : BkOk (dropR b n).1 := by
  by_cases hb : BkOk b
  · rcases dropR_cases n hb with ⟨_, h⟩ | ⟨c, h1, h2, h | ⟨t, h, _, h3⟩⟩
    · rw [h]; exact hb
    · rw [h]; exact dropB_ok hb h1
    · rw [h]; exact h3.1
  · unfold dropR
    rw [if_pos hb]
    exact bkz_ok
theorem dropR_sure {b : Bk} (n : ByteArray) (h : SureM b) : SureM (dropR b n).1 := by
  rcases dropR_cases n h.1 with ⟨_, e⟩ | ⟨c, h1, h2, e | ⟨t, e, _, h3⟩⟩
  · rw [e]; exact h
  · rw [e]; exact dropB_sure h h1
  · rw [e]; exact h3
theorem dropR_noLt {b : Bk} (n : ByteArray) (hb : BkOk b) : NoLtB b (dropR b n).1 := by
  have hm := hb.2.2.1.1
  have hl : b.ts.length = b.ms.length := hb.2.2.1.2.1
  rcases dropR_cases n hb with ⟨_, h⟩ | ⟨c, h1, h2, h | ⟨t, h, h3, h4⟩⟩
  · rw [h]
    intro j hj _
    rw [wtk_at hm hj]
    exact Int.le_refl _
  · rw [h]
    intro j hj _
    have hlen : (dropB b c).ms.length = b.ms.length - 1 := dropL_length _ h1
    have hj' : j < b.ms.length - 1 := by rw [← hlen]; exact hj
    have hsk : skip c j < b.ms.length := by unfold skip; split <;> omega
    rw [show at' (dropB b c).ms j = at' b.ms (skip c j) from dropL_get _ _ h1 j, wtk_at hm hsk, show tk (dropB b c).ts j = tk b.ts (skip c j) from dropL_get _ _ (by omega) j]
    exact Int.le_refl _
  · rw [h]
    intro j hj _
    have hlen : (dropL b.ms c).length = b.ms.length - 1 := dropL_length _ h1
    have hj' : j < b.ms.length - 1 := by rw [← hlen]; exact hj
    have hsk : skip c j < b.ms.length := by unfold skip; split <;> omega
    have ht : t.length = (dropL b.ms c).length := h4.1.2.2.1.2.1
    show tk t j ≤ wtk b (at' (dropL b.ms c) j).f0
    rw [show at' (dropL b.ms c) j = at' b.ms (skip c j) from dropL_get _ _ h1 j, wtk_at hm hsk, ← show tk (dropL b.ts c) j = tk b.ts (skip c j) from dropL_get _ _ (by omega) j]
    exact h3 j (by omega)
theorem dropR_prom {b : Bk} (n s : ByteArray) (hb : BkOk b) : PromB b (dropR b n).1 s := by
  have hm := hb.2.2.1.1
  have hf := (dropR_ok (b := b) n).2.2.1
  refine prom_of hf fun i j hi hj e _ _ => ?_
  rcases dropR_cases n hb with ⟨_, h⟩ | ⟨c, h1, h2, h3⟩
  · rw [h] at hj e ⊢
    rw [name_inj hm hi hj e]
  · have hms : (dropR b n).1.ms = dropL b.ms c := by
      rcases h3 with h | ⟨t, h, _⟩ <;> rw [h] <;> rfl
    rw [hms] at hj e ⊢
    rw [dropL_length _ h1] at hj
    have hsk : skip c j < b.ms.length := by unfold skip; split <;> omega
    rw [show at' (dropL b.ms c) j = at' b.ms (skip c j) from dropL_get _ _ h1 j] at e ⊢
    rw [name_inj hm hi hsk e]
theorem dropR_codes {b : Bk} (n : ByteArray) (hb : BkOk b) : ((dropR b n).2 = 0 ∧ (dropR b n).1.ms.length + 1 = b.ms.length) ∨ ((dropR b n).2 = 3 ∧ (dropR b n).1 = b) := by
  rcases dropR_cases n hb with ⟨_, h⟩ | ⟨c, h1, h2, h | ⟨t, h, _, h3⟩⟩
  · rw [h]; exact .inr ⟨rfl, rfl⟩
  · rw [h]; refine .inl ⟨rfl, ?_⟩; show (dropL b.ms c).length + 1 = _; rw [dropL_length _ h1]; omega
  · rw [h]; refine .inl ⟨rfl, ?_⟩; show (dropL b.ms c).length + 1 = _; rw [dropL_length _ h1]; omega

/-! ### A tick that passes -/
def stayI (b : Bk) : List Nat := (List.range b.ms.length).filter fun k => !decide (tk b.ts k = b.now)
def goI (b : Bk) : List Nat := (List.range b.ms.length).filter fun k => decide (tk b.ts k = b.now)
theorem tickFrom_eq (b : Bk) : ∀ d i s, foldFrom (tickStep b) i d s =
    (s.1 ++ ((List.range' i d).filter fun k => !decide (tk b.ts k = b.now)).map (fun k => soon b.now (at' b.ms k) (tk b.ts k)), s.2.1 ++ ((List.range' i d).filter fun k => !decide (tk b.ts k = b.now)).map (tk b.ts), s.2.2 ++ ((List.range' i d).filter fun k => decide (tk b.ts k = b.now)).map fun k => (at' b.ms k).f0) := by
  intro d
  induction d with
  | zero => intro i s; simp [foldFrom]
  | succ d ih =>
    intro i s
    show foldFrom (tickStep b) (i + 1) d (tickStep b i s) = _
    rw [ih, List.range'_succ]
    unfold tickStep
    by_cases h : tk b.ts i = b.now
    · rw [if_pos h]; simp [h]
    · rw [if_neg h]; simp [h]
theorem tickF_eq (b : Bk) : tickF b = ((stayI b).map (fun k => soon b.now (at' b.ms k) (tk b.ts k)), (stayI b).map (tk b.ts), (goI b).map fun k => (at' b.ms k).f0) := by
  unfold tickF stayI goI
  rw [tickFrom_eq, List.range_eq_range']
  simp
theorem filter_two {α : Type} (p : α → Bool) : ∀ l : List α, (l.filter fun k => !p k).length + (l.filter p).length = l.length
  | [] => rfl
  | a :: l => by
    have := filter_two p l
    cases h : p a <;> simp [h] <;> omega
theorem soon_gap {n : Int} {a b : Mv} {t u : Int} : gap (soon n a t) (soon n b u) = gap a b := by
  exact gap_of (by unfold soon; split <;> rfl) (by unfold soon; split <;> rfl) (by unfold soon; split <;> rfl)
theorem soon_name {n : Int} {a : Mv} {t : Int} : (soon n a t).f0 = a.f0 := by unfold soon; split <;> rfl
theorem stayI_mem {b : Bk} {k : Nat} (h : k ∈ stayI b) : k < b.ms.length ∧ tk b.ts k ≠ b.now := by
  unfold stayI at h
  rw [List.mem_filter] at h
  exact ⟨List.mem_range.1 h.1, by simpa using h.2⟩
theorem stayI_sub (b : Bk) : (stayI b).Sublist (List.range b.ms.length) := List.filter_sublist
theorem stayI_lt (b : Bk) : (stayI b).Pairwise (· < ·) := List.Pairwise.sublist (stayI_sub b) List.pairwise_lt_range
theorem tickB_ok {b : Bk} (hb : BkOk b) (hn : b.now ≠ 10000) : BkOk ⟨b.now + 1, b.shift, (tickF b).1, (tickF b).2.1⟩ := by
  have hft := hb.2.2.1
  have hm := hft.1
  have h0 := hb.1
  rw [bkOk_iff, tickF_eq]
  dsimp only
  have hin : ∀ k ∈ stayI b, (soon b.now (at' b.ms k) (tk b.ts k)).f0 = (at' b.ms k).f0 ∧ mvOk (soon b.now (at' b.ms k) (tk b.ts k)) = true ∧ InP (soon b.now (at' b.ms k) (tk b.ts k), tk b.ts k) ∧ b.now + 1 ≤ tk b.ts k ∧ (tk b.ts k < b.now + 1 + 4 → 0 ≤ (soon b.now (at' b.ms k) (tk b.ts k)).f5) := by
    intro k hk
    obtain ⟨h1, h2⟩ := stayI_mem hk
    obtain ⟨k1, k2, k3, k4, k5, k6⟩ := bk_tick hb h1
    have k7 := mvOk_true.1 k3
    unfold InR at k2
    have := k4.1
    refine ⟨soon_name, ?_, ?_, by omega, ?_⟩
    · unfold soon
      split
      · rw [mvOk_true]
        refine ⟨k7.1, ?_⟩
        have := k7.2
        dsimp only
        omega
      · exact k3
    · unfold soon InP
      split
      · exact ⟨k2.1, fun _ => rfl⟩
      · exact k2
    · intro h
      unfold soon
      rw [if_pos h]
      exact k5
  have hlen : (stayI b).length ≤ b.ms.length := by have := (stayI_sub b).length_le; rwa [List.length_range] at this
  refine ⟨by omega, hb.2.1, movesOk_iff.2 ⟨?_, fun m hm' => ?_, ?_⟩, by simp, ?_, ?_⟩
  · rw [List.length_map]; have := hm.1; omega
  · obtain ⟨k, hk, rfl⟩ := List.mem_map.1 hm'
    exact (hin k hk).2.1
  · refine List.pairwise_map.2 ((stayI_lt b).imp_of_mem fun {i j} hi hj hij => ?_)
    rw [(hin i hi).1, (hin j hj).1]
    exact movesOk_lt hm hij (stayI_mem hj).1
  · rw [List.zip_map']
    refine ⟨fun x hx => ?_, List.pairwise_map.2 ((stayI_lt b).imp_of_mem fun {i j} hi hj hij => ?_)⟩
    · obtain ⟨k, hk, rfl⟩ := List.mem_map.1 hx
      exact (hin k hk).2.2.1
    · have a := (hft.2.2 i (stayI_mem hi).1).2 j (stayI_mem hj).1 (by omega)
      have c := (hft.2.2 j (stayI_mem hj).1).2 i (stayI_mem hi).1 (by omega)
      unfold Ap at a c
      unfold ap2
      dsimp only
      rw [soon_gap, soon_gap]
      exact ⟨a.1, a.2, c.2⟩
  · rw [List.zip_map']
    intro x hx
    obtain ⟨k, hk, rfl⟩ := List.mem_map.1 hx
    exact (hin k hk).2.2.2
theorem tickR_cases {b : Bk} (hb : BkOk b) : (b.now = 10000 ∧ tickR b = (b, [], 2)) ∨ (b.now ≠ 10000 ∧ tickR b = (⟨b.now + 1, b.shift, (tickF b).1, (tickF b).2.1⟩, (tickF b).2.2, 0)) := by
  unfold tickR
  rw [if_pos hb]
  split
  · exact .inl ⟨‹_›, rfl⟩
  · exact .inr ⟨‹_›, rfl⟩
theorem tickR_ok (b : Bk) : BkOk (tickR b).1 := by
  by_cases hb : BkOk b
  · rcases tickR_cases hb with ⟨_, h⟩ | ⟨h1, h⟩
    · rw [h]; exact hb
    · rw [h]; exact tickB_ok hb h1
  · unfold tickR
    rw [if_neg hb]
    exact bkz_ok
theorem tick_one {b : Bk} (hb : BkOk b) : (goI b).length ≤ 1 := by
  have hp : (goI b).Pairwise (· < ·) := List.Pairwise.sublist List.filter_sublist List.pairwise_lt_range
  have hm : ∀ k ∈ goI b, k < b.ms.length ∧ tk b.ts k = b.now := fun k hk => by
    unfold goI at hk
    rw [List.mem_filter] at hk
    exact ⟨List.mem_range.1 hk.1, by simpa using hk.2⟩
  match h : goI b with
  | [] => simp
  | [x] => simp
  | x :: y :: r =>
    exfalso
    rw [h] at hp hm
    have h1 := hm x List.mem_cons_self
    have h2 := hm y (List.mem_cons_of_mem _ List.mem_cons_self)
    have h3 := (List.pairwise_cons.1 hp).1 y List.mem_cons_self
    have := ((hb.2.2.1.2.2 x h1.1).2 y h2.1 (by omega)).1
    omega
theorem tickR_codes {b : Bk} (hb : BkOk b) : ((tickR b).2.2 = 0 ∧ (tickR b).1.ms.length + (tickR b).2.1.length = b.ms.length ∧ (tickR b).2.1.length ≤ 1) ∨ ((tickR b).2.2 = 2 ∧ (tickR b).1 = b ∧ (tickR b).2.1 = []) := by
  rcases tickR_cases hb with ⟨_, h⟩ | ⟨h1, h⟩
  · rw [h]; exact .inr ⟨rfl, rfl, rfl⟩
  · rw [h, tickF_eq]
    refine .inl ⟨rfl, ?_, ?_⟩
    · dsimp only
      rw [List.length_map, List.length_map]
      have := filter_two (fun k => decide (tk b.ts k = b.now)) (List.range b.ms.length)
      rw [List.length_range] at this
      exact this
    · dsimp only
      rw [List.length_map]
      exact tick_one hb
theorem tickR_prom {b : Bk} (s : ByteArray) (hb : BkOk b) : PromB b (tickR b).1 s := by
  have hm := hb.2.2.1.1
  refine prom_of (tickR_ok b).2.2.1 fun i j hi hj e _ h5 => ?_
  rcases tickR_cases hb with ⟨_, h⟩ | ⟨h1, h⟩
  · rw [h] at hj e ⊢
    rw [name_inj hm hi hj e]
  · rw [h, tickF_eq] at hj e ⊢
    dsimp only at hj e ⊢
    rw [List.length_map] at hj
    rw [show at' ((stayI b).map fun k => soon b.now (at' b.ms k) (tk b.ts k)) j = soon b.now (at' b.ms ((stayI b).getD j 0)) (tk b.ts ((stayI b).getD j 0)) from getD_map hj] at e ⊢
    have hk := (stayI_mem (getD_mem (d := 0) hj)).1
    rw [soon_name] at e
    rw [← name_inj hm hi hk e]
    unfold soon
    split
    · exact (hb.2.2.1.2.2 i hi).1.2 h5
    · rfl
theorem tickR_sure {b : Bk} (h : SureM b) : SureM (tickR b).1 := by
  have hb := h.1
  rcases tickR_cases hb with ⟨_, e⟩ | ⟨h1, e⟩
  · rw [e]; exact h
  · have hok := tickR_ok b
    rw [e, tickF_eq] at hok ⊢
    dsimp only at hok ⊢
    have hm : ∀ k, k < (stayI b).length → at' ((stayI b).map fun k => soon b.now (at' b.ms k) (tk b.ts k)) k = soon b.now (at' b.ms ((stayI b).getD k 0)) (tk b.ts ((stayI b).getD k 0)) := fun k hk => getD_map hk
    have ht : ∀ k, k < (stayI b).length → tk ((stayI b).map (tk b.ts)) k = tk b.ts ((stayI b).getD k 0) := fun k hk => getD_map hk
    have hnd : (stayI b).Nodup := (stayI_lt b).imp fun h => Nat.ne_of_lt h
    refine sure_sub h hok (I := stayI b) (by simp) (stayI_sub b) (fun j k hj hk => ?_) (fun j hj => ?_)
    · unfold thenAt
      dsimp only
      rw [hm k hk, ht j hj, ht k hk]
      have hq : k = j ↔ (stayI b).getD k 0 = (stayI b).getD j 0 := ⟨fun e => by rw [e], fun e => getD_inj hnd hk hj e⟩
      have hj2 := stayI_mem (getD_mem (d := 0) hj)
      have hk2 := stayI_mem (getD_mem (d := 0) hk)
      have hjn := (bk_tick hb hj2.1).2.2.2.1.1
      have hkn := (bk_tick hb hk2.1).2.2.2.1.1
      generalize (stayI b).getD j 0 = x at *
      generalize (stayI b).getD k 0 = y at *
      by_cases e : k = j
      · rw [if_pos e, if_pos (hq.1 e)]
        unfold soon goneMv
        split <;> rfl
      · rw [if_neg e, if_neg (fun q => e (hq.2 q))]
        split
        · rfl
        · unfold soon stayMv
          split
          · split <;> rfl
          · rw [if_neg (by omega)]
    · dsimp only
      rw [hm j hj, ht j hj]
      refine ⟨rfl, ?_, ?_⟩ <;> (unfold soon; split <;> rfl)
end Go.AM

/- Plain laws: going round, coming in; what the laws ask of a round; no condition. -/
namespace Go.AM
set_option linter.unusedVariables false
set_option linter.unusedSimpArgs false
open Go.RowKit

theorem then_mem {b : Bk} {a : Nat} {m : Mv} (h : m ∈ thenL b a) : ∃ k, k < b.ms.length ∧ ((k = a ∧ m = goneMv (tk b.ts a) (at' b.ms k)) ∨ (k ≠ a ∧ ¬ tk b.ts k < tk b.ts a ∧ m = stayMv (tk b.ts a) (at' b.ms k) (tk b.ts k))) := by
  rw [thenL_at] at h
  obtain ⟨k, hk, e⟩ := List.mem_filterMap.1 h
  refine ⟨k, List.mem_range.1 hk, ?_⟩
  unfold thenAt at e
  split at e
  · exact .inl ⟨‹_›, (Option.some.inj e).symm⟩
  · split at e
    · cases e
    · exact .inr ⟨‹_›, ‹_›, (Option.some.inj e).symm⟩
theorem then_gone_mem {b : Bk} {a : Nat} (ha : a < b.ms.length) : goneMv (tk b.ts a) (at' b.ms a) ∈ thenL b a := by
  rw [thenL_at]
  exact List.mem_filterMap.2 ⟨a, List.mem_range.2 ha, if_pos rfl⟩
theorem stay_name {t : Int} {m : Mv} {u : Int} : (stayMv t m u).f0 = m.f0 := by unfold stayMv; split <;> rfl
theorem roundB_ok {b : Bk} {a : Nat} (hb : BkOk b) (ha : a < b.ms.length) (hr : RoundOk b a) : BkOk (roundB b a) := by
  have ht := bk_tick hb ha
  refine plan_book (then_movesOk hb ha hr.1) (by omega) (by omega) hb.2.1 (fun m hm h5 => ?_) hr.2
  obtain ⟨k, hk, ⟨rfl, rfl⟩ | ⟨h1, h2, rfl⟩⟩ := then_mem hm
  · exact absurd (show (0 : Int) ≤ -1 from h5) (by omega)
  · have := (hb.2.2.1.2.2 k hk).1.2
    unfold stayMv at h5 ⊢
    by_cases q : tk b.ts k < tk b.ts a + 4
    · rw [if_pos q]; dsimp only; omega
    · rw [if_neg q] at h5 ⊢
      have := this h5
      omega
theorem round_prom {b : Bk} {a : Nat} (hb : BkOk b) (ha : a < b.ms.length) (hr : RoundOk b a) : PromB b (roundB b a) (at' b.ms a).f0 := by
  have hm := hb.2.2.1.1
  refine prom_of (roundB_ok hb ha hr).2.2.1 fun i j hi hj e hs h5 => ?_
  obtain ⟨k, hk, ⟨rfl, h⟩ | ⟨h1, h2, h⟩⟩ := then_mem (at'_mem (l := thenL b a) hj)
  · rw [show at' (roundB b k).ms j = _ from h] at e
    exact absurd e hs
  · rw [show at' (roundB b a).ms j = _ from h] at e ⊢
    rw [stay_name] at e
    obtain rfl := name_inj hm hi hk e
    unfold stayMv
    split
    · exact (hb.2.2.1.2.2 i hi).1.2 h5
    · rfl
theorem round_late {b : Bk} {a : Nat} (hb : BkOk b) (ha : a < b.ms.length) (hr : RoundOk b a) : tk b.ts a + 6 ≤ wtk (roundB b a) (at' b.ms a).f0 := by
  have hm := hb.2.2.1.1
  have hf := (roundB_ok hb ha hr).2.2.1
  rcases wtk_cases (b := roundB b a) (at' b.ms a).f0 with ⟨_, h⟩ | ⟨j, h1, h2, h3⟩
  · obtain ⟨j, hj, e⟩ := mem_at' (then_gone_mem ha)
    refine absurd ?_ (h j hj)
    show (at' (thenL b a) j).f0 = _
    rw [e]
    rfl
  · rw [h3]
    obtain ⟨k, hk, ⟨rfl, h⟩ | ⟨h4, _, h⟩⟩ := then_mem (at'_mem (l := thenL b a) h1)
    · have := (hf.2.2 j h1).1.1
      rw [show at' (roundB b k).ms j = _ from h] at this
      exact this.1
    · rw [show at' (roundB b a).ms j = _ from h, stay_name] at h2
      exact absurd (name_inj hm hk ha h2) h4
theorem filterMap_all {α β : Type} {f : α → Option β} : ∀ {l : List α}, (∀ x ∈ l, f x ≠ none) → (l.filterMap f).length = l.length
  | [], _ => rfl
  | a :: l, h => by
    have := filterMap_all (f := f) (l := l) fun x hx => h x (List.mem_cons_of_mem _ hx)
    cases e : f a with
    | none => exact absurd e (h a List.mem_cons_self)
    | some y => rw [List.filterMap_cons, e, List.length_cons, List.length_cons, this]
theorem then_full {b : Bk} {a : Nat} (h : ∀ k, k < b.ms.length → tk b.ts a ≤ tk b.ts k) : (thenL b a).length = b.ms.length := by
  rw [thenL_at, filterMap_all, List.length_range]
  intro k hk
  have := h k (List.mem_range.1 hk)
  unfold thenAt
  split
  · simp
  · rw [if_neg (by omega)]; simp
/-- What going round gives. -/
theorem roundR_cases {b : Bk} (n : ByteArray) (hb : BkOk b) : (∃ c, 3 ≤ c ∧ c ≤ 6 ∧ roundR b n = (b, c) ∧ (c = 5 → ¬ SureM b)) ∨ (∃ a, a < b.ms.length ∧ (at' b.ms a).f0 = n ∧ (at' b.ms a).f1 = true ∧ tk b.ts a = b.now ∧ RoundOk b a ∧ roundR b n = (roundB b a, 0)) := by
  unfold roundR
  rw [if_neg (fun h => h hb)]
  rcases atN_range b.ms n with ⟨h1, h2⟩ | ⟨a, h1, h2, h3⟩
  · exact .inl ⟨3, by omega, by omega, by rw [if_pos (fun q => by omega)], fun h => by omega⟩
  · rw [h1, Int.toNat_natCast]
    split
    · exact .inl ⟨3, by omega, by omega, rfl, fun h => by omega⟩
    · rename_i q
      have q := Classical.byContradiction q
      split
      · exact .inl ⟨6, by omega, by omega, rfl, fun h => by omega⟩
      · rename_i q2
        have q2 := Classical.byContradiction q2
        split
        · exact .inr ⟨a, h2, h3, q.2, q2, ‹_›, rfl⟩
        · rename_i q3
          exact .inl ⟨5, by omega, by omega, rfl, fun _ hs => q3 (hs.2 a h2 q.2)⟩
theorem roundR_ok (b : Bk) (n : ByteArray) : BkOk (roundR b n).1 := by
  by_cases hb : BkOk b
  · rcases roundR_cases n hb with ⟨c, _, _, h, _⟩ | ⟨a, h1, _, _, _, h2, h⟩
    · rw [h]; exact hb
    · rw [h]; exact roundB_ok hb h1 h2
  · unfold roundR
    rw [if_pos hb]
    exact bkz_ok
/-- One whose turn to land it is can go round, in a book that is sure. -/
theorem round_turn {b : Bk} (h : SureM b) {k : Nat} (hk : k < b.ms.length) (ht : tk b.ts k = b.now) (hl : (at' b.ms k).f1 = true) :
    roundR b (at' b.ms k).f0 = (roundB b k, 0) ∧ RoundOk b k ∧ (roundB b k).ms.length = b.ms.length := by
  have hb := h.1
  have hm := hb.2.2.1.1
  have hr := h.2 k hk hl
  refine ⟨?_, hr, ?_⟩
  · rcases roundR_cases (at' b.ms k).f0 hb with ⟨c, h1, h2, e, h3⟩ | ⟨a, h1, h2, h3, h4, h5, e⟩
    · exfalso
      unfold roundR at e
      rw [if_neg (fun h => h hb)] at e
      rcases atN_range b.ms (at' b.ms k).f0 with ⟨_, h5⟩ | ⟨a, h5, h6, h7⟩
      · exact h5 k hk rfl
      · obtain rfl := name_inj hm h6 hk h7
        rw [h5, Int.toNat_natCast, if_neg (fun q => q ⟨by omega, hl⟩), if_neg (fun q => q ht), if_pos hr] at e
        have := congrArg Prod.snd e
        dsimp only at this
        omega
    · obtain rfl := name_inj hm h1 hk h2
      exact e
  · refine then_full fun j hj => ?_
    have := (bk_tick hb hj).2.2.2.1.1
    omega

/-! ### Coming in -/
theorem putM_mem {l : List Mv} {m x : Mv} : x ∈ putM l m ↔ x = m ∨ x ∈ l := by
  unfold putM
  rw [insA_perm.mem_iff, List.mem_cons]
theorem putM_len (l : List Mv) (m : Mv) : (putM l m).length = l.length + 1 := insA_len
theorem addR_cases {b : Bk} (m : Mv) (hb : BkOk b) : (∃ c, 2 ≤ c ∧ c ≤ 6 ∧ addR b m = (b, c)) ∨ (∃ t, addR b m = (⟨b.now, b.shift, putM b.ms m, t⟩, 0) ∧ SureM ⟨b.now, b.shift, putM b.ms m, t⟩ ∧ (∀ j, j < b.ms.length → (at' b.ms j).f0 ≠ m.f0) ∧ b.ms.length ≤ 5 ∧ mvOk m = true) := by
  unfold addR
  rw [if_neg (fun h => h hb)]
  split
  · exact .inl ⟨2, by omega, by omega, rfl⟩
  · rename_i hm
    have hm := Classical.byContradiction hm
    split
    · exact .inl ⟨3, by omega, by omega, rfl⟩
    · rename_i h0
      split
      · exact .inl ⟨4, by omega, by omega, rfl⟩
      · rename_i h6
        split
        · exact .inl ⟨5, by omega, by omega, rfl⟩
        · split
          · exact .inl ⟨6, by omega, by omega, rfl⟩
          · rename_i hs
            have hs := Classical.byContradiction hs
            refine .inr ⟨_, rfl, hs, ?_, ?_, hm.1⟩
            · rcases atN_range b.ms m.f0 with ⟨_, h2⟩ | ⟨a, h1, _, _⟩
              · exact h2
              · exact absurd (by omega) h0
            · have := hb.2.2.1.1.1
              omega
theorem addR_ok (b : Bk) (m : Mv) : BkOk (addR b m).1 := by
  by_cases hb : BkOk b
  · rcases addR_cases m hb with ⟨c, _, _, h⟩ | ⟨t, h, h2, _⟩
    · rw [h]; exact hb
    · rw [h]; exact h2.1
  · unfold addR
    rw [if_pos hb]
    exact bkz_ok
theorem addR_sure {b : Bk} (m : Mv) (h : SureM b) : SureM (addR b m).1 := by
  rcases addR_cases m h.1 with ⟨c, _, _, e⟩ | ⟨t, e, h2, _⟩
  · rw [e]; exact h
  · rw [e]; exact h2
theorem addR_prom {b : Bk} (m : Mv) (s : ByteArray) (hb : BkOk b) : PromB b (addR b m).1 s := by
  have hm := hb.2.2.1.1
  rcases addR_cases m hb with ⟨c, _, _, h⟩ | ⟨t, h, h2, h3, _⟩
  · rw [h]; exact prom_self hb.2.2.1
  · rw [h]
    refine prom_of h2.1.2.2.1 fun i j hi hj e _ _ => ?_
    dsimp only at hj e ⊢
    rcases putM_mem.1 (at'_mem hj) with q | q
    · rw [q] at e
      exact absurd e (h3 i hi)
    · obtain ⟨k, hk, e2⟩ := mem_at' q
      rw [← e2] at e ⊢
      rw [name_inj hm hi hk e]

/-! ### What FnSure asks of a round -/
def wrL (b : Bk) (a i : Nat) : List Mv := laterL (tk b.ts a + 4) ((List.range i).filterMap (thenAt b a))
def WrOk (b : Bk) (a i : Nat) : Prop := ∀ k m, k < i → thenAt b a k = some m → LaterAt (tk b.ts a + 4) m
theorem wrL_none {b : Bk} {a i : Nat} (h : thenAt b a i = none) : wrL b a (i + 1) = wrL b a i := by
  unfold wrL
  rw [List.range_succ, List.filterMap_append]
  simp [h]
theorem wrL_some {b : Bk} {a i : Nat} {m x : Mv} (h : thenAt b a i = some m) (hx : x = laterMv (tk b.ts a + 4) m) : wrL b a (i + 1) = wrL b a i ++ [x] := by
  unfold wrL
  rw [List.range_succ, List.filterMap_append]
  simp [h, laterL, hx]
theorem wrOk_succ {b : Bk} {a i : Nat} (h : WrOk b a i) (h' : ∀ m, thenAt b a i = some m → LaterAt (tk b.ts a + 4) m) : WrOk b a (i + 1) := by
  intro k m hk e
  by_cases hki : k = i
  · subst hki; exact h' m e
  · exact h k m (by omega) e
theorem wrL_all (b : Bk) (a : Nat) : wrL b a b.ms.length = laterL (tk b.ts a + 4) (thenL b a) := by
  unfold wrL
  rw [thenL_at]
theorem wrL_len (b : Bk) (a i : Nat) : (wrL b a i).length ≤ i := by
  unfold wrL laterL
  rw [List.length_map]
  have := List.length_filterMap_le (thenAt b a) (List.range i)
  rwa [List.length_range] at this
theorem wrOk_all {b : Bk} {a : Nat} (h : WrOk b a b.ms.length) : LaterOk (tk b.ts a + 4) (thenL b a) := by
  rw [laterOk_iff, thenL_at]
  intro m hm
  obtain ⟨k, hk, e⟩ := List.mem_filterMap.1 hm
  exact h k m (List.mem_range.1 hk) e
theorem wr_round {b : Bk} {a : Nat} (hb : BkOk b) (ha : a < b.ms.length) (hg : GoneOk b a) (h : WrOk b a b.ms.length) : (bestF (wrL b a b.ms.length) 6).2 = decide (RoundOk b a) := by
  have e : (bestF (wrL b a b.ms.length) 6).2 = (roundP b a).2 := by
    unfold roundP
    rw [planM_eq (then_movesOk hb ha hg) (bk_tick hb ha).2.2.2.2.1 (by omega), if_pos (wrOk_all h), wrL_all]
  rw [e]
  cases hp : (roundP b a).2 with
  | true => exact (decide_eq_true (show RoundOk b a from ⟨hg, hp⟩)).symm
  | false => exact (decide_eq_false fun q : RoundOk b a => absurd (hp.symm.trans q.2) Bool.false_ne_true).symm
theorem wr_no {b : Bk} {a k : Nat} {m : Mv} (hb : BkOk b) (ha : a < b.ms.length) (hk : k < b.ms.length) (h : thenAt b a k = some m) (hl : ¬ LaterAt (tk b.ts a + 4) m) : ¬ RoundOk b a := by
  intro hr
  have h1 := (planM_fits (then_movesOk hb ha hr.1) (bk_tick hb ha).2.2.2.2.1 (by omega) hr.2).1
  rw [laterOk_iff, thenL_at] at h1
  exact hl (h1 m (List.mem_filterMap.2 ⟨k, List.mem_range.2 hk, h⟩))
end Go.AM

/- Plain laws: a move put among others; drawn books; the places of a round; no condition. -/
namespace Go.AM
set_option linter.unusedVariables false
set_option linter.unusedSimpArgs false
open Go.RowKit

theorem insA_asc {m : Mv} : ∀ {l : List Mv}, Asc l → (∀ y ∈ l, y.f0 ≠ m.f0) → Asc (insA (fun y => ltN y.f0 m.f0) m l)
  | [], _, _ => List.pairwise_singleton _ _
  | y :: ys, h, hn => by
    unfold Asc at h ⊢
    rw [List.pairwise_cons] at h
    unfold insA
    split
    · rename_i e
      rw [List.pairwise_cons]
      refine ⟨fun z hz => ?_, insA_asc h.2 fun z hz => hn z (List.mem_cons_of_mem _ hz)⟩
      rcases List.mem_cons.1 (insA_perm.mem_iff.1 hz) with rfl | hz
      · exact e
      · exact h.1 z hz
    · rename_i e
      have e : ltN m.f0 y.f0 = true := by
        cases q : ltN m.f0 y.f0 with
        | true => rfl
        | false => exact absurd (ltN_tri (by simpa using e) q) (hn y List.mem_cons_self)
      rw [List.pairwise_cons, List.pairwise_cons]
      refine ⟨fun z hz => ?_, h⟩
      rcases List.mem_cons.1 hz with rfl | hz
      · exact e
      · exact ltN_trans e (h.1 z hz)
theorem putM_ok {l : List Mv} {m : Mv} (h : MovesOk l) (hm : mvOk m = true) (hn : ∀ j, j < l.length → (at' l j).f0 ≠ m.f0) (hl : l.length ≤ 5) : MovesOk (putM l m) := by
  rw [movesOk_iff] at h ⊢
  refine ⟨by rw [putM_len]; omega, fun x hx => ?_, insA_asc h.2.2 fun y hy => ?_⟩
  · rcases putM_mem.1 hx with rfl | hx
    · exact hm
    · exact h.2.1 x hx
  · obtain ⟨j, hj, rfl⟩ := mem_at' hy
    exact hn j hj
theorem insA_congr {α : Type} {p q : α → Bool} {x : α} : ∀ {l : List α}, (∀ y ∈ l, p y = q y) → insA p x l = insA q x l
  | [], _ => rfl
  | y :: ys, h => by
    unfold insA
    rw [h y List.mem_cons_self, insA_congr fun z hz => h z (List.mem_cons_of_mem _ hz)]
theorem insA_last {α : Type} {p : α → Bool} {x : α} : ∀ {l : List α}, (∀ y ∈ l, p y = true) → insA p x l = l ++ [x]
  | [], _ => rfl
  | y :: ys, h => by
    unfold insA
    rw [if_pos (h y List.mem_cons_self), insA_last fun z hz => h z (List.mem_cons_of_mem _ hz)]
    rfl
def ltM (a b : Mv) : Bool := ltN a.f0 b.f0
theorem ltM_srt : Srt ltM := by
  constructor
  · intro a b h; exact ltN_asymm h
  · intro a b c h k
    unfold ltM at *
    cases q : ltN c.f0 a.f0 with
    | false => rfl
    | true =>
      cases q2 : ltN a.f0 b.f0 with
      | true => rw [ltN_trans q q2] at k; cases k
      | false => rw [← ltN_tri q2 h, q] at k; cases k
theorem isort_front {l : List Mv} (h : Asc l) (r : List Mv) : ∀ n, n ≤ l.length → isort ltM Mv.z (l ++ r) n = l.take n
  | 0, _ => rfl
  | n + 1, hn => by
    have hg : (l ++ r).getD n Mv.z = l[n]'(by omega) := by
      rw [List.getD_eq_getElem?_getD, List.getElem?_append_left (by omega), List.getElem?_eq_getElem (by omega)]
      rfl
    rw [isort_succ, isortA, isort_front h r n (by omega), hg, insA_last, List.take_succ_eq_append_getElem (by omega)]
    intro y hy
    obtain ⟨j, hj, rfl⟩ := List.getElem_of_mem hy
    rw [List.length_take] at hj
    have := (List.pairwise_iff_getElem.1 h) j n (by omega) (by omega) (by omega)
    rw [List.getElem_take]
    simp only [Bool.not_eq_true']
    exact ltN_asymm this
/-- What the program's sort makes of moves and one more behind them. -/
theorem isort_put {l : List Mv} {m : Mv} (h : Asc l) (hn : ∀ j, j < l.length → (at' l j).f0 ≠ m.f0) : isort ltM Mv.z (l ++ [m]) (l ++ [m]).length = putM l m := by
  have hg : (l ++ [m]).getD l.length Mv.z = m := by
    rw [List.getD_eq_getElem?_getD, List.getElem?_append_right (Nat.le_refl _)]
    simp
  rw [show (l ++ [m]).length = l.length + 1 by simp, isort_succ, isortA, isort_front h _ _ (Nat.le_refl _), hg, List.take_length]
  refine insA_congr fun y hy => ?_
  obtain ⟨j, hj, rfl⟩ := mem_at' hy
  have hne := hn j hj
  unfold ltM
  cases q : ltN m.f0 (at' l j).f0 with
  | true => rw [ltN_asymm q]; rfl
  | false =>
    cases q2 : ltN (at' l j).f0 m.f0 with
    | true => rfl
    | false => exact absurd (ltN_tri q2 q) hne

/-! ### Drawn books -/
/-- What is known of a book that is drawn. -/
structure BkD (b : Bk) : Prop where
  lm : b.ms.length ≤ 6
  lt : b.ts.length ≤ 6
  md : MvsD b.ms
  td : W64L b.ts
  nd : W64 b.now
  sd : W64 b.shift
theorem mvD_of {m : Mv} (h : mvOk m = true) : MvD m := by
  have := mvOk_range h
  unfold MvD W64
  omega
theorem bkD_of {b : Bk} (h : BkOk b) : BkD b := by
  have hf := h.2.2.1
  have h1 := hf.1.1
  have h2 := hf.2.1
  refine ⟨h1, by omega, fun m hm => ?_, fits_w64 hf, ?_, ?_⟩
  · obtain ⟨i, hi, rfl⟩ := mem_at' hm
    exact mvD_of (hf.1.2 i hi).1
  · have := h.1; unfold W64; omega
  · have := h.2.1; unfold W64; omega
theorem bk_empty {now shift : Int} (h : 0 ≤ now ∧ now ≤ 10000) (h' : 0 ≤ shift ∧ shift ≤ 6) : BkOk ⟨now, shift, [], []⟩ := ⟨h, h', ⟨⟨Nat.zero_le _, fun i hi => absurd hi (Nat.not_lt_zero i)⟩, rfl, fun i hi => absurd hi (Nat.not_lt_zero i)⟩, fun i hi => absurd hi (Nat.not_lt_zero i)⟩

/-! ### The places of a round, one by one -/
variable {b : Bk} {a i : Nat}
theorem wr_1 (h : i = a) (hg : GoneOk b a) (hw : WrOk b a i) : wrL b a (i + 1) = wrL b a i ++ [⟨(at' b.ms i).f0, (at' b.ms i).f1, (at' b.ms i).f2, tk b.ts a + 6, (at' b.ms i).f4, -1⟩] ∧ WrOk b a (i + 1) := by
  subst h
  have e : thenAt b i i = some (goneMv (tk b.ts i) (at' b.ms i)) := if_pos rfl
  refine ⟨wrL_some e ?_, wrOk_succ hw fun m hm => ?_⟩
  · unfold goneMv laterMv
    dsimp only
    rw [if_pos (by omega), show max (tk b.ts i + 6) (tk b.ts i + 4) = tk b.ts i + 6 by omega]
  · rw [e] at hm
    obtain rfl := Option.some.inj hm
    unfold GoneOk at hg
    unfold LaterAt goneMv
    dsimp only
    omega
theorem wr_2 (h : i ≠ a) (h2 : tk b.ts i < tk b.ts a) (hw : WrOk b a i) : wrL b a (i + 1) = wrL b a i ∧ WrOk b a (i + 1) := by
  have e : thenAt b a i = none := by unfold thenAt; rw [if_neg h, if_pos h2]
  exact ⟨wrL_none e, wrOk_succ hw fun m hm => by rw [e] at hm; cases hm⟩
theorem wr_stay (h : i ≠ a) (h2 : ¬ tk b.ts i < tk b.ts a) : thenAt b a i = some (stayMv (tk b.ts a) (at' b.ms i) (tk b.ts i)) := by unfold thenAt; rw [if_neg h, if_neg h2]
theorem wr_3 (hb : BkOk b) (hi : i < b.ms.length) (h : i ≠ a) (h2 : ¬ tk b.ts i < tk b.ts a) (h3 : tk b.ts i < tk b.ts a + 4) (hw : WrOk b a i) : wrL b a (i + 1) = wrL b a i ++ [⟨(at' b.ms i).f0, (at' b.ms i).f1, (at' b.ms i).f2, (at' b.ms i).f3, (at' b.ms i).f4, tk b.ts i⟩] ∧ WrOk b a (i + 1) := by
  have e := wr_stay h h2
  have h0 := (bk_tick hb hi).2.2.2.2.1
  have es : stayMv (tk b.ts a) (at' b.ms i) (tk b.ts i) = ⟨(at' b.ms i).f0, (at' b.ms i).f1, (at' b.ms i).f2, (at' b.ms i).f3, (at' b.ms i).f4, tk b.ts i⟩ := by unfold stayMv; rw [if_pos h3]
  rw [es] at e
  refine ⟨wrL_some e ?_, wrOk_succ hw fun m hm => ?_⟩
  · unfold laterMv
    dsimp only
    rw [if_neg (by omega)]
  · rw [e] at hm
    obtain rfl := Option.some.inj hm
    unfold LaterAt
    dsimp only
    omega
theorem wr_4 (h : i ≠ a) (h2 : ¬ tk b.ts i < tk b.ts a) (h3 : ¬ tk b.ts i < tk b.ts a + 4) (h5 : (at' b.ms i).f5 < 0) (h6 : (at' b.ms i).f3 < tk b.ts a + 4) (h7 : tk b.ts a + 4 ≤ (at' b.ms i).f4) (hw : WrOk b a i) : wrL b a (i + 1) = wrL b a i ++ [⟨(at' b.ms i).f0, (at' b.ms i).f1, (at' b.ms i).f2, tk b.ts a + 4, (at' b.ms i).f4, (at' b.ms i).f5⟩] ∧ WrOk b a (i + 1) := by
  have e := wr_stay h h2
  have es : stayMv (tk b.ts a) (at' b.ms i) (tk b.ts i) = at' b.ms i := by unfold stayMv; rw [if_neg h3]
  rw [es] at e
  refine ⟨wrL_some e ?_, wrOk_succ hw fun m hm => ?_⟩
  · unfold laterMv
    rw [if_pos h5, show max (at' b.ms i).f3 (tk b.ts a + 4) = tk b.ts a + 4 by omega]
  · rw [e] at hm
    obtain rfl := Option.some.inj hm
    unfold LaterAt
    omega
theorem wr_5 (hb : BkOk b) (hi : i < b.ms.length) (h : i ≠ a) (h2 : ¬ tk b.ts i < tk b.ts a) (h3 : ¬ tk b.ts i < tk b.ts a + 4) (h5 : ¬ ((at' b.ms i).f5 < 0 ∧ (at' b.ms i).f3 < tk b.ts a + 4)) (hw : WrOk b a i) : wrL b a (i + 1) = wrL b a i ++ [⟨(at' b.ms i).f0, (at' b.ms i).f1, (at' b.ms i).f2, (at' b.ms i).f3, (at' b.ms i).f4, (at' b.ms i).f5⟩] ∧ WrOk b a (i + 1) := by
  have e := wr_stay h h2
  have hr := mvOk_range (bk_tick hb hi).2.2.1
  have es : stayMv (tk b.ts a) (at' b.ms i) (tk b.ts i) = at' b.ms i := by unfold stayMv; rw [if_neg h3]
  rw [es] at e
  refine ⟨wrL_some e ?_, wrOk_succ hw fun m hm => ?_⟩
  · unfold laterMv
    split
    · rw [show max (at' b.ms i).f3 (tk b.ts a + 4) = (at' b.ms i).f3 by omega]
    · rfl
  · rw [e] at hm
    obtain rfl := Option.some.inj hm
    unfold LaterAt
    omega
theorem wr_no1 (h : i = a) (h2 : ¬ tk b.ts a + 6 ≤ (at' b.ms i).f4) : ¬ RoundOk b a := fun h3 => by
  subst h
  exact h2 h3.1
theorem wr_no4 (hb : BkOk b) (ha : a < b.ms.length) (hi : i < b.ms.length) (h : i ≠ a) (h2 : ¬ tk b.ts i < tk b.ts a) (h3 : ¬ tk b.ts i < tk b.ts a + 4) (h5 : (at' b.ms i).f5 < 0) (h7 : ¬ tk b.ts a + 4 ≤ (at' b.ms i).f4) : ¬ RoundOk b a := by
  have e := wr_stay h h2
  have es : stayMv (tk b.ts a) (at' b.ms i) (tk b.ts i) = at' b.ms i := by unfold stayMv; rw [if_neg h3]
  rw [es] at e
  refine wr_no hb ha hi e fun q => ?_
  unfold LaterAt at q
  omega
end Go.AM

/- Plain facts: what the laws ask of the four ways to change a book; no condition. -/
namespace Go.AM
set_option linter.unusedVariables false
set_option linter.unusedSimpArgs false
open Go.RowKit

theorem roundR_facts (b : Bk) (n : ByteArray) : BkOk (roundR b n).1 ∧ ((roundR b n).2 = 5 → ¬ SureM b) ∧ (1 < (roundR b n).2 → (roundR b n).1 = b) ∧ ((roundR b n).2 = 0 → BkOk b ∧ PromB b (roundR b n).1 n ∧ b.now + 6 ≤ wtk (roundR b n).1 n) := by
  refine ⟨roundR_ok b n, ?_⟩
  by_cases hb : BkOk b
  · rcases roundR_cases n hb with ⟨c, h1, h2, h, h3⟩ | ⟨a, h1, h2, h3, h4, h5, h⟩
    · rw [h]
      exact ⟨h3, fun _ => rfl, fun h => absurd (show c = 0 from h) (by omega)⟩
    · rw [h]
      refine ⟨fun h => absurd (show (0 : Int) = 5 from h) (by omega), fun h => absurd (show (1 : Int) < 0 from h) (by omega), fun _ => ⟨hb, ?_, ?_⟩⟩
      · rw [← h2]; exact round_prom hb h1 h5
      · rw [← h2, ← h4]; exact round_late hb h1 h5
  · have h : roundR b n = (Bk.z, 1) := by unfold roundR; rw [if_pos hb]
    rw [h]
    exact ⟨fun h => absurd (show (1 : Int) = 5 from h) (by omega), fun h => absurd (show (1 : Int) < 1 from h) (by omega), fun h => absurd (show (1 : Int) = 0 from h) (by omega)⟩
theorem addR_facts (b : Bk) (m : Mv) : BkOk (addR b m).1 ∧ (1 < (addR b m).2 → (addR b m).1 = b) ∧ ((addR b m).2 = 0 → SureM (addR b m).1 ∧ (addR b m).1.ms.length = b.ms.length + 1 ∧ PromB b (addR b m).1 ByteArray.empty) := by
  refine ⟨addR_ok b m, ?_⟩
  by_cases hb : BkOk b
  · have hp := addR_prom m ByteArray.empty hb
    rcases addR_cases m hb with ⟨c, h1, h2, h⟩ | ⟨t, h, h2, h3, _⟩
    · rw [h]
      exact ⟨fun _ => rfl, fun h => absurd (show c = 0 from h) (by omega)⟩
    · rw [h] at hp ⊢
      exact ⟨fun h => absurd (show (1 : Int) < 0 from h) (by omega), fun _ => ⟨h2, putM_len _ _, hp⟩⟩
  · have h : addR b m = (Bk.z, 1) := by unfold addR; rw [if_pos hb]
    rw [h]
    exact ⟨fun h => absurd (show (1 : Int) < 1 from h) (by omega), fun h => absurd (show (1 : Int) = 0 from h) (by omega)⟩
theorem dropR_facts (b : Bk) (n : ByteArray) : BkOk (dropR b n).1 ∧ (1 < (dropR b n).2 → (dropR b n).1 = b) ∧ ((dropR b n).2 = 0 → BkOk b ∧ NoLtB b (dropR b n).1 ∧ (dropR b n).1.ms.length + 1 = b.ms.length ∧ (SureM b → SureM (dropR b n).1)) := by
  refine ⟨dropR_ok n, ?_⟩
  by_cases hb : BkOk b
  · have h1 := dropR_noLt n hb
    have h2 := fun h => dropR_sure (b := b) n h
    rcases dropR_codes n hb with ⟨h, h3⟩ | ⟨h, h3⟩
    · exact ⟨fun q => absurd q (by omega), fun _ => ⟨hb, h1, h3, h2⟩⟩
    · exact ⟨fun _ => h3, fun q => absurd q (by omega)⟩
  · have h : dropR b n = (Bk.z, 1) := by unfold dropR; rw [if_pos hb]
    rw [h]
    exact ⟨fun h => absurd (show (1 : Int) < 1 from h) (by omega), fun h => absurd (show (1 : Int) = 0 from h) (by omega)⟩
theorem tickR_facts (b : Bk) : BkOk (tickR b).1 ∧ (tickR b).2.1.length ≤ 1 ∧ (1 < (tickR b).2.2 → (tickR b).1 = b) ∧ ((tickR b).2.2 = 0 → BkOk b ∧ PromB b (tickR b).1 ByteArray.empty ∧ (tickR b).1.ms.length + (tickR b).2.1.length = b.ms.length ∧ (SureM b → SureM (tickR b).1)) := by
  refine ⟨tickR_ok b, ?_⟩
  by_cases hb : BkOk b
  · have h1 := tickR_prom ByteArray.empty hb
    have h2 := fun h => tickR_sure (b := b) h
    rcases tickR_codes hb with ⟨h, h3, h4⟩ | ⟨h, h3, h4⟩
    · exact ⟨h4, fun q => absurd q (by omega), fun _ => ⟨hb, h1, h3, h2⟩⟩
    · exact ⟨by rw [h4]; exact Nat.zero_le _, fun _ => h3, fun q => absurd q (by omega)⟩
  · have h : tickR b = (⟨0, 0, [], []⟩, [], 1) := by unfold tickR; rw [if_neg hb]
    rw [h]
    exact ⟨Nat.zero_le _, fun h => absurd (show (1 : Int) < 1 from h) (by omega), fun h => absurd (show (1 : Int) = 0 from h) (by omega)⟩
/-! ### Books that are sure stay so -/
theorem gen_add {b : Bk} (h : SureM b) (m : Mv) : SureM (addR b m).1 ∧ PromB b (addR b m).1 ByteArray.empty ∧ (1 < (addR b m).2 → (addR b m).1 = b) := ⟨addR_sure m h, addR_prom m _ h.1, (addR_facts b m).2.1⟩
theorem gen_drop {b : Bk} (h : SureM b) (n : ByteArray) : SureM (dropR b n).1 ∧ PromB b (dropR b n).1 ByteArray.empty ∧ (1 < (dropR b n).2 → (dropR b n).1 = b) ∧ NoLtB b (dropR b n).1 := ⟨dropR_sure n h, dropR_prom n _ h.1, (dropR_facts b n).2.1, dropR_noLt n h.1⟩
theorem gen_tick {b : Bk} (h : SureM b) : SureM (tickR b).1 ∧ PromB b (tickR b).1 ByteArray.empty ∧ (1 < (tickR b).2.2 → (tickR b).1 = b) ∧ True := ⟨tickR_sure h, tickR_prom _ h.1, (tickR_facts b).2.2.1, trivial⟩
end Go.AM

/- Sessions: the texts they answer; plain facts; no condition. -/
namespace Go.AM
set_option linter.unusedVariables false
set_option linter.unusedSimpArgs false
open Go.RowKit

abbrev tCode : ByteArray := ⟨#[99, 111, 100, 101, 32]⟩
abbrev tNow : ByteArray := ⟨#[110, 111, 119, 32]⟩
abbrev tBad : ByteArray := ⟨#[98, 97, 100]⟩
abbrev tSp : ByteArray := ⟨#[32]⟩
abbrev tAt : ByteArray := ⟨#[64]⟩
abbrev tBang : ByteArray := ⟨#[33]⟩
abbrev tLate : ByteArray := ⟨#[32, 108, 97, 116, 101, 32]⟩
abbrev tMost : ByteArray := ⟨#[32, 109, 111, 115, 116, 32]⟩
abbrev tYes : ByteArray := ⟨#[121, 101, 115]⟩
abbrev tNo : ByteArray := ⟨#[110, 111]⟩
abbrev tE : ByteArray := ⟨#[]⟩
def codeM (b : Bk) (r : Bk × Int) : Bk × ByteArray := (if r.2 = 0 then r.1 else b, tCode ++ decM r.2)
def namesM (o : ByteArray) (l : List ByteArray) : ByteArray := l.foldl (fun o x => o ++ x ++ tSp) o
def tickM : Nat → Bk → ByteArray → Bk × ByteArray
  | 0, b, o => (b, o ++ tNow ++ decM b.now)
  | n + 1, b, o => if (tickR b).2.2 ≠ 0 then (b, o ++ tCode ++ decM (tickR b).2.2) else tickM n (tickR b).1 (namesM o (tickR b).2.1)
theorem tkOne {b : Bk} (hb : BkOk b) : ((tickR b).2.2 = 2 ∧ (tickR b).1 = b ∧ (tickR b).2.1 = []) ∨ ((tickR b).2.2 = 0 ∧ BkOk (tickR b).1 ∧ ((tickR b).2.1 = [] ∨ ∃ x, (tickR b).2.1 = [x] ∧ x.size ≤ 8)) := by
  rcases tickR_codes hb with ⟨h1, _, h3⟩ | ⟨h1, h2, h3⟩
  · refine .inr ⟨h1, (tickR_facts b).1, ?_⟩
    have hsz : ∀ x ∈ (tickR b).2.1, x.size ≤ 8 := by
      unfold tickR at h1 ⊢
      rw [if_pos hb] at h1 ⊢
      split
      · intro x hx; simp at hx
      · have := foldFrom_inv (step := tickStep b) (fun _ s => ∀ x ∈ s.2.2, x.size ≤ 8) (n := b.ms.length) (fun i s hi hs => by
          unfold tickStep
          split
          · intro x hx
            simp only [List.mem_append, List.mem_singleton] at hx
            rcases hx with hx | rfl
            · exact hs x hx
            · exact (mvOk_range (hb.2.2.1.1.2 i hi).1).2.1
          · exact hs) b.ms.length 0 ([], [], []) (by omega) (fun x hx => by simp at hx)
        exact this
    generalize (tickR b).2.1 = l at *
    match l, h3 with
    | [], _ => exact .inl rfl
    | [x], _ => exact .inr ⟨x, rfl, hsz x (by simp)⟩
  · exact .inl ⟨h1, h2, h3⟩
theorem app_size (a b : ByteArray) : (a ++ b).size = a.size + b.size := ByteArray.size_append
theorem names_size {o : ByteArray} {l : List ByteArray} (h : l = [] ∨ ∃ x, l = [x] ∧ x.size ≤ 8) : (namesM o l).size ≤ o.size + 9 := by
  rcases h with rfl | ⟨x, rfl, hx⟩
  · exact Nat.le_add_right _ _
  · show (o ++ x ++ tSp).size ≤ _
    rw [app_size, app_size]
    show o.size + x.size + 1 ≤ _
    omega
theorem dec_now {b : Bk} (hb : BkOk b) : (decM b.now).size ≤ 20 := decM_size (by have := hb.1; unfold W64; omega)
theorem tickM_ok : ∀ (n : Nat) (b : Bk) (o : ByteArray), BkOk b → BkOk (tickM n b o).1 ∧ (tickM n b o).2.size ≤ o.size + 9 * n + 25
  | 0, b, o, hb => ⟨hb, by
    show (o ++ tNow ++ decM b.now).size ≤ _
    rw [app_size, app_size]
    have := dec_now hb
    show o.size + 4 + _ ≤ _
    omega⟩
  | n + 1, b, o, hb => by
    unfold tickM
    rcases tkOne hb with ⟨h1, h2, h3⟩ | ⟨h1, h2, h3⟩
    · rw [if_pos (by rw [h1]; decide)]
      refine ⟨hb, ?_⟩
      show (o ++ tCode ++ decM (tickR b).2.2).size ≤ _
      rw [app_size, app_size]
      have : (decM (tickR b).2.2).size ≤ 20 := decM_size (by rw [h1]; unfold W64; omega)
      show o.size + 5 + _ ≤ _
      omega
    · rw [if_neg (by rw [h1]; decide)]
      obtain ⟨k1, k2⟩ := tickM_ok n (tickR b).1 (namesM o (tickR b).2.1) h2
      have := names_size (o := o) h3
      exact ⟨k1, by omega⟩
/-! ### The plan's order, tick by tick -/
def Qf (ts : List Int) (t i : Int) (L : List Int) : List Int := L.filter fun p => decide (tk ts p.toNat < t) || (decide (tk ts p.toNat = t) && decide (p < i))
theorem q_hit {ts L : List Int} {t i : Int} (hs : L.Pairwise fun a b => tk ts a.toNat < tk ts b.toNat) (hi : i ∈ L) (ht : tk ts i.toNat = t) : Qf ts t (i + 1) L = Qf ts t i L ++ [i] := by
  obtain ⟨A, B, rfl⟩ := List.append_of_mem hi
  rw [List.pairwise_append, List.pairwise_cons] at hs
  obtain ⟨_, ⟨hB, _⟩, hA⟩ := hs
  unfold Qf
  simp only [List.filter_append, List.filter_cons]
  have a1 : ∀ z : Int, A.filter (fun p => decide (tk ts p.toNat < t) || (decide (tk ts p.toNat = t) && decide (p < z))) = A := fun z => List.filter_eq_self.2 fun a ha => by
    have := hA a ha i (by simp)
    rw [ht] at this
    simp [this]
  have b1 : ∀ z : Int, B.filter (fun p => decide (tk ts p.toNat < t) || (decide (tk ts p.toNat = t) && decide (p < z))) = [] := fun z => List.filter_eq_nil_iff.2 fun a ha => by
    have := hB a ha
    rw [ht] at this
    simp only [Bool.or_eq_true, Bool.and_eq_true, decide_eq_true_eq, not_or, not_and]
    exact ⟨by omega, fun h => absurd h (by omega)⟩
  rw [a1, a1, b1, b1, ht]
  have c1 : (decide (t < t) || decide (t = t) && decide (i < i + 1)) = true := by simp; omega
  have c2 : (decide (t < t) || decide (t = t) && decide (i < i)) = false := by simp
  rw [if_pos c1, if_neg (by rw [c2]; decide), List.append_nil]
theorem q_miss {ts L : List Int} {t i : Int} (h : tk ts i.toNat ≠ t) : Qf ts t (i + 1) L = Qf ts t i L := by
  unfold Qf
  refine List.filter_congr fun p _ => ?_
  by_cases e : p = i
  · subst e
    simp [h]
  · have : decide (p < i + 1) = decide (p < i) := decide_eq_decide.2 (by omega)
    rw [this]
theorem q_next {ts L : List Int} {t n : Int} (h : ∀ p ∈ L, 0 ≤ p ∧ p < n) : Qf ts t n L = Qf ts (t + 1) 0 L := by
  unfold Qf
  refine List.filter_congr fun p hp => ?_
  have h1 := h p hp
  rw [Bool.eq_iff_iff]
  simp only [Bool.or_eq_true, Bool.and_eq_true, decide_eq_true_eq]
  omega
theorem q_none {ts L : List Int} {t : Int} (h : ∀ p ∈ L, 0 ≤ p ∧ t ≤ tk ts p.toNat) : Qf ts t 0 L = [] := by
  unfold Qf
  refine List.filter_eq_nil_iff.2 fun p hp => ?_
  have h1 := h p hp
  simp only [Bool.or_eq_true, Bool.and_eq_true, decide_eq_true_eq]
  omega
theorem q_all {ts L : List Int} {t : Int} (h : ∀ p ∈ L, tk ts p.toNat < t) : Qf ts t 0 L = L := by
  unfold Qf
  refine List.filter_eq_self.2 fun p hp => ?_
  simp [h p hp]
theorem q_len {ts L : List Int} {t i : Int} : (Qf ts t i L).length ≤ L.length := List.length_filter_le _ _
def planL (b : Bk) : List Int := ordT b.ts b.ms.length
theorem planL_len (b : Bk) : (planL b).length = b.ms.length := (ordT_ord _ _).2
theorem planL_mem (b : Bk) {p : Int} : p ∈ planL b ↔ 0 ≤ p ∧ p < b.ms.length := by
  have hp := isort_perm (lt := byTick b.ts) (d := 0) (xs := upTo b.ms.length) (n := b.ms.length) (by rw [upTo_len]; exact Nat.le_refl _)
  rw [List.take_of_length_le (by rw [upTo_len]; exact Nat.le_refl _)] at hp
  unfold planL ordT
  rw [hp.mem_iff]
  unfold upTo
  simp only [List.mem_map, List.mem_range]
  constructor
  · rintro ⟨i, hi, rfl⟩; omega
  · intro h; exact ⟨p.toNat, by omega, by omega⟩
theorem planL_asc {b : Bk} (hf : Fits b.ms b.ts) : (planL b).Pairwise fun x y => tk b.ts x.toNat < tk b.ts y.toNat := by
  rw [List.pairwise_iff_getElem]
  intro j k hj hk hjk
  have hl := planL_len b
  obtain ⟨ho, hlen⟩ := ordT_ord b.ts b.ms.length
  have hs := isort_sorted (ltT_srt fun a : Int => tk b.ts a.toNat) (d := 0) (xs := upTo b.ms.length) (n := b.ms.length)
  have h1 := sorted_get hs 0 hjk (by rw [isort_len]; omega)
  simp only [decide_eq_false_iff_not] at h1
  have e : isort (fun a b' : Int => decide (tk b.ts a.toNat < tk b.ts b'.toNat)) 0 (upTo b.ms.length) b.ms.length = planL b := rfl
  rw [e] at h1
  have g : ∀ q (h : q < (planL b).length), (planL b).getD q 0 = (planL b)[q] := fun q h => by rw [List.getD_eq_getElem?_getD, List.getElem?_eq_getElem h]; rfl
  rw [g j hj, g k hk] at h1
  have hne : pl (planL b) j ≠ pl (planL b) k := fun q => by
    have := pl_inj ho (show j < (ordT b.ts b.ms.length).length by omega) (by omega) q
    omega
  have m1 := (planL_mem b).1 (List.getElem_mem hj)
  have m2 := (planL_mem b).1 (List.getElem_mem hk)
  have p1 : pl (planL b) j = (planL b)[j].toNat := by unfold pl; rw [g j hj]
  have p2 : pl (planL b) k = (planL b)[k].toNat := by unfold pl; rw [g k hk]
  rw [p1, p2] at hne
  have hap := ((hf.2.2 _ (show (planL b)[j].toNat < b.ms.length by omega)).2 _ (show (planL b)[k].toNat < b.ms.length by omega) (fun q => hne q.symm)).1
  omega
def planI (b : Bk) (o : ByteArray) (p : Int) : ByteArray :=
  if 0 ≤ (at' b.ms p.toNat).f5 then o ++ (tSp ++ (at' b.ms p.toNat).f0 ++ tAt ++ decM (tk b.ts p.toNat)) ++ tBang else o ++ (tSp ++ (at' b.ms p.toNat).f0 ++ tAt ++ decM (tk b.ts p.toNat))
def planG (b : Bk) (L : List Int) : ByteArray := L.foldl (planI b) (decM b.now)
def planS (b : Bk) : ByteArray := planG b (planL b) ++ tLate ++ decM (costF b.ms b.ts).1 ++ tMost ++ decM (costF b.ms b.ts).2
theorem planG_snoc (b : Bk) (L : List Int) (p : Int) : planG b (L ++ [p]) = planI b (planG b L) p := by unfold planG; rw [List.foldl_append]; rfl
theorem planI_size {b : Bk} (hb : BkOk b) {o : ByteArray} {p : Nat} (hp : p < b.ms.length) : (decM (tk b.ts p)).size ≤ 20 ∧ (at' b.ms p).f0.size ≤ 8 ∧ (planI b o (p : Int)).size ≤ o.size + 40 := by
  have hf := hb.2.2.1
  have h1 : (decM (tk b.ts p)).size ≤ 20 := decM_size (by
    have := inR_range hf.1 hp (hf.2.2 p hp).1
    unfold W64; omega)
  have h2 := (mvOk_range (hf.1.2 p hp).1).2.1
  refine ⟨h1, h2, ?_⟩
  have e1 : tSp.size = 1 := rfl
  have e2 : tAt.size = 1 := rfl
  have e3 : tBang.size = 1 := rfl
  unfold planI
  rw [Int.toNat_natCast]
  split <;> simp only [app_size] <;> omega
theorem planG_size {b : Bk} (hb : BkOk b) : ∀ (k : Nat) (L : List Int), L.length ≤ k → (∀ p ∈ L, 0 ≤ p ∧ p < b.ms.length) → (planG b L).size ≤ 20 + 40 * L.length := by
  intro k L _ hm
  have : ∀ (L : List Int) (o : ByteArray), (∀ p ∈ L, 0 ≤ p ∧ p < b.ms.length) → (L.foldl (planI b) o).size ≤ o.size + 40 * L.length := by
    intro L
    induction L with
    | nil => intro o _; simp
    | cons p L ih =>
      intro o h
      have h1 := h p (by simp)
      have h2 := ih (planI b o p) fun q hq => h q (by simp [hq])
      obtain ⟨u, rfl⟩ := Int.eq_ofNat_of_zero_le h1.1
      have h3 := (planI_size hb (o := o) (p := u) (by omega)).2.2
      simp only [List.foldl_cons, List.length_cons]
      omega
  have h1 := this L (decM b.now) hm
  have := dec_now hb
  unfold planG
  omega
theorem cost_rng {b : Bk} (hb : BkOk b) : W64 (costF b.ms b.ts).1 ∧ W64 (costF b.ms b.ts).2 ∧ (decM (costF b.ms b.ts).1).size ≤ 20 ∧ (decM (costF b.ms b.ts).2).size ≤ 20 ∧ (0 ≤ (costF b.ms b.ts).1 ∧ (costF b.ms b.ts).1 ≤ 1000000) ∧ 0 ≤ (costF b.ms b.ts).2 ∧ (costF b.ms b.ts).2 ≤ 1000000 := by
  have hf := hb.2.2.1
  unfold costF
  rw [if_pos hf]
  have h1 := costM_inv (fits_dl hf)
  have h6 := hf.1.1
  unfold CInv at h1
  have a1 : W64 (costM b.ms b.ts).1 := by unfold W64; omega
  have a2 : W64 (costM b.ms b.ts).2 := by unfold W64; omega
  exact ⟨a1, a2, decM_size a1, decM_size a2, by omega, by omega⟩
theorem planS_size {b : Bk} (hb : BkOk b) : (planS b).size ≤ 400 := by
  have h1 := planG_size hb _ (planL b) (Nat.le_refl _) fun p hp => (planL_mem b).1 hp
  rw [planL_len] at h1
  have h6 := hb.2.2.1.1.1
  obtain ⟨_, _, c1, c2, _⟩ := cost_rng hb
  have e1 : tLate.size = 6 := rfl
  have e2 : tMost.size = 6 := rfl
  unfold planS
  simp only [app_size]
  omega
end Go.AM

/- Sessions: what a code is answered, and ticks, on both sides; condition: a book that is right. -/
namespace Go.Proofs.YtlmdbeegmgfpnaaGreatDoor.AM
open Go.AM Go.RowKit
set_option linter.unusedVariables false
set_option linter.unusedSimpArgs false
set_option maxRecDepth 100000

theorem tCode_size : tCode.size = 5 := rfl
theorem tNow_size : tNow.size = 4 := rfl
theorem tSp_size : tSp.size = 1 := rfl
theorem tickM_succ (d : Nat) (b : Bk) (o : ByteArray) : tickM (d + 1) b o = if (tickR b).2.2 ≠ 0 then (b, o ++ tCode ++ decM (tickR b).2.2) else tickM d (tickR b).1 (namesM o (tickR b).2.1) := rfl
theorem came_ok (b b' : Bk) (c : Int) (hc : W60 c) : Ok P 29 [.one (.ptr (.k 0) 0), b'.lent, .one (.int .i64 c)] [some (.cells b.lent.atoms)] (.one (.str (tCode ++ decM c))) [some (.cells (if c = 0 then b' else b).lent.atoms)] := by
  have hi := itoa_ok c (w64_60 hc)
  have hz := decM_size (w64_60 hc)
  refine Ok.of_run (F := mk Tryz.f29 1) Tryz.func29 rfl rfl tabOk mixed rfl rfl rfl rfl rfl (Nat.le_of_ble_eq_true rfl) (Nat.le_of_ble_eq_true rfl) (.go 5000 ?_)
  by_cases h0 : c = 0
  · rw [if_pos h0]
    repeat' (conv => arg 4; whnf); first | refine Run.ret ⟨?_, rfl⟩ | refine Run.condT ?_ | refine Run.condf ?_ | refine Run.condD (fun h => ?_) (fun h => ?_) | refine Run.condN (fun h => ?_) (fun h => ?_) | refine Run.condE (fun h => ?_) (fun h => ?_) | refine Run.condF (fun h => ?_) (fun h => ?_) | refine Run.condM (fun h => ?_) (fun h => ?_) | refine Run.condB (fun h => ?_) (fun h => ?_) | refine Run.check1 ?_ | refine Run.call (hi) rfl ?_ | refine Run.need1 (by simp only [allP, true_and, and_true, tCode_size]; omega) ?_ | (exfalso; omega)
    all_goals first | rfl | (exfalso; omega) | trace_state
  · rw [if_neg h0]
    repeat' (conv => arg 4; whnf); first | refine Run.ret ⟨?_, rfl⟩ | refine Run.condT ?_ | refine Run.condf ?_ | refine Run.condD (fun h => ?_) (fun h => ?_) | refine Run.condN (fun h => ?_) (fun h => ?_) | refine Run.condE (fun h => ?_) (fun h => ?_) | refine Run.condF (fun h => ?_) (fun h => ?_) | refine Run.condM (fun h => ?_) (fun h => ?_) | refine Run.condB (fun h => ?_) (fun h => ?_) | refine Run.check1 ?_ | refine Run.call (hi) rfl ?_ | refine Run.need1 (by simp only [allP, true_and, and_true, tCode_size]; omega) ?_ | (exfalso; omega)
    all_goals first | rfl | (exfalso; omega) | trace_state
theorem scode_ok (b : Bk) (c : Int) (hc : W60 c) : Ok P 20 [b.lent, .one (.int .i64 c)] [] (.tup [b.lent, .one (.str (tCode ++ decM c))]) [] := by
  have hi := sdecA_ok c hc
  have hz := decM_size (w64_60 hc)
  refine Ok.of_run (F := mk Tryz.f20 0) Tryz.func20 rfl rfl tabOk mixed rfl rfl rfl rfl rfl (Nat.le_of_ble_eq_true rfl) (Nat.le_of_ble_eq_true rfl) (.go 5000 ?_)
  repeat' (conv => arg 4; whnf); first | refine Run.ret ⟨?_, rfl⟩ | refine Run.condT ?_ | refine Run.condf ?_ | refine Run.condD (fun h => ?_) (fun h => ?_) | refine Run.condN (fun h => ?_) (fun h => ?_) | refine Run.condE (fun h => ?_) (fun h => ?_) | refine Run.condF (fun h => ?_) (fun h => ?_) | refine Run.condM (fun h => ?_) (fun h => ?_) | refine Run.condB (fun h => ?_) (fun h => ?_) | refine Run.check1 ?_ | refine Run.call (hi) rfl ?_ | refine Run.need1 (by simp only [allP, true_and, and_true, tCode_size]; omega) ?_ | (exfalso; omega)
  all_goals first | rfl | trace_state
theorem ticks_ok (b0 : Bk) (n : Nat) (h0 : BkOk b0) (hn : n ≤ 1000) (z : Int) (hz : z = n) : Ok P 33 [.one (.ptr (.k 0) 0), .one (.int .i64 z)] [some (.cells b0.lent.atoms)] (.one (.str (tickM n b0 tE).2)) [some (.cells (tickM n b0 tE).1.lent.atoms)] := by
  subst hz
  refine Ok.of_run (F := mk Tryz.f33 1) Tryz.func33 rfl rfl tabOk mixed rfl rfl rfl rfl rfl (Nat.le_of_ble_eq_true rfl) (Nat.le_of_ble_eq_true rfl) (.go 5000 ?_)
  have loop : ∀ (d : Nat) (b : Bk) (z : Int) (o : ByteArray), z = d → d ≤ n → BkOk b → o.size ≤ 10 * (n - d) → tickM d b o = tickM n b0 tE → Run P (mk Tryz.f33 1) (fun v st => v = .one (.str (tickM n b0 tE).2) ∧ st = [some (.cells (tickM n b0 tE).1.lent.atoms)])
      (.loop ⟨[(0, .one (.ptr (.k 0) 0)), (1, .one (.int .i64 z)), (5, .one (.str o))], [(.k 0, some (.cells b.lent.atoms))], [.lp [0, 0, 1, 1], .blk 0, .code [1, 1, 1]], none⟩) := by
    intro d
    induction d with
    | zero =>
      intro b z o hz hd hb ho he
      subst hz
      rw [← he]
      have hi := itoa_ok b.now (by have := hb.1; unfold W64; omega)
      have hsz := dec_now hb
      clear he
      refine Run.loop ?_
      repeat' (conv => arg 4; whnf); first | refine Run.ret ⟨?_, rfl⟩ | refine Run.condT ?_ | refine Run.condf ?_ | refine Run.condD (fun h => ?_) (fun h => ?_) | refine Run.condN (fun h => ?_) (fun h => ?_) | refine Run.condE (fun h => ?_) (fun h => ?_) | refine Run.condF (fun h => ?_) (fun h => ?_) | refine Run.condM (fun h => ?_) (fun h => ?_) | refine Run.condB (fun h => ?_) (fun h => ?_) | refine Run.check1 ?_ | refine Run.call (hi) rfl ?_ | refine Run.need1 (by simp only [allP, true_and, and_true, tNow_size, app_size]; omega) ?_ | (exfalso; omega)
      all_goals first | rfl | (exfalso; omega) | trace_state
    | succ d ih =>
      intro b z o hz hd hb ho he
      subst hz
      have hpr := wrap_pred (z := ((d + 1 : Nat) : Int)) rfl (by omega)
      have hbd := bkD_of hb
      have ht := tick_ok b (by have := hbd.lm; omega) (by have := hbd.lt; omega) (tkWf_l hbd.td)
      have h1 := tkOne hb
      have hns := fun h => names_size (o := o) (l := (tickR b).2.1) h
      rw [tickM_succ] at he
      generalize tickR b = r at *
      obtain ⟨b', l, c⟩ := r
      dsimp only at h1 he ht hns
      rcases h1 with ⟨rfl, rfl, rfl⟩ | ⟨rfl, h2, h3⟩
      · rw [if_pos (by decide)] at he
        rw [← he]
        have hi := itoa_ok 2 (by unfold W64; omega)
        have hsz := decM_size (n := 2) (by unfold W64; omega)
        clear ih he hns
        refine Run.loop ?_
        repeat' (conv => arg 4; whnf); first | refine Run.ret ⟨?_, rfl⟩ | refine Run.condT ?_ | refine Run.condf ?_ | refine Run.condD (fun h => ?_) (fun h => ?_) | refine Run.condN (fun h => ?_) (fun h => ?_) | refine Run.condE (fun h => ?_) (fun h => ?_) | refine Run.condF (fun h => ?_) (fun h => ?_) | refine Run.condM (fun h => ?_) (fun h => ?_) | refine Run.condB (fun h => ?_) (fun h => ?_) | refine Run.check1 ?_ | refine Run.call (hi) rfl ?_ | refine Run.call (ht) rfl ?_ | refine Run.need1 (by simp only [allP, true_and, and_true, tCode_size, app_size]; omega) ?_ | (exfalso; omega)
        all_goals first | rfl | (exfalso; omega) | trace_state
      · rw [if_neg (by decide)] at he
        have hns := hns h3
        rcases h3 with rfl | ⟨x, rfl, hx⟩
        · refine Run.loop ?_
          repeat' (conv => arg 4; whnf); first | refine Run.ret ⟨?_, rfl⟩ | refine Run.condT ?_ | refine Run.condf ?_ | refine Run.condD (fun h => ?_) (fun h => ?_) | refine Run.condN (fun h => ?_) (fun h => ?_) | refine Run.condE (fun h => ?_) (fun h => ?_) | refine Run.condF (fun h => ?_) (fun h => ?_) | refine Run.condM (fun h => ?_) (fun h => ?_) | refine Run.condB (fun h => ?_) (fun h => ?_) | refine Run.check1 ?_ | refine Run.call (ht) rfl ?_ | refine Run.round ⟨[], [], [.t 20 0, .t 20 1]⟩ (ih b' _ _ hpr (by omega) h2 ?_ he) rfl (by (repeat' (first | exact wkEnv_nil | refine wkEnv_cons rfl ?_ | exact wkSto_nil | refine wkSto_none ?_ | refine wkSto_some rfl ?_)); done) (by (repeat' (first | exact wkEnv_nil | refine wkEnv_cons rfl ?_ | exact wkSto_nil | refine wkSto_none ?_ | refine wkSto_some rfl ?_)); done) | (refine Run.loop ?_) | (exfalso; omega)
          all_goals first | rfl | omega | trace_state
        · have hxs : (rdS [x] 0).size ≤ 8 := hx
          have e0 : o ++ (x ++ tSp) = namesM o [x] := (ByteArray.append_assoc).symm
          have he2 : tickM d b' (o ++ (x ++ tSp)) = tickM n b0 tE := by rw [e0]; exact he
          have hs2 : (o ++ (x ++ tSp)).size ≤ 10 * (n - d) := by rw [e0]; omega
          have e1 : wrap64 (0 + 1) = 1 := (wrap_eq (by omega) (by omega)).trans (by omega)
          have hfin : wrap64 (0 + 1) < (([x].length : Nat) : Int) → False := by rw [e1]; simp
          refine Run.loop ?_
          repeat' (conv => arg 4; whnf); first | refine Run.ret ⟨?_, rfl⟩ | refine Run.condT ?_ | refine Run.condf ?_ | refine Run.condD (fun h => ?_) (fun h => ?_) | refine Run.condN (fun h => ?_) (fun h => ?_) | refine Run.condE (fun h => ?_) (fun h => ?_) | refine Run.condF (fun h => ?_) (fun h => ?_) | refine Run.condM (fun h => ?_) (fun h => ?_) | refine Run.condB (fun h => ?_) (fun h => ?_) | refine Run.check1 ?_ | (exfalso; exact hfin ‹_›) | refine Run.call (ht) rfl ?_ | refine Run.need1 (by simp only [allP, true_and, and_true, tSp_size, app_size, List.length_cons, List.length_nil]; omega) ?_ | refine Run.round ⟨[], [], [.t 20 0, .t 20 1]⟩ (ih b' _ _ hpr (by omega) h2 ?_ ?_) rfl (by (repeat' (first | exact wkEnv_nil | refine wkEnv_cons rfl ?_ | exact wkSto_nil | refine wkSto_none ?_ | refine wkSto_some rfl ?_)); done) (by (repeat' (first | exact wkEnv_nil | refine wkEnv_cons rfl ?_ | exact wkSto_nil | refine wkSto_none ?_ | refine wkSto_some rfl ?_)); done) | (refine Run.loop ?_) | (exfalso; omega)
          all_goals first | rfl | exact hs2 | exact he2 | (exfalso; omega) | trace_state
  repeat' (conv => arg 4; whnf); first | refine Run.ret ⟨?_, rfl⟩ | refine Run.condT ?_ | refine Run.condf ?_ | refine Run.condD (fun h => ?_) (fun h => ?_) | refine Run.condN (fun h => ?_) (fun h => ?_) | refine Run.condE (fun h => ?_) (fun h => ?_) | refine Run.condF (fun h => ?_) (fun h => ?_) | refine Run.condM (fun h => ?_) (fun h => ?_) | refine Run.condB (fun h => ?_) (fun h => ?_) | refine Run.check1 ?_ | refine Run.round ⟨[], [], []⟩ (loop n b0 _ _ rfl (Nat.le_refl _) h0 (Nat.zero_le _) rfl) rfl (by (repeat' (first | exact wkEnv_nil | refine wkEnv_cons rfl ?_ | exact wkSto_nil | refine wkSto_none ?_ | refine wkSto_some rfl ?_)); done) (by (repeat' (first | exact wkEnv_nil | refine wkEnv_cons rfl ?_ | exact wkSto_nil | refine wkSto_none ?_ | refine wkSto_some rfl ?_)); done)
  all_goals trace_state
theorem sticks_ok (b0 : Bk) (n : Nat) (h0 : BkOk b0) (hn : n ≤ 1000) (z : Int) (hz : z = n) : Ok P 24 [b0.lent, .one (.int .i64 z)] [] (.tup [(tickM n b0 tE).1.lent, .one (.str (tickM n b0 tE).2)]) [] := by
  subst hz
  refine Ok.of_run (F := mk Tryz.f24 0) Tryz.func24 rfl rfl tabOk mixed rfl rfl rfl rfl rfl (Nat.le_of_ble_eq_true rfl) (Nat.le_of_ble_eq_true rfl) (.go 5000 ?_)
  have loop : ∀ (d i : Nat) (b : Bk) (z : Int) (o : ByteArray), z = i → i + d = n → BkOk b → o.size ≤ 10 * (n - d) → tickM d b o = tickM n b0 tE → Run P (mk Tryz.f24 0) (fun v st => v = .tup [(tickM n b0 tE).1.lent, .one (.str (tickM n b0 tE).2)] ∧ st = [])
      (.loop ⟨[(1, .one (.int .i64 (n : Int))), (2, .one (.ptr (.t 2 0) 0)), (4, .one (.ptr (.t 4 0) 0)), (6, .one (.str o)), (7, .one (.int .i64 z))], [(.t 2 0, some (.cells b.lent.atoms)), (.t 4 0, some (.cells [.int .i64 0, .int .i64 0, .nil, .nil]))], [.lp [0, 1, 0, 1, 1], .blk 0, .code [1, 1, 1]], none⟩) := by
    intro d
    induction d with
    | zero =>
      intro i b z o hz hd hb ho he
      subst hz
      rw [← he]
      have hi := sdecA_ok b.now (by have := hb.1; unfold W60; omega)
      have hsz := dec_now hb
      clear he
      refine Run.loop ?_
      repeat' (conv => arg 4; whnf); first | refine Run.ret ⟨?_, rfl⟩ | refine Run.condT ?_ | refine Run.condf ?_ | refine Run.condD (fun h => ?_) (fun h => ?_) | refine Run.condN (fun h => ?_) (fun h => ?_) | refine Run.condE (fun h => ?_) (fun h => ?_) | refine Run.condF (fun h => ?_) (fun h => ?_) | refine Run.condM (fun h => ?_) (fun h => ?_) | refine Run.condB (fun h => ?_) (fun h => ?_) | refine Run.check1 ?_ | refine Run.call (hi) rfl ?_ | refine Run.need1 (by simp only [allP, true_and, and_true, tNow_size, app_size]; omega) ?_ | (exfalso; omega)
      all_goals first | rfl | (exfalso; omega) | trace_state
    | succ d ih =>
      intro i b z o hz hd hb ho he
      subst hz
      have e := fs (i := i) (by omega)
      have hbd := bkD_of hb
      have ht := stick_ok b (by have := hbd.lm; omega) (by have := hbd.lt; omega) (tkWf_l hbd.td)
      have h1 := tkOne hb
      have hns := fun h => names_size (o := o) (l := (tickR b).2.1) h
      rw [tickM_succ] at he
      generalize tickR b = r at *
      obtain ⟨b', l, c⟩ := r
      dsimp only at h1 he ht hns
      rcases h1 with ⟨rfl, rfl, rfl⟩ | ⟨rfl, h2, h3⟩
      · rw [if_pos (by decide)] at he
        rw [← he]
        have hi := sdecA_ok 2 (by unfold W60; omega)
        have hsz := decM_size (n := 2) (by unfold W64; omega)
        clear ih he hns
        refine Run.loop ?_
        repeat' (conv => arg 4; whnf); first | refine Run.ret ⟨?_, rfl⟩ | refine Run.condT ?_ | refine Run.condf ?_ | refine Run.condD (fun h => ?_) (fun h => ?_) | refine Run.condN (fun h => ?_) (fun h => ?_) | refine Run.condE (fun h => ?_) (fun h => ?_) | refine Run.condF (fun h => ?_) (fun h => ?_) | refine Run.condM (fun h => ?_) (fun h => ?_) | refine Run.condB (fun h => ?_) (fun h => ?_) | refine Run.check1 ?_ | refine Run.call (hi) rfl ?_ | refine Run.call (ht) rfl ?_ | refine Run.need1 (by simp only [allP, true_and, and_true, tCode_size, app_size]; omega) ?_ | (exfalso; omega)
        all_goals first | rfl | (exfalso; omega) | trace_state
      · rw [if_neg (by decide)] at he
        have hns := hns h3
        rcases h3 with rfl | ⟨x, rfl, hx⟩
        · refine Run.loop ?_
          repeat' (conv => arg 4; whnf); first | refine Run.ret ⟨?_, rfl⟩ | refine Run.condT ?_ | refine Run.condf ?_ | refine Run.condD (fun h => ?_) (fun h => ?_) | refine Run.condN (fun h => ?_) (fun h => ?_) | refine Run.condE (fun h => ?_) (fun h => ?_) | refine Run.condF (fun h => ?_) (fun h => ?_) | refine Run.condM (fun h => ?_) (fun h => ?_) | refine Run.condB (fun h => ?_) (fun h => ?_) | refine Run.check1 ?_ | refine Run.call (ht) rfl ?_ | refine Run.round ⟨[(.t 2 0, .t 2 0), (.t 4 0, .t 4 0)], [], [.t 19 0, .t 19 1]⟩ (ih (i + 1) b' _ _ e.h (by omega) h2 ?_ he) rfl (by (repeat' (first | exact wkEnv_nil | refine wkEnv_cons rfl ?_ | exact wkSto_nil | refine wkSto_none ?_ | refine wkSto_some rfl ?_)); done) (by (repeat' (first | exact wkEnv_nil | refine wkEnv_cons rfl ?_ | exact wkSto_nil | refine wkSto_none ?_ | refine wkSto_some rfl ?_)); done) | (refine Run.loop ?_) | (exfalso; omega)
          all_goals first | rfl | omega | trace_state
        · have hxs : (rdS [x] 0).size ≤ 8 := hx
          have e0 : o ++ x ++ tSp = namesM o [x] := rfl
          have he2 : tickM d b' (o ++ x ++ tSp) = tickM n b0 tE := he
          have hs2 : (o ++ x ++ tSp).size ≤ 10 * (n - d) := by rw [e0]; omega
          have e1 : wrap64 (0 + 1) = 1 := (wrap_eq (by omega) (by omega)).trans (by omega)
          have hfin : wrap64 (0 + 1) < (([x].length : Nat) : Int) → False := by rw [e1]; simp
          refine Run.loop ?_
          repeat' (conv => arg 4; whnf); first | refine Run.ret ⟨?_, rfl⟩ | refine Run.condT ?_ | refine Run.condf ?_ | refine Run.condD (fun h => ?_) (fun h => ?_) | refine Run.condN (fun h => ?_) (fun h => ?_) | refine Run.condE (fun h => ?_) (fun h => ?_) | refine Run.condF (fun h => ?_) (fun h => ?_) | refine Run.condM (fun h => ?_) (fun h => ?_) | refine Run.condB (fun h => ?_) (fun h => ?_) | refine Run.check1 ?_ | (exfalso; exact hfin ‹_›) | refine Run.call (ht) rfl ?_ | refine Run.need1 (by simp only [allP, true_and, and_true, tSp_size, app_size, List.length_cons, List.length_nil]; omega) ?_ | refine Run.round ⟨[(.t 2 0, .t 2 0), (.t 4 0, .t 4 0)], [], [.t 19 0, .t 19 1]⟩ (ih (i + 1) b' _ _ e.h (by omega) h2 ?_ ?_) rfl (by (repeat' (first | exact wkEnv_nil | refine wkEnv_cons rfl ?_ | exact wkSto_nil | refine wkSto_none ?_ | refine wkSto_some rfl ?_)); done) (by (repeat' (first | exact wkEnv_nil | refine wkEnv_cons rfl ?_ | exact wkSto_nil | refine wkSto_none ?_ | refine wkSto_some rfl ?_)); done) | (refine Run.loop ?_) | (exfalso; omega)
          all_goals first | rfl | exact hs2 | exact he2 | (exfalso; omega) | trace_state
  repeat' (conv => arg 4; whnf); first | refine Run.ret ⟨?_, rfl⟩ | refine Run.condT ?_ | refine Run.condf ?_ | refine Run.condD (fun h => ?_) (fun h => ?_) | refine Run.condN (fun h => ?_) (fun h => ?_) | refine Run.condE (fun h => ?_) (fun h => ?_) | refine Run.condF (fun h => ?_) (fun h => ?_) | refine Run.condM (fun h => ?_) (fun h => ?_) | refine Run.condB (fun h => ?_) (fun h => ?_) | refine Run.check1 ?_ | refine Run.round ⟨[(.t 2 0, .t 2 0), (.t 4 0, .t 4 0)], [], []⟩ (loop n 0 b0 _ _ rfl (by omega) h0 (Nat.zero_le _) rfl) rfl (by (repeat' (first | exact wkEnv_nil | refine wkEnv_cons rfl ?_ | exact wkSto_nil | refine wkSto_none ?_ | refine wkSto_some rfl ?_)); done) (by (repeat' (first | exact wkEnv_nil | refine wkEnv_cons rfl ?_ | exact wkSto_nil | refine wkSto_none ?_ | refine wkSto_some rfl ?_)); done)
  all_goals trace_state
end Go.Proofs.YtlmdbeegmgfpnaaGreatDoor.AM

/- The entries behind sort.Slice, at slices of numbers and of moves; condition: places within the length. -/
namespace Go.Proofs.YtlmdbeegmgfpnaaGreatDoor.AM
open Go.AM Go.RowKit
set_option linter.unusedVariables false
set_option linter.unusedSimpArgs false
set_option maxRecDepth 100000

noncomputable def tiI : TypeInfo := (P.info? 30).get (by kernel_rfl)
noncomputable def eiI : TypeInfo := (P.info? 3).get (by kernel_rfl)
noncomputable def tiM : TypeInfo := (P.info? 29).get (by kernel_rfl)
noncomputable def eiM : TypeInfo := (P.info? 43).get (by kernel_rfl)
theorem skI {n : Nat} (h2 : 2 ≤ n) : Lib.swapperK n eiI 2 = 5 := by
  have a : eiI.hasPointers = false := by kernel_rfl
  have b : eiI.bytes = 8 := by kernel_rfl
  have c : (n == 0) = false := by simp; omega
  have d : (n == 1) = false := by simp; omega
  simp [Lib.swapperK, a, b, c, d]
theorem skM {n : Nat} (h2 : 2 ≤ n) : Lib.swapperK n eiM 25 = 9 := by
  have a : eiM.hasPointers = true := by kernel_rfl
  have b : eiM.bytes = 56 := by kernel_rfl
  have c : (n == 0) = false := by simp; omega
  have d : (n == 1) = false := by simp; omega
  simp [Lib.swapperK, a, b, c, d]
theorem sk0 {n : Nat} {ie : TypeInfo} {ke : Nat} (h : n = 0) : Lib.swapperK n ie ke = 1 := by subst h; rfl
theorem sk1 {n : Nat} {ie : TypeInfo} {ke : Nat} (h : n = 1) : Lib.swapperK n ie ke = 2 := by subst h; rfl
theorem valueOfI_ok (xs : List Int) : Ok P 86 [.one (.ifc 30 (.own (.k 0)))] [some (.row (.int .i64) xs)] (.agg [th P 30, .ptr (.k 1) 0, .int .u64 151]) [some (.row (.int .i64) xs), some (.cells [.own (.k 0)])] :=
  ok_valueOf (i := tiI) (e := 3) Tryz.func86 (by kernel_rfl) (by kernel_rfl) (by kernel_rfl) (by kernel_rfl) (by kernel_rfl) (by kernel_rfl)
theorem lenI_ok (xs : List Int) : Ok P 88 [.agg [th P 30, .ptr (.k 0) 0, .int .u64 151]] [some (.cells [.own (.k 1)]), some (.row (.int .i64) xs)] (.one (.int .i64 (xs.length : Int))) [some (.cells [.own (.k 1)]), some (.row (.int .i64) xs)] :=
  ok_valueLen (i := tiI) (e := 3) Tryz.func88 (by kernel_rfl) (by kernel_rfl) (by kernel_rfl) (by kernel_rfl) (by kernel_rfl) (by kernel_rfl) (by kernel_rfl)
theorem swapperI_ok (xs : List Int) (h : 2 ≤ xs.length) : Ok P 87 [.one (.ifc 30 (.own (.k 0)))] [some (.row (.int .i64) xs)] (.one (.fn 117 [.own (.k 0), th P 3])) [some (.row (.int .i64) xs)] :=
  ok_swapper (i := tiI) (ie := eiI) (e := 3) Tryz.func87 (by kernel_rfl) (by kernel_rfl) (by kernel_rfl) (by kernel_rfl) (by kernel_rfl) (by kernel_rfl) (by kernel_rfl) 2 (fun _ => by kernel_rfl) _ (by rw [skI h]; kernel_rfl) _ (by rw [if_neg (by omega)])
theorem swapper0I_ok (xs : List Int) (h : xs.length = 0) : Ok P 87 [.one (.ifc 30 (.own (.k 0)))] [some (.row (.int .i64) xs)] (.one (.fn 113 [])) [some (.row (.int .i64) xs)] :=
  ok_swapper (i := tiI) (ie := eiI) (e := 3) Tryz.func87 (by kernel_rfl) (by kernel_rfl) (by kernel_rfl) (by kernel_rfl) (by kernel_rfl) (by kernel_rfl) (by kernel_rfl) 2 (fun _ => by kernel_rfl) _ (by rw [sk0 h]; kernel_rfl) _ (by rw [if_pos (by omega)])
theorem swapper1I_ok (xs : List Int) (h : xs.length = 1) : Ok P 87 [.one (.ifc 30 (.own (.k 0)))] [some (.row (.int .i64) xs)] (.one (.fn 114 [])) [some (.row (.int .i64) xs)] :=
  ok_swapper (i := tiI) (ie := eiI) (e := 3) Tryz.func87 (by kernel_rfl) (by kernel_rfl) (by kernel_rfl) (by kernel_rfl) (by kernel_rfl) (by kernel_rfl) (by kernel_rfl) 2 (fun _ => by kernel_rfl) _ (by rw [sk1 h]; kernel_rfl) _ (by rw [if_pos (by omega)])
theorem swapI_ok (xs : List Int) (i j : Nat) (z y : Int) (hz : z = i) (hy : y = j) (hi : i < xs.length) (hj : j < xs.length) : Ok P 117 [.one (.int .i64 z), .one (.int .i64 y), .one (.own (.k 0)), .one (th P 3)] [some (.row (.int .i64) xs)] (.tup []) [some (.row (.int .i64) (swapL 0 xs i j))] := by
  subst hz hy
  exact ok_swap (ie := eiI) (e := 3) Tryz.func117 (by kernel_rfl) (by kernel_rfl) (by kernel_rfl) true (by kernel_rfl) (by kernel_rfl) (by kernel_rfl) (by rw [if_pos (show (El.int .i64).sz = 1 from rfl)]; exact fun _ => by kernel_rfl) hi hj
theorem valueOfM_ok (xs : List Mv) : Ok P 86 [.one (.ifc 29 (.own (.k 0)))] [some (.row .mv xs)] (.agg [th P 29, .ptr (.k 1) 0, .int .u64 151]) [some (.row .mv xs), some (.cells [.own (.k 0)])] :=
  ok_valueOf (i := tiM) (e := 43) Tryz.func86 (by kernel_rfl) (by kernel_rfl) (by kernel_rfl) (by kernel_rfl) (by kernel_rfl) (by kernel_rfl)
theorem lenM_ok (xs : List Mv) : Ok P 88 [.agg [th P 29, .ptr (.k 0) 0, .int .u64 151]] [some (.cells [.own (.k 1)]), some (.row .mv xs)] (.one (.int .i64 (xs.length : Int))) [some (.cells [.own (.k 1)]), some (.row .mv xs)] :=
  ok_valueLen (i := tiM) (e := 43) Tryz.func88 (by kernel_rfl) (by kernel_rfl) (by kernel_rfl) (by kernel_rfl) (by kernel_rfl) (by kernel_rfl) (by kernel_rfl)
theorem swapperM_ok (xs : List Mv) (h : 2 ≤ xs.length) : Ok P 87 [.one (.ifc 29 (.own (.k 0)))] [some (.row .mv xs)] (.one (.fn 121 [.own (.k 0), th P 43])) [some (.row .mv xs)] :=
  ok_swapper (i := tiM) (ie := eiM) (e := 43) Tryz.func87 (by kernel_rfl) (by kernel_rfl) (by kernel_rfl) (by kernel_rfl) (by kernel_rfl) (by kernel_rfl) (by kernel_rfl) 25 (fun _ => by kernel_rfl) _ (by rw [skM h]; kernel_rfl) _ (by rw [if_neg (by omega)])
theorem swapper1M_ok (xs : List Mv) (h : xs.length = 1) : Ok P 87 [.one (.ifc 29 (.own (.k 0)))] [some (.row .mv xs)] (.one (.fn 114 [])) [some (.row .mv xs)] :=
  ok_swapper (i := tiM) (ie := eiM) (e := 43) Tryz.func87 (by kernel_rfl) (by kernel_rfl) (by kernel_rfl) (by kernel_rfl) (by kernel_rfl) (by kernel_rfl) (by kernel_rfl) 25 (fun _ => by kernel_rfl) _ (by rw [sk1 h]; kernel_rfl) _ (by rw [if_pos (by omega)])
theorem swapM_ok (xs : List Mv) (i j : Nat) (z y : Int) (hz : z = i) (hy : y = j) (hi : i < xs.length) (hj : j < xs.length) : Ok P 121 [.one (.int .i64 z), .one (.int .i64 y), .one (.own (.k 0)), .one (th P 43)] [some (.row .mv xs)] (.tup []) [some (.row .mv (swapL Mv.z xs i j))] := by
  subst hz hy
  exact ok_swap (ie := eiM) (e := 43) Tryz.func121 (by kernel_rfl) (by kernel_rfl) (by kernel_rfl) false (by kernel_rfl) (by kernel_rfl) (by kernel_rfl) (by rw [if_neg (show ¬ El.mv.sz = 1 by decide)]; exact fun _ => by kernel_rfl) hi hj
end Go.Proofs.YtlmdbeegmgfpnaaGreatDoor.AM

/- StripFirst of the program, as far as one block of the library's stable sort; condition: fewer than 20 moves. -/
namespace Go.Proofs.YtlmdbeegmgfpnaaGreatDoor.AM
open Go.AM Go.RowKit
set_option linter.unusedVariables false
set_option linter.unusedSimpArgs false
set_option maxRecDepth 100000

theorem when_ok (m : Mv) : Ok P 155 [.agg (encMv m)] [] (.one (.int .i64 (key m))) [] := by
  refine Ok.of_run (F := mk Tryz.f155 0) Tryz.func155 rfl rfl tabOk mixed rfl rfl rfl rfl rfl (Nat.le_of_ble_eq_true rfl) (Nat.le_of_ble_eq_true rfl) (.go 5000 ?_)
  repeat' (conv => arg 4; whnf); first | refine Run.ret ⟨?_, rfl⟩ | refine Run.condT ?_ | refine Run.condf ?_ | refine Run.condD (fun h => ?_) (fun h => ?_) | refine Run.condN (fun h => ?_) (fun h => ?_) | refine Run.condE (fun h => ?_) (fun h => ?_) | refine Run.condF (fun h => ?_) (fun h => ?_) | refine Run.condM (fun h => ?_) (fun h => ?_) | refine Run.condB (fun h => ?_) (fun h => ?_) | refine Run.check1 ?_
  all_goals (refine vi ?_; unfold key; first | rw [if_pos ‹_›] | rw [if_neg ‹_›])
/-- What the sort's comparison reads: the moves, the places, when a move comes. -/
noncomputable def stF (l : List Mv) (xs : List Int) : List (Option C) := [some (.cells [.lst .mv l false]), some (.cells [.own (.k 3)]), some (.cells [.fn 155 []]), some (.row (.int .i64) xs)]
def InL (n : Nat) (xs : List Int) : Prop := ∀ x ∈ xs, 0 ≤ x ∧ x < (n : Int)
theorem inL_rd {n : Nat} {xs : List Int} (h : InL n xs) {i : Nat} (hi : i < xs.length) : 0 ≤ rd xs (i : Int) ∧ rd xs (i : Int) < (n : Int) := by
  rw [rd_nat, tk, List.getD_eq_getElem?_getD, List.getElem?_eq_getElem hi]
  exact h _ (List.getElem_mem hi)
theorem less_ok (l : List Mv) (xs : List Int) (hr : InL l.length xs) (i j : Nat) (z y : Int) (hz : z = i) (hy : y = j) (hi : i < xs.length) (hj : j < xs.length) :
    Ok P 157 [.one (.int .i64 z), .one (.int .i64 y), .one (.ptr (.k 0) 0), .one (.ptr (.k 1) 0), .one (.ptr (.k 2) 0)] (stF l xs) (.one (.bool (ltP l (xs.getD i 0) (xs.getD j 0)))) (stF l xs) := by
  subst hz hy
  have h1 := inL_rd hr hi
  have h2 := inL_rd hr hj
  have e1 : Fact (rdM l (rd xs i) = at' l (xs.getD i 0).toNat) := ⟨by rw [rd_nat]; rfl⟩
  have e2 : Fact (rdM l (rd xs j) = at' l (xs.getD j 0).toNat) := ⟨by rw [rd_nat]; rfl⟩
  refine Ok.of_run (F := mk Tryz.f157 4) Tryz.func157 rfl rfl tabOk mixed rfl rfl rfl rfl rfl (Nat.le_of_ble_eq_true rfl) (Nat.le_of_ble_eq_true rfl) (.go 5000 ?_)
  repeat' (conv => arg 4; whnf); first | refine Run.ret ⟨?_, rfl⟩ | refine Run.condT ?_ | refine Run.condf ?_ | refine Run.condD (fun h => ?_) (fun h => ?_) | refine Run.condN (fun h => ?_) (fun h => ?_) | refine Run.condE (fun h => ?_) (fun h => ?_) | refine Run.condF (fun h => ?_) (fun h => ?_) | refine Run.condM (fun h => ?_) (fun h => ?_) | refine Run.condB (fun h => ?_) (fun h => ?_) | refine Run.check1 ?_ | refine Run.need1 (by simp only [allP, true_and, and_true]; omega) ?_ | refine Run.call (when_ok _) rfl ?_
  all_goals (refine vb ?_; unfold ltP lessM; rw [← e1.h, ← e2.h])
  · have hne : ¬ key (rdM l (rd xs i)) = key (rdM l (rd xs j)) := ‹_›
    simp [hne]
  · have he : key (rdM l (rd xs i)) = key (rdM l (rd xs j)) := ‹_›
    simp [he, ltN]
/-- The sort's comparison and its exchange. -/
noncomputable def dataF : V := .agg [.fn 157 [.ptr (.k 0) 0, .ptr (.k 1) 0, .ptr (.k 2) 0], .fn 117 [.own (.k 3), th P 3]]
theorem insF_ok (l : List Mv) (xs : List Int) (hr : InL l.length xs) (h2 : 2 ≤ xs.length) (h20 : xs.length ≤ 1048576) (z y : Int) (hz : z = 0) (hy : y = xs.length) : Ok P 124 [dataF, .one (.int .i64 z), .one (.int .i64 y)] (stF l xs) (.tup []) (stF l (isort (ltP l) 0 xs xs.length)) := by
  subst hz hy
  have hs : Srt (ltP l) := lessM_srt (fun a : Int => at' l a.toNat)
  have w1 : Fact (wrap64 (0 + 1) = ((1 : Nat) : Int)) := ⟨(wrap_eq (by omega) (by omega)).trans (by omega)⟩
  refine Ok.of_run (F := mk Tryz.f124 4) Tryz.func124 rfl rfl tabOk mixed rfl rfl rfl rfl rfl (Nat.le_of_ble_eq_true rfl) (Nat.le_of_ble_eq_true rfl) (.go 5000 ?_)
  have outer : ∀ (d i : Nat) (z : Int) (row : List Int), z = i → row = sortedRow (ltP l) 0 xs i → (i + d = xs.length ∨ (d = 0 ∧ xs.length ≤ i)) → (xs.length ≤ i → row = isort (ltP l) 0 xs xs.length) → Run P (mk Tryz.f124 4) (fun v s => v = .tup [] ∧ s = stF l (isort (ltP l) 0 xs xs.length)) (.loop ⟨[(1, .one (.int .i64 0)), (2, .one (.int .i64 (xs.length : Int))), (3, .one (.ptr (.t 3 0) 0)), (6, .one (.int .i64 z))],
      [(.k 0, some (.cells [.lst .mv l false])), (.k 1, some (.cells [.own (.k 3)])), (.k 2, some (.cells [.fn 155 []])), (.k 3, some (.row (.int .i64) row)), (.t 3 0, some (.cells dataF.atoms))], [.lp [0, 1, 1], .blk 0], none⟩) := by
    intro d
    induction d with
    | zero =>
      intro i z row hz hrow hd hend
      subst hz
      have hend := hend (by omega)
      subst hend
      refine Run.loop ?_
      repeat' (conv => arg 4; whnf); first | refine Run.ret ⟨?_, rfl⟩ | refine Run.condT ?_ | refine Run.condf ?_ | refine Run.condD (fun h => ?_) (fun h => ?_) | refine Run.condN (fun h => ?_) (fun h => ?_) | refine Run.condE (fun h => ?_) (fun h => ?_) | refine Run.condF (fun h => ?_) (fun h => ?_) | refine Run.condM (fun h => ?_) (fun h => ?_) | refine Run.condB (fun h => ?_) (fun h => ?_) | refine Run.check1 ?_ | (exfalso; omega)
      all_goals first | (exfalso; omega) | rfl | trace_state
    | succ d ih =>
      intro i z row hz hrow hd hend
      subst hz
      have hi : i < xs.length := by omega
      clear hend
      have e := fs (i := i) (by omega)
      have inner : ∀ (j : Nat) (z : Int) (row : List Int), z = j → j ≤ i → row = wayRow (isort (ltP l) 0 xs i) (xs.getD i 0) (xs.drop (i + 1)) j → (∀ q, j ≤ q → q < i → ltP l (xs.getD i 0) ((isort (ltP l) 0 xs i).getD q 0) = true) →
          Run P (mk Tryz.f124 4) (fun v s => v = .tup [] ∧ s = stF l (isort (ltP l) 0 xs xs.length)) (.loop ⟨[(1, .one (.int .i64 0)), (2, .one (.int .i64 (xs.length : Int))), (3, .one (.ptr (.t 3 0) 0)), (6, .one (.int .i64 (i : Int))), (7, .one (.int .i64 z))],
            [(.k 0, some (.cells [.lst .mv l false])), (.k 1, some (.cells [.own (.k 3)])), (.k 2, some (.cells [.fn 155 []])), (.k 3, some (.row (.int .i64) row)), (.t 3 0, some (.cells dataF.atoms))], [.lp [0, 1, 0, 0, 1, 0, 0, 1, 1], .blk 2, .blk 1, .code [1, 1, 0, 0, 1, 1], .lp [0, 1, 1], .blk 0], none⟩) := by
        intro j
        induction j with
        | zero =>
          intro z row hz hji hrow hb
          subst hz
          have he := sortedRow_end hs (d := 0) hi hji hb (fun h => absurd h (by omega))
          rw [← hrow] at he
          subst he
          refine Run.loop ?_
          repeat' (conv => arg 4; whnf); first | refine Run.ret ⟨?_, rfl⟩ | refine Run.condT ?_ | refine Run.condf ?_ | refine Run.condD (fun h => ?_) (fun h => ?_) | refine Run.condN (fun h => ?_) (fun h => ?_) | refine Run.condE (fun h => ?_) (fun h => ?_) | refine Run.condF (fun h => ?_) (fun h => ?_) | refine Run.condM (fun h => ?_) (fun h => ?_) | refine Run.condB (fun h => ?_) (fun h => ?_) | refine Run.check1 ?_ | (exfalso; omega) | refine Run.round ⟨[(.t 3 0, .t 3 0)], [], []⟩ (ih (i + 1) _ _ e.h rfl (by omega) ?_) rfl (by (repeat' (first | exact wkEnv_nil | refine wkEnv_cons rfl ?_ | exact wkSto_nil | refine wkSto_none ?_ | refine wkSto_some rfl ?_)); done) (by (repeat' (first | exact wkEnv_nil | refine wkEnv_cons rfl ?_ | exact wkSto_nil | refine wkSto_none ?_ | refine wkSto_some rfl ?_)); done)
          all_goals first | (exfalso; omega) | (intro h; rw [show i + 1 = xs.length by omega]; exact sortedRow_all) | trace_state
        | succ j ihj =>
          intro z row hz hji hrow hb
          have hp := wrap_pred hz (by omega)
          have hlen : row.length = xs.length := by rw [hrow]; exact (way_xs hi).length_eq
          have hir : InL l.length row := fun x hx => hr x (by rw [hrow] at hx; exact (way_xs hi).mem_iff.1 hx)
          have el : ltP l (row.getD (j + 1) 0) (row.getD j 0) = ltP l (xs.getD i 0) ((isort (ltP l) 0 xs i).getD j 0) := by
            rw [hrow, wayRow_here (by rw [isort_len]; exact hji), wayRow_ahead (Nat.lt_succ_self j) (by rw [isort_len]; exact hji)]
          have hsw : swapL 0 row (j + 1) j = wayRow (isort (ltP l) 0 xs i) (xs.getD i 0) (xs.drop (i + 1)) j := by
            rw [hrow]; exact way_swap (by rw [isort_len]; exact hji)
          have hend : ltP l (xs.getD i 0) ((isort (ltP l) 0 xs i).getD j 0) = false → row = sortedRow (ltP l) 0 xs (i + 1) := fun h => by
            rw [hrow]; exact sortedRow_end hs (d := 0) hi hji hb (fun _ => h)
          refine Run.loop ?_
          repeat' (conv => arg 4; whnf); first | refine Run.ret ⟨?_, rfl⟩ | refine Run.condT ?_ | refine Run.condf ?_ | refine Run.condD (fun h => ?_) (fun h => ?_) | refine Run.condN (fun h => ?_) (fun h => ?_) | refine Run.condE (fun h => ?_) (fun h => ?_) | refine Run.condF (fun h => ?_) (fun h => ?_) | refine Run.condM (fun h => ?_) (fun h => ?_) | refine Run.condB (fun h => ?_) (fun h => ?_) | refine Run.check1 ?_ | refine Run.call (less_ok l row hir (j + 1) j _ _ hz hp (by omega) (by omega)) rfl ?_ | refine Run.call (swapI_ok row (j + 1) j _ _ hz hp (by omega) (by omega)) rfl ?_ | refine Run.round ⟨[(.t 3 0, .t 3 0)], [], []⟩ (ih (i + 1) _ _ e.h ?_ (by omega) ?_) rfl (by (repeat' (first | exact wkEnv_nil | refine wkEnv_cons rfl ?_ | exact wkSto_nil | refine wkSto_none ?_ | refine wkSto_some rfl ?_)); done) (by (repeat' (first | exact wkEnv_nil | refine wkEnv_cons rfl ?_ | exact wkSto_nil | refine wkSto_none ?_ | refine wkSto_some rfl ?_)); done) | refine Run.round ⟨[(.t 3 0, .t 3 0)], [], []⟩ (ihj _ _ hp (by omega) hsw ?_) rfl (by (repeat' (first | exact wkEnv_nil | refine wkEnv_cons rfl ?_ | exact wkSto_nil | refine wkSto_none ?_ | refine wkSto_some rfl ?_)); done) (by (repeat' (first | exact wkEnv_nil | refine wkEnv_cons rfl ?_ | exact wkSto_nil | refine wkSto_none ?_ | refine wkSto_some rfl ?_)); done) | (exfalso; omega)
          all_goals clear ih ihj
          all_goals (rw [el] at *)
          all_goals first
            | (exfalso; omega)
            | exact hend ‹_›
            | (intro h; rw [hend ‹_›, show i + 1 = xs.length by omega]; exact sortedRow_all)
            | (intro q hq1 hq2
               rcases Nat.lt_or_ge q (j + 1) with h | h
               · rw [show q = j by omega]; assumption
               · exact hb q h hq2)
            | trace_state
      refine Run.loop ?_
      repeat' (conv => arg 4; whnf); first | refine Run.ret ⟨?_, rfl⟩ | refine Run.condT ?_ | refine Run.condf ?_ | refine Run.condD (fun h => ?_) (fun h => ?_) | refine Run.condN (fun h => ?_) (fun h => ?_) | refine Run.condE (fun h => ?_) (fun h => ?_) | refine Run.condF (fun h => ?_) (fun h => ?_) | refine Run.condM (fun h => ?_) (fun h => ?_) | refine Run.condB (fun h => ?_) (fun h => ?_) | refine Run.check1 ?_ | refine Run.round ⟨[(.t 3 0, .t 3 0)], [], []⟩ (inner i _ _ rfl (Nat.le_refl _) (hrow.trans (sortedRow_start hi)) ?_) rfl (by (repeat' (first | exact wkEnv_nil | refine wkEnv_cons rfl ?_ | exact wkSto_nil | refine wkSto_none ?_ | refine wkSto_some rfl ?_)); done) (by (repeat' (first | exact wkEnv_nil | refine wkEnv_cons rfl ?_ | exact wkSto_nil | refine wkSto_none ?_ | refine wkSto_some rfl ?_)); done) | (exfalso; omega)
      all_goals first | (intro q h1 h2; omega) | (exfalso; omega) | trace_state
  repeat' (conv => arg 4; whnf); first | refine Run.ret ⟨?_, rfl⟩ | refine Run.condT ?_ | refine Run.condf ?_ | refine Run.condD (fun h => ?_) (fun h => ?_) | refine Run.condN (fun h => ?_) (fun h => ?_) | refine Run.condE (fun h => ?_) (fun h => ?_) | refine Run.condF (fun h => ?_) (fun h => ?_) | refine Run.condM (fun h => ?_) (fun h => ?_) | refine Run.condB (fun h => ?_) (fun h => ?_) | refine Run.check1 ?_ | refine Run.round ⟨[(.t 3 0, .t 3 0)], [], []⟩ (outer (xs.length - 1) 1 _ _ w1.h ?_ ?_ ?_) rfl (by (repeat' (first | exact wkEnv_nil | refine wkEnv_cons rfl ?_ | exact wkSto_nil | refine wkSto_none ?_ | refine wkSto_some rfl ?_)); done) (by (repeat' (first | exact wkEnv_nil | refine wkEnv_cons rfl ?_ | exact wkSto_nil | refine wkSto_none ?_ | refine wkSto_some rfl ?_)); done)
  · exact (sortedRow_one (by omega)).symm
  · omega
  · intro h; omega
/-- At most one: nothing is compared. -/
theorem insF1_ok (l : List Mv) (xs : List Int) (g : FuncId) (h1 : xs.length ≤ 1) (z y : Int) (hz : z = 0) (hy : y = xs.length) : Ok P 124 [.agg [.fn 157 [.ptr (.k 0) 0, .ptr (.k 1) 0, .ptr (.k 2) 0], .fn g []], .one (.int .i64 z), .one (.int .i64 y)] (stF l xs) (.tup []) (stF l xs) := by
  subst hz hy
  refine Ok.of_run (F := mk Tryz.f124 4) Tryz.func124 rfl rfl tabOk mixed rfl rfl rfl rfl rfl (Nat.le_of_ble_eq_true rfl) (Nat.le_of_ble_eq_true rfl) (.go 5000 ?_)
  have w1 : Fact (wrap64 (0 + 1) = 1) := ⟨(wrap_eq (by omega) (by omega)).trans (by omega)⟩
  conv => arg 4; whnf
  refine Run.loop ?_
  repeat' (conv => arg 4; whnf); first | refine Run.ret ⟨?_, rfl⟩ | refine Run.condT ?_ | refine Run.condf ?_ | refine Run.condD (fun h => ?_) (fun h => ?_) | refine Run.condN (fun h => ?_) (fun h => ?_) | refine Run.condE (fun h => ?_) (fun h => ?_) | refine Run.condF (fun h => ?_) (fun h => ?_) | refine Run.condM (fun h => ?_) (fun h => ?_) | refine Run.condB (fun h => ?_) (fun h => ?_) | refine Run.check1 ?_ | (exfalso; simp only [w1.h] at *; omega)
  all_goals first | rfl | (exfalso; simp only [w1.h] at *; omega) | trace_state
theorem stableF1_ok (l : List Mv) (xs : List Int) (g : FuncId) (h1 : xs.length ≤ 1) (y : Int) (hy : y = xs.length) : Ok P 169 [.agg [.fn 157 [.ptr (.k 0) 0, .ptr (.k 1) 0, .ptr (.k 2) 0], .fn g []], .one (.int .i64 y)] (stF l xs) (.tup []) (stF l xs) := by
  subst hy
  refine Ok.of_run (F := mk Tryz.f169 4) Tryz.func169 rfl rfl tabOk mixed rfl rfl rfl rfl rfl (Nat.le_of_ble_eq_true rfl) (Nat.le_of_ble_eq_true rfl) (.go 5000 ?_)
  repeat' (conv => arg 4; whnf); first | refine Run.ret ⟨?_, rfl⟩ | refine Run.condT ?_ | refine Run.condf ?_ | refine Run.condD (fun h => ?_) (fun h => ?_) | refine Run.condN (fun h => ?_) (fun h => ?_) | refine Run.condE (fun h => ?_) (fun h => ?_) | refine Run.condF (fun h => ?_) (fun h => ?_) | refine Run.condM (fun h => ?_) (fun h => ?_) | refine Run.condB (fun h => ?_) (fun h => ?_) | refine Run.check1 ?_ | (exfalso; omega) | refine Run.call (insF1_ok l xs g h1 _ _ rfl rfl) rfl ?_ | (refine Run.loop ?_)
  all_goals first | rfl | (exfalso; omega) | trace_state
theorem stableF_ok (l : List Mv) (xs : List Int) (hr : InL l.length xs) (h2 : 2 ≤ xs.length) (h20 : xs.length < 20) (y : Int) (hy : y = xs.length) : Ok P 169 [dataF, .one (.int .i64 y)] (stF l xs) (.tup []) (stF l (isort (ltP l) 0 xs xs.length)) := by
  subst hy
  refine Ok.of_run (F := mk Tryz.f169 4) Tryz.func169 rfl rfl tabOk mixed rfl rfl rfl rfl rfl (Nat.le_of_ble_eq_true rfl) (Nat.le_of_ble_eq_true rfl) (.go 5000 ?_)
  repeat' (conv => arg 4; whnf); first | refine Run.ret ⟨?_, rfl⟩ | refine Run.condT ?_ | refine Run.condf ?_ | refine Run.condD (fun h => ?_) (fun h => ?_) | refine Run.condN (fun h => ?_) (fun h => ?_) | refine Run.condE (fun h => ?_) (fun h => ?_) | refine Run.condF (fun h => ?_) (fun h => ?_) | refine Run.condM (fun h => ?_) (fun h => ?_) | refine Run.condB (fun h => ?_) (fun h => ?_) | refine Run.check1 ?_ | (exfalso; omega) | refine Run.call (insF_ok l xs hr h2 (by omega) _ _ rfl rfl) rfl ?_ | (refine Run.loop ?_)
  all_goals first | rfl | (exfalso; omega) | trace_state
theorem isort1 (lt : Int → Int → Bool) (xs : List Int) (h : xs.length ≤ 1) : isort lt 0 xs xs.length = xs := by
  match xs, h with
  | [], _ => rfl
  | [x], _ => rfl
theorem sortF_ok (l : List Mv) (xs : List Int) (hr : InL l.length xs) (h20 : xs.length < 20) : Ok P 156 [.one (.ifc 30 (.own (.k 0))), .one (.fn 157 [.ptr (.k 1) 0, .ptr (.k 2) 0, .ptr (.k 3) 0])] [some (.row (.int .i64) xs), some (.cells [.lst .mv l false]), some (.cells [.own (.k 0)]), some (.cells [.fn 155 []])] (.tup [])
    [some (.row (.int .i64) (isort (ltP l) 0 xs xs.length)), some (.cells [.lst .mv l false]), some (.cells [.own (.k 0)]), some (.cells [.fn 155 []])] := by
  refine Ok.of_run (F := mk Tryz.f156 4) Tryz.func156 rfl rfl tabOk mixed rfl rfl rfl rfl rfl (Nat.le_of_ble_eq_true rfl) (Nat.le_of_ble_eq_true rfl) (.go 5000 ?_)
  rcases (show xs.length = 0 ∨ xs.length = 1 ∨ 2 ≤ xs.length by omega) with h | h | h
  · rw [isort1 _ _ (by omega)]
    repeat' (conv => arg 4; whnf); first | refine Run.ret ⟨?_, rfl⟩ | refine Run.condT ?_ | refine Run.condf ?_ | refine Run.condD (fun h => ?_) (fun h => ?_) | refine Run.condN (fun h => ?_) (fun h => ?_) | refine Run.condE (fun h => ?_) (fun h => ?_) | refine Run.condF (fun h => ?_) (fun h => ?_) | refine Run.condM (fun h => ?_) (fun h => ?_) | refine Run.condB (fun h => ?_) (fun h => ?_) | refine Run.check1 ?_ | refine Run.call (valueOfI_ok _) rfl ?_ | refine Run.call (swapper0I_ok _ h) rfl ?_ | refine Run.call (lenI_ok _) rfl ?_ | refine Run.call (stableF1_ok _ _ _ (by omega) _ rfl) rfl ?_
    all_goals first | rfl | trace_state
  · rw [isort1 _ _ (by omega)]
    repeat' (conv => arg 4; whnf); first | refine Run.ret ⟨?_, rfl⟩ | refine Run.condT ?_ | refine Run.condf ?_ | refine Run.condD (fun h => ?_) (fun h => ?_) | refine Run.condN (fun h => ?_) (fun h => ?_) | refine Run.condE (fun h => ?_) (fun h => ?_) | refine Run.condF (fun h => ?_) (fun h => ?_) | refine Run.condM (fun h => ?_) (fun h => ?_) | refine Run.condB (fun h => ?_) (fun h => ?_) | refine Run.check1 ?_ | refine Run.call (valueOfI_ok _) rfl ?_ | refine Run.call (swapper1I_ok _ h) rfl ?_ | refine Run.call (lenI_ok _) rfl ?_ | refine Run.call (stableF1_ok _ _ _ (by omega) _ rfl) rfl ?_
    all_goals first | rfl | trace_state
  · repeat' (conv => arg 4; whnf); first | refine Run.ret ⟨?_, rfl⟩ | refine Run.condT ?_ | refine Run.condf ?_ | refine Run.condD (fun h => ?_) (fun h => ?_) | refine Run.condN (fun h => ?_) (fun h => ?_) | refine Run.condE (fun h => ?_) (fun h => ?_) | refine Run.condF (fun h => ?_) (fun h => ?_) | refine Run.condM (fun h => ?_) (fun h => ?_) | refine Run.condB (fun h => ?_) (fun h => ?_) | refine Run.check1 ?_ | refine Run.call (valueOfI_ok _) rfl ?_ | refine Run.call (swapperI_ok _ h) rfl ?_ | refine Run.call (lenI_ok _) rfl ?_ | refine Run.call (stableF_ok _ _ hr h h20 _ rfl) rfl ?_
    all_goals first | rfl | trace_state
end Go.Proofs.YtlmdbeegmgfpnaaGreatDoor.AM

/- StripFirst, the program's and the reference's; condition: fewer than 20 moves (the program's). -/
namespace Go.Proofs.YtlmdbeegmgfpnaaGreatDoor.AM
open Go.AM Go.RowKit
set_option linter.unusedVariables false
set_option linter.unusedSimpArgs false
set_option maxRecDepth 100000

theorem first_ok (l : List Mv) (h20 : l.length < 20) : Ok P 132 [.one (.lst .mv l false)] [] (.one (.own (.k 0))) [some (.row (.int .i64) (firstM l))] := by
  have hin : InL l.length (upTo l.length) := fun x hx => by
    obtain ⟨i, hi, rfl⟩ := List.mem_map.1 hx
    have := List.mem_range.1 hi
    omega
  have hsort := sortF_ok l (upTo l.length) hin (by rw [upTo_len]; exact h20)
  rw [upTo_len] at hsort
  refine Ok.of_run (F := mk Tryz.f132 0) Tryz.func132 rfl rfl tabOk mixed rfl rfl rfl rfl rfl (Nat.le_of_ble_eq_true rfl) (Nat.le_of_ble_eq_true rfl) (.go 5000 ?_)
  have loop : ∀ (d i : Nat) (z : Int) (s : List Int), z = i → i + d = l.length → s = upTo i → Run P (mk Tryz.f132 0) (fun v st => v = .one (.own (.k 0)) ∧ st = [some (.row (.int .i64) (firstM l))]) (.loop ⟨[(1, .one (.ptr (.t 1 0) 0)), (3, .one (.ptr (.t 3 0) 0)), (8, .one (.int .i64 (l.length : Int))), (9, .one (.int .i64 z))],
      [(.t 1 0, some (.cells [.lst .mv l false])), (.t 3 0, some (.cells [.own (.t 1000 0)])), (.t 1000 0, some (.row (.int .i64) s))], [.lp [0, 1, 0, 1, 1], .blk 0, .code [1, 1, 1]], none⟩) := by
    intro d
    induction d with
    | zero =>
      intro i z s hz hd hs
      subst hz
      obtain rfl : i = l.length := by omega
      subst hs
      refine Run.loop ?_
      repeat' (conv => arg 4; whnf); first | refine Run.ret ⟨?_, rfl⟩ | refine Run.condT ?_ | refine Run.condf ?_ | refine Run.condD (fun h => ?_) (fun h => ?_) | refine Run.condN (fun h => ?_) (fun h => ?_) | refine Run.condE (fun h => ?_) (fun h => ?_) | refine Run.condF (fun h => ?_) (fun h => ?_) | refine Run.condM (fun h => ?_) (fun h => ?_) | refine Run.condB (fun h => ?_) (fun h => ?_) | refine Run.check1 ?_ | (exfalso; omega) | refine Run.call (hsort) rfl ?_
      all_goals first | rfl | (exfalso; omega) | trace_state
    | succ d ih =>
      intro i z s hz hd hs
      subst hz
      have hl : s.length = i := by rw [hs, upTo_len]
      have e := fs (i := i) (by omega)
      refine Run.loop ?_
      repeat' (conv => arg 4; whnf); first | refine Run.ret ⟨?_, rfl⟩ | refine Run.condT ?_ | refine Run.condf ?_ | refine Run.condD (fun h => ?_) (fun h => ?_) | refine Run.condN (fun h => ?_) (fun h => ?_) | refine Run.condE (fun h => ?_) (fun h => ?_) | refine Run.condF (fun h => ?_) (fun h => ?_) | refine Run.condM (fun h => ?_) (fun h => ?_) | refine Run.condB (fun h => ?_) (fun h => ?_) | refine Run.check1 ?_ | refine Run.need1 (by simp only [allP, true_and, and_true, List.length_cons, List.length_nil]; omega) ?_ | refine Run.round ⟨[(.t 1 0, .t 1 0), (.t 3 0, .t 3 0), (.t 15 0, .t 1000 0)], [], []⟩ (ih (i + 1) _ _ e.h (by omega) ?_) rfl (by (repeat' (first | exact wkEnv_nil | refine wkEnv_cons rfl ?_ | exact wkSto_nil | refine wkSto_none ?_ | refine wkSto_some rfl ?_)); done) (by (repeat' (first | exact wkEnv_nil | refine wkEnv_cons rfl ?_ | exact wkSto_nil | refine wkSto_none ?_ | refine wkSto_some rfl ?_)); done) | (exfalso; omega)
      all_goals first | (exfalso; omega) | (rw [upTo_succ, hs]) | trace_state
  repeat' (conv => arg 4; whnf); first | refine Run.ret ⟨?_, rfl⟩ | refine Run.condT ?_ | refine Run.condf ?_ | refine Run.condD (fun h => ?_) (fun h => ?_) | refine Run.condN (fun h => ?_) (fun h => ?_) | refine Run.condE (fun h => ?_) (fun h => ?_) | refine Run.condF (fun h => ?_) (fun h => ?_) | refine Run.condM (fun h => ?_) (fun h => ?_) | refine Run.condB (fun h => ?_) (fun h => ?_) | refine Run.check1 ?_ | refine Run.round ⟨[(.t 1 0, .t 1 0), (.t 3 0, .t 3 0), (.t 6 0, .t 1000 0)], [], []⟩ (loop l.length 0 _ _ rfl (by omega) rfl) rfl (by (repeat' (first | exact wkEnv_nil | refine wkEnv_cons rfl ?_ | exact wkSto_nil | refine wkSto_none ?_ | refine wkSto_some rfl ?_)); done) (by (repeat' (first | exact wkEnv_nil | refine wkEnv_cons rfl ?_ | exact wkSto_nil | refine wkSto_none ?_ | refine wkSto_some rfl ?_)); done)
theorem key_ok (m : Mv) : Ok P 139 [.agg (encMv m)] [] (.one (.int .i64 (key m))) [] := by
  refine Ok.of_run (F := mk Tryz.f139 0) Tryz.func139 rfl rfl tabOk mixed rfl rfl rfl rfl rfl (Nat.le_of_ble_eq_true rfl) (Nat.le_of_ble_eq_true rfl) (.go 5000 ?_)
  repeat' (conv => arg 4; whnf); first | refine Run.ret ⟨?_, rfl⟩ | refine Run.condT ?_ | refine Run.condf ?_ | refine Run.condD (fun h => ?_) (fun h => ?_) | refine Run.condN (fun h => ?_) (fun h => ?_) | refine Run.condE (fun h => ?_) (fun h => ?_) | refine Run.condF (fun h => ?_) (fun h => ?_) | refine Run.condM (fun h => ?_) (fun h => ?_) | refine Run.condB (fun h => ?_) (fun h => ?_) | refine Run.check1 ?_
  all_goals (refine vi ?_; unfold key; first | rw [if_pos ‹_›] | rw [if_neg ‹_›])
theorem sfirst_ok (l : List Mv) (hl : l.length ≤ 1048576) : Ok P 94 [.one (.lst .mv l false)] [] (.one (.own (.k 0))) [some (.row (.int .i64) (firstM l))] := by
  have hs : Srt (ltP l) := lessM_srt (fun a : Int => at' l a.toNat)
  refine Ok.of_run (F := mk Tryz.f94 0) Tryz.func94 rfl rfl tabOk mixed rfl rfl rfl rfl rfl (Nat.le_of_ble_eq_true rfl) (Nat.le_of_ble_eq_true rfl) (.go 5000 ?_)
  have outer : ∀ (d i : Nat) (z : Int) (s : List Int), z = i → i + d = l.length → s = isort (ltP l) 0 (upTo l.length) i → Run P (mk Tryz.f94 0) (fun v st => v = .one (.own (.k 0)) ∧ st = [some (.row (.int .i64) (firstM l))]) (.loop ⟨[(0, .one (.lst .mv l false)), (3, .one (.own (.t 1000 0))), (4, .one (.int .i64 z))], [(.t 1000 0, some (.row (.int .i64) s))], [.lp [0, 1, 0, 1, 1], .blk 0, .code [1, 1, 1]], none⟩) := by
    intro d
    induction d with
    | zero =>
      intro i z s hz hd hs
      subst hz
      obtain rfl : i = l.length := by omega
      subst hs
      refine Run.loop ?_
      repeat' (conv => arg 4; whnf); first | refine Run.ret ⟨?_, rfl⟩ | refine Run.condT ?_ | refine Run.condf ?_ | refine Run.condD (fun h => ?_) (fun h => ?_) | refine Run.condN (fun h => ?_) (fun h => ?_) | refine Run.condE (fun h => ?_) (fun h => ?_) | refine Run.condF (fun h => ?_) (fun h => ?_) | refine Run.condM (fun h => ?_) (fun h => ?_) | refine Run.condB (fun h => ?_) (fun h => ?_) | refine Run.check1 ?_ | (exfalso; omega)
      all_goals first | rfl | (exfalso; omega) | trace_state
    | succ d ih =>
      intro i z s hz hd hse
      subst hz
      have hlen : s.length = i := by rw [hse]; exact isort_len
      have e := fs (i := i) (by omega)
      have hin : ∀ q, q < i → 0 ≤ rd s (q : Int) ∧ rd s (q : Int) < l.length := by
        intro q hq
        have hp := isort_perm (lt := ltP l) (d := 0) (xs := upTo l.length) (n := i) (by rw [upTo_len]; omega)
        rw [← hse] at hp
        rw [rd_nat, tk, List.getD_eq_getElem?_getD, List.getElem?_eq_getElem (by omega)]
        have hm := List.mem_of_mem_take (hp.mem_iff.1 (List.getElem_mem (show q < s.length by omega)))
        obtain ⟨i, hi, e⟩ := List.mem_map.1 hm
        have := List.mem_range.1 hi
        simp only [Option.getD_some]
        omega
      have eM : Fact (rdM l (i : Int) = at' l ((i : Nat) : Int).toNat) := ⟨by rw [rdM_nat]; rfl⟩
      have hst : isort (ltP l) 0 (upTo l.length) (i + 1) = insA (fun y => !ltP l (i : Int) y) (i : Int) s := by
        rw [isort_succ, isortA, ← hse, upTo_at (by omega)]
      have inner : ∀ (c k : Nat) (z : Int), z = k → k + c = i → (∀ q, q < k → ltP l (i : Int) (s.getD q 0) = false) → Run P (mk Tryz.f94 0) (fun v st => v = .one (.own (.k 0)) ∧ st = [some (.row (.int .i64) (firstM l))]) (.loop ⟨[(0, .one (.lst .mv l false)), (3, .one (.own (.t 1000 0))), (4, .one (.int .i64 (i : Int))), (5, .one (.int .i64 z))], [(.t 1000 0, some (.row (.int .i64) s))], [.lp [0, 0, 1, 0, 0, 1, 0, 0, 1, 0, 1, 1], .blk 2, .code [1, 1, 0, 0, 1, 0, 0, 1, 0, 1, 1], .blk 1, .code [1, 1, 0, 0, 1, 0, 1, 1], .lp [0, 1, 0, 1, 1], .blk 0, .code [1, 1, 1]], none⟩) := by
        intro c
        have fin : ∀ k, k ≤ i → (∀ q, q < k → ltP l (i : Int) (s.getD q 0) = false) → (k < i → ltP l (i : Int) (s.getD k 0) = true) → Fact ([] ++ (s.drop 0).take (k : Int).toNat ++ [(i : Int)] ++ (s.drop (0 + (k : Int).toNat)).take (s.length - (k : Int).toNat) = isort (ltP l) 0 (upTo l.length) (i + 1)) := by
          intro k hk hb hx
          refine ⟨?_⟩
          rw [hst, insA_at (k := k) (d := 0) (by omega) (fun q hq => by rw [hb q hq]; rfl) (fun h => by rw [hx (by omega)]; rfl)]
          simp only [Int.toNat_natCast, Nat.zero_add, List.nil_append, List.drop_zero]
          rw [List.take_of_length_le (l := s.drop k) (by rw [List.length_drop]; omega)]
          simp
        induction c with
        | zero =>
          intro k z hz hc hb
          subst hz
          have fin := fin k (by omega) hb (fun h => absurd h (by omega))
          refine Run.loop ?_
          repeat' (conv => arg 4; whnf); first | refine Run.ret ⟨?_, rfl⟩ | refine Run.condT ?_ | refine Run.condf ?_ | refine Run.condD (fun h => ?_) (fun h => ?_) | refine Run.condN (fun h => ?_) (fun h => ?_) | refine Run.condE (fun h => ?_) (fun h => ?_) | refine Run.condF (fun h => ?_) (fun h => ?_) | refine Run.condM (fun h => ?_) (fun h => ?_) | refine Run.condB (fun h => ?_) (fun h => ?_) | refine Run.check1 ?_ | (exfalso; omega) | refine Run.call (key_ok _) rfl ?_ | refine Run.need1 (by simp only [allP, true_and, and_true, List.length_cons, List.length_nil, List.length_append, List.length_take, List.length_drop]; omega) ?_ | refine Run.round ⟨[(.t 78 0, .t 1000 0)], [], []⟩ (ih (i + 1) _ _ e.h (by omega) ?_) rfl (by (repeat' (first | exact wkEnv_nil | refine wkEnv_cons rfl ?_ | exact wkSto_nil | refine wkSto_none ?_ | refine wkSto_some rfl ?_)); done) (by (repeat' (first | exact wkEnv_nil | refine wkEnv_cons rfl ?_ | exact wkSto_nil | refine wkSto_none ?_ | refine wkSto_some rfl ?_)); done)
          all_goals first | (exfalso; omega) | exact fin.h | trace_state
        | succ c ihc =>
          intro k z hz hc hb
          subst hz
          have e2 := fs (i := k) (by omega)
          have hr := hin k (by omega)
          have ek : Fact (rdM l (rd s k) = at' l (s.getD k 0).toNat) := ⟨by rw [rd_nat]; rfl⟩
          have fin := fin k (by omega) hb
          have hnot := lessM_not (a := rdM l (rd s k)) (b := rdM l i)
          have hlt : lessM (rdM l i) (rdM l (rd s k)) = ltP l (i : Int) (s.getD k 0) := by rw [ek.h, eM.h]; rfl
          rw [hlt] at hnot
          refine Run.loop ?_
          repeat' (conv => arg 4; whnf); first | refine Run.ret ⟨?_, rfl⟩ | refine Run.condT ?_ | refine Run.condf ?_ | refine Run.condD (fun h => ?_) (fun h => ?_) | refine Run.condN (fun h => ?_) (fun h => ?_) | refine Run.condE (fun h => ?_) (fun h => ?_) | refine Run.condF (fun h => ?_) (fun h => ?_) | refine Run.condM (fun h => ?_) (fun h => ?_) | refine Run.condB (fun h => ?_) (fun h => ?_) | refine Run.check1 ?_ | (exfalso; omega) | refine Run.call (key_ok _) rfl ?_ | refine Run.need1 (by simp only [allP, true_and, and_true]; omega) ?_ | refine Run.need1 (by simp only [allP, true_and, and_true, List.length_cons, List.length_nil, List.length_append, List.length_take, List.length_drop]; omega) ?_ | refine Run.round ⟨[(.t 78 0, .t 1000 0)], [], []⟩ (ih (i + 1) _ _ e.h (by omega) ?_) rfl (by (repeat' (first | exact wkEnv_nil | refine wkEnv_cons rfl ?_ | exact wkSto_nil | refine wkSto_none ?_ | refine wkSto_some rfl ?_)); done) (by (repeat' (first | exact wkEnv_nil | refine wkEnv_cons rfl ?_ | exact wkSto_nil | refine wkSto_none ?_ | refine wkSto_some rfl ?_)); done) | refine Run.round ⟨[(.t 1000 0, .t 1000 0)], [], []⟩ (ihc (k + 1) _ e2.h (by omega) ?_) rfl (by (repeat' (first | exact wkEnv_nil | refine wkEnv_cons rfl ?_ | exact wkSto_nil | refine wkSto_none ?_ | refine wkSto_some rfl ?_)); done) (by (repeat' (first | exact wkEnv_nil | refine wkEnv_cons rfl ?_ | exact wkSto_nil | refine wkSto_none ?_ | refine wkSto_some rfl ?_)); done)
          all_goals clear ih ihc
          all_goals unfold ltN at hnot
          · have h1 : key (rdM l (rd s k)) < key (rdM l i) := by assumption
            rw [decide_eq_true h1] at hnot
            have hx : ltP l (i : Int) (s.getD k 0) = false := by simpa using hnot.symm
            intro q hq
            rcases Nat.lt_or_ge q k with h | h
            · exact hb q h
            · rw [show q = k by omega]; exact hx
          · have h1 : ¬ key (rdM l (rd s k)) < key (rdM l i) := by assumption
            have h2 : key (rdM l (rd s k)) = key (rdM l i) := by assumption
            rw [decide_eq_false h1, h2] at hnot
            have h3 : (Op.bytesLess (rdM l (rd s k)).f0.toList (rdM l i).f0.toList || (rdM l (rd s k)).f0.toList == (rdM l i).f0.toList) = true := by assumption
            rw [h3] at hnot
            have hx : ltP l (i : Int) (s.getD k 0) = false := by simpa using hnot.symm
            intro q hq
            rcases Nat.lt_or_ge q k with h | h
            · exact hb q h
            · rw [show q = k by omega]; exact hx
          · have h1 : ¬ key (rdM l (rd s k)) < key (rdM l i) := by assumption
            have h2 : key (rdM l (rd s k)) = key (rdM l i) := by assumption
            rw [decide_eq_false h1, h2] at hnot
            have h3 : (Op.bytesLess (rdM l (rd s k)).f0.toList (rdM l i).f0.toList || (rdM l (rd s k)).f0.toList == (rdM l i).f0.toList) = false := by assumption
            rw [h3] at hnot
            exact (fin (fun _ => by simpa using hnot.symm)).h
          · have h1 : ¬ key (rdM l (rd s k)) < key (rdM l i) := by assumption
            have h2 : ¬ key (rdM l (rd s k)) = key (rdM l i) := by assumption
            rw [decide_eq_false h1, show (key (rdM l (rd s k)) == key (rdM l i)) = false by simpa using h2] at hnot
            exact (fin (fun _ => by simpa using hnot.symm)).h
      refine Run.loop ?_
      repeat' (conv => arg 4; whnf); first | refine Run.ret ⟨?_, rfl⟩ | refine Run.condT ?_ | refine Run.condf ?_ | refine Run.condD (fun h => ?_) (fun h => ?_) | refine Run.condN (fun h => ?_) (fun h => ?_) | refine Run.condE (fun h => ?_) (fun h => ?_) | refine Run.condF (fun h => ?_) (fun h => ?_) | refine Run.condM (fun h => ?_) (fun h => ?_) | refine Run.condB (fun h => ?_) (fun h => ?_) | refine Run.check1 ?_ | refine Run.round ⟨[(.t 1000 0, .t 1000 0)], [], []⟩ (inner i 0 _ rfl (by omega) ?_) rfl (by (repeat' (first | exact wkEnv_nil | refine wkEnv_cons rfl ?_ | exact wkSto_nil | refine wkSto_none ?_ | refine wkSto_some rfl ?_)); done) (by (repeat' (first | exact wkEnv_nil | refine wkEnv_cons rfl ?_ | exact wkSto_nil | refine wkSto_none ?_ | refine wkSto_some rfl ?_)); done) | (exfalso; omega)
      all_goals first | (intro q hq; omega) | (exfalso; omega) | trace_state
  repeat' (conv => arg 4; whnf); first | refine Run.ret ⟨?_, rfl⟩ | refine Run.condT ?_ | refine Run.condf ?_ | refine Run.condD (fun h => ?_) (fun h => ?_) | refine Run.condN (fun h => ?_) (fun h => ?_) | refine Run.condE (fun h => ?_) (fun h => ?_) | refine Run.condF (fun h => ?_) (fun h => ?_) | refine Run.condM (fun h => ?_) (fun h => ?_) | refine Run.condB (fun h => ?_) (fun h => ?_) | refine Run.check1 ?_ | refine Run.round ⟨[(.t 6 0, .t 1000 0)], [], []⟩ (outer l.length 0 _ _ rfl (by omega) rfl) rfl (by (repeat' (first | exact wkEnv_nil | refine wkEnv_cons rfl ?_ | exact wkSto_nil | refine wkSto_none ?_ | refine wkSto_some rfl ?_)); done) (by (repeat' (first | exact wkEnv_nil | refine wkEnv_cons rfl ?_ | exact wkSto_nil | refine wkSto_none ?_ | refine wkSto_some rfl ?_)); done)
end Go.Proofs.YtlmdbeegmgfpnaaGreatDoor.AM

/- Orders that are ok, places in orders; condition: lengths. -/
namespace Go.Proofs.YtlmdbeegmgfpnaaGreatDoor.AM
open Go.AM Go.RowKit
set_option linter.unusedVariables false
set_option linter.unusedSimpArgs false
set_option maxRecDepth 100000

theorem index_ok (b : List Int) (v : Int) (hb : b.length ≤ 1048576) : Ok P 160 [.one (.lst (.int .i64) b false), .one (.int .i64 v)] [] (.one (.int .i64 (pos b v))) [] := by
  refine Ok.of_run (F := mk Tryz.f160 0) Tryz.func160 rfl rfl tabOk mixed rfl rfl rfl rfl rfl (Nat.le_of_ble_eq_true rfl) (Nat.le_of_ble_eq_true rfl) (.go 5000 ?_)
  have loop : ∀ (d i : Nat) (z : Int), z = i → i + d = b.length → posFrom b v i d = pos b v → Run P (mk Tryz.f160 0) (fun x st => x = .one (.int .i64 (pos b v)) ∧ st = []) (.loop ⟨[(0, .one (.lst (.int .i64) b false)), (1, .one (.int .i64 v)), (7, .one (.int .i64 (b.length : Int))), (8, .one (.int .i64 z))], [], [.lp [0, 1, 0, 1], .blk 0, .code [1, 1]], none⟩) := by
    intro d
    induction d with
    | zero =>
      intro i z hz hd he
      subst hz
      refine Run.loop ?_
      repeat' (conv => arg 4; whnf); first | refine Run.ret ⟨?_, rfl⟩ | refine Run.condT ?_ | refine Run.condf ?_ | refine Run.condD (fun h => ?_) (fun h => ?_) | refine Run.condN (fun h => ?_) (fun h => ?_) | refine Run.condE (fun h => ?_) (fun h => ?_) | refine Run.condF (fun h => ?_) (fun h => ?_) | refine Run.condM (fun h => ?_) (fun h => ?_) | refine Run.condB (fun h => ?_) (fun h => ?_) | refine Run.check1 ?_ | (exfalso; omega)
      all_goals first | (rw [← he]; rfl) | (exfalso; omega)
    | succ d ih =>
      intro i z hz hd he
      subst hz
      have e : wrap64 ((i : Int) + 1) = ((i + 1 : Nat) : Int) := wrap_eq (by omega) (by omega)
      unfold posFrom at he
      have ei : rd b i = b.getD i 0 := rd_nat b i
      refine Run.loop ?_
      repeat' (conv => arg 4; whnf); first | refine Run.ret ⟨?_, rfl⟩ | refine Run.condT ?_ | refine Run.condf ?_ | refine Run.condD (fun h => ?_) (fun h => ?_) | refine Run.condN (fun h => ?_) (fun h => ?_) | refine Run.condE (fun h => ?_) (fun h => ?_) | refine Run.condF (fun h => ?_) (fun h => ?_) | refine Run.condM (fun h => ?_) (fun h => ?_) | refine Run.condB (fun h => ?_) (fun h => ?_) | refine Run.check1 ?_ | refine Run.need1 (by simp only [allP, true_and, and_true]; omega) ?_ | refine Run.round ⟨[], [], []⟩ (ih (i + 1) _ e (by omega) ?_) rfl (by (repeat' (first | exact wkEnv_nil | refine wkEnv_cons rfl ?_ | exact wkSto_nil | refine wkSto_none ?_ | refine wkSto_some rfl ?_)); done) (by (repeat' (first | exact wkEnv_nil | refine wkEnv_cons rfl ?_ | exact wkSto_nil | refine wkSto_none ?_ | refine wkSto_some rfl ?_)); done) | (exfalso; omega)
      all_goals (clear ih; rw [← ei] at he)
      all_goals first
        | (exfalso; omega)
        | (rw [if_pos (by omega)] at he; rw [← he])
        | (rw [if_neg (by omega)] at he; exact he)
        | trace_state
  repeat' (conv => arg 4; whnf); first | refine Run.ret ⟨?_, rfl⟩ | refine Run.condT ?_ | refine Run.condf ?_ | refine Run.condD (fun h => ?_) (fun h => ?_) | refine Run.condN (fun h => ?_) (fun h => ?_) | refine Run.condE (fun h => ?_) (fun h => ?_) | refine Run.condF (fun h => ?_) (fun h => ?_) | refine Run.condM (fun h => ?_) (fun h => ?_) | refine Run.condB (fun h => ?_) (fun h => ?_) | refine Run.check1 ?_ | refine Run.round ⟨[], [], []⟩ (loop b.length 0 _ rfl (by omega) rfl) rfl (by (repeat' (first | exact wkEnv_nil | refine wkEnv_cons rfl ?_ | exact wkSto_nil | refine wkSto_none ?_ | refine wkSto_some rfl ?_)); done) (by (repeat' (first | exact wkEnv_nil | refine wkEnv_cons rfl ?_ | exact wkSto_nil | refine wkSto_none ?_ | refine wkSto_some rfl ?_)); done)
theorem isOrder_ok (a : List Int) (ha : a.length ≤ 1048576) : Ok P 159 [.one (.lst (.int .i64) a false)] [] (.one (.bool (decide (IsOrd a)))) [] := by
  refine Ok.of_run (F := mk Tryz.f159 0) Tryz.func159 rfl rfl tabOk mixed rfl rfl rfl rfl rfl (Nat.le_of_ble_eq_true rfl) (Nat.le_of_ble_eq_true rfl) (.go 5000 ?_)
  have hno : ¬ IsOrd a → V.one (A.bool false) = V.one (A.bool (decide (IsOrd a))) := fun h => by rw [decide_eq_false h]
  have loop : ∀ (d i : Nat) (z : Int) (s : List Bool), z = i → i + d = a.length → Seen a a.length i s → (∀ j, j < i → (0 ≤ a.getD j 0 ∧ a.getD j 0 ≤ (a.length : Int) - 1) ∧ ∀ k, k < j → a.getD k 0 ≠ a.getD j 0) → Run P (mk Tryz.f159 0) (fun x st => x = .one (.bool (decide (IsOrd a))) ∧ st = []) (.loop ⟨[(0, .one (.lst (.int .i64) a false)), (3, .one (.own (.t 8 0))), (9, .one (.lst (.int .i64) a false)), (10, .one (.int .i64 (a.length : Int))), (11, .one (.int .i64 z))], [(.t 8 0, some (.row .bool s))], [.lp [0, 1, 0, 1, 1], .blk 0, .code [1, 1, 1]], none⟩) := by
    intro d
    induction d with
    | zero =>
      intro i z s hz hd hs hall
      subst hz
      refine Run.loop ?_
      repeat' (conv => arg 4; whnf); first | refine Run.ret ⟨?_, rfl⟩ | refine Run.condT ?_ | refine Run.condf ?_ | refine Run.condD (fun h => ?_) (fun h => ?_) | refine Run.condN (fun h => ?_) (fun h => ?_) | refine Run.condE (fun h => ?_) (fun h => ?_) | refine Run.condF (fun h => ?_) (fun h => ?_) | refine Run.condM (fun h => ?_) (fun h => ?_) | refine Run.condB (fun h => ?_) (fun h => ?_) | refine Run.check1 ?_ | (exfalso; omega)
      all_goals first
        | (exfalso; omega)
        | (rw [decide_eq_true (show IsOrd a from fun j hj => hall j (by omega))])
    | succ d ih =>
      intro i z s hz hd hs hall
      subst hz
      have e : wrap64 ((i : Int) + 1) = ((i + 1 : Nat) : Int) := wrap_eq (by omega) (by omega)
      have el : wrap64 ((a.length : Int) - 1) = (a.length : Int) - 1 := wrap_eq (by omega) (by omega)
      have hsl := hs.1
      have ei : rd a i = a.getD i 0 := rd_nat a i
      refine Run.loop ?_
      repeat' (conv => arg 4; whnf); first | refine Run.ret ⟨?_, rfl⟩ | refine Run.condT ?_ | refine Run.condf ?_ | refine Run.condD (fun h => ?_) (fun h => ?_) | refine Run.condN (fun h => ?_) (fun h => ?_) | refine Run.condE (fun h => ?_) (fun h => ?_) | refine Run.condF (fun h => ?_) (fun h => ?_) | refine Run.condM (fun h => ?_) (fun h => ?_) | refine Run.condB (fun h => ?_) (fun h => ?_) | refine Run.check1 ?_ | refine Run.call (in_ok _ _ _) rfl ?_ | refine Run.need1 (by simp only [allP, true_and, and_true]; omega) ?_ | refine Run.need1 (by simp only [allP, true_and, and_true, el]; omega) ?_ | refine Run.round ⟨[(.t 8 0, .t 8 0)], [], []⟩ (ih (i + 1) _ _ e (by omega) ?_ ?_) rfl (by (repeat' (first | exact wkEnv_nil | refine wkEnv_cons rfl ?_ | exact wkSto_nil | refine wkSto_none ?_ | refine wkSto_some rfl ?_)); done) (by (repeat' (first | exact wkEnv_nil | refine wkEnv_cons rfl ?_ | exact wkSto_nil | refine wkSto_none ?_ | refine wkSto_some rfl ?_)); done) | (exfalso; omega)
      all_goals clear ih
      all_goals first
        | (exfalso; omega)
        | (refine hno fun q => ?_; have := (q i (by omega)).1; omega)
        | (refine hno fun q => ?_
           have hv : (rd a i).toNat < a.length := by omega
           obtain ⟨j, hj, ej⟩ := (hs.2 _ hv).1 ‹rdB s (rd a i) = true›
           exact (q i (by omega)).2 j hj (by rw [ej, ← ei]; omega))
        | exact seen_set hs (v := (rd a i).toNat) (by omega) (by omega)
        | (intro j hj
           rcases Nat.lt_or_ge j i with h1 | h1
           · exact hall j h1
           · obtain rfl : j = i := by omega
             refine ⟨by omega, fun k hk ek => ?_⟩
             have hv : (rd a j).toNat < a.length := by omega
             have := (hs.2 _ hv).2 ⟨k, hk, by rw [ek, ← ei]; omega⟩
             have hf : rdB s (rd a j) = false := ‹rdB s (rd a j) = false›
             unfold rdB at hf
             rw [hf] at this
             cases this)
        | trace_state
  repeat' (conv => arg 4; whnf); first | refine Run.ret ⟨?_, rfl⟩ | refine Run.condT ?_ | refine Run.condf ?_ | refine Run.condD (fun h => ?_) (fun h => ?_) | refine Run.condN (fun h => ?_) (fun h => ?_) | refine Run.condE (fun h => ?_) (fun h => ?_) | refine Run.condF (fun h => ?_) (fun h => ?_) | refine Run.condM (fun h => ?_) (fun h => ?_) | refine Run.condB (fun h => ?_) (fun h => ?_) | refine Run.check1 ?_ | refine Run.need1 (by simp only [allP, true_and, and_true]; omega) ?_ | refine Run.round ⟨[(.t 8 0, .t 8 0)], [], []⟩ (loop a.length 0 _ _ rfl (by omega) ?_ ?_) rfl (by (repeat' (first | exact wkEnv_nil | refine wkEnv_cons rfl ?_ | exact wkSto_nil | refine wkSto_none ?_ | refine wkSto_some rfl ?_)); done) (by (repeat' (first | exact wkEnv_nil | refine wkEnv_cons rfl ?_ | exact wkSto_nil | refine wkSto_none ?_ | refine wkSto_some rfl ?_)); done)
  all_goals first
    | (intro j hj; omega)
    | (refine ⟨by simp, fun v hv => ⟨fun h => ?_, fun ⟨j, hj, _⟩ => absurd hj (by omega)⟩⟩
       rw [List.getD_eq_getElem?_getD, List.getElem?_replicate] at h
       split at h <;> cases h)
    | trace_state
theorem sordOk_ok (a : List Int) (n : Nat) (hn : n ≤ 1048576) : Ok P 140 [.one (.int .i64 (n : Int)), .one (.lst (.int .i64) a false)] [] (.one (.bool (decide (a.length = n ∧ IsOrd a)))) [] := by
  refine Ok.of_run (F := mk Tryz.f140 0) Tryz.func140 rfl rfl tabOk mixed rfl rfl rfl rfl rfl (Nat.le_of_ble_eq_true rfl) (Nat.le_of_ble_eq_true rfl) (.go 5000 ?_)
  by_cases hl : a.length = n
  · rw [show decide (a.length = n ∧ IsOrd a) = decide (IsOrd a) by simp [hl]]
    subst hl
    have hno : ¬ IsOrd a → V.one (A.bool false) = V.one (A.bool (decide (IsOrd a))) := fun h => by rw [decide_eq_false h]
    have outer : ∀ (d i : Nat) (z : Int), z = i → i + d = a.length → (∀ j, j < i → (0 ≤ a.getD j 0 ∧ a.getD j 0 ≤ (a.length : Int) - 1) ∧ ∀ k, k < j → a.getD k 0 ≠ a.getD j 0) → Run P (mk Tryz.f140 0) (fun x st => x = .one (.bool (decide (IsOrd a))) ∧ st = []) (.loop ⟨[(0, .one (.int .i64 (a.length : Int))), (1, .one (.lst (.int .i64) a false)), (5, .one (.int .i64 z))], [], [.lp [0, 1, 0, 1, 1], .blk 0, .code [1, 1, 1]], none⟩) := by
      intro d
      induction d with
      | zero =>
        intro i z hz hd hall
        subst hz
        refine Run.loop ?_
        repeat' (conv => arg 4; whnf); first | refine Run.ret ⟨?_, rfl⟩ | refine Run.condT ?_ | refine Run.condf ?_ | refine Run.condD (fun h => ?_) (fun h => ?_) | refine Run.condN (fun h => ?_) (fun h => ?_) | refine Run.condE (fun h => ?_) (fun h => ?_) | refine Run.condF (fun h => ?_) (fun h => ?_) | refine Run.condM (fun h => ?_) (fun h => ?_) | refine Run.condB (fun h => ?_) (fun h => ?_) | refine Run.check1 ?_ | (exfalso; omega)
        all_goals first
          | (exfalso; omega)
          | (rw [decide_eq_true (show IsOrd a from fun j hj => hall j (by omega))])
      | succ d ih =>
        intro i z hz hd hall
        subst hz
        have e : wrap64 ((i : Int) + 1) = ((i + 1 : Nat) : Int) := wrap_eq (by omega) (by omega)
        have el : wrap64 ((a.length : Int) - 1) = (a.length : Int) - 1 := wrap_eq (by omega) (by omega)
        have ei : rd a i = a.getD i 0 := rd_nat a i
        have inner : (0 ≤ rd a i ∧ rd a i ≤ (a.length : Int) - 1) → ∀ (c k : Nat) (z : Int), z = k → k + c = i → (∀ j, j < k → a.getD j 0 ≠ a.getD i 0) → Run P (mk Tryz.f140 0) (fun x st => x = .one (.bool (decide (IsOrd a))) ∧ st = []) (.loop ⟨[(0, .one (.int .i64 (a.length : Int))), (1, .one (.lst (.int .i64) a false)), (5, .one (.int .i64 (i : Int))), (6, .one (.int .i64 z))], [], [.lp [0, 1, 1, 0, 0, 1, 0, 0, 1, 0, 1, 1], .blk 2, .blk 1, .code [1, 1, 0, 0, 1, 0, 1, 1], .lp [0, 1, 0, 1, 1], .blk 0, .code [1, 1, 1]], none⟩) := by
          intro hr c
          induction c with
          | zero =>
            intro k z hz hc hk
            subst hz
            refine Run.loop ?_
            repeat' (conv => arg 4; whnf); first | refine Run.ret ⟨?_, rfl⟩ | refine Run.condT ?_ | refine Run.condf ?_ | refine Run.condD (fun h => ?_) (fun h => ?_) | refine Run.condN (fun h => ?_) (fun h => ?_) | refine Run.condE (fun h => ?_) (fun h => ?_) | refine Run.condF (fun h => ?_) (fun h => ?_) | refine Run.condM (fun h => ?_) (fun h => ?_) | refine Run.condB (fun h => ?_) (fun h => ?_) | refine Run.check1 ?_ | refine Run.round ⟨[], [], []⟩ (ih (i + 1) _ e (by omega) ?_) rfl (by (repeat' (first | exact wkEnv_nil | refine wkEnv_cons rfl ?_ | exact wkSto_nil | refine wkSto_none ?_ | refine wkSto_some rfl ?_)); done) (by (repeat' (first | exact wkEnv_nil | refine wkEnv_cons rfl ?_ | exact wkSto_nil | refine wkSto_none ?_ | refine wkSto_some rfl ?_)); done) | (exfalso; omega)
            all_goals first
              | (exfalso; omega)
              | (intro j hj
                 rcases Nat.lt_or_ge j i with h1 | h1
                 · exact hall j h1
                 · obtain rfl : j = i := by omega
                   exact ⟨by omega, fun q hq => hk q (by omega)⟩)
          | succ c ihc =>
            intro k z hz hc hk
            subst hz
            have e2 : wrap64 ((k : Int) + 1) = ((k + 1 : Nat) : Int) := wrap_eq (by omega) (by omega)
            have ek : rd a k = a.getD k 0 := rd_nat a k
            refine Run.loop ?_
            repeat' (conv => arg 4; whnf); first | refine Run.ret ⟨?_, rfl⟩ | refine Run.condT ?_ | refine Run.condf ?_ | refine Run.condD (fun h => ?_) (fun h => ?_) | refine Run.condN (fun h => ?_) (fun h => ?_) | refine Run.condE (fun h => ?_) (fun h => ?_) | refine Run.condF (fun h => ?_) (fun h => ?_) | refine Run.condM (fun h => ?_) (fun h => ?_) | refine Run.condB (fun h => ?_) (fun h => ?_) | refine Run.check1 ?_ | refine Run.need1 (by simp only [allP, true_and, and_true]; omega) ?_ | refine Run.round ⟨[], [], []⟩ (ihc (k + 1) _ e2 (by omega) ?_) rfl (by (repeat' (first | exact wkEnv_nil | refine wkEnv_cons rfl ?_ | exact wkSto_nil | refine wkSto_none ?_ | refine wkSto_some rfl ?_)); done) (by (repeat' (first | exact wkEnv_nil | refine wkEnv_cons rfl ?_ | exact wkSto_nil | refine wkSto_none ?_ | refine wkSto_some rfl ?_)); done) | (exfalso; omega)
            all_goals clear ih ihc
            all_goals first
              | (exfalso; omega)
              | (refine hno fun q => (q i (by omega)).2 k (by omega) ?_; omega)
              | (intro j hj
                 rcases Nat.lt_or_ge j k with h1 | h1
                 · exact hk j h1
                 · obtain rfl : j = k := by omega
                   intro ee; omega)
              | trace_state
        refine Run.loop ?_
        repeat' (conv => arg 4; whnf); first | refine Run.ret ⟨?_, rfl⟩ | refine Run.condT ?_ | refine Run.condf ?_ | refine Run.condD (fun h => ?_) (fun h => ?_) | refine Run.condN (fun h => ?_) (fun h => ?_) | refine Run.condE (fun h => ?_) (fun h => ?_) | refine Run.condF (fun h => ?_) (fun h => ?_) | refine Run.condM (fun h => ?_) (fun h => ?_) | refine Run.condB (fun h => ?_) (fun h => ?_) | refine Run.check1 ?_ | refine Run.call (sin_ok _ _ _) rfl ?_ | refine Run.need1 (by simp only [allP, true_and, and_true]; omega) ?_ | refine Run.round ⟨[], [], []⟩ (inner ?_ i 0 _ rfl (by omega) ?_) rfl (by (repeat' (first | exact wkEnv_nil | refine wkEnv_cons rfl ?_ | exact wkSto_nil | refine wkSto_none ?_ | refine wkSto_some rfl ?_)); done) (by (repeat' (first | exact wkEnv_nil | refine wkEnv_cons rfl ?_ | exact wkSto_nil | refine wkSto_none ?_ | refine wkSto_some rfl ?_)); done) | (exfalso; omega)
        all_goals clear ih inner
        all_goals first
          | (exfalso; omega)
          | omega
          | (intro j hj; omega)
          | (refine hno fun q => ?_; have := (q i (by omega)).1; omega)
          | trace_state
    repeat' (conv => arg 4; whnf); first | refine Run.ret ⟨?_, rfl⟩ | refine Run.condT ?_ | refine Run.condf ?_ | refine Run.condD (fun h => ?_) (fun h => ?_) | refine Run.condN (fun h => ?_) (fun h => ?_) | refine Run.condE (fun h => ?_) (fun h => ?_) | refine Run.condF (fun h => ?_) (fun h => ?_) | refine Run.condM (fun h => ?_) (fun h => ?_) | refine Run.condB (fun h => ?_) (fun h => ?_) | refine Run.check1 ?_ | refine Run.round ⟨[], [], []⟩ (outer a.length 0 _ rfl (by omega) ?_) rfl (by (repeat' (first | exact wkEnv_nil | refine wkEnv_cons rfl ?_ | exact wkSto_nil | refine wkSto_none ?_ | refine wkSto_some rfl ?_)); done) (by (repeat' (first | exact wkEnv_nil | refine wkEnv_cons rfl ?_ | exact wkSto_nil | refine wkSto_none ?_ | refine wkSto_some rfl ?_)); done) | contradiction
    all_goals first | (intro j hj; omega) | contradiction | (exfalso; omega) | trace_state
  · rw [decide_eq_false (fun h : a.length = n ∧ IsOrd a => hl h.1)]
    repeat' (conv => arg 4; whnf); first | refine Run.ret ⟨?_, rfl⟩ | refine Run.condT ?_ | refine Run.condf ?_ | refine Run.condD (fun h => ?_) (fun h => ?_) | refine Run.condN (fun h => ?_) (fun h => ?_) | refine Run.condE (fun h => ?_) (fun h => ?_) | refine Run.condF (fun h => ?_) (fun h => ?_) | refine Run.condM (fun h => ?_) (fun h => ?_) | refine Run.condB (fun h => ?_) (fun h => ?_) | refine Run.check1 ?_ | (exfalso; omega)
    all_goals first | rfl | (exfalso; omega)
end Go.Proofs.YtlmdbeegmgfpnaaGreatDoor.AM

/- StripShift of the program; condition: lengths. -/
namespace Go.Proofs.YtlmdbeegmgfpnaaGreatDoor.AM
open Go.AM Go.RowKit
set_option linter.unusedVariables false
set_option linter.unusedSimpArgs false
set_option maxRecDepth 100000

theorem shift_ok (a b : List Int) (ha : a.length ≤ 1048576) (hb : b.length ≤ 1048576) : Ok P 135 [.one (.lst (.int .i64) a false), .one (.lst (.int .i64) b false)] [] (.one (.int .i64 (shiftM a b))) [] := by
  refine Ok.of_run (F := mk Tryz.f135 0) Tryz.func135 rfl rfl tabOk mixed rfl rfl rfl rfl rfl (Nat.le_of_ble_eq_true rfl) (Nat.le_of_ble_eq_true rfl) (.go 5000 ?_)
  by_cases hc : a.length = b.length ∧ IsOrd a ∧ IsOrd b
  · have hf : shiftM a b = foldFrom (shStep a b) 0 a.length 0 := if_pos hc
    obtain ⟨hl, h1, h2⟩ := hc
    have loop : ∀ (d i : Nat) (z s : Int), z = i → i + d = a.length → foldFrom (shStep a b) i d s = shiftM a b → Run P (mk Tryz.f135 0) (fun x st => x = .one (.int .i64 (shiftM a b)) ∧ st = []) (.loop ⟨[(1, .one (.lst (.int .i64) b false)), (5, .one (.int .i64 s)), (24, .one (.lst (.int .i64) a false)), (25, .one (.int .i64 (a.length : Int))), (26, .one (.int .i64 z))], [], [.lp [0, 1, 0, 1, 1, 1], .blk 0, .code [1, 1, 1, 1]], none⟩) := by
      intro d
      induction d with
      | zero =>
        intro i z s hz hd he
        subst hz
        refine Run.loop ?_
        repeat' (conv => arg 4; whnf); first | refine Run.ret ⟨?_, rfl⟩ | refine Run.condT ?_ | refine Run.condf ?_ | refine Run.condD (fun h => ?_) (fun h => ?_) | refine Run.condN (fun h => ?_) (fun h => ?_) | refine Run.condE (fun h => ?_) (fun h => ?_) | refine Run.condF (fun h => ?_) (fun h => ?_) | refine Run.condM (fun h => ?_) (fun h => ?_) | refine Run.condB (fun h => ?_) (fun h => ?_) | refine Run.check1 ?_ | (exfalso; omega)
        all_goals first | (rw [← he]; rfl) | (exfalso; omega)
      | succ d ih =>
        intro i z s hz hd he
        subst hz
        have e : wrap64 ((i : Int) + 1) = ((i + 1 : Nat) : Int) := wrap_eq (by omega) (by omega)
        have ei : rd a i = a.getD i 0 := rd_nat a i
        have hp : -1 ≤ pos b (rd a i) ∧ pos b (rd a i) ≤ 1048576 := by
          rcases pos_range b (rd a i) with ⟨h, _⟩ | ⟨j, h, hj, _⟩ <;> omega
        have e1 : wrap64 ((i : Int) - pos b (rd a i)) = (i : Int) - pos b (rd a i) := wrap_eq (by omega) (by omega)
        have e2 : wrap64 (pos b (rd a i) - (i : Int)) = pos b (rd a i) - (i : Int) := wrap_eq (by omega) (by omega)
        have he' : foldFrom (shStep a b) (i + 1) d (shStep a b i s) = shiftM a b := he
        have st : shStep a b i s = max (max s (wrap64 ((i : Int) - pos b (rd a i)))) (wrap64 (pos b (rd a i) - (i : Int))) := by
          rw [e1, e2, ei]; rfl
        rw [st] at he'
        refine Run.loop ?_
        repeat' (conv => arg 4; whnf); first | refine Run.ret ⟨?_, rfl⟩ | refine Run.condT ?_ | refine Run.condf ?_ | refine Run.condD (fun h => ?_) (fun h => ?_) | refine Run.condN (fun h => ?_) (fun h => ?_) | refine Run.condE (fun h => ?_) (fun h => ?_) | refine Run.condF (fun h => ?_) (fun h => ?_) | refine Run.condM (fun h => ?_) (fun h => ?_) | refine Run.condB (fun h => ?_) (fun h => ?_) | refine Run.check1 ?_ | refine Run.call (index_ok _ _ hb) rfl ?_ | refine Run.need1 (by simp only [allP, true_and, and_true]; omega) ?_ | refine Run.round ⟨[], [], []⟩ (ih (i + 1) _ _ e (by omega) ?_) rfl (by (repeat' (first | exact wkEnv_nil | refine wkEnv_cons rfl ?_ | exact wkSto_nil | refine wkSto_none ?_ | refine wkSto_some rfl ?_)); done) (by (repeat' (first | exact wkEnv_nil | refine wkEnv_cons rfl ?_ | exact wkSto_nil | refine wkSto_none ?_ | refine wkSto_some rfl ?_)); done) | (exfalso; omega)
        all_goals first | exact he' | (exfalso; omega) | trace_state
    repeat' (conv => arg 4; whnf); first | refine Run.ret ⟨?_, rfl⟩ | refine Run.condT ?_ | refine Run.condf ?_ | refine Run.condD (fun h => ?_) (fun h => ?_) | refine Run.condN (fun h => ?_) (fun h => ?_) | refine Run.condE (fun h => ?_) (fun h => ?_) | refine Run.condF (fun h => ?_) (fun h => ?_) | refine Run.condM (fun h => ?_) (fun h => ?_) | refine Run.condB (fun h => ?_) (fun h => ?_) | refine Run.check1 ?_ | refine Run.call (isOrder_ok _ ha) rfl ?_ | refine Run.call (isOrder_ok _ hb) rfl ?_ | refine Run.round ⟨[], [], []⟩ (loop a.length 0 _ _ rfl (by omega) hf.symm) rfl (by (repeat' (first | exact wkEnv_nil | refine wkEnv_cons rfl ?_ | exact wkSto_nil | refine wkSto_none ?_ | refine wkSto_some rfl ?_)); done) (by (repeat' (first | exact wkEnv_nil | refine wkEnv_cons rfl ?_ | exact wkSto_nil | refine wkSto_none ?_ | refine wkSto_some rfl ?_)); done) | (exact absurd hl ‹a.length ≠ b.length›) | contradiction
    all_goals first | contradiction | (exfalso; omega) | trace_state
  · have hf : shiftM a b = -1 := if_neg hc
    rw [hf]
    have key : a.length = b.length → IsOrd a → ¬ IsOrd b := fun x y z => hc ⟨x, y, z⟩
    repeat' (conv => arg 4; whnf); first | refine Run.ret ⟨?_, rfl⟩ | refine Run.condT ?_ | refine Run.condf ?_ | refine Run.condD (fun h => ?_) (fun h => ?_) | refine Run.condN (fun h => ?_) (fun h => ?_) | refine Run.condE (fun h => ?_) (fun h => ?_) | refine Run.condF (fun h => ?_) (fun h => ?_) | refine Run.condM (fun h => ?_) (fun h => ?_) | refine Run.condB (fun h => ?_) (fun h => ?_) | refine Run.check1 ?_ | refine Run.call (isOrder_ok _ ha) rfl ?_ | refine Run.call (isOrder_ok _ hb) rfl ?_ | (exfalso; exact key (by omega) ‹IsOrd a› ‹IsOrd b›)
    all_goals first | rfl | (exfalso; exact key (by omega) ‹IsOrd a› ‹IsOrd b›) | trace_state
end Go.Proofs.YtlmdbeegmgfpnaaGreatDoor.AM

/- Ticks in an order, the program's and the reference's; condition: moves that are ok, an order that is ok. -/
namespace Go.Proofs.YtlmdbeegmgfpnaaGreatDoor.AM
open Go.AM Go.RowKit
set_option linter.unusedVariables false
set_option linter.unusedSimpArgs false
set_option maxRecDepth 100000

theorem ordered_ok (l : List Mv) (o : List Int) (hm : AllOk l) (hl : l.length ≤ 1048576) (ho : IsOrd o) (hlen : o.length = l.length) : Ok P 136 [.one (.lst .mv l false), .one (.lst (.int .i64) o false)] [] (.tup [.one (.own (.k 0)), .one (.bool (ordM l o).2)]) [some (.row (.int .i64) (ordM l o).1)] := by
  refine nilR_ok (ordM_nil l o) ?_
  refine Ok.of_rel (F := mk Tryz.f136 0) Tryz.func136 rfl rfl tabOk mixed rfl rfl rfl rfl rfl (Nat.le_of_ble_eq_true rfl) (by first | exact fun _ _ => nilR_len | exact fun _ _ => nilB_len) (.go 5000 ?_)
  have outer : ∀ (d i : Nat) (z : Int) (ts : List Int), z = i → i + d = l.length → Ts l.length ts → ordFrom l o d i ts = ordM l o → Run P (mk Tryz.f136 0) (NilR (ordM l o)) (.loop ⟨[(0, .one (.lst .mv l false)), (1, .one (.lst (.int .i64) o false)), (6, .one (.own (.t 15 0))), (16, .one (.lst (.int .i64) o false)), (17, .one (.int .i64 (o.length : Int))), (18, .one (.int .i64 z))], [(.t 15 0, some (.row (.int .i64) ts))], [.lp [0, 1, 0, 1, 1], .blk 0, .code [1, 1, 1]], none⟩) := by
    intro d
    induction d with
    | zero =>
      intro i z ts hz hd hts he
      subst hz
      have h1 : (ordM l o).2 = true := by rw [← he]; rfl
      have h2 : (ordM l o).1 = ts := by rw [← he]; rfl
      refine Run.loop ?_
      repeat' (conv => arg 4; whnf); first | refine Run.ret ⟨?_, rfl⟩ | refine Run.condT ?_ | refine Run.condf ?_ | refine Run.condD (fun h => ?_) (fun h => ?_) | refine Run.condN (fun h => ?_) (fun h => ?_) | refine Run.condE (fun h => ?_) (fun h => ?_) | refine Run.condF (fun h => ?_) (fun h => ?_) | refine Run.condM (fun h => ?_) (fun h => ?_) | refine Run.condB (fun h => ?_) (fun h => ?_) | refine Run.check1 ?_ | (exfalso; omega) | (refine Run.ret (.inl ⟨?_, ?_⟩))
      all_goals first | (exfalso; omega) | (rw [h1]; done) | (rw [h2]; done) | trace_state
    | succ d ih =>
      intro i z ts hz hd hts he
      subst hz
      have hio : i < o.length := by omega
      have hp := (pl_lt ho hio).1
      have hmo := hm _ (show pl o i < l.length by omega)
      have hm3 : 0 ≤ (at' l (pl o i)).f3 ∧ (at' l (pl o i)).f3 ≤ 10000 := by
        have := (mvOk_range hmo).2.2.2.2
        skip
        omega
      have ei := rdO ho hio
      have eM : rdM l (rd o i) = at' l (pl o i) := by rw [ei, rdM_nat]
      have e3 : (rd o (i : Int)).toNat = pl o i := by rw [ei]; rfl
      have hlt := hts.1
      have e : Fact (wrap64 ((i : Int) + 1) = ((i + 1 : Nat) : Int)) := ⟨wrap_eq (by omega) (by omega)⟩
      have inner : ∀ (c q : Nat) (z t n : Int) (xs : List Int), z = q → n = i → xs = o.take i → q + c = i → 0 ≤ t ∧ t ≤ 10004 → Fact (foldFrom (lStep l o ts (at' l (pl o i))) q c t = leastT l o ts i) →
          Run P (mk Tryz.f136 0) (NilR (ordM l o)) (.loop ⟨[(0, .one (.lst .mv l false)), (1, .one (.lst (.int .i64) o false)), (6, .one (.own (.t 15 0))), (8, .one (.int .i64 (rd o i))), (9, .one (.ptr (.t 9 0) 0)), (10, .one (.int .i64 t)), (16, .one (.lst (.int .i64) o false)), (17, .one (.int .i64 (o.length : Int))), (18, .one (.int .i64 (i : Int))), (31, .one (.lst (.int .i64) xs false)), (32, .one (.int .i64 n)), (33, .one (.int .i64 z))], [(.t 15 0, some (.row (.int .i64) ts)), (.t 9 0, some (.cells (encMv (rdM l (rd o i)))))], [.lp [0, 1, 0, 1, 1, 1, 0, 0, 1, 1, 0, 0, 1, 0, 1, 1], .blk 2, .code [1, 1, 1, 1, 0, 0, 1, 1, 0, 0, 1, 0, 1, 1], .blk 1, .code [1, 1, 1, 0, 0, 1, 0, 1, 1], .lp [0, 1, 0, 1, 1], .blk 0, .code [1, 1, 1]], none⟩) := by
        intro c
        induction c with
        | zero =>
          intro q z t n xs hz hn hx hq ht hf
          subst hz hn hx
          obtain ⟨g1, g2⟩ := ordFrom_ts he rfl hmo hts (t := t) (by rw [← hf.h]; rfl) ht.1
          rw [eM]
          have et : tickOf (at' l (pl o i)) t = if 0 ≤ (at' l (pl o i)).f5 then (if (at' l (pl o i)).f5 < t then none else if (at' l (pl o i)).f4 < (at' l (pl o i)).f5 then none else some (at' l (pl o i)).f5) else if (at' l (pl o i)).f4 < t then none else some t := rfl
          refine Run.loop ?_
          repeat' (conv => arg 4; whnf); first | refine Run.ret ⟨?_, rfl⟩ | refine Run.condT ?_ | refine Run.condf ?_ | refine Run.condD (fun h => ?_) (fun h => ?_) | refine Run.condN (fun h => ?_) (fun h => ?_) | refine Run.condE (fun h => ?_) (fun h => ?_) | refine Run.condF (fun h => ?_) (fun h => ?_) | refine Run.condM (fun h => ?_) (fun h => ?_) | refine Run.condB (fun h => ?_) (fun h => ?_) | refine Run.check1 ?_ | (exfalso; omega) | refine Run.need1 (by simp only [allP, true_and, and_true]; omega) ?_ | (refine Run.ret (.inr ⟨g1 ?_, rfl, rfl⟩)) | refine Run.round ⟨[(.t 15 0, .t 15 0)], [], []⟩ (ih (i + 1) _ _ e.h (by omega) ?_ ?_) rfl (by (repeat' (first | exact wkEnv_nil | refine wkEnv_cons rfl ?_ | exact wkSto_nil | refine wkSto_none ?_ | refine wkSto_some rfl ?_)); done) (by (repeat' (first | exact wkEnv_nil | refine wkEnv_cons rfl ?_ | exact wkSto_nil | refine wkSto_none ?_ | refine wkSto_some rfl ?_)); done)
          all_goals clear ih
          all_goals first
            | (exfalso; omega)
            | (rw [et]; (repeat' split) <;> first | rfl | (exfalso; omega))
            | (rw [e3]; refine (g2 _ ?_).2; rw [et]; (repeat' split) <;> first | rfl | (exfalso; omega))
            | (rw [e3]; refine (g2 _ ?_).1; rw [et]; (repeat' split) <;> first | rfl | (exfalso; omega))
            | trace_state
        | succ c ihc =>
          intro q z t n xs hz hn hx hq ht hf
          subst hz hn
          have hqo : q < o.length := by omega
          have hq1 := (pl_lt ho hqo).1
          have htq := hts.2 (pl o q) (by omega)
          have hg := gap_range (at' l (pl o q)) (at' l (pl o i))
          have hrd : rd xs (q : Int) = (pl o q : Int) := by
            rw [hx, ← rdO ho hqo, rd_nat, rd_nat, tk, tk, List.getD_eq_getElem?_getD, List.getD_eq_getElem?_getD, List.getElem?_take_of_lt (by omega)]
          have hxl : xs.length = i := by rw [hx, List.length_take]; omega
          have e2 : Fact (wrap64 ((q : Int) + 1) = ((q + 1 : Nat) : Int)) := ⟨wrap_eq (by omega) (by omega)⟩
          have hstep : Fact (max t (wrap64 (rd ts (rd xs q) + gap (rdM l (rd xs q)) (rdM l (rd o i)))) = lStep l o ts (at' l (pl o i)) q t) := ⟨by
            rw [hrd, eM, rd_nat, rdM_nat, wrap_eq (by omega) (by omega)]
            rfl⟩
          have hinv := lStep_inv (l := l) (o := o) (q := q) (m := at' l (pl o i)) htq ht
          have hf' : Fact (foldFrom (lStep l o ts (at' l (pl o i))) (q + 1) c (lStep l o ts (at' l (pl o i)) q t) = leastT l o ts i) := ⟨hf.h⟩
          clear ei e3
          obtain ⟨v, hv⟩ : ∃ v : Nat, pl o q = v := ⟨_, rfl⟩
          rw [hv] at hq1 htq hrd
          clear hg
          refine Run.loop ?_
          repeat' (conv => arg 4; whnf); first | refine Run.ret ⟨?_, rfl⟩ | refine Run.condT ?_ | refine Run.condf ?_ | refine Run.condD (fun h => ?_) (fun h => ?_) | refine Run.condN (fun h => ?_) (fun h => ?_) | refine Run.condE (fun h => ?_) (fun h => ?_) | refine Run.condF (fun h => ?_) (fun h => ?_) | refine Run.condM (fun h => ?_) (fun h => ?_) | refine Run.condB (fun h => ?_) (fun h => ?_) | refine Run.check1 ?_ | refine Run.call (gap_ok _ _) rfl ?_ | refine Run.need1 (by simp only [allP, true_and, and_true]; omega) ?_ | refine Run.round ⟨[(.t 15 0, .t 15 0), (.t 9 0, .t 9 0)], [], []⟩ (ihc (q + 1) _ _ _ _ e2.h rfl hx (by omega) ?_ ?_) rfl (by (repeat' (first | exact wkEnv_nil | refine wkEnv_cons rfl ?_ | exact wkSto_nil | refine wkSto_none ?_ | refine wkSto_some rfl ?_)); done) (by (repeat' (first | exact wkEnv_nil | refine wkEnv_cons rfl ?_ | exact wkSto_nil | refine wkSto_none ?_ | refine wkSto_some rfl ?_)); done) | (exfalso; omega)
          all_goals clear ih ihc
          all_goals first
            | (exfalso; omega)
            | (rw [hstep.h]; omega)
            | (rw [hstep.h]; exact hf')
            | trace_state
      refine Run.loop ?_
      repeat' (conv => arg 4; whnf); first | refine Run.ret ⟨?_, rfl⟩ | refine Run.condT ?_ | refine Run.condf ?_ | refine Run.condD (fun h => ?_) (fun h => ?_) | refine Run.condN (fun h => ?_) (fun h => ?_) | refine Run.condE (fun h => ?_) (fun h => ?_) | refine Run.condF (fun h => ?_) (fun h => ?_) | refine Run.condM (fun h => ?_) (fun h => ?_) | refine Run.condB (fun h => ?_) (fun h => ?_) | refine Run.check1 ?_ | refine Run.need1 (by simp only [allP, true_and, and_true]; omega) ?_ | refine Run.round ⟨[(.t 15 0, .t 15 0), (.t 9 0, .t 9 0)], [], []⟩ (inner i 0 _ _ _ _ rfl ?_ ?_ (by omega) ?_ ?_) rfl (by (repeat' (first | exact wkEnv_nil | refine wkEnv_cons rfl ?_ | exact wkSto_nil | refine wkSto_none ?_ | refine wkSto_some rfl ?_)); done) (by (repeat' (first | exact wkEnv_nil | refine wkEnv_cons rfl ?_ | exact wkSto_nil | refine wkSto_none ?_ | refine wkSto_some rfl ?_)); done) | (exfalso; omega)
      all_goals clear ih inner
      all_goals first
        | (exfalso; omega)
        | rfl
        | (rw [eM]; omega)
        | (rw [eM]; exact ⟨rfl⟩)
        | (simp only [List.length_take]; omega)
        | trace_state
  repeat' (conv => arg 4; whnf); first | refine Run.ret ⟨?_, rfl⟩ | refine Run.condT ?_ | refine Run.condf ?_ | refine Run.condD (fun h => ?_) (fun h => ?_) | refine Run.condN (fun h => ?_) (fun h => ?_) | refine Run.condE (fun h => ?_) (fun h => ?_) | refine Run.condF (fun h => ?_) (fun h => ?_) | refine Run.condM (fun h => ?_) (fun h => ?_) | refine Run.condB (fun h => ?_) (fun h => ?_) | refine Run.check1 ?_ | refine Run.need1 (by simp only [allP, true_and, and_true]; omega) ?_ | refine Run.round ⟨[(.t 15 0, .t 15 0)], [], []⟩ (outer l.length 0 _ _ rfl (by omega) ?_ rfl) rfl (by (repeat' (first | exact wkEnv_nil | refine wkEnv_cons rfl ?_ | exact wkSto_nil | refine wkSto_none ?_ | refine wkSto_some rfl ?_)); done) (by (repeat' (first | exact wkEnv_nil | refine wkEnv_cons rfl ?_ | exact wkSto_nil | refine wkSto_none ?_ | refine wkSto_some rfl ?_)); done)
  all_goals first
    | exact ⟨by simp, fun j hj => by simp [tk, List.getD_eq_getElem?_getD, hj]⟩
    | trace_state
theorem sordered_ok (l : List Mv) (o : List Int) (hm : AllOk l) (hl : l.length ≤ 1048576) (ho : IsOrd o) (hlen : o.length = l.length) : Ok P 97 [.one (.lst .mv l false), .one (.lst (.int .i64) o false)] [] (.tup [.one (.own (.k 0)), .one (.bool (ordM l o).2)]) [some (.row (.int .i64) (ordM l o).1)] := by
  refine Ok.of_run (F := mk Tryz.f97 0) Tryz.func97 rfl rfl tabOk mixed rfl rfl rfl rfl rfl (Nat.le_of_ble_eq_true rfl) (Nat.le_of_ble_eq_true rfl) (.go 5000 ?_)
  have outer : ∀ (d i : Nat) (z : Int) (ts : List Int), z = i → i + d = l.length → Ts l.length ts → ordFrom l o d i ts = ordM l o → Run P (mk Tryz.f97 0) (fun v s => v = .tup [.one (.own (.k 0)), .one (.bool (ordM l o).2)] ∧ s = [some (.row (.int .i64) (ordM l o).1)]) (.loop ⟨[(0, .one (.lst .mv l false)), (1, .one (.lst (.int .i64) o false)), (6, .one (.own (.t 14 0))), (7, .one (.int .i64 z))], [(.t 14 0, some (.row (.int .i64) ts))], [.lp [0, 1, 0, 1, 1], .blk 0, .code [1, 1, 1]], none⟩) := by
    intro d
    induction d with
    | zero =>
      intro i z ts hz hd hts he
      subst hz
      have h1 : (ordM l o).2 = true := by rw [← he]; rfl
      have h2 : (ordM l o).1 = ts := by rw [← he]; rfl
      refine Run.loop ?_
      repeat' (conv => arg 4; whnf); first | refine Run.ret ⟨?_, rfl⟩ | refine Run.condT ?_ | refine Run.condf ?_ | refine Run.condD (fun h => ?_) (fun h => ?_) | refine Run.condN (fun h => ?_) (fun h => ?_) | refine Run.condE (fun h => ?_) (fun h => ?_) | refine Run.condF (fun h => ?_) (fun h => ?_) | refine Run.condM (fun h => ?_) (fun h => ?_) | refine Run.condB (fun h => ?_) (fun h => ?_) | refine Run.check1 ?_ | (exfalso; omega) | (refine Run.ret ⟨?_, ?_⟩)
      all_goals first | (exfalso; omega) | (rw [h1]; done) | (rw [h2]; done) | trace_state
    | succ d ih =>
      intro i z ts hz hd hts he
      subst hz
      have hio : i < o.length := by omega
      have hp := (pl_lt ho hio).1
      have hmo := hm _ (show pl o i < l.length by omega)
      have hm3 : 0 ≤ (at' l (pl o i)).f3 ∧ (at' l (pl o i)).f3 ≤ 10000 := by
        have := (mvOk_range hmo).2.2.2.2
        omega
      have ei := rdO ho hio
      have eM : rdM l (rd o i) = at' l (pl o i) := by rw [ei, rdM_nat]
      have e3 : (rd o (i : Int)).toNat = pl o i := by rw [ei]; rfl
      have hlt := hts.1
      have e := fs (i := i) (by omega)
      have inner : ∀ (c q : Nat) (z t : Int), z = q → q + c = i → 0 ≤ t ∧ t ≤ 10004 → Fact (foldFrom (lStep l o ts (at' l (pl o i))) q c t = leastT l o ts i) →
          Run P (mk Tryz.f97 0) (fun v s => v = .tup [.one (.own (.k 0)), .one (.bool (ordM l o).2)] ∧ s = [some (.row (.int .i64) (ordM l o).1)]) (.loop ⟨[(0, .one (.lst .mv l false)), (1, .one (.lst (.int .i64) o false)), (6, .one (.own (.t 14 0))), (7, .one (.int .i64 (i : Int))), (8, .one (.ptr (.t 8 0) 0)), (9, .one (.int .i64 t)), (10, .one (.int .i64 z))], [(.t 14 0, some (.row (.int .i64) ts)), (.t 8 0, some (.cells (encMv (rdM l (rd o i)))))], [.lp [0, 1, 0, 1, 1, 0, 0, 1, 0, 0, 1, 0, 1, 1], .blk 2, .code [1, 1, 1, 0, 0, 1, 0, 0, 1, 0, 1, 1], .blk 1, .code [1, 1, 0, 0, 1, 0, 1, 1], .lp [0, 1, 0, 1, 1], .blk 0, .code [1, 1, 1]], none⟩) := by
        intro c
        induction c with
        | zero =>
          intro q z t hz hq ht hf
          subst hz
          obtain ⟨g1, g2⟩ := ordFrom_ts he rfl hmo hts (t := t) (by rw [← hf.h]; rfl) ht.1
          rw [eM]
          have et : tickOf (at' l (pl o i)) t = if 0 ≤ (at' l (pl o i)).f5 then (if (at' l (pl o i)).f5 < t then none else if (at' l (pl o i)).f4 < (at' l (pl o i)).f5 then none else some (at' l (pl o i)).f5) else if (at' l (pl o i)).f4 < t then none else some t := rfl
          have g0 : tickOf (at' l (pl o i)) t = none → ordM l o = ([], false) := fun h => Prod.ext (ordM_nil l o (g1 h)) (g1 h)
          refine Run.loop ?_
          repeat' (conv => arg 4; whnf); first | refine Run.ret ⟨?_, rfl⟩ | refine Run.condT ?_ | refine Run.condf ?_ | refine Run.condD (fun h => ?_) (fun h => ?_) | refine Run.condN (fun h => ?_) (fun h => ?_) | refine Run.condE (fun h => ?_) (fun h => ?_) | refine Run.condF (fun h => ?_) (fun h => ?_) | refine Run.condM (fun h => ?_) (fun h => ?_) | refine Run.condB (fun h => ?_) (fun h => ?_) | refine Run.check1 ?_ | (exfalso; omega) | refine Run.need1 (by simp only [allP, true_and, and_true]; omega) ?_ | (refine Run.ret ⟨?_, ?_⟩) | refine Run.round ⟨[(.t 14 0, .t 14 0)], [], []⟩ (ih (i + 1) _ _ e.h (by omega) ?_ ?_) rfl (by (repeat' (first | exact wkEnv_nil | refine wkEnv_cons rfl ?_ | exact wkSto_nil | refine wkSto_none ?_ | refine wkSto_some rfl ?_)); done) (by (repeat' (first | exact wkEnv_nil | refine wkEnv_cons rfl ?_ | exact wkSto_nil | refine wkSto_none ?_ | refine wkSto_some rfl ?_)); done)
          all_goals clear ih
          all_goals first
            | (exfalso; omega)
            | (rw [e3]; refine (g2 _ ?_).2; rw [et]; (repeat' split) <;> first | rfl | (exfalso; omega))
            | (rw [e3]; refine (g2 _ ?_).1; rw [et]; (repeat' split) <;> first | rfl | (exfalso; omega))
            | (rw [g0 (by rw [et]; (repeat' split) <;> first | rfl | (exfalso; omega))]; done)
            | (rw [g0 (by rw [et]; (repeat' split) <;> first | rfl | (exfalso; omega))]; rfl)
            | trace_state
        | succ c ihc =>
          intro q z t hz hq ht hf
          subst hz
          have hqo : q < o.length := by omega
          have hq1 := (pl_lt ho hqo).1
          have htq := hts.2 (pl o q) (by omega)
          have hrd : rd o (q : Int) = (pl o q : Int) := rdO ho hqo
          have e2 := fs (i := q) (by omega)
          have hg := gap_range (at' l (pl o q)) (at' l (pl o i))
          have hstep : Fact (wrap64 (rd ts (rd o q) + gap (rdM l (rd o q)) (rdM l (rd o i))) = tk ts (pl o q) + gap (at' l (pl o q)) (at' l (pl o i))) := ⟨by
            rw [hrd, eM, rd_nat, rdM_nat, wrap_eq (by omega) (by omega)]⟩
          have hinv := lStep_inv (l := l) (o := o) (q := q) (m := at' l (pl o i)) htq ht
          have hf' : Fact (foldFrom (lStep l o ts (at' l (pl o i))) (q + 1) c (lStep l o ts (at' l (pl o i)) q t) = leastT l o ts i) := ⟨hf.h⟩
          have hmax : Fact (lStep l o ts (at' l (pl o i)) q t = max t (tk ts (pl o q) + gap (at' l (pl o q)) (at' l (pl o i)))) := ⟨rfl⟩
          generalize lStep l o ts (at' l (pl o i)) q t = s at hinv hf' hmax
          generalize tk ts (pl o q) + gap (at' l (pl o q)) (at' l (pl o i)) = u at hstep hmax
          clear hg htq
          clear ei e3
          refine Run.loop ?_
          repeat' (conv => arg 4; whnf); first | refine Run.ret ⟨?_, rfl⟩ | refine Run.condT ?_ | refine Run.condf ?_ | refine Run.condD (fun h => ?_) (fun h => ?_) | refine Run.condN (fun h => ?_) (fun h => ?_) | refine Run.condE (fun h => ?_) (fun h => ?_) | refine Run.condF (fun h => ?_) (fun h => ?_) | refine Run.condM (fun h => ?_) (fun h => ?_) | refine Run.condB (fun h => ?_) (fun h => ?_) | refine Run.check1 ?_ | refine Run.call (sgap_ok _ _) rfl ?_ | refine Run.need1 (by simp only [allP, true_and, and_true]; omega) ?_ | refine Run.round ⟨[(.t 14 0, .t 14 0), (.t 8 0, .t 8 0)], [], []⟩ (ihc (q + 1) _ _ e2.h (by omega) ?_ ?_) rfl (by (repeat' (first | exact wkEnv_nil | refine wkEnv_cons rfl ?_ | exact wkSto_nil | refine wkSto_none ?_ | refine wkSto_some rfl ?_)); done) (by (repeat' (first | exact wkEnv_nil | refine wkEnv_cons rfl ?_ | exact wkSto_nil | refine wkSto_none ?_ | refine wkSto_some rfl ?_)); done) | (exfalso; omega)
          all_goals clear ih ihc
          all_goals (simp only [hstep.h] at *)
          all_goals first
            | (exfalso; omega)
            | (have hm := hmax.h; omega)
            | (have hm := hmax.h; rw [show t = s by omega]; exact hf')
            | (have hm := hmax.h; rw [show u = s by omega]; exact hf')
            | trace_state
      refine Run.loop ?_
      repeat' (conv => arg 4; whnf); first | refine Run.ret ⟨?_, rfl⟩ | refine Run.condT ?_ | refine Run.condf ?_ | refine Run.condD (fun h => ?_) (fun h => ?_) | refine Run.condN (fun h => ?_) (fun h => ?_) | refine Run.condE (fun h => ?_) (fun h => ?_) | refine Run.condF (fun h => ?_) (fun h => ?_) | refine Run.condM (fun h => ?_) (fun h => ?_) | refine Run.condB (fun h => ?_) (fun h => ?_) | refine Run.check1 ?_ | refine Run.need1 (by simp only [allP, true_and, and_true]; omega) ?_ | refine Run.round ⟨[(.t 14 0, .t 14 0), (.t 8 0, .t 8 0)], [], []⟩ (inner i 0 _ _ rfl (by omega) ?_ ?_) rfl (by (repeat' (first | exact wkEnv_nil | refine wkEnv_cons rfl ?_ | exact wkSto_nil | refine wkSto_none ?_ | refine wkSto_some rfl ?_)); done) (by (repeat' (first | exact wkEnv_nil | refine wkEnv_cons rfl ?_ | exact wkSto_nil | refine wkSto_none ?_ | refine wkSto_some rfl ?_)); done) | (exfalso; omega)
      all_goals clear ih inner
      all_goals first
        | (exfalso; omega)
        | (rw [eM]; omega)
        | (rw [eM]; exact ⟨rfl⟩)
        | trace_state
  repeat' (conv => arg 4; whnf); first | refine Run.ret ⟨?_, rfl⟩ | refine Run.condT ?_ | refine Run.condf ?_ | refine Run.condD (fun h => ?_) (fun h => ?_) | refine Run.condN (fun h => ?_) (fun h => ?_) | refine Run.condE (fun h => ?_) (fun h => ?_) | refine Run.condF (fun h => ?_) (fun h => ?_) | refine Run.condM (fun h => ?_) (fun h => ?_) | refine Run.condB (fun h => ?_) (fun h => ?_) | refine Run.check1 ?_ | refine Run.need1 (by simp only [allP, true_and, and_true]; omega) ?_ | refine Run.round ⟨[(.t 14 0, .t 14 0)], [], []⟩ (outer l.length 0 _ _ rfl (by omega) ?_ rfl) rfl (by (repeat' (first | exact wkEnv_nil | refine wkEnv_cons rfl ?_ | exact wkSto_nil | refine wkSto_none ?_ | refine wkSto_some rfl ?_)); done) (by (repeat' (first | exact wkEnv_nil | refine wkEnv_cons rfl ?_ | exact wkSto_nil | refine wkSto_none ?_ | refine wkSto_some rfl ?_)); done)
  all_goals first
    | exact ⟨by simp, fun j hj => by simp [tk, List.getD_eq_getElem?_getD, hj]⟩
    | trace_state
end Go.Proofs.YtlmdbeegmgfpnaaGreatDoor.AM

/- StripBest of the program; condition: a move list. -/
namespace Go.Proofs.YtlmdbeegmgfpnaaGreatDoor.AM
open Go.AM Go.RowKit
set_option linter.unusedVariables false
set_option linter.unusedSimpArgs false
set_option maxRecDepth 100000

theorem isNaN_ok (a : Int) : Ok P 170 [.one (.int .i64 a)] [] (.one (.bool false)) [] := by
  refine Ok.of_run (F := mk Tryz.f170 0) Tryz.func170 rfl rfl tabOk mixed rfl rfl rfl rfl rfl (Nat.le_of_ble_eq_true rfl) (Nat.le_of_ble_eq_true rfl) (.go 5000 ?_)
  repeat' (conv => arg 4; whnf); first | refine Run.ret ⟨?_, rfl⟩ | refine Run.condT ?_ | refine Run.condf ?_ | refine Run.condD (fun h => ?_) (fun h => ?_) | refine Run.condN (fun h => ?_) (fun h => ?_) | refine Run.condE (fun h => ?_) (fun h => ?_) | refine Run.condF (fun h => ?_) (fun h => ?_) | refine Run.condM (fun h => ?_) (fun h => ?_) | refine Run.condB (fun h => ?_) (fun h => ?_) | refine Run.check1 ?_
  all_goals (refine vb ?_; simp)
theorem cmpI_ok (a b : Int) : Ok P 161 [.one (.int .i64 a), .one (.int .i64 b)] [] (.one (.int .i64 (if a = b then 0 else if a < b then -1 else 1))) [] := by
  refine Ok.of_run (F := mk Tryz.f161 0) Tryz.func161 rfl rfl tabOk mixed rfl rfl rfl rfl rfl (Nat.le_of_ble_eq_true rfl) (Nat.le_of_ble_eq_true rfl) (.go 5000 ?_)
  repeat' (conv => arg 4; whnf); first | refine Run.ret ⟨?_, rfl⟩ | refine Run.condT ?_ | refine Run.condf ?_ | refine Run.condD (fun h => ?_) (fun h => ?_) | refine Run.condN (fun h => ?_) (fun h => ?_) | refine Run.condE (fun h => ?_) (fun h => ?_) | refine Run.condF (fun h => ?_) (fun h => ?_) | refine Run.condM (fun h => ?_) (fun h => ?_) | refine Run.condB (fun h => ?_) (fun h => ?_) | refine Run.check1 ?_ | refine Run.call (isNaN_ok _) rfl ?_
  all_goals (refine vi ?_; (repeat' split) <;> omega)
theorem compare_ok (a b : List Int) (ha : a.length ≤ 1048576) (hab : a.length = b.length) : Ok P 137 [.one (.lst (.int .i64) a false), .one (.lst (.int .i64) b false)] [] (.one (.int .i64 (cmpM a b))) [] := by
  refine Ok.of_run (F := mk Tryz.f137 0) Tryz.func137 rfl rfl tabOk mixed rfl rfl rfl rfl rfl (Nat.le_of_ble_eq_true rfl) (Nat.le_of_ble_eq_true rfl) (.go 5000 ?_)
  have loop : ∀ (d i : Nat) (z : Int), z = i → i + d = a.length → Fact (cmpFrom a b i d = cmpM a b) → Run P (mk Tryz.f137 0) (fun v st => v = .one (.int .i64 (cmpM a b)) ∧ st = []) (.loop ⟨[(0, .one (.lst (.int .i64) a false)), (1, .one (.lst (.int .i64) b false)), (9, .one (.lst (.int .i64) a false)), (10, .one (.int .i64 (a.length : Int))), (11, .one (.int .i64 z))], [], [.lp [0, 1, 0, 1], .blk 0, .code [1, 1]], none⟩) := by
    intro d
    induction d with
    | zero =>
      intro i z hz hd he
      subst hz
      refine Run.loop ?_
      repeat' (conv => arg 4; whnf); first | refine Run.ret ⟨?_, rfl⟩ | refine Run.condT ?_ | refine Run.condf ?_ | refine Run.condD (fun h => ?_) (fun h => ?_) | refine Run.condN (fun h => ?_) (fun h => ?_) | refine Run.condE (fun h => ?_) (fun h => ?_) | refine Run.condF (fun h => ?_) (fun h => ?_) | refine Run.condM (fun h => ?_) (fun h => ?_) | refine Run.condB (fun h => ?_) (fun h => ?_) | refine Run.check1 ?_ | (exfalso; omega)
      all_goals first | (rw [← he.h]; rfl) | (exfalso; omega)
    | succ d ih =>
      intro i z hz hd he
      subst hz
      have e := fs (i := i) (by omega)
      have hc := he.h
      unfold cmpFrom at hc
      rw [← rd_nat, ← rd_nat] at hc
      replace hc : Fact _ := ⟨hc⟩
      refine Run.loop ?_
      repeat' (conv => arg 4; whnf); first | refine Run.ret ⟨?_, rfl⟩ | refine Run.condT ?_ | refine Run.condf ?_ | refine Run.condD (fun h => ?_) (fun h => ?_) | refine Run.condN (fun h => ?_) (fun h => ?_) | refine Run.condE (fun h => ?_) (fun h => ?_) | refine Run.condF (fun h => ?_) (fun h => ?_) | refine Run.condM (fun h => ?_) (fun h => ?_) | refine Run.condB (fun h => ?_) (fun h => ?_) | refine Run.check1 ?_ | (exfalso; omega) | refine Run.need1 (by simp only [allP, true_and, and_true]; omega) ?_ | refine Run.call (cmpI_ok _ _) rfl ?_ | refine Run.round ⟨[], [], []⟩ (ih (i + 1) _ e.h (by omega) ?_) rfl (by (repeat' (first | exact wkEnv_nil | refine wkEnv_cons rfl ?_ | exact wkSto_nil | refine wkSto_none ?_ | refine wkSto_some rfl ?_)); done) (by (repeat' (first | exact wkEnv_nil | refine wkEnv_cons rfl ?_ | exact wkSto_nil | refine wkSto_none ?_ | refine wkSto_some rfl ?_)); done)
      all_goals clear ih
      all_goals first
        | (exfalso; omega)
        | (have hne : ¬ rd a (i : Int) = rd b (i : Int) := fun q => absurd (if_pos q) ‹_›
           rw [← hc.h, if_neg hne, if_neg hne])
        | (have hq : rd a (i : Int) = rd b (i : Int) := Classical.byContradiction fun q => by
             have h0 : (if rd a (i : Int) = rd b (i : Int) then 0 else if rd a (i : Int) < rd b (i : Int) then -1 else 1) = (0 : Int) := by assumption
             rw [if_neg q] at h0
             split at h0 <;> omega
           have hc := hc.h
           rw [if_pos hq] at hc
           exact ⟨hc⟩)
        | trace_state
  repeat' (conv => arg 4; whnf); first | refine Run.ret ⟨?_, rfl⟩ | refine Run.condT ?_ | refine Run.condf ?_ | refine Run.condD (fun h => ?_) (fun h => ?_) | refine Run.condN (fun h => ?_) (fun h => ?_) | refine Run.condE (fun h => ?_) (fun h => ?_) | refine Run.condF (fun h => ?_) (fun h => ?_) | refine Run.condM (fun h => ?_) (fun h => ?_) | refine Run.condB (fun h => ?_) (fun h => ?_) | refine Run.check1 ?_ | refine Run.round ⟨[], [], []⟩ (loop a.length 0 _ rfl (by omega) ⟨rfl⟩) rfl (by (repeat' (first | exact wkEnv_nil | refine wkEnv_cons rfl ?_ | exact wkSto_nil | refine wkSto_none ?_ | refine wkSto_some rfl ?_)); done) (by (repeat' (first | exact wkEnv_nil | refine wkEnv_cons rfl ?_ | exact wkSto_nil | refine wkSto_none ?_ | refine wkSto_some rfl ?_)); done)
  all_goals first | (exfalso; omega) | trace_state
theorem contains_ok (b : List Int) (v : Int) (hb : b.length ≤ 1048576) : Ok P 158 [.one (.lst (.int .i64) b false), .one (.int .i64 v)] [] (.one (.bool (decide (v ∈ b)))) [] := by
  refine Ok.of_run (F := mk Tryz.f158 0) Tryz.func158 rfl rfl tabOk mixed rfl rfl rfl rfl rfl (Nat.le_of_ble_eq_true rfl) (Nat.le_of_ble_eq_true rfl) (.go 5000 ?_)
  repeat' (conv => arg 4; whnf); first | refine Run.ret ⟨?_, rfl⟩ | refine Run.condT ?_ | refine Run.condf ?_ | refine Run.condD (fun h => ?_) (fun h => ?_) | refine Run.condN (fun h => ?_) (fun h => ?_) | refine Run.condE (fun h => ?_) (fun h => ?_) | refine Run.condF (fun h => ?_) (fun h => ?_) | refine Run.condM (fun h => ?_) (fun h => ?_) | refine Run.condB (fun h => ?_) (fun h => ?_) | refine Run.check1 ?_ | refine Run.call (index_ok _ _ hb) rfl ?_
  all_goals (refine vb ?_; simp only [decide_eq_true_eq]; exact pos_mem b v)
/-- What the best's closure holds: the best with its ticks in a row of their own. -/
noncomputable def stO (l : List Mv) (first : List Int) (sh : Int) (s : Option (List Int)) : List (Option C) :=
  [some (.cells [.lst (.int .i64) first false]), some (.cells [.int .i64 sh]), some (.cells [.lst .mv l false]), some (.cells [.bool s.isSome]), some (.cells [.int .i64 (sumO l s)]), some (.cells [.int .i64 (mostO l s)]), some (.cells [.own (.k 7)]), some (.row (.int .i64) (tksO s))]
noncomputable def stC (l : List Mv) (first : List Int) (sh : Int) (s0 s : Option (List Int)) : List (Option C) :=
  [some (.cells [.lst (.int .i64) first false]), some (.cells [.int .i64 sh]), some (.cells [.lst .mv l false]), some (.cells [.bool s.isSome]), some (.cells [.int .i64 (sumO l s)]), some (.cells [.int .i64 (mostO l s)]), some (.cells [.own (.k 8)]), some (.row (.int .i64) (tksO s0)), some (.row (.int .i64) (tksO s))]
noncomputable def stB (l : List Mv) (first : List Int) (sh : Int) (s0 s : Option (List Int)) (c : Bool) : List (Option C) := if c = true then stC l first sh s0 s else stO l first sh s0
theorem stB_len {l : List Mv} {first : List Int} {sh : Int} {s0 s : Option (List Int)} {c : Bool} : 8 ≤ (stB l first sh s0 s c).length := by
  cases c <;> exact Nat.le_of_ble_eq_true rfl
theorem tell_ok (l : List Mv) (first : List Int) (sh : Int) (s : Option (List Int)) (o : List Int) (hm : MovesOk l) (hf : IsOrd first) (hfl : first.length = l.length) (ho : IsOrd o) (hol : o.length = l.length) (hs : BestOk l s) :
    Ok P 134 [.one (.lst (.int .i64) o false), .one (.ptr (.k 0) 0), .one (.ptr (.k 1) 0), .one (.ptr (.k 2) 0), .one (.ptr (.k 3) 0), .one (.ptr (.k 4) 0), .one (.ptr (.k 5) 0), .one (.ptr (.k 6) 0)] (stO l first sh s) (.tup []) (stB l first sh s (bestStep l first sh s o) (chg l first sh s o)) := by
  have h6 := hm.1
  have hshift := shift_ok first o (by omega) (by omega)
  by_cases h1 : sh < shiftM first o
  · rw [show chg l first sh s o = false from if_pos h1]
    refine Ok.of_run (F := mk Tryz.f134 8) Tryz.func134 rfl rfl tabOk mixed rfl rfl rfl rfl rfl (Nat.le_of_ble_eq_true rfl) (Nat.le_of_ble_eq_true rfl) (.go 5000 ?_)
    repeat' (conv => arg 4; whnf); first | refine Run.ret ⟨?_, rfl⟩ | refine Run.condT ?_ | refine Run.condf ?_ | refine Run.condD (fun h => ?_) (fun h => ?_) | refine Run.condN (fun h => ?_) (fun h => ?_) | refine Run.condE (fun h => ?_) (fun h => ?_) | refine Run.condF (fun h => ?_) (fun h => ?_) | refine Run.condM (fun h => ?_) (fun h => ?_) | refine Run.condB (fun h => ?_) (fun h => ?_) | refine Run.check1 ?_ | refine Run.call (hshift) rfl ?_ | (exfalso; omega)
    all_goals first | rfl | trace_state
  · have hord := ordered_ok l o (movesOk_all hm) (by omega) ho hol
    cases hok : (ordM l o).2 with
    | false =>
      rw [hok] at hord
      rw [show chg l first sh s o = false by unfold chg; rw [if_neg h1, hok]; rfl]
      refine Ok.of_run (F := mk Tryz.f134 8) Tryz.func134 rfl rfl tabOk mixed rfl rfl rfl rfl rfl (Nat.le_of_ble_eq_true rfl) (Nat.le_of_ble_eq_true rfl) (.go 5000 ?_)
      repeat' (conv => arg 4; whnf); first | refine Run.ret ⟨?_, rfl⟩ | refine Run.condT ?_ | refine Run.condf ?_ | refine Run.condD (fun h => ?_) (fun h => ?_) | refine Run.condN (fun h => ?_) (fun h => ?_) | refine Run.condE (fun h => ?_) (fun h => ?_) | refine Run.condF (fun h => ?_) (fun h => ?_) | refine Run.condM (fun h => ?_) (fun h => ?_) | refine Run.condB (fun h => ?_) (fun h => ?_) | refine Run.check1 ?_ | refine Run.call (hshift) rfl ?_ | refine Run.call (hord) rfl ?_ | (exfalso; omega)
      all_goals first | rfl | trace_state
    | true =>
      have hfit := ordM_fits hm ho hol hok
      rw [hok] at hord
      have hstep : bestStep l first sh s o = if chg l first sh s o = true then some (ordM l o).1 else s := bestStep_chg l first sh s o
      have hchg : chg l first sh s o = betO l (ordM l o).1 s := by unfold chg; rw [if_neg h1, if_pos hok]
      rw [hstep, hchg]
      clear hstep hchg
      generalize (ordM l o).1 = ts at *
      have hdl := fits_dl hfit
      obtain ⟨htl, -, hdl⟩ := hdl
      have hcb := costM_inv (fits_dl hfit)
      refine Ok.of_run (F := mk Tryz.f134 8) Tryz.func134 rfl rfl tabOk mixed rfl rfl rfl rfl rfl (Nat.le_of_ble_eq_true rfl) (stB_len) (.go 5000 ?_)
      have loop : ∀ (d i : Nat) (z u v : Int), z = i → i + d = l.length → CInv i (u, v) → Fact (foldFrom (cStep l ts) i d (u, v) = costM l ts) →
          Run P (mk Tryz.f134 8) (fun x st => x = .tup [] ∧ st = stB l first sh s (if betO l ts s = true then some ts else s) (betO l ts s))
            (.loop ⟨[(4, .one (.ptr (.k 3) 0)), (5, .one (.ptr (.k 4) 0)), (6, .one (.ptr (.k 5) 0)), (7, .one (.ptr (.k 6) 0)), (9, .one (.own (.t 24 0))), (11, .one (.int .i64 u)), (12, .one (.int .i64 v)), (29, .one (.lst .mv l false)), (30, .one (.int .i64 (l.length : Int))), (31, .one (.int .i64 z))],
              [(.k 0, some (.cells [.lst (.int .i64) first false])), (.k 1, some (.cells [.int .i64 sh])), (.k 2, some (.cells [.lst .mv l false])), (.k 3, some (.cells [.bool s.isSome])), (.k 4, some (.cells [.int .i64 (sumO l s)])), (.k 5, some (.cells [.int .i64 (mostO l s)])), (.k 6, some (.cells [.own (.k 7)])), (.k 7, some (.row (.int .i64) (tksO s))), (.t 24 0, some (.row (.int .i64) ts))], [.lp [0, 1, 0, 1, 1, 1, 1], .blk 0, .code [1, 1, 1, 1, 1]], none⟩) := by
        intro d
        induction d with
        | zero =>
          intro i z u v hz hd hinv hcost
          subst hz
          have hcu : Fact ((costM l ts).1 = u) := ⟨by rw [← hcost.h]; rfl⟩
          have hcv : Fact ((costM l ts).2 = v) := ⟨by rw [← hcost.h]; rfl⟩
          clear hcost
          cases s with
          | none =>
            refine Run.loop ?_
            repeat' (conv => arg 4; whnf); first | refine Run.ret ⟨?_, rfl⟩ | refine Run.condT ?_ | refine Run.condf ?_ | refine Run.condD (fun h => ?_) (fun h => ?_) | refine Run.condN (fun h => ?_) (fun h => ?_) | refine Run.condE (fun h => ?_) (fun h => ?_) | refine Run.condF (fun h => ?_) (fun h => ?_) | refine Run.condM (fun h => ?_) (fun h => ?_) | refine Run.condB (fun h => ?_) (fun h => ?_) | refine Run.check1 ?_ | (exfalso; omega) | (refine Run.ret ⟨rfl, ?_⟩)
            all_goals (rw [← hcu.h, ← hcv.h]; rfl)
          | some b =>
            have hbl := (hs b rfl).2.1
            have hcmp := compare_ok ts b (by omega) (by omega)
            have hlex := cmpM_lt ts b
            have hbe : betO l ts (some b) = if u = (costM l b).1 then (if v = (costM l b).2 then lexB ts b else decide (v < (costM l b).2)) else decide (u < (costM l b).1) := by unfold betO better; rw [hcu.h, hcv.h]
            refine Run.loop ?_
            repeat' (conv => arg 4; whnf); first | refine Run.ret ⟨?_, rfl⟩ | refine Run.condT ?_ | refine Run.condf ?_ | refine Run.condD (fun h => ?_) (fun h => ?_) | refine Run.condN (fun h => ?_) (fun h => ?_) | refine Run.condE (fun h => ?_) (fun h => ?_) | refine Run.condF (fun h => ?_) (fun h => ?_) | refine Run.condM (fun h => ?_) (fun h => ?_) | refine Run.condB (fun h => ?_) (fun h => ?_) | refine Run.check1 ?_ | (exfalso; omega) | refine Run.call (hcmp) rfl ?_ | (refine Run.ret ⟨rfl, ?_⟩)
            all_goals simp only [sumO, mostO] at *
            all_goals first
              | (have hb : betO l ts (some b) = true := by
                   rw [hbe]
                   (repeat' split) <;> first | (exfalso; omega) | exact decide_eq_true (by omega) | exact hlex.1 (by assumption)
                 rw [hb, ← hcu.h, ← hcv.h]
                 rfl)
              | (have hb : betO l ts (some b) = false := by
                   rw [hbe]
                   (repeat' split) <;> first
                     | (exfalso; omega)
                     | exact decide_eq_false (by omega)
                     | (cases hx : lexB ts b with
                        | false => rfl
                        | true => exact absurd (hlex.2 hx) (by assumption))
                 rw [hb]
                 rfl)
              | trace_state
        | succ d ih =>
          intro i z u v hz hd hinv hcost
          subst hz
          have e := fs (i := i) (by omega)
          have hdi := hdl i (by omega)
          unfold dl at hdi
          have hi1 := hinv
          unfold CInv at hi1
          dsimp only at hi1
          have hst := cInv_step (s := (u, v)) (hdl i (by omega)) hinv
          have hd1 : Fact (wrap64 (rd ts i - (rdM l i).f3) = dl l ts i) := ⟨by rw [rd_nat, rdM_nat]; exact wrap_eq (by omega) (by omega)⟩
          have hd2 : Fact (wrap64 (u + dl l ts i) = u + dl l ts i) := fw (by unfold dl; omega)
          have hc' : Fact (foldFrom (cStep l ts) (i + 1) d (cStep l ts i (u, v)) = costM l ts) := ⟨hcost.h⟩
          clear hdi hi1 hinv
          refine Run.loop ?_
          repeat' (conv => arg 4; whnf); first | refine Run.ret ⟨?_, rfl⟩ | refine Run.condT ?_ | refine Run.condf ?_ | refine Run.condD (fun h => ?_) (fun h => ?_) | refine Run.condN (fun h => ?_) (fun h => ?_) | refine Run.condE (fun h => ?_) (fun h => ?_) | refine Run.condF (fun h => ?_) (fun h => ?_) | refine Run.condM (fun h => ?_) (fun h => ?_) | refine Run.condB (fun h => ?_) (fun h => ?_) | refine Run.check1 ?_ | (exfalso; omega) | refine Run.need1 (by simp only [allP, true_and, and_true]; omega) ?_ | refine Run.round ⟨[(.t 24 0, .t 24 0)], [], []⟩ (ih (i + 1) _ _ _ e.h (by omega) ?_ ?_) rfl (by (repeat' (first | exact wkEnv_nil | refine wkEnv_cons rfl ?_ | exact wkSto_nil | refine wkSto_none ?_ | refine wkSto_some rfl ?_)); done) (by (repeat' (first | exact wkEnv_nil | refine wkEnv_cons rfl ?_ | exact wkSto_nil | refine wkSto_none ?_ | refine wkSto_some rfl ?_)); done)
          all_goals clear ih
          all_goals first
            | (rw [hd1.h, hd2.h]; exact hst)
            | (rw [hd1.h, hd2.h]; exact hc')
            | trace_state
      repeat' (conv => arg 4; whnf); first | refine Run.ret ⟨?_, rfl⟩ | refine Run.condT ?_ | refine Run.condf ?_ | refine Run.condD (fun h => ?_) (fun h => ?_) | refine Run.condN (fun h => ?_) (fun h => ?_) | refine Run.condE (fun h => ?_) (fun h => ?_) | refine Run.condF (fun h => ?_) (fun h => ?_) | refine Run.condM (fun h => ?_) (fun h => ?_) | refine Run.condB (fun h => ?_) (fun h => ?_) | refine Run.check1 ?_ | refine Run.call (hshift) rfl ?_ | refine Run.call (hord) rfl ?_ | refine Run.round ⟨[(.t 24 0, .t 24 0)], [], []⟩ (loop l.length 0 _ _ _ rfl (by omega) ?_ ⟨rfl⟩) rfl (by (repeat' (first | exact wkEnv_nil | refine wkEnv_cons rfl ?_ | exact wkSto_nil | refine wkSto_none ?_ | refine wkSto_some rfl ?_)); done) (by (repeat' (first | exact wkEnv_nil | refine wkEnv_cons rfl ?_ | exact wkSto_nil | refine wkSto_none ?_ | refine wkSto_some rfl ?_)); done) | (exfalso; omega)
      all_goals first | (unfold CInv; simp; done) | trace_state
end Go.Proofs.YtlmdbeegmgfpnaaGreatDoor.AM

/- All orders told, StripBest of the program; condition: a move list. -/
namespace Go.Proofs.YtlmdbeegmgfpnaaGreatDoor.AM
open Go.AM Go.RowKit
set_option linter.unusedVariables false
set_option linter.unusedSimpArgs false
set_option maxRecDepth 100000

noncomputable def tellV : V := .one (.fn 134 [.ptr (.k 0) 0, .ptr (.k 1) 0, .ptr (.k 2) 0, .ptr (.k 3) 0, .ptr (.k 4) 0, .ptr (.k 5) 0, .ptr (.k 6) 0])
set_option maxHeartbeats 4000000 in
theorem orders_ok (l : List Mv) (first : List Int) (sh : Int) (hm : MovesOk l) (hf : IsOrd first) (hfl : first.length = l.length) : ∀ (d : Nat) (ahead : List Int) (s : Option (List Int)) (n : Int), n = l.length → ahead.length + d = l.length → (∀ o ∈ ext l.length d ahead, o.length = l.length ∧ IsOrd o) → BestOk l s →
    Ok P 133 [.one (.int .i64 n), .one (.lst (.int .i64) ahead false), tellV] (stO l first sh s) (.tup []) (stB l first sh s ((ext l.length d ahead).foldl (bestStep l first sh) s) (chgL l first sh (ext l.length d ahead) s)) := by
  intro d
  have h6 := hm.1
  induction d with
  | zero =>
    intro ahead s n hn hd hos hs
    subst hn
    obtain ⟨h1, h2⟩ := hos ahead (by simp [ext])
    have htell := tell_ok l first sh s ahead hm hf hfl h2 h1 hs
    have e1 : chgL l first sh (ext l.length 0 ahead) s = chg l first sh s ahead := by simp [ext, chgL]
    have e2 : (ext l.length 0 ahead).foldl (bestStep l first sh) s = bestStep l first sh s ahead := rfl
    rw [e1, e2]
    cases hc : chg l first sh s ahead with
    | true =>
      rw [hc] at htell
      refine Ok.of_run (F := mk Tryz.f133 8) Tryz.func133 rfl rfl tabOk mixed rfl rfl rfl rfl rfl (Nat.le_of_ble_eq_true rfl) (Nat.le_of_ble_eq_true rfl) (.go 5000 ?_)
      repeat' (conv => arg 4; whnf); first | refine Run.ret ⟨?_, rfl⟩ | refine Run.condT ?_ | refine Run.condf ?_ | refine Run.condD (fun h => ?_) (fun h => ?_) | refine Run.condN (fun h => ?_) (fun h => ?_) | refine Run.condE (fun h => ?_) (fun h => ?_) | refine Run.condF (fun h => ?_) (fun h => ?_) | refine Run.condM (fun h => ?_) (fun h => ?_) | refine Run.condB (fun h => ?_) (fun h => ?_) | refine Run.check1 ?_ | refine Run.call (htell) rfl ?_ | (exfalso; omega)
      all_goals rfl
    | false =>
      rw [hc] at htell
      refine Ok.of_run (F := mk Tryz.f133 8) Tryz.func133 rfl rfl tabOk mixed rfl rfl rfl rfl rfl (Nat.le_of_ble_eq_true rfl) (Nat.le_of_ble_eq_true rfl) (.go 5000 ?_)
      repeat' (conv => arg 4; whnf); first | refine Run.ret ⟨?_, rfl⟩ | refine Run.condT ?_ | refine Run.condf ?_ | refine Run.condD (fun h => ?_) (fun h => ?_) | refine Run.condN (fun h => ?_) (fun h => ?_) | refine Run.condE (fun h => ?_) (fun h => ?_) | refine Run.condF (fun h => ?_) (fun h => ?_) | refine Run.condM (fun h => ?_) (fun h => ?_) | refine Run.condB (fun h => ?_) (fun h => ?_) | refine Run.check1 ?_ | refine Run.call (htell) rfl ?_ | (exfalso; omega)
      all_goals rfl
  | succ d ihd =>
    intro ahead s n hn hd hos hs
    subst hn
    have hstep := fun (i : Nat) => extUp_succ l.length d ahead i
    rw [ext_eq]
    have hoi : ∀ i, i < l.length → ∀ o ∈ extAt l.length d ahead i, o.length = l.length ∧ IsOrd o := fun i hi o ho => hos o (extAt_sub hi ho)
    have hup : ∀ i, i ≤ l.length → BestOk l ((extUp l.length d ahead i).foldl (bestStep l first sh) s) := fun i hi => foldl_ok hm (fun o ho => by
      obtain ⟨j, hj, h⟩ := List.mem_flatMap.1 ho
      exact hoi j (by have := List.mem_range.1 hj; omega) o h) hs
    have hcont := fun i : Int => contains_ok ahead i (by omega)
    have hal : ahead.length < l.length := by omega
    let R : V → List (Option C) → Prop := fun v st => v = .tup [] ∧ st = stB l first sh s ((extUp l.length d ahead l.length).foldl (bestStep l first sh) s) (chgL l first sh (extUp l.length d ahead l.length) s)
    have loopB : ∀ (c i : Nat) (z : Int) (si : Option (List Int)), z = i → i + c = l.length → si = (extUp l.length d ahead i).foldl (bestStep l first sh) s → chgL l first sh (extUp l.length d ahead i) s = true →
        Run P (mk Tryz.f133 8) R (.loop ⟨[(0, .one (.int .i64 (l.length : Int))), (1, .one (.lst (.int .i64) ahead false)), (2, tellV), (6, .one (.int .i64 z))],
          [(.k 0, some (.cells [.lst (.int .i64) first false])), (.k 1, some (.cells [.int .i64 sh])), (.k 2, some (.cells [.lst .mv l false])), (.k 3, some (.cells [.bool si.isSome])), (.k 4, some (.cells [.int .i64 (sumO l si)])), (.k 5, some (.cells [.int .i64 (mostO l si)])), (.k 6, some (.cells [.own (.t 1000 0)])), (.k 7, some (.row (.int .i64) (tksO s))), (.t 1000 0, some (.row (.int .i64) (tksO si)))], [.lp [0, 1, 1], .blk 0], none⟩) := by
      intro c
      induction c with
      | zero =>
        intro i z si hz hc hsi hch
        subst hz
        obtain rfl : i = l.length := by omega
        show Run P _ (fun v st => v = .tup [] ∧ st = stB l first sh s ((extUp l.length d ahead l.length).foldl (bestStep l first sh) s) (chgL l first sh (extUp l.length d ahead l.length) s)) _
        rw [← hsi, hch]
        refine Run.loop ?_
        repeat' (conv => arg 4; whnf); first | refine Run.ret ⟨?_, rfl⟩ | refine Run.condT ?_ | refine Run.condf ?_ | refine Run.condD (fun h => ?_) (fun h => ?_) | refine Run.condN (fun h => ?_) (fun h => ?_) | refine Run.condE (fun h => ?_) (fun h => ?_) | refine Run.condF (fun h => ?_) (fun h => ?_) | refine Run.condM (fun h => ?_) (fun h => ?_) | refine Run.condB (fun h => ?_) (fun h => ?_) | refine Run.check1 ?_ | (exfalso; omega)
        all_goals first | rfl | (exfalso; omega)
      | succ c ih =>
        intro i z si hz hc hsi hch
        subst hz
        have hi : i < l.length := by omega
        have e := fs (i := i) (by omega)
        have hch' : chgL l first sh (extUp l.length d ahead (i + 1)) s = true := by rw [hstep, chgL_app, hch]; rfl
        have hsi' : (extUp l.length d ahead (i + 1)).foldl (bestStep l first sh) s = (extAt l.length d ahead i).foldl (bestStep l first sh) si := by rw [hstep, List.foldl_append, ← hsi]
        have hbi : BestOk l si := by rw [hsi]; exact hup i (by omega)
        by_cases hin : (i : Int) ∈ ahead
        · have hcont := hcont i
          rw [decide_eq_true hin] at hcont
          have he : extAt l.length d ahead i = [] := if_pos hin
          rw [he] at hsi'
          refine Run.loop ?_
          repeat' (conv => arg 4; whnf); first | refine Run.ret ⟨?_, rfl⟩ | refine Run.condT ?_ | refine Run.condf ?_ | refine Run.condD (fun h => ?_) (fun h => ?_) | refine Run.condN (fun h => ?_) (fun h => ?_) | refine Run.condE (fun h => ?_) (fun h => ?_) | refine Run.condF (fun h => ?_) (fun h => ?_) | refine Run.condM (fun h => ?_) (fun h => ?_) | refine Run.condB (fun h => ?_) (fun h => ?_) | refine Run.check1 ?_ | refine Run.call (hcont) rfl ?_ | refine Run.round ⟨[(.t 1000 0, .t 1000 0)], [], []⟩ (ih (i + 1) _ si e.h (by omega) hsi'.symm hch') rfl (by (repeat' (first | exact wkEnv_nil | refine wkEnv_cons rfl ?_ | exact wkSto_nil | refine wkSto_none ?_ | refine wkSto_some rfl ?_)); done) (by (repeat' (first | exact wkEnv_nil | refine wkEnv_cons rfl ?_ | exact wkSto_nil | refine wkSto_none ?_ | refine wkSto_some rfl ?_)); done) | (exfalso; omega)
          all_goals (exfalso; omega)
        · have hcont := hcont i
          rw [decide_eq_false hin] at hcont
          have he : extAt l.length d ahead i = ext l.length d (ahead ++ [(i : Int)]) := if_neg hin
          have hoi := hoi i hi
          rw [he] at hsi' hoi
          have hrec := ihd (ahead ++ [(i : Int)]) si l.length rfl (by simp; omega) hoi hbi
          rw [← hsi'] at hrec
          cases hc2 : chgL l first sh (ext l.length d (ahead ++ [(i : Int)])) si with
          | true =>
            rw [hc2, show ahead ++ [(i : Int)] = ahead.take ((ahead.length : Int)).toNat ++ [(i : Int)] by simp] at hrec
            refine Run.loop ?_
            repeat' (conv => arg 4; whnf); first | refine Run.ret ⟨?_, rfl⟩ | refine Run.condT ?_ | refine Run.condf ?_ | refine Run.condD (fun h => ?_) (fun h => ?_) | refine Run.condN (fun h => ?_) (fun h => ?_) | refine Run.condE (fun h => ?_) (fun h => ?_) | refine Run.condF (fun h => ?_) (fun h => ?_) | refine Run.condM (fun h => ?_) (fun h => ?_) | refine Run.condB (fun h => ?_) (fun h => ?_) | refine Run.check1 ?_ | refine Run.call (hcont) rfl ?_ | refine Run.call (hrec) rfl ?_ | (refine Run.need1 (by simp only [allP, true_and, and_true, List.length_take, List.length_cons, List.length_nil]; omega) ?_) | (refine Run.need1 (by simp only [allP, true_and, and_true, List.length_take, List.length_cons, List.length_nil]; exact ⟨.inr (by omega), by omega⟩) ?_) | refine Run.round ⟨[(.t 34 0, .t 1000 0)], [], []⟩ (ih (i + 1) _ _ e.h (by omega) rfl hch') rfl (by (repeat' (first | exact wkEnv_nil | refine wkEnv_cons rfl ?_ | exact wkSto_nil | refine wkSto_none ?_ | refine wkSto_some rfl ?_)); done) (by (repeat' (first | exact wkEnv_nil | refine wkEnv_cons rfl ?_ | exact wkSto_nil | refine wkSto_none ?_ | refine wkSto_some rfl ?_)); done) | (exfalso; omega)
            all_goals (exfalso; omega)
          | false =>
            have hsame := chgL_no hc2
            rw [hc2, show ahead ++ [(i : Int)] = ahead.take ((ahead.length : Int)).toNat ++ [(i : Int)] by simp] at hrec
            rw [hsame] at hsi'
            refine Run.loop ?_
            repeat' (conv => arg 4; whnf); first | refine Run.ret ⟨?_, rfl⟩ | refine Run.condT ?_ | refine Run.condf ?_ | refine Run.condD (fun h => ?_) (fun h => ?_) | refine Run.condN (fun h => ?_) (fun h => ?_) | refine Run.condE (fun h => ?_) (fun h => ?_) | refine Run.condF (fun h => ?_) (fun h => ?_) | refine Run.condM (fun h => ?_) (fun h => ?_) | refine Run.condB (fun h => ?_) (fun h => ?_) | refine Run.check1 ?_ | refine Run.call (hcont) rfl ?_ | refine Run.call (hrec) rfl ?_ | (refine Run.need1 (by simp only [allP, true_and, and_true, List.length_take, List.length_cons, List.length_nil]; omega) ?_) | (refine Run.need1 (by simp only [allP, true_and, and_true, List.length_take, List.length_cons, List.length_nil]; exact ⟨.inr (by omega), by omega⟩) ?_) | refine Run.round ⟨[(.t 1000 0, .t 1000 0)], [], []⟩ (ih (i + 1) _ si e.h (by omega) hsi'.symm hch') rfl (by (repeat' (first | exact wkEnv_nil | refine wkEnv_cons rfl ?_ | exact wkSto_nil | refine wkSto_none ?_ | refine wkSto_some rfl ?_)); done) (by (repeat' (first | exact wkEnv_nil | refine wkEnv_cons rfl ?_ | exact wkSto_nil | refine wkSto_none ?_ | refine wkSto_some rfl ?_)); done) | (exfalso; omega)
            all_goals (exfalso; omega)
    have loopA : ∀ (c i : Nat) (z : Int), z = i → i + c = l.length → s = (extUp l.length d ahead i).foldl (bestStep l first sh) s → chgL l first sh (extUp l.length d ahead i) s = false →
        Run P (mk Tryz.f133 8) R (.loop ⟨[(0, .one (.int .i64 (l.length : Int))), (1, .one (.lst (.int .i64) ahead false)), (2, tellV), (6, .one (.int .i64 z))],
          [(.k 0, some (.cells [.lst (.int .i64) first false])), (.k 1, some (.cells [.int .i64 sh])), (.k 2, some (.cells [.lst .mv l false])), (.k 3, some (.cells [.bool s.isSome])), (.k 4, some (.cells [.int .i64 (sumO l s)])), (.k 5, some (.cells [.int .i64 (mostO l s)])), (.k 6, some (.cells [.own (.k 7)])), (.k 7, some (.row (.int .i64) (tksO s)))], [.lp [0, 1, 1], .blk 0], none⟩) := by
      intro c
      induction c with
      | zero =>
        intro i z hz hc hsi hch
        subst hz
        obtain rfl : i = l.length := by omega
        show Run P _ (fun v st => v = .tup [] ∧ st = stB l first sh s ((extUp l.length d ahead l.length).foldl (bestStep l first sh) s) (chgL l first sh (extUp l.length d ahead l.length) s)) _
        rw [← hsi, hch]
        refine Run.loop ?_
        repeat' (conv => arg 4; whnf); first | refine Run.ret ⟨?_, rfl⟩ | refine Run.condT ?_ | refine Run.condf ?_ | refine Run.condD (fun h => ?_) (fun h => ?_) | refine Run.condN (fun h => ?_) (fun h => ?_) | refine Run.condE (fun h => ?_) (fun h => ?_) | refine Run.condF (fun h => ?_) (fun h => ?_) | refine Run.condM (fun h => ?_) (fun h => ?_) | refine Run.condB (fun h => ?_) (fun h => ?_) | refine Run.check1 ?_ | (exfalso; omega)
        all_goals first | rfl | (exfalso; omega)
      | succ c ih =>
        intro i z hz hc hsi hch
        subst hz
        have hi : i < l.length := by omega
        have e := fs (i := i) (by omega)
        have hch' : chgL l first sh (extUp l.length d ahead (i + 1)) s = chgL l first sh (extAt l.length d ahead i) s := by rw [hstep, chgL_app, hch, ← hsi]; rfl
        have hsi' : (extUp l.length d ahead (i + 1)).foldl (bestStep l first sh) s = (extAt l.length d ahead i).foldl (bestStep l first sh) s := by rw [hstep, List.foldl_append, ← hsi]
        by_cases hin : (i : Int) ∈ ahead
        · have hcont := hcont i
          rw [decide_eq_true hin] at hcont
          have he : extAt l.length d ahead i = [] := if_pos hin
          rw [he] at hsi' hch'
          refine Run.loop ?_
          repeat' (conv => arg 4; whnf); first | refine Run.ret ⟨?_, rfl⟩ | refine Run.condT ?_ | refine Run.condf ?_ | refine Run.condD (fun h => ?_) (fun h => ?_) | refine Run.condN (fun h => ?_) (fun h => ?_) | refine Run.condE (fun h => ?_) (fun h => ?_) | refine Run.condF (fun h => ?_) (fun h => ?_) | refine Run.condM (fun h => ?_) (fun h => ?_) | refine Run.condB (fun h => ?_) (fun h => ?_) | refine Run.check1 ?_ | refine Run.call (hcont) rfl ?_ | refine Run.round ⟨[], [], []⟩ (ih (i + 1) _ e.h (by omega) hsi'.symm hch') rfl (by (repeat' (first | exact wkEnv_nil | refine wkEnv_cons rfl ?_ | exact wkSto_nil | refine wkSto_none ?_ | refine wkSto_some rfl ?_)); done) (by (repeat' (first | exact wkEnv_nil | refine wkEnv_cons rfl ?_ | exact wkSto_nil | refine wkSto_none ?_ | refine wkSto_some rfl ?_)); done) | (exfalso; omega)
          all_goals (exfalso; omega)
        · have hcont := hcont i
          rw [decide_eq_false hin] at hcont
          have he : extAt l.length d ahead i = ext l.length d (ahead ++ [(i : Int)]) := if_neg hin
          have hoi := hoi i hi
          rw [he] at hsi' hoi hch'
          have hrec := ihd (ahead ++ [(i : Int)]) s l.length rfl (by simp; omega) hoi hs
          rw [← hsi'] at hrec
          cases hc2 : chgL l first sh (ext l.length d (ahead ++ [(i : Int)])) s with
          | true =>
            rw [hc2] at hch'
            rw [hc2, show ahead ++ [(i : Int)] = ahead.take ((ahead.length : Int)).toNat ++ [(i : Int)] by simp] at hrec
            refine Run.loop ?_
            repeat' (conv => arg 4; whnf); first | refine Run.ret ⟨?_, rfl⟩ | refine Run.condT ?_ | refine Run.condf ?_ | refine Run.condD (fun h => ?_) (fun h => ?_) | refine Run.condN (fun h => ?_) (fun h => ?_) | refine Run.condE (fun h => ?_) (fun h => ?_) | refine Run.condF (fun h => ?_) (fun h => ?_) | refine Run.condM (fun h => ?_) (fun h => ?_) | refine Run.condB (fun h => ?_) (fun h => ?_) | refine Run.check1 ?_ | refine Run.call (hcont) rfl ?_ | refine Run.call (hrec) rfl ?_ | (refine Run.need1 (by simp only [allP, true_and, and_true, List.length_take, List.length_cons, List.length_nil]; omega) ?_) | (refine Run.need1 (by simp only [allP, true_and, and_true, List.length_take, List.length_cons, List.length_nil]; exact ⟨.inr (by omega), by omega⟩) ?_) | refine Run.round ⟨[(.t 34 0, .t 1000 0)], [], []⟩ (loopB c (i + 1) _ _ e.h (by omega) rfl hch') rfl (by (repeat' (first | exact wkEnv_nil | refine wkEnv_cons rfl ?_ | exact wkSto_nil | refine wkSto_none ?_ | refine wkSto_some rfl ?_)); done) (by (repeat' (first | exact wkEnv_nil | refine wkEnv_cons rfl ?_ | exact wkSto_nil | refine wkSto_none ?_ | refine wkSto_some rfl ?_)); done) | (exfalso; omega)
            all_goals (exfalso; omega)
          | false =>
            have hsame := chgL_no hc2
            rw [hc2] at hch'
            rw [hc2, show ahead ++ [(i : Int)] = ahead.take ((ahead.length : Int)).toNat ++ [(i : Int)] by simp] at hrec
            rw [hsame] at hsi'
            refine Run.loop ?_
            repeat' (conv => arg 4; whnf); first | refine Run.ret ⟨?_, rfl⟩ | refine Run.condT ?_ | refine Run.condf ?_ | refine Run.condD (fun h => ?_) (fun h => ?_) | refine Run.condN (fun h => ?_) (fun h => ?_) | refine Run.condE (fun h => ?_) (fun h => ?_) | refine Run.condF (fun h => ?_) (fun h => ?_) | refine Run.condM (fun h => ?_) (fun h => ?_) | refine Run.condB (fun h => ?_) (fun h => ?_) | refine Run.check1 ?_ | refine Run.call (hcont) rfl ?_ | refine Run.call (hrec) rfl ?_ | (refine Run.need1 (by simp only [allP, true_and, and_true, List.length_take, List.length_cons, List.length_nil]; omega) ?_) | (refine Run.need1 (by simp only [allP, true_and, and_true, List.length_take, List.length_cons, List.length_nil]; exact ⟨.inr (by omega), by omega⟩) ?_) | refine Run.round ⟨[], [], []⟩ (ih (i + 1) _ e.h (by omega) hsi'.symm hch') rfl (by (repeat' (first | exact wkEnv_nil | refine wkEnv_cons rfl ?_ | exact wkSto_nil | refine wkSto_none ?_ | refine wkSto_some rfl ?_)); done) (by (repeat' (first | exact wkEnv_nil | refine wkEnv_cons rfl ?_ | exact wkSto_nil | refine wkSto_none ?_ | refine wkSto_some rfl ?_)); done) | (exfalso; omega)
            all_goals (exfalso; omega)
    refine Ok.of_run (F := mk Tryz.f133 8) Tryz.func133 rfl rfl tabOk mixed rfl rfl rfl rfl rfl (Nat.le_of_ble_eq_true rfl) (stB_len) (.go 5000 ?_)
    repeat' (conv => arg 4; whnf); first | refine Run.ret ⟨?_, rfl⟩ | refine Run.condT ?_ | refine Run.condf ?_ | refine Run.condD (fun h => ?_) (fun h => ?_) | refine Run.condN (fun h => ?_) (fun h => ?_) | refine Run.condE (fun h => ?_) (fun h => ?_) | refine Run.condF (fun h => ?_) (fun h => ?_) | refine Run.condM (fun h => ?_) (fun h => ?_) | refine Run.condB (fun h => ?_) (fun h => ?_) | refine Run.check1 ?_ | (exfalso; omega) | refine Run.round ⟨[], [], []⟩ (loopA l.length 0 _ rfl (by omega) rfl rfl) rfl (by (repeat' (first | exact wkEnv_nil | refine wkEnv_cons rfl ?_ | exact wkSto_nil | refine wkSto_none ?_ | refine wkSto_some rfl ?_)); done) (by (repeat' (first | exact wkEnv_nil | refine wkEnv_cons rfl ?_ | exact wkSto_nil | refine wkSto_none ?_ | refine wkSto_some rfl ?_)); done)
theorem ext_ord {n : Nat} (h : n ≤ 6) {o : List Int} (ho : o ∈ ext n n []) : o.length = n ∧ IsOrd o := by
  rw [ext_all n h] at ho
  exact allM_ord ho
theorem bestO_eq {l : List Mv} (h : MovesOk l) (sh : Int) : (ext l.length l.length []).foldl (bestStep l (firstM l) sh) none = bestO l sh := by
  rw [ext_all _ h.1]
  rfl
theorem bestF_nil (l : List Mv) (sh : Int) : (bestF l sh).2 = false → (bestF l sh).1 = [] := by
  unfold bestF bestM
  split
  · cases bestO l sh with
    | none => exact fun _ => rfl
    | some t => intro h; cases h
  · exact fun _ => rfl
theorem retO_t (s : Option (List Int)) : (retO s).1 = tksO s ∧ (retO s).2 = s.isSome := by cases s <;> exact ⟨rfl, rfl⟩
theorem best_ok (l : List Mv) (sh : Int) : Ok P 91 [.one (.lst .mv l false), .one (.int .i64 sh)] [] (.tup [.one (.own (.k 0)), .one (.bool (bestF l sh).2)]) [some (.row (.int .i64) (bestF l sh).1)] := by
  refine nilR_ok (bestF_nil l sh) ?_
  refine Ok.of_rel (F := mk Tryz.f91 0) Tryz.func91 rfl rfl tabOk mixed rfl rfl rfl rfl rfl (Nat.le_of_ble_eq_true rfl) (by first | exact fun _ _ => nilR_len | exact fun _ _ => nilB_len) (.go 5000 ?_)
  by_cases hc : MovesOk l ∧ 0 ≤ sh ∧ sh ≤ 6
  · rw [show bestF l sh = retO (bestO l sh) from if_pos hc]
    obtain ⟨hm, hs1, hs2⟩ := hc
    have h6 := hm.1
    have hfirst := first_ok l (by omega)
    have hord := orders_ok l (firstM l) sh hm (firstM_ord l) (firstM_len l) l.length [] none l.length rfl (by simp) (fun o ho => ext_ord hm.1 ho) (fun t h => by cases h)
    rw [bestO_eq hm] at hord
    obtain ⟨e1, e2⟩ := retO_t (bestO l sh)
    have hmo := movesOk_ok l
    rw [decide_eq_true hm] at hmo
    have hin := in_ok sh 0 6
    rw [decide_eq_true ⟨hs1, hs2⟩] at hin
    conv => arg 4; whnf
    refine Run.call0 hmo rfl (.go 5000 ?_)
    conv => arg 4; whnf
    refine Run.condf ?_
    conv => arg 4; whnf
    refine Run.call0 hin rfl (.go 5000 ?_)
    conv => arg 4; whnf
    refine Run.condf ?_
    conv => arg 4; whnf
    refine Run.call0 hfirst rfl (Run.to [0, 1, 1, 1, 1, 1] 5000 ?_)
    conv => arg 4; whnf
    refine Run.less ⟨[(.t 2 0, .t 2 0), (.t 3 0, .t 3 0), (.t 6 0, .t 6 0), (.t 7 0, .t 7 0), (.t 8 0, .t 8 0), (.t 9 0, .t 9 0), (.t 10 0, .t 10 0)], [(.t 1000 0, .int .i64)], [.t 20 0]⟩ (env' := [(2, .one (.ptr (.t 2 0) 0)), (3, .one (.ptr (.t 3 0) 0)), (6, .one (.ptr (.t 6 0) 0)), (7, .one (.ptr (.t 7 0) 0)), (8, .one (.ptr (.t 8 0) 0)), (9, .one (.ptr (.t 9 0) 0)), (10, .one (.ptr (.t 10 0) 0))])
      (sto' := [(.t 2 0, some (.cells [.lst .mv l false])), (.t 3 0, some (.cells [.int .i64 sh])), (.t 6 0, some (.cells [.lst (.int .i64) (firstM l) false])), (.t 7 0, some (.cells [.own (.t 1000 0)])), (.t 8 0, some (.cells [.int .i64 0])), (.t 9 0, some (.cells [.int .i64 0])), (.t 10 0, some (.cells [.bool false])), (.t 1000 0, some (.row (.int .i64) []))]) (.go 5000 ?_) rfl (by (repeat' (first | exact wkEnv_nil | refine wkEnv_cons rfl ?_ | exact wkSto_nil | refine wkSto_none ?_ | refine wkSto_some rfl ?_)); done) (by (repeat' (first | exact wkEnv_nil | refine wkEnv_cons rfl ?_ | exact wkSto_nil | refine wkSto_none ?_ | refine wkSto_some rfl ?_)); done)
    have hbn : chgL l (firstM l) sh (ext l.length l.length []) none = false → bestO l sh = none := fun h => (bestO_eq hm sh).symm.trans (chgL_no h)
    generalize bestO l sh = bo at *
    cases hc2 : chgL l (firstM l) sh (ext l.length l.length []) none with
    | true =>
      rw [hc2] at hord
      repeat' (conv => arg 4; whnf); first | refine Run.ret ⟨?_, rfl⟩ | refine Run.condT ?_ | refine Run.condf ?_ | refine Run.condD (fun h => ?_) (fun h => ?_) | refine Run.condN (fun h => ?_) (fun h => ?_) | refine Run.condE (fun h => ?_) (fun h => ?_) | refine Run.condF (fun h => ?_) (fun h => ?_) | refine Run.condM (fun h => ?_) (fun h => ?_) | refine Run.condB (fun h => ?_) (fun h => ?_) | refine Run.check1 ?_ | refine Run.call (hord) rfl ?_ | (refine Run.ret (.inl ⟨?_, ?_⟩))
      all_goals first | rfl | (rw [e2]; done) | (rw [e1]; done)
    | false =>
      obtain rfl := hbn hc2
      rw [hc2] at hord
      repeat' (conv => arg 4; whnf); first | refine Run.ret ⟨?_, rfl⟩ | refine Run.condT ?_ | refine Run.condf ?_ | refine Run.condD (fun h => ?_) (fun h => ?_) | refine Run.condN (fun h => ?_) (fun h => ?_) | refine Run.condE (fun h => ?_) (fun h => ?_) | refine Run.condF (fun h => ?_) (fun h => ?_) | refine Run.condM (fun h => ?_) (fun h => ?_) | refine Run.condB (fun h => ?_) (fun h => ?_) | refine Run.check1 ?_ | refine Run.call (hord) rfl ?_ | (refine Run.ret (.inl ⟨?_, ?_⟩))
      all_goals first | rfl | (rw [e2]; done) | (rw [e1]; done)
  · rw [show bestF l sh = ([], false) from if_neg hc]
    repeat' (conv => arg 4; whnf); first | refine Run.ret ⟨?_, rfl⟩ | refine Run.condT ?_ | refine Run.condf ?_ | refine Run.condD (fun h => ?_) (fun h => ?_) | refine Run.condN (fun h => ?_) (fun h => ?_) | refine Run.condE (fun h => ?_) (fun h => ?_) | refine Run.condF (fun h => ?_) (fun h => ?_) | refine Run.condM (fun h => ?_) (fun h => ?_) | refine Run.condB (fun h => ?_) (fun h => ?_) | refine Run.check1 ?_ | refine Run.call (movesOk_ok _) rfl ?_ | refine Run.call (in_ok _ _ _) rfl ?_ | (refine Run.ret (.inr ⟨rfl, rfl, rfl⟩)) | (exfalso; exact hc ⟨‹MovesOk l›, ‹0 ≤ sh ∧ sh ≤ 6›⟩)
end Go.Proofs.YtlmdbeegmgfpnaaGreatDoor.AM

/- StripShift of the reference; condition: lengths. -/
namespace Go.Proofs.YtlmdbeegmgfpnaaGreatDoor.AM
open Go.AM Go.RowKit
set_option linter.unusedVariables false
set_option linter.unusedSimpArgs false
set_option maxRecDepth 100000

theorem sshift_ok (a b : List Int) (ha : a.length ≤ 1048576) (hb : b.length ≤ 1048576) : Ok P 96 [.one (.lst (.int .i64) a false), .one (.lst (.int .i64) b false)] [] (.one (.int .i64 (shiftM a b))) [] := by
  refine Ok.of_run (F := mk Tryz.f96 0) Tryz.func96 rfl rfl tabOk mixed rfl rfl rfl rfl rfl (Nat.le_of_ble_eq_true rfl) (Nat.le_of_ble_eq_true rfl) (.go 5000 ?_)
  by_cases hc : a.length = b.length ∧ IsOrd a ∧ IsOrd b
  · have hf : shiftM a b = foldFrom (shStep a b) 0 a.length 0 := if_pos hc
    obtain ⟨hl, h1, h2⟩ := hc
    have outer : ∀ (d i : Nat) (z s : Int), z = i → i + d = a.length → 0 ≤ s ∧ s ≤ 1048576 → Fact (foldFrom (shStep a b) i d s = shiftM a b) → Run P (mk Tryz.f96 0) (fun x st => x = .one (.int .i64 (shiftM a b)) ∧ st = []) (.loop ⟨[(0, .one (.lst (.int .i64) a false)), (1, .one (.lst (.int .i64) b false)), (5, .one (.int .i64 s)), (6, .one (.int .i64 z))], [], [.lp [0, 1, 0, 1, 1, 1], .blk 0, .code [1, 1, 1, 1]], none⟩) := by
      intro d
      induction d with
      | zero =>
        intro i z s hz hd hs he
        subst hz
        refine Run.loop ?_
        repeat' (conv => arg 4; whnf); first | refine Run.ret ⟨?_, rfl⟩ | refine Run.condT ?_ | refine Run.condf ?_ | refine Run.condD (fun h => ?_) (fun h => ?_) | refine Run.condN (fun h => ?_) (fun h => ?_) | refine Run.condE (fun h => ?_) (fun h => ?_) | refine Run.condF (fun h => ?_) (fun h => ?_) | refine Run.condM (fun h => ?_) (fun h => ?_) | refine Run.condB (fun h => ?_) (fun h => ?_) | refine Run.check1 ?_ | (exfalso; omega)
        all_goals first | (rw [← he.h]; rfl) | (exfalso; omega)
      | succ d ih =>
        intro i z s hz hd hs he
        subst hz
        have e := fs (i := i) (by omega)
        have ei : rd a i = a.getD i 0 := rd_nat a i
        have he' : foldFrom (shStep a b) (i + 1) d (shStep a b i s) = shiftM a b := he.h
        have hv := (h1 i (by omega)).1
        obtain ⟨q, hq, eq⟩ := ord_onto h2 (a.getD i 0).toNat (by omega)
        have hall := shUpd_all a b h2 i (fun s hs => by unfold shStep; omega) ⟨q, hq, by omega⟩ s
        rw [← hall] at he'
        replace he' : Fact _ := ⟨he'⟩
        clear hall
        have inner : ∀ (c k : Nat) (z r : Int), z = k → k + c = b.length → 0 ≤ r ∧ r ≤ 1048576 → Fact (foldFrom (shStep a b) (i + 1) d (foldFrom (shUpd a b i) k c r) = shiftM a b) → Run P (mk Tryz.f96 0) (fun x st => x = .one (.int .i64 (shiftM a b)) ∧ st = []) (.loop ⟨[(0, .one (.lst (.int .i64) a false)), (1, .one (.lst (.int .i64) b false)), (5, .one (.int .i64 r)), (6, .one (.int .i64 (i : Int))), (7, .one (.int .i64 z))], [], [.lp [0, 1, 0, 0, 1, 0, 0, 1, 0, 1, 1, 1], .blk 2, .blk 1, .code [1, 1, 0, 0, 1, 0, 1, 1, 1], .lp [0, 1, 0, 1, 1, 1], .blk 0, .code [1, 1, 1, 1]], none⟩) := by
          intro c
          induction c with
          | zero =>
            intro k z r hz hk hr hee
            subst hz
            refine Run.loop ?_
            repeat' (conv => arg 4; whnf); first | refine Run.ret ⟨?_, rfl⟩ | refine Run.condT ?_ | refine Run.condf ?_ | refine Run.condD (fun h => ?_) (fun h => ?_) | refine Run.condN (fun h => ?_) (fun h => ?_) | refine Run.condE (fun h => ?_) (fun h => ?_) | refine Run.condF (fun h => ?_) (fun h => ?_) | refine Run.condM (fun h => ?_) (fun h => ?_) | refine Run.condB (fun h => ?_) (fun h => ?_) | refine Run.check1 ?_ | refine Run.round ⟨[], [], []⟩ (ih (i + 1) _ _ e.h (by omega) hr hee) rfl (by (repeat' (first | exact wkEnv_nil | refine wkEnv_cons rfl ?_ | exact wkSto_nil | refine wkSto_none ?_ | refine wkSto_some rfl ?_)); done) (by (repeat' (first | exact wkEnv_nil | refine wkEnv_cons rfl ?_ | exact wkSto_nil | refine wkSto_none ?_ | refine wkSto_some rfl ?_)); done) | (exfalso; omega)
            all_goals (exfalso; omega)
          | succ c ihc =>
            intro k z r hz hk hr hee
            subst hz
            have e2 := fs (i := k) (by omega)
            have ek : rd b k = b.getD k 0 := rd_nat b k
            have d1 := fw (x := (i : Int) - k) (by omega)
            have d2 := fw (x := (k : Int) - i) (by omega)
            have hu : Fact (shUpd a b i k r = if rd a i = rd b k then max (max r ((i : Int) - k)) ((k : Int) - i) else r) := ⟨by rw [ei, ek]; rfl⟩
            clear ek
            have hee' : Fact (foldFrom (shStep a b) (i + 1) d (foldFrom (shUpd a b i) (k + 1) c (shUpd a b i k r)) = shiftM a b) := ⟨hee.h⟩
            refine Run.loop ?_
            repeat' (conv => arg 4; whnf); first | refine Run.ret ⟨?_, rfl⟩ | refine Run.condT ?_ | refine Run.condf ?_ | refine Run.condD (fun h => ?_) (fun h => ?_) | refine Run.condN (fun h => ?_) (fun h => ?_) | refine Run.condE (fun h => ?_) (fun h => ?_) | refine Run.condF (fun h => ?_) (fun h => ?_) | refine Run.condM (fun h => ?_) (fun h => ?_) | refine Run.condB (fun h => ?_) (fun h => ?_) | refine Run.check1 ?_ | refine Run.need1 (by simp only [allP, true_and, and_true]; omega) ?_ | refine Run.round ⟨[], [], []⟩ (ihc (k + 1) _ _ e2.h (by omega) ?_ ?_) rfl (by (repeat' (first | exact wkEnv_nil | refine wkEnv_cons rfl ?_ | exact wkSto_nil | refine wkSto_none ?_ | refine wkSto_some rfl ?_)); done) (by (repeat' (first | exact wkEnv_nil | refine wkEnv_cons rfl ?_ | exact wkSto_nil | refine wkSto_none ?_ | refine wkSto_some rfl ?_)); done) | (exfalso; omega)
            all_goals clear ih ihc
            all_goals first
              | (exfalso; omega)
              | (simp only [d1.h, d2.h] at *; omega)
              | (simp only [d1.h, d2.h] at *
                 have hx : shUpd a b i k r = (i : Int) - k := by rw [hu.h, if_pos (by omega)]; omega
                 rw [hx] at hee'; exact hee')
              | (simp only [d1.h, d2.h] at *
                 have hx : shUpd a b i k r = (k : Int) - i := by rw [hu.h, if_pos (by omega)]; omega
                 rw [hx] at hee'; exact hee')
              | (simp only [d1.h, d2.h] at *
                 have hx : shUpd a b i k r = r := by
                   rw [hu.h]; split <;> omega
                 rw [hx] at hee'; exact hee')
              | trace_state
        refine Run.loop ?_
        repeat' (conv => arg 4; whnf); first | refine Run.ret ⟨?_, rfl⟩ | refine Run.condT ?_ | refine Run.condf ?_ | refine Run.condD (fun h => ?_) (fun h => ?_) | refine Run.condN (fun h => ?_) (fun h => ?_) | refine Run.condE (fun h => ?_) (fun h => ?_) | refine Run.condF (fun h => ?_) (fun h => ?_) | refine Run.condM (fun h => ?_) (fun h => ?_) | refine Run.condB (fun h => ?_) (fun h => ?_) | refine Run.check1 ?_ | refine Run.round ⟨[], [], []⟩ (inner b.length 0 _ _ rfl (by omega) hs he') rfl (by (repeat' (first | exact wkEnv_nil | refine wkEnv_cons rfl ?_ | exact wkSto_nil | refine wkSto_none ?_ | refine wkSto_some rfl ?_)); done) (by (repeat' (first | exact wkEnv_nil | refine wkEnv_cons rfl ?_ | exact wkSto_nil | refine wkSto_none ?_ | refine wkSto_some rfl ?_)); done) | (exfalso; omega)
        all_goals (exfalso; omega)
    repeat' (conv => arg 4; whnf); first | refine Run.ret ⟨?_, rfl⟩ | refine Run.condT ?_ | refine Run.condf ?_ | refine Run.condD (fun h => ?_) (fun h => ?_) | refine Run.condN (fun h => ?_) (fun h => ?_) | refine Run.condE (fun h => ?_) (fun h => ?_) | refine Run.condF (fun h => ?_) (fun h => ?_) | refine Run.condM (fun h => ?_) (fun h => ?_) | refine Run.condB (fun h => ?_) (fun h => ?_) | refine Run.check1 ?_ | refine Run.call (sordOk_ok _ b.length hb) rfl ?_ | refine Run.call (sordOk_ok _ a.length ha) rfl ?_ | refine Run.round ⟨[], [], []⟩ (outer a.length 0 _ _ rfl (by omega) (by omega) ⟨hf.symm⟩) rfl (by (repeat' (first | exact wkEnv_nil | refine wkEnv_cons rfl ?_ | exact wkSto_nil | refine wkSto_none ?_ | refine wkSto_some rfl ?_)); done) (by (repeat' (first | exact wkEnv_nil | refine wkEnv_cons rfl ?_ | exact wkSto_nil | refine wkSto_none ?_ | refine wkSto_some rfl ?_)); done) | (exfalso; exact ‹¬ (a.length = b.length ∧ IsOrd a)› ⟨hl, h1⟩) | (exfalso; exact ‹¬ (b.length = a.length ∧ IsOrd b)› ⟨hl.symm, h2⟩)
    all_goals first | (exfalso; exact ‹¬ (a.length = b.length ∧ IsOrd a)› ⟨hl, h1⟩) | (exfalso; exact ‹¬ (b.length = a.length ∧ IsOrd b)› ⟨hl.symm, h2⟩) | trace_state
  · have hf : shiftM a b = -1 := if_neg hc
    rw [hf]
    repeat' (conv => arg 4; whnf); first | refine Run.ret ⟨?_, rfl⟩ | refine Run.condT ?_ | refine Run.condf ?_ | refine Run.condD (fun h => ?_) (fun h => ?_) | refine Run.condN (fun h => ?_) (fun h => ?_) | refine Run.condE (fun h => ?_) (fun h => ?_) | refine Run.condF (fun h => ?_) (fun h => ?_) | refine Run.condM (fun h => ?_) (fun h => ?_) | refine Run.condB (fun h => ?_) (fun h => ?_) | refine Run.check1 ?_ | refine Run.call (sordOk_ok _ b.length hb) rfl ?_ | refine Run.call (sordOk_ok _ a.length ha) rfl ?_ | (exfalso; exact hc ⟨(‹a.length = b.length ∧ IsOrd a›).1, (‹a.length = b.length ∧ IsOrd a›).2, (‹b.length = a.length ∧ IsOrd b›).2⟩)
    all_goals first | rfl | trace_state
end Go.Proofs.YtlmdbeegmgfpnaaGreatDoor.AM

/- All orders, the best of the reference; condition: a move list. -/
namespace Go.Proofs.YtlmdbeegmgfpnaaGreatDoor.AM
open Go.AM Go.RowKit
set_option linter.unusedVariables false
set_option linter.unusedSimpArgs false
set_option maxRecDepth 100000

def rowF (f : Nat) (o : List Int) : List Int := (f : Int) :: o.map (bump f)
def upAll (n f : Nat) : List (List Int) := (List.range f).flatMap fun f => (allM n).map (rowF f)
theorem upAll_succ (n f : Nat) : upAll n (f + 1) = upAll n f ++ (allM n).map (rowF f) := by
  unfold upAll
  rw [List.range_succ, List.flatMap_append]
  simp
theorem upAll_len (n : Nat) : ∀ f, (upAll n f).length = f * (allM n).length
  | 0 => by simp [upAll]
  | f + 1 => by rw [upAll_succ, List.length_append, upAll_len n f, List.length_map, Nat.succ_mul]
theorem allM_len : ∀ n, n ≤ 6 → (allM n).length ≤ 720 := by decide +kernel
theorem alls_ok : ∀ (n : Nat), n ≤ 6 → Ok P 95 [.one (.int .i64 n)] [] (.one (.own (.k 0))) [some (.row .ints (allM n))] := by
  intro n
  induction n with
  | zero =>
    intro _
    refine Ok.of_run (F := mk Tryz.f95 0) Tryz.func95 rfl rfl tabOk mixed rfl rfl rfl rfl rfl (Nat.le_of_ble_eq_true rfl) (Nat.le_of_ble_eq_true rfl) (.go 5000 ?_)
    repeat' (conv => arg 4; whnf); first | refine Run.ret ⟨?_, rfl⟩ | refine Run.condT ?_ | refine Run.condf ?_ | refine Run.condD (fun h => ?_) (fun h => ?_) | refine Run.condN (fun h => ?_) (fun h => ?_) | refine Run.condE (fun h => ?_) (fun h => ?_) | refine Run.condF (fun h => ?_) (fun h => ?_) | refine Run.condM (fun h => ?_) (fun h => ?_) | refine Run.condB (fun h => ?_) (fun h => ?_) | refine Run.check1 ?_ | (exfalso; omega)
    all_goals rfl
  | succ n ihn =>
    intro hn
    have hl := ihn (by omega)
    have hlen := allM_len n (by omega)
    have e := wrap_eq (x := ((n + 1 : Nat) : Int) - 1) (by omega) (by omega)
    rw [show (n : Int) = wrap64 (((n + 1 : Nat) : Int) - 1) by rw [e]; omega] at hl
    refine Ok.of_run (F := mk Tryz.f95 0) Tryz.func95 rfl rfl tabOk mixed rfl rfl rfl rfl rfl (Nat.le_of_ble_eq_true rfl) (Nat.le_of_ble_eq_true rfl) (.go 5000 ?_)
    have loop : ∀ (d f : Nat) (z : Int), z = f → f + d = n + 1 → Run P (mk Tryz.f95 0) (fun v s => v = .one (.own (.k 0)) ∧ s = [some (.row .ints (allM (n + 1)))]) (.loop ⟨[(0, .one (.int .i64 ((n + 1 : Nat) : Int))), (3, .one (.own (.t 1000 0))), (4, .one (.lst .ints (allM n) false)), (5, .one (.int .i64 z))], [(.t 1000 0, some (.row .ints (upAll n f)))], [.lp [0, 1, 0, 1, 1, 1, 1], .blk 0, .code [1, 1, 1, 1, 1]], none⟩) := by
      intro d
      induction d with
      | zero =>
        intro f z hz hd
        subst hz
        obtain rfl : f = n + 1 := by omega
        refine Run.loop ?_
        repeat' (conv => arg 4; whnf); first | refine Run.ret ⟨?_, rfl⟩ | refine Run.condT ?_ | refine Run.condf ?_ | refine Run.condD (fun h => ?_) (fun h => ?_) | refine Run.condN (fun h => ?_) (fun h => ?_) | refine Run.condE (fun h => ?_) (fun h => ?_) | refine Run.condF (fun h => ?_) (fun h => ?_) | refine Run.condM (fun h => ?_) (fun h => ?_) | refine Run.condB (fun h => ?_) (fun h => ?_) | refine Run.check1 ?_ | (exfalso; omega)
        all_goals first | rfl | trace_state
      | succ d ih =>
        intro f z hz hd
        subst hz
        have ef := fs (i := f) (by omega)
        have loop1 : ∀ (c i : Nat) (z : Int), z = i → i + c = (allM n).length → Run P (mk Tryz.f95 0) (fun v s => v = .one (.own (.k 0)) ∧ s = [some (.row .ints (allM (n + 1)))]) (.loop ⟨[(0, .one (.int .i64 ((n + 1 : Nat) : Int))), (3, .one (.own (.t 1000 0))), (4, .one (.lst .ints (allM n) false)), (5, .one (.int .i64 (f : Int))), (6, .one (.int .i64 z))], [(.t 1000 0, some (.row .ints (upAll n f ++ ((allM n).take i).map (rowF f))))], [.lp [0, 1, 0, 0, 1, 0, 0, 1, 0, 1, 1, 1, 1], .blk 2, .blk 1, .code [1, 1, 0, 0, 1, 0, 1, 1, 1, 1], .lp [0, 1, 0, 1, 1, 1, 1], .blk 0, .code [1, 1, 1, 1, 1]], none⟩) := by
          intro c
          induction c with
          | zero =>
            intro i z hz hc
            subst hz
            obtain rfl : i = (allM n).length := by omega
            rw [List.take_length, ← upAll_succ]
            refine Run.loop ?_
            repeat' (conv => arg 4; whnf); first | refine Run.ret ⟨?_, rfl⟩ | refine Run.condT ?_ | refine Run.condf ?_ | refine Run.condD (fun h => ?_) (fun h => ?_) | refine Run.condN (fun h => ?_) (fun h => ?_) | refine Run.condE (fun h => ?_) (fun h => ?_) | refine Run.condF (fun h => ?_) (fun h => ?_) | refine Run.condM (fun h => ?_) (fun h => ?_) | refine Run.condB (fun h => ?_) (fun h => ?_) | refine Run.check1 ?_ | (exfalso; omega) | refine Run.round ⟨[(.t 1000 0, .t 1000 0)], [], []⟩ (ih (f + 1) _ ef.h (by omega)) rfl (by (repeat' (first | exact wkEnv_nil | refine wkEnv_cons rfl ?_ | exact wkSto_nil | refine wkSto_none ?_ | refine wkSto_some rfl ?_)); done) (by (repeat' (first | exact wkEnv_nil | refine wkEnv_cons rfl ?_ | exact wkSto_nil | refine wkSto_none ?_ | refine wkSto_some rfl ?_)); done)
            all_goals first | rfl | trace_state
          | succ c ih1 =>
            intro i z hz hc
            subst hz
            have ei := fs (i := i) (by omega)
            have hup : (upAll n f ++ ((allM n).take i).map (rowF f)).length ≤ 10000 := by
              rw [List.length_append, upAll_len, List.length_map, List.length_take]
              have := Nat.mul_le_mul (show f ≤ 6 by omega) hlen
              omega
            have hii : rdL (allM n) (i : Int) = (allM n).getD i [] := by unfold rdL; rw [Int.toNat_natCast]
            have hmi : rdL (allM n) (i : Int) ∈ allM n := by rw [hii, List.getD_eq_getElem?_getD, List.getElem?_eq_getElem (by omega)]; exact List.getElem_mem _
            obtain ⟨hrl, hro⟩ := allM_ord hmi
            have hnext : (upAll n f ++ ((allM n).take i).map (rowF f)) ++ [rowF f (rdL (allM n) (i : Int))] = upAll n f ++ ((allM n).take (i + 1)).map (rowF f) := by
              rw [List.append_assoc, hii, List.take_add_one, List.map_append]
              simp [List.getD_eq_getElem?_getD, List.getElem?_eq_getElem (show i < (allM n).length by omega)]
            have ihn1 := ih1 (i + 1) _ ei.h (by omega)
            rw [← hnext] at ihn1
            have loop2 : ∀ (b k : Nat) (z : Int), z = k → k + b = (rdL (allM n) (i : Int)).length → Run P (mk Tryz.f95 0) (fun v s => v = .one (.own (.k 0)) ∧ s = [some (.row .ints (allM (n + 1)))]) (.loop ⟨[(0, .one (.int .i64 ((n + 1 : Nat) : Int))), (3, .one (.own (.t 1000 0))), (4, .one (.lst .ints (allM n) false)), (5, .one (.int .i64 (f : Int))), (6, .one (.int .i64 (i : Int))), (7, .one (.own (.t 1001 0))), (8, .one (.int .i64 z))],
               [(.t 1000 0, some (.row .ints (upAll n f ++ ((allM n).take i).map (rowF f)))), (.t 1001 0, some (.row (.int .i64) (rowF f ((rdL (allM n) (i : Int)).take k))))], [.lp [0, 1, 0, 1, 0, 0, 1, 0, 0, 1, 0, 0, 1, 0, 0, 1, 0, 1, 1, 1, 1], .blk 4, .code [1, 1, 0, 0, 1, 0, 0, 1, 0, 0, 1, 0, 0, 1, 0, 1, 1, 1, 1], .blk 3, .code [1, 1, 0, 0, 1, 0, 0, 1, 0, 0, 1, 0, 1, 1, 1, 1], .lp [0, 1, 0, 0, 1, 0, 0, 1, 0, 1, 1, 1, 1], .blk 2, .blk 1, .code [1, 1, 0, 0, 1, 0, 1, 1, 1, 1], .lp [0, 1, 0, 1, 1, 1, 1], .blk 0, .code [1, 1, 1, 1, 1]], none⟩) := by
              intro b
              induction b with
              | zero =>
                intro k z hz hb
                subst hz
                obtain rfl : k = (rdL (allM n) (i : Int)).length := by omega
                rw [List.take_length]
                refine Run.round ⟨[(.t 1000 0, .t 1000 0)], [], [.t 1001 0]⟩ (env' := [(0, .one (.int .i64 ((n + 1 : Nat) : Int))), (3, .one (.own (.t 1000 0))), (4, .one (.lst .ints (allM n) false)), (5, .one (.int .i64 (f : Int))), (6, .one (.int .i64 (i : Int))), (7, .one (.lst (.int .i64) (rowF f (rdL (allM n) (i : Int))) false)), (8, .one (.int .i64 ((rdL (allM n) (i : Int)).length : Int)))])
                  (sto' := [(.t 1000 0, some (.row .ints (upAll n f ++ ((allM n).take i).map (rowF f))))]) (Run.loop ?_) rfl (by (repeat' (first | exact wkEnv_nil | refine wkEnv_cons rfl ?_ | exact wkSto_nil | refine wkSto_none ?_ | refine wkSto_some rfl ?_)); done) (by (repeat' (first | exact wkEnv_nil | refine wkEnv_cons rfl ?_ | exact wkSto_nil | refine wkSto_none ?_ | refine wkSto_some rfl ?_)); done)
                repeat' (conv => arg 4; whnf); first | refine Run.ret ⟨?_, rfl⟩ | refine Run.condT ?_ | refine Run.condf ?_ | refine Run.condD (fun h => ?_) (fun h => ?_) | refine Run.condN (fun h => ?_) (fun h => ?_) | refine Run.condE (fun h => ?_) (fun h => ?_) | refine Run.condF (fun h => ?_) (fun h => ?_) | refine Run.condM (fun h => ?_) (fun h => ?_) | refine Run.condB (fun h => ?_) (fun h => ?_) | refine Run.check1 ?_ | (exfalso; omega) | refine Run.need1 (by simp only [allP, true_and, and_true, List.length_cons, List.length_nil]; omega) ?_ | refine Run.round ⟨[(.t 59 0, .t 1000 0)], [], []⟩ (ihn1) rfl (by (repeat' (first | exact wkEnv_nil | refine wkEnv_cons rfl ?_ | exact wkSto_nil | refine wkSto_none ?_ | refine wkSto_some rfl ?_)); done) (by (repeat' (first | exact wkEnv_nil | refine wkEnv_cons rfl ?_ | exact wkSto_nil | refine wkSto_none ?_ | refine wkSto_some rfl ?_)); done)
                all_goals first | rfl | (exfalso; omega) | trace_state
              | succ b ih2 =>
                intro k z hz hb
                subst hz
                have ek := fs (i := k) (by omega)
                have hrk := hro k (by omega)
                have hrd : rd (rdL (allM n) (i : Int)) (k : Int) = (rdL (allM n) (i : Int)).getD k 0 := rd_nat _ _
                have hsn : ∀ x, x = bump f (rd (rdL (allM n) (i : Int)) (k : Int)) → rowF f ((rdL (allM n) (i : Int)).take k) ++ [x] = rowF f ((rdL (allM n) (i : Int)).take (k + 1)) := fun x hx => by
                  rw [hx, hrd]
                  unfold rowF
                  rw [List.take_add_one, List.map_append]
                  simp [List.getD_eq_getElem?_getD, List.getElem?_eq_getElem (show k < (rdL (allM n) (i : Int)).length by omega)]
                have hrw : (rowF f ((rdL (allM n) (i : Int)).take k)).length ≤ 10 := by simp [rowF]; omega
                by_cases hge : (f : Int) ≤ rd (rdL (allM n) (i : Int)) (k : Int)
                · have h2 := ih2 (k + 1) _ ek.h (by omega)
                  rw [← hsn (wrap64 (rd (rdL (allM n) (i : Int)) (k : Int) + 1)) (by rw [fw (by rw [hrd]; omega) |>.h]; unfold bump; rw [if_pos hge])] at h2
                  refine Run.loop ?_
                  repeat' (conv => arg 4; whnf); first | refine Run.ret ⟨?_, rfl⟩ | refine Run.condT ?_ | refine Run.condf ?_ | refine Run.condD (fun h => ?_) (fun h => ?_) | refine Run.condN (fun h => ?_) (fun h => ?_) | refine Run.condE (fun h => ?_) (fun h => ?_) | refine Run.condF (fun h => ?_) (fun h => ?_) | refine Run.condM (fun h => ?_) (fun h => ?_) | refine Run.condB (fun h => ?_) (fun h => ?_) | refine Run.check1 ?_ | (exfalso; omega) | refine Run.need1 (by simp only [allP, true_and, and_true]; omega) ?_ | refine Run.need1 (by simp only [allP, true_and, and_true, List.length_cons, List.length_nil]; omega) ?_ | refine Run.round ⟨[(.t 1000 0, .t 1000 0), (.t 55 0, .t 1001 0)], [], []⟩ (h2) rfl (by (repeat' (first | exact wkEnv_nil | refine wkEnv_cons rfl ?_ | exact wkSto_nil | refine wkSto_none ?_ | refine wkSto_some rfl ?_)); done) (by (repeat' (first | exact wkEnv_nil | refine wkEnv_cons rfl ?_ | exact wkSto_nil | refine wkSto_none ?_ | refine wkSto_some rfl ?_)); done)
                  all_goals first | rfl | (exfalso; omega) | trace_state
                · have h2 := ih2 (k + 1) _ ek.h (by omega)
                  rw [← hsn (rd (rdL (allM n) (i : Int)) (k : Int)) (by unfold bump; rw [if_neg hge])] at h2
                  refine Run.loop ?_
                  repeat' (conv => arg 4; whnf); first | refine Run.ret ⟨?_, rfl⟩ | refine Run.condT ?_ | refine Run.condf ?_ | refine Run.condD (fun h => ?_) (fun h => ?_) | refine Run.condN (fun h => ?_) (fun h => ?_) | refine Run.condE (fun h => ?_) (fun h => ?_) | refine Run.condF (fun h => ?_) (fun h => ?_) | refine Run.condM (fun h => ?_) (fun h => ?_) | refine Run.condB (fun h => ?_) (fun h => ?_) | refine Run.check1 ?_ | (exfalso; omega) | refine Run.need1 (by simp only [allP, true_and, and_true]; omega) ?_ | refine Run.need1 (by simp only [allP, true_and, and_true, List.length_cons, List.length_nil]; omega) ?_ | refine Run.round ⟨[(.t 1000 0, .t 1000 0), (.t 55 0, .t 1001 0)], [], []⟩ (h2) rfl (by (repeat' (first | exact wkEnv_nil | refine wkEnv_cons rfl ?_ | exact wkSto_nil | refine wkSto_none ?_ | refine wkSto_some rfl ?_)); done) (by (repeat' (first | exact wkEnv_nil | refine wkEnv_cons rfl ?_ | exact wkSto_nil | refine wkSto_none ?_ | refine wkSto_some rfl ?_)); done)
                  all_goals first | rfl | (exfalso; omega) | trace_state
            have hl2 := loop2 _ 0 _ rfl (Nat.zero_add _)
            rw [List.take_zero] at hl2
            refine Run.loop ?_
            repeat' (conv => arg 4; whnf); first | refine Run.ret ⟨?_, rfl⟩ | refine Run.condT ?_ | refine Run.condf ?_ | refine Run.condD (fun h => ?_) (fun h => ?_) | refine Run.condN (fun h => ?_) (fun h => ?_) | refine Run.condE (fun h => ?_) (fun h => ?_) | refine Run.condF (fun h => ?_) (fun h => ?_) | refine Run.condM (fun h => ?_) (fun h => ?_) | refine Run.condB (fun h => ?_) (fun h => ?_) | refine Run.check1 ?_ | (exfalso; omega) | refine Run.round ⟨[(.t 1000 0, .t 1000 0), (.t 30 0, .t 1001 0)], [], []⟩ (hl2) rfl (by (repeat' (first | exact wkEnv_nil | refine wkEnv_cons rfl ?_ | exact wkSto_nil | refine wkSto_none ?_ | refine wkSto_some rfl ?_)); done) (by (repeat' (first | exact wkEnv_nil | refine wkEnv_cons rfl ?_ | exact wkSto_nil | refine wkSto_none ?_ | refine wkSto_some rfl ?_)); done)
        refine Run.loop ?_
        have hl0 := loop1 (allM n).length 0 _ rfl (by omega)
        rw [List.take_zero, List.map_nil, List.append_nil] at hl0
        repeat' (conv => arg 4; whnf); first | refine Run.ret ⟨?_, rfl⟩ | refine Run.condT ?_ | refine Run.condf ?_ | refine Run.condD (fun h => ?_) (fun h => ?_) | refine Run.condN (fun h => ?_) (fun h => ?_) | refine Run.condE (fun h => ?_) (fun h => ?_) | refine Run.condF (fun h => ?_) (fun h => ?_) | refine Run.condM (fun h => ?_) (fun h => ?_) | refine Run.condB (fun h => ?_) (fun h => ?_) | refine Run.check1 ?_ | (exfalso; omega) | refine Run.round ⟨[(.t 1000 0, .t 1000 0)], [], []⟩ (hl0) rfl (by (repeat' (first | exact wkEnv_nil | refine wkEnv_cons rfl ?_ | exact wkSto_nil | refine wkSto_none ?_ | refine wkSto_some rfl ?_)); done) (by (repeat' (first | exact wkEnv_nil | refine wkEnv_cons rfl ?_ | exact wkSto_nil | refine wkSto_none ?_ | refine wkSto_some rfl ?_)); done)
        all_goals first | rfl | (exfalso; omega) | trace_state
    repeat' (conv => arg 4; whnf); first | refine Run.ret ⟨?_, rfl⟩ | refine Run.condT ?_ | refine Run.condf ?_ | refine Run.condD (fun h => ?_) (fun h => ?_) | refine Run.condN (fun h => ?_) (fun h => ?_) | refine Run.condE (fun h => ?_) (fun h => ?_) | refine Run.condF (fun h => ?_) (fun h => ?_) | refine Run.condM (fun h => ?_) (fun h => ?_) | refine Run.condB (fun h => ?_) (fun h => ?_) | refine Run.check1 ?_ | refine Run.call (hl) rfl ?_ | refine Run.round ⟨[(.t 14 0, .t 1000 0)], [], [.t 17 0]⟩ (loop (n + 1) 0 _ rfl (by omega)) rfl (by (repeat' (first | exact wkEnv_nil | refine wkEnv_cons rfl ?_ | exact wkSto_nil | refine wkSto_none ?_ | refine wkSto_some rfl ?_)); done) (by (repeat' (first | exact wkEnv_nil | refine wkEnv_cons rfl ?_ | exact wkSto_nil | refine wkSto_none ?_ | refine wkSto_some rfl ?_)); done) | (exfalso; omega)
    all_goals first | rfl | (exfalso; omega) | trace_state
theorem better_ok (l : List Mv) (a b : List Int) (ha : Fits l a) (hb : Fits l b) : Ok P 98 [.one (.lst .mv l false), .one (.lst (.int .i64) a false), .one (.lst (.int .i64) b false)] [] (.one (.bool (better l a b))) [] := by
  have h6 := ha.1.1
  have hal := ha.2.1
  have hbl := hb.2.1
  refine Ok.of_run (F := mk Tryz.f98 0) Tryz.func98 rfl rfl tabOk mixed rfl rfl rfl rfl rfl (Nat.le_of_ble_eq_true rfl) (Nat.le_of_ble_eq_true rfl) (.go 5000 ?_)
  have loop : ∀ (d i : Nat) (z : Int), z = i → i + d = a.length → Fact (lexFrom a b i d = better l a b) → Run P (mk Tryz.f98 0) (fun v st => v = .one (.bool (better l a b)) ∧ st = []) (.loop ⟨[(1, .one (.lst (.int .i64) a false)), (2, .one (.lst (.int .i64) b false)), (11, .one (.int .i64 z))], [], [.lp [0, 1, 0, 1, 1, 1, 1, 1], .blk 0, .code [1, 1, 1, 1, 1, 1]], none⟩) := by
    intro d
    induction d with
    | zero =>
      intro i z hz hd he
      subst hz
      refine Run.loop ?_
      repeat' (conv => arg 4; whnf); first | refine Run.ret ⟨?_, rfl⟩ | refine Run.condT ?_ | refine Run.condf ?_ | refine Run.condD (fun h => ?_) (fun h => ?_) | refine Run.condN (fun h => ?_) (fun h => ?_) | refine Run.condE (fun h => ?_) (fun h => ?_) | refine Run.condF (fun h => ?_) (fun h => ?_) | refine Run.condM (fun h => ?_) (fun h => ?_) | refine Run.condB (fun h => ?_) (fun h => ?_) | refine Run.check1 ?_ | (exfalso; omega)
      all_goals first | (rw [← he.h]; rfl) | (exfalso; omega)
    | succ d ih =>
      intro i z hz hd he
      subst hz
      have e := fs (i := i) (by omega)
      have hc := he.h
      unfold lexFrom at hc
      rw [← rd_nat, ← rd_nat] at hc
      by_cases hq : rd a (i : Int) = rd b (i : Int)
      · rw [if_pos hq] at hc
        refine Run.loop ?_
        repeat' (conv => arg 4; whnf); first | refine Run.ret ⟨?_, rfl⟩ | refine Run.condT ?_ | refine Run.condf ?_ | refine Run.condD (fun h => ?_) (fun h => ?_) | refine Run.condN (fun h => ?_) (fun h => ?_) | refine Run.condE (fun h => ?_) (fun h => ?_) | refine Run.condF (fun h => ?_) (fun h => ?_) | refine Run.condM (fun h => ?_) (fun h => ?_) | refine Run.condB (fun h => ?_) (fun h => ?_) | refine Run.check1 ?_ | (exfalso; omega) | refine Run.need1 (by simp only [allP, true_and, and_true]; omega) ?_ | refine Run.round ⟨[], [], []⟩ (ih (i + 1) _ e.h (by omega) ⟨hc⟩) rfl (by (repeat' (first | exact wkEnv_nil | refine wkEnv_cons rfl ?_ | exact wkSto_nil | refine wkSto_none ?_ | refine wkSto_some rfl ?_)); done) (by (repeat' (first | exact wkEnv_nil | refine wkEnv_cons rfl ?_ | exact wkSto_nil | refine wkSto_none ?_ | refine wkSto_some rfl ?_)); done)
        all_goals first | (exfalso; omega) | trace_state
      · rw [if_neg hq] at hc
        refine Run.loop ?_
        repeat' (conv => arg 4; whnf); first | refine Run.ret ⟨?_, rfl⟩ | refine Run.condT ?_ | refine Run.condf ?_ | refine Run.condD (fun h => ?_) (fun h => ?_) | refine Run.condN (fun h => ?_) (fun h => ?_) | refine Run.condE (fun h => ?_) (fun h => ?_) | refine Run.condF (fun h => ?_) (fun h => ?_) | refine Run.condM (fun h => ?_) (fun h => ?_) | refine Run.condB (fun h => ?_) (fun h => ?_) | refine Run.check1 ?_ | (exfalso; omega) | refine Run.need1 (by simp only [allP, true_and, and_true]; omega) ?_
        all_goals first | (exfalso; omega) | (rw [← hc]; done) | trace_state
  have hbe : better l a b = if (costM l a).1 = (costM l b).1 then (if (costM l a).2 = (costM l b).2 then lexFrom a b 0 a.length else decide ((costM l a).2 < (costM l b).2)) else decide ((costM l a).1 < (costM l b).1) := rfl
  repeat' (conv => arg 4; whnf); first | refine Run.ret ⟨?_, rfl⟩ | refine Run.condT ?_ | refine Run.condf ?_ | refine Run.condD (fun h => ?_) (fun h => ?_) | refine Run.condN (fun h => ?_) (fun h => ?_) | refine Run.condE (fun h => ?_) (fun h => ?_) | refine Run.condF (fun h => ?_) (fun h => ?_) | refine Run.condM (fun h => ?_) (fun h => ?_) | refine Run.condB (fun h => ?_) (fun h => ?_) | refine Run.check1 ?_ | refine Run.call (scost2_ok l a (fits_dl ha)) rfl ?_ | refine Run.call (scost2_ok l b (fits_dl hb)) rfl ?_ | refine Run.round ⟨[], [], []⟩ (loop a.length 0 _ rfl (by omega) ⟨?_⟩) rfl (by (repeat' (first | exact wkEnv_nil | refine wkEnv_cons rfl ?_ | exact wkSto_nil | refine wkSto_none ?_ | refine wkSto_some rfl ?_)); done) (by (repeat' (first | exact wkEnv_nil | refine wkEnv_cons rfl ?_ | exact wkSto_nil | refine wkSto_none ?_ | refine wkSto_some rfl ?_)); done)
  all_goals first
    | (rw [hbe]; (repeat' split) <;> first | rfl | (exfalso; omega) | contradiction)
    | trace_state
theorem sb_ok (l : List Mv) (sh : Int) (hm : MovesOk l) : Ok P 72 [.one (.lst .mv l false), .one (.int .i64 sh)] [] (.tup [.one (.own (.k 0)), .one (.bool (bestM l sh).2)]) [some (.row (.int .i64) (bestM l sh).1)] := by
  have h6 := hm.1
  have hlen := allM_len l.length h6
  obtain ⟨e1, e2⟩ := retO_t (bestO l sh)
  rw [show bestM l sh = retO (bestO l sh) from rfl, e1, e2]
  refine Ok.of_run (F := mk Tryz.f72 0) Tryz.func72 rfl rfl tabOk mixed rfl rfl rfl rfl rfl (Nat.le_of_ble_eq_true rfl) (Nat.le_of_ble_eq_true rfl) (.go 5000 ?_)
  have loop : ∀ (d i : Nat) (z : Int) (s : Option (List Int)), z = i → i + d = (allM l.length).length → s = ((allM l.length).take i).foldl (bestStep l (firstM l) sh) none → BestOk l s → Run P (mk Tryz.f72 0) (fun v st => v = .tup [.one (.own (.k 0)), .one (.bool (bestO l sh).isSome)] ∧ st = [some (.row (.int .i64) (tksO (bestO l sh)))])
     (.loop ⟨[(0, .one (.lst .mv l false)), (1, .one (.int .i64 sh)), (6, .one (.own (.t 1000 0))), (7, .one (.bool s.isSome)), (8, .one (.lst (.int .i64) (firstM l) false)), (9, .one (.lst .ints (allM l.length) false)), (10, .one (.int .i64 z))], [(.t 1000 0, some (.row (.int .i64) (tksO s)))], [.lp [0, 1, 0, 1, 1, 1, 1, 1], .blk 0, .code [1, 1, 1, 1, 1, 1]], none⟩) := by
    intro d
    induction d with
    | zero =>
      intro i z s hz hd hs hb
      subst hz
      obtain rfl : i = (allM l.length).length := by omega
      rw [List.take_length] at hs
      replace hs : s = bestO l sh := hs
      subst hs
      refine Run.loop ?_
      repeat' (conv => arg 4; whnf); first | refine Run.ret ⟨?_, rfl⟩ | refine Run.condT ?_ | refine Run.condf ?_ | refine Run.condD (fun h => ?_) (fun h => ?_) | refine Run.condN (fun h => ?_) (fun h => ?_) | refine Run.condE (fun h => ?_) (fun h => ?_) | refine Run.condF (fun h => ?_) (fun h => ?_) | refine Run.condM (fun h => ?_) (fun h => ?_) | refine Run.condB (fun h => ?_) (fun h => ?_) | refine Run.check1 ?_ | (exfalso; omega)
      all_goals first | rfl | (exfalso; omega) | trace_state
    | succ d ih =>
      intro i z s hz hd hs hb
      subst hz
      have e := fs (i := i) (by omega)
      have hii : rdL (allM l.length) (i : Int) = (allM l.length).getD i [] := by unfold rdL; rw [Int.toNat_natCast]
      have hmi : rdL (allM l.length) (i : Int) ∈ allM l.length := by rw [hii, List.getD_eq_getElem?_getD, List.getElem?_eq_getElem (by omega)]; exact List.getElem_mem _
      obtain ⟨hol, ho⟩ := allM_ord hmi
      have hnext : bestStep l (firstM l) sh s (rdL (allM l.length) (i : Int)) = ((allM l.length).take (i + 1)).foldl (bestStep l (firstM l) sh) none := by
        rw [List.take_add_one, List.foldl_append, ← hs, hii]
        simp [List.getD_eq_getElem?_getD, List.getElem?_eq_getElem (show i < (allM l.length).length by omega)]
      have hb' : BestOk l (bestStep l (firstM l) sh s (rdL (allM l.length) (i : Int))) := bestStep_ok hm ho hol hb
      have hfl := firstM_len l
      have hshift := sshift_ok (rdL (allM l.length) (i : Int)) (firstM l) (by omega) (by omega)
      rw [shiftM_symm] at hshift
      have hord := sordered_ok l (rdL (allM l.length) (i : Int)) (movesOk_all hm) (by omega) ho hol
      have hfit : (ordM l (rdL (allM l.length) (i : Int))).2 = true → Fits l (ordM l (rdL (allM l.length) (i : Int))).1 := fun h => ordM_fits hm ho hol h
      by_cases hsh : sh < shiftM (firstM l) (rdL (allM l.length) (i : Int))
      · rw [show bestStep l (firstM l) sh s (rdL (allM l.length) (i : Int)) = s from if_pos hsh] at hnext
        refine Run.loop ?_
        repeat' (conv => arg 4; whnf); first | refine Run.ret ⟨?_, rfl⟩ | refine Run.condT ?_ | refine Run.condf ?_ | refine Run.condD (fun h => ?_) (fun h => ?_) | refine Run.condN (fun h => ?_) (fun h => ?_) | refine Run.condE (fun h => ?_) (fun h => ?_) | refine Run.condF (fun h => ?_) (fun h => ?_) | refine Run.condM (fun h => ?_) (fun h => ?_) | refine Run.condB (fun h => ?_) (fun h => ?_) | refine Run.check1 ?_ | (exfalso; omega) | refine Run.need1 (by simp only [allP, true_and, and_true]; omega) ?_ | refine Run.call (hshift) rfl ?_ | refine Run.round ⟨[(.t 1000 0, .t 1000 0)], [], []⟩ (ih (i + 1) _ _ e.h (by omega) hnext hb) rfl (by (repeat' (first | exact wkEnv_nil | refine wkEnv_cons rfl ?_ | exact wkSto_nil | refine wkSto_none ?_ | refine wkSto_some rfl ?_)); done) (by (repeat' (first | exact wkEnv_nil | refine wkEnv_cons rfl ?_ | exact wkSto_nil | refine wkSto_none ?_ | refine wkSto_some rfl ?_)); done)
        all_goals first | (exfalso; omega) | trace_state
      · cases hok : (ordM l (rdL (allM l.length) (i : Int))).2 with
        | false =>
          rw [hok] at hord
          rw [show bestStep l (firstM l) sh s (rdL (allM l.length) (i : Int)) = s by rw [bestStep_chg, chg, if_neg hsh, hok]; rfl] at hnext
          refine Run.loop ?_
          repeat' (conv => arg 4; whnf); first | refine Run.ret ⟨?_, rfl⟩ | refine Run.condT ?_ | refine Run.condf ?_ | refine Run.condD (fun h => ?_) (fun h => ?_) | refine Run.condN (fun h => ?_) (fun h => ?_) | refine Run.condE (fun h => ?_) (fun h => ?_) | refine Run.condF (fun h => ?_) (fun h => ?_) | refine Run.condM (fun h => ?_) (fun h => ?_) | refine Run.condB (fun h => ?_) (fun h => ?_) | refine Run.check1 ?_ | (exfalso; omega) | refine Run.need1 (by simp only [allP, true_and, and_true]; omega) ?_ | refine Run.call (hshift) rfl ?_ | refine Run.call (hord) rfl ?_ | refine Run.round ⟨[(.t 1000 0, .t 1000 0)], [], []⟩ (ih (i + 1) _ _ e.h (by omega) hnext hb) rfl (by (repeat' (first | exact wkEnv_nil | refine wkEnv_cons rfl ?_ | exact wkSto_nil | refine wkSto_none ?_ | refine wkSto_some rfl ?_)); done) (by (repeat' (first | exact wkEnv_nil | refine wkEnv_cons rfl ?_ | exact wkSto_nil | refine wkSto_none ?_ | refine wkSto_some rfl ?_)); done)
          all_goals first | (exfalso; omega) | trace_state
        | true =>
          have hst : bestStep l (firstM l) sh s (rdL (allM l.length) (i : Int)) = if betO l (ordM l (rdL (allM l.length) (i : Int))).1 s = true then some (ordM l (rdL (allM l.length) (i : Int))).1 else s := by rw [bestStep_chg, chg, if_neg hsh, if_pos hok]
          rw [hok] at hord
          replace hfit := hfit hok
          rw [hst] at hnext hb'
          generalize (ordM l (rdL (allM l.length) (i : Int))).1 = ts at *
          cases s with
          | none =>
            rw [show betO l ts none = true from rfl, if_pos rfl] at hnext hb'
            refine Run.loop ?_
            repeat' (conv => arg 4; whnf); first | refine Run.ret ⟨?_, rfl⟩ | refine Run.condT ?_ | refine Run.condf ?_ | refine Run.condD (fun h => ?_) (fun h => ?_) | refine Run.condN (fun h => ?_) (fun h => ?_) | refine Run.condE (fun h => ?_) (fun h => ?_) | refine Run.condF (fun h => ?_) (fun h => ?_) | refine Run.condM (fun h => ?_) (fun h => ?_) | refine Run.condB (fun h => ?_) (fun h => ?_) | refine Run.check1 ?_ | (exfalso; omega) | refine Run.need1 (by simp only [allP, true_and, and_true]; omega) ?_ | refine Run.call (hshift) rfl ?_ | refine Run.call (hord) rfl ?_ | refine Run.round ⟨[(.t 39 0, .t 1000 0)], [], []⟩ (ih (i + 1) _ _ e.h (by omega) hnext hb') rfl (by (repeat' (first | exact wkEnv_nil | refine wkEnv_cons rfl ?_ | exact wkSto_nil | refine wkSto_none ?_ | refine wkSto_some rfl ?_)); done) (by (repeat' (first | exact wkEnv_nil | refine wkEnv_cons rfl ?_ | exact wkSto_nil | refine wkSto_none ?_ | refine wkSto_some rfl ?_)); done)
            all_goals first | (exfalso; omega) | trace_state
          | some b =>
            have hbb := better_ok l ts b hfit (hb b rfl)
            cases hbt : better l ts b with
            | true =>
              rw [show betO l ts (some b) = true from hbt, if_pos rfl] at hnext hb'
              rw [hbt] at hbb
              refine Run.loop ?_
              repeat' (conv => arg 4; whnf); first | refine Run.ret ⟨?_, rfl⟩ | refine Run.condT ?_ | refine Run.condf ?_ | refine Run.condD (fun h => ?_) (fun h => ?_) | refine Run.condN (fun h => ?_) (fun h => ?_) | refine Run.condE (fun h => ?_) (fun h => ?_) | refine Run.condF (fun h => ?_) (fun h => ?_) | refine Run.condM (fun h => ?_) (fun h => ?_) | refine Run.condB (fun h => ?_) (fun h => ?_) | refine Run.check1 ?_ | (exfalso; omega) | refine Run.need1 (by simp only [allP, true_and, and_true]; omega) ?_ | refine Run.call (hshift) rfl ?_ | refine Run.call (hord) rfl ?_ | refine Run.call (hbb) rfl ?_ | refine Run.round ⟨[(.t 39 0, .t 1000 0)], [], []⟩ (ih (i + 1) _ _ e.h (by omega) hnext hb') rfl (by (repeat' (first | exact wkEnv_nil | refine wkEnv_cons rfl ?_ | exact wkSto_nil | refine wkSto_none ?_ | refine wkSto_some rfl ?_)); done) (by (repeat' (first | exact wkEnv_nil | refine wkEnv_cons rfl ?_ | exact wkSto_nil | refine wkSto_none ?_ | refine wkSto_some rfl ?_)); done)
              all_goals first | (exfalso; omega) | trace_state
            | false =>
              rw [show betO l ts (some b) = false from hbt, if_neg Bool.false_ne_true] at hnext hb'
              rw [hbt] at hbb
              refine Run.loop ?_
              repeat' (conv => arg 4; whnf); first | refine Run.ret ⟨?_, rfl⟩ | refine Run.condT ?_ | refine Run.condf ?_ | refine Run.condD (fun h => ?_) (fun h => ?_) | refine Run.condN (fun h => ?_) (fun h => ?_) | refine Run.condE (fun h => ?_) (fun h => ?_) | refine Run.condF (fun h => ?_) (fun h => ?_) | refine Run.condM (fun h => ?_) (fun h => ?_) | refine Run.condB (fun h => ?_) (fun h => ?_) | refine Run.check1 ?_ | (exfalso; omega) | refine Run.need1 (by simp only [allP, true_and, and_true]; omega) ?_ | refine Run.call (hshift) rfl ?_ | refine Run.call (hord) rfl ?_ | refine Run.call (hbb) rfl ?_ | refine Run.round ⟨[(.t 1000 0, .t 1000 0)], [], []⟩ (ih (i + 1) _ _ e.h (by omega) hnext hb') rfl (by (repeat' (first | exact wkEnv_nil | refine wkEnv_cons rfl ?_ | exact wkSto_nil | refine wkSto_none ?_ | refine wkSto_some rfl ?_)); done) (by (repeat' (first | exact wkEnv_nil | refine wkEnv_cons rfl ?_ | exact wkSto_nil | refine wkSto_none ?_ | refine wkSto_some rfl ?_)); done)
              all_goals first | (exfalso; omega) | trace_state
  repeat' (conv => arg 4; whnf); first | refine Run.ret ⟨?_, rfl⟩ | refine Run.condT ?_ | refine Run.condf ?_ | refine Run.condD (fun h => ?_) (fun h => ?_) | refine Run.condN (fun h => ?_) (fun h => ?_) | refine Run.condE (fun h => ?_) (fun h => ?_) | refine Run.condF (fun h => ?_) (fun h => ?_) | refine Run.condM (fun h => ?_) (fun h => ?_) | refine Run.condB (fun h => ?_) (fun h => ?_) | refine Run.check1 ?_ | refine Run.call (sfirst_ok l (by omega)) rfl ?_ | refine Run.call (alls_ok _ (by omega)) rfl ?_ | refine Run.round ⟨[(.t 13 0, .t 1000 0)], [], [.t 15 0, .t 18 0]⟩ (loop (allM l.length).length 0 _ none rfl (by omega) rfl (fun t h => by cases h)) rfl (by (repeat' (first | exact wkEnv_nil | refine wkEnv_cons rfl ?_ | exact wkSto_nil | refine wkSto_none ?_ | refine wkSto_some rfl ?_)); done) (by (repeat' (first | exact wkEnv_nil | refine wkEnv_cons rfl ?_ | exact wkSto_nil | refine wkSto_none ?_ | refine wkSto_some rfl ?_)); done)
  all_goals first | (exfalso; omega) | trace_state
end Go.Proofs.YtlmdbeegmgfpnaaGreatDoor.AM

/- Plans, the program's and the reference's; condition: a move list, a tick. -/
namespace Go.Proofs.YtlmdbeegmgfpnaaGreatDoor.AM
open Go.AM Go.RowKit
set_option linter.unusedVariables false
set_option linter.unusedSimpArgs false
set_option maxRecDepth 100000

def LtTo (u : Int) (l s : List Mv) (i : Nat) : Prop := s.length = l.length ∧ ∀ j, j < l.length → at' s j = if j < i then laterMv u (at' l j) else at' l j
theorem ltTo_0 (u : Int) (l : List Mv) : LtTo u l l 0 := ⟨rfl, fun j hj => by simp⟩
theorem ltTo_all {u : Int} {l s : List Mv} (h : LtTo u l s l.length) : s = laterL u l := by
  refine List.ext_getElem (by simp [laterL, h.1]) fun j h1 h2 => ?_
  have hj : j < l.length := by rw [← h.1]; exact h1
  have := h.2 j hj
  rw [if_pos hj] at this
  simpa [laterL, at', List.getD_eq_getElem?_getD, List.getElem?_eq_getElem hj, List.getElem?_eq_getElem h1] using this
theorem rdM_set {s : List Mv} {i : Nat} (hi : i < s.length) (x : Mv) : rdM (s.set (i : Int).toNat x) (i : Int) = x := by
  rw [rdM_nat, Int.toNat_natCast]
  simp [at', List.getD_eq_getElem?_getD, hi]
theorem ltTo_keep {u : Int} {l s : List Mv} {i : Nat} (h : LtTo u l s i) (hi : i < l.length) (h5 : ¬ (rdM s i).f5 < 0) : LtTo u l s (i + 1) := by
  refine ⟨h.1, fun j hj => ?_⟩
  rw [h.2 j hj]
  by_cases e : j = i
  · subst e
    have := h.2 j hj
    rw [if_neg (by omega)] at this
    rw [rdM_nat, this] at h5
    rw [if_neg (by omega), if_pos (by omega), laterMv, if_neg h5]
  · by_cases h1 : j < i
    · rw [if_pos h1, if_pos (by omega)]
    · rw [if_neg h1, if_neg (by omega)]
theorem ltTo_set {u : Int} {l s : List Mv} {i : Nat} {x : Mv} (h : LtTo u l s i) (hi : i < l.length) (hx : x = laterMv u (at' l i)) : LtTo u l (s.set (i : Int).toNat x) (i + 1) := by
  refine ⟨by rw [List.length_set]; exact h.1, fun j hj => ?_⟩
  rw [Int.toNat_natCast]
  by_cases e : j = i
  · subst e
    rw [if_pos (by omega), ← hx]
    simp [at', List.getD_eq_getElem?_getD, h.1, hj]
  · have hne : ¬ i = j := fun q => e q.symm
    have := h.2 j hj
    rw [show at' (s.set i x) j = at' s j by simp [at', List.getD_eq_getElem?_getD, List.getElem?_set, hne], this]
    by_cases h1 : j < i
    · rw [if_pos h1, if_pos (by omega)]
    · rw [if_neg h1, if_neg (by omega)]
theorem planM_nil (l : List Mv) (now sh : Int) : (planM l now sh).2 = false → (planM l now sh).1 = [] := by
  unfold planM
  split
  · unfold bestM
    cases bestO (laterL (now + 4) l) sh with
    | none => exact fun _ => rfl
    | some t => exact fun h => by cases h
  · exact fun _ => rfl
theorem plan_ok (l : List Mv) (now sh : Int) (hm : MovesOk l) (hn : 0 ≤ now ∧ now ≤ 10000) (hs : 0 ≤ sh ∧ sh ≤ 6) : Ok P 61 [.one (.lst .mv l false), .one (.int .i64 now), .one (.int .i64 sh)] [] (.tup [.one (.own (.k 0)), .one (.bool (planM l now sh).2)]) [some (.row (.int .i64) (planM l now sh).1)] := by
  refine nilR_ok (planM_nil l now sh) ?_
  have h6 := hm.1
  have eu : wrap64 (now + 4) = now + 4 := wrap_eq (by omega) (by omega)
  refine Ok.of_rel (F := mk Tryz.f61 0) Tryz.func61 rfl rfl tabOk mixed rfl rfl rfl rfl rfl (Nat.le_of_ble_eq_true rfl) (by first | exact fun _ _ => nilR_len | exact fun _ _ => nilB_len) (.go 5000 ?_)
  have loop : ∀ (d i : Nat) (z : Int) (s : List Mv), z = i → i + d = l.length → LtTo (now + 4) l s i → (∀ j, j < i → LaterAt (now + 4) (at' l j)) → Run P (mk Tryz.f61 0) (NilR (planM l now sh)) (.loop ⟨[(1, .one (.int .i64 now)), (2, .one (.int .i64 sh)), (8, .one (.own (.t 1000 0))), (13, .one (.int .i64 (l.length : Int))), (14, .one (.int .i64 z))], [(.t 1000 0, some (.row .mv s))], [.lp [0, 1, 0, 1, 1], .blk 0, .code [1, 1, 1]], none⟩) := by
    intro d
    induction d with
    | zero =>
      intro i z s hz hd hst hl
      subst hz
      obtain rfl : i = l.length := by omega
      obtain rfl := ltTo_all hst
      rw [planM_eq hm hn.1 hs, if_pos (show LaterOk (now + 4) l from fun j hj => hl j hj)]
      refine Run.loop ?_
      repeat' (conv => arg 4; whnf); first | refine Run.ret ⟨?_, rfl⟩ | refine Run.condT ?_ | refine Run.condf ?_ | refine Run.condD (fun h => ?_) (fun h => ?_) | refine Run.condN (fun h => ?_) (fun h => ?_) | refine Run.condE (fun h => ?_) (fun h => ?_) | refine Run.condF (fun h => ?_) (fun h => ?_) | refine Run.condM (fun h => ?_) (fun h => ?_) | refine Run.condB (fun h => ?_) (fun h => ?_) | refine Run.check1 ?_ | refine Run.call (best_ok _ _) rfl ?_ | (refine Run.ret (.inl ⟨rfl, rfl⟩)) | (exfalso; omega)
    | succ d ih =>
      intro i z s hz hd hst hl
      subst hz
      have hi : i < l.length := by omega
      have e := fs (i := i) (by omega)
      have hsl := hst.1
      have hmi : rdM s (i : Int) = at' l i := by rw [rdM_nat, hst.2 i hi, if_neg (by omega)]
      have hset := fun x => rdM_set (i := i) (s := s) (by omega) x
      have ih' := fun s' h1 h2 => ih (i + 1) _ s' e.h (by omega) h1 h2
      have hno : ¬ LaterAt (now + 4) (at' l i) → NilR (planM l now sh) (.tup [.one .nil, .one (.bool false)]) [] := fun h => by
        have hq : planM l now sh = ([], false) := if_neg fun k => h (k i hi)
        rw [hq]
        exact .inr ⟨rfl, rfl, rfl⟩
      clear ih
      refine Run.loop ?_
      repeat' (conv => arg 4; whnf); first | refine Run.ret ⟨?_, rfl⟩ | refine Run.condT ?_ | refine Run.condf ?_ | refine Run.condD (fun h => ?_) (fun h => ?_) | refine Run.condN (fun h => ?_) (fun h => ?_) | refine Run.condE (fun h => ?_) (fun h => ?_) | refine Run.condF (fun h => ?_) (fun h => ?_) | refine Run.condM (fun h => ?_) (fun h => ?_) | refine Run.condB (fun h => ?_) (fun h => ?_) | refine Run.check1 ?_ | (exfalso; omega) | refine Run.need1 (by simp only [allP, true_and, and_true]; omega) ?_ | refine Run.need1 (by simp only [allP, true_and, and_true, List.length_set]; omega) ?_ | refine Run.round ⟨[(.t 1000 0, .t 1000 0)], [], []⟩ (ih' _ ?_ ?_) rfl (by (repeat' (first | exact wkEnv_nil | refine wkEnv_cons rfl ?_ | exact wkSto_nil | refine wkSto_none ?_ | refine wkSto_some rfl ?_)); done) (by (repeat' (first | exact wkEnv_nil | refine wkEnv_cons rfl ?_ | exact wkSto_nil | refine wkSto_none ?_ | refine wkSto_some rfl ?_)); done) | (refine Run.ret (hno ?_))
      all_goals clear ih' hno
      all_goals first
        | exact ltTo_keep hst hi ‹_›
        | (refine ltTo_set hst hi ?_
           have h5 : (rdM s (i : Int)).f5 < 0 := by assumption
           rw [hmi] at h5 ⊢
           rw [eu]
           unfold laterMv
           rw [if_pos h5])
        | (intro q
           unfold LaterAt at q
           simp only [hset, eu, hmi] at *
           omega)
        | (intro j hj
           by_cases hji : j < i
           · exact hl j hji
           · obtain rfl : j = i := by omega
             unfold LaterAt
             simp only [hset, eu, hmi] at *
             omega)
        | trace_state
  repeat' (conv => arg 4; whnf); first | refine Run.ret ⟨?_, rfl⟩ | refine Run.condT ?_ | refine Run.condf ?_ | refine Run.condD (fun h => ?_) (fun h => ?_) | refine Run.condN (fun h => ?_) (fun h => ?_) | refine Run.condE (fun h => ?_) (fun h => ?_) | refine Run.condF (fun h => ?_) (fun h => ?_) | refine Run.condM (fun h => ?_) (fun h => ?_) | refine Run.condB (fun h => ?_) (fun h => ?_) | refine Run.check1 ?_ | refine Run.call (cloneM_ok l (by omega)) rfl ?_ | refine Run.round ⟨[(.t 11 0, .t 1000 0)], [], []⟩ (loop l.length 0 _ _ rfl (by omega) (ltTo_0 _ _) (fun j hj => absurd hj (by omega))) rfl (by (repeat' (first | exact wkEnv_nil | refine wkEnv_cons rfl ?_ | exact wkSto_nil | refine wkSto_none ?_ | refine wkSto_some rfl ?_)); done) (by (repeat' (first | exact wkEnv_nil | refine wkEnv_cons rfl ?_ | exact wkSto_nil | refine wkSto_none ?_ | refine wkSto_some rfl ?_)); done)
  all_goals trace_state
theorem ltTo_keep2 {u : Int} {l s : List Mv} {i : Nat} (h : LtTo u l s i) (hi : i < l.length) (h5 : laterMv u (at' l i) = at' l i) : LtTo u l s (i + 1) := by
  refine ⟨h.1, fun j hj => ?_⟩
  rw [h.2 j hj]
  by_cases e : j = i
  · subst e
    rw [if_neg (by omega), if_pos (by omega), h5]
  · by_cases h1 : j < i
    · rw [if_pos h1, if_pos (by omega)]
    · rw [if_neg h1, if_neg (by omega)]
theorem laterMv_id {u : Int} {m : Mv} (h : ¬ (m.f5 < 0 ∧ m.f3 < u)) : laterMv u m = m := by
  unfold laterMv
  split
  · rw [show max m.f3 u = m.f3 by omega]
  · rfl
theorem later_ok (l : List Mv) (u : Int) (hm : MovesOk l) : ∃ s : List Mv, (LaterOk u l → s = laterL u l) ∧
    Ok P 71 [.one (.lst .mv l false), .one (.int .i64 u)] [] (.tup [.one (.own (.k 0)), .one (.bool (decide (LaterOk u l)))]) [some (.row .mv s)] := by
  have h6 := hm.1
  refine Ok.of_ex (F := mk Tryz.f71 0) Tryz.func71 rfl rfl tabOk mixed rfl rfl rfl rfl rfl (Nat.le_of_ble_eq_true rfl) (fun _ => Nat.le_of_ble_eq_true rfl) (.go 5000 ?_)
  have loop : ∀ (d i : Nat) (z : Int) (s : List Mv), z = i → i + d = l.length → LtTo u l s i → (∀ j, j < i → LaterAt u (at' l j)) → Run P (mk Tryz.f71 0) (fun v st => ∃ s : List Mv, (LaterOk u l → s = laterL u l) ∧ v = .tup [.one (.own (.k 0)), .one (.bool (decide (LaterOk u l)))] ∧ st = [some (.row .mv s)]) (.loop ⟨[(1, .one (.int .i64 u)), (6, .one (.own (.t 1000 0))), (7, .one (.int .i64 z))], [(.t 1000 0, some (.row .mv s))], [.lp [0, 1, 0, 1, 1], .blk 0, .code [1, 1, 1]], none⟩) := by
    intro d
    induction d with
    | zero =>
      intro i z s hz hd hst hl
      subst hz
      obtain rfl : i = l.length := by omega
      obtain rfl := ltTo_all hst
      have hlo : LaterOk u l := fun j hj => hl j hj
      have hsl := hst.1
      rw [decide_eq_true hlo]
      refine Run.loop ?_
      repeat' (conv => arg 4; whnf); first | refine Run.ret ⟨?_, rfl⟩ | refine Run.condT ?_ | refine Run.condf ?_ | refine Run.condD (fun h => ?_) (fun h => ?_) | refine Run.condN (fun h => ?_) (fun h => ?_) | refine Run.condE (fun h => ?_) (fun h => ?_) | refine Run.condF (fun h => ?_) (fun h => ?_) | refine Run.condM (fun h => ?_) (fun h => ?_) | refine Run.condB (fun h => ?_) (fun h => ?_) | refine Run.check1 ?_ | (exfalso; omega) | (refine Run.ret ⟨_, fun _ => rfl, rfl, rfl⟩)
    | succ d ih =>
      intro i z s hz hd hst hl
      subst hz
      have hi : i < l.length := by omega
      have e := fs (i := i) (by omega)
      have hsl := hst.1
      have hmi : rdM s (i : Int) = at' l i := by rw [rdM_nat, hst.2 i hi, if_neg (by omega)]
      have hset := fun x => rdM_set (i := i) (s := s) (by omega) x
      have ih' := fun s' h1 h2 => ih (i + 1) _ s' e.h (by omega) h1 h2
      have hmv := (mvOk_true (m := at' l i)).1 (hm.2 i hi).1
      clear ih
      refine Run.loop ?_
      repeat' (conv => arg 4; whnf); first | refine Run.ret ⟨?_, rfl⟩ | refine Run.condT ?_ | refine Run.condf ?_ | refine Run.condD (fun h => ?_) (fun h => ?_) | refine Run.condN (fun h => ?_) (fun h => ?_) | refine Run.condE (fun h => ?_) (fun h => ?_) | refine Run.condF (fun h => ?_) (fun h => ?_) | refine Run.condM (fun h => ?_) (fun h => ?_) | refine Run.condB (fun h => ?_) (fun h => ?_) | refine Run.check1 ?_ | (exfalso; omega) | refine Run.need1 (by simp only [allP, true_and, and_true]; omega) ?_ | refine Run.need1 (by simp only [allP, true_and, and_true, List.length_set]; omega) ?_ | refine Run.round ⟨[(.t 1000 0, .t 1000 0)], [], []⟩ (ih' _ ?_ ?_) rfl (by (repeat' (first | exact wkEnv_nil | refine wkEnv_cons rfl ?_ | exact wkSto_nil | refine wkSto_none ?_ | refine wkSto_some rfl ?_)); done) (by (repeat' (first | exact wkEnv_nil | refine wkEnv_cons rfl ?_ | exact wkSto_nil | refine wkSto_none ?_ | refine wkSto_some rfl ?_)); done) | (refine Run.ret ⟨_, ?_, ?_, rfl⟩)
      all_goals clear ih'
      all_goals first
        | (refine ltTo_keep2 hst hi (laterMv_id fun q => ?_)
           rw [hmi] at *
           omega)
        | (refine ltTo_set hst hi ?_
           simp only [hmi, hset] at *
           unfold laterMv
           rw [if_pos (by omega), show max (at' l i).f3 u = u by omega])
        | (intro j hj
           by_cases hji : j < i
           · exact hl j hji
           · obtain rfl : j = i := by omega
             unfold LaterAt
             simp only [hset, hmi] at *
             omega)
        | (have hnl : ¬ LaterOk u l := fun q => by
             have q := q i hi
             unfold LaterAt at q
             simp only [hset, hmi] at *
             omega
           first
             | exact fun q => absurd q hnl
             | (rw [decide_eq_false hnl]; done))
        | trace_state
  repeat' (conv => arg 4; whnf); first | refine Run.ret ⟨?_, rfl⟩ | refine Run.condT ?_ | refine Run.condf ?_ | refine Run.condD (fun h => ?_) (fun h => ?_) | refine Run.condN (fun h => ?_) (fun h => ?_) | refine Run.condE (fun h => ?_) (fun h => ?_) | refine Run.condF (fun h => ?_) (fun h => ?_) | refine Run.condM (fun h => ?_) (fun h => ?_) | refine Run.condB (fun h => ?_) (fun h => ?_) | refine Run.check1 ?_ | refine Run.need1 (by simp only [allP, true_and, and_true, List.length_nil, List.length_append, List.nil_append]; omega) ?_ | refine Run.round ⟨[(.t 10 0, .t 1000 0)], [], []⟩ (loop l.length 0 _ _ rfl (by omega) ?_ (fun j hj => absurd hj (by omega))) rfl (by (repeat' (first | exact wkEnv_nil | refine wkEnv_cons rfl ?_ | exact wkSto_nil | refine wkSto_none ?_ | refine wkSto_some rfl ?_)); done) (by (repeat' (first | exact wkEnv_nil | refine wkEnv_cons rfl ?_ | exact wkSto_nil | refine wkSto_none ?_ | refine wkSto_some rfl ?_)); done)
  all_goals first | exact ltTo_0 _ _ | trace_state
theorem splan_ok (l : List Mv) (now sh : Int) (hm : MovesOk l) (hn : 0 ≤ now ∧ now ≤ 10000) (hs : 0 ≤ sh ∧ sh ≤ 6) : Ok P 42 [.one (.lst .mv l false), .one (.int .i64 now), .one (.int .i64 sh)] [] (.tup [.one (.own (.k 0)), .one (.bool (planM l now sh).2)]) [some (.row (.int .i64) (planM l now sh).1)] := by
  have h6 := hm.1
  have eu : wrap64 (now + 4) = now + 4 := wrap_eq (by omega) (by omega)
  obtain ⟨s, hse, hla⟩ := later_ok l (wrap64 (now + 4)) hm
  rw [eu] at hse
  by_cases hlo : LaterOk (now + 4) l
  · obtain rfl := hse hlo
    rw [decide_eq_true (by rw [eu]; exact hlo)] at hla
    have hb := sb_ok (laterL (now + 4) l) sh (later_movesOk hm (by omega) hlo)
    rw [show planM l now sh = bestM (laterL (now + 4) l) sh from if_pos hlo]
    refine Ok.of_run (F := mk Tryz.f42 0) Tryz.func42 rfl rfl tabOk mixed rfl rfl rfl rfl rfl (Nat.le_of_ble_eq_true rfl) (Nat.le_of_ble_eq_true rfl) (.go 5000 ?_)
    repeat' (conv => arg 4; whnf); first | refine Run.ret ⟨?_, rfl⟩ | refine Run.condT ?_ | refine Run.condf ?_ | refine Run.condD (fun h => ?_) (fun h => ?_) | refine Run.condN (fun h => ?_) (fun h => ?_) | refine Run.condE (fun h => ?_) (fun h => ?_) | refine Run.condF (fun h => ?_) (fun h => ?_) | refine Run.condM (fun h => ?_) (fun h => ?_) | refine Run.condB (fun h => ?_) (fun h => ?_) | refine Run.check1 ?_ | refine Run.call (hla) rfl ?_ | refine Run.call (hb) rfl ?_
    all_goals first | rfl | trace_state
  · rw [decide_eq_false (by rw [eu]; exact hlo)] at hla
    rw [show planM l now sh = ([], false) from if_neg hlo]
    refine Ok.of_run (F := mk Tryz.f42 0) Tryz.func42 rfl rfl tabOk mixed rfl rfl rfl rfl rfl (Nat.le_of_ble_eq_true rfl) (Nat.le_of_ble_eq_true rfl) (.go 5000 ?_)
    repeat' (conv => arg 4; whnf); first | refine Run.ret ⟨?_, rfl⟩ | refine Run.condT ?_ | refine Run.condf ?_ | refine Run.condD (fun h => ?_) (fun h => ?_) | refine Run.condN (fun h => ?_) (fun h => ?_) | refine Run.condE (fun h => ?_) (fun h => ?_) | refine Run.condF (fun h => ?_) (fun h => ?_) | refine Run.condM (fun h => ?_) (fun h => ?_) | refine Run.condB (fun h => ?_) (fun h => ?_) | refine Run.check1 ?_ | refine Run.call (hla) rfl ?_
    all_goals first | rfl | trace_state
end Go.Proofs.YtlmdbeegmgfpnaaGreatDoor.AM
