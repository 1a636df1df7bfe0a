/- The machine, part 2 of 2: an abstract machine over lists, and that what it does is what the program does; no condition -/
import Derived.Scope
import Derived.Laws.Cover3
import Derived.Laws.StructEq
import Derived.Laws.Strings
import Derived.KernelRfl
import Derived.Lib.ReflectliteSlice
import Derived.Lib.ReflectliteSwap
import Derived.Laws.Externs
import Derived.Test.YtlmdbeegmgfpnaaGreatDoorMC1
/- Calls by contract; condition: the contract. -/
namespace Go.AM
set_option linter.unusedVariables false
set_option linter.unusedSimpArgs false
open Go.RowKit
variable {P : Program} {μ : Mu} {w : World} {G : Nat → Prop} {sto : Sto} {tab : Tab}

/-! ### Other names -/
mutual
theorem repA_ren {μ' : Mu} {f : L → Option L} (hf : ∀ l m, f l = some m → ∀ B, μ l = some B → μ' m = some B) : (a b : A) → (v : Value) → a.ren f = some b → repA μ w G a v → repA μ' w G b v
  | .int _ _, b, v, h, hr | .bool _, b, v, h, hr | .str _, b, v, h, hr | .nil, b, v, h, hr | .nilp, b, v, h, hr | .raw _, b, v, h, hr | .any, b, v, h, hr | .nilf, b, v, h, hr | .lst _ _ _, b, v, h, hr | .lp _ _ _, b, v, h, hr => by
    simp only [A.ren, Option.some.injEq] at h
    subst h
    simpa only [repA] using hr
  | .own l, b, v, h, hr | .ptr l _, b, v, h, hr | .ep l _ _, b, v, h, hr => by
    simp only [A.ren] at h
    split at h
    · rename_i m hm
      obtain rfl := Option.some.inj h
      simp only [repA] at hr ⊢
      obtain ⟨B, h1, h2⟩ := hr
      exact ⟨B, hf l m hm B h1, h2⟩
    · cases h
  | .sub l _ _, b, v, h, hr => by
    simp only [A.ren] at h
    split at h
    · rename_i m hm
      obtain rfl := Option.some.inj h
      simp only [repA] at hr ⊢
      obtain ⟨B, o, h1, h2⟩ := hr
      exact ⟨B, o, hf l m hm B h1, h2⟩
    · cases h
  | .fn g cs, b, v, h, hr => by
    simp only [A.ren] at h
    split at h
    · rename_i cs' hm
      obtain rfl := Option.some.inj h
      simp only [repA] at hr ⊢
      obtain ⟨us, h1, h2⟩ := hr
      exact ⟨us, h1, repAs_ren hf cs cs' _ hm h2⟩
    · cases h
  | .ifc t a, b, v, h, hr => by
    simp only [A.ren] at h
    split at h
    · rename_i a' hm
      obtain rfl := Option.some.inj h
      simp only [repA] at hr ⊢
      obtain ⟨u, h1, h2⟩ := hr
      exact ⟨u, h1, repA_ren hf a a' _ hm h2⟩
    · cases h
theorem repAs_ren {μ' : Mu} {f : L → Option L} (hf : ∀ l m, f l = some m → ∀ B, μ l = some B → μ' m = some B) : (as bs : List A) → (us : List Value) → A.renL f as = some bs → repAs μ w G as us → repAs μ' w G bs us
  | [], bs, us, h, hr => by
    simp only [A.renL, Option.some.injEq] at h
    subst h
    simpa only [repAs] using hr
  | a :: as, bs, us, h, hr => by
    simp only [A.renL] at h
    split at h
    · rename_i b bs' h1 h2
      obtain rfl := Option.some.inj h
      simp only [repAs] at hr ⊢
      obtain ⟨u, us', h3, h4, h5⟩ := hr
      exact ⟨u, us', h3, repA_ren hf a b _ h1 h4, repAs_ren hf as bs' _ h2 h5⟩
    · cases h
end
mutual
theorem repV_ren {μ' : Mu} {f : L → Option L} (hf : ∀ l m, f l = some m → ∀ B, μ l = some B → μ' m = some B) : (a b : V) → (v : Value) → a.ren f = some b → repV μ w G a v → repV μ' w G b v
  | .one a, b, v, h, hr => by
    simp only [V.ren] at h
    split at h
    · rename_i a' hm
      obtain rfl := Option.some.inj h
      simp only [repV] at hr ⊢
      exact repA_ren hf a a' v hm hr
    · cases h
  | .agg as, b, v, h, hr => by
    simp only [V.ren] at h
    split at h
    · rename_i a' hm
      obtain rfl := Option.some.inj h
      simp only [repV] at hr ⊢
      obtain ⟨us, h1, h2⟩ := hr
      exact ⟨us, h1, repAs_ren hf as a' _ hm h2⟩
    · cases h
  | .tup vs, b, v, h, hr => by
    simp only [V.ren] at h
    split at h
    · rename_i a' hm
      obtain rfl := Option.some.inj h
      simp only [repV] at hr ⊢
      obtain ⟨us, h1, h2⟩ := hr
      exact ⟨us, h1, repVs_ren hf vs a' _ hm h2⟩
    · cases h
theorem repVs_ren {μ' : Mu} {f : L → Option L} (hf : ∀ l m, f l = some m → ∀ B, μ l = some B → μ' m = some B) : (as bs : List V) → (us : List Value) → V.renL f as = some bs → repVs μ w G as us → repVs μ' w G bs us
  | [], bs, us, h, hr => by
    simp only [V.renL, Option.some.injEq] at h
    subst h
    simpa only [repVs] using hr
  | a :: as, bs, us, h, hr => by
    simp only [V.renL] at h
    split at h
    · rename_i b bs' h1 h2
      obtain rfl := Option.some.inj h
      simp only [repVs] at hr ⊢
      obtain ⟨u, us', h3, h4, h5⟩ := hr
      exact ⟨u, us', h3, repV_ren hf a b _ h1 h4, repVs_ren hf as bs' _ h2 h5⟩
    · cases h
end
theorem enc_rep {μ' : Mu} {G' : Nat → Prop} (e : El) (x : e.T) {us : List Value} (h : repAs μ w G (e.enc x) us) (hG : ∀ b, G b → G' b) : repAs μ' w G' (e.enc x) us := by
  cases e <;> simp only [El.enc, repAs, repA] at h ⊢ <;> first | exact h | skip
  obtain ⟨u, us', h1, h2, h3⟩ := h
  exact ⟨u, us', h1, lstRep_mono (fun _ _ => rfl) hG (rep1_mono (fun _ _ => rfl) hG) h2, h3⟩
theorem crep_ren {μ' : Mu} {f : L → Option L} (hf : ∀ l m, f l = some m → ∀ B, μ l = some B → μ' m = some B) {B : Blk} {c d : C} (h : c.ren f = some d) (hr : crep μ w G B c) : crep μ' w G B d := by
  cases c with
  | cells as =>
    simp only [C.ren] at h
    split at h
    · rename_i bs hm
      obtain rfl := Option.some.inj h
      obtain ⟨h0, us, te, h1, h2⟩ := hr
      exact ⟨h0, us, te, h1, repAs_ren hf _ _ _ hm h2⟩
    · cases h
  | row e xs =>
    simp only [C.ren, Option.some.injEq] at h
    subst h
    obtain ⟨h1, h2, h3, h4, h5⟩ := hr
    refine ⟨h1, h2, h3, h4, fun hv => ?_⟩
    obtain ⟨h6, arr, te, h7, h8, h9⟩ := h5 hv
    refine ⟨h6, arr, te, h7, h8, fun i x hx => ?_⟩
    obtain ⟨us, k1, k2⟩ := h9 i x hx
    exact ⟨us, enc_rep e x k1 (fun _ h => h), k2⟩
theorem idx_ok : ∀ {ls : List L} {l : L} {k i : Nat}, idx l ls k = some i → k ≤ i ∧ ls[i - k]? = some l
  | [], l, k, i, h => by simp [idx] at h
  | x :: ls, l, k, i, h => by
    simp only [idx] at h
    split at h
    · rename_i hb
      obtain rfl := Option.some.inj h
      rw [(L.beq_iff l x).mp hb]
      simp
    · obtain ⟨h1, h2⟩ := idx_ok h
      refine ⟨by omega, ?_⟩
      rw [show i - k = (i - (k + 1)) + 1 by omega]
      simpa using h2
theorem toK_ok {ids : List L} {l m : L} (h : toK ids l = some m) : ∃ i, m = .k i ∧ ids[i]? = some l := by
  unfold toK at h
  split at h
  · rename_i i hi
    obtain rfl := Option.some.inj h
    exact ⟨i, rfl, by simpa using (idx_ok hi).2⟩
  · cases h
theorem idx_none : ∀ {ls : List L} {l : L} {k : Nat}, idx l ls k = none → l ∉ ls
  | [], l, k, h => by simp
  | x :: ls, l, k, h => by
    simp only [idx] at h
    split at h
    · cases h
    · rename_i hb
      intro hm
      rcases List.mem_cons.mp hm with rfl | hm
      · rw [(L.beq_iff l l).mpr rfl] at hb; cases hb
      · exact idx_none h hm
theorem nodupL_ok : ∀ {ls : List L}, nodupL ls = true → ∀ (i j : Nat) (l : L), ls[i]? = some l → ls[j]? = some l → i = j
  | [], h, i, j, l, hi, _ => by simp at hi
  | x :: ls, h, i, j, l, hi, hj => by
    simp only [nodupL] at h
    split at h
    · cases h
    · rename_i hx
      have hn := idx_none hx
      cases i with
      | zero =>
        cases j with
        | zero => rfl
        | succ j =>
          simp only [List.getElem?_cons_zero, Option.some.injEq, List.getElem?_cons_succ] at hi hj
          subst hi
          exact absurd (List.mem_of_getElem? hj) hn
      | succ i =>
        cases j with
        | zero =>
          simp only [List.getElem?_cons_zero, Option.some.injEq, List.getElem?_cons_succ] at hi hj
          subst hj
          exact absurd (List.mem_of_getElem? hi) hn
        | succ j =>
          simp only [List.getElem?_cons_succ] at hi hj
          rw [nodupL_ok h i j l hi hj]
theorem disj_ok {a : List L} : ∀ {b : List L}, disj a b = true → ∀ l ∈ b, l ∉ a
  | [], _, l, h => by cases h
  | x :: b, h, l, hl => by
    simp only [disj] at h
    split at h
    · cases h
    · rename_i hx
      rcases List.mem_cons.mp hl with rfl | hl
      · exact idx_none hx
      · exact disj_ok h l hl
theorem packSto_ok {s : Sto} {f : L → Option L} : ∀ {ids : List L} {st : List (Option C)}, packSto s f ids = some st → st.length = ids.length ∧ ∀ (i : Nat) (l : L), ids[i]? = some l → ∃ oc, st[i]? = some oc ∧ (match lkC l s with | none => oc = none | some c => ∃ d, c.ren f = some d ∧ oc = some d)
  | [], st, h => by simp only [packSto, Option.some.injEq] at h; subst h; simp
  | x :: ids, st, h => by
    simp only [packSto] at h
    split at h
    · cases h
    · rename_i cs hcs
      obtain ⟨h1, h2⟩ := packSto_ok hcs
      split at h
      · rename_i hx
        obtain rfl := Option.some.inj h
        refine ⟨by simp [h1], fun i l hi => ?_⟩
        cases i with
        | zero => simp only [List.getElem?_cons_zero, Option.some.injEq] at hi; subst hi; exact ⟨none, rfl, by rw [hx]⟩
        | succ i => simpa using h2 i l (by simpa using hi)
      · rename_i c hx
        split at h
        · rename_i d hd
          obtain rfl := Option.some.inj h
          refine ⟨by simp [h1], fun i l hi => ?_⟩
          cases i with
          | zero => simp only [List.getElem?_cons_zero, Option.some.injEq] at hi; subst hi; exact ⟨some d, rfl, by rw [hx]; exact ⟨d, hd, rfl⟩⟩
          | succ i => simpa using h2 i l (by simpa using hi)
        · cases h
theorem packSto_agree {s s' : Sto} {f : L → Option L} : ∀ {ids : List L}, (∀ l ∈ ids, lkC l s' = lkC l s) → packSto s' f ids = packSto s f ids
  | [], _ => rfl
  | x :: ids, h => by
    simp only [packSto, packSto_agree (ids := ids) fun l hl => h l (List.mem_cons_of_mem _ hl), h x List.mem_cons_self]
theorem argSto_lk : ∀ (st : List (Option C)) (k : Nat) (l : L), lkL l (argSto k st) = match l with | .k i => (if k ≤ i then st[i - k]? else none) | .t _ _ => none
  | [], k, l => by cases l <;> simp [argSto, lkL]
  | c :: st, k, l => by
    simp only [argSto]
    rw [lkL_cons, argSto_lk st (k + 1)]
    cases l with
    | t d j => simp
    | k i =>
      by_cases h : i = k
      · subst h; simp
      · rw [if_neg (by simpa using h)]
        by_cases h2 : k + 1 ≤ i
        · simp only [h2, if_true]
          rw [if_pos (by omega), show i - k = (i - (k + 1)) + 1 by omega]
          simp
        · simp only [h2, if_false]
          rw [if_neg (by omega)]
/-! ### What is borrowed -/
theorem rep1_enc {e : El} {x : e.T} {us : List Value} (h : repAs μ w G (e.enc x) us) : All2 (rep1 w G) (e.enc x) us := by
  cases e with
  | int k =>
    simp only [El.enc, repAs, repA] at h ⊢
    obtain ⟨u, _, rfl, rfl, rfl⟩ := h
    exact .cons rfl .nil
  | bool =>
    simp only [El.enc, repAs, repA] at h ⊢
    obtain ⟨u, _, rfl, rfl, rfl⟩ := h
    exact .cons rfl .nil
  | str =>
    simp only [El.enc, repAs, repA] at h ⊢
    obtain ⟨u, _, rfl, rfl, rfl⟩ := h
    exact .cons rfl .nil
  | mv =>
    simp only [El.enc, repAs, repA] at h ⊢
    obtain ⟨_, _, rfl, rfl, _, _, rfl, rfl, _, _, rfl, rfl, _, _, rfl, rfl, _, _, rfl, rfl, _, _, rfl, rfl, rfl⟩ := h
    exact .cons rfl (.cons rfl (.cons rfl (.cons rfl (.cons rfl (.cons rfl .nil)))))
  | ints =>
    simp only [El.enc, repAs, repA] at h ⊢
    obtain ⟨u, _, rfl, ⟨a, cap, k1, k2, k3, k4⟩, rfl⟩ := h
    refine .cons ⟨a, cap, k1, k2, k3, fun hne => ?_⟩ .nil
    obtain ⟨b, o, k5, k6, k7⟩ := k4 hne
    refine ⟨b, o, k5, k6, fun i x hx => ?_⟩
    obtain ⟨vs, k8, k9⟩ := k7 i x hx
    refine ⟨vs, ?_, k9⟩
    simp only [El.enc] at k8 ⊢
    cases k8 with
    | cons m1 m2 => cases m2; exact .cons m1 .nil
theorem lendA_ok (h : HR μ G sto w) {e : Option El} {a b : A} {ls : List L} {rl rl' : List L} {ps ps' : List Prop} {v : Value} {G' : Nat → Prop} (hg : (lendA e a).go sto rl ps = .ok (b, ls) rl' ps') (hp : ∀ p ∈ ps', p) (hr : repA μ w G a v)
    (hG : ∀ b, G b → G' b) (hl : ∀ l ∈ ls, ∀ c B, lkC l sto = some c → μ l = some B → B.virt = false → G' B.b) : repA μ w G' b v := by
  have hself : ∀ {a : A}, repA μ w G a v → repA μ w G' a v := fun h => repA_mono (fun _ _ h => h) (fun _ _ => rfl) hG _ _ h
  unfold lendA at hg
  split at hg
  · split at hg
    · simp only [M.go, MR.ok.injEq, Prod.mk.injEq] at hg
      obtain ⟨⟨rfl, rfl⟩, _, _⟩ := hg
      simp only [repA] at hr ⊢
      subst hr
      exact ⟨none, 0, rfl, Nat.le_refl _, by simp, fun h => absurd rfl h⟩
    · simp only [M.go, MR.ok.injEq, Prod.mk.injEq] at hg
      obtain ⟨⟨rfl, rfl⟩, _, _⟩ := hg
      exact hself hr
  · rename_i l
    simp only [M.go] at hg
    split at hg
    · rename_i c hc
      cases c with
      | cells as => simp [M.go] at hg
      | row e' xs =>
        simp only [M.go, MR.ok.injEq, Prod.mk.injEq] at hg
        obtain ⟨⟨rfl, rfl⟩, _, _⟩ := hg
        simp only [repA] at hr ⊢
        obtain ⟨B, hB, rfl⟩ := hr
        obtain ⟨g1, g2, g3, g4, g5⟩ := (h.get hc hB).1
        refine ⟨B.a, B.cap, by rw [g1], by omega, by simp, fun hne => ?_⟩
        have hv : B.virt = false := by
          cases hv : B.virt with
          | false => rfl
          | true => exact absurd (g4 hv).1 hne
        obtain ⟨g6, arr, te, g7, g8, g9⟩ := g5 hv
        refine ⟨B.b, 0, g6, hl l (by simp) _ B hc hB hv, fun i x hx => ?_⟩
        obtain ⟨us, k1, k2⟩ := g9 i x hx
        exact ⟨us, rep1_enc (enc_rep (μ' := μ) e' x k1 hG), by simpa using k2⟩
    · cases hg
  · rename_i l off len
    simp only [M.go] at hg
    split at hg
    · rename_i c hc
      cases c with
      | cells as => simp [M.go] at hg
      | row e' xs =>
        simp only [M.go, MR.ok.injEq, Prod.mk.injEq] at hg
        obtain ⟨⟨rfl, rfl⟩, _, rfl⟩ := hg
        have hb := hp _ List.mem_cons_self
        simp only [repA] at hr ⊢
        obtain ⟨B, o, hB, rfl, hol, ho⟩ := hr
        obtain ⟨g1, g2, g3, g4, g5⟩ := (h.get hc hB).1
        have hlen : ((xs.drop off).take len).length = len := by simp; omega
        refine ⟨o, B.cap - off, by rw [hlen], by rw [hlen]; omega, by simp, fun hne => ?_⟩
        have hpos : 0 < len := by rw [← hlen]; exact List.length_pos_iff.mpr hne
        have hv : B.virt = false := by
          cases hv : B.virt with
          | false => rfl
          | true => have e0 := (g4 hv).1; rw [e0] at hb; simp only [List.length_nil] at hb; omega
        obtain ⟨g6, arr, te, g7, g8, g9⟩ := g5 hv
        refine ⟨B.b, off * B.sz, ho (by omega), hl l (by simp) _ B hc hB hv, fun i x hx => ?_⟩
        rw [List.getElem?_take] at hx
        split at hx
        · rw [List.getElem?_drop] at hx
          obtain ⟨us, k1, k2⟩ := g9 _ x hx
          refine ⟨us, rep1_enc (enc_rep (μ' := μ) e' x k1 hG), ?_⟩
          rw [g3, ← Nat.add_mul]
          exact k2
        · cases hx
    · cases hg
  · simp only [M.go, MR.ok.injEq, Prod.mk.injEq] at hg
    obtain ⟨⟨rfl, rfl⟩, _, _⟩ := hg
    exact hself hr
theorem lendAs_ok (h : HR μ G sto w) {G' : Nat → Prop} (hG : ∀ b, G b → G' b) : ∀ {as bs : List A} {es : List (Option El)} {ls : List L} {rl rl' : List L} {ps ps' : List Prop} {us : List Value}, (lendAs es as).go sto rl ps = .ok (bs, ls) rl' ps' → (∀ p ∈ ps', p) → repAs μ w G as us →
    (∀ l ∈ ls, ∀ c B, lkC l sto = some c → μ l = some B → B.virt = false → G' B.b) → repAs μ w G' bs us
  | [], bs, es, ls, rl, rl', ps, ps', us, hg, _, hr, _ => by
    cases es <;> (
      simp only [lendAs, M.go, MR.ok.injEq, Prod.mk.injEq] at hg
      obtain ⟨⟨rfl, rfl⟩, _, _⟩ := hg
      simpa only [repAs] using hr)
  | a :: as, bs, es, ls, rl, rl', ps, ps', us, hg, hp, hr, hl => by
    simp only [repAs] at hr
    obtain ⟨u, us', rfl, h1, h2⟩ := hr
    have key : ∀ {e : Option El} {es : List (Option El)}, ((lendA e a).bind fun (b, l) => (lendAs es as).bind fun (bs, ls) => .ret (b :: bs, l ++ ls)).go sto rl ps = .ok (bs, ls) rl' ps' → repAs μ w G' bs (u :: us') := by
      intro e es hg
      obtain ⟨⟨b, l⟩, rl1, ps1, k1, k2⟩ := bind_go hg
      obtain ⟨⟨bs', ls'⟩, rl2, ps2, k3, k4⟩ := bind_go k2
      simp only [M.go, MR.ok.injEq, Prod.mk.injEq] at k4
      obtain ⟨⟨rfl, rfl⟩, rfl, rfl⟩ := k4
      simp only [repAs]
      refine ⟨u, us', rfl, lendA_ok h k1 (fun p hm => hp p ((go_ok k3).2 p hm)) h1 hG (fun l hm => hl l (List.mem_append_left _ hm)), lendAs_ok h hG k3 hp h2 (fun l hm => hl l (List.mem_append_right _ hm))⟩
    cases es with
    | nil => exact key hg
    | cons e es => exact key hg
theorem lendV_ok (h : HR μ G sto w) {G' : Nat → Prop} (hG : ∀ b, G b → G' b) {t : TypeId} {a b : V} {ls : List L} {rl rl' : List L} {ps ps' : List Prop} {u : Value} (hg : (lendV tab t a).go sto rl ps = .ok (b, ls) rl' ps') (hp : ∀ p ∈ ps', p) (hr : repV μ w G a u)
    (hl : ∀ l ∈ ls, ∀ c B, lkC l sto = some c → μ l = some B → B.virt = false → G' B.b) : repV μ w G' b u := by
  unfold lendV at hg
  split at hg
  · split at hg
    · obtain ⟨⟨bs, l⟩, rl1, ps1, k1, k2⟩ := bind_go hg
      split at k2
      · rename_i b' l' heq
        simp only [Prod.mk.injEq] at heq
        obtain ⟨rfl, rfl⟩ := heq
        simp only [M.go, MR.ok.injEq, Prod.mk.injEq] at k2
        obtain ⟨⟨rfl, rfl⟩, rfl, rfl⟩ := k2
        simp only [repV] at hr ⊢
        have := lendAs_ok (us := [u]) h hG k1 hp (by simp only [repAs]; exact ⟨u, [], rfl, hr, rfl⟩) hl
        simp only [repAs] at this
        obtain ⟨_, _, e, h1, rfl⟩ := this
        simp only [List.cons.injEq, and_true] at e
        subst e
        exact h1
      · simp [M.go] at k2
    · simp [M.go] at hg
  · split at hg
    · obtain ⟨⟨bs, l⟩, rl1, ps1, k1, k2⟩ := bind_go hg
      simp only [M.go, MR.ok.injEq, Prod.mk.injEq] at k2
      obtain ⟨⟨rfl, rfl⟩, rfl, rfl⟩ := k2
      simp only [repV] at hr ⊢
      obtain ⟨us, h1, h2⟩ := hr
      exact ⟨us, h1, lendAs_ok h hG k1 hp h2 hl⟩
    · simp [M.go] at hg
  · simp [M.go] at hg
theorem lendVs_ok (h : HR μ G sto w) {G' : Nat → Prop} (hG : ∀ b, G b → G' b) : ∀ {vs ws : List V} {ms : List Bool} {ts : List TypeId} {ls : List L} {rl rl' : List L} {ps ps' : List Prop} {us : List Value}, (lendVs tab ms ts vs).go sto rl ps = .ok (ws, ls) rl' ps' → (∀ p ∈ ps', p) → repVs μ w G vs us →
    (∀ l ∈ ls, ∀ c B, lkC l sto = some c → μ l = some B → B.virt = false → G' B.b) → repVs μ w G' ws us
  | [], ws, ms, ts, ls, rl, rl', ps, ps', us, hg, _, hr, _ => by
    simp only [lendVs, M.go, MR.ok.injEq, Prod.mk.injEq] at hg
    obtain ⟨⟨rfl, rfl⟩, _, _⟩ := hg
    simpa only [repVs] using hr
  | v :: vs, ws, ms, [], ls, rl, rl', ps, ps', us, hg, _, hr, _ => by
    cases ms with
    | nil => simp [lendVs, M.go] at hg
    | cons m ms => cases m <;> simp [lendVs, M.go] at hg
  | v :: vs, ws, ms, t :: ts, ls, rl, rl', ps, ps', us, hg, hp, hr, hl => by
    simp only [repVs] at hr
    obtain ⟨u, us', rfl, h1, h2⟩ := hr
    have key : ∀ {ms : List Bool}, ((lendV tab t v).bind fun (w, l) => (lendVs tab ms ts vs).bind fun (ws, ls) => .ret (w :: ws, l ++ ls)).go sto rl ps = .ok (ws, ls) rl' ps' → repVs μ w G' ws (u :: us') := by
      intro ms hg
      obtain ⟨⟨b, l⟩, rl1, ps1, k1, k2⟩ := bind_go hg
      obtain ⟨⟨bs', ls'⟩, rl2, ps2, k3, k4⟩ := bind_go k2
      simp only [M.go, MR.ok.injEq, Prod.mk.injEq] at k4
      obtain ⟨⟨rfl, rfl⟩, rfl, rfl⟩ := k4
      simp only [repVs]
      exact ⟨u, us', rfl, lendV_ok h hG k1 (fun p hm => hp p ((go_ok k3).2 p hm)) h1 (fun l hm => hl l (List.mem_append_left _ hm)), lendVs_ok h hG k3 hp h2 (fun l hm => hl l (List.mem_append_right _ hm))⟩
    cases ms with
    | nil => exact key hg
    | cons m ms =>
      cases m with
      | false => exact key hg
      | true =>
        simp only [lendVs] at hg
        obtain ⟨⟨bs', ls'⟩, rl2, ps2, k3, k4⟩ := bind_go hg
        simp only [M.go, MR.ok.injEq, Prod.mk.injEq] at k4
        obtain ⟨⟨rfl, rfl⟩, rfl, rfl⟩ := k4
        simp only [repVs]
        exact ⟨u, us', rfl, repV_mono (fun _ _ h => h) (fun _ _ => rfl) hG _ _ h1, lendVs_ok h hG k3 hp h2 hl⟩
end Go.AM

/- A call by its contract is one step; condition: the contract. -/
namespace Go.AM
set_option linter.unusedVariables false
set_option linter.unusedSimpArgs false
open Go.RowKit
variable {P : Program} {μ : Mu} {w : World} {G : Nat → Prop} {sto : Sto} {tab : Tab}

/-- Behind a call, in its own names. -/
structure Pst (μ : Mu) (G : Nat → Prop) (sto : Sto) (w : World) (sto' : Sto) (μ' : Mu) (G' : Nat → Prop) (w' : World) : Prop where
  hr : HR μ' G' sto' w'
  kk : ∀ i, (lkL (.k i) sto).isSome = true → μ' (.k i) = μ (.k i)
  gnew : ∀ b, G' b → G b ∨ w.heap.size ≤ b ∨ Live μ sto b
  frame : ∀ b, b < w.heap.size → ¬ Live μ sto b → w'.heap[b]? = w.heap[b]?
  size : w.heap.size ≤ w'.heap.size
  os : w'.os = w.os
  tape : w'.tape = w.tape
  output : w'.output = w.output
  new : ∀ l B, μ' l = some B → μ l = some B ∨ B.virt = true ∨ w.heap.size ≤ B.b ∨ Live μ sto B.b
  liv : ∀ b, Live μ' sto' b → Live μ sto b ∨ w.heap.size ≤ b
/-- What a call comes to, of a body or of an entry. -/
def Does (P : Program) (f : FuncId) (cargs : Array Value) (w : World) (Q : Value → World → Prop) : Prop :=
  (∃ fn c, P.funcs[f]? = some fn ∧ fn.body = some c ∧ (fn.name == "runtime.NumGoroutine") = false ∧ Calls P f cargs w fun e w' => ∃ u, e = .returned u ∧ Q u w') ∨
  ∃ u w', (callFunc f cargs).run P w = .ok (.value u) w' ∧ Q u w'
theorem Does.mono {P : Program} {f : FuncId} {cargs : Array Value} {w : World} {Q Q' : Value → World → Prop} (h : Does P f cargs w Q) (k : ∀ u w', Q u w' → Q' u w') : Does P f cargs w Q' := by
  rcases h with ⟨fn, c, h1, h2, h3, h4⟩ | ⟨u, w', h1, h2⟩
  · exact .inl ⟨fn, c, h1, h2, h3, h4.mono fun e w' ⟨u, he, hq⟩ => ⟨u, he, k u w' hq⟩⟩
  · exact .inr ⟨u, w', h1, k u w' h2⟩
/-- A contract: what a call comes to. -/
def Ok (P : Program) (f : FuncId) (args : List V) (st : List (Option C)) (res : V) (st' : List (Option C)) : Prop :=
  st.length ≤ st'.length ∧
  ∀ (w : World) (μ : Mu) (G : Nat → Prop) (cargs : Array Value), HR μ G (argSto 0 st) w → repVs μ w G args cargs.toList →
    Does P f cargs w fun u w' => ∃ μ' G', repV μ' w' G' res u ∧ Pst μ G (argSto 0 st) w (argSto 0 st') μ' G' w'
mutual
theorem repA_noLst {G2 : Nat → Prop} : (a : A) → (v : Value) → a.noLst = true → repA μ w G a v → repA μ w G2 a v
  | .int _ _, v, _, hr | .bool _, v, _, hr | .str _, v, _, hr | .nil, v, _, hr | .nilp, v, _, hr | .raw _, v, _, hr | .any, v, _, hr | .nilf, v, _, hr | .own _, v, _, hr | .sub _ _ _, v, _, hr | .ptr _ _, v, _, hr | .ep _ _ _, v, _, hr => by simpa only [repA] using hr
  | .lst _ _ _, v, h, _ | .lp _ _ _, v, h, _ => by simp [A.noLst] at h
  | .fn f cs, v, h, hr => by
    simp only [A.noLst] at h
    simp only [repA] at hr ⊢
    obtain ⟨us, h1, h2⟩ := hr
    exact ⟨us, h1, repAs_noLst cs _ h h2⟩
  | .ifc t a, v, h, hr => by
    simp only [A.noLst] at h
    simp only [repA] at hr ⊢
    obtain ⟨u, h1, h2⟩ := hr
    exact ⟨u, h1, repA_noLst a _ h h2⟩
theorem repAs_noLst {G2 : Nat → Prop} : (as : List A) → (us : List Value) → A.noLstL as = true → repAs μ w G as us → repAs μ w G2 as us
  | [], us, _, hr => by simpa only [repAs] using hr
  | a :: as, us, h, hr => by
    simp only [A.noLstL] at h
    split at h
    · rename_i h1
      simp only [repAs] at hr ⊢
      obtain ⟨u, us', h3, h4, h5⟩ := hr
      exact ⟨u, us', h3, repA_noLst a _ h1 h4, repAs_noLst as _ h h5⟩
    · cases h
end
mutual
theorem repV_noLst {G2 : Nat → Prop} : (a : V) → (v : Value) → a.noLst = true → repV μ w G a v → repV μ w G2 a v
  | .one a, v, h, hr => by
    simp only [V.noLst] at h
    simp only [repV] at hr ⊢
    exact repA_noLst a v h hr
  | .agg as, v, h, hr => by
    simp only [V.noLst] at h
    simp only [repV] at hr ⊢
    obtain ⟨us, h1, h2⟩ := hr
    exact ⟨us, h1, repAs_noLst as _ h h2⟩
  | .tup vs, v, h, hr => by
    simp only [V.noLst] at h
    simp only [repV] at hr ⊢
    obtain ⟨us, h1, h2⟩ := hr
    exact ⟨us, h1, repVs_noLst vs _ h h2⟩
theorem repVs_noLst {G2 : Nat → Prop} : (as : List V) → (us : List Value) → V.noLstL as = true → repVs μ w G as us → repVs μ w G2 as us
  | [], us, _, hr => by simpa only [repVs] using hr
  | a :: as, us, h, hr => by
    simp only [V.noLstL] at h
    split at h
    · rename_i h1
      simp only [repVs] at hr ⊢
      obtain ⟨u, us', h3, h4, h5⟩ := hr
      exact ⟨u, us', h3, repV_noLst a _ h1 h4, repVs_noLst as _ h h5⟩
    · cases h
end
theorem crep_noLst {G2 : Nat → Prop} {B : Blk} {c : C} (h : c.noLst = true) (hr : crep μ w G B c) : crep μ w G2 B c := by
  cases c with
  | cells as =>
    obtain ⟨h0, us, te, h1, h2⟩ := hr
    exact ⟨h0, us, te, h1, repAs_noLst _ _ h h2⟩
  | row e xs =>
    obtain ⟨h1, h2, h3, h4, h5⟩ := hr
    refine ⟨h1, h2, h3, h4, fun hv => ?_⟩
    obtain ⟨h6, arr, te, h7, h8, h9⟩ := h5 hv
    refine ⟨h6, arr, te, h7, h8, fun i x hx => ?_⟩
    obtain ⟨us, k1, k2⟩ := h9 i x hx
    refine ⟨us, repAs_noLst _ _ ?_ k1, k2⟩
    cases e <;> first | rfl | simp [C.noLst] at h
theorem noLstS_ok : ∀ {st : List (Option C)}, noLstS st = true → ∀ (i : Nat) c, st[i]? = some (some c) → c.noLst = true
  | [], h, i, c, hi => by simp at hi
  | none :: st, h, i, c, hi => by
    cases i with
    | zero => simp at hi
    | succ i => exact noLstS_ok (st := st) h i c (by simpa using hi)
  | some d :: st, h, i, c, hi => by
    simp only [noLstS] at h
    split at h
    · rename_i h1
      cases i with
      | zero => simp only [List.getElem?_cons_zero, Option.some.injEq] at hi; subst hi; exact h1
      | succ i => exact noLstS_ok (st := st) h i c (by simpa using hi)
    · cases h
theorem freshB_ok {d : Nat} {s : Sto} : ∀ {n : Nat}, freshB d s n = true → ∀ j, j < n → lkL (.t d j) s = none
  | 0, _, j, hj => by omega
  | n + 1, h, j, hj => by
    simp only [freshB] at h
    split at h
    · rename_i h1
      by_cases e : j = n
      · subst e; exact h1
      · exact freshB_ok h j (by omega)
    · cases h
theorem backSto_ok {ids : List L} {d : Nat} : ∀ {st : List (Option C)} {k : Nat} {wr : Sto}, backSto ids d k st = some wr →
    (∀ l oc, lkL l wr = some oc → ∃ n, k ≤ n ∧ n < k + st.length ∧ backId ids d (.k n) = some l ∧ (match st[n - k]? with | some (some c) => ∃ c', c.ren (backId ids d) = some c' ∧ oc = some c' | _ => oc = none)) ∧
    (∀ n l, k ≤ n → n < k + st.length → backId ids d (.k n) = some l → (lkL l wr).isSome = true)
  | [], k, wr, h => by
    simp only [backSto, Option.some.injEq] at h
    subst h
    exact ⟨fun l oc hl => by simp [lkL] at hl, fun n l h1 h2 => by simp at h2; omega⟩
  | c :: st, k, wr, h => by
    simp only [backSto] at h
    split at h
    · rename_i s l h1 h2
      obtain ⟨i1, i2⟩ := backSto_ok h1
      have fin : ∀ {oc : Option C}, wr = (l, oc) :: s → (match c with | some c => ∃ c', c.ren (backId ids d) = some c' ∧ oc = some c' | none => oc = none) →
          (∀ l oc, lkL l wr = some oc → ∃ n, k ≤ n ∧ n < k + (c :: st).length ∧ backId ids d (.k n) = some l ∧ (match (c :: st)[n - k]? with | some (some c) => ∃ c', c.ren (backId ids d) = some c' ∧ oc = some c' | _ => oc = none)) ∧
          (∀ n l, k ≤ n → n < k + (c :: st).length → backId ids d (.k n) = some l → (lkL l wr).isSome = true) := by
        rintro oc rfl hoc
        refine ⟨fun l' oc' hl => ?_, fun n l' h3 h4 h5 => ?_⟩
        · rw [lkL_cons] at hl
          split at hl
          · rename_i e
            subst e
            obtain rfl := Option.some.inj hl
            refine ⟨k, Nat.le_refl _, by simp, h2, ?_⟩
            rw [Nat.sub_self, List.getElem?_cons_zero]
            cases c <;> exact hoc
          · obtain ⟨n, h3, h4, h5, h6⟩ := i1 l' oc' hl
            refine ⟨n, by omega, by simp; omega, h5, ?_⟩
            rw [show n - k = (n - (k + 1)) + 1 by omega, List.getElem?_cons_succ]
            exact h6
        · rw [lkL_cons]
          split
          · rfl
          · by_cases e : n = k
            · subst e
              rw [h2] at h5
              rename_i hne
              exact absurd (Option.some.inj h5).symm hne
            · exact i2 n l' (by omega) (by simp at h4; omega) h5
      cases c with
      | none =>
        simp only [Option.some.injEq] at h
        exact fin h.symm rfl
      | some c =>
        simp only at h
        split at h
        · rename_i d' hd
          exact fin (Option.some.inj h).symm ⟨d', hd, rfl⟩
        · cases h
    · cases h
theorem backId_ok {ids : List L} {d n : Nat} {l : L} (h : backId ids d (.k n) = some l) : (n < ids.length ∧ ids[n]? = some l) ∨ (ids.length ≤ n ∧ l = .t d (n - ids.length)) := by
  simp only [backId] at h
  rw [nth_eq] at h
  split at h
  · rename_i m hm
    obtain rfl := Option.some.inj h
    exact .inl ⟨(List.getElem?_eq_some_iff.1 hm).1, hm⟩
  · rename_i hm
    obtain rfl := Option.some.inj h
    exact .inr ⟨List.getElem?_eq_none_iff.mp hm, rfl⟩
theorem backId_lt {ids : List L} {d n : Nat} {l : L} (h : ids[n]? = some l) : backId ids d (.k n) = some l := by
  simp only [backId]
  rw [nth_eq, h]
theorem backId_ge {ids : List L} {d j : Nat} : backId ids d (.k (ids.length + j)) = some (.t d j) := by
  simp only [backId]
  rw [nth_eq, List.getElem?_eq_none (by omega)]
  simp
theorem call_ok {f : FuncId} {xs : List V} {st st' : List (Option C)} {res v : V} (hok : Ok P f xs st res st') (h : HR μ G sto w) {ms : List Bool} {ts : List TypeId} {vs ws : List V} {caps : List A} {lent rl ids : List L} {d : Nat} {wr : Sto} {us1 us2 : List Value} {cargs : Array Value}
    (hlend : (lendVs tab ms ts vs).go sto [] [] = .ok (ws, lent) rl []) (hren : V.renL (toK ids) (ws ++ caps.map .one) = some xs) (hpack : packSto sto (toK ids) ids = some st) (hnd : nodupL ids = true)
    (hres : res.ren (backId ids d) = some v) (hback : backSto ids d 0 st' = some wr) (hfr : freshB d sto (st'.length - ids.length) = true) (hnl : lent = [] ∨ (res.noLst = true ∧ noLstS st' = true ∧ disj ids lent = true))
    (hvs : repVs μ w G vs us1) (hcs : repAs μ w G caps us2) (hargs : cargs.toList = us1 ++ us2) :
    Does P f cargs w fun u w' => ∃ μ' G', repV μ' w' G' v u ∧ Chg μ G sto w wr μ' G' w' := by
  obtain ⟨hlen, hcall⟩ := hok
  obtain ⟨hpl, hpk⟩ := packSto_ok hpack
  let ls : Sto := lent.map fun l => (l, none)
  have hlsk : ∀ l, (lkL l ls).isSome = true ↔ l ∈ lent := by
    intro l
    show (lkL l (lent.map fun l => (l, none))).isSome = true ↔ l ∈ lent
    clear hlend hnl
    induction lent with
    | nil => simp [lkL]
    | cons x lent ih =>
      rw [List.map_cons, lkL_cons]
      by_cases e : l = x
      · simp [e]
      · simp [e, ih]
  let Gc := Frz μ G sto ls
  have hGc : ∀ b, G b → Gc b := fun _ h => .inl h
  have hGcG : lent = [] → ∀ b, Gc b → G b := by
    rintro rfl b (hb | ⟨l, c, B, h1, _⟩)
    · exact hb
    · simp [ls, lkL] at h1
  let μc : Mu := fun l => match l with | .k i => (ids[i]?).bind μ | .t _ _ => none
  have hcf : ∀ l m, toK ids l = some m → ∀ B, μ l = some B → μc m = some B := by
    intro l m hm B hB
    obtain ⟨i, rfl, hi⟩ := toK_ok hm
    show (ids[i]?).bind μ = some B
    rw [hi]
    exact hB
  -- what is handed over
  have hst : ∀ i c', lkC (.k i) (argSto 0 st) = some c' → ∃ (l : L) (c : C), ids[i]? = some l ∧ lkC l sto = some c ∧ c.ren (toK ids) = some c' := by
    intro i c' hc
    rw [lkC_some, argSto_lk] at hc
    simp only [Nat.zero_le, if_true, Nat.sub_zero] at hc
    have hi : i < ids.length := by have := (List.getElem?_eq_some_iff.1 hc).1; omega
    obtain ⟨oc, k1, k2⟩ := hpk i _ (List.getElem?_eq_getElem hi)
    rw [hc] at k1
    obtain rfl := Option.some.inj k1
    refine ⟨ids[i], ?_⟩
    split at k2
    · cases k2
    · rename_i c hcs
      obtain ⟨d', k3, k4⟩ := k2
      obtain rfl := Option.some.inj k4
      exact ⟨c, List.getElem?_eq_getElem hi, hcs, k3⟩
  have hkt : ∀ l c', lkC l (argSto 0 st) = some c' → ∃ i, l = .k i := by
    intro l c' hc
    cases l with
    | k i => exact ⟨i, rfl⟩
    | t d j => rw [lkC_some, argSto_lk] at hc; cases hc
  have hlivec : ∀ b, Live μc (argSto 0 st) b → ∃ (i : Nat) (l : L) (c : C) (B : Blk), ids[i]? = some l ∧ lkC l sto = some c ∧ μ l = some B ∧ B.virt = false ∧ B.b = b := by
    rintro b ⟨l, c', B, h1, h2, h3, h4⟩
    obtain ⟨i, rfl⟩ := hkt l c' h1
    obtain ⟨l, c, k1, k2, k3⟩ := hst i c' h1
    refine ⟨i, l, c, B, k1, k2, ?_, h3, h4⟩
    have : (ids[i]?).bind μ = some B := h2
    rwa [k1] at this
  have hliveμ : ∀ b, Live μc (argSto 0 st) b → Live μ sto b := by
    intro b hb
    obtain ⟨i, l, c, B, k1, k2, k3, k4, k5⟩ := hlivec b hb
    exact ⟨l, c, B, k2, k3, k4, k5⟩
  have hnotGc : ∀ b, Live μc (argSto 0 st) b → ¬ Gc b := by
    intro b hb hg
    obtain ⟨i, l, c, B, k1, k2, k3, k4, rfl⟩ := hlivec b hb
    rcases hg with hg | ⟨l', c', B', m1, m2, m3, m4, m5⟩
    · exact ((h.get k2 k3).2 k4).2 hg
    · have hl' : l' ∈ lent := (hlsk l').mp m1
      rcases hnl with rfl | ⟨_, _, hd⟩
      · cases hl'
      · have hne : l ≠ l' := by
          rintro rfl
          exact disj_ok hd l hl' (List.mem_of_getElem? k1)
        exact h.apart l l' c c' B B' k2 m2 k3 m3 k4 m4 hne m5.symm
  have hrc : HR μc Gc (argSto 0 st) w := by
    refine ⟨fun l c' hc => ?_, fun l B hB => ?_, fun l l' c c' B B' hc hc' hB hB' hv hv' hne => ?_, fun b hb => ?_, h.tab.mono (fun _ _ => rfl) hGc⟩
    · obtain ⟨i, rfl⟩ := hkt l c' hc
      obtain ⟨l0, c, k1, k2, k3⟩ := hst i c' hc
      obtain ⟨B, e1, e2, e3⟩ := h.live l0 c k2
      have hB : μc (.k i) = some B := by show (ids[i]?).bind μ = some B; rw [k1]; exact e1
      refine ⟨B, hB, crep_ren hcf k3 (crep_mono (fun _ _ h => h) (fun _ _ => rfl) hGc (fun _ => rfl) e2), fun hv => ⟨(e3 hv).1, hnotGc _ ⟨.k i, c', B, hc, hB, hv, rfl⟩⟩⟩
    · cases l with
      | t d j => cases hB
      | k i =>
        have hB' : (ids[i]?).bind μ = some B := hB
        obtain ⟨l0, k1, _⟩ := Option.bind_eq_some_iff.mp hB'
        rw [argSto_lk]
        simp only [Nat.zero_le, if_true, Nat.sub_zero]
        rw [List.getElem?_eq_getElem (by have := (List.getElem?_eq_some_iff.1 k1).1; omega)]
        rfl
    · obtain ⟨i, rfl⟩ := hkt l c hc
      obtain ⟨j, rfl⟩ := hkt l' c' hc'
      obtain ⟨l0, c0, k1, k2, k3⟩ := hst i c hc
      obtain ⟨l1, c1, m1, m2, m3⟩ := hst j c' hc'
      have e1 : μ l0 = some B := by have : (ids[i]?).bind μ = some B := hB; rwa [k1] at this
      have e2 : μ l1 = some B' := by have : (ids[j]?).bind μ = some B' := hB'; rwa [m1] at this
      refine h.apart l0 l1 c0 c1 B B' k2 m2 e1 e2 hv hv' fun e => hne ?_
      subst e
      rw [nodupL_ok hnd i j l0 k1 m1]
    · rcases hb with hb | ⟨l, c, B, _, m2, m3, m4, rfl⟩
      · exact h.good b hb
      · exact ((h.get m2 m3).2 m4).1
  have hrep : repVs μc w Gc xs cargs.toList := by
    rw [hargs]
    refine repVs_ren hcf _ _ _ hren ?_
    rw [repVs_iff]
    refine All2.append ((repVs_iff _ _).mp (lendVs_ok h hGc hlend (fun p hp => by cases hp) hvs fun l hl c B m2 m3 m4 => .inr ⟨l, c, B, (hlsk l).mpr hl, m2, m3, m4, rfl⟩)) ?_
    have := (repAs_iff _ _).mp (repAs_mono (fun _ _ h => h) (fun _ _ => rfl) hGc _ _ hcs)
    clear hcs hargs hren
    induction this with
    | nil => exact .nil
    | cons h1 _ ih => exact .cons (by simpa only [repV] using h1) ih
  refine (hcall w μc Gc cargs hrc hrep).mono ?_
  rintro u w' ⟨μ', G', hrv, hp⟩
  obtain ⟨hb1, hb2⟩ := backSto_ok hback
  have hfrs := freshB_ok hfr
  have hfmu : ∀ j, j < st'.length - ids.length → μ (.t d j) = none := fun j hj => fresh_mu h (hfrs j hj)
  let μn : Mu := fun l => match l with
    | .k i => μ (.k i)
    | .t d' j => if d' = d ∧ j < st'.length - ids.length then μ' (.k (ids.length + j)) else μ (.t d' j)
  have hμn : ∀ l B, μ l = some B → μn l = some B := by
    intro l B hB
    cases l with
    | k i => exact hB
    | t d' j =>
      show (if d' = d ∧ j < st'.length - ids.length then μ' (.k (ids.length + j)) else μ (.t d' j)) = some B
      rw [if_neg]
      · exact hB
      · rintro ⟨rfl, hj⟩
        rw [hfmu j hj] at hB
        cases hB
  have hkn : ∀ n B, μ' (.k n) = some B → n < st'.length := by
    intro n B hB
    have := hp.hr.known _ _ hB
    rw [argSto_lk] at this
    simp only [Nat.zero_le, if_true, Nat.sub_zero] at this
    obtain ⟨oc, ho⟩ := Option.isSome_iff_exists.mp this
    exact (List.getElem?_eq_some_iff.1 ho).1
  have hstay : ∀ n l, ids[n]? = some l → μ' (.k n) = μ l := by
    intro n l hn
    have hlt := (List.getElem?_eq_some_iff.1 hn).1
    rw [hp.kk n]
    · show (ids[n]?).bind μ = μ l
      rw [hn]
      rfl
    · rw [argSto_lk]
      simp only [Nat.zero_le, if_true, Nat.sub_zero]
      rw [List.getElem?_eq_getElem (by omega)]
      rfl
  have hkey : ∀ m l, backId ids d m = some l → ∀ B, μ' m = some B → μn l = some B := by
    intro m l hm B hB
    cases m with
    | t d' j => simp [backId] at hm
    | k n =>
      rcases backId_ok hm with ⟨_, hn⟩ | ⟨hn, rfl⟩
      · rw [hstay n l hn] at hB
        exact hμn l B hB
      · have := hkn n B hB
        show (if d = d ∧ n - ids.length < st'.length - ids.length then μ' (.k (ids.length + (n - ids.length))) else μ (.t d (n - ids.length))) = some B
        rw [if_pos ⟨rfl, by omega⟩, show ids.length + (n - ids.length) = n by omega]
        exact hB
  let Gn : Nat → Prop := fun b => G b ∨ (lent = [] ∧ G' b)
  have hkeep : Keep G w w' := by
    intro b hb
    refine hp.frame b (h.good b hb) fun hl => ?_
    exact hnotGc b hl (hGc b hb)
  have hwn : ∀ l, lkL l wr = none → ∀ b, (∃ c B, lkC l sto = some c ∧ μ l = some B ∧ B.virt = false ∧ B.b = b) → ¬ Live μc (argSto 0 st) b := by
    rintro l hl b ⟨c, B, e1, e2, e3, rfl⟩ hlv
    obtain ⟨i, l0, c0, B0, k1, k2, k3, k4, k5⟩ := hlivec _ hlv
    have : l = l0 := Classical.byContradiction fun hne => h.apart l l0 c c0 B B0 e1 k2 e2 k3 e3 k4 hne k5.symm
    subst this
    have hlt := (List.getElem?_eq_some_iff.1 k1).1
    have := hb2 i l (Nat.zero_le _) (by omega) (backId_lt k1)
    rw [hl] at this
    cases this
  have hμnl : ∀ l, lkL l wr = none → μn l = μ l := by
    intro l hl
    cases l with
    | k i => rfl
    | t d' j =>
      show (if d' = d ∧ j < st'.length - ids.length then μ' (.k (ids.length + j)) else μ (.t d' j)) = μ (.t d' j)
      rw [if_neg]
      rintro ⟨rfl, hj⟩
      have := hb2 (ids.length + j) (.t d' j) (Nat.zero_le _) (by omega) backId_ge
      rw [hl] at this
      cases this
  have hlk : ∀ l c, lkC l (wr ++ sto) = some c → (∃ n c0, n < st'.length ∧ backId ids d (.k n) = some l ∧ st'[n]? = some (some c0) ∧ c0.ren (backId ids d) = some c) ∨ (lkL l wr = none ∧ lkC l sto = some c) := by
    intro l c hc
    rw [lkC_some, lkL_app] at hc
    cases e : lkL l wr with
    | none => rw [e] at hc; exact .inr ⟨rfl, lkC_some.mpr hc⟩
    | some oc =>
      rw [e] at hc
      obtain rfl := Option.some.inj hc
      obtain ⟨n, k1, k2, k3, k4⟩ := hb1 l _ e
      rw [Nat.sub_zero] at k4
      split at k4
      · rename_i c0 hc0
        obtain ⟨c', k5, k6⟩ := k4
        obtain rfl := Option.some.inj k6
        exact .inl ⟨n, c0, by omega, k3, hc0, k5⟩
      · cases k4
  have hlkc : ∀ n c0, st'[n]? = some (some c0) → lkC (.k n) (argSto 0 st') = some c0 := by
    intro n c0 hn
    rw [lkC_some, argSto_lk]
    simpa using hn
  have hblk : ∀ n c0 B, st'[n]? = some (some c0) → μ' (.k n) = some B → B.virt = false → (Live μc (argSto 0 st) B.b ∨ w.heap.size ≤ B.b) ∧ ¬ G' B.b ∧ B.b < w'.heap.size := by
    intro n c0 B hn hB hv
    have h1 := hp.liv B.b ⟨.k n, c0, B, hlkc n c0 hn, hB, hv, rfl⟩
    obtain ⟨h2, h3⟩ := (hp.hr.get (hlkc n c0 hn) hB).2 hv
    exact ⟨h1, h3, h2⟩
  have hGnew : lent = [] → ∀ b, G' b → G b ∨ w.heap.size ≤ b ∨ Live μc (argSto 0 st) b := by
    intro hl b hb
    rcases hp.gnew b hb with h1 | h1 | h1
    · exact .inl (hGcG hl b h1)
    · exact .inr (.inl h1)
    · exact .inr (.inr h1)
  refine ⟨μn, Gn, ?_, ⟨⟨fun l c hc => ?_, fun l B hB => ?_, fun l l' c c' B B' hc hc' hB hB' hv hv' hne => ?_, fun b hb => ?_, h.tab.mono hkeep fun b hb => .inl hb⟩, hμn, hkeep, fun b hb => .inl hb, fun b hb => ?_, fun b hb hn => hp.frame b hb fun hl => hn (hliveμ b hl), hp.size, hp.os, hp.tape, hp.output, fun l B hB => ?_, fun b hb => ?_, fun i => rfl⟩⟩
  · rcases hnl with hl | ⟨hn1, _, _⟩
    · exact repV_mono (fun _ _ h => h) (fun _ _ => rfl) (fun b hb => .inr ⟨hl, hb⟩) _ _ (repV_ren hkey _ _ _ hres hrv)
    · exact repV_ren hkey _ _ _ hres (repV_noLst _ _ hn1 hrv)
  · rcases hlk l c hc with ⟨n, c0, k1, k2, k3, k4⟩ | ⟨k1, k2⟩
    · obtain ⟨B, e1, e2, e3⟩ := hp.hr.live _ _ (hlkc n c0 k3)
      refine ⟨B, hkey _ _ k2 B e1, ?_, fun hv => ?_⟩
      · rcases hnl with hl | ⟨_, hn2, _⟩
        · exact crep_mono (fun _ _ h => h) (fun _ _ => rfl) (fun b hb => .inr ⟨hl, hb⟩) (fun _ => rfl) (crep_ren hkey k4 e2)
        · exact crep_ren hkey k4 (crep_noLst (noLstS_ok hn2 n c0 k3) e2)
      · obtain ⟨f1, f2, f3⟩ := hblk n c0 B k3 e1 hv
        refine ⟨f3, ?_⟩
        rintro (hg | ⟨_, hg⟩)
        · rcases f1 with f1 | f1
          · exact hnotGc _ f1 (hGc _ hg)
          · have := h.good _ hg; omega
        · exact f2 hg
    · obtain ⟨B, e1, e2, e3⟩ := h.live l c k2
      have hnlv : B.virt = false → ¬ Live μc (argSto 0 st) B.b := fun hv => hwn l k1 _ ⟨c, B, k2, e1, hv, rfl⟩
      refine ⟨B, hμn l B e1, crep_mono hμn hkeep (fun b hb => .inl hb) (fun hv => hp.frame _ (e3 hv).1 (hnlv hv)) e2, fun hv => ⟨?_, ?_⟩⟩
      · have := (e3 hv).1; have := hp.size; omega
      · rintro (hg | ⟨hl, hg⟩)
        · exact (e3 hv).2 hg
        · rcases hGnew hl _ hg with h1 | h1 | h1
          · exact (e3 hv).2 h1
          · have := (e3 hv).1; omega
          · exact hnlv hv h1
  · rw [lkL_app]
    cases e : lkL l wr with
    | some oc => rfl
    | none =>
      rw [hμnl l e] at hB
      exact h.known l B hB
  · have hold : ∀ n l c0 B l' c' B', backId ids d (.k n) = some l → st'[n]? = some (some c0) → μ' (.k n) = some B → B.virt = false → lkL l' wr = none → lkC l' sto = some c' → μ l' = some B' → B'.virt = false → B.b ≠ B'.b := by
      intro n l c0 B l' c' B' k2 k3 e1 hv m1 m2 e2 hv' he
      obtain ⟨f1, f2, f3⟩ := hblk n c0 B k3 e1 hv
      rcases f1 with f1 | f1
      · exact hwn l' m1 _ ⟨c', B', m2, e2, hv', rfl⟩ (he ▸ f1)
      · have := ((h.get m2 e2).2 hv').1
        omega
    have hB1 : ∀ (l : L) (B : Blk) (n : Nat) (c0 : C), μn l = some B → n < st'.length → backId ids d (.k n) = some l → st'[n]? = some (some c0) → μ' (.k n) = some B := by
      intro l B n c0 hB hn k2 k3
      obtain ⟨B0, e1, _⟩ := hp.hr.live _ _ (hlkc n c0 k3)
      have := hkey _ _ k2 B0 e1
      rw [hB] at this
      rw [e1, ← Option.some.inj this]
    rcases hlk l c hc with ⟨n, c0, k1, k2, k3, k4⟩ | ⟨k1, k2⟩ <;> rcases hlk l' c' hc' with ⟨n', c0', m1, m2, m3, m4⟩ | ⟨m1, m2⟩
    · refine hp.hr.apart (.k n) (.k n') c0 c0' B B' (hlkc n c0 k3) (hlkc n' c0' m3) (hB1 l B n c0 hB k1 k2 k3) (hB1 l' B' n' c0' hB' m1 m2 m3) hv hv' fun e => hne ?_
      simp only [L.k.injEq] at e
      subst e
      rw [k2] at m2
      exact Option.some.inj m2
    · exact hold n l c0 B l' c' B' k2 k3 (hB1 l B n c0 hB k1 k2 k3) hv m1 m2 (by rw [← hμnl l' m1]; exact hB') hv'
    · exact (hold n' l' c0' B' l c B m2 m3 (hB1 l' B' n' c0' hB' m1 m2 m3) hv' k1 k2 (by rw [← hμnl l k1]; exact hB) hv).symm
    · exact h.apart l l' c c' B B' k2 m2 (by rw [← hμnl l k1]; exact hB) (by rw [← hμnl l' m1]; exact hB') hv hv' hne
  · rcases hb with hb | ⟨_, hb⟩
    · have := h.good b hb; have := hp.size; omega
    · exact hp.hr.good b hb
  · rcases hb with hb | ⟨hl, hb⟩
    · exact .inl hb
    · rcases hGnew hl b hb with h1 | h1 | h1
      · exact .inl h1
      · exact .inr (.inl h1)
      · exact .inr (.inr (hliveμ b h1))
  · cases l with
    | k i => exact .inl hB
    | t d' j =>
      have hB' : (if d' = d ∧ j < st'.length - ids.length then μ' (.k (ids.length + j)) else μ (.t d' j)) = some B := hB
      split at hB'
      · rcases hp.new _ _ hB' with h1 | h1 | h1 | h1
        · have : (ids[ids.length + j]?).bind μ = some B := h1
          rw [List.getElem?_eq_none (by omega)] at this
          cases this
        · exact .inr (.inl h1)
        · exact .inr (.inr (.inl h1))
        · exact .inr (.inr (.inr (hliveμ _ h1)))
      · exact .inl hB'
  · obtain ⟨l, c, B, h1, h2, h3, rfl⟩ := hb
    rcases hlk l c h1 with ⟨n, c0, k1, k2, k3, k4⟩ | ⟨k1, k2⟩
    · obtain ⟨B0, e1, _⟩ := hp.hr.live _ _ (hlkc n c0 k3)
      have := hkey _ _ k2 B0 e1
      rw [h2] at this
      obtain rfl := Option.some.inj this
      rcases (hblk n c0 B k3 e1 h3).1 with f | f
      · exact .inl (hliveμ _ f)
      · exact .inr f
    · exact .inl ⟨l, c, B, k2, by rw [← hμnl l k1]; exact h2, h3, rfl⟩
/-! ### A call that may hold on to what was lent -/
theorem nones_none : ∀ (ls : List L), AllNone (nones ls)
  | [], l, c, h => by simp [nones, lkL] at h
  | x :: ls, l, c, h => by
    simp only [nones] at h
    rw [lkL_cons] at h
    split at h
    · exact (Option.some.inj h).symm
    · exact nones_none ls l c h
theorem nones_lk : ∀ (ls : List L) (l : L), (lkL l (nones ls)).isSome = true ↔ l ∈ ls
  | [], l => by simp [nones, lkL]
  | x :: ls, l => by
    simp only [nones]
    rw [lkL_cons]
    by_cases e : l = x
    · simp [e]
    · rw [if_neg e, nones_lk ls l]
      simp [e]
theorem lend_all : ∀ (ws : List V), lendVs tab (ws.map fun _ => true) (ws.map fun _ => 0) ws = .ret (ws, [])
  | [] => rfl
  | w :: ws => by
    simp only [List.map_cons, lendVs]
    rw [lend_all ws]
    rfl
theorem call_okF {f : FuncId} {xs : List V} {st st' : List (Option C)} {res v : V} (hok : Ok P f xs st res st') (h : HR μ G sto w) {ms : List Bool} {ts : List TypeId} {vs ws : List V} {caps : List A} {lent rl ids : List L} {d : Nat} {wr : Sto} {us1 us2 : List Value} {cargs : Array Value}
    (hlend : (lendVs tab ms ts vs).go sto [] [] = .ok (ws, lent) rl []) (hren : V.renL (toK ids) (ws ++ caps.map .one) = some xs) (hpack : packSto sto (toK ids) ids = some st) (hnd : nodupL ids = true)
    (hres : res.ren (backId ids d) = some v) (hback : backSto ids d 0 st' = some wr) (hfr : freshB d (nones lent ++ sto) (st'.length - ids.length) = true) (hdj : disj ids lent = true)
    (hvs : repVs μ w G vs us1) (hcs : repAs μ w G caps us2) (hargs : cargs.toList = us1 ++ us2) :
    Does P f cargs w fun u w' => ∃ μ' G', repV μ' w' G' v u ∧ Chg μ G sto w (wr ++ nones lent) μ' G' w' := by
  have hn := nones_none lent
  have h2 := h.frz hn
  have hGc : ∀ b, G b → Frz μ G sto (nones lent) b := fun _ h => .inl h
  have hws : repVs μ w (Frz μ G sto (nones lent)) ws us1 :=
    lendVs_ok h hGc hlend (fun p hp => by cases hp) hvs fun l hl c B m2 m3 m4 => .inr ⟨l, c, B, (nones_lk lent l).mpr hl, m2, m3, m4, rfl⟩
  have hlk : ∀ l ∈ ids, lkC l (nones lent ++ sto) = lkC l sto := by
    intro l hl
    have : lkL l (nones lent) = none := by
      cases e : lkL l (nones lent) with
      | none => rfl
      | some x => exact absurd hl (disj_ok hdj l ((nones_lk lent l).mp (by rw [e]; rfl)))
    unfold lkC
    rw [lkL_app, this]
  have hp2 : packSto (nones lent ++ sto) (toK ids) ids = some st := by rw [packSto_agree hlk]; exact hpack
  have hl2 : (lendVs tab (ws.map fun _ => true) (ws.map fun _ => 0) ws).go (nones lent ++ sto) [] [] = .ok (ws, []) [] [] := by rw [lend_all]; rfl
  refine (call_ok hok h2 hl2 hren hp2 hnd hres hback hfr (.inl rfl) hws (repAs_mono (fun _ _ h => h) (fun _ _ => rfl) hGc _ _ hcs) hargs).mono ?_
  rintro u w' ⟨μ', G', k1, k2⟩
  exact ⟨μ', G', k1, Chg.frz hn h k2⟩
end Go.AM

/- A run of the machine is a run of the program; condition: contracts of the calls, the region checks. -/
namespace Go.AM
set_option linter.unusedVariables false
set_option linter.unusedSimpArgs false
open Go.RowKit
variable {P : Program} {sto : Sto}

theorem dstB_ok {n : Nat} : ∀ {os : List Oper}, dstB n os = true → ∀ o ∈ os, ∀ d, o.dst = some d → d < n
  | [], _, o, ho, _, _ => by cases ho
  | x :: os, h, o, ho, d, hd => by
    simp only [dstB, Bool.and_eq_true] at h
    rcases List.mem_cons.mp ho with rfl | ho
    · rw [hd] at h
      simpa [Nat.blt_eq] using h.1
    · exact dstB_ok h.2 o ho d hd
theorem sub1_dsts {n : Nat} {c d : Code} {i : Nat} (h : dstsB n c = true) (hs : sub1 c i = some d) : dstsB n d = true := by
  cases c <;> simp only [sub1] at hs <;> simp only [dstsB, Bool.and_eq_true] at h
  all_goals first
    | (cases hs; done)
    | (obtain rfl := Option.some.inj hs; exact h)
    | (split at hs <;> (obtain rfl := Option.some.inj hs) <;> first | exact h.1 | exact h.2)
theorem codeAt_dsts {n : Nat} {c : Code} (h : dstsB n c = true) : ∀ {p : List Nat} {d : Code}, codeAt c p = some d → dstsB n d = true
  | [], d, hd => by simp only [codeAt, Option.some.injEq] at hd; subst hd; exact h
  | i :: p, d, hd => by
    rw [codeAt_cons] at hd
    split at hd
    · rename_i e he
      exact sub1_dsts (codeAt_dsts h he) hd
    · cases hd
/-! ### The check -/
theorem memN_ok {d : Nat} : ∀ {xs : List Nat}, memN d xs = false → d ∉ xs
  | [], _ => by simp
  | x :: xs, h => by
    simp only [memN] at h
    split at h
    · cases h
    · rename_i hb
      intro hm
      rcases List.mem_cons.mp hm with rfl | hm
      · simp at hb
      · exact memN_ok h hm
theorem memL_ok {d : L} : ∀ {xs : List L}, memL d xs = false → d ∉ xs
  | [], _ => by simp
  | x :: xs, h => by
    simp only [memL] at h
    split at h
    · cases h
    · rename_i hb
      intro hm
      rcases List.mem_cons.mp hm with rfl | hm
      · rw [(L.beq_iff d d).mpr rfl] at hb; cases hb
      · exact memL_ok h hm
theorem meetL_ok : ∀ {xs ys : List L}, meetL xs ys = false → ∀ l ∈ xs, l ∉ ys
  | [], ys, _, l, hl => by cases hl
  | x :: xs, ys, h, l, hl => by
    simp only [meetL] at h
    split at h
    · cases h
    · rename_i hb
      rcases List.mem_cons.mp hl with rfl | hl
      · exact memL_ok hb
      · exact meetL_ok h l hl
theorem befB_ok {ops : Array Oper} : ∀ {n i k : Nat}, befB ops.toList n i k = true → Bef ops i k
  | 0, i, k, h => by simp [befB] at h
  | n + 1, i, k, h => by
    simp only [befB] at h
    split at h
    · rename_i o ho
      rw [nth_eq] at ho
      have ho' : ops[k]? = some o := by simpa using ho
      rw [List.any_eq_true] at h
      obtain ⟨e, he, h⟩ := h
      simp only [Bool.and_eq_true, Bool.or_eq_true] at h
      obtain ⟨h1, h2⟩ := h
      have hd : Direct ops e.on k := ⟨o, ho', e, by simpa using he, h1, rfl⟩
      rcases h2 with h2 | h2
      · rw [← Nat.eq_of_beq_eq_true h2]
        exact .one hd
      · exact .more (befB_ok h2) hd
    · cases h
theorem edgesB_ok : ∀ {os : List Oper} {i : Nat}, edgesB i os = true → ∀ (k : Nat) o, os[k]? = some o → ∀ e ∈ o.after, Region.binds .any e = true → e.on < i + k
  | [], i, _, k, o, h, _, _, _ => by simp at h
  | x :: os, i, h, k, o, ho, e, he, hb => by
    simp only [edgesB, Bool.and_eq_true] at h
    cases k with
    | zero =>
      simp only [List.getElem?_cons_zero, Option.some.injEq] at ho
      subst ho
      have := List.all_eq_true.mp h.1 e (by simpa using he)
      rw [hb] at this
      simpa [Nat.blt_eq] using this
    | succ k =>
      have := edgesB_ok h.2 k o (by simpa using ho) e he hb
      omega
theorem pairB_ok {ops : List Oper} {ki : Ky} {i : Nat} : ∀ {ks : List Ky} {k : Nat}, pairB ops ki i k ks = true → ∀ (j : Nat) kj, ks[j]? = some kj → apartB ki kj = true ∨ befB ops 60 i (k + j) = true
  | [], k, _, j, kj, h => by simp at h
  | x :: ks, k, h, j, kj, hj => by
    simp only [pairB, Bool.and_eq_true, Bool.or_eq_true] at h
    cases j with
    | zero => simp only [List.getElem?_cons_zero, Option.some.injEq] at hj; subst hj; exact h.1
    | succ j =>
      have := pairB_ok h.2 j kj (by simpa using hj)
      rwa [Nat.add_assoc, Nat.add_comm 1 j] at this
theorem pairsB_ok {ops : List Oper} : ∀ {ks : List Ky} {i : Nat}, pairsB ops i ks = true → ∀ (a b : Nat) ka kb, a < b → ks[a]? = some ka → ks[b]? = some kb → apartB ka kb = true ∨ befB ops 60 (i + a) (i + b) = true
  | [], i, _, a, b, ka, kb, _, h, _ => by simp at h
  | x :: ks, i, h, a, b, ka, kb, hab, ha, hb => by
    simp only [pairsB, Bool.and_eq_true] at h
    cases b with
    | zero => omega
    | succ b =>
      cases a with
      | zero =>
        simp only [List.getElem?_cons_zero, Option.some.injEq] at ha
        subst ha
        have := pairB_ok h.1 b kb (by simpa using hb)
        rwa [show i + 1 + b = i + (b + 1) by omega] at this
      | succ a =>
        have := pairsB_ok h.2 a b ka kb (by omega) (by simpa using ha) (by simpa using hb)
        rwa [show i + 1 + a = i + (a + 1) by omega, show i + 1 + b = i + (b + 1) by omega] at this
/-- What an operation's slots are. -/
def rtOf (ops : List Oper) (o : Oper) : List Nat := tmpsOf (opOps o.op) ++ guardT ops o.guard
theorem mkKys_ok {ops : List Oper} : ∀ {os : List Oper} {log : List (List L × List L)} {ks : List Ky}, mkKys ops os log = some ks → os.length = log.length ∧ ks.length = os.length ∧ ∀ (i : Nat) o rl wl, os[i]? = some o → log[i]? = some (rl, wl) → ks[i]? = some ⟨o.dst, rtOf ops o, rl, wl⟩
  | [], [], ks, h => by simp only [mkKys, Option.some.injEq] at h; subst h; simp
  | o :: os, (rl, wl) :: log, ks, h => by
    simp only [mkKys] at h
    split at h
    · rename_i ks' hk
      obtain rfl := Option.some.inj h
      obtain ⟨h1, h2, h3⟩ := mkKys_ok hk
      refine ⟨by simp [h1], by simp [h2], fun i o' rl' wl' ho hl => ?_⟩
      cases i with
      | zero =>
        simp only [List.getElem?_cons_zero, Option.some.injEq, Prod.mk.injEq] at ho hl ⊢
        obtain ⟨rfl, rfl⟩ := hl
        subst ho
        rfl
      | succ i => simpa using h3 i o' rl' wl' (by simpa using ho) (by simpa using hl)
    · cases h
  | [], _ :: _, ks, h => by simp [mkKys] at h
  | _ :: _, [], ks, h => by simp [mkKys] at h
/-! ### The rules -/
/-- What is known at one place is enough for another. -/
def Wk (F : FnI) (c c' : Conf) : Prop := c.rg = none ∧ c'.rg = none ∧ c'.it = c.it ∧ ∀ (fr : Fr) (a : Act) (w : World), (∀ d j, fr.mu0 (.t d j) = none) → Rel fr F.n c.env c.sto a w → Rel fr F.n c'.env c'.sto a w
theorem Wk.refl {F : FnI} {env : Env} {sto : Sto} {it : List It} : Wk F ⟨env, sto, it, none⟩ ⟨env, sto, it, none⟩ := ⟨rfl, rfl, rfl, fun _ _ _ _ h => h⟩
def eqP : List Nat → List Nat → Bool
  | [], [] => true
  | a :: p, b :: q => match Nat.beq a b with
    | true => eqP p q
    | false => false
  | _, _ => false
def isAt (q : List Nat) : Conf → Bool
  | ⟨_, _, .code p :: _, none⟩ => eqP p q
  | _ => false
/-- As 'nxt', but no further than a place in the code. -/
def nxtTo (F : FnI) (q : List Nat) : Nat → Conf → Nx
  | 0, c => .fail 0 c
  | n + 1, c => match isAt q c with
    | true => .fail 0 c
    | false => match step1 F c with
      | .go c' => nxtTo F q n c'
      | .stop x => x
/-- A slice that is only read is asked whether it is nil: both answers. -/
def nilStep (F : FnI) : Conf → Option (Conf × Conf × Prop)
  | ⟨env, sto, it, some ⟨p, i, false, log, kn⟩⟩ => match codeAt F.body p with
    | some (.region _ ops _) => match nth ops.toList i with
      | some ⟨some d, .binOp .eql t x (.const (.slice none 0 0)) _, _, _, _, none⟩ => match tyOf F.tab t, opnd env x with
        | some ⟨.sl _ _, _, _, _, _, _⟩, some (.one (.lst e xs _)) => some (nextOp (some d) (.one (.bool false)) [] [] it ⟨p, i, false, log, kn⟩ env sto, nextOp (some d) (.one (.bool true)) [] [] it ⟨p, i, false, log, kn⟩ env sto, xs = [])
        | _, _ => none
      | _ => none
    | _ => none
  | _ => none
inductive Run (P : Program) (F : FnI) (R : V → List (Option C) → Prop) : Nx → Prop where
  | ret {v st} : R v st → Run P F R (.ret v st)
  | cond {b c1 c2} : (b = true → Run P F R (nxt F 5000 c1)) → (b = false → Run P F R (nxt F 5000 c2)) → Run P F R (.cond b c1 c2)
  | need {ps c} : (∀ p ∈ ps, p) → Run P F R (nxt F 5000 c) → Run P F R (.need ps c)
  | call {f args st k res st' c} : Ok P f args st res st' → resume res st' k = some c → Run P F R (nxt F 5000 c) → Run P F R (.call f args st k)
  | loop {c} : Run P F R (nxt F 5000 (unroll c)) → Run P F R (.loop c)
  | check {p log c} : chk F.body p log = true → Run P F R (nxt F 5000 c) → Run P F R (.check p log c)
  | cond0 {b c1 c2} : (b = true → Run P F R (.fail 0 c1)) → (b = false → Run P F R (.fail 0 c2)) → Run P F R (.cond b c1 c2)
  | need0 {ps c} : (∀ p ∈ ps, p) → Run P F R (.fail 0 c) → Run P F R (.need ps c)
  | call0 {f args st k res st' c} : Ok P f args st res st' → resume res st' k = some c → Run P F R (.fail 0 c) → Run P F R (.call f args st k)
  | check0 {p log c} : chk F.body p log = true → Run P F R (.fail 0 c) → Run P F R (.check p log c)
  | go {c} (n : Nat) : Run P F R (nxt F n c) → Run P F R (.fail 0 c)
  | to {c} (q : List Nat) (n : Nat) : Run P F R (nxtTo F q n c) → Run P F R (.fail 0 c)
  | wk {c c'} : Wk F c c' → Run P F R (.fail 0 c') → Run P F R (.fail 0 c)
  | wkl {c c'} : Wk F c c' → Run P F R (.loop c') → Run P F R (.loop c)
  | nilq {n c c1 c2 q} : (∃ v st, R = fun v' s' => v' = v ∧ s' = st) → nilStep F c = some (c1, c2, q) → Run P F R (.fail 0 c1) → (q → Run P F R (.fail 0 c2)) → Run P F R (.fail n c)
end Go.AM

/- Single steps of the machine are steps of the program; condition: the table of types fits the program, each operation writes into a slot that is there. -/
namespace Go.AM
set_option linter.unusedVariables false
set_option linter.unusedSimpArgs false
open Go.RowKit
variable {P : Program} {sto : Sto} {tab : Tab}

def keysOf (w : Sto) : List L := w.map (·.1)
theorem mem_keysOf {w : Sto} {l : L} : (lkL l w).isSome = true ↔ l ∈ keysOf w := by
  induction w with
  | nil => simp [lkL, keysOf]
  | cons p w ih =>
    obtain ⟨u, c⟩ := p
    rw [lkL_cons]
    by_cases h : l = u
    · simp [h, keysOf]
    · rw [if_neg h, ih]
      simp [keysOf, h]
def knOf (dst : Option Nat) (kn : List (Nat × Bool)) : List (Nat × Bool) := match dst with
  | some d => dropK d kn
  | none => kn
theorem nextOp_eq (dst : Option Nat) (v : V) (wr : Sto) (rl : List L) (it : List It) (p : List Nat) (i : Nat) (dr : Bool) (log : List (List L × List L)) (kn : List (Nat × Bool)) (env : Env) (sto : Sto) :
    nextOp dst v wr rl it ⟨p, i, dr, log, kn⟩ env sto = ⟨putE dst v env, wr ++ sto, it, some ⟨p, i + 1, dr, (rl, keysOf wr) :: log, knOf dst kn⟩⟩ := by
  cases dst <;> rcases wr with _ | ⟨⟨l, c⟩, _ | ⟨⟨l', c'⟩, _ | ⟨x, wr⟩⟩⟩ <;> simp [nextOp, putE, keysOf, knOf, consS_eq, consS]
def KnOk (kn : List (Nat × Bool)) (env : Env) : Prop := ∀ t b, lk t kn = some b → lk t env = some (.one (.bool b))
theorem lk_dropK {d t : Nat} {b : Bool} : ∀ {kn : List (Nat × Bool)}, lk t (dropK d kn) = some b → t ≠ d ∧ lk t kn = some b
  | [], h => by simp [dropK, lk] at h
  | (u, b') :: kn, h => by
    simp only [dropK] at h
    rw [lk_cons]
    split at h
    · rename_i hb
      have e := Nat.eq_of_beq_eq_true hb
      subst e
      obtain ⟨h1, h2⟩ := lk_dropK h
      exact ⟨h1, by rw [if_neg h1]; exact h2⟩
    · rename_i hb
      rw [lk_cons] at h
      split at h
      · rename_i e
        subst e
        refine ⟨?_, by rw [if_pos rfl]; exact h⟩
        rintro rfl
        simp at hb
      · rename_i e
        obtain ⟨h1, h2⟩ := lk_dropK h
        exact ⟨h1, by rw [if_neg e]; exact h2⟩
theorem KnOk.put {kn : List (Nat × Bool)} {env : Env} (h : KnOk kn env) (dst : Option Nat) (v : V) : KnOk (knOf dst kn) (putE dst v env) := by
  intro t b hb
  rw [lk_putE]
  cases dst with
  | none => rw [if_neg (by simp)]; exact h t b hb
  | some d =>
    obtain ⟨h1, h2⟩ := lk_dropK hb
    rw [if_neg (fun e => h1 (Option.some.inj e).symm)]
    exact h t b h2
/-! ### Guards -/
def GuardOn (ops : List Oper) (o : Oper) (env : Env) : Prop := match o.guard with
  | none => True
  | some (j, want) => ∃ g t, nth ops j = some g ∧ g.dst = some t ∧ lk t env = some (.one (.bool want))
def GuardOff (ops : List Oper) (o : Oper) (env : Env) : Prop := match o.guard with
  | none => False
  | some (j, want) => ∃ g t, nth ops j = some g ∧ g.dst = some t ∧ (lk t env = some (.one (.bool !want)) ∨ lk t env = some (.tup []))
theorem mem_rtOf_guard {ops : List Oper} {o : Oper} {j : Nat} {want : Bool} {g : Oper} {t : Nat} (ho : o.guard = some (j, want)) (hg : nth ops j = some g) (ht : g.dst = some t) : t ∈ rtOf ops o := by
  refine List.mem_append_right _ ?_
  obtain ⟨dst, op, ty, pos, after, guard⟩ := g
  simp only at ht
  subst ht
  simp only [guardT, ho, hg]
  exact List.mem_cons_self
theorem yielded_of {ops : Array Oper} {j t : Nat} {g : Oper} (hg : nth ops.toList j = some g) (ht : g.dst = some t) (tmps : Array Value) : yielded ops tmps j = match tmps[t]? with | some (.bool b) => some b | _ => none := by
  rw [nth_eq] at hg
  have : ops[j]? = some g := by simpa using hg
  simp only [yielded, this, Option.bind_some, ht]
  cases tmps[t]? with
  | none => rfl
  | some v => cases v <;> rfl
theorem wanted_on {ops : Array Oper} {o : Oper} {env : Env} {μ : Mu} {G : Nat → Prop} {w : World} {a : Act} (h : GuardOn ops.toList o env) (he : ER μ G env w a) : Region.wanted o (yielded ops a.tmps) = true := by
  unfold Region.wanted
  unfold GuardOn at h
  cases hgd : o.guard with
  | none => rfl
  | some p =>
    obtain ⟨j, want⟩ := p
    rw [hgd] at h
    simp only at h ⊢
    obtain ⟨g, t, h1, h2, h3⟩ := h
    obtain ⟨u, h4, h5⟩ := he t _ h3
    simp only [repV, repA] at h5
    subst h5
    rw [yielded_of h1 h2, h4]
    simp
theorem wanted_off {ops : Array Oper} {o : Oper} {env : Env} {μ : Mu} {G : Nat → Prop} {w : World} {a : Act} (h : GuardOff ops.toList o env) (he : ER μ G env w a) : Region.wanted o (yielded ops a.tmps) = false := by
  unfold Region.wanted
  unfold GuardOff at h
  cases hgd : o.guard with
  | none => rw [hgd] at h; exact h.elim
  | some p =>
    obtain ⟨j, want⟩ := p
    rw [hgd] at h
    simp only at h ⊢
    obtain ⟨g, t, h1, h2, h3 | h3⟩ := h
    · obtain ⟨u, h4, h5⟩ := he t _ h3
      simp only [repV, repA] at h5
      subst h5
      rw [yielded_of h1 h2, h4]
      cases want <;> rfl
    · obtain ⟨u, h4, h5⟩ := he t _ h3
      simp only [repV] at h5
      obtain ⟨us, rfl, _⟩ := h5
      rw [yielded_of h1 h2, h4]
      rfl
theorem GuardOn.agree {ops : List Oper} {o : Oper} {env env' : Env} (h : GuardOn ops o env) (ha : ∀ t ∈ rtOf ops o, lk t env' = lk t env) : GuardOn ops o env' := by
  unfold GuardOn at h ⊢
  cases hgd : o.guard with
  | none => trivial
  | some p =>
    obtain ⟨j, want⟩ := p
    rw [hgd] at h
    simp only at h ⊢
    obtain ⟨g, t, h1, h2, h3⟩ := h
    exact ⟨g, t, h1, h2, by rw [ha t (mem_rtOf_guard hgd h1 h2)]; exact h3⟩
theorem GuardOff.agree {ops : List Oper} {o : Oper} {env env' : Env} (h : GuardOff ops o env) (ha : ∀ t ∈ rtOf ops o, lk t env' = lk t env) : GuardOff ops o env' := by
  unfold GuardOff at h ⊢
  cases hgd : o.guard with
  | none => rw [hgd] at h; exact h
  | some p =>
    obtain ⟨j, want⟩ := p
    rw [hgd] at h
    simp only at h ⊢
    obtain ⟨g, t, h1, h2, h3⟩ := h
    exact ⟨g, t, h1, h2, by rw [ha t (mem_rtOf_guard hgd h1 h2)]; exact h3⟩
/-! ### Records of operations -/
theorem opnd_rt {ops : List Oper} {o : Oper} {env env' : Env} (ha : ∀ t ∈ rtOf ops o, lk t env' = lk t env) : ∀ x ∈ opOps o.op, opnd env' x = opnd env x :=
  opnd_agree fun t ht => ha t (List.mem_append_left _ ht)
theorem recA_skip {ops : Array Oper} {i : Nat} {o : Oper} (ho : ops[i]? = some o) {env : Env} (hg : GuardOff ops.toList o env) : RecA P ops i env sto ⟨o.dst, .tup [], [], [], rtOf ops.toList o⟩ := by
  intro env' sto' h1 h2 h3 μ G a w hh he Q K hK
  have hw := wanted_off (hg.agree h1) he
  unfold wpOp
  rw [ho]
  simp only [hw, Bool.false_eq_true, if_false]
  exact hK undef w μ G (by simp only [repV]; exact ⟨#[], rfl, by simp [repVs]⟩) (Chg.refl hh)
theorem recA_eval (hT : TabOk P tab) {ops : Array Oper} {i : Nat} {o : Oper} (ho : ops[i]? = some o) {env : Env} (hgd : GuardOn ops.toList o env) {d : Nat} (hal : isAlloc o.op = true → o.dst = some d ∧ lkL (.t d 0) sto = none) {nb : L} (hnb : isAlloc o.op = true → nb = .t d 0)
    {v : V} {wr : Sto} {rl : List L} {ps : List Prop} (hg : (evalOp tab env nb o).go sto [] [] = .ok ⟨v, wr⟩ rl ps) (hp : ∀ p ∈ ps, p) : RecA P ops i env sto ⟨o.dst, v, wr, rl, rtOf ops.toList o⟩ := by
  intro env' sto' h1 h2 h3 μ G a w hh he Q K hK
  have hw := wanted_on (hgd.agree h1) he
  have hg' : (evalOp tab env' nb o).go sto' [] [] = .ok ⟨v, wr⟩ rl ps := by
    rw [evalOp_agree (opnd_rt h1)]
    exact go_agree hg h2
  obtain ⟨u, w', μ', G', hrun, hv, hc⟩ := evalOp_ok hT hh he (fun hi hs => ⟨h3 nb hs (by rw [hnb hi]; exact (hal hi).2), fun i => by rw [hnb hi]; simp⟩) hg' hp
  unfold wpOp
  rw [ho]
  simp only [hw, if_true]
  refine .inl ?_
  unfold Oper.wp
  rcases hrun with hrun | ⟨hrun, rfl⟩
  · rw [hrun]
    exact hK u w' μ' G' hv hc
  · rw [hrun]
    exact hK undef w' μ' G' hv hc
theorem recA_call {ops : Array Oper} {i : Nat} {o : Oper} (ho : ops[i]? = some o) {env : Env} (hgd : GuardOn ops.toList o env) {fx : Operand} {args : List Operand} {ts : List TypeId} (hcal : callee? o.op = some (fx, args, ts)) {f : FuncId} {caps : List A} {vs ws : List V} {ms : List Bool}
    (hf : opnd env fx = some (.one (.fn f caps))) (hvs : opnds env args = some vs) {xs : List V} {st st' : List (Option C)} {res v : V} (hok : Ok P f xs st res st') {lent rl ids : List L} {wr : Sto}
    (hlend : (lendVs tab ms ts vs).go sto [] [] = .ok (ws, lent) rl []) (hren : V.renL (toK ids) (ws ++ caps.map .one) = some xs) (hpack : packSto sto (toK ids) ids = some st) (hnd : nodupL ids = true)
    (hres : res.ren (backId ids (dOf o.dst)) = some v) (hback : backSto ids (dOf o.dst) 0 st' = some wr) (hfr : freshB (dOf o.dst) sto (st'.length - ids.length) = true) (hdl : o.dst = none → st'.length ≤ ids.length) (hnl : lent = [] ∨ (res.noLst = true ∧ noLstS st' = true ∧ disj ids lent = true)) :
    RecA P ops i env sto ⟨o.dst, v, wr, ids ++ rl, rtOf ops.toList o⟩ := by
  intro env' sto' h1 h2 h3 μ G a w hh he Q K hK
  have hw := wanted_on (hgd.agree h1) he
  have hopn := opnd_rt h1
  obtain ⟨dst, op, ty, pos, after, guard⟩ := o
  obtain ⟨call, rfl⟩ : ∃ c, op = .call c := by
    cases op <;> simp [callee?] at hcal
    exact ⟨_, rfl⟩
  obtain ⟨callee, cargs, cts⟩ := call
  obtain ⟨fx', rfl⟩ : ∃ f, callee = .value f := by
    cases callee <;> simp [callee?] at hcal
    exact ⟨_, rfl⟩
  simp only [callee?, Option.some.injEq, Prod.mk.injEq] at hcal
  obtain ⟨rfl, rfl, rfl⟩ := hcal
  simp only [opOps] at hopn
  have hf' : opnd env' fx' = some (.one (.fn f caps)) := by rw [hopn fx' List.mem_cons_self]; exact hf
  have hvs' : opnds env' cargs.toList = some vs := by rw [opnds_agree fun x hx => hopn x (List.mem_cons_of_mem _ hx)]; exact hvs
  have hfv := opnd_ok he hf'
  simp only [repV, repA] at hfv
  obtain ⟨us, hfe, hcs⟩ := hfv
  have hav := opnds_ok he _ _ hvs'
  have hlend' := go_agree (s' := sto') hlend fun l hl => h2 l (List.mem_append_right _ hl)
  have hpack' : packSto sto' (toK ids) ids = some st := by rw [packSto_agree fun l hl => h2 l (List.mem_append_left _ hl)]; exact hpack
  have hfr' : freshB (dOf dst) sto' (st'.length - ids.length) = true := by
    have hall := freshB_ok hfr
    have hb2 := (backSto_ok hback).2
    have key : ∀ n, n ≤ st'.length - ids.length → freshB (dOf dst) sto' n = true := by
      intro n
      induction n with
      | zero => intro _; rfl
      | succ n ih =>
        intro hn
        simp only [freshB]
        rw [h3 (.t (dOf dst) n) (hb2 (ids.length + n) _ (Nat.zero_le _) (by omega) backId_ge) (hall n (by omega))]
        exact ih (by omega)
    exact key _ (Nat.le_refl _)
  have hcall := call_ok hok hh (d := dOf dst) (cargs := cargs.map a.eval ++ us) hlend' hren hpack' hnd hres hback hfr' hnl hav hcs (by simp)
  unfold wpOp
  rw [ho]
  simp only [hw, if_true]
  refine .inl ?_
  unfold Oper.wp
  rcases hcall with ⟨fn, c, e1, e2, e3, hcall⟩ | ⟨u, w', hrun0, μ', G', hv, hc⟩
  · have hrun : (execOp a.eval ⟨dst, .call ⟨.value fx', cargs, cts⟩, ty, pos, after, guard⟩).run P w = .ok (.enter f (cargs.map a.eval ++ us)) w := by
      simp only [execOp, resolve, hfe, Deferred.ofValue, Sem.run_bind, Sem.run_pure, Result.andThen_ok, invoke, callFunc, run_program, e1, e3, Bool.false_eq_true, if_false, e2, Option.isNone_some]
      simp
    rw [hrun]
    refine hcall.mono ?_
    rintro e w' ⟨u, rfl, μ', G', hv, hc⟩
    exact hK u w' μ' G' hv hc
  · have hrun : (execOp a.eval ⟨dst, .call ⟨.value fx', cargs, cts⟩, ty, pos, after, guard⟩).run P w = .ok (.value u) w' := by
      simp only [execOp, resolve, hfe, Deferred.ofValue, Sem.run_bind, Sem.run_pure, Result.andThen_ok, invoke, Array.empty_append]
      simpa using hrun0
    rw [hrun]
    exact hK u w' μ' G' hv hc
theorem recA_callF {ops : Array Oper} {i : Nat} {o : Oper} (ho : ops[i]? = some o) {env : Env} (hgd : GuardOn ops.toList o env) {fx : Operand} {args : List Operand} {ts : List TypeId} (hcal : callee? o.op = some (fx, args, ts)) {f : FuncId} {caps : List A} {vs ws : List V} {ms : List Bool}
    (hf : opnd env fx = some (.one (.fn f caps))) (hvs : opnds env args = some vs) {xs : List V} {st st' : List (Option C)} {res v : V} (hok : Ok P f xs st res st') {lent rl ids : List L} {wr : Sto}
    (hlend : (lendVs tab ms ts vs).go sto [] [] = .ok (ws, lent) rl []) (hren : V.renL (toK ids) (ws ++ caps.map .one) = some xs) (hpack : packSto sto (toK ids) ids = some st) (hnd : nodupL ids = true)
    (hres : res.ren (backId ids (dOf o.dst)) = some v) (hback : backSto ids (dOf o.dst) 0 st' = some wr) (hfr : freshB (dOf o.dst) (nones lent ++ sto) (st'.length - ids.length) = true) (hdl : o.dst = none → st'.length ≤ ids.length) (hdj : disj ids lent = true) :
    RecA P ops i env sto ⟨o.dst, v, wr ++ nones lent, ids ++ rl, rtOf ops.toList o⟩ := by
  intro env' sto' h1 h2 h3 μ G a w hh he Q K hK
  have hw := wanted_on (hgd.agree h1) he
  have hopn := opnd_rt h1
  obtain ⟨dst, op, ty, pos, after, guard⟩ := o
  obtain ⟨call, rfl⟩ : ∃ c, op = .call c := by
    cases op <;> simp [callee?] at hcal
    exact ⟨_, rfl⟩
  obtain ⟨callee, cargs, cts⟩ := call
  obtain ⟨fx', rfl⟩ : ∃ f, callee = .value f := by
    cases callee <;> simp [callee?] at hcal
    exact ⟨_, rfl⟩
  simp only [callee?, Option.some.injEq, Prod.mk.injEq] at hcal
  obtain ⟨rfl, rfl, rfl⟩ := hcal
  simp only [opOps] at hopn
  have hf' : opnd env' fx' = some (.one (.fn f caps)) := by rw [hopn fx' List.mem_cons_self]; exact hf
  have hvs' : opnds env' cargs.toList = some vs := by rw [opnds_agree fun x hx => hopn x (List.mem_cons_of_mem _ hx)]; exact hvs
  have hfv := opnd_ok he hf'
  simp only [repV, repA] at hfv
  obtain ⟨us, hfe, hcs⟩ := hfv
  have hav := opnds_ok he _ _ hvs'
  have hlend' := go_agree (s' := sto') hlend fun l hl => h2 l (List.mem_append_right _ hl)
  have hpack' : packSto sto' (toK ids) ids = some st := by rw [packSto_agree fun l hl => h2 l (List.mem_append_left _ hl)]; exact hpack
  have hfr' : freshB (dOf dst) (nones lent ++ sto') (st'.length - ids.length) = true := by
    have hall := freshB_ok hfr
    have hb2 := (backSto_ok hback).2
    have key : ∀ n, n ≤ st'.length - ids.length → freshB (dOf dst) (nones lent ++ sto') n = true := by
      intro n
      induction n with
      | zero => intro _; rfl
      | succ n ih =>
        intro hn
        simp only [freshB]
        have hq := hall n (by omega)
        rw [lkL_app] at hq ⊢
        cases e : lkL (.t (dOf dst) n) (nones lent) with
        | some x => rw [e] at hq; cases hq
        | none =>
        rw [e] at hq
        have hwr : (lkL (.t (dOf dst) n) (wr ++ nones lent)).isSome = true := by
          have := hb2 (ids.length + n) _ (Nat.zero_le _) (by omega) backId_ge
          rw [lkL_app]
          obtain ⟨x, hx⟩ := Option.isSome_iff_exists.mp this
          rw [hx]
          rfl
        have h3' := h3 (.t (dOf dst) n) hwr hq
        dsimp only
        rw [h3']
        exact ih (by omega)
    exact key _ (Nat.le_refl _)
  have hcall := call_okF hok hh (d := dOf dst) (cargs := cargs.map a.eval ++ us) hlend' hren hpack' hnd hres hback hfr' hdj hav hcs (by simp)
  unfold wpOp
  rw [ho]
  simp only [hw, if_true]
  refine .inl ?_
  unfold Oper.wp
  rcases hcall with ⟨fn, c, e1, e2, e3, hcall⟩ | ⟨u, w', hrun0, μ', G', hv, hc⟩
  · have hrun : (execOp a.eval ⟨dst, .call ⟨.value fx', cargs, cts⟩, ty, pos, after, guard⟩).run P w = .ok (.enter f (cargs.map a.eval ++ us)) w := by
      simp only [execOp, resolve, hfe, Deferred.ofValue, Sem.run_bind, Sem.run_pure, Result.andThen_ok, invoke, callFunc, run_program, e1, e3, Bool.false_eq_true, if_false, e2, Option.isNone_some]
      simp
    rw [hrun]
    refine hcall.mono ?_
    rintro e w' ⟨u, rfl, μ', G', hv, hc⟩
    exact hK u w' μ' G' hv hc
  · have hrun : (execOp a.eval ⟨dst, .call ⟨.value fx', cargs, cts⟩, ty, pos, after, guard⟩).run P w = .ok (.value u) w' := by
      simp only [execOp, resolve, hfe, Deferred.ofValue, Sem.run_bind, Sem.run_pure, Result.andThen_ok, invoke, Array.empty_append]
      simpa using hrun0
    rw [hrun]
    exact hK u w' μ' G' hv hc
end Go.AM

/- A run of the machine is a run of the program: the whole; condition: contracts of the calls, the region checks. -/
namespace Go.AM
set_option linter.unusedVariables false
set_option linter.unusedSimpArgs false
open Go.RowKit
variable {P : Program} {sto : Sto}

theorem HR.drew {μ : Mu} {G : Nat → Prop} {w : World} (h : HR μ G sto w) (n : Nat) : HR μ G sto { w with drawn := n } :=
  ⟨fun l c hc => by
    obtain ⟨B, h1, h2, h3⟩ := h.live l c hc
    exact ⟨B, h1, crep_mono (w := w) (w' := { w with drawn := n }) (fun _ _ h => h) (fun _ _ => rfl) (fun _ h => h) (fun _ => rfl) h2, h3⟩, h.known, h.apart, h.good, ⟨h.tab.has⟩⟩
theorem Rel.drew {fr : Fr} {n : Nat} {env : Env} {a : Act} {w : World} (h : Rel fr n env sto a w) (k : Nat) : Rel fr n env sto a { w with drawn := k } := by
  obtain ⟨μ, G, h1, h2, h3, h4, h5⟩ := h
  refine ⟨μ, G, h1.drew k, fun t v hv => ?_, ⟨h3.os, h3.tape, h3.output, h3.size, h3.frame, h3.live, h3.mu, h3.good, h3.new, h3.kk⟩, h4, h5⟩
  obtain ⟨u, e1, e2⟩ := h2 t v hv
  exact ⟨u, e1, repV_mono (w := w) (w' := { w with drawn := k }) (fun _ _ h => h) (fun _ _ => rfl) (fun _ h => h) _ _ e2⟩
/-! ### A region in the text's order, to its end -/
inductive Tail (P : Program) (ops : Array Oper) (S : Env → Sto → Prop) : Env → Sto → Nat → List (List L × List L) → Prop where
  | done {env sto i log} : ops.size ≤ i → chkOps ops.toList log = true → S env sto → Tail P ops S env sto i log
  | step {env sto i log o r} : ops[i]? = some o → r.dst = o.dst → r.rt = rtOf ops.toList o → RecA P ops i env sto r → Tail P ops S (putE r.dst r.v env) (r.wr ++ sto) (i + 1) ((r.rl, keysOf r.wr) :: log) → Tail P ops S env sto i log
  | congr {env env' sto sto' i log} : (∀ t, lk t env = lk t env') → (∀ l, lkL l sto = lkL l sto') → Tail P ops S env' sto' i log → Tail P ops S env sto i log
theorem envOf_shift {D : Nat → Bool} : ∀ (rs : List Rec) (k : Nat) (env : Env), envOf D (k + 1) rs env = envOf (fun j => D (j + 1)) k rs env
  | [], k, env => rfl
  | r :: rs, k, env => by simp only [envOf]; exact envOf_shift rs (k + 1) _
theorem stoOf_shift {D : Nat → Bool} : ∀ (rs : List Rec) (k : Nat) (s : Sto), stoOf D (k + 1) rs s = stoOf (fun j => D (j + 1)) k rs s
  | [], k, s => rfl
  | r :: rs, k, s => by simp only [stoOf]; exact stoOf_shift rs (k + 1) _
theorem envOf_false : ∀ (rs : List Rec) (k : Nat) (env : Env), envOf (fun _ => false) k rs env = env
  | [], k, env => rfl
  | r :: rs, k, env => by simp only [envOf]; exact envOf_false rs _ _
theorem Tail.recs {ops : Array Oper} {S : Env → Sto → Prop} (hS : ∀ env env' s s', (∀ t, lk t env = lk t env') → (∀ l, lkL l s = lkL l s') → S env' s' → S env s) {env : Env} {i : Nat} {log : List (List L × List L)} (h : Tail P ops S env sto i log) :
    i ≤ ops.size → ∃ rs : List Rec, i + rs.length = ops.size ∧ (∀ (k : Nat) r, rs[k]? = some r → ∃ o, ops[i + k]? = some o ∧ r.dst = o.dst ∧ r.rt = rtOf ops.toList o ∧ RecA P ops (i + k) (envOf (fun j => decide (j < k)) 0 rs env) (stoOf (fun j => decide (j < k)) 0 rs sto) r) ∧
      S (envOf (fun _ => true) 0 rs env) (stoOf (fun _ => true) 0 rs sto) ∧ chkOps ops.toList ((rs.map fun r => (r.rl, keysOf r.wr)).reverse ++ log) = true := by
  induction h with
  | done h1 h2 h3 =>
    intro hi
    exact ⟨[], by simp; omega, fun k r hr => by simp at hr, h3, by simpa using h2⟩
  | @step env sto i log o r h1 h2 h3 h4 _ ih =>
    intro hi
    have hlt : i < ops.size := (Array.getElem?_eq_some_iff.1 h1).1
    obtain ⟨rs, k1, k2, k3, k4⟩ := ih (by omega)
    refine ⟨r :: rs, by simp; omega, fun k r' hr => ?_, ?_, ?_⟩
    · cases k with
      | zero =>
        simp only [List.getElem?_cons_zero, Option.some.injEq] at hr
        subst hr
        refine ⟨o, h1, h2, h3, ?_⟩
        have e1 : (fun j => decide (j < 0)) = fun _ : Nat => false := by funext j; simp
        rw [e1, envOf_false, stoOf_false]
        exact h4
      | succ k =>
        obtain ⟨o', m1, m2, m3, m4⟩ := k2 k r' (by simpa using hr)
        refine ⟨o', by rw [← m1]; congr 1; omega, m2, m3, ?_⟩
        simp only [envOf, stoOf]
        rw [envOf_shift, stoOf_shift]
        have e1 : (fun j => decide (j + 1 < k + 1)) = fun j : Nat => decide (j < k) := by funext j; simp
        rw [e1, if_pos (by simp), if_pos (by simp), show i + (k + 1) = i + 1 + k by omega]
        exact m4
    · simp only [envOf, stoOf, if_true]
      rw [envOf_shift, stoOf_shift]
      exact k3
    · rw [List.map_cons, List.reverse_cons, List.append_assoc]
      exact k4
  | @congr env env' sto sto' i log he hs _ ih =>
    intro hi
    obtain ⟨rs, k1, k2, k3, k4⟩ := ih hi
    refine ⟨rs, k1, fun k r hr => ?_, ?_, k4⟩
    · obtain ⟨o, m1, m2, m3, m4⟩ := k2 k r hr
      exact ⟨o, m1, m2, m3, m4.congr (fun t => envOf_congr rs 0 _ _ (he t).symm fun _ _ _ _ => rfl) (fun l => stoOf_congr rs 0 _ _ (hs l).symm fun _ _ _ _ => rfl)⟩
    · exact hS _ _ _ _ (fun t => envOf_congr rs 0 _ _ (he t) fun _ _ _ _ => rfl) (fun l => stoOf_congr rs 0 _ _ (hs l) fun _ _ _ _ => rfl) k3
theorem apartB_ok {ri rk : Rec} {ki kk : Ky} (h : apartB ki kk = true) (i1 : ki.dst = ri.dst) (i2 : ki.rt = ri.rt) (i3 : ki.rl = ri.rl) (i4 : ki.wl = keysOf ri.wr) (k1 : kk.dst = rk.dst) (k2 : kk.rt = rk.rt) (k3 : kk.rl = rk.rl) (k4 : kk.wl = keysOf rk.wr) : Apart ri rk := by
  simp only [apartB, Bool.and_eq_true, Bool.not_eq_true', i1, i2, i3, i4, k1, k2, k3, k4] at h
  obtain ⟨⟨⟨⟨h1, h2⟩, h3⟩, h4⟩, h5⟩ := h
  refine ⟨fun d hd => ?_, fun d hd => ?_, fun l hl => ⟨meetL_ok h3 l (mem_keysOf.mp hl), ?_⟩, fun l hl => meetL_ok h5 l (mem_keysOf.mp hl)⟩
  · rw [hd] at h1
    simp only [Bool.and_eq_true, Bool.not_eq_true'] at h1
    refine ⟨memN_ok h1.1, fun e => ?_⟩
    rw [e] at h1
    simp at h1
  · rw [hd] at h2
    simp only [Bool.not_eq_true'] at h2
    exact memN_ok h2
  · cases e : lkL l rk.wr with
    | none => rfl
    | some c => exact absurd (mem_keysOf.mp (by rw [e]; rfl)) (meetL_ok h4 l (mem_keysOf.mp hl))
theorem region_tail (hm : P.follows .mixedOrders = true) {ops : Array Oper} {id : Nat} {fr : Fr} {n : Nat} {Q : Exit → Act → World → Prop} {env : Env} (hdst : ∀ o ∈ ops.toList, ∀ d, o.dst = some d → d < n)
    (h : Tail P ops (fun env sto => ∀ a w, Rel fr n env sto a w → Q .normal a w) env sto 0 []) {a : Act} {w : World} (hr : Rel fr n env sto a w) : (Code.region id ops true).wp P Q a w := by
  obtain ⟨rs, k1, k2, k3, k4⟩ := h.recs (fun env env' s s' he hs h a w hr => h a w (hr.congr he hs)) (Nat.zero_le _)
  simp only [Nat.zero_add] at k1 k2
  rw [List.append_nil] at k4
  have hlist : ∀ (i : Nat) r, rs[i]? = some r → ∃ o, ops.toList[i]? = some o ∧ r.dst = o.dst ∧ r.rt = rtOf ops.toList o := by
    intro i r hi
    obtain ⟨o, m1, m2, m3, _⟩ := k2 i r hi
    exact ⟨o, by simpa using m1, m2, m3⟩
  unfold chkOps at k4
  rw [List.reverse_reverse] at k4
  split at k4
  · rename_i ks hks
    simp only [Bool.and_eq_true] at k4
    obtain ⟨hp, he⟩ := k4
    obtain ⟨q1, q2, q3⟩ := mkKys_ok hks
    refine wp_region_any hm (region_any (rs := rs) (env0 := env) (sto0 := sto) (fr := fr) (n := n) k1 (fun i r hi d hd => ?_) (fun i r hi => (k2 i r hi).choose_spec.2.2.2) (fun i k hd => ?_) (fun i k ri rk hik hi hk => ?_) k3 ops.size _ a _ (by simp) (fun i k hd hk => ?_) ?_ ?_)
    · obtain ⟨o, m1, m2, _⟩ := hlist i r hi
      rw [m2] at hd
      exact hdst o (List.mem_of_getElem? m1) d hd
    · obtain ⟨o, ho, e, he', hb, rfl⟩ := hd
      have := edgesB_ok he k o (by simpa using ho) e he' hb
      omega
    · obtain ⟨oi, m1, m2, m3⟩ := hlist i ri hi
      obtain ⟨ok, n1, n2, n3⟩ := hlist k rk hk
      have ki := q3 i oi ri.rl (keysOf ri.wr) m1 (by rw [List.getElem?_map, hi]; rfl)
      have kk := q3 k ok rk.rl (keysOf rk.wr) n1 (by rw [List.getElem?_map, hk]; rfl)
      rcases pairsB_ok hp i k _ _ hik ki kk with h1 | h1
      · exact .inr (apartB_ok h1 m2.symm m3.symm rfl rfl n2.symm n3.symm rfl rfl)
      · simp only [Nat.zero_add] at h1
        exact .inl (befB_ok h1)
    · exfalso
      have : (Array.replicate ops.size false).getD k false = false := by
        by_cases h : k < ops.size <;> simp [Array.getD, h]
      rw [this] at hk
      cases hk
    · exact Nat.le_trans List.countP_le_length (by simp)
    · refine (hr.drew _).congr (fun t => ?_) (fun l => ?_)
      · have : lk t env = lk t (envOf (fun _ => false) 0 rs env) := by rw [envOf_false]
        rw [this]
        refine envOf_congr rs 0 _ _ rfl fun j r hj _ => ?_
        by_cases h : (0 + j) < ops.size <;> simp [Array.getD, h] <;> omega
      · have : lkL l sto = lkL l (stoOf (fun _ => false) 0 rs sto) := by rw [stoOf_false]
        rw [this]
        refine stoOf_congr rs 0 _ _ rfl fun j r hj _ => ?_
        by_cases h : (0 + j) < ops.size <;> simp [Array.getD, h] <;> omega
  · cases k4
end Go.AM

/- A run of the machine is a run of the program: each step; condition: contracts of the calls, the region checks. -/
namespace Go.AM
set_option linter.unusedVariables false
set_option linter.unusedSimpArgs false
open Go.RowKit
variable {P : Program} {F : FnI} {fr : Fr} {R : V → List (Option C) → Prop} {Q : Exit → Act → World → Prop}

def SndC (P : Program) (F : FnI) (fr : Fr) (Q : Exit → Act → World → Prop) (it : List It) (env : Env) (sto : Sto) : Prop := ∀ a w, Rel fr F.n env sto a w → contK P F.body Q it .normal a w
/-- The rest of a region. -/
def Rest (P : Program) (F : FnI) (fr : Fr) (Q : Exit → Act → World → Prop) (it : List It) (ops : Array Oper) (dr : Bool) (env : Env) (sto : Sto) (i : Nat) (log : List (List L × List L)) : Prop := match dr with
  | true => Tail P ops (SndC P F fr Q it) env sto i log
  | false => ∀ a w, Rel fr F.n env sto a w → wpOps P ops (contK P F.body Q it) (List.range' i (ops.size - i)) a w
def Snd (P : Program) (F : FnI) (fr : Fr) (Q : Exit → Act → World → Prop) : Conf → Prop
  | ⟨env, sto, it, none⟩ => SndC P F fr Q it env sto
  | ⟨env, sto, it, some g⟩ => ∀ id ops, codeAt F.body g.p = some (.region id ops g.dr) → KnOk g.kn env → Rest P F fr Q it ops g.dr env sto g.i g.log
def SX (P : Program) (F : FnI) (fr : Fr) (R : V → List (Option C) → Prop) (Q : Exit → Act → World → Prop) : Nx → Prop
  | .ret v st => R v st
  | .cond b c1 c2 => (b = true → Snd P F fr Q c1) ∧ (b = false → Snd P F fr Q c2)
  | .need ps c => (∀ p ∈ ps, p) ∧ Snd P F fr Q c
  | .call f args st k => ∃ res st' c, Ok P f args st res st' ∧ resume res st' k = some c ∧ Snd P F fr Q c
  | .loop c => Snd P F fr Q c
  | .check p log c => chk F.body p log = true ∧ Snd P F fr Q c
  | .fail _ c => Snd P F fr Q c
def S1 (P : Program) (F : FnI) (fr : Fr) (R : V → List (Option C) → Prop) (Q : Exit → Act → World → Prop) : St1 → Prop
  | .go c => Snd P F fr Q c
  | .stop x => SX P F fr R Q x
/-- What the body's end asks. -/
def EndOk (F : FnI) (fr : Fr) (R : V → List (Option C) → Prop) (Q : Exit → Act → World → Prop) : Prop :=
  ∀ env sto it rg c v st, retN F c ⟨env, sto, it, rg⟩ = .ret v st → R v st → ∀ a w, Rel fr F.n env sto a w → Q .normal a w ∧ Q .ret a w
theorem contK_code {body : Code} {p : List Nat} {k : List It} {a : Act} {w : World} : contK P body Q (.code p :: k) .normal a w = ∃ c, codeAt body p = some c ∧ c.wp P (contK P body Q k) a w := rfl
theorem Rest.congr {it : List It} {ops : Array Oper} {dr : Bool} {env env' : Env} {sto sto' : Sto} {i : Nat} {log : List (List L × List L)} (he : ∀ t, lk t env = lk t env') (hs : ∀ l, lkL l sto = lkL l sto') (h : Rest P F fr Q it ops dr env' sto' i log) : Rest P F fr Q it ops dr env sto i log := by
  cases dr with
  | true => exact Tail.congr he hs h
  | false => exact fun a w hr => h a w (hr.congr he hs)
theorem Rest.step {it : List It} {id : Nat} {ops : Array Oper} {dr : Bool} {env : Env} {sto : Sto} {i : Nat} {log : List (List L × List L)} {p : List Nat} (hD : dstsB F.n F.body = true) (hc : codeAt F.body p = some (.region id ops dr)) {o : Oper} {r : Rec} (ho : ops[i]? = some o) (h1 : r.dst = o.dst) (h2 : r.rt = rtOf ops.toList o) (hrec : RecA P ops i env sto r)
    (h : Rest P F fr Q it ops dr (putE r.dst r.v env) (r.wr ++ sto) (i + 1) ((r.rl, keysOf r.wr) :: log)) : Rest P F fr Q it ops dr env sto i log := by
  cases dr with
  | true => exact Tail.step ho h1 h2 hrec h
  | false =>
    intro a w hr
    have hlt := (Array.getElem?_eq_some_iff.1 ho).1
    rw [show ops.size - i = (ops.size - (i + 1)) + 1 by omega, List.range'_succ, wpOps_cons]
    obtain ⟨μ, G, e1, e2, e3, e4, e5⟩ := hr
    have hds := codeAt_dsts hD hc
    simp only [dstsB] at hds
    exact hrec.ok μ G a w e1 e2 _ _ fun u w' μ' G' hv hcg => h _ _ (Rel.step e1 e2 e3 e4 e5 (fun d hd => dstB_ok hds o (by
      have : ops.toList[i]? = some o := by simpa using ho
      exact List.mem_of_getElem? this) d (by rw [← h1]; exact hd)) hv hcg)
theorem nth_some {α : Type} {xs : Array α} {i : Nat} {a : α} (h : nth xs.toList i = some a) : xs[i]? = some a := by
  rw [nth_eq] at h
  simpa using h
theorem nth_none {α : Type} {xs : Array α} {i : Nat} (h : nth xs.toList i = none) : xs.size ≤ i := by
  rw [nth_eq] at h
  simpa using h
/-- One operation that is done. -/
theorem snd_next {it : List It} {p : List Nat} {i : Nat} {dr : Bool} {log : List (List L × List L)} {kn : List (Nat × Bool)} {env : Env} {sto : Sto} {id : Nat} {ops : Array Oper} {o : Oper} {v : V} {wr : Sto} {rl : List L} (hD : dstsB F.n F.body = true) (hc : codeAt F.body p = some (.region id ops dr)) (ho : ops[i]? = some o) (hk : KnOk kn env)
    (hrec : RecA P ops i env sto ⟨o.dst, v, wr, rl, rtOf ops.toList o⟩) (h : Snd P F fr Q (nextOp o.dst v wr rl it ⟨p, i, dr, log, kn⟩ env sto)) : Rest P F fr Q it ops dr env sto i log := by
  rw [nextOp_eq] at h
  exact Rest.step hD hc ho rfl rfl hrec (h id ops hc (hk.put o.dst v))
theorem exec_snd (hT : TabOk P F.tab) (hD : dstsB F.n F.body = true) {it : List It} {p : List Nat} {i : Nat} {dr : Bool} {log : List (List L × List L)} {kn : List (Nat × Bool)} {env : Env} {sto : Sto} {id : Nat} {ops : Array Oper} {o : Oper} (hc : codeAt F.body p = some (.region id ops dr)) (ho : ops[i]? = some o) (hk : KnOk kn env) (hg : GuardOn ops.toList o env)
    (h : S1 P F fr R Q (execN F env sto it ⟨p, i, dr, log, kn⟩ o)) : Rest P F fr Q it ops dr env sto i log := by
  have hfail : Snd P F fr Q ⟨env, sto, it, some ⟨p, i, dr, log, kn⟩⟩ → Rest P F fr Q it ops dr env sto i log := fun h => h id ops hc hk
  unfold execN at h
  split at h
  · rename_i fx args ts hcal
    unfold callN at h
    split at h
    · rename_i f caps vs hf hvs
      split at h
      · rename_i ws lent rl ps hl
        split at h
        · exact hfail h
        · rename_i ids hcl
          split at h
          · rename_i xs st hren hpack hnd
            split at h
            · obtain ⟨res, st', c, hok, hres, hs⟩ := h
              unfold resume at hres
              have key : (resumeA it ⟨p, i, dr, log, kn⟩ env sto o.dst ids rl res st' = some c ∧ (lent = [] ∨ (res.noLst = true ∧ noLstS st' = true ∧ disj ids lent = true))) ∨ (resumeF it ⟨p, i, dr, log, kn⟩ env sto o.dst ids lent rl res st' = some c ∧ disj ids lent = true) := by
                simp only at hres
                split at hres
                · exact .inl ⟨hres, .inl rfl⟩
                · split at hres
                  · rename_i a1 a2 a3
                    exact .inl ⟨hres, .inr ⟨a1, a2, a3⟩⟩
                  · rename_i a1 a2 a3
                    exact .inr ⟨hres, a3⟩
                  · rename_i a1 a2 a3
                    exact .inr ⟨hres, a3⟩
                  · rename_i a1 a2 a3
                    exact .inr ⟨hres, a3⟩
                  · cases hres
              rcases key with ⟨hra, hnl⟩ | ⟨hra, hdj⟩
              · unfold resumeA at hra
                split at hra
                · rename_i v w e1 e2 e3 e4
                  obtain rfl := Option.some.inj hra
                  refine snd_next hD hc ho hk (recA_call ho hg hcal hf hvs hok hl hren hpack hnd e1 e2 e3 (fun hd => ?_) hnl) hs
                  rw [hd] at e4
                  simpa using e4
                · cases hra
              · unfold resumeF at hra
                split at hra
                · rename_i v w e1 e2 e3 e4
                  obtain rfl := Option.some.inj hra
                  rw [consS_eq] at e3 hs
                  refine snd_next hD hc ho hk (recA_callF ho hg hcal hf hvs hok hl hren hpack hnd e1 e2 e3 (fun hd => ?_) hdj) hs
                  rw [hd] at e4
                  simpa using e4
                · cases hra
            · exact hfail h
          · exact hfail h
      · exact hfail h
    · exact hfail h
  · rename_i hcal
    split at h
    · rename_i d hd
      split at h
      · exact hfail h
      · rename_i hal
        have hal' : isAlloc o.op = true → o.dst = some d ∧ lkL (.t d 0) sto = none := by
          intro ha
          refine ⟨hd, ?_⟩
          rw [ha] at hal
          exact hal
        split at h
        · rename_i v wr rl ps hev
          have hps : (∀ q ∈ ps, q) ∧ Snd P F fr Q (nextOp (some d) v wr rl it ⟨p, i, dr, log, kn⟩ env sto) := by
            split at h
            · exact ⟨fun q hq => (by cases hq), h⟩
            · exact h
          refine snd_next hD hc ho hk (recA_eval hT ho hg hal' (fun _ => rfl) hev hps.1) ?_
          rw [hd]
          exact hps.2
        · exact hfail h
    · rename_i hd
      split at h
      · exact hfail h
      · rename_i hal
        split at h
        · rename_i v wr rl ps hev
          have hps : (∀ q ∈ ps, q) ∧ Snd P F fr Q (nextOp none v wr rl it ⟨p, i, dr, log, kn⟩ env sto) := by
            split at h
            · exact ⟨fun q hq => (by cases hq), h⟩
            · exact h
          refine snd_next hD hc ho hk (recA_eval (d := 0) hT ho hg (fun ha => by rw [hal] at ha; cases ha) (fun ha => by rw [hal] at ha; cases ha) hev hps.1) ?_
          rw [hd]
          exact hps.2
        · exact hfail h
theorem rg_snd (hT : TabOk P F.tab) (hD : dstsB F.n F.body = true) {it : List It} {p : List Nat} {i : Nat} {dr : Bool} {log : List (List L × List L)} {kn : List (Nat × Bool)} {env : Env} {sto : Sto} {id : Nat} {ops : Array Oper} (hc : codeAt F.body p = some (.region id ops dr)) (hk : KnOk kn env)
    (h : S1 P F fr R Q (stepRg F env sto it ops.toList ⟨p, i, dr, log, kn⟩)) : Rest P F fr Q it ops dr env sto i log := by
  have hfail : Snd P F fr Q ⟨env, sto, it, some ⟨p, i, dr, log, kn⟩⟩ → Rest P F fr Q it ops dr env sto i log := fun h => h id ops hc hk
  simp only [stepRg] at h
  split at h
  · rename_i hn
    have hn := nth_none hn
    cases dr with
    | true =>
      obtain ⟨h1, h2⟩ := h
      unfold chk at h1
      rw [hc] at h1
      exact Tail.done hn h1 h2
    | false =>
      intro a w hr
      rw [show ops.size - i = 0 by omega]
      exact h a w hr
  · rename_i o ho
    have ho := nth_some ho
    split at h
    · rename_i hgd
      exact exec_snd hT hD hc ho hk (by unfold GuardOn; rw [hgd]; trivial) h
    · rename_i j want hgd
      split at h
      · rename_i t op ty pos after gd hj
        have hon : lk t env = some (.one (.bool want)) → GuardOn ops.toList o env := by
          intro hb
          unfold GuardOn
          rw [hgd]
          exact ⟨_, t, hj, rfl, hb⟩
        have hoff : lk t env = some (.one (.bool !want)) ∨ lk t env = some (.tup []) → GuardOff ops.toList o env := by
          intro hb
          unfold GuardOff
          rw [hgd]
          exact ⟨_, t, hj, rfl, hb⟩
        split at h
        · rename_i hkt
          have hb := hk t true hkt
          split at h
          · exact exec_snd hT hD hc ho hk (hon hb) h
          · exact snd_next hD hc ho hk (recA_skip ho (hoff (.inl hb))) h
        · rename_i hkt
          have hb := hk t false hkt
          split at h
          · exact exec_snd hT hD hc ho hk (hon hb) h
          · exact snd_next hD hc ho hk (recA_skip ho (hoff (.inl hb))) h
        · split at h
          · rename_i b hb
            obtain ⟨h1, h2⟩ := h
            have key : ∀ b', b = b' → Snd P F fr Q ⟨(t, .one (.bool b')) :: env, sto, it, some ⟨p, i, dr, log, (t, b') :: kn⟩⟩ → Rest P F fr Q it ops dr env sto i log := by
              rintro b' rfl hs
              have hee : ∀ u, lk u ((t, V.one (.bool b)) :: env) = lk u env := by
                intro u
                rw [lk_cons]
                split
                · rename_i e
                  subst e
                  exact hb.symm
                · rfl
              refine Rest.congr (fun u => (hee u).symm) (fun _ => rfl) (hs id ops hc fun u c hu => ?_)
              rw [hee]
              simp only [lk_cons] at hu
              split at hu
              · rename_i e
                subst e
                rw [hb, Option.some.inj hu]
              · exact hk u c hu
            cases b with
            | true => exact key true rfl (h1 rfl)
            | false => exact key false rfl (h2 rfl)
          · rename_i hb
            exact snd_next hD hc ho hk (recA_skip ho (hoff (.inr hb))) h
          · exact hfail h
      · exact hfail h
theorem step1_snd (hT : TabOk P F.tab) (hD : dstsB F.n F.body = true) (hm : P.follows .mixedOrders = true) (hE : EndOk F fr R Q) (c : Conf) (h : S1 P F fr R Q (step1 F c)) : Snd P F fr Q c := by
  obtain ⟨env, sto, it, rg⟩ := c
  have hret : ∀ c0, S1 P F fr R Q (.stop (retN F ⟨env, sto, it, none⟩ ⟨env, sto, c0, none⟩)) → (∀ a w, Rel fr F.n env sto a w → Q .normal a w ∧ Q .ret a w) ∨ Snd P F fr Q ⟨env, sto, it, none⟩ := by
    intro c0 h
    cases hx : retN F ⟨env, sto, it, none⟩ ⟨env, sto, c0, none⟩ with
    | ret v st =>
      rw [hx] at h
      exact .inl fun a w hr => hE _ _ _ _ _ v st hx h a w hr
    | fail n c =>
      rw [hx] at h
      have : c = ⟨env, sto, it, none⟩ := by
        simp only [retN] at hx
        split at hx
        · cases hx; rfl
        · split at hx
          · cases hx; rfl
          · split at hx
            · cases hx
            · cases hx; rfl
      subst this
      exact .inr h
    | cond b c1 c2 => exfalso; simp only [retN] at hx; repeat' split at hx <;> try (cases hx)
    | need ps c => exfalso; simp only [retN] at hx; repeat' split at hx <;> try (cases hx)
    | call f args st k => exfalso; simp only [retN] at hx; repeat' split at hx <;> try (cases hx)
    | loop c => exfalso; simp only [retN] at hx; repeat' split at hx <;> try (cases hx)
    | check p log c => exfalso; simp only [retN] at hx; repeat' split at hx <;> try (cases hx)
  cases rg with
  | some g =>
    obtain ⟨p, i, dr, log, kn⟩ := g
    intro id ops hc hk
    simp only [step1] at h
    rw [hc] at h
    exact rg_snd hT hD hc hk h
  | none =>
    cases it with
    | nil =>
      rcases hret [] h with h | h
      · exact fun a w hr => (h a w hr).1
      · exact h
    | cons x k =>
      cases x with
      | blk id => exact fun a w hr => h a w hr
      | scp => exact fun a w hr => h a w hr
      | lp p => exact h
      | code p =>
        intro a w hr
        rw [contK_code]
        simp only [step1] at h
        split at h
        · rename_i hc
          exact ⟨_, hc, wp_skip (h a w hr)⟩
        · rename_i hc
          exact ⟨_, hc, wp_label (h a w hr)⟩
        · rename_i x y hc
          obtain ⟨c, h1, h2⟩ := h a w hr
          rw [codeAt_cons, hc] at h1
          simp only [sub1, Option.some.injEq] at h1
          subst h1
          refine ⟨_, hc, wp_seq (wp_mono h2 fun e a w he => ?_)⟩
          cases e with
          | normal =>
            obtain ⟨c, h1, h2⟩ := he
            rw [codeAt_cons, hc] at h1
            simp only [sub1, Option.some.injEq] at h1
            subst h1
            exact h2
          | exit id => exact he
          | goto l => exact he
          | ret => exact he
          | panic ch => exact he
          | outgrown => exact he
        · rename_i x y z hc
          split at h
          · rename_i b hb
            obtain ⟨h1, h2⟩ := h
            obtain ⟨μ, G, e1, e2, e3⟩ := hr
            have hv := opnd_ok e2 hb
            simp only [repV, repA] at hv
            refine ⟨_, hc, wp_cond_split hv (fun hbt => ?_) (fun hbf => ?_)⟩
            · obtain ⟨c, k1, k2⟩ := h1 hbt a w ⟨μ, G, e1, e2, e3⟩
              rw [codeAt_cons, hc] at k1
              simp only [sub1, Option.some.injEq] at k1
              subst k1
              exact k2
            · obtain ⟨c, k1, k2⟩ := h2 hbf a w ⟨μ, G, e1, e2, e3⟩
              rw [codeAt_cons, hc] at k1
              simp only [sub1, Option.some.injEq] at k1
              subst k1
              exact k2
          · exact h a w hr
        · rename_i id x hc
          obtain ⟨c, h1, h2⟩ := h a w hr
          rw [codeAt_cons, hc] at h1
          simp only [sub1, Option.some.injEq] at h1
          subst h1
          refine ⟨_, hc, wp_block (wp_mono h2 fun e a w he => ?_)⟩
          cases e <;> exact he
        · rename_i x hc
          obtain ⟨c, h1, h2⟩ := h a w hr
          rw [codeAt_cons, hc] at h1
          simp only [sub1, Option.some.injEq] at h1
          subst h1
          refine ⟨_, hc, wp_scope_straight (wp_mono h2 fun e a w he => ?_)⟩
          cases e <;> exact he
        · rename_i x hc
          obtain ⟨c, h1, h2⟩ := h a w hr
          rw [codeAt_cons, hc] at h1
          simp only [sub1, Option.some.injEq] at h1
          subst h1
          exact ⟨_, hc, wp_of_loopWp h2⟩
        · rename_i id ops d hc
          have hk : KnOk [] env := fun t b hb => by simp [lk] at hb
          have hds := codeAt_dsts hD hc
          simp only [dstsB] at hds
          refine ⟨_, hc, ?_⟩
          cases d with
          | true => exact region_tail hm (fun o ho d hd => dstB_ok hds o ho d hd) (h id ops hc hk) hr
          | false =>
            refine wp_region ?_
            have := h id ops hc hk a w hr
            rwa [Nat.sub_zero, ← List.range_eq_range'] at this
        · rename_i id hc
          split at h
          · rename_i k' hk
            exact ⟨_, hc, wp_exit (exitK_ok hk a w (h a w hr))⟩
          · exact h a w hr
        · rename_i hc
          rcases hret (.code p :: k) h with h | h
          · exact ⟨_, hc, wp_ret (contK_ret k a w (h a w hr).2)⟩
          · exact h a w hr
        · exact h a w hr
theorem nxt_snd (hT : TabOk P F.tab) (hD : dstsB F.n F.body = true) (hm : P.follows .mixedOrders = true) (hE : EndOk F fr R Q) : ∀ (n : Nat) (c : Conf), SX P F fr R Q (nxt F n c) → Snd P F fr Q c
  | 0, c, h => h
  | n + 1, c, h => by
    refine step1_snd hT hD hm hE c ?_
    simp only [nxt] at h
    split at h
    · rename_i c' hc
      rw [hc]
      exact nxt_snd hT hD hm hE n c' h
    · rename_i x hc
      rw [hc]
      exact h
theorem nxtTo_snd (hT : TabOk P F.tab) (hD : dstsB F.n F.body = true) (hm : P.follows .mixedOrders = true) (hE : EndOk F fr R Q) (q : List Nat) : ∀ (n : Nat) (c : Conf), SX P F fr R Q (nxtTo F q n c) → Snd P F fr Q c
  | 0, c, h => h
  | n + 1, c, h => by
    simp only [nxtTo] at h
    split at h
    · exact h
    · refine step1_snd hT hD hm hE c ?_
      split at h
      · rename_i c' hc
        rw [hc]
        exact nxtTo_snd hT hD hm hE q n c' h
      · rename_i x hc
        rw [hc]
        exact h
theorem wk_snd {c c' : Conf} (ht : ∀ d j, fr.mu0 (.t d j) = none) (hw : Wk F c c') (h : Snd P F fr Q c') : Snd P F fr Q c := by
  obtain ⟨env, sto, it, rg⟩ := c
  obtain ⟨env', sto', it', rg'⟩ := c'
  obtain ⟨rfl, rfl, rfl, hw⟩ := hw
  exact fun a w hr => h a w (hw fr a w ht hr)
theorem unroll_snd {c : Conf} (h : Snd P F fr Q (unroll c)) : Snd P F fr Q c := by
  obtain ⟨env, sto, it, rg⟩ := c
  rcases it with _ | ⟨_ | _ | _ | p, k⟩
  · exact h
  · exact h
  · exact h
  · exact h
  · cases rg with
    | some g => exact h
    | none =>
      intro a w hr
      obtain ⟨c, h1, h2⟩ := h a w hr
      refine ⟨c, h1, loopWp_step (wp_mono h2 fun e a w he => ?_)⟩
      cases e with
      | normal =>
        obtain ⟨c', h3, h4⟩ := he
        rw [h1] at h3
        obtain rfl := Option.some.inj h3
        exact h4
      | exit id => exact he
      | goto l => exact he
      | ret => exact he
      | panic ch => exact he
      | outgrown => exact he
theorem nil_snd (hT : TabOk P F.tab) (hD : dstsB F.n F.body = true) {c c1 c2 : Conf} {q : Prop} (hn : nilStep F c = some (c1, c2, q)) (h1 : Snd P F fr Q c1) (h2 : q → Snd P F fr Q c2) : Snd P F fr Q c := by
  unfold nilStep at hn
  split at hn
  · rename_i env sto it p i log kn
    split at hn
    · rename_i id0 ops dr0 hc0
      split at hn
      · rename_i d t x g ty pos af ho
        split at hn
        · rename_i el et tsz tb ta tz tc e xs full htt hx
          simp only [Option.some.injEq, Prod.mk.injEq] at hn
          obtain ⟨rfl, rfl, rfl⟩ := hn
          intro id ops' hc hk
          simp only at hc hk ⊢
          rw [hc0] at hc
          obtain ⟨rfl, rfl, rfl⟩ := Code.region.inj (Option.some.inj hc)
          have ho := nth_some ho
          rw [nextOp_eq] at h1
          have hlt := (Array.getElem?_eq_some_iff.1 ho).1
          have hds := codeAt_dsts hD hc0
          simp only [dstsB] at hds
          have hdn : ∀ d', some d = some d' → d' < F.n := fun d' hd => dstB_ok hds _ (by
            have := ho
            rw [← Array.getElem?_toList] at this
            exact List.mem_of_getElem? this) d' hd
          intro a w hr
          obtain ⟨μ, G, e1, e2, e3, e4, e5⟩ := hr
          rw [show ops.size - i = (ops.size - (i + 1)) + 1 by omega, List.range'_succ, wpOps_cons]
          have hv := opnd_ok e2 hx
          simp only [repV, repA] at hv
          obtain ⟨a0, cap, hva, hcap, _, hne⟩ := hv
          have hti := hT _ _ htt
          obtain ⟨dd, hdd, hsh, _⟩ := hti.und
          have hu : P.underlying t = some (.slice et) := by rw [hdd, hsh.1]
          have hrun : (execOp a.eval ⟨some d, .binOp .eql t x (.const (.slice none 0 0)) g, ty, pos, af, none⟩).run P w = .ok (.value (.bool a0.isNone)) w := by
            have hy : a.eval (.const (.slice none 0 0)) = .slice none 0 0 := rfl
            have hb : (do eqGuard .eql t x (.const (.slice none 0 0)) (a.eval x) (a.eval (.const (.slice none 0 0))); binOp .eql t (a.eval x) (a.eval (.const (.slice none 0 0))) : Sem Value).run P w = .ok (.bool a0.isNone) w := by
              rw [hva, hy, Sem.run_bind, eqGuard_ok ⟨by simp, by simp⟩]
              simp [binOp, run_equal_slice_nil w t et a0 xs.length cap hu]
            show (do pure (.value (← (do eqGuard .eql t x (.const (.slice none 0 0)) (a.eval x) (a.eval (.const (.slice none 0 0))); binOp .eql t (a.eval x) (a.eval (.const (.slice none 0 0)))))) : Sem Next).run P w = _
            rw [Sem.run_bind, hb]
            rfl
          unfold wpOp
          rw [ho]
          simp only [Region.wanted, if_true]
          refine .inl ?_
          unfold Oper.wp
          rw [hrun]
          show wpOps P ops (contK P F.body Q it) (List.range' (i + 1) (ops.size - (i + 1))) (a.put (some d) (.bool a0.isNone)) w
          cases a0 with
          | some ad => exact h1 id0 ops hc0 (hk.put (some d) _) _ _ (Rel.step (dst := some d) (wr := []) e1 e2 e3 e4 e5 hdn (by simp only [repV, repA]; rfl) (Chg.refl e1))
          | none =>
            have hxs : xs = [] := by
              by_cases h : xs = []
              · exact h
              · obtain ⟨b, o, h4, _⟩ := hne h
                cases h4
            have h2 := h2 hxs
            rw [nextOp_eq] at h2
            exact h2 id0 ops hc0 (hk.put (some d) _) _ _ (Rel.step (dst := some d) (wr := []) e1 e2 e3 e4 e5 hdn (by simp only [repV, repA]; rfl) (Chg.refl e1))
        · cases hn
      · cases hn
    · cases hn
  · cases hn
theorem run_snd (hT : TabOk P F.tab) (hD : dstsB F.n F.body = true) (hm : P.follows .mixedOrders = true) (hE : EndOk F fr R Q) (ht : ∀ d j, fr.mu0 (.t d j) = none) {x : Nx} (h : Run P F R x) : SX P F fr R Q x := by
  induction h with
  | ret h => exact h
  | cond _ _ h1 h2 => exact ⟨fun hb => nxt_snd hT hD hm hE _ _ (h1 hb), fun hb => nxt_snd hT hD hm hE _ _ (h2 hb)⟩
  | need hp _ h => exact ⟨hp, nxt_snd hT hD hm hE _ _ h⟩
  | call hok hr _ h => exact ⟨_, _, _, hok, hr, nxt_snd hT hD hm hE _ _ h⟩
  | loop _ h => exact unroll_snd (nxt_snd hT hD hm hE _ _ h)
  | check hc _ h => exact ⟨hc, nxt_snd hT hD hm hE _ _ h⟩
  | cond0 _ _ h1 h2 => exact ⟨h1, h2⟩
  | need0 hp _ h => exact ⟨hp, h⟩
  | call0 hok hr _ h => exact ⟨_, _, _, hok, hr, h⟩
  | check0 hc _ h => exact ⟨hc, h⟩
  | go n _ h => exact nxt_snd hT hD hm hE _ _ h
  | to q n _ h => exact nxtTo_snd hT hD hm hE _ _ _ h
  | wk hw _ h => exact wk_snd ht hw h
  | wkl hw _ h => exact wk_snd ht hw h
  | nilq _ hn _ _ h1 h2 => exact nil_snd hT hD hn h1 h2
end Go.AM

/- A run gives a contract; condition: the table of types fits the program, each operation writes into a slot that is there. -/
namespace Go.AM
set_option linter.unusedVariables false
set_option linter.unusedSimpArgs false
open Go.RowKit
variable {P : Program} {μ : Mu} {w : World} {G : Nat → Prop} {sto : Sto} {F : FnI}

/-- Some blocks under the names of a call. -/
def packMu (ids : List L) (μ : Mu) : Mu := fun l => match l with | .k i => (ids[i]?).bind μ | .t _ _ => none
theorem packMu_of {ids : List L} {l m : L} (h : toK ids l = some m) {B : Blk} (hB : μ l = some B) : packMu ids μ m = some B := by
  obtain ⟨i, rfl, hi⟩ := toK_ok h
  show (ids[i]?).bind μ = some B
  rw [hi]
  exact hB
theorem pack_lk {ids : List L} {st : List (Option C)} (hp : packSto sto (toK ids) ids = some st) {i : Nat} {c' : C} (hc : lkC (.k i) (argSto 0 st) = some c') : ∃ (l : L) (c : C), ids[i]? = some l ∧ lkC l sto = some c ∧ c.ren (toK ids) = some c' := by
  obtain ⟨hpl, hpk⟩ := packSto_ok hp
  rw [lkC_some, argSto_lk] at hc
  simp only [Nat.zero_le, if_true, Nat.sub_zero] at hc
  have hi : i < ids.length := by have := (List.getElem?_eq_some_iff.1 hc).1; omega
  obtain ⟨oc, k1, k2⟩ := hpk i _ (List.getElem?_eq_getElem hi)
  rw [hc] at k1
  obtain rfl := Option.some.inj k1
  refine ⟨ids[i], ?_⟩
  split at k2
  · cases k2
  · rename_i c hcs
    obtain ⟨d', k3, k4⟩ := k2
    obtain rfl := Option.some.inj k4
    exact ⟨c, List.getElem?_eq_getElem hi, hcs, k3⟩
theorem arg_k {st : List (Option C)} {l : L} {c : C} (hc : lkC l (argSto 0 st) = some c) : ∃ i, l = .k i := by
  cases l with
  | k i => exact ⟨i, rfl⟩
  | t d j => rw [lkC_some, argSto_lk] at hc; cases hc
theorem pack_live {ids : List L} {st : List (Option C)} (hp : packSto sto (toK ids) ids = some st) {b : Nat} (hl : Live (packMu ids μ) (argSto 0 st) b) : ∃ (i : Nat) (l : L) (c : C) (B : Blk), ids[i]? = some l ∧ lkC l sto = some c ∧ μ l = some B ∧ B.virt = false ∧ B.b = b := by
  obtain ⟨l, c', B, h1, h2, h3, h4⟩ := hl
  obtain ⟨i, rfl⟩ := arg_k h1
  obtain ⟨l, c, k1, k2, k3⟩ := pack_lk hp h1
  refine ⟨i, l, c, B, k1, k2, ?_, h3, h4⟩
  have : (ids[i]?).bind μ = some B := h2
  rwa [k1] at this
theorem hr_pack (h : HR μ G sto w) {ids : List L} {st : List (Option C)} (hp : packSto sto (toK ids) ids = some st) (hnd : nodupL ids = true) : HR (packMu ids μ) G (argSto 0 st) w := by
  obtain ⟨hpl, hpk⟩ := packSto_ok hp
  refine ⟨fun l c' hc => ?_, fun l B hB => ?_, fun l l' c c' B B' hc hc' hB hB' hv hv' hne => ?_, h.good, h.tab⟩
  · obtain ⟨i, rfl⟩ := arg_k hc
    obtain ⟨l0, c, k1, k2, k3⟩ := pack_lk hp hc
    obtain ⟨B, e1, e2, e3⟩ := h.live l0 c k2
    have hB : packMu ids μ (.k i) = some B := by show (ids[i]?).bind μ = some B; rw [k1]; exact e1
    exact ⟨B, hB, crep_ren (fun l m hm B hB => packMu_of hm hB) k3 e2, e3⟩
  · cases l with
    | t d j => cases hB
    | k i =>
      have hB' : (ids[i]?).bind μ = some B := hB
      obtain ⟨l0, k1, _⟩ := Option.bind_eq_some_iff.mp hB'
      rw [argSto_lk]
      simp only [Nat.zero_le, if_true, Nat.sub_zero]
      rw [List.getElem?_eq_getElem (by have := (List.getElem?_eq_some_iff.1 k1).1; omega)]
      rfl
  · obtain ⟨i, rfl⟩ := arg_k hc
    obtain ⟨j, rfl⟩ := arg_k hc'
    obtain ⟨l0, c0, k1, k2, k3⟩ := pack_lk hp hc
    obtain ⟨l1, c1, m1, m2, m3⟩ := pack_lk hp hc'
    have e1 : μ l0 = some B := by have : (ids[i]?).bind μ = some B := hB; rwa [k1] at this
    have e2 : μ l1 = some B' := by have : (ids[j]?).bind μ = some B' := hB'; rwa [m1] at this
    refine h.apart l0 l1 c0 c1 B B' k2 m2 e1 e2 hv hv' fun e => hne ?_
    subst e
    rw [nodupL_ok hnd i j l0 k1 m1]
theorem prefK_ok : ∀ {n i : Nat} {ids : List L}, prefK n i ids = true → ∀ j, j < n → ids[j]? = some (.k (i + j))
  | 0, i, ids, _, j, hj => by omega
  | n + 1, i, [], h, j, hj => by simp [prefK] at h
  | n + 1, i, l :: ids, h, j, hj => by
    simp only [prefK] at h
    split at h
    · rename_i hb
      have := (L.beq_iff l (.k i)).mp hb
      cases j with
      | zero => simp [this]
      | succ j =>
        have := prefK_ok h j (by omega)
        rw [List.getElem?_cons_succ, this]
        congr 2
        omega
    · cases h
def resOne (tmps : Array Value) : ResultVar → Sem Value
  | .tmp t => pure (tmps.getD t undef)
  | .cell ad t => do loadVar t (← asAddr (tmps.getD ad undef))
theorem results_eq (fn : Func) (tmps : Array Value) : results fn tmps = (do
  let vs ← fn.results.mapM (resOne tmps)
  pure (if h : vs.size = 1 then vs[0] else .tuple vs)) := rfl
theorem load_all (hT : TabOk P F.tab) (h : HR μ G sto w) {a : Act} {env : Env} (he : ER μ G env w a) : ∀ {rs : List ResultVar} {vs : List V}, resV F.tab env sto rs = some vs →
    ∃ us : List Value, (rs.mapM (m := Sem) (resOne a.tmps)).run P w = .ok us w ∧ repVs μ w G vs us
  | [], vs, hv => by
    simp only [resV, Option.some.injEq] at hv
    subst hv
    exact ⟨[], by simp, by simp [repVs]⟩
  | .tmp t :: rs, vs, hv => by
    simp only [resV] at hv
    split at hv
    · rename_i v vs' h1 h2
      obtain rfl := Option.some.inj hv
      obtain ⟨us, e1, e2⟩ := load_all hT h he h2
      obtain ⟨u, e3, e4⟩ := he t v h1
      refine ⟨u :: us, ?_, ?_⟩
      · rw [List.mapM_cons]
        simp only [resOne, Sem.run_bind, Sem.run_pure, Result.andThen_ok, e1]
        rw [Array.getD_eq_getD_getElem?, e3]
        rfl
      · simp only [repVs]
        exact ⟨u, us, rfl, e4, e2⟩
    · cases hv
  | .cell t ty :: rs, vs, hv => by
    simp only [resV] at hv
    split at hv
    · rename_i l tt vs' h1 ht h2
      split at hv
      · rename_i as hc
        split at hv
        · rename_i v hlen hvo
          obtain rfl := Option.some.inj hv
          obtain ⟨us, e1, e2⟩ := load_all hT h he h2
          obtain ⟨u, e3, e4⟩ := he t _ h1
          simp only [repV, repA] at e4
          obtain ⟨B, hB, rfl⟩ := e4
          obtain ⟨hcr, _⟩ := h.get hc hB
          obtain ⟨_, ws, te, k1, k2⟩ := hcr
          have hr : w.rangeAt B.b 0 ws.toList := (rangeAt_iff k1 _).mpr (by intro k v hk; simpa using hk)
          have hl : ws.toList.length = tt.sz := by
            have := ((repAs_iff _ _).mp k2).length
            rw [this]
            exact Nat.eq_of_beq_eq_true hlen
          obtain ⟨x, m1, m2⟩ := load_core (hT _ _ ht) hr hl hvo k2
          refine ⟨x :: us, ?_, ?_⟩
          · rw [List.mapM_cons]
            have m1' : (loadVar ty ⟨B.b, 0, none⟩).run P w = .ok x w := by
              simpa [Instr.loadAt, Instr.sureAddr] using m1
            have e3' : a.tmps.getD t undef = .pointer (some ⟨B.b, 0, none⟩) := by
              rw [Array.getD_eq_getD_getElem?, e3]
              rfl
            have hone : (resOne a.tmps (.cell t ty)).run P w = .ok x w := by
              simp only [resOne, e3', asAddr, Sem.run_bind, Sem.run_pure, Result.andThen_ok, m1']
            simp only [Sem.run_bind, Sem.run_pure, Result.andThen_ok, hone, e1]
          · simp only [repVs]
            exact ⟨x, us, rfl, m2, e2⟩
        · cases hv
      · cases hv
    · cases hv
theorem retV_ok {vs : List V} {us : List Value} (h : repVs μ w G vs us) : repV μ w G (retV vs) (if h : us.toArray.size = 1 then us.toArray[0] else .tuple us.toArray) := by
  rcases vs with _ | ⟨v, _ | ⟨v', vs⟩⟩
  · simp only [repVs] at h
    subst h
    simp only [retV, repV]
    exact ⟨#[], rfl, by simp [repVs]⟩
  · simp only [repVs] at h
    obtain ⟨u, us', rfl, h1, rfl⟩ := h
    simpa [retV] using h1
  · simp only [repVs] at h
    obtain ⟨u, us', rfl, h1, u2, us2, rfl, h2, h3⟩ := h
    simp only [retV]
    rw [dif_neg (by simp)]
    simp only [repV]
    refine ⟨_, rfl, ?_⟩
    simp only [repVs]
    exact ⟨u, _, rfl, h1, u2, us2, rfl, h2, h3⟩
theorem argEnv_lk : ∀ (vs : List V) (i t : Nat), lk t (argEnv i vs) = if i ≤ t then vs[t - i]? else none
  | [], i, t => by simp [argEnv, lk]
  | v :: vs, i, t => by
    simp only [argEnv]
    rw [lk_cons, argEnv_lk vs (i + 1) t]
    by_cases h : t = i
    · subst h; simp
    · rw [if_neg h]
      by_cases h' : i ≤ t
      · rw [if_pos h', if_pos (by omega), show t - i = t - (i + 1) + 1 by omega]
        simp
      · rw [if_neg h', if_neg (by omega)]
theorem repVs_get {vs : List V} {us : List Value} (h : repVs μ w G vs us) : ∀ (i : Nat) v, vs[i]? = some v → ∃ u, us[i]? = some u ∧ repV μ w G v u :=
  ((repVs_iff _ _).mp h).get
/-- A run gives a contract. -/
theorem Ok.of_run {f : FuncId} {fn : Func} {c : Code} (hf : P.funcs[f]? = some fn) (hb : fn.body = some c) (hn : (fn.name == "runtime.NumGoroutine") = false) (hT : TabOk P F.tab) (hm : P.follows .mixedOrders = true) (hFb : F.body = c) (hFr : F.res = fn.results.toList) (hFn : F.n = fn.ntmps) (hD : dstsB F.n F.body = true)
    {args : List V} {st st' : List (Option C)} {res : V} (hFm : F.m = st.length) (hal : args.length ≤ F.n) (hsl : st.length ≤ st'.length) (h : Run P F (fun v s => v = res ∧ s = st') (.fail 0 (start args st))) : Ok P f args st res st' := by
  refine ⟨hsl, fun w μ G cargs hr hv => .inl ⟨fn, c, hf, hb, hn, ?_⟩⟩
  have hcl : cargs.toList.length = args.length := ((repVs_iff _ _).mp hv).length
  refine calls_of_wp hf hb ?_
  let fr : Fr := ⟨w, μ, G, Live μ (argSto 0 st)⟩
  have ht : ∀ d j, fr.mu0 (.t d j) = none := by
    intro d j
    cases e : μ (.t d j) with
    | none => exact e
    | some B =>
      have := hr.known _ _ e
      rw [argSto_lk] at this
      cases this
  have hkn : ∀ l B, μ l = some B → ∃ i, l = .k i ∧ i < st.length := by
    intro l B hB
    cases l with
    | t d j => have := ht d j; rw [show fr.mu0 (.t d j) = μ (.t d j) from rfl, hB] at this; cases this
    | k i =>
      have := hr.known _ _ hB
      rw [argSto_lk] at this
      simp only [Nat.zero_le, if_true, Nat.sub_zero] at this
      obtain ⟨oc, ho⟩ := Option.isSome_iff_exists.mp this
      exact ⟨i, rfl, (List.getElem?_eq_some_iff.1 ho).1⟩
  let Q := bodyPost P fn (fun e w' => ∃ u, e = .returned u ∧ ∃ μ' G', repV μ' w' G' res u ∧ Pst μ G (argSto 0 st) w (argSto 0 st') μ' G' w')
  have hE : EndOk F fr (fun v s => v = res ∧ s = st') Q := by
    intro env sto it rg c0 v s hret hR a w' hrel
    obtain ⟨rfl, rfl⟩ := hR
    have main : a.defers = [] ∧ ∃ x, (results fn a.tmps).run P w' = .ok x w' ∧ ∃ u, (Ending.returned x) = .returned u ∧ ∃ μ' G', repV μ' w' G' v u ∧ Pst μ G (argSto 0 st) w (argSto 0 s) μ' G' w' := by
      obtain ⟨μ', G', h1, h2, h3, h4, h5⟩ := hrel
      refine ⟨h4, ?_⟩
      simp only [retN] at hret
      split at hret
      · cases hret
      · rename_i vs hvs
        split at hret
        · cases hret
        · rename_i ids hids
          split at hret
          · rename_i v' s' hren hpack hnd hpre
            obtain ⟨rfl, rfl⟩ := Nx.ret.inj hret
            rw [hFr] at hvs
            obtain ⟨us, k1, k2⟩ := load_all hT h1 h2 hvs
            have hres : (results fn a.tmps).run P w' = .ok (if h : us.toArray.size = 1 then us.toArray[0] else .tuple us.toArray) w' := by
              rw [results_eq, Sem.run_bind, Array.mapM_eq_mapM_toList, Sem.run_map, k1]
              simp
            refine ⟨_, hres, _, rfl, packMu ids μ', G', repV_ren (fun l m hm B hB => packMu_of hm hB) _ _ _ hren (retV_ok k2), ?_⟩
            have hpf := prefK_ok hpre
            rw [hFm] at hpf
            refine ⟨hr_pack h1 hpack hnd, fun i hi => ?_, fun b hb => (h3.good b hb).elim .inl fun h => h.elim (fun h => .inr (.inr h)) fun h => .inr (.inl h), h3.frame, h3.size, h3.os, h3.tape, h3.output, fun l B hB => ?_, fun b hb => ?_⟩
            · rw [argSto_lk] at hi
              simp only [Nat.zero_le, if_true, Nat.sub_zero] at hi
              obtain ⟨oc, ho⟩ := Option.isSome_iff_exists.mp hi
              have := hpf i (List.getElem?_eq_some_iff.1 ho).1
              show (ids[i]?).bind μ' = μ (.k i)
              rw [this, Nat.zero_add]
              exact h3.kk i
            · cases l with
              | t d j => cases hB
              | k i =>
                have hB' : (ids[i]?).bind μ' = some B := hB
                obtain ⟨l0, m1, m2⟩ := Option.bind_eq_some_iff.mp hB'
                rcases h3.new l0 B m2 with e | e | e | e
                · obtain ⟨j, rfl, hj⟩ := hkn l0 B e
                  have := hpf j hj
                  rw [Nat.zero_add] at this
                  rw [nodupL_ok hnd i j _ m1 this]
                  exact .inl e
                · exact .inr (.inl e)
                · exact .inr (.inr (.inl e))
                · exact .inr (.inr (.inr e))
            · obtain ⟨i, l, c, B, m1, m2, m3, m4, rfl⟩ := pack_live hpack hb
              exact h3.live _ ⟨l, c, B, m2, m3, m4, rfl⟩
          · cases hret
    exact ⟨main, main⟩
  have hs := run_snd hT hD hm hE ht h
  have hstart : Rel fr F.n (argEnv 0 args) (argSto 0 st) { tmps := cargs ++ Array.replicate (fn.ntmps - cargs.size) undef, defers := [] } w := by
    refine ⟨μ, G, hr, fun t v hv' => ?_, ⟨rfl, rfl, rfl, Nat.le_refl _, fun _ _ _ => rfl, fun b hb => .inl hb, fun _ _ h => h, fun b hb => .inl hb, fun l B h => .inl h, fun _ => rfl⟩, rfl, ?_⟩
    · rw [argEnv_lk] at hv'
      simp only [Nat.zero_le, if_true, Nat.sub_zero] at hv'
      obtain ⟨u, e1, e2⟩ := repVs_get hv t v hv'
      refine ⟨u, ?_, e2⟩
      have hlt := (List.getElem?_eq_some_iff.1 e1).1
      rw [Array.getElem?_append_left (by simpa using hlt)]
      simpa using e1
    · rw [Array.size_append, Array.size_replicate, hFn]
      rw [hFn] at hal
      have : cargs.size = args.length := by simpa using hcl
      omega
  obtain ⟨c', e1, e2⟩ := hs _ _ hstart
  rw [hFb] at e1 e2
  simp only [codeAt, Option.some.injEq] at e1
  subst e1
  exact wp_mono e2 fun e a w h => h
end Go.AM

/- A state seen with less: slots left out, places under new names, what is read only from now on; condition: the check. -/
namespace Go.AM
set_option linter.unusedVariables false
set_option linter.unusedSimpArgs false
open Go.RowKit
variable {P : Program} {μ : Mu} {w : World} {G : Nat → Prop} {sto : Sto} {F : FnI}

/-- New names, empty slices that become places, places that are read only from now on. -/
structure Wm where
  ρ : List (L × L)
  vs : List (L × El)
  fz : List L
def Wm.fwd (m : Wm) : L → Option L
  | .k i => some (.k i)
  | .t d j => lkL (.t d j) m.ρ
def invL (l : L) : List (L × L) → Option L
  | [] => none
  | (a, b) :: r => match L.beq l b with
    | true => some a
    | false => invL l r
def Wm.inv (m : Wm) : L → Option L
  | .k i => some (.k i)
  | .t d j => invL (.t d j) m.ρ
def castA (m : Wm) (sto : Sto) (a a' : A) : Option A := match a, a' with
  | .nil, .own l' => match lkL l' m.vs with
    | some _ => some (.own l')
    | none => none
  | .nil, .lst e _ _ => some (.lst e [] false)
  | .own l, .lst _ _ _ => match memL l m.fz, lkC l sto with
    | true, some (.row e xs) => some (.lst e xs false)
    | _, _ => none
  | .lst e xs _, .lst _ _ false => some (.lst e xs false)
  | a, _ => a.ren m.fwd
def castL (m : Wm) (sto : Sto) : List A → List A → Option (List A)
  | [], _ => some []
  | a :: as, a' :: as' => match castA m sto a a', castL m sto as as' with
    | some b, some bs => some (b :: bs)
    | _, _ => none
  | _ :: _, [] => none
def castV (m : Wm) (sto : Sto) : V → V → Option V
  | .one a, .one a' => match castA m sto a a' with
    | some b => some (.one b)
    | none => none
  | .agg as, .agg as' => match castL m sto as as' with
    | some bs => some (.agg bs)
    | none => none
  | v, _ => v.ren m.fwd
def castC (m : Wm) (sto : Sto) : C → C → Option C
  | .cells as, .cells as' => match castL m sto as as' with
    | some bs => some (.cells bs)
    | none => none
  | .row e xs, _ => some (.row e xs)
  | _, _ => none
def castE (m : Wm) (sto : Sto) (env : Env) (t : Nat) (v' : V) : Option V := match lk t env with
  | some v => castV m sto v v'
  | none => none
def castS (m : Wm) (sto : Sto) (l' : L) (c' : C) : Option C := match lkL l' m.vs with
  | some e => some (.row e [])
  | none => match m.inv l' with
    | some l => match memL l m.fz, lkC l sto with
      | false, some c => castC m sto c c'
      | _, _ => none
    | none => none
def wkEnv (m : Wm) (sto : Sto) (env : Env) : Env → Prop
  | [] => True
  | (t, v') :: r => castE m sto env t v' = some v' ∧ wkEnv m sto env r
def wkSto (m : Wm) (sto : Sto) : Sto → Prop
  | [] => True
  | (_, none) :: r => wkSto m sto r
  | (l', some c') :: r => castS m sto l' c' = some c' ∧ wkSto m sto r
theorem wkEnv_nil {m : Wm} {sto : Sto} {env : Env} : wkEnv m sto env [] := trivial
theorem wkEnv_cons {m : Wm} {sto : Sto} {env r : Env} {t : Nat} {v : V} (h : castE m sto env t v = some v) (k : wkEnv m sto env r) : wkEnv m sto env ((t, v) :: r) := ⟨h, k⟩
theorem wkSto_nil {m : Wm} {sto : Sto} : wkSto m sto [] := trivial
theorem wkSto_none {m : Wm} {sto r : Sto} {l : L} (k : wkSto m sto r) : wkSto m sto ((l, none) :: r) := k
theorem wkSto_some {m : Wm} {sto r : Sto} {l : L} {c : C} (h : castS m sto l c = some c) (k : wkSto m sto r) : wkSto m sto ((l, some c) :: r) := ⟨h, k⟩
def isT : L → Bool
  | .t _ _ => true
  | .k _ => false
def hasK (l : L) (s : Sto) : Bool := match lkL l s with
  | some _ => true
  | none => false
def chk1 (s' : Sto) : List (L × L) → Bool
  | [] => true
  | (a, b) :: r => isT a && isT b && hasK b s' && chk1 s' r
def chk2 (s' : Sto) : List (L × El) → Bool
  | [] => true
  | (a, _) :: r => isT a && hasK a s' && chk2 s' r
def chk3 (s' : Sto) : Sto → Bool
  | [] => true
  | (.k i, _) :: r => hasK (.k i) s' && chk3 s' r
  | (.t _ _, _) :: r => chk3 s' r
def chk0 (s : Sto) : List (L × L) → Bool
  | [] => true
  | (a, _) :: r => match lkC a s with
    | some _ => chk0 s r
    | none => false
def chkW (m : Wm) (sto sto' : Sto) : Bool := chk0 sto m.ρ && (nodupL (m.ρ.map (·.1)) && nodupL (m.ρ.map (·.2) ++ m.vs.map (·.1)) && chk1 sto' m.ρ && chk2 sto' m.vs && chk3 sto' sto)

theorem nodupL_nodup : ∀ {ls : List L}, nodupL ls = true → ls.Nodup
  | [], _ => List.nodup_nil
  | l :: ls, h => by
    simp only [nodupL] at h
    split at h
    · cases h
    · rename_i hn
      exact List.nodup_cons.mpr ⟨idx_none hn, nodupL_nodup h⟩
theorem lkL_mem {β : Type} : ∀ {s : List (L × β)} {l : L} {b : β}, lkL l s = some b → (l, b) ∈ s
  | [], l, b, h => by simp [lkL] at h
  | (u, v) :: s, l, b, h => by
    rw [lkL_cons] at h
    split at h
    · rename_i e
      subst e
      obtain rfl := Option.some.inj h
      exact List.mem_cons_self
    · exact List.mem_cons_of_mem _ (lkL_mem h)
theorem lk_mem {β : Type} : ∀ {s : List (Nat × β)} {l : Nat} {b : β}, lk l s = some b → (l, b) ∈ s
  | [], l, b, h => by simp [lk] at h
  | (u, v) :: s, l, b, h => by
    rw [lk_cons] at h
    split at h
    · rename_i e
      subst e
      obtain rfl := Option.some.inj h
      exact List.mem_cons_self
    · exact List.mem_cons_of_mem _ (lk_mem h)
theorem invL_mem : ∀ {s : List (L × L)} {l a : L}, invL l s = some a → (a, l) ∈ s
  | [], l, a, h => by simp [invL] at h
  | (u, v) :: s, l, a, h => by
    simp only [invL] at h
    split at h
    · rename_i e
      rw [L.beq_iff] at e
      subst e
      obtain rfl := Option.some.inj h
      exact List.mem_cons_self
    · exact List.mem_cons_of_mem _ (invL_mem h)
theorem invL_of : ∀ {s : List (L × L)} {l a : L}, (s.map (·.2)).Nodup → (a, l) ∈ s → invL l s = some a
  | [], l, a, _, h => by cases h
  | (u, v) :: s, l, a, hn, h => by
    simp only [List.map_cons, List.nodup_cons] at hn
    simp only [invL]
    rcases List.mem_cons.mp h with q | q
    · obtain ⟨rfl, rfl⟩ := Prod.mk.inj q
      rw [(L.beq_iff l l).mpr rfl]
    · split
      · rename_i e
        rw [L.beq_iff] at e
        subst e
        exact absurd (List.mem_map_of_mem (f := (·.2)) q) hn.1
      · exact invL_of hn.2 q
theorem fst_inj : ∀ {s : List (L × L)} {l a b : L}, (s.map (·.1)).Nodup → (l, a) ∈ s → (l, b) ∈ s → a = b
  | [], l, a, b, _, h, _ => by cases h
  | (u, v) :: s, l, a, b, hn, h, h' => by
    simp only [List.map_cons, List.nodup_cons] at hn
    rcases List.mem_cons.mp h with q | q <;> rcases List.mem_cons.mp h' with q' | q'
    · rw [(Prod.mk.inj q).2, (Prod.mk.inj q').2]
    · obtain ⟨rfl, rfl⟩ := Prod.mk.inj q
      exact absurd (List.mem_map_of_mem (f := (·.1)) q') hn.1
    · obtain ⟨rfl, rfl⟩ := Prod.mk.inj q'
      exact absurd (List.mem_map_of_mem (f := (·.1)) q) hn.1
    · exact fst_inj hn.2 q q'
theorem chk1_ok {s' : Sto} : ∀ {r : List (L × L)}, chk1 s' r = true → ∀ a b, (a, b) ∈ r → isT a = true ∧ isT b = true ∧ hasK b s' = true
  | [], _, a, b, h => by cases h
  | (u, v) :: r, hc, a, b, h => by
    simp only [chk1, Bool.and_eq_true] at hc
    rcases List.mem_cons.mp h with h | h
    · obtain ⟨rfl, rfl⟩ := Prod.mk.inj h
      exact ⟨hc.1.1.1, hc.1.1.2, hc.1.2⟩
    · exact chk1_ok hc.2 a b h
theorem chk2_ok {s' : Sto} : ∀ {r : List (L × El)}, chk2 s' r = true → ∀ a b, (a, b) ∈ r → isT a = true ∧ hasK a s' = true
  | [], _, a, b, h => by cases h
  | (u, v) :: r, hc, a, b, h => by
    simp only [chk2, Bool.and_eq_true] at hc
    rcases List.mem_cons.mp h with h | h
    · obtain ⟨rfl, rfl⟩ := Prod.mk.inj h
      exact ⟨hc.1.1, hc.1.2⟩
    · exact chk2_ok hc.2 a b h
theorem chk3_ok {s' : Sto} : ∀ {s : Sto}, chk3 s' s = true → ∀ i, (lkL (.k i) s).isSome = true → hasK (.k i) s' = true
  | [], _, i, h => by simp [lkL] at h
  | (.k j, o) :: s, hc, i, h => by
    simp only [chk3, Bool.and_eq_true] at hc
    rw [lkL_cons] at h
    split at h
    · rename_i e
      rw [e]
      exact hc.1
    · exact chk3_ok hc.2 i h
  | (.t d j, o) :: s, hc, i, h => by
    simp only [chk3] at hc
    rw [lkL_cons, if_neg (by simp)] at h
    exact chk3_ok hc i h
theorem castA_ok (h : HR μ G sto w) {m : Wm} {μ' : Mu} {G' : Nat → Prop} (hf : ∀ l l', m.fwd l = some l' → ∀ B, μ l = some B → μ' l' = some B) (hG : ∀ b, G b → G' b) (hvs : ∀ l' e, lkL l' m.vs = some e → μ' l' = some ⟨none, 0, 0, 0, e.sz, true⟩)
    (hz : ∀ l, memL l m.fz = true → ∀ c B, lkC l sto = some c → μ l = some B → B.virt = false → G' B.b) {a a' b : A} {v : Value} (hc : castA m sto a a' = some b) (hr : repA μ w G a v) : repA μ' w G' b v := by
  unfold castA at hc
  split at hc
  · rename_i l'
    split at hc
    · rename_i e he
      obtain rfl := Option.some.inj hc
      simp only [repA] at hr ⊢
      exact ⟨_, hvs _ _ he, hr⟩
    · cases hc
  · rename_i e _ _
    obtain rfl := Option.some.inj hc
    simp only [repA] at hr ⊢
    subst hr
    exact ⟨none, 0, rfl, Nat.le_refl _, by simp, fun h => absurd rfl h⟩
  · rename_i l _ _ _
    split at hc
    · rename_i e xs hm hl
      obtain rfl := Option.some.inj hc
      have hgo : (lendA (some e) (.own l)).go sto [] [] = .ok (.lst e xs false, [l]) [l] [] := by
        simp only [lendA, M.go, hl]
      have x := lendA_ok (G' := G') h hgo (fun p hp => by cases hp) hr hG fun l2 hl2 c B k1 k2 k3 => by
        obtain rfl := List.mem_singleton.mp hl2
        exact hz l2 hm c B k1 k2 k3
      simp only [repA] at x ⊢
      exact x
    · cases hc
  · rename_i e xs f _ _
    obtain rfl := Option.some.inj hc
    have := repA_mono (μ := μ) (μ' := μ) (fun _ _ h => h) (fun _ _ => rfl) hG _ _ hr
    simp only [repA] at this ⊢
    obtain ⟨a, cap, h1, h2, h3, h4⟩ := this
    exact ⟨a, cap, h1, h2, by simp, h4⟩
  · exact repA_mono (fun _ _ h => h) (fun _ _ => rfl) hG _ _ (repA_ren hf _ _ _ hc hr)
theorem castL_ok (h : HR μ G sto w) {m : Wm} {μ' : Mu} {G' : Nat → Prop} (hf : ∀ l l', m.fwd l = some l' → ∀ B, μ l = some B → μ' l' = some B) (hG : ∀ b, G b → G' b) (hvs : ∀ l' e, lkL l' m.vs = some e → μ' l' = some ⟨none, 0, 0, 0, e.sz, true⟩)
    (hz : ∀ l, memL l m.fz = true → ∀ c B, lkC l sto = some c → μ l = some B → B.virt = false → G' B.b) : ∀ {as as' bs : List A} {us : List Value}, castL m sto as as' = some bs → repAs μ w G as us → repAs μ' w G' bs us
  | [], _, bs, us, hc, hr => by
    simp only [castL, Option.some.injEq] at hc
    subst hc
    simpa only [repAs] using hr
  | a :: as, [], bs, us, hc, hr => by simp [castL] at hc
  | a :: as, a' :: as', bs, us, hc, hr => by
    simp only [castL] at hc
    split at hc
    · rename_i b bs' h1 h2
      obtain rfl := Option.some.inj hc
      simp only [repAs] at hr ⊢
      obtain ⟨u, us', rfl, k1, k2⟩ := hr
      exact ⟨u, us', rfl, castA_ok h hf hG hvs hz h1 k1, castL_ok h hf hG hvs hz h2 k2⟩
    · cases hc
theorem castV_ok (h : HR μ G sto w) {m : Wm} {μ' : Mu} {G' : Nat → Prop} (hf : ∀ l l', m.fwd l = some l' → ∀ B, μ l = some B → μ' l' = some B) (hG : ∀ b, G b → G' b) (hvs : ∀ l' e, lkL l' m.vs = some e → μ' l' = some ⟨none, 0, 0, 0, e.sz, true⟩)
    (hz : ∀ l, memL l m.fz = true → ∀ c B, lkC l sto = some c → μ l = some B → B.virt = false → G' B.b) {a a' b : V} {v : Value} (hc : castV m sto a a' = some b) (hr : repV μ w G a v) : repV μ' w G' b v := by
  unfold castV at hc
  split at hc
  · split at hc
    · rename_i h1
      obtain rfl := Option.some.inj hc
      simp only [repV] at hr ⊢
      exact castA_ok h hf hG hvs hz h1 hr
    · cases hc
  · split at hc
    · rename_i h1
      obtain rfl := Option.some.inj hc
      simp only [repV] at hr ⊢
      obtain ⟨us, rfl, k⟩ := hr
      exact ⟨us, rfl, castL_ok h hf hG hvs hz h1 k⟩
    · cases hc
  · exact repV_mono (fun _ _ h => h) (fun _ _ => rfl) hG _ _ (repV_ren hf _ _ _ hc hr)
theorem castC_ok (h : HR μ G sto w) {m : Wm} {μ' : Mu} {G' : Nat → Prop} (hf : ∀ l l', m.fwd l = some l' → ∀ B, μ l = some B → μ' l' = some B) (hG : ∀ b, G b → G' b) (hvs : ∀ l' e, lkL l' m.vs = some e → μ' l' = some ⟨none, 0, 0, 0, e.sz, true⟩)
    (hz : ∀ l, memL l m.fz = true → ∀ c B, lkC l sto = some c → μ l = some B → B.virt = false → G' B.b) {a a' b : C} {B : Blk} (hc : castC m sto a a' = some b) (hr : crep μ w G B a) : crep μ' w G' B b := by
  unfold castC at hc
  split at hc
  · split at hc
    · rename_i h1
      obtain rfl := Option.some.inj hc
      obtain ⟨k1, us, te, k2, k3⟩ := hr
      exact ⟨k1, us, te, k2, castL_ok h hf hG hvs hz h1 k3⟩
    · cases hc
  · obtain rfl := Option.some.inj hc
    obtain ⟨h1, h2, h3, h4, h5⟩ := hr
    refine ⟨h1, h2, h3, h4, fun hv => ?_⟩
    obtain ⟨h6, arr, te, h7, h8, h9⟩ := h5 hv
    refine ⟨h6, arr, te, h7, h8, fun i x hx => ?_⟩
    obtain ⟨us, k1, k2⟩ := h9 i x hx
    exact ⟨us, enc_rep _ x k1 hG, k2⟩
  · cases hc
theorem wkEnv_ok {m : Wm} {env : Env} : ∀ {env' : Env}, wkEnv m sto env env' → ∀ t v', (t, v') ∈ env' → ∃ v, lk t env = some v ∧ castV m sto v v' = some v'
  | [], _, t, v', h => by cases h
  | (u, x) :: r, hw, t, v', h => by
    obtain ⟨h1, h2⟩ := hw
    rcases List.mem_cons.mp h with h | h
    · obtain ⟨rfl, rfl⟩ := Prod.mk.inj h
      unfold castE at h1
      split at h1
      · rename_i v hv
        exact ⟨v, hv, h1⟩
      · cases h1
    · exact wkEnv_ok h2 t v' h
theorem wkSto_ok {m : Wm} : ∀ {sto' : Sto}, wkSto m sto sto' → ∀ l' c', (l', some c') ∈ sto' → (∃ e, lkL l' m.vs = some e ∧ c' = .row e []) ∨ (lkL l' m.vs = none ∧ ∃ l c, m.inv l' = some l ∧ memL l m.fz = false ∧ lkC l sto = some c ∧ castC m sto c c' = some c')
  | [], _, l', c', h => by cases h
  | (u, none) :: r, hw, l', c', h => by
    rcases List.mem_cons.mp h with h | h
    · cases (Prod.mk.inj h).2
    · exact wkSto_ok (sto' := r) hw l' c' h
  | (u, some x) :: r, hw, l', c', h => by
    obtain ⟨h1, h2⟩ := hw
    rcases List.mem_cons.mp h with h | h
    · obtain ⟨rfl, hx⟩ := Prod.mk.inj h
      obtain rfl := Option.some.inj hx
      unfold castS at h1
      split at h1
      · rename_i e he
        exact .inl ⟨e, he, (Option.some.inj h1).symm⟩
      · rename_i hn
        refine .inr ⟨hn, ?_⟩
        split at h1
        · rename_i l hl
          split at h1
          · rename_i c hm hc
            exact ⟨l, c, hl, hm, hc, h1⟩
          · cases h1
        · cases h1
    · exact wkSto_ok h2 l' c' h
theorem Wk.of {env env' : Env} {sto sto' : Sto} {it : List It} (m : Wm) (hc : chkW m sto sto' = true) (he : wkEnv m sto env env') (hs : wkSto m sto sto') : Wk F ⟨env, sto, it, none⟩ ⟨env', sto', it, none⟩ := by
  refine ⟨rfl, rfl, rfl, fun fr a w ht hr => ?_⟩
  obtain ⟨μ, G, h1, h2, h3, h4, h5⟩ := hr
  simp only at h1 h2 h3 ⊢
  simp only [chkW, Bool.and_eq_true] at hc
  obtain ⟨_, ⟨⟨⟨c1, c2⟩, c3⟩, c4⟩, c5⟩ := hc
  have n1 := nodupL_nodup c1
  have n2 := nodupL_nodup c2
  rw [List.nodup_append] at n2
  obtain ⟨n2, n3, n4⟩ := n2
  have k1 := chk1_ok c3
  have k2 := chk2_ok c4
  let ls : Sto := m.fz.map fun l => (l, none)
  have hlsk : ∀ l, (lkL l ls).isSome = true ↔ memL l m.fz = true := by
    intro l
    show (lkL l (m.fz.map fun l => (l, none))).isSome = true ↔ _
    generalize m.fz = fz
    induction fz with
    | nil => simp [lkL, memL]
    | cons x fz ih =>
      rw [List.map_cons, lkL_cons]
      simp only [memL]
      by_cases e : l = x
      · rw [if_pos e, (L.beq_iff l x).mpr e]; simp
      · rw [if_neg e]
        have : L.beq l x = false := by
          cases hb : L.beq l x with
          | false => rfl
          | true => exact absurd ((L.beq_iff l x).mp hb) e
        rw [this]
        exact ih
  have hls : AllNone ls := by
    intro l c hl
    obtain ⟨x, _, hx⟩ := List.mem_map.mp (lkL_mem hl)
    exact (Prod.mk.inj hx).2.symm
  let G' := Frz μ G sto ls
  have H1 : HR μ G' (ls ++ sto) w := h1.frz hls
  have hG : ∀ b, G b → G' b := fun b hb => .inl hb
  let μ' : Mu := fun l' => match l' with
    | .k i => μ (.k i)
    | .t d j => if hasK (.t d j) sto' = true then (match lkL (.t d j) m.vs with | some e => some ⟨none, 0, 0, 0, e.sz, true⟩ | none => (invL (.t d j) m.ρ).bind μ) else none
  have hf : ∀ l l', m.fwd l = some l' → ∀ B, μ l = some B → μ' l' = some B := by
    intro l l' hl B hB
    cases l with
    | k i =>
      simp only [Wm.fwd, Option.some.injEq] at hl
      subst hl
      exact hB
    | t d j =>
      simp only [Wm.fwd] at hl
      have hm := lkL_mem hl
      obtain ⟨_, q2, q3⟩ := k1 _ _ hm
      cases l' with
      | k i => cases q2
      | t d' j' =>
        show (if hasK (.t d' j') sto' = true then _ else none) = some B
        rw [if_pos q3]
        have hn : lkL (.t d' j') m.vs = none := by
          cases e : lkL (.t d' j') m.vs with
          | none => rfl
          | some x => exact absurd rfl (n4 _ (List.mem_map.mpr ⟨_, hm, rfl⟩) _ (List.mem_map.mpr ⟨_, lkL_mem e, rfl⟩))
        simp only [hn, invL_of n2 hm, Option.bind_some]
        exact hB
  have hvs : ∀ l' e, lkL l' m.vs = some e → μ' l' = some ⟨none, 0, 0, 0, e.sz, true⟩ := by
    intro l' e he
    obtain ⟨q1, q2⟩ := k2 _ _ (lkL_mem he)
    cases l' with
    | k i => cases q1
    | t d j =>
      show (if hasK (.t d j) sto' = true then _ else none) = _
      rw [if_pos q2]
      simp only [he]
  have hz : ∀ l, memL l m.fz = true → ∀ c B, lkC l sto = some c → μ l = some B → B.virt = false → G' B.b :=
    fun l hl c B e1 e2 e3 => .inr ⟨l, c, B, (hlsk l).mpr hl, e1, e2, e3, rfl⟩
  have hcase : ∀ l' c', lkC l' sto' = some c' → (∃ e, lkL l' m.vs = some e ∧ c' = .row e []) ∨ (∃ l c, m.inv l' = some l ∧ memL l m.fz = false ∧ lkC l sto = some c ∧ castC m sto c c' = some c' ∧ μ' l' = μ l) := by
    intro l' c' hc
    rw [lkC_some] at hc
    rcases wkSto_ok hs l' c' (lkL_mem hc) with h | ⟨hn, l, c, q1, q2, q3, q4⟩
    · exact .inl h
    · refine .inr ⟨l, c, q1, q2, q3, q4, ?_⟩
      cases l' with
      | k i =>
        simp only [Wm.inv, Option.some.injEq] at q1
        subst q1
        rfl
      | t d j =>
        simp only [Wm.inv] at q1
        show (if hasK (.t d j) sto' = true then _ else none) = _
        rw [if_pos (by unfold hasK; rw [hc])]
        simp only [hn, q1, Option.bind_some]
  have hinj : ∀ a b l, m.inv a = some l → m.inv b = some l → a = b := by
    intro a b l ha hb
    cases a with
    | k i =>
      simp only [Wm.inv, Option.some.injEq] at ha
      subst ha
      cases b with
      | k j => simpa [Wm.inv] using hb.symm
      | t d j => exact absurd (k1 _ _ (invL_mem hb)).1 (by simp [isT])
    | t d i =>
      have ha := invL_mem ha
      cases b with
      | k j =>
        simp only [Wm.inv, Option.some.injEq] at hb
        subst hb
        exact absurd (k1 _ _ ha).1 (by simp [isT])
      | t d' j => exact fst_inj n1 ha (invL_mem hb)
  have hlive : ∀ b, Live μ' sto' b → Live μ sto b := by
    rintro b ⟨l', c', B, e1, e2, e3, rfl⟩
    rcases hcase l' c' e1 with ⟨e, q1, _⟩ | ⟨l, c, q1, q2, q3, q4, q5⟩
    · rw [hvs l' e q1] at e2
      obtain rfl := Option.some.inj e2
      cases e3
    · exact ⟨l, c, B, q3, by rw [← q5]; exact e2, e3, rfl⟩
  refine ⟨μ', G', ⟨fun l' c' hc => ?_, fun l' B hB => ?_, fun l l' c c' B B' hc hc' hB hB' hv hv' hne => ?_, H1.good, H1.tab⟩, fun t v' hv' => ?_,
    ⟨h3.os, h3.tape, h3.output, h3.size, h3.frame, fun b hb => h3.live b (hlive b hb), fun l B hB => ?_, fun b hb => ?_, fun l' B hB => ?_, fun i => h3.kk i⟩, h4, h5⟩
  · rcases hcase l' c' hc with ⟨e, q1, rfl⟩ | ⟨l, c, q1, q2, q3, q4, q5⟩
    · exact ⟨_, hvs l' e q1, ⟨rfl, Nat.le_refl _, rfl, fun _ => ⟨rfl, rfl⟩, fun h => by cases h⟩, fun h => by cases h⟩
    · obtain ⟨B, e1, e2, e3⟩ := h1.live l c q3
      refine ⟨B, by rw [q5]; exact e1, castC_ok h1 hf hG hvs hz q4 e2, fun hv => ⟨(e3 hv).1, ?_⟩⟩
      rintro (hg | ⟨l2, c2, B2, m1, m2, m3, m4, m5⟩)
      · exact (e3 hv).2 hg
      · rw [hlsk] at m1
        refine h1.apart l l2 c c2 B B2 q3 m2 e1 m3 hv m4 ?_ m5.symm
        rintro rfl
        rw [q2] at m1
        cases m1
  · cases l' with
    | k i =>
      have := chk3_ok c5 i (h1.known _ B hB)
      unfold hasK at this
      split at this
      · rename_i e; rw [e]; rfl
      · cases this
    | t d j =>
      have hB' : (if hasK (.t d j) sto' = true then (match lkL (.t d j) m.vs with | some e => some ⟨none, 0, 0, 0, e.sz, true⟩ | none => (invL (.t d j) m.ρ).bind μ) else none) = some B := hB
      split at hB'
      · rename_i hk
        unfold hasK at hk
        split at hk
        · rename_i e; rw [e]; rfl
        · cases hk
      · cases hB'
  · rcases hcase l c hc with ⟨e, q1, _⟩ | ⟨l1, c1, q1, q2, q3, q4, q5⟩
    · rw [hvs l e q1] at hB
      obtain rfl := Option.some.inj hB
      cases hv
    · rcases hcase l' c' hc' with ⟨e, r1, _⟩ | ⟨l2, c2, r1, r2, r3, r4, r5⟩
      · rw [hvs l' e r1] at hB'
        obtain rfl := Option.some.inj hB'
        cases hv'
      · refine h1.apart l1 l2 c1 c2 B B' q3 r3 (by rw [← q5]; exact hB) (by rw [← r5]; exact hB') hv hv' ?_
        rintro rfl
        exact hne (hinj _ _ _ q1 r1)
  · obtain ⟨v, q1, q2⟩ := wkEnv_ok he t v' (lk_mem hv')
    obtain ⟨u, q3, q4⟩ := h2 t v q1
    exact ⟨u, q3, castV_ok h1 hf hG hvs hz q2 q4⟩
  · cases l with
    | t d j => rw [ht d j] at hB; cases hB
    | k i => exact h3.mu _ _ hB
  · rcases hb with hb | ⟨l, c, B, _, m2, m3, m4, rfl⟩
    · exact h3.good b hb
    · rcases h3.live _ ⟨l, c, B, m2, m3, m4, rfl⟩ with h | h
      · exact .inr (.inl h)
      · exact .inr (.inr h)
  · cases l' with
    | k i => exact h3.new _ _ hB
    | t d j =>
      have hB' : (if hasK (.t d j) sto' = true then (match lkL (.t d j) m.vs with | some e => some ⟨none, 0, 0, 0, e.sz, true⟩ | none => (invL (.t d j) m.ρ).bind μ) else none) = some B := hB
      split at hB'
      · split at hB'
        · obtain rfl := Option.some.inj hB'
          exact .inr (.inl rfl)
        · obtain ⟨l, q1, q2⟩ := Option.bind_eq_some_iff.mp hB'
          rcases h3.new l B q2 with h | h
          · exfalso
            have := (k1 _ _ (invL_mem q1)).1
            cases l with
            | k i => cases this
            | t d' j' => rw [ht d' j'] at h; cases h
          · exact .inr h
      · cases hB'
/-- Going on with less. -/
theorem Run.less {R : V → List (Option C) → Prop} {env env' : Env} {sto sto' : Sto} {it : List It} (m : Wm) (h : Run P F R (.fail 0 ⟨env', sto', it, none⟩)) (hc : chkW m sto sto' = true) (he : wkEnv m sto env env') (hs : wkSto m sto sto') : Run P F R (.fail 0 ⟨env, sto, it, none⟩) := .wk (.of m hc he hs) h
/-- A loop's round, with less. -/
theorem Run.round {R : V → List (Option C) → Prop} {env env' : Env} {sto sto' : Sto} {it : List It} (m : Wm) (h : Run P F R (.loop ⟨env', sto', it, none⟩)) (hc : chkW m sto sto' = true) (he : wkEnv m sto env env') (hs : wkSto m sto sto') : Run P F R (.loop ⟨env, sto, it, none⟩) := .wkl (.of m hc he hs) h
end Go.AM

/- The rows of a table of types; condition: what the program says of each type. -/
namespace Go.AM
set_option linter.unusedVariables false
set_option linter.unusedSimpArgs false
open Go.RowKit
variable {P : Program}

abbrev tyi (i : TypeInfo) : Nat × Nat × Option Value := (i.size, i.bytes, i.zero)
theorem tyi_of {t : TypeId} {s b : Nat} {z : Value} (h : (P.info? t).map tyi = some (s, b, some z)) : ∃ i, P.info? t = some i ∧ i.size = s ∧ i.bytes = b ∧ i.zero = some z := by
  cases e : P.info? t with
  | none => rw [e] at h; cases h
  | some i =>
    rw [e] at h
    simp only [Option.map_some, Option.some.injEq, tyi, Prod.mk.injEq] at h
    exact ⟨i, rfl, h.1, h.2.1, h.2.2⟩
theorem ty_of {t : TypeId} {ty : Ty} {z : Value} {d : TypeDesc} (h : (P.info? t).map tyi = some (ty.sz, ty.bytes, some z)) (hz : zeroOk ty.zero z) (hl : ty.zero.length = ty.sz) (hu : P.underlying t = some d) (hs : shOk P t d ty.sh) (ha : aggD d = ty.agg) : TyOk P t ty := by
  obtain ⟨i, h1, h2, h3, h4⟩ := tyi_of h
  exact ⟨⟨i, h1, h2, h3, z, h4, hz, hl⟩, ⟨d, hu, hs, ha⟩⟩
theorem zero_int (k : IntKind) : zeroOk [.int k 0] (.int k 0) := fun μ w G => by simp [repAs, repA, Value.cells]
theorem zero_bool : zeroOk [.bool false] (.bool false) := fun μ w G => by simp [repAs, repA, Value.cells]
theorem zero_str : zeroOk [.str ByteArray.empty] (.string ByteArray.empty) := fun μ w G => by simp [repAs, repA, Value.cells]
theorem zero_nil : zeroOk [.nil] (.slice none 0 0) := fun μ w G => by simp [repAs, repA, Value.cells]
theorem zero_nilp : zeroOk [.nilp] (.pointer none) := fun μ w G => by simp [repAs, repA, Value.cells]
theorem zero_nilf : zeroOk [.nilf] .nilFunc := fun μ w G => by simp [repAs, repA, Value.cells]
theorem zero_mv : zeroOk (El.enc .mv Mv.z) (.agg #[.string ByteArray.empty, .bool false, .int .i64 0, .int .i64 0, .int .i64 0, .int .i64 0]) := fun μ w G => by simp [repAs, repA, Value.cells, El.enc, Mv.z]
theorem zero_ints : zeroOk (El.enc .ints ([] : List Int)) (.slice none 0 0) := fun μ w G => by
  simp only [Value.cells, El.enc, repAs, repA]
  exact ⟨_, [], rfl, ⟨none, 0, rfl, Nat.le_refl _, by simp, fun h => absurd rfl h⟩, rfl⟩
theorem ty_int {t : TypeId} (k : IntKind) {b : Nat} (h : (P.info? t).map tyi = some (1, b, some (.int k 0))) (hu : P.underlying t = some (.int k)) : TyOk P t ⟨.int k, 1, b, false, [.int k 0], [none]⟩ := ty_of h (zero_int k) rfl hu rfl rfl
theorem ty_bool {t : TypeId} {b : Nat} (h : (P.info? t).map tyi = some (1, b, some (.bool false))) (hu : P.underlying t = some .bool) : TyOk P t ⟨.bool, 1, b, false, [.bool false], [none]⟩ := ty_of h zero_bool rfl hu rfl rfl
theorem ty_str {t : TypeId} {b : Nat} (h : (P.info? t).map tyi = some (1, b, some (.string ByteArray.empty))) (hu : P.underlying t = some .string) : TyOk P t ⟨.str, 1, b, false, [.str ByteArray.empty], [none]⟩ := ty_of h zero_str rfl hu rfl rfl
theorem ty_sl {t et : TypeId} (e : El) {b b' : Nat} {z : Value} (h : (P.info? t).map tyi = some (1, b, some (.slice none 0 0))) (hu : P.underlying t = some (.slice et)) (h' : (P.info? et).map tyi = some (e.sz, b', some z)) (hz : zeroOk (e.enc e.d) z) (he : elU P et e) : TyOk P t ⟨.sl e et, 1, b, false, [.nil], [some e]⟩ := by
  obtain ⟨i, h1, h2, h3, h4⟩ := tyi_of h'
  exact ty_of h zero_nil rfl hu ⟨rfl, ⟨i, h1, h2, z, h4, hz⟩, he⟩ rfl
theorem ty_fn {t : TypeId} {b : Nat} {ps rs : Array TypeId} {v : Bool} (h : (P.info? t).map tyi = some (1, b, some .nilFunc)) (hu : P.underlying t = some (.func ps rs v)) : TyOk P t ⟨.fn, 1, b, false, [.nilf], [none]⟩ := ty_of h zero_nilf rfl hu ⟨ps, rs, v, rfl⟩ rfl
theorem ty_ptr {t e : TypeId} {b : Nat} (h : (P.info? t).map tyi = some (1, b, some (.pointer none))) (hu : P.underlying t = some (.pointer e)) : TyOk P t ⟨.ptr, 1, b, false, [.nilp], [none]⟩ := ty_of h zero_nilp rfl hu ⟨e, rfl⟩ rfl
theorem ty_st {t : TypeId} {sz b : Nat} {z : Value} {fields : Array Field} {fs : List (Nat × Nat × Bool)} {zs : List A} {ck : List (Option El)} (h : (P.info? t).map tyi = some (sz, b, some z)) (hz : zeroOk zs z) (hl : zs.length = sz) (hu : P.underlying t = some (.struct fields))
    (hfs : fields.toList.map (fun f => (f.offset, P.cellsOf f.type, aggT P f.type)) = fs) (hall : (fields.toList.all fun f => (P.info? f.type).isSome && (P.underlying f.type).isSome) = true) : TyOk P t ⟨.st fs false, sz, b, true, zs, ck⟩ :=
  ty_of h hz hl hu ⟨⟨fields, rfl, hfs, fun f hf => by simpa using List.all_eq_true.mp hall f hf⟩, fun h => by cases h⟩ rfl
theorem ty_arr {t et : TypeId} {n b es b' : Nat} {z z' : Value} {zs : List A} {agg : Bool} {ck : List (Option El)} {sz : Nat} (h : (P.info? t).map tyi = some (sz, b, some z)) (hz : zeroOk zs z) (hl : zs.length = sz) (hu : P.underlying t = some (.array n et)) (h' : (P.info? et).map tyi = some (es, b', some z')) : TyOk P t ⟨.arr n es agg, sz, b, true, zs, ck⟩ := by
  obtain ⟨i, h1, h2, _⟩ := tyi_of h'
  exact ty_of h hz hl hu ⟨et, rfl, i, h1, h2⟩ rfl
theorem TabOk.nil : TabOk P [] := fun t ty h => by simp [lk] at h
theorem TabOk.cons {t : TypeId} {ty : Ty} {r : Tab} (h : TyOk P t ty) (k : TabOk P r) : TabOk P ((t, ty) :: r) := fun t' ty' h' => by
  rw [lk_cons] at h'
  split at h'
  · rename_i e
    subst e
    rw [← Option.some.inj h']
    exact h
  · exact k t' ty' h'
/-! ### Two moves -/
section
variable {d : Nat} {xs ys : Array Value} {f : Field} {fs : List Field} {a b : Value} {r s : Bool} {w : World}
theorem eqf_cons (hn : (f.name == "_") = false) (ha : (part f.type xs f.offset).run P w = .ok a w) (hb : (part f.type ys f.offset).run P w = .ok b w) (he : (Op.equalIn d f.type a b).run P w = .ok r w) (hr : (Op.eqFields d xs ys fs).run P w = .ok s w) : (Op.eqFields d xs ys (f :: fs)).run P w = .ok (r && s) w := by
  have hn' : f.name ≠ "_" := by simpa using hn
  rw [Op.eqFields]
  simp only [if_pos hn', Sem.run_bind, ha, hb, he, Result.andThen_ok]
  cases r
  · simp
  · simpa using hr
theorem eqf_nil : (Op.eqFields d xs ys []).run P w = .ok true w := by simp [Op.eqFields]
theorem part_one {t : TypeId} {d : TypeDesc} (hu : P.underlying t = some d) (hd : aggD d = false) {o : Nat} {v : Value} (hv : xs[o]? = some v) : (part t xs o).run P w = .ok v w := by
  unfold part
  rw [Sem.run_bind, run_agg hu, hd]
  simp [hv]
end
theorem ty_mv {t : TypeId} {b : Nat} {f0 f1 f2 f3 f4 f5 : Field} (h : (P.info? t).map tyi = some (6, b, some (.agg #[.string ByteArray.empty, .bool false, .int .i64 0, .int .i64 0, .int .i64 0, .int .i64 0]))) (hu : P.underlying t = some (.struct #[f0, f1, f2, f3, f4, f5]))
    (hall : ([f0, f1, f2, f3, f4, f5].all fun f => (P.info? f.type).isSome && (P.underlying f.type).isSome && (f.name != "_")) = true) (hp : P.stoodInHeld t = false) (hg : P.eqGuardType P.depth t = false)
    (hfs : [f0, f1, f2, f3, f4, f5].map (fun f => (f.offset, P.cellsOf f.type, aggT P f.type)) = [(0, 1, false), (1, 1, false), (2, 1, false), (3, 1, false), (4, 1, false), (5, 1, false)])
    (u0 : P.underlying f0.type = some .string) (u1 : P.underlying f1.type = some .bool) (u2 : P.underlying f2.type = some (.int .i64)) (u3 : P.underlying f3.type = some (.int .i64)) (u4 : P.underlying f4.type = some (.int .i64)) (u5 : P.underlying f5.type = some (.int .i64)) :
    TyOk P t ⟨.st [(0, 1, false), (1, 1, false), (2, 1, false), (3, 1, false), (4, 1, false), (5, 1, false)] true, 6, b, true, [.str ByteArray.empty, .bool false, .int .i64 0, .int .i64 0, .int .i64 0, .int .i64 0], [none, none, none, none, none, none]⟩ := by
  simp only [List.all_cons, List.all_nil, Bool.and_true, Bool.and_eq_true, bne_iff_ne, ne_eq] at hall
  obtain ⟨⟨⟨a0, b0⟩, n0⟩, ⟨⟨a1, b1⟩, n1⟩, ⟨⟨a2, b2⟩, n2⟩, ⟨⟨a3, b3⟩, n3⟩, ⟨⟨a4, b4⟩, n4⟩, ⟨a5, b5⟩, n5⟩ := hall
  simp only [List.map_cons, List.map_nil, List.cons.injEq, Prod.mk.injEq, and_true] at hfs
  refine ty_of h zero_mv rfl hu ⟨⟨_, rfl, ?_, ?_⟩, fun _ => ⟨hg, fun s s' b b' n1' n2' n3' n4' m1 m2 m3 m4 w => ?_⟩⟩ rfl
  · simp only [List.map_cons, List.map_nil, List.cons.injEq, Prod.mk.injEq, and_true]
    exact hfs
  · intro f hf
    simp only [List.mem_cons, List.not_mem_nil, or_false] at hf
    rcases hf with rfl | rfl | rfl | rfl | rfl | rfl
    · exact ⟨a0, b0⟩
    · exact ⟨a1, b1⟩
    · exact ⟨a2, b2⟩
    · exact ⟨a3, b3⟩
    · exact ⟨a4, b4⟩
    · exact ⟨a5, b5⟩
  · have ne : ∀ {f : Field}, ¬ f.name = "_" → (f.name == "_") = false := fun h => by simpa using h
    have hf : P.fieldsOf t = #[f0, f1, f2, f3, f4, f5] := by simp [Program.fieldsOf, hu]
    have hdep : ∀ x y, (Op.equal t x y).run P w = (Op.equalIn (9998 + 1 + 1) t x y).run P w := fun _ _ => rfl
    rw [hdep, run_equalIn_struct (P := P) w _ t _ _ (by rw [hf]; exact hu) hp, hf]
    obtain ⟨o0, o1, o2, o3, o4, o5⟩ := hfs
    have e := fun x y => run_equalIn_string (P := P) w 9998 f0.type x y u0
    refine (eqf_cons (ne n0) (part_one u0 rfl (v := .string s) (by rw [o0.1]; rfl)) (part_one u0 rfl (v := .string s') (by rw [o0.1]; rfl)) (run_equalIn_string w _ _ _ _ u0) (eqf_cons (ne n1) (part_one u1 rfl (v := .bool b) (by rw [o1.1]; rfl)) (part_one u1 rfl (v := .bool b') (by rw [o1.1]; rfl)) (run_equalIn_bool w _ _ _ _ u1)
      (eqf_cons (ne n2) (part_one u2 rfl (v := .int .i64 n1') (by rw [o2.1]; rfl)) (part_one u2 rfl (v := .int .i64 m1) (by rw [o2.1]; rfl)) (run_equalIn_int w _ _ _ _ _ _ u2) (eqf_cons (ne n3) (part_one u3 rfl (v := .int .i64 n2') (by rw [o3.1]; rfl)) (part_one u3 rfl (v := .int .i64 m2) (by rw [o3.1]; rfl)) (run_equalIn_int w _ _ _ _ _ _ u3)
      (eqf_cons (ne n4) (part_one u4 rfl (v := .int .i64 n3') (by rw [o4.1]; rfl)) (part_one u4 rfl (v := .int .i64 m3) (by rw [o4.1]; rfl)) (run_equalIn_int w _ _ _ _ _ _ u4) (eqf_cons (ne n5) (part_one u5 rfl (v := .int .i64 n4') (by rw [o5.1]; rfl)) (part_one u5 rfl (v := .int .i64 m4) (by rw [o5.1]; rfl)) (run_equalIn_int w _ _ _ _ _ _ u5) eqf_nil)))))).trans ?_
    rw [Bool.and_true, beq_toListBytes]
end Go.AM

/- Rules of a walk, as they are used; no condition. -/
namespace Go.AM
set_option linter.unusedVariables false
set_option linter.unusedSimpArgs false
variable {P : Program} {F : FnI} {R : V → List (Option C) → Prop}

def bodyOf (f : Func) : Code := match f.body with | some c => c | none => .skip
def allP : List Prop → Prop
  | [] => True
  | [p] => p
  | p :: ps => p ∧ allP ps
theorem allP_ok : ∀ {ps : List Prop}, allP ps → ∀ p ∈ ps, p
  | [], _, p, h => by cases h
  | [q], hq, p, h => by
    rw [List.mem_singleton.mp h]
    exact hq
  | q :: r :: ps, hq, p, h => by
    rcases List.mem_cons.mp h with rfl | h
    · exact hq.1
    · exact allP_ok hq.2 p h
theorem Run.need1 {ps : List Prop} {c : Conf} (h : allP ps) (k : Run P F R (nxt F 5000 c)) : Run P F R (.need ps c) := .need (allP_ok h) k
theorem Run.condD {p : Prop} [Decidable p] {c1 c2 : Conf} (h1 : p → Run P F R (nxt F 5000 c1)) (h2 : ¬ p → Run P F R (nxt F 5000 c2)) : Run P F R (.cond (decide p) c1 c2) :=
  .cond (fun h => h1 (of_decide_eq_true h)) fun h => h2 (of_decide_eq_false h)
theorem Run.condN {p : Prop} [Decidable p] {c1 c2 : Conf} (h2 : ¬ p → Run P F R (nxt F 5000 c1)) (h1 : p → Run P F R (nxt F 5000 c2)) : Run P F R (.cond (!decide p) c1 c2) :=
  .cond (fun h => h2 (by simpa using h)) fun h => h1 (by simpa using h)
theorem Run.condE {a b : Int} {c1 c2 : Conf} (h1 : a = b → Run P F R (nxt F 5000 c1)) (h2 : a ≠ b → Run P F R (nxt F 5000 c2)) : Run P F R (.cond (a == b) c1 c2) :=
  .cond (fun h => h1 (by simpa using h)) fun h => h2 (by simpa using h)
theorem Run.condF {a b : Int} {c1 c2 : Conf} (h2 : a ≠ b → Run P F R (nxt F 5000 c1)) (h1 : a = b → Run P F R (nxt F 5000 c2)) : Run P F R (.cond (a != b) c1 c2) :=
  .cond (fun h => h2 (by simpa using h)) fun h => h1 (by simpa using h)
theorem Run.condB {b : Bool} {c1 c2 : Conf} (h1 : b = true → Run P F R (nxt F 5000 c1)) (h2 : b = false → Run P F R (nxt F 5000 c2)) : Run P F R (.cond b c1 c2) := .cond h1 h2
theorem Run.condM {b : Bool} {c1 c2 : Conf} (h2 : b = false → Run P F R (nxt F 5000 c1)) (h1 : b = true → Run P F R (nxt F 5000 c2)) : Run P F R (.cond (!b) c1 c2) :=
  .cond (fun h => h2 (by simpa using h)) fun h => h1 (by simpa using h)
theorem Run.condT {c1 c2 : Conf} (h1 : Run P F R (nxt F 5000 c1)) : Run P F R (.cond true c1 c2) := .cond (fun _ => h1) fun h => by cases h
theorem Run.condf {c1 c2 : Conf} (h1 : Run P F R (nxt F 5000 c2)) : Run P F R (.cond false c1 c2) := .cond (fun h => by cases h) fun _ => h1

theorem Run.check1 {p : List Nat} {log : List (List L × List L)} {c : Conf} (k : Run P F R (nxt F 5000 c)) (h : chk F.body p log = true := by kernel_rfl) : Run P F R (.check p log c) := .check h k
end Go.AM

/- Walks whose answer is told by a property; condition: as of a walk. -/
namespace Go.AM
set_option linter.unusedVariables false
set_option linter.unusedSimpArgs false
open Go.RowKit
variable {P : Program} {F : FnI}

/-- A walk comes to one answer. -/
theorem Run.ex {R : V → List (Option C) → Prop} {x : Nx} (h : Run P F R x) : ∃ v st, R v st ∧ Run P F (fun v' s' => v' = v ∧ s' = st) x := by
  induction h with
  | ret h => exact ⟨_, _, h, .ret ⟨rfl, rfl⟩⟩
  | @cond b c1 c2 _ _ h1 h2 =>
    cases b with
    | true =>
      obtain ⟨v, st, r, k⟩ := h1 rfl
      exact ⟨v, st, r, .cond (fun _ => k) fun h => by cases h⟩
    | false =>
      obtain ⟨v, st, r, k⟩ := h2 rfl
      exact ⟨v, st, r, .cond (fun h => by cases h) fun _ => k⟩
  | need hp _ h =>
    obtain ⟨v, st, r, k⟩ := h
    exact ⟨v, st, r, .need hp k⟩
  | call hok hr _ h =>
    obtain ⟨v, st, r, k⟩ := h
    exact ⟨v, st, r, .call hok hr k⟩
  | loop _ h =>
    obtain ⟨v, st, r, k⟩ := h
    exact ⟨v, st, r, .loop k⟩
  | check hc _ h =>
    obtain ⟨v, st, r, k⟩ := h
    exact ⟨v, st, r, .check hc k⟩
  | @cond0 b c1 c2 _ _ h1 h2 =>
    cases b with
    | true =>
      obtain ⟨v, st, r, k⟩ := h1 rfl
      exact ⟨v, st, r, .cond0 (fun _ => k) fun h => by cases h⟩
    | false =>
      obtain ⟨v, st, r, k⟩ := h2 rfl
      exact ⟨v, st, r, .cond0 (fun h => by cases h) fun _ => k⟩
  | need0 hp _ h =>
    obtain ⟨v, st, r, k⟩ := h
    exact ⟨v, st, r, .need0 hp k⟩
  | call0 hok hr _ h =>
    obtain ⟨v, st, r, k⟩ := h
    exact ⟨v, st, r, .call0 hok hr k⟩
  | check0 hc _ h =>
    obtain ⟨v, st, r, k⟩ := h
    exact ⟨v, st, r, .check0 hc k⟩
  | go n _ h =>
    obtain ⟨v, st, r, k⟩ := h
    exact ⟨v, st, r, .go n k⟩
  | to q n _ h =>
    obtain ⟨v, st, r, k⟩ := h
    exact ⟨v, st, r, .to q n k⟩
  | wk hw _ h =>
    obtain ⟨v, st, r, k⟩ := h
    exact ⟨v, st, r, .wk hw k⟩
  | wkl hw _ h =>
    obtain ⟨v, st, r, k⟩ := h
    exact ⟨v, st, r, .wkl hw k⟩
  | nilq hR hn k1 k2 h1 h2 =>
    obtain ⟨v, st, rfl⟩ := hR
    exact ⟨v, st, ⟨rfl, rfl⟩, .nilq ⟨v, st, rfl⟩ hn k1 k2⟩
/-- A walk gives a contract of some answer. -/
theorem Ok.of_ex {f : FuncId} {fn : Func} {c : Code} (hf : P.funcs[f]? = some fn) (hb : fn.body = some c) (hn : (fn.name == "runtime.NumGoroutine") = false) (hT : TabOk P F.tab) (hm : P.follows .mixedOrders = true) (hFb : F.body = c) (hFr : F.res = fn.results.toList) (hFn : F.n = fn.ntmps) (hD : dstsB F.n F.body = true)
    {args : List V} {st : List (Option C)} (hFm : F.m = st.length) (hal : args.length ≤ F.n) {α : Type} {Q : α → Prop} {res : α → V} {st' : α → List (Option C)} (hsl : ∀ x, st.length ≤ (st' x).length)
    (h : Run P F (fun v s => ∃ x, Q x ∧ v = res x ∧ s = st' x) (.fail 0 (start args st))) : ∃ x, Q x ∧ Ok P f args st (res x) (st' x) := by
  obtain ⟨v, s, ⟨x, hq, rfl, rfl⟩, k⟩ := h.ex
  exact ⟨x, hq, Ok.of_run hf hb hn hT hm hFb hFr hFn hD hFm hal (hsl x) k⟩
theorem Ok.of_ex2 {f : FuncId} {fn : Func} {c : Code} (hf : P.funcs[f]? = some fn) (hb : fn.body = some c) (hn : (fn.name == "runtime.NumGoroutine") = false) (hT : TabOk P F.tab) (hm : P.follows .mixedOrders = true) (hFb : F.body = c) (hFr : F.res = fn.results.toList) (hFn : F.n = fn.ntmps) (hD : dstsB F.n F.body = true)
    {args : List V} {st : List (Option C)} (hFm : F.m = st.length) (hal : args.length ≤ F.n) {α β : Type} {Q : α → β → Prop} {res : α → β → V} {st' : α → β → List (Option C)} (hsl : ∀ x y, st.length ≤ (st' x y).length)
    (h : Run P F (fun v s => ∃ x y, Q x y ∧ v = res x y ∧ s = st' x y) (.fail 0 (start args st))) : ∃ x y, Q x y ∧ Ok P f args st (res x y) (st' x y) := by
  obtain ⟨v, s, ⟨x, y, hq, rfl, rfl⟩, k⟩ := h.ex
  exact ⟨x, y, hq, Ok.of_run hf hb hn hT hm hFb hFr hFn hD hFm hal (hsl x y) k⟩
theorem Run.callE2 {R : V → List (Option C) → Prop} {f : FuncId} {args : List V} {st : List (Option C)} {k : Kt} {α β : Type} {Q : α → β → Prop} {res : α → β → V} {st' : α → β → List (Option C)} (h : ∃ x y, Q x y ∧ Ok P f args st (res x y) (st' x y))
    {c : α → β → Conf} (hr : ∀ x y, resume (res x y) (st' x y) k = some (c x y)) (g : ∀ x y, Q x y → Run P F R (nxt F 5000 (c x y))) : Run P F R (.call f args st k) := by
  obtain ⟨x, y, q, o⟩ := h
  exact .call o (hr x y) (g x y q)
/-- A call whose answer is told by a property. -/
theorem Run.callE {R : V → List (Option C) → Prop} {f : FuncId} {args : List V} {st : List (Option C)} {k : Kt} {α : Type} {Q : α → Prop} {res : α → V} {st' : α → List (Option C)} (h : ∃ x, Q x ∧ Ok P f args st (res x) (st' x))
    {c : α → Conf} (hr : ∀ x, resume (res x) (st' x) k = some (c x)) (g : ∀ x, Q x → Run P F R (nxt F 5000 (c x))) : Run P F R (.call f args st k) := by
  obtain ⟨x, q, o⟩ := h
  exact .call o (hr x) (g x q)
/-- A walk gives a contract of some answer that the walk's relation tells. -/
theorem Ok.of_rel {f : FuncId} {fn : Func} {c : Code} (hf : P.funcs[f]? = some fn) (hb : fn.body = some c) (hn : (fn.name == "runtime.NumGoroutine") = false) (hT : TabOk P F.tab) (hm : P.follows .mixedOrders = true) (hFb : F.body = c) (hFr : F.res = fn.results.toList) (hFn : F.n = fn.ntmps) (hD : dstsB F.n F.body = true)
    {args : List V} {st : List (Option C)} (hFm : F.m = st.length) (hal : args.length ≤ F.n) {R : V → List (Option C) → Prop} (hsl : ∀ v s, R v s → st.length ≤ s.length)
    (h : Run P F R (.fail 0 (start args st))) : ∃ v s, R v s ∧ Ok P f args st v s := by
  obtain ⟨v, s, hr, k⟩ := h.ex
  exact ⟨v, s, hr, Ok.of_run hf hb hn hT hm hFb hFr hFn hD hFm hal (hsl v s hr) k⟩

/-! ### A nil slice that comes back, as an empty row of its own -/
def nilL (l : L) : List A → Option (List A)
  | [] => none
  | .nil :: as => some (.own l :: as)
  | a :: as => match nilL l as with
    | some bs => some (a :: bs)
    | none => none
mutual
def nilV (l : L) : V → Option V
  | .one .nil => some (.one (.own l))
  | .one _ => none
  | .agg as => match nilL l as with
    | some bs => some (.agg bs)
    | none => none
  | .tup vs => match nilVs l vs with
    | some ws => some (.tup ws)
    | none => none
def nilVs (l : L) : List V → Option (List V)
  | [] => none
  | v :: vs => match nilV l v with
    | some w => some (w :: vs)
    | none => match nilVs l vs with
      | some ws => some (v :: ws)
      | none => none
end
section
variable {μ μ' : Mu} {w : World} {G : Nat → Prop} {l : L} {e : El}
theorem nil_own (h : μ' l = some ⟨none, 0, 0, 0, e.sz, true⟩) {u : Value} (hr : repA μ w G .nil u) : repA μ' w G (.own l) u := by
  simp only [repA] at hr ⊢
  exact ⟨_, h, hr⟩
theorem nilL_ok (hx : ∀ l B, μ l = some B → μ' l = some B) (h : μ' l = some ⟨none, 0, 0, 0, e.sz, true⟩) : ∀ {as bs : List A} {us : List Value}, nilL l as = some bs → repAs μ w G as us → repAs μ' w G bs us
  | [], bs, us, hc, _ => by simp [nilL] at hc
  | a :: as, bs, us, hc, hr => by
    simp only [repAs] at hr
    obtain ⟨u, us', rfl, h1, h2⟩ := hr
    cases a
    case nil =>
      simp only [nilL, Option.some.injEq] at hc
      subst hc
      simp only [repAs]
      exact ⟨u, us', rfl, nil_own h h1, repAs_mono hx (fun _ _ => rfl) (fun _ h => h) _ _ h2⟩
    all_goals
      simp only [nilL] at hc
      split at hc
      · rename_i bs' hb
        obtain rfl := Option.some.inj hc
        simp only [repAs]
        exact ⟨u, us', rfl, repA_mono hx (fun _ _ => rfl) (fun _ h => h) _ _ h1, nilL_ok hx h hb h2⟩
      · cases hc
mutual
theorem nilV_ok (hx : ∀ l B, μ l = some B → μ' l = some B) (h : μ' l = some ⟨none, 0, 0, 0, e.sz, true⟩) : (v v' : V) → (u : Value) → nilV l v = some v' → repV μ w G v u → repV μ' w G v' u
  | .one a, v', u, hc, hr => by
    cases a <;> simp only [nilV, Option.some.injEq, reduceCtorEq] at hc
    subst hc
    simp only [repV] at hr ⊢
    exact nil_own h hr
  | .agg as, v', u, hc, hr => by
    simp only [nilV] at hc
    split at hc
    · rename_i bs hb
      obtain rfl := Option.some.inj hc
      simp only [repV] at hr ⊢
      obtain ⟨us, rfl, k⟩ := hr
      exact ⟨us, rfl, nilL_ok hx h hb k⟩
    · cases hc
  | .tup vs, v', u, hc, hr => by
    simp only [nilV] at hc
    split at hc
    · rename_i ws hw
      obtain rfl := Option.some.inj hc
      simp only [repV] at hr ⊢
      obtain ⟨us, rfl, k⟩ := hr
      exact ⟨us, rfl, nilVs_ok hx h vs ws _ hw k⟩
    · cases hc
theorem nilVs_ok (hx : ∀ l B, μ l = some B → μ' l = some B) (h : μ' l = some ⟨none, 0, 0, 0, e.sz, true⟩) : (vs ws : List V) → (us : List Value) → nilVs l vs = some ws → repVs μ w G vs us → repVs μ' w G ws us
  | [], ws, us, hc, _ => by simp [nilVs] at hc
  | v :: vs, ws, us, hc, hr => by
    simp only [repVs] at hr
    obtain ⟨u, us', rfl, h1, h2⟩ := hr
    simp only [nilVs] at hc
    split at hc
    · rename_i v' hv
      obtain rfl := Option.some.inj hc
      simp only [repVs]
      exact ⟨u, us', rfl, nilV_ok hx h v v' u hv h1, repVs_mono hx (fun _ _ => rfl) (fun _ h => h) _ _ h2⟩
    · split at hc
      · rename_i ws' hws
        obtain rfl := Option.some.inj hc
        simp only [repVs]
        exact ⟨u, us', rfl, repV_mono hx (fun _ _ => rfl) (fun _ h => h) _ _ h1, nilVs_ok hx h vs ws' us' hws h2⟩
      · cases hc
end
end
theorem argSto_app {st : List (Option C)} {c : Option C} {l : L} : lkL l (argSto 0 (st ++ [c])) = if l = .k st.length then some c else lkL l (argSto 0 st) := by
  cases l with
  | t d j => rw [if_neg (by simp), argSto_lk, argSto_lk]
  | k i =>
    rw [argSto_lk, argSto_lk]
    simp only [Nat.zero_le, if_true, Nat.sub_zero, L.k.injEq]
    by_cases e : i = st.length
    · subst e; simp
    · rw [if_neg e]
      by_cases h : i < st.length
      · rw [List.getElem?_append_left h]
      · rw [List.getElem?_eq_none (by simp; omega), List.getElem?_eq_none (by omega)]
/-- A contract whose answer holds a nil slice, with an empty row in its place. -/
theorem Ok.virt {f : FuncId} {args : List V} {s st : List (Option C)} {v v' : V} (e : El) (h : Ok P f args s v st) (hv : nilV (.k st.length) v = some v') : Ok P f args s v' (st ++ [some (.row e [])]) := by
  obtain ⟨h1, h2⟩ := h
  refine ⟨by rw [List.length_append]; omega, fun w μ G cargs hr hrep => (h2 w μ G cargs hr hrep).mono fun u w' ⟨μ', G', k1, k2⟩ => ?_⟩
  have hn : μ' (.k st.length) = none := by
    cases hm : μ' (.k st.length) with
    | none => rfl
    | some B =>
      have := k2.hr.known _ _ hm
      rw [argSto_lk] at this
      simp at this
  let μ2 : Mu := fun l => if l = .k st.length then some ⟨none, 0, 0, 0, e.sz, true⟩ else μ' l
  have hx : ∀ l B, μ' l = some B → μ2 l = some B := by
    intro l B hB
    show (if l = .k st.length then _ else _) = _
    rw [if_neg (by rintro rfl; rw [hn] at hB; cases hB)]
    exact hB
  have hl : μ2 (.k st.length) = some ⟨none, 0, 0, 0, e.sz, true⟩ := if_pos rfl
  have hlk : ∀ l c, lkC l (argSto 0 (st ++ [some (.row e [])])) = some c → (l = .k st.length ∧ c = .row e []) ∨ (l ≠ .k st.length ∧ lkC l (argSto 0 st) = some c ∧ μ2 l = μ' l) := by
    intro l c hc
    rw [lkC_some, argSto_app] at hc
    split at hc
    · rename_i q
      exact .inl ⟨q, by simpa using hc.symm⟩
    · rename_i q
      exact .inr ⟨q, by rw [lkC_some]; exact hc, if_neg q⟩
  have hlive : ∀ b, Live μ2 (argSto 0 (st ++ [some (.row e [])])) b → Live μ' (argSto 0 st) b := by
    rintro b ⟨l, c, B, e1, e2, e3, rfl⟩
    rcases hlk l c e1 with ⟨rfl, _⟩ | ⟨_, q2, q3⟩
    · rw [hl] at e2
      obtain rfl := Option.some.inj e2
      cases e3
    · exact ⟨l, c, B, q2, by rw [← q3]; exact e2, e3, rfl⟩
  refine ⟨μ2, G', nilV_ok hx hl _ _ _ hv k1, ⟨⟨fun l c hc => ?_, fun l B hB => ?_, fun l l' c c' B B' hc hc' hB hB' hvt hvt' hne => ?_, k2.hr.good, k2.hr.tab⟩, fun i hi => ?_, k2.gnew, k2.frame, k2.size, k2.os, k2.tape, k2.output, fun l B hB => ?_, fun b hb => k2.liv b (hlive b hb)⟩⟩
  · rcases hlk l c hc with ⟨rfl, rfl⟩ | ⟨_, q2, q3⟩
    · exact ⟨_, hl, ⟨rfl, Nat.le_refl _, rfl, fun _ => ⟨rfl, rfl⟩, fun h => by cases h⟩, fun h => by cases h⟩
    · obtain ⟨B, m1, m2, m3⟩ := k2.hr.live l c q2
      exact ⟨B, hx l B m1, crep_mono hx (fun _ _ => rfl) (fun _ h => h) (fun _ => rfl) m2, m3⟩
  · rw [argSto_app]
    split
    · rfl
    · rename_i q
      exact k2.hr.known l B (by rw [← hB]; exact (if_neg q).symm)
  · rcases hlk l c hc with ⟨rfl, _⟩ | ⟨_, q2, q3⟩
    · rw [hl] at hB
      obtain rfl := Option.some.inj hB
      cases hvt
    · rcases hlk l' c' hc' with ⟨rfl, _⟩ | ⟨_, r2, r3⟩
      · rw [hl] at hB'
        obtain rfl := Option.some.inj hB'
        cases hvt'
      · exact k2.hr.apart l l' c c' B B' q2 r2 (by rw [← q3]; exact hB) (by rw [← r3]; exact hB') hvt hvt' hne
  · have : i < s.length := by
      rw [argSto_lk] at hi
      simp only [Nat.zero_le, if_true, Nat.sub_zero] at hi
      obtain ⟨oc, ho⟩ := Option.isSome_iff_exists.mp hi
      exact (List.getElem?_eq_some_iff.1 ho).1
    show (if L.k i = .k st.length then _ else _) = _
    rw [if_neg (by simp; omega)]
    exact k2.kk i hi
  · by_cases q : l = .k st.length
    · subst q
      rw [hl] at hB
      obtain rfl := Option.some.inj hB
      exact .inr (.inl rfl)
    · exact k2.new l B (by rw [← hB]; exact (if_neg q).symm)
end Go.AM

/- The entries behind sort.Slice and sort.SliceStable, as contracts; condition: what the program's types say. -/
namespace Go.AM
set_option linter.unusedVariables false
set_option linter.unusedSimpArgs false
open Go.RowKit Go.Lib Go.Extern
variable {P : Program}

theorem does_ext {f : FuncId} {fn : Func} {e : Array Value → Sem Value} (hf : P.funcs[f]? = some fn) (hname : (fn.name == "runtime.NumGoroutine") = false) (hb : fn.body.isNone = true) (hn : Extern.findNext fn = none) (he : Extern.find fn = some e)
    {cargs : Array Value} {w : World} {Q : Value → World → Prop} {u : Value} {w' : World} (h : (e cargs).run P w = .ok u w') (q : Q u w') : Does P f cargs w Q :=
  .inr ⟨u, w', by rw [run_callFunc_extern hf hname hb hn he, h]; rfl, q⟩
theorem Pst.refl {μ : Mu} {G : Nat → Prop} {sto : Sto} {w : World} (h : HR μ G sto w) : Pst μ G sto w sto μ G w :=
  ⟨h, fun _ _ => rfl, fun _ h => .inl h, fun _ _ _ => rfl, Nat.le_refl _, rfl, rfl, rfl, fun _ _ h => .inl h, fun _ h => .inl h⟩
theorem HR.same {μ : Mu} {G : Nat → Prop} {s s' : Sto} {w : World} (hs : ∀ l, lkL l s = lkL l s') (h : HR μ G s w) : HR μ G s' w := by
  have hc : ∀ l, lkC l s' = lkC l s := fun l => by unfold lkC; rw [hs l]
  refine ⟨fun l c hl => h.live l c (by rw [← hc]; exact hl), fun l B hB => by rw [← hs]; exact h.known l B hB, fun l l' c c' B B' h1 h2 => h.apart l l' c c' B B' (by rw [← hc]; exact h1) (by rw [← hc]; exact h2), h.good, h.tab⟩
theorem Pst.of_chg {μ μ' : Mu} {G G' : Nat → Prop} {sto wr s' : Sto} {w w' : World} (h : Chg μ G sto w wr μ' G' w') (hs : ∀ l, lkL l (wr ++ sto) = lkL l s') : Pst μ G sto w s' μ' G' w' :=
  ⟨h.hr.same hs, fun i _ => h.kk i, h.gnew, h.frame, h.size, h.os, h.tape, h.output, h.new, fun b hb => h.liv b (by
    obtain ⟨l, c, B, h1, h2⟩ := hb
    exact ⟨l, c, B, by rw [← h1]; unfold lkC; rw [hs l], h2⟩)⟩
theorem Pst.alloc {μ : Mu} {G : Nat → Prop} {st : List (Option C)} {w : World} (hr : HR μ G (argSto 0 st) w) {arr : Array Value} {te : TypeId} {c : C} {B : Blk} (hB : B.b = w.heap.size)
    (hcr : crep (upd μ (.k st.length) B) (w.alloc (.cells arr te (0, 0))) G B c) : Pst μ G (argSto 0 st) w (argSto 0 (st ++ [some c])) (upd μ (.k st.length) B) G (w.alloc (.cells arr te (0, 0))) := by
  have hn : μ (.k st.length) = none := by
    cases hm : μ (.k st.length) with
    | none => rfl
    | some B =>
      have := hr.known _ _ hm
      rw [argSto_lk] at this
      simp at this
  have hx : ∀ l B', μ l = some B' → upd μ (.k st.length) B l = some B' := by
    intro l B' hB
    rw [upd_other _ _ _ (by rintro rfl; rw [hn] at hB; cases hB)]
    exact hB
  have hold : ∀ k, k < w.heap.size → (w.alloc (.cells arr te (0, 0))).heap[k]? = w.heap[k]? := fun k hk => heap_alloc_old' _ _ hk
  have hkeep : Keep G w (w.alloc (.cells arr te (0, 0))) := fun b hb => hold b (hr.good b hb)
  have hlk : ∀ l c', lkC l (argSto 0 (st ++ [some c])) = some c' → (l = .k st.length ∧ c' = c) ∨ (l ≠ .k st.length ∧ lkC l (argSto 0 st) = some c' ∧ upd μ (.k st.length) B l = μ l) := by
    intro l c' hc
    rw [lkC_some, argSto_app] at hc
    split at hc
    · rename_i q
      exact .inl ⟨q, by simpa using hc.symm⟩
    · rename_i q
      exact .inr ⟨q, by rw [lkC_some]; exact hc, upd_other _ _ _ q⟩
  have hsz := alloc_size w (.cells arr te (0, 0))
  have hnew : B.virt = false → B.b < (w.alloc (.cells arr te (0, 0))).heap.size ∧ ¬ G B.b := fun _ => ⟨by omega, fun hg => by have := hr.good _ hg; omega⟩
  refine ⟨⟨fun l c' hc => ?_, fun l B' hB' => ?_, fun l l' c1 c2 B1 B2 hc hc' hB1 hB2 hv1 hv2 hne => ?_, fun b hb => by have := hr.good b hb; omega, hr.tab.mono hkeep fun _ h => h⟩, fun i hi => ?_, fun b hb => .inl hb, fun b hb _ => hold b hb, by omega, rfl, rfl, rfl, fun l B' hB' => ?_, fun b hb => ?_⟩
  · rcases hlk l c' hc with ⟨rfl, rfl⟩ | ⟨_, q2, q3⟩
    · exact ⟨B, upd_same _ _ _, hcr, hnew⟩
    · obtain ⟨B', m1, m2, m3⟩ := hr.live l c' q2
      exact ⟨B', hx l B' m1, crep_mono hx hkeep (fun _ h => h) (fun hv => hold _ (m3 hv).1) m2, fun hv => ⟨by have := (m3 hv).1; omega, (m3 hv).2⟩⟩
  · rw [argSto_app]
    split
    · rfl
    · rename_i q
      rw [upd_other _ _ _ q] at hB'
      exact hr.known l B' hB'
  · rcases hlk l c1 hc with ⟨rfl, rfl⟩ | ⟨_, q2, q3⟩ <;> rcases hlk l' c2 hc' with ⟨rfl, rfl⟩ | ⟨_, r2, r3⟩
    · exact absurd rfl hne
    · rw [upd_same] at hB1
      obtain rfl := Option.some.inj hB1
      rw [r3] at hB2
      have := ((hr.get r2 hB2).2 hv2).1
      omega
    · rw [upd_same] at hB2
      obtain rfl := Option.some.inj hB2
      rw [q3] at hB1
      have := ((hr.get q2 hB1).2 hv1).1
      omega
    · rw [q3] at hB1
      rw [r3] at hB2
      exact hr.apart l l' c1 c2 B1 B2 q2 r2 hB1 hB2 hv1 hv2 hne
  · have : i < st.length := by
      rw [argSto_lk] at hi
      simp only [Nat.zero_le, if_true, Nat.sub_zero] at hi
      obtain ⟨oc, ho⟩ := Option.isSome_iff_exists.mp hi
      exact (List.getElem?_eq_some_iff.1 ho).1
    exact upd_other _ _ _ (by simp; omega)
  · by_cases q : l = .k st.length
    · subst q
      rw [upd_same] at hB'
      obtain rfl := Option.some.inj hB'
      exact .inr (.inr (.inl (by omega)))
    · rw [upd_other _ _ _ q] at hB'
      exact .inl hB'
  · obtain ⟨l, c', B', h1, h2, h3, rfl⟩ := hb
    rcases hlk l c' h1 with ⟨rfl, rfl⟩ | ⟨_, q2, q3⟩
    · rw [upd_same] at h2
      obtain rfl := Option.some.inj h2
      exact .inr (by omega)
    · exact .inl ⟨l, c', B', q2, by rw [← q3]; exact h2, h3, rfl⟩
/-- The handle of a type. -/
def th (P : Program) (t : TypeId) : A := .raw ⟨P.globals.size, t, none⟩
theorem arr_of {x : Array Value} {l : List Value} (h : x.toList = l) : x = l.toArray := by rw [← h]
theorem ok_valueOf {f : FuncId} {fn : Func} (hf : P.funcs[f]? = some fn) (hname : (fn.name == "runtime.NumGoroutine") = false) (hb : fn.body.isNone = true) (hn : Extern.findNext fn = none) (he : Extern.find fn = some fun args => ReflectliteValue.unpack (args.getD 0 (.tuple #[])))
    {t e : TypeId} {i : TypeInfo} (hi : P.info? t = some i) (hd : i.desc = .slice e) {el : El} {xs : List el.T} :
    Ok P f [.one (.ifc t (.own (.k 0)))] [some (.row el xs)] (.agg [th P t, .ptr (.k 1) 0, .int .u64 151]) [some (.row el xs), some (.cells [.own (.k 0)])] := by
  refine ⟨by simp, fun w μ G cargs hr hv => ?_⟩
  simp only [repVs, repV, repA] at hv
  obtain ⟨u, us, hc, ⟨u', rfl, B, hB, rfl⟩, rfl⟩ := hv
  obtain rfl := arr_of hc
  refine does_ext hf hname hb hn he (u := .agg #[typeHandle P t, .pointer (some ⟨w.heap.size, 0, none⟩), .int .u64 151]) (w' := w.alloc (.cells #[.slice B.a B.len B.cap] t)) ?_ ?_
  · exact run_valueOf_slice t e i hi hd B.a B.len B.cap w
  · let B1 : Blk := ⟨some ⟨w.heap.size, 0, none⟩, w.heap.size, 0, 0, 0, false⟩
    refine ⟨upd μ (.k 1) B1, G, ?_, Pst.alloc (st := [some (.row el xs)]) (B := B1) hr rfl ?_⟩
    · simp only [repV, th]
      refine ⟨_, rfl, ?_⟩
      simp only [repAs, repA]
      exact ⟨_, _, rfl, rfl, _, _, rfl, ⟨B1, upd_same _ _ _, rfl⟩, _, _, rfl, rfl, rfl⟩
    · refine ⟨rfl, #[.slice B.a B.len B.cap], t, heap_alloc_new' _ _, ?_⟩
      simp only [repAs, repA]
      exact ⟨_, _, rfl, ⟨B, by rw [upd_other _ _ _ (by simp)]; exact hB, rfl⟩, rfl⟩
theorem ok_swapper {f : FuncId} {fn : Func} (hf : P.funcs[f]? = some fn) (hname : (fn.name == "runtime.NumGoroutine") = false) (hb : fn.body.isNone = true) (hn : Extern.findNext fn = none) (he : Extern.find fn = some (ReflectliteSwapper.swapper "internal/reflectlite" (ReflectliteValue.valueError "Swapper")))
    {t e : TypeId} {i ie : TypeInfo} (hi : P.info? t = some i) (hd : i.desc = .slice e) (hie : P.info? e = some ie) (ke : Nat) (hke : ∀ w, (Rtype.kind e).run P w = .ok ke w) {el : El} {xs : List el.T} (sf : Nat)
    (hsf : P.funcs.findIdx? (·.name == "internal/reflectlite" ++ ".Swapper$" ++ toString (swapperK xs.length ie ke)) = some sf) (caps : List A) (hcaps : caps = if xs.length ≤ 1 then [] else [.own (.k 0), th P e]) :
    Ok P f [.one (.ifc t (.own (.k 0)))] [some (.row el xs)] (.one (.fn sf caps)) [some (.row el xs)] := by
  refine ⟨by simp, fun w μ G cargs hr hv => ?_⟩
  simp only [repVs, repV, repA] at hv
  obtain ⟨u, us, hc, ⟨u', rfl, B, hB, rfl⟩, rfl⟩ := hv
  obtain rfl := arr_of hc
  have hlk : lkC (.k 0) (argSto 0 [some (C.row el xs)]) = some (.row el xs) := rfl
  have hlen : B.len = xs.length := (hr.get hlk hB).1.1
  refine does_ext hf hname hb hn he (w' := w) (run_swapper_slice t e i ie hi hd hie ke hke B.a B.len B.cap sf (by rw [hlen]; exact hsf) w) ?_
  refine ⟨μ, G, ?_, Pst.refl hr⟩
  simp only [repV, repA]
  refine ⟨_, rfl, ?_⟩
  have hk : swapperK B.len ie ke ≤ 2 ↔ xs.length ≤ 1 := by
    rw [hlen]
    unfold swapperK
    by_cases h0 : xs.length = 0
    · simp [h0]
    · by_cases h1 : xs.length = 1
      · simp [h1]
      · have : ¬ xs.length ≤ 1 := by omega
        simp only [beq_iff_eq, h0, h1, if_false, this, iff_false]
        (repeat' split) <;> omega
  rw [hcaps]
  by_cases h : xs.length ≤ 1
  · rw [if_pos h, if_pos (hk.2 h)]
    simp only [repAs]
  · rw [if_neg h, if_neg (fun k => h (hk.1 k))]
    simp only [repAs, th, repA]
    exact ⟨_, _, rfl, ⟨B, hB, rfl⟩, _, _, rfl, rfl, rfl⟩
theorem ok_valueLen {f : FuncId} {fn : Func} (hf : P.funcs[f]? = some fn) (hname : (fn.name == "runtime.NumGoroutine") = false) (hb : fn.body.isNone = true) (hn : Extern.findNext fn = none) (he : Extern.find fn = some (ReflectliteValue.method (ReflectliteValue.valueError "reflectlite.Value.Len" 0) ReflectliteValue.len))
    {t e : TypeId} {i : TypeInfo} (hi : P.info? t = some i) (hd : i.desc = .slice e) (hpk : P.packed t = false) {el : El} {xs : List el.T} :
    Ok P f [.agg [th P t, .ptr (.k 0) 0, .int .u64 151]] [some (.cells [.own (.k 1)]), some (.row el xs)] (.one (.int .i64 (xs.length : Int))) [some (.cells [.own (.k 1)]), some (.row el xs)] := by
  refine ⟨by simp, fun w μ G cargs hr hv => ?_⟩
  simp only [repVs, repV, th, repAs, repA] at hv
  obtain ⟨u, us, hc, ⟨as, rfl, u1, us1, ha, rfl, u2, us2, rfl, ⟨B, hB, rfl⟩, u3, us3, rfl, rfl, rfl⟩, rfl⟩ := hv
  obtain rfl := arr_of hc
  obtain rfl := arr_of ha
  have hlk : lkC (.k 0) (argSto 0 [some (C.cells [.own (.k 1)]), some (C.row el xs)]) = some (.cells [.own (.k 1)]) := rfl
  have hlk1 : lkC (.k 1) (argSto 0 [some (C.cells [.own (.k 1)]), some (C.row el xs)]) = some (.row el xs) := rfl
  obtain ⟨_, us, te, h1, h2⟩ := (hr.get hlk hB).1
  simp only [repAs, repA] at h2
  obtain ⟨u, us', hu, ⟨B', hB', rfl⟩, rfl⟩ := h2
  obtain rfl := arr_of hu
  have hlen : B'.len = xs.length := (hr.get hlk1 hB').1.1
  refine does_ext hf hname hb hn he (w' := w) (run_valueLen_slice t e i hi hd hpk ⟨B.b, 0, none⟩ B'.a B'.len B'.cap w (by rw [cell?_of_heap h1]; rfl)) ?_
  refine ⟨μ, G, ?_, Pst.refl hr⟩
  simp only [repV, repA]
  rw [hlen]
/-- Two elements exchanged. -/
def swapL {α : Type} (d : α) (xs : List α) (i j : Nat) : List α := (xs.set i (xs.getD j d)).set j (xs.getD i d)
theorem lk_one {c c' : C} (l : L) : lkL l ([(L.k 0, some c')] ++ argSto 0 [some c]) = lkL l (argSto 0 [some c']) := by
  cases l with
  | t d j => rfl
  | k i => cases i <;> rfl
theorem ok_swap {f : FuncId} {fn : Func} (hf : P.funcs[f]? = some fn) (hname : (fn.name == "runtime.NumGoroutine") = false) (hb : fn.body.isNone = true) (hn : Extern.findNext fn = none) (gs : Bool) (he : Extern.find fn = some (ReflectliteSwapper.swap gs))
    {e : TypeId} {ie : TypeInfo} (hie : P.info? e = some ie) {el : El} (hsz : ie.size = el.sz) (hagg : if el.sz = 1 then (∀ w, (isAgg e).run P w = .ok false w) else (∀ w, (isAgg e).run P w = .ok true w)) {xs : List el.T} {i j : Nat} (hi : i < xs.length) (hj : j < xs.length) :
    Ok P f [.one (.int .i64 i), .one (.int .i64 j), .one (.own (.k 0)), .one (th P e)] [some (.row el xs)] (.tup []) [some (.row el (swapL el.d xs i j))] := by
  refine ⟨by simp, fun w μ G cargs hr hv => ?_⟩
  simp only [repVs, repV, th, repA] at hv
  obtain ⟨u1, us1, hc, rfl, u2, us2, rfl, rfl, u3, us3, rfl, ⟨B, hB, rfl⟩, u4, us4, rfl, rfl, rfl⟩ := hv
  obtain rfl := arr_of hc
  have hlk : lkC (.k 0) (argSto 0 [some (C.row el xs)]) = some (.row el xs) := rfl
  obtain ⟨hcr, hlt⟩ := hr.get hlk hB
  obtain ⟨h1, h2, h3, h4, h5⟩ := hcr
  have hvt : B.virt = false := by
    cases hv : B.virt with
    | false => rfl
    | true => obtain ⟨rfl, _⟩ := h4 hv; simp at hi
  obtain ⟨h6, arr, te, h7, h8, h9⟩ := h5 hvt
  have gi : xs[i]? = some xs[i] := List.getElem?_eq_getElem hi
  have gj : xs[j]? = some xs[j] := List.getElem?_eq_getElem hj
  obtain ⟨X, rX, cX⟩ := h9 i _ gi
  obtain ⟨Y, rY, cY⟩ := h9 j _ gj
  have lX : X.length = el.sz := by rw [((repAs_iff _ _).mp rX).length, enc_length]
  have lY : Y.length = el.sz := by rw [((repAs_iff _ _).mp rY).length, enc_length]
  have eB : B.a = some ⟨B.b, 0, none⟩ := h6
  -- what is run
  have hrun : (ReflectliteSwapper.swap gs #[.int .i64 i, .int .i64 j, .slice B.a B.len B.cap, typeHandle P e]).run P w = .ok (.tuple #[]) ((w.setCells B.b (i * el.sz) Y).setCells B.b (j * el.sz) X) := by
    rw [eB]
    have frz : ∀ k, w.frozen? ⟨B.b, k, none⟩ = false := fun k => frozen?_of_heap h7
    by_cases h1e : el.sz = 1
    · rw [if_pos h1e] at hagg
      match X, lX.trans h1e, Y, lY.trans h1e with
      | [x], _, [y], _ =>
        have := run_swap_one gs e ie hie (hsz.trans h1e) hagg B.b 0 B.len B.cap i j (by omega) (by omega) x y (repAs_one rX x (by simp)) (repAs_one rY y (by simp)) w
          (by have := cX 0 x rfl; simpa [h1e] using this) (by have := cY 0 y rfl; simpa [h1e] using this) (frz _) (frz _)
        rw [this]
        simp [World.setCells, h1e]
    · rw [if_neg h1e] at hagg
      have := run_swap_cells gs e ie hie hagg B.b 0 B.len B.cap i j (by omega) (by omega) X Y (by omega) (by omega) (repAs_one rX) (repAs_one rY) w
        (fun k v hk => by have := cX k v hk; simpa [hsz] using this) (fun k v hk => by have := cY k v hk; simpa [hsz] using this) (fun k _ => frz _) (fun k _ => frz _)
      rw [this]
      simp [hsz]
  refine does_ext hf hname hb hn he hrun ⟨μ, G, by simp only [repV]; exact ⟨#[], rfl, by simp only [repVs]⟩, ?_⟩
  -- the first write, then the second
  have hpos : 0 < el.sz := by cases el <;> simp [El.sz]
  have hset : ∀ (w0 : World) (ys : List el.T) (k : Nat) (z : el.T) (Z : List Value), k < ys.length → repAs μ w0 G (el.enc z) Z → HR μ G (argSto 0 [some (C.row el ys)]) w0 → B.len = ys.length → Chg μ G (argSto 0 [some (C.row el ys)]) w0 [(.k 0, some (.row el (ys.set k z)))] μ G (w0.setCells B.b (k * el.sz) Z) := by
    intro w0 ys k z Z hk rZ hr0 hl0
    have hlk0 : lkC (.k 0) (argSto 0 [some (C.row el ys)]) = some (.row el ys) := rfl
    obtain ⟨hcr0, hlt0⟩ := hr0.get hlk0 hB
    obtain ⟨k1, k2, k3, k4, k5⟩ := hcr0
    obtain ⟨k6, arr0, te0, k7, k8, k9⟩ := k5 hvt
    have lZ : Z.length = el.sz := by rw [((repAs_iff _ _).mp rZ).length, enc_length]
    have hkeep : Keep G w0 (w0.setCells B.b (k * el.sz) Z) := fun b hb => setCells_other _ _ _ fun e => (hlt0 hvt).2 (e ▸ hb)
    refine Chg.write hr0 hlk0 hB hvt ⟨by rw [List.length_set]; exact hl0, k2, k3, fun h => (by rw [hvt] at h; cases h), fun _ => ⟨k6, _, te0, setCells_heap _ _ _ _ k7, by simp [storeL_length, k8], fun q x hq => ?_⟩⟩
    by_cases e : q = k
    · subst e
      have hx : x = z := by
        rw [List.getElem?_set_self (by omega)] at hq
        exact (Option.some.inj hq).symm
      subst hx
      refine ⟨Z, repAs_mono (fun _ _ h => h) hkeep (fun _ h => h) _ _ rZ, (rangeAt_iff (setCells_heap _ _ _ _ k7) _).mpr fun m v hm => ?_⟩
      have hml : m < Z.length := (List.getElem?_eq_some_iff.1 hm).1
      have hbound : q * el.sz + m < arr0.size := by
        rw [k8]
        have : (q + 1) * el.sz ≤ B.cap * el.sz := Nat.mul_le_mul_right _ (by omega)
        rw [Nat.add_mul] at this
        omega
      rw [List.getElem?_toArray, storeL_get, if_pos ⟨by omega, by omega, by simpa using hbound⟩, show q * el.sz + m - q * el.sz = m by omega]
      exact hm
    · rw [List.getElem?_set_ne (fun h => e h.symm)] at hq
      obtain ⟨us, m1, m2⟩ := k9 q x hq
      refine ⟨us, repAs_mono (fun _ _ h => h) hkeep (fun _ h => h) _ _ m1, (rangeAt_iff (setCells_heap _ _ _ _ k7) _).mpr fun m v hm => ?_⟩
      have hus : us.length = el.sz := by rw [((repAs_iff _ _).mp m1).length, enc_length]
      have hml : m < us.length := (List.getElem?_eq_some_iff.1 hm).1
      have := (rangeAt_iff k7 _).mp m2 m v hm
      rw [List.getElem?_toArray, storeL_get, if_neg]
      · simpa using this
      · rintro ⟨a1, a2, _⟩
        rw [lZ] at a2
        rcases Nat.lt_or_ge q k with h | h
        · have : (q + 1) * el.sz ≤ k * el.sz := Nat.mul_le_mul_right _ h
          rw [Nat.add_mul] at this
          omega
        · have : (k + 1) * el.sz ≤ q * el.sz := Nat.mul_le_mul_right _ (by omega)
          rw [Nat.add_mul] at this
          omega
  have c1 := hset w xs i (xs[j]) Y hi rY hr h1
  have p1 := Pst.of_chg c1 (fun l => lk_one l)
  have keep1 : ∀ as us, repAs μ w G as us → repAs μ (w.setCells B.b (i * el.sz) Y) G as us := fun as us => repAs_mono (fun _ _ h => h) c1.keep (fun _ h => h) as us
  have c2 := hset (w.setCells B.b (i * el.sz) Y) (xs.set i xs[j]) j (xs[i]) X (by rw [List.length_set]; exact hj) (keep1 _ _ rX) p1.hr (by rw [List.length_set]; exact h1)
  have p2 := Pst.of_chg c2 (fun l => lk_one l)
  have eL : swapL el.d xs i j = (xs.set i xs[j]).set j xs[i] := by
    unfold swapL
    rw [List.getD_eq_getElem?_getD, List.getD_eq_getElem?_getD, gi, gj]
    rfl
  rw [eL]
  obtain ⟨q1, q2, q3, q4⟩ := setCells_os Y (i * el.sz) w B.b
  have hliv : ∀ b, Live μ (argSto 0 [some (C.row el (xs.set i xs[j]))]) b → Live μ (argSto 0 [some (C.row el xs)]) b := by
    intro b hb
    rcases p1.liv b hb with h | h
    · exact h
    · obtain ⟨l, c, B', m1, m2, m3, rfl⟩ := hb
      have := ((p1.hr.get m1 m2).2 m3).1
      omega
  have hliv' : ∀ b, Live μ (argSto 0 [some (C.row el xs)]) b → Live μ (argSto 0 [some (C.row el (xs.set i xs[j]))]) b := by
    rintro b ⟨l, c, B', m1, m2, m3, rfl⟩
    cases l with
    | t d m => cases m1
    | k m =>
      cases m with
      | succ m => cases m1
      | zero => exact ⟨.k 0, _, B', rfl, m2, m3, rfl⟩
  refine ⟨p2.hr, fun _ _ => rfl, fun b hb => .inl hb, fun b hb hn => ?_, by have := p2.size; omega, p2.os.trans p1.os, p2.tape.trans p1.tape, p2.output.trans p1.output, fun l B' h => .inl h, fun b hb => ?_⟩
  · rw [p2.frame b (by omega) (fun h => hn (hliv b h)), p1.frame b hb hn]
  · rcases p2.liv b hb with h | h
    · exact .inl (hliv b h)
    · exact .inr (by omega)
end Go.AM
