/- What comes in as a struct, a slice of structs or a book reads as plain values: shape, cells and bounds; conditions: the argument reads as data of its type. -/
import Derived.Test.YtpdmimlkgmhepaaG0
import Derived.Deep.Slices
import Derived.Deep.Fields
import Derived.ChangeSame
import Derived.Lib.SmallJoins
import Derived.WalkKit
import Derived.ProofKit
import Derived.OpenShut
import Derived.ShutString
import Derived.ChangeOld
import Derived.SizedLaws
namespace Go.Proofs.Ytpdmimlkgmhepaa.G
open Go.Joins Go.ChangeShapes Go.WideShapes Go.RowKit Go.Deep Go.Proofs.YtpdmimlkgmhepaaW.PrintWords

section
variable {H : Type} {enc : TypeId × Value → H} {P : Program} {w : World} {base : Nat} {spare : Nat → Bool} {held : Bool}

theorem cells_split {cs : List Value} (j : Nat) (h : j < cs.length) : (cs.drop j).take 1 = [cs[j]'h] := by
  rw [List.drop_eq_getElem_cons h]
  rfl

/-- A slice whose elements read as plain values. -/
theorem open_rows {α : Type} (d : Kd α) (Wf : α → Prop) {t e : TypeId} {fuel : Nat} {cs : List Value} {x : DataW H × List MemPlace} (ht : P.underlying t = some (.slice e)) (hC : P.cellsOf e = d.sz)
    (hel : ∀ n cs' y, DataW.trod enc P w base spare held n e cs' = some y → ∃ z : α, d.K w z cs' ∧ Wf z) (h : DataW.trod enc P w base spare held fuel t cs = some x) :
    ∃ A c xs, cs = [.slice A xs.length c] ∧ xs.length ≤ c ∧ c ≤ maxLen ∧ d.C w A xs.length xs ∧ (∀ z ∈ xs, Wf z) := by
  classical
  rcases open_slice ht h with ⟨h0, _⟩ | ⟨a, len, cap, m, n, D, Pl, hcs, hb, hl, hm, hmm, hx, hi⟩
  · refine ⟨none, 0, [], by simpa using h0, by simp, by simp [maxLen], ⟨rfl, by simp, fun h => absurd h (by simp)⟩, fun z hz => by simp at hz⟩
  · have hlm : len ≤ m := by rw [hmm]; split <;> omega
    have key : ∀ i, i < len → ∃ z : α, Wf z ∧ ∃ cs', cs'.length = d.sz ∧ d.K w z cs' ∧ ∀ j u, cs'[j]? = some u → w.cell? (a.add (i * d.sz + j)) = some u := by
      intro i hil
      obtain ⟨cs', hc, ht'⟩ := hi i (by omega)
      obtain ⟨z, hz, hw⟩ := hel _ _ _ ht'
      obtain ⟨_, hcl, hat⟩ := World.cells?_some hc
      rw [hC] at hcl hat
      refine ⟨z, hw, cs', hcl, hz, fun j u hu => ?_⟩
      have hj : j < d.sz := by
        have := (List.getElem?_eq_some_iff.1 hu).1
        omega
      have h1 := hat j hj
      rw [Go.Deep.add_add] at h1
      rw [h1, hu]
    let f : Nat → Option α := fun i => if hil : i < len then some (Classical.choose (key i hil)) else none
    have hsome : ∀ i, (h : i < len) → f i = some (Classical.choose (key i h)) := fun i h => by simp [f, h]
    let xs : List α := (List.range len).pmap (fun i h => Classical.choose (key i h)) (fun i hi => List.mem_range.1 hi)
    have hxl : xs.length = len := by simp [xs]
    have hxi : ∀ i (h : i < len), xs[i]? = some (Classical.choose (key i h)) := by
      intro i h
      have hh : i < xs.length := by omega
      rw [List.getElem?_eq_getElem hh]
      simp [xs]
    refine ⟨some a, cap, xs, by rw [hcs, hxl], by omega, hm, ⟨rfl, by rw [hxl]; simp only [maxLen] at hm; omega, fun _ => ⟨a, rfl, fun j p hj => ?_⟩⟩, fun z hz => ?_⟩
    · have hjl : j < len := by
        have := (List.getElem?_eq_some_iff.1 hj).1
        omega
      have e := hxi j hjl
      rw [hj] at e
      injection e with e
      subst e
      obtain ⟨_, cs', h1, h2, h3⟩ := Classical.choose_spec (key j hjl)
      exact ⟨cs', h1, h2, h3⟩
    · obtain ⟨j, hj, e⟩ := List.getElem_of_mem hz
      have hjl : j < len := by omega
      have e2 := hxi j hjl
      rw [List.getElem?_eq_getElem hj, e] at e2
      injection e2 with e2
      subst e2
      exact (Classical.choose_spec (key j hjl)).1

theorem open_ints_rows {t e : TypeId} {fuel : Nat} {cs : List Value} {x : DataW H × List MemPlace} (ht : P.underlying t = some (.slice e)) (he : P.underlying e = some (.int .i64)) (hC : P.cellsOf e = 1) (h : DataW.trod enc P w base spare held fuel t cs = some x) :
    ∃ A c, ∃ xs : List Int, cs = [.slice A xs.length c] ∧ xs.length ≤ c ∧ c ≤ maxLen ∧ (Kd.int .i64).C w A xs.length xs ∧ (∀ z ∈ xs, (Lit.int .i64 z).wf = true) :=
  open_rows (Kd.int .i64) (fun z => (Lit.int .i64 z).wf = true) ht hC (fun n cs' y hy => by
    obtain ⟨z, h1, _, h2⟩ := DataW.trod_int he hy
    exact ⟨z, h1, h2⟩) h
end

section
variable {H : Type} {enc : TypeId × Value → H} {w : World} {base : Nat} {spare : Nat → Bool} {held : Bool}
theorem open_move {n : Nat} {cs : List Value} {y : DataW H × List MemPlace} (h : DataW.trod enc Try.prog w base spare held n 71 cs = some y) (hl : cs.length = 6) :
    ∃ (a0 : ByteArray) (a1 : Bool) (a2 a3 a4 a5 : Int), cs = [.string a0, .bool a1, .int .i64 a2, .int .i64 a3, .int .i64 a4, .int .i64 a5] ∧ a0.size ≤ maxLen ∧
      (Lit.int .i64 a2).wf = true ∧ (Lit.int .i64 a3).wf = true ∧ (Lit.int .i64 a4).wf = true ∧ (Lit.int .i64 a5).wf = true := by
  obtain ⟨xs, n', _, _, _, hxl, hf⟩ := DataW.trod_struct Try.underlying71 h
  match cs, hl with
  | [c0, c1, c2, c3, c4, c5], _ =>
    have h0 := hf 0 _ rfl
    have h1 := hf 1 _ rfl
    have h2 := hf 2 _ rfl
    have h3 := hf 3 _ rfl
    have h4 := hf 4 _ rfl
    have h5 := hf 5 _ rfl
    have k1 : Try.prog.cellsOf 9 = 1 := by kernel_rfl
    have k2 : Try.prog.cellsOf 4 = 1 := by kernel_rfl
    have k3 : Try.prog.cellsOf 3 = 1 := by kernel_rfl
    have e0 : xs[0]? = some (xs[0]'(by rw [hxl]; decide)) := List.getElem?_eq_getElem _
    have e1 : xs[1]? = some (xs[1]'(by rw [hxl]; decide)) := List.getElem?_eq_getElem _
    have e2 : xs[2]? = some (xs[2]'(by rw [hxl]; decide)) := List.getElem?_eq_getElem _
    have e3 : xs[3]? = some (xs[3]'(by rw [hxl]; decide)) := List.getElem?_eq_getElem _
    have e4 : xs[4]? = some (xs[4]'(by rw [hxl]; decide)) := List.getElem?_eq_getElem _
    have e5 : xs[5]? = some (xs[5]'(by rw [hxl]; decide)) := List.getElem?_eq_getElem _
    obtain ⟨a0, q0, _, w0⟩ := DataW.trod_string Try.underlying9 (h0.trans e0)
    obtain ⟨a1, q1, _⟩ := DataW.trod_bool Try.underlying4 (h1.trans e1)
    obtain ⟨a2, q2, _, w2⟩ := DataW.trod_int Try.underlying3 (h2.trans e2)
    obtain ⟨a3, q3, _, w3⟩ := DataW.trod_int Try.underlying3 (h3.trans e3)
    obtain ⟨a4, q4, _, w4⟩ := DataW.trod_int Try.underlying3 (h4.trans e4)
    obtain ⟨a5, q5, _, w5⟩ := DataW.trod_int Try.underlying3 (h5.trans e5)
    simp [k1, k2, k3] at q0 q1 q2 q3 q4 q5
    subst q0 q1 q2 q3 q4 q5
    exact ⟨a0, a1, a2, a3, a4, a5, rfl, w0, w2, w3, w4, w5⟩
end
end Go.Proofs.Ytpdmimlkgmhepaa.G
