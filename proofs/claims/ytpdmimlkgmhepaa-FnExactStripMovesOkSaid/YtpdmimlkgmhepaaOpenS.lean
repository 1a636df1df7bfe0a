/- Slices of moves and books that come in read as plain lists; condition: the argument reads as data of its type. -/
import Derived.Test.YtpdmimlkgmhepaaOpen
import Derived.Test.YtpdmimlkgmhepaaCopyM
namespace Go.Proofs.Ytpdmimlkgmhepaa.G
open Go.Joins Go.ChangeShapes Go.WideShapes Go.RowKit Go.Deep Go.Proofs.YtpdmimlkgmhepaaW.PrintWords
section
variable {H : Type} {enc : TypeId × Value → H} {w : World} {base : Nat} {spare : Nat → Bool} {held : Bool}
theorem open_moves {t fuel : Nat} {cs : List Value} {y : DataW H × List MemPlace} (ht : Try.prog.underlying t = some (.slice 71)) (h : DataW.trod enc Try.prog w base spare held fuel t cs = some y) :
    ∃ A c, ∃ xs : List S71, cs = [.slice A xs.length c] ∧ xs.length ≤ c ∧ c ≤ maxLen ∧ k71.C w A xs.length xs ∧ (∀ z ∈ xs, Pure.LmWf z) :=
  open_rows k71 Pure.LmWf ht (by kernel_rfl) (fun n cs' y hy => by
    have hl : cs'.length = 6 := by
      obtain ⟨_, _, _, _, hl, _⟩ := DataW.trod_struct Try.underlying71 hy
      exact hl.trans (by kernel_rfl)
    obtain ⟨a0, a1, a2, a3, a4, a5, rfl, w0, w2, w3, w4, w5⟩ := open_move hy hl
    exact ⟨⟨a0, a1, a2, a3, a4, a5⟩, k71_mk w ⟨a0, a1, a2, a3, a4, a5⟩, w0, w2, w3, w4, w5⟩) h
/-- A book: four cells. -/
theorem open_book {n : Nat} {cs : List Value} {y : DataW H × List MemPlace} (h : DataW.trod enc Try.prog w base spare held n 38 cs = some y) (hl : cs.length = 4) :
    ∃ (a0 a1 : Int) (A2 : Option Addr) (c2 : Nat) (l2 : List S71) (A3 : Option Addr) (c3 : Nat) (l3 : List Int), cs = [.int .i64 a0, .int .i64 a1, .slice A2 l2.length c2, .slice A3 l3.length c3] ∧
      (Lit.int .i64 a0).wf = true ∧ (Lit.int .i64 a1).wf = true ∧ l2.length ≤ c2 ∧ c2 ≤ maxLen ∧ k71.C w A2 l2.length l2 ∧ (∀ z ∈ l2, Pure.LmWf z) ∧
      l3.length ≤ c3 ∧ c3 ≤ maxLen ∧ (Kd.int .i64).C w A3 l3.length l3 ∧ (∀ z ∈ l3, (Lit.int .i64 z).wf = true) := by
  obtain ⟨xs, n', _, _, _, hxl, hf⟩ := DataW.trod_struct Try.underlying38 h
  match cs, hl with
  | [d0, d1, d2, d3], _ =>
    have h0 := hf 0 _ rfl
    have h1 := hf 1 _ rfl
    have h2 := hf 2 _ rfl
    have h3 := hf 3 _ rfl
    have k1 : Try.prog.cellsOf 3 = 1 := by kernel_rfl
    have k2 : Try.prog.cellsOf 26 = 1 := by kernel_rfl
    have k3 : Try.prog.cellsOf 22 = 1 := by kernel_rfl
    have e0 : xs[0]? = some (xs[0]'(by rw [hxl]; decide)) := List.getElem?_eq_getElem _
    have e1 : xs[1]? = some (xs[1]'(by rw [hxl]; decide)) := List.getElem?_eq_getElem _
    have e2 : xs[2]? = some (xs[2]'(by rw [hxl]; decide)) := List.getElem?_eq_getElem _
    have e3 : xs[3]? = some (xs[3]'(by rw [hxl]; decide)) := List.getElem?_eq_getElem _
    obtain ⟨a0, q0, _, w0⟩ := DataW.trod_int Try.underlying3 (h0.trans e0)
    obtain ⟨a1, q1, _, w1⟩ := DataW.trod_int Try.underlying3 (h1.trans e1)
    obtain ⟨A2, c2, l2, q2, hc2, hm2, hr2, w2⟩ := open_moves Try.underlying26 (h2.trans e2)
    obtain ⟨A3, c3, l3, q3, hc3, hm3, hr3, w3⟩ := open_ints_rows Try.underlying22 Try.underlying3 (by kernel_rfl) (h3.trans e3)
    simp [k1, k2, k3] at q0 q1 q2 q3
    subst q0 q1 q2 q3
    exact ⟨a0, a1, A2, c2, l2, A3, c3, l3, rfl, w0, w1, hc2, hm2, hr2, w2, hc3, hm3, hr3, w3⟩
end
end Go.Proofs.Ytpdmimlkgmhepaa.G
