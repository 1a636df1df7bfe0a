/-
  No cell of these rows narrows 'for every input' (looked for: loops, veiled, ifaces, maps, wideKeys, modest, calm, conditions, laid).
  DERIVED. THE GIVEN ROWS OF THIS SEAT. 8 by the template 'for every input the law returns true; each argument reads behind the call as it read before'; 0 by the template 'total and deterministic' (their statements: YtpdmimlkgmhepaaTotals.lean).
  GIVEN WITH THE SEED: the statements are not yours to turn. If you find one false, say at which input.
  Laid BY PROGRAM, IN A SANDBOX (cutbox-rows.mjs): the forced cells as the released guide's own fill.sh prints them over the translation 0e80aa7a61de1885… (all of the seat's roots in one cut). By AI agents, Wed Nov 11 2026. No macro, syntax, notation, axiom, sorry.
-/
import Derived.Test.YtpdmimlkgmhepaaChecked
import GoSem.Claim
import GoSem.ClaimJoined
import GoSem.ClaimMapViews
import Derived.JoinedTies
import Derived.KernelRfl
namespace Go.Proofs.Ytpdmimlkgmhepaa
/- THE CELL 'sum', in the pinned program and in every row, IS THE sha256 OF THE DUMP (.gsa) THAT YtpdmimlkgmhepaaProg.lean LOADS. Nothing in Lean hashes anything: it is a label: what it is worth is what the hold of that sum in a sandbox is worth. -/
noncomputable def Try.pinned : Pinned := { name := "ytpdmimlkgmhepaa", sum := "0e80aa7a61de18850876d9aac0e06eab9042d14928f933c2683cf6b22a656102", checked := Try.checked }
namespace Rows
def none {H : Type} : Left H := { results := [], args := [] }

/-- 'laws.FnExactStripShift': WHATEVER THE INPUT: true; the input reads as it did. -/
def fnExactStripShiftSpec : ChangeSpec := { name := "fnExactStripShift", fn := fun _ => fun
  | [d1, d2] => { results := [.lit (.bool true)], args := [d1, d2] }
  | _ => none }
def fnExactStripShiftRow : OpenClaim := { program := "ytpdmimlkgmhepaa", sum := "0e80aa7a61de18850876d9aac0e06eab9042d14928f933c2683cf6b22a656102", func := "loop.example/lapstrip/laws.FnExactStripShift", spec := "fnExactStripShift", apart := false }
def FnExactStripShiftSaid : Prop := fnExactStripShiftRow.holds Try.pinned (OpenSpec.ofChange fnExactStripShiftSpec)

/-- ITS FALSE NEIGHBOUR: 'it returns false'. Refute it at one input. -/
def fnExactStripShiftWrong : ChangeSpec := { name := "fnExactStripShift", fn := fun _ => fun
  | [d1, d2] => { results := [.lit (.bool false)], args := [d1, d2] }
  | _ => none }
def FnExactStripShiftWrongFalsely : Prop := fnExactStripShiftRow.holds Try.pinned (OpenSpec.ofChange fnExactStripShiftWrong)

/-- 'laws.FnExactStripMovesOk': WHATEVER THE INPUT: true; the input reads as it did. -/
def fnExactStripMovesOkSpec : ChangeSpec := { name := "fnExactStripMovesOk", fn := fun _ => fun
  | [d] => { results := [.lit (.bool true)], args := [d] }
  | _ => none }
def fnExactStripMovesOkRow : OpenClaim := { program := "ytpdmimlkgmhepaa", sum := "0e80aa7a61de18850876d9aac0e06eab9042d14928f933c2683cf6b22a656102", func := "loop.example/lapstrip/laws.FnExactStripMovesOk", spec := "fnExactStripMovesOk", apart := false }
def FnExactStripMovesOkSaid : Prop := fnExactStripMovesOkRow.holds Try.pinned (OpenSpec.ofChange fnExactStripMovesOkSpec)

/-- ITS FALSE NEIGHBOUR: 'it returns false'. Refute it at one input. -/
def fnExactStripMovesOkWrong : ChangeSpec := { name := "fnExactStripMovesOk", fn := fun _ => fun
  | [d] => { results := [.lit (.bool false)], args := [d] }
  | _ => none }
def FnExactStripMovesOkWrongFalsely : Prop := fnExactStripMovesOkRow.holds Try.pinned (OpenSpec.ofChange fnExactStripMovesOkWrong)

/-- 'laws.FnExactStripFits': WHATEVER THE INPUT: true; the input reads as it did. -/
def fnExactStripFitsSpec : ChangeSpec := { name := "fnExactStripFits", fn := fun _ => fun
  | [d1, d2] => { results := [.lit (.bool true)], args := [d1, d2] }
  | _ => none }
def fnExactStripFitsRow : OpenClaim := { program := "ytpdmimlkgmhepaa", sum := "0e80aa7a61de18850876d9aac0e06eab9042d14928f933c2683cf6b22a656102", func := "loop.example/lapstrip/laws.FnExactStripFits", spec := "fnExactStripFits", apart := false }
def FnExactStripFitsSaid : Prop := fnExactStripFitsRow.holds Try.pinned (OpenSpec.ofChange fnExactStripFitsSpec)

/-- ITS FALSE NEIGHBOUR: 'it returns false'. Refute it at one input. -/
def fnExactStripFitsWrong : ChangeSpec := { name := "fnExactStripFits", fn := fun _ => fun
  | [d1, d2] => { results := [.lit (.bool false)], args := [d1, d2] }
  | _ => none }
def FnExactStripFitsWrongFalsely : Prop := fnExactStripFitsRow.holds Try.pinned (OpenSpec.ofChange fnExactStripFitsWrong)

/-- 'laws.FnExactStripCost': WHATEVER THE INPUT: true; the input reads as it did. -/
def fnExactStripCostSpec : ChangeSpec := { name := "fnExactStripCost", fn := fun _ => fun
  | [d1, d2] => { results := [.lit (.bool true)], args := [d1, d2] }
  | _ => none }
def fnExactStripCostRow : OpenClaim := { program := "ytpdmimlkgmhepaa", sum := "0e80aa7a61de18850876d9aac0e06eab9042d14928f933c2683cf6b22a656102", func := "loop.example/lapstrip/laws.FnExactStripCost", spec := "fnExactStripCost", apart := false }
def FnExactStripCostSaid : Prop := fnExactStripCostRow.holds Try.pinned (OpenSpec.ofChange fnExactStripCostSpec)

/-- ITS FALSE NEIGHBOUR: 'it returns false'. Refute it at one input. -/
def fnExactStripCostWrong : ChangeSpec := { name := "fnExactStripCost", fn := fun _ => fun
  | [d1, d2] => { results := [.lit (.bool false)], args := [d1, d2] }
  | _ => none }
def FnExactStripCostWrongFalsely : Prop := fnExactStripCostRow.holds Try.pinned (OpenSpec.ofChange fnExactStripCostWrong)

/-- 'laws.FnExactStripBookOk': WHATEVER THE INPUT: true; the input reads as it did. -/
def fnExactStripBookOkSpec : ChangeSpec := { name := "fnExactStripBookOk", fn := fun _ => fun
  | [d] => { results := [.lit (.bool true)], args := [d] }
  | _ => none }
def fnExactStripBookOkRow : OpenClaim := { program := "ytpdmimlkgmhepaa", sum := "0e80aa7a61de18850876d9aac0e06eab9042d14928f933c2683cf6b22a656102", func := "loop.example/lapstrip/laws.FnExactStripBookOk", spec := "fnExactStripBookOk", apart := false }
def FnExactStripBookOkSaid : Prop := fnExactStripBookOkRow.holds Try.pinned (OpenSpec.ofChange fnExactStripBookOkSpec)

/-- ITS FALSE NEIGHBOUR: 'it returns false'. Refute it at one input. -/
def fnExactStripBookOkWrong : ChangeSpec := { name := "fnExactStripBookOk", fn := fun _ => fun
  | [d] => { results := [.lit (.bool false)], args := [d] }
  | _ => none }
def FnExactStripBookOkWrongFalsely : Prop := fnExactStripBookOkRow.holds Try.pinned (OpenSpec.ofChange fnExactStripBookOkWrong)

/-- 'laws.FnExactStripOrder': WHATEVER THE INPUT: true; the input reads as it did. -/
def fnExactStripOrderSpec : ChangeSpec := { name := "fnExactStripOrder", fn := fun _ => fun
  | [d1, d2] => { results := [.lit (.bool true)], args := [d1, d2] }
  | _ => none }
def fnExactStripOrderRow : OpenClaim := { program := "ytpdmimlkgmhepaa", sum := "0e80aa7a61de18850876d9aac0e06eab9042d14928f933c2683cf6b22a656102", func := "loop.example/lapstrip/laws.FnExactStripOrder", spec := "fnExactStripOrder", apart := false }
def FnExactStripOrderSaid : Prop := fnExactStripOrderRow.holds Try.pinned (OpenSpec.ofChange fnExactStripOrderSpec)

/-- ITS FALSE NEIGHBOUR: 'it returns false'. Refute it at one input. -/
def fnExactStripOrderWrong : ChangeSpec := { name := "fnExactStripOrder", fn := fun _ => fun
  | [d1, d2] => { results := [.lit (.bool false)], args := [d1, d2] }
  | _ => none }
def FnExactStripOrderWrongFalsely : Prop := fnExactStripOrderRow.holds Try.pinned (OpenSpec.ofChange fnExactStripOrderWrong)

/-- 'laws.FnFits': WHATEVER THE INPUT: true; the input reads as it did. -/
def fnFitsSpec : ChangeSpec := { name := "fnFits", fn := fun _ => fun
  | [d1, d2] => { results := [.lit (.bool true)], args := [d1, d2] }
  | _ => none }
def fnFitsRow : OpenClaim := { program := "ytpdmimlkgmhepaa", sum := "0e80aa7a61de18850876d9aac0e06eab9042d14928f933c2683cf6b22a656102", func := "loop.example/lapstrip/laws.FnFits", spec := "fnFits", apart := false }
def FnFitsSaid : Prop := fnFitsRow.holds Try.pinned (OpenSpec.ofChange fnFitsSpec)

/-- ITS FALSE NEIGHBOUR: 'it returns false'. Refute it at one input. -/
def fnFitsWrong : ChangeSpec := { name := "fnFits", fn := fun _ => fun
  | [d1, d2] => { results := [.lit (.bool false)], args := [d1, d2] }
  | _ => none }
def FnFitsWrongFalsely : Prop := fnFitsRow.holds Try.pinned (OpenSpec.ofChange fnFitsWrong)

/-- 'laws.FnExactStripTick': WHATEVER THE INPUT: true; the input reads as it did. -/
def fnExactStripTickSpec : ChangeSpec := { name := "fnExactStripTick", fn := fun _ => fun
  | [d] => { results := [.lit (.bool true)], args := [d] }
  | _ => none }
def fnExactStripTickRow : OpenClaim := { program := "ytpdmimlkgmhepaa", sum := "0e80aa7a61de18850876d9aac0e06eab9042d14928f933c2683cf6b22a656102", func := "loop.example/lapstrip/laws.FnExactStripTick", spec := "fnExactStripTick", apart := false }
def FnExactStripTickSaid : Prop := fnExactStripTickRow.holds Try.pinned (OpenSpec.ofChange fnExactStripTickSpec)

/-- ITS FALSE NEIGHBOUR: 'it returns false'. Refute it at one input. -/
def fnExactStripTickWrong : ChangeSpec := { name := "fnExactStripTick", fn := fun _ => fun
  | [d] => { results := [.lit (.bool false)], args := [d] }
  | _ => none }
def FnExactStripTickWrongFalsely : Prop := fnExactStripTickRow.holds Try.pinned (OpenSpec.ofChange fnExactStripTickWrong)

/- THE SECOND FORM. 'bulk': how many values and letters a reading holds, each counted each time it is reached (what is shared counts as often as it is met; a slice's spare places count too). A statement '..UptoSaid' is the law's where the arguments, and the package variables that the reading takes, are together of bulk at most 1048576: NARROWER than '..Said'. Prove '..Said' where nothing that the law and all that it calls make is longer than what came in: it says more and counts as full. Else prove '..UptoSaid'. A law counts once. -/
mutual
def uptoBulk {H : Type} : DataW H → Nat
  | .lit (.string bytes) => bytes.length + 1
  | .lit _ => 1
  | .nil => 1
  | .ptr d => uptoBulk d + 1
  | .slice elems spare => uptoBulkAll elems + uptoBulkAll spare + 1
  | .agg parts => uptoBulkAll parts + 1
  | .iface _ d => uptoBulk d + 1
  | .map entries => uptoBulkEntries entries + 1
  | .held _ => 1
def uptoBulkAll {H : Type} : List (DataW H) → Nat
  | [] => 0
  | d :: r => uptoBulk d + uptoBulkAll r
def uptoBulkEntries {H : Type} : List (Lit × DataW H) → Nat
  | [] => 0
  | x :: r => uptoBulkEntry x + uptoBulkEntries r
def uptoBulkEntry {H : Type} : Lit × DataW H → Nat
  | (.string bytes, d) => bytes.length + uptoBulk d + 1
  | (_, d) => uptoBulk d + 1
 end
def uptoSmall : (H : Type) → List (DataW H) → Bool := fun _ ds => decide (uptoBulkAll ds ≤ 1048576)
def OpenSpec.upto (s : _root_.Go.ChangeSpec) : _root_.Go.OpenSpec := { _root_.Go.OpenSpec.ofChange s with cond := some uptoSmall }

/-- 'laws.FnExactStripShift', WHERE WHAT IT READS IS OF BULK AT MOST 1048576: true; the input reads as it did. -/
def fnExactStripShiftUptoRow : OpenClaim := { program := "ytpdmimlkgmhepaa", sum := "0e80aa7a61de18850876d9aac0e06eab9042d14928f933c2683cf6b22a656102", func := "loop.example/lapstrip/laws.FnExactStripShift", spec := "fnExactStripShift", apart := false, narrowed := true }
def FnExactStripShiftUptoSaid : Prop := fnExactStripShiftUptoRow.holds Try.pinned (OpenSpec.upto fnExactStripShiftSpec)

/-- 'laws.FnExactStripMovesOk', WHERE WHAT IT READS IS OF BULK AT MOST 1048576: true; the input reads as it did. -/
def fnExactStripMovesOkUptoRow : OpenClaim := { program := "ytpdmimlkgmhepaa", sum := "0e80aa7a61de18850876d9aac0e06eab9042d14928f933c2683cf6b22a656102", func := "loop.example/lapstrip/laws.FnExactStripMovesOk", spec := "fnExactStripMovesOk", apart := false, narrowed := true }
def FnExactStripMovesOkUptoSaid : Prop := fnExactStripMovesOkUptoRow.holds Try.pinned (OpenSpec.upto fnExactStripMovesOkSpec)

/-- 'laws.FnExactStripFits', WHERE WHAT IT READS IS OF BULK AT MOST 1048576: true; the input reads as it did. -/
def fnExactStripFitsUptoRow : OpenClaim := { program := "ytpdmimlkgmhepaa", sum := "0e80aa7a61de18850876d9aac0e06eab9042d14928f933c2683cf6b22a656102", func := "loop.example/lapstrip/laws.FnExactStripFits", spec := "fnExactStripFits", apart := false, narrowed := true }
def FnExactStripFitsUptoSaid : Prop := fnExactStripFitsUptoRow.holds Try.pinned (OpenSpec.upto fnExactStripFitsSpec)

/-- 'laws.FnExactStripCost', WHERE WHAT IT READS IS OF BULK AT MOST 1048576: true; the input reads as it did. -/
def fnExactStripCostUptoRow : OpenClaim := { program := "ytpdmimlkgmhepaa", sum := "0e80aa7a61de18850876d9aac0e06eab9042d14928f933c2683cf6b22a656102", func := "loop.example/lapstrip/laws.FnExactStripCost", spec := "fnExactStripCost", apart := false, narrowed := true }
def FnExactStripCostUptoSaid : Prop := fnExactStripCostUptoRow.holds Try.pinned (OpenSpec.upto fnExactStripCostSpec)

/-- 'laws.FnExactStripBookOk', WHERE WHAT IT READS IS OF BULK AT MOST 1048576: true; the input reads as it did. -/
def fnExactStripBookOkUptoRow : OpenClaim := { program := "ytpdmimlkgmhepaa", sum := "0e80aa7a61de18850876d9aac0e06eab9042d14928f933c2683cf6b22a656102", func := "loop.example/lapstrip/laws.FnExactStripBookOk", spec := "fnExactStripBookOk", apart := false, narrowed := true }
def FnExactStripBookOkUptoSaid : Prop := fnExactStripBookOkUptoRow.holds Try.pinned (OpenSpec.upto fnExactStripBookOkSpec)

/-- 'laws.FnExactStripOrder', WHERE WHAT IT READS IS OF BULK AT MOST 1048576: true; the input reads as it did. -/
def fnExactStripOrderUptoRow : OpenClaim := { program := "ytpdmimlkgmhepaa", sum := "0e80aa7a61de18850876d9aac0e06eab9042d14928f933c2683cf6b22a656102", func := "loop.example/lapstrip/laws.FnExactStripOrder", spec := "fnExactStripOrder", apart := false, narrowed := true }
def FnExactStripOrderUptoSaid : Prop := fnExactStripOrderUptoRow.holds Try.pinned (OpenSpec.upto fnExactStripOrderSpec)

/-- 'laws.FnFits', WHERE WHAT IT READS IS OF BULK AT MOST 1048576: true; the input reads as it did. -/
def fnFitsUptoRow : OpenClaim := { program := "ytpdmimlkgmhepaa", sum := "0e80aa7a61de18850876d9aac0e06eab9042d14928f933c2683cf6b22a656102", func := "loop.example/lapstrip/laws.FnFits", spec := "fnFits", apart := false, narrowed := true }
def FnFitsUptoSaid : Prop := fnFitsUptoRow.holds Try.pinned (OpenSpec.upto fnFitsSpec)

/-- 'laws.FnExactStripTick', WHERE WHAT IT READS IS OF BULK AT MOST 1048576: true; the input reads as it did. -/
def fnExactStripTickUptoRow : OpenClaim := { program := "ytpdmimlkgmhepaa", sum := "0e80aa7a61de18850876d9aac0e06eab9042d14928f933c2683cf6b22a656102", func := "loop.example/lapstrip/laws.FnExactStripTick", spec := "fnExactStripTick", apart := false, narrowed := true }
def FnExactStripTickUptoSaid : Prop := fnExactStripTickUptoRow.holds Try.pinned (OpenSpec.upto fnExactStripTickSpec)

end Rows
end Go.Proofs.Ytpdmimlkgmhepaa
