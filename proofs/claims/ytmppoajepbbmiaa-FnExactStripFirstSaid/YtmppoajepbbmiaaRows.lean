/-
  No cell of these rows narrows 'for every input' (looked for: loops, veiled, ifaces, maps, wideKeys, modest, calm, conditions, laid).
  DERIVED. THE GIVEN ROWS OF THIS SEAT. 8 by the template 'for every input the law returns true; each argument reads behind the call as it read before'; 0 by the template 'total and deterministic' (their statements: YtmppoajepbbmiaaTotals.lean).
  GIVEN WITH THE SEED: the statements are not yours to turn. If you find one false, say at which input.
  Laid BY PROGRAM, IN A SANDBOX (cutbox-rows.mjs): the forced cells as the released guide's own fill.sh prints them over the translation 94662a6746549455… (all of the seat's roots in one cut). By AI agents, Wed Nov 11 2026. No macro, syntax, notation, axiom, sorry.
-/
import Derived.Test.YtmppoajepbbmiaaChecked
import GoSem.Claim
import GoSem.ClaimJoined
import GoSem.ClaimMapViews
import Derived.JoinedTies
import Derived.KernelRfl
namespace Go.Proofs.Ytmppoajepbbmiaa
/- THE CELL 'sum', in the pinned program and in every row, IS THE sha256 OF THE DUMP (.gsa) THAT YtmppoajepbbmiaaProg.lean LOADS. Nothing in Lean hashes anything: it is a label: what it is worth is what the hold of that sum in a sandbox is worth. -/
noncomputable def Try.pinned : Pinned := { name := "ytmppoajepbbmiaa", sum := "94662a6746549455c3f7a449df627104cf1df7b64afbe614b41f4f96898ae206", checked := Try.checked }
namespace Rows
def none {H : Type} : Left H := { results := [], args := [] }

/-- 'laws.FnExactStripFirst': WHATEVER THE INPUT: true; the input reads as it did. -/
def fnExactStripFirstSpec : ChangeSpec := { name := "fnExactStripFirst", fn := fun _ => fun
  | [d] => { results := [.lit (.bool true)], args := [d] }
  | _ => none }
def fnExactStripFirstRow : OpenClaim := { program := "ytmppoajepbbmiaa", sum := "94662a6746549455c3f7a449df627104cf1df7b64afbe614b41f4f96898ae206", func := "loop.example/lapstrip/laws.FnExactStripFirst", spec := "fnExactStripFirst", inPlace := ["internal/reflectlite.ValueOf", "internal/reflectlite.Swapper", "(internal/reflectlite.Value).Len"], unfollowed := true, recurses := true, apart := false }
def FnExactStripFirstSaid : Prop := fnExactStripFirstRow.holds Try.pinned (OpenSpec.ofChange fnExactStripFirstSpec)

/-- ITS FALSE NEIGHBOUR: 'it returns false'. Refute it at one input. -/
def fnExactStripFirstWrong : ChangeSpec := { name := "fnExactStripFirst", fn := fun _ => fun
  | [d] => { results := [.lit (.bool false)], args := [d] }
  | _ => none }
def FnExactStripFirstWrongFalsely : Prop := fnExactStripFirstRow.holds Try.pinned (OpenSpec.ofChange fnExactStripFirstWrong)

/-- 'laws.FnOrder': WHATEVER THE INPUT: true; the input reads as it did. -/
def fnOrderSpec : ChangeSpec := { name := "fnOrder", fn := fun _ => fun
  | [d] => { results := [.lit (.bool true)], args := [d] }
  | _ => none }
def fnOrderRow : OpenClaim := { program := "ytmppoajepbbmiaa", sum := "94662a6746549455c3f7a449df627104cf1df7b64afbe614b41f4f96898ae206", func := "loop.example/lapstrip/laws.FnOrder", spec := "fnOrder", inPlace := ["internal/reflectlite.ValueOf", "internal/reflectlite.Swapper", "(internal/reflectlite.Value).Len"], unfollowed := true, recurses := true, apart := false }
def FnOrderSaid : Prop := fnOrderRow.holds Try.pinned (OpenSpec.ofChange fnOrderSpec)

/-- ITS FALSE NEIGHBOUR: 'it returns false'. Refute it at one input. -/
def fnOrderWrong : ChangeSpec := { name := "fnOrder", fn := fun _ => fun
  | [d] => { results := [.lit (.bool false)], args := [d] }
  | _ => none }
def FnOrderWrongFalsely : Prop := fnOrderRow.holds Try.pinned (OpenSpec.ofChange fnOrderWrong)

/-- 'laws.FnExactStripBest': WHATEVER THE INPUT: true; the input reads as it did. -/
def fnExactStripBestSpec : ChangeSpec := { name := "fnExactStripBest", fn := fun _ => fun
  | [d1, d2] => { results := [.lit (.bool true)], args := [d1, d2] }
  | _ => none }
def fnExactStripBestRow : OpenClaim := { program := "ytmppoajepbbmiaa", sum := "94662a6746549455c3f7a449df627104cf1df7b64afbe614b41f4f96898ae206", func := "loop.example/lapstrip/laws.FnExactStripBest", spec := "fnExactStripBest", inPlace := ["internal/reflectlite.ValueOf", "internal/reflectlite.Swapper", "(internal/reflectlite.Value).Len"], unfollowed := true, recurses := true, apart := false }
def FnExactStripBestSaid : Prop := fnExactStripBestRow.holds Try.pinned (OpenSpec.ofChange fnExactStripBestSpec)

/-- ITS FALSE NEIGHBOUR: 'it returns false'. Refute it at one input. -/
def fnExactStripBestWrong : ChangeSpec := { name := "fnExactStripBest", fn := fun _ => fun
  | [d1, d2] => { results := [.lit (.bool false)], args := [d1, d2] }
  | _ => none }
def FnExactStripBestWrongFalsely : Prop := fnExactStripBestRow.holds Try.pinned (OpenSpec.ofChange fnExactStripBestWrong)

/-- 'laws.FnBest': WHATEVER THE INPUT: true; the input reads as it did. -/
def fnBestSpec : ChangeSpec := { name := "fnBest", fn := fun _ => fun
  | [d] => { results := [.lit (.bool true)], args := [d] }
  | _ => none }
def fnBestRow : OpenClaim := { program := "ytmppoajepbbmiaa", sum := "94662a6746549455c3f7a449df627104cf1df7b64afbe614b41f4f96898ae206", func := "loop.example/lapstrip/laws.FnBest", spec := "fnBest", inPlace := ["internal/reflectlite.ValueOf", "internal/reflectlite.Swapper", "(internal/reflectlite.Value).Len"], unfollowed := true, recurses := true, apart := false }
def FnBestSaid : Prop := fnBestRow.holds Try.pinned (OpenSpec.ofChange fnBestSpec)

/-- ITS FALSE NEIGHBOUR: 'it returns false'. Refute it at one input. -/
def fnBestWrong : ChangeSpec := { name := "fnBest", fn := fun _ => fun
  | [d] => { results := [.lit (.bool false)], args := [d] }
  | _ => none }
def FnBestWrongFalsely : Prop := fnBestRow.holds Try.pinned (OpenSpec.ofChange fnBestWrong)

/-- 'laws.FnExactStripSure': WHATEVER THE INPUT: true; the input reads as it did. -/
def fnExactStripSureSpec : ChangeSpec := { name := "fnExactStripSure", fn := fun _ => fun
  | [d] => { results := [.lit (.bool true)], args := [d] }
  | _ => none }
def fnExactStripSureRow : OpenClaim := { program := "ytmppoajepbbmiaa", sum := "94662a6746549455c3f7a449df627104cf1df7b64afbe614b41f4f96898ae206", func := "loop.example/lapstrip/laws.FnExactStripSure", spec := "fnExactStripSure", inPlace := ["internal/reflectlite.ValueOf", "internal/reflectlite.Swapper", "(internal/reflectlite.Value).Len"], unfollowed := true, recurses := true, apart := false }
def FnExactStripSureSaid : Prop := fnExactStripSureRow.holds Try.pinned (OpenSpec.ofChange fnExactStripSureSpec)

/-- ITS FALSE NEIGHBOUR: 'it returns false'. Refute it at one input. -/
def fnExactStripSureWrong : ChangeSpec := { name := "fnExactStripSure", fn := fun _ => fun
  | [d] => { results := [.lit (.bool false)], args := [d] }
  | _ => none }
def FnExactStripSureWrongFalsely : Prop := fnExactStripSureRow.holds Try.pinned (OpenSpec.ofChange fnExactStripSureWrong)

/-- 'laws.FnExactStripRound': WHATEVER THE INPUT: true; the input reads as it did. -/
def fnExactStripRoundSpec : ChangeSpec := { name := "fnExactStripRound", fn := fun _ => fun
  | [d1, d2] => { results := [.lit (.bool true)], args := [d1, d2] }
  | _ => none }
def fnExactStripRoundRow : OpenClaim := { program := "ytmppoajepbbmiaa", sum := "94662a6746549455c3f7a449df627104cf1df7b64afbe614b41f4f96898ae206", func := "loop.example/lapstrip/laws.FnExactStripRound", spec := "fnExactStripRound", inPlace := ["internal/reflectlite.ValueOf", "internal/reflectlite.Swapper", "(internal/reflectlite.Value).Len"], unfollowed := true, recurses := true, apart := false }
def FnExactStripRoundSaid : Prop := fnExactStripRoundRow.holds Try.pinned (OpenSpec.ofChange fnExactStripRoundSpec)

/-- ITS FALSE NEIGHBOUR: 'it returns false'. Refute it at one input. -/
def fnExactStripRoundWrong : ChangeSpec := { name := "fnExactStripRound", fn := fun _ => fun
  | [d1, d2] => { results := [.lit (.bool false)], args := [d1, d2] }
  | _ => none }
def FnExactStripRoundWrongFalsely : Prop := fnExactStripRoundRow.holds Try.pinned (OpenSpec.ofChange fnExactStripRoundWrong)

/-- 'laws.FnSure': WHATEVER THE INPUT: true; the input reads as it did. -/
def fnSureSpec : ChangeSpec := { name := "fnSure", fn := fun _ => fun
  | [d] => { results := [.lit (.bool true)], args := [d] }
  | _ => none }
def fnSureRow : OpenClaim := { program := "ytmppoajepbbmiaa", sum := "94662a6746549455c3f7a449df627104cf1df7b64afbe614b41f4f96898ae206", func := "loop.example/lapstrip/laws.FnSure", spec := "fnSure", inPlace := ["internal/reflectlite.ValueOf", "internal/reflectlite.Swapper", "(internal/reflectlite.Value).Len"], unfollowed := true, recurses := true, apart := false }
def FnSureSaid : Prop := fnSureRow.holds Try.pinned (OpenSpec.ofChange fnSureSpec)

/-- ITS FALSE NEIGHBOUR: 'it returns false'. Refute it at one input. -/
def fnSureWrong : ChangeSpec := { name := "fnSure", fn := fun _ => fun
  | [d] => { results := [.lit (.bool false)], args := [d] }
  | _ => none }
def FnSureWrongFalsely : Prop := fnSureRow.holds Try.pinned (OpenSpec.ofChange fnSureWrong)

/-- 'laws.FnExactStripDrop': WHATEVER THE INPUT: true; the input reads as it did. -/
def fnExactStripDropSpec : ChangeSpec := { name := "fnExactStripDrop", fn := fun _ => fun
  | [d1, d2] => { results := [.lit (.bool true)], args := [d1, d2] }
  | _ => none }
def fnExactStripDropRow : OpenClaim := { program := "ytmppoajepbbmiaa", sum := "94662a6746549455c3f7a449df627104cf1df7b64afbe614b41f4f96898ae206", func := "loop.example/lapstrip/laws.FnExactStripDrop", spec := "fnExactStripDrop", inPlace := ["internal/reflectlite.ValueOf", "internal/reflectlite.Swapper", "(internal/reflectlite.Value).Len"], unfollowed := true, recurses := true, apart := false }
def FnExactStripDropSaid : Prop := fnExactStripDropRow.holds Try.pinned (OpenSpec.ofChange fnExactStripDropSpec)

/-- ITS FALSE NEIGHBOUR: 'it returns false'. Refute it at one input. -/
def fnExactStripDropWrong : ChangeSpec := { name := "fnExactStripDrop", fn := fun _ => fun
  | [d1, d2] => { results := [.lit (.bool false)], args := [d1, d2] }
  | _ => none }
def FnExactStripDropWrongFalsely : Prop := fnExactStripDropRow.holds Try.pinned (OpenSpec.ofChange fnExactStripDropWrong)

/- THE SECOND FORM. 'bulk': how many values and letters a reading holds, each counted each time it is reached (what is shared counts as often as it is met; a slice's spare places count too). A statement '..UptoSaid' is the law's where the arguments, and the package variables that the reading takes, are together of bulk at most 1048576: NARROWER than '..Said'. Prove '..Said' where nothing that the law and all that it calls make is longer than what came in: it says more and counts as full. Else prove '..UptoSaid'. A law counts once. -/
mutual
def uptoBulk {H : Type} : DataW H → Nat
  | .lit (.string bytes) => bytes.length + 1
  | .lit _ => 1
  | .nil => 1
  | .ptr d => uptoBulk d + 1
  | .slice elems spare => uptoBulkAll elems + uptoBulkAll spare + 1
  | .agg parts => uptoBulkAll parts + 1
  | .iface _ d => uptoBulk d + 1
  | .map entries => uptoBulkEntries entries + 1
  | .held _ => 1
def uptoBulkAll {H : Type} : List (DataW H) → Nat
  | [] => 0
  | d :: r => uptoBulk d + uptoBulkAll r
def uptoBulkEntries {H : Type} : List (Lit × DataW H) → Nat
  | [] => 0
  | x :: r => uptoBulkEntry x + uptoBulkEntries r
def uptoBulkEntry {H : Type} : Lit × DataW H → Nat
  | (.string bytes, d) => bytes.length + uptoBulk d + 1
  | (_, d) => uptoBulk d + 1
 end
def uptoSmall : (H : Type) → List (DataW H) → Bool := fun _ ds => decide (uptoBulkAll ds ≤ 1048576)
def OpenSpec.upto (s : _root_.Go.ChangeSpec) : _root_.Go.OpenSpec := { _root_.Go.OpenSpec.ofChange s with cond := some uptoSmall }

/-- 'laws.FnExactStripFirst', WHERE WHAT IT READS IS OF BULK AT MOST 1048576: true; the input reads as it did. -/
def fnExactStripFirstUptoRow : OpenClaim := { program := "ytmppoajepbbmiaa", sum := "94662a6746549455c3f7a449df627104cf1df7b64afbe614b41f4f96898ae206", func := "loop.example/lapstrip/laws.FnExactStripFirst", spec := "fnExactStripFirst", inPlace := ["internal/reflectlite.ValueOf", "internal/reflectlite.Swapper", "(internal/reflectlite.Value).Len"], unfollowed := true, recurses := true, apart := false, narrowed := true }
def FnExactStripFirstUptoSaid : Prop := fnExactStripFirstUptoRow.holds Try.pinned (OpenSpec.upto fnExactStripFirstSpec)

/-- 'laws.FnOrder', WHERE WHAT IT READS IS OF BULK AT MOST 1048576: true; the input reads as it did. -/
def fnOrderUptoRow : OpenClaim := { program := "ytmppoajepbbmiaa", sum := "94662a6746549455c3f7a449df627104cf1df7b64afbe614b41f4f96898ae206", func := "loop.example/lapstrip/laws.FnOrder", spec := "fnOrder", inPlace := ["internal/reflectlite.ValueOf", "internal/reflectlite.Swapper", "(internal/reflectlite.Value).Len"], unfollowed := true, recurses := true, apart := false, narrowed := true }
def FnOrderUptoSaid : Prop := fnOrderUptoRow.holds Try.pinned (OpenSpec.upto fnOrderSpec)

/-- 'laws.FnExactStripBest', WHERE WHAT IT READS IS OF BULK AT MOST 1048576: true; the input reads as it did. -/
def fnExactStripBestUptoRow : OpenClaim := { program := "ytmppoajepbbmiaa", sum := "94662a6746549455c3f7a449df627104cf1df7b64afbe614b41f4f96898ae206", func := "loop.example/lapstrip/laws.FnExactStripBest", spec := "fnExactStripBest", inPlace := ["internal/reflectlite.ValueOf", "internal/reflectlite.Swapper", "(internal/reflectlite.Value).Len"], unfollowed := true, recurses := true, apart := false, narrowed := true }
def FnExactStripBestUptoSaid : Prop := fnExactStripBestUptoRow.holds Try.pinned (OpenSpec.upto fnExactStripBestSpec)

/-- 'laws.FnBest', WHERE WHAT IT READS IS OF BULK AT MOST 1048576: true; the input reads as it did. -/
def fnBestUptoRow : OpenClaim := { program := "ytmppoajepbbmiaa", sum := "94662a6746549455c3f7a449df627104cf1df7b64afbe614b41f4f96898ae206", func := "loop.example/lapstrip/laws.FnBest", spec := "fnBest", inPlace := ["internal/reflectlite.ValueOf", "internal/reflectlite.Swapper", "(internal/reflectlite.Value).Len"], unfollowed := true, recurses := true, apart := false, narrowed := true }
def FnBestUptoSaid : Prop := fnBestUptoRow.holds Try.pinned (OpenSpec.upto fnBestSpec)

/-- 'laws.FnExactStripSure', WHERE WHAT IT READS IS OF BULK AT MOST 1048576: true; the input reads as it did. -/
def fnExactStripSureUptoRow : OpenClaim := { program := "ytmppoajepbbmiaa", sum := "94662a6746549455c3f7a449df627104cf1df7b64afbe614b41f4f96898ae206", func := "loop.example/lapstrip/laws.FnExactStripSure", spec := "fnExactStripSure", inPlace := ["internal/reflectlite.ValueOf", "internal/reflectlite.Swapper", "(internal/reflectlite.Value).Len"], unfollowed := true, recurses := true, apart := false, narrowed := true }
def FnExactStripSureUptoSaid : Prop := fnExactStripSureUptoRow.holds Try.pinned (OpenSpec.upto fnExactStripSureSpec)

/-- 'laws.FnExactStripRound', WHERE WHAT IT READS IS OF BULK AT MOST 1048576: true; the input reads as it did. -/
def fnExactStripRoundUptoRow : OpenClaim := { program := "ytmppoajepbbmiaa", sum := "94662a6746549455c3f7a449df627104cf1df7b64afbe614b41f4f96898ae206", func := "loop.example/lapstrip/laws.FnExactStripRound", spec := "fnExactStripRound", inPlace := ["internal/reflectlite.ValueOf", "internal/reflectlite.Swapper", "(internal/reflectlite.Value).Len"], unfollowed := true, recurses := true, apart := false, narrowed := true }
def FnExactStripRoundUptoSaid : Prop := fnExactStripRoundUptoRow.holds Try.pinned (OpenSpec.upto fnExactStripRoundSpec)

/-- 'laws.FnSure', WHERE WHAT IT READS IS OF BULK AT MOST 1048576: true; the input reads as it did. -/
def fnSureUptoRow : OpenClaim := { program := "ytmppoajepbbmiaa", sum := "94662a6746549455c3f7a449df627104cf1df7b64afbe614b41f4f96898ae206", func := "loop.example/lapstrip/laws.FnSure", spec := "fnSure", inPlace := ["internal/reflectlite.ValueOf", "internal/reflectlite.Swapper", "(internal/reflectlite.Value).Len"], unfollowed := true, recurses := true, apart := false, narrowed := true }
def FnSureUptoSaid : Prop := fnSureUptoRow.holds Try.pinned (OpenSpec.upto fnSureSpec)

/-- 'laws.FnExactStripDrop', WHERE WHAT IT READS IS OF BULK AT MOST 1048576: true; the input reads as it did. -/
def fnExactStripDropUptoRow : OpenClaim := { program := "ytmppoajepbbmiaa", sum := "94662a6746549455c3f7a449df627104cf1df7b64afbe614b41f4f96898ae206", func := "loop.example/lapstrip/laws.FnExactStripDrop", spec := "fnExactStripDrop", inPlace := ["internal/reflectlite.ValueOf", "internal/reflectlite.Swapper", "(internal/reflectlite.Value).Len"], unfollowed := true, recurses := true, apart := false, narrowed := true }
def FnExactStripDropUptoSaid : Prop := fnExactStripDropUptoRow.holds Try.pinned (OpenSpec.upto fnExactStripDropSpec)

end Rows
end Go.Proofs.Ytmppoajepbbmiaa
