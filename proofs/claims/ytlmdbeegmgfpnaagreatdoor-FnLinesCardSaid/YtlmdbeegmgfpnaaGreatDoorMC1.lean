/- The machine, part 1 of 2: an abstract machine over lists, and that what it does is what the program does; no condition -/
import GoSem.Core.Code
import GoSem.Op.String
import Derived.RowKit
import Derived.Below
import Derived.Orders
import Derived.Lib.ItoaNum
import Derived.Deep.AppendSrc
import Derived.Deep.MidRow
import Derived.Laws.Entries
import Derived.Laws.BytesString
import Derived.Laws.Slices
import Derived.Laws.AppendOwn
/- An abstract machine over lists in place of memory: its values, its state, what an operation does; no condition. -/
namespace Go.AM
set_option linter.unusedVariables false
set_option linter.unusedSimpArgs false
open Go.RowKit

/-- A move, field by field. -/
structure Mv where
  f0 : ByteArray
  f1 : Bool
  f2 : Int
  f3 : Int
  f4 : Int
  f5 : Int
def Mv.z : Mv := ⟨ByteArray.empty, false, 0, 0, 0, 0⟩
/-- Kinds of elements. -/
inductive El where
  | int (k : IntKind) | bool | str | mv | ints
abbrev El.T : El → Type
  | .int _ => Int
  | .bool => Bool
  | .str => ByteArray
  | .mv => Mv
  | .ints => List Int
def El.sz : El → Nat
  | .mv => 6
  | _ => 1
def El.d : (e : El) → e.T
  | .int _ => (0 : Int)
  | .bool => false
  | .str => ByteArray.empty
  | .mv => Mv.z
  | .ints => ([] : List Int)
def rd (xs : List Int) (i : Int) : Int := xs.getD i.toNat 0
def rdB (xs : List Bool) (i : Int) : Bool := xs.getD i.toNat false
def rdS (xs : List ByteArray) (i : Int) : ByteArray := xs.getD i.toNat ByteArray.empty
def rdM (xs : List Mv) (i : Int) : Mv := xs.getD i.toNat Mv.z
def rdL (xs : List (List Int)) (i : Int) : List Int := xs.getD i.toNat []
def El.rd : (e : El) → List e.T → Int → e.T
  | .int _, xs, i => AM.rd xs i
  | .bool, xs, i => rdB xs i
  | .str, xs, i => rdS xs i
  | .mv, xs, i => rdM xs i
  | .ints, xs, i => rdL xs i
def bt (s : ByteArray) (i : Int) : Int := if h : i.toNat < s.size then ((s[i.toNat]'h).toNat : Int) else 0
def ofBytes (xs : List Int) : ByteArray := ⟨(xs.map fun n => UInt8.ofNat n.toNat).toArray⟩
/-- Names of blocks: what came in, and what an operation has made. -/
inductive L where
  | k (n : Nat)
  | t (d j : Nat)
  deriving DecidableEq
def L.beq : L → L → Bool
  | .k n, .k m => Nat.beq n m
  | .t d j, .t d' j' => match Nat.beq d d' with
    | true => Nat.beq j j'
    | false => false
  | _, _ => false
/-- What one cell holds. -/
inductive A where
  | int (k : IntKind) (n : Int)
  | bool (b : Bool)
  | str (s : ByteArray)
  | nil
  | lst (e : El) (xs : List e.T) (full : Bool)
  | own (l : L)
  | sub (l : L) (off len : Nat)
  | ptr (l : L) (j : Nat)
  | ep (l : L) (i : Int) (j : Nat)
  | lp (e : El) (x : e.T) (j : Nat)
  | nilp
  | fn (f : FuncId) (caps : List A)
  | nilf
  | raw (x : Addr)
  | any
  | ifc (t : TypeId) (a : A)
inductive V where
  | one (a : A)
  | agg (as : List A)
  | tup (vs : List V)
/-- What a block holds. -/
inductive C where
  | cells (as : List A)
  | row (e : El) (xs : List e.T)
def encMv (m : Mv) : List A := [.str m.f0, .bool m.f1, .int .i64 m.f2, .int .i64 m.f3, .int .i64 m.f4, .int .i64 m.f5]
def El.enc : (e : El) → e.T → List A
  | .int k, n => [.int k n]
  | .bool, b => [.bool b]
  | .str, s => [.str s]
  | .mv, m => [.str m.f0, .bool m.f1, .int .i64 m.f2, .int .i64 m.f3, .int .i64 m.f4, .int .i64 m.f5]
  | .ints, xs => [.lst (.int .i64) xs false]
/-- The cells of an element that stands at a place. -/
def El.at : (e : El) → List e.T → Int → List A
  | .int k, xs, i => [.int k (AM.rd xs i)]
  | .bool, xs, i => [.bool (rdB xs i)]
  | .str, xs, i => [.str (rdS xs i)]
  | .mv, xs, i => [.str (rdM xs i).f0, .bool (rdM xs i).f1, .int .i64 (rdM xs i).f2, .int .i64 (rdM xs i).f3, .int .i64 (rdM xs i).f4, .int .i64 (rdM xs i).f5]
  | .ints, xs, i => [.lst (.int .i64) (rdL xs i) false]
def kEq : IntKind → IntKind → Bool
  | .i8, .i8 | .i16, .i16 | .i32, .i32 | .i64, .i64 | .u8, .u8 | .u16, .u16 | .u32, .u32 | .u64, .u64 => true
  | _, _ => false
def El.dec : (e : El) → List A → Option e.T
  | .int k, [.int k' n] => match kEq k k' with
    | true => some n
    | false => none
  | .bool, [.bool b] => some b
  | .str, [.str s] => some s
  | .mv, [.str s, .bool b, .int .i64 a, .int .i64 c, .int .i64 d, .int .i64 e] => some ⟨s, b, a, c, d, e⟩
  | .ints, [.lst (.int .i64) xs _] => some xs
  | _, _ => none

def lk {β : Type} (t : Nat) : List (Nat × β) → Option β
  | [] => none
  | (u, v) :: l => match Nat.beq t u with
    | true => some v
    | false => lk t l
def lkL {β : Type} (l : L) : List (L × β) → Option β
  | [] => none
  | (u, v) :: s => match L.beq l u with
    | true => some v
    | false => lkL l s
def nth {β : Type} : List β → Nat → Option β
  | [], _ => none
  | x :: _, 0 => some x
  | _ :: l, n + 1 => nth l n

/-- Shapes of types. -/
inductive Sh where
  | int (k : IntKind) | bool | str
  | sl (e : El) (et : TypeId)
  | st (fs : List (Nat × Nat × Bool)) (eq : Bool)
  | arr (n : Nat) (es : Nat) (agg : Bool)
  | ptr | fn | ifc | oth
structure Ty where
  sh : Sh
  sz : Nat
  bytes : Nat
  agg : Bool
  zero : List A
  ck : List (Option El)
abbrev Tab := List (Nat × Ty)
abbrev Sto := List (L × Option C)
abbrev Env := List (Nat × V)

/-- What an operation reads, wants and does. -/
inductive M (α : Type) where
  | ret (a : α)
  | need (p : Prop) (m : M α)
  | get (l : L) (k : C → M α)
  | fail (why : Nat)
def M.bind {α β : Type} : M α → (α → M β) → M β
  | .ret a, f => f a
  | .need p m, f => .need p (m.bind f)
  | .get l k, f => .get l fun c => (k c).bind f
  | .fail n, _ => .fail n
structure Upd where
  v : V
  w : Sto
inductive MR (α : Type) where
  | ok (a : α) (rl : List L) (ps : List Prop)
  | fail (why : Nat)
def lkC (l : L) (s : Sto) : Option C := match lkL l s with
  | some c => c
  | none => none
def M.go {α : Type} (s : Sto) : M α → List L → List Prop → MR α
  | .ret a, rl, ps => .ok a rl ps
  | .need p m, rl, ps => m.go s rl (p :: ps)
  | .get l k, rl, ps => match lkC l s with
    | some c => (k c).go s (l :: rl) ps
    | none => .fail 1
  | .fail n, _, _ => .fail n

def V.atoms : V → List A
  | .one a => [a]
  | .agg as => as
  | .tup _ => []
/-- Pieces of lists, written out. -/
def takeO : Nat → List A → Option (List A)
  | 0, _ => some []
  | n + 1, a :: as => match takeO n as with
    | some r => some (a :: r)
    | none => none
  | _ + 1, [] => none
def dropO : Nat → List A → Option (List A)
  | 0, as => some as
  | n + 1, _ :: as => dropO n as
  | _ + 1, [] => none
def pieceO (j n : Nat) (as : List A) : Option (List A) := match dropO j as with
  | some bs => takeO n bs
  | none => none
def setO : List A → Nat → A → Option (List A)
  | _ :: as, 0, b => some (b :: as)
  | a :: as, n + 1, b => match setO as n b with
    | some r => some (a :: r)
    | none => none
  | [], _, _ => none
def storeO (as : List A) (j : Nat) : List A → Option (List A)
  | [] => some as
  | b :: bs => match setO as j b with
    | some as' => storeO as' (j + 1) bs
    | none => none
def vOf (agg : Bool) (as : List A) : Option V := match agg, as with
  | true, as => some (.agg as)
  | false, [a] => some (.one a)
  | false, _ => none
def outA (a : A) : M Upd := .ret ⟨.one a, []⟩
def outO (why : Nat) : Option V → M Upd
  | some v => .ret ⟨v, []⟩
  | none => .fail why
def mkI : IntKind → Int → M Upd
  | .i64, n => outA (.int .i64 (wrap64 n))
  | k, n => outA (.int k (k.wrap n))

def loadP (ty : Ty) : A → M Upd
  | .ptr l j => .get l fun
    | .cells as => match pieceO j ty.sz as with
      | some bs => outO 11 (vOf ty.agg bs)
      | none => .fail 12
    | .row _ _ => .fail 13
  | .ep l i j => .get l fun
    | .row e xs => match pieceO j ty.sz (e.at xs i) with
      | some bs => .need (0 ≤ i ∧ i < (xs.length : Int)) (outO 14 (vOf ty.agg bs))
      | none => .fail 15
    | .cells _ => .fail 16
  | .lp e x j => match pieceO j ty.sz (e.enc x) with
    | some bs => outO 17 (vOf ty.agg bs)
    | none => .fail 18
  | _ => .fail 19
def storeP (ty : Ty) (x : List A) : A → M Upd
  | .ptr l j => .get l fun
    | .cells as => match Nat.beq x.length ty.sz, storeO as j x with
      | true, some bs => .ret ⟨.tup [], [(l, some (.cells bs))]⟩
      | _, _ => .fail 21
    | .row _ _ => .fail 22
  | .ep l i j => .get l fun
    | .row e xs => match Nat.beq x.length ty.sz, storeO (e.at xs i) j x with
      | true, some bs => match e.dec bs with
        | some y => .need (0 ≤ i ∧ i < (xs.length : Int)) (.ret ⟨.tup [], [(l, some (.row e (xs.set i.toNat y)))]⟩)
        | none => .fail 23
      | _, _ => .fail 24
    | .cells _ => .fail 25
  | _ => .fail 26

def binI (op : BinOp) (k : IntKind) (a b : Int) : M Upd := match op with
  | .add => mkI k (a + b)
  | .sub => mkI k (a - b)
  | .mul => mkI k (a * b)
  | .quo => .need (b ≠ 0) (mkI k (a.tdiv b))
  | .rem => .need (b ≠ 0) (outA (.int k (a.tmod b)))
  | .eql => outA (.bool (a == b))
  | .neq => outA (.bool (a != b))
  | .lss => outA (.bool (decide (a < b)))
  | .leq => outA (.bool (decide (a ≤ b)))
  | .gtr => outA (.bool (decide (b < a)))
  | .geq => outA (.bool (decide (b ≤ a)))
  | .xor => mkI k ((BitVec.ofInt k.bits a ^^^ BitVec.ofInt k.bits b).toNat : Int)
  | .and => mkI k ((BitVec.ofInt k.bits a &&& BitVec.ofInt k.bits b).toNat : Int)
  | .or => mkI k ((BitVec.ofInt k.bits a ||| BitVec.ofInt k.bits b).toNat : Int)
  | _ => .fail 31
def shI (op : BinOp) (k : IntKind) (a b : Int) : M Upd := match op with
  | .shl => .need (0 ≤ b) (mkI k (a * 2 ^ (min b.toNat k.bits)))
  | .shr => .need (0 ≤ b) (outA (.int k (a.fdiv (2 ^ (min b.toNat k.bits)))))
  | _ => .fail 32
def binS (op : BinOp) (x y : ByteArray) : M Upd := match op with
  | .add => .need (x.size + y.size ≤ 9223372036854775807) (outA (.str (x ++ y)))
  | .eql => outA (.bool (x.toList == y.toList))
  | .neq => outA (.bool !(x.toList == y.toList))
  | .lss => outA (.bool (Op.bytesLess x.toList y.toList))
  | .leq => outA (.bool (Op.bytesLess x.toList y.toList || x.toList == y.toList))
  | .gtr => outA (.bool !(Op.bytesLess x.toList y.toList || x.toList == y.toList))
  | .geq => outA (.bool !(Op.bytesLess x.toList y.toList))
  | _ => .fail 33
/-- Two moves, cell by cell. -/
def eqMv : List A → List A → Option Bool
  | [.str s, .bool b, .int .i64 n1, .int .i64 n2, .int .i64 n3, .int .i64 n4], [.str s', .bool b', .int .i64 m1, .int .i64 m2, .int .i64 m3, .int .i64 m4] => some (s == s' && (b == b' && (n1 == m1 && (n2 == m2 && (n3 == m3 && n4 == m4)))))
  | _, _ => none
def isShift : BinOp → Bool
  | .shl | .shr => true
  | _ => false
def binV (op : BinOp) (sh : Sh) : V → V → M Upd
  | .one (.int k a), .one (.int k' b) => match isShift op, kEq k k' with
    | true, _ => shI op k a b
    | false, true => binI op k a b
    | false, false => .fail 34
  | .one (.str a), .one (.str b) => binS op a b
  | .one (.bool a), .one (.bool b) => match op, sh with
    | .eql, .bool => outA (.bool (a == b))
    | .neq, .bool => outA (.bool !(a == b))
    | _, _ => .fail 35
  | .agg as, .agg bs => match op, sh, eqMv as bs with
    | .eql, .st _ true, some r => outA (.bool r)
    | .neq, .st _ true, some r => outA (.bool !r)
    | _, _, _ => .fail 36
  | .one .nil, .one .nil => match op, sh with
    | .eql, .sl _ _ => outA (.bool true)
    | .neq, .sl _ _ => outA (.bool false)
    | _, _ => .fail 37
  | _, _ => .fail 38
def unV (op : UnOp) : V → M Upd
  | .one (.bool b) => match op with
    | .not => outA (.bool !b)
    | _ => .fail 41
  | .one (.int k n) => match op with
    | .neg => mkI k (0 - n)
    | _ => .fail 42
  | _ => .fail 43
def convV (s d : Sh) : V → M Upd
  | .one (.int _ n) => match d with
    | .int k => mkI k n
    | _ => .fail 44
  | .one (.str x) => match d with
    | .str => outA (.str x)
    | _ => .fail 45
  | .one (.own l) => match s, d with
    | .sl (.int .u8) _, .str => .get l fun
      | .row (.int .u8) xs => outA (.str (ofBytes xs))
      | _ => .fail 46
    | _, _ => .fail 47
  | _ => .fail 48
def optI : Option (Option V) → Option (Option Int)
  | none => some none
  | some (some (.one (.int .i64 n))) => some (some n)
  | _ => none
def szOk (sh : Sh) (e : El) : Bool := match sh with
  | .sl e' _ => Nat.beq e'.sz e.sz
  | _ => false
def sliceS (lo hi mx : Option Int) (s : ByteArray) : M Upd := match lo, hi, mx with
  | none, none, none => outA (.str s)
  | some l, none, none => .need (0 ≤ l ∧ l ≤ (s.size : Int)) (outA (.str (s.extract l.toNat s.size)))
  | none, some h, none => .need (0 ≤ h ∧ h ≤ (s.size : Int)) (outA (.str (s.extract 0 h.toNat)))
  | some l, some h, none => .need (0 ≤ l ∧ l ≤ h ∧ h ≤ (s.size : Int)) (outA (.str (s.extract l.toNat h.toNat)))
  | _, _, _ => .fail 51
def sliceL (lo hi mx : Option Int) (e : El) (xs : List e.T) (full : Bool) : M Upd := match lo, hi, mx with
  | none, none, none => outA (.lst e xs full)
  | some l, none, none => .need (0 ≤ l ∧ l ≤ (xs.length : Int)) (outA (.lst e (xs.drop l.toNat) full))
  | none, some h, none => .need (0 ≤ h ∧ h ≤ (xs.length : Int)) (outA (.lst e (xs.take h.toNat) false))
  | some l, some h, none => .need (0 ≤ l ∧ l ≤ h ∧ h ≤ (xs.length : Int)) (outA (.lst e ((xs.take h.toNat).drop l.toNat) false))
  | none, some h, some m => .need (0 ≤ h ∧ h = m ∧ h ≤ (xs.length : Int)) (outA (.lst e (xs.take h.toNat) true))
  | some l, some h, some m => .need (0 ≤ l ∧ l ≤ h ∧ h = m ∧ h ≤ (xs.length : Int)) (outA (.lst e ((xs.take h.toNat).drop l.toNat) true))
  | _, _, _ => .fail 52
def sliceO (lo hi mx : Option Int) (k : L) (off len n : Nat) : M Upd := match lo, hi, mx with
  | none, none, none => outA (.sub k off len)
  | some l, none, none => .need (0 ≤ l ∧ l ≤ (len : Int) ∧ off + len ≤ n) (outA (.sub k (off + l.toNat) (len - l.toNat)))
  | none, some h, none => .need (0 ≤ h ∧ off + h.toNat ≤ n) (outA (.sub k off h.toNat))
  | some l, some h, none => .need (0 ≤ l ∧ l ≤ h ∧ off + h.toNat ≤ n) (outA (.sub k (off + l.toNat) (h.toNat - l.toNat)))
  | some l, some h, some m => .need (0 ≤ l ∧ l ≤ h ∧ h ≤ m ∧ off + m.toNat ≤ n) (outA .any)
  | _, _, _ => .fail 55
/-- xs[l:h:m]. -/
def sliceV (sh : Sh) (lo hi mx : Option Int) : V → M Upd
  | .one (.str s) => match sh with
    | .str => sliceS lo hi mx s
    | _ => .fail 50
  | .one (.lst e xs full) => match szOk sh e with
    | true => sliceL lo hi mx e xs full
    | false => .fail 56
  | .one (.own k) => .get k fun
    | .row e xs => match szOk sh e with
      | true => match lo, hi, mx with
        | none, none, none => outA (.own k)
        | _, _, _ => sliceO lo hi mx k 0 xs.length xs.length
      | false => .fail 53
    | .cells _ => .fail 54
  | .one (.sub k off len) => .get k fun
    | .row e xs => match szOk sh e with
      | true => sliceO lo hi mx k off len xs.length
      | false => .fail 57
    | .cells _ => .fail 58
  | _ => .fail 59
def fieldA (off : Nat) : A → Option A
  | .ptr l j => some (.ptr l (j + off))
  | .ep l i j => some (.ep l i (j + off))
  | .lp e x j => some (.lp e x (j + off))
  | _ => none
def El.lpAt : (e : El) → List e.T → Int → A
  | .int k, xs, i => .lp (.int k) (AM.rd xs i) 0
  | .bool, xs, i => .lp .bool (rdB xs i) 0
  | .str, xs, i => .lp .str (rdS xs i) 0
  | .mv, xs, i => .lp .mv (rdM xs i) 0
  | .ints, xs, i => .lp .ints (rdL xs i) 0
def litNat : Int → Option Nat
  | .ofNat n => some n
  | .negSucc _ => none
def indexA (sh : Sh) (i : Int) : A → M Upd
  | .lst e xs _ => match szOk sh e with
    | true => .need (0 ≤ i ∧ i < (xs.length : Int)) (outA (e.lpAt xs i))
    | false => .fail 60
  | .own l => .get l fun
    | .row e xs => match szOk sh e with
      | true => .need (0 ≤ i ∧ i < (xs.length : Int)) (outA (.ep l i 0))
      | false => .fail 61
    | .cells _ => .fail 62
  | .sub l off len => .get l fun
    | .row e xs => match szOk sh e with
      | true => .need (0 ≤ i ∧ i < (len : Int) ∧ off + len ≤ xs.length) (outA (.ep l ((off : Int) + i) 0))
      | false => .fail 63
    | .cells _ => .fail 64
  | .ptr l j => match sh, litNat i with
    | .arr n es _, some m => match Nat.blt m n with
      | true => outA (.ptr l (j + m * es))
      | false => .fail 65
    | _, _ => .fail 66
  | _ => .fail 67
def indexV (sh : Sh) (i : Int) : V → M Upd
  | .one (.str s) => match sh with
    | .str => .need (0 ≤ i ∧ i < (s.size : Int)) (outA (.int .u8 (bt s i)))
    | _ => .fail 68
  | _ => .fail 69
def lenV (sh : Sh) : V → M Upd
  | .one (.str s) => match sh with
    | .str => outA (.int .i64 (s.size : Int))
    | _ => .fail 70
  | .one .nil => match sh with
    | .sl _ _ => outA (.int .i64 0)
    | _ => .fail 71
  | .one (.lst _ xs _) => match sh with
    | .sl _ _ => outA (.int .i64 (xs.length : Int))
    | _ => .fail 72
  | .one (.own l) => match sh with
    | .sl _ _ => .get l fun
      | .row _ xs => outA (.int .i64 (xs.length : Int))
      | .cells _ => .fail 73
    | _ => .fail 74
  | .one (.sub _ _ len) => match sh with
    | .sl _ _ => outA (.int .i64 (len : Int))
    | _ => .fail 75
  | _ => .fail 76
/-- The elements of a slice that is read, of a kind that is known. -/
def El.cast : (e e' : El) → List e.T → Option (List e'.T)
  | .int k, .int k', xs => match kEq k k' with
    | true => some xs
    | false => none
  | .bool, .bool, xs => some xs
  | .str, .str, xs => some xs
  | .mv, .mv, xs => some xs
  | .ints, .ints, xs => some xs
  | _, _, _ => none
def strEls (e : El) (s : ByteArray) : Option (List e.T) := match e with
  | .int .u8 => some (s.data.toList.map fun b => (b.toNat : Int))
  | _ => none
def moM {α : Type} (why : Nat) : Option α → M α
  | some a => .ret a
  | none => .fail why
def els (sh : Sh) (e : El) : V → M (List e.T)
  | .one (.str s) => match sh with
    | .str => moM 91 (strEls e s)
    | _ => .fail 92
  | .one .nil => match sh with
    | .sl _ _ => .ret []
    | _ => .fail 93
  | .one (.lst e' xs _) => match sh with
    | .sl _ _ => moM 94 (e'.cast e xs)
    | _ => .fail 95
  | .one (.own l) => match sh with
    | .sl _ _ => .get l fun
      | .row e' xs => moM 96 (e'.cast e xs)
      | .cells _ => .fail 97
    | _ => .fail 98
  | .one (.sub l off len) => match sh with
    | .sl _ _ => .get l fun
      | .row e' xs => match e'.cast e xs with
        | some ys => .need (off + len ≤ ys.length) (.ret ((ys.drop off).take len))
        | none => .fail 99
      | .cells _ => .fail 100
    | _ => .fail 101
  | _ => .fail 102
def appendV (e : El) (bytes : Nat) (nb : L) (base : V) (ys : List e.T) : M Upd := match base with
  | .one .nil => .need (ys.length * bytes ≤ 140737488355328) (.ret ⟨.one (.own nb), [(nb, some (.row e ys))]⟩)
  | .one (.lst e' xs full) => match full, e'.cast e xs with
    | true, some xs => .need ((xs = [] ∨ 0 < ys.length) ∧ (xs.length + ys.length) * bytes ≤ 140737488355328) (.ret ⟨.one (.own nb), [(nb, some (.row e (xs ++ ys)))]⟩)
    | _, _ => .fail 81
  | .one (.own l) => .get l fun
    | .row e' xs => match e'.cast e xs with
      | some xs => .need ((xs.length + ys.length) * bytes ≤ 140737488355328) (.ret ⟨.one (.own nb), [(l, none), (nb, some (.row e (xs ++ ys)))]⟩)
      | none => .fail 82
    | .cells _ => .fail 83
  | .one (.sub l off len) => .get l fun
    | .row e' xs => match e'.cast e xs with
      | some xs => .need (off + len + ys.length ≤ xs.length) (.ret ⟨.one (.sub l off (len + ys.length)), [(l, some (.row e (xs.take (off + len) ++ ys ++ xs.drop (off + len + ys.length))))]⟩)
      | none => .fail 84
    | .cells _ => .fail 85
  | _ => .fail 86
def clearV (sh : Sh) : V → M Upd
  | .one (.sub l off len) => .get l fun
    | .row e xs => match sh with
      | .sl e' _ => match e.cast e' xs with
        | some zs => .need (off + len ≤ zs.length) (.ret ⟨.tup [], [(l, some (.row e' (zs.take off ++ List.replicate len e'.d ++ zs.drop (off + len))))]⟩)
        | none => .fail 87
      | _ => .fail 90
    | .cells _ => .fail 89
  | _ => .fail 88
def maxV : List V → Option A
  | [.one (.int k a)] => some (.int k a)
  | [.one (.int .i64 a), .one (.int .i64 b)] => some (.int .i64 (max a b))
  | [.one (.int .i64 a), .one (.int .i64 b), .one (.int .i64 c)] => some (.int .i64 (max (max a b) c))
  | _ => none
def minV : List V → Option A
  | [.one (.int .i64 a), .one (.int .i64 b)] => some (.int .i64 (min a b))
  | _ => none
end Go.AM

/- The abstract machine: its steps; no condition. -/
namespace Go.AM
set_option linter.unusedVariables false
set_option linter.unusedSimpArgs false
open Go.RowKit

def constV : Value → Option V
  | .int k n => some (.one (.int k n))
  | .bool b => some (.one (.bool b))
  | .string s => some (.one (.str s))
  | .slice none 0 0 => some (.one .nil)
  | .pointer none => some (.one .nilp)
  | .nilFunc => some (.one .nilf)
  | _ => none
def opnd (env : Env) : Operand → Option V
  | .tmp t => lk t env
  | .const v => constV v
  | .global _ => none
  | .func f => some (.one (.fn f []))
def opnds (env : Env) : List Operand → Option (List V)
  | [] => some []
  | x :: xs => match opnd env x, opnds env xs with
    | some v, some vs => some (v :: vs)
    | _, _ => none
def opndO (env : Env) : Option Operand → Option (Option V)
  | none => none
  | some x => some (opnd env x)
def tyOf (tab : Tab) (t : TypeId) : Option Ty := lk t tab
def fillSt (env : Env) (fs : List (Nat × Nat × Bool)) : List (Nat × Operand) → List A → Option (List A)
  | [], as => some as
  | (i, x) :: ps, as => match nth fs i, opnd env x with
    | some (off, sz, _), some v => match Nat.blt 0 sz, Nat.beq v.atoms.length sz, storeO as off v.atoms with
      | true, true, some as' => fillSt env fs ps as'
      | _, _, _ => none
    | _, _ => none
/-- The elements of a literal: each place in order, once. -/
def fillRow (e : El) (env : Env) (i : Nat) : List (Nat × Operand) → M (List e.T)
  | [] => .ret []
  | (j, x) :: ps => match Nat.beq j i, opnd env x with
    | true, some (.one (.own l)) => .get l fun
      | .row (.int .i64) xs => match e.dec [.lst (.int .i64) xs false] with
        | some y => (fillRow e env (i + 1) ps).bind fun ys => .ret (y :: ys)
        | none => .fail 101
      | _ => .fail 102
    | true, some v => match e.dec v.atoms with
      | some y => (fillRow e env (i + 1) ps).bind fun ys => .ret (y :: ys)
      | none => .fail 103
    | _, _ => .fail 104
/-- The places that a literal takes over. -/
def takenBy (env : Env) : List (Nat × Operand) → Sto
  | [] => []
  | (_, x) :: ps => match opnd env x with
    | some (.one (.own l)) => (l, none) :: takenBy env ps
    | _ => takenBy env ps
def dropFrom : Nat → Nat → List Nat
  | 0, _ => []
  | n + 1, i => i :: dropFrom n (i + 1)
def moV (why : Nat) : Option V → (V → M Upd) → M Upd
  | some v, f => f v
  | none, _ => .fail why
def vInt : V → Option Int
  | .one (.int .i64 n) => some n
  | _ => none
def optN (env : Env) : Option Operand → Option (Option Int)
  | none => some none
  | some x => match opnd env x with
    | some (.one (.int .i64 n)) => some (some n)
    | _ => none
def tySl (tab : Tab) (t : TypeId) : Option (El × Nat) := match tyOf tab t with
  | some ⟨.sl e et, _, _, _, _, _⟩ => match tyOf tab et with
    | some te => match Nat.blt 0 te.bytes with
      | true => some (e, te.bytes)
      | false => none
    | none => none
  | _ => none
def oneAtoms : List V → Option (List A)
  | [] => some []
  | .one a :: vs => match oneAtoms vs with
    | some as => some (a :: as)
    | none => none
  | _ => none
def makeFuncM (env : Env) (fn : Fn) (first cap : List Operand) : M Upd := match fn, first, opnds env cap with
  | .func f, [], some vs => match oneAtoms vs with
    | some as => outA (.fn f as)
    | none => .fail 218
  | _, _, _ => .fail 217
def builtinM (tab : Tab) (nb : L) (b : Builtin) (ts : List TypeId) (args : Option (List V)) : M Upd := match b, ts, args with
  | .len, [t], some [v] => match tyOf tab t with
    | some ty => lenV ty.sh v
    | none => .fail 232
  | .append, [t, t'], some [v, w] => match tySl tab t, tyOf tab t' with
    | some (e, bytes), some ty' => (els ty'.sh e w).bind fun ys => appendV e bytes nb v ys
    | _, _ => .fail 233
  | .clear, [t], some [v] => match tyOf tab t with
    | some ty => clearV ty.sh v
    | none => .fail 234
  | .max, _, some vs => match maxV vs with
    | some a => outA a
    | none => .fail 235
  | .min, _, some vs => match minV vs with
    | some a => outA a
    | none => .fail 236
  | _, _, _ => .fail 237
/-- What one operation does (calls of Go functions aside). -/
def evalOp (tab : Tab) (env : Env) (nb : L) (o : Oper) : M Upd := match o.op with
  | .move x | .assign x => match opnd env x with
    | some v => .ret ⟨v, []⟩
    | none => .fail 201
  | .pick c a b => match opnd env c with
    | some (.one (.bool true)) => match opnd env a with
      | some v => .ret ⟨v, []⟩
      | none => .fail 202
    | some (.one (.bool false)) => match opnd env b with
      | some v => .ret ⟨v, []⟩
      | none => .fail 203
    | _ => .fail 204
  | .alloc t => match tyOf tab t with
    | some ty => .ret ⟨.one (.ptr nb 0), [(nb, some (.cells ty.zero))]⟩
    | none => .fail 205
  | .box t x => match opnd env x with
    | some (.tup _) | none => .fail 206
    | some v => .ret ⟨.one (.ptr nb 0), [(nb, some (.cells v.atoms))]⟩
  | .build t ps => match tyOf tab t with
    | some ⟨.st fs _, _, _, _, z, _⟩ => match fillSt env fs ps.toList z with
      | some as => .ret ⟨.agg as, []⟩
      | none => .fail 207
    | some ⟨.arr _ _ _, _, _, _, z, _⟩ => match ps.toList with
      | [] => .ret ⟨.agg z, []⟩
      | _ => .fail 207
    | _ => .fail 208
  | .buildSlice t n ps => match tySl tab t with
    | some (e, _) => match Nat.beq ps.toList.length n, Nat.ble (n * e.sz) 16777216 with
      | true, true => (fillRow e env 0 ps.toList).bind fun ys => .ret ⟨.one (.own nb), (nb, some (.row e ys)) :: takenBy env ps.toList⟩
      | _, _ => .fail 209
    | none => .fail 210
  | .load t x => match tyOf tab t, opnd env x with
    | some ty, some (.one a) => loadP ty a
    | _, _ => .fail 211
  | .store t x y => match tyOf tab t, opnd env x, opnd env y with
    | some ty, some (.one a), some (.one b) => storeP ty [b] a
    | some ty, some (.one a), some (.agg bs) => storeP ty bs a
    | _, _, _ => .fail 212
  | .nilCheck x => match opnd env x with
    | some (.one (.ptr l j)) => outA (.ptr l j)
    | _ => .fail 213
  | .binOp op t x y _ => match tyOf tab t, opnd env x, opnd env y with
    | some ty, some v, some w => binV op ty.sh v w
    | _, _, _ => .fail 214
  | .unOp op _ x => match opnd env x with
    | some v => unV op v
    | none => .fail 215
  | .convert s d x => match tyOf tab s, tyOf tab d, opnd env x with
    | some ts, some td, some v => convV ts.sh td.sh v
    | _, _, _ => .fail 216
  | .makeInterface t x => match tyOf tab t, opnd env x with
    | some ⟨.sl _ _, _, _, _, _, _⟩, some (.one a) => outA (.ifc t a)
    | _, _ => .fail 216
  | .makeFunc fn first cap => makeFuncM env fn first.toList cap.toList
  | .makeSlice t l c => match tySl tab t, opnd env l, opnd env c with
    | some (e, bytes), some (.one (.int .i64 n)), some (.one (.int .i64 m)) => .need (0 ≤ n ∧ n = m ∧ n.toNat * bytes ≤ 140737488355328) (.ret ⟨.one (.own nb), [(nb, some (.row e (List.replicate n.toNat e.d)))]⟩)
    | _, _, _ => .fail 219
  | .slice t x lo hi mx => match tyOf tab t, opnd env x, optN env lo, optN env hi, optN env mx with
    | some ty, some v, some l, some h, some m => sliceV ty.sh l h m v
    | _, _, _, _, _ => .fail 220
  | .fieldAddr t x f => match tyOf tab t, opnd env x with
    | some ⟨.st fs _, _, _, _, _, _⟩, some (.one a) => match nth fs f with
      | some (off, sz, _) => match Nat.blt 0 sz, fieldA off a with
        | true, some b => outA b
        | _, _ => .fail 221
      | none => .fail 222
    | _, _ => .fail 223
  | .field t x f => match tyOf tab t, opnd env x with
    | some ⟨.st fs _, _, _, _, _, _⟩, some (.agg as) => match nth fs f with
      | some (off, sz, agg) => match pieceO off sz as with
        | some bs => outO 224 (vOf agg bs)
        | none => .fail 225
      | none => .fail 226
    | _, _ => .fail 227
  | .indexAddr t x i => match tyOf tab t, opnd env x, opnd env i with
    | some ty, some (.one a), some (.one (.int .i64 n)) => indexA ty.sh n a
    | _, _, _ => .fail 228
  | .index t x i => match tyOf tab t, opnd env x, opnd env i with
    | some ty, some v, some (.one (.int _ n)) => indexV ty.sh n v
    | _, _, _ => .fail 229
  | .extract x i => match opnd env x with
    | some (.tup vs) => match nth vs i with
      | some v => .ret ⟨v, []⟩
      | none => .fail 230
    | _ => .fail 231
  | .call c => match c.callee with
    | .builtin b => builtinM tab nb b c.argTypes.toList (opnds env c.args.toList)
    | _ => .fail 242
  | _ => .fail 243

/-! ### Names of blocks, canonical -/
def idx (l : L) : List L → Nat → Option Nat
  | [], _ => none
  | x :: xs, i => match L.beq l x with
    | true => some i
    | false => idx l xs (i + 1)
/-- A list, forced. -/
def fo {α : Type} : List α → Option (List α)
  | [] => some []
  | a :: as => match fo as with
    | some r => some (a :: r)
    | none => none
def addId (ids : List L) (l : L) : List L := match fo ids with
  | some ids => match idx l ids 0 with
    | some _ => ids
    | none => ids ++ [l]
  | none => ids
def toK (ids : List L) (l : L) : Option L := match idx l ids 0 with
  | some i => some (.k i)
  | none => none
mutual
def A.refs : A → List L → List L
  | .own l, ids | .sub l _ _, ids | .ptr l _, ids | .ep l _ _, ids => addId ids l
  | .fn _ cs, ids => A.refsL cs ids
  | .ifc _ a, ids => a.refs ids
  | _, ids => ids
def A.refsL : List A → List L → List L
  | [], ids => ids
  | a :: as, ids => A.refsL as (a.refs ids)
end
mutual
def V.refs : V → List L → List L
  | .one a, ids => a.refs ids
  | .agg as, ids => A.refsL as ids
  | .tup vs, ids => V.refsL vs ids
def V.refsL : List V → List L → List L
  | [], ids => ids
  | v :: vs, ids => V.refsL vs (v.refs ids)
end
def C.refs : C → List L → List L
  | .cells as, ids => A.refsL as ids
  | .row _ _, ids => ids
/-- All that is reached. -/
def close (s : Sto) : Nat → Nat → List L → Option (List L)
  | 0, _, _ => none
  | n + 1, k, ids => match fo ids with
    | none => none
    | some ids => match nth ids k with
      | none => some ids
      | some l => match lkC l s with
        | some c => close s n (k + 1) (c.refs ids)
        | none => close s n (k + 1) ids
mutual
def A.ren (f : L → Option L) : A → Option A
  | .own l => match f l with | some m => some (.own m) | none => none
  | .sub l o n => match f l with | some m => some (.sub m o n) | none => none
  | .ptr l j => match f l with | some m => some (.ptr m j) | none => none
  | .ep l i j => match f l with | some m => some (.ep m i j) | none => none
  | .fn g cs => match A.renL f cs with | some cs' => some (.fn g cs') | none => none
  | .ifc t a => match a.ren f with | some b => some (.ifc t b) | none => none
  | a => some a
def A.renL (f : L → Option L) : List A → Option (List A)
  | [] => some []
  | a :: as => match a.ren f, A.renL f as with
    | some b, some bs => some (b :: bs)
    | _, _ => none
end
mutual
def V.ren (f : L → Option L) : V → Option V
  | .one a => match a.ren f with | some b => some (.one b) | none => none
  | .agg as => match A.renL f as with | some bs => some (.agg bs) | none => none
  | .tup vs => match V.renL f vs with | some ws => some (.tup ws) | none => none
def V.renL (f : L → Option L) : List V → Option (List V)
  | [] => some []
  | v :: vs => match v.ren f, V.renL f vs with
    | some w, some ws => some (w :: ws)
    | _, _ => none
end
def C.ren (f : L → Option L) : C → Option C
  | .cells as => match A.renL f as with | some bs => some (.cells bs) | none => none
  | .row e xs => some (.row e xs)
/-- The contents of some places, renamed (a place that is gone stays gone). -/
def packSto (s : Sto) (f : L → Option L) : List L → Option (List (Option C))
  | [] => some []
  | l :: ls => match packSto s f ls with
    | none => none
    | some cs => match lkC l s with
      | none => some (none :: cs)
      | some c => match c.ren f with
        | some d => some (some d :: cs)
        | none => none
/-! ### Slices that a call borrows -/
def lendA (e : Option El) : A → M (A × List L)
  | .nil => match e with
    | some e => .ret (.lst e [] false, [])
    | none => .ret (.nil, [])
  | .own l => .get l fun
    | .row e xs => .ret (.lst e xs false, [l])
    | .cells _ => .fail 111
  | .sub l off len => .get l fun
    | .row e xs => .need (off + len ≤ xs.length) (.ret (.lst e ((xs.drop off).take len) false, [l]))
    | .cells _ => .fail 112
  | a => .ret (a, [])
def lendAs : List (Option El) → List A → M (List A × List L)
  | _, [] => .ret ([], [])
  | [], a :: as => (lendA none a).bind fun (b, l) => (lendAs [] as).bind fun (bs, ls) => .ret (b :: bs, l ++ ls)
  | e :: es, a :: as => (lendA e a).bind fun (b, l) => (lendAs es as).bind fun (bs, ls) => .ret (b :: bs, l ++ ls)
def lendV (tab : Tab) (t : TypeId) : V → M (V × List L)
  | .one a => match tyOf tab t with
    | some ty => (lendAs ty.ck [a]).bind fun
      | ([b], l) => .ret (.one b, l)
      | _ => .fail 113
    | none => .fail 114
  | .agg as => match tyOf tab t with
    | some ty => (lendAs ty.ck as).bind fun (bs, l) => .ret (.agg bs, l)
    | none => .fail 115
  | .tup _ => .fail 116
/-- The arguments of a call: those that are marked are handed over, the others are borrowed. -/
def lendVs (tab : Tab) : List Bool → List TypeId → List V → M (List V × List L)
  | _, _, [] => .ret ([], [])
  | true :: ms, _ :: ts, v :: vs => (lendVs tab ms ts vs).bind fun (ws, ls) => .ret (v :: ws, ls)
  | false :: ms, t :: ts, v :: vs => (lendV tab t v).bind fun (w, l) => (lendVs tab ms ts vs).bind fun (ws, ls) => .ret (w :: ws, l ++ ls)
  | [], t :: ts, v :: vs => (lendV tab t v).bind fun (w, l) => (lendVs tab [] ts vs).bind fun (ws, ls) => .ret (w :: ws, l ++ ls)
  | _, [], _ :: _ => .fail 117
mutual
def A.noLst : A → Bool
  | .lst _ _ _ | .lp _ _ _ => false
  | .fn _ cs => A.noLstL cs
  | .ifc _ a => a.noLst
  | _ => true
def A.noLstL : List A → Bool
  | [] => true
  | a :: as => match a.noLst with
    | true => A.noLstL as
    | false => false
end
mutual
def V.noLst : V → Bool
  | .one a => a.noLst
  | .agg as => A.noLstL as
  | .tup vs => V.noLstL vs
def V.noLstL : List V → Bool
  | [] => true
  | v :: vs => match v.noLst with
    | true => V.noLstL vs
    | false => false
end
def C.noLst : C → Bool
  | .cells as => A.noLstL as
  | .row .ints _ => false
  | .row _ _ => true
def noLstS : List (Option C) → Bool
  | [] => true
  | none :: cs => noLstS cs
  | some c :: cs => match c.noLst with
    | true => noLstS cs
    | false => false

/-! ### Steps -/
inductive It where
  | code (p : List Nat)
  | blk (id : Nat)
  | scp
  | lp (p : List Nat)
structure Rg where
  p : List Nat
  i : Nat
  dr : Bool
  log : List (List L × List L)
  kn : List (Nat × Bool)
structure Conf where
  env : Env
  sto : Sto
  it : List It
  rg : Option Rg
def sub1 : Code → Nat → Option Code
  | .seq a b, n => match n with
    | 0 => some a
    | _ => some b
  | .cond _ a b, n => match n with
    | 0 => some a
    | _ => some b
  | .block _ a, _ => some a
  | .loop a, _ => some a
  | .scope a, _ => some a
  | _, _ => none
/-- The code at a place (the place from the inside out). -/
def codeAt (c : Code) : List Nat → Option Code
  | [] => some c
  | i :: p => match codeAt c p with
    | some d => sub1 d i
    | none => none
/-- What a call waits for. -/
structure Kt where
  c : Conf
  dst : Option Nat
  ids : List L
  lent : List L
  rl : List L
inductive Nx where
  | ret (res : V) (st : List (Option C))
  | cond (b : Bool) (c1 c2 : Conf)
  | need (ps : List Prop) (c : Conf)
  | call (f : FuncId) (args : List V) (st : List (Option C)) (k : Kt)
  | loop (c : Conf)
  | check (p : List Nat) (log : List (List L × List L)) (c : Conf)
  | fail (why : Nat) (c : Conf)
inductive St1 where
  | go (c : Conf)
  | stop (n : Nx)
structure FnI where
  tab : Tab
  sig : FuncId → List Bool
  body : Code
  res : List ResultVar
  m : Nat
  n : Nat
def exitK (id : Nat) : List It → Option (List It)
  | [] => none
  | .blk i :: k => match Nat.beq i id with
    | true => some k
    | false => exitK id k
  | _ :: k => exitK id k
def resV (tab : Tab) (env : Env) (sto : Sto) : List ResultVar → Option (List V)
  | [] => some []
  | .tmp t :: rs => match lk t env, resV tab env sto rs with
    | some v, some vs => some (v :: vs)
    | _, _ => none
  | .cell t ty :: rs => match lk t env, tyOf tab ty, resV tab env sto rs with
    | some (.one (.ptr l 0)), some ty, some vs => match lkC l sto with
      | some (.cells as) => match Nat.beq as.length ty.sz, vOf ty.agg as with
        | true, some v => some (v :: vs)
        | _, _ => none
      | _ => none
    | _, _, _ => none
def nodupL : List L → Bool
  | [] => true
  | l :: ls => match idx l ls 0 with
    | some _ => false
    | none => nodupL ls
/-- The first places are the arguments' own. -/
def prefK : Nat → Nat → List L → Bool
  | 0, _, _ => true
  | n + 1, i, l :: ls => match L.beq l (.k i) with
    | true => prefK n (i + 1) ls
    | false => false
  | _ + 1, _, [] => false
def retV : List V → V
  | [v] => v
  | vs => .tup vs
def upto : Nat → Nat → List L
  | 0, _ => []
  | n + 1, i => .k i :: upto n (i + 1)
def retN (F : FnI) (c : Conf) : Conf → Nx
  | ⟨env, sto, _, _⟩ => match resV F.tab env sto F.res with
    | none => .fail 301 c
    | some vs => match close sto 100 0 (V.refsL vs (upto F.m 0)) with
      | none => .fail 302 c
      | some ids => match (retV vs).ren (toK ids), packSto sto (toK ids) ids, nodupL ids, prefK F.m 0 ids with
        | some v, some st, true, true => .ret v st
        | _, _, _, _ => .fail 303 c
def consS : Sto → Sto → Sto
  | [], s => s
  | a :: w, s => a :: consS w s
def dropK (d : Nat) : List (Nat × Bool) → List (Nat × Bool)
  | [] => []
  | (t, b) :: k => match Nat.beq d t with
    | true => dropK d k
    | false => (t, b) :: dropK d k
/-- The next operation, the state anew (all forced). -/
def nextOp (dst : Option Nat) (v : V) (w : Sto) (rl : List L) (it : List It) : Rg → Env → Sto → Conf
  | ⟨p, i, dr, log, kn⟩, env, sto => match dst, w with
    | some d, [] => ⟨(d, v) :: env, sto, it, some ⟨p, i + 1, dr, (rl, []) :: log, dropK d kn⟩⟩
    | none, [] => ⟨env, sto, it, some ⟨p, i + 1, dr, (rl, []) :: log, kn⟩⟩
    | some d, [(l, c)] => ⟨(d, v) :: env, (l, c) :: sto, it, some ⟨p, i + 1, dr, (rl, [l]) :: log, dropK d kn⟩⟩
    | none, [(l, c)] => ⟨env, (l, c) :: sto, it, some ⟨p, i + 1, dr, (rl, [l]) :: log, kn⟩⟩
    | some d, [(l, c), (l', c')] => ⟨(d, v) :: env, (l, c) :: (l', c') :: sto, it, some ⟨p, i + 1, dr, (rl, [l, l']) :: log, dropK d kn⟩⟩
    | some d, w => ⟨(d, v) :: env, consS w sto, it, some ⟨p, i + 1, dr, (rl, w.map (·.1)) :: log, dropK d kn⟩⟩
    | none, w => ⟨env, consS w sto, it, some ⟨p, i + 1, dr, (rl, w.map (·.1)) :: log, kn⟩⟩
/-- A call of a Go function. -/
def callN (F : FnI) (env : Env) (sto : Sto) (it : List It) (g : Rg) (o : Oper) (fv : Option V) (args : Option (List V)) (ts : List TypeId) : St1 := match fv, args with
  | some (.one (.fn f caps)), some vs => match (lendVs F.tab (F.sig f) ts vs).go sto [] [] with
    | .ok (ws, lent) rl ps => match close sto 100 0 (A.refsL caps (V.refsL ws [])) with
      | none => .stop (.fail 311 ⟨env, sto, it, some g⟩)
      | some ids => match V.renL (toK ids) (ws ++ caps.map .one), packSto sto (toK ids) ids, nodupL ids with
        | some xs, some st, true => match ps with
          | [] => .stop (.call f xs st ⟨⟨env, sto, it, some g⟩, o.dst, ids, lent, rl⟩)
          | _ => .stop (.fail 312 ⟨env, sto, it, some g⟩)
        | _, _, _ => .stop (.fail 313 ⟨env, sto, it, some g⟩)
    | .fail n => .stop (.fail n ⟨env, sto, it, some g⟩)
  | _, _ => .stop (.fail 314 ⟨env, sto, it, some g⟩)
/-- New names of a call's answer. -/
def backId (ids : List L) (d : Nat) : L → Option L
  | .k n => match nth ids n with
    | some m => some m
    | none => some (.t d (n - ids.length))
  | .t _ _ => none
def backSto (ids : List L) (d : Nat) : Nat → List (Option C) → Option Sto
  | _, [] => some []
  | i, c :: cs => match backSto ids d (i + 1) cs, backId ids d (.k i) with
    | some s, some l => match c with
      | none => some ((l, none) :: s)
      | some c => match c.ren (backId ids d) with
        | some d => some ((l, some d) :: s)
        | none => none
    | _, _ => none
def disj (a : List L) : List L → Bool
  | [] => true
  | x :: b => match idx x a 0 with
    | some _ => false
    | none => disj a b
def freshB (d : Nat) (sto : Sto) : Nat → Bool
  | 0 => true
  | n + 1 => match lkL (.t d n) sto with
    | none => freshB d sto n
    | some _ => false
def dOf : Option Nat → Nat
  | some d => d
  | none => 0
def resumeA (it : List It) (g : Rg) (env : Env) (sto : Sto) (dst : Option Nat) (ids rl : List L) (res : V) (st : List (Option C)) : Option Conf :=
  match res.ren (backId ids (dOf dst)), backSto ids (dOf dst) 0 st, freshB (dOf dst) sto (st.length - ids.length), (match dst with | some _ => true | none => Nat.ble st.length ids.length) with
  | some v, some w, true, true => some (nextOp dst v w (ids ++ rl) it g env sto)
  | _, _, _, _ => none
/-- Places that are given up. -/
def nones : List L → Sto
  | [] => []
  | l :: ls => (l, none) :: nones ls
/-- The answer may hold on to what was lent: it is read only from now on. -/
def resumeF (it : List It) (g : Rg) (env : Env) (sto : Sto) (dst : Option Nat) (ids lent rl : List L) (res : V) (st : List (Option C)) : Option Conf :=
  match res.ren (backId ids (dOf dst)), backSto ids (dOf dst) 0 st, freshB (dOf dst) (consS (nones lent) sto) (st.length - ids.length), (match dst with | some _ => true | none => Nat.ble st.length ids.length) with
  | some v, some w, true, true => some (nextOp dst v (consS w (nones lent)) (ids ++ rl) it g env sto)
  | _, _, _, _ => none
def resume (res : V) (st : List (Option C)) : Kt → Option Conf
  | ⟨⟨env, sto, it, some g⟩, dst, ids, lent, rl⟩ => match lent with
    | [] => resumeA it g env sto dst ids rl res st
    | _ :: _ => match res.noLst, noLstS st, disj ids lent with
      | true, true, true => resumeA it g env sto dst ids rl res st
      | true, false, true => resumeF it g env sto dst ids lent rl res st
      | false, true, true => resumeF it g env sto dst ids lent rl res st
      | false, false, true => resumeF it g env sto dst ids lent rl res st
      | _, _, false => none
  | _ => none
def isAlloc : Op → Bool
  | .alloc _ | .box _ _ | .buildSlice _ _ _ | .makeSlice _ _ _ => true
  | .call c => match c.callee with
    | .builtin .append => true
    | _ => false
  | _ => false
def callee? : Op → Option (Operand × List Operand × List TypeId)
  | .call c => match c.callee with
    | .value f => some (f, c.args.toList, c.argTypes.toList)
    | _ => none
  | _ => none
def execN (F : FnI) (env : Env) (sto : Sto) (it : List It) (g : Rg) (o : Oper) : St1 := match callee? o.op with
  | some (f, args, ts) => callN F env sto it g o (opnd env f) (opnds env args) ts
  | none => match o.dst with
    | some d => match (match isAlloc o.op with
        | true => lkL (.t d 0) sto
        | false => none) with
      | some _ => .stop (.fail 315 ⟨env, sto, it, some g⟩)
      | none => match (evalOp F.tab env (.t d 0) o).go sto [] [] with
        | .ok ⟨v, w⟩ rl ps => match ps with
          | [] => .go (nextOp (some d) v w rl it g env sto)
          | _ => .stop (.need ps (nextOp (some d) v w rl it g env sto))
        | .fail n => .stop (.fail n ⟨env, sto, it, some g⟩)
    | none => match isAlloc o.op with
      | true => .stop (.fail 316 ⟨env, sto, it, some g⟩)
      | false => match (evalOp F.tab env (.k 0) o).go sto [] [] with
        | .ok ⟨v, w⟩ rl ps => match ps with
          | [] => .go (nextOp none v w rl it g env sto)
          | _ => .stop (.need ps (nextOp none v w rl it g env sto))
        | .fail n => .stop (.fail n ⟨env, sto, it, some g⟩)
def stepRg (F : FnI) (env : Env) (sto : Sto) (it : List It) (ops : List Oper) : Rg → St1
  | ⟨p, i, dr, log, kn⟩ => match nth ops i with
    | none => match dr with
      | true => .stop (.check p log ⟨env, sto, it, none⟩)
      | false => .go ⟨env, sto, it, none⟩
    | some o => match o.guard with
      | none => execN F env sto it ⟨p, i, dr, log, kn⟩ o
      | some (j, want) => match nth ops j with
        | some ⟨some t, _, _, _, _, _⟩ => match lk t kn with
          | some true => match want with
            | true => execN F env sto it ⟨p, i, dr, log, kn⟩ o
            | false => .go (nextOp o.dst (.tup []) [] [] it ⟨p, i, dr, log, kn⟩ env sto)
          | some false => match want with
            | false => execN F env sto it ⟨p, i, dr, log, kn⟩ o
            | true => .go (nextOp o.dst (.tup []) [] [] it ⟨p, i, dr, log, kn⟩ env sto)
          | none => match lk t env with
            | some (.one (.bool b)) => .stop (.cond b ⟨(t, .one (.bool true)) :: env, sto, it, some ⟨p, i, dr, log, (t, true) :: kn⟩⟩ ⟨(t, .one (.bool false)) :: env, sto, it, some ⟨p, i, dr, log, (t, false) :: kn⟩⟩)
            | some (.tup []) => .go (nextOp o.dst (.tup []) [] [] it ⟨p, i, dr, log, kn⟩ env sto)
            | _ => .stop (.fail 321 ⟨env, sto, it, some ⟨p, i, dr, log, kn⟩⟩)
        | _ => .stop (.fail 322 ⟨env, sto, it, some ⟨p, i, dr, log, kn⟩⟩)
def step1 (F : FnI) : Conf → St1
  | ⟨env, sto, it, rg⟩ => match rg with
    | some g => match codeAt F.body g.p with
      | some (.region _ ops _) => stepRg F env sto it ops.toList g
      | _ => .stop (.fail 331 ⟨env, sto, it, rg⟩)
    | none => match it with
      | [] => .stop (retN F ⟨env, sto, it, none⟩ ⟨env, sto, it, none⟩)
      | .blk _ :: k | .scp :: k => .go ⟨env, sto, k, none⟩
      | .lp p :: k => .stop (.loop ⟨env, sto, .lp p :: k, none⟩)
      | .code p :: k => match codeAt F.body p with
        | some .skip | some (.label _) => .go ⟨env, sto, k, none⟩
        | some (.seq _ _) => .go ⟨env, sto, .code (0 :: p) :: .code (1 :: p) :: k, none⟩
        | some (.cond x _ _) => match opnd env x with
          | some (.one (.bool b)) => .stop (.cond b ⟨env, sto, .code (0 :: p) :: k, none⟩ ⟨env, sto, .code (1 :: p) :: k, none⟩)
          | _ => .stop (.fail 332 ⟨env, sto, it, none⟩)
        | some (.block id _) => .go ⟨env, sto, .code (0 :: p) :: .blk id :: k, none⟩
        | some (.scope _) => .go ⟨env, sto, .code (0 :: p) :: .scp :: k, none⟩
        | some (.loop _) => .go ⟨env, sto, .lp p :: k, none⟩
        | some (.region _ _ d) => .go ⟨env, sto, k, some ⟨p, 0, d, [], []⟩⟩
        | some (.exit id) => match exitK id k with
          | some k' => .go ⟨env, sto, k', none⟩
          | none => .stop (.fail 333 ⟨env, sto, it, none⟩)
        | some .ret => .stop (retN F ⟨env, sto, it, none⟩ ⟨env, sto, it, none⟩)
        | _ => .stop (.fail 334 ⟨env, sto, it, none⟩)
def nxt (F : FnI) : Nat → Conf → Nx
  | 0, c => .fail 0 c
  | n + 1, c => match step1 F c with
    | .go c' => nxt F n c'
    | .stop x => x
/-! ### The check of a region that draws its order -/
def guardT (ops : List Oper) : Option (Nat × Bool) → List Nat
  | none => []
  | some (j, _) => match nth ops j with
    | some ⟨some t, _, _, _, _, _⟩ => [t]
    | _ => []
def opOps : Op → List Operand
  | .move x | .assign x | .box _ x | .load _ x | .nilCheck x | .unOp _ _ x | .convert _ _ x | .makeInterface _ x | .fieldAddr _ x _ | .field _ x _ | .extract x _ => [x]
  | .pick c a b => [c, a, b]
  | .build _ ps | .buildSlice _ _ ps => ps.toList.map (·.2)
  | .store _ a v | .binOp _ _ a v _ | .makeSlice _ a v | .indexAddr _ a v | .index _ a v => [a, v]
  | .makeFunc _ _ cap => cap.toList
  | .slice _ x l h m => x :: (l.toList ++ h.toList ++ m.toList)
  | .call c => match c.callee with
    | .value f => f :: c.args.toList
    | _ => c.args.toList
  | _ => []
def tmpsOf : List Operand → List Nat
  | [] => []
  | .tmp t :: xs => t :: tmpsOf xs
  | _ :: xs => tmpsOf xs
structure Ky where
  dst : Option Nat
  rt : List Nat
  rl : List L
  wl : List L
def mkKys (ops : List Oper) : List Oper → List (List L × List L) → Option (List Ky)
  | [], [] => some []
  | o :: os, (rl, wl) :: log => match mkKys ops os log with
    | some ks => some (⟨o.dst, tmpsOf (opOps o.op) ++ guardT ops o.guard, rl, wl⟩ :: ks)
    | none => none
  | _, _ => none
def memN (d : Nat) : List Nat → Bool
  | [] => false
  | x :: xs => match Nat.beq d x with
    | true => true
    | false => memN d xs
def memL (d : L) : List L → Bool
  | [] => false
  | x :: xs => match L.beq d x with
    | true => true
    | false => memL d xs
def meetL : List L → List L → Bool
  | [], _ => false
  | x :: xs, ys => match memL x ys with
    | true => true
    | false => meetL xs ys
def apartB (i k : Ky) : Bool :=
  (match i.dst with
    | some d => !memN d k.rt && (match k.dst with | some d' => !Nat.beq d d' | none => true)
    | none => true) &&
  (match k.dst with
    | some d => !memN d i.rt
    | none => true) && !meetL i.wl k.rl && !meetL i.wl k.wl && !meetL k.wl i.rl
def befB (ops : List Oper) : Nat → Nat → Nat → Bool
  | 0, _, _ => false
  | n + 1, i, k => match nth ops k with
    | some o => o.after.toList.any fun e => Region.binds .any e && (Nat.beq e.on i || befB ops n i e.on)
    | none => false
def pairB (ops : List Oper) (ki : Ky) (i : Nat) : Nat → List Ky → Bool
  | _, [] => true
  | k, kk :: ks => (apartB ki kk || befB ops 60 i k) && pairB ops ki i (k + 1) ks
def pairsB (ops : List Oper) : Nat → List Ky → Bool
  | _, [] => true
  | i, ki :: ks => pairB ops ki i (i + 1) ks && pairsB ops (i + 1) ks
def edgesB : Nat → List Oper → Bool
  | _, [] => true
  | i, o :: os => (o.after.toList.all fun e => !Region.binds .any e || Nat.blt e.on i) && edgesB (i + 1) os
def chkOps (ops : List Oper) (log : List (List L × List L)) : Bool := match mkKys ops ops log.reverse with
  | some ks => pairsB ops 0 ks && edgesB 0 ops
  | none => false
def chk (body : Code) (p : List Nat) (log : List (List L × List L)) : Bool := match codeAt body p with
  | some (.region _ ops _) => chkOps ops.toList log
  | _ => false
/-- Each operation writes into a slot that is there. -/
def dstB (n : Nat) : List Oper → Bool
  | [] => true
  | o :: os => (match o.dst with | some d => Nat.blt d n | none => true) && dstB n os
def dstsB (n : Nat) : Code → Bool
  | .region _ ops _ => dstB n ops.toList
  | .seq a b => dstsB n a && dstsB n b
  | .cond _ a b => dstsB n a && dstsB n b
  | .block _ a => dstsB n a
  | .loop a => dstsB n a
  | .scope a => dstsB n a
  | _ => true
def unroll : Conf → Conf
  | ⟨env, sto, .lp p :: k, none⟩ => ⟨env, sto, .code (0 :: p) :: .lp p :: k, none⟩
  | c => c
def argEnv : Nat → List V → Env
  | _, [] => []
  | i, v :: vs => (i, v) :: argEnv (i + 1) vs
def argSto : Nat → List (Option C) → Sto
  | _, [] => []
  | i, c :: cs => (.k i, c) :: argSto (i + 1) cs
def start (args : List V) (st : List (Option C)) : Conf := ⟨argEnv 0 args, argSto 0 st, [.code []], none⟩
end Go.AM

/- What package-level variables hold, as far as a walk asks: the table of powers of ten (seat d); no condition. -/
namespace Go.AM
set_option linter.unusedVariables false
/-- The variables' blocks that a walk asks for, and what it wants of them. -/
def globB (b : Nat) : Bool := Nat.beq b 5
def globOk (_ : Nat) (o : Option Obj) : Prop := ∃ te fz, o = some (.cells (Lib.pow10Tab.map fun z => Value.int .u64 z).toArray te fz)
end Go.AM

/- What the abstract machine's state says of memory; no condition. -/
namespace Go.AM
set_option linter.unusedVariables false
set_option linter.unusedSimpArgs false
open Go.RowKit

/-- Where a block lies: the slice's address, its number, length, room, an element's cells; a slice without room has no block. -/
structure Blk where
  a : Option Addr
  b : Nat
  len : Nat
  cap : Nat
  sz : Nat
  virt : Bool
inductive All2 {α β : Type} (r : α → β → Prop) : List α → List β → Prop where
  | nil : All2 r [] []
  | cons {a b as bs} : r a b → All2 r as bs → All2 r (a :: as) (b :: bs)
theorem All2.imp {α β : Type} {r r' : α → β → Prop} (h : ∀ a b, r a b → r' a b) {as : List α} {bs : List β} (k : All2 r as bs) : All2 r' as bs := by
  induction k with
  | nil => exact .nil
  | cons h1 _ ih => exact .cons (h _ _ h1) ih
theorem All2.length {α β : Type} {r : α → β → Prop} {as : List α} {bs : List β} (k : All2 r as bs) : bs.length = as.length := by
  induction k with
  | nil => rfl
  | cons _ _ ih => simp [ih]
theorem All2.get {α β : Type} {r : α → β → Prop} {as : List α} {bs : List β} (k : All2 r as bs) : ∀ (i : Nat) (a : α), as[i]? = some a → ∃ b, bs[i]? = some b ∧ r a b := by
  induction k with
  | nil => intro i a h; simp at h
  | cons h1 _ ih =>
    intro i a h
    cases i with
    | zero => simp at h; subst h; exact ⟨_, rfl, h1⟩
    | succ i => simpa using ih i a (by simpa using h)
theorem All2.take {α β : Type} {r : α → β → Prop} {as : List α} {bs : List β} (k : All2 r as bs) : ∀ n, All2 r (as.take n) (bs.take n) := by
  induction k with
  | nil => intro n; simp; exact .nil
  | cons h1 _ ih =>
    intro n
    cases n with
    | zero => exact .nil
    | succ n => exact .cons h1 (ih n)
theorem All2.drop {α β : Type} {r : α → β → Prop} {as : List α} {bs : List β} (k : All2 r as bs) : ∀ n, All2 r (as.drop n) (bs.drop n) := by
  induction k with
  | nil => intro n; simp; exact .nil
  | cons h1 h2 ih =>
    intro n
    cases n with
    | zero => exact .cons h1 h2
    | succ n => exact ih n
theorem All2.set {α β : Type} {r : α → β → Prop} {as : List α} {bs : List β} (k : All2 r as bs) {a : α} {b : β} (h : r a b) : ∀ n, All2 r (as.set n a) (bs.set n b) := by
  induction k with
  | nil => intro n; exact .nil
  | cons h1 h2 ih =>
    intro n
    cases n with
    | zero => exact .cons h h2
    | succ n => exact .cons h1 (ih n)
theorem All2.append {α β : Type} {r : α → β → Prop} {as as' : List α} {bs bs' : List β} (k : All2 r as bs) (k' : All2 r as' bs') : All2 r (as ++ as') (bs ++ bs') := by
  induction k with
  | nil => exact k'
  | cons h1 _ ih => exact .cons h1 ih
abbrev Mu := L → Option Blk
def rep0 : A → Value → Prop
  | .int k n, v => v = .int k n
  | .bool b, v => v = .bool b
  | .str s, v => v = .string s
  | _, _ => False
/-- A slice that is only read, of elements that 'r' tells. -/
def lstRep (r : A → Value → Prop) (w : World) (G : Nat → Prop) (e : El) (xs : List e.T) (full : Bool) (v : Value) : Prop :=
  ∃ a cap, v = .slice a xs.length cap ∧ xs.length ≤ cap ∧ (full = true → cap = xs.length) ∧
    (xs ≠ [] → ∃ b o, a = some ⟨b, o, none⟩ ∧ G b ∧ ∀ i x, xs[i]? = some x → ∃ us, All2 r (e.enc x) us ∧ w.rangeAt b (o + i * e.sz) us)
def rep1 (w : World) (G : Nat → Prop) : A → Value → Prop
  | .lst e xs full, v => lstRep rep0 w G e xs full v
  | a, v => rep0 a v
mutual
def repA (μ : Mu) (w : World) (G : Nat → Prop) : A → Value → Prop
  | .int k n, v => v = .int k n
  | .bool b, v => v = .bool b
  | .str s, v => v = .string s
  | .nil, v => v = .slice none 0 0
  | .lst e xs full, v => lstRep (rep1 w G) w G e xs full v
  | .own l, v => ∃ B, μ l = some B ∧ v = .slice B.a B.len B.cap
  | .sub l off len, v => ∃ B o, μ l = some B ∧ v = .slice o len (B.cap - off) ∧ off + len ≤ B.cap ∧ (off < B.cap → o = some ⟨B.b, off * B.sz, none⟩)
  | .ptr l j, v => ∃ B, μ l = some B ∧ v = .pointer (some ⟨B.b, j, none⟩)
  | .ep l i j, v => ∃ B, μ l = some B ∧ v = .pointer (some ⟨B.b, i.toNat * B.sz + j, none⟩)
  | .lp e x j, v => ∃ b o, v = .pointer (some ⟨b, o + j, none⟩) ∧ G b ∧ ∃ us, All2 (rep1 w G) (e.enc x) us ∧ w.rangeAt b o us
  | .nilp, v => v = .pointer none
  | .raw x, v => v = .pointer (some x)
  | .any, v => (∃ a l c, v = .slice a l c) ∨ v = .nilIface
  | .fn f cs, v => ∃ us, v = .func (.func f) #[] us ∧ repAs μ w G cs us.toList
  | .nilf, v => v = .nilFunc
  | .ifc t a, v => ∃ u, v = .iface t u ∧ repA μ w G a u
def repAs (μ : Mu) (w : World) (G : Nat → Prop) : List A → List Value → Prop
  | [], us => us = []
  | a :: as, us => ∃ u us', us = u :: us' ∧ repA μ w G a u ∧ repAs μ w G as us'
end
mutual
def repV (μ : Mu) (w : World) (G : Nat → Prop) : V → Value → Prop
  | .one a, v => repA μ w G a v
  | .agg as, v => ∃ us, v = .agg us ∧ repAs μ w G as us.toList
  | .tup vs, v => ∃ us, v = .tuple us ∧ repVs μ w G vs us.toList
def repVs (μ : Mu) (w : World) (G : Nat → Prop) : List V → List Value → Prop
  | [], us => us = []
  | v :: vs, us => ∃ u us', us = u :: us' ∧ repV μ w G v u ∧ repVs μ w G vs us'
end
/-- What a block holds. -/
def crep (μ : Mu) (w : World) (G : Nat → Prop) (B : Blk) : C → Prop
  | .cells as => B.virt = false ∧ ∃ us te, w.heap[B.b]? = some (.cells us te (0, 0)) ∧ repAs μ w G as us.toList
  | .row e xs => B.len = xs.length ∧ B.len ≤ B.cap ∧ B.sz = e.sz ∧ (B.virt = true → xs = [] ∧ B.cap = 0) ∧
    (B.virt = false → B.a = some ⟨B.b, 0, none⟩ ∧ ∃ arr te, w.heap[B.b]? = some (.cells arr te (0, 0)) ∧ arr.size = B.cap * e.sz ∧
      ∀ i x, xs[i]? = some x → ∃ us, repAs μ w G (e.enc x) us ∧ w.rangeAt B.b (i * e.sz) us)
/-- The variables that a walk asks for stand as they were laid. -/
structure Tabs (G : Nat → Prop) (w : World) : Prop where
  has : ∀ b, globB b = true → G b ∧ globOk b (w.heap[b]?)
/-- Memory as the machine's store says. -/
structure HR (μ : Mu) (G : Nat → Prop) (sto : Sto) (w : World) : Prop where
  live : ∀ l c, lkC l sto = some c → ∃ B, μ l = some B ∧ crep μ w G B c ∧ (B.virt = false → B.b < w.heap.size ∧ ¬ G B.b)
  known : ∀ l B, μ l = some B → (lkL l sto).isSome = true
  apart : ∀ l l' c c' B B', lkC l sto = some c → lkC l' sto = some c' → μ l = some B → μ l' = some B' → B.virt = false → B'.virt = false → l ≠ l' → B.b ≠ B'.b
  good : ∀ b, G b → b < w.heap.size
  tab : Tabs G w
def ER (μ : Mu) (G : Nat → Prop) (env : Env) (w : World) (a : Act) : Prop :=
  ∀ t v, lk t env = some v → ∃ u, a.tmps[t]? = some u ∧ repV μ w G v u

/-! ### What stays -/
/-- Blocks that are only read stand as they stood. -/
def Keep (G : Nat → Prop) (w w' : World) : Prop := ∀ b, G b → w'.heap[b]? = w.heap[b]?
theorem Tabs.mono {G G' : Nat → Prop} {w w' : World} (hk : Keep G w w') (hG : ∀ b, G b → G' b) (h : Tabs G w) : Tabs G' w' :=
  ⟨fun b hb => ⟨hG b (h.has b hb).1, by rw [hk b (h.has b hb).1]; exact (h.has b hb).2⟩⟩
theorem rangeAt_of {w w' : World} {b o : Nat} {us : List Value} (h : w.rangeAt b o us) (e : w'.heap[b]? = w.heap[b]?) : w'.rangeAt b o us := by
  intro j v hj
  have := h j v hj
  unfold World.cell? at this ⊢
  simpa only [e] using this
theorem lstRep_mono {r r' : A → Value → Prop} {w w' : World} {G G' : Nat → Prop} (hk : Keep G w w') (hG : ∀ b, G b → G' b) (hr : ∀ a v, r a v → r' a v) {e : El} {xs : List e.T} {full : Bool} {v : Value}
    (h : lstRep r w G e xs full v) : lstRep r' w' G' e xs full v := by
  obtain ⟨a, cap, h1, h2, h3, h4⟩ := h
  refine ⟨a, cap, h1, h2, h3, fun hne => ?_⟩
  obtain ⟨b, o, h5, h6, h7⟩ := h4 hne
  refine ⟨b, o, h5, hG b h6, fun i x hx => ?_⟩
  obtain ⟨us, h8, h9⟩ := h7 i x hx
  exact ⟨us, h8.imp (fun _ _ h => hr _ _ h), rangeAt_of h9 (hk b h6)⟩
theorem rep1_mono {w w' : World} {G G' : Nat → Prop} (hk : Keep G w w') (hG : ∀ b, G b → G' b) (a : A) (v : Value) (h : rep1 w G a v) : rep1 w' G' a v := by
  cases a <;> first | exact h | exact lstRep_mono (r := rep0) (r' := rep0) hk hG (fun _ _ h => h) h
mutual
theorem repA_mono {μ μ' : Mu} {w w' : World} {G G' : Nat → Prop} (hm : ∀ l B, μ l = some B → μ' l = some B) (hk : Keep G w w') (hG : ∀ b, G b → G' b) : (a : A) → (v : Value) → repA μ w G a v → repA μ' w' G' a v
  | .int _ _, _, h | .bool _, _, h | .str _, _, h | .nil, _, h | .nilp, _, h | .raw _, _, h | .any, _, h | .nilf, _, h => by simpa only [repA] using h
  | .lst e xs full, v, h => by
    simp only [repA] at h ⊢
    exact lstRep_mono hk hG (rep1_mono hk hG) h
  | .own l, v, h => by
    simp only [repA] at h ⊢
    obtain ⟨B, h1, h2⟩ := h
    exact ⟨B, hm _ _ h1, h2⟩
  | .sub l off len, v, h => by
    simp only [repA] at h ⊢
    obtain ⟨B, o, h1, h2⟩ := h
    exact ⟨B, o, hm _ _ h1, h2⟩
  | .ptr l j, v, h => by
    simp only [repA] at h ⊢
    obtain ⟨B, h1, h2⟩ := h
    exact ⟨B, hm _ _ h1, h2⟩
  | .ep l i j, v, h => by
    simp only [repA] at h ⊢
    obtain ⟨B, h1, h2⟩ := h
    exact ⟨B, hm _ _ h1, h2⟩
  | .lp e x j, v, h => by
    simp only [repA] at h ⊢
    obtain ⟨b, o, h1, h2, us, h3, h4⟩ := h
    exact ⟨b, o, h1, hG b h2, us, h3.imp (fun _ _ h => rep1_mono hk hG _ _ h), rangeAt_of h4 (hk b h2)⟩
  | .fn f cs, v, h => by
    simp only [repA] at h ⊢
    obtain ⟨us, h1, h2⟩ := h
    exact ⟨us, h1, repAs_mono hm hk hG cs _ h2⟩
  | .ifc t a, v, h => by
    simp only [repA] at h ⊢
    obtain ⟨u, h1, h2⟩ := h
    exact ⟨u, h1, repA_mono hm hk hG a _ h2⟩
theorem repAs_mono {μ μ' : Mu} {w w' : World} {G G' : Nat → Prop} (hm : ∀ l B, μ l = some B → μ' l = some B) (hk : Keep G w w') (hG : ∀ b, G b → G' b) : (as : List A) → (us : List Value) → repAs μ w G as us → repAs μ' w' G' as us
  | [], _, h => by simpa only [repAs] using h
  | a :: as, us, h => by
    simp only [repAs] at h ⊢
    obtain ⟨u, us', h1, h2, h3⟩ := h
    exact ⟨u, us', h1, repA_mono hm hk hG a _ h2, repAs_mono hm hk hG as _ h3⟩
end
mutual
theorem repV_mono {μ μ' : Mu} {w w' : World} {G G' : Nat → Prop} (hm : ∀ l B, μ l = some B → μ' l = some B) (hk : Keep G w w') (hG : ∀ b, G b → G' b) : (a : V) → (v : Value) → repV μ w G a v → repV μ' w' G' a v
  | .one a, v, h => by
    simp only [repV] at h ⊢
    exact repA_mono hm hk hG a v h
  | .agg as, v, h => by
    simp only [repV] at h ⊢
    obtain ⟨us, h1, h2⟩ := h
    exact ⟨us, h1, repAs_mono hm hk hG as _ h2⟩
  | .tup vs, v, h => by
    simp only [repV] at h ⊢
    obtain ⟨us, h1, h2⟩ := h
    exact ⟨us, h1, repVs_mono hm hk hG vs _ h2⟩
theorem repVs_mono {μ μ' : Mu} {w w' : World} {G G' : Nat → Prop} (hm : ∀ l B, μ l = some B → μ' l = some B) (hk : Keep G w w') (hG : ∀ b, G b → G' b) : (as : List V) → (us : List Value) → repVs μ w G as us → repVs μ' w' G' as us
  | [], _, h => by simpa only [repVs] using h
  | a :: as, us, h => by
    simp only [repVs] at h ⊢
    obtain ⟨u, us', h1, h2, h3⟩ := h
    exact ⟨u, us', h1, repV_mono hm hk hG a _ h2, repVs_mono hm hk hG as _ h3⟩
end
/-- A block that stands as it stood holds what it held. -/
theorem crep_mono {μ μ' : Mu} {w w' : World} {G G' : Nat → Prop} (hm : ∀ l B, μ l = some B → μ' l = some B) (hk : Keep G w w') (hG : ∀ b, G b → G' b) {B : Blk} (hB : B.virt = false → w'.heap[B.b]? = w.heap[B.b]?) {c : C}
    (h : crep μ w G B c) : crep μ' w' G' B c := by
  cases c with
  | cells as =>
    obtain ⟨h0, us, te, h1, h2⟩ := h
    exact ⟨h0, us, te, (hB h0).trans h1, repAs_mono hm hk hG as _ h2⟩
  | row e xs =>
    obtain ⟨h1, h2, h3, h4, h5⟩ := h
    refine ⟨h1, h2, h3, h4, fun hv => ?_⟩
    obtain ⟨h6, arr, te, h7, h8, h9⟩ := h5 hv
    refine ⟨h6, arr, te, (hB hv).trans h7, h8, fun i x hx => ?_⟩
    obtain ⟨us, h10, h11⟩ := h9 i x hx
    exact ⟨us, repAs_mono hm hk hG _ _ h10, rangeAt_of h11 (hB hv)⟩
theorem repAs_length {μ : Mu} {w : World} {G : Nat → Prop} : ∀ (as : List A) (us : List Value), repAs μ w G as us → us.length = as.length
  | [], us, h => by simp only [repAs] at h; subst h; rfl
  | a :: as, us, h => by
    simp only [repAs] at h
    obtain ⟨u, us', rfl, _, h3⟩ := h
    simp [repAs_length as us' h3]
theorem repAs_iff {μ : Mu} {w : World} {G : Nat → Prop} : ∀ (as : List A) (us : List Value), repAs μ w G as us ↔ All2 (repA μ w G) as us
  | [], us => by
    simp only [repAs]
    exact ⟨fun h => h ▸ .nil, fun h => by cases h; rfl⟩
  | a :: as, us => by
    simp only [repAs]
    constructor
    · rintro ⟨u, us', rfl, h2, h3⟩
      exact .cons h2 ((repAs_iff as us').mp h3)
    · intro h
      cases h with
      | cons h1 h2 => exact ⟨_, _, rfl, h1, (repAs_iff as _).mpr h2⟩
theorem repVs_iff {μ : Mu} {w : World} {G : Nat → Prop} : ∀ (as : List V) (us : List Value), repVs μ w G as us ↔ All2 (repV μ w G) as us
  | [], us => by
    simp only [repVs]
    exact ⟨fun h => h ▸ .nil, fun h => by cases h; rfl⟩
  | a :: as, us => by
    simp only [repVs]
    constructor
    · rintro ⟨u, us', rfl, h2, h3⟩
      exact .cons h2 ((repVs_iff as us').mp h3)
    · intro h
      cases h with
      | cons h1 h2 => exact ⟨_, _, rfl, h1, (repVs_iff as _).mpr h2⟩
theorem rep1_A {μ : Mu} {w : World} {G : Nat → Prop} (a : A) (v : Value) (h : rep1 w G a v) : repA μ w G a v := by
  cases a <;> simp only [rep1, rep0, repA] at h ⊢ <;> first | exact h | exact h.elim | skip
  refine lstRep_mono (fun _ _ => rfl) (fun _ h => h) (fun a v h => ?_) h
  cases a <;> simp only [rep0, rep1] at h ⊢ <;> first | exact h | exact h.elim
end Go.AM

/- How memory changes where a block is made, written or handed on; no condition. -/
namespace Go.AM
set_option linter.unusedVariables false
set_option linter.unusedSimpArgs false
open Go.RowKit

def storeL (us : List Value) (o : Nat) : List Value → List Value
  | [] => us
  | v :: vs => storeL (us.set o v) (o + 1) vs
theorem storeL_length : ∀ (vs us : List Value) (o : Nat), (storeL us o vs).length = us.length
  | [], us, o => rfl
  | v :: vs, us, o => by simp only [storeL]; rw [storeL_length vs]; simp
theorem storeL_get : ∀ (vs us : List Value) (o j : Nat), (storeL us o vs)[j]? = if o ≤ j ∧ j < o + vs.length ∧ j < us.length then vs[j - o]? else us[j]?
  | [], us, o, j => by
    rw [if_neg (by simp; omega)]
    rfl
  | v :: vs, us, o, j => by
    simp only [storeL]
    rw [storeL_get vs]
    simp only [List.length_set, List.length_cons]
    by_cases h : o + 1 ≤ j ∧ j < o + 1 + vs.length ∧ j < us.length
    · rw [if_pos h, if_pos (by omega)]
      obtain ⟨k, rfl⟩ : ∃ k, j = o + 1 + k := ⟨j - (o + 1), by omega⟩
      rw [show o + 1 + k - (o + 1) = k by omega, show o + 1 + k - o = k + 1 by omega]
      simp
    · rw [if_neg h]
      by_cases e : j = o
      · subst e
        by_cases hl : j < us.length
        · rw [if_pos (by omega), List.getElem?_set, if_pos rfl, if_pos hl, Nat.sub_self]
          rfl
        · rw [if_neg (by omega), List.getElem?_set, if_pos rfl, if_neg hl, List.getElem?_eq_none (by omega)]
      · rw [if_neg (by omega), List.getElem?_set_ne (by omega)]
theorem setCell_heap {w : World} {b o : Nat} {arr : Array Value} {te : TypeId} {fr : Nat × Nat} (h : w.heap[b]? = some (.cells arr te fr)) (v : Value) :
    (w.setCell ⟨b, o, none⟩ v).heap[b]? = some (.cells (arr.setIfInBounds o v) te fr) := by
  simp only [World.setCell, Array.getElem?_modify, if_true, h, Option.map_some, Option.isSome_none, Bool.false_eq_true, if_false]
theorem setCells_heap : ∀ (vs : List Value) (o : Nat) (w : World) (arr : Array Value) {b : Nat} {te : TypeId} {fr : Nat × Nat}, w.heap[b]? = some (.cells arr te fr) →
    (w.setCells b o vs).heap[b]? = some (.cells (storeL arr.toList o vs).toArray te fr)
  | [], o, w, arr, b, te, fr, h => by simpa [World.setCells, storeL] using h
  | v :: vs, o, w, arr, b, te, fr, h => by
    simp only [World.setCells, storeL]
    have := setCells_heap vs (o + 1) _ _ (setCell_heap (o := o) h v)
    simpa using this
theorem setCells_other : ∀ (vs : List Value) (o : Nat) (w : World) {b c : Nat}, c ≠ b → (w.setCells b o vs).heap[c]? = w.heap[c]?
  | [], o, w, b, c, h => rfl
  | v :: vs, o, w, b, c, h => by
    simp only [World.setCells]
    rw [setCells_other vs (o + 1) _ h]
    exact Below.heap_setCell w ⟨b, o, none⟩ v c h
theorem setCells_os : ∀ (vs : List Value) (o : Nat) (w : World) (b : Nat), (w.setCells b o vs).os = w.os ∧ (w.setCells b o vs).tape = w.tape ∧ (w.setCells b o vs).output = w.output ∧ (w.setCells b o vs).heap.size = w.heap.size
  | [], o, w, b => ⟨rfl, rfl, rfl, rfl⟩
  | v :: vs, o, w, b => by
    simp only [World.setCells]
    obtain ⟨h1, h2, h3, h4⟩ := setCells_os vs (o + 1) (w.setCell ⟨b, o, none⟩ v) b
    exact ⟨h1, h2, h3, h4.trans (by simp [World.setCell])⟩
theorem cell?_of_heap {w : World} {b j : Nat} {arr : Array Value} {te : TypeId} {fr : Nat × Nat} (h : w.heap[b]? = some (.cells arr te fr)) : w.cell? ⟨b, j, none⟩ = arr[j]? := by
  unfold World.cell?
  rw [h]
  rfl
theorem frozen?_of_heap {w : World} {b j : Nat} {arr : Array Value} {te : TypeId} (h : w.heap[b]? = some (.cells arr te (0, 0))) : w.frozen? ⟨b, j, none⟩ = false := by
  unfold World.frozen?
  rw [h]
  simp
theorem rangeAt_iff {w : World} {b o : Nat} {arr : Array Value} {te : TypeId} {fr : Nat × Nat} (h : w.heap[b]? = some (.cells arr te fr)) (us : List Value) : w.rangeAt b o us ↔ ∀ j v, us[j]? = some v → arr[o + j]? = some v := by
  unfold World.rangeAt
  constructor
  · intro k j v hj
    have := k j v hj
    rwa [cell?_of_heap h] at this
  · intro k j v hj
    rw [cell?_of_heap h]
    exact k j v hj
/-- What an element reads behind a store into it. -/
theorem rangeAt_store {w : World} {b p : Nat} {us vs : List Value} {j : Nat} (h : w.rangeAt b p us) (hj : j + vs.length ≤ us.length) : (w.setCells b (p + j) vs).rangeAt b p (storeL us j vs) := by
  intro k v hk
  rw [storeL_get] at hk
  by_cases c : j ≤ k ∧ k < j + vs.length ∧ k < us.length
  · rw [if_pos c] at hk
    have := World.cell?_setCells_in b vs (p + j) w (fun i hi => by
      have := h (j + i) us[j + i] (List.getElem?_eq_getElem (by omega))
      rw [show p + j + i = p + (j + i) by omega, this]; rfl) (k - j) (by omega)
    rw [show p + k = p + j + (k - j) by omega, this, ← hk, List.getElem?_eq_getElem]
  · rw [if_neg c] at hk
    have hl : k < us.length := (List.getElem?_eq_some_iff.1 hk).1
    rw [World.cell?_setCells_out b vs (p + j) w ⟨b, p + k, none⟩ (fun _ _ => by simp; omega)]
    exact h k v hk
theorem heap_alloc_new' (w : World) (o : Obj) : (w.alloc o).heap[w.heap.size]? = some o := by
  show (w.heap.push o)[w.heap.size]? = _
  simp
theorem heap_alloc_old' (w : World) (o : Obj) {k : Nat} (h : k < w.heap.size) : (w.alloc o).heap[k]? = w.heap[k]? := Below.heap_alloc w o k h

theorem L.beq_iff : ∀ (a b : L), L.beq a b = true ↔ a = b
  | .k n, .k m => by simp [L.beq]
  | .t d j, .t d' j' => by
    simp only [L.beq]
    by_cases h : d = d'
    · subst h; simp
    · have : Nat.beq d d' = false := by
        cases e : Nat.beq d d' with
        | false => rfl
        | true => exact absurd (Nat.eq_of_beq_eq_true e) h
      simp [this, h]
  | .k _, .t _ _ => by simp [L.beq]
  | .t _ _, .k _ => by simp [L.beq]
theorem lkL_cons {β : Type} (l u : L) (v : β) (s : List (L × β)) : lkL l ((u, v) :: s) = if l = u then some v else lkL l s := by
  simp only [lkL]
  by_cases h : l = u
  · rw [(L.beq_iff l u).mpr h, if_pos h]
  · have : L.beq l u = false := by
      cases e : L.beq l u with
      | false => rfl
      | true => exact absurd ((L.beq_iff l u).mp e) h
    rw [this, if_neg h]
theorem lk_cons {β : Type} (l u : Nat) (v : β) (s : List (Nat × β)) : lk l ((u, v) :: s) = if l = u then some v else lk l s := by
  simp only [lk]
  by_cases h : l = u
  · subst h; simp
  · have : Nat.beq l u = false := by
      cases e : Nat.beq l u with
      | false => rfl
      | true => exact absurd (Nat.eq_of_beq_eq_true e) h
    rw [this, if_neg h]
theorem consS_eq : ∀ (w s : Sto), consS w s = w ++ s
  | [], s => rfl
  | a :: w, s => by simp [consS, consS_eq w s]
theorem lkL_app : ∀ (w s : Sto) (l : L), lkL l (w ++ s) = match lkL l w with | some c => some c | none => lkL l s
  | [], s, l => rfl
  | (u, v) :: w, s, l => by
    rw [List.cons_append, lkL_cons, lkL_cons]
    by_cases h : l = u
    · rw [if_pos h, if_pos h]
    · rw [if_neg h, if_neg h]
      exact lkL_app w s l
theorem lkC_some {l : L} {s : Sto} {c : C} : lkC l s = some c ↔ lkL l s = some (some c) := by
  unfold lkC
  cases lkL l s with
  | none => simp
  | some o => simp
/-- A block of the function's own, or of what was handed over. -/
def Live (μ : Mu) (sto : Sto) (b : Nat) : Prop := ∃ l c B, lkC l sto = some c ∧ μ l = some B ∧ B.virt = false ∧ B.b = b

/-- A name that is new. -/
structure Fresh (nb : L) (sto : Sto) : Prop where
  no : lkL nb sto = none
  nk : ∀ i, nb ≠ .k i
/-- A step from one state of memory to the next one. -/
structure Chg (μ : Mu) (G : Nat → Prop) (sto : Sto) (w : World) (wr : Sto) (μ' : Mu) (G' : Nat → Prop) (w' : World) : Prop where
  hr : HR μ' G' (wr ++ sto) w'
  mu : ∀ l B, μ l = some B → μ' l = some B
  keep : Keep G w w'
  gsub : ∀ b, G b → G' b
  gnew : ∀ b, G' b → G b ∨ w.heap.size ≤ b ∨ Live μ sto b
  frame : ∀ b, b < w.heap.size → ¬ Live μ sto b → w'.heap[b]? = w.heap[b]?
  size : w.heap.size ≤ w'.heap.size
  os : w'.os = w.os
  tape : w'.tape = w.tape
  output : w'.output = w.output
  new : ∀ l B, μ' l = some B → μ l = some B ∨ B.virt = true ∨ w.heap.size ≤ B.b ∨ Live μ sto B.b
  liv : ∀ b, Live μ' (wr ++ sto) b → Live μ sto b ∨ w.heap.size ≤ b
  kk : ∀ i, μ' (.k i) = μ (.k i)
theorem Chg.refl {μ : Mu} {G : Nat → Prop} {sto : Sto} {w : World} (h : HR μ G sto w) : Chg μ G sto w [] μ G w :=
  ⟨h, fun _ _ h => h, fun _ _ => rfl, fun _ h => h, fun _ h => .inl h, fun _ _ _ => rfl, Nat.le_refl _, rfl, rfl, rfl, fun _ _ h => .inl h, fun _ h => .inl h, fun _ => rfl⟩
/-- One block made or written; others gone. -/
theorem Chg.one {μ μ' : Mu} {G : Nat → Prop} {sto wr : Sto} {w w' : World} (h : HR μ G sto w) (hos : w'.os = w.os ∧ w'.tape = w.tape ∧ w'.output = w.output) (hsz : w.heap.size ≤ w'.heap.size)
    (D : Nat → Prop) (hD : ∀ b, b < w.heap.size → ¬ D b → w'.heap[b]? = w.heap[b]?) (hDG : ∀ b, D b → Live μ sto b)
    (hDw : ∀ l c B, lkC l sto = some c → μ l = some B → B.virt = false → D B.b → (lkL l wr).isSome = true)
    (hmu : ∀ l B, μ l = some B → μ' l = some B) (hkk : ∀ i, μ' (.k i) = μ (.k i)) (l1 : L) (c1 : C) (B1 : Blk) (h1 : lkL l1 wr = some (some c1)) (hone : ∀ l c, lkL l wr = some (some c) → l = l1 ∧ c = c1)
    (hB1 : μ' l1 = some B1) (hnew : ∀ l B, μ' l = some B → l ≠ l1 → μ l = some B)
    (hcr : (∀ a v, repA μ w G a v → repA μ' w' G a v) → (∀ as us, repAs μ w G as us → repAs μ' w' G as us) → crep μ' w' G B1 c1)
    (hwhere : B1.virt = false → (w.heap.size ≤ B1.b ∧ B1.b < w'.heap.size) ∨ (∃ l0 c0 B0, lkC l0 sto = some c0 ∧ μ l0 = some B0 ∧ B0.virt = false ∧ B0.b = B1.b ∧ (l0 = l1 ∨ lkL l0 wr = some none))) : Chg μ G sto w wr μ' G w' := by
  have hlt : ∀ b, Live μ sto b → b < w.heap.size ∧ ¬ G b := by
    rintro b ⟨l, c, B, e1, e2, e3, rfl⟩
    obtain ⟨B', e4, _, e5⟩ := h.live l c e1
    obtain rfl : B = B' := by rw [e2] at e4; exact Option.some.inj e4
    exact e5 e3
  have hkeep : Keep G w w' := fun b hb => hD b (h.good b hb) fun hd => (hlt b (hDG b hd)).2 hb
  have hrA := fun a v => repA_mono hmu hkeep (fun _ h => h) (G := G) (G' := G) a v
  have hrAs := fun a v => repAs_mono hmu hkeep (fun _ h => h) (G := G) (G' := G) a v
  have hlk : ∀ l c, lkC l (wr ++ sto) = some c → (l = l1 ∧ c = c1) ∨ (l ≠ l1 ∧ lkL l wr = none ∧ lkC l sto = some c) := by
    intro l c hc
    rw [lkC_some, lkL_app] at hc
    cases e : lkL l wr with
    | some o =>
      rw [e] at hc
      simp only [Option.some.injEq] at hc
      subst hc
      exact .inl (hone l c e)
    | none =>
      rw [e] at hc
      refine .inr ⟨fun he => ?_, rfl, lkC_some.mpr hc⟩
      rw [he, h1] at e
      cases e
  have hB1w : B1.virt = false → B1.b < w'.heap.size ∧ ¬ G B1.b := by
    intro hv
    rcases hwhere hv with ⟨a1, a2⟩ | ⟨l0, c0, B0, e1, e2, e3, e4, _⟩
    · exact ⟨a2, fun hg => by have := h.good _ hg; omega⟩
    · have := hlt B1.b ⟨l0, c0, B0, e1, e2, e3, e4⟩
      exact ⟨by omega, this.2⟩
  have hap1 : ∀ l c B, lkL l wr = none → l ≠ l1 → lkC l sto = some c → μ l = some B → B.virt = false → B1.virt = false → B.b ≠ B1.b := by
    intro l c B e0 ene e1 e2 e3 hv
    rcases hwhere hv with ⟨a1, a2⟩ | ⟨l0, c0, B0, f1, f2, f3, f4, f5⟩
    · have := (hlt B.b ⟨l, c, B, e1, e2, e3, rfl⟩).1
      omega
    · have hne : l ≠ l0 := by
        rintro rfl
        rcases f5 with f5 | f5
        · exact ene f5
        · rw [f5] at e0; cases e0
      rw [← f4]
      exact h.apart l l0 c c0 B B0 e1 f1 e2 f2 e3 f3 hne
  refine ⟨⟨?_, ?_, ?_, ?_, h.tab.mono hkeep fun _ h => h⟩, hmu, hkeep, fun _ h => h, fun _ h => .inl h, fun b hb hn => hD b hb fun hd => hn (hDG b hd), hsz, hos.1, hos.2.1, hos.2.2, ?_, ?_, hkk⟩
  · intro l c hc
    rcases hlk l c hc with ⟨rfl, rfl⟩ | ⟨hne, e0, e1⟩
    · exact ⟨B1, hB1, hcr hrA hrAs, hB1w⟩
    · obtain ⟨B, e2, e3, e4⟩ := h.live l c e1
      refine ⟨B, hmu _ _ e2, crep_mono hmu hkeep (fun _ h => h) (fun hv => hD B.b (e4 hv).1 fun hd => ?_) e3, fun hv => ⟨by have := (e4 hv).1; omega, (e4 hv).2⟩⟩
      have := hDw l c B e1 e2 hv hd
      rw [e0] at this
      cases this
  · intro l B hB
    rw [lkL_app]
    by_cases e : l = l1
    · subst e; rw [h1]; rfl
    · cases e' : lkL l wr with
      | some o => rfl
      | none => exact h.known l B (hnew l B hB e)
  · intro l l' c c' B B' hc hc' hB hB' hv hv' hne
    rcases hlk l c hc with ⟨rfl, rfl⟩ | ⟨hne1, e0, e1⟩ <;> rcases hlk l' c' hc' with ⟨rfl, rfl⟩ | ⟨hne1', e0', e1'⟩
    · exact absurd rfl hne
    · obtain rfl : B = B1 := by rw [hB1] at hB; exact (Option.some.inj hB).symm
      exact (hap1 l' c' B' e0' hne1' e1' (hnew _ _ hB' hne1') hv' hv).symm
    · obtain rfl : B' = B1 := by rw [hB1] at hB'; exact (Option.some.inj hB').symm
      exact hap1 l c B e0 hne1 e1 (hnew _ _ hB hne1) hv hv'
    · exact h.apart l l' c c' B B' e1 e1' (hnew _ _ hB hne1) (hnew _ _ hB' hne1') hv hv' hne
  · intro b hb
    have := h.good b hb
    omega
  · intro l B hB
    by_cases e : l = l1
    · subst e
      obtain rfl : B = B1 := by rw [hB1] at hB; exact (Option.some.inj hB).symm
      by_cases hv : B.virt = true
      · exact .inr (.inl hv)
      · rcases hwhere (by simpa using hv) with ⟨a1, _⟩ | ⟨l0, c0, B0, f1, f2, f3, f4, _⟩
        · exact .inr (.inr (.inl a1))
        · exact .inr (.inr (.inr ⟨l0, c0, B0, f1, f2, f3, f4⟩))
    · exact .inl (hnew l B hB e)
  · rintro b ⟨l, c, B, h2, h3, h4, rfl⟩
    rcases hlk l c h2 with ⟨rfl, rfl⟩ | ⟨hne, e0, e1⟩
    · obtain rfl : B = B1 := by rw [hB1] at h3; exact (Option.some.inj h3).symm
      rcases hwhere h4 with ⟨a1, _⟩ | ⟨l0, c0, B0, f1, f2, f3, f4, _⟩
      · exact .inr a1
      · exact .inl ⟨l0, c0, B0, f1, f2, f3, f4⟩
    · exact .inl ⟨l, c, B, e1, hnew l B h3 hne, h4, rfl⟩
end Go.AM

/- What the machine's table of types says of a program's types; operands; condition: the table fits the program. -/
namespace Go.AM
set_option linter.unusedVariables false
set_option linter.unusedSimpArgs false
open Go.RowKit

def aggD : TypeDesc → Bool
  | .struct _ | .array _ _ => true
  | _ => false
def aggT (P : Program) (t : TypeId) : Bool := match P.underlying t with
  | some d => aggD d
  | none => false
def zeroOk (as : List A) (z : Value) : Prop := ∀ μ w G, repAs μ w G as z.cells.toList
def elU (P : Program) (et : TypeId) : El → Prop
  | .int k => P.underlying et = some (.int k)
  | _ => True
def shOk (P : Program) (t : TypeId) (d : TypeDesc) : Sh → Prop
  | .int k => d = .int k
  | .bool => d = .bool
  | .str => d = .string
  | .sl e et => d = .slice et ∧ (∃ i, P.info? et = some i ∧ i.size = e.sz ∧ ∃ z, i.zero = some z ∧ zeroOk (e.enc e.d) z) ∧ elU P et e
  | .st fs eq => (∃ fields, d = .struct fields ∧ fields.toList.map (fun f => (f.offset, P.cellsOf f.type, aggT P f.type)) = fs ∧ ∀ f ∈ fields.toList, (P.info? f.type).isSome = true ∧ (P.underlying f.type).isSome = true) ∧
    (eq = true → P.eqGuardType P.depth t = false ∧ ∀ (s s' : ByteArray) (b b' : Bool) (n1 n2 n3 n4 m1 m2 m3 m4 : Int) (w : World),
      (Op.equal t (.agg #[.string s, .bool b, .int .i64 n1, .int .i64 n2, .int .i64 n3, .int .i64 n4]) (.agg #[.string s', .bool b', .int .i64 m1, .int .i64 m2, .int .i64 m3, .int .i64 m4])).run P w =
        .ok (s == s' && (b == b' && (n1 == m1 && (n2 == m2 && (n3 == m3 && n4 == m4))))) w)
  | .arr n es agg => ∃ et, d = .array n et ∧ ∃ i, P.info? et = some i ∧ i.size = es
  | .ptr => ∃ e, d = .pointer e
  | .fn => ∃ ps rs v, d = .func ps rs v
  | .ifc | .oth => True
structure TyOk (P : Program) (t : TypeId) (ty : Ty) : Prop where
  info : ∃ i, P.info? t = some i ∧ i.size = ty.sz ∧ i.bytes = ty.bytes ∧ ∃ z, i.zero = some z ∧ zeroOk ty.zero z ∧ (ty.zero.length = ty.sz)
  und : ∃ d, P.underlying t = some d ∧ shOk P t d ty.sh ∧ aggD d = ty.agg
def TabOk (P : Program) (tab : Tab) : Prop := ∀ t ty, lk t tab = some ty → TyOk P t ty

variable {P : Program} {μ : Mu} {w : World} {G : Nat → Prop}
theorem constV_ok {x : Value} {v : V} (h : constV x = some v) : repV μ w G v x := by
  unfold constV at h
  split at h <;> first | (obtain rfl := Option.some.inj h; simp only [repV, repA]) | cases h
theorem opnd_ok {env : Env} {a : Act} (he : ER μ G env w a) {x : Operand} {v : V} (h : opnd env x = some v) : repV μ w G v (a.eval x) := by
  cases x with
  | tmp t =>
    obtain ⟨u, h1, h2⟩ := he t v h
    show repV μ w G v (a.tmps.getD t undef)
    rw [Array.getD_eq_getD_getElem?, h1]
    exact h2
  | const c => exact constV_ok h
  | global g => simp [opnd] at h
  | func f =>
    simp only [opnd, Option.some.injEq] at h
    subst h
    simp only [Act.eval, repV, repA]
    exact ⟨#[], rfl, by simp [repAs]⟩
theorem opnds_ok {env : Env} {a : Act} (he : ER μ G env w a) : ∀ (xs : List Operand) (vs : List V), opnds env xs = some vs → repVs μ w G vs (xs.map a.eval)
  | [], vs, h => by
    simp only [opnds, Option.some.injEq] at h
    subst h
    simp [repVs]
  | x :: xs, vs, h => by
    simp only [opnds] at h
    split at h
    · rename_i v vs' h1 h2
      obtain rfl := Option.some.inj h
      simp only [repVs, List.map_cons]
      exact ⟨_, _, rfl, opnd_ok he h1, opnds_ok he xs _ h2⟩
    · cases h
theorem wrap64_eq (n : Int) : IntKind.i64.wrap n = wrap64 n := by
  unfold IntKind.wrap wrap64 IntKind.bits IntKind.signed
  simp
  omega
theorem run_und {t : TypeId} {d : TypeDesc} (h : P.underlying t = some d) (w : World) : (underlying t).run P w = .ok d w := run_underlying h w
theorem run_size {t : TypeId} {i : TypeInfo} (h : P.info? t = some i) (w : World) : (sizeOf t).run P w = .ok i.size w := by simp [sizeOf, typeInfo, h]
theorem run_agg {t : TypeId} {d : TypeDesc} (h : P.underlying t = some d) (w : World) : (isAgg t).run P w = .ok (aggD d) w := by
  unfold isAgg
  rw [Sem.run_bind, run_und h]
  cases d <;> rfl
theorem repA_one {a : A} {v : Value} (h : repA μ w G a v) : v.oneCell' = true := by
  cases a <;> simp only [repA, lstRep] at h
  case any => rcases h with ⟨_, _, _, rfl⟩ | rfl <;> rfl
  all_goals first
    | (subst h; rfl)
    | (obtain ⟨_, _, rfl, _⟩ := h; rfl)
    | (obtain ⟨_, _, _, rfl, _⟩ := h; rfl)
    | (obtain ⟨_, _, rfl⟩ := h; rfl)
    | (obtain ⟨_, rfl, _⟩ := h; rfl)
theorem repA_cells {a : A} {v : Value} (h : repA μ w G a v) : v.cells = #[v] := by
  have := repA_one h
  cases v <;> first | rfl | simp [Value.oneCell'] at this
theorem repAs_one {as : List A} {us : List Value} (h : repAs μ w G as us) : ∀ u ∈ us, u.oneCell' = true := by
  rw [repAs_iff] at h
  induction h with
  | nil => simp
  | cons h1 _ ih =>
    intro u hu
    rcases List.mem_cons.mp hu with rfl | hu
    · exact repA_one h1
    · exact ih u hu
theorem repV_atoms {v : V} {u : Value} (h : repV μ w G v u) (hv : ∀ vs, v ≠ .tup vs) : repAs μ w G v.atoms u.cells.toList := by
  cases v with
  | one a =>
    simp only [repV] at h
    rw [repA_cells h]
    simp only [V.atoms, repAs]
    exact ⟨u, [], rfl, h, rfl⟩
  | agg as =>
    simp only [repV] at h
    obtain ⟨us, rfl, h⟩ := h
    exact h
  | tup vs => exact absurd rfl (hv vs)
/-! Pieces -/
theorem takeO_ok : ∀ {n : Nat} {as bs : List A}, takeO n as = some bs → bs = as.take n ∧ bs.length = n
  | 0, as, bs, h => by simp only [takeO, Option.some.injEq] at h; subst h; simp
  | n + 1, [], bs, h => by simp [takeO] at h
  | n + 1, a :: as, bs, h => by
    simp only [takeO] at h
    split at h
    · rename_i r hr
      obtain rfl := Option.some.inj h
      obtain ⟨h1, h2⟩ := takeO_ok hr
      exact ⟨by rw [h1]; rfl, by simp [h2]⟩
    · cases h
theorem dropO_ok : ∀ {n : Nat} {as bs : List A}, dropO n as = some bs → bs = as.drop n ∧ n ≤ as.length
  | 0, as, bs, h => by simp only [dropO, Option.some.injEq] at h; subst h; simp
  | n + 1, [], bs, h => by simp [dropO] at h
  | n + 1, a :: as, bs, h => by
    simp only [dropO] at h
    obtain ⟨h1, h2⟩ := dropO_ok h
    exact ⟨h1, by simp; omega⟩
theorem pieceO_ok {j n : Nat} {as bs : List A} (h : pieceO j n as = some bs) : bs = (as.drop j).take n ∧ bs.length = n ∧ j + n ≤ as.length := by
  unfold pieceO at h
  split at h
  · rename_i cs hc
    obtain ⟨h1, h2⟩ := dropO_ok hc
    obtain ⟨h3, h4⟩ := takeO_ok h
    subst h1
    refine ⟨h3, h4, ?_⟩
    have : bs.length ≤ (as.drop j).length := by rw [h3]; exact List.length_take_le' _ _
    simp at this
    omega
  · cases h
theorem setO_ok : ∀ {as : List A} {n : Nat} {b : A} {bs : List A}, setO as n b = some bs → bs = as.set n b ∧ n < as.length
  | [], n, b, bs, h => by simp [setO] at h
  | a :: as, 0, b, bs, h => by simp only [setO, Option.some.injEq] at h; subst h; simp
  | a :: as, n + 1, b, bs, h => by
    simp only [setO] at h
    split at h
    · rename_i r hr
      obtain rfl := Option.some.inj h
      obtain ⟨h1, h2⟩ := setO_ok hr
      exact ⟨by rw [h1]; rfl, by simp; omega⟩
    · cases h
theorem storeO_ok {r : A → Value → Prop} : ∀ {xs : List A} {as : List A} {j : Nat} {bs : List A} {us vs : List Value}, storeO as j xs = some bs → All2 r as us → All2 r xs vs →
    All2 r bs (storeL us j vs) ∧ (xs ≠ [] → j + xs.length ≤ as.length)
  | [], as, j, bs, us, vs, h, h1, h2 => by
    simp only [storeO, Option.some.injEq] at h
    subst h
    cases h2
    exact ⟨h1, fun h => absurd rfl h⟩
  | x :: xs, as, j, bs, us, vs, h, h1, h2 => by
    simp only [storeO] at h
    split at h
    · rename_i as' ha
      obtain ⟨e1, e2⟩ := setO_ok ha
      cases h2 with
      | cons h3 h4 =>
        subst e1
        obtain ⟨k1, k2⟩ := storeO_ok h (h1.set h3 j) h4
        refine ⟨k1, fun _ => ?_⟩
        by_cases e : xs = []
        · subst e; simp; omega
        · have := k2 e; simp at this ⊢; omega
    · cases h
theorem vOf_ok {agg : Bool} {as : List A} {v : V} {us : List Value} (h : vOf agg as = some v) (hr : repAs μ w G as us) : repV μ w G v (if agg then .agg us.toArray else us.headD undef) := by
  unfold vOf at h
  split at h
  · obtain rfl := Option.some.inj h
    simp only [repV]
    exact ⟨us.toArray, rfl, by simpa using hr⟩
  · obtain rfl := Option.some.inj h
    simp only [repAs] at hr
    obtain ⟨u, us', rfl, h1, rfl⟩ := hr
    simp only [repV, Bool.false_eq_true, if_false, List.headD]
    exact h1
  · cases h
theorem enc_length (e : El) (x : e.T) : (e.enc x).length = e.sz := by cases e <;> rfl
theorem at_enc (e : El) (xs : List e.T) (i : Int) (h : i.toNat < xs.length) : e.at xs i = e.enc (xs[i.toNat]'h) := by
  cases e <;> simp only [El.at, El.enc, rd, rdB, rdS, rdM, rdL, List.getD_eq_getElem?_getD, List.getElem?_eq_getElem h, Option.getD_some]
theorem kEq_ok {k k' : IntKind} (h : kEq k k' = true) : k = k' := by cases k <;> cases k' <;> first | rfl | cases h
theorem dec_rep {e : El} {bs : List A} {z : e.T} {us : List Value} (h : e.dec bs = some z) (hr : repAs μ w G bs us) : repAs μ w G (e.enc z) us := by
  unfold El.dec at h
  split at h
  · split at h
    · rename_i hk
      obtain rfl := Option.some.inj h
      obtain rfl := kEq_ok hk
      exact hr
    · cases h
  · obtain rfl := Option.some.inj h; exact hr
  · obtain rfl := Option.some.inj h; exact hr
  · obtain rfl := Option.some.inj h; exact hr
  · obtain rfl := Option.some.inj h
    simp only [El.enc, repAs, repA] at hr ⊢
    obtain ⟨u, us', rfl, ⟨a, cap, h1, h2, _, h4⟩, rfl⟩ := hr
    exact ⟨u, [], rfl, ⟨a, cap, h1, h2, by simp, h4⟩, rfl⟩
  · cases h
/-- What the reads of an operation depend on. -/
theorem go_ok {α : Type} {s : Sto} : ∀ {m : M α} {rl rl' : List L} {ps ps' : List Prop} {a : α}, m.go s rl ps = .ok a rl' ps' → (∀ l ∈ rl, l ∈ rl') ∧ (∀ p ∈ ps, p ∈ ps')
  | .ret a, rl, rl', ps, ps', _, h => by simp only [M.go, MR.ok.injEq] at h; obtain ⟨_, rfl, rfl⟩ := h; exact ⟨fun _ h => h, fun _ h => h⟩
  | .need p m, rl, rl', ps, ps', _, h => by
    simp only [M.go] at h
    obtain ⟨h1, h2⟩ := go_ok h
    exact ⟨h1, fun q hq => h2 q (List.mem_cons_of_mem _ hq)⟩
  | .get l k, rl, rl', ps, ps', _, h => by
    simp only [M.go] at h
    split at h
    · obtain ⟨h1, h2⟩ := go_ok h
      exact ⟨fun q hq => h1 q (List.mem_cons_of_mem _ hq), h2⟩
    · cases h
  | .fail n, rl, rl', ps, ps', _, h => by simp [M.go] at h
theorem go_agree {α : Type} {s s' : Sto} : ∀ {m : M α} {rl rl' : List L} {ps ps' : List Prop} {a : α}, m.go s rl ps = .ok a rl' ps' → (∀ l ∈ rl', lkC l s' = lkC l s) → m.go s' rl ps = .ok a rl' ps'
  | .ret a, rl, rl', ps, ps', _, h, _ => h
  | .need p m, rl, rl', ps, ps', _, h, k => by
    simp only [M.go] at h ⊢
    exact go_agree h k
  | .get l kk, rl, rl', ps, ps', _, h, k => by
    simp only [M.go] at h ⊢
    split at h
    · rename_i c hc
      have := k l ((go_ok h).1 l List.mem_cons_self)
      rw [this, hc]
      exact go_agree h k
    · cases h
  | .fail n, rl, rl', ps, ps', _, h, _ => by simp [M.go] at h
end Go.AM

/- Loads and stores: what the machine does is what the program does; condition: the table of types fits the program. -/
namespace Go.AM
set_option linter.unusedVariables false
set_option linter.unusedSimpArgs false
open Go.RowKit
variable {P : Program} {μ : Mu} {w : World} {G : Nat → Prop} {sto : Sto}

theorem isRow_agg (d : TypeDesc) : d.isRow = aggD d := by cases d <;> rfl
theorem load_core {t : TypeId} {ty : Ty} (ht : TyOk P t ty) {b o : Nat} {us : List Value} {bs : List A} {v : V} (hr : w.rangeAt b o us) (hl : us.length = ty.sz) (hv : vOf ty.agg bs = some v) (hb : repAs μ w G bs us) :
    ∃ u, (Instr.loadAt t (.pointer (some ⟨b, o, none⟩))).run P w = .ok u w ∧ repV μ w G v u := by
  obtain ⟨i, hi, hsz, _⟩ := ht.info
  obtain ⟨d, hd, _, hagg⟩ := ht.und
  have hv' := vOf_ok hv hb
  cases ha : ty.agg with
  | true =>
    rw [ha] at hv' hagg
    refine ⟨_, run_loadAt_mid (P := P) w b o t us d hr hd (by rw [isRow_agg, hagg]) (by rw [hi, hl, ← hsz]; rfl), ?_⟩
    simpa using hv'
  | false =>
    rw [ha] at hv' hagg hv
    have hlen : ∃ a, bs = [a] := by
      unfold vOf at hv
      split at hv
      · rename_i h; cases h
      · exact ⟨_, rfl⟩
      · cases hv
    obtain ⟨a, rfl⟩ := hlen
    simp only [repAs] at hb
    obtain ⟨u, us', rfl, h1, rfl⟩ := hb
    refine ⟨u, ?_, by simpa using hv'⟩
    have hc := hr 0 u rfl
    simp only [Nat.add_zero] at hc
    simp only [Instr.loadAt, Instr.sureAddr, Sem.run_bind, Sem.run_pure, Result.andThen_ok, loadVar, run_agg hd, hagg, Bool.false_eq_true, if_false, run_load, hc]
theorem rangeAt_sub {b o j n : Nat} {us : List Value} (h : w.rangeAt b o us) : w.rangeAt b (o + j) ((us.drop j).take n) := by
  intro k v hk
  rw [List.getElem?_take] at hk
  split at hk
  · rw [List.getElem?_drop] at hk
    have := h (j + k) v hk
    rwa [← Nat.add_assoc] at this
  · cases hk
theorem piece_core {j n : Nat} {as bs : List A} {us : List Value} (h : pieceO j n as = some bs) (hr : repAs μ w G as us) : repAs μ w G bs ((us.drop j).take n) ∧ ((us.drop j).take n).length = n := by
  obtain ⟨rfl, h1, h2⟩ := pieceO_ok h
  rw [repAs_iff] at hr ⊢
  have := (hr.drop j).take n
  exact ⟨this, by rw [this.length]; exact h1⟩
/-- What a block that lives holds. -/
theorem HR.get (h : HR μ G sto w) {l : L} {c : C} (hc : lkC l sto = some c) {B : Blk} (hB : μ l = some B) : crep μ w G B c ∧ (B.virt = false → B.b < w.heap.size ∧ ¬ G B.b) := by
  obtain ⟨B', e1, e2, e3⟩ := h.live l c hc
  obtain rfl : B = B' := by rw [hB] at e1; exact Option.some.inj e1
  exact ⟨e2, e3⟩
theorem repAs_A1 {as : List A} {us : List Value} (h : All2 (rep1 w G) as us) : repAs μ w G as us := by
  rw [repAs_iff]
  exact h.imp (fun _ _ h => rep1_A _ _ h)
theorem outO_ok {s : Sto} {n : Nat} {o : Option V} {rl rl' : List L} {ps ps' : List Prop} {v : V} {wr : Sto} (h : (outO n o).go s rl ps = .ok ⟨v, wr⟩ rl' ps') : o = some v ∧ wr = [] ∧ ps' = ps ∧ rl' = rl := by
  unfold outO at h
  split at h
  · simp only [M.go, MR.ok.injEq, Upd.mk.injEq] at h
    obtain ⟨⟨rfl, rfl⟩, rfl, rfl⟩ := h
    exact ⟨rfl, rfl, rfl, rfl⟩
  · simp [M.go] at h
theorem loadP_ok {t : TypeId} {ty : Ty} (ht : TyOk P t ty) (h : HR μ G sto w) {a : A} {x : Value} (ha : repA μ w G a x) {v : V} {wr : Sto} {rl rl' : List L} {ps ps' : List Prop}
    (hg : (loadP ty a).go sto rl ps = .ok ⟨v, wr⟩ rl' ps') (hp : ∀ p ∈ ps', p) : wr = [] ∧ ∃ u, (Instr.loadAt t x).run P w = .ok u w ∧ repV μ w G v u := by
  unfold loadP at hg
  split at hg
  · rename_i l j
    simp only [repA] at ha
    obtain ⟨B, hB, rfl⟩ := ha
    simp only [M.go] at hg
    split at hg
    · rename_i c hc
      obtain ⟨hcr, _⟩ := h.get hc hB
      cases c with
      | row e xs => simp [M.go] at hg
      | cells as =>
        simp only at hg
        split at hg
        · rename_i bs hbs
          obtain ⟨e1, rfl, _, _⟩ := outO_ok hg
          obtain ⟨_, us, te, h1, h2⟩ := hcr
          obtain ⟨h3, h4⟩ := piece_core hbs h2
          refine ⟨rfl, load_core ht (b := B.b) (o := j) ?_ h4 e1 h3⟩
          have : w.rangeAt B.b 0 us.toList := (rangeAt_iff h1 _).mpr (by intro k v hk; simpa using hk)
          simpa using rangeAt_sub (j := j) (n := ty.sz) this
        · simp [M.go] at hg
    · cases hg
  · rename_i l i j
    simp only [repA] at ha
    obtain ⟨B, hB, rfl⟩ := ha
    simp only [M.go] at hg
    split at hg
    · rename_i c hc
      obtain ⟨hcr, _⟩ := h.get hc hB
      cases c with
      | cells as => simp [M.go] at hg
      | row e xs =>
        simp only at hg
        split at hg
        · rename_i bs hbs
          simp only [M.go] at hg
          obtain ⟨e1, rfl, rfl, _⟩ := outO_ok hg
          have hi := hp _ List.mem_cons_self
          obtain ⟨h1, h2, h3, h4, h5⟩ := hcr
          have hlt : i.toNat < xs.length := by omega
          have hv : B.virt = false := by
            cases hv : B.virt with
            | false => rfl
            | true => obtain ⟨rfl, _⟩ := h4 hv; simp at hlt
          obtain ⟨h6, arr, te, h7, h8, h9⟩ := h5 hv
          obtain ⟨us, h10, h11⟩ := h9 i.toNat _ (List.getElem?_eq_getElem hlt)
          rw [at_enc e xs i hlt] at hbs
          obtain ⟨h12, h13⟩ := piece_core hbs h10
          refine ⟨rfl, ?_⟩
          rw [h3]
          exact load_core ht (rangeAt_sub (j := j) (n := ty.sz) h11) h13 e1 h12
        · simp [M.go] at hg
    · cases hg
  · rename_i e y j
    simp only [repA] at ha
    obtain ⟨b, o, rfl, hb, us, h1, h2⟩ := ha
    split at hg
    · rename_i bs hbs
      obtain ⟨e1, rfl, _, _⟩ := outO_ok hg
      obtain ⟨h3, h4⟩ := piece_core hbs (repAs_A1 (μ := μ) h1)
      exact ⟨rfl, load_core ht (rangeAt_sub (j := j) (n := ty.sz) h2) h4 e1 h3⟩
    · simp [M.go] at hg
  · simp [M.go] at hg

/-! ### Stores -/
theorem there_of {b : Nat} {arr : Array Value} {te : TypeId} (h : w.heap[b]? = some (.cells arr te (0, 0))) {o n : Nat} (hn : o + n ≤ arr.size) : w.there b o n := by
  intro j hj
  refine ⟨?_, frozen?_of_heap h⟩
  rw [cell?_of_heap h, Array.getElem?_eq_getElem (by omega)]
  rfl
theorem store_core {t : TypeId} {ty : Ty} (ht : TyOk P t ty) {b o : Nat} {y : Value} {xs : List A} (hx : repAs μ w G xs y.cells.toList) (hn : xs.length = ty.sz) (hth : w.there b o ty.sz) :
    (Instr.storeAt t (.pointer (some ⟨b, o, none⟩)) y).run P w = .ok () (w.setCells b o y.cells.toList) := by
  obtain ⟨i, hi, hsz, _⟩ := ht.info
  have hl : y.cells.size = ty.sz := by
    have := repAs_length _ _ hx
    simp at this
    omega
  have h1 := repAs_one hx
  have := run_storeCells_cells (P := P) b o y.cells.toList 0 w (fun j hj => by simpa using (hth j (by simp at hj; omega)).1) (fun j hj => by simpa using (hth j (by simp at hj; omega)).2) h1
  simp only [Nat.add_zero] at this
  simp only [Instr.storeAt, Instr.sureAddr, Sem.run_bind, Sem.run_pure, Result.andThen_ok, storeVar, run_size hi, hl, hsz, ne_eq, not_true_eq_false, if_false, this]
def OpPost (μ : Mu) (G : Nat → Prop) (sto : Sto) (w : World) (v : V) (wr : Sto) (r : Result Next) : Prop :=
  ∃ u w' μ' G', (r = .ok (.value u) w' ∨ (r = .ok .skip w' ∧ u = undef)) ∧ repV μ' w' G' v u ∧ Chg μ G sto w wr μ' G' w'
theorem OpPost.pure (h : HR μ G sto w) {v : V} {u : Value} (hv : repV μ w G v u) : OpPost μ G sto w v [] (.ok (.value u) w) :=
  ⟨u, w, μ, G, .inl rfl, hv, Chg.refl h⟩
/-- A block that lives is written. -/
theorem Chg.write (h : HR μ G sto w) {l : L} {c c' : C} (hc : lkC l sto = some c) {B : Blk} (hB : μ l = some B) (hv : B.virt = false) {o : Nat} {vs : List Value}
    (hcr : crep μ (w.setCells B.b o vs) G B c') : Chg μ G sto w [(l, some c')] μ G (w.setCells B.b o vs) := by
  obtain ⟨e1, e2, e3, e4⟩ := setCells_os vs o w B.b
  refine Chg.one h ⟨e1, e2, e3⟩ (by omega) (fun b => b = B.b) (fun b _ hb => setCells_other vs o w hb) (fun b hb => ⟨l, c, B, hc, hB, hv, hb.symm⟩) ?_ (fun _ _ h => h) (fun _ => rfl) l c' B (by rw [lkL_cons, if_pos rfl]) ?_ hB (fun _ _ h _ => h) (fun _ _ => hcr)
    (fun _ => .inr ⟨l, c, B, hc, hB, hv, rfl, .inl rfl⟩)
  · intro l' c'' B' h1 h2 h3 h4
    by_cases e : l' = l
    · subst e; rw [lkL_cons, if_pos rfl]; rfl
    · exact absurd h4 (h.apart l' l _ _ B' B h1 hc h2 hB h3 hv e)
  · intro l' c'' hl
    rw [lkL_cons] at hl
    split at hl
    · rename_i e; subst e; simp at hl; exact ⟨rfl, hl.symm⟩
    · cases hl
theorem storeP_ok {t : TypeId} {ty : Ty} (ht : TyOk P t ty) (h : HR μ G sto w) {a : A} {x y : Value} (ha : repA μ w G a x) {xs : List A} (hx : repAs μ w G xs y.cells.toList) {v : V} {wr : Sto} {rl rl' : List L} {ps ps' : List Prop}
    (hg : (storeP ty xs a).go sto rl ps = .ok ⟨v, wr⟩ rl' ps') (hp : ∀ p ∈ ps', p) : ∃ w', (Instr.storeAt t x y).run P w = .ok () w' ∧ v = .tup [] ∧ Chg μ G sto w wr μ G w' := by
  unfold storeP at hg
  split at hg
  · rename_i l j
    simp only [repA] at ha
    obtain ⟨B, hB, rfl⟩ := ha
    simp only [M.go] at hg
    split at hg
    · rename_i c hc
      obtain ⟨hcr, hlt⟩ := h.get hc hB
      cases c with
      | row e xs => simp [M.go] at hg
      | cells as =>
        simp only at hg
        split at hg
        · rename_i bs hn hs
          have hn' := Nat.eq_of_beq_eq_true hn
          simp only [M.go, MR.ok.injEq, Upd.mk.injEq] at hg
          obtain ⟨⟨rfl, rfl⟩, rfl, rfl⟩ := hg
          obtain ⟨hv, us, te, h1, h2⟩ := hcr
          rw [repAs_iff] at h2 hx
          obtain ⟨k1, k2⟩ := storeO_ok hs h2 hx
          have hul : us.size = as.length := by simpa using h2.length
          have hth : w.there B.b j ty.sz := by
            by_cases e : xs = []
            · subst e; simp at hn'; intro k hk; omega
            · exact there_of h1 (by have := k2 e; omega)
          refine ⟨_, store_core ht ((repAs_iff _ _).mpr hx) hn' hth, rfl, Chg.write h hc hB hv ?_⟩
          have hkeep : Keep G w (w.setCells B.b j y.cells.toList) := fun b hb => setCells_other _ _ _ fun e => (hlt hv).2 (e ▸ hb)
          refine ⟨hv, _, te, setCells_heap _ _ _ _ h1, ?_⟩
          have := repAs_mono (fun _ _ h => h) hkeep (fun _ h => h) _ _ ((repAs_iff _ _).mpr k1)
          simpa using this
        · simp [M.go] at hg
    · cases hg
  · rename_i l i j
    simp only [repA] at ha
    obtain ⟨B, hB, rfl⟩ := ha
    simp only [M.go] at hg
    split at hg
    · rename_i c hc
      obtain ⟨hcr, hltB⟩ := h.get hc hB
      cases c with
      | cells as => simp [M.go] at hg
      | row e zs =>
        simp only at hg
        split at hg
        · rename_i bs hn hs
          have hn' := Nat.eq_of_beq_eq_true hn
          split at hg
          · rename_i z hz
            simp only [M.go, MR.ok.injEq, Upd.mk.injEq] at hg
            obtain ⟨⟨rfl, rfl⟩, rfl, rfl⟩ := hg
            have hi := hp _ List.mem_cons_self
            obtain ⟨h1, h2, h3, h4, h5⟩ := hcr
            have hlt : i.toNat < zs.length := by omega
            have hv : B.virt = false := by
              cases hv : B.virt with
              | false => rfl
              | true => obtain ⟨rfl, _⟩ := h4 hv; simp at hlt
            obtain ⟨h6, arr, te, h7, h8, h9⟩ := h5 hv
            obtain ⟨us, h10, h11⟩ := h9 i.toNat _ (List.getElem?_eq_getElem hlt)
            rw [at_enc e zs i hlt] at hs
            rw [repAs_iff] at h10 hx
            obtain ⟨k1, k2⟩ := storeO_ok hs h10 hx
            have hxl : y.cells.toList.length = xs.length := hx.length
            have hul : us.length = e.sz := by rw [h10.length, enc_length]
            have hle : j + y.cells.toList.length ≤ us.length ∨ y.cells.toList = [] := by
              by_cases e0 : xs = []
              · subst e0; exact .inr (by simpa using hxl)
              · left; have := k2 e0; rw [enc_length] at this; omega
            have hinb : i.toNat * e.sz + e.sz ≤ arr.size := by
              rw [h8]
              have : (i.toNat + 1) * e.sz ≤ B.cap * e.sz := Nat.mul_le_mul_right _ (by omega)
              rw [Nat.add_mul, Nat.one_mul] at this
              exact this
            have hth : w.there B.b (i.toNat * B.sz + j) ty.sz := by
              rw [h3]
              rcases hle with hle | hle
              · exact there_of h7 (by omega)
              · intro k hk; rw [hle] at hxl; simp at hxl; omega
            refine ⟨_, store_core ht ((repAs_iff _ _).mpr hx) hn' hth, rfl, Chg.write h hc hB hv ?_⟩
            have hkeep : Keep G w (w.setCells B.b (i.toNat * B.sz + j) y.cells.toList) := fun b hb => setCells_other _ _ _ fun e => (hltB hv).2 (e ▸ hb)
            refine ⟨by rw [List.length_set]; exact h1, h2, h3, (fun hv' => by rw [hv] at hv'; cases hv'), fun _ => ⟨h6, _, te, setCells_heap _ _ _ _ h7, by simp [storeL_length, h8], ?_⟩⟩
            intro k q hq
            by_cases e0 : k = i.toNat
            · subst e0
              rw [List.getElem?_set, if_pos rfl, if_pos hlt] at hq
              obtain rfl := Option.some.inj hq
              refine ⟨storeL us j y.cells.toList, ?_, ?_⟩
              · exact dec_rep hz (repAs_mono (fun _ _ h => h) hkeep (fun _ h => h) _ _ ((repAs_iff _ _).mpr k1))
              · rw [h3]
                rcases hle with hle | hle
                · exact rangeAt_store h11 hle
                · rw [hle]; exact h11
            · rw [List.getElem?_set_ne (by omega)] at hq
              obtain ⟨us', g1, g2⟩ := h9 k q hq
              refine ⟨us', repAs_mono (fun _ _ h => h) hkeep (fun _ h => h) _ _ g1, ?_⟩
              have hul' : us'.length = e.sz := by rw [repAs_length _ _ g1, enc_length]
              rw [h3]
              rcases hle with hle | hle
              · refine World.rangeAt_setCells_apart g2 _ _ _ (.inr ?_)
                rcases Nat.lt_or_gt_of_ne e0 with hlt' | hlt'
                · left
                  have : (k + 1) * e.sz ≤ i.toNat * e.sz := Nat.mul_le_mul_right _ (by omega)
                  rw [Nat.add_mul, Nat.one_mul] at this
                  omega
                · right
                  have : (i.toNat + 1) * e.sz ≤ k * e.sz := Nat.mul_le_mul_right _ (by omega)
                  rw [Nat.add_mul, Nat.one_mul] at this
                  omega
              · rw [hle]; exact g2
          · simp [M.go] at hg
        · simp [M.go] at hg
    · cases hg
  · simp [M.go] at hg
end Go.AM

/- Numbers, strings, pieces of slices: what the machine does is what the program does; condition: the table of types fits the program. -/
namespace Go.AM
set_option linter.unusedVariables false
set_option linter.unusedSimpArgs false
open Go.RowKit
variable {P : Program} {μ : Mu} {w : World} {G : Nat → Prop} {sto : Sto}

def PR (P : Program) (μ : Mu) (w : World) (G : Nat → Prop) (s : Sem Value) (v : V) : Prop := ∃ u, s.run P w = .ok u w ∧ repV μ w G v u
theorem outA_ok {s : Sto} {a : A} {rl rl' : List L} {ps ps' : List Prop} {v : V} {wr : Sto} (h : (outA a).go s rl ps = .ok ⟨v, wr⟩ rl' ps') : v = .one a ∧ wr = [] ∧ ps' = ps := by
  simp only [outA, M.go, MR.ok.injEq, Upd.mk.injEq] at h
  obtain ⟨⟨rfl, rfl⟩, rfl, rfl⟩ := h
  exact ⟨rfl, rfl, rfl⟩
theorem wrap32_eq (n : Int) : IntKind.i32.wrap n = wrap32 n := by
  unfold IntKind.wrap wrap32 IntKind.bits IntKind.signed
  simp
  omega
theorem mkI_ok {s : Sto} {k : IntKind} {n : Int} {rl rl' : List L} {ps ps' : List Prop} {v : V} {wr : Sto} (h : (mkI k n).go s rl ps = .ok ⟨v, wr⟩ rl' ps') : v = .one (.int k (k.wrap n)) ∧ wr = [] ∧ ps' = ps := by
  unfold mkI at h
  split at h
  · rw [wrap64_eq]; exact outA_ok h
  · exact outA_ok h
theorem PR.int {k : IntKind} {n m : Int} (h : n = m) {s : Sem Value} (hs : s.run P w = .ok (.int k m) w) : PR P μ w G s (.one (.int k n)) := ⟨_, hs, by simp only [repV, repA]; rw [h]⟩
theorem PR.bool {b c : Bool} (h : b = c) {s : Sem Value} (hs : s.run P w = .ok (.bool c) w) : PR P μ w G s (.one (.bool b)) := ⟨_, hs, by simp only [repV, repA]; rw [h]⟩
theorem PR.str {b c : ByteArray} (h : b = c) {s : Sem Value} (hs : s.run P w = .ok (.string c) w) : PR P μ w G s (.one (.str b)) := ⟨_, hs, by simp only [repV, repA]; rw [h]⟩
theorem binI_ok {op : BinOp} {k : IntKind} {a b : Int} (t : TypeId) {v : V} {wr : Sto} {rl rl' : List L} {ps ps' : List Prop} (hg : (binI op k a b).go sto rl ps = .ok ⟨v, wr⟩ rl' ps') (hp : ∀ p ∈ ps', p) (hs : isShift op = false) :
    wr = [] ∧ PR P μ w G (binOp op t (.int k a) (.int k b)) v := by
  cases op <;> simp only [isShift] at hs <;> simp only [binI] at hg <;> (try (cases hs; done))
  all_goals first
    | (with_reducible obtain ⟨rfl, rfl, _⟩ := mkI_ok hg; refine ⟨rfl, PR.int rfl ?_⟩; simp [binOp, Op.intArith, Op.intBits]; done)
    | (with_reducible obtain ⟨rfl, rfl, _⟩ := outA_ok hg; refine ⟨rfl, PR.bool rfl ?_⟩; simp [binOp, Op.intCmp]; done)
    | (simp only [M.go] at hg
       obtain ⟨rfl, rfl, rfl⟩ := mkI_ok hg
       have h0 := hp _ List.mem_cons_self
       refine ⟨rfl, PR.int rfl ?_⟩; simp [binOp, Op.intDiv, h0]; done)
    | (simp only [M.go] at hg
       obtain ⟨rfl, rfl, rfl⟩ := outA_ok hg
       have h0 := hp _ List.mem_cons_self
       refine ⟨rfl, PR.int rfl ?_⟩; simp [binOp, Op.intDiv, h0]; done)
    | (simp [M.go] at hg; done)
theorem shI_ok {op : BinOp} {k k' : IntKind} {a b : Int} (t : TypeId) {v : V} {wr : Sto} {rl rl' : List L} {ps ps' : List Prop} (hg : (shI op k a b).go sto rl ps = .ok ⟨v, wr⟩ rl' ps') (hp : ∀ p ∈ ps', p) :
    wr = [] ∧ PR P μ w G (binOp op t (.int k a) (.int k' b)) v := by
  cases op <;> simp only [shI] at hg
  all_goals first
    | (simp [M.go] at hg; done)
    | (simp only [M.go] at hg
       obtain ⟨rfl, rfl, rfl⟩ := mkI_ok hg
       have h0 : ¬ b < 0 := by have := hp _ List.mem_cons_self; omega
       refine ⟨rfl, PR.int rfl ?_⟩; simp [binOp, Op.shift, h0]; done)
    | (simp only [M.go] at hg
       obtain ⟨rfl, rfl, rfl⟩ := outA_ok hg
       have h0 : ¬ b < 0 := by have := hp _ List.mem_cons_self; omega
       refine ⟨rfl, PR.int rfl ?_⟩; simp [binOp, Op.shift, h0]; done)
theorem binS_ok {op : BinOp} {x y : ByteArray} (t : TypeId) {v : V} {wr : Sto} {rl rl' : List L} {ps ps' : List Prop} (hg : (binS op x y).go sto rl ps = .ok ⟨v, wr⟩ rl' ps') (hp : ∀ p ∈ ps', p) :
    wr = [] ∧ PR P μ w G (binOp op t (.string x) (.string y)) v := by
  cases op <;> simp only [binS] at hg
  all_goals first
    | (simp [M.go] at hg; done)
    | (obtain ⟨rfl, rfl, _⟩ := outA_ok hg; refine ⟨rfl, PR.bool rfl ?_⟩; simp [binOp, Op.stringOp]; done)
    | (simp only [M.go] at hg
       obtain ⟨rfl, rfl, rfl⟩ := outA_ok hg
       have h0 := hp _ List.mem_cons_self
       have h1 : ¬ (9223372036854775807 < ((x.size : Int) + (y.size : Int))) := by omega
       refine ⟨rfl, PR.str rfl ?_⟩
       simp [binOp, Op.stringOp, IntKind.max, IntKind.bits, IntKind.signed, h1])
theorem equal_bool {t : TypeId} {a b : Bool} (h : P.underlying t = some .bool) : (Op.equal t (.bool a) (.bool b)).run P w = .ok (a == b) w := by
  unfold Op.equal Op.maxDepth Op.equalIn
  rw [Sem.run_bind, run_und h]
  rfl
theorem equal_nil {t et : TypeId} (h : P.underlying t = some (.slice et)) : (Op.equal t (.slice none 0 0) (.slice none 0 0)).run P w = .ok true w := by
  unfold Op.equal Op.maxDepth Op.equalIn
  rw [Sem.run_bind, run_und h]
  rfl
theorem eqGuard_ok {op : BinOp} {t : TypeId} {x y : Operand} {a b : Value} (h : (∀ as, a ≠ .agg as) ∧ a ≠ .nilIface) : (eqGuard op t x y a b).run P w = .ok () w := by
  unfold eqGuard
  cases op <;> cases a <;> first
    | rfl
    | exact absurd rfl h.2
    | exact absurd rfl (h.1 _)
theorem eqGuard_agg {op : BinOp} {t : TypeId} {x y : Operand} {as bs : Array Value} (h : P.eqGuardType P.depth t = false) : (eqGuard op t x y (.agg as) (.agg bs)).run P w = .ok () w := by
  unfold eqGuard
  cases op <;> simp [Sem.run_bind, h]
theorem binOp_ok {op : BinOp} {t : TypeId} {ty : Ty} (ht : TyOk P t ty) {x y : Operand} {a b : V} {u u' : Value} (ha : repV μ w G a u) (hb : repV μ w G b u') {v : V} {wr : Sto} {rl rl' : List L} {ps ps' : List Prop}
    (hg : (binV op ty.sh a b).go sto rl ps = .ok ⟨v, wr⟩ rl' ps') (hp : ∀ p ∈ ps', p) : wr = [] ∧ PR P μ w G (do eqGuard op t x y u u'; binOp op t u u') v := by
  obtain ⟨d, hd, hsh, _⟩ := ht.und
  have lift : ∀ {s : Sem Value}, (eqGuard op t x y u u').run P w = .ok () w → PR P μ w G s v → PR P μ w G (do eqGuard op t x y u u'; s) v := by
    rintro s h1 ⟨z, h2, h3⟩
    exact ⟨z, by rw [Sem.run_bind, h1]; exact h2, h3⟩
  unfold binV at hg
  split at hg
  · rename_i k n k' m
    simp only [repV, repA] at ha hb
    subst ha; subst hb
    split at hg
    · obtain ⟨h1, h2⟩ := shI_ok (P := P) (μ := μ) (w := w) (G := G) (k' := k') t hg hp
      exact ⟨h1, lift (eqGuard_ok ⟨by simp, by simp⟩) h2⟩
    · rename_i hs hk
      obtain rfl := kEq_ok hk
      obtain ⟨h1, h2⟩ := binI_ok (P := P) (μ := μ) (w := w) (G := G) t hg hp hs
      exact ⟨h1, lift (eqGuard_ok ⟨by simp, by simp⟩) h2⟩
    · simp [M.go] at hg
  · simp only [repV, repA] at ha hb
    subst ha; subst hb
    obtain ⟨h1, h2⟩ := binS_ok (P := P) (μ := μ) (w := w) (G := G) t hg hp
    exact ⟨h1, lift (eqGuard_ok ⟨by simp, by simp⟩) h2⟩
  · simp only [repV, repA] at ha hb
    subst ha; subst hb
    split at hg
    · rename_i hs
      rw [hs] at hsh
      obtain ⟨rfl, rfl, _⟩ := outA_ok hg
      have hu : P.underlying t = some .bool := by rw [hd, show d = .bool from hsh]
      exact ⟨rfl, lift (eqGuard_ok ⟨by simp, by simp⟩) (PR.bool rfl (by simp [binOp, equal_bool hu]))⟩
    · rename_i hs
      rw [hs] at hsh
      obtain ⟨rfl, rfl, _⟩ := outA_ok hg
      have hu : P.underlying t = some .bool := by rw [hd, show d = .bool from hsh]
      exact ⟨rfl, lift (eqGuard_ok ⟨by simp, by simp⟩) (PR.bool rfl (by simp [binOp, equal_bool hu]))⟩
    · simp [M.go] at hg
  · rename_i as bs
    simp only [repV] at ha hb
    obtain ⟨us, rfl, ha⟩ := ha
    obtain ⟨us', rfl, hb⟩ := hb
    split at hg
    all_goals first
      | (simp [M.go] at hg; done)
      | (rename_i fs r hsh' heq
         rw [hsh'] at hsh
         obtain ⟨e1, e2⟩ := hsh.2 rfl
         obtain ⟨rfl, rfl, _⟩ := outA_ok hg
         refine ⟨rfl, lift (eqGuard_agg e1) ?_⟩
         unfold eqMv at heq
         split at heq
         · obtain rfl := Option.some.inj heq
           have hus : ∀ {s : ByteArray} {b : Bool} {n1 n2 n3 n4 : Int} {us : Array Value}, repAs μ w G [.str s, .bool b, .int .i64 n1, .int .i64 n2, .int .i64 n3, .int .i64 n4] us.toList → us = #[.string s, .bool b, .int .i64 n1, .int .i64 n2, .int .i64 n3, .int .i64 n4] := by
             intro s b n1 n2 n3 n4 us h
             simp only [repAs, repA] at h
             obtain ⟨_, _, e, rfl, _, _, rfl, rfl, _, _, rfl, rfl, _, _, rfl, rfl, _, _, rfl, rfl, _, _, rfl, rfl, rfl⟩ := h
             exact Array.ext' (by simpa using e)
           rw [hus ha, hus hb]
           exact PR.bool rfl (by simp [binOp, e2])
         · cases heq)
  · simp only [repV, repA] at ha hb
    subst ha; subst hb
    split at hg
    all_goals first
      | (simp [M.go] at hg; done)
      | (rename_i e et hs
         rw [hs] at hsh
         obtain ⟨rfl, rfl, _⟩ := outA_ok hg
         have hu : P.underlying t = some (.slice et) := by rw [hd, hsh.1]
         exact ⟨rfl, lift (eqGuard_ok ⟨by simp, by simp⟩) (PR.bool rfl (by simp [binOp, equal_nil hu]))⟩)
  · simp [M.go] at hg
theorem unV_ok {op : UnOp} {a : V} {u : Value} (ha : repV μ w G a u) {v : V} {wr : Sto} {rl rl' : List L} {ps ps' : List Prop} (hg : (unV op a).go sto rl ps = .ok ⟨v, wr⟩ rl' ps') : wr = [] ∧ PR P μ w G (Op.unary op u) v := by
  unfold unV at hg
  split at hg
  · simp only [repV, repA] at ha
    subst ha
    split at hg
    · obtain ⟨rfl, rfl, _⟩ := outA_ok hg
      refine ⟨rfl, PR.bool rfl ?_⟩; simp [Op.unary]; done
    · simp [M.go] at hg
  · simp only [repV, repA] at ha
    subst ha
    split at hg
    · obtain ⟨rfl, rfl, _⟩ := mkI_ok hg
      refine ⟨rfl, PR.int rfl ?_⟩; simp [Op.unary, Op.intArith]; done
    · simp [M.go] at hg
  · simp [M.go] at hg
end Go.AM

/- Conversions, pieces, places, lengths: what the machine does is what the program does; condition: the table of types fits the program. -/
namespace Go.AM
set_option linter.unusedVariables false
set_option linter.unusedSimpArgs false
open Go.RowKit
variable {P : Program} {μ : Mu} {w : World} {G : Nat → Prop} {sto : Sto}

theorem ofBytes_fold (ns : List Int) : ns.foldl (fun r n => r.push (UInt8.ofNat n.toNat)) ByteArray.empty = ofBytes ns := by
  have key : ∀ (ns : List Int) (r : ByteArray), ns.foldl (fun r n => r.push (UInt8.ofNat n.toNat)) r = ⟨r.data ++ (ns.map fun n => UInt8.ofNat n.toNat).toArray⟩ := by
    intro ns
    induction ns with
    | nil => intro r; simp
    | cons n ns ih =>
      intro r
      rw [List.foldl_cons, ih]
      cases r
      simp [ByteArray.push]
  rw [key]
  exact congrArg ByteArray.mk (by rw [show ByteArray.empty.data = #[] from rfl]; simp)
theorem int_cells {k : IntKind} : ∀ {xs : List Int} {us : List Value}, All2 (repA μ w G) (xs.map (A.int k)) us → us = xs.map (Value.int k)
  | [], us, h => by cases h; rfl
  | x :: xs, us, h => by
    cases h with
    | cons h1 h2 =>
      simp only [repA] at h1
      rw [h1, int_cells h2]
      rfl
theorem flatMap_int (k : IntKind) : ∀ (xs : List Int), xs.flatMap (El.int k).enc = xs.map (A.int k)
  | [] => rfl
  | x :: xs => by rw [List.flatMap_cons, flatMap_int k xs]; rfl
/-- The cells of a row of one-cell elements. -/
theorem row_cells {e : El} (he : e.sz = 1) {b o : Nat} {r : A → Value → Prop} : ∀ {xs : List e.T} {o : Nat}, (∀ (i : Nat) x, xs[i]? = some x → ∃ us, All2 r (e.enc x) us ∧ w.rangeAt b (o + i * e.sz) us) → ∃ us, All2 r (xs.flatMap e.enc) us ∧ w.rangeAt b o us
  | [], o, _ => ⟨[], .nil, fun j v h => by simp at h⟩
  | x :: xs, o, h => by
    obtain ⟨us, h1, h2⟩ := h 0 x rfl
    obtain ⟨us', h3, h4⟩ := row_cells he (xs := xs) (o := o + 1) (r := r) (b := b) (fun i x hx => by
      obtain ⟨us, k1, k2⟩ := h (i + 1) x (by simpa using hx)
      refine ⟨us, k1, ?_⟩
      have e' : o + 1 + i * e.sz = o + (i + 1) * e.sz := by rw [he]; omega
      rw [e']
      exact k2)
    refine ⟨us ++ us', h1.append h3, ?_⟩
    have hl : us.length = 1 := by rw [h1.length, enc_length, he]
    intro j v hj
    rw [List.getElem?_append] at hj
    split at hj
    · have := h2 j v hj; simpa using this
    · have := h4 (j - us.length) v hj
      rw [hl] at this
      rwa [show o + 1 + (j - 1) = o + j by omega] at this
theorem convV_ok {src dst : TypeId} {ts td : Ty} (hs : TyOk P src ts) (hd : TyOk P dst td) (h : HR μ G sto w) {a : V} {u : Value} (ha : repV μ w G a u) {v : V} {wr : Sto} {rl rl' : List L} {ps ps' : List Prop}
    (hg : (convV ts.sh td.sh a).go sto rl ps = .ok ⟨v, wr⟩ rl' ps') : wr = [] ∧ PR P μ w G (convert src dst u) v := by
  obtain ⟨d1, hd1, hsh1, _⟩ := hs.und
  obtain ⟨d2, hd2, hsh2, _⟩ := hd.und
  unfold convV at hg
  split at hg
  · simp only [repV, repA] at ha
    subst ha
    split at hg
    · rename_i k hk
      rw [hk] at hsh2
      obtain ⟨rfl, rfl, _⟩ := mkI_ok hg
      refine ⟨rfl, PR.int rfl ?_⟩
      have hd2' : P.underlying dst = some (.int k) := by rw [hd2, show d2 = .int k from hsh2]
      simp [convert, run_underlying hd1, run_underlying hd2', Conv.intToInt]
    · simp [M.go] at hg
  · simp only [repV, repA] at ha
    subst ha
    split at hg
    · rename_i hk
      rw [hk] at hsh2
      obtain ⟨rfl, rfl, _⟩ := outA_ok hg
      refine ⟨rfl, PR.str rfl ?_⟩
      have hd2' : P.underlying dst = some .string := by rw [hd2, show d2 = .string from hsh2]
      simp [convert, run_underlying hd1, run_underlying hd2']
    · simp [M.go] at hg
  · rename_i l
    split at hg
    · rename_i et hk1 hk2
      rw [hk1] at hsh1
      rw [hk2] at hsh2
      have hd1' : P.underlying src = some (.slice et) := by rw [hd1, hsh1.1]
      have hd2' : P.underlying dst = some .string := by rw [hd2, show d2 = .string from hsh2]
      have he : P.underlying et = some (.int .u8) := hsh1.2.2
      simp only [M.go] at hg
      split at hg
      · rename_i c hc
        split at hg
        · rename_i xs
          obtain ⟨rfl, rfl, _⟩ := outA_ok hg
          simp only [repV, repA] at ha
          obtain ⟨B, hB, rfl⟩ := ha
          obtain ⟨⟨h1, h2, h3, h4, h5⟩, _⟩ := h.get hc hB
          refine ⟨rfl, PR.str rfl ?_⟩
          rw [run_convert_bytes_string w src dst et _ _ _ hd1' he hd2']
          cases hv : B.virt with
          | true =>
            obtain ⟨rfl, _⟩ := h4 hv
            rw [h1]
            cases hBa : B.a with
            | none => rfl
            | some ad =>
              rw [run_bytesToString w ad _ _ [] (by simp [loadCells, loadCellsFrom])]
              rfl
          | false =>
            obtain ⟨h6, arr, te, h7, h8, h9⟩ := h5 hv
            have h9' : ∀ (i : Nat) x, xs[i]? = some x → ∃ us, All2 (repA μ w G) ((El.int .u8).enc x) us ∧ w.rangeAt B.b (0 + i * (El.int .u8).sz) us := by
              intro i x hx
              obtain ⟨us, k1, k2⟩ := h9 i x hx
              exact ⟨us, (repAs_iff _ _).mp k1, by simpa using k2⟩
            obtain ⟨us, k1, k2⟩ := row_cells (e := .int .u8) rfl (b := B.b) (o := 0) h9'
            have hus : us = xs.map (Value.int .u8) := by
              refine int_cells (μ := μ) (w := w) (G := G) ?_
              rw [← flatMap_int]
              exact k1
            rw [h6, run_bytesToString w ⟨B.b, 0, none⟩ _ _ xs, ofBytes_fold]
            rw [← hus, h1, show xs.length = us.length by rw [hus, List.length_map]]
            exact run_loadCells_list w ⟨B.b, 0, none⟩ us (fun j v hj => by rw [Addr.add_mid]; exact k2 j v hj)
        · simp [M.go] at hg
      · cases hg
    · simp [M.go] at hg
  · simp [M.go] at hg
/-! ### Pieces -/
def intO : Option Int → Option Value
  | some n => some (.int .i64 n)
  | none => none
theorem optN_ok {env : Env} {a : Act} (he : ER μ G env w a) {x : Option Operand} {o : Option Int} (h : optN env x = some o) : x.map a.eval = intO o := by
  cases x with
  | none => simp only [optN, Option.some.injEq] at h; subst h; rfl
  | some x =>
    simp only [optN] at h
    split at h
    · rename_i n hn
      obtain rfl := Option.some.inj h
      have := opnd_ok he hn
      simp only [repV, repA] at this
      simp [intO, this]
    · cases h
theorem szOk_ok {sh : Sh} {e : El} (h : szOk sh e = true) : ∃ e' et, sh = .sl e' et ∧ e'.sz = e.sz := by
  unfold szOk at h
  split at h
  · exact ⟨_, _, rfl, Nat.eq_of_beq_eq_true h⟩
  · cases h
theorem run_slice {t et : TypeId} {i : TypeInfo} (ht : P.underlying t = some (.slice et)) (hi : P.info? et = some i) (ad : Option Addr) (len cap : Nat) (lo hi' mx : Option Int) (l h m : Nat)
    (hm : (mx = none ∧ m = cap) ∨ (mx = some (m : Int) ∧ m ≤ cap ∧ hi' ≠ none)) (hh : (hi' = none ∧ h = len ∧ mx = none) ∨ (hi' = some (h : Int) ∧ h ≤ m)) (hl : (lo = none ∧ l = 0) ∨ (lo = some (l : Int) ∧ l ≤ h)) :
    (Instr.sliceAt t (.slice ad len cap) (intO lo) (intO hi') (intO mx)).run P w = .ok (.slice (if m = l then ad else ad.map (·.add (l * i.size))) (h - l) (m - l)) w := by
  rcases hm with ⟨rfl, rfl⟩ | ⟨rfl, hm1, hm2⟩ <;> rcases hh with ⟨rfl, rfl, e⟩ | ⟨rfl, hh⟩ <;> rcases hl with ⟨rfl, rfl⟩ | ⟨rfl, hl⟩
  all_goals first
    | (cases e; done)
    | (simp only [Instr.sliceAt, Instr.slice, Instr.sliceBounds, Instr.sliceBound, asIntOf, intO, Sem.run_bind, run_underlying ht, run_size hi, Result.andThen_ok, Sem.run_pure, Sem.run_ite, Int.natCast_nonneg, true_and, Int.ofNat_le, Int.toNat_natCast, *, if_true, Option.isSome_none, Option.isSome_some, Nat.le_refl, Nat.zero_le]; try rfl)
end Go.AM

/- Pieces, places, lengths: what the machine does is what the program does; condition: the table of types fits the program. -/
namespace Go.AM
set_option linter.unusedVariables false
set_option linter.unusedSimpArgs false
open Go.RowKit
variable {P : Program} {μ : Mu} {w : World} {G : Nat → Prop} {sto : Sto}

theorem lst_slice {r : A → Value → Prop} {e : El} {xs : List e.T} {full full' : Bool} {ad : Option Addr} {len cap m l h : Nat} (hr : lstRep r w G e xs full (.slice ad len cap)) (hl : l ≤ h) (hh : h ≤ xs.length) (hm : h ≤ m) (hmc : m ≤ cap)
    (hf : full' = true → m = h) : lstRep r w G e ((xs.take h).drop l) full' (.slice (if m = l then ad else ad.map (·.add (l * e.sz))) (h - l) (m - l)) := by
  obtain ⟨a, c, h1, h2, h3, h4⟩ := hr
  simp only [Value.slice.injEq] at h1
  obtain ⟨rfl, rfl, rfl⟩ := h1
  have hlen : ((xs.take h).drop l).length = h - l := by simp; omega
  refine ⟨_, _, by rw [hlen], by omega, fun hf' => by rw [hf hf', hlen], fun hne => ?_⟩
  have hpos : 0 < h - l := by
    rw [← hlen]
    exact List.length_pos_iff.mpr hne
  have hne' : xs ≠ [] := by rintro rfl; simp at hh; omega
  obtain ⟨b, o, rfl, hg, h5⟩ := h4 hne'
  rw [if_neg (by omega)]
  refine ⟨b, o + l * e.sz, by simp [Addr.add_mid], hg, fun i x hx => ?_⟩
  rw [List.getElem?_drop, List.getElem?_take] at hx
  split at hx
  · obtain ⟨us, k1, k2⟩ := h5 (l + i) x hx
    refine ⟨us, k1, ?_⟩
    rw [Nat.add_assoc, ← Nat.add_mul]
    exact k2
  · cases hx
theorem sliceS_ok {t : TypeId} (ht : P.underlying t = some .string) {lo hi mx : Option Int} {s : ByteArray} {v : V} {wr : Sto} {rl rl' : List L} {ps ps' : List Prop}
    (hg : (sliceS lo hi mx s).go sto rl ps = .ok ⟨v, wr⟩ rl' ps') (hp : ∀ p ∈ ps', p) : wr = [] ∧ PR P μ w G (Instr.sliceAt t (.string s) (intO lo) (intO hi) (intO mx)) v := by
  unfold sliceS at hg
  split at hg
  · obtain ⟨rfl, rfl, _⟩ := outA_ok hg
    refine ⟨rfl, PR.str rfl ?_⟩
    simp only [Instr.sliceAt, Instr.slice, Instr.sliceBounds, intO, Sem.run_bind, run_underlying ht, Result.andThen_ok, Sem.run_pure, Sem.run_ite, Option.isSome_none, Bool.false_eq_true, if_false]
    have : s.extract 0 s.size = s := by
      apply ByteArray.ext
      rw [ByteArray.data_extract]
      exact Array.extract_size
    rw [this]
  · simp only [M.go] at hg
    obtain ⟨rfl, rfl, rfl⟩ := outA_ok hg
    obtain ⟨h1, h2⟩ := hp _ List.mem_cons_self
    refine ⟨rfl, PR.str rfl ?_⟩
    simp only [Instr.sliceAt, Instr.slice, Instr.sliceBounds, Instr.sliceBound, asIntOf, intO, Sem.run_bind, run_underlying ht, Result.andThen_ok, Sem.run_pure, Sem.run_ite, Option.isSome_none, Bool.false_eq_true, if_false, h1, h2, true_and, if_true]
  · simp only [M.go] at hg
    obtain ⟨rfl, rfl, rfl⟩ := outA_ok hg
    obtain ⟨h1, h2⟩ := hp _ List.mem_cons_self
    refine ⟨rfl, PR.str rfl ?_⟩
    simp only [Instr.sliceAt, Instr.slice, Instr.sliceBounds, Instr.sliceBound, asIntOf, intO, Sem.run_bind, run_underlying ht, Result.andThen_ok, Sem.run_pure, Sem.run_ite, Option.isSome_none, Bool.false_eq_true, if_false, h1, h2, true_and, if_true]
  · rename_i l h
    simp only [M.go] at hg
    obtain ⟨rfl, rfl, rfl⟩ := outA_ok hg
    obtain ⟨h1, h2, h3⟩ := hp _ List.mem_cons_self
    refine ⟨rfl, PR.str rfl ?_⟩
    have h4 : (0 : Int) ≤ h := by omega
    have h5 : l ≤ (h.toNat : Int) := by omega
    simp only [Instr.sliceAt, Instr.slice, Instr.sliceBounds, Instr.sliceBound, asIntOf, intO, Sem.run_bind, run_underlying ht, Result.andThen_ok, Sem.run_pure, Sem.run_ite, Option.isSome_none, Bool.false_eq_true, if_false, h1, h3, h4, h5, true_and, if_true]
  · simp [M.go] at hg
theorem toNat_cast {n : Int} (h : 0 ≤ n) : ((n.toNat : Nat) : Int) = n := Int.toNat_of_nonneg h
theorem sliceL_ok {t et : TypeId} {i : TypeInfo} (ht : P.underlying t = some (.slice et)) (hi : P.info? et = some i) {lo hi' mx : Option Int} {e : El} {xs : List e.T} {full : Bool} (hsz : i.size = e.sz) {u : Value}
    (hr : repA μ w G (.lst e xs full) u) {v : V} {wr : Sto} {rl rl' : List L} {ps ps' : List Prop}
    (hg : (sliceL lo hi' mx e xs full).go sto rl ps = .ok ⟨v, wr⟩ rl' ps') (hp : ∀ p ∈ ps', p) : wr = [] ∧ PR P μ w G (Instr.sliceAt t u (intO lo) (intO hi') (intO mx)) v := by
  simp only [repA] at hr
  have hr0 := hr
  obtain ⟨ad, cap, rfl, h2, h3, _⟩ := hr
  have fin : ∀ (l h m : Nat) (full' : Bool) (ys : List e.T), l ≤ h → h ≤ xs.length → h ≤ m → m ≤ cap → (full' = true → m = h) → ys = (xs.take h).drop l →
      (Instr.sliceAt t (.slice ad xs.length cap) (intO lo) (intO hi') (intO mx)).run P w = .ok (.slice (if m = l then ad else ad.map (·.add (l * i.size))) (h - l) (m - l)) w →
      PR P μ w G (Instr.sliceAt t (.slice ad xs.length cap) (intO lo) (intO hi') (intO mx)) (.one (.lst e ys full')) := by
    intro l h m full' ys a1 a2 a3 a4 a5 a6 a7
    refine ⟨_, a7, ?_⟩
    simp only [repV, repA]
    subst a6
    rw [hsz]
    exact lst_slice hr0 a1 a2 a3 a4 a5
  unfold sliceL at hg
  split at hg
  · obtain ⟨rfl, rfl, _⟩ := outA_ok hg
    refine ⟨rfl, fin 0 xs.length cap full xs (Nat.zero_le _) (Nat.le_refl _) h2 (Nat.le_refl _) h3 (by simp) (run_slice ht hi ad _ cap none none none 0 xs.length cap (.inl ⟨rfl, rfl⟩) (.inl ⟨rfl, rfl, rfl⟩) (.inl ⟨rfl, rfl⟩))⟩
  · rename_i l
    simp only [M.go] at hg
    obtain ⟨rfl, rfl, rfl⟩ := outA_ok hg
    obtain ⟨k1, k2⟩ := hp _ List.mem_cons_self
    refine ⟨rfl, fin l.toNat xs.length cap full _ (by omega) (Nat.le_refl _) h2 (Nat.le_refl _) h3 (by simp) (run_slice ht hi ad _ cap _ none none l.toNat xs.length cap (.inl ⟨rfl, rfl⟩) (.inl ⟨rfl, rfl, rfl⟩) (.inr ⟨by rw [toNat_cast k1], by omega⟩))⟩
  · rename_i h
    simp only [M.go] at hg
    obtain ⟨rfl, rfl, rfl⟩ := outA_ok hg
    obtain ⟨k1, k2⟩ := hp _ List.mem_cons_self
    refine ⟨rfl, fin 0 h.toNat cap false _ (by omega) (by omega) (by omega) (Nat.le_refl _) (by simp) (by simp) (run_slice ht hi ad _ cap none _ none 0 h.toNat cap (.inl ⟨rfl, rfl⟩) (.inr ⟨by rw [toNat_cast k1], by omega⟩) (.inl ⟨rfl, rfl⟩))⟩
  · rename_i l h
    simp only [M.go] at hg
    obtain ⟨rfl, rfl, rfl⟩ := outA_ok hg
    obtain ⟨k1, k2, k3⟩ := hp _ List.mem_cons_self
    refine ⟨rfl, fin l.toNat h.toNat cap false _ (by omega) (by omega) (by omega) (Nat.le_refl _) (by simp) rfl (run_slice ht hi ad _ cap _ _ none l.toNat h.toNat cap (.inl ⟨rfl, rfl⟩) (.inr ⟨by rw [toNat_cast (by omega)], by omega⟩) (.inr ⟨by rw [toNat_cast k1], by omega⟩))⟩
  · rename_i h m
    simp only [M.go] at hg
    obtain ⟨rfl, rfl, rfl⟩ := outA_ok hg
    obtain ⟨k1, k2, k3⟩ := hp _ List.mem_cons_self
    subst k2
    refine ⟨rfl, fin 0 h.toNat h.toNat true _ (by omega) (by omega) (Nat.le_refl _) (by omega) (fun _ => rfl) (by simp) (run_slice ht hi ad _ cap none _ _ 0 h.toNat h.toNat (.inr ⟨by rw [toNat_cast k1], by omega, by simp⟩) (.inr ⟨by rw [toNat_cast k1], by omega⟩) (.inl ⟨rfl, rfl⟩))⟩
  · rename_i l h m
    simp only [M.go] at hg
    obtain ⟨rfl, rfl, rfl⟩ := outA_ok hg
    obtain ⟨k1, k2, k3, k4⟩ := hp _ List.mem_cons_self
    subst k3
    refine ⟨rfl, fin l.toNat h.toNat h.toNat true _ (by omega) (by omega) (Nat.le_refl _) (by omega) (fun _ => rfl) rfl (run_slice ht hi ad _ cap _ _ _ l.toNat h.toNat h.toNat (.inr ⟨by rw [toNat_cast (by omega)], by omega, by simp⟩) (.inr ⟨by rw [toNat_cast (by omega)], by omega⟩) (.inr ⟨by rw [toNat_cast k1], by omega⟩))⟩
  · simp [M.go] at hg
theorem sliceO_ok {t et : TypeId} {i : TypeInfo} (ht : P.underlying t = some (.slice et)) (hi : P.info? et = some i) {lo hi' mx : Option Int} {k : L} {off len n : Nat} {B : Blk} (hB : μ k = some B) (hsz : i.size = B.sz) (hn : n ≤ B.cap) {o : Option Addr}
    (hol : off + len ≤ B.cap) (ho : off < B.cap → o = some ⟨B.b, off * B.sz, none⟩) {v : V} {wr : Sto} {rl rl' : List L} {ps ps' : List Prop}
    (hg : (sliceO lo hi' mx k off len n).go sto rl ps = .ok ⟨v, wr⟩ rl' ps') (hp : ∀ p ∈ ps', p) : wr = [] ∧ PR P μ w G (Instr.sliceAt t (.slice o len (B.cap - off)) (intO lo) (intO hi') (intO mx)) v := by
  have fin : ∀ (l h : Nat), l ≤ h → off + h ≤ B.cap →
      (Instr.sliceAt t (.slice o len (B.cap - off)) (intO lo) (intO hi') (intO mx)).run P w = .ok (.slice (if B.cap - off = l then o else o.map (·.add (l * i.size))) (h - l) (B.cap - off - l)) w →
      PR P μ w G (Instr.sliceAt t (.slice o len (B.cap - off)) (intO lo) (intO hi') (intO mx)) (.one (.sub k (off + l) (h - l))) := by
    intro l h a1 a2 a3
    refine ⟨_, a3, ?_⟩
    simp only [repV, repA]
    refine ⟨B, _, hB, by rw [Nat.sub_sub], by omega, fun hlt => ?_⟩
    rw [if_neg (by omega), ho (by omega), hsz]
    simp [Addr.add_mid, Nat.add_mul]
  unfold sliceO at hg
  split at hg
  · obtain ⟨rfl, rfl, _⟩ := outA_ok hg
    have := fin 0 len (Nat.zero_le _) hol (run_slice ht hi o _ _ none none none 0 len _ (.inl ⟨rfl, rfl⟩) (.inl ⟨rfl, rfl, rfl⟩) (.inl ⟨rfl, rfl⟩))
    exact ⟨rfl, this⟩
  · rename_i l
    simp only [M.go] at hg
    obtain ⟨rfl, rfl, rfl⟩ := outA_ok hg
    obtain ⟨k1, k2, k3⟩ := hp _ List.mem_cons_self
    exact ⟨rfl, fin l.toNat len (by omega) hol (run_slice ht hi o _ _ _ none none l.toNat len _ (.inl ⟨rfl, rfl⟩) (.inl ⟨rfl, rfl, rfl⟩) (.inr ⟨by rw [toNat_cast k1], by omega⟩))⟩
  · rename_i h
    simp only [M.go] at hg
    obtain ⟨rfl, rfl, rfl⟩ := outA_ok hg
    obtain ⟨k1, k2⟩ := hp _ List.mem_cons_self
    have := fin 0 h.toNat (by omega) (by omega) (run_slice ht hi o _ _ none _ none 0 h.toNat _ (.inl ⟨rfl, rfl⟩) (.inr ⟨by rw [toNat_cast k1], by omega⟩) (.inl ⟨rfl, rfl⟩))
    exact ⟨rfl, this⟩
  · rename_i l h
    simp only [M.go] at hg
    obtain ⟨rfl, rfl, rfl⟩ := outA_ok hg
    obtain ⟨k1, k2, k3⟩ := hp _ List.mem_cons_self
    exact ⟨rfl, fin l.toNat h.toNat (by omega) (by omega) (run_slice ht hi o _ _ _ _ none l.toNat h.toNat _ (.inl ⟨rfl, rfl⟩) (.inr ⟨by rw [toNat_cast (by omega)], by omega⟩) (.inr ⟨by rw [toNat_cast k1], by omega⟩))⟩
  · rename_i l h m
    simp only [M.go] at hg
    obtain ⟨rfl, rfl, rfl⟩ := outA_ok hg
    obtain ⟨k1, k2, k3, k4⟩ := hp _ List.mem_cons_self
    exact ⟨rfl, _, run_slice ht hi o _ _ _ _ _ l.toNat h.toNat m.toNat (.inr ⟨by rw [toNat_cast (by omega)], by omega, by simp⟩) (.inr ⟨by rw [toNat_cast (by omega)], by omega⟩) (.inr ⟨by rw [toNat_cast k1], by omega⟩), by simp only [repV, repA]; exact .inl ⟨_, _, _, rfl⟩⟩
  · simp [M.go] at hg
theorem sl_und {t : TypeId} {ty : Ty} (ht : TyOk P t ty) {e : El} {et : TypeId} (h : ty.sh = .sl e et) : P.underlying t = some (.slice et) ∧ ∃ i, P.info? et = some i ∧ i.size = e.sz ∧ ∃ z, i.zero = some z ∧ zeroOk (e.enc e.d) z := by
  obtain ⟨d, hd, hsh, _⟩ := ht.und
  rw [h] at hsh
  exact ⟨by rw [hd, hsh.1], hsh.2.1⟩
/-- The address of a slice of the function's own. -/
theorem own_addr {B : Blk} {e : El} {xs : List e.T} (h : crep μ w G B (.row e xs)) : 0 < B.cap → B.a = some ⟨B.b, 0 * B.sz, none⟩ := by
  obtain ⟨_, _, _, h4, h5⟩ := h
  intro hc
  cases hv : B.virt with
  | true => have := (h4 hv).2; omega
  | false => rw [Nat.zero_mul]; exact (h5 hv).1
theorem sliceV_ok {t : TypeId} {ty : Ty} (ht : TyOk P t ty) (h : HR μ G sto w) {lo hi mx : Option Int} {a : V} {u : Value} (ha : repV μ w G a u) {v : V} {wr : Sto} {rl rl' : List L} {ps ps' : List Prop}
    (hg : (sliceV ty.sh lo hi mx a).go sto rl ps = .ok ⟨v, wr⟩ rl' ps') (hp : ∀ p ∈ ps', p) : wr = [] ∧ PR P μ w G (Instr.sliceAt t u (intO lo) (intO hi) (intO mx)) v := by
  unfold sliceV at hg
  split at hg
  · split at hg
    · rename_i hs
      obtain ⟨d, hd, hsh, _⟩ := ht.und
      rw [hs] at hsh
      simp only [repV, repA] at ha
      subst ha
      exact sliceS_ok (by rw [hd, show d = .string from hsh]) hg hp
    · simp [M.go] at hg
  · split at hg
    · rename_i hs
      obtain ⟨e', et, h1, h2⟩ := szOk_ok hs
      obtain ⟨h3, i, h4, h5, _⟩ := sl_und ht h1
      exact sliceL_ok h3 h4 (by rw [h5, h2]) (by simpa only [repV] using ha) hg hp
    · simp [M.go] at hg
  · rename_i k
    simp only [M.go] at hg
    split at hg
    · rename_i c hc
      cases c with
      | cells as => simp [M.go] at hg
      | row e xs =>
        simp only at hg
        split at hg
        · rename_i hs
          obtain ⟨e', et, h1, h2⟩ := szOk_ok hs
          obtain ⟨h3, i, h4, h5, _⟩ := sl_und ht h1
          simp only [repV, repA] at ha
          obtain ⟨B, hB, rfl⟩ := ha
          have hcr := (h.get hc hB).1
          have hcr' := hcr
          obtain ⟨k1, k2, k3, k4, k5⟩ := hcr
          split at hg
          · obtain ⟨rfl, rfl, _⟩ := outA_ok hg
            refine ⟨rfl, _, run_slice h3 h4 B.a _ B.cap none none none 0 B.len B.cap (.inl ⟨rfl, rfl⟩) (.inl ⟨rfl, rfl, rfl⟩) (.inl ⟨rfl, rfl⟩), ?_⟩
            simp only [repV, repA]
            refine ⟨B, hB, ?_⟩
            simp only [Nat.sub_zero, Nat.zero_mul]
            congr 1
            split
            · rfl
            · cases B.a with
              | none => rfl
              | some ad => simp [Addr.add]
          · rw [← k1] at hg
            have := sliceO_ok (P := P) (μ := μ) (w := w) (G := G) (o := B.a) h3 h4 hB (by rw [h5, h2, k3]) k2 (by omega) (own_addr hcr') hg hp
            rwa [Nat.sub_zero] at this
        · simp [M.go] at hg
    · cases hg
  · rename_i k off len
    simp only [M.go] at hg
    split at hg
    · rename_i c hc
      cases c with
      | cells as => simp [M.go] at hg
      | row e xs =>
        simp only at hg
        split at hg
        · rename_i hs
          obtain ⟨e', et, h1, h2⟩ := szOk_ok hs
          obtain ⟨h3, i, h4, h5, _⟩ := sl_und ht h1
          simp only [repV, repA] at ha
          obtain ⟨B, o, hB, rfl, hol, ho⟩ := ha
          obtain ⟨k1, k2, k3, k4, k5⟩ := (h.get hc hB).1
          exact sliceO_ok h3 h4 hB (by rw [h5, h2, k3]) (by omega) hol ho hg hp
        · simp [M.go] at hg
    · cases hg
  · simp [M.go] at hg
end Go.AM

/- Fields, places, lengths, what an append takes: what the machine does is what the program does; condition: the table of types fits the program. -/
namespace Go.AM
set_option linter.unusedVariables false
set_option linter.unusedSimpArgs false
open Go.RowKit
variable {P : Program} {μ : Mu} {w : World} {G : Nat → Prop} {sto : Sto}

theorem nth_eq {β : Type} : ∀ (l : List β) (n : Nat), nth l n = l[n]?
  | [], n => by simp [nth]
  | x :: l, 0 => rfl
  | x :: l, n + 1 => by simp [nth, nth_eq l n]
theorem fieldA_ok {t : TypeId} {ty : Ty} (ht : TyOk P t ty) {fs : List (Nat × Nat × Bool)} {eq : Bool} (hs : ty.sh = .st fs eq) {f off sz : Nat} {agg : Bool} (hf : nth fs f = some (off, sz, agg)) (hz : Nat.blt 0 sz = true) {a b : A} {u : Value}
    (ha : repA μ w G a u) (hb : fieldA off a = some b) : PR P μ w G (Instr.fieldAt t u f) (.one b) := by
  obtain ⟨d, hd, hsh, _⟩ := ht.und
  rw [hs] at hsh
  obtain ⟨⟨fields, rfl, hfs, hall⟩, _⟩ := hsh
  rw [nth_eq, ← hfs, List.getElem?_map] at hf
  obtain ⟨fld, h1, h2⟩ := Option.map_eq_some_iff.mp hf
  simp only [Prod.mk.injEq] at h2
  obtain ⟨rfl, rfl, rfl⟩ := h2
  have h3 : fields[f]? = some fld := by simpa using h1
  have hmem : fld ∈ fields.toList := List.mem_of_getElem? h1
  obtain ⟨i, hi⟩ := Option.isSome_iff_exists.mp (hall fld hmem).1
  have hc : P.cellsOf fld.type = i.size := by simp [Program.cellsOf, hi]
  have hpos : ¬ i.size = 0 := by
    have : 0 < P.cellsOf fld.type := by simpa [Nat.blt_eq] using hz
    omega
  have hrun : ∀ (b o : Nat), (Instr.fieldAt t (.pointer (some ⟨b, o, none⟩)) f).run P w = .ok (.pointer (some ⟨b, o + fld.offset, none⟩)) w := by
    intro b o
    simp [Instr.fieldAt, Instr.sureAddr, fieldPlace, Sem.run_bind, run_underlying hd, h3, run_size hi, hpos, Addr.add_mid]
  unfold fieldA at hb
  split at hb
  all_goals first
    | (cases hb; done)
    | (obtain rfl := Option.some.inj hb
       simp only [repA] at ha
       first
        | (obtain ⟨B, h4, rfl⟩ := ha
           refine ⟨_, hrun _ _, ?_⟩
           simp only [repV, repA]
           exact ⟨B, h4, by rw [Nat.add_assoc]⟩)
        | (obtain ⟨B, h4, rfl⟩ := ha
           refine ⟨_, hrun _ _, ?_⟩
           simp only [repV, repA]
           exact ⟨B, h4, rfl⟩)
        | (obtain ⟨b, o, rfl, h4, h5⟩ := ha
           refine ⟨_, hrun _ _, ?_⟩
           simp only [repV, repA]
           exact ⟨b, o, by rw [Nat.add_assoc], h4, h5⟩))
theorem field_ok {t : TypeId} {ty : Ty} (ht : TyOk P t ty) {fs : List (Nat × Nat × Bool)} {eq : Bool} (hs : ty.sh = .st fs eq) {f off sz : Nat} {agg : Bool} (hf : nth fs f = some (off, sz, agg)) {as bs : List A} {u : Value}
    (ha : repV μ w G (.agg as) u) (hb : pieceO off sz as = some bs) {v : V} (hv : vOf agg bs = some v) : PR P μ w G (Instr.field t u f) v := by
  obtain ⟨d, hd, hsh, _⟩ := ht.und
  rw [hs] at hsh
  obtain ⟨⟨fields, rfl, hfs, hall⟩, _⟩ := hsh
  rw [nth_eq, ← hfs, List.getElem?_map] at hf
  obtain ⟨fld, h1, h2⟩ := Option.map_eq_some_iff.mp hf
  simp only [Prod.mk.injEq] at h2
  obtain ⟨rfl, rfl, rfl⟩ := h2
  have h3 : fields[f]? = some fld := by simpa using h1
  have hmem : fld ∈ fields.toList := List.mem_of_getElem? h1
  obtain ⟨i, hi⟩ := Option.isSome_iff_exists.mp (hall fld hmem).1
  obtain ⟨d', hd'⟩ := Option.isSome_iff_exists.mp (hall fld hmem).2
  have hc : P.cellsOf fld.type = i.size := by simp [Program.cellsOf, hi]
  have hag : aggT P fld.type = aggD d' := by simp [aggT, hd']
  simp only [repV] at ha
  obtain ⟨us, rfl, ha⟩ := ha
  obtain ⟨h4, h5⟩ := piece_core hb ha
  have h6 := vOf_ok hv h4
  rw [hc] at h4 h5 h6
  rw [hag] at h6
  have hag' : (isAgg fld.type).run P w = .ok (aggD d') w := run_agg hd' w
  cases hd2 : aggD d' with
  | true =>
    rw [hd2] at h6 hag'
    refine ⟨_, ?_, h6⟩
    simp only [Instr.field, Sem.run_bind, run_underlying hd, Result.andThen_ok, h3, asAgg, Sem.run_pure, part, hag', if_true, run_size hi]
    congr 2
    apply Array.ext'
    simp [List.extract]
  | false =>
    rw [hd2] at h6 hag'
    rw [hag, hd2] at hv
    have : ∃ a, bs = [a] := by
      unfold vOf at hv
      split at hv
      · rename_i h; cases h
      · exact ⟨_, rfl⟩
      · cases hv
    obtain ⟨a, rfl⟩ := this
    have hl := repAs_length _ _ h4
    have hne : ∃ z, us[fld.offset]? = some z ∧ ((us.toList.drop fld.offset).take i.size).headD undef = z := by
      have h7 : i.size = 1 := by rw [h5] at hl; simpa using hl
      rw [h7] at hl ⊢
      have h8 : fld.offset < us.size := by simp at hl; omega
      refine ⟨us[fld.offset], Array.getElem?_eq_getElem h8, ?_⟩
      rw [List.take_one, List.head?_drop]
      simp [h8]
    obtain ⟨z, h9, h10⟩ := hne
    simp only [Bool.false_eq_true, if_false, h10] at h6
    refine ⟨_, ?_, h6⟩
    simp only [Instr.field, Sem.run_bind, run_underlying hd, Result.andThen_ok, h3, asAgg, Sem.run_pure, part, hag', Bool.false_eq_true, if_false, h9]
theorem lpAt_enc (e : El) (xs : List e.T) (i : Int) (h : i.toNat < xs.length) : e.lpAt xs i = .lp e (xs[i.toNat]'h) 0 := by
  cases e <;> simp only [El.lpAt, rd, rdB, rdS, rdM, rdL, List.getD_eq_getElem?_getD, List.getElem?_eq_getElem h, Option.getD_some]
theorem run_index {t et : TypeId} {ti : TypeInfo} (ht : P.underlying t = some (.slice et)) (hi : P.info? et = some ti) {b o len cap : Nat} {i : Int} (h0 : 0 ≤ i) (h1 : i < (len : Int)) :
    (Instr.indexAt t (.slice (some ⟨b, o, none⟩) len cap) (.int .i64 i)).run P w = .ok (.pointer (some ⟨b, o + i.toNat * ti.size, none⟩)) w := by
  simp [Instr.indexAt, asIntOf, Sem.run_bind, run_underlying ht, h0, h1, run_size hi, Addr.add_mid]
theorem indexA_ok {t : TypeId} {ty : Ty} (ht : TyOk P t ty) (h : HR μ G sto w) {a : A} {u : Value} (ha : repA μ w G a u) {i : Int} {v : V} {wr : Sto} {rl rl' : List L} {ps ps' : List Prop}
    (hg : (indexA ty.sh i a).go sto rl ps = .ok ⟨v, wr⟩ rl' ps') (hp : ∀ p ∈ ps', p) : wr = [] ∧ PR P μ w G (Instr.indexAt t u (.int .i64 i)) v := by
  unfold indexA at hg
  split at hg
  · rename_i e xs full
    split at hg
    · rename_i hs
      obtain ⟨e', et, h1, h2⟩ := szOk_ok hs
      obtain ⟨h3, ti, h4, h5, _⟩ := sl_und ht h1
      simp only [M.go] at hg
      obtain ⟨rfl, rfl, rfl⟩ := outA_ok hg
      obtain ⟨k1, k2⟩ := hp _ List.mem_cons_self
      simp only [repA] at ha
      obtain ⟨ad, cap, rfl, _, _, h6⟩ := ha
      have hlt : i.toNat < xs.length := by omega
      obtain ⟨b, o, rfl, hG, h7⟩ := h6 (by rintro rfl; simp at hlt)
      obtain ⟨us, h8, h9⟩ := h7 _ _ (List.getElem?_eq_getElem hlt)
      refine ⟨rfl, _, run_index h3 h4 k1 k2, ?_⟩
      rw [lpAt_enc e xs i hlt]
      simp only [repV, repA]
      exact ⟨b, o + i.toNat * e.sz, by rw [h5, h2]; rfl, hG, us, h8, h9⟩
    · simp [M.go] at hg
  · rename_i l
    simp only [M.go] at hg
    split at hg
    · rename_i c hc
      cases c with
      | cells as => simp [M.go] at hg
      | row e xs =>
        simp only at hg
        split at hg
        · rename_i hs
          obtain ⟨e', et, h1, h2⟩ := szOk_ok hs
          obtain ⟨h3, ti, h4, h5, _⟩ := sl_und ht h1
          simp only [M.go] at hg
          obtain ⟨rfl, rfl, rfl⟩ := outA_ok hg
          obtain ⟨k1, k2⟩ := hp _ List.mem_cons_self
          simp only [repA] at ha
          obtain ⟨B, hB, rfl⟩ := ha
          have hcr := (h.get hc hB).1
          have hcr' := hcr
          obtain ⟨g1, g2, g3, g4, g5⟩ := hcr
          have hpos : 0 < B.cap := by omega
          rw [own_addr hcr' hpos]
          refine ⟨rfl, _, run_index h3 h4 k1 (by omega), ?_⟩
          simp only [repV, repA]
          exact ⟨B, hB, by rw [h5, h2, g3]; simp⟩
        · simp [M.go] at hg
    · cases hg
  · rename_i l off len
    simp only [M.go] at hg
    split at hg
    · rename_i c hc
      cases c with
      | cells as => simp [M.go] at hg
      | row e xs =>
        simp only at hg
        split at hg
        · rename_i hs
          obtain ⟨e', et, h1, h2⟩ := szOk_ok hs
          obtain ⟨h3, ti, h4, h5, _⟩ := sl_und ht h1
          simp only [M.go] at hg
          obtain ⟨rfl, rfl, rfl⟩ := outA_ok hg
          obtain ⟨k1, k2, k3⟩ := hp _ List.mem_cons_self
          simp only [repA] at ha
          obtain ⟨B, o, hB, rfl, hol, ho⟩ := ha
          obtain ⟨g1, g2, g3, g4, g5⟩ := (h.get hc hB).1
          rw [ho (by omega)]
          refine ⟨rfl, _, run_index h3 h4 k1 k2, ?_⟩
          simp only [repV, repA]
          refine ⟨B, hB, ?_⟩
          have : ((off : Int) + i).toNat = off + i.toNat := by omega
          rw [this, h5, h2, g3, Nat.add_mul]
          rfl
        · simp [M.go] at hg
    · cases hg
  · rename_i l j
    split at hg
    · rename_i n es agg m hs hm
      split at hg
      · rename_i hlt
        obtain ⟨rfl, rfl, _⟩ := outA_ok hg
        obtain ⟨d, hd, hsh, _⟩ := ht.und
        rw [hs] at hsh
        obtain ⟨et, rfl, ti, h1, rfl⟩ := hsh
        simp only [repA] at ha
        obtain ⟨B, hB, rfl⟩ := ha
        have hi : i = (m : Int) := by
          cases i with
          | ofNat q => simp only [litNat, Option.some.injEq] at hm; rw [hm]; rfl
          | negSucc q => simp [litNat] at hm
        subst hi
        have hlt' : (m : Int) < (n : Int) := by
          have : m < n := by simpa [Nat.blt_eq] using hlt
          omega
        refine ⟨rfl, .pointer (some ⟨B.b, j + m * ti.size, none⟩), ?_, ?_⟩
        · simp only [Instr.indexAt, asIntOf, Sem.run_bind, Sem.run_pure, Result.andThen_ok, run_underlying hd, Instr.sureAddr, Int.natCast_nonneg, hlt', and_self, if_true, run_size h1, Addr.add_mid, Int.toNat_natCast]
        · simp only [repV, repA]
          exact ⟨B, hB, rfl⟩
      · simp [M.go] at hg
    · simp [M.go] at hg
  · simp [M.go] at hg
theorem indexV_ok {t : TypeId} {ty : Ty} (ht : TyOk P t ty) {a : V} {u : Value} (ha : repV μ w G a u) {k : IntKind} {i : Int} {v : V} {wr : Sto} {rl rl' : List L} {ps ps' : List Prop}
    (hg : (indexV ty.sh i a).go sto rl ps = .ok ⟨v, wr⟩ rl' ps') (hp : ∀ p ∈ ps', p) : wr = [] ∧ PR P μ w G (Instr.index t u (.int k i)) v := by
  unfold indexV at hg
  split at hg
  · rename_i s
    split at hg
    · rename_i hs
      obtain ⟨d, hd, hsh, _⟩ := ht.und
      rw [hs] at hsh
      have hd' : P.underlying t = some .string := by rw [hd, show d = .string from hsh]
      simp only [M.go] at hg
      obtain ⟨rfl, rfl, rfl⟩ := outA_ok hg
      obtain ⟨k1, k2⟩ := hp _ List.mem_cons_self
      simp only [repV, repA] at ha
      subst ha
      have hlt : i.toNat < s.size := by omega
      refine ⟨rfl, PR.int (show bt s i = ((s[i.toNat]'hlt).toNat : Int) by unfold bt; rw [dif_pos hlt]) ?_⟩
      have : s[i.toNat]? = some (s[i.toNat]'hlt) := getElem?_pos s i.toNat hlt
      simp [Instr.index, asIntOf, Sem.run_bind, run_underlying hd', k1, this]
    · simp [M.go] at hg
  · simp [M.go] at hg
theorem lenV_ok {t tt : TypeId} {ty : Ty} (ht : TyOk P t ty) (h : HR μ G sto w) {a : V} {u : Value} (ha : repV μ w G a u) {v : V} {wr : Sto} {rl rl' : List L} {ps ps' : List Prop}
    (hg : (lenV ty.sh a).go sto rl ps = .ok ⟨v, wr⟩ rl' ps') : wr = [] ∧ PR P μ w G (Builtin.len_ #[t] tt #[u]) v := by
  unfold lenV at hg
  have hsl : ∀ {e et} (ad : Option Addr) (n c : Nat), ty.sh = .sl e et → (Builtin.len_ #[t] tt #[.slice ad n c]).run P w = .ok (.int .i64 n) w := by
    intro e et ad n c hs
    simp [Builtin.len_, Sem.run_bind, run_underlying (sl_und ht hs).1, goInt]
  split at hg
  · rename_i s
    split at hg
    · rename_i hs
      obtain ⟨d, hd, hsh, _⟩ := ht.und
      rw [hs] at hsh
      have hd' : P.underlying t = some .string := by rw [hd, show d = .string from hsh]
      obtain ⟨rfl, rfl, _⟩ := outA_ok hg
      simp only [repV, repA] at ha
      subst ha
      exact ⟨rfl, PR.int rfl (by simp [Builtin.len_, Sem.run_bind, run_underlying hd', goInt])⟩
    · simp [M.go] at hg
  · split at hg
    · rename_i hs
      obtain ⟨rfl, rfl, _⟩ := outA_ok hg
      simp only [repV, repA] at ha
      subst ha
      exact ⟨rfl, PR.int rfl (hsl none 0 0 hs)⟩
    · simp [M.go] at hg
  · split at hg
    · rename_i hs
      obtain ⟨rfl, rfl, _⟩ := outA_ok hg
      simp only [repV, repA] at ha
      obtain ⟨ad, cap, rfl, _⟩ := ha
      exact ⟨rfl, PR.int rfl (hsl ad _ cap hs)⟩
    · simp [M.go] at hg
  · split at hg
    · rename_i hs
      simp only [M.go] at hg
      split at hg
      · rename_i c hc
        cases c with
        | cells as => simp [M.go] at hg
        | row e xs =>
          obtain ⟨rfl, rfl, _⟩ := outA_ok hg
          simp only [repV, repA] at ha
          obtain ⟨B, hB, rfl⟩ := ha
          have := ((h.get hc hB).1).1
          exact ⟨rfl, PR.int (by rw [← this]) (hsl B.a B.len B.cap hs)⟩
      · cases hg
    · simp [M.go] at hg
  · split at hg
    · rename_i hs
      obtain ⟨rfl, rfl, _⟩ := outA_ok hg
      simp only [repV, repA] at ha
      obtain ⟨B, o, _, rfl, _⟩ := ha
      exact ⟨rfl, PR.int rfl (hsl o _ _ hs)⟩
    · simp [M.go] at hg
  · simp [M.go] at hg
theorem maxV_ok {vs : List V} {us : List Value} {a : A} {tt : TypeId} {ts : Array TypeId} (h : maxV vs = some a) (hr : repVs μ w G vs us) : PR P μ w G (Builtin.max_ ts tt us.toArray) (.one a) := by
  unfold maxV at h
  split at h
  all_goals first
    | (cases h; done)
    | (obtain rfl := Option.some.inj h
       simp only [repVs, repV, repA] at hr
       first
        | (obtain ⟨_, _, rfl, rfl, rfl⟩ := hr
           exact PR.int rfl rfl)
        | (obtain ⟨_, _, rfl, rfl, _, _, rfl, rfl, rfl⟩ := hr
           refine PR.int (m := if _ > _ then _ else _) ?_ rfl
           simp only [Int.max_def, gt_iff_lt]
           split <;> split <;> omega)
        | (obtain ⟨_, _, rfl, rfl, _, _, rfl, rfl, _, _, rfl, rfl, rfl⟩ := hr
           refine PR.int (m := if _ > _ then _ else _) ?_ rfl
           simp only [Int.max_def, gt_iff_lt]
           (repeat' split) <;> omega))
theorem minV_ok {vs : List V} {us : List Value} {a : A} {tt : TypeId} {ts : Array TypeId} (h : minV vs = some a) (hr : repVs μ w G vs us) : PR P μ w G (Builtin.min_ ts tt us.toArray) (.one a) := by
  unfold minV at h
  split at h
  all_goals first
    | (cases h; done)
    | (obtain rfl := Option.some.inj h
       simp only [repVs, repV, repA] at hr
       obtain ⟨_, _, rfl, rfl, _, _, rfl, rfl, rfl⟩ := hr
       refine PR.int (m := if _ < _ then _ else _) ?_ rfl
       simp only [Int.min_def]
       split <;> split <;> omega)
end Go.AM

/- What is made and what grows: what the machine does is what the program does; condition: the table of types fits the program. -/
namespace Go.AM
set_option linter.unusedVariables false
set_option linter.unusedSimpArgs false
open Go.RowKit
variable {P : Program} {μ : Mu} {w : World} {G : Nat → Prop} {sto : Sto}

/-- The cells of elements, one behind the other. -/
theorem flat_get {r : A → Value → Prop} {e : El} : ∀ {zs : List e.T} {cs : List Value}, All2 r (zs.flatMap e.enc) cs → ∀ (i : Nat) (x : e.T), zs[i]? = some x → ∃ us, All2 r (e.enc x) us ∧ ∀ (j : Nat) v, us[j]? = some v → cs[i * e.sz + j]? = some v
  | [], cs, h, i, x, hx => by simp at hx
  | z :: zs, cs, h, i, x, hx => by
    rw [List.flatMap_cons] at h
    have hl : cs.length = ((e.enc z) ++ zs.flatMap e.enc).length := h.length
    have h1 : All2 r (e.enc z) (cs.take e.sz) := by
      have := h.take e.sz
      rwa [List.take_append_of_le_length (by rw [enc_length]; exact Nat.le_refl _), List.take_of_length_le (by rw [enc_length]; exact Nat.le_refl _)] at this
    have h2 : All2 r (zs.flatMap e.enc) (cs.drop e.sz) := by
      have := h.drop e.sz
      rwa [List.drop_append_of_le_length (by rw [enc_length]; exact Nat.le_refl _), List.drop_of_length_le (by rw [enc_length]; exact Nat.le_refl _), List.nil_append] at this
    cases i with
    | zero =>
      simp only [List.getElem?_cons_zero, Option.some.injEq] at hx
      subst hx
      refine ⟨_, h1, fun j v hv => ?_⟩
      rw [List.getElem?_take] at hv
      split at hv
      · simpa using hv
      · cases hv
    | succ i =>
      obtain ⟨us, k1, k2⟩ := flat_get h2 i x (by simpa using hx)
      refine ⟨us, k1, fun j v hv => ?_⟩
      have := k2 j v hv
      rw [List.getElem?_drop] at this
      rw [← this]
      congr 1
      rw [Nat.add_mul]
      omega
theorem flat_length {r : A → Value → Prop} {e : El} {zs : List e.T} {cs : List Value} (h : All2 r (zs.flatMap e.enc) cs) : cs.length = zs.length * e.sz := by
  rw [h.length]
  clear h
  induction zs with
  | nil => simp
  | cons z zs ih => rw [List.flatMap_cons, List.length_append, ih, enc_length, List.length_cons, Nat.add_mul]; omega
/-- The cells of a row that lies in memory. -/
theorem row_flat {r : A → Value → Prop} {e : El} {b : Nat} : ∀ {xs : List e.T} {o : Nat}, (∀ (i : Nat) x, xs[i]? = some x → ∃ us, All2 r (e.enc x) us ∧ w.rangeAt b (o + i * e.sz) us) → ∃ us, All2 r (xs.flatMap e.enc) us ∧ w.rangeAt b o us
  | [], o, _ => ⟨[], .nil, fun j v h => by simp at h⟩
  | x :: xs, o, h => by
    obtain ⟨us, h1, h2⟩ := h 0 x rfl
    obtain ⟨us', h3, h4⟩ := row_flat (xs := xs) (o := o + e.sz) (r := r) (b := b) (fun i x hx => by
      obtain ⟨us, k1, k2⟩ := h (i + 1) x (by simpa using hx)
      refine ⟨us, k1, ?_⟩
      have e' : o + e.sz + i * e.sz = o + (i + 1) * e.sz := by rw [Nat.add_mul]; omega
      rw [e']
      exact k2)
    refine ⟨us ++ us', h1.append h3, ?_⟩
    have hl : us.length = e.sz := by rw [h1.length, enc_length]
    intro j v hj
    rw [List.getElem?_append] at hj
    split at hj
    · have := h2 j v hj; simpa using this
    · have := h4 (j - us.length) v hj
      rw [hl] at this
      rwa [show o + e.sz + (j - e.sz) = o + j by omega] at this
theorem alloc_os (w : World) (o : Obj) : (w.alloc o).os = w.os ∧ (w.alloc o).tape = w.tape ∧ (w.alloc o).output = w.output := ⟨rfl, rfl, rfl⟩
theorem alloc_size (w : World) (o : Obj) : (w.alloc o).heap.size = w.heap.size + 1 := by
  show (w.heap.push o).size = _
  simp
def upd (μ : Mu) (l : L) (B : Blk) : Mu := fun k => if k = l then some B else μ k
theorem upd_same (μ : Mu) (l : L) (B : Blk) : upd μ l B l = some B := by simp [upd]
theorem upd_other (μ : Mu) (l : L) (B : Blk) {k : L} (h : k ≠ l) : upd μ l B k = μ k := by simp [upd, h]
theorem fresh_mu (h : HR μ G sto w) {l : L} (hf : lkL l sto = none) : μ l = none := by
  cases e : μ l with
  | none => rfl
  | some B => have := h.known l B e; rw [hf] at this; cases this
/-- Some places are gone, one is new, memory stands but for what may be drawn or made. -/
theorem Chg.fresh (h : HR μ G sto w) {nb : L} (hf : Fresh nb sto) {gone : List L} (hgn : nb ∉ gone) {w' : World} {B : Blk} {c : C} (hos : w'.os = w.os ∧ w'.tape = w.tape ∧ w'.output = w.output) (hsz : w.heap.size ≤ w'.heap.size)
    (D : Nat → Prop) (hD : ∀ b, b < w.heap.size → ¬ D b → w'.heap[b]? = w.heap[b]?) (hDG : ∀ b, D b → ∃ l c B, lkC l sto = some c ∧ μ l = some B ∧ B.virt = false ∧ B.b = b ∧ l ∈ gone)
    (hcr : (∀ a v, repA μ w G a v → repA (upd μ nb B) w' G a v) → (∀ as us, repAs μ w G as us → repAs (upd μ nb B) w' G as us) → crep (upd μ nb B) w' G B c)
    (hwhere : B.virt = false → (w.heap.size ≤ B.b ∧ B.b < w'.heap.size) ∨ (∃ l0 c0 B0, lkC l0 sto = some c0 ∧ μ l0 = some B0 ∧ B0.virt = false ∧ B0.b = B.b ∧ l0 ∈ gone)) :
    Chg μ G sto w (gone.map (fun l => (l, none)) ++ [(nb, some c)]) (upd μ nb B) G w' := by
  have hn := fresh_mu h hf.no
  have hlk : ∀ l, lkL l (gone.map (fun l => (l, (none : Option C))) ++ [(nb, some c)]) = if l ∈ gone then some none else if l = nb then some (some c) else none := by
    intro l
    clear hgn hDG hwhere
    induction gone with
    | nil => simp [lkL_cons, lkL]
    | cons g gone ih =>
      rw [List.map_cons, List.cons_append, lkL_cons, ih]
      by_cases e : l = g
      · simp [e]
      · simp [e]
  refine Chg.one h hos hsz D hD (fun b hb => ?_) (fun l c' B' h1 h2 h3 h4 => ?_) (fun l B' hl => ?_) (fun i => ?_) nb c B ?_ (fun l c' hl => ?_) (upd_same _ _ _) (fun l B' h1 h2 => by rwa [upd_other _ _ _ h2] at h1) hcr (fun hv => ?_)
  · obtain ⟨l, c', B', h1, h2, h3, h4, _⟩ := hDG b hb
    exact ⟨l, c', B', h1, h2, h3, h4⟩
  · obtain ⟨l', c'', B'', k1, k2, k3, k4, k5⟩ := hDG _ h4
    have : l = l' := Classical.byContradiction fun hne => h.apart l l' c' c'' B' B'' h1 k1 h2 k2 h3 k3 hne k4.symm
    subst this
    rw [hlk, if_pos k5]
    rfl
  · rw [upd_other]
    · exact hl
    · rintro rfl; rw [hn] at hl; cases hl
  · exact upd_other _ _ _ fun e => hf.nk i e.symm
  · rw [hlk, if_neg hgn, if_pos rfl]
  · rw [hlk] at hl
    split at hl
    · cases hl
    · split at hl
      · rename_i e; simp at hl; exact ⟨e, hl.symm⟩
      · cases hl
  · rcases hwhere hv with h1 | ⟨l0, c0, B0, h1, h2, h3, h4, h5⟩
    · exact .inl h1
    · refine .inr ⟨l0, c0, B0, h1, h2, h3, h4, .inr ?_⟩
      rw [hlk, if_pos h5]
/-- A new block. -/
theorem Chg.alloc (h : HR μ G sto w) {w0 : World} (h0 : w0.heap = w.heap ∧ w0.os = w.os ∧ w0.tape = w.tape ∧ w0.output = w.output) {nb : L} (hf : Fresh nb sto) {gone : List L} (hgn : nb ∉ gone) {arr : Array Value} {te : TypeId} {len cap sz : Nat} {c : C}
    (hcr : ∀ (μ' : Mu) (w' : World) (B : Blk), B = ⟨some ⟨w.heap.size, 0, none⟩, w.heap.size, len, cap, sz, false⟩ → w'.heap[w.heap.size]? = some (.cells arr te (0, 0)) → (∀ as us, repAs μ w G as us → repAs μ' w' G as us) → crep μ' w' G B c) :
    Chg μ G sto w (gone.map (fun l => (l, none)) ++ [(nb, some c)]) (upd μ nb ⟨some ⟨w.heap.size, 0, none⟩, w.heap.size, len, cap, sz, false⟩) G (w0.alloc (.cells arr te (0, 0))) := by
  obtain ⟨e1, e2, e3, e4⟩ := h0
  have hnew : (w0.alloc (.cells arr te (0, 0))).heap[w.heap.size]? = some (.cells arr te (0, 0)) := by rw [← e1]; exact heap_alloc_new' _ _
  refine Chg.fresh h hf hgn ⟨e2, e3, e4⟩ (by rw [alloc_size, e1]; omega) (fun _ => False) (fun b hb _ => ?_) (fun _ h => h.elim) (fun _ hA => hcr _ _ _ rfl hnew hA) (fun _ => .inl ⟨Nat.le_refl _, by rw [alloc_size, e1]; exact Nat.lt_succ_self _⟩)
  rw [← e1] at hb ⊢
  exact heap_alloc_old' _ _ hb
/-- A row in a new block. -/
theorem crep_row {μ' : Mu} {w' : World} {e : El} {zs : List e.T} {cs rest : List Value} {b len cap : Nat} {arr : Array Value} {te : TypeId} (h1 : All2 (repA μ' w' G) (zs.flatMap e.enc) cs) (ha : arr.toList = cs ++ rest) (hh : w'.heap[b]? = some (.cells arr te (0, 0)))
    (hl : len = zs.length) (hc : len ≤ cap) (hs : arr.size = cap * e.sz) : crep μ' w' G ⟨some ⟨b, 0, none⟩, b, len, cap, e.sz, false⟩ (.row e zs) := by
  refine ⟨hl, hc, rfl, fun h => (by cases h), fun _ => ⟨rfl, arr, te, hh, hs, fun i x hx => ?_⟩⟩
  obtain ⟨us, k1, k2⟩ := flat_get h1 i x hx
  refine ⟨us, (repAs_iff _ _).mpr k1, (rangeAt_iff hh us).mpr fun j v hv => ?_⟩
  have := k2 j v hv
  rw [← Array.getElem?_toList, ha, List.getElem?_append_left (List.getElem?_eq_some_iff.1 this).1]
  exact this

/-! ### What an append takes -/
theorem cast_ok : ∀ {e' e : El} {xs : List e'.T} {ys : List e.T}, e'.cast e xs = some ys → ∃ h : e' = e, ys = h ▸ xs
  | .int k, .int k', xs, ys, h => by
    simp only [El.cast] at h
    split at h
    · rename_i hk
      obtain rfl := kEq_ok hk
      obtain rfl := Option.some.inj h
      exact ⟨rfl, rfl⟩
    · cases h
  | .bool, .bool, xs, ys, h => by obtain rfl := Option.some.inj h; exact ⟨rfl, rfl⟩
  | .str, .str, xs, ys, h => by obtain rfl := Option.some.inj h; exact ⟨rfl, rfl⟩
  | .mv, .mv, xs, ys, h => by obtain rfl := Option.some.inj h; exact ⟨rfl, rfl⟩
  | .ints, .ints, xs, ys, h => by obtain rfl := Option.some.inj h; exact ⟨rfl, rfl⟩
  | .int _, .bool, _, _, h | .int _, .str, _, _, h | .int _, .mv, _, _, h | .int _, .ints, _, _, h | .bool, .int _, _, _, h | .bool, .str, _, _, h | .bool, .mv, _, _, h | .bool, .ints, _, _, h
  | .str, .int _, _, _, h | .str, .bool, _, _, h | .str, .mv, _, _, h | .str, .ints, _, _, h | .mv, .int _, _, _, h | .mv, .bool, _, _, h | .mv, .str, _, _, h | .mv, .ints, _, _, h
  | .ints, .int _, _, _, h | .ints, .bool, _, _, h | .ints, .str, _, _, h | .ints, .mv, _, _, h => by simp [El.cast] at h
theorem moM_ok {α : Type} {s : Sto} {n : Nat} {o : Option α} {rl rl' : List L} {ps ps' : List Prop} {v : α} (h : (moM n o).go s rl ps = .ok v rl' ps') : o = some v ∧ ps' = ps ∧ rl' = rl := by
  unfold moM at h
  split at h
  · simp only [M.go, MR.ok.injEq] at h
    obtain ⟨rfl, rfl, rfl⟩ := h
    exact ⟨rfl, rfl, rfl⟩
  · simp [M.go] at h
/-- What an append's second argument yields. -/
def Yl (P : Program) (μ : Mu) (w : World) (G : Nat → Prop) (e : El) (t : TypeId) (u : Value) (ys : List e.T) : Prop := ∃ news, Src P e.sz t u ys.length news w ∧ All2 (repA μ w G) (ys.flatMap e.enc) news
theorem Yl.slice {t et : TypeId} (ht : P.underlying t = some (.slice et)) {e : El} {ys : List e.T} {ad : Option Addr} {cap : Nat} (h : ys ≠ [] → ∃ b o, ad = some ⟨b, o, none⟩ ∧ ∀ (i : Nat) x, ys[i]? = some x → ∃ us, All2 (repA μ w G) (e.enc x) us ∧ w.rangeAt b (o + i * e.sz) us) :
    Yl P μ w G e t (.slice ad ys.length cap) ys := by
  by_cases hy : ys = []
  · subst hy
    refine ⟨[], ?_, .nil⟩
    cases ad with
    | none => exact Src.ofNil w ht cap
    | some a => exact Src.ofSlice w ht a 0 cap [] (by simp) (by simp) (by simp)
  · obtain ⟨b, o, rfl, h1⟩ := h hy
    obtain ⟨us, h2, h3⟩ := row_flat h1
    exact ⟨us, Src.ofSlice w ht _ _ _ us (flat_length h2) (fun j u hj => by rw [Addr.add_mid]; exact h3 j u hj) (repAs_one ((repAs_iff _ _).mpr h2)), h2⟩
theorem els_ok {t : TypeId} {ty : Ty} (ht : TyOk P t ty) (h : HR μ G sto w) {e : El} {a : V} {u : Value} (ha : repV μ w G a u) {ys : List e.T} {rl rl' : List L} {ps ps' : List Prop}
    (hg : (els ty.sh e a).go sto rl ps = .ok ys rl' ps') (hp : ∀ p ∈ ps', p) : Yl P μ w G e t u ys := by
  unfold els at hg
  split at hg
  · rename_i s
    split at hg
    · rename_i hs
      obtain ⟨d, hd, hsh, _⟩ := ht.und
      rw [hs] at hsh
      have hd' : P.underlying t = some .string := by rw [hd, show d = .string from hsh]
      obtain ⟨h1, _, _⟩ := moM_ok hg
      simp only [repV, repA] at ha
      subst ha
      unfold strEls at h1
      split at h1
      · obtain rfl := Option.some.inj h1
        refine ⟨byteCells s, ?_, ?_⟩
        · have := Src.ofString (P := P) w hd' s
          have hl : s.size = (s.data.toList.map fun b => (b.toNat : Int)).length := by simp
          rw [← hl]
          exact this
        · rw [flatMap_int, List.map_map]
          unfold byteCells
          clear hg
          induction s.data.toList with
          | nil => exact .nil
          | cons b bs ih => exact .cons (by simp [repA]) ih
      · cases h1
    · simp [M.go] at hg
  · split at hg
    · rename_i hs
      simp only [M.go, MR.ok.injEq] at hg
      obtain ⟨rfl, _, _⟩ := hg
      simp only [repV, repA] at ha
      subst ha
      exact Yl.slice (sl_und ht hs).1 (ys := []) (fun h => absurd rfl h)
    · simp [M.go] at hg
  · split at hg
    · rename_i hs
      obtain ⟨h1, _, _⟩ := moM_ok hg
      obtain ⟨rfl, h2⟩ := cast_ok h1
      simp only at h2
      subst h2
      simp only [repV, repA] at ha
      obtain ⟨ad, cap, rfl, _, _, h3⟩ := ha
      refine Yl.slice (sl_und ht hs).1 fun hne => ?_
      obtain ⟨b, o, rfl, _, h4⟩ := h3 hne
      refine ⟨b, o, rfl, fun i x hx => ?_⟩
      obtain ⟨us, k1, k2⟩ := h4 i x hx
      exact ⟨us, k1.imp (fun _ _ h => rep1_A _ _ h), k2⟩
    · simp [M.go] at hg
  · split at hg
    · rename_i hs
      simp only [M.go] at hg
      split at hg
      · rename_i c hc
        cases c with
        | cells as => simp [M.go] at hg
        | row e' xs =>
          obtain ⟨h1, _, _⟩ := moM_ok hg
          obtain ⟨rfl, h2⟩ := cast_ok h1
          simp only at h2
          subst h2
          simp only [repV, repA] at ha
          obtain ⟨B, hB, rfl⟩ := ha
          obtain ⟨g1, g2, g3, g4, g5⟩ := (h.get hc hB).1
          rw [g1]
          refine Yl.slice (sl_und ht hs).1 fun hne => ?_
          cases hv : B.virt with
          | true => exact absurd (g4 hv).1 hne
          | false =>
            obtain ⟨g6, arr, te, g7, g8, g9⟩ := g5 hv
            refine ⟨B.b, 0, g6, fun i x hx => ?_⟩
            obtain ⟨us, k1, k2⟩ := g9 i x hx
            exact ⟨us, (repAs_iff _ _).mp k1, by simpa using k2⟩
      · cases hg
    · simp [M.go] at hg
  · rename_i l off len
    split at hg
    · rename_i hs
      simp only [M.go] at hg
      split at hg
      · rename_i c hc
        cases c with
        | cells as => simp [M.go] at hg
        | row e' xs =>
          simp only at hg
          split at hg
          · rename_i zs h1
            simp only [M.go, MR.ok.injEq] at hg
            obtain ⟨rfl, rfl, rfl⟩ := hg
            obtain ⟨rfl, h2⟩ := cast_ok h1
            simp only at h2
            subst h2
            have hb := hp _ List.mem_cons_self
            simp only [repV, repA] at ha
            obtain ⟨B, o, hB, rfl, hol, ho⟩ := ha
            obtain ⟨g1, g2, g3, g4, g5⟩ := (h.get hc hB).1
            have hl : ((zs.drop off).take len).length = len := by simp; omega
            have := Yl.slice (P := P) (μ := μ) (w := w) (G := G) (sl_und ht hs).1 (e := e') (ys := (zs.drop off).take len) (ad := o) (cap := B.cap - off) (fun hne => ?_)
            · rwa [hl] at this
            · have hpos : 0 < len := by rw [← hl]; exact List.length_pos_iff.mpr hne
              have hv : B.virt = false := by
                cases hv : B.virt with
                | false => rfl
                | true => have := (g4 hv).1; subst this; simp at hb; omega
              obtain ⟨g6, arr, te, g7, g8, g9⟩ := g5 hv
              refine ⟨B.b, off * B.sz, ho (by omega), fun i x hx => ?_⟩
              rw [List.getElem?_take] at hx
              split at hx
              · rw [List.getElem?_drop] at hx
                obtain ⟨us, k1, k2⟩ := g9 _ x hx
                refine ⟨us, (repAs_iff _ _).mp k1, ?_⟩
                rw [g3, ← Nat.add_mul]
                exact k2
              · cases hx
          · simp [M.go] at hg
      · cases hg
    · simp [M.go] at hg
  · simp [M.go] at hg
end Go.AM

/- Appends, makes, literals: what the machine does is what the program does; condition: the table of types fits the program. -/
namespace Go.AM
set_option linter.unusedVariables false
set_option linter.unusedSimpArgs false
open Go.RowKit
variable {P : Program} {μ : Mu} {w : World} {G : Nat → Prop} {sto : Sto}

theorem append_nothing (w : World) (t tx ty e : TypeId) (i : TypeInfo) (ht : P.underlying t = some (.slice e)) (hi : P.info? e = some i) (base : Option Addr) (sLen sCap : Nat) (hle : sLen ≤ sCap) (x : Value) (hs : Src P i.size tx x 0 [] w) :
    (Builtin.append_ #[t, tx] ty #[.slice base sLen sCap, x]).run P w = .ok (.slice base sLen sCap) w := by
  rcases hs.kind with ⟨e', hk⟩ | hk <;> cases base <;> simp [Builtin.append_, run_underlying ht, run_underlying hk, sizeOf, typeInfo, hi, hs.len, hle, hs.cells, storeCells]
theorem zeroCells_size (zero : Array Value) (n : Nat) : (Builtin.zeroCells zero n).size = n * zero.size := by simp [Builtin.zeroCells]
/-- What an append brings about: the value and the change. -/
def AP (P : Program) (μ : Mu) (G : Nat → Prop) (sto : Sto) (w : World) (v : V) (wr : Sto) (s : Sem Value) : Prop := ∃ u w' μ', s.run P w = .ok u w' ∧ repV μ' w' G v u ∧ Chg μ G sto w wr μ' G w'
theorem append_new (h : HR μ G sto w) {nb : L} (hf : Fresh nb sto) {gone : List L} (hgn : nb ∉ gone) {t tx ty et : TypeId} {i : TypeInfo} {z : Value} {e : El} (ht : P.underlying t = some (.slice et)) (hi : P.info? et = some i) (hsz : i.size = e.sz)
    (hz : i.zero = some z) (hzc : z.cells.size = e.sz) {xs ys : List e.T} {base : Option Addr} {cap : Nat} {olds news : List Value} (hold : ∀ w0 : World, w0.heap = w.heap → (Builtin.firstCells e.sz xs.length (.slice base xs.length cap)).run P w0 = .ok olds.toArray w0)
    (ho : All2 (repA μ w G) (xs.flatMap e.enc) olds) {u : Value} (hs : Src P e.sz tx u ys.length news w) (hn : All2 (repA μ w G) (ys.flatMap e.enc) news) (hg : cap < xs.length + ys.length) (hb : (xs.length + ys.length) * i.bytes ≤ 140737488355328) (h63 : xs.length + ys.length ≤ 9223372036854775807) :
    AP P μ G sto w (.one (.own nb)) (gone.map (fun l => (l, none)) ++ [(nb, some (.row e (xs ++ ys)))]) (Builtin.append_ #[t, tx] ty #[.slice base xs.length cap, u]) := by
  have hrun := run_append_grow_src (P := P) w t tx ty et i z ht hi hz base xs.length cap olds (by rw [hsz]; exact hold w.drew rfl) u ys.length news (by rw [hsz]; exact hs) hg (by omega) (growslice_fits hg hb)
  refine ⟨_, _, _, hrun, ?_, Chg.alloc h (w0 := w.drew) ⟨rfl, rfl, rfl, rfl⟩ hf hgn (len := xs.length + ys.length) (cap := grownCap w (xs.length + ys.length) cap et) (sz := e.sz) ?_⟩
  · simp only [repV, repA]
    exact ⟨_, upd_same _ _ _, rfl⟩
  · rintro μ' w' B rfl hnew hA
    have hge := grownCap_ge w (xs.length + ys.length) cap et
    have hall : All2 (repA μ w G) ((xs ++ ys).flatMap e.enc) (olds ++ news) := by rw [List.flatMap_append]; exact ho.append hn
    refine crep_row (e := e) (cs := olds ++ news) (rest := (Builtin.zeroCells z.cells (grownCap w (xs.length + ys.length) cap et - (xs.length + ys.length))).toList) ((repAs_iff _ _).mp (hA _ _ ((repAs_iff _ _).mpr hall))) ?_ hnew (by simp) hge ?_
    · rw [Array.toList_append]
    · rw [Array.size_append, zeroCells_size, hzc]
      have := flat_length hall
      rw [List.size_toArray, this, List.length_append, ← Nat.add_mul]
      congr 1
      omega
theorem virt_new (h : HR μ G sto w) {nb : L} (hf : Fresh nb sto) {gone : List L} (hgn : nb ∉ gone) (e : El) (ad : Option Addr) {s : Sem Value} (hs : s.run P w = .ok (.slice ad 0 0) w) :
    AP P μ G sto w (.one (.own nb)) (gone.map (fun l => (l, none)) ++ [(nb, some (.row e ([] : List e.T)))]) s := by
  refine ⟨_, w, _, hs, ?_, Chg.fresh h hf hgn (B := ⟨ad, 0, 0, 0, e.sz, true⟩) ⟨rfl, rfl, rfl⟩ (Nat.le_refl _) (fun _ => False) (fun _ _ _ => rfl) (fun _ h => h.elim) (fun _ _ => ⟨rfl, Nat.le_refl _, rfl, fun _ => ⟨rfl, rfl⟩, fun h => by cases h⟩) (fun h => by cases h)⟩
  simp only [repV, repA]
  exact ⟨_, upd_same _ _ _, rfl⟩
theorem zero_size {z : Value} {as : List A} (h : zeroOk as z) : z.cells.size = as.length := by
  have := repAs_length _ _ (h (fun _ => none) default fun _ => False)
  simpa using this
/-- The cells of a block of the function's own. -/
theorem row_cells_own {B : Blk} {e : El} {xs : List e.T} (h : crep μ w G B (.row e xs)) : ∃ olds, All2 (repA μ w G) (xs.flatMap e.enc) olds ∧ (B.virt = false → w.rangeAt B.b 0 olds) ∧ (B.virt = true → olds = []) ∧
    ∀ w0 : World, w0.heap = w.heap → (Builtin.firstCells e.sz xs.length (.slice B.a xs.length B.cap)).run P w0 = .ok olds.toArray w0 := by
  obtain ⟨g1, g2, g3, g4, g5⟩ := h
  cases hv : B.virt with
  | true =>
    obtain ⟨rfl, hc⟩ := g4 hv
    refine ⟨[], .nil, fun h => (by cases h), fun _ => rfl, fun w0 hw0 => ?_⟩
    cases B.a with
    | none => simp [Builtin.firstCells]
    | some a => exact run_firstCells_some w0 e.sz 0 a _ _ [] (by simp) (by simp)
  | false =>
    obtain ⟨g6, arr, te, g7, g8, g9⟩ := g5 hv
    obtain ⟨olds, k1, k2⟩ := row_flat (w := w) (r := repA μ w G) (b := B.b) (e := e) (xs := xs) (o := 0) (fun i x hx => by
      obtain ⟨us, k1, k2⟩ := g9 i x hx
      exact ⟨us, (repAs_iff _ _).mp k1, by simpa using k2⟩)
    refine ⟨olds, k1, fun _ => k2, fun h => (by cases h), fun w0 hw0 => ?_⟩
    rw [g6]
    refine run_firstCells_some w0 e.sz xs.length _ _ _ olds (flat_length k1) fun j v hj => ?_
    rw [Addr.add_mid]
    have := k2 j v hj
    unfold World.cell? at this ⊢
    rwa [hw0]
theorem range_append {b o : Nat} {us vs : List Value} {n : Nat} (h : w.rangeAt b o us) (hl : us.length = n) (ht : w.there b (o + n) vs.length) : (w.setCells b (o + n) vs).rangeAt b o (us ++ vs) := by
  intro j v hj
  rw [List.getElem?_append] at hj
  split at hj
  · rw [World.cell?_setCells_out b vs (o + n) w ⟨b, o + j, none⟩ (fun _ _ => by left; show o + j < o + n; omega)]
    exact h j v hj
  · have := World.rangeAt_setCells_same w b (o + n) vs ht (j - us.length) v hj
    rw [hl] at this
    rwa [show o + n + (j - n) = o + j by omega] at this
theorem appendV_ok {t tx tt et : TypeId} {te : Ty} {e : El} {i : TypeInfo} {z : Value} (ht : P.underlying t = some (.slice et)) (hi : P.info? et = some i) (hsz : i.size = e.sz) (hz : i.zero = some z) (hzo : zeroOk (e.enc e.d) z) {bytes : Nat} (hby : i.bytes = bytes)
    (h : HR μ G sto w) {nb : L} {base : V} {ub u : Value} (hb : repV μ w G base ub) {ys : List e.T} (hy : Yl P μ w G e tx u ys) {v : V} {wr : Sto} {rl rl' : List L} {ps ps' : List Prop} (hf : (lkL nb wr).isSome = true → Fresh nb sto)
    (hg : (appendV e bytes nb base ys).go sto rl ps = .ok ⟨v, wr⟩ rl' ps') (hp : ∀ p ∈ ps', p) (h63 : ∀ n, n * i.bytes ≤ 140737488355328 → n ≤ 9223372036854775807) : AP P μ G sto w v wr (Builtin.append_ #[t, tx] tt #[ub, u]) := by
  have hzc : z.cells.size = e.sz := by rw [zero_size hzo, enc_length]
  obtain ⟨news, hs, hn⟩ := hy
  subst hby
  unfold appendV at hg
  split at hg
  · simp only [M.go, MR.ok.injEq, Upd.mk.injEq] at hg
    obtain ⟨⟨rfl, rfl⟩, _, rfl⟩ := hg
    replace hf := hf (by rw [lkL_cons, if_pos rfl]; rfl)
    have hfit := hp _ List.mem_cons_self
    simp only [repV, repA] at hb
    subst hb
    by_cases hy0 : ys = []
    · subst hy0
      have : news = [] := by cases hn; rfl
      subst this
      exact virt_new h hf (gone := []) (by simp) e none (append_nothing w t tx tt et i ht hi none 0 0 (Nat.le_refl _) u (by rw [hsz]; exact hs))
    · have hpos : 0 < ys.length := List.length_pos_iff.mpr hy0
      exact append_new h hf (gone := []) (by simp) ht hi hsz hz hzc (xs := []) (olds := []) (fun w0 _ => run_firstCells_none w0 _ _ _ _) .nil hs hn (by simpa using hpos) (by simpa using hfit) (by simpa using h63 _ hfit)
  · rename_i e' xs0 full
    split at hg
    · rename_i xs hcast
      obtain ⟨rfl, hc2⟩ := cast_ok hcast
      simp only at hc2
      subst hc2
      simp only [M.go, MR.ok.injEq, Upd.mk.injEq] at hg
      obtain ⟨⟨rfl, rfl⟩, _, rfl⟩ := hg
      replace hf := hf (by rw [lkL_cons, if_pos rfl]; rfl)
      obtain ⟨hne, hfit⟩ := hp _ List.mem_cons_self
      simp only [repV, repA] at hb
      obtain ⟨ad, cap, rfl, h2, h3, h4⟩ := hb
      have h3 := h3 rfl
      subst h3
      by_cases hy0 : ys = []
      · subst hy0
        have hx0 : xs = [] := by rcases hne with h | h; exact h; simp at h
        subst hx0
        have : news = [] := by cases hn; rfl
        subst this
        exact virt_new h hf (gone := []) (by simp) e' ad (append_nothing w t tx tt et i ht hi ad 0 0 (Nat.le_refl _) u (by rw [hsz]; exact hs))
      · have hpos : 0 < ys.length := List.length_pos_iff.mpr hy0
        have : ∃ olds, All2 (repA μ w G) (xs.flatMap e'.enc) olds ∧ ∀ w0 : World, w0.heap = w.heap → (Builtin.firstCells e'.sz xs.length (.slice ad xs.length xs.length)).run P w0 = .ok olds.toArray w0 := by
          by_cases hx0 : xs = []
          · subst hx0
            refine ⟨[], .nil, fun w0 _ => ?_⟩
            cases ad with
            | none => simp [Builtin.firstCells]
            | some a => exact run_firstCells_some w0 e'.sz 0 a _ _ [] (by simp) (by simp)
          · obtain ⟨b, o, rfl, _, k⟩ := h4 hx0
            obtain ⟨olds, k1, k2⟩ := row_flat (w := w) (r := repA μ w G) (b := b) (e := e') (xs := xs) (o := o) (fun i x hx => by
              obtain ⟨us, k1, k2⟩ := k i x hx
              exact ⟨us, k1.imp (fun _ _ h => rep1_A _ _ h), k2⟩)
            refine ⟨olds, k1, fun w0 hw0 => run_firstCells_some w0 e'.sz xs.length _ _ _ olds (flat_length k1) fun j v hj => ?_⟩
            rw [Addr.add_mid]
            have := k2 j v hj
            unfold World.cell? at this ⊢
            rwa [hw0]
        obtain ⟨olds, k1, k2⟩ := this
        exact append_new h hf (gone := []) (by simp) ht hi hsz hz hzc k2 k1 hs hn (by omega) hfit (h63 _ hfit)
    · simp [M.go] at hg
  · rename_i l
    simp only [M.go] at hg
    split at hg
    · rename_i c hc
      cases c with
      | cells as => simp [M.go] at hg
      | row e' xs0 =>
        simp only at hg
        split at hg
        · rename_i xs hcast
          obtain ⟨rfl, hc2⟩ := cast_ok hcast
          simp only at hc2
          subst hc2
          simp only [M.go, MR.ok.injEq, Upd.mk.injEq] at hg
          obtain ⟨⟨rfl, rfl⟩, _, rfl⟩ := hg
          replace hf := hf (by rw [lkL_cons]; split <;> first | rfl | (rw [lkL_cons, if_pos rfl]; rfl))
          have hfit := hp _ List.mem_cons_self
          simp only [repV, repA] at hb
          obtain ⟨B, hB, rfl⟩ := hb
          obtain ⟨hcr, hlt⟩ := h.get hc hB
          have hnbl : nb ∉ [l] := by
            intro hm
            have : nb = l := by simpa using hm
            subst this
            rw [lkC_some] at hc
            rw [hf.no] at hc
            cases hc
          obtain ⟨olds, k1, k2, k3, k4⟩ := row_cells_own (P := P) hcr
          have hcr' := hcr
          obtain ⟨g1, g2, g3, g4, g5⟩ := hcr
          rw [g1]
          by_cases hroom : B.cap < xs.length + ys.length
          · exact append_new h hf (gone := [l]) hnbl ht hi hsz hz hzc k4 k1 hs hn hroom hfit (h63 _ hfit)
          · cases hv : B.virt with
            | true =>
              obtain ⟨rfl, hc0⟩ := g4 hv
              have hy0 : ys = [] := by
                cases ys with
                | nil => rfl
                | cons y ys => simp at hroom; omega
              subst hy0
              have : news = [] := by cases hn; rfl
              subst this
              rw [hc0]
              exact virt_new h hf (gone := [l]) hnbl e' B.a (append_nothing w t tx tt et i ht hi B.a 0 0 (Nat.le_refl _) u (by rw [hsz]; exact hs))
            | false =>
              obtain ⟨g6, arr, te', g7, g8, g9⟩ := g5 hv
              obtain ⟨hbl, hbG⟩ := hlt hv
              have hnl : news.length = ys.length * e'.sz := hs.newsLen
              have hth : w.there B.b (0 + xs.length * e'.sz) news.length := by
                refine there_of g7 ?_
                rw [g8, hnl, Nat.zero_add, ← Nat.add_mul]
                exact Nat.mul_le_mul_right _ (by omega)
              have hrun := run_append_room_src (P := P) w t tx tt et i ht hi B.b 0 xs.length B.cap u ys.length news (by rw [hsz]; exact hs) (by omega) (fun j hj => by rw [hsz]; exact (hth j hj).1) (fun j hj => by rw [hsz]; exact (hth j hj).2)
              rw [hsz] at hrun
              rw [g6]
              refine ⟨_, _, _, hrun, ?_, Chg.fresh h hf (gone := [l]) hnbl (B := ⟨B.a, B.b, xs.length + ys.length, B.cap, e'.sz, false⟩) ?_ ?_ (fun b => b = B.b) (fun b _ hb => setCells_other _ _ _ hb) (fun b hb => ⟨l, _, B, hc, hB, hv, hb.symm, by simp⟩) (fun _ hA => ?_)
                (fun _ => .inr ⟨l, _, B, hc, hB, hv, rfl, by simp⟩)⟩
              · simp only [repV, repA]
                exact ⟨_, upd_same _ _ _, by rw [g6]⟩
              · obtain ⟨e1, e2, e3, e4⟩ := setCells_os news (0 + xs.length * e'.sz) w B.b
                exact ⟨e1, e2, e3⟩
              · obtain ⟨e1, e2, e3, e4⟩ := setCells_os news (0 + xs.length * e'.sz) w B.b
                omega
              · have hall : All2 (repA μ w G) ((xs ++ ys).flatMap e'.enc) (olds ++ news) := by rw [List.flatMap_append]; exact k1.append hn
                have hall' := (repAs_iff _ _).mp (hA _ _ ((repAs_iff _ _).mpr hall))
                have hheap := setCells_heap news (0 + xs.length * e'.sz) w arr g7
                refine ⟨by simp, by simp only; omega, rfl, fun h => (by cases h), fun _ => ⟨g6, _, te', hheap, by simp [storeL_length, g8], fun k x hx => ?_⟩⟩
                obtain ⟨us, m1, m2⟩ := flat_get hall' k x hx
                refine ⟨us, (repAs_iff _ _).mpr m1, fun j v hj => ?_⟩
                have := range_append (k2 hv) (flat_length k1) hth (k * e'.sz + j) v (m2 j v hj)
                simpa using this
        · simp [M.go] at hg
    · cases hg
  · rename_i l off len
    simp only [M.go] at hg
    split at hg
    · rename_i c hc
      cases c with
      | cells as => simp [M.go] at hg
      | row e' xs0 =>
        simp only at hg
        split at hg
        · rename_i xs hcast
          obtain ⟨rfl, hc2⟩ := cast_ok hcast
          simp only at hc2
          subst hc2
          simp only [M.go, MR.ok.injEq, Upd.mk.injEq] at hg
          obtain ⟨⟨rfl, rfl⟩, _, rfl⟩ := hg
          have hfit := hp _ List.mem_cons_self
          simp only [repV, repA] at hb
          obtain ⟨B, o, hB, rfl, hol, ho⟩ := hb
          obtain ⟨hcr, hlt⟩ := h.get hc hB
          have hcr' := hcr
          obtain ⟨g1, g2, g3, g4, g5⟩ := hcr
          by_cases hy0 : ys = []
          · subst hy0
            have : news = [] := by cases hn; rfl
            subst this
            have hwr : xs.take (off + len) ++ ([] : List e'.T) ++ xs.drop (off + len + ([] : List e'.T).length) = xs := by simp
            rw [hwr]
            refine ⟨_, w, μ, append_nothing w t tx tt et i ht hi o len _ (by omega) u (by rw [hsz]; exact hs), ?_, ?_⟩
            · simp only [repV, repA]
              exact ⟨B, o, hB, rfl, by simpa using hol, ho⟩
            · refine Chg.one h ⟨rfl, rfl, rfl⟩ (Nat.le_refl _) (fun _ => False) (fun _ _ _ => rfl) (fun _ h => h.elim) (fun _ _ _ _ _ _ h => h.elim) (fun _ _ h => h) (fun _ => rfl) l (.row e' xs) B (by rw [lkL_cons, if_pos rfl]) ?_ hB (fun _ _ h _ => h) (fun _ _ => hcr') (fun hv => .inr ⟨l, _, B, hc, hB, hv, rfl, .inl rfl⟩)
              intro l' c' hl
              rw [lkL_cons] at hl
              split at hl
              · rename_i e; subst e; simp at hl; exact ⟨rfl, hl.symm⟩
              · cases hl
          · have hpos : 0 < ys.length := List.length_pos_iff.mpr hy0
            have hv : B.virt = false := by
              cases hv : B.virt with
              | false => rfl
              | true => have e0 := (g4 hv).1; rw [e0] at hfit; simp only [List.length_nil] at hfit; omega
            obtain ⟨g6, arr, te', g7, g8, g9⟩ := g5 hv
            obtain ⟨hbl, hbG⟩ := hlt hv
            rw [ho (by omega)]
            have hnl : news.length = ys.length * e'.sz := hs.newsLen
            have hth : w.there B.b (off * e'.sz + len * e'.sz) news.length := by
              refine there_of g7 ?_
              rw [g8, hnl, ← Nat.add_mul, ← Nat.add_mul]
              exact Nat.mul_le_mul_right _ (by omega)
            have hrun := run_append_room_src (P := P) w t tx tt et i ht hi B.b (off * e'.sz) len (B.cap - off) u ys.length news (by rw [hsz]; exact hs) (by omega) (fun j hj => by rw [hsz]; exact (hth j hj).1) (fun j hj => by rw [hsz]; exact (hth j hj).2)
            rw [hsz] at hrun
            rw [g3]
            refine ⟨_, _, _, hrun, ?_, Chg.write h hc hB hv ?_⟩
            · simp only [repV, repA]
              exact ⟨B, _, hB, rfl, by omega, fun _ => by rw [g3]⟩
            · have hkeep : Keep G w (w.setCells B.b (off * e'.sz + len * e'.sz) news) := fun b hb => setCells_other _ _ _ fun e => hbG (e ▸ hb)
              have hheap := setCells_heap news (off * e'.sz + len * e'.sz) w arr g7
              have hmv := fun as us => repAs_mono (μ := μ) (μ' := μ) (fun _ _ h => h) hkeep (fun _ h => h) (G := G) (G' := G) as us
              have hlen : (xs.take (off + len) ++ ys ++ xs.drop (off + len + ys.length)).length = xs.length := by simp; omega
              refine ⟨by rw [hlen]; exact g1, g2, g3, fun h => (by rw [hv] at h; cases h), fun _ => ⟨g6, _, te', hheap, by simp [storeL_length, g8], fun k x hx => ?_⟩⟩
              have hpl : (xs.take (off + len)).length = off + len := by simp; omega
              by_cases c1 : k < off + len
              · rw [List.append_assoc, List.getElem?_append_left (by omega), List.getElem?_take, if_pos c1] at hx
                obtain ⟨us, m1, m2⟩ := g9 k x hx
                refine ⟨us, hmv _ _ m1, ?_⟩
                have hul : us.length = e'.sz := by rw [repAs_length _ _ m1, enc_length]
                refine World.rangeAt_setCells_apart m2 _ _ _ (.inr (.inl ?_))
                have : (k + 1) * e'.sz ≤ (off + len) * e'.sz := Nat.mul_le_mul_right _ (by omega)
                rw [Nat.add_mul, Nat.add_mul] at this
                omega
              · by_cases c2 : k < off + len + ys.length
                · rw [List.append_assoc, List.getElem?_append_right (by omega), hpl, List.getElem?_append_left (by omega)] at hx
                  obtain ⟨us, m1, m2⟩ := flat_get hn _ x hx
                  refine ⟨us, hmv _ _ ((repAs_iff _ _).mpr m1), fun j v hj => ?_⟩
                  have := World.rangeAt_setCells_same w B.b (off * e'.sz + len * e'.sz) news hth _ v (m2 j v hj)
                  rw [← Nat.add_mul, ← Nat.add_assoc, ← Nat.add_mul] at this
                  rwa [show off + len + (k - (off + len)) = k by omega, Nat.add_mul off len] at this
                · rw [List.append_assoc, List.getElem?_append_right (by omega), hpl, List.getElem?_append_right (by omega), List.getElem?_drop] at hx
                  rw [show off + len + ys.length + (k - (off + len) - ys.length) = k by omega] at hx
                  obtain ⟨us, m1, m2⟩ := g9 k x hx
                  refine ⟨us, hmv _ _ m1, World.rangeAt_setCells_apart m2 _ _ _ (.inr (.inr ?_))⟩
                  have : (off + len + ys.length) * e'.sz ≤ k * e'.sz := Nat.mul_le_mul_right _ (by omega)
                  rw [Nat.add_mul, Nat.add_mul] at this
                  omega
        · simp [M.go] at hg
    · cases hg
  · simp [M.go] at hg
end Go.AM

/- Clears, makes, literals: what the machine does is what the program does; condition: the table of types fits the program. -/
namespace Go.AM
set_option linter.unusedVariables false
set_option linter.unusedSimpArgs false
open Go.RowKit
variable {P : Program} {μ : Mu} {w : World} {G : Nat → Prop} {sto : Sto}

/-! ### Fills -/
theorem foldl_store : ∀ (vs : List Value) (cells : Array Value) (off k : Nat), ((vs.zipIdx k).foldl (fun cs (p : Value × Nat) => cs.setIfInBounds (off + p.2) p.1) cells).toList = storeL cells.toList (off + k) vs
  | [], cells, off, k => rfl
  | v :: vs, cells, off, k => by
    rw [List.zipIdx_cons, List.foldl_cons, foldl_store vs _ off (k + 1)]
    simp only [storeL, Array.toList_setIfInBounds, Nat.add_assoc]
theorem fill_step (place : Nat → Option (Nat × Nat)) (cells : Array Value) (i : Nat) (v : Value) (rest : List (Nat × Value)) {off size : Nat} (hp : place i = some (off, size)) (h1 : v.cells.size = size) (h2 : off + size ≤ cells.size) :
    ∃ cells' : Array Value, Instr.fill place cells ((i, v) :: rest) = Instr.fill place cells' rest ∧ cells'.toList = storeL cells.toList off v.cells.toList := by
  refine ⟨v.cells.zipIdx.foldl (fun cs (p : Value × Nat) => cs.setIfInBounds (off + p.2) p.1) cells, ?_, ?_⟩
  · rw [Instr.fill]
    simp only [hp]
    rw [if_neg (by simp only [Bool.or_eq_true, decide_eq_true_eq, not_or]; exact ⟨fun h => h h1, by omega⟩)]
  · rw [← Array.foldl_toList, Array.toList_zipIdx]
    exact foldl_store v.cells.toList cells off 0
theorem mapM_places (fields : List Field) (hall : ∀ f ∈ fields, (P.info? f.type).isSome = true) : (fields.mapM (fun f => do pure (f.offset, ← sizeOf f.type) : Field → Sem (Nat × Nat))).run P w = .ok (fields.map fun f => (f.offset, P.cellsOf f.type)) w := by
  induction fields with
  | nil => rfl
  | cons f fs ih =>
    obtain ⟨i, hi⟩ := Option.isSome_iff_exists.mp (hall f List.mem_cons_self)
    have hc : P.cellsOf f.type = i.size := by simp [Program.cellsOf, hi]
    rw [List.mapM_cons]
    simp only [Sem.run_bind, run_size hi, Result.andThen_ok, Sem.run_pure, ih (fun f hf => hall f (List.mem_cons_of_mem _ hf)), List.map_cons, hc]
theorem fillSt_ok {env : Env} {a : Act} (he : ER μ G env w a) {fs : List (Nat × Nat × Bool)} {place : Nat → Option (Nat × Nat)} (hpl : ∀ i off sz ag, nth fs i = some (off, sz, ag) → place i = some (off, sz)) : ∀ (ps : List (Nat × Operand)) (as bs : List A) (cells : Array Value),
    fillSt env fs ps as = some bs → repAs μ w G as cells.toList → ∃ cells' : Array Value, Instr.fill place cells (ps.map fun p => (p.1, a.eval p.2)) = some cells' ∧ repAs μ w G bs cells'.toList
  | [], as, bs, cells, h, hr => by
    simp only [fillSt, Option.some.injEq] at h
    subst h
    exact ⟨cells, rfl, hr⟩
  | (i, x) :: ps, as, bs, cells, h, hr => by
    simp only [fillSt] at h
    split at h
    · rename_i off sz ag v h1 h2
      split at h
      · rename_i as' h0 h3 h4
        have hv := opnd_ok he h2
        have hsz := Nat.eq_of_beq_eq_true h3
        have hpos : 0 < sz := by simpa [Nat.blt_eq] using h0
        have hat := repV_atoms hv fun vs e => by subst e; simp [V.atoms] at hsz; omega
        have hl := repAs_length _ _ hat
        rw [repAs_iff] at hat hr
        obtain ⟨k1, k2⟩ := storeO_ok h4 hr hat
        have hle : off + sz ≤ cells.size := by
          have h5 : cells.toList.length = as.length := hr.length
          have := k2 (by intro e; rw [e] at hsz; simp at hsz; omega)
          simp at h5
          omega
        obtain ⟨cells', e1, e2⟩ := fill_step place cells i (a.eval x) (ps.map fun p => (p.1, a.eval p.2)) (hpl i off sz ag h1) (by simp at hl; omega) hle
        obtain ⟨cells'', e3, e4⟩ := fillSt_ok he hpl ps as' bs cells' h (by rw [e2]; exact (repAs_iff _ _).mpr k1)
        exact ⟨cells'', by rw [List.map_cons, e1, e3], e4⟩
      · cases h
    · cases h
theorem build_ok {t : TypeId} {ty : Ty} (ht : TyOk P t ty) {fs : List (Nat × Nat × Bool)} {eq : Bool} (hs : ty.sh = .st fs eq) {env : Env} {a : Act} (he : ER μ G env w a) {ps : Array (Nat × Operand)} {as : List A} (hf : fillSt env fs ps.toList ty.zero = some as) :
    PR P μ w G (Instr.build t (ps.map fun (i, x) => (i, a.eval x))) (.agg as) := by
  obtain ⟨d, hd, hsh, _⟩ := ht.und
  rw [hs] at hsh
  obtain ⟨⟨fields, rfl, hfs, hall⟩, _⟩ := hsh
  obtain ⟨i, hi, _, _, z, hz, hzo, _⟩ := ht.info
  have hmap : (fields.mapM (fun f => do pure (f.offset, ← sizeOf f.type) : Field → Sem (Nat × Nat))).run P w = .ok (fields.map fun f => (f.offset, P.cellsOf f.type)) w := by
    rw [Array.mapM_eq_mapM_toList, Sem.run_map, mapM_places _ (fun f hf => (hall f hf).1)]
    simp only [Result.andThen_ok]
    congr 1
    apply Array.ext'
    simp
  obtain ⟨cells, k1, k2⟩ := fillSt_ok he (place := ((fields.map fun f => (f.offset, P.cellsOf f.type))[·]?)) (fun i off sz ag h => by
    rw [nth_eq, ← hfs, List.getElem?_map] at h
    obtain ⟨fld, h1, h2⟩ := Option.map_eq_some_iff.mp h
    simp only [Prod.mk.injEq] at h2
    obtain ⟨rfl, rfl, rfl⟩ := h2
    have h3 : fields[i]? = some fld := by simpa using h1
    simp [h3]) ps.toList ty.zero as z.cells hf (hzo μ w G)
  refine ⟨.agg cells, ?_, ?_⟩
  · simp only [Instr.build, zeroValue, typeInfo, Sem.run_bind, run_program, hi, Result.andThen_ok, Sem.run_pure, hz, run_underlying hd, hmap, Array.toList_map, k1]
  · simp only [repV]
    exact ⟨cells, rfl, k2⟩
theorem buildA_ok {t : TypeId} {ty : Ty} (ht : TyOk P t ty) {n es : Nat} {ag : Bool} (hs : ty.sh = .arr n es ag) {a : Act} {ps : Array (Nat × Operand)} (hf : ps.toList = []) :
    PR P μ w G (Instr.build t (ps.map fun (i, x) => (i, a.eval x))) (.agg ty.zero) := by
  obtain ⟨d, hd, hsh, _⟩ := ht.und
  rw [hs] at hsh
  obtain ⟨et, rfl, i2, hi2, hsz⟩ := hsh
  obtain ⟨i, hi, _, _, z, hz, hzo, _⟩ := ht.info
  refine ⟨.agg z.cells, ?_, ?_⟩
  · simp only [Instr.build, zeroValue, typeInfo, Sem.run_bind, run_program, hi, Result.andThen_ok, Sem.run_pure, hz, run_underlying hd, run_size hi2, Array.toList_map, hf, List.map_nil, Instr.fill]
  · simp only [repV]
    exact ⟨_, rfl, hzo μ w G⟩
end Go.AM

/- Slices that are made, boxed variables, clears: what the machine does is what the program does; condition: the table of types fits the program. -/
namespace Go.AM
set_option linter.unusedVariables false
set_option linter.unusedSimpArgs false
open Go.RowKit
variable {P : Program} {μ : Mu} {w : World} {G : Nat → Prop} {sto : Sto}

theorem rep_own_new {w' : World} (μ : Mu) (nb : L) (B : Blk) : repV (upd μ nb B) w' G (.one (.own nb)) (.slice B.a B.len B.cap) := by
  simp only [repV, repA]
  exact ⟨_, upd_same _ _ _, rfl⟩
theorem rep_ptr_new {w' : World} (μ : Mu) (nb : L) (B : Blk) : repV (upd μ nb B) w' G (.one (.ptr nb 0)) (.pointer (some ⟨B.b, 0, none⟩)) := by
  simp only [repV, repA]
  exact ⟨_, upd_same _ _ _, rfl⟩
/-! ### Slices that are handed on for good -/
/-- The places that are read only from now on. -/
def Frz (μ : Mu) (G : Nat → Prop) (sto : Sto) (ls : Sto) : Nat → Prop := fun b => G b ∨ ∃ l c B, (lkL l ls).isSome = true ∧ lkC l sto = some c ∧ μ l = some B ∧ B.virt = false ∧ B.b = b
def AllNone (ls : Sto) : Prop := ∀ l c, lkL l ls = some c → c = none
theorem HR.frz (h : HR μ G sto w) {ls : Sto} (hn : AllNone ls) : HR μ (Frz μ G sto ls) (ls ++ sto) w := by
  have hlk : ∀ l c, lkC l (ls ++ sto) = some c → lkL l ls = none ∧ lkC l sto = some c := by
    intro l c hc
    rw [lkC_some, lkL_app] at hc
    cases e : lkL l ls with
    | none => rw [e] at hc; exact ⟨rfl, lkC_some.mpr hc⟩
    | some o => rw [e] at hc; rw [hn l o e] at hc; cases hc
  refine ⟨fun l c hc => ?_, fun l B hB => ?_, fun l l' c c' B B' hc hc' hB hB' hv hv' hne => ?_, fun b hb => ?_, h.tab.mono (fun _ _ => rfl) fun _ h => .inl h⟩
  · obtain ⟨e1, e2⟩ := hlk l c hc
    obtain ⟨B, h1, h2, h3⟩ := h.live l c e2
    refine ⟨B, h1, crep_mono (fun _ _ h => h) (fun _ _ => rfl) (fun _ h => .inl h) (fun _ => rfl) h2, fun hv => ⟨(h3 hv).1, ?_⟩⟩
    rintro (hg | ⟨l', c', B', k1, k2, k3, k4, k5⟩)
    · exact (h3 hv).2 hg
    · have : l ≠ l' := by rintro rfl; rw [e1] at k1; cases k1
      exact h.apart l l' c c' B B' e2 k2 h1 k3 hv k4 this k5.symm
  · rw [lkL_app]
    cases e : lkL l ls with
    | some o => rfl
    | none => exact h.known l B hB
  · exact h.apart l l' c c' B B' (hlk l c hc).2 (hlk l' c' hc').2 hB hB' hv hv' hne
  · rcases hb with hb | ⟨l, c, B, k1, k2, k3, k4, rfl⟩
    · exact h.good b hb
    · obtain ⟨B', e1, _, e2⟩ := h.live l c k2
      obtain rfl : B = B' := by rw [k3] at e1; exact Option.some.inj e1
      exact (e2 k4).1
theorem Chg.frz {ls : Sto} (hn : AllNone ls) {wr : Sto} {μ' : Mu} {G' : Nat → Prop} {w' : World} (h : HR μ G sto w) (hc : Chg μ (Frz μ G sto ls) (ls ++ sto) w wr μ' G' w') : Chg μ G sto w (wr ++ ls) μ' G' w' := by
  have hlive : ∀ b, Live μ (ls ++ sto) b → Live μ sto b := by
    rintro b ⟨l, c, B, h1, h2, h3, h4⟩
    refine ⟨l, c, B, ?_, h2, h3, h4⟩
    rw [lkC_some, lkL_app] at h1
    cases e : lkL l ls with
    | none => rw [e] at h1; exact lkC_some.mpr h1
    | some o => rw [e] at h1; rw [hn l o e] at h1; cases h1
  refine ⟨by rw [List.append_assoc]; exact hc.hr, hc.mu, fun b hb => hc.keep b (.inl hb), fun b hb => hc.gsub b (.inl hb), fun b hb => ?_, fun b hb hnl => hc.frame b hb fun hl => hnl (hlive b hl), hc.size, hc.os, hc.tape, hc.output, fun l B hB => ?_, fun b hb => ?_, hc.kk⟩
  · rcases hc.gnew b hb with (hg | ⟨l, c, B, k1, k2, k3, k4, rfl⟩) | h2 | h3
    · exact .inl hg
    · exact .inr (.inr ⟨l, c, B, k2, k3, k4, rfl⟩)
    · exact .inr (.inl h2)
    · exact .inr (.inr (hlive b h3))
  · rcases hc.new l B hB with h1 | h2 | h3 | h4
    · exact .inl h1
    · exact .inr (.inl h2)
    · exact .inr (.inr (.inl h3))
    · exact .inr (.inr (.inr (hlive _ h4)))
  · rw [List.append_assoc] at hb
    rcases hc.liv b hb with h1 | h1
    · exact .inl (hlive b h1)
    · exact .inr h1
theorem takenBy_none (env : Env) : ∀ ps, AllNone (takenBy env ps)
  | [], l, c, h => by simp [takenBy, lkL] at h
  | (i, x) :: ps, l, c, h => by
    simp only [takenBy] at h
    split at h
    · rw [lkL_cons] at h
      split at h
      · exact (Option.some.inj h).symm
      · exact takenBy_none env ps l c h
    · exact takenBy_none env ps l c h
theorem own_lst (h : HR μ G sto w) {l : L} {xs : List Int} (hc : lkC l sto = some (.row (.int .i64) xs)) {u : Value} (ha : repA μ w G (.own l) u) {G' : Nat → Prop} (hG : ∀ B, μ l = some B → B.virt = false → G' B.b) : repA μ w G' (.lst (.int .i64) xs false) u := by
  simp only [repA] at ha ⊢
  obtain ⟨B, hB, rfl⟩ := ha
  obtain ⟨g1, g2, g3, g4, g5⟩ := (h.get hc hB).1
  refine ⟨B.a, B.cap, by rw [g1], by omega, by simp, fun hne => ?_⟩
  have hv : B.virt = false := by
    cases hv : B.virt with
    | false => rfl
    | true => exact absurd (g4 hv).1 hne
  obtain ⟨g6, arr, te, g7, g8, g9⟩ := g5 hv
  refine ⟨B.b, 0, g6, hG B hB hv, fun i x hx => ?_⟩
  obtain ⟨us, k1, k2⟩ := g9 i x hx
  refine ⟨us, ?_, by simpa using k2⟩
  simp only [El.enc, repAs, repA] at k1
  obtain ⟨v, _, rfl, rfl, rfl⟩ := k1
  exact .cons rfl .nil
theorem bind_go {α β : Type} {s : Sto} {f : α → M β} : ∀ {m : M α} {rl rl' : List L} {ps ps' : List Prop} {b : β}, (m.bind f).go s rl ps = .ok b rl' ps' → ∃ a rl1 ps1, m.go s rl ps = .ok a rl1 ps1 ∧ (f a).go s rl1 ps1 = .ok b rl' ps'
  | .ret a, rl, rl', ps, ps', b, h => ⟨a, rl, ps, rfl, h⟩
  | .need p m, rl, rl', ps, ps', b, h => by
    simp only [M.bind, M.go] at h ⊢
    exact bind_go h
  | .get l k, rl, rl', ps, ps', b, h => by
    simp only [M.bind, M.go] at h ⊢
    split at h
    · exact bind_go h
    · cases h
  | .fail n, rl, rl', ps, ps', b, h => by simp [M.bind, M.go] at h
theorem fillRow_ok {env : Env} {a : Act} (h : HR μ G sto w) (he : ER μ G env w a) {e : El} {ls : Sto} : ∀ (ps : List (Nat × Operand)) (i : Nat) (ys : List e.T) {rl rl' : List L} {qs qs' : List Prop}, (∀ l, (lkL l (takenBy env ps)).isSome = true → (lkL l ls).isSome = true) →
    (fillRow e env i ps).go sto rl qs = .ok ys rl' qs' → ys.length = ps.length ∧ All2 (fun (p : Nat × Operand) (n : Nat) => p.1 = n) ps (List.range' i ps.length) ∧
      ∃ uss : List (List Value), All2 (fun (p : Nat × Operand) us => us = (a.eval p.2).cells.toList ∧ us.length = e.sz) ps uss ∧ All2 (repA μ w (Frz μ G sto ls)) (ys.flatMap e.enc) uss.flatten
  | [], i, ys, rl, rl', qs, qs', _, hg => by
    simp only [fillRow, M.go, MR.ok.injEq] at hg
    obtain ⟨rfl, _, _⟩ := hg
    exact ⟨rfl, .nil, [], .nil, .nil⟩
  | (j, x) :: ps, i, ys, rl, rl', qs, qs', hls, hg => by
    have key : ∀ (y : e.T), repAs μ w (Frz μ G sto ls) (e.enc y) (a.eval x).cells.toList → j = i → (∀ l, (lkL l (takenBy env ps)).isSome = true → (lkL l ls).isSome = true) → ∀ {rl1 qs1}, ((fillRow e env (i + 1) ps).bind fun ys => .ret (y :: ys)).go sto rl1 qs1 = .ok ys rl' qs' →
        ys.length = ((j, x) :: ps).length ∧ All2 (fun (p : Nat × Operand) (n : Nat) => p.1 = n) ((j, x) :: ps) (List.range' i ((j, x) :: ps).length) ∧
        ∃ uss : List (List Value), All2 (fun (p : Nat × Operand) us => us = (a.eval p.2).cells.toList ∧ us.length = e.sz) ((j, x) :: ps) uss ∧ All2 (repA μ w (Frz μ G sto ls)) (ys.flatMap e.enc) uss.flatten := by
      intro y hy hji hls' rl1 qs1 hg
      obtain ⟨ys', rl2, qs2, h1, h2⟩ := bind_go hg
      simp only [M.go, MR.ok.injEq] at h2
      obtain ⟨rfl, _, _⟩ := h2
      obtain ⟨k1, k2, uss, k3, k4⟩ := fillRow_ok h he ps (i + 1) ys' hls' h1
      refine ⟨by simp [k1], ?_, (a.eval x).cells.toList :: uss, .cons ⟨rfl, ?_⟩ k3, ?_⟩
      · rw [List.length_cons, List.range'_succ]
        exact .cons hji k2
      · rw [repAs_length _ _ hy, enc_length]
      · rw [List.flatMap_cons, List.flatten_cons]
        exact ((repAs_iff _ _).mp hy).append k4
    simp only [fillRow] at hg
    split at hg
    · rename_i l hj hx
      have hji := Nat.eq_of_beq_eq_true hj
      simp only [M.go] at hg
      split at hg
      · rename_i c hc
        split at hg
        · rename_i xs
          split at hg
          · rename_i y hy
            have hown := opnd_ok he hx
            simp only [repV] at hown
            have hin : (lkL l ls).isSome = true := hls l (by simp only [takenBy, hx]; rw [lkL_cons, if_pos rfl]; rfl)
            have hlst := own_lst h hc hown (G' := Frz μ G sto ls) (fun B hB hv => .inr ⟨l, _, B, hin, hc, hB, hv, rfl⟩)
            refine key y ?_ hji (fun l' hl' => hls l' (by simp only [takenBy, hx]; rw [lkL_cons]; split <;> first | rfl | exact hl')) hg
            refine dec_rep hy ?_
            rw [repA_cells hlst]
            simp only [repAs]
            exact ⟨_, [], rfl, hlst, rfl⟩
          · simp [M.go] at hg
        · simp [M.go] at hg
      · cases hg
    · rename_i v hne hj hx
      have hji := Nat.eq_of_beq_eq_true hj
      split at hg
      · rename_i y hy
        refine key y ?_ hji (fun l' hl' => hls l' (by
          simp only [takenBy]
          split
          · rw [lkL_cons]; split <;> first | rfl | exact hl'
          · exact hl')) hg
        have hv := opnd_ok he hx
        have hat := repV_atoms hv fun vs ev => by
          subst ev
          simp only [V.atoms] at hy
          cases e <;> simp [El.dec] at hy
        exact repAs_mono (fun _ _ h => h) (fun _ _ => rfl) (fun _ h => .inl h) _ _ (dec_rep hy hat)
      · simp [M.go] at hg
    · simp [M.go] at hg
theorem storeL_app : ∀ (vs pre post : List Value), vs.length ≤ post.length → storeL (pre ++ post) pre.length vs = pre ++ vs ++ post.drop vs.length
  | [], pre, post, _ => by simp [storeL]
  | v :: vs, pre, post, h => by
    cases post with
    | nil => simp at h
    | cons p post =>
      simp only [storeL]
      rw [List.set_append_right _ _ (by omega), Nat.sub_self, List.set_cons_zero, show pre ++ v :: post = (pre ++ [v]) ++ post by simp, show pre.length + 1 = (pre ++ [v]).length by simp, storeL_app vs _ _ (by simp at h; omega)]
      simp
theorem fill_row {a : Act} {sz : Nat} : ∀ (ps : List (Nat × Operand)) (uss : List (List Value)) (i : Nat) (pre post : List Value) (cells : Array Value), All2 (fun (p : Nat × Operand) (n : Nat) => p.1 = n) ps (List.range' i ps.length) →
    All2 (fun (p : Nat × Operand) us => us = (a.eval p.2).cells.toList ∧ us.length = sz) ps uss → cells.toList = pre ++ post → pre.length = i * sz → post.length = ps.length * sz →
    ∃ cells' : Array Value, Instr.fill (fun i => some (i * sz, sz)) cells (ps.map fun p => (p.1, a.eval p.2)) = some cells' ∧ cells'.toList = pre ++ uss.flatten
  | [], uss, i, pre, post, cells, _, h2, h3, h4, h5 => by
    cases h2
    have : post = [] := List.length_eq_zero_iff.mp (by simpa using h5)
    subst this
    exact ⟨cells, rfl, by simpa using h3⟩
  | (j, x) :: ps, uss, i, pre, post, cells, h1, h2, h3, h4, h5 => by
    rw [List.length_cons, List.range'_succ] at h1
    cases h1 with
    | cons hj h1 =>
      cases h2 with
      | @cons _ us _ uss' hu h2 =>
        simp only at hj hu
        subst hj
        obtain ⟨rfl, hul⟩ := hu
        have hcs : cells.size = pre.length + post.length := by
          have := congrArg List.length h3
          simpa using this
        rw [List.length_cons, Nat.add_mul, Nat.one_mul] at h5
        obtain ⟨cells', e1, e2⟩ := fill_step (fun i => some (i * sz, sz)) cells j (a.eval x) (ps.map fun p => (p.1, a.eval p.2)) (off := j * sz) (size := sz) rfl (by simpa using hul) (by omega)
        rw [h3, ← h4, storeL_app _ _ _ (by omega)] at e2
        obtain ⟨cells'', e3, e4⟩ := fill_row ps uss' (j + 1) (pre ++ (a.eval x).cells.toList) _ cells' h1 h2 e2 (by rw [List.length_append, hul, h4, Nat.add_mul]; omega) (by rw [List.length_drop, hul]; omega)
        refine ⟨cells'', by rw [List.map_cons, e1, e3], ?_⟩
        rw [e4, List.flatten_cons, List.append_assoc]
theorem buildSlice_ok {t et : TypeId} {i : TypeInfo} {z : Value} {e : El} (ht : P.underlying t = some (.slice et)) (hi : P.info? et = some i) (hsz : i.size = e.sz) (hz : i.zero = some z) (h : HR μ G sto w) {nb : L} (hf : Fresh nb sto) {env : Env} {a : Act} (he : ER μ G env w a)
    {ps : Array (Nat × Operand)} {n : Nat} (hn : ps.toList.length = n) (hmax : n * e.sz ≤ 16777216) {ys : List e.T} {rl rl' : List L} {qs qs' : List Prop} (hg : (fillRow e env 0 ps.toList).go sto rl qs = .ok ys rl' qs') :
    ∃ u w' μ' G', (Instr.buildSlice t n (ps.map fun (i, x) => (i, a.eval x))).run P w = .ok u w' ∧ repV μ' w' G' (.one (.own nb)) u ∧ Chg μ G sto w ((nb, some (.row e ys)) :: takenBy env ps.toList) μ' G' w' := by
  obtain ⟨k1, k2, uss, k3, k4⟩ := fillRow_ok h he (ls := takenBy env ps.toList) ps.toList 0 ys (fun _ h => h) hg
  have hall : uss.flatten.length = n * e.sz := by
    have := flat_length k4
    rw [this, k1, hn]
  let z0 : Array Value := if n * e.sz = 0 then #[] else z.cells
  obtain ⟨cells, c1, c2⟩ := fill_row (a := a) (sz := e.sz) ps.toList uss 0 [] ((Array.range (n * e.sz)).map (z0[· % z0.size]!)).toList ((Array.range (n * e.sz)).map (z0[· % z0.size]!)) k2 k3 (by simp) (by simp) (by simp [← hn])
  have hnone := takenBy_none env ps.toList
  have hh := h.frz hnone
  have hf' : Fresh nb (takenBy env ps.toList ++ sto) := by
    refine ⟨?_, hf.nk⟩
    rw [lkL_app]
    cases e' : lkL nb (takenBy env ps.toList) with
    | none => exact hf.no
    | some o =>
      exfalso
      -- a place that is taken is known
      have : ∀ qs, (lkL nb (takenBy env qs)).isSome = true → False := by
        intro qs
        induction qs with
        | nil => intro h; simp [takenBy, lkL] at h
        | cons q qs ih =>
          obtain ⟨i, x⟩ := q
          intro hq
          simp only [takenBy] at hq
          split at hq
          · rename_i l hx
            rw [lkL_cons] at hq
            split at hq
            · rename_i e0
              subst e0
              have := opnd_ok he hx
              simp only [repV, repA] at this
              obtain ⟨B, hB, _⟩ := this
              rw [fresh_mu h hf.no] at hB
              cases hB
            · exact ih hq
          · exact ih hq
      exact this ps.toList (by rw [e']; rfl)
  have hrun : (Instr.buildSlice t n (ps.map fun (i, x) => (i, a.eval x))).run P w = .ok (.slice (some ⟨w.heap.size, 0, none⟩) n n) (w.alloc (.cells cells et (0, 0))) := by
    have hle : ¬ (n * i.size > 2 ^ 24) := by rw [hsz]; omega
    by_cases h0 : n * e.sz = 0
    · have hz0 : z0 = #[] := by simp [z0, h0]
      rw [hz0] at c1
      simp only [Instr.buildSlice, Sem.run_bind, run_underlying ht, run_size hi, Result.andThen_ok, Sem.run_pure, hsz] at hle ⊢
      rw [if_neg hle, if_pos h0]
      simp only [Sem.run_bind, Sem.run_pure, Result.andThen_ok, Array.toList_map, c1, newRow, run_newObj]
      rfl
    · have hz0 : z0 = z.cells := by simp [z0, h0]
      rw [hz0] at c1
      simp only [Instr.buildSlice, Sem.run_bind, run_underlying ht, run_size hi, Result.andThen_ok, Sem.run_pure, hsz] at hle ⊢
      rw [if_neg hle, if_neg h0]
      simp only [Sem.run_bind, Sem.run_pure, Result.andThen_ok, Array.toList_map, zeroValue, typeInfo, run_program, hi, hz, c1, newRow, run_newObj]
      rfl
  have hchg := Chg.alloc hh (w0 := w) ⟨rfl, rfl, rfl, rfl⟩ hf' (gone := []) (by simp) (arr := cells) (te := et) (len := n) (cap := n) (sz := e.sz) (c := .row e ys) (by
      rintro μ' w' B rfl hnew hA
      refine crep_row (e := e) (cs := uss.flatten) (rest := []) ((repAs_iff _ _).mp (hA _ _ ((repAs_iff _ _).mpr k4))) (by simpa using c2) hnew (by rw [k1, hn]) (Nat.le_refl _) ?_
      rw [← Array.length_toList, c2, List.nil_append, hall])
  exact ⟨_, _, _, _, hrun, rep_own_new _ _ _, Chg.frz hnone h hchg⟩
/-! ### Variables -/
theorem alloc_ok {t : TypeId} {ty : Ty} (ht : TyOk P t ty) (h : HR μ G sto w) {nb : L} (hf : Fresh nb sto) : AP P μ G sto w (.one (.ptr nb 0)) [(nb, some (.cells ty.zero))] (Instr.alloc t true (.tuple #[])) := by
  obtain ⟨i, hi, _, _, z, hz, hzo, _⟩ := ht.info
  have hchg := Chg.alloc h (w0 := w) ⟨rfl, rfl, rfl, rfl⟩ hf (gone := []) (by simp) (arr := z.cells) (te := t) (len := 0) (cap := 0) (sz := 1) (c := .cells ty.zero) (by
    rintro μ' w' B rfl hnew hA
    exact ⟨rfl, _, t, hnew, hzo _ _ _⟩)
  exact ⟨_, _, _, by simp [Instr.alloc, zeroValue, typeInfo, hi, hz, newVar, newRow], rep_ptr_new _ _ _, hchg⟩
theorem box_ok {t : TypeId} (h : HR μ G sto w) {nb : L} (hf : Fresh nb sto) {v : V} {u : Value} (hv : repV μ w G v u) (hnt : ∀ vs, v ≠ .tup vs) : AP P μ G sto w (.one (.ptr nb 0)) [(nb, some (.cells v.atoms))] (Instr.box t u) := by
  have hat := repV_atoms hv hnt
  have hchg := Chg.alloc h (w0 := w) ⟨rfl, rfl, rfl, rfl⟩ hf (gone := []) (by simp) (arr := u.cells) (te := t) (len := 0) (cap := 0) (sz := 1) (c := .cells v.atoms) (by
    rintro μ' w' B rfl hnew hA
    exact ⟨rfl, _, t, hnew, hA _ _ hat⟩)
  exact ⟨_, _, _, by simp [Instr.box, newVar, newRow], rep_ptr_new _ _ _, hchg⟩
theorem zeros_flat {r : A → Value → Prop} {e : El} {zs : List Value} (h : All2 r (e.enc e.d) zs) : ∀ n, All2 r ((List.replicate n e.d).flatMap e.enc) (List.replicate n zs).flatten
  | 0 => .nil
  | n + 1 => by
    rw [List.replicate_succ, List.flatMap_cons, List.replicate_succ, List.flatten_cons]
    exact h.append (zeros_flat h n)
theorem replicate_flatten_get {zs : List Value} (hz : 0 < zs.length) : ∀ (n j : Nat), (List.replicate n zs).flatten[j]? = if j < n * zs.length then zs[j % zs.length]? else none
  | 0, j => by simp
  | n + 1, j => by
    rw [List.replicate_succ, List.flatten_cons, List.getElem?_append]
    by_cases h : j < zs.length
    · have : j < (n + 1) * zs.length := by rw [Nat.add_mul]; omega
      rw [if_pos h, if_pos this, Nat.mod_eq_of_lt h]
    · rw [if_neg h, replicate_flatten_get hz n, Nat.add_mul, Nat.one_mul]
      have hm : (j - zs.length) % zs.length = j % zs.length := by
        conv => rhs; rw [show j = j - zs.length + zs.length by omega]
        rw [Nat.add_mod_right]
      by_cases h2 : j - zs.length < n * zs.length
      · rw [if_pos h2, if_pos (by omega), hm]
      · rw [if_neg h2, if_neg (by omega)]
theorem sz_pos (e : El) : 0 < e.sz := by cases e <;> simp [El.sz]
theorem zeros_arr {zs : Array Value} (hz : 0 < zs.size) (n : Nat) : ((Array.range (n * zs.size)).map (zs[· % zs.size]!)).toList = (List.replicate n zs.toList).flatten := by
  apply List.ext_getElem?
  intro j
  rw [replicate_flatten_get (by simpa using hz)]
  simp only [Array.length_toList, Array.toList_map, Array.toList_range, List.getElem?_map]
  by_cases h : j < n * zs.size
  · have hlt : j % zs.size < zs.size := Nat.mod_lt _ hz
    rw [if_pos h, List.getElem?_range h, Option.map_some, getElem!_pos zs _ hlt]
    simp [hlt]
  · rw [if_neg h, List.getElem?_eq_none (by simp; omega)]
    rfl
theorem makeSlice_ok {t et : TypeId} {i : TypeInfo} {z : Value} {e : El} (ht : P.underlying t = some (.slice et)) (hi : P.info? et = some i) (hsz : i.size = e.sz) (hz : i.zero = some z) (hzo : zeroOk (e.enc e.d) z) (h : HR μ G sto w) {nb : L} (hf : Fresh nb sto) {n : Int} (h0 : 0 ≤ n)
    (hb : n.toNat * i.bytes ≤ 140737488355328) (h63 : ∀ n, n * i.bytes ≤ 140737488355328 → n ≤ 9223372036854775807) : AP P μ G sto w (.one (.own nb)) [(nb, some (.row e (List.replicate n.toNat e.d)))] (Instr.makeSlice t (.int .i64 n) (.int .i64 n)) := by
  have hzc : z.cells.size = e.sz := by rw [zero_size hzo, enc_length]
  have hn63 := h63 _ hb
  have hw : IntKind.i64.wrap n = n := by rw [wrap64_eq]; unfold wrap64; omega
  have hbi : ((i.bytes : Nat) : Int) * n ≤ 140737488355328 := by
    have : ((n.toNat * i.bytes : Nat) : Int) ≤ 140737488355328 := by omega
    rw [Int.natCast_mul, toNat_cast h0] at this
    rwa [Int.mul_comm]
  have e1 : ¬ n < 0 := by omega
  have e2 : ¬ ((i.bytes : Nat) : Int) * n > 2 ^ 48 := by omega
  let z0 : Array Value := if n.toNat * e.sz = 0 then #[] else z.cells
  let arr : Array Value := (Array.range (n.toNat * e.sz)).map (z0[· % z0.size]!)
  have hrun : (Instr.makeSlice t (.int .i64 n) (.int .i64 n)).run P w = .ok (.slice (some ⟨w.heap.size, 0, none⟩) n.toNat n.toNat) (w.alloc (.cells arr et (0, 0))) := by
    by_cases h0 : n.toNat * e.sz = 0
    · have hz0 : z0 = #[] := by simp [z0, h0]
      simp only [Instr.makeSlice, Sem.run_bind, run_underlying ht, asInt, asIntOf, Sem.run_pure, Result.andThen_ok, typeInfo, run_program, hi, hw, arr, hz0]
      rw [if_neg (by simp [e1]; omega)]
      simp only [Sem.run_bind, run_askRoom, Result.andThen_ok, run_size hi, hsz]
      rw [if_pos h0]
      simp only [Sem.run_bind, Sem.run_pure, Result.andThen_ok, newRow, run_newObj]
      rfl
    · have hz0 : z0 = z.cells := by simp [z0, h0]
      simp only [Instr.makeSlice, Sem.run_bind, run_underlying ht, asInt, asIntOf, Sem.run_pure, Result.andThen_ok, typeInfo, run_program, hi, hw, arr, hz0]
      rw [if_neg (by simp [e1]; omega)]
      simp only [Sem.run_bind, run_askRoom, Result.andThen_ok, run_size hi, hsz]
      rw [if_neg h0]
      simp only [Sem.run_bind, Sem.run_pure, Result.andThen_ok, zeroValue, typeInfo, run_program, hi, hz, newRow, run_newObj]
      rfl
  have harr : arr.toList = (List.replicate n.toNat z.cells.toList).flatten := by
    by_cases hz0 : n.toNat * e.sz = 0
    · have hn0 : n.toNat = 0 := by
        rcases Nat.mul_eq_zero.mp hz0 with h | h
        · exact h
        · have := sz_pos e; omega
      simp [arr, hz0, hn0]
    · have : z0 = z.cells := by simp [z0, hz0]
      simp only [arr, this, ← hzc]
      exact zeros_arr (by rw [hzc]; exact sz_pos e) _
  have hchg := Chg.alloc h (w0 := w) ⟨rfl, rfl, rfl, rfl⟩ hf (gone := []) (by simp) (arr := arr) (te := et) (len := n.toNat) (cap := n.toNat) (sz := e.sz) (c := .row e (List.replicate n.toNat e.d)) (by
    rintro μ' w' B rfl hnew hA
    exact crep_row (e := e) (rest := []) (zeros_flat ((repAs_iff _ _).mp (hzo μ' w' G)) n.toNat) (by rw [harr]; simp) hnew (by simp) (Nat.le_refl _) (by simp [arr]))
  exact ⟨_, _, _, hrun, rep_own_new _ _ _, hchg⟩
/-! ### Clears -/
/-- Elements in the midst of a row, anew. -/
theorem crep_splice {B : Blk} {e : El} {xs ys : List e.T} {p : Nat} {news : List Value} (hcr : crep μ w G B (.row e xs)) (hbG : B.virt = false → ¬ G B.b) (hp : p + ys.length ≤ xs.length) (hv : B.virt = false) (hn : All2 (repA μ w G) (ys.flatMap e.enc) news) :
    crep μ (w.setCells B.b (p * e.sz) news) G B (.row e (xs.take p ++ ys ++ xs.drop (p + ys.length))) := by
  obtain ⟨g1, g2, g3, g4, g5⟩ := hcr
  obtain ⟨g6, arr, te', g7, g8, g9⟩ := g5 hv
  have hnl : news.length = ys.length * e.sz := flat_length hn
  have hth : w.there B.b (p * e.sz) news.length := by
    refine there_of g7 ?_
    rw [g8, hnl, ← Nat.add_mul]
    exact Nat.mul_le_mul_right _ (by omega)
  have hkeep : Keep G w (w.setCells B.b (p * e.sz) news) := fun b hb => setCells_other _ _ _ fun e => hbG hv (e ▸ hb)
  have hheap := setCells_heap news (p * e.sz) w arr g7
  have hmv := fun as us => repAs_mono (μ := μ) (μ' := μ) (fun _ _ h => h) hkeep (fun _ h => h) (G := G) (G' := G) as us
  have hlen : (xs.take p ++ ys ++ xs.drop (p + ys.length)).length = xs.length := by simp; omega
  refine ⟨by rw [hlen]; exact g1, g2, g3, fun h => (by rw [hv] at h; cases h), fun _ => ⟨g6, _, te', hheap, by simp [storeL_length, g8], fun k x hx => ?_⟩⟩
  have hpl : (xs.take p).length = p := by simp; omega
  by_cases c1 : k < p
  · rw [List.append_assoc, List.getElem?_append_left (by omega), List.getElem?_take, if_pos c1] at hx
    obtain ⟨us, m1, m2⟩ := g9 k x hx
    refine ⟨us, hmv _ _ m1, ?_⟩
    have hul : us.length = e.sz := by rw [repAs_length _ _ m1, enc_length]
    refine World.rangeAt_setCells_apart m2 _ _ _ (.inr (.inl ?_))
    have : (k + 1) * e.sz ≤ p * e.sz := Nat.mul_le_mul_right _ (by omega)
    rw [Nat.add_mul] at this
    omega
  · by_cases c2 : k < p + ys.length
    · rw [List.append_assoc, List.getElem?_append_right (by omega), hpl, List.getElem?_append_left (by omega)] at hx
      obtain ⟨us, m1, m2⟩ := flat_get hn _ x hx
      refine ⟨us, hmv _ _ ((repAs_iff _ _).mpr m1), fun j v hj => ?_⟩
      have := World.rangeAt_setCells_same w B.b (p * e.sz) news hth _ v (m2 j v hj)
      rw [← Nat.add_assoc, ← Nat.add_mul] at this
      rwa [show p + (k - p) = k by omega] at this
    · rw [List.append_assoc, List.getElem?_append_right (by omega), hpl, List.getElem?_append_right (by omega), List.getElem?_drop] at hx
      rw [show p + ys.length + (k - p - ys.length) = k by omega] at hx
      obtain ⟨us, m1, m2⟩ := g9 k x hx
      refine ⟨us, hmv _ _ m1, World.rangeAt_setCells_apart m2 _ _ _ (.inr (.inr ?_))⟩
      have : (p + ys.length) * e.sz ≤ k * e.sz := Nat.mul_le_mul_right _ (by omega)
      rw [Nat.add_mul] at this
      omega
theorem zeroCells_list {zs : Array Value} (hz : 0 < zs.size) (n : Nat) : (Builtin.zeroCells zs n).toList = (List.replicate n zs.toList).flatten := zeros_arr hz n
theorem Chg.same (h : HR μ G sto w) {l : L} {c : C} (hc : lkC l sto = some c) : Chg μ G sto w [(l, some c)] μ G w := by
  obtain ⟨B, hB, hcr, hlt⟩ := h.live l c hc
  refine Chg.one h ⟨rfl, rfl, rfl⟩ (Nat.le_refl _) (fun _ => False) (fun _ _ _ => rfl) (fun _ h => h.elim) (fun _ _ _ _ _ _ h => h.elim) (fun _ _ h => h) (fun _ => rfl) l c B (by rw [lkL_cons, if_pos rfl]) ?_ hB (fun _ _ h _ => h) (fun _ _ => hcr) (fun hv => .inr ⟨l, c, B, hc, hB, hv, rfl, .inl rfl⟩)
  intro l' c' hl
  rw [lkL_cons] at hl
  split at hl
  · rename_i e; subst e; simp at hl; exact ⟨rfl, hl.symm⟩
  · cases hl
theorem clear_ok {t tt : TypeId} {ty : Ty} (ht : TyOk P t ty) (h : HR μ G sto w) {a : V} {u : Value} (ha : repV μ w G a u) {v : V} {wr : Sto} {rl rl' : List L} {ps ps' : List Prop} (hg : (clearV ty.sh a).go sto rl ps = .ok ⟨v, wr⟩ rl' ps') (hp : ∀ p ∈ ps', p) :
    ∃ w', (Builtin.clear_ #[t] tt #[u]).run P w = .ok (.tuple #[]) w' ∧ v = .tup [] ∧ Chg μ G sto w wr μ G w' := by
  unfold clearV at hg
  split at hg
  · rename_i l off len
    simp only [M.go] at hg
    split at hg
    · rename_i c hc
      cases c with
      | cells as => simp [M.go] at hg
      | row e xs =>
        simp only at hg
        split at hg
        · rename_i e' et h1
          obtain ⟨h3, i, h4, h5, z, h6, h7⟩ := sl_und ht h1
          split at hg
          rotate_left
          · simp [M.go] at hg
          rename_i zs hcast
          obtain ⟨rfl, hc2⟩ := cast_ok hcast
          simp only at hc2
          subst hc2
          simp only [M.go, MR.ok.injEq, Upd.mk.injEq] at hg
          obtain ⟨⟨rfl, rfl⟩, _, rfl⟩ := hg
          have hfit := hp _ List.mem_cons_self
          simp only [repV, repA] at ha
          obtain ⟨B, o, hB, rfl, hol, ho⟩ := ha
          obtain ⟨hcr, hlt⟩ := h.get hc hB
          have hcr' := hcr
          obtain ⟨g1, g2, g3, g4, g5⟩ := hcr
          by_cases hl0 : len = 0
          · subst hl0
            have : zs.take off ++ List.replicate 0 e.d ++ zs.drop (off + 0) = zs := by simp
            rw [this]
            refine ⟨w, ?_, rfl, Chg.same h hc⟩
            cases o <;> simp [Builtin.clear_, Sem.run_bind, run_underlying h3]
          · have hv : B.virt = false := by
              cases hv : B.virt with
              | false => rfl
              | true => have e0 := (g4 hv).1; rw [e0] at hfit; simp only [List.length_nil] at hfit; omega
            have hzc : z.cells.size = e.sz := by rw [zero_size h7, enc_length]
            obtain ⟨g6, arr, te, g7, g8, g9⟩ := g5 hv
            have hzl := zeroCells_list (zs := z.cells) (by rw [hzc]; exact sz_pos e) len
            have hz0 : All2 (repA μ w G) (e.enc e.d) z.cells.toList := (repAs_iff _ _).mp (h7 μ w G)
            have hn := zeros_flat hz0 len
            rw [← hzl] at hn
            have hnl : (Builtin.zeroCells z.cells len).toList.length = len * e.sz := by rw [flat_length hn]; simp
            have hth : w.there B.b (off * e.sz) (Builtin.zeroCells z.cells len).toList.length := by
              refine there_of g7 ?_
              rw [g8, hnl, ← Nat.add_mul]
              exact Nat.mul_le_mul_right _ (by omega)
            have hst := run_storeCells_cells (P := P) B.b (off * e.sz) (Builtin.zeroCells z.cells len).toList 0 w (fun j hj => by simpa using (hth j hj).1) (fun j hj => by simpa using (hth j hj).2) (repAs_one ((repAs_iff _ _).mpr hn))
            simp only [Nat.add_zero] at hst
            rw [ho (by omega), g3]
            refine ⟨_, ?_, rfl, Chg.write h hc hB hv (o := off * e.sz) (vs := (Builtin.zeroCells z.cells len).toList) ?_⟩
            · obtain ⟨n, rfl⟩ : ∃ n, len = n + 1 := ⟨len - 1, by omega⟩
              simp [Builtin.clear_, Sem.run_bind, run_underlying h3, zeroValue, typeInfo, h4, h6, hst]
            · have := crep_splice hcr' (fun hv => (hlt hv).2) (p := off) (ys := List.replicate len e.d) (by simpa using hfit) hv hn
              simpa using this
        · simp [M.go] at hg
    · cases hg
  · simp [M.go] at hg
end Go.AM

/- One operation: what the machine does is what the program does; condition: the table of types fits the program. -/
namespace Go.AM
set_option linter.unusedVariables false
set_option linter.unusedSimpArgs false
open Go.RowKit
variable {P : Program} {μ : Mu} {w : World} {G : Nat → Prop} {sto : Sto} {tab : Tab}

theorem tySl_ok (hT : TabOk P tab) {t : TypeId} {e : El} {bytes : Nat} (h : tySl tab t = some (e, bytes)) : ∃ et i z, P.underlying t = some (.slice et) ∧ P.info? et = some i ∧ i.size = e.sz ∧ i.zero = some z ∧ zeroOk (e.enc e.d) z ∧ i.bytes = bytes ∧ ∀ n, n * i.bytes ≤ 140737488355328 → n ≤ 9223372036854775807 := by
  unfold tySl at h
  split at h
  · rename_i e' et _ _ _ _ _ hty
    split at h
    · rename_i te hte
      split at h
      · rename_i hb
        simp only [Option.some.injEq, Prod.mk.injEq] at h
        obtain ⟨rfl, rfl⟩ := h
        obtain ⟨h1, i, h2, h3, z, h4, h5⟩ := sl_und (hT _ _ hty) rfl
        obtain ⟨i', h6, _, h7, _⟩ := (hT _ _ hte).info
        obtain rfl : i = i' := by rw [h2] at h6; exact Option.some.inj h6
        refine ⟨et, i, z, h1, h2, h3, h4, h5, h7, fun n hn => ?_⟩
        have hpos : 0 < i.bytes := by rw [h7]; simpa [Nat.blt_eq] using hb
        have : n * 1 ≤ n * i.bytes := Nat.mul_le_mul_left _ hpos
        omega
      · cases h
    · cases h
  · cases h
theorem PR.post {s : Sem Value} {v : V} (h : HR μ G sto w) (hs : PR P μ w G s v) : OpPost μ G sto w v [] ((do pure (.value (← s)) : Sem Next).run P w) := by
  obtain ⟨u, h1, h2⟩ := hs
  refine ⟨u, w, μ, G, .inl ?_, h2, Chg.refl h⟩
  rw [Sem.run_bind, h1]
  rfl
theorem AP.post {s : Sem Value} {v : V} {wr : Sto} (hs : AP P μ G sto w v wr s) : OpPost μ G sto w v wr ((do pure (.value (← s)) : Sem Next).run P w) := by
  obtain ⟨u, w', μ', h1, h2, h3⟩ := hs
  refine ⟨u, w', μ', G, .inl ?_, h2, h3⟩
  rw [Sem.run_bind, h1]
  rfl
theorem ret_go {s : Sto} {a v : V} {wr : Sto} {x : Sto} {rl rl' : List L} {ps ps' : List Prop} (h : (M.ret (⟨a, x⟩ : Upd)).go s rl ps = .ok ⟨v, wr⟩ rl' ps') : v = a ∧ wr = x ∧ ps' = ps := by
  simp only [M.go, MR.ok.injEq, Upd.mk.injEq] at h
  obtain ⟨⟨rfl, rfl⟩, _, rfl⟩ := h
  exact ⟨rfl, rfl, rfl⟩
theorem arr2 {α : Type} {x : Array α} {a b : α} (h : x.toList = [a, b]) : x = #[a, b] := Array.ext' h
theorem arr1 {α : Type} {x : Array α} {a : α} (h : x.toList = [a]) : x = #[a] := Array.ext' h
theorem repVs_two {v1 v2 : V} {us : List Value} (h : repVs μ w G [v1, v2] us) : ∃ u1 u2, us = [u1, u2] ∧ repV μ w G v1 u1 ∧ repV μ w G v2 u2 := by
  simp only [repVs] at h
  obtain ⟨u1, _, rfl, h1, u2, _, rfl, h2, rfl⟩ := h
  exact ⟨u1, u2, rfl, h1, h2⟩
theorem repVs_one' {v1 : V} {us : List Value} (h : repVs μ w G [v1] us) : ∃ u1, us = [u1] ∧ repV μ w G v1 u1 := by
  simp only [repVs] at h
  obtain ⟨u1, _, rfl, h1, rfl⟩ := h
  exact ⟨u1, rfl, h1⟩
theorem flat_atoms : ∀ {vs : List V} {us : List Value}, repVs μ w G vs us → (∀ v ∈ vs, ∃ a, v = .one a) → repAs μ w G (vs.flatMap V.atoms) us
  | [], us, h, _ => by
    simp only [repVs] at h
    subst h
    simp [repAs]
  | v :: vs, us, h, hv => by
    simp only [repVs] at h
    obtain ⟨u, us', rfl, h1, h2⟩ := h
    obtain ⟨a, rfl⟩ := hv v List.mem_cons_self
    simp only [repV] at h1
    simp only [List.flatMap_cons, V.atoms, List.singleton_append, repAs]
    exact ⟨u, us', rfl, h1, flat_atoms h2 fun v hm => hv v (List.mem_cons_of_mem _ hm)⟩
theorem extract_ok {v : V} {u : Value} {vs : List V} (h : repV μ w G (.tup vs) u) {i : Nat} (hi : nth vs i = some v) : PR P μ w G (Instr.extract u i) v := by
  simp only [repV] at h
  obtain ⟨us, rfl, h⟩ := h
  rw [repVs_iff] at h
  rw [nth_eq] at hi
  obtain ⟨z, h1, h2⟩ := h.get i v hi
  refine ⟨z, ?_, h2⟩
  have : us[i]? = some z := by simpa using h1
  simp [Instr.extract, this]
theorem oneAtoms_ok : ∀ {vs : List V} {as : List A} {us : List Value}, oneAtoms vs = some as → repVs μ w G vs us → repAs μ w G as us
  | [], as, us, h, hr => by
    simp only [oneAtoms, Option.some.injEq] at h
    subst h
    simpa [repVs, repAs] using hr
  | v :: vs, as, us, h, hr => by
    cases v with
    | one a =>
      simp only [oneAtoms] at h
      split at h
      · rename_i as' h1
        obtain rfl := Option.some.inj h
        simp only [repVs, repV] at hr
        obtain ⟨u, us', rfl, k1, k2⟩ := hr
        simp only [repAs]
        exact ⟨u, us', rfl, k1, oneAtoms_ok h1 k2⟩
      · cases h
    | agg as => simp [oneAtoms] at h
    | tup vs => simp [oneAtoms] at h
theorem builtinM_ok (hT : TabOk P tab) (h : HR μ G sto w) {nb : L} {b : Builtin} {ts : Array TypeId} {ty : TypeId} {cs : Array Bool} {ovs : Option (List V)} {args : Array Value} {v : V} {wr : Sto} {rl : List L} {ps : List Prop} {dst pos after guard} {x : Array Operand} (hfr : isAlloc (⟨dst, .call ⟨.builtin b, x, ts⟩, ty, pos, after, guard⟩ : Oper).op = true → (lkL nb wr).isSome = true → Fresh nb sto)
    (hvs : ∀ vs, ovs = some vs → repVs μ w G vs args.toList) (hg : (builtinM tab nb b ts.toList ovs).go sto [] [] = .ok ⟨v, wr⟩ rl ps) (hp : ∀ p ∈ ps, p) : OpPost μ G sto w v wr ((builtin b ts ty cs args).run P w) := by
  unfold builtinM at hg
  split at hg
  · rename_i t v1 hts
    obtain ⟨u1, ha, hr⟩ := repVs_one' (hvs _ rfl)
    rw [arr1 hts, arr1 ha]
    split at hg
    · rename_i tt htt
      obtain ⟨rfl, hpr⟩ := lenV_ok (tt := ty) (hT _ _ htt) h hr hg
      exact hpr.post h
    · simp [M.go] at hg
  · rename_i t t' v1 v2 hts
    obtain ⟨u1, u2, ha, hr1, hr2⟩ := repVs_two (hvs _ rfl)
    rw [arr2 hts, arr2 ha]
    split at hg
    · rename_i e bytes tt' htt htt'
      obtain ⟨et, i, z, h1, h2, h3, h4, h5, h6, h7⟩ := tySl_ok hT htt
      obtain ⟨ys, rl1, ps1, k1, k2⟩ := bind_go hg
      have hY := els_ok (hT _ _ htt') h hr2 k1 (fun p hm => hp p ((go_ok k2).2 p hm))
      exact (appendV_ok (te := tt') (tt := ty) h1 h2 h3 h4 h5 h6 h hr1 hY (hfr rfl) k2 hp h7).post
    · simp [M.go] at hg
  · rename_i t v1 hts
    obtain ⟨u1, ha, hr⟩ := repVs_one' (hvs _ rfl)
    rw [arr1 hts, arr1 ha]
    split at hg
    · rename_i tt htt
      obtain ⟨w', k1, rfl, k2⟩ := clear_ok (tt := ty) (hT _ _ htt) h hr hg hp
      refine ⟨.tuple #[], w', μ, G, .inl ?_, ?_, k2⟩
      · show ((do pure (.value (← Builtin.clear_ #[t] ty #[u1])) : Sem Next).run P w) = _
        rw [Sem.run_bind, k1]
        rfl
      · simp only [repV]
        exact ⟨#[], rfl, by simp [repVs]⟩
    · simp [M.go] at hg
  · rename_i vs
    split at hg
    · rename_i b hb
      obtain ⟨rfl, rfl, _⟩ := outA_ok hg
      have := maxV_ok (P := P) (tt := ty) (ts := ts) hb (hvs _ rfl)
      simp only [Array.toArray_toList] at this
      exact this.post h
    · simp [M.go] at hg
  · rename_i vs
    split at hg
    · rename_i b hb
      obtain ⟨rfl, rfl, _⟩ := outA_ok hg
      have := minV_ok (P := P) (tt := ty) (ts := ts) hb (hvs _ rfl)
      simp only [Array.toArray_toList] at this
      exact this.post h
    · simp [M.go] at hg
  · simp [M.go] at hg
set_option maxHeartbeats 1000000 in
theorem evalOp_ok (hT : TabOk P tab) (h : HR μ G sto w) {env : Env} {a : Act} (he : ER μ G env w a) {nb : L} {o : Oper} {v : V} {wr : Sto} {rl : List L} {ps : List Prop} (hfr : isAlloc o.op = true → (lkL nb wr).isSome = true → Fresh nb sto)
    (hg : (evalOp tab env nb o).go sto [] [] = .ok ⟨v, wr⟩ rl ps) (hp : ∀ p ∈ ps, p) : OpPost μ G sto w v wr ((execOp a.eval o).run P w) := by
  obtain ⟨dst, op, ty, pos, after, guard⟩ := o
  cases op
  case move x =>
    simp only [evalOp] at hg
    split at hg
    · rename_i u hx
      obtain ⟨rfl, rfl, _⟩ := ret_go hg
      exact OpPost.pure h (opnd_ok he hx)
    · simp [M.go] at hg
  case assign x =>
    simp only [evalOp] at hg
    split at hg
    · rename_i u hx
      obtain ⟨rfl, rfl, _⟩ := ret_go hg
      exact OpPost.pure h (opnd_ok he hx)
    · simp [M.go] at hg
  case pick c x y =>
    simp only [evalOp] at hg
    split at hg
    · rename_i hc
      have hc' := opnd_ok he hc
      simp only [repV, repA] at hc'
      split at hg
      · rename_i u hx
        obtain ⟨rfl, rfl, _⟩ := ret_go hg
        have : (execOp a.eval ⟨dst, .pick c x y, ty, pos, after, guard⟩).run P w = .ok (.value (a.eval x)) w := by simp [execOp, hc', asBool]
        rw [this]
        exact OpPost.pure h (opnd_ok he hx)
      · simp [M.go] at hg
    · rename_i hc
      have hc' := opnd_ok he hc
      simp only [repV, repA] at hc'
      split at hg
      · rename_i u hx
        obtain ⟨rfl, rfl, _⟩ := ret_go hg
        have : (execOp a.eval ⟨dst, .pick c x y, ty, pos, after, guard⟩).run P w = .ok (.value (a.eval y)) w := by simp [execOp, hc', asBool]
        rw [this]
        exact OpPost.pure h (opnd_ok he hx)
      · simp [M.go] at hg
    · simp [M.go] at hg
  case alloc t =>
    simp only [evalOp] at hg
    split at hg
    · rename_i tt htt
      obtain ⟨rfl, rfl, _⟩ := ret_go hg
      exact (alloc_ok (hT _ _ htt) h (hfr rfl (by rw [lkL_cons, if_pos rfl]; rfl))).post
    · simp [M.go] at hg
  case box t x =>
    simp only [evalOp] at hg
    split at hg
    · simp [M.go] at hg
    · simp [M.go] at hg
    · rename_i u hnt hx
      obtain ⟨rfl, rfl, _⟩ := ret_go hg
      exact (box_ok h (hfr rfl (by rw [lkL_cons, if_pos rfl]; rfl)) (opnd_ok he hx) fun vs e => hnt vs (by rw [e])).post
  case build t qs =>
    simp only [evalOp] at hg
    split at hg
    · rename_i fs eq _ _ _ z _ htt
      split at hg
      · rename_i as hf
        obtain ⟨rfl, rfl, _⟩ := ret_go hg
        exact (build_ok (hT _ _ htt) rfl he hf).post h
      · simp [M.go] at hg
    · rename_i n es ag _ _ _ z _ htt
      split at hg
      · rename_i hps
        obtain ⟨rfl, rfl, _⟩ := ret_go hg
        exact (buildA_ok (hT _ _ htt) rfl hps).post h
      · simp [M.go] at hg
    · simp [M.go] at hg
  case buildSlice t n qs =>
    simp only [evalOp] at hg
    split at hg
    · rename_i e bytes htt
      split at hg
      · rename_i hn hm
        obtain ⟨et, i, z, h1, h2, h3, h4, h5, h6, h7⟩ := tySl_ok hT htt
        obtain ⟨ys, rl1, ps1, h8, h9⟩ := bind_go hg
        obtain ⟨rfl, rfl, _⟩ := ret_go h9
        obtain ⟨u, w', μ', G', k1, k2, k3⟩ := buildSlice_ok h1 h2 h3 h4 h (hfr rfl (by rw [lkL_cons, if_pos rfl]; rfl)) he (Nat.eq_of_beq_eq_true hn) (Nat.le_of_ble_eq_true hm) h8
        refine ⟨u, w', μ', G', .inl ?_, k2, k3⟩
        show ((do pure (.value (← Instr.buildSlice t n (qs.map fun (i, x) => (i, a.eval x)))) : Sem Next).run P w) = _
        rw [Sem.run_bind, k1]
        rfl
      · simp [M.go] at hg
    · simp [M.go] at hg
  case load t x =>
    simp only [evalOp] at hg
    split at hg
    · rename_i tt b htt hx
      have hx' := opnd_ok he hx
      simp only [repV] at hx'
      obtain ⟨rfl, u, h1, h2⟩ := loadP_ok (hT _ _ htt) h hx' hg hp
      exact PR.post (s := Instr.loadAt t (a.eval x)) h ⟨u, h1, h2⟩
    · simp [M.go] at hg
  case store t x y =>
    simp only [evalOp] at hg
    split at hg
    · rename_i tt b c htt hx hy
      have hx' := opnd_ok he hx
      have hy' := opnd_ok he hy
      simp only [repV] at hx' hy'
      obtain ⟨w', h1, rfl, h2⟩ := storeP_ok (hT _ _ htt) h hx' (y := a.eval y) (xs := [c]) (by rw [repA_cells hy']; simp only [repAs]; exact ⟨_, [], rfl, hy', rfl⟩) hg hp
      refine ⟨undef, w', μ, G, .inr ⟨?_, rfl⟩, ?_, h2⟩
      · show ((do Instr.storeAt t (a.eval x) (a.eval y); pure .skip : Sem Next).run P w) = _
        rw [Sem.run_bind, h1]
        rfl
      · simp only [repV]
        exact ⟨#[], rfl, by simp [repVs]⟩
    · rename_i tt b cs htt hx hy
      have hx' := opnd_ok he hx
      have hy' := opnd_ok he hy
      simp only [repV] at hx' hy'
      obtain ⟨us, hus, hy'⟩ := hy'
      obtain ⟨w', h1, rfl, h2⟩ := storeP_ok (hT _ _ htt) h hx' (y := a.eval y) (xs := cs) (by rw [hus]; exact hy') hg hp
      refine ⟨undef, w', μ, G, .inr ⟨?_, rfl⟩, ?_, h2⟩
      · show ((do Instr.storeAt t (a.eval x) (a.eval y); pure .skip : Sem Next).run P w) = _
        rw [Sem.run_bind, h1]
        rfl
      · simp only [repV]
        exact ⟨#[], rfl, by simp [repVs]⟩
    · simp [M.go] at hg
  case nilCheck x =>
    simp only [evalOp] at hg
    split at hg
    · rename_i l j hx
      obtain ⟨rfl, rfl, _⟩ := outA_ok hg
      have hx' := opnd_ok he hx
      have hx'' := hx'
      simp only [repV, repA] at hx''
      obtain ⟨B, hB, hv⟩ := hx''
      have : (execOp a.eval ⟨dst, .nilCheck x, ty, pos, after, guard⟩).run P w = .ok (.value (a.eval x)) w := by simp [execOp, hv]
      rw [this]
      exact OpPost.pure h hx'
    · simp [M.go] at hg
  case binOp op t x y yt =>
    simp only [evalOp] at hg
    split at hg
    · rename_i tt b c htt hx hy
      obtain ⟨rfl, hpr⟩ := binOp_ok (x := x) (y := y) (hT _ _ htt) (opnd_ok he hx) (opnd_ok he hy) hg hp
      exact hpr.post h
    · simp [M.go] at hg
  case unOp op t x =>
    simp only [evalOp] at hg
    split at hg
    · rename_i b hx
      obtain ⟨rfl, hpr⟩ := unV_ok (P := P) (opnd_ok he hx) hg
      exact hpr.post h
    · simp [M.go] at hg
  case convert s d x =>
    simp only [evalOp] at hg
    split at hg
    · rename_i ts td b hts htd hx
      obtain ⟨rfl, hpr⟩ := convV_ok (hT _ _ hts) (hT _ _ htd) h (opnd_ok he hx) hg
      exact hpr.post h
    · simp [M.go] at hg
  case makeInterface t x =>
    simp only [evalOp] at hg
    split at hg
    · rename_i e et _ _ _ _ _ b htt hx
      obtain ⟨rfl, rfl, _⟩ := outA_ok hg
      have hx' := opnd_ok he hx
      simp only [repV] at hx'
      refine PR.post (s := Instr.makeInterface t (a.eval x)) h ⟨.iface t (a.eval x), ?_, ?_⟩
      · simp [Instr.makeInterface, Sem.run_bind, run_underlying (sl_und (hT _ _ htt) rfl).1]
      · simp only [repV, repA]
        exact ⟨_, rfl, hx'⟩
    · simp [M.go] at hg
  case makeFunc fn first cap =>
    simp only [evalOp, makeFuncM] at hg
    split at hg
    · rename_i f vs hf hvs
      split at hg
      · rename_i as has
        obtain ⟨rfl, rfl, _⟩ := outA_ok hg
        have hr := oneAtoms_ok has (opnds_ok he _ _ hvs)
        have hf0 : first = #[] := Array.ext' hf
        subst hf0
        have hrun : (execOp a.eval ⟨dst, .makeFunc (.func f) #[] cap, ty, pos, after, guard⟩).run P w = .ok (.value (.func (.func f) #[] (cap.map a.eval))) w := by simp [execOp, Instr.makeFunc]
        rw [hrun]
        refine OpPost.pure h ?_
        simp only [repV, repA]
        exact ⟨_, rfl, by simpa using hr⟩
      · simp [M.go] at hg
    · simp [M.go] at hg
  case makeSlice t l c =>
    simp only [evalOp] at hg
    split at hg
    · rename_i e bytes n m htt hl hc
      simp only [M.go] at hg
      simp only [MR.ok.injEq, Upd.mk.injEq] at hg
      obtain ⟨⟨rfl, rfl⟩, _, rfl⟩ := hg
      obtain ⟨h0, rfl, hb⟩ := hp _ List.mem_cons_self
      obtain ⟨et, i, z, h1, h2, h3, h4, h5, h6, h7⟩ := tySl_ok hT htt
      have hl' := opnd_ok he hl
      have hc' := opnd_ok he hc
      simp only [repV, repA] at hl' hc'
      have := (makeSlice_ok h1 h2 h3 h4 h5 h (hfr rfl (by rw [lkL_cons, if_pos rfl]; rfl)) h0 (by rw [h6]; exact hb) h7).post
      simp only [execOp, hl', hc']
      exact this
    · simp [M.go] at hg
  case slice t x lo hi mx =>
    simp only [evalOp] at hg
    split at hg
    · rename_i tt b l hh m htt hx hlo hhi hmx
      have := sliceV_ok (hT _ _ htt) h (opnd_ok he hx) hg hp
      obtain ⟨rfl, hpr⟩ := this
      rw [← optN_ok he hlo, ← optN_ok he hhi, ← optN_ok he hmx] at hpr
      exact hpr.post h
    · simp [M.go] at hg
  case fieldAddr t x f =>
    simp only [evalOp] at hg
    split at hg
    · rename_i fs eq _ _ _ _ _ b htt hx
      split at hg
      · rename_i off sz ag hf
        split at hg
        · rename_i b' hz hb
          obtain ⟨rfl, rfl, _⟩ := outA_ok hg
          have hx' := opnd_ok he hx
          simp only [repV] at hx'
          exact (fieldA_ok (hT _ _ htt) rfl hf hz hx' hb).post h
        · simp [M.go] at hg
      · simp [M.go] at hg
    · simp [M.go] at hg
  case field t x f =>
    simp only [evalOp] at hg
    split at hg
    · rename_i fs eq _ _ _ _ _ as htt hx
      split at hg
      · rename_i off sz ag hf
        split at hg
        · rename_i bs hb
          obtain ⟨hv, rfl, _, _⟩ := outO_ok hg
          exact (field_ok (hT _ _ htt) rfl hf (opnd_ok he hx) hb hv).post h
        · simp [M.go] at hg
      · simp [M.go] at hg
    · simp [M.go] at hg
  case indexAddr t x i =>
    simp only [evalOp] at hg
    split at hg
    · rename_i tt b n htt hx hi
      have hx' := opnd_ok he hx
      have hi' := opnd_ok he hi
      simp only [repV] at hx'
      simp only [repV, repA] at hi'
      obtain ⟨rfl, hpr⟩ := indexA_ok (hT _ _ htt) h hx' hg hp
      rw [← hi'] at hpr
      exact hpr.post h
    · simp [M.go] at hg
  case index t x i =>
    simp only [evalOp] at hg
    split at hg
    · rename_i tt b k n htt hx hi
      have hi' := opnd_ok he hi
      simp only [repV, repA] at hi'
      obtain ⟨rfl, hpr⟩ := indexV_ok (hT _ _ htt) (opnd_ok he hx) hg hp
      rw [← hi'] at hpr
      exact hpr.post h
    · simp [M.go] at hg
  case extract x i =>
    simp only [evalOp] at hg
    split at hg
    · rename_i vs hx
      split at hg
      · rename_i u hu
        obtain ⟨rfl, rfl, _⟩ := ret_go hg
        exact (extract_ok (opnd_ok he hx) hu).post h
      · simp [M.go] at hg
    · simp [M.go] at hg
  case call c =>
    obtain ⟨callee, args, ts⟩ := c
    simp only [evalOp] at hg
    split at hg
    · refine builtinM_ok hT h (args := args.map a.eval) hfr ?_ hg hp
      intro vs hvs
      have := opnds_ok he _ _ hvs
      simpa using this
    · simp [M.go] at hg
  all_goals (simp [evalOp, M.go] at hg)
end Go.AM

/- The machine's steps and the program's: control; condition: the table of types fits the program. -/
namespace Go.AM
set_option linter.unusedVariables false
set_option linter.unusedSimpArgs false
open Go.RowKit
variable {P : Program} {μ : Mu} {w : World} {G : Nat → Prop} {sto : Sto} {tab : Tab}

/-! ### What a call began with -/
structure Fr where
  w0 : World
  mu0 : Mu
  G0 : Nat → Prop
  R0 : Nat → Prop
structure FRel (fr : Fr) (μ : Mu) (G : Nat → Prop) (sto : Sto) (w : World) : Prop where
  os : w.os = fr.w0.os
  tape : w.tape = fr.w0.tape
  output : w.output = fr.w0.output
  size : fr.w0.heap.size ≤ w.heap.size
  frame : ∀ b, b < fr.w0.heap.size → ¬ fr.R0 b → w.heap[b]? = fr.w0.heap[b]?
  live : ∀ b, Live μ sto b → fr.R0 b ∨ fr.w0.heap.size ≤ b
  mu : ∀ l B, fr.mu0 l = some B → μ l = some B
  good : ∀ b, G b → fr.G0 b ∨ fr.R0 b ∨ fr.w0.heap.size ≤ b
  new : ∀ l B, μ l = some B → fr.mu0 l = some B ∨ B.virt = true ∨ fr.w0.heap.size ≤ B.b ∨ fr.R0 B.b
  kk : ∀ i, μ (.k i) = fr.mu0 (.k i)
theorem FRel.step {fr : Fr} (h : FRel fr μ G sto w) {wr : Sto} {μ' : Mu} {G' : Nat → Prop} {w' : World} (c : Chg μ G sto w wr μ' G' w') : FRel fr μ' G' (wr ++ sto) w' := by
  have hL : ∀ b, Live μ sto b → fr.R0 b ∨ fr.w0.heap.size ≤ b := h.live
  have hs := h.size
  have hs' := c.size
  refine ⟨c.os.trans h.os, c.tape.trans h.tape, c.output.trans h.output, Nat.le_trans hs hs', fun b hb hr => ?_, fun b hb => ?_, fun l B hl => c.mu l B (h.mu l B hl), fun b hb => ?_, fun l B hl => ?_, fun i => (c.kk i).trans (h.kk i)⟩
  · rw [c.frame b (by omega) fun hl => ?_]
    · exact h.frame b hb hr
    · rcases hL b hl with h1 | h1
      · exact hr h1
      · omega
  · rcases c.liv b hb with h1 | h1
    · exact hL b h1
    · right; omega
  · rcases c.gnew b hb with h1 | h1 | h1
    · exact h.good b h1
    · right; right; omega
    · rcases hL b h1 with h2 | h2
      · exact .inr (.inl h2)
      · exact .inr (.inr h2)
  · rcases c.new l B hl with h1 | h1 | h1 | h1
    · exact h.new l B h1
    · exact .inr (.inl h1)
    · right; right; left; omega
    · rcases hL _ h1 with h2 | h2
      · exact .inr (.inr (.inr h2))
      · exact .inr (.inr (.inl h2))
end Go.AM

/- The machine's steps and the program's: control, agreement; condition: the table of types fits the program. -/
namespace Go.AM
set_option linter.unusedVariables false
set_option linter.unusedSimpArgs false
open Go.RowKit
variable {P : Program} {μ : Mu} {w : World} {G : Nat → Prop} {sto : Sto} {tab : Tab}

/-! ### Control -/
def loopWp (P : Program) (c : Code) (Q : Exit → Act → World → Prop) (a : Act) (w : World) : Prop :=
  ∀ (b : Frame) (k : List Item) (cs : List Frame), ∃ e a' w', Q e a' w' ∧ Arrives P (lone (b.at a (.code c :: .inLoop c :: k)) cs w) b k cs e a' w'
theorem wp_of_loopWp {c : Code} {Q : Exit → Act → World → Prop} {a : Act} (h : loopWp P c Q a w) : (Code.loop c).wp P Q a w := fun b k cs =>
  let ⟨e, a', w', q, r⟩ := h b k cs
  ⟨e, a', w', q, .of_steps (.one step_loop) r⟩
theorem loopWp_step {c : Code} {Q : Exit → Act → World → Prop} {a : Act} (h : c.wp P (Exit.then (loopWp P c Q) Q) a w) : loopWp P c Q a w := by
  intro b k cs
  obtain ⟨e, a₁, w₁, hq, harr⟩ := h b (.inLoop c :: k) cs
  cases e with
  | normal =>
    obtain ⟨e₂, a₂, w₂, hq₂, harr₂⟩ := hq b k cs
    exact ⟨e₂, a₂, w₂, hq₂, .of_steps (Steps.trans harr (.one step_inLoop)) harr₂⟩
  | exit id => exact ⟨_, a₁, w₁, hq, .pass (x := .inLoop c) rfl (fun _ _ => .inl (by simp)) harr⟩
  | goto l => exact ⟨_, a₁, w₁, hq, .pass (x := .inLoop c) rfl (fun _ _ => .inl (by simp)) harr⟩
  | ret => exact ⟨_, a₁, w₁, hq, .pass (x := .inLoop c) rfl (fun _ _ => .inl (by simp)) harr⟩
  | panic ch => exact ⟨_, a₁, w₁, hq, .pass (x := .inLoop c) rfl (fun _ _ => .inl (by simp)) harr⟩
  | outgrown => exact ⟨_, a₁, w₁, hq, .pass (x := .inLoop c) rfl (fun _ _ => .inl (by simp)) harr⟩
/-- What is left to do, as a condition. -/
def contK (P : Program) (body : Code) (Q : Exit → Act → World → Prop) : List It → Exit → Act → World → Prop
  | [], e, a, w => Q e a w
  | .code p :: k, .normal, a, w => ∃ c, codeAt body p = some c ∧ c.wp P (contK P body Q k) a w
  | .lp p :: k, .normal, a, w => ∃ c, codeAt body (0 :: p) = some c ∧ loopWp P c (contK P body Q k) a w
  | .blk id :: k, .exit id', a, w => if id' = id then contK P body Q k .normal a w else contK P body Q k (.exit id') a w
  | .scp :: _, .goto _, _, _ => False
  | _ :: k, e, a, w => contK P body Q k e a w
theorem exitK_ok {body : Code} {Q : Exit → Act → World → Prop} {id : Nat} : ∀ {k k' : List It}, exitK id k = some k' → ∀ a w, contK P body Q k' .normal a w → contK P body Q k (.exit id) a w
  | [], k', h, a, w, _ => by simp [exitK] at h
  | .blk i :: k, k', h, a, w, hc => by
    simp only [exitK] at h
    simp only [contK]
    split at h
    · rename_i hb
      have := Nat.eq_of_beq_eq_true hb
      subst this
      obtain rfl := Option.some.inj h
      rw [if_pos rfl]
      exact hc
    · rename_i hb
      rw [if_neg]
      · exact exitK_ok h a w hc
      · rintro rfl
        simp at hb
  | .code p :: k, k', h, a, w, hc => by
    simp only [exitK] at h
    exact exitK_ok h a w hc
  | .lp p :: k, k', h, a, w, hc => by
    simp only [exitK] at h
    exact exitK_ok h a w hc
  | .scp :: k, k', h, a, w, hc => by
    simp only [exitK] at h
    exact exitK_ok h a w hc
theorem contK_ret {body : Code} {Q : Exit → Act → World → Prop} : ∀ (k : List It) (a : Act) (w : World), Q .ret a w → contK P body Q k .ret a w
  | [], a, w, h => h
  | .code p :: k, a, w, h => contK_ret k a w h
  | .lp p :: k, a, w, h => contK_ret k a w h
  | .blk i :: k, a, w, h => contK_ret k a w h
  | .scp :: k, a, w, h => contK_ret k a w h
theorem codeAt_cons (c : Code) (i : Nat) (p : List Nat) : codeAt c (i :: p) = match codeAt c p with | some d => sub1 d i | none => none := rfl
/-! ### What an operation looks at -/
theorem opnd_agree {env env' : Env} : ∀ {xs : List Operand}, (∀ t ∈ tmpsOf xs, lk t env' = lk t env) → ∀ x ∈ xs, opnd env' x = opnd env x
  | [], _, x, hx => by cases hx
  | y :: xs, h, x, hx => by
    have htl : ∀ t ∈ tmpsOf xs, lk t env' = lk t env := by
      intro t ht
      refine h t ?_
      cases y <;> simp only [tmpsOf] <;> first | exact List.mem_cons_of_mem _ ht | exact ht
    rcases List.mem_cons.mp hx with rfl | hx
    · cases x with
      | tmp t => exact h t List.mem_cons_self
      | const c => rfl
      | global g => rfl
      | func f => rfl
    · exact opnd_agree htl x hx
theorem opnds_agree {env env' : Env} : ∀ {xs : List Operand}, (∀ x ∈ xs, opnd env' x = opnd env x) → opnds env' xs = opnds env xs
  | [], _ => rfl
  | x :: xs, h => by
    simp only [opnds, h x List.mem_cons_self, opnds_agree fun y hy => h y (List.mem_cons_of_mem _ hy)]
theorem fillSt_agree {env env' : Env} {fs : List (Nat × Nat × Bool)} : ∀ {ps : List (Nat × Operand)} {as : List A}, (∀ x ∈ ps.map (·.2), opnd env' x = opnd env x) → fillSt env' fs ps as = fillSt env fs ps as
  | [], as, _ => rfl
  | (i, x) :: ps, as, h => by
    have h1 := h x (by simp)
    have ih := fun as => fillSt_agree (fs := fs) (ps := ps) (as := as) fun y hy => h y (by simp only [List.map_cons]; exact List.mem_cons_of_mem _ hy)
    simp only [fillSt, h1, ih]
theorem fillRow_agree {env env' : Env} {e : El} : ∀ {ps : List (Nat × Operand)} {i : Nat}, (∀ x ∈ ps.map (·.2), opnd env' x = opnd env x) → fillRow e env' i ps = fillRow e env i ps
  | [], i, _ => rfl
  | (j, x) :: ps, i, h => by
    have h1 := h x (by simp)
    have ih := fun i => fillRow_agree (e := e) (ps := ps) (i := i) fun y hy => h y (by simp only [List.map_cons]; exact List.mem_cons_of_mem _ hy)
    simp only [fillRow, h1, ih]
theorem takenBy_agree {env env' : Env} : ∀ {ps : List (Nat × Operand)}, (∀ x ∈ ps.map (·.2), opnd env' x = opnd env x) → takenBy env' ps = takenBy env ps
  | [], _ => rfl
  | (j, x) :: ps, h => by
    have h1 := h x (by simp)
    have ih := takenBy_agree (ps := ps) fun y hy => h y (by simp only [List.map_cons]; exact List.mem_cons_of_mem _ hy)
    simp only [takenBy, h1, ih]
theorem optN_agree {env env' : Env} {x : Option Operand} (h : ∀ y ∈ x.toList, opnd env' y = opnd env y) : optN env' x = optN env x := by
  cases x with
  | none => rfl
  | some x => simp only [optN, h x (by simp)]
theorem evalOp_agree {env env' : Env} {nb : L} {o : Oper} (h : ∀ x ∈ opOps o.op, opnd env' x = opnd env x) : evalOp tab env' nb o = evalOp tab env nb o := by
  obtain ⟨dst, op, ty, pos, after, guard⟩ := o
  cases op
  all_goals simp only [opOps] at h
  case call c =>
    obtain ⟨callee, args, ts⟩ := c
    cases callee with
    | value f => rfl
    | invoke r m => rfl
    | builtin b => simp only [evalOp, opnds_agree h]
  case makeFunc fn first cap => simp only [evalOp, makeFuncM, opnds_agree h]
  case build t ps => simp only [evalOp, fillSt_agree h]
  case buildSlice t n ps => simp only [evalOp, fillRow_agree h, takenBy_agree h]
  case slice t x lo hi mx =>
    have hx := h x (by simp)
    have hlo := optN_agree (env := env) (env' := env') (x := lo) fun y hy => h y (by simp only [List.mem_cons, List.mem_append]; exact .inr (.inl (.inl hy)))
    have hhi := optN_agree (env := env) (env' := env') (x := hi) fun y hy => h y (by simp only [List.mem_cons, List.mem_append]; exact .inr (.inl (.inr hy)))
    have hmx := optN_agree (env := env) (env' := env') (x := mx) fun y hy => h y (by simp only [List.mem_cons, List.mem_append]; exact .inr (.inr hy))
    simp only [evalOp, hx, hlo, hhi, hmx]
  all_goals first
    | rfl
    | (have h1 := h _ List.mem_cons_self
       have h2 := h _ (List.mem_cons_of_mem _ List.mem_cons_self)
       have h3 := h _ (List.mem_cons_of_mem _ (List.mem_cons_of_mem _ List.mem_cons_self))
       simp only [evalOp, h1, h2, h3]; done)
    | (have h1 := h _ List.mem_cons_self
       have h2 := h _ (List.mem_cons_of_mem _ List.mem_cons_self)
       simp only [evalOp, h1, h2]; done)
    | (have h1 := h _ List.mem_cons_self
       simp only [evalOp, h1]; done)
end Go.AM

/- Regions that draw their order: one run in the text's order serves all; condition: what the machine's check asks. -/
namespace Go.AM
set_option linter.unusedVariables false
set_option linter.unusedSimpArgs false
open Go.RowKit
variable {P : Program} {μ : Mu} {w : World} {G : Nat → Prop} {sto : Sto} {tab : Tab}

def putE (dst : Option Nat) (v : V) (env : Env) : Env := match dst with
  | some d => (d, v) :: env
  | none => env
theorem lk_putE (dst : Option Nat) (v : V) (env : Env) (t : Nat) : lk t (putE dst v env) = if dst = some t then some v else lk t env := by
  cases dst with
  | none => simp [putE]
  | some d =>
    simp only [putE, lk_cons, Option.some.injEq]
    by_cases h : t = d
    · subst h; simp
    · rw [if_neg h, if_neg (fun e => h e.symm)]
structure Rec where
  dst : Option Nat
  v : V
  wr : Sto
  rl : List L
  rt : List Nat
def Rel (fr : Fr) (n : Nat) (env : Env) (sto : Sto) (a : Act) (w : World) : Prop := ∃ μ G, HR μ G sto w ∧ ER μ G env w a ∧ FRel fr μ G sto w ∧ a.defers = [] ∧ a.tmps.size = n
theorem lkC_of {s s' : Sto} {l : L} (h : lkL l s = lkL l s') : lkC l s = lkC l s' := by unfold lkC; rw [h]
theorem Live.congr {s s' : Sto} (h : ∀ l, lkL l s = lkL l s') {b : Nat} (hl : Live μ s b) : Live μ s' b := by
  obtain ⟨l, c, B, h1, h2, h3, h4⟩ := hl
  exact ⟨l, c, B, by rw [← lkC_of (h l)]; exact h1, h2, h3, h4⟩
theorem Rel.congr {fr : Fr} {n : Nat} {env env' : Env} {s s' : Sto} {a : Act} (he : ∀ t, lk t env = lk t env') (hs : ∀ l, lkL l s = lkL l s') (h : Rel fr n env s a w) : Rel fr n env' s' a w := by
  obtain ⟨μ, G, h1, h2, h3, h4, h5⟩ := h
  refine ⟨μ, G, ⟨fun l c hc => h1.live l c (by rw [lkC_of (hs l)]; exact hc), fun l B hB => by rw [← hs]; exact h1.known l B hB, fun l l' c c' B B' k1 k2 => h1.apart l l' c c' B B' (by rw [lkC_of (hs l)]; exact k1) (by rw [lkC_of (hs l')]; exact k2), h1.good, h1.tab⟩,
    fun t v hv => h2 t v (by rw [he]; exact hv), ⟨h3.os, h3.tape, h3.output, h3.size, h3.frame, fun b hb => h3.live b (hb.congr fun l => (hs l).symm), h3.mu, h3.good, h3.new, h3.kk⟩, h4, h5⟩
theorem ER.put {env : Env} {a : Act} {G' : Nat → Prop} {μ' : Mu} {w' : World} (he : ER μ G env w a) (hm : ∀ l B, μ l = some B → μ' l = some B) (hk : Keep G w w') (hG : ∀ b, G b → G' b) {dst : Option Nat} {v : V} {u : Value} (hv : repV μ' w' G' v u) (hd : ∀ d, dst = some d → d < a.tmps.size) : ER μ' G' (putE dst v env) w' (a.put dst u) := by
  intro t x hx
  rw [lk_putE] at hx
  split at hx
  · rename_i h
    obtain rfl := Option.some.inj hx
    subst h
    refine ⟨u, ?_, hv⟩
    simp [Act.put, hd t rfl]
  · rename_i h
    obtain ⟨z, h1, h2⟩ := he t x hx
    refine ⟨z, ?_, repV_mono hm hk hG _ _ h2⟩
    cases dst with
    | none => exact h1
    | some d =>
      simp only [Act.put, Array.getElem?_setIfInBounds]
      rw [if_neg (fun e => h (by rw [e]))]
      exact h1
theorem Rel.step {fr : Fr} {n : Nat} {env : Env} {a : Act} {wr : Sto} {dst : Option Nat} {v : V} {u : Value} {w' : World} {μ' : Mu} {G' : Nat → Prop} (h1 : HR μ G sto w) (h2 : ER μ G env w a) (h3 : FRel fr μ G sto w) (h4 : a.defers = []) (h5 : a.tmps.size = n) (hd : ∀ d, dst = some d → d < n)
    (hv : repV μ' w' G' v u) (hc : Chg μ G sto w wr μ' G' w') : Rel fr n (putE dst v env) (wr ++ sto) (a.put dst u) w' := by
  refine ⟨μ', G', hc.hr, h2.put hc.mu hc.keep hc.gsub hv (by rw [h5]; exact hd), h3.step hc, ?_, ?_⟩
  · cases dst <;> exact h4
  · cases dst with
    | none => exact h5
    | some d => simp only [Act.put, Array.size_setIfInBounds]; exact h5
/-- What one operation does, at a state. -/
def RecOk (P : Program) (ops : Array Oper) (i : Nat) (env : Env) (sto : Sto) (r : Rec) : Prop :=
  ∀ μ G a w, HR μ G sto w → ER μ G env w a → ∀ (Q : Exit → Act → World → Prop) (K : Act → World → Prop), (∀ u w' μ' G', repV μ' w' G' r.v u → Chg μ G sto w r.wr μ' G' w' → K (a.put r.dst u) w') → wpOp P ops Q i K a w
/-- The same, at all states that agree with one where it looks. -/
def RecA (P : Program) (ops : Array Oper) (i : Nat) (env : Env) (sto : Sto) (r : Rec) : Prop :=
  ∀ env' sto', (∀ t ∈ r.rt, lk t env' = lk t env) → (∀ l ∈ r.rl, lkC l sto' = lkC l sto) → (∀ l, (lkL l r.wr).isSome = true → lkL l sto = none → lkL l sto' = none) → RecOk P ops i env' sto' r
theorem RecA.ok {ops : Array Oper} {i : Nat} {env : Env} {r : Rec} (h : RecA P ops i env sto r) : RecOk P ops i env sto r := h env sto (fun _ _ => rfl) (fun _ _ => rfl) (fun _ _ h => h)
theorem RecA.congr {ops : Array Oper} {i : Nat} {env env' : Env} {s s' : Sto} {r : Rec} (he : ∀ t, lk t env = lk t env') (hs : ∀ l, lkL l s = lkL l s') (h : RecA P ops i env s r) : RecA P ops i env' s' r :=
  fun e2 s2 h1 h2 h3 => h e2 s2 (fun t ht => (h1 t ht).trans (he t).symm) (fun l hl => (h2 l hl).trans (lkC_of (hs l)).symm) (fun l hl hn => h3 l hl ((hs l).symm.trans hn))
/-! ### Some of the operations done -/
def envOf (D : Nat → Bool) : Nat → List Rec → Env → Env
  | _, [], env => env
  | k, r :: rs, env => envOf D (k + 1) rs (if D k then putE r.dst r.v env else env)
def stoOf (D : Nat → Bool) : Nat → List Rec → Sto → Sto
  | _, [], s => s
  | k, r :: rs, s => stoOf D (k + 1) rs (if D k then r.wr ++ s else s)
theorem envOf_congr {D D' : Nat → Bool} {t : Nat} : ∀ (rs : List Rec) (k : Nat) (env env' : Env), lk t env = lk t env' → (∀ j r, rs[j]? = some r → r.dst = some t → D (k + j) = D' (k + j)) → lk t (envOf D k rs env) = lk t (envOf D' k rs env')
  | [], k, env, env', h, _ => h
  | r :: rs, k, env, env', h, hd => by
    simp only [envOf]
    refine envOf_congr rs (k + 1) _ _ ?_ (fun j r' hj hr => by have := hd (j + 1) r' (by simpa using hj) hr; rwa [Nat.add_assoc, Nat.add_comm 1 j])
    by_cases e : r.dst = some t
    · have := hd 0 r rfl e
      simp only [Nat.add_zero] at this
      rw [this]
      cases D' k <;> simp [lk_putE, e, h]
    · cases D k <;> cases D' k <;> simp [lk_putE, e, h]
theorem stoOf_congr {D D' : Nat → Bool} {l : L} : ∀ (rs : List Rec) (k : Nat) (s s' : Sto), lkL l s = lkL l s' → (∀ j r, rs[j]? = some r → (lkL l r.wr).isSome = true → D (k + j) = D' (k + j)) → lkL l (stoOf D k rs s) = lkL l (stoOf D' k rs s')
  | [], k, s, s', h, _ => h
  | r :: rs, k, s, s', h, hd => by
    simp only [stoOf]
    refine stoOf_congr rs (k + 1) _ _ ?_ (fun j r' hj hr => by have := hd (j + 1) r' (by simpa using hj) hr; rwa [Nat.add_assoc, Nat.add_comm 1 j])
    cases e : lkL l r.wr with
    | some c =>
      have := hd 0 r rfl (by rw [e]; rfl)
      simp only [Nat.add_zero] at this
      rw [this]
      cases D' k <;> simp [lkL_app, e, h]
    | none => cases D k <;> cases D' k <;> simp [lkL_app, e, h]
theorem envOf_last {D : Nat → Bool} {t : Nat} : ∀ (rs : List Rec) (k i : Nat) (env : Env) (r : Rec), rs[i]? = some r → D (k + i) = true → r.dst = some t → (∀ j r', i < j → rs[j]? = some r' → D (k + j) = true → r'.dst ≠ some t) → lk t (envOf D k rs env) = some r.v
  | [], k, i, env, r, h, _, _, _ => by simp at h
  | r0 :: rs, k, 0, env, r, h, hD, ht, hl => by
    simp only [List.getElem?_cons_zero, Option.some.injEq] at h
    subst h
    simp only [envOf]
    simp only [Nat.add_zero] at hD
    rw [hD, if_pos rfl, envOf_congr (D' := fun _ => false) rs (k + 1) _ _ rfl fun j r' hj hr => ?_]
    · have : ∀ (rs : List Rec) k env, envOf (fun _ => false) k rs env = env := by
        intro rs
        induction rs with
        | nil => intro k env; rfl
        | cons r rs ih => intro k env; simp only [envOf]; exact ih _ _
      rw [this, lk_putE, if_pos ht]
    · cases e : D (k + 1 + j) with
      | false => rfl
      | true => exact absurd hr (hl (j + 1) r' (by omega) (by simpa using hj) (by rw [← e]; congr 1; omega))
  | r0 :: rs, k, i + 1, env, r, h, hD, ht, hl => by
    simp only [envOf]
    refine envOf_last rs (k + 1) i _ r (by simpa using h) (by rw [← hD]; congr 1; omega) ht fun j r' hj hr hd => ?_
    exact hl (j + 1) r' (by omega) (by simpa using hr) (by rw [← hd]; congr 1; omega)
theorem stoOf_false : ∀ (rs : List Rec) (k : Nat) (s : Sto), stoOf (fun _ => false) k rs s = s
  | [], k, s => rfl
  | r :: rs, k, s => by simp only [stoOf]; exact stoOf_false rs _ _
theorem stoOf_last {D : Nat → Bool} {l : L} {c : Option C} : ∀ (rs : List Rec) (k i : Nat) (s : Sto) (r : Rec), rs[i]? = some r → D (k + i) = true → lkL l r.wr = some c → (∀ j r', i < j → rs[j]? = some r' → D (k + j) = true → lkL l r'.wr = none) → lkL l (stoOf D k rs s) = some c
  | [], k, i, s, r, h, _, _, _ => by simp at h
  | r0 :: rs, k, 0, s, r, h, hD, ht, hl => by
    simp only [List.getElem?_cons_zero, Option.some.injEq] at h
    subst h
    simp only [stoOf]
    simp only [Nat.add_zero] at hD
    rw [hD, if_pos rfl, stoOf_congr (D' := fun _ => false) rs (k + 1) _ _ rfl fun j r' hj hr => ?_]
    · rw [stoOf_false, lkL_app, ht]
    · cases e : D (k + 1 + j) with
      | false => rfl
      | true =>
        have := hl (j + 1) r' (by omega) (by simpa using hj) (by rw [← e]; congr 1; omega)
        rw [this] at hr
        cases hr
  | r0 :: rs, k, i + 1, s, r, h, hD, ht, hl => by
    simp only [stoOf]
    refine stoOf_last rs (k + 1) i _ r (by simpa using h) (by rw [← hD]; congr 1; omega) ht fun j r' hj hr hd => ?_
    exact hl (j + 1) r' (by omega) (by simpa using hr) (by rw [← hd]; congr 1; omega)
theorem stoOf_none {D : Nat → Bool} {l : L} : ∀ (rs : List Rec) (k : Nat) (s : Sto), lkL l (stoOf D k rs s) = none ↔ lkL l s = none ∧ ∀ j r, rs[j]? = some r → D (k + j) = true → lkL l r.wr = none
  | [], k, s => by simp [stoOf]
  | r :: rs, k, s => by
    simp only [stoOf]
    rw [stoOf_none rs (k + 1)]
    constructor
    · rintro ⟨h1, h2⟩
      have h3 : lkL l s = none ∧ (D k = true → lkL l r.wr = none) := by
        cases hk : D k with
        | false => rw [hk] at h1; exact ⟨h1, fun h => by cases h⟩
        | true =>
          rw [hk, if_pos rfl, lkL_app] at h1
          cases e : lkL l r.wr with
          | some c => rw [e] at h1; cases h1
          | none => rw [e] at h1; exact ⟨h1, fun _ => rfl⟩
      refine ⟨h3.1, fun j r' hj hd => ?_⟩
      cases j with
      | zero => simp only [List.getElem?_cons_zero, Option.some.injEq] at hj; subst hj; exact h3.2 (by simpa using hd)
      | succ j => exact h2 j r' (by simpa using hj) (by rw [← hd]; congr 1; omega)
    · rintro ⟨h1, h2⟩
      refine ⟨?_, fun j r' hj hd => h2 (j + 1) r' (by simpa using hj) (by rw [← hd]; congr 1; omega)⟩
      cases hk : D k with
      | false => exact h1
      | true =>
        rw [if_pos rfl, lkL_app, h2 0 r rfl (by simpa using hk)]
        exact h1
/-! ### The order that the edges leave open -/
def Direct (ops : Array Oper) (i k : Nat) : Prop := ∃ o, ops[k]? = some o ∧ ∃ e ∈ o.after, Region.binds .any e = true ∧ e.on = i
inductive Bef (ops : Array Oper) : Nat → Nat → Prop where
  | one {i k} : Direct ops i k → Bef ops i k
  | more {i j k} : Bef ops i j → Direct ops j k → Bef ops i k
structure Apart (i k : Rec) : Prop where
  d1 : ∀ d, i.dst = some d → d ∉ k.rt ∧ k.dst ≠ some d
  d2 : ∀ d, k.dst = some d → d ∉ i.rt
  d3 : ∀ l, (lkL l i.wr).isSome = true → l ∉ k.rl ∧ lkL l k.wr = none
  d4 : ∀ l, (lkL l k.wr).isSome = true → l ∉ i.rl
theorem region_any {ops : Array Oper} {rs : List Rec} {env0 : Env} {sto0 : Sto} {fr : Fr} {n : Nat} {Q : Exit → Act → World → Prop} (hn : rs.length = ops.size) (hdst : ∀ (i : Nat) (r : Rec), rs[i]? = some r → ∀ d, r.dst = some d → d < n)
    (hrec : ∀ (i : Nat) (r : Rec), rs[i]? = some r → RecA P ops i (envOf (fun j => decide (j < i)) 0 rs env0) (stoOf (fun j => decide (j < i)) 0 rs sto0) r)
    (hedge : ∀ i k, Direct ops i k → i < k) (hap : ∀ (i k : Nat) (ri rk : Rec), i < k → rs[i]? = some ri → rs[k]? = some rk → Bef ops i k ∨ Apart ri rk)
    (hQ : ∀ a w, Rel fr n (envOf (fun _ => true) 0 rs env0) (stoOf (fun _ => true) 0 rs sto0) a w → Q .normal a w) :
    ∀ (fuel : Nat) (listed : Array Bool) (a : Act) (w : World), listed.size = ops.size → (∀ i k, Direct ops i k → listed.getD k false = true → listed.getD i false = true) →
      ((List.range ops.size).countP fun i => !listed.getD i false) ≤ fuel → Rel fr n (envOf (fun i => listed.getD i false) 0 rs env0) (stoOf (fun i => listed.getD i false) 0 rs sto0) a w → wpAny P .any ops Q fuel listed a w := by
  have hbef : ∀ (listed : Array Bool), (∀ i k, Direct ops i k → listed.getD k false = true → listed.getD i false = true) → ∀ i k, Bef ops i k → listed.getD k false = true → listed.getD i false = true := by
    intro listed hcl i k hb
    induction hb with
    | one h => exact hcl _ _ h
    | more _ h ih => exact fun hk => ih (hcl _ _ h hk)
  have hnil : ∀ (listed : Array Bool), listed.size = ops.size → Region.ready .any ops listed = [] → ∀ i, i < ops.size → listed.getD i false = true := by
    intro listed hsz hr i
    induction i using Nat.strongRecOn with
    | _ i ih =>
      intro hi
      cases e : listed.getD i false with
      | true => rfl
      | false =>
        have : i ∈ Region.ready .any ops listed := by
          rw [mem_ready]
          refine ⟨?_, ops[i], Array.getElem?_eq_getElem hi, fun ed hed hbd => ?_⟩
          · simp only [Array.getD, hsz, hi] at e ⊢
            simpa using e
          · have hlt := hedge ed.on i ⟨ops[i], Array.getElem?_eq_getElem hi, ed, hed, hbd, rfl⟩
            exact ih ed.on hlt (by omega)
        rw [hr] at this
        cases this
  intro fuel
  induction fuel with
  | zero =>
    intro listed a w hsz hcl hcnt hrel
    have hall : ∀ i, i < ops.size → listed.getD i false = true := by
      intro i hi
      have h0 := List.countP_eq_zero.mp (Nat.le_zero.mp hcnt) i (List.mem_range.mpr hi)
      simpa using h0
    refine ⟨?_, hQ a w (hrel.congr (fun t => envOf_congr rs 0 _ _ rfl fun j r hj _ => ?_) (fun l => stoOf_congr rs 0 _ _ rfl fun j r hj _ => ?_))⟩
    · unfold Region.ready
      rw [List.filter_eq_nil_iff]
      intro i hi
      have := hall i (List.mem_range.mp hi)
      simp only [Array.getD, hsz, List.mem_range.mp hi] at this ⊢
      simp at this
      simp [this]
    · have hlt : j < rs.length := (List.getElem?_eq_some_iff.1 hj).1
      simp only [Nat.zero_add]
      exact hall j (by omega)
    · have hlt : j < rs.length := (List.getElem?_eq_some_iff.1 hj).1
      simp only [Nat.zero_add]
      exact hall j (by omega)
  | succ fuel ih =>
    intro listed a w hsz hcl hcnt hrel
    refine ⟨fun hr => ?_, fun i hi => ?_⟩
    · have hall := hnil listed hsz hr
      refine hQ a w (hrel.congr (fun t => envOf_congr rs 0 _ _ rfl fun j r hj _ => ?_) (fun l => stoOf_congr rs 0 _ _ rfl fun j r hj _ => ?_))
      · have hlt : j < rs.length := (List.getElem?_eq_some_iff.1 hj).1
        simp only [Nat.zero_add]
        exact hall j (by omega)
      · have hlt : j < rs.length := (List.getElem?_eq_some_iff.1 hj).1
        simp only [Nat.zero_add]
        exact hall j (by omega)
    · rw [mem_ready] at hi
      obtain ⟨hi0, o, ho, hed⟩ := hi
      have hilt : i < ops.size := (Array.getElem?_eq_some_iff.1 ho).1
      have hDi : listed.getD i false = false := by
        simp only [Array.getD, hsz, hilt] at hi0 ⊢
        simpa using hi0
      obtain ⟨r, hr⟩ : ∃ r, rs[i]? = some r := ⟨rs[i]'(by omega), List.getElem?_eq_getElem (by omega)⟩
      have hdir : ∀ j, Direct ops j i → listed.getD j false = true := by
        rintro j ⟨o', ho', e, he, hb, rfl⟩
        rw [ho] at ho'
        obtain rfl := Option.some.inj ho'
        exact hed e he hb
      have hbefi : ∀ j, Bef ops j i → listed.getD j false = true := by
        intro j hb
        cases hb with
        | one h => exact hdir _ h
        | more h1 h2 => exact hbef listed hcl _ _ h1 (hdir _ h2)
      have hbefk : ∀ k, listed.getD k false = true → ¬ Bef ops i k := by
        intro k hk hb
        have := hbef listed hcl _ _ hb hk
        rw [hDi] at this
        cases this
      have hlo : ∀ j rj, j < i → rs[j]? = some rj → listed.getD j false = false → Apart rj r := by
        intro j rj hj hrj hf
        rcases hap j i rj r hj hrj hr with h | h
        · rw [hbefi j h] at hf; cases hf
        · exact h
      have hhi : ∀ k rk, i < k → rs[k]? = some rk → listed.getD k false = true → Apart r rk := by
        intro k rk hk hrk ht
        rcases hap i k r rk hk hr hrk with h | h
        · exact absurd h (hbefk k ht)
        · exact h
      obtain ⟨μ, G, h1, h2, h3, h4, h5⟩ := hrel
      refine hrec i r hr (envOf (fun i => listed.getD i false) 0 rs env0) (stoOf (fun i => listed.getD i false) 0 rs sto0) (fun t ht => ?_) (fun l hl => ?_) (fun l hl hno => ?_) μ G a w h1 h2 Q _ (fun u w' μ' G' hv hc => ?_)
      · refine envOf_congr rs 0 _ _ rfl fun j rj hj hd => ?_
        simp only [Nat.zero_add]
        rcases Nat.lt_trichotomy j i with hlt | rfl | hlt
        · rw [decide_eq_true hlt]
          cases e : listed.getD j false with
          | true => rfl
          | false => exact absurd ht ((hlo j rj hlt hj e).d1 t hd).1
        · rw [hDi]; simp
        · rw [decide_eq_false (by omega)]
          cases e : listed.getD j false with
          | false => rfl
          | true => exact absurd ht ((hhi j rj hlt hj e).d2 t hd)
      · refine lkC_of (stoOf_congr rs 0 _ _ rfl fun j rj hj hd => ?_)
        simp only [Nat.zero_add]
        rcases Nat.lt_trichotomy j i with hlt | rfl | hlt
        · rw [decide_eq_true hlt]
          cases e : listed.getD j false with
          | true => rfl
          | false => exact absurd hl ((hlo j rj hlt hj e).d3 l hd).1
        · rw [hDi]; simp
        · rw [decide_eq_false (by omega)]
          cases e : listed.getD j false with
          | false => rfl
          | true => exact absurd hl ((hhi j rj hlt hj e).d4 l hd)
      · rw [stoOf_none] at hno ⊢
        refine ⟨hno.1, fun j rj hj hd => ?_⟩
        simp only [Nat.zero_add] at hd
        rcases Nat.lt_trichotomy j i with hlt | rfl | hlt
        · exact hno.2 j rj hj (by simp [hlt])
        · rw [hDi] at hd; cases hd
        · exact ((hhi j rj hlt hj hd).d3 l hl).2
      · have hset : ∀ j, (listed.setIfInBounds i true).getD j false = if j = i then true else listed.getD j false := by
          intro j
          by_cases e : j = i
          · subst e
            simp [Array.getD, hsz, hilt]
          · rw [if_neg e]
            exact getD_set_ne false (fun h => e h.symm)
        refine ih (listed.setIfInBounds i true) _ _ (by simpa using hsz) (fun j k hd hk => ?_) ?_ ((Rel.step h1 h2 h3 h4 h5 (hdst i r hr) hv hc).congr (fun t => ?_) (fun l => ?_))
        · rw [hset] at hk ⊢
          by_cases e : j = i
          · rw [if_pos e]
          · rw [if_neg e]
            by_cases e' : k = i
            · subst e'; exact hdir j hd
            · rw [if_neg e'] at hk
              exact hcl j k hd hk
        · have hc1 : ((List.range ops.size).countP fun j => !(listed.setIfInBounds i true).getD j false) < (List.range ops.size).countP fun j => !listed.getD j false := by
            have hle : ∀ (xs : List Nat), (xs.countP fun j => !(listed.setIfInBounds i true).getD j false) ≤ xs.countP fun j => !listed.getD j false := by
              intro xs
              refine List.countP_mono_left fun j _ hj => ?_
              rw [hset] at hj
              split at hj
              · simp at hj
              · exact hj
            have hspl : List.range ops.size = List.range i ++ (i :: List.range' (i + 1) (ops.size - i - 1)) := by
              rw [List.range_eq_range', List.range_eq_range', show ops.size = i + (ops.size - i - 1 + 1) by omega, ← List.range'_append_1, Nat.zero_add, List.range'_succ]
              simp
            rw [hspl, List.countP_append, List.countP_append, List.countP_cons, List.countP_cons]
            have e1 := hle (List.range i)
            have e2 := hle (List.range' (i + 1) (ops.size - i - 1))
            rw [hset, if_pos rfl, hDi]
            simp only [Bool.not_true, Bool.not_false, Bool.false_eq_true, if_false, if_true]
            omega
          omega
        · rw [lk_putE]
          by_cases e : r.dst = some t
          · rw [if_pos e]
            symm
            refine envOf_last rs 0 i _ r hr (by simp only [Nat.zero_add]; rw [hset, if_pos rfl]) e fun j r' hj hr' hd => ?_
            simp only [Nat.zero_add] at hd
            rw [hset, if_neg (by omega)] at hd
            exact ((hhi j r' hj hr' hd).d1 t e).2
          · rw [if_neg e]
            refine envOf_congr rs 0 _ _ rfl fun j rj hj hd => ?_
            simp only [Nat.zero_add]
            rw [hset]
            by_cases e' : j = i
            · subst e'
              rw [hr] at hj
              obtain rfl := Option.some.inj hj
              exact absurd hd e
            · rw [if_neg e']
        · rw [lkL_app]
          cases e : lkL l r.wr with
          | some c =>
            symm
            refine stoOf_last rs 0 i _ r hr (by simp only [Nat.zero_add]; rw [hset, if_pos rfl]) e fun j r' hj hr' hd => ?_
            simp only [Nat.zero_add] at hd
            rw [hset, if_neg (by omega)] at hd
            exact ((hhi j r' hj hr' hd).d3 l (by rw [e]; rfl)).2
          | none =>
            refine stoOf_congr rs 0 _ _ rfl fun j rj hj hd => ?_
            simp only [Nat.zero_add]
            rw [hset]
            by_cases e' : j = i
            · subst e'
              rw [hr] at hj
              obtain rfl := Option.some.inj hj
              rw [e] at hd
              cases hd
            · rw [if_neg e']
end Go.AM
