/- Operations that turn nothing in memory ('free'): what each gives, symbolically, and that the machine's operation gives just that. -/
import Derived.Test.YtpfbpelkodlljaaSxA
import Derived.ChangeKeysEq
import Derived.Laws.Slices
import Derived.Laws.StructEq
set_option linter.all false
namespace Go.SX
open Go.RowKit

/-- How a region that draws its order is walked: one operation next; or any of some, with a plan behind each (alt .. to no). -/
inductive Plan where
  | fin
  | one (i : Nat) (p : Plan)
  | alt (i : Nat) (p q : Plan)
  | no

structure Env where
  P : Program
  w0 : Base
  re : List Nat
  ord : List (Nat × Plan)
  det : Nat → List Value → Option Value
  cuts : List Nat

/-! ### What the types say -/

def aggD : TypeDesc → Bool
  | .struct _ => true
  | .array _ _ => true
  | _ => false

/-- How a variable of a type is read: none: no such type; some none: one cell; some (some n): n cells. -/
def ldT (P : Program) (T : TypeId) : Option (Option Nat) :=
  match P.underlying T, P.info? T with
  | some d, some i => some (bif aggD d then some i.size else none)
  | _, _ => none

/-- The offset of a field that has cells. -/
def offT (P : Program) (T : TypeId) (f : Nat) : Option Nat :=
  match P.underlying T with
  | some (.struct fs) =>
    match fs[f]? with
    | some fd => match P.info? fd.type with
      | some i => if i.size = 0 then none else some fd.offset
      | none => none
    | none => none
  | _ => none

/-- The cells of a type's zero value. -/
def zeroT (P : Program) (T : TypeId) : Option (List Value) :=
  match P.info? T with
  | some i => i.zero.map fun z => z.cells.toList
  | none => none

/-- A slice's element type, and its number of cells (not 0). -/
def slT (P : Program) (T : TypeId) : Option (TypeId × Nat) :=
  match P.underlying T with
  | some (.slice e) => match P.info? e with
    | some i => if i.size = 0 then none else some (e, i.size)
    | none => none
  | _ => none

/-- An array's length, its element type, that one's number of cells, and how an element is read. -/
def arT (P : Program) (T : TypeId) : Option (Nat × Nat × Option Nat) :=
  match P.underlying T with
  | some (.array n e) => match ldT P e, P.info? e with
    | some k, some i => some (n, i.size, k)
    | _, _ => none
  | _ => none

/-- The part of a struct that field f is: its offset, and how it is read. -/
def fldT (P : Program) (T : TypeId) (f : Nat) : Option (Nat × Option Nat) :=
  match P.underlying T with
  | some (.struct fs) =>
    match fs[f]? with
    | some fd => (ldT P fd.type).map fun k => (fd.offset, k)
    | none => none
  | _ => none

/-- The places of a struct's fields. -/
def placesT (P : Program) (T : TypeId) : Option (List (Nat × Nat)) :=
  match P.underlying T with
  | some (.struct fs) => if fs.all (fun f => (P.info? f.type).isSome) = true then some (fs.toList.map fun f => (f.offset, P.cellsOf f.type)) else none
  | _ => none

/-- What is compared: 0: an integer's type; 1: a Bool's; 2: a slice; 3: a function. -/
def kdT (P : Program) (T : TypeId) : Option Nat :=
  match P.underlying T with
  | some (.int _) => some 0
  | some .bool => some 1
  | some (.slice _) => some 2
  | some (.func _ _ _) => some 3
  | some (.map _ _) => some 4
  | some .string => some 5
  | _ => none

/-- An integer type's kind. -/
def intT (P : Program) (T : TypeId) : Option IntKind :=
  match P.underlying T with
  | some (.int k) => some k
  | _ => none

/-! ### Operands -/

def op1 (fr : List SV) : Operand → SV
  | .tmp t => fget fr t
  | .const (.bool t) => .b t
  | .const c => .v c
  | .global g => .v (.pointer (some ⟨g, 0, none⟩))
  | .func f => .v (.func (.func f) #[] #[])

theorem op1_real (bs : Nat → Nat) (fr : List SV) (df : List Deferred) (x : Operand) : ({ tmps := rf bs fr, defers := df } : Act).eval x = (op1 fr x).real bs := by
  cases x with
  | tmp t => exact rf_get bs fr t
  | const c => cases c <;> rfl
  | global g => rfl
  | func f => rfl

theorem op1_wf {n : Nat} {fr : List SV} (h : WfFr n fr) (x : Operand) : (op1 fr x).wf n := by
  cases x with
  | tmp t => exact h.get t
  | const c => cases c <;> trivial
  | global g => trivial
  | func f => trivial

/-- The value, if it is no pointer to a box. -/
def withV (s : SV) (K : Value → Prop) : Prop :=
  match s with
  | .v x => K x
  | .b t => K (.bool t)
  | .p _ _ => False

theorem withV_iff {s : SV} {K : Value → Prop} (h : withV s K) : ∃ x, (∀ bs, s.real bs = x) ∧ K x := by
  cases s with
  | v x => exact ⟨x, fun _ => rfl, h⟩
  | b t => exact ⟨_, fun _ => rfl, h⟩
  | p j o => exact h.elim

def withVs : List SV → (List Value → Prop) → Prop
  | [], K => K []
  | s :: l, K => withV s fun x => withVs l fun xs => K (x :: xs)

theorem withVs_iff : ∀ {l : List SV} {K : List Value → Prop}, withVs l K → ∃ xs, (∀ bs, l.map (SV.real bs) = xs) ∧ K xs
  | [], _, h => ⟨[], fun _ => rfl, h⟩
  | s :: l, K, h => by
    obtain ⟨x, hx, h⟩ := withV_iff h
    obtain ⟨xs, hxs, h⟩ := withVs_iff h
    exact ⟨x :: xs, fun bs => by simp [hx, hxs], h⟩

/-! ### Reading -/

/-- What a cell holds: known of old memory, or by a fact. -/
def Rd (w0 : Base) (H : List HO) (a : Addr) (v : Value) : Prop := (w0.w.cell? a = some v ∧ ¬ w0.X a.block) ∨ ∃ h ∈ H, ∀ w, h.ok w → w.cell? a = some v

theorem Rd.cell {w0 : Base} {w : World} {H : List HO} {a : Addr} {v : Value} (h : Rd w0 H a v) (hp : Hp w0 H w) : w.cell? a = some v := by
  rcases h with h | ⟨x, hx, h⟩
  · rw [World.cell?_of_block (w := w0.w) (hp.ext.block a.block (World.block_lt_of_cell? w0.w a h.1) h.2)]; exact h.1
  · exact h w (hp.ok x hx)

theorem Rd.mono {w0 : Base} {H H' : List HO} {a : Addr} {v : Value} (h : Rd w0 H a v) (hs : ∀ x ∈ H, x ∈ H') : Rd w0 H' a v := by
  rcases h with h | ⟨x, hx, h⟩
  · exact .inl h
  · exact .inr ⟨x, hs x hx, h⟩

/-- Cells from an address on. -/
def Rds (w0 : Base) (H : List HO) (a : Addr) (vs : List Value) : Prop := ∀ i v, vs[i]? = some v → Rd w0 H (a.add i) v

/-- A read of real memory. -/
def LdOb (w0 : Base) (H : List HO) (a : Addr) (k : Option Nat) (K : SV → Prop) : Prop :=
  match k with
  | none => ∃ v, Rd w0 H a v ∧ K (.v v)
  | some n => ∃ vs, vs.length = n ∧ Rds w0 H a vs ∧ K (.v (.agg vs.toArray))

def boxAt : List Box → Nat → List Value
  | [], _ => []
  | x :: _, 0 => x.2
  | _ :: l, j + 1 => boxAt l j

theorem boxAt_get : ∀ (L : List Box) (j : Nat), j < L.length → ∃ T, L[j]? = some (T, boxAt L j)
  | [], j, h => by simp at h
  | x :: _, 0, _ => ⟨x.1, rfl⟩
  | _ :: l, j + 1, h => by simpa [boxAt] using boxAt_get l j (by simpa using h)

/-- A read of a box. -/
def ldBox (cs : List Value) (o : Nat) (k : Option Nat) (K : SV → Prop) : Prop :=
  match k with
  | none => ∃ v, cs[o]? = some v ∧ K (.v v)
  | some n => o + n ≤ cs.length ∧ K (.v (.agg ((cs.drop o).take n).toArray))

def ldS (w0 : Base) (L : List Box) (H : List HO) (k : Option (Option Nat)) (s : SV) (K : SV → Prop) : Prop :=
  match k, s with
  | some k, .p j o => j < L.length ∧ ldBox (boxAt L j) o k K
  | some k, .v (.pointer (some a)) => LdOb w0 H a k K
  | _, _ => False

/-! ### What each operation gives -/

def pickS (c a b : SV) (K : SV → Prop) : Prop :=
  match c with
  | .b t => K (bif t then a else b)
  | .v (.bool t) => withV a fun x => withV b fun y => (∃ p q, x = .bool p ∧ y = .bool q ∧ K (.v (.bool (bif t then p else q))))
  | _ => False

def ncS (s : SV) (K : SV → Prop) : Prop :=
  match s with
  | .p j o => K (.p j o)
  | .v (.pointer (some a)) => K (.v (.pointer (some a)))
  | .v (.func (.func f) x y) => K (.v (.func (.func f) x y))
  | .v (.func (.yield l) x y) => K (.v (.func (.yield l) x y))
  | _ => False

def bitS (op : BinOp) (k : IntKind) (x y : Int) : Int :=
  match op with
  | .and => k.wrap (BitVec.ofInt k.bits x &&& BitVec.ofInt k.bits y).toNat
  | .or => k.wrap (BitVec.ofInt k.bits x ||| BitVec.ofInt k.bits y).toNat
  | .xor => k.wrap (BitVec.ofInt k.bits x ^^^ BitVec.ofInt k.bits y).toNat
  | .andNot => k.wrap (BitVec.ofInt k.bits x &&& ~~~BitVec.ofInt k.bits y).toNat
  | _ => 0

/-- Operators on two integers. -/
def binI (op : BinOp) (k : IntKind) (x y : Int) (K : SV → Prop) : Prop :=
  match op with
  | .add => K (.v (.int k (k.wrap (x + y))))
  | .sub => K (.v (.int k (k.wrap (x - y))))
  | .mul => K (.v (.int k (k.wrap (x * y))))
  | .quo => y ≠ 0 ∧ K (.v (.int k (k.wrap (x.tdiv y))))
  | .rem => y ≠ 0 ∧ K (.v (.int k (x.tmod y)))
  | .shl => 0 ≤ y ∧ K (.v (.int k (k.wrap (x * 2 ^ (min y.toNat k.bits)))))
  | .shr => 0 ≤ y ∧ K (.v (.int k (x.fdiv (2 ^ (min y.toNat k.bits)))))
  | .and => K (.v (.int k (bitS .and k x y)))
  | .or => K (.v (.int k (bitS .or k x y)))
  | .xor => K (.v (.int k (bitS .xor k x y)))
  | .andNot => K (.v (.int k (bitS .andNot k x y)))
  | .eql => K (.v (.bool (x == y)))
  | .neq => K (.v (.bool (x != y)))
  | .lss => K (.v (.bool (decide (x < y))))
  | .leq => K (.v (.bool (decide (x ≤ y))))
  | .gtr => K (.v (.bool (decide (x > y))))
  | .geq => K (.v (.bool (decide (x ≥ y))))

/-- What is compared of two structs: pairs of integers or Bools. -/
def eqCells : List Value → List Value → Option Bool
  | [], [] => some true
  | .int _ x :: l, .int _ y :: m => (eqCells l m).map fun r => x == y && r
  | .bool x :: l, .bool y :: m => (eqCells l m).map fun r => x == y && r
  | _, _ => none

/-- '==' of two structs of a type is settled by their cells (a fact of the program, asked of the machine's own reckoning). -/
def EqAgg (P : Program) (T : TypeId) (xs ys : List Value) (r : Bool) : Prop :=
  ∀ w, (Op.equal T (.agg xs.toArray) (.agg ys.toArray)).run P w = .ok r w ∧ (eqGuard .eql T (.tmp 0) (.tmp 0) (.agg xs.toArray) (.agg ys.toArray)).run P w = .ok () w

def binS (P : Program) (op : BinOp) (T : TypeId) (x y : Value) (K : SV → Prop) : Prop :=
  match x, y with
  | .int k a, .int k' b => k = k' ∧ binI op k a b K
  | .bool a, .bool b => kdT P T = some 1 ∧ (match op with
    | .eql => K (.v (.bool (a == b)))
    | .neq => K (.v (.bool (!(a == b))))
    | _ => False)
  | .slice a _ _, .slice none _ _ => kdT P T = some 2 ∧ (match op with
    | .eql => K (.v (.bool a.isNone))
    | .neq => K (.v (.bool (!a.isNone)))
    | _ => False)
  | .agg xs, .agg ys => ∃ r, EqAgg P T xs.toList ys.toList r ∧ (match op with
    | .eql => K (.v (.bool r))
    | .neq => K (.v (.bool (!r)))
    | _ => False)
  | _, _ => False

def unS (op : UnOp) (s : SV) (K : SV → Prop) : Prop :=
  match op, s with
  | .not, .b t => K (.b !t)
  | .not, .v (.bool t) => K (.v (.bool !t))
  | .neg, .v (.int k n) => K (.v (.int k (k.wrap (0 - n))))
  | _, _ => False

def faS (k : Option Nat) (s : SV) (K : SV → Prop) : Prop :=
  match k, s with
  | some n, .p j o => K (.p j (o + n))
  | some n, .v (.pointer (some a)) => K (.v (.pointer (some (a.add n))))
  | _, _ => False

/-- A part of an aggregate's cells. -/
def partS (cs : List Value) (o : Nat) (k : Option Nat) (K : SV → Prop) : Prop :=
  match k with
  | none => ∃ v, cs[o]? = some v ∧ K (.v v)
  | some n => K (.v (.agg ((cs.drop o).take n).toArray))

def fldS (k : Option (Nat × Option Nat)) (x : Value) (K : SV → Prop) : Prop :=
  match k, x with
  | some (o, k), .agg cs => partS cs.toList o k K
  | _, _ => False

def ixS (k : Option (TypeId × Nat)) (ar : Option (Nat × Nat × Option Nat)) (x : SV) (i : Value) (K : SV → Prop) : Prop :=
  match i with
  | .int _ i =>
    match k, ar, x with
    | some (_, sz), _, .v (.slice a len _) => 0 ≤ i ∧ i < len ∧ ∃ ad, a = some ad ∧ K (.v (.pointer (some (ad.add (i.toNat * sz)))))
    | none, some (n, sz, _), .p j o => 0 ≤ i ∧ i < n ∧ K (.p j (o + i.toNat * sz))
    | none, some (n, sz, _), .v (.pointer (some a)) => 0 ≤ i ∧ i < n ∧ K (.v (.pointer (some (a.add (i.toNat * sz)))))
    | _, _, _ => False
  | _ => False

def idxS (ar : Option (Nat × Nat × Option Nat)) (x i : Value) (K : SV → Prop) : Prop :=
  match ar, x, i with
  | some (n, sz, k), .agg cs, .int _ i => 0 ≤ i ∧ i < n ∧ partS cs.toList (i.toNat * sz) k K
  | _, _, _ => False

def extS (x : Value) (i : Nat) (K : SV → Prop) : Prop :=
  match x with
  | .tuple vs => ∃ v, vs.toList[i]? = some v ∧ K (.v v)
  | _ => False

/-- A struct's cells with some fields put in. -/
def fillS (pl : List (Nat × Nat)) (cs : List Value) : List (Nat × Value) → Option (List Value)
  | [] => some cs
  | (i, v) :: r =>
    match pl[i]? with
    | some (o, n) => if v.cells.toList.length = n ∧ o + n ≤ cs.length then fillS pl (cs.take o ++ v.cells.toList ++ cs.drop (o + n)) r else none
    | none => none

def optV (s : Option SV) (K : Option Value → Prop) : Prop :=
  match s with
  | some s => withV s fun x => K (some x)
  | none => K none

/-- A bound of a slice expression: the number, or what it is by itself. -/
def bndS (x : Option Value) (d : Nat) (y : Nat) (K : Nat → Prop) : Prop :=
  match x with
  | some (.int _ i) => 0 ≤ i ∧ i ≤ y ∧ K i.toNat
  | none => K d
  | _ => False

def slS (k : Option (TypeId × Nat)) (x : Value) (lo hi mx : Option Value) (K : SV → Prop) : Prop :=
  match k, x with
  | some (_, sz), .slice a len cap =>
    bndS mx cap cap fun m => (mx.isSome = true → hi.isSome = true) ∧ bndS hi len m fun h => bndS lo 0 h fun l => K (.v (.slice (if m = l then a else a.map (·.add (l * sz))) (h - l) (m - l)))
  | _, _ => False

def lenS (x : Value) (K : SV → Prop) : Prop :=
  match x with
  | .slice _ n _ => K (.v (.int .i64 n))
  | _ => False

def capS (x : Value) (K : SV → Prop) : Prop :=
  match x with
  | .slice _ _ n => K (.v (.int .i64 n))
  | _ => False

def mmS (mx : Bool) (x y : Value) (K : SV → Prop) : Prop :=
  match x, y with
  | .int k a, .int _ b => K (.v (.int k (bif mx then max a b else min a b)))
  | _, _ => False

/-- Built-in functions that turn nothing. -/
def bltS (P : Program) (g : Operand → SV) (c : Callee) (args : List Operand) (ts : List TypeId) (K : SV → Prop) : Prop :=
  match c, args, ts with
  | .builtin .len, [x], [T] => (slT P T).isSome = true ∧ withV (g x) fun x => lenS x K
  | .builtin .cap, [x], [T] => (slT P T).isSome = true ∧ withV (g x) fun x => capS x K
  | .builtin .max, [x, y], _ => withV (g x) fun x => withV (g y) fun y => mmS true x y K
  | .builtin .min, [x, y], _ => withV (g x) fun x => withV (g y) fun y => mmS false x y K
  | _, _, _ => False

/-- Operations that turn nothing. -/
def freeOp (E : Env) (fr : List SV) (L : List Box) (H : List HO) (op : Op) (K : SV → Prop) : Prop :=
  match op with
  | .move x => K (op1 fr x)
  | .assign x => K (op1 fr x)
  | .pick c a b => pickS (op1 fr c) (op1 fr a) (op1 fr b) K
  | .load T x => ldS E.w0 L H (ldT E.P T) (op1 fr x) K
  | .nilCheck x => ncS (op1 fr x) K
  | .binOp op T x y _ => withV (op1 fr x) fun x => withV (op1 fr y) fun y => binS E.P op T x y K
  | .unOp op _ x => unS op (op1 fr x) K
  | .convert s d x => withV (op1 fr x) fun x => (∃ k k' n, intT E.P s = some k ∧ intT E.P d = some k' ∧ x = .int k n ∧ K (.v (.int k' (k'.wrap n))))
  | .makeFunc fn xs ys => withVs (xs.toList.map (op1 fr)) fun xs => withVs (ys.toList.map (op1 fr)) fun ys => K (.v (.func fn xs.toArray ys.toArray))
  | .fieldAddr T x f => faS (offT E.P T f) (op1 fr x) K
  | .field T x f => withV (op1 fr x) fun x => fldS (fldT E.P T f) x K
  | .indexAddr T x i => withV (op1 fr i) fun i => ixS (slT E.P T) (arT E.P T) (op1 fr x) i K
  | .index T x i => withV (op1 fr x) fun x => withV (op1 fr i) fun i => idxS (arT E.P T) x i K
  | .extract x i => withV (op1 fr x) fun x => extS x i K
  | .build T ps => withVs (ps.toList.map fun p => op1 fr p.2) fun xs => ∃ pl z cs, placesT E.P T = some pl ∧ zeroT E.P T = some z ∧ fillS pl z ((ps.toList.map (·.1)).zip xs) = some cs ∧ K (.v (.agg cs.toArray))
  | .slice T x lo hi mx => withV (op1 fr x) fun x => optV (lo.map (op1 fr)) fun lo => optV (hi.map (op1 fr)) fun hi => optV (mx.map (op1 fr)) fun mx => slS (slT E.P T) x lo hi mx K
  | .call c => bltS E.P (op1 fr) c.callee c.args.toList c.argTypes.toList K
  | _ => False

end Go.SX
