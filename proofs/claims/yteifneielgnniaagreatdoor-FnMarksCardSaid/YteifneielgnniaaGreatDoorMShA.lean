/- A machine whose values need not be written out, and what it says of the model's own: values, memory, calls, first part. No condition. -/
import Derived.WalkKit
import Derived.WalkSpells
import Derived.WalkLawsBesides
import Derived.StillTail
set_option linter.unusedVariables false
set_option linter.unusedSimpArgs false
set_option linter.unusedSectionVars false
namespace Go.Proofs.YteifneielgnniaaGreatDoor.Sh
open Go
/-- cells of package-level variables that a claim's row lays, or that are well-typed whatever they hold: the variable's block, the place, what is true of what it holds -/
def tabCells : List (Nat × Nat × (Value → Prop)) := [(8, 15, fun v => v = .int .u8 4), (1, 0, fun v => ∃ m, v = .int .i64 m), (3, 0, fun v => v = .nilIface ∨ ∃ t p, v = .iface t p), (4, 0, fun v => v = .nilIface ∨ ∃ t p, v = .iface t p)]
end Go.Proofs.YteifneielgnniaaGreatDoor.Sh
namespace Go.Proofs.YteifneielgnniaaGreatDoor.Sh
open Go
inductive IE | l (n : Int) | x (v : Unit → Int)
inductive BE | l (b : Bool) | x (v : Unit → Bool)
inductive NE | l (n : Nat) | x (v : Unit → Nat)
def IE.val : IE → Int | .l n => n | .x v => v ()
def BE.val : BE → Bool | .l n => n | .x v => v ()
def NE.val : NE → Nat | .l n => n | .x v => v ()
inductive C
  | b (e : BE) | i (k : IntKind) (e : IE) | f (k : FloatKind) (e : Unit → Nat) | z (k : FloatKind) (r m : Unit → Nat)
  | s (e : Unit → ByteArray)
  | p (b : Nat) (o : NE) | pn | sl (b : Nat) (o n : NE) | sn | fn (g : Nat) (caps : List Nat) | fnn
inductive V | c (x : C) | a (cs : List C) | t (vs : List V) | u | n
inductive Cells
  | lit (l : List C) | fl (l : Unit → List Nat) | cx (l : Unit → List (Nat × Nat)) | sx (l : Unit → List ByteArray) | it (k : IntKind) (l : Unit → List Int)
structure Blk where
  rw : Bool
  es : Nat
  cells : Cells
abbrev Heap := List (Option Blk)
/-- types -/
inductive TK | cell | bool | cpx | cp2 | st (fs : List (Nat × Nat)) | ar (n e : Nat) | sl (e : Nat) | str | oth
structure TI where
  size : Nat
  bytes : Nat
  kind : TK
  zero : List C
  dst : Option (IntKind ⊕ FloatKind)   -- for conversions
abbrev TTL := List (Nat × TI)
/-- a table of types, as a function: so it stays unread in a print -/
abbrev TT := Nat → Option TI
def ttGet (tt : TT) (t : Nat) : Option TI := tt t
def ttGetL : TTL → Nat → Option TI
  | [], _ => none
  | (n, i) :: r, t => match Nat.beq n t with | true => some i | false => ttGetL r t
def TI.agg (i : TI) : Bool := match i.kind with | .st _ => true | .ar _ _ => true | _ => false
abbrev Obl := List (Unit → Prop)
inductive Ob (p : Unit → Prop) (X : Unit → Prop) : Prop
  | mk : p () → X () → Ob p X
inductive Br (t : Unit → Bool) (X Y : Unit → Prop) : Prop
  | mk : (t () = true → X ()) → (t () = false → Y ()) → Br t X Y
inductive Stuck (o : Op) : Prop
inductive Alt (a b : Unit → Prop) (X Y : Unit → Prop) : Prop
  | mk : (a () ∨ b ()) → (a () → X ()) → (b () → Y ()) → Alt a b X Y
def obs : Obl → (Unit → Prop) → Prop
  | [], X => X ()
  | p :: ps, X => Ob p (fun _ => obs ps X)
abbrev Spec := List V → Heap → Option (V × Heap × Obl)
/-- what a function does; 'alt': two answers of other shapes, of which the first obligations tell which one it is -/
structure Sum where
  dup : Bool
  run : Spec
  alt : Option (Spec × Spec)
abbrev EnvL := List (Nat × Sum)
abbrev Env := Nat → Option Sum
def envGet (E : Env) (g : Nat) : Option Sum := E g
def envGetL : EnvL → Nat → Option Sum
  | [], _ => none
  | (n, i) :: r, t => match Nat.beq n t with | true => some i | false => envGetL r t
def beqK : IntKind → IntKind → Bool
  | .i8, .i8 | .i16, .i16 | .i32, .i32 | .i64, .i64 | .u8, .u8 | .u16, .u16 | .u32, .u32 | .u64, .u64 => true
  | _, _ => false
def beqF : FloatKind → FloatKind → Bool
  | .f32, .f32 | .f64, .f64 => true
  | _, _ => false
/-! floats -/
def qn : FloatKind → Nat
  | .f32 => 2143289344
  | .f64 => 9221120237041090560
def fop (op : BinOp) (k : FloatKind) (x y : Nat) : Nat := (floatBits op k x y).getD (qn k)
/-- the other sign -/
def fneg (k : FloatKind) (x : Nat) : Nat := match (k.format.read x).isNaN with
  | true => qn k
  | false => Op.negFloat k x
def fcmp (op : BinOp) (k : FloatKind) (x y : Nat) : Bool :=
  let c := k.format.order x y
  match op with
  | .eql => c == some .eq
  | .neq => c != some .eq
  | .lss => c == some .lt
  | .leq => c == some .lt || c == some .eq
  | .gtr => c == some .gt
  | .geq => c == some .gt || c == some .eq
  | _ => false
/-! ints -/
def icmpL (op : BinOp) (x y : Int) : Option Bool :=
  match op with
  | .eql => some (x == y)
  | .neq => some (x != y)
  | .lss => some (decide (x < y))
  | .leq => some (decide (x ≤ y))
  | .gtr => some (decide (x > y))
  | .geq => some (decide (x ≥ y))
  | _ => none
def ltB (a b : Int) : Bool := decide (a < b)
def leB (a b : Int) : Bool := decide (a ≤ b)
def icmp (op : BinOp) (a b : IE) : Option BE :=
  match a, b with
  | .l x, .l y => match icmpL op x y with | some r => some (.l r) | none => none
  | a, b =>
    match op with
    | .eql => some (.x fun _ => a.val == b.val)
    | .neq => some (.x fun _ => a.val != b.val)
    | .lss => some (.x fun _ => ltB a.val b.val)
    | .leq => some (.x fun _ => leB a.val b.val)
    | .gtr => some (.x fun _ => ltB b.val a.val)
    | .geq => some (.x fun _ => leB b.val a.val)
    | _ => none
def iand (k : IntKind) (a b : Int) : Int := k.wrap ((BitVec.ofInt k.bits a &&& BitVec.ofInt k.bits b).toNat : Int)
def ishr (k : IntKind) (a n : Int) : Int := a.fdiv (2 ^ (min n.toNat k.bits))
def iar (op : BinOp) (k : IntKind) (a b : IE) : Option (IE × Obl) :=
  match op, a, b with
  | .add, .l x, .l y => some (.l (k.wrap (x + y)), [])
  | .sub, .l x, .l y => some (.l (k.wrap (x - y)), [])
  | .mul, .l x, .l y => some (.l (k.wrap (x * y)), [])
  | .add, a, b => some (.x (fun _ => k.wrap (a.val + b.val)), [])
  | .sub, a, b => some (.x (fun _ => k.wrap (a.val - b.val)), [])
  | .mul, a, b => some (.x (fun _ => k.wrap (a.val * b.val)), [])
  | .quo, a, b => some (.x (fun _ => k.wrap (a.val.tdiv b.val)), [fun _ => b.val ≠ 0])
  | .rem, a, b => some (.x (fun _ => a.val.tmod b.val), [fun _ => b.val ≠ 0])
  | .and, a, b => some (.x (fun _ => iand k a.val b.val), [])
  | .shr, a, .l n => some (.x (fun _ => ishr k a.val n), [fun _ => 0 ≤ n])
  | _, _, _ => none
def isCmp : BinOp → Bool
  | .eql | .neq | .lss | .leq | .gtr | .geq => true
  | _ => false
def isFar : BinOp → Bool
  | .add | .sub | .mul | .quo => true
  | _ => false
def NE.add : NE → NE → NE
  | .l m1, .l m2 => .l (m1 + m2)
  | a, b => .x fun _ => a.val + b.val
def beq2 (a b : BE) : BE :=
  match a, b with
  | .l x, .l y => .l (x == y)
  | a, b => .x fun _ => a.val == b.val
def bneq2 (a b : BE) : BE :=
  match a, b with
  | .l x, .l y => .l (x != y)
  | a, b => .x fun _ => a.val != b.val
/-- rows of complex numbers, cell by cell -/
def eqCx : List C → List C → Option (Unit → Bool)
  | [], [] => some fun _ => true
  | .z .f32 a b :: r, .z .f32 a' b' :: q => match eqCx r q with
    | some t => some fun _ => (fcmp .eql .f32 (a ()) (a' ()) && fcmp .eql .f32 (b ()) (b' ())) && t ()
    | none => none
  | _, _ => none
/-- an array of complex numbers of this type -/
def cxArr (tt : TT) (T n : Nat) : Bool := match ttGet tt T with
  | some ti => match ti.kind with
    | .ar m e => match ttGet tt e with
      | some te => match te.kind with
        | .cpx => Nat.beq m n && Nat.beq te.size 1
        | _ => false
      | none => false
    | _ => false
  | none => false
def abin (tt : TT) (op : BinOp) (T : Nat) (x y : V) : Option (V × Obl) :=
  match x, y with
  | .c (.i k a), .c (.i k' b) =>
    match beqK k k' with
    | true => match isCmp op with
      | true => match icmp op a b with | some r => some (.c (.b r), []) | none => none
      | false => match iar op k a b with | some (r, o) => some (.c (.i k r), o) | none => none
    | false => none
  | .c (.f k a), .c (.f k' b) =>
    match beqF k k' with
    | true => match isCmp op with
      | true => some (.c (.b (.x fun _ => fcmp op k (a ()) (b ()))), [])
      | false => match isFar op with | true => some (.c (.f k fun _ => fop op k (a ()) (b ())), []) | false => none
    | false => none
  | .c (.b a), .c (.b b) =>
    match ttGet tt T with
    | some ⟨_, _, .bool, _, _⟩ => match op with
      | .eql => some (.c (.b (beq2 a b)), [])
      | .neq => some (.c (.b (bneq2 a b)), [])
      | _ => none
    | _ => none
  | .c (.z k a b), .c (.z k' a' b') =>
    match beqF k k', op with
    | true, .eql => some (.c (.b (.x fun _ => fcmp .eql k (a ()) (a' ()) && fcmp .eql k (b ()) (b' ()))), [])
    | true, .neq => some (.c (.b (.x fun _ => !(fcmp .eql k (a ()) (a' ()) && fcmp .eql k (b ()) (b' ())))), [])
    | _, _ => none
  | .a xs, .a ys =>
    match cxArr tt T xs.length, eqCx xs ys with
    | true, some t => match op with
      | .eql => some (.c (.b (.x t)), [])
      | .neq => some (.c (.b (.x fun _ => !(t ()))), [])
      | _ => none
    | _, _ => none
  | .c (.s a), .c (.s b) =>
    match op with
    | .add => some (.c (.s fun _ => a () ++ b ()), [fun _ => (a ()).size + (b ()).size ≤ 9223372036854775807])
    | .eql => some (.c (.b (.x fun _ => (a ()).toList == (b ()).toList)), [])
    | .neq => some (.c (.b (.x fun _ => !((a ()).toList == (b ()).toList))), [])
    | _ => none
  | _, _ => none
/-- constants -/
def cvC : Value → Option C
  | .bool b => some (.b (.l b))
  | .int k n => some (.i k (.l n))
  | .float k e => some (.f k fun _ => e)
  | .string s => some (.s fun _ => s)
  | .complex k r m => some (.z k (fun _ => r) (fun _ => m))
  | .pointer none => some .pn
  | .nilFunc => some .fnn
  | .slice none 0 0 => some .sn
  | _ => none
def av (A : List V) : Operand → V
  | .tmp t => A.getD t .u
  | .const v => match cvC v with | some c => .c c | none => .u
  | .func f => .c (.fn f [])
  | .global _ => .u
/-! memory -/
def flsOf : List C → Option (List (Unit → Nat))
  | [] => some []
  | .f .f32 e :: r => match flsOf r with | some q => some (e :: q) | none => none
  | _ => none
def cxsOf : List C → Option (List (Unit → Nat × Nat))
  | [] => some []
  | .z .f32 e m :: r => match cxsOf r with | some q => some ((fun _ => (e (), m ())) :: q) | none => none
  | _ => none
def sxsOf : List C → Option (List (Unit → ByteArray))
  | [] => some []
  | .s e :: r => match sxsOf r with | some q => some ((fun _ => e ()) :: q) | none => none
  | _ => none
def itsOf (k : IntKind) : List C → Option (List (Unit → Int))
  | [] => some []
  | .i k' e :: r => match beqK k k', itsOf k r with | true, some q => some ((fun _ => e.val) :: q) | _, _ => none
  | _ => none
def forced {α : Type} : List (Unit → α) → List α
  | [] => []
  | e :: r => e () :: forced r
/-- cells as a list that need not be written out -/
def Cells.toFl : Cells → Option (Unit → List Nat)
  | .fl l => some l
  | .lit l => match flsOf l with | some q => some fun _ => forced q | none => none
  | _ => none
def Cells.toCx : Cells → Option (Unit → List (Nat × Nat))
  | .cx l => some l
  | .lit l => match cxsOf l with | some q => some fun _ => forced q | none => none
  | _ => none
def Cells.toSx : Cells → Option (Unit → List ByteArray)
  | .sx l => some l
  | .lit l => match sxsOf l with | some q => some fun _ => forced q | none => none
  | _ => none
def Cells.toIt (k : IntKind) : Cells → Option (Unit → List Int)
  | .it k' l => match beqK k k' with | true => some l | false => none
  | .lit l => match itsOf k l with | some q => some fun _ => forced q | none => none
  | _ => none
def Cells.len : Cells → NE
  | .lit l => .l l.length
  | .fl l => .x fun _ => (l ()).length
  | .cx l => .x fun _ => (l ()).length
  | .sx l => .x fun _ => (l ()).length
  | .it _ l => .x fun _ => (l ()).length
def Cells.get1 (cs : Cells) (o : NE) : Option (C × Obl) :=
  match cs, o with
  | .lit l, .l n => match l[n]? with | some c => some (c, []) | none => none
  | .lit _, .x _ => none
  | .fl l, o => some (.f .f32 fun _ => (l ()).getD o.val 0, [fun _ => o.val < (l ()).length])
  | .cx l, o => some (.z .f32 (fun _ => ((l ()).getD o.val (0, 0)).1) (fun _ => ((l ()).getD o.val (0, 0)).2), [fun _ => o.val < (l ()).length])
  | .sx l, o => some (.s (fun _ => (l ()).getD o.val ByteArray.empty), [fun _ => o.val < (l ()).length])
  | .it k l, o => some (.i k (.x fun _ => (l ()).getD o.val 0), [fun _ => o.val < (l ()).length])
/-- cells at which one writes or reads at a place that is not written out -/
def Cells.flat (l : List C) : Option Cells :=
  match l with
  | .f .f32 _ :: _ => match (Cells.lit l).toFl with | some q => some (.fl q) | none => none
  | .z .f32 _ _ :: _ => match (Cells.lit l).toCx with | some q => some (.cx q) | none => none
  | .s _ :: _ => match (Cells.lit l).toSx with | some q => some (.sx q) | none => none
  | .i k _ :: _ => match (Cells.lit l).toIt k with | some q => some (.it k q) | none => none
  | _ => none
def Cells.get (cs : Cells) (o : NE) : Option (C × Obl) :=
  match cs, o with
  | .lit l, .x e => match Cells.flat l with | some c => Cells.get1 c (.x e) | none => none
  | c, o => Cells.get1 c o
def Cells.gets (cs : Cells) (o : NE) : Nat → Option (List C × Obl)
  | 0 => some ([], [])
  | n + 1 => match Cells.get cs o with
    | none => none
    | some (c, p) => match Cells.gets cs (o.add (.l 1)) n with
      | none => none
      | some (r, q) => some (c :: r, p ++ q)
def Cells.set1 (cs : Cells) (o : NE) (c : C) : Option (Cells × Obl) :=
  match cs, o, c with
  | .lit l, .l n, c => match Nat.blt n l.length with | true => some (.lit (l.set n c), []) | false => none
  | .fl l, o, .f .f32 e => some (.fl fun _ => (l ()).set o.val (e ()), [fun _ => o.val < (l ()).length])
  | .cx l, o, .z .f32 r m => some (.cx fun _ => (l ()).set o.val (r (), m ()), [fun _ => o.val < (l ()).length])
  | .sx l, o, .s e => some (.sx fun _ => (l ()).set o.val (e ()), [fun _ => o.val < (l ()).length])
  | .it k l, o, .i k' e => match beqK k k' with | true => some (.it k fun _ => (l ()).set o.val e.val, [fun _ => o.val < (l ()).length]) | false => none
  | _, _, _ => none
def Cells.set (cs : Cells) (o : NE) (c : C) : Option (Cells × Obl) :=
  match cs, o with
  | .lit l, .x e => match Cells.flat l with | some q => Cells.set1 q (.x e) c | none => none
  | q, o => Cells.set1 q o c
def Cells.sets (cs : Cells) (o : NE) : List C → Option (Cells × Obl)
  | [] => some (cs, [])
  | c :: r => match Cells.set cs o c with
    | none => none
    | some (cs', p) => match Cells.sets cs' (o.add (.l 1)) r with
      | none => none
      | some (cs'', q) => some (cs'', p ++ q)
def Heap.blk (H : Heap) (b : Nat) : Option Blk :=
  match H[b]? with
  | some (some B) => some B
  | _ => none
def aload (ti : TI) (H : Heap) (b : Nat) (o : NE) : Option (V × Obl) :=
  match Heap.blk H b with
  | none => none
  | some B => match ti.agg with
    | true => match B.cells.gets o ti.size with | some (cs, p) => some (.a cs, p) | none => none
    | false => match B.cells.get o with | some (c, p) => some (.c c, p) | none => none
def V.cells : V → Option (List C)
  | .c x => some [x]
  | .a cs => some cs
  | _ => none
def astore (ti : TI) (H : Heap) (b : Nat) (o : NE) (v : V) : Option (Heap × Obl) :=
  match Heap.blk H b, v.cells with
  | some B, some cs =>
    match B.rw, Nat.beq cs.length ti.size with
    | true, true => match B.cells.sets o cs with | some (c', p) => some (H.set b (some { B with cells := c' }), p) | none => none
    | _, _ => none
  | _, _ => none
def anew (H : Heap) (es : Nat) (cs : List C) : V × Heap := (.c (.p H.length (.l 0)), H ++ [some ⟨true, es, .lit cs⟩])
/-- put parts into a list of cells -/
def putAll (z : List C) (off : Nat) : List C → List C
  | [] => z
  | c :: r => putAll (z.set off c) (off + 1) r
def fillA (place : Nat → Option (Nat × Nat)) (z : List C) : List (Nat × V) → Option (List C)
  | [] => some z
  | (i, v) :: r =>
    match place i, v.cells with
    | some (off, size), some cs =>
      match Nat.beq cs.length size, Nat.ble (off + cs.length) z.length with
      | true, true => fillA place (putAll z off cs) r
      | _, _ => none
    | _, _ => none
def places (tt : TT) : List (Nat × Nat) → Option (List (Nat × Nat))
  | [] => some []
  | (off, t) :: r => match ttGet tt t, places tt r with
    | some ti, some q => some ((off, ti.size) :: q)
    | _, _ => none
def abuild (tt : TT) (t : Nat) (ps : List (Nat × V)) : Option V :=
  match ttGet tt t with
  | none => none
  | some ti => match ti.kind with
    | .st fs => match places tt fs with
      | some pl => match fillA (fun i => pl[i]?) ti.zero ps with | some cs => some (.a cs) | none => none
      | none => none
    | .ar _ e => match ttGet tt e with
      | some te => match fillA (fun i => some (i * te.size, te.size)) ti.zero ps with | some cs => some (.a cs) | none => none
      | none => none
    | _ => none
def IE.nat : IE → NE
  | .l n => .l n.toNat
  | .x v => .x fun _ => (v ()).toNat
def NE.mulK (a : NE) (k : Nat) : NE :=
  match a with
  | .l n => .l (n * k)
  | a => .x fun _ => a.val * k
/-- 0 <= i < n -/
def inb (i : IE) (n : NE) : Option Obl :=
  match i, n with
  | .l x, .l m => match decide (0 ≤ x ∧ x < m) with | true => some [] | false => none
  | i, n => some [fun _ => 0 ≤ i.val ∧ i.val < n.val]
def aindexAddr (tt : TT) (t : Nat) (x i : V) : Option (V × Obl) :=
  match ttGet tt t, x, i with
  | some ti, .c (.p b o), .c (.i _ e) => match ti.kind with
    | .ar n el => match ttGet tt el, inb e (.l n) with
      | some te, some p => some (.c (.p b (o.add (e.nat.mulK te.size))), p)
      | _, _ => none
    | _ => none
  | some ti, .c (.sl b o n), .c (.i _ e) => match ti.kind with
    | .sl el => match ttGet tt el, inb e n with
      | some te, some p => some (.c (.p b (o.add (e.nat.mulK te.size))), p)
      | _, _ => none
    | _ => none
  | _, _, _ => none
def apart (ti : TI) (cs : List C) (off : Nat) : Option V :=
  match ti.agg with
  | true => some (.a ((cs.drop off).take ti.size))
  | false => match cs[off]? with | some c => some (.c c) | none => none
def aindex (tt : TT) (t : Nat) (x i : V) : Option V :=
  match ttGet tt t, x, i with
  | some ti, .a cs, .c (.i _ (.l k)) => match ti.kind with
    | .ar n el => match ttGet tt el, decide (0 ≤ k ∧ k < (n : Int)) with
      | some te, true => apart te cs (k.toNat * te.size)
      | _, _ => none
    | _ => none
  | _, _, _ => none
/-- a byte of a text -/
def aindexS (tt : TT) (t : Nat) (x i : V) : Option (V × Obl) :=
  match ttGet tt t, x, i with
  | some ti, .c (.s e), .c (.i _ k) => match ti.kind with
    | .str => some (.c (.i .u8 (.x fun _ => (((e ()).data.toList.getD k.val.toNat 0).toNat : Int))), [fun _ => 0 ≤ k.val ∧ k.val < ((e ()).size : Int)])
    | _ => none
  | _, _, _ => none
def afield (tt : TT) (t : Nat) (x : V) (f : Nat) : Option V :=
  match ttGet tt t, x with
  | some ti, .a cs => match ti.kind with
    | .st fs => match fs[f]? with
      | some (off, ft) => match ttGet tt ft with | some te => apart te cs off | none => none
      | none => none
    | _ => none
  | _, _ => none
def afieldAddr (tt : TT) (t : Nat) (x : V) (f : Nat) : Option V :=
  match ttGet tt t, x with
  | some ti, .c (.p b o) => match ti.kind with
    | .st fs => match fs[f]? with
      | some (off, ft) => match ttGet tt ft with
        | some te => match te.size with | 0 => none | _ + 1 => some (.c (.p b (o.add (.l off))))
        | none => none
      | none => none
    | _ => none
  | _, _ => none
/-- lo <= hi <= n -/
def NE.sub (a b : NE) : NE :=
  match a, b with
  | .l m1, .l m2 => .l (m1 - m2)
  | a, b => .x fun _ => a.val - b.val
def bound (v : Option V) (d : NE) : Option (IE × NE) :=
  match v with
  | none => match d with | .l n => some (.l n, d) | .x f => some (.x (fun _ => (f () : Int)), d)
  | some (.c (.i _ e)) => some (e, e.nat)
  | _ => none
def bndOb (lo hi : IE) (n : NE) : Option Obl :=
  match lo, hi, n with
  | .l a, .l b, .l m => match decide (0 ≤ a ∧ a ≤ b ∧ b ≤ (m : Int)) with | true => some [] | false => none
  | a, b, m => some [fun _ => 0 ≤ a.val ∧ a.val ≤ b.val ∧ b.val ≤ (m.val : Int)]
/-- the block's row has elements of this size, or it is no row -/
def rowOk (H : Heap) (b size : Nat) : Bool :=
  match Heap.blk H b with
  | some B => match Nat.beq B.es 0 with | true => true | false => Nat.beq B.es size
  | none => false
def rowNo (H : Heap) (b : Nat) : Bool :=
  match Heap.blk H b with
  | some B => Nat.beq B.es 0
  | none => false
/-- slicing up to the length -/
def aslice (tt : TT) (H : Heap) (t : Nat) (x : V) (lo hi : Option V) : Option (V × Obl) :=
  match ttGet tt t, x with
  | some ti, .c (.p b o) => match ti.kind with
    | .ar n el => match ttGet tt el, bound lo (.l 0), bound hi (.l n), rowNo H b with
      | some te, some (a, an), some (h, hn), true => match bndOb a h (.l n) with
        | some p => some (.c (.sl b (o.add (an.mulK te.size)) (hn.sub an)), p)
        | none => none
      | _, _, _, _ => none
    | _ => none
  | some ti, .c (.sl b o n) => match ti.kind with
    | .sl el => match ttGet tt el with
      | some te => match bound lo (.l 0), bound hi n, rowOk H b te.size with
        | some (a, an), some (h, hn), true => match bndOb a h n with
          | some p => some (.c (.sl b (o.add (an.mulK te.size)) (hn.sub an)), p)
          | none => none
        | _, _, _ => none
      | none => none
    | _ => none
  | _, _ => none
/-- a part of a text -/
def asliceS (tt : TT) (t : Nat) (x : V) (lo hi : Option V) : Option (V × Obl) :=
  match ttGet tt t, x with
  | some ti, .c (.s e) => match ti.kind with
    | .str => match bound lo (.l 0), bound hi (.x fun _ => (e ()).size) with
      | some (a, an), some (h, hn) => match bndOb a h (.x fun _ => (e ()).size) with
        | some p => some (.c (.s fun _ => (e ()).extract an.val hn.val), p)
        | none => none
      | _, _ => none
    | _ => none
  | _, _ => none
/-- bytes as a text -/
def bytesT (l : List Int) : ByteArray := l.foldl (fun r n => r.push (UInt8.ofNat n.toNat)) ByteArray.empty
def aconvS (tt : TT) (H : Heap) (src dst : Nat) (x : V) : Option (V × Obl) :=
  match ttGet tt src, ttGet tt dst, x with
  | some si, some ti, .c (.sl b o n) => match si.kind, ti.kind, Heap.blk H b with
    | .sl e, .str, some B => match ttGet tt e, B.cells.toIt .u8 with
      | some te, some l => match te.dst with
        | some (.inl .u8) => some (.c (.s fun _ => bytesT (((l ()).drop o.val).take n.val)), [fun _ => o.val + n.val ≤ (l ()).length])
        | _ => none
      | _, _ => none
    | _, _, _ => none
  | _, _, _ => none
def anot : V → Option V
  | .c (.b (.l b)) => some (.c (.b (.l (!b))))
  | .c (.b (.x t)) => some (.c (.b (.x fun _ => !(t ()))))
  | _ => none
def aneg : V → Option V
  | .c (.f k e) => some (.c (.f k fun _ => fneg k (e ())))
  | _ => none
def apick (A : List V) (c a b : Operand) : Option V :=
  match av A c with
  | .c (.b (.l true)) => some (av A a)
  | .c (.b (.l false)) => some (av A b)
  | _ => none
def aextract (x : V) (i : Nat) : Option V :=
  match x with
  | .t vs => vs[i]?
  | _ => none
/-! rows -/
def reps (z : List C) : Nat → List C
  | 0 => []
  | n + 1 => z ++ reps z n
def repL {α : Type} (z : List α) : Nat → List α
  | 0 => []
  | n + 1 => z ++ repL z n
def Cells.seg (c : Cells) (o k : NE) : Option (Cells × Obl) :=
  match c, o, k with
  | .lit l, .l o, .l k => match Nat.ble (o + k) l.length with | true => some (.lit ((l.drop o).take k), []) | false => none
  | .lit _, _, _ => none
  | .fl l, o, k => some (.fl fun _ => ((l ()).drop o.val).take k.val, [fun _ => o.val + k.val ≤ (l ()).length])
  | .cx l, o, k => some (.cx fun _ => ((l ()).drop o.val).take k.val, [fun _ => o.val + k.val ≤ (l ()).length])
  | .sx l, o, k => some (.sx fun _ => ((l ()).drop o.val).take k.val, [fun _ => o.val + k.val ≤ (l ()).length])
  | .it q l, o, k => some (.it q fun _ => ((l ()).drop o.val).take k.val, [fun _ => o.val + k.val ≤ (l ()).length])
def Cells.cat (x y : Cells) : Option Cells :=
  match x with
  | .lit a => match y with
    | .lit b => some (.lit (a ++ b))
    | .fl b => match (Cells.lit a).toFl with | some a => some (.fl fun _ => a () ++ b ()) | none => none
    | .cx b => match (Cells.lit a).toCx with | some a => some (.cx fun _ => a () ++ b ()) | none => none
    | .sx b => match (Cells.lit a).toSx with | some a => some (.sx fun _ => a () ++ b ()) | none => none
    | .it k b => match (Cells.lit a).toIt k with | some a => some (.it k fun _ => a () ++ b ()) | none => none
  | .fl a => match y.toFl with | some b => some (.fl fun _ => a () ++ b ()) | none => none
  | .cx a => match y.toCx with | some b => some (.cx fun _ => a () ++ b ()) | none => none
  | .sx a => match y.toSx with | some b => some (.sx fun _ => a () ++ b ()) | none => none
  | .it k a => match y.toIt k with | some b => some (.it k fun _ => a () ++ b ()) | none => none
def eqN (a b : NE) : Option Obl :=
  match a, b with
  | .l x, .l y => match Nat.beq x y with | true => some [] | false => none
  | a, b => some [fun _ => a.val = b.val]
def leN (a : NE) (k : Nat) : Option Obl :=
  match a with
  | .l x => match Nat.ble x k with | true => some [] | false => none
  | a => some [fun _ => a.val ≤ k]
/-- a row of so many elements -/
def zeroRow (z : List C) (n : NE) : Option Cells :=
  match n with
  | .l n => some (.lit (reps z n))
  | .x n => match flsOf z with
    | some q => some (.fl fun _ => repL (forced q) (n ()))
    | none => match cxsOf z with
      | some q => some (.cx fun _ => repL (forced q) (n ()))
      | none => match itsOf .i64 z with
        | some q => some (.it .i64 fun _ => repL (forced q) (n ()))
        | none => none
def abuildSlice (tt : TT) (H : Heap) (t len : Nat) (ps : List (Nat × V)) : Option (V × Heap) :=
  match ttGet tt t with
  | some ti => match ti.kind with
    | .sl e => match ttGet tt e with
      | some te => match fillA (fun i => some (i * te.size, te.size)) (reps te.zero len) ps, Nat.ble (len * te.size) 16777216, te.size with
        | some cs, true, m + 1 => some (.c (.sl H.length (.l 0) (.l len)), H ++ [some ⟨true, m + 1, .lit cs⟩])
        | _, _, _ => none
      | none => none
    | _ => none
  | none => none
def amakeSlice (tt : TT) (H : Heap) (t : Nat) (l c : V) : Option (V × Heap × Obl) :=
  match ttGet tt t, l, c with
  | some ti, .c (.i _ n), .c (.i _ k) => match ti.kind with
    | .sl e => match ttGet tt e with
      | some te => match zeroRow te.zero n.nat, te.size with
        | some cs, m + 1 => some (.c (.sl H.length (.l 0) n.nat), H ++ [some ⟨true, m + 1, cs⟩], [fun _ => 0 ≤ n.val ∧ k.val = n.val ∧ (te.bytes : Int) * n.val ≤ 281474976710656 ∧ n.val ≤ 9223372036854775807])
        | _, _ => none
      | none => none
    | _ => none
  | _, _, _ => none
def aappend (tt : TT) (H : Heap) (t : Nat) (s x : V) : Option (V × Heap × Obl) :=
  match ttGet tt t with
  | none => none
  | some ti => match ti.kind with
    | .sl e => match ttGet tt e with
      | none => none
      | some te => match te.size, x with
        | m + 1, .c (.sl b2 o2 n2) => match Heap.blk H b2 with
          | none => none
          | some B2 => match B2.cells.seg o2 (n2.mulK (m + 1)) with
            | none => none
            | some (new, p1) => match s with
              | .c .sn => match n2 with
                | .l (n + 1) => match leN (.l ((n + 1) * te.bytes)) 140737488355328, leN (.l (n + 1)) 9223372036854775807 with
                  | some p2, some p3 => some (.c (.sl H.length (.l 0) (.l (n + 1))), H ++ [some ⟨true, m + 1, new⟩], p1 ++ (p2 ++ p3))
                  | _, _ => none
                | _ => none
              | .c (.sl b (.l 0) n1) => match Heap.blk H b with
                | none => none
                | some B => match B.rw, Nat.beq B.es (m + 1), Nat.beq b b2 with
                  | true, true, false => match B.cells.cat new, eqN B.cells.len (n1.mulK (m + 1)), leN ((n1.add n2).mulK te.bytes) 140737488355328, leN (n1.add n2) 9223372036854775807 with
                    | some cs, some p4, some p2, some p3 => some (.c (.sl H.length (.l 0) (n1.add n2)), H.set b none ++ [some ⟨true, m + 1, cs⟩], p1 ++ (p4 ++ (p2 ++ p3)))
                    | _, _, _, _ => none
                  | _, _, _ => none
              | _ => none
        | _, _ => none
    | _ => none
def capBlks : List V → Option (List Nat)
  | [] => some []
  | .c (.p b (.l 0)) :: r => match capBlks r with | some q => some (b :: q) | none => none
  | _ => none
/-! calls -/
/-- the blocks that cells name, in order -/
def namesC : C → List Nat
  | .p b _ => [b]
  | .sl b _ _ => [b]
  | .fn _ caps => caps
  | _ => []
def names : List C → List Nat
  | [] => []
  | x :: r => namesC x ++ names r
def namesVs : List V → Option (List Nat)
  | [] => some []
  | .c x :: r => match namesVs r with | some q => some (namesC x ++ q) | none => none
  | .a cs :: r => match namesVs r with | some q => some (names cs ++ q) | none => none
  | _ :: _ => none
def Cells.names : Cells → List Nat
  | .lit l => Sh.names l
  | _ => []
def blkNames (H : Heap) : List Nat → List Nat
  | [] => []
  | b :: r => (match Heap.blk H b with | some B => B.cells.names | none => []) ++ blkNames H r
def memB (b : Nat) : List Nat → Bool
  | [] => false
  | a :: r => match Nat.beq a b with | true => true | false => memB b r
def dedupe : List Nat → List Nat → List Nat
  | [], acc => acc
  | b :: r, acc => match memB b acc with | true => dedupe r acc | false => dedupe r (acc ++ [b])
def nodupB : List Nat → Bool
  | [] => true
  | a :: r => match memB a r with | true => false | false => nodupB r
/-- where a name stands -/
def placeOf (b : Nat) : List Nat → Nat → Nat
  | [], _ => 0
  | a :: r, k => match Nat.beq a b with | true => k | false => placeOf b r (k + 1)
/-- new names, in order -/
def asgC (x : C) (news : List Nat) : C × List Nat :=
  match x, news with
  | .p _ o, k :: r => (.p k o, r)
  | .sl _ o n, k :: r => (.sl k o n, r)
  | .fn g caps, r => (.fn g (r.take caps.length), r.drop caps.length)
  | x, r => (x, r)
def asgs : List C → List Nat → List C × List Nat
  | [], r => ([], r)
  | x :: q, r => match asgC x r with | (y, r') => match asgs q r' with | (ys, r'') => (y :: ys, r'')
def asgVs : List V → List Nat → List V
  | [], _ => []
  | .c x :: q, r => match asgC x r with | (y, r') => .c y :: asgVs q r'
  | .a cs :: q, r => match asgs cs r with | (ys, r') => .a ys :: asgVs q r'
  | v :: q, r => v :: asgVs q r
def subBlk (dup : Bool) (B : Blk) (c : Cells) : Blk := match dup with | true => ⟨false, 0, c⟩ | false => ⟨B.rw, B.es, c⟩
/-- blocks that the arguments name: their cells get new names -/
def sub0 (dup : Bool) (H : Heap) : List Nat → List Nat → Option Heap
  | [], _ => some []
  | b :: r, news => match Heap.blk H b with
    | none => none
    | some B => match B.cells with
      | .lit l => match asgs l news with
        | (ys, news') => match sub0 dup H r news' with
          | some q => some (some (subBlk dup B (.lit ys)) :: q)
          | none => none
      | c => match sub0 dup H r news with
        | some q => some (some (subBlk dup B c) :: q)
        | none => none
/-- blocks that those name: plain ones -/
def sub1 (dup : Bool) (H : Heap) : List Nat → Option Heap
  | [] => some []
  | b :: r => match Heap.blk H b with
    | none => none
    | some B => match B.cells.names, sub1 dup H r with
      | [], some q => some (some (subBlk dup B B.cells) :: q)
      | _, _ => none
structure Sel where
  sel : List Nat
  args : List V
  heap : Heap
def news (dup : Bool) (sel : List Nat) (k : Nat) (l : List Nat) : List Nat :=
  match dup with | true => List.range' k l.length | false => l.map fun b => placeOf b sel 0
def select (dup : Bool) (args : List V) (H : Heap) : Option Sel :=
  match namesVs args with
  | none => none
  | some n0 =>
    let s0 := match dup with | true => n0 | false => dedupe n0 []
    let n1 := blkNames H s0
    let sel := match dup with | true => n0 ++ n1 | false => dedupe n1 s0
    match (match dup with | true => true | false => nodupB sel), sub0 dup H s0 (news dup sel n0.length n1), sub1 dup H (sel.drop s0.length) with
    | true, some h0, some h1 => some ⟨sel, asgVs args (news dup sel 0 n0), h0 ++ h1⟩
    | _, _, _ => none
/-- names back -/
def backB (sel : List Nat) (base : Nat) (b : Nat) : Nat :=
  match Nat.blt b sel.length with
  | true => sel.getD b 0
  | false => base + (b - sel.length)
def backC (sel : List Nat) (base : Nat) : C → C
  | .p b o => .p (backB sel base b) o
  | .sl b o n => .sl (backB sel base b) o n
  | .fn g caps => .fn g (caps.map (backB sel base))
  | x => x
def backV1 (sel : List Nat) (base : Nat) : V → V
  | .c x => .c (backC sel base x)
  | .a cs => .a (cs.map (backC sel base))
  | .n => .n
  | _ => .u
def backV (sel : List Nat) (base : Nat) : V → V
  | .t vs => .t (vs.map (backV1 sel base))
  | v => backV1 sel base v
def backCells (sel : List Nat) (base : Nat) : Cells → Cells
  | .lit l => .lit (l.map (backC sel base))
  | c => c
def backBlk (sel : List Nat) (base : Nat) : Option Blk → Option Blk
  | some ⟨rw, es, c⟩ => some ⟨rw, es, backCells sel base c⟩
  | none => none
def findB (b : Nat) : List Nat → Nat → Option Nat
  | [], _ => none
  | a :: r, k => match Nat.beq a b with | true => some k | false => findB b r (k + 1)
def writeBack (sel : List Nat) (base : Nat) (Hs : Heap) : Heap → Nat → Heap
  | [], _ => (Hs.drop sel.length).map (backBlk sel base)
  | B :: r, i => (match findB i sel 0 with | some j => backBlk sel base (Hs.getD j none) | none => B) :: writeBack sel base Hs r (i + 1)
/-- every name is a new one -/
def freshN (n : Nat) (l : List Nat) : Bool := l.all (Nat.ble n)
def freshV1 (n : Nat) : V → Bool
  | .c x => freshN n (namesC x)
  | .a cs => freshN n (names cs)
  | .u | .n => true
  | .t _ => false
def freshV (n : Nat) : V → Bool
  | .t vs => vs.all (freshV1 n)
  | v => freshV1 n v
def freshBlk (n : Nat) : Option Blk → Bool
  | some B => freshN n B.cells.names
  | none => true
def rwBlk : Option Blk → Bool
  | some B => B.rw
  | none => true
def acall (s : Sum) (args : List V) (H : Heap) : Option (V × Heap × Obl) :=
  match select s.dup args H with
  | none => none
  | some q => match s.run q.args q.heap with
    | none => none
    | some (v, H', o) => match (H'.drop q.sel.length).all rwBlk with
      | false => none
      | true => match s.dup with
        | true => match freshV q.sel.length v, (H'.drop q.sel.length).all (freshBlk q.sel.length) with
          | true, true => some (backV q.sel H.length v, H ++ (H'.drop q.sel.length).map (backBlk q.sel H.length), o)
          | _, _ => none
        | false => some (backV q.sel H.length v, writeBack q.sel H.length H' H 0, o)
/-! an operation: quiet ones, then the others -/
def lenA : TK → V → Option V
  | .sl _, .c (.sl _ _ (.l n)) => some (.c (.i .i64 (.l n)))
  | .sl _, .c (.sl _ _ (.x n)) => some (.c (.i .i64 (.x fun _ => (n () : Int))))
  | .sl _, .c .sn => some (.c (.i .i64 (.l 0)))
  | .str, .c (.s e) => some (.c (.i .i64 (.x fun _ => ((e ()).size : Int))))
  | .ar n _, _ => some (.c (.i .i64 (.l n)))
  | _, _ => none
def capArgs : List Nat → List V := List.map fun b => .c (.p b (.l 0))
def callee (A : List V) (c : Call) : Option (Nat × List V) :=
  match c.callee with
  | .value f => match av A f with
    | .c (.fn g caps) => some (g, (c.args.toList.map (av A)) ++ capArgs caps)
    | _ => none
  | _ => none
def toF (dst : FloatKind) : V → Option (V × Obl)
  | .c (.f s e) => match s, dst with
    | .f32, .f32 => some (.c (.f s e), [])
    | .f64, .f64 => some (.c (.f s e), [])
    | .f32, .f64 => some (.c (.f .f64 fun _ => (floatToFloatBits .f32 (e ()) .f64).getD (qn .f64)), [])
    | .f64, .f32 => some (.c (.f .f32 fun _ => (floatToFloatBits .f64 (e ()) .f32).getD (qn .f32)), [fun _ => (FloatKind.f64.decode (e ())).isNaN = false → (floatToFloatBits .f64 (e ()) .f32).isSome = true])
  | .c (.i _ e) => some (.c (.f dst fun _ => floatOfInt dst e.val), [])
  | _ => none
def toI (dst : IntKind) : V → Option V
  | .c (.i _ (.l n)) => some (.c (.i dst (.l (dst.wrap n))))
  | .c (.i _ (.x n)) => some (.c (.i dst (.x fun _ => dst.wrap (n ()))))
  | _ => none
def toZ2 : V → Option (V × Obl)
  | .c (.z .f32 r m) => some (.c (.z .f64 (fun _ => (floatToFloatBits .f32 (r ()) .f64).getD (qn .f64)) (fun _ => (floatToFloatBits .f32 (m ()) .f64).getD (qn .f64))), [])
  | _ => none
def aconv (tt : TT) (src dst : Nat) (x : V) : Option (V × Obl) :=
  match ttGet tt src, ttGet tt dst with
  | some _, some ti => match ti.dst with
    | some (.inl k) => match toI k x with | some v => some (v, []) | none => none
    | some (.inr k) => toF k x
    | none => match ti.kind with
      | .cp2 => toZ2 x
      | _ => none
  | _, _ => none
/-- a call that only reads: the spec copies what it is handed, and hands back no new block -/
def acallQ (s : Sum) (args : List V) (H : Heap) : Option (V × Obl) :=
  match s.dup with
  | false => none
  | true => match acall s args H with
    | some (v, H', o) => match Nat.beq H'.length H.length with
      | true => some (v, o)
      | false => none
    | none => none
def aopQ (tt : TT) (E : Env) (o : Oper) (A : List V) (H : Heap) : Option (V × Obl) :=
  match o.op with
  | .move x => some (av A x, [])
  | .assign x => some (av A x, [])
  | .pick c a b => match apick A c a b with | some v => some (v, []) | none => none
  | .load t a => match ttGet tt t, av A a with
    | some ti, .c (.p b off) => aload ti H b off
    | _, _ => none
  | .nilCheck x => match av A x with
    | .c (.p b off) => some (.c (.p b off), [])
    | _ => none
  | .binOp op T x y _ => abin tt op T (av A x) (av A y)
  | .unOp .not _ x => match anot (av A x) with | some v => some (v, []) | none => none
  | .unOp .neg _ x => match aneg (av A x) with | some v => some (v, []) | none => none
  | .convert src dst x => match aconv tt src dst (av A x) with | some r => some r | none => aconvS tt H src dst (av A x)
  | .build t ps => match abuild tt t (ps.toList.map fun q => (q.1, av A q.2)) with | some v => some (v, []) | none => none
  | .fieldAddr s x f => match afieldAddr tt s (av A x) f with | some v => some (v, []) | none => none
  | .field s x f => match afield tt s (av A x) f with | some v => some (v, []) | none => none
  | .indexAddr t x i => aindexAddr tt t (av A x) (av A i)
  | .index t x i => match aindex tt t (av A x) (av A i) with | some v => some (v, []) | none => aindexS tt t (av A x) (av A i)
  | .slice t x lo hi none => match aslice tt H t (av A x) (lo.map (av A)) (hi.map (av A)) with | some r => some r | none => asliceS tt t (av A x) (lo.map (av A)) (hi.map (av A))
  | .extract x i => match aextract (av A x) i with | some v => some (v, []) | none => none
  | .call c => match c.callee with
    | .builtin .len => match c.args.toList, c.argTypes.toList with
      | [x], [t] => match ttGet tt t with
        | some ti => match lenA ti.kind (av A x) with | some v => some (v, []) | none => none
        | none => none
      | _, _ => none
    | .builtin .real => match c.args.toList with
      | [x] => match av A x with | .c (.z k r _) => some (.c (.f k r), []) | _ => none
      | _ => none
    | .builtin .imag => match c.args.toList with
      | [x] => match av A x with | .c (.z k _ m) => some (.c (.f k m), []) | _ => none
      | _ => none
    | .builtin .complex => match c.args.toList with
      | [x, y] => match av A x, av A y with | .c (.f .f32 r), .c (.f .f32 m) => some (.c (.z .f32 r m), []) | _, _ => none
      | _ => none
    | .value _ => match callee A c with
      | some (g, args) => match envGet E g with
        | some s => acallQ s args H
        | none => none
      | none => none
    | _ => none
  | _ => none
def aopW (tt : TT) (E : Env) (o : Oper) (A : List V) (H : Heap) : Option (V × Heap × Obl) :=
  match o.op with
  | .alloc t => match ttGet tt t with
    | some ti => let q := anew H 0 ti.zero; some (q.1, q.2, [])
    | none => none
  | .box _ x => match (av A x).cells with
    | some cs => let q := anew H 0 cs; some (q.1, q.2, [])
    | none => none
  | .store t a x => match ttGet tt t, av A a with
    | some ti, .c (.p b off) => match astore ti H b off (av A x) with | some (H', p) => some (.n, H', p) | none => none
    | _, _ => none
  | .buildSlice t len ps => match abuildSlice tt H t len (ps.toList.map fun q => (q.1, av A q.2)) with
    | some (v, H') => some (v, H', [])
    | none => none
  | .makeSlice t l c => amakeSlice tt H t (av A l) (av A c)
  | .makeFunc (.func g) first caps => match first.toList, capBlks (caps.toList.map (av A)) with
    | [], some bs => some (.c (.fn g bs), H, [])
    | _, _ => none
  | .call c => match c.callee with
    | .builtin .append => match c.args.toList, c.argTypes.toList with
      | [s, x], [t, t'] => match Nat.beq t t' with
        | true => aappend tt H t (av A s) (av A x)
        | false => none
      | _, _ => none
    | .value _ => match callee A c with
      | some (g, args) => match envGet E g with
        | some s => acall s args H
        | none => none
      | none => none
    | _ => none
  | _ => none
def aop (tt : TT) (E : Env) (o : Oper) (A : List V) (H : Heap) : Option (V × Heap × Obl) :=
  match aopQ tt E o A H with
  | some (v, p) => some (v, H, p)
  | none => aopW tt E o A H
inductive Ex | nrm | exit (id : Nat) | ret
abbrev Post := Ex → List V → Heap → Prop
def putA (A : List V) (dst : Option Nat) (v : V) : List V :=
  match dst with
  | some d => A.set d v
  | none => A
/-- a guard -/
inductive G | yes | no | ask (slot : Nat) (t : Unit → Bool) (want : Bool) | bad
def guardA (ops : List Oper) (o : Oper) (A : List V) : G :=
  match o.guard with
  | none => .yes
  | some (j, want) =>
    match ops[j]? with
    | none => .bad
    | some oj => match oj.dst with
      | none => .bad
      | some d => match A[d]? with
        | some (.c (.b (.l t))) => match t == want with | true => .yes | false => .no
        | some (.c (.b (.x t))) => .ask d t want
        | some .n => .no
        | _ => .bad
def envT (E : Env) : Env := fun g => match E g with
  | some s => match s.alt with | some (a, _) => some ⟨s.dup, a, none⟩ | none => none
  | none => none
def envF (E : Env) : Env := fun g => match E g with
  | some s => match s.alt with | some (_, a) => some ⟨s.dup, a, none⟩ | none => none
  | none => none
def stepA (tt : TT) (E : Env) (o : Oper) (A : List V) (H : Heap) (K : List V → Heap → Prop) : Prop :=
  match aop tt E o A H with
  | some (v, H', p) => obs p (fun _ => K (putA A o.dst v) H')
  | none => match aopW tt (envT E) o A H, aopW tt (envF E) o A H with
    | some (v1, H1, a :: p1), some (v2, H2, b :: p2) => Alt a b (fun _ => obs p1 (fun _ => K (putA A o.dst v1) H1)) (fun _ => obs p2 (fun _ => K (putA A o.dst v2) H2))
    | _, _ => Stuck o.op
def aops (tt : TT) (E : Env) (ops : List Oper) : List Oper → List V → Heap → (List V → Heap → Prop) → Prop
  | [], A, H, K => K A H
  | o :: r, A, H, K =>
    match guardA ops o A with
    | .yes => stepA tt E o A H (fun A' H' => aops tt E ops r A' H' K)
    | .no => aops tt E ops r (putA A o.dst .n) H K
    | .ask d t want =>
      Br t (fun _ => match want with
          | true => stepA tt E o (A.set d (.c (.b (.l true)))) H (fun A' H' => aops tt E ops r A' H' K)
          | false => aops tt E ops r (putA (A.set d (.c (.b (.l true)))) o.dst .n) H K)
        (fun _ => match want with
          | false => stepA tt E o (A.set d (.c (.b (.l false)))) H (fun A' H' => aops tt E ops r A' H' K)
          | true => aops tt E ops r (putA (A.set d (.c (.b (.l false)))) o.dst .n) H K)
    | .bad => Stuck o.op
/-! generalizing a state -/
def beqL : List Nat → List Nat → Bool
  | [], [] => true
  | a :: r, b :: q => match Nat.beq a b with | true => beqL r q | false => false
  | _, _ => false
/-- the first may be taken for the second, where N blocks are left -/
def genC (N : Nat) (x y : C) : Option Obl :=
  match x, y with
  | .b e, .b e' => some [fun _ => e.val = e'.val]
  | .i k e, .i k' e' => match beqK k k' with | true => some [fun _ => e.val = e'.val] | false => none
  | .f k e, .f k' e' => match beqF k k' with | true => some [fun _ => e () = e' ()] | false => none
  | .z k e m, .z k' e' m' => match beqF k k' with | true => some [fun _ => e () = e' (), fun _ => m () = m' ()] | false => none
  | .s e, .s e' => some [fun _ => e () = e' ()]
  | .p b o, .p b' o' => match Nat.beq b b', Nat.blt b N with | true, true => some [fun _ => o.val = o'.val] | _, _ => none
  | .pn, .pn => some []
  | .sl b o n, .sl b' o' n' => match Nat.beq b b', Nat.blt b N with | true, true => some [fun _ => o.val = o'.val, fun _ => n.val = n'.val] | _, _ => none
  | .sn, .sn => some []
  | .fn g c, .fn g' c' => match Nat.beq g g', beqL c c', c.all (Nat.blt · N) with | true, true, true => some [] | _, _, _ => none
  | .fnn, .fnn => some []
  | _, _ => none
def genCs (N : Nat) : List C → List C → Option Obl
  | [], [] => some []
  | x :: r, y :: q => match genC N x y, genCs N r q with | some o, some o' => some (o ++ o') | _, _ => none
  | _, _ => none
def genV1 (N : Nat) (x y : V) : Option Obl :=
  match x, y with
  | _, .u => some []
  | .n, .n => some []
  | .c a, .c b => genC N a b
  | .a a, .a b => genCs N a b
  | _, _ => none
def genV1s (N : Nat) : List V → List V → Option Obl
  | [], [] => some []
  | x :: r, y :: q => match genV1 N x y, genV1s N r q with | some o, some o' => some (o ++ o') | _, _ => none
  | _, _ => none
def genV (N : Nat) (x y : V) : Option Obl :=
  match x, y with
  | .t a, .t b => genV1s N a b
  | x, y => genV1 N x y
def genA (N : Nat) : List V → List V → Option Obl
  | [], [] => some []
  | x :: r, y :: q => match genV N x y, genA N r q with | some o, some o' => some (o ++ o') | _, _ => none
  | _, _ => none
def genCells (N : Nat) (x y : Cells) : Option Obl :=
  match y with
  | .lit b => match x with | .lit a => genCs N a b | _ => none
  | .fl b => match x.toFl with | some a => some [fun _ => a () = b ()] | none => none
  | .cx b => match x.toCx with | some a => some [fun _ => a () = b ()] | none => none
  | .sx b => match x.toSx with | some a => some [fun _ => a () = b ()] | none => none
  | .it k b => match x.toIt k with | some a => some [fun _ => a () = b ()] | none => none
def beqB : Bool → Bool → Bool
  | true, true | false, false => true
  | _, _ => false
def genBlk (N : Nat) (x y : Option Blk) : Option Obl :=
  match x, y with
  | _, none => some []
  | some B, some D => match beqB B.rw D.rw, Nat.beq B.es D.es with
    | true, true => genCells N B.cells D.cells
    | _, _ => none
  | _, _ => none
/-- the second may be shorter -/
def genH (N : Nat) : Heap → Heap → Option Obl
  | _, [] => some []
  | x :: r, y :: q => match genBlk N x y, genH N r q with | some o, some o' => some (o ++ o') | _, _ => none
  | [], _ :: _ => none
def gen (n0 : Nat) (A : List V) (H : Heap) (A' : List V) (H' : Heap) : Option Obl :=
  match Nat.ble n0 H'.length, genA H'.length A A', genH H'.length H H' with
  | true, some o, some o' => some (o ++ o')
  | _, _, _ => none
def ltN (n : Nat) (l : List Nat) : Bool := l.all (Nat.blt · n)
def ltV1 (n : Nat) : V → Bool
  | .c x => ltN n (namesC x)
  | .a cs => ltN n (names cs)
  | .u | .n => true
  | .t _ => false
def ltV (n : Nat) : V → Bool
  | .t vs => vs.all (ltV1 n)
  | v => ltV1 n v
def finH (N : Nat) (Hf : Heap) (sel : List Nat) : List Nat → Heap → Option Obl
  | [], [] => some []
  | _ :: r, none :: q => finH N Hf sel r q
  | b :: r, some D :: q => match ltN sel.length D.cells.names, genBlk N (Hf.getD b none) (backBlk sel 0 (some D)), finH N Hf sel r q with
    | true, some o, some o' => some (o ++ o')
    | _, _, _ => none
  | _, _ => none
/-- the first may be taken for the second, whose new blocks are called otherwise -/
def genR (n0 : Nat) (ρ : List Nat) (A : List V) (H : Heap) (A' : List V) (H' : Heap) : Option Obl :=
  let sel := List.range n0 ++ ρ
  match nodupB sel, A'.all (ltV sel.length), genA H.length A (A'.map (backV sel 0)), finH H.length H sel sel H' with
  | true, true, some o, some o' => some (o ++ o')
  | _, _, _, _ => none
structure Cfg where
  tt : TT
  E : Env
  n0 : Nat
inductive Gen (n0 : Nat) (A : List V) (H : Heap) (X : List V → Heap → Prop) : Prop
  | same : X A H → Gen n0 A H X
  | mk (A' : List V) (H' : Heap) : (match gen n0 A H A' H' with | some o => obs o (fun _ => X A' H') | none => False) → Gen n0 A H X
  | ren (ρ : List Nat) (A' : List V) (H' : Heap) : (match genR n0 ρ A H A' H' with | some o => obs o (fun _ => X A' H') | none => False) → Gen n0 A H X
def rounds (n0 : Nat) (f : Post → List V → Heap → Prop) (Q : Post) : Nat → List V → Heap → Prop
  | 0, _, _ => False
  | n + 1, A, H => Gen n0 A H (fun A' H' => f (fun e A'' H'' => match e with | .nrm => rounds n0 f Q n A'' H'' | .exit i => Q (.exit i) A'' H'' | .ret => Q .ret A'' H'') A' H')
inductive Loop (n0 : Nat) (f : Post → List V → Heap → Prop) (Q : Post) (A : List V) (H : Heap) : Prop
  | mk (n : Nat) : rounds n0 f Q n A H → Loop n0 f Q A H
/-- a region whose order is drawn: quiet operations alone -/
def stepQ (c : Cfg) (o : Oper) (A : List V) (H : Heap) (K : List V → Prop) : Prop :=
  match aopQ c.tt c.E o A H with
  | some (v, p) => obs p (fun _ => K (putA A o.dst v))
  | none => Stuck o.op
def aopsQ (c : Cfg) (ops : List Oper) (H : Heap) : List Oper → List V → (List V → Prop) → Prop
  | [], A, K => K A
  | o :: r, A, K =>
    match guardA ops o A with
    | .yes => stepQ c o A H (fun A' => aopsQ c ops H r A' K)
    | .no => aopsQ c ops H r (putA A o.dst .n) K
    | .ask d t want =>
      Br t (fun _ => match want with
          | true => stepQ c o (A.set d (.c (.b (.l true)))) H (fun A' => aopsQ c ops H r A' K)
          | false => aopsQ c ops H r (putA (A.set d (.c (.b (.l true)))) o.dst .n) K)
        (fun _ => match want with
          | false => stepQ c o (A.set d (.c (.b (.l false)))) H (fun A' => aopsQ c ops H r A' K)
          | true => aopsQ c ops H r (putA (A.set d (.c (.b (.l false)))) o.dst .n) K)
    | .bad => Stuck o.op
/-! a region whose order is drawn: quiet ones alone; quiet ones and then others, one behind the other; or each order by itself -/
/-- they may go first -/
def pullB (ops : Array Oper) : List Nat → List Nat → Array Bool → Bool
  | [], _, _ => true
  | i :: r, done, listed => (Region.ready .any ops listed).contains i && Region.free .any ops listed i && (match ops[i]? with
      | some oi => (match oi.dst with | some d => !(oi.looksAt ops).contains d && done.all (fun k => match ops[k]? with | some ok => !(ok.looksAt ops).contains d && ok.dst != some d | none => true) | none => true)
      | none => false) && pullB ops r (i :: done) (listed.setIfInBounds i true)
def listAll : List Nat → Array Bool → Array Bool
  | [], l => l
  | i :: r, l => listAll r (l.setIfInBounds i true)
def pullsB (ops : Array Oper) (I : List Nat) : Bool := Region.noSelect ops && Nat.ble I.length ops.size && pullB ops I [] (Array.replicate ops.size false)
inductive Lex (ops : Array Oper) (X : Unit → Prop) (T : Nat → Prop) (O : Unit → Prop) (Z : List Nat → Prop) : Prop
  | mk : Region.lexB .any ops = true → X () → Lex ops X T O Z
  | tail (n : Nat) : Region.lexTailB .any ops n = true → T n → Lex ops X T O Z
  | all : O () → Lex ops X T O Z
  | pull (I : List Nat) : pullsB ops I = true → Z I → Lex ops X T O Z
inductive Both (X Y : Unit → Prop) : Prop
  | mk : X () → Y () → Both X Y
def gstep (tt : TT) (E : Env) (ops : List Oper) (o : Oper) (A : List V) (H : Heap) (K : List V → Heap → Prop) : Prop :=
  match guardA ops o A with
  | .yes => stepA tt E o A H K
  | .no => K (putA A o.dst .n) H
  | .ask d t want =>
    Br t (fun _ => match want with
        | true => stepA tt E o (A.set d (.c (.b (.l true)))) H K
        | false => K (putA (A.set d (.c (.b (.l true)))) o.dst .n) H)
      (fun _ => match want with
        | false => stepA tt E o (A.set d (.c (.b (.l false)))) H K
        | true => K (putA (A.set d (.c (.b (.l false)))) o.dst .n) H)
  | .bad => Stuck o.op
def allP (f : Nat → Prop) : List Nat → Prop
  | [] => True
  | [i] => f i
  | i :: r => Both (fun _ => f i) (fun _ => allP f r)
def ordA (tt : TT) (E : Env) (ops : Array Oper) : Nat → Array Bool → List V → Heap → (List V → Heap → Prop) → Prop
  | 0, listed, A, H, K => match Region.ready .any ops listed with
    | [] => K A H
    | _ => False
  | f + 1, listed, A, H, K => match Region.ready .any ops listed with
    | [] => K A H
    | x :: l => allP (fun i => match ops[i]? with
      | none => False
      | some o => gstep tt E ops.toList o A H (fun A' H' => ordA tt E ops f (listed.setIfInBounds i true) A' H' K)) (x :: l)
/-! quiet operations first, the others in each order; in each state what was quiet would tell the same again -/
def quietI (c : Cfg) (ops : Array Oper) (H : Heap) : List Nat → List V → (List V → Prop) → Prop
  | [], A, K => K A
  | i :: r, A, K => match ops[i]? with
    | some o => match guardA ops.toList o A with
      | .yes => stepQ c o A H (fun A' => quietI c ops H r A' K)
      | _ => False
    | none => False
def sameS (A : List V) (d : Option Tmp) (v : V) : Prop := match d with
  | some d => A[d]? = some v
  | none => True
def stabA (c : Cfg) (ops : Array Oper) (H : Heap) (A : List V) : List Nat → (Unit → Prop) → Prop
  | [], K => K ()
  | i :: r, K => match ops[i]? with
    | some o => match guardA ops.toList o A with
      | .yes => match aopQ c.tt c.E o A H with
        | some (v, p) => obs p (fun _ => Ob (fun _ => sameS A o.dst v) (fun _ => stabA c ops H A r K))
        | none => Stuck o.op
      | _ => Stuck o.op
    | none => False
def ordI (c : Cfg) (ops : Array Oper) (I : List Nat) : Nat → Array Bool → List V → Heap → (List V → Heap → Prop) → Prop
  | 0, listed, A, H, K => stabA c ops H A I (fun _ => match Region.ready .any ops listed with
    | [] => K A H
    | _ => False)
  | f + 1, listed, A, H, K => stabA c ops H A I (fun _ => match Region.ready .any ops listed with
    | [] => K A H
    | x :: l => allP (fun i => match ops[i]? with
      | none => False
      | some o => gstep c.tt c.E ops.toList o A H (fun A' H' => ordI c ops I f (listed.setIfInBounds i true) A' H' K)) (x :: l))
def wpa (c : Cfg) : Code → Post → List V → Heap → Prop
  | .skip, Q, A, H => Q .nrm A H
  | .label _, Q, A, H => Q .nrm A H
  | .region _ ops false, Q, A, H => aops c.tt c.E ops.toList ops.toList A H (fun A' H' => Q .nrm A' H')
  | .region _ ops true, Q, A, H => Lex ops (fun _ => aopsQ c ops.toList H ops.toList A (fun A' => Q .nrm A' H))
      (fun n => aopsQ c ops.toList H (ops.toList.take n) A (fun A' => aops c.tt c.E ops.toList (ops.toList.drop n) A' H (fun A' H' => Q .nrm A' H')))
      (fun _ => ordA c.tt c.E ops ops.size (Array.replicate ops.size false) A H (fun A' H' => Q .nrm A' H'))
      (fun I => quietI c ops H I A (fun A' => ordI c ops I (ops.size - I.length) (listAll I (Array.replicate ops.size false)) A' H (fun A' H' => Q .nrm A' H')))
  | .seq a b, Q, A, H => wpa c a (fun e A' H' => match e with | .nrm => wpa c b Q A' H' | .exit n => Q (.exit n) A' H' | .ret => Q .ret A' H') A H
  | .cond x y z, Q, A, H =>
    match av A x with
    | .c (.b (.l t)) => match t with | true => wpa c y Q A H | false => wpa c z Q A H
    | .c (.b (.x t)) => Br t (fun _ => wpa c y Q A H) (fun _ => wpa c z Q A H)
    | _ => False
  | .block id x, Q, A, H => wpa c x (fun e A' H' => match e with
      | .nrm => Q .nrm A' H'
      | .exit n => match Nat.beq n id with | true => Q .nrm A' H' | false => Q (.exit n) A' H'
      | .ret => Q .ret A' H') A H
  | .loop x, Q, A, H => Loop c.n0 (fun Q' A' H' => wpa c x Q' A' H') Q A H
  | .exit id, Q, A, H => Q (.exit id) A H
  | .ret, Q, A, H => Q .ret A H
  | _, _, _, _ => False
end Go.Proofs.YteifneielgnniaaGreatDoor.Sh
namespace Go.Proofs.YteifneielgnniaaGreatDoor.Sh
open Go Ieee
/-! ## floats -/
theorem nan_of (f : Format) (hb : f.binade ≤ f.infRung) (w : Nat) : (f.read w).isNaN = decide (f.infRung < w % f.signWeight) := by
  unfold Format.read
  dsimp only
  by_cases h1 : w % f.signWeight < f.binade
  · rw [if_pos h1]; simp [Datum.isNaN]; omega
  · rw [if_neg h1]
    by_cases h2 : w % f.signWeight < f.infRung
    · rw [if_pos h2]; simp [Datum.isNaN]; omega
    · rw [if_neg h2]
      by_cases h3 : w % f.signWeight = f.infRung
      · rw [if_pos h3]; simp [Datum.isNaN]; omega
      · rw [if_neg h3]; simp [Datum.isNaN]; omega
theorem nan_read (k : FloatKind) (w : Nat) : (k.format.read w).isNaN = decide (k.format.infRung < w % k.format.signWeight) := by
  cases k
  · exact nan_of single (by decide) w
  · exact nan_of double (by decide) w
theorem nan_qn (k : FloatKind) : (k.format.read (qn k)).isNaN = true := by
  rw [nan_read]; cases k <;> decide
/-- the NaN that is drawn -/
def nanOf : FloatKind → Nat → Nat
  | .f32, t => (t % 2) * 2 ^ 31 + 0x7f800000 + 1 + (t / 2) % (2 ^ 23 - 1)
  | .f64, t => (t % 2) * 2 ^ 63 + 0x7ff0000000000000 + 1 + (t / 2) % (2 ^ 52 - 1)
theorem sgn32 : single.signWeight = 2147483648 := by decide
theorem sgn64 : double.signWeight = 9223372036854775808 := by decide
theorem inf32 : single.infRung = 2139095040 := by decide
theorem inf64 : double.infRung = 9218868437227405312 := by decide
theorem nan_nanOf (k : FloatKind) (t : Nat) : (k.format.read (nanOf k t)).isNaN = true := by
  rw [nan_read]
  cases k
  · have h1 : t % 2 ≤ 1 := by omega
    have h2 : (t / 2) % (2 ^ 23 - 1) < 8388607 := Nat.mod_lt _ (by decide)
    show decide (single.infRung < _ % single.signWeight) = true
    refine decide_eq_true ?_
    rw [sgn32, inf32]; simp only [nanOf]
    generalize (t / 2) % (2 ^ 23 - 1) = m at *
    generalize t % 2 = b at *
    omega
  · have h1 : t % 2 ≤ 1 := by omega
    have h2 : (t / 2) % (2 ^ 52 - 1) < 4503599627370495 := Nat.mod_lt _ (by decide)
    show decide (double.infRung < _ % double.signWeight) = true
    refine decide_eq_true ?_
    rw [sgn64, inf64]; simp only [nanOf]
    generalize (t / 2) % (2 ^ 52 - 1) = m at *
    generalize t % 2 = b at *
    omega
theorem nan_word (k : FloatKind) (neg : Bool) (r : Nat) (h : r ≤ k.format.infRung) : (k.format.read (k.format.word neg r)).isNaN = false := by
  rw [nan_read]
  have hs : k.format.infRung < k.format.signWeight := k.format.infRung_lt
  have : k.format.word neg r % k.format.signWeight = r := by
    unfold Format.word
    cases neg
    · simp only [Bool.false_eq_true, if_false]; exact Nat.mod_eq_of_lt (by omega)
    · simp only [if_true]; rw [Nat.add_mod_left]; exact Nat.mod_eq_of_lt (by omega)
  rw [this]; simp; exact h
theorem nan_nearest (k : FloatKind) (neg : Bool) (m : Nat) (p : Int) : (k.format.read (k.format.nearest neg m p)).isNaN = false := by
  unfold Format.nearest
  split
  · exact nan_word k _ _ (Nat.zero_le _)
  · exact nan_word k _ _ (Nat.min_le_right ..)
theorem nan_write (k : FloatKind) (d : Datum) (h : d.isNaN = false) : (k.format.read (k.format.write d)).isNaN = false := by
  cases d with
  | number s m e => exact nan_nearest k s m e
  | infinity s => exact nan_word k s _ (Nat.le_refl _)
  | nan s t => simp [Datum.isNaN] at h
theorem isNaN_iff {d : Datum} (h : d.isNaN = true) : ∃ s t, d = .nan s t := by
  cases d <;> simp [Datum.isNaN] at h; exact ⟨_, _, rfl⟩
/-- the same bits, or both NaN -/
def feq (k : FloatKind) (x y : Nat) : Prop := x = y ∨ ((k.format.read x).isNaN = true ∧ (k.format.read y).isNaN = true)
theorem feq.refl (k : FloatKind) (x : Nat) : feq k x x := .inl rfl
theorem nan_neg (k : FloatKind) (b : Nat) : (k.format.read (Op.negFloat k b)).isNaN = (k.format.read b).isNaN := by
  have h : Op.negFloat k b % k.format.signWeight = b % k.format.signWeight := by
    unfold Op.negFloat Format.signWeight
    rw [Nat.xor_mod_two_pow, Nat.mod_self, Nat.xor_zero]
  rw [nan_read, nan_read, h]
theorem fneg_ok {k : FloatKind} {x y : Nat} (h : feq k x y) : feq k (Op.negFloat k x) (fneg k y) := by
  unfold fneg
  rcases h with rfl | ⟨h1, h2⟩
  · split
    · rename_i h; exact .inr ⟨by rw [nan_neg]; exact h, nan_qn k⟩
    · exact .inl rfl
  · rw [h2]
    exact .inr ⟨by rw [nan_neg]; exact h1, nan_qn k⟩
theorem floatBits_nanL {op : BinOp} {k : FloatKind} {x y : Nat} (h : (k.format.read x).isNaN = true) : floatBits op k x y = none := by
  obtain ⟨s, t, h⟩ := isNaN_iff h
  unfold floatBits
  split <;> simp [Format.add, Format.sub, Format.mul, Format.div, h, Datum.sum, Datum.product, Datum.quotient]
theorem floatBits_nanR {op : BinOp} {k : FloatKind} {x y : Nat} (h : (k.format.read y).isNaN = true) : floatBits op k x y = none := by
  obtain ⟨s, t, h⟩ := isNaN_iff h
  unfold floatBits
  split <;> simp only [Format.add, Format.sub, Format.mul, Format.div, h, Datum.opposite]
  all_goals cases k.format.read x <;> rfl
theorem floatBits_feq {op : BinOp} {k : FloatKind} {x y x' y' : Nat} (hx : feq k x x') (hy : feq k y y') : floatBits op k x y = floatBits op k x' y' := by
  rcases hx with rfl | ⟨h1, h2⟩
  · rcases hy with rfl | ⟨h1, h2⟩
    · rfl
    · rw [floatBits_nanR h1, floatBits_nanR h2]
  · rw [floatBits_nanL h1, floatBits_nanL h2]
theorem order_nanL {k : FloatKind} {x y : Nat} (h : (k.format.read x).isNaN = true) : k.format.order x y = none := by
  obtain ⟨s, t, h⟩ := isNaN_iff h
  simp [Format.order, h, Datum.order]
theorem order_nanR {k : FloatKind} {x y : Nat} (h : (k.format.read y).isNaN = true) : k.format.order x y = none := by
  obtain ⟨s, t, h⟩ := isNaN_iff h
  unfold Format.order; rw [h]; cases k.format.read x <;> rfl
theorem order_feq {k : FloatKind} {x y x' y' : Nat} (hx : feq k x x') (hy : feq k y y') : k.format.order x y = k.format.order x' y' := by
  rcases hx with rfl | ⟨h1, h2⟩
  · rcases hy with rfl | ⟨h1, h2⟩
    · rfl
    · rw [order_nanR h1, order_nanR h2]
  · rw [order_nanL h1, order_nanL h2]
theorem run_fop {P : Program} (w : World) (op : BinOp) (T : TypeId) (k : FloatKind) (x y x' y' : Nat) (ho : isFar op = true) (hx : feq k x x') (hy : feq k y y') :
    ∃ z n, (binOp op T (.float k x) (.float k y)).run P w = .ok (.float k z) (w.drewN n) ∧ feq k z (fop op k x' y') := by
  have he := floatBits_feq (op := op) hx hy
  cases hf : floatBits op k x y with
  | some r =>
    refine ⟨r, 0, run_float_arith w op T k x y r hf, ?_⟩
    unfold fop; rw [← he, hf]; exact .inl rfl
  | none =>
    refine ⟨nanOf k (w.tape w.drawn (.nanBits k x y)), 1, ?_, .inr ⟨nan_nanOf _ _, by unfold fop; rw [← he, hf]; exact nan_qn k⟩⟩
    unfold floatBits at hf
    cases op <;> simp only [isFar, Bool.false_eq_true] at ho <;> simp only at hf <;> cases k <;>
      simp [binOp, Op.floatArith, hf, choose, Sem.run, Question.forced, Question.cut, nanOf] <;> rfl
theorem run_fcmp {P : Program} (w : World) (op : BinOp) (T : TypeId) (k : FloatKind) (x y x' y' : Nat) (ho : isCmp op = true) (hx : feq k x x') (hy : feq k y y') :
    (binOp op T (.float k x) (.float k y)).run P w = .ok (.bool (fcmp op k x' y')) w := by
  have := order_feq hx hy
  cases op <;> simp only [isCmp, Bool.false_eq_true] at ho <;> simp [binOp, Op.floatCmp, fcmp, this]
/-! ## relations -/
structure Loc where
  blk : Nat
  base : Nat
  es : Nat
  cap : Nat
def relL {α β : Type} (R : α → β → Prop) : List α → List β → Prop
  | [], [] => True
  | a :: as, b :: bs => R a b ∧ relL R as bs
  | _, _ => False
section relL
variable {α β : Type} {R S : α → β → Prop}
theorem relL.len : ∀ {as : List α} {bs : List β}, relL R as bs → as.length = bs.length
  | [], [], _ => rfl
  | _ :: _, _ :: _, h => by simp [relL.len h.2]
  | [], _ :: _, h => h.elim
  | _ :: _, [], h => h.elim
theorem relL.get : ∀ {as : List α} {bs : List β}, relL R as bs → ∀ {i : Nat} {a : α}, as[i]? = some a → ∃ b, bs[i]? = some b ∧ R a b
  | [], [], _, i, a, h => by simp at h
  | x :: _, y :: _, h, 0, a, e => by simp at e; subst e; exact ⟨y, rfl, h.1⟩
  | _ :: _, _ :: _, h, i + 1, a, e => by simpa using relL.get h.2 (by simpa using e)
  | [], _ :: _, h, _, _, _ => h.elim
  | _ :: _, [], h, _, _, _ => h.elim
theorem relL.mono : ∀ {as : List α} {bs : List β}, relL R as bs → (∀ a b, a ∈ as → R a b → S a b) → relL S as bs
  | [], [], _, _ => trivial
  | _ :: _, _ :: _, h, f => ⟨f _ _ (by simp) h.1, relL.mono h.2 fun a b m => f a b (by simp [m])⟩
  | [], _ :: _, h, _ => h.elim
  | _ :: _, [], h, _ => h.elim
theorem relL.set : ∀ {as : List α} {bs : List β}, relL R as bs → ∀ (i : Nat) {a : α} {b : β}, R a b → relL R (as.set i a) (bs.set i b)
  | [], [], _, _, _, _, _ => trivial
  | _ :: _, _ :: _, h, 0, _, _, r => ⟨r, h.2⟩
  | _ :: _, _ :: _, h, i + 1, _, _, r => ⟨h.1, relL.set h.2 i r⟩
  | [], _ :: _, h, _, _, _, _ => h.elim
  | _ :: _, [], h, _, _, _, _ => h.elim
theorem relL.append : ∀ {as : List α} {bs : List β} {cs : List α} {ds : List β}, relL R as bs → relL R cs ds → relL R (as ++ cs) (bs ++ ds)
  | [], [], _, _, _, h => h
  | _ :: _, _ :: _, _, _, h, k => ⟨h.1, relL.append h.2 k⟩
  | [], _ :: _, _, _, h, _ => h.elim
  | _ :: _, [], _, _, h, _ => h.elim
theorem relL.drop : ∀ {as : List α} {bs : List β}, relL R as bs → ∀ n, relL R (as.drop n) (bs.drop n)
  | [], [], _, n => by simp [relL]
  | _ :: _, _ :: _, h, 0 => h
  | _ :: _, _ :: _, h, n + 1 => relL.drop h.2 n
  | [], _ :: _, h, _ => h.elim
  | _ :: _, [], h, _ => h.elim
theorem relL.take : ∀ {as : List α} {bs : List β}, relL R as bs → ∀ n, relL R (as.take n) (bs.take n)
  | [], [], _, n => by simp [relL]
  | _ :: _, _ :: _, _, 0 => trivial
  | _ :: _, _ :: _, h, n + 1 => ⟨h.1, relL.take h.2 n⟩
  | [], _ :: _, h, _ => h.elim
  | _ :: _, [], h, _ => h.elim
theorem relL.map {γ δ : Type} {T : γ → δ → Prop} (f : α → γ) (g : β → δ) : ∀ {as : List α} {bs : List β}, relL R as bs → (∀ a b, a ∈ as → R a b → T (f a) (g b)) → relL T (as.map f) (bs.map g)
  | [], [], _, _ => trivial
  | _ :: _, _ :: _, h, k => ⟨k _ _ (by simp) h.1, relL.map f g h.2 fun a b m => k a b (by simp [m])⟩
  | [], _ :: _, h, _ => h.elim
  | _ :: _, [], h, _ => h.elim
theorem relL.replicate {a : α} {b : β} (h : R a b) : ∀ n, relL R (List.replicate n a) (List.replicate n b)
  | 0 => trivial
  | n + 1 => ⟨h, relL.replicate h n⟩
end relL
def capOk (L : Loc) (o cap : Nat) : Prop := L.es = 0 ∨ o + cap * L.es ≤ L.cap
def addrOf (L : Loc) (o : Nat) : Addr := ⟨L.blk, L.base + o, none⟩
def relC (μ : Nat → Loc) (N : Nat) : C → Value → Prop
  | .b e, v => v = .bool e.val
  | .i k e, v => v = .int k e.val
  | .f k e, v => ∃ x, v = .float k x ∧ feq k x (e ())
  | .z k r m, v => ∃ x y, v = .complex k x y ∧ feq k x (r ()) ∧ feq k y (m ())
  | .s e, v => v = .string (e ())
  | .p b o, v => b < N ∧ v = .pointer (some (addrOf (μ b) o.val))
  | .pn, v => v = .pointer none
  | .sl b o n, v => b < N ∧ ∃ cap a, n.val ≤ cap ∧ capOk (μ b) o.val cap ∧ (cap = 0 ∨ a = addrOf (μ b) o.val) ∧ v = .slice (some a) n.val cap
  | .sn, v => v = .slice none 0 0
  | .fn g caps, v => (∀ b ∈ caps, b < N) ∧ v = .func (.func g) #[] (caps.map fun b => Value.pointer (some (addrOf (μ b) 0))).toArray
  | .fnn, v => v = .nilFunc
def relV1 (μ : Nat → Loc) (N : Nat) : V → Value → Prop
  | .c x, v => relC μ N x v
  | .a cs, v => ∃ vs : List Value, v = .agg vs.toArray ∧ relL (relC μ N) cs vs
  | .u, _ => True
  | .n, v => v = undef
  | .t _, _ => False
def relV (μ : Nat → Loc) (N : Nat) : V → Value → Prop
  | .t vs, v => ∃ ws : List Value, v = .tuple ws.toArray ∧ relL (relV1 μ N) vs ws
  | x, v => relV1 μ N x v
def relA (μ : Nat → Loc) (N : Nat) (A : List V) (tmps : Array Value) : Prop := relL (relV μ N) A tmps.toList
/-- two places agree below N -/
def agree (N : Nat) (μ ν : Nat → Loc) : Prop := ∀ i, i < N → ν i = μ i
theorem agree.refl (N : Nat) (μ : Nat → Loc) : agree N μ μ := fun _ _ => rfl
theorem agree.trans {N : Nat} {μ ν ρ : Nat → Loc} (h : agree N μ ν) (k : agree N ν ρ) : agree N μ ρ := fun i hi => (k i hi).trans (h i hi)
theorem agree.mono {N M : Nat} {μ ν : Nat → Loc} (h : agree N μ ν) (hm : M ≤ N) : agree M μ ν := fun i hi => h i (Nat.lt_of_lt_of_le hi hm)
theorem relC.mono {μ ν : Nat → Loc} {N M : Nat} (h : agree N μ ν) (hN : N ≤ M) {x : C} {v : Value} (r : relC μ N x v) : relC ν M x v := by
  cases x with
  | p b o => exact ⟨by have := r.1; omega, by rw [h b r.1]; exact r.2⟩
  | sl b o n =>
    obtain ⟨hb, cap, a, h1, h2, h3, h4⟩ := r
    exact ⟨by omega, cap, a, h1, by rw [h b hb]; exact h2, by rw [h b hb]; exact h3, h4⟩
  | fn g caps =>
    obtain ⟨hb, h3⟩ := r
    refine ⟨fun b m => by have := hb b m; omega, ?_⟩
    rw [h3]
    congr 2
    exact List.map_congr_left fun b m => by rw [h b (hb b m)]
  | _ => exact r
theorem relV1.mono {μ ν : Nat → Loc} {N M : Nat} (h : agree N μ ν) (hN : N ≤ M) {x : V} {v : Value} (r : relV1 μ N x v) : relV1 ν M x v := by
  cases x with
  | c x => exact relC.mono h hN r
  | a cs => obtain ⟨vs, e, r⟩ := r; exact ⟨vs, e, r.mono fun _ _ _ => relC.mono h hN⟩
  | t vs => exact r.elim
  | u => trivial
  | n => exact r
theorem relV.mono {μ ν : Nat → Loc} {N M : Nat} (h : agree N μ ν) (hN : N ≤ M) {x : V} {v : Value} (r : relV μ N x v) : relV ν M x v := by
  cases x with
  | t vs => obtain ⟨ws, e, r⟩ := r; exact ⟨ws, e, r.mono fun _ _ _ => relV1.mono h hN⟩
  | c x => exact relV1.mono (x := .c x) h hN r
  | a cs => exact relV1.mono (x := .a cs) h hN r
  | u => trivial
  | n => exact r
theorem relA.mono {μ ν : Nat → Loc} {N M : Nat} (h : agree N μ ν) (hN : N ≤ M) {A : List V} {t : Array Value} (r : relA μ N A t) : relA ν M A t :=
  relL.mono r fun _ _ _ => relV.mono h hN
/-! ### memory -/
/-- what the cell j of a block is -/
def Cells.at : Cells → Nat → Option C
  | .lit l, j => l[j]?
  | .fl l, j => ((l ())[j]?).map fun e => .f .f32 fun _ => e
  | .cx l, j => ((l ())[j]?).map fun e => .z .f32 (fun _ => e.1) (fun _ => e.2)
  | .sx l, j => ((l ())[j]?).map fun e => .s fun _ => e
  | .it k l, j => ((l ())[j]?).map fun e => .i k (.l e)
structure BlkRel (μ : Nat → Loc) (N : Nat) (W : Nat → Prop) (w : World) (L : Loc) (B : Blk) : Prop where
  out : ∃ c e lo hi, w.heap[L.blk]? = some (.cells c e (lo, hi)) ∧ (∀ j x, B.cells.at j = some x → ∃ v, c[L.base + j]? = some v ∧ relC μ N x v) ∧
    (B.rw = true → W L.blk ∧ hi ≤ lo) ∧ L.es = B.es ∧ (B.es ≠ 0 → L.base = 0 ∧ L.cap ≤ c.size)
structure HRel (μ : Nat → Loc) (W : Nat → Prop) (H : Heap) (w : World) : Prop where
  blk : ∀ i B, H[i]? = some (some B) → BlkRel μ H.length W w (μ i) B
  sep : ∀ i j B D, H[i]? = some (some B) → H[j]? = some (some D) → B.rw = true → i ≠ j → (μ i).blk ≠ (μ j).blk
/-- what a stretch of the run leaves alone -/
structure Fr (W : Nat → Prop) (w w' : World) : Prop where
  os : w'.os = w.os
  tape : w'.tape = w.tape
  output : w'.output = w.output
  size : w.heap.size ≤ w'.heap.size
  block : ∀ k, k < w.heap.size → ¬ W k → w'.heap[k]? = w.heap[k]?
theorem Fr.refl (W : Nat → Prop) (w : World) : Fr W w w := ⟨rfl, rfl, rfl, Nat.le_refl _, fun _ _ _ => rfl⟩
theorem Fr.trans {W : Nat → Prop} {a b c : World} (h : Fr W a b) (k : Fr W b c) : Fr W a c :=
  ⟨k.os.trans h.os, k.tape.trans h.tape, k.output.trans h.output, Nat.le_trans h.size k.size, fun i hi hw => (k.block i (Nat.lt_of_lt_of_le hi h.size) hw).trans (h.block i hi hw)⟩
theorem Fr.mono {W U : Nat → Prop} {a b : World} (h : Fr W a b) (hU : ∀ k, k < a.heap.size → W k → U k) : Fr U a b :=
  ⟨h.os, h.tape, h.output, h.size, fun k hk hn => h.block k hk fun hw => hn (hU k hk hw)⟩
theorem Fr.drewN (W : Nat → Prop) (w : World) (n : Nat) : Fr W w (w.drewN n) := ⟨rfl, rfl, rfl, Nat.le_refl _, fun _ _ _ => rfl⟩
/-- what one may write, and what the tables hold -/
structure Wide (W : Nat → Prop) (w : World) : Prop where
  new : ∀ k, w.heap.size ≤ k → W k
  tab : ∀ t ∈ tabCells, t.1 < w.heap.size ∧ ¬ W t.1 ∧ ∃ v, w.cell? ⟨t.1, t.2.1, none⟩ = some v ∧ t.2.2 v
theorem Wide.step {W : Nat → Prop} {w w' : World} (h : Wide W w) (f : Fr W w w') : Wide W w' :=
  ⟨fun k hk => h.new k (Nat.le_trans f.size hk), fun t ht => by
    obtain ⟨a, b, v, c, d⟩ := h.tab t ht
    refine ⟨Nat.lt_of_lt_of_le a f.size, b, v, ?_, d⟩
    unfold World.cell? at c ⊢
    rw [f.block _ a b]
    exact c⟩
theorem Wide.sub {W U : Nat → Prop} {w : World} (h : Wide W w) (hs : ∀ k, U k → W k) (hn : ∀ k, w.heap.size ≤ k → U k) : Wide U w :=
  ⟨hn, fun t ht => by
    obtain ⟨a, b, c⟩ := h.tab t ht
    exact ⟨a, fun hu => b (hs _ hu), c⟩⟩
/-- nothing that was there has turned -/
def nowhere : Nat → Prop := fun _ => False
theorem BlkRel.lt {μ : Nat → Loc} {N : Nat} {W : Nat → Prop} {w : World} {L : Loc} {B : Blk} (h : BlkRel μ N W w L B) : L.blk < w.heap.size := by
  obtain ⟨c, e, lo, hi, h, _⟩ := h.out
  exact (Array.getElem?_eq_some_iff.1 h).1
theorem BlkRel.frame {μ : Nat → Loc} {N : Nat} {W : Nat → Prop} {w w' : World} {L : Loc} {B : Blk} (h : BlkRel μ N W w L B) (e : w'.heap[L.blk]? = w.heap[L.blk]?) : BlkRel μ N W w' L B := by
  obtain ⟨c, t, lo, hi, h⟩ := h.out
  exact ⟨c, t, lo, hi, by rw [e]; exact h⟩
theorem BlkRel.mono {μ ν : Nat → Loc} {N M : Nat} {W : Nat → Prop} {w : World} {L : Loc} {B : Blk} (h : BlkRel μ N W w L B) (ha : agree N μ ν) (hN : N ≤ M) : BlkRel ν M W w L B := by
  obtain ⟨c, t, lo, hi, h1, h2, h3⟩ := h.out
  refine ⟨c, t, lo, hi, h1, fun j x hx => ?_, h3⟩
  obtain ⟨v, hv, r⟩ := h2 j x hx
  exact ⟨v, hv, r.mono ha hN⟩
theorem HRel.quiet {μ : Nat → Loc} {W : Nat → Prop} {H : Heap} {w w' : World} (h : HRel μ W H w) (hf : Fr nowhere w w') : HRel μ W H w' :=
  ⟨fun i B hi => (h.blk i B hi).frame (hf.block _ (h.blk i B hi).lt (fun x => x)), h.sep⟩
theorem Heap.blk_some {H : Heap} {b : Nat} {B : Blk} (h : Heap.blk H b = some B) : H[b]? = some (some B) := by
  unfold Heap.blk at h
  split at h
  · rename_i h'; cases h; exact h'
  · cases h
theorem lt_of_get {α : Type} {l : List α} {i : Nat} {a : α} (h : l[i]? = some a) : i < l.length := (List.getElem?_eq_some_iff.1 h).1
theorem addr_add (L : Loc) (o n : Nat) : (addrOf L o).add n = addrOf L (o + n) := by
  unfold Addr.add addrOf
  split
  · rename_i h; subst h; simp
  · simp [Nat.add_assoc]
theorem cell_addr {w : World} {L : Loc} {c : Array Value} {e : TypeId} {fz : Nat × Nat} (h : w.heap[L.blk]? = some (.cells c e fz)) (o : Nat) : w.cell? (addrOf L o) = c[L.base + o]? := by
  simp [World.cell?, addrOf, h]
/-! every obligation holds -/
def holds (p : Obl) : Prop := ∀ q ∈ p, q ()
theorem obs_iff : ∀ {p : Obl} {X : Unit → Prop}, obs p X → holds p ∧ X ()
  | [], _, h => ⟨fun q hq => by simp at hq, h⟩
  | q :: p, X, h => by
    cases h with
    | mk h1 h2 =>
      obtain ⟨h3, h4⟩ := obs_iff h2
      exact ⟨fun r hr => by rcases List.mem_cons.1 hr with rfl | hr; exact h1; exact h3 r hr, h4⟩
theorem holds.app {p q : Obl} (h : holds (p ++ q)) : holds p ∧ holds q := ⟨fun r hr => h r (by simp [hr]), fun r hr => h r (by simp [hr])⟩
theorem holds.one {p : Unit → Prop} (h : holds [p]) : p () := h p (by simp)
theorem beqK_eq {k k' : IntKind} (h : beqK k k' = true) : k = k' := by cases k <;> cases k' <;> simp [beqK] at h <;> rfl
theorem beqF_eq {k k' : FloatKind} (h : beqF k k' = true) : k = k' := by cases k <;> cases k' <;> simp [beqF] at h <;> rfl
theorem beqB_eq {k k' : Bool} (h : beqB k k' = true) : k = k' := by cases k <;> cases k' <;> simp [beqB] at h <;> rfl
theorem beqN_eq {k k' : Nat} (h : Nat.beq k k' = true) : k = k' := Nat.eq_of_beq_eq_true h
theorem blt_lt {k k' : Nat} (h : Nat.blt k k' = true) : k < k' := by simpa [Nat.blt_eq] using h
theorem ble_le {k k' : Nat} (h : Nat.ble k k' = true) : k ≤ k' := Nat.le_of_ble_eq_true h
theorem forced_len {α : Type} : ∀ (l : List (Unit → α)), (forced l).length = l.length
  | [] => rfl
  | e :: r => by simp [forced, forced_len r]
theorem forced_get {α : Type} : ∀ (l : List (Unit → α)) (j : Nat), (forced l)[j]? = (l[j]?).map fun e => e ()
  | [], j => by simp [forced]
  | e :: r, 0 => by simp [forced]
  | e :: r, j + 1 => by simp [forced, forced_get r j]
theorem flsOf_get : ∀ {l : List C} {q : List (Unit → Nat)}, flsOf l = some q → q.length = l.length ∧ ∀ j : Nat, l[j]? = (q[j]?).map fun e => C.f .f32 e
  | [], q, h => by simp only [flsOf, Option.some.injEq] at h; subst h; simp
  | x :: r, q, h => by
    unfold flsOf at h
    split at h
    · cases ‹_ :: _ = []›
    · rename_i e r' heq
      cases heq
      split at h
      · rename_i q' hq
        cases h
        obtain ⟨h1, h2⟩ := flsOf_get hq
        refine ⟨by simp [h1], fun j => ?_⟩
        cases j with
        | zero => rfl
        | succ j => simpa using h2 j
      · cases h
    · cases h
theorem cxsOf_get : ∀ {l : List C} {q : List (Unit → Nat × Nat)}, cxsOf l = some q → q.length = l.length ∧ ∀ (j : Nat) (x : C), l[j]? = some x → ∃ e m, x = .z .f32 e m ∧ ((q[j]?).map fun e => e ()) = some (e (), m ())
  | [], q, h => by simp only [cxsOf, Option.some.injEq] at h; subst h; simp
  | x :: r, q, h => by
    unfold cxsOf at h
    split at h
    · cases ‹_ :: _ = []›
    · rename_i e m r' heq
      cases heq
      split at h
      · rename_i q' hq
        cases h
        obtain ⟨h1, h2⟩ := cxsOf_get hq
        refine ⟨by simp [h1], fun j x hx => ?_⟩
        cases j with
        | zero => simp at hx; subst hx; exact ⟨e, m, rfl, rfl⟩
        | succ j => simpa using h2 j x (by simpa using hx)
      · cases h
    · cases h
theorem sxsOf_get : ∀ {l : List C} {q : List (Unit → ByteArray)}, sxsOf l = some q → q.length = l.length ∧ ∀ (j : Nat) (x : C), l[j]? = some x → ∃ e, x = .s e ∧ ((q[j]?).map fun e => e ()) = some (e ())
  | [], q, h => by simp only [sxsOf, Option.some.injEq] at h; subst h; simp
  | x :: r, q, h => by
    unfold sxsOf at h
    split at h
    · cases ‹_ :: _ = []›
    · rename_i e r' heq
      cases heq
      split at h
      · rename_i q' hq
        cases h
        obtain ⟨h1, h2⟩ := sxsOf_get hq
        refine ⟨by simp [h1], fun j x hx => ?_⟩
        cases j with
        | zero => simp at hx; subst hx; exact ⟨e, rfl, rfl⟩
        | succ j => simpa using h2 j x (by simpa using hx)
      · cases h
    · cases h
theorem itsOf_get {k : IntKind} : ∀ {l : List C} {q : List (Unit → Int)}, itsOf k l = some q → q.length = l.length ∧ ∀ (j : Nat) (x : C), l[j]? = some x → ∃ e : IE, x = .i k e ∧ ((q[j]?).map fun e => e ()) = some e.val
  | [], q, h => by simp only [itsOf, Option.some.injEq] at h; subst h; simp
  | x :: r, q, h => by
    unfold itsOf at h
    split at h
    · cases ‹_ :: _ = []›
    · rename_i k' e r' heq
      cases heq
      split at h
      · rename_i q' hk hq
        cases h
        have hk := beqK_eq hk
        subst hk
        obtain ⟨h1, h2⟩ := itsOf_get hq
        refine ⟨by simp [h1], fun j x hx => ?_⟩
        cases j with
        | zero => simp at hx; subst hx; exact ⟨e, rfl, rfl⟩
        | succ j => simpa using h2 j x (by simpa using hx)
      · cases h
    · cases h
/-- the first cells may be taken for the second -/
def CellsLe (x y : Cells) : Prop := ∀ j z, y.at j = some z → ∃ u, x.at j = some u ∧ ∀ μ N v, relC μ N u v → relC μ N z v
theorem CellsLe.refl (x : Cells) : CellsLe x x := fun _ z h => ⟨z, h, fun _ _ _ r => r⟩
theorem toFl_le {x : Cells} {l : Unit → List Nat} (h : x.toFl = some l) : CellsLe x (.fl l) ∧ x.len.val = (l ()).length := by
  unfold Cells.toFl at h
  split at h
  · cases h; exact ⟨CellsLe.refl _, rfl⟩
  · split at h
    · rename_i l q hq
      cases h
      obtain ⟨h1, h2⟩ := flsOf_get hq
      refine ⟨fun j z hz => ?_, by simp [Cells.len, NE.val, forced_len, h1]⟩
      simp only [Cells.at, forced_get, Option.map_map] at hz ⊢
      rw [h2 j]
      cases hg : q[j]? with
      | none => rw [hg] at hz; simp at hz
      | some e => rw [hg] at hz; simp at hz; subst hz; exact ⟨_, rfl, fun _ _ _ r => r⟩
    · cases h
  · cases h
theorem toCx_le {x : Cells} {l : Unit → List (Nat × Nat)} (h : x.toCx = some l) : CellsLe x (.cx l) ∧ x.len.val = (l ()).length := by
  unfold Cells.toCx at h
  split at h
  · cases h; exact ⟨CellsLe.refl _, rfl⟩
  · split at h
    · rename_i l _ q hq
      cases h
      obtain ⟨h1, h2⟩ := cxsOf_get hq
      refine ⟨fun j z hz => ?_, by simp [Cells.len, NE.val, forced_len, h1]⟩
      simp only [Cells.at, forced_get] at hz ⊢
      have hj : j < q.length := by
        rcases Nat.lt_or_ge j q.length with h | h
        · exact h
        · rw [List.getElem?_eq_none h] at hz; simp at hz
      have hx : l[j]? = some (l[j]'(by omega)) := List.getElem?_eq_getElem (by omega)
      obtain ⟨e, m, he, hq'⟩ := h2 j _ hx
      rw [hq'] at hz
      simp at hz
      subst hz
      refine ⟨_, hx, ?_⟩
      rw [he]
      exact fun _ _ _ r => r
    · cases h
  · cases h
theorem toSx_le {x : Cells} {l : Unit → List ByteArray} (h : x.toSx = some l) : CellsLe x (.sx l) ∧ x.len.val = (l ()).length := by
  unfold Cells.toSx at h
  split at h
  · cases h; exact ⟨CellsLe.refl _, rfl⟩
  · split at h
    · rename_i l _ q hq
      cases h
      obtain ⟨h1, h2⟩ := sxsOf_get hq
      refine ⟨fun j z hz => ?_, by simp [Cells.len, NE.val, forced_len, h1]⟩
      simp only [Cells.at, forced_get] at hz ⊢
      have hj : j < q.length := by
        rcases Nat.lt_or_ge j q.length with h | h
        · exact h
        · rw [List.getElem?_eq_none h] at hz; simp at hz
      have hx : l[j]? = some (l[j]'(by omega)) := List.getElem?_eq_getElem (by omega)
      obtain ⟨e, he, hq'⟩ := h2 j _ hx
      rw [hq'] at hz
      simp at hz
      subst hz
      refine ⟨_, hx, ?_⟩
      rw [he]
      exact fun _ _ _ r => r
    · cases h
  · cases h
theorem toIt_le {k : IntKind} {x : Cells} {l : Unit → List Int} (h : x.toIt k = some l) : CellsLe x (.it k l) ∧ x.len.val = (l ()).length := by
  unfold Cells.toIt at h
  split at h
  · split at h
    · rename_i hk
      have hk := beqK_eq hk
      subst hk
      cases h; exact ⟨CellsLe.refl _, rfl⟩
    · cases h
  · split at h
    · rename_i l _ q hq
      cases h
      obtain ⟨h1, h2⟩ := itsOf_get hq
      refine ⟨fun j z hz => ?_, by simp [Cells.len, NE.val, forced_len, h1]⟩
      simp only [Cells.at, forced_get] at hz ⊢
      have hj : j < q.length := by
        rcases Nat.lt_or_ge j q.length with h | h
        · exact h
        · rw [List.getElem?_eq_none h] at hz; simp at hz
      have hx : l[j]? = some (l[j]'(by omega)) := List.getElem?_eq_getElem (by omega)
      obtain ⟨e, he, hq'⟩ := h2 j _ hx
      rw [hq'] at hz
      simp at hz
      subst hz
      refine ⟨_, hx, ?_⟩
      rw [he]
      exact fun _ _ _ r => r
    · cases h
  · cases h
theorem flat_le {l : List C} {c : Cells} (h : Cells.flat l = some c) : CellsLe (.lit l) c := by
  unfold Cells.flat at h
  split at h
  · split at h
    · rename_i q hq; cases h; exact (toFl_le hq).1
    · cases h
  · split at h
    · rename_i q hq; cases h; exact (toCx_le hq).1
    · cases h
  · split at h
    · rename_i q hq; cases h; exact (toSx_le hq).1
    · cases h
  · split at h
    · rename_i q hq; cases h; exact (toIt_le hq).1
    · cases h
  · cases h
theorem Cells.get1_at {cs : Cells} {o : NE} {x : C} {p : Obl} (h : cs.get1 o = some (x, p)) (hp : holds p) :
    ∃ y, cs.at o.val = some y ∧ ∀ μ N v, relC μ N y v → relC μ N x v := by
  unfold Cells.get1 at h
  split at h
  · split at h
    · rename_i c hc; cases h; exact ⟨_, hc, fun _ _ _ r => r⟩
    · cases h
  · cases h
  · cases h
    have := hp.one
    refine ⟨_, by simp [Cells.at, this]; rfl, fun μ N v r => ?_⟩
    obtain ⟨x, e, r⟩ := r
    exact ⟨x, e, by simpa [this] using r⟩
  · cases h
    have := hp.one
    refine ⟨_, by simp [Cells.at, this]; rfl, fun μ N v r => ?_⟩
    obtain ⟨x, y, e, r, r'⟩ := r
    exact ⟨x, y, e, by simpa [this] using r, by simpa [this] using r'⟩
  · cases h
    have := hp.one
    refine ⟨_, by simp [Cells.at, this]; rfl, fun μ N v r => ?_⟩
    simpa [relC, this] using r
  · cases h
    have := hp.one
    refine ⟨_, by simp [Cells.at, this]; rfl, fun μ N v r => ?_⟩
    simpa [relC, IE.val, this] using r
theorem Cells.get_at {cs : Cells} {o : NE} {x : C} {p : Obl} (h : cs.get o = some (x, p)) (hp : holds p) :
    ∃ y, cs.at o.val = some y ∧ ∀ μ N v, relC μ N y v → relC μ N x v := by
  unfold Cells.get at h
  split at h
  · split at h
    · rename_i c hc
      obtain ⟨y, hy, hr⟩ := Cells.get1_at h hp
      obtain ⟨u, hu, hr'⟩ := flat_le hc _ _ hy
      exact ⟨u, hu, fun μ N v r => hr μ N v (hr' μ N v r)⟩
    · cases h
  · exact Cells.get1_at h hp
end Go.Proofs.YteifneielgnniaaGreatDoor.Sh
namespace Go.Proofs.YteifneielgnniaaGreatDoor.Sh
open Go Ieee
/-! ## types -/
def zeroB : C → Value → Bool
  | .b e, .bool x => beqB e.val x
  | .i k e, .int k' n => beqK k k' && e.val == n
  | .f k e, .float k' n => beqF k k' && Nat.beq (e ()) n
  | .z k r m, .complex k' x y => beqF k k' && Nat.beq (r ()) x && Nat.beq (m ()) y
  | .s e, .string x => Nat.beq (e ()).size 0 && Nat.beq x.size 0
  | .pn, .pointer none => true
  | .sn, .slice none n m => Nat.beq n 0 && Nat.beq m 0
  | .fnn, .nilFunc => true
  | _, _ => false
def zerosB : List C → List Value → Bool
  | [], [] => true
  | x :: r, y :: q => zeroB x y && zerosB r q
  | _, _ => false
def kindB : Option TypeDesc → TK → Bool
  | some (.struct fs), .st gs => fs.toList.map (fun f => (f.offset, f.type)) == gs
  | some (.array n e), .ar m d => Nat.beq n m && Nat.beq e d
  | some (.slice e), .sl d => Nat.beq e d
  | some (.struct _), _ | some (.array _ _), _ | some (.slice _), _ => false
  | some .bool, .bool => true
  | some .string, .str => true
  | some (.complex _), .cpx => true
  | some (.complex .f64), .cp2 => true
  | some _, .cell => true
  | _, _ => false
def dstB : Option TypeDesc → Option (IntKind ⊕ FloatKind) → Bool
  | _, none => true
  | some (.int k), some (.inl k') => beqK k k'
  | some (.float k), some (.inr k') => beqF k k'
  | _, _ => false
def isAggV : Value → Bool
  | .agg _ => true
  | _ => false
def tiB (P : Program) (t : Nat) (ti : TI) : Bool :=
  match P.info? t with
  | none => false
  | some i => (Nat.beq i.size ti.size && Nat.beq ti.zero.length ti.size) && Nat.beq i.bytes ti.bytes &&
    (match i.zero with | some z => zerosB ti.zero z.cells.toList && beqB (isAggV z) ti.agg | none => false) &&
    kindB (P.underlying t) ti.kind && dstB (P.underlying t) ti.dst
def ttBL (P : Program) : TTL → Bool
  | [] => true
  | (t, ti) :: r => tiB P t ti && ttBL P r
def TtOk (P : Program) (tt : TT) : Prop := ∀ t ti, tt t = some ti → tiB P t ti = true
theorem zeroB_rel {x : C} {v : Value} (h : zeroB x v = true) (μ : Nat → Loc) (N : Nat) : relC μ N x v := by
  unfold zeroB at h
  split at h
  · exact congrArg _ (beqB_eq h).symm
  · simp only [Bool.and_eq_true, beq_iff_eq] at h; obtain ⟨h1, h2⟩ := h; rw [beqK_eq h1]; exact congrArg _ h2.symm
  · simp only [Bool.and_eq_true] at h; obtain ⟨h1, h2⟩ := h; rw [beqF_eq h1]; exact ⟨_, rfl, .inl (beqN_eq h2).symm⟩
  · simp only [Bool.and_eq_true] at h; obtain ⟨⟨h1, h2⟩, h3⟩ := h; rw [beqF_eq h1]; exact ⟨_, _, rfl, .inl (beqN_eq h2).symm, .inl (beqN_eq h3).symm⟩
  · simp only [Bool.and_eq_true] at h
    obtain ⟨h1, h2⟩ := h
    rename_i e x
    have h1 := beqN_eq h1; have h2 := beqN_eq h2
    show Value.string x = Value.string (e ())
    congr 1
    obtain ⟨⟨a⟩⟩ := x
    generalize e () = q at *
    obtain ⟨⟨b⟩⟩ := q
    simp [ByteArray.size] at h1 h2
    simp [h1, h2]
  · rfl
  · simp only [Bool.and_eq_true] at h; obtain ⟨h1, h2⟩ := h; rw [beqN_eq h1, beqN_eq h2]; rfl
  · rfl
  · cases h
theorem zerosB_rel : ∀ {xs : List C} {vs : List Value}, zerosB xs vs = true → ∀ (μ : Nat → Loc) (N : Nat), relL (relC μ N) xs vs
  | [], [], _, _, _ => trivial
  | _ :: _, _ :: _, h, μ, N => by
    simp only [zerosB, Bool.and_eq_true] at h
    exact ⟨zeroB_rel h.1 μ N, zerosB_rel h.2 μ N⟩
  | [], _ :: _, h, _, _ => by simp [zerosB] at h
  | _ :: _, [], h, _, _ => by simp [zerosB] at h
theorem ttB_get {P : Program} {tt : TT} (h : TtOk P tt) {t : Nat} {ti : TI} (e : ttGet tt t = some ti) : tiB P t ti = true := h t ti e
theorem ttOk_list {P : Program} : ∀ {l : TTL}, ttBL P l = true → TtOk P (ttGetL l)
  | [], _, _, _, h => by simp [ttGetL] at h
  | (n, i) :: r, hb, t, ti, h => by
    simp only [ttBL, Bool.and_eq_true] at hb
    unfold ttGetL at h
    split at h
    · rename_i e; cases h; rw [← beqN_eq e]; exact hb.1
    · exact ttOk_list hb.2 t ti h
/-- the facts of one type -/
structure TIOk (P : Program) (t : Nat) (ti : TI) : Prop where
  info : ∃ i, P.info? t = some i ∧ i.size = ti.size ∧ i.bytes = ti.bytes ∧ ∃ z, i.zero = some z ∧ (∀ μ N, relL (relC μ N) ti.zero z.cells.toList) ∧ isAggV z = ti.agg
  zlen : ti.zero.length = ti.size
  kind : kindB (P.underlying t) ti.kind = true
  dst : dstB (P.underlying t) ti.dst = true
theorem tiOk {P : Program} {t : Nat} {ti : TI} (h : tiB P t ti = true) : TIOk P t ti := by
  unfold tiB at h
  split at h
  · cases h
  · rename_i i hi
    simp only [Bool.and_eq_true] at h
    obtain ⟨⟨⟨⟨⟨h1, h0⟩, h2⟩, h3⟩, h4⟩, h5⟩ := h
    split at h3
    · rename_i z hz
      simp only [Bool.and_eq_true] at h3
      exact ⟨⟨i, hi, beqN_eq h1, beqN_eq h2, z, hz, zerosB_rel h3.1, beqB_eq h3.2⟩, beqN_eq h0, h4, h5⟩
    · cases h3
section ty
variable {P : Program} {t : Nat} {ti : TI} (h : TIOk P t ti) (w : World)
include h
theorem TIOk.sizeOf : (sizeOf t).run P w = .ok ti.size w := by
  obtain ⟨i, hi, h1, _⟩ := h.info
  simp [Go.sizeOf, typeInfo, hi, h1]
theorem TIOk.isAgg : (isAgg t).run P w = .ok ti.agg w := by
  have hk := h.kind
  unfold kindB at hk
  cases hu : P.underlying t with
  | none => rw [hu] at hk; simp at hk
  | some d =>
    rw [hu] at hk
    unfold Go.isAgg
    rw [Sem.run_bind, run_underlying hu]
    cases hkk : ti.kind <;> rw [hkk] at hk <;> cases d <;> simp [TI.agg, hkk] at hk ⊢
end ty
/-! ## memory -/
theorem Cells.gets_at {cs : Cells} : ∀ {n : Nat} {o : NE} {xs : List C} {p : Obl}, cs.gets o n = some (xs, p) → holds p →
    xs.length = n ∧ ∀ j x, xs[j]? = some x → ∃ y, cs.at (o.val + j) = some y ∧ ∀ μ N v, relC μ N y v → relC μ N x v
  | 0, o, xs, p, h, _ => by
    simp only [Cells.gets, Option.some.injEq, Prod.mk.injEq] at h
    obtain ⟨rfl, rfl⟩ := h
    exact ⟨rfl, fun j x hx => by simp at hx⟩
  | n + 1, o, xs, p, h, hp => by
    unfold Cells.gets at h
    split at h
    · cases h
    · rename_i c p1 h1
      split at h
      · cases h
      · rename_i r q h2
        simp only [Option.some.injEq, Prod.mk.injEq] at h
        obtain ⟨rfl, rfl⟩ := h
        obtain ⟨a, b⟩ := hp.app
        obtain ⟨hl, hr⟩ := Cells.gets_at h2 b
        refine ⟨by simp [hl], fun j x hx => ?_⟩
        cases j with
        | zero => simp at hx; subst hx; exact Cells.get_at h1 a
        | succ j =>
          obtain ⟨y, hy, k⟩ := hr j x (by simpa using hx)
          refine ⟨y, ?_, k⟩
          have : (o.add (.l 1)).val = o.val + 1 := by cases o <;> rfl
          rw [this] at hy
          rw [← hy]; congr 1; omega
theorem relL_of_get {α β : Type} {R : α → β → Prop} : ∀ {as : List α} {bs : List β}, as.length = bs.length → (∀ (j : Nat) (a : α) (b : β), as[j]? = some a → bs[j]? = some b → R a b) → relL R as bs
  | [], [], _, _ => trivial
  | a :: as, b :: bs, hl, h => ⟨h 0 a b rfl rfl, relL_of_get (by simpa using hl) fun j x y hx hy => h (j + 1) x y (by simpa using hx) (by simpa using hy)⟩
  | [], _ :: _, hl, _ => by simp at hl
  | _ :: _, [], hl, _ => by simp at hl
theorem run_loads {P : Program} {w : World} {a : Addr} {cs : List Value} (h : ∀ j v, cs[j]? = some v → w.cell? (a.add j) = some v) : (loadCells a cs.length).run P w = .ok cs.toArray w :=
  run_loadCells_list w a cs h
/-- a load -/
theorem aload_ok {P : Program} {tt : TT} {t : Nat} {ti : TI} (ht : TIOk P t ti) {μ : Nat → Loc} {W : Nat → Prop} {H : Heap} {w : World} (hH : HRel μ W H w) {b : Nat} {o : NE} {v : V} {p : Obl}
    (h : aload ti H b o = some (v, p)) (hp : holds p) : ∃ v', (loadVar t (addrOf (μ b) o.val)).run P w = .ok v' w ∧ relV μ H.length v v' := by
  unfold aload at h
  split at h
  · cases h
  · rename_i B hB
    obtain ⟨c, e, lo, hi, hg, hc, _⟩ := (hH.blk b B (Heap.blk_some hB)).out
    split at h
    · rename_i hagg
      split at h
      · rename_i cs q hq
        simp only [Option.some.injEq, Prod.mk.injEq] at h
        obtain ⟨rfl, rfl⟩ := h
        obtain ⟨hl, hr⟩ := Cells.gets_at hq hp
        -- the concrete cells
        have hex : ∀ j x, cs[j]? = some x → ∃ v, c[(μ b).base + o.val + j]? = some v ∧ relC μ H.length x v := fun j x hx => by
          obtain ⟨y, hy, k⟩ := hr j x hx
          obtain ⟨v, hv, r⟩ := hc _ _ hy
          exact ⟨v, by rw [← hv]; congr 1; omega, k _ _ _ r⟩
        let vs : List Value := (List.range cs.length).map fun j => (c[(μ b).base + o.val + j]?).getD undef
        have hlen : vs.length = cs.length := by simp [vs]
        have hvs : ∀ j v, vs[j]? = some v → w.cell? ((addrOf (μ b) o.val).add j) = some v := fun j v hv => by
          have hj : j < cs.length := by have := lt_of_get hv; omega
          obtain ⟨x, hx⟩ : ∃ x, cs[j]? = some x := ⟨cs[j], by simp [hj]⟩
          obtain ⟨v', hv', _⟩ := hex j x hx
          rw [addr_add, cell_addr hg]
          simp [vs, hj] at hv
          rw [show (μ b).base + (o.val + j) = (μ b).base + o.val + j by omega, hv'] at *
          simpa using hv
        refine ⟨.agg vs.toArray, ?_, ⟨vs, rfl, relL_of_get hlen.symm fun j x v hx hv => ?_⟩⟩
        · have hL := run_loads (P := P) hvs
          rw [hlen, hl] at hL
          simp [loadVar, ht.isAgg, hagg, ht.sizeOf, hL]
        · obtain ⟨v', hv', r⟩ := hex j x hx
          have hj := lt_of_get hx
          simp [vs, hj] at hv
          rw [hv'] at hv
          simp at hv; rw [← hv]; exact r
      · cases h
    · rename_i hagg
      split at h
      · rename_i x q hq
        simp only [Option.some.injEq, Prod.mk.injEq] at h
        obtain ⟨rfl, rfl⟩ := h
        obtain ⟨y, hy, k⟩ := Cells.get_at hq hp
        obtain ⟨v, hv, r⟩ := hc _ _ hy
        refine ⟨v, ?_, k _ _ _ r⟩
        have hcell : w.cell? (addrOf (μ b) o.val) = some v := by rw [cell_addr hg, hv]
        simp [loadVar, ht.isAgg, hagg, load, Sem.run, hcell]
      · cases h
/-! ### a new block -/
def upd (μ : Nat → Loc) (n : Nat) (L : Loc) : Nat → Loc := fun i => if i = n then L else μ i
theorem agree_upd (μ : Nat → Loc) (n : Nat) (L : Loc) : agree n μ (upd μ n L) := fun i hi => by unfold upd; rw [if_neg (by omega)]
theorem upd_self (μ : Nat → Loc) (n : Nat) (L : Loc) : upd μ n L n = L := by simp [upd]
theorem get_snoc {α : Type} {l : List α} {x y : α} {i : Nat} (h : (l ++ [x])[i]? = some y) : (i = l.length ∧ y = x) ∨ l[i]? = some y := by
  rcases Nat.lt_trichotomy i l.length with hi | hi | hi
  · right; rwa [List.getElem?_append_left hi] at h
  · left; subst hi; simp at h; exact ⟨rfl, h.symm⟩
  · rw [List.getElem?_eq_none (by simp; omega)] at h; cases h
theorem alloc_fr {w : World} (o : Obj) : Fr nowhere w (w.alloc o) := ⟨rfl, rfl, rfl, by simp, fun k hk _ => Go.RowKit.Below.heap_alloc w o k hk⟩
/-- a block that has just been laid joins the heap -/
theorem HRel.push {μ : Nat → Loc} {W : Nat → Prop} {H : Heap} {w : World} (hH : HRel μ W H w) {cells : Array Value} {e : TypeId} {B : Blk} (hW : W w.heap.size)
    (hc : ∀ (ν : Nat → Loc), agree H.length μ ν → ∀ j x, B.cells.at j = some x → ∃ v, cells[j]? = some v ∧ relC ν (H.length + 1) x v) (cap : Nat) (hcap : cap ≤ cells.size) :
    HRel (upd μ H.length ⟨w.heap.size, 0, B.es, cap⟩) W (H ++ [some B]) (w.alloc (.cells cells e)) := by
  have ha := agree_upd μ H.length ⟨w.heap.size, 0, B.es, cap⟩
  have hold : ∀ i D, H[i]? = some (some D) → (upd μ H.length ⟨w.heap.size, 0, B.es, cap⟩ i) = μ i ∧ (μ i).blk < w.heap.size := fun i D hi => ⟨ha i (lt_of_get hi), (hH.blk i D hi).lt⟩
  refine ⟨fun i D hi => ?_, fun i j D E hi hj hr hne => ?_⟩
  · rcases get_snoc hi with ⟨rfl, hD⟩ | hi
    · cases hD
      rw [upd_self]
      refine ⟨cells, e, 0, 0, Go.heap_alloc_new w _, fun j x hx => ?_, fun _ => ⟨hW, Nat.le_refl _⟩, rfl, fun _ => ⟨rfl, hcap⟩⟩
      simpa using hc _ ha j x hx
    · obtain ⟨e1, e2⟩ := hold i D hi
      rw [e1]
      exact ((hH.blk i D hi).frame (Go.RowKit.Below.heap_alloc w _ _ e2)).mono ha (by simp)
  · rcases get_snoc hi with ⟨rfl, hD⟩ | hi <;> rcases get_snoc hj with ⟨rfl, hE⟩ | hj
    · exact absurd rfl hne
    · rw [upd_self, (hold j E hj).1]; have := (hold j E hj).2; simp only; omega
    · rw [upd_self, (hold i D hi).1]; have := (hold i D hi).2; simp only; omega
    · rw [(hold i D hi).1, (hold j E hj).1]; exact hH.sep i j D E hi hj hr hne
end Go.Proofs.YteifneielgnniaaGreatDoor.Sh
namespace Go.Proofs.YteifneielgnniaaGreatDoor.Sh
open Go Ieee
/-! ### stores -/
theorem relC.scalar {μ : Nat → Loc} {N : Nat} {x : C} {v : Value} (h : relC μ N x v) : (∀ cs, v ≠ .agg cs) ∧ ∀ cs, v ≠ .tuple cs := by
  cases x with
  | f k e => obtain ⟨x, rfl, _⟩ := h; exact ⟨by simp, by simp⟩
  | z k e m => obtain ⟨x, y, rfl, _⟩ := h; exact ⟨by simp, by simp⟩
  | p b o => obtain ⟨_, rfl⟩ := h; exact ⟨by simp, by simp⟩
  | sl b o n => obtain ⟨_, _, _, _, _, _, rfl⟩ := h; exact ⟨by simp, by simp⟩
  | fn g c => obtain ⟨_, rfl⟩ := h; exact ⟨by simp, by simp⟩
  | b e => subst h; exact ⟨by simp, by simp⟩
  | i k e => subst h; exact ⟨by simp, by simp⟩
  | s e => subst h; exact ⟨by simp, by simp⟩
  | pn => subst h; exact ⟨by simp, by simp⟩
  | sn => subst h; exact ⟨by simp, by simp⟩
  | fnn => subst h; exact ⟨by simp, by simp⟩
theorem relC.cells {μ : Nat → Loc} {N : Nat} {x : C} {v : Value} (h : relC μ N x v) : v.cells = #[v] := by
  have := h.scalar.1
  cases v <;> first | rfl | (rename_i cs; exact absurd rfl (this cs))
theorem run_store1 {P : Program} {w : World} {a : Addr} {v u : Value} (hs : (∀ cs, v ≠ .agg cs) ∧ ∀ cs, v ≠ .tuple cs) (hc : w.cell? a = some u) (hf : w.frozen? a = false) : (store a v).run P w = .ok () (w.setCell a v) := by
  obtain ⟨h1, h2⟩ := hs
  unfold store
  cases v <;> first | (rename_i cs; exact absurd rfl (h1 cs)) | (rename_i cs; exact absurd rfl (h2 cs)) | simp [Sem.run, hc, hf]
theorem setCell_same {w : World} {k off : Nat} {v : Value} {c : Array Value} {e : TypeId} {fz : Nat × Nat} (h : w.heap[k]? = some (.cells c e fz)) :
    (w.setCell ⟨k, off, Option.none⟩ v).heap[k]? = some (.cells (c.setIfInBounds off v) e fz) := by
  simp [World.setCell, Array.getElem?_modify, h]
theorem setCell_fr {W : Nat → Prop} {w : World} {a : Addr} {v : Value} (h : W a.block) : Fr W w (w.setCell a v) :=
  ⟨rfl, rfl, rfl, by simp [World.setCell], fun k _ hn => Go.RowKit.Below.heap_setCell _ _ _ _ (fun e => hn (e ▸ h))⟩
theorem Cells.set1_at {cs cs' : Cells} {o : NE} {x : C} {p : Obl} (h : cs.set1 o x = some (cs', p)) (hp : holds p) :
    (∃ y, cs.at o.val = some y) ∧ ∀ j y, cs'.at j = some y → (j = o.val ∧ ∀ μ N v, relC μ N x v → relC μ N y v) ∨ (j ≠ o.val ∧ cs.at j = some y) := by
  unfold Cells.set1 at h
  split at h
  · split at h
    · rename_i l n _ hb
      simp only [Option.some.injEq, Prod.mk.injEq] at h
      obtain ⟨rfl, rfl⟩ := h
      have hn := blt_lt hb
      refine ⟨⟨l[n], by simp [Cells.at, NE.val, hn]⟩, fun j y hy => ?_⟩
      simp only [Cells.at, List.getElem?_set] at hy
      by_cases e : n = j
      · subst e; simp [hn] at hy; subst hy; exact .inl ⟨rfl, fun _ _ _ r => r⟩
      · rw [if_neg e] at hy; exact .inr ⟨fun e' => e e'.symm, hy⟩
    · cases h
  · rename_i l e
    simp only [Option.some.injEq, Prod.mk.injEq] at h
    obtain ⟨rfl, rfl⟩ := h
    have hn := hp.one
    refine ⟨⟨_, by simp [Cells.at, hn]; rfl⟩, fun j y hy => ?_⟩
    simp only [Cells.at, List.getElem?_set] at hy
    by_cases e : o.val = j
    · subst e; simp [hn] at hy; subst hy; exact .inl ⟨rfl, fun _ _ _ r => r⟩
    · rw [if_neg e] at hy; exact .inr ⟨fun e' => e e'.symm, hy⟩
  · rename_i l r m
    simp only [Option.some.injEq, Prod.mk.injEq] at h
    obtain ⟨rfl, rfl⟩ := h
    have hn := hp.one
    refine ⟨⟨_, by simp [Cells.at, hn]; rfl⟩, fun j y hy => ?_⟩
    simp only [Cells.at, List.getElem?_set] at hy
    by_cases e : o.val = j
    · subst e; simp [hn] at hy; subst hy; exact .inl ⟨rfl, fun _ _ _ r => r⟩
    · rw [if_neg e] at hy; exact .inr ⟨fun e' => e e'.symm, hy⟩
  · rename_i l e
    simp only [Option.some.injEq, Prod.mk.injEq] at h
    obtain ⟨rfl, rfl⟩ := h
    have hn := hp.one
    refine ⟨⟨_, by simp [Cells.at, hn]; rfl⟩, fun j y hy => ?_⟩
    simp only [Cells.at, List.getElem?_set] at hy
    by_cases e : o.val = j
    · subst e; simp [hn] at hy; subst hy; exact .inl ⟨rfl, fun _ _ _ r => r⟩
    · rw [if_neg e] at hy; exact .inr ⟨fun e' => e e'.symm, hy⟩
  · rename_i k l k' e
    split at h
    · rename_i hk
      have hk := beqK_eq hk
      subst hk
      simp only [Option.some.injEq, Prod.mk.injEq] at h
      obtain ⟨rfl, rfl⟩ := h
      have hn := hp.one
      refine ⟨⟨_, by simp [Cells.at, hn]; rfl⟩, fun j y hy => ?_⟩
      simp only [Cells.at, List.getElem?_set] at hy
      by_cases e : o.val = j
      · subst e; simp [hn] at hy; subst hy; exact .inl ⟨rfl, fun _ _ _ r => r⟩
      · rw [if_neg e] at hy; exact .inr ⟨fun e' => e e'.symm, hy⟩
    · cases h
  · cases h
theorem Cells.set_at {cs cs' : Cells} {o : NE} {x : C} {p : Obl} (h : cs.set o x = some (cs', p)) (hp : holds p) :
    (∃ y, cs.at o.val = some y) ∧ ∀ j y, cs'.at j = some y → (j = o.val ∧ ∀ μ N v, relC μ N x v → relC μ N y v) ∨ (j ≠ o.val ∧ ∃ u, cs.at j = some u ∧ ∀ μ N v, relC μ N u v → relC μ N y v) := by
  unfold Cells.set at h
  split at h
  · split at h
    · rename_i c hc
      obtain ⟨⟨y, hy⟩, hr⟩ := Cells.set1_at h hp
      obtain ⟨u, hu, _⟩ := flat_le hc _ _ hy
      refine ⟨⟨u, hu⟩, fun j z hz => ?_⟩
      rcases hr j z hz with h1 | ⟨h1, h2⟩
      · exact .inl h1
      · obtain ⟨u', hu', hr'⟩ := flat_le hc _ _ h2
        exact .inr ⟨h1, u', hu', hr'⟩
    · cases h
  · obtain ⟨h1, h2⟩ := Cells.set1_at h hp
    exact ⟨h1, fun j z hz => (h2 j z hz).imp id fun ⟨a, b⟩ => ⟨a, z, b, fun _ _ _ r => r⟩⟩
/-- one cell is stored -/
theorem HRel.store1 {P : Program} {μ : Nat → Loc} {W : Nat → Prop} {H : Heap} {w : World} (hH : HRel μ W H w) {b : Nat} {B : Blk} (hB : H[b]? = some (some B)) (hrw : B.rw = true) {o : NE} {x : C} {cs' : Cells} {p : Obl}
    (hs : B.cells.set o x = some (cs', p)) (hp : holds p) {v : Value} (hv : relC μ H.length x v) :
    (store (addrOf (μ b) o.val) v).run P w = .ok () (w.setCell (addrOf (μ b) o.val) v) ∧ HRel μ W (H.set b (some { B with cells := cs' })) (w.setCell (addrOf (μ b) o.val) v) ∧ Fr W w (w.setCell (addrOf (μ b) o.val) v) := by
  obtain ⟨c, e, lo, hi, hg, hc, hw, hes, hcp⟩ := (hH.blk b B hB).out
  obtain ⟨⟨y, hy⟩, hat⟩ := Cells.set_at hs hp
  obtain ⟨u, hu, _⟩ := hc _ _ hy
  obtain ⟨hW, hfz⟩ := hw hrw
  have hcell : w.cell? (addrOf (μ b) o.val) = some u := by rw [cell_addr hg, hu]
  have hfr : w.frozen? (addrOf (μ b) o.val) = false := by
    simp only [World.frozen?, addrOf, hg]
    rw [Bool.and_eq_false_iff]
    by_cases hq : lo ≤ (μ b).base + o.val
    · right; exact decide_eq_false (by omega)
    · left; exact decide_eq_false hq
  refine ⟨run_store1 hv.scalar hcell hfr, ⟨fun i D hi => ?_, fun i j D E hi hj hr hne => ?_⟩, setCell_fr hW⟩
  · by_cases hib : b = i
    · subst hib
      rw [List.getElem?_set_self (lt_of_get hB)] at hi
      cases hi
      refine ⟨c.setIfInBounds ((μ b).base + o.val) v, e, lo, hi, setCell_same hg, fun j z hz => ?_, hw, hes, fun h => by obtain ⟨h1, h3⟩ := hcp h; exact ⟨h1, by simpa using h3⟩⟩
      rw [List.length_set]
      rcases hat j z hz with ⟨rfl, hr⟩ | ⟨hne, z', hz', hz''⟩
      · exact ⟨v, by rw [Array.getElem?_setIfInBounds_self]; have := (Array.getElem?_eq_some_iff.1 hu).1; simp [this], hr _ _ _ hv⟩
      · obtain ⟨v', hv', r⟩ := hc j z' hz'
        exact ⟨v', by rw [Array.getElem?_setIfInBounds_ne (by omega)]; exact hv', hz'' _ _ _ r⟩
    · rw [List.getElem?_set_ne hib] at hi
      rw [List.length_set]
      have : (μ i).blk ≠ (addrOf (μ b) o.val).block := fun h => hH.sep b i B D hB hi hrw hib h.symm
      exact (hH.blk i D hi).frame (Go.RowKit.Below.heap_setCell _ _ _ _ this)
  · have hset : ∀ (q : Nat) (F : Blk), (H.set b (some { B with cells := cs' }))[q]? = some (some F) → ∃ G, H[q]? = some (some G) ∧ G.rw = F.rw := fun q F hq => by
      by_cases hqb : b = q
      · subst hqb
        rw [List.getElem?_set_self (lt_of_get hB)] at hq
        cases hq
        exact ⟨B, hB, rfl⟩
      · rw [List.getElem?_set_ne hqb] at hq
        exact ⟨F, hq, rfl⟩
    obtain ⟨D', hi', hr'⟩ := hset i D hi
    obtain ⟨E', hj', _⟩ := hset j E hj
    exact hH.sep i j D' E' hi' hj' (hr'.trans hr) hne
theorem set_set {α : Type} : ∀ (l : List α) (n : Nat) (x y : α), (l.set n x).set n y = l.set n y
  | [], _, _, _ => rfl
  | _ :: _, 0, _, _ => rfl
  | a :: l, n + 1, x, y => by simp
theorem storeCells_ok {P : Program} {μ : Nat → Loc} {W : Nat → Prop} {b : Nat} : ∀ {xs : List C} {vs : List Value} {H : Heap} {w : World} {B : Blk} {o : NE} {cs' : Cells} {p : Obl} (i : Nat) (a : Addr),
    HRel μ W H w → H[b]? = some (some B) → B.rw = true → a.add i = addrOf (μ b) o.val → (∀ k, a.add (i + k) = addrOf (μ b) (o.val + k)) → B.cells.sets o xs = some (cs', p) → holds p → relL (relC μ H.length) xs vs →
    ∃ w', (storeCells a vs i).run P w = .ok () w' ∧ HRel μ W (H.set b (some { B with cells := cs' })) w' ∧ Fr W w w'
  | [], [], H, w, B, o, cs', p, i, a, hH, hB, _, _, _, hs, _, _ => by
    simp only [Cells.sets, Option.some.injEq, Prod.mk.injEq] at hs
    obtain ⟨rfl, rfl⟩ := hs
    refine ⟨w, rfl, ?_, Fr.refl _ _⟩
    have : H.set b (some B) = H := by
      apply List.ext_getElem?
      intro j
      by_cases h : b = j
      · subst h; rw [List.getElem?_set_self (lt_of_get hB), hB]
      · rw [List.getElem?_set_ne h]
    rw [this]; exact hH
  | x :: xs, v :: vs, H, w, B, o, cs', p, i, a, hH, hB, hrw, ha, hk, hs, hp, hr => by
    unfold Cells.sets at hs
    split at hs
    · cases hs
    · rename_i c1 p1 h1
      split at hs
      · cases hs
      · rename_i c2 q h2
        simp only [Option.some.injEq, Prod.mk.injEq] at hs
        obtain ⟨rfl, rfl⟩ := hs
        obtain ⟨hp1, hp2⟩ := hp.app
        obtain ⟨r1, r2, r3⟩ := HRel.store1 (P := P) hH hB hrw h1 hp1 hr.1
        have hval : (o.add (.l 1)).val = o.val + 1 := by cases o <;> rfl
        have hlen : (H.set b (some { B with cells := c1 })).length = H.length := List.length_set
        obtain ⟨w', s1, s2, s3⟩ := storeCells_ok (P := P) (B := { B with cells := c1 }) (i + 1) a r2 (by rw [List.getElem?_set_self (lt_of_get hB)]) hrw (by rw [hk 1, hval])
          (fun k => by rw [Nat.add_assoc, hk (1 + k), hval, Nat.add_assoc]) h2 hp2 (by rw [hlen]; exact hr.2)
        rw [set_set] at s2
        refine ⟨w', ?_, s2, r3.trans s3⟩
        simp only [storeCells, Sem.run_bind, ha, r1, Result.andThen_ok]
        exact s1
  | [], _ :: _, _, _, _, _, _, _, _, _, _, _, _, _, _, _, _, h => h.elim
  | _ :: _, [], _, _, _, _, _, _, _, _, _, _, _, _, _, _, _, h => h.elim
/-- the cells of a value -/
theorem V.cells_rel {μ : Nat → Loc} {N : Nat} {v : V} {cs : List C} (h : v.cells = some cs) {x : Value} (hr : relV μ N v x) : relL (relC μ N) cs x.cells.toList := by
  cases v with
  | c y => simp only [V.cells, Option.some.injEq] at h; subst h; have hr : relC μ N y x := hr; rw [hr.cells]; exact ⟨hr, trivial⟩
  | a ys => simp only [V.cells, Option.some.injEq] at h; subst h; obtain ⟨vs, rfl, r⟩ := hr; simpa [Value.cells] using r
  | t vs => simp [V.cells] at h
  | u => simp [V.cells] at h
  | n => simp [V.cells] at h
theorem astore_ok {P : Program} {t : Nat} {ti : TI} (ht : TIOk P t ti) {μ : Nat → Loc} {W : Nat → Prop} {H H' : Heap} {w : World} (hH : HRel μ W H w) {b : Nat} {o : NE} {v : V} {p : Obl}
    (h : astore ti H b o v = some (H', p)) (hp : holds p) {x : Value} (hx : relV μ H.length v x) :
    ∃ w', (storeVar t (addrOf (μ b) o.val) x).run P w = .ok () w' ∧ HRel μ W H' w' ∧ Fr W w w' ∧ H'.length = H.length := by
  unfold astore at h
  split at h
  · rename_i B cs hB hcs
    split at h
    · rename_i hrw hlen
      split at h
      · rename_i c' q hq
        simp only [Option.some.injEq, Prod.mk.injEq] at h
        obtain ⟨rfl, rfl⟩ := h
        have hr := V.cells_rel hcs hx
        obtain ⟨w', h1, h2, h3⟩ := storeCells_ok (P := P) 0 (addrOf (μ b) o.val) hH (Heap.blk_some hB) hrw (by rw [addr_add]; rfl) (fun k => by rw [addr_add, Nat.zero_add]) hq hp hr
        refine ⟨w', ?_, h2, h3, List.length_set⟩
        have : x.cells.size = ti.size := by rw [← Array.length_toList, ← hr.len]; exact beqN_eq hlen
        simp only [storeVar, Sem.run_bind, ht.sizeOf, Result.andThen_ok, this]
        simpa using h1
      · cases h
    · cases h
  · cases h
/-! ### constants and operands -/
theorem cvC_rel {v : Value} {x : C} (h : cvC v = some x) (μ : Nat → Loc) (N : Nat) : relC μ N x v := by
  unfold cvC at h
  split at h <;> first | (cases h; rfl) | (cases h; exact ⟨_, rfl, .inl rfl⟩) | (cases h; exact ⟨_, _, rfl, .inl rfl, .inl rfl⟩) | cases h
theorem av_rel {μ : Nat → Loc} {N : Nat} {A : List V} {a : Act} (h : relA μ N A a.tmps) (x : Operand) : relV μ N (av A x) (a.eval x) := by
  cases x with
  | tmp t =>
    simp only [av, Act.eval]
    cases hA : A[t]? with
    | none => simp only [List.getD, hA, Option.getD_none]; trivial
    | some v =>
      obtain ⟨u, hu, r⟩ := h.get hA
      simp only [List.getD, hA, Option.getD_some]
      have : a.tmps.getD t undef = u := by simpa using congrArg (Option.getD · undef) hu
      rw [this]; exact r
  | const v =>
    simp only [av, Act.eval]
    split
    · rename_i c hc; exact cvC_rel hc μ N
    · trivial
  | global g => trivial
  | func f => exact ⟨fun b hb => by simp at hb, rfl⟩
end Go.Proofs.YteifneielgnniaaGreatDoor.Sh
namespace Go.Proofs.YteifneielgnniaaGreatDoor.Sh
open Go Ieee
/-! ## contracts -/
def OkRun (P : Program) (g : Nat) (args : Array Value) (w : World) (R : Value → World → Prop) : Prop :=
  ((callFunc g args).run P w = .ok (.enter g args) w ∧ Calls P g args w fun e w' => ∃ v, e = .returned v ∧ R v w') ∨
  (∃ v w', (callFunc g args).run P w = .ok (.value v) w' ∧ R v w')
theorem OkRun.mono {P : Program} {g : Nat} {args : Array Value} {w : World} {R S : Value → World → Prop} (h : OkRun P g args w R) (k : ∀ v w', R v w' → S v w') : OkRun P g args w S := by
  rcases h with ⟨h1, h2⟩ | ⟨v, w', h1, h2⟩
  · exact .inl ⟨h1, h2.mono fun _ _ ⟨v, e, r⟩ => ⟨v, e, k _ _ r⟩⟩
  · exact .inr ⟨v, w', h1, k _ _ h2⟩
def Ok (P : Program) (g : Nat) (s : Spec) : Prop :=
  ∀ args H v H' o, s args H = some (v, H', o) → holds o → ∀ (μ : Nat → Loc) (W : Nat → Prop) (w : World) (vs : List Value), Wide W w → HRel μ W H w → relL (relV μ H.length) args vs →
    OkRun P g vs.toArray w fun x w' => ∃ ν, agree H.length μ ν ∧ H.length ≤ H'.length ∧ HRel ν W H' w' ∧ relV ν H'.length v x ∧ Fr W w w'
def EnvOk (P : Program) (E : Env) : Prop := ∀ g s, envGet E g = some s → Ok P g s.run ∧ ∀ a b, s.alt = some (a, b) → Ok P g a ∧ Ok P g b
theorem envOk_nil (P : Program) : EnvOk P (envGetL []) := fun g s h => by simp [envGet, envGetL] at h
theorem envOk_cons {P : Program} {l : EnvL} {g : Nat} {d : Bool} {s : Spec} (h : Ok P g s) (k : EnvOk P (envGetL l)) : EnvOk P (envGetL ((g, ⟨d, s, none⟩) :: l)) := fun f t e => by
  unfold envGet envGetL at e
  split at e
  · rename_i hb; cases e; rw [← beqN_eq hb]; exact ⟨h, fun _ _ h => by cases h⟩
  · exact k f t e
/-- no answer of one shape -/
def sNo : Spec := fun _ _ => none
theorem envOk_alt {P : Program} {l : EnvL} {g : Nat} {d : Bool} {s1 s2 : Spec} (h1 : Ok P g s1) (h2 : Ok P g s2) (k : EnvOk P (envGetL l)) : EnvOk P (envGetL ((g, ⟨d, sNo, some (s1, s2)⟩) :: l)) := fun f t e => by
  unfold envGet envGetL at e
  split at e
  · rename_i hb; cases e; rw [← beqN_eq hb]
    refine ⟨fun _ _ _ _ _ h => (by cases h), fun a b h => ?_⟩
    cases h
    exact ⟨h1, h2⟩
  · exact k f t e
theorem envT_ok {P : Program} {E : Env} (h : EnvOk P E) : EnvOk P (envT E) := fun g s e => by
  unfold envGet envT at e
  split at e
  · rename_i s' hs
    split at e
    · rename_i a b ha
      cases e
      exact ⟨((h g s' hs).2 _ _ ha).1, fun _ _ h => by cases h⟩
    · cases e
  · cases e
theorem envF_ok {P : Program} {E : Env} (h : EnvOk P E) : EnvOk P (envF E) := fun g s e => by
  unfold envGet envF at e
  split at e
  · rename_i s' hs
    split at e
    · rename_i a b ha
      cases e
      exact ⟨((h g s' hs).2 _ _ ha).2, fun _ _ h => by cases h⟩
    · cases e
  · cases e
/-! ## names -/
theorem memB_iff {b : Nat} : ∀ {l : List Nat}, memB b l = true ↔ b ∈ l
  | [] => by simp [memB]
  | a :: r => by
    unfold memB
    split
    · rename_i h; simp [beqN_eq h]
    · rename_i h
      rw [memB_iff (l := r), List.mem_cons]
      constructor
      · exact .inr
      · rintro (rfl | h')
        · rw [Nat.beq_refl] at h; cases h
        · exact h'
theorem dedupe_acc : ∀ (l acc : List Nat), ∃ q, dedupe l acc = acc ++ q
  | [], acc => ⟨[], by simp [dedupe]⟩
  | b :: r, acc => by
    unfold dedupe
    split
    · exact dedupe_acc r acc
    · obtain ⟨q, h⟩ := dedupe_acc r (acc ++ [b]); exact ⟨b :: q, by rw [h]; simp⟩
theorem dedupe_mem : ∀ (l acc : List Nat) {b : Nat}, b ∈ l ∨ b ∈ acc → b ∈ dedupe l acc
  | [], acc, b, h => by simpa [dedupe] using h
  | a :: r, acc, b, h => by
    unfold dedupe
    split
    · rename_i hm
      rcases h with h | h
      · rcases List.mem_cons.1 h with rfl | h
        · exact dedupe_mem r acc (.inr (memB_iff.1 hm))
        · exact dedupe_mem r acc (.inl h)
      · exact dedupe_mem r acc (.inr h)
    · rcases h with h | h
      · rcases List.mem_cons.1 h with rfl | h
        · exact dedupe_mem r _ (.inr (by simp))
        · exact dedupe_mem r _ (.inl h)
      · exact dedupe_mem r _ (.inr (by simp [h]))
theorem nodupB_ne : ∀ {l : List Nat}, nodupB l = true → ∀ {i j : Nat} {a b : Nat}, l[i]? = some a → l[j]? = some b → i ≠ j → a ≠ b
  | [], _, i, _, _, _, h, _, _ => by simp at h
  | x :: r, hn, i, j, a, b, hi, hj, hne => by
    unfold nodupB at hn
    split at hn
    · cases hn
    · rename_i hm
      have hm' : ∀ y, y ∈ r → x ≠ y := fun y hy e => by subst e; rw [memB_iff.2 hy] at hm; cases hm
      cases i with
      | zero =>
        cases j with
        | zero => exact absurd rfl hne
        | succ j => simp at hi hj; subst hi; exact hm' _ (List.mem_of_getElem? hj)
      | succ i =>
        cases j with
        | zero => simp at hi hj; subst hj; exact fun e => hm' _ (List.mem_of_getElem? hi) e.symm
        | succ j => exact nodupB_ne hn (by simpa using hi) (by simpa using hj) (by omega)
theorem placeOf_get {b : Nat} : ∀ {l : List Nat} (k : Nat), b ∈ l → k ≤ placeOf b l k ∧ l[placeOf b l k - k]? = some b
  | [], _, h => by simp at h
  | a :: r, k, h => by
    unfold placeOf
    split
    · rename_i e; simp [beqN_eq e]
    · rename_i e
      have hr : b ∈ r := by
        rcases List.mem_cons.1 h with rfl | h
        · rw [Nat.beq_refl] at e; cases e
        · exact h
      obtain ⟨h1, h2⟩ := placeOf_get (k + 1) hr
      refine ⟨by omega, ?_⟩
      rw [show placeOf b r (k + 1) - k = (placeOf b r (k + 1) - (k + 1)) + 1 by omega]
      simpa using h2
theorem findB_some {b : Nat} : ∀ {l : List Nat} (k : Nat) {j : Nat}, findB b l k = some j → k ≤ j ∧ l[j - k]? = some b
  | [], _, _, h => by simp [findB] at h
  | a :: r, k, j, h => by
    unfold findB at h
    split at h
    · rename_i e; cases h; simp [beqN_eq e]
    · obtain ⟨h1, h2⟩ := findB_some (k + 1) h
      refine ⟨by omega, ?_⟩
      rw [show j - k = (j - (k + 1)) + 1 by omega]
      simpa using h2
theorem findB_none {b : Nat} : ∀ {l : List Nat} (k : Nat), findB b l k = none → b ∉ l
  | [], _, _ => by simp
  | a :: r, k, h => by
    unfold findB at h
    split at h
    · cases h
    · rename_i e
      rw [List.mem_cons]
      rintro (rfl | h')
      · rw [Nat.beq_refl] at e; cases e
      · exact findB_none (k + 1) h h'
section relL
variable {α β : Type} {R : α → β → Prop}
theorem relL.app_inv : ∀ {as cs : List α} {bs : List β}, relL R (as ++ cs) bs → ∃ b1 b2, bs = b1 ++ b2 ∧ relL R as b1 ∧ relL R cs b2
  | [], cs, bs, h => ⟨[], bs, rfl, trivial, h⟩
  | a :: as, cs, b :: bs, h => by
    obtain ⟨b1, b2, rfl, h1, h2⟩ := relL.app_inv (as := as) h.2
    exact ⟨b :: b1, b2, rfl, ⟨h.1, h1⟩, h2⟩
  | _ :: _, _, [], h => h.elim
theorem relL.comp {γ : Type} {S : α → γ → Prop} {T : γ → β → Prop} (hT : ∀ a b c, R a b → S a c → T c b) : ∀ {as : List α} {bs : List β} {cs : List γ}, relL R as bs → relL S as cs → relL T cs bs
  | [], [], [], _, _ => trivial
  | _ :: _, _ :: _, _ :: _, h, k => ⟨hT _ _ _ h.1 k.1, relL.comp hT h.2 k.2⟩
  | [], [], _ :: _, _, k => k.elim
  | [], _ :: _, _, h, _ => h.elim
  | _ :: _, [], _, h, _ => h.elim
  | _ :: _, _ :: _, [], _, k => k.elim
end relL
/-! ## a call -/
section call
variable (dup : Bool) (sel : List Nat) (μ : Nat → Loc)
/-- the callee's places -/
def subLoc (j : Nat) : Loc := match dup with
  | true => { μ (sel.getD j 0) with es := 0 }
  | false => μ (sel.getD j 0)
def good (b k : Nat) : Prop := sel[k]? = some b
/-- what holds of the first holds of the second in the callee's terms -/
def Tr (N : Nat) (x y : C) : Prop := ∀ v, relC μ N x v → relC (subLoc dup sel μ) sel.length y v
variable {dup sel μ}
theorem subLoc_addr {b k : Nat} (h : good sel b k) (o : Nat) : addrOf (subLoc dup sel μ k) o = addrOf (μ b) o := by
  have : sel.getD k 0 = b := by simpa [List.getD] using congrArg (Option.getD · 0) h
  unfold subLoc; rw [this]; cases dup <;> rfl
theorem subLoc_cap {b k : Nat} (h : good sel b k) {o cap : Nat} (hc : capOk (μ b) o cap) : capOk (subLoc dup sel μ k) o cap := by
  have : sel.getD k 0 = b := by simpa [List.getD] using congrArg (Option.getD · 0) h
  unfold subLoc; rw [this]; cases dup
  · exact hc
  · exact .inl rfl
theorem good_lt {b k : Nat} (h : good sel b k) : k < sel.length := lt_of_get h
theorem asgC_ok {N : Nat} (x : C) {ks : List Nat} (h : relL (good sel) (namesC x) ks) (rest : List Nat) : ∃ y, asgC x (ks ++ rest) = (y, rest) ∧ Tr dup sel μ N x y := by
  cases x with
  | p b o =>
    match ks, h with
    | [k], h => exact ⟨_, rfl, fun v r => ⟨good_lt h.1, by rw [subLoc_addr h.1]; exact r.2⟩⟩
  | sl b o n =>
    match ks, h with
    | [k], h => exact ⟨_, rfl, fun v r => by
        obtain ⟨_, cap, a, h1, h2, h3, h4⟩ := r
        exact ⟨good_lt h.1, cap, a, h1, subLoc_cap h.1 h2, by rw [subLoc_addr h.1]; exact h3, h4⟩⟩
  | fn g caps =>
    have hl := h.len
    refine ⟨.fn g ks, ?_, fun v r => ?_⟩
    · simp only [namesC] at hl
      simp [asgC, hl]
    · obtain ⟨h1, h2⟩ := r
      refine ⟨fun k hk => ?_, ?_⟩
      · obtain ⟨i, hi, e⟩ := List.getElem_of_mem hk
        have : ∃ b, (namesC (.fn g caps))[i]? = some b := ⟨_, List.getElem?_eq_getElem (by rw [hl]; exact hi)⟩
        obtain ⟨b, hb⟩ := this
        obtain ⟨k', hk', hg⟩ := h.get hb
        rw [List.getElem?_eq_getElem hi, e] at hk'
        cases hk'
        exact good_lt hg
      · rw [h2]
        have : ∀ {cs ks : List Nat}, relL (good sel) cs ks → (cs.map fun b => Value.pointer (some (addrOf (μ b) 0))) = ks.map fun b => Value.pointer (some (addrOf (subLoc dup sel μ b) 0)) := by
          intro cs
          induction cs with
          | nil => intro ks h; cases ks with | nil => rfl | cons _ _ => exact h.elim
          | cons c cs ih => intro ks h; cases ks with | nil => exact h.elim | cons k ks => simp only [List.map_cons]; rw [ih h.2, subLoc_addr h.1]
        rw [this (show relL (good sel) caps ks from h)]
  | b e => match ks, h with | [], _ => exact ⟨_, rfl, fun v r => r⟩
  | i k e => match ks, h with | [], _ => exact ⟨_, rfl, fun v r => r⟩
  | f k e => match ks, h with | [], _ => exact ⟨_, rfl, fun v r => r⟩
  | z k e m => match ks, h with | [], _ => exact ⟨_, rfl, fun v r => r⟩
  | s e => match ks, h with | [], _ => exact ⟨_, rfl, fun v r => r⟩
  | pn => match ks, h with | [], _ => exact ⟨_, rfl, fun v r => r⟩
  | sn => match ks, h with | [], _ => exact ⟨_, rfl, fun v r => r⟩
  | fnn => match ks, h with | [], _ => exact ⟨_, rfl, fun v r => r⟩
theorem asgs_ok {N : Nat} : ∀ (xs : List C) {ks : List Nat}, relL (good sel) (names xs) ks → ∀ rest, ∃ ys, asgs xs (ks ++ rest) = (ys, rest) ∧ relL (Tr dup sel μ N) xs ys
  | [], ks, h, rest => by
    cases ks with
    | nil => exact ⟨[], rfl, trivial⟩
    | cons _ _ => exact h.elim
  | x :: xs, ks, h, rest => by
    obtain ⟨k1, k2, rfl, h1, h2⟩ := relL.app_inv (as := namesC x) h
    obtain ⟨y, e1, t1⟩ := asgC_ok (dup := dup) (μ := μ) (N := N) x h1 (k2 ++ rest)
    obtain ⟨ys, e2, t2⟩ := asgs_ok xs h2 rest
    refine ⟨y :: ys, ?_, t1, t2⟩
    unfold asgs
    rw [List.append_assoc, e1]
    simp only [e2]
theorem asgVs_ok {N : Nat} : ∀ {args : List V} {n0 ks : List Nat} {vs : List Value}, namesVs args = some n0 → relL (good sel) n0 ks → ∀ (rest : List Nat), relL (relV μ N) args vs → relL (relV (subLoc dup sel μ) sel.length) (asgVs args (ks ++ rest)) vs
  | [], n0, ks, [], _, _, _, _ => trivial
  | .c x :: r, n0, ks, v :: vs, hn, h, rest, hr => by
    unfold namesVs at hn
    split at hn
    · rename_i q hq
      cases hn
      obtain ⟨k1, k2, rfl, h1, h2⟩ := relL.app_inv (as := namesC x) h
      obtain ⟨y, e1, t1⟩ := asgC_ok (dup := dup) (μ := μ) (N := N) x h1 (k2 ++ rest)
      unfold asgVs
      rw [List.append_assoc, e1]
      exact ⟨t1 _ hr.1, asgVs_ok hq h2 rest hr.2⟩
    · cases hn
  | .a cs :: r, n0, ks, v :: vs, hn, h, rest, hr => by
    unfold namesVs at hn
    split at hn
    · rename_i q hq
      cases hn
      obtain ⟨k1, k2, rfl, h1, h2⟩ := relL.app_inv (as := names cs) h
      obtain ⟨ys, e1, t1⟩ := asgs_ok (dup := dup) (μ := μ) (N := N) cs h1 (k2 ++ rest)
      unfold asgVs
      rw [List.append_assoc, e1]
      obtain ⟨us, e, r1⟩ := hr.1
      exact ⟨⟨us, e, relL.comp (fun _ _ _ p t => t _ p) r1 t1⟩, asgVs_ok hq h2 rest hr.2⟩
    · cases hn
  | .t _ :: _, _, _, _, hn, _, _, _ => by simp [namesVs] at hn
  | .u :: _, _, _, _, hn, _, _, _ => by simp [namesVs] at hn
  | .n :: _, _, _, _, hn, _, _, _ => by simp [namesVs] at hn
  | _ :: _, _, _, [], _, _, _, hr => hr.elim
  | [], _, _, _ :: _, _, _, _, hr => hr.elim
theorem tr_plain {N : Nat} {x : C} (h : namesC x = []) : Tr dup sel μ N x x := by
  cases x with
  | p b o => simp [namesC] at h
  | sl b o n => simp [namesC] at h
  | fn g caps => simp only [namesC] at h; subst h; exact fun v r => ⟨fun b hb => by simp at hb, r.2⟩
  | _ => exact fun v r => r
theorem names_plain : ∀ {l : List C}, names l = [] → ∀ x, x ∈ l → namesC x = []
  | [], _, x, hx => by simp at hx
  | y :: r, h, x, hx => by
    simp only [names, List.append_eq_nil_iff] at h
    rcases List.mem_cons.1 hx with rfl | hx
    · exact h.1
    · exact names_plain h.2 x hx
theorem at_plain {c : Cells} (h : c.names = []) {j : Nat} {x : C} (hx : c.at j = some x) : namesC x = [] := by
  cases c with
  | lit l => exact names_plain h x (List.mem_of_getElem? hx)
  | fl l => simp only [Cells.at, Option.map_eq_some_iff] at hx; obtain ⟨_, _, rfl⟩ := hx; rfl
  | cx l => simp only [Cells.at, Option.map_eq_some_iff] at hx; obtain ⟨_, _, rfl⟩ := hx; rfl
  | sx l => simp only [Cells.at, Option.map_eq_some_iff] at hx; obtain ⟨_, _, rfl⟩ := hx; rfl
  | it k l => simp only [Cells.at, Option.map_eq_some_iff] at hx; obtain ⟨_, _, rfl⟩ := hx; rfl
/-- one block, in the callee's heap -/
def SubOk (dup : Bool) (sel : List Nat) (μ : Nat → Loc) (H : Heap) (N b : Nat) (D : Option Blk) : Prop :=
  ∃ B c', H[b]? = some (some B) ∧ D = some (subBlk dup B c') ∧ ∀ j y, c'.at j = some y → ∃ x, B.cells.at j = some x ∧ Tr dup sel μ N x y
theorem sub0_ok {H : Heap} {N : Nat} : ∀ {s0 ks rest : List Nat} {h0 : Heap}, relL (good sel) (blkNames H s0) ks → sub0 dup H s0 (ks ++ rest) = some h0 → relL (SubOk dup sel μ H N) s0 h0
  | [], ks, rest, h0, _, h => by simp only [sub0, Option.some.injEq] at h; subst h; trivial
  | b :: r, ks, rest, h0, hk, h => by
    unfold sub0 at h
    unfold blkNames at hk
    split at h
    · cases h
    · rename_i B hB
      rw [hB] at hk
      simp only at hk
      obtain ⟨k1, k2, rfl, h1, h2⟩ := relL.app_inv hk
      split at h
      · rename_i l hl
        rw [hl] at h1
        obtain ⟨ys, e1, t1⟩ := asgs_ok (dup := dup) (μ := μ) (N := N) l h1 (k2 ++ rest)
        rw [List.append_assoc, e1] at h
        simp only at h
        split at h
        · rename_i q hq
          cases h
          refine ⟨⟨B, .lit ys, Heap.blk_some hB, rfl, fun j y hy => ?_⟩, sub0_ok h2 hq⟩
          have hj := lt_of_get (show ys[j]? = some y from hy)
          rw [← t1.len] at hj
          have hx : l[j]? = some l[j] := List.getElem?_eq_getElem hj
          obtain ⟨y', hy', t⟩ := t1.get hx
          rw [show ys[j]? = some y from hy] at hy'
          cases hy'
          exact ⟨_, by rw [hl]; exact hx, t⟩
        · cases h
      · rename_i hl
        split at h
        · rename_i q hq
          cases h
          have hnm : B.cells.names = [] := by
            cases hc : B.cells <;> first | rfl | exact absurd hc (hl _)
          rw [hnm] at h1
          have : k1 = [] := by cases k1 with | nil => rfl | cons _ _ => exact h1.elim
          subst this
          exact ⟨⟨B, B.cells, Heap.blk_some hB, rfl, fun j y hy => ⟨y, hy, tr_plain (at_plain hnm hy)⟩⟩, sub0_ok h2 hq⟩
        · cases h
theorem sub1_ok {H : Heap} {N : Nat} : ∀ {s1 : List Nat} {h1 : Heap}, sub1 dup H s1 = some h1 → relL (SubOk dup sel μ H N) s1 h1
  | [], h1, h => by simp only [sub1, Option.some.injEq] at h; subst h; trivial
  | b :: r, h1, h => by
    unfold sub1 at h
    split at h
    · cases h
    · rename_i B hB
      split at h
      · rename_i q hnm hq
        cases h
        exact ⟨⟨B, B.cells, Heap.blk_some hB, rfl, fun j y hy => ⟨y, hy, tr_plain (at_plain hnm hy)⟩⟩, sub1_ok hq⟩
      · cases h
theorem good_range {a l c : List Nat} : relL (good (a ++ (l ++ c))) l (List.range' a.length l.length) := by
  refine relL_of_get (by simp) fun j x y hx hy => ?_
  have hj := lt_of_get hx
  rw [List.getElem?_range' hj] at hy
  cases hy
  unfold good
  rw [List.getElem?_append_right (by omega), List.getElem?_append_left (by omega)]
  rw [← hx]; congr 1; omega
theorem good_place {sel l : List Nat} (h : ∀ b, b ∈ l → b ∈ sel) : relL (good sel) l (l.map fun b => placeOf b sel 0) := by
  induction l with
  | nil => trivial
  | cons b l ih => exact ⟨by have := (placeOf_get 0 (h b (by simp))).2; simpa [good] using this, ih fun c hc => h c (by simp [hc])⟩
/-- the writable blocks of the callee -/
def Wl (dup : Bool) (sel : List Nat) (μ : Nat → Loc) (H : Heap) (w : World) (k : Nat) : Prop :=
  w.heap.size ≤ k ∨ (dup = false ∧ ∃ (j b : Nat) (B : Blk), sel[j]? = some b ∧ H[b]? = some (some B) ∧ B.rw = true ∧ (μ b).blk = k)
theorem select_ok {args : List V} {H : Heap} {q : Sel} (h : select dup args H = some q) {μ : Nat → Loc} {W : Nat → Prop} {w : World} (hH : HRel μ W H w) {vs : List Value} (hr : relL (relV μ H.length) args vs) :
    HRel (subLoc dup q.sel μ) (Wl dup q.sel μ H w) q.heap w ∧ relL (relV (subLoc dup q.sel μ) q.heap.length) q.args vs ∧ q.heap.length = q.sel.length ∧ (dup = false → nodupB q.sel = true) ∧
    (∀ (j b : Nat), q.sel[j]? = some b → ∃ (B : Blk) (c' : Cells), H[b]? = some (some B) ∧ q.heap[j]? = some (some (subBlk dup B c'))) := by
  unfold select at h
  split at h
  · cases h
  · rename_i n0 hn0
    -- the three parts
    have key : ∃ (s0 n1 sel : List Nat) (k0 k1 : List Nat) (h0 h1 : Heap), q = ⟨sel, asgVs args (k0 ++ []), h0 ++ h1⟩ ∧ n1 = blkNames H s0 ∧ relL (good sel) n0 k0 ∧ relL (good sel) n1 k1 ∧
        sub0 dup H s0 (k1 ++ []) = some h0 ∧ sub1 dup H (sel.drop s0.length) = some h1 ∧ (∃ r, sel = s0 ++ r) ∧ (dup = false → nodupB sel = true) := by
      cases dup with
      | true =>
        simp only at h
        split at h
        · rename_i h0 h1 _ e0 e1
          cases h
          refine ⟨n0, blkNames H n0, n0 ++ blkNames H n0, List.range' 0 n0.length, List.range' n0.length (blkNames H n0).length, h0, h1, by simp [news], rfl, ?_, ?_, by simpa [news] using e0, e1, ⟨_, rfl⟩, fun h => by cases h⟩
          · exact good_range (a := [])
          · simpa using good_range (a := n0) (l := blkNames H n0) (c := [])
        · cases h
      | false =>
        simp only at h
        split at h
        · rename_i h0 h1 en e0 e1
          cases h
          obtain ⟨r, hr⟩ := dedupe_acc (blkNames H (dedupe n0 [])) (dedupe n0 [])
          refine ⟨dedupe n0 [], blkNames H (dedupe n0 []), dedupe (blkNames H (dedupe n0 [])) (dedupe n0 []), _, _, h0, h1, by simp only [List.append_nil]; rfl, rfl, ?_, ?_, by rw [List.append_nil]; exact e0, e1, ⟨r, hr⟩, fun _ => en⟩
          · exact good_place fun b hb => dedupe_mem _ _ (.inr (dedupe_mem _ _ (.inl hb)))
          · exact good_place fun b hb => dedupe_mem _ _ (.inl hb)
        · cases h
    obtain ⟨s0, n1, sel, k0, k1, h0, h1, rfl, rfl, g0, g1, e0, e1, ⟨r, hsel⟩, hnd⟩ := key
    simp only
    have S0 := sub0_ok (μ := μ) (N := H.length) g1 e0
    have S1 := sub1_ok (sel := sel) (μ := μ) (N := H.length) e1
    have hd : sel.drop s0.length = r := by rw [hsel]; simp
    rw [hd] at S1
    have S : relL (SubOk dup sel μ H H.length) sel (h0 ++ h1) := by
      have := S0.append S1
      rwa [← hsel] at this
    have hlen : (h0 ++ h1).length = sel.length := S.len.symm
    have hget : ∀ (j : Nat) (D : Blk), (h0 ++ h1)[j]? = some (some D) → ∃ (b : Nat) (B : Blk) (c' : Cells), sel[j]? = some b ∧ H[b]? = some (some B) ∧ D = subBlk dup B c' ∧ ∀ i y, c'.at i = some y → ∃ x, B.cells.at i = some x ∧ Tr dup sel μ H.length x y := by
      intro j D hD
      have hj := lt_of_get hD
      rw [hlen] at hj
      have hb : sel[j]? = some sel[j] := List.getElem?_eq_getElem hj
      obtain ⟨D', hD', B, c', hB, e, t⟩ := S.get hb
      rw [hD] at hD'; cases hD'; cases e
      exact ⟨_, B, c', hb, hB, rfl, t⟩
    refine ⟨⟨fun j D hD => ?_, fun i j D E hi hj hrw hne => ?_⟩, ?_, hlen, hnd, fun j b hb => ?_⟩
    · obtain ⟨b, B, c', hb, hB, rfl, t⟩ := hget j D hD
      obtain ⟨c, e, lo, hi, hg, hc, hw, hes⟩ := (hH.blk b B hB).out
      rw [hlen]
      cases dup with
      | true =>
        refine ⟨c, e, lo, hi, by simpa [subLoc, hb] using hg, fun i y hy => ?_, fun h => by simp [subBlk] at h, by simp [subLoc, subBlk], fun h => by simp [subBlk] at h⟩
        obtain ⟨x, hx, tx⟩ := t i y hy
        obtain ⟨v, hv, rv⟩ := hc i x hx
        exact ⟨v, by simpa [subLoc, hb] using hv, tx v rv⟩
      | false =>
        refine ⟨c, e, lo, hi, by simpa [subLoc, hb] using hg, fun i y hy => ?_, fun h => ?_, by simpa [subLoc, hb, subBlk] using hes.1, fun h => by simpa [subLoc, hb, subBlk] using hes.2 h⟩
        · obtain ⟨x, hx, tx⟩ := t i y hy
          obtain ⟨v, hv, rv⟩ := hc i x hx
          exact ⟨v, by simpa [subLoc, hb] using hv, tx v rv⟩
        · exact ⟨.inr ⟨rfl, j, b, B, hb, hB, h, by simp [subLoc, hb]⟩, (hw h).2⟩
    · obtain ⟨b, B, c', hb, hB, rfl, _⟩ := hget i D hi
      obtain ⟨b2, B2, c2, hb2, hB2, rfl, _⟩ := hget j E hj
      cases dup with
      | true => simp [subBlk] at hrw
      | false =>
        have := hH.sep b b2 B B2 hB hB2 hrw (nodupB_ne (hnd rfl) hb hb2 hne)
        simpa [subLoc, hb, hb2] using this
    · rw [hlen]; exact asgVs_ok hn0 g0 [] hr
    · obtain ⟨D, hD, B, c', hB, e, _⟩ := S.get hb
      exact ⟨B, c', hB, by rw [hD, e]⟩
end call
end Go.Proofs.YteifneielgnniaaGreatDoor.Sh
namespace Go.Proofs.YteifneielgnniaaGreatDoor.Sh
open Go Ieee
section back
variable {dup : Bool} {sel : List Nat} {μ ν : Nat → Loc} {n M : Nat}
/-- the caller's places behind the call -/
def backLoc (sel : List Nat) (n : Nat) (μ ν : Nat → Loc) (i : Nat) : Loc := if i < n then μ i else ν (sel.length + (i - n))
theorem backLoc_old {i : Nat} (h : i < n) : backLoc sel n μ ν i = μ i := by simp [backLoc, h]
theorem backB_old {k : Nat} (h : k < sel.length) : sel[k]? = some (backB sel n k) := by
  unfold backB
  have : Nat.blt k sel.length = true := by simpa [Nat.blt_eq] using h
  rw [this]
  simp [h]
theorem backB_new {k : Nat} (h : sel.length ≤ k) : backB sel n k = n + (k - sel.length) := by
  unfold backB
  have : Nat.blt k sel.length = false := by
    cases hb : Nat.blt k sel.length with
    | false => rfl
    | true => have := blt_lt hb; omega
  rw [this]
structure BackOk (dup : Bool) (sel : List Nat) (μ ν : Nat → Loc) (n M : Nat) : Prop where
  lt : ∀ (j b : Nat), sel[j]? = some b → b < n
  ag : agree sel.length (subLoc dup sel μ) ν
  le : sel.length ≤ M
variable (h : BackOk dup sel μ ν n M)
include h
theorem back_lt {k : Nat} (hk : k < M) : backB sel n k < n + (M - sel.length) := by
  rcases Nat.lt_or_ge k sel.length with hl | hl
  · have := h.lt _ _ (backB_old (n := n) hl); omega
  · rw [backB_new hl]; omega
theorem back_addr {k : Nat} (o : Nat) : addrOf (backLoc sel n μ ν (backB sel n k)) o = addrOf (ν k) o := by
  rcases Nat.lt_or_ge k sel.length with hl | hl
  · have hb := backB_old (n := n) hl
    rw [backLoc_old (h.lt _ _ hb), h.ag k hl, subLoc_addr (show good sel _ k from hb)]
  · rw [backB_new hl]
    unfold backLoc
    rw [if_neg (by omega)]
    congr 2; omega
theorem back_loc {k : Nat} (hd : dup = false ∨ sel.length ≤ k) : backLoc sel n μ ν (backB sel n k) = ν k := by
  rcases Nat.lt_or_ge k sel.length with hl | hl
  · have hb := backB_old (n := n) hl
    rcases hd with rfl | hd
    · rw [backLoc_old (h.lt _ _ hb), h.ag k hl]
      simp [subLoc, hb]
    · omega
  · rw [backB_new hl]
    unfold backLoc
    rw [if_neg (by omega)]
    congr 1; omega
theorem backC_rel {x : C} {v : Value} (r : relC ν M x v) (hf : dup = true → freshN sel.length (namesC x) = true) : relC (backLoc sel n μ ν) (n + (M - sel.length)) (backC sel n x) v := by
  have hfr : ∀ k, k ∈ namesC x → dup = false ∨ sel.length ≤ k := fun k hk => by
    cases dup with
    | false => exact .inl rfl
    | true => right; exact ble_le (List.all_eq_true.1 (hf rfl) k hk)
  cases x with
  | p b o => exact ⟨back_lt h r.1, by rw [back_addr h]; exact r.2⟩
  | sl b o k =>
    obtain ⟨hb, cap, a, h1, h2, h3, h4⟩ := r
    exact ⟨back_lt h hb, cap, a, h1, by rw [back_loc h (hfr b (by simp [namesC]))]; exact h2, by rw [back_addr h]; exact h3, h4⟩
  | fn g caps =>
    obtain ⟨h1, h2⟩ := r
    refine ⟨fun b hb => ?_, ?_⟩
    · obtain ⟨c, hc, rfl⟩ := List.mem_map.1 hb
      exact back_lt h (h1 c hc)
    · rw [h2, List.map_map]
      congr 2
      exact List.map_congr_left fun b _ => by simp only [Function.comp]; rw [back_addr h]
  | _ => exact r
theorem backCs_rel {xs : List C} {vs : List Value} (r : relL (relC ν M) xs vs) (hf : dup = true → freshN sel.length (names xs) = true) : relL (relC (backLoc sel n μ ν) (n + (M - sel.length))) (xs.map (backC sel n)) vs := by
  induction xs generalizing vs with
  | nil => cases vs with | nil => trivial | cons _ _ => exact r.elim
  | cons x xs ih =>
    cases vs with
    | nil => exact r.elim
    | cons v vs =>
      have hs : dup = true → freshN sel.length (namesC x) = true ∧ freshN sel.length (names xs) = true := fun hd => by
        have := hf hd
        simp only [names, freshN, List.all_append, Bool.and_eq_true] at this
        exact this
      exact ⟨backC_rel h r.1 fun hd => (hs hd).1, ih r.2 fun hd => (hs hd).2⟩
theorem backV1_rel {x : V} {v : Value} (r : relV1 ν M x v) (hf : dup = true → freshV1 sel.length x = true) : relV1 (backLoc sel n μ ν) (n + (M - sel.length)) (backV1 sel n x) v := by
  cases x with
  | c x => exact backC_rel h r hf
  | a cs => obtain ⟨vs, e, r⟩ := r; exact ⟨vs, e, backCs_rel h r hf⟩
  | t vs => exact r.elim
  | u => trivial
  | n => exact r
theorem backV_rel {x : V} {v : Value} (r : relV ν M x v) (hf : dup = true → freshV sel.length x = true) : relV (backLoc sel n μ ν) (n + (M - sel.length)) (backV sel n x) v := by
  cases x with
  | t vs =>
    obtain ⟨ws, e, r⟩ := r
    refine ⟨ws, e, ?_⟩
    have hf' : ∀ y, y ∈ vs → dup = true → freshV1 sel.length y = true := fun y hy hd => List.all_eq_true.1 (hf hd) y hy
    clear hf
    induction vs generalizing ws v with
    | nil => cases ws with | nil => trivial | cons _ _ => exact r.elim
    | cons y ys ih => cases ws with
      | nil => exact r.elim
      | cons u us => exact ⟨backV1_rel h r.1 (hf' y (by simp)), ih us rfl r.2 fun z hz => hf' z (by simp [hz])⟩
  | c x => exact backV1_rel (x := .c x) h r hf
  | a cs => exact backV1_rel (x := .a cs) h r hf
  | u => trivial
  | n => exact r
end back
theorem backCells_at {sel : List Nat} {n : Nat} {c : Cells} {j : Nat} {y : C} (h : (backCells sel n c).at j = some y) : ∃ x, c.at j = some x ∧ y = backC sel n x := by
  cases c with
  | lit l => simp only [backCells, Cells.at, List.getElem?_map, Option.map_eq_some_iff] at h; obtain ⟨x, hx, rfl⟩ := h; exact ⟨x, hx, rfl⟩
  | fl l => simp only [backCells, Cells.at, Option.map_eq_some_iff] at h; obtain ⟨e, he, rfl⟩ := h; exact ⟨.f .f32 fun _ => e, by simp [Cells.at, he], rfl⟩
  | cx l => simp only [backCells, Cells.at, Option.map_eq_some_iff] at h; obtain ⟨e, he, rfl⟩ := h; exact ⟨.z .f32 (fun _ => e.1) (fun _ => e.2), by simp [Cells.at, he], rfl⟩
  | sx l => simp only [backCells, Cells.at, Option.map_eq_some_iff] at h; obtain ⟨e, he, rfl⟩ := h; exact ⟨.s fun _ => e, by simp [Cells.at, he], rfl⟩
  | it k l => simp only [backCells, Cells.at, Option.map_eq_some_iff] at h; obtain ⟨e, he, rfl⟩ := h; exact ⟨.i k (.l e), by simp [Cells.at, he], rfl⟩
theorem names_mem : ∀ {l : List C} {x : C}, x ∈ l → ∀ k, k ∈ namesC x → k ∈ names l
  | y :: r, x, hx, k, hk => by
    simp only [names, List.mem_append]
    rcases List.mem_cons.1 hx with rfl | hx
    · exact .inl hk
    · exact .inr (names_mem hx k hk)
theorem freshBlk_at {m : Nat} {B : Blk} (h : freshBlk m (some B) = true) {j : Nat} {x : C} (hx : B.cells.at j = some x) : freshN m (namesC x) = true := by
  unfold freshBlk at h
  refine List.all_eq_true.2 fun k hk => List.all_eq_true.1 h k ?_
  cases hc : B.cells with
  | lit l => rw [hc] at hx; exact names_mem (List.mem_of_getElem? hx) k hk
  | fl l => rw [hc] at hx; simp only [Cells.at, Option.map_eq_some_iff] at hx; obtain ⟨_, _, rfl⟩ := hx; simp [namesC] at hk
  | cx l => rw [hc] at hx; simp only [Cells.at, Option.map_eq_some_iff] at hx; obtain ⟨_, _, rfl⟩ := hx; simp [namesC] at hk
  | sx l => rw [hc] at hx; simp only [Cells.at, Option.map_eq_some_iff] at hx; obtain ⟨_, _, rfl⟩ := hx; simp [namesC] at hk
  | it k l => rw [hc] at hx; simp only [Cells.at, Option.map_eq_some_iff] at hx; obtain ⟨_, _, rfl⟩ := hx; simp [namesC] at hk
theorem backBlk_some {sel : List Nat} {n : Nat} {X : Option Blk} {D : Blk} (h : backBlk sel n X = some D) : ∃ B, X = some B ∧ D.rw = B.rw ∧ D.es = B.es ∧ D.cells = backCells sel n B.cells := by
  cases X with
  | none => simp [backBlk] at h
  | some B => simp only [backBlk, Option.some.injEq] at h; subst h; exact ⟨B, rfl, rfl, rfl, rfl⟩
theorem writeBack_len (sel : List Nat) (n : Nat) (Hs : Heap) : ∀ (H : Heap) (i : Nat), (writeBack sel n Hs H i).length = H.length + (Hs.length - sel.length)
  | [], i => by simp [writeBack]
  | B :: r, i => by simp only [writeBack, List.length_cons, writeBack_len sel n Hs r (i + 1)]; omega
theorem writeBack_get (sel : List Nat) (n : Nat) (Hs : Heap) : ∀ (H : Heap) (i0 i : Nat) {D : Blk}, (writeBack sel n Hs H i0)[i]? = some (some D) →
    (∃ B, H[i]? = some B ∧ ((findB (i0 + i) sel 0 = none ∧ B = some D) ∨ ∃ j, findB (i0 + i) sel 0 = some j ∧ backBlk sel n (Hs.getD j none) = some D)) ∨
    (H.length ≤ i ∧ ((Hs.drop sel.length).map (backBlk sel n))[i - H.length]? = some (some D))
  | [], i0, i, D, h => .inr ⟨Nat.zero_le _, by simpa [writeBack] using h⟩
  | B :: r, i0, 0, D, h => by
    left
    refine ⟨B, rfl, ?_⟩
    simp only [writeBack, List.getElem?_cons_zero, Option.some.injEq] at h
    simp only [Nat.add_zero]
    split at h
    · rename_i j hj; exact .inr ⟨j, hj, h⟩
    · rename_i hj; exact .inl ⟨hj, h⟩
  | B :: r, i0, i + 1, D, h => by
    simp only [writeBack, List.getElem?_cons_succ] at h
    rcases writeBack_get sel n Hs r (i0 + 1) i h with ⟨B', h1, h2⟩ | ⟨h1, h2⟩
    · exact .inl ⟨B', by simpa using h1, by rw [show i0 + (i + 1) = i0 + 1 + i by omega]; exact h2⟩
    · exact .inr ⟨by simp; omega, by simpa using h2⟩
/-- what the blocks behind the call are -/
def FinOk (dup : Bool) (sel : List Nat) (H Hs : Heap) (HF : Heap) : Prop :=
  HF.length = H.length + (Hs.length - sel.length) ∧ ∀ i D, HF[i]? = some (some D) →
    (i < H.length ∧ H[i]? = some (some D) ∧ (dup = true ∨ i ∉ sel)) ∨
    ∃ k B, (dup = false ∨ sel.length ≤ k) ∧ (sel.length ≤ k → B.rw = true) ∧ Hs[k]? = some (some B) ∧ i = backB sel H.length k ∧ D.rw = B.rw ∧ D.es = B.es ∧ D.cells = backCells sel H.length B.cells ∧ (dup = true → freshBlk sel.length (some B) = true)
theorem finOk_dup {sel : List Nat} {H Hs : Heap} (hrw : (Hs.drop sel.length).all rwBlk = true) (hf : (Hs.drop sel.length).all (freshBlk sel.length) = true) : FinOk true sel H Hs (H ++ (Hs.drop sel.length).map (backBlk sel H.length)) := by
  refine ⟨by simp, fun i D hi => ?_⟩
  rcases Nat.lt_or_ge i H.length with hl | hl
  · left; rw [List.getElem?_append_left hl] at hi; exact ⟨hl, hi, .inl rfl⟩
  · right
    rw [List.getElem?_append_right hl, List.getElem?_map, Option.map_eq_some_iff] at hi
    obtain ⟨X, hX, hb⟩ := hi
    obtain ⟨B, rfl, h1, h2, h3⟩ := backBlk_some hb
    have hm := List.mem_of_getElem? hX
    rw [List.getElem?_drop] at hX
    refine ⟨sel.length + (i - H.length), B, .inr (by omega), fun _ => List.all_eq_true.1 hrw _ hm, hX, ?_, h1, h2, h3, fun _ => List.all_eq_true.1 hf _ hm⟩
    rw [backB_new (by omega)]; omega
theorem finOk_set {sel : List Nat} {H Hs : Heap} (hrw : (Hs.drop sel.length).all rwBlk = true) : FinOk false sel H Hs (writeBack sel H.length Hs H 0) := by
  refine ⟨writeBack_len .., fun i D hi => ?_⟩
  rcases writeBack_get sel H.length Hs H 0 i hi with ⟨B, h1, h2⟩ | ⟨hl, h2⟩
  · rw [Nat.zero_add] at h2
    rcases h2 with ⟨h2, rfl⟩ | ⟨j, hj, hb⟩
    · left; exact ⟨lt_of_get h1, h1, .inr (findB_none 0 h2)⟩
    · right
      obtain ⟨B', e, r1, r2, r3⟩ := backBlk_some hb
      have hs := (findB_some 0 hj).2
      rw [Nat.sub_zero] at hs
      have hjl := lt_of_get hs
      refine ⟨j, B', .inl rfl, fun h => by omega, ?_, ?_, r1, r2, r3, fun h => by cases h⟩
      · cases hg : Hs[j]? with
        | none => simp [List.getD, hg] at e
        | some y => simp [List.getD, hg] at e; rw [e]
      · have := backB_old (n := H.length) hjl
        rw [hs] at this; exact Option.some.inj this
  · right
    rw [List.getElem?_map, Option.map_eq_some_iff] at h2
    obtain ⟨X, hX, hb⟩ := h2
    obtain ⟨B, rfl, h1, h2, h3⟩ := backBlk_some hb
    have hm := List.mem_of_getElem? hX
    rw [List.getElem?_drop] at hX
    refine ⟨sel.length + (i - H.length), B, .inl rfl, fun _ => List.all_eq_true.1 hrw _ hm, hX, ?_, h1, h2, h3, fun h => by cases h⟩
    rw [backB_new (by omega)]; omega
/-- THE HEAP BEHIND A CALL -/
theorem HRel.back {dup : Bool} {sel : List Nat} {μ ν : Nat → Loc} {W : Nat → Prop} {H Hs HF : Heap} {w w' : World} (hW : ∀ k, w.heap.size ≤ k → W k) (hH : HRel μ W H w)
    (hsel : ∀ (j b : Nat), sel[j]? = some b → ∃ B : Blk, H[b]? = some (some B)) (hB : BackOk dup sel μ ν H.length Hs.length) (hS : HRel ν (Wl dup sel μ H w) Hs w') (hfr : Fr (Wl dup sel μ H w) w w') (hF : FinOk dup sel H Hs HF) :
    HRel (backLoc sel H.length μ ν) W HF w' := by
  have hWl : ∀ k, Wl dup sel μ H w k → W k := fun k hk => by
    rcases hk with hk | ⟨_, j, b, B, _, hb, hr, rfl⟩
    · exact hW k hk
    · obtain ⟨c, e, lo, hi, _, _, hw, _⟩ := (hH.blk b B hb).out; exact (hw hr).1
  -- an untouched block
  have hout : ∀ i D, H[i]? = some (some D) → (dup = true ∨ i ∉ sel) → ¬ Wl dup sel μ H w (μ i).blk := fun i D hi hs hk => by
    rcases hk with hk | ⟨hd, j, b, B, hj, hb, hr, he⟩
    · have := (hH.blk i D hi).lt; omega
    · rcases hs with hs | hs
      · rw [hs] at hd; cases hd
      · have : b ≠ i := fun e => hs (e ▸ List.mem_of_getElem? hj)
        exact hH.sep b i B D hb hi hr this he
  refine ⟨fun i D hi => ?_, fun i j D E hi hj hr hne => ?_⟩
  · rw [hF.1]
    rcases hF.2 i D hi with ⟨hl, hi, hs⟩ | ⟨k, B, hd, _, hk, rfl, e1, e2, e3, hfb⟩
    · rw [backLoc_old hl]
      have hb := hH.blk i D hi
      exact (hb.frame (hfr.block _ hb.lt (hout i D hi hs))).mono (fun j hj => backLoc_old hj) (by omega)
    · rw [back_loc hB hd]
      obtain ⟨c, e, lo, hi', hg, hc, hw, hes⟩ := (hS.blk k B hk).out
      refine ⟨c, e, lo, hi', hg, fun j y hy => ?_, fun h => ?_, by rw [e2]; exact hes.1, fun h => by rw [e2] at h; exact hes.2 h⟩
      · rw [e3] at hy
        obtain ⟨x, hx, rfl⟩ := backCells_at hy
        obtain ⟨v, hv, r⟩ := hc j x hx
        exact ⟨v, hv, backC_rel hB r fun hd => freshBlk_at (hfb hd) hx⟩
      · rw [e1] at h
        exact ⟨hWl _ (hw h).1, (hw h).2⟩
  · have hnew : ∀ k B, (sel.length ≤ k → B.rw = true) → sel.length ≤ k → Hs[k]? = some (some B) → Wl dup sel μ H w (ν k).blk := fun k B h hl hk => by
      obtain ⟨c, e, lo, hi', _, _, hw, _⟩ := (hS.blk k B hk).out
      exact (hw (h hl)).1
    have hrwl : ∀ k B, B.rw = true → Hs[k]? = some (some B) → Wl dup sel μ H w (ν k).blk := fun k B h hk => by
      obtain ⟨c, e, lo, hi', _, _, hw, _⟩ := (hS.blk k B hk).out
      exact (hw h).1
    rcases hF.2 i D hi with ⟨hl, hi, hs⟩ | ⟨k, B, hd, hrk, hk, rfl, e1, e2, e3, _⟩ <;> rcases hF.2 j E hj with ⟨hl2, hj, hs2⟩ | ⟨k2, B2, hd2, hrk2, hk2, rfl, f1, f2, f3, _⟩
    · rw [backLoc_old hl, backLoc_old hl2]; exact hH.sep i j D E hi hj hr hne
    · rw [backLoc_old hl]
      rcases Nat.lt_or_ge k2 sel.length with hk2l | hk2l
      · have hb := backB_old (n := H.length) hk2l
        obtain ⟨B3, hB3⟩ := hsel _ _ hb
        rw [backLoc_old (hB.lt _ _ hb)]
        exact hH.sep i _ D B3 hi hB3 hr hne
      · rw [back_loc hB hd2]
        exact fun e => hout i D hi hs (e ▸ hnew k2 B2 hrk2 hk2l hk2)
    · rw [back_loc hB hd, backLoc_old hl2]
      rw [e1] at hr
      exact fun e => hout j E hj hs2 (e ▸ hrwl k B hr hk)
    · rw [back_loc hB hd, back_loc hB hd2]
      rw [e1] at hr
      exact hS.sep k k2 B B2 hk hk2 hr fun e => hne (by rw [e])
/-- A CALL BY ITS CONTRACT -/
theorem acall_ok {P : Program} {g : Nat} {s : Sum} (hs : Ok P g s.run) {args : List V} {H H' : Heap} {v : V} {o : Obl} (h : acall s args H = some (v, H', o)) (ho : holds o)
    {μ : Nat → Loc} {W : Nat → Prop} {w : World} (hW : Wide W w) (hH : HRel μ W H w) {vs : List Value} (hr : relL (relV μ H.length) args vs) :
    OkRun P g vs.toArray w fun x w' => (∃ ν, agree H.length μ ν ∧ H.length ≤ H'.length ∧ HRel ν W H' w' ∧ relV ν H'.length v x ∧ Fr W w w') ∧ (s.dup = true → Fr nowhere w w') := by
  unfold acall at h
  split at h
  · cases h
  · rename_i q hq
    split at h
    · cases h
    · rename_i v0 Hs o' hrun
      split at h
      · cases h
      · rename_i hrw
        obtain ⟨h1, h2, h3, h4, h5⟩ := select_ok hq hH hr
        -- the frame and the heap, out of either mode
        have fin : ∀ HF, FinOk s.dup q.sel H Hs HF → (s.dup = true → freshV q.sel.length v0 = true) → holds o' →
            OkRun P g vs.toArray w fun x w' => (∃ ν, agree H.length μ ν ∧ H.length ≤ HF.length ∧ HRel ν W HF w' ∧ relV ν HF.length (backV q.sel H.length v0) x ∧ Fr W w w') ∧ (s.dup = true → Fr nowhere w w') := by
          intro HF hF hfv ho'
          refine (hs q.args q.heap v0 Hs o' hrun ho' _ _ w vs (hW.sub (fun k hk => by
            rcases hk with hk | ⟨_, j, b, B, _, hb, hrb, rfl⟩
            · exact hW.new k hk
            · obtain ⟨c, e, lo, hi, _, _, hw, _⟩ := (hH.blk b B hb).out; exact (hw hrb).1) (fun k hk => .inl hk)) h1 h2).mono ?_
          rintro x w' ⟨ν, a1, a2, a3, a4, a5⟩
          rw [h3] at a1 a2
          have hB : BackOk s.dup q.sel μ ν H.length Hs.length := ⟨fun j b hj => by obtain ⟨B, _, hb, _⟩ := h5 j b hj; exact lt_of_get hb, a1, a2⟩
          refine ⟨⟨backLoc q.sel H.length μ ν, fun i hi => backLoc_old hi, by rw [hF.1]; omega, ?_, ?_, ?_⟩, fun hd => ?_⟩
          · exact HRel.back hW.new hH (fun j b hj => by obtain ⟨B, _, hb, _⟩ := h5 j b hj; exact ⟨B, hb⟩) hB a3 a5 hF
          · rw [hF.1]; exact backV_rel hB a4 hfv
          · refine a5.mono fun k hk hw => ?_
            rcases hw with hw | ⟨_, j, b, B, _, hb, hrb, rfl⟩
            · omega
            · obtain ⟨c, e, lo, hi, _, _, hw, _⟩ := (hH.blk b B hb).out; exact (hw hrb).1
          · refine a5.mono fun k hk hw => ?_
            rcases hw with hw | ⟨hd', _⟩
            · omega
            · rw [hd] at hd'; cases hd'
        split at h
        · rename_i hd
          split at h
          · rename_i hf1 hf2
            cases h
            exact fin _ (by rw [hd]; exact finOk_dup hrw hf2) (fun _ => hf1) ho
          · cases h
        · rename_i hd
          cases h
          exact fin _ (by rw [hd]; exact finOk_set hrw) (fun h => by rw [hd] at h; cases h) ho
end Go.Proofs.YteifneielgnniaaGreatDoor.Sh
namespace Go.Proofs.YteifneielgnniaaGreatDoor.Sh
open Go Ieee
/-! ## operations -/
def Yld (P : Program) (o : Oper) (a : Act) (w : World) (R : Value → World → Prop) : Prop :=
  (∃ v w', (execOp a.eval o).run P w = .ok (.value v) w' ∧ R v w') ∨ (∃ w', (execOp a.eval o).run P w = .ok .skip w' ∧ R undef w') ∨
  (∃ f args, (execOp a.eval o).run P w = .ok (.enter f args) w ∧ Calls P f args w fun e w' => ∃ v, e = .returned v ∧ R v w')
theorem Yld.wp {P : Program} {o : Oper} {a : Act} {w : World} {R : Value → World → Prop} (h : Yld P o a w R) {K : Act → World → Prop} {Q : Exit → Act → World → Prop} (k : ∀ v w', R v w' → K (a.put o.dst v) w') : o.wp P a w K Q := by
  unfold Oper.wp
  rcases h with ⟨v, w', h, r⟩ | ⟨w', h, r⟩ | ⟨f, args, h, r⟩
  · rw [h]; exact k _ _ r
  · rw [h]; exact k _ _ r
  · rw [h]
    refine r.mono fun e w'' ⟨v, he, hr⟩ => ?_
    subst he; exact k _ _ hr
theorem Yld.mono {P : Program} {o : Oper} {a : Act} {w : World} {R S : Value → World → Prop} (h : Yld P o a w R) (k : ∀ v w', R v w' → S v w') : Yld P o a w S := by
  rcases h with ⟨v, w', h, r⟩ | ⟨w', h, r⟩ | ⟨f, args, h, r⟩
  · exact .inl ⟨v, w', h, k _ _ r⟩
  · exact .inr (.inl ⟨w', h, k _ _ r⟩)
  · exact .inr (.inr ⟨f, args, h, r.mono fun e w'' ⟨v, he, hr⟩ => ⟨v, he, k _ _ hr⟩⟩)
section
variable {P : Program} {dst : Option Tmp} {ty : TypeId} {pos : String} {after : Array Edge} {gd : Option (Nat × Bool)} {a : Act} {w : World} {R : Value → World → Prop}
/-- an operation that is a reckoning -/
theorem Yld.of_value {op : Op} {s : Sem Value} (he : execOp a.eval ⟨dst, op, ty, pos, after, gd⟩ = (do pure (.value (← s)))) {v : Value} {w' : World} (hs : s.run P w = .ok v w') (r : R v w') : Yld P ⟨dst, op, ty, pos, after, gd⟩ a w R :=
  .inl ⟨v, w', by rw [he]; simp [hs], r⟩
theorem Yld.of_pure {op : Op} {v : Value} (he : execOp a.eval ⟨dst, op, ty, pos, after, gd⟩ = pure (.value v)) (r : R v w) : Yld P ⟨dst, op, ty, pos, after, gd⟩ a w R :=
  .inl ⟨v, w, by rw [he]; rfl, r⟩
end
/-! ### reckonings -/
section
variable {P : Program} {μ : Nat → Loc} {N : Nat} (w : World)
theorem run_eqGuard {op : BinOp} {t : TypeId} {x y : Operand} {u v : Value} (hu : u ≠ .nilIface ∧ ∀ cs, u ≠ .agg cs) : (eqGuard op t x y u v).run P w = .ok () w := by
  unfold eqGuard
  obtain ⟨h1, h2⟩ := hu
  split
  · simp only [Bool.not_true, Bool.false_eq_true, if_false]
    split
    · exact absurd rfl h1
    · exact absurd rfl (h2 _)
    · rfl
  · simp only [Bool.not_true, Bool.false_eq_true, if_false]
    split
    · exact absurd rfl h1
    · exact absurd rfl (h2 _)
    · rfl
  · rfl
theorem relC.guard {x : C} {v : Value} (h : relC μ N x v) : v ≠ .nilIface ∧ ∀ cs, v ≠ .agg cs := by
  refine ⟨?_, h.scalar.1⟩
  cases x with
  | f k e => obtain ⟨x, rfl, _⟩ := h; simp
  | z k e m => obtain ⟨x, y, rfl, _⟩ := h; simp
  | p b o => obtain ⟨_, rfl⟩ := h; simp
  | sl b o n => obtain ⟨_, _, _, _, _, _, rfl⟩ := h; simp
  | fn g c => obtain ⟨_, rfl⟩ := h; simp
  | _ => subst h; simp
theorem icmp_val {op : BinOp} {x y : IE} {r : BE} (h : icmp op x y = some r) : (Op.intCmp op x.val y.val).run P w = .ok (.bool r.val) w := by
  unfold icmp at h
  split at h
  · split at h
    · rename_i r' h'
      cases h
      unfold icmpL at h'
      cases op <;> simp only at h' <;> cases h' <;> rfl
    · cases h
  · cases op <;> simp only at h <;> cases h <;> rfl
theorem iar_val {op : BinOp} {k : IntKind} {x y r : IE} {p : Obl} (h : iar op k x y = some (r, p)) (hp : holds p) (T : TypeId) : (binOp op T (.int k x.val) (.int k y.val)).run P w = .ok (.int k r.val) w := by
  unfold iar at h
  split at h
  · cases h; simp [binOp, Op.intArith, IE.val]
  · cases h; simp [binOp, Op.intArith, IE.val]
  · cases h; simp [binOp, Op.intArith, IE.val]
  · cases h; simp [binOp, Op.intArith, IE.val]
  · cases h; simp [binOp, Op.intArith, IE.val]
  · cases h; simp [binOp, Op.intArith, IE.val]
  · cases h
    have := hp.one
    show (binOp .quo T (.int k x.val) (.int k y.val)).run P w = .ok (.int k (k.wrap (x.val.tdiv y.val))) w
    generalize y.val = b at *
    simp [binOp, Op.intDiv, this]
  · cases h
    have := hp.one
    show (binOp .rem T (.int k x.val) (.int k y.val)).run P w = .ok (.int k (x.val.tmod y.val)) w
    generalize y.val = b at *
    simp [binOp, Op.intDiv, this]
  · cases h; simp [binOp, Op.intBits, IE.val, iand]
  · cases h
    have h0 := hp.one
    rename_i n
    have : ¬ n < 0 := Int.not_lt.2 h0
    simp [binOp, Op.shift, IE.val, ishr, this]
  · cases h
theorem isCmp_int {op : BinOp} (h : isCmp op = true) (T : TypeId) (k : IntKind) (x y : Int) : binOp op T (.int k x) (.int k y) = Op.intCmp op x y := by
  cases op <;> simp only [isCmp, Bool.false_eq_true] at h <;> simp [binOp]
theorem run_equalIn_bool (d : Nat) {T : TypeId} (h : P.underlying T = some .bool) (x y : Bool) : (Op.equalIn (d + 1) T (.bool x) (.bool y)).run P w = .ok (x == y) w := by
  simp [Op.equalIn, run_underlying h]
theorem run_equal_bool {T : TypeId} (h : P.underlying T = some .bool) (x y : Bool) : (Op.equal T (.bool x) (.bool y)).run P w = .ok (x == y) w := run_equalIn_bool w 9999 h x y
/-! rows of complex numbers -/
def cxv (x : Nat × Nat) : Value := .complex .f32 x.1 x.2
def eqz (x y : Nat × Nat) : Bool := Op.floatEq .f32 x.1 y.1 && Op.floatEq .f32 x.2 y.2
def eqzL : List (Nat × Nat) → List (Nat × Nat) → Bool
  | x :: r, y :: q => eqz x y && eqzL r q
  | _, _ => true
theorem eqzL_range : ∀ (xs ys : List (Nat × Nat)), xs.length = ys.length → ((List.range xs.length).all fun i => eqz (xs.getD i (0, 0)) (ys.getD i (0, 0))) = eqzL xs ys
  | [], [], _ => rfl
  | x :: xs, y :: ys, h => by
    have ih := eqzL_range xs ys (by simpa using h)
    rw [List.length_cons, List.range_succ_eq_map, List.all_cons, List.all_map]
    simp only [List.getD_cons_zero, Function.comp_def, List.getD_cons_succ, ih]
    rfl
  | [], _ :: _, h => by simp at h
  | _ :: _, [], h => by simp at h
theorem run_equalIn_cxv (d : Nat) {e : TypeId} {k : FloatKind} (he : P.underlying e = some (.complex k)) (x y : Nat × Nat) : (Op.equalIn (d + 1) e (cxv x) (cxv y)).run P w = .ok (eqz x y) w := by
  unfold cxv eqz
  simp [Op.equalIn, run_underlying he]
theorem run_equalIn_cxs (d : Nat) {t e : TypeId} {n : Nat} (ht : P.underlying t = some (.array n e)) {k : FloatKind} (he : P.underlying e = some (.complex k)) (hsz : ∀ w, (sizeOf e).run P w = .ok 1 w)
    (xs ys : List (Nat × Nat)) (hx : xs.length = n) (hy : ys.length = n) :
    (Op.equalIn (d + 2) t (.agg (xs.map cxv).toArray) (.agg (ys.map cxv).toArray)).run P w = .ok (eqzL xs ys) w := by
  rw [← eqzL_range xs ys (hx.trans hy.symm), hx, List.range_eq_range', Op.equalIn]
  simp only [Sem.run_bind, run_underlying ht, Result.andThen_ok, hsz, Std.Legacy.Range.forIn_eq_forIn_range', Std.Legacy.Range.size, Nat.sub_zero, Nat.add_sub_cancel, Nat.div_one]
  have hl : ∀ i ∈ List.range' 0 n 1, i < n := fun i hi => by simpa using (List.mem_range'_1.1 hi).2
  generalize List.range' 0 n 1 = l at hl ⊢
  induction l with
  | nil => simp
  | cons i l ih =>
    have hi : i < n := hl i (by simp)
    have px : (part e (xs.map cxv).toArray (i * 1)).run P w = .ok (cxv (xs.getD i (0, 0))) w := by
      simp [part, isAgg, run_underlying he, List.getD, List.getElem?_eq_getElem (show i < xs.length by omega)]
    have py : (part e (ys.map cxv).toArray (i * 1)).run P w = .ok (cxv (ys.getD i (0, 0))) w := by
      simp [part, isAgg, run_underlying he, List.getD, List.getElem?_eq_getElem (show i < ys.length by omega)]
    have pe := run_equalIn_cxv (P := P) w d he (xs.getD i (0, 0)) (ys.getD i (0, 0))
    simp only [List.forIn_cons, Sem.run_bind, px, py, pe, Result.andThen_ok, List.all_cons]
    cases hb : eqz (xs.getD i (0, 0)) (ys.getD i (0, 0))
    · simp
    · simp only [Bool.not_true, Bool.false_eq_true, if_false, Sem.run_pure, Result.andThen_ok, Bool.true_and]
      exact ih fun j hj => hl j (by simp [hj])
theorem run_eqGuardIn_cxv (d : Nat) {e : TypeId} {k : FloatKind} (he : P.underlying e = some (.complex k)) (x y : Nat × Nat) : (Op.eqGuardIn (d + 1) e (cxv x) (cxv y)).run P w = .ok false w := by
  unfold cxv
  simp [Op.eqGuardIn, run_underlying he]
theorem run_eqGuardIn_cxs (d : Nat) {t e : TypeId} {n : Nat} (ht : P.underlying t = some (.array n e)) {k : FloatKind} (he : P.underlying e = some (.complex k)) (hsz : ∀ w, (sizeOf e).run P w = .ok 1 w)
    (xs ys : List (Nat × Nat)) (hx : xs.length = n) (hy : ys.length = n) :
    (Op.eqGuardIn (d + 2) t (.agg (xs.map cxv).toArray) (.agg (ys.map cxv).toArray)).run P w = .ok false w := by
  rw [Op.eqGuardIn]
  simp only [Sem.run_bind, run_underlying ht, Result.andThen_ok, hsz, Std.Legacy.Range.forIn_eq_forIn_range', Std.Legacy.Range.size, Nat.sub_zero, Nat.add_sub_cancel, Nat.div_one]
  have hl : ∀ i ∈ List.range' 0 n 1, i < n := fun i hi => by simpa using (List.mem_range'_1.1 hi).2
  generalize List.range' 0 n 1 = l at hl ⊢
  induction l with
  | nil => simp
  | cons i l ih =>
    have hi : i < n := hl i (by simp)
    have px : (part e (xs.map cxv).toArray (i * 1)).run P w = .ok (cxv (xs.getD i (0, 0))) w := by
      simp [part, isAgg, run_underlying he, List.getD, List.getElem?_eq_getElem (show i < xs.length by omega)]
    have py : (part e (ys.map cxv).toArray (i * 1)).run P w = .ok (cxv (ys.getD i (0, 0))) w := by
      simp [part, isAgg, run_underlying he, List.getD, List.getElem?_eq_getElem (show i < ys.length by omega)]
    have pe := run_eqGuardIn_cxv (P := P) w d he (xs.getD i (0, 0)) (ys.getD i (0, 0))
    simp only [List.forIn_cons, Sem.run_bind, px, py, pe, Result.andThen_ok, Bool.false_eq_true, if_false, Sem.run_pure]
    exact ih fun j hj => hl j (by simp [hj])
theorem run_eqGuard_cxs (op : BinOp) (X Y : Operand) {t e : TypeId} {n : Nat} (ht : P.underlying t = some (.array n e)) {k : FloatKind} (he : P.underlying e = some (.complex k)) (hsz : ∀ w, (sizeOf e).run P w = .ok 1 w)
    (xs ys : List (Nat × Nat)) (hx : xs.length = n) (hy : ys.length = n) : (eqGuard op t X Y (.agg (xs.map cxv).toArray) (.agg (ys.map cxv).toArray)).run P w = .ok () w := by
  cases hg : P.eqGuardType P.depth t with
  | false => exact run_eqGuard_agg w op t X Y _ _ hg
  | true =>
    have hh := run_eqGuardIn_cxs (P := P) w 9998 ht he hsz xs ys hx hy
    cases op <;> simp [eqGuard, run_program, hg, Op.maxDepth, hh]
theorem eqCx_rel : ∀ {cs ds : List C} {t : Unit → Bool}, eqCx cs ds = some t → ∀ {vs ws : List Value}, relL (relC μ N) cs vs → relL (relC μ N) ds ws →
    ∃ xs ys : List (Nat × Nat), vs = xs.map cxv ∧ ws = ys.map cxv ∧ xs.length = cs.length ∧ ys.length = cs.length ∧ eqzL xs ys = t ()
  | [], [], t, h, vs, ws, hv, hw => by
    cases h
    cases vs with
    | nil => cases ws with
      | nil => exact ⟨[], [], rfl, rfl, rfl, rfl, rfl⟩
      | cons _ _ => exact hw.elim
    | cons _ _ => exact hv.elim
  | c :: cs, d :: ds, t, h, vs, ws, hv, hw => by
    cases vs with
    | nil => exact hv.elim
    | cons v vs => cases ws with
      | nil => exact hw.elim
      | cons u ws =>
        unfold eqCx at h
        split at h
        · rename_i heq _; cases heq
        · rename_i a b r a' b' q h1 h2
          cases h1; cases h2
          split at h
          · rename_i t' ht'
            cases h
            obtain ⟨⟨x1, y1, rfl, hx, hy⟩, hv'⟩ := hv
            obtain ⟨⟨x2, y2, rfl, hx2, hy2⟩, hw'⟩ := hw
            obtain ⟨xs, ys, e1, e2, e3, e4, e5⟩ := eqCx_rel ht' hv' hw'
            refine ⟨(x1, y1) :: xs, (x2, y2) :: ys, by rw [e1]; rfl, by rw [e2]; rfl, by simp [e3], by simp [e4], ?_⟩
            show (eqz (x1, y1) (x2, y2) && eqzL xs ys) = _
            rw [e5]
            unfold eqz Op.floatEq
            simp only [fcmp, order_feq hx hx2, order_feq hy hy2]
          · cases h
        · cases h
  | [], _ :: _, _, h, _, _, _, _ => by simp [eqCx] at h
  | _ :: _, [], _, h, _, _, _, _ => by simp [eqCx] at h
theorem abin_ok {tt : TT} (htt : TtOk P tt) {op : BinOp} {T : TypeId} {x y v : V} {p : Obl} (h : abin tt op T x y = some (v, p)) (hp : holds p) {u u' : Value} (hu : relV μ N x u) (hu' : relV μ N y u') (X Y : Operand) :
    ∃ z n, (do eqGuard op T X Y u u'; binOp op T u u' : Sem Value).run P w = .ok z (w.drewN n) ∧ relV μ N v z := by
  unfold abin at h
  split at h
  · rename_i k e k' e'
    split at h
    · rename_i hk
      have hk := beqK_eq hk; subst hk
      rw [show u = .int k e.val from hu, show u' = .int k e'.val from hu']
      split at h
      · rename_i hc
        split at h
        · rename_i r hr
          cases h
          refine ⟨_, 0, ?_, show relV μ N (.c (.b r)) (.bool r.val) from rfl⟩
          rw [Sem.run_bind, run_eqGuard w ⟨by simp, by simp⟩, Result.andThen_ok, isCmp_int hc]
          exact icmp_val w hr
        · cases h
      · split at h
        · rename_i r o hr
          cases h
          refine ⟨_, 0, ?_, show relV μ N (.c (.i k r)) (.int k r.val) from rfl⟩
          rw [Sem.run_bind, run_eqGuard w ⟨by simp, by simp⟩, Result.andThen_ok]
          exact iar_val w hr hp T
        · cases h
    · cases h
  · rename_i k e k' e'
    split at h
    · rename_i hk
      have hk := beqF_eq hk; subst hk
      obtain ⟨x, rfl, hx⟩ := hu
      obtain ⟨y, rfl, hy⟩ := hu'
      split at h
      · rename_i hc
        cases h
        refine ⟨_, 0, ?_, show relV μ N (.c (.b (.x _))) (.bool _) from rfl⟩
        rw [Sem.run_bind, run_eqGuard w ⟨by simp, by simp⟩, Result.andThen_ok]
        exact run_fcmp w op T k x y _ _ hc hx hy
      · split at h
        · rename_i hc
          cases h
          obtain ⟨z, n, h1, h2⟩ := run_fop (P := P) w op T k x y _ _ hc hx hy
          refine ⟨_, n, ?_, show relV μ N (.c (.f k _)) (.float k z) from ⟨z, rfl, h2⟩⟩
          rw [Sem.run_bind, run_eqGuard w ⟨by simp, by simp⟩, Result.andThen_ok]
          exact h1
        · cases h
    · cases h
  · rename_i e e'
    rw [show u = .bool e.val from hu, show u' = .bool e'.val from hu']
    split at h
    · rename_i ht
      have hk := (tiOk (ttB_get htt ht)).kind
      have hund : P.underlying T = some .bool := by
        unfold kindB at hk
        cases hun : P.underlying T with
        | none => rw [hun] at hk; simp at hk
        | some d => rw [hun] at hk; cases d <;> simp at hk ⊢
      cases op <;> simp only at h <;> first | (cases h; done) | skip
      · cases h
        refine ⟨.bool (e.val == e'.val), 0, ?_, ?_⟩
        · rw [Sem.run_bind, run_eqGuard w ⟨by simp, by simp⟩, Result.andThen_ok]
          simp [binOp, run_equal_bool w hund]; rfl
        · cases e <;> cases e' <;> rfl
      · cases h
        refine ⟨.bool (e.val != e'.val), 0, ?_, ?_⟩
        · rw [Sem.run_bind, run_eqGuard w ⟨by simp, by simp⟩, Result.andThen_ok]
          simp [binOp, run_equal_bool w hund, bne]; rfl
        · cases e <;> cases e' <;> rfl
    · cases h
  · rename_i k r m k' r' m'
    split at h
    · rename_i hk
      have hk := beqF_eq hk; subst hk
      cases h
      obtain ⟨x1, y1, rfl, hx, hy⟩ := hu
      obtain ⟨x2, y2, rfl, hx2, hy2⟩ := hu'
      refine ⟨_, 0, ?_, show relV μ N (.c (.b (.x _))) (.bool _) from rfl⟩
      rw [Sem.run_bind, run_eqGuard w ⟨by simp, by simp⟩, Result.andThen_ok, run_eql_complex]
      simp only [fcmp, order_feq hx hx2, order_feq hy hy2]; rfl
    · rename_i hk
      have hk := beqF_eq hk; subst hk
      cases h
      obtain ⟨x1, y1, rfl, hx, hy⟩ := hu
      obtain ⟨x2, y2, rfl, hx2, hy2⟩ := hu'
      refine ⟨_, 0, ?_, show relV μ N (.c (.b (.x _))) (.bool _) from rfl⟩
      rw [Sem.run_bind, run_eqGuard w ⟨by simp, by simp⟩, Result.andThen_ok, run_neq_complex]
      simp only [fcmp, order_feq hx hx2, order_feq hy hy2]; rfl
    · cases h
  · rename_i xs ys
    split at h
    · rename_i t hk ht
      obtain ⟨vs, rfl, hv⟩ := hu
      obtain ⟨ws, rfl, hw⟩ := hu'
      obtain ⟨ps, qs, rfl, rfl, l1, l2, hpq⟩ := eqCx_rel ht hv hw
      unfold cxArr at hk
      split at hk
      · rename_i ti hti
        split at hk
        · rename_i m e hkd
          split at hk
          · rename_i te hte
            split at hk
            · rename_i hck
              simp only [Bool.and_eq_true] at hk
              obtain ⟨hm, hsz⟩ := hk
              have hm := beqN_eq hm
              have hsz := beqN_eq hsz
              have ht1 : P.underlying T = some (.array m e) := by
                have := (tiOk (ttB_get htt hti)).kind
                rw [hkd] at this
                unfold kindB at this
                cases hun : P.underlying T with
                | none => rw [hun] at this; simp at this
                | some d => rw [hun] at this; cases d <;> simp at this ⊢; exact this
              obtain ⟨kk, he1⟩ : ∃ kk, P.underlying e = some (.complex kk) := by
                have := (tiOk (ttB_get htt hte)).kind
                rw [hck] at this
                unfold kindB at this
                cases hun : P.underlying e with
                | none => rw [hun] at this; simp at this
                | some d => rw [hun] at this; cases d <;> simp at this ⊢
              have hs2 : ∀ w, (sizeOf e).run P w = .ok 1 w := fun w => by
                have := (tiOk (ttB_get htt hte)).sizeOf w
                rw [hsz] at this; exact this
              have h1 := run_equalIn_cxs (P := P) w 9998 ht1 he1 hs2 ps qs (by omega) (by omega)
              have h2 := run_eqGuard_cxs (P := P) w op X Y ht1 he1 hs2 ps qs (by omega) (by omega)
              cases op <;> simp only at h <;> first | (cases h; done) | skip
              · cases h
                refine ⟨_, 0, ?_, show relV μ N (.c (.b (.x _))) (.bool _) from rfl⟩
                rw [Sem.run_bind, h2, Result.andThen_ok, run_eql_struct, h1, hpq]; rfl
              · cases h
                refine ⟨_, 0, ?_, show relV μ N (.c (.b (.x _))) (.bool _) from rfl⟩
                rw [Sem.run_bind, h2, Result.andThen_ok, run_neq_struct, h1, hpq]; rfl
            · cases hk
          · cases hk
        · cases hk
      · cases hk
    · cases h
  · rename_i e e'
    rw [show u = .string (e ()) from hu, show u' = .string (e' ()) from hu']
    split at h
    · cases h
      have ho := hp.one
      refine ⟨_, 0, ?_, show relV μ N (.c (.s _)) (.string _) from rfl⟩
      rw [Sem.run_bind, run_eqGuard w ⟨by simp, by simp⟩, Result.andThen_ok]
      show (Op.stringOp .add (e ()) (e' ())).run P w = _
      unfold Op.stringOp
      dsimp only
      rw [if_neg (by
        have : IntKind.i64.max = 9223372036854775807 := by decide
        rw [this]; omega)]
      rfl
    · cases h
      refine ⟨_, 0, ?_, show relV μ N (.c (.b (.x _))) (.bool _) from rfl⟩
      rw [Sem.run_bind, run_eqGuard w ⟨by simp, by simp⟩, Result.andThen_ok]
      rfl
    · cases h
      refine ⟨_, 0, ?_, show relV μ N (.c (.b (.x _))) (.bool _) from rfl⟩
      rw [Sem.run_bind, run_eqGuard w ⟨by simp, by simp⟩, Result.andThen_ok]
      rfl
    · cases h
  · cases h
end
end Go.Proofs.YteifneielgnniaaGreatDoor.Sh
namespace Go.Proofs.YteifneielgnniaaGreatDoor.Sh
open Go Ieee
section kinds
variable {P : Program} {tt : TT} (htt : TtOk P tt)
theorem kind_st {o : Option TypeDesc} {fs : List (Nat × Nat)} (h : kindB o (.st fs) = true) : ∃ gs, o = some (.struct gs) ∧ gs.toList.map (fun f => (f.offset, f.type)) = fs := by
  unfold kindB at h
  split at h <;> simp_all
theorem kind_ar {o : Option TypeDesc} {n e : Nat} (h : kindB o (.ar n e) = true) : o = some (.array n e) := by
  unfold kindB at h
  split at h <;> simp_all
theorem kind_sl {o : Option TypeDesc} {e : Nat} (h : kindB o (.sl e) = true) : o = some (.slice e) := by
  unfold kindB at h
  split at h <;> simp_all
theorem kind_str {o : Option TypeDesc} (h : kindB o .str = true) : o = some .string := by
  unfold kindB at h
  split at h <;> simp_all
theorem kind_some {o : Option TypeDesc} {k : TK} (h : kindB o k = true) : o.isSome = true := by
  cases o with
  | none => simp [kindB] at h
  | some d => rfl
include htt
theorem tt_ok {t : Nat} {ti : TI} (h : ttGet tt t = some ti) : TIOk P t ti := tiOk (ttB_get htt h)
theorem und_st {t : Nat} {ti : TI} {fs : List (Nat × Nat)} (h : ttGet tt t = some ti) (hk : ti.kind = .st fs) : ∃ gs, P.underlying t = some (.struct gs) ∧ gs.toList.map (fun f => (f.offset, f.type)) = fs :=
  kind_st (hk ▸ (tt_ok htt h).kind)
theorem und_ar {t : Nat} {ti : TI} {n e : Nat} (h : ttGet tt t = some ti) (hk : ti.kind = .ar n e) : P.underlying t = some (.array n e) := kind_ar (hk ▸ (tt_ok htt h).kind)
theorem und_sl {t : Nat} {ti : TI} {e : Nat} (h : ttGet tt t = some ti) (hk : ti.kind = .sl e) : P.underlying t = some (.slice e) := kind_sl (hk ▸ (tt_ok htt h).kind)
theorem und_str {t : Nat} {ti : TI} (h : ttGet tt t = some ti) (hk : ti.kind = .str) : P.underlying t = some .string := kind_str (hk ▸ (tt_ok htt h).kind)
theorem und_some {t : Nat} {ti : TI} (h : ttGet tt t = some ti) : (P.underlying t).isSome = true := kind_some (tt_ok htt h).kind
theorem size_of {t : Nat} {ti : TI} (h : ttGet tt t = some ti) (w : World) : (sizeOf t).run P w = .ok ti.size w := (tt_ok htt h).sizeOf w
theorem fld {t : Nat} {ti : TI} {fs : List (Nat × Nat)} (h : ttGet tt t = some ti) (hk : ti.kind = .st fs) {f off ft : Nat} (hf : fs[f]? = some (off, ft)) :
    ∃ gs fd, P.underlying t = some (.struct gs) ∧ gs[f]? = some fd ∧ fd.offset = off ∧ fd.type = ft := by
  obtain ⟨gs, hu, hm⟩ := und_st htt h hk
  rw [← hm, List.getElem?_map, Option.map_eq_some_iff] at hf
  obtain ⟨fd, hfd, e⟩ := hf
  simp only [Prod.mk.injEq] at e
  exact ⟨gs, fd, hu, by simpa using hfd, e.1, e.2⟩
end kinds
/-! ### conversions -/
theorem not_inf (k : FloatKind) (neg : Bool) (r : Nat) (h : r < k.format.infRung) : (k.format.read (k.format.word neg r)).isInfinity = false := by
  have hs : k.format.infRung < k.format.signWeight := k.format.infRung_lt
  have : k.format.word neg r % k.format.signWeight = r := by
    unfold Format.word
    cases neg
    · simp only [Bool.false_eq_true, if_false]; exact Nat.mod_eq_of_lt (by omega)
    · simp only [if_true]; rw [Nat.add_mod_left]; exact Nat.mod_eq_of_lt (by omega)
  unfold Format.read
  dsimp only
  rw [this]
  split
  · rfl
  · rfl
theorem run_conv_ff {P : Program} (w : World) {src dst : TypeId} {s k : FloatKind} {x x' : Nat} (hs : (P.underlying src).isSome = true) (hd : P.underlying dst = some (.float k)) (hne : s ≠ k) (hx : feq s x x')
    (hok : (s.format.read x').isNaN = false → (floatToFloatBits s x' k).isSome = true) :
    ∃ z n, (convert src dst (.float s x)).run P w = .ok (.float k z) (w.drewN n) ∧ feq k z ((floatToFloatBits s x' k).getD (qn k)) := by
  have nanc : (s.format.read x).isNaN = true → (s.format.read x').isNaN = true → ∃ z n, (convert src dst (.float s x)).run P w = .ok (.float k z) (w.drewN n) ∧ feq k z ((floatToFloatBits s x' k).getD (qn k)) := by
    intro h1 h2
    obtain ⟨a, b, h1⟩ := isNaN_iff h1
    obtain ⟨a', b', h2⟩ := isNaN_iff h2
    refine ⟨nanOf k (w.tape w.drawn (.nanConv k x)), 1, ?_, .inr ⟨nan_nanOf _ _, ?_⟩⟩
    · obtain ⟨u, hs'⟩ := Option.isSome_iff_exists.1 hs
      have hc : (Conv.floatToFloat s x k).run P w = .ok (.float k (nanOf k (w.tape w.drawn (.nanConv k x)))) (w.drewN 1) := by
        unfold Conv.floatToFloat
        rw [if_neg hne]
        simp only [FloatKind.decode, h1]
        cases k <;> simp [choose, Sem.run, Question.forced, Question.cut, nanOf] <;> rfl
      cases u <;> simp [convert, run_underlying hs', run_underlying hd, hc]
    · have : floatToFloatBits s x' k = none := by
        unfold floatToFloatBits
        rw [if_neg hne]
        simp only [FloatKind.decode, h2]
      rw [this]; exact nan_qn k
  rcases hx with rfl | ⟨h1, h2⟩
  · cases hn : (s.format.read x).isNaN with
    | true => exact nanc hn hn
    | false =>
      obtain ⟨r, hr⟩ := Option.isSome_iff_exists.1 (hok hn)
      exact ⟨r, 0, run_convert_float_float w src dst s k x r hs hd hr, by rw [hr]; exact .inl rfl⟩
  · exact nanc h1 h2
theorem cut_zero (neg : Bool) (n : Nat) : Toward.even.cut neg n 0 = n := by
  unfold Toward.cut
  simp
  have : n % 1 = 0 := Nat.mod_one n
  omega
/-- every float32 is a float64 -/
theorem wide_some (x : Nat) (h : (single.read x).isNaN = false) : (floatToFloatBits .f32 x .f64).isSome = true := by
  unfold floatToFloatBits
  rw [if_neg (by decide)]
  have hmp : ∀ s m e, single.read x = .number s m e → m < 2 ^ 24 ∧ -149 ≤ e ∧ e ≤ 104 := by
    intro s m e he
    unfold Format.read at he
    dsimp only at he
    have hw : x % single.signWeight < 2147483648 := Nat.mod_lt _ (by decide)
    generalize x % single.signWeight = r at *
    have hb : single.binade = 8388608 := by decide
    have hi : single.infRung = 2139095040 := by decide
    have hl : single.leastPlace = -149 := by decide
    rw [hb, hi, hl] at he
    split at he
    · cases he; omega
    · split at he
      · cases he; omega
      · split at he <;> cases he
  show (match FloatKind.f32.decode x with | .nan _ _ => _ | .infinity s => _ | .number s m e => _ : Option Nat).isSome = true
  have hd : FloatKind.f32.decode x = single.read x := rfl
  rw [hd]
  cases he : single.read x with
  | nan s t => rw [he] at h; simp [Datum.isNaN] at h
  | infinity s => rfl
  | number s m e =>
    obtain ⟨h1, h2, h3⟩ := hmp s m e he
    have hinf : (FloatKind.f64.decode (FloatKind.f64.encode (.number s m e))).isInfinity = false := by
      show (double.read (double.nearest s m e)).isInfinity = false
      unfold Format.nearest
      split
      · exact not_inf .f64 s 0 (by decide)
      · rename_i hm
        have hlog : m.log2 ≤ 23 := by
          have := (Nat.log2_lt hm (k := 24)).2 (by simpa using h1)
          omega
        have hfb : (double.fractionBits : Int) = 52 := rfl
        have hlp : double.leastPlace = -1074 := by decide
        dsimp only
        rw [hfb, hlp]
        have hle : max (e + (m.log2 : Int) - 52) (-1074) ≤ e := by omega
        have hz : (max (e + (m.log2 : Int) - 52) (-1074) - e).toNat = 0 := by omega
        rw [hz, cut_zero]
        have hsh : (e - max (e + (m.log2 : Int) - 52) (-1074)).toNat ≤ 52 - m.log2 := by omega
        have hk : m <<< (e - max (e + (m.log2 : Int) - 52) (-1074)).toNat < 2 ^ 53 := by
          rw [Nat.shiftLeft_eq]
          have hm2 : m < 2 ^ (m.log2 + 1) := Nat.lt_log2_self
          calc m * 2 ^ (e - max (e + (m.log2 : Int) - 52) (-1074)).toNat ≤ m * 2 ^ (52 - m.log2) := Nat.mul_le_mul_left _ (Nat.pow_le_pow_right (by decide) hsh)
            _ < 2 ^ (m.log2 + 1) * 2 ^ (52 - m.log2) := Nat.mul_lt_mul_of_pos_right hm2 (Nat.two_pow_pos _)
            _ = 2 ^ 53 := by rw [← Nat.pow_add]; congr 1; omega
        have hbin : double.binade = 2 ^ 52 := by decide
        have hir : double.infRung = 9218868437227405312 := by decide
        have hr : (max (e + (m.log2 : Int) - 52) (-1074) - -1074).toNat ≤ 1149 := by omega
        have hb : (max (e + (m.log2 : Int) - 52) (-1074) - -1074).toNat * double.binade + m <<< (e - max (e + (m.log2 : Int) - 52) (-1074)).toNat < double.infRung := by
          have : (max (e + (m.log2 : Int) - 52) (-1074) - -1074).toNat * double.binade ≤ 1149 * 2 ^ 52 := by rw [hbin]; exact Nat.mul_le_mul_right _ hr
          rw [hir]; omega
        rw [Nat.min_eq_left (Nat.le_of_lt hb)]
        exact not_inf .f64 s _ hb
    simp only [hinf]; rfl
theorem drewN_add (w : World) (a b : Nat) : (w.drewN a).drewN b = w.drewN (a + b) := by
  simp [World.drewN, Nat.add_assoc]
theorem run_ff {P : Program} (w : World) {x x' : Nat} (hx : feq .f32 x x') :
    ∃ z n, (Conv.floatToFloat .f32 x .f64).run P w = .ok (.float .f64 z) (w.drewN n) ∧ feq .f64 z ((floatToFloatBits .f32 x' .f64).getD (qn .f64)) := by
  have nanc : (FloatKind.f32.format.read x).isNaN = true → (FloatKind.f32.format.read x').isNaN = true → ∃ z n, (Conv.floatToFloat .f32 x .f64).run P w = .ok (.float .f64 z) (w.drewN n) ∧ feq .f64 z ((floatToFloatBits .f32 x' .f64).getD (qn .f64)) := by
    intro h1 h2
    obtain ⟨a, b, h1⟩ := isNaN_iff h1
    obtain ⟨a', b', h2⟩ := isNaN_iff h2
    refine ⟨nanOf .f64 (w.tape w.drawn (.nanConv .f64 x)), 1, ?_, .inr ⟨nan_nanOf _ _, ?_⟩⟩
    · unfold Conv.floatToFloat
      rw [if_neg (by decide)]
      simp only [FloatKind.decode, h1]
      simp [choose, Sem.run, Question.forced, Question.cut, nanOf]; rfl
    · have : floatToFloatBits .f32 x' .f64 = none := by
        unfold floatToFloatBits
        rw [if_neg (by decide)]
        simp only [FloatKind.decode, h2]
      rw [this]; exact nan_qn _
  rcases hx with rfl | ⟨h1, h2⟩
  · cases hn : (FloatKind.f32.format.read x).isNaN with
    | true => exact nanc hn hn
    | false =>
      obtain ⟨r, hr⟩ := Option.isSome_iff_exists.1 (wide_some x hn)
      exact ⟨r, 0, run_floatToFloat w hr, by rw [hr]; exact .inl rfl⟩
  · exact nanc h1 h2
theorem aconv_ok {P : Program} {tt : TT} (htt : TtOk P tt) {src dst : Nat} {x v : V} {p : Obl} (h : aconv tt src dst x = some (v, p)) (hp : holds p) {μ : Nat → Loc} {N : Nat} {u : Value} (hu : relV μ N x u) (w : World) :
    ∃ z n, (convert src dst u).run P w = .ok z (w.drewN n) ∧ relV μ N v z := by
  unfold aconv at h
  split at h
  · rename_i si ti hs ht
    have hsS := und_some htt hs
    have hdst := (tt_ok htt ht).dst
    split at h
    · rename_i k hk
      rw [hk] at hdst
      have hd : P.underlying dst = some (.int k) := by
        unfold dstB at hdst
        split at hdst <;> simp_all
        exact beqK_eq hdst
      have key : ∀ n : Int, (convert src dst (.int .i64 n)).run P w = .ok (.int k (k.wrap n)) w := fun n => by
        obtain ⟨d, hd'⟩ := Option.isSome_iff_exists.1 hsS
        cases d <;> simp [convert, run_underlying hd', run_underlying hd, Conv.intToInt]
      have key2 : ∀ (q : IntKind) (n : Int), (convert src dst (.int q n)).run P w = .ok (.int k (k.wrap n)) w := fun q n => by
        obtain ⟨d, hd'⟩ := Option.isSome_iff_exists.1 hsS
        cases d <;> simp [convert, run_underlying hd', run_underlying hd, Conv.intToInt]
      split at h
      · rename_i v' hv
        cases h
        unfold toI at hv
        split at hv <;> cases hv
        · rw [show u = .int _ _ from hu]; exact ⟨_, 0, key2 _ _, rfl⟩
        · rw [show u = .int _ _ from hu]; exact ⟨_, 0, key2 _ _, rfl⟩
      · cases h
    · rename_i k hk
      rw [hk] at hdst
      have hd : P.underlying dst = some (.float k) := by
        unfold dstB at hdst
        split at hdst <;> simp_all
        exact beqF_eq hdst
      unfold toF at h
      split at h
      · rename_i s e
        obtain ⟨y, rfl, hy⟩ := hu
        split at h
        · cases h
          exact ⟨_, 0, run_convert_float_float w src dst .f32 .f32 y y hsS hd (by simp [floatToFloatBits]), ⟨y, rfl, hy⟩⟩
        · cases h
          exact ⟨_, 0, run_convert_float_float w src dst .f64 .f64 y y hsS hd (by simp [floatToFloatBits]), ⟨y, rfl, hy⟩⟩
        · cases h
          obtain ⟨z, n, h1, h2⟩ := run_conv_ff w hsS hd (by decide) hy (fun hn => wide_some _ hn)
          exact ⟨_, n, h1, ⟨z, rfl, h2⟩⟩
        · cases h
          obtain ⟨z, n, h1, h2⟩ := run_conv_ff w hsS hd (by decide) hy hp.one
          exact ⟨_, n, h1, ⟨z, rfl, h2⟩⟩
      · rename_i q e
        cases h
        rw [show u = .int q e.val from hu]
        exact ⟨_, 0, run_convert_int_float w src dst q k e.val hsS hd, ⟨_, rfl, .inl rfl⟩⟩
      · cases h
    · split at h
      · rename_i hk
        have hd : P.underlying dst = some (.complex .f64) := by
          have h0 := (tt_ok htt ht).kind
          rw [hk] at h0
          unfold kindB at h0
          split at h0 <;> simp_all
        unfold toZ2 at h
        split at h
        · rename_i r m
          cases h
          obtain ⟨a, b, rfl, ha, hb⟩ := hu
          obtain ⟨d, hd'⟩ := Option.isSome_iff_exists.1 hsS
          obtain ⟨z1, n1, e1, r1⟩ := run_ff (P := P) w ha
          obtain ⟨z2, n2, e2, r2⟩ := run_ff (P := P) (w.drewN n1) hb
          refine ⟨.complex .f64 z1 z2, n1 + n2, ?_, ⟨_, _, rfl, r1, r2⟩⟩
          rw [← drewN_add]
          cases d <;> simp [convert, run_underlying hd', run_underlying hd, Conv.complexToComplex, e1, e2]
        · cases h
      · cases h
  · cases h
end Go.Proofs.YteifneielgnniaaGreatDoor.Sh
