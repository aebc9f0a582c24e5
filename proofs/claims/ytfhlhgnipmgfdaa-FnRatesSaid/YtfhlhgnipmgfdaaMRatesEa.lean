/-
  The engine: abstract values, heaps of pieces, what the operations do; only what this claim leans on. Nothing here is trusted.
-/
import Derived.Below
import Derived.Calls
import Derived.Carry
import Derived.ChangeOld
import Derived.Deep.Draws
import Derived.IntWalk
import Derived.Laws.BytesArg
import Derived.Laws.BytesString
import Derived.Laws.Entries
import Derived.Laws.FloatArith
import Derived.Laws.Sem
import Derived.Laws.World
import Derived.Lib.AtoiErrMem
import Derived.Lib.Bytealg
import Derived.Lib.ItoaNum
import Derived.Lib.Join
import Derived.Lib.LaidTab
import Derived.Lib.ParseIntB
import Derived.Lib.Repeat
import Derived.Lib.SlTrimSet
import Derived.Lib.TrailingZeros
import Derived.Maps.OwnSet
import Derived.Maps.Views
import Derived.Orders
import Derived.Sort.Grow
import Derived.WideShapes
import GoSem.ClaimChange
namespace Go.Ab

/-- What is known of a value of an interface. -/
inductive IfV where
  | nil
  | num (t : TypeId) (k : IntKind) (n : Int)
  | other
  deriving Inhabited
def IfV.isNil : IfV → Bool
  | .nil => true
  | _ => false

inductive AV where
  | bad
  | und
  | bool (b : Bool)
  | int (k : IntKind) (n : Int)
  | flt (k : FloatKind) (b : Nat)
  | str (s : ByteArray)
  | nilptr
  | ptr (id off : Nat)
  | nilsl
  | sl (id off len esz : Nat)
  | fn (f : FuncId) (caps : List (Nat × Nat))
  | ifc (e : IfV)
  | mref (id : Nat)
  deriving Inhabited

inductive TV0 where
  | v (x : AV)
  | g (cs : List AV)
  deriving Inhabited

inductive TV where
  | v (x : AV)
  | g (cs : List AV)
  | t (vs : List TV0)
  deriving Inhabited

def TV0.up : TV0 → TV
  | .v x => .v x
  | .g cs => .g cs

def TV.down : TV → Option TV0
  | .v x => some (.v x)
  | .g cs => some (.g cs)
  | .t _ => none

def TV.cells : TV → Option (List AV)
  | .v x => some [x]
  | .g cs => some cs
  | .t _ => none

/-- May it be stored? -/
def AV.stor : AV → Bool
  | .bad => false
  | .und => false
  | _ => true

/-- A row of memory: one that came in (never written), one of the run's own, one that is given up; a whole block of which all is known; a number that is kept for a row to come. -/
inductive Blk where
  | ro (cs : List AV)
  | own (cs : List AV)
  | gone
  | tab (b : Nat) (o : Obj)
  | hole
  | mp (kk ek : IntKind) (m : List (Int × Int))
  deriving Inhabited

structure Heap where
  n : Nat
  f : Nat → Blk
  deriving Inhabited

def upd {α : Type} (f : Nat → α) (i : Nat) (x : α) : Nat → α := fun j => if j = i then x else f j

def Heap.alloc (H : Heap) (b : Blk) : Heap := ⟨H.n + 1, upd H.f H.n b⟩
def Heap.put (H : Heap) (i : Nat) (b : Blk) : Heap := ⟨H.n, upd H.f i b⟩

def Blk.cs : Blk → List AV
  | .ro cs => cs
  | .own cs => cs
  | .gone => []
  | .tab _ _ => []
  | .hole => []
  | .mp _ _ _ => []

def Blk.isRow : Blk → Bool
  | .own _ => true
  | _ => false
/-- What a map from integers to integers holds: its updates, the last one first. -/
def mpGet : List (Int × Int) → Int → Int
  | [], _ => 0
  | (k, v) :: r, a => if a = k then v else mpGet r a

def Blk.isOwn : Blk → Bool
  | .own _ => true
  | .mp _ _ _ => true
  | _ => false

/-- The one not-a-number of a kind. -/
def qnan : FloatKind → Nat
  | .f32 => 0x7fc00000
  | .f64 => 0x7ff8000000000000

def cz (k : FloatKind) (b : Nat) : Nat := if (k.decode b).isNaN then qnan k else b

def ofCell : Value → AV
  | .bool b => .bool b
  | .int k n => .int k n
  | .float k b => .flt k (cz k b)
  | .string s => .str s
  | .pointer none => .nilptr
  | .slice none 0 0 => .nilsl
  | .nilIface => .ifc .nil
  | .func (.func f) a b => if a.size = 0 ∧ b.size = 0 then .fn f [] else .bad
  | _ => .bad

def ofConst : Value → TV
  | .agg cs => .g (cs.toList.map ofCell)
  | .tuple _ => .v .bad
  | v => .v (ofCell v)

def aeval (s : Nat → TV) : Operand → TV
  | .tmp t => s t
  | .const v => ofConst v
  | .global _ => .v .bad
  | .func f => .v (.fn f [])

/-- What the run asks of the types. -/
def tagg (P : Program) (t : TypeId) : Option Bool :=
  match P.underlying t with
  | some (.struct _) => some true
  | some (.array _ _) => some true
  | some _ => some false
  | none => none

def tsz (P : Program) (t : TypeId) : Option Nat := (P.info? t).map (·.size)
def tbytes (P : Program) (t : TypeId) : Option Nat := (P.info? t).map (·.bytes)
def tzero (P : Program) (t : TypeId) : Option (List AV) := ((P.info? t).bind (·.zero)).map fun z => z.cells.toList.map ofCell
def telem (P : Program) (t : TypeId) : Option TypeId :=
  match P.underlying t with
  | some (.slice e) => some e
  | _ => none
def tfields (P : Program) (t : TypeId) : Option (List Field) :=
  match P.underlying t with
  | some (.struct fs) => some fs.toList
  | _ => none
def tarr (P : Program) (t : TypeId) : Option (Nat × TypeId) :=
  match P.underlying t with
  | some (.array n e) => some (n, e)
  | _ => none
def tint (P : Program) (t : TypeId) : Option IntKind :=
  match P.underlying t with
  | some (.int k) => some k
  | _ => none
def tflt (P : Program) (t : TypeId) : Option FloatKind :=
  match P.underlying t with
  | some (.float k) => some k
  | _ => none
def tbool (P : Program) (t : TypeId) : Bool :=
  match P.underlying t with
  | some .bool => true
  | _ => false
def tstr (P : Program) (t : TypeId) : Bool :=
  match P.underlying t with
  | some .string => true
  | _ => false

/-! ### operations on values -/
def fop (op : BinOp) (k : FloatKind) (x y : Nat) : Nat := ((floatBits op k x y).map (cz k)).getD (qnan k)

def fcmp (op : BinOp) (k : FloatKind) (x y : Nat) : Bool :=
  let c := k.format.order x y
  match op with
  | .eql => c == some .eq
  | .neq => c != some .eq
  | .lss => c == some .lt
  | .leq => c == some .lt || c == some .eq
  | .gtr => c == some .gt
  | .geq => c == some .gt || c == some .eq
  | _ => false

def ibits (op : BinOp) (k : IntKind) (x y : Int) : Int :=
  let a := BitVec.ofInt k.bits x
  let b := BitVec.ofInt k.bits y
  match op with
  | .and => k.wrap (a &&& b).toNat
  | .or => k.wrap (a ||| b).toNat
  | .xor => k.wrap (a ^^^ b).toNat
  | .andNot => k.wrap (a &&& ~~~b).toNat
  | _ => 0

def iop (op : BinOp) (k : IntKind) (x y : Int) : Option AV :=
  match op with
  | .add => some (.int k (k.wrap (x + y)))
  | .sub => some (.int k (k.wrap (x - y)))
  | .mul => some (.int k (k.wrap (x * y)))
  | .quo => if y = 0 then none else some (.int k (k.wrap (x.tdiv y)))
  | .rem => if y = 0 then none else some (.int k (x.tmod y))
  | .and => some (.int k (ibits .and k x y))
  | .or => some (.int k (ibits .or k x y))
  | .xor => some (.int k (ibits .xor k x y))
  | .andNot => some (.int k (ibits .andNot k x y))
  | .eql => some (.bool (x == y))
  | .neq => some (.bool (x != y))
  | .lss => some (.bool (x < y))
  | .leq => some (.bool (x ≤ y))
  | .gtr => some (.bool (x > y))
  | .geq => some (.bool (x ≥ y))
  | _ => none

def ishift (op : BinOp) (k : IntKind) (x y : Int) : Option AV :=
  if y < 0 then none else
  match op with
  | .shl => some (.int k (k.wrap (x * 2 ^ (min y.toNat k.bits))))
  | .shr => some (.int k (x.fdiv (2 ^ (min y.toNat k.bits))))
  | _ => none

def sop (op : BinOp) (x y : ByteArray) : Option AV :=
  match op with
  | .add => if x.size + y.size ≤ 9223372036854775807 then some (.str (x ++ y)) else none
  | .eql => some (.bool (x.toList == y.toList))
  | .neq => some (.bool (!(x.toList == y.toList)))
  | .lss => some (.bool (Op.bytesLess x.toList y.toList))
  | .leq => some (.bool (Op.bytesLess x.toList y.toList || x.toList == y.toList))
  | .gtr => some (.bool (!(Op.bytesLess x.toList y.toList || x.toList == y.toList)))
  | .geq => some (.bool (!(Op.bytesLess x.toList y.toList)))
  | _ => none

def abin (P : Program) (op : BinOp) (t : TypeId) (x y : AV) : Option AV :=
  match x, y with
  | .int k a, .int k' b =>
    match op with
    | .shl => ishift .shl k a b
    | .shr => ishift .shr k a b
    | _ => if k = k' then iop op k a b else none
  | .flt k a, .flt k' b =>
    if k = k' then
      match op with
      | .add => some (.flt k (fop .add k a b))
      | .sub => some (.flt k (fop .sub k a b))
      | .mul => some (.flt k (fop .mul k a b))
      | .quo => some (.flt k (fop .quo k a b))
      | .eql => some (.bool (fcmp .eql k a b))
      | .neq => some (.bool (fcmp .neq k a b))
      | .lss => some (.bool (fcmp .lss k a b))
      | .leq => some (.bool (fcmp .leq k a b))
      | .gtr => some (.bool (fcmp .gtr k a b))
      | .geq => some (.bool (fcmp .geq k a b))
      | _ => none
    else none
  | .str a, .str b => sop op a b
  | .bool a, .bool b =>
    if tbool P t then
    match op with
    | .eql => some (.bool (a == b))
    | .neq => some (.bool (!(a == b)))
    | _ => none
    else none
  | _, _ => none

def tmapi (P : Program) (t : TypeId) : Option (IntKind × IntKind) :=
  match P.underlying t with
  | some (.map k e) => (tint P k).bind fun kk => (tint P e).bind fun ek => match (P.info? e).bind (·.zero) with
    | some (.int q z) => if q = ek ∧ z = 0 then some (kk, ek) else none
    | _ => none
  | _ => none
def tif (P : Program) (t : TypeId) : Bool :=
  match P.underlying t with
  | some (.interface _) => true
  | _ => false
/-- A value of an interface, compared with the literal nil. -/
def aifc (P : Program) (op : BinOp) (t : TypeId) (y : Operand) (a b : AV) : Option AV :=
  match y, a, b with
  | .const _, .ifc p, .ifc .nil => if tif P t = true then (match op with | .eql => some (.bool p.isNil) | .neq => some (.bool (!p.isNil)) | _ => none) else none
  | _, _, _ => none

def aun (op : UnOp) (x : AV) : Option AV :=
  match op, x with
  | .neg, .int k n => some (.int k (k.wrap (0 - n)))
  | .xor, .int k n => some (.int k (ibits .xor k (if k.signed then -1 else k.max) n))
  | .neg, .flt k b => some (.flt k (cz k (Op.negFloat k b)))
  | .not, .bool b => some (.bool (!b))
  | _, _ => none

/-- A finite float of one kind as the other; 'none' where the language leaves the value open. -/
def fconv (s : FloatKind) (b : Nat) (k : FloatKind) : Option Nat :=
  if s = k then some b else
  match s.decode b with
  | .nan _ _ => some (qnan k)
  | .infinity g => some (cz k (k.encode (.infinity g)))
  | .number g m e => if (k.decode (k.encode (.number g m e))).isInfinity then none else some (cz k (k.encode (.number g m e)))

def aconv (P : Program) (dst : TypeId) (x : AV) : Option AV :=
  match x with
  | .int _ n =>
    match tint P dst with
    | some k => some (.int k (k.wrap n))
    | none => match tflt P dst with
      | some k => some (.flt k (cz k (floatOfInt k n)))
      | none => none
  | .flt s b =>
    match tint P dst with
    | some k => (floatToIntVal s b k).map (.int k ·)
    | none => match tflt P dst with
      | some k => (fconv s b k).map (.flt k ·)
      | none => none
  | _ => none

/-! ### memory -/
def rdCells (H : Heap) (id off n : Nat) : Option (List AV) :=
  if off + n ≤ (H.f id).cs.length then some (((H.f id).cs.drop off).take n) else none

def rdCell (H : Heap) (id off : Nat) : Option AV := (H.f id).cs[off]?

def splice (cs new : List AV) (off : Nat) : List AV := cs.take off ++ new ++ cs.drop (off + new.length)

def wrCells (H : Heap) (id off : Nat) (new : List AV) : Option Heap :=
  match H.f id with
  | .own cs => if off + new.length ≤ cs.length ∧ new.all AV.stor = true then some (H.put id (.own (splice cs new off))) else none
  | _ => none

def fillParts (place : Nat → Option (Nat × Nat)) (cells : List AV) : List (Nat × List AV) → Option (List AV)
  | [] => some cells
  | (i, v) :: rest =>
    match place i with
    | some (off, size) => if v.length = size ∧ off + v.length ≤ cells.length then fillParts place (splice cells v off) rest else none
    | none => none

def partsOf (ev : Operand → TV) : List (Nat × Operand) → Option (List (Nat × List AV))
  | [] => some []
  | (i, x) :: r =>
    match (ev x).cells, partsOf ev r with
    | some c, some rs => some ((i, c) :: rs)
    | _, _ => none

def structPlaces (P : Program) (fs : List Field) (i : Nat) : Option (Nat × Nat) :=
  match fs[i]? with
  | some f => (tsz P f.type).map fun n => (f.offset, n)
  | none => none

def zerosOf (z : List AV) : Nat → List AV
  | 0 => []
  | n + 1 => z ++ zerosOf z n

/-- What lies in the row of a slice or a string, as new cells. -/
def cellsOfArg (H : Heap) (esz : Nat) : AV → Option (Nat × List AV)
  | .nilsl => some (0, [])
  | .sl id off len esz' => if esz' = esz then (rdCells H id off (len * esz)).map fun c => (len, c) else none
  | .str s => if esz = 1 then some (s.size, s.data.toList.map fun b => .int .u8 b.toNat) else none
  | _ => none

def aappend (H : Heap) (esz bytes : Nat) (s x : AV) : Option (TV × Heap) :=
  if bytes = 0 then none else
  match cellsOfArg H esz x with
  | none => none
  | some (n, new) =>
    match s with
    | .nilsl =>
      if n = 0 then some (.v .nilsl, H)
      else if n * bytes ≤ 2 ^ 40 then some (.v (.sl H.n 0 n esz), H.alloc (.own new))
      else none
    | .sl id off len esz' =>
      match H.f id with
      | .own cs =>
        if esz' = esz ∧ off + len * esz = cs.length ∧ (len + n) * bytes ≤ 2 ^ 40 then
          some (.v (.sl H.n 0 (len + n) esz), (H.put id .gone).alloc (.own (cs.drop off ++ new)))
        else none
      | _ => none
    | _ => none

def strOfCells : List AV → Option (List UInt8)
  | [] => some []
  | .int .u8 n :: r => (strOfCells r).map fun t => UInt8.ofNat n.toNat :: t
  | _ => none

def optAV : Option TV → Option (Option Int)
  | none => some none
  | some (.v (.int _ n)) => some (some n)
  | _ => none

/-- The bounds of a slice: low, high. -/
def slBounds (len : Nat) (lo hi : Option Int) : Option (Nat × Nat) :=
  let l := lo.getD 0
  let h := hi.getD len
  if 0 ≤ l ∧ l ≤ h ∧ h ≤ len then some (l.toNat, h.toNat) else none

def minMax2 (mx : Bool) (x y : AV) : Option AV :=
  match x, y with
  | .int k a, .int k' b => if k = k' then some (.int k (if mx then (if b > a then b else a) else (if b < a then b else a))) else none
  | .flt k a, .flt k' b =>
    if k = k' then
      match k.format.order a b with
      | none => some (.flt k (qnan k))
      | some .lt => some (.flt k (if mx then b else a))
      | some .gt => some (.flt k (if mx then a else b))
      | some .eq => some (.flt k (if (k.decode a).neg then (if mx then b else a) else (if mx then a else b)))
    else none
  | _, _ => none

def foldMM (mx : Bool) (x : AV) : List AV → Option AV
  | [] => some x
  | y :: r => match minMax2 mx x y with
    | some z => foldMM mx z r
    | none => none

def argsAV : List TV → Option (List AV)
  | [] => some []
  | .v x :: r => (argsAV r).map (x :: ·)
  | _ => none

def acopy (H : Heap) (esz n : Nat) (new : List AV) : AV → Option (TV × Heap)
  | .nilsl => some (.v (.int .i64 0), H)
  | .sl id off len esz' => if esz' ≠ esz then none else (wrCells H id off (new.take (min n len * esz))).map fun H' => (.v (.int .i64 (min n len : Nat)), H')
  | _ => none

def abuiltin (P : Program) (b : Builtin) (tys : Array TypeId) (args : List TV) (H : Heap) : Option (TV × Heap) :=
  match b, args with
  | .len, [.v (.str s)] =>
    match tys[0]? with
    | some t0 => if tstr P t0 then some (.v (.int .i64 s.size), H) else none
    | none => none
  | .len, [.v .nilsl] =>
    match tys[0]? with
    | some t0 => if (telem P t0).isSome then some (.v (.int .i64 0), H) else none
    | none => none
  | .len, [.v (.sl _ _ n _)] =>
    match tys[0]? with
    | some t0 => if (telem P t0).isSome then some (.v (.int .i64 n), H) else none
    | none => none
  | .append, [.v s, .v x] =>
    match tys[0]?, tys[1]? with
    | some t0, some t1 => match telem P t0 with
      | some e => match tsz P e, tbytes P e, tzero P e with
        | some esz, some bytes, some z => if z.length = esz ∧ tint P t1 = none ∧ (P.underlying t1).isSome then aappend H esz bytes s x else none
        | _, _, _ => none
      | none => none
    | _, _ => none
  | .copy, [.v d, .v x] =>
    match tys[0]? with
    | some t0 => match telem P t0 with
      | some e => match tsz P e with
        | some esz => match cellsOfArg H esz x with
          | some (n, new) => acopy H esz n new d
          | none => none
        | none => none
      | none => none
    | none => none
  | .max, _ => match argsAV args with
    | some (x :: r) => (foldMM true x r).map fun z => (.v z, H)
    | _ => none
  | .min, _ => match argsAV args with
    | some (x :: r) => (foldMM false x r).map fun z => (.v z, H)
    | _ => none
  | _, _ => none

def capsOf (ev : Operand → TV) : List Operand → Option (List (Nat × Nat))
  | [] => some []
  | x :: r => match ev x, capsOf ev r with
    | .v (.ptr i o), some rs => some ((i, o) :: rs)
    | _, _ => none

def astep (P : Program) (ev : Operand → TV) (op : Op) (H : Heap) : Option (TV × Heap) :=
  match op with
  | .move x | .assign x => some (ev x, H)
  | .pick c a b =>
    match ev c with
    | .v (.bool t) => some (if t then ev a else ev b, H)
    | _ => none
  | .alloc e => (tzero P e).bind fun z => if z.all AV.stor then some (.v (.ptr H.n 0), H.alloc (.own z)) else none
  | .box e x => (ev x).cells.bind fun c => if (P.info? e).isSome = true ∧ c.all AV.stor = true then some (.v (.ptr H.n 0), H.alloc (.own c)) else none
  | .build t parts =>
    match tzero P t, tfields P t, partsOf ev parts.toList with
    | some z, some fs, some ps =>
      if fs.all (fun f => (tsz P f.type).isSome) = true ∧ ps.all (fun p => p.2.all AV.stor) = true then (fillParts (structPlaces P fs) z ps).map fun c => (.g c, H) else none
    | _, _, _ => none
  | .buildSlice t len parts =>
    match telem P t with
    | some e => match tsz P e, tzero P e, partsOf ev parts.toList with
      | some n, some z, some ps =>
        if len * n ≤ 2 ^ 24 ∧ z.length = n ∧ ps.all (fun p => p.2.all AV.stor) = true then
          (fillParts (fun i => some (i * n, n)) (zerosOf z len) ps).bind fun c => if c.all AV.stor then some (.v (.sl H.n 0 len n), H.alloc (.own c)) else none
        else none
      | _, _, _ => none
    | none => none
  | .load t a =>
    match ev a with
    | .v (.ptr id off) =>
      match tagg P t with
      | some true => match tsz P t with
        | some n => (rdCells H id off n).map fun c => (.g c, H)
        | none => none
      | some false => (rdCell H id off).map fun c => (.v c, H)
      | none => none
    | _ => none
  | .store t a x =>
    match ev a, (ev x).cells, tsz P t with
    | .v (.ptr id off), some c, some n => if c.length = n then (wrCells H id off c).map fun H' => (.v .und, H') else none
    | _, _, _ => none
  | .nilCheck x =>
    match ev x with
    | .v (.ptr i o) => some (.v (.ptr i o), H)
    | .v (.fn f c) => some (.v (.fn f c), H)
    | _ => none
  | .binOp op t x y _ =>
    match ev x, ev y with
    | .v a, .v b => ((abin P op t a b).or (aifc P op t y a b)).map fun z => (.v z, H)
    | _, _ => none
  | .unOp op _ x =>
    match ev x with
    | .v a => (aun op a).map fun z => (.v z, H)
    | _ => none
  | .convert src dst x =>
    match ev x with
    | .v (.str s) =>
      if (P.underlying src).isSome = false then none else
      if tstr P dst then some (.v (.str s), H) else
      match telem P dst with
      | some e => if tint P e = some .u8 then some (.v (.sl H.n 0 s.size 1), H.alloc (.own (s.data.toList.map fun b => .int .u8 b.toNat))) else none
      | none => none
    | .v (.sl id off len esz) =>
      match telem P src with
      | some e => if tint P e = some .u8 ∧ tstr P dst = true ∧ esz = 1 then
          ((rdCells H id off len).bind strOfCells).map fun l => (.v (.str ⟨l.toArray⟩), H)
        else if src = dst ∧ tint P e = some .u8 ∧ 0 < len ∧ (H.f id).isRow = true then some (.v (.sl id off len esz), H) else none
      | none => none
    | .v a => if (P.underlying src).isSome then (aconv P dst a).map fun z => (.v z, H) else none
    | _ => none
  | .makeFunc (.func f) first captured =>
    if first.size = 0 then (capsOf ev captured.toList).map fun c => (.v (.fn f c), H) else none
  | .makeSlice t l c =>
    match ev l, ev c, telem P t with
    | .v (.int .i64 n), .v (.int .i64 m), some e =>
      match tsz P e, tbytes P e, tzero P e with
      | some sz, some by_, some z =>
        if 0 ≤ n ∧ n ≤ m ∧ m ≤ 2 ^ 40 ∧ m * by_ ≤ 2 ^ 40 ∧ z.length = sz ∧ z.all AV.stor = true then some (.v (.sl H.n 0 n.toNat sz), H.alloc (.own (zerosOf z n.toNat))) else none
      | _, _, _ => none
    | _, _, _ => none
  | .slice t x lo hi none =>
    match ev x, optAV (lo.map ev), optAV (hi.map ev) with
    | .v (.str s), some l, some h => if tstr P t then (slBounds s.size l h).map fun (a, b) => (.v (.str (s.extract a b)), H) else none
    | .v (.sl id off len esz), some l, some h =>
      if (telem P t).bind (tsz P) = some esz then (slBounds len l h).map fun (a, b) => (.v (.sl id (off + a * esz) (b - a) esz), H) else none
    | .v .nilsl, some l, some h => if ((telem P t).bind (tsz P)).isSome then (slBounds 0 l h).map fun _ => (.v .nilsl, H) else none
    | .v (.ptr id off), some l, some h =>
      match (tarr P t).bind (fun ne => (tsz P ne.2).map (fun sz => (ne.1, sz))), H.f id with
      | some (n, sz), .own cs => if off + n * sz ≤ cs.length then (slBounds n l h).map fun (a, b) => (.v (.sl id (off + a * sz) (b - a) sz), H) else none
      | _, _ => none
    | _, _, _ => none
  | .makeMap t none => (tmapi P t).map fun ke => (.v (.mref H.n), H.alloc (.mp ke.1 ke.2 []))
  | .lookup t m x false =>
    match ev m, ev x, tmapi P t with
    | .v (.mref id), .v (.int k a), some (kk, ek) =>
      match H.f id with
      | .mp kk' ek' l => if kk' = kk ∧ ek' = ek ∧ k = kk ∧ (Lit.int kk a).wf = true then some (.v (.int ek (mpGet l a)), H) else none
      | _ => none
    | _, _, _ => none
  | .mapUpdate t m x y =>
    match ev m, ev x, ev y, tmapi P t with
    | .v (.mref id), .v (.int k a), .v (.int k2 b), some (kk, ek) =>
      match H.f id with
      | .mp kk' ek' l => if kk' = kk ∧ ek' = ek ∧ k = kk ∧ k2 = ek ∧ (Lit.int kk a).wf = true ∧ (Lit.int ek b).wf = true ∧ l.length < 2 ^ 40 then some (.v .und, H.put id (.mp kk ek ((a, b) :: l))) else none
      | _ => none
    | _, _, _, _ => none
  | .makeInterface t x =>
    match ev x with
    | .v (.int k n) => if tint P t = some k then some (.v (.ifc (.num t k n)), H) else none
    | _ => none
  | .fieldAddr st x f =>
    match ev x, (tfields P st).bind (·[f]?) with
    | .v (.ptr id off), some fd => if (tsz P fd.type).any (0 < ·) then some (.v (.ptr id (off + fd.offset)), H) else none
    | _, _ => none
  | .field t x f =>
    match ev x, (tfields P t).bind (·[f]?) with
    | .g cs, some fd =>
      match tagg P fd.type with
      | some true => match tsz P fd.type with
        | some n => if fd.offset + n ≤ cs.length then some (.g ((cs.drop fd.offset).take n), H) else none
        | none => none
      | some false => (cs[fd.offset]?).map fun c => (.v c, H)
      | none => none
    | _, _ => none
  | .indexAddr t x i =>
    match ev x, ev i with
    | .v (.sl id off len esz), .v (.int _ n) =>
      match (telem P t).bind (tsz P) with
      | some sz => if sz = esz ∧ 0 ≤ n ∧ n < len then some (.v (.ptr id (off + n.toNat * esz)), H) else none
      | none => none
    | .v (.ptr id off), .v (.int _ n) =>
      match tarr P t with
      | some (len, e) => match tsz P e with
        | some sz => if 0 ≤ n ∧ n < len then some (.v (.ptr id (off + n.toNat * sz)), H) else none
        | none => none
      | none => none
    | _, _ => none
  | .index t x i =>
    match ev x, ev i with
    | .v (.str s), .v (.int _ n) => if tstr P t = true ∧ 0 ≤ n then (s[n.toNat]?).map fun b => (.v (.int .u8 b.toNat), H) else none
    | _, _ => none
  | .extract x i =>
    match ev x with
    | .t vs => (vs[i]?).map fun z => (z.up, H)
    | _ => none
  | .call c =>
    match c.callee with
    | .builtin b => abuiltin P b c.argTypes (c.args.toList.map ev) H
    | _ => none
  | _ => none

def aput (s : Nat → TV) : Option Tmp → TV → Nat → TV
  | some d, v => upd s d v
  | none, _ => s

/-- What a guard reads: a bool, or nothing (the operation it names was not wanted); 'none': it cannot be told. -/
def ayield (ops : List Oper) (s : Nat → TV) (j : Nat) : Option (Option Bool) :=
  match (ops[j]?).bind (·.dst) with
  | some d => match s d with
    | .v (.bool b) => some (some b)
    | .v .und => some none
    | _ => none
  | none => none

def aresults (P : Program) (s : Nat → TV) (H : Heap) : List ResultVar → Option (List TV)
  | [] => some []
  | .tmp t :: r => (aresults P s H r).map (s t :: ·)
  | .cell a t :: r =>
    match s a with
    | .v (.ptr id off) =>
      match tagg P t with
      | some true => match (tsz P t).bind (rdCells H id off) with
        | some c => (aresults P s H r).map (.g c :: ·)
        | none => none
      | some false => match rdCell H id off with
        | some c => (aresults P s H r).map (.v c :: ·)
        | none => none
      | none => none
    | _ => none

def downAll : List TV → Option (List TV0)
  | [] => some []
  | x :: r => match x.down, downAll r with
    | some y, some ys => some (y :: ys)
    | _, _ => none

def packTV : List TV → Option TV
  | [x] => some x
  | xs => (downAll xs).map .t

end Go.Ab

namespace Go.Ab
set_option linter.unusedVariables false
set_option linter.unusedSimpArgs false

def All2 {α β : Type} (R : α → β → Prop) : List α → List β → Prop
  | [], [] => True
  | a :: as, b :: bs => R a b ∧ All2 R as bs
  | _, _ => False

theorem All2.len {α β : Type} {R : α → β → Prop} : ∀ {as : List α} {bs : List β}, All2 R as bs → as.length = bs.length
  | [], [], _ => rfl
  | _ :: _, _ :: _, h => by simp [All2.len h.2]
  | [], _ :: _, h => h.elim
  | _ :: _, [], h => h.elim

theorem All2.mono {α β : Type} {R S : α → β → Prop} (f : ∀ a b, R a b → S a b) : ∀ {as : List α} {bs : List β}, All2 R as bs → All2 S as bs
  | [], [], _ => trivial
  | _ :: _, _ :: _, h => ⟨f _ _ h.1, All2.mono f h.2⟩
  | [], _ :: _, h => h.elim
  | _ :: _, [], h => h.elim

theorem All2.get {α β : Type} {R : α → β → Prop} : ∀ {as : List α} {bs : List β}, All2 R as bs → ∀ (j : Nat) (a : α), as[j]? = some a → ∃ b, bs[j]? = some b ∧ R a b
  | [], [], _, j, a, h => by simp at h
  | x :: as, y :: bs, h, 0, a, e => by simp at e; subst e; exact ⟨y, by simp, h.1⟩
  | x :: as, y :: bs, h, j + 1, a, e => by
    simp at e
    obtain ⟨b, hb, hr⟩ := All2.get h.2 j a e
    exact ⟨b, by simpa using hb, hr⟩
  | [], _ :: _, h, _, _, _ => h.elim
  | _ :: _, [], h, _, _, _ => h.elim

theorem All2.of_get {α β : Type} {R : α → β → Prop} : ∀ {as : List α} {bs : List β}, as.length = bs.length → (∀ (j : Nat) a b, as[j]? = some a → bs[j]? = some b → R a b) → All2 R as bs
  | [], [], _, _ => trivial
  | x :: as, y :: bs, h, k => ⟨k 0 x y (by simp) (by simp), All2.of_get (by simpa using h) fun j a b ha hb => k (j + 1) a b (by simpa using ha) (by simpa using hb)⟩
  | [], _ :: _, h, _ => by simp at h
  | _ :: _, [], h, _ => by simp at h

theorem All2.append {α β : Type} {R : α → β → Prop} : ∀ {as : List α} {bs : List β} {cs : List α} {ds : List β}, All2 R as bs → All2 R cs ds → All2 R (as ++ cs) (bs ++ ds)
  | [], [], _, _, _, h => h
  | _ :: _, _ :: _, _, _, h, k => ⟨h.1, All2.append h.2 k⟩
  | [], _ :: _, _, _, h, _ => h.elim
  | _ :: _, [], _, _, h, _ => h.elim

theorem All2.take {α β : Type} {R : α → β → Prop} : ∀ {as : List α} {bs : List β} (n : Nat), All2 R as bs → All2 R (as.take n) (bs.take n)
  | _, _, 0, _ => by simp [All2]
  | [], [], n + 1, _ => by simp [All2]
  | _ :: _, _ :: _, n + 1, h => ⟨h.1, All2.take n h.2⟩
  | [], _ :: _, _ + 1, h => h.elim
  | _ :: _, [], _ + 1, h => h.elim

theorem All2.drop {α β : Type} {R : α → β → Prop} : ∀ {as : List α} {bs : List β} (n : Nat), All2 R as bs → All2 R (as.drop n) (bs.drop n)
  | _, _, 0, h => by simpa using h
  | [], [], n + 1, _ => by simp [All2]
  | _ :: _, _ :: _, n + 1, h => by simpa using All2.drop n h.2
  | [], _ :: _, _ + 1, h => h.elim
  | _ :: _, [], _ + 1, h => h.elim

theorem All2.map {α β γ : Type} {R : α → β → Prop} {f : γ → α} {g : γ → β} (h : ∀ c, R (f c) (g c)) : ∀ l : List γ, All2 R (l.map f) (l.map g)
  | [] => trivial
  | c :: l => ⟨h c, All2.map h l⟩

/-- Where a row lies: its block, the place of its first cell, how many cells are its own from there on. -/
structure Loc where
  blk : Nat
  base : Nat
  size : Nat

abbrev Emb := Nat → Option Loc

def ptrV (l : Loc) (off : Nat) : Value := .pointer (some ⟨l.blk, l.base + off, none⟩)

def IfR : IfV → Value → Prop
  | .nil, v => v = .nilIface
  | .num t k n, v => v = .iface t (.int k n)
  | .other, v => ∃ t p, v = .iface t p
theorem IfR.cases {e : IfV} {v : Value} (h : IfR e v) : (e.isNil = true ∧ v = .nilIface) ∨ (e.isNil = false ∧ ∃ t p, v = .iface t p) := by
  cases e with
  | nil => exact .inl ⟨rfl, h⟩
  | num t k n => exact .inr ⟨rfl, _, _, h⟩
  | other => exact .inr ⟨rfl, h⟩

def VR (β : Emb) : AV → Value → Prop
  | .bad, _ => True
  | .und, v => v = undef
  | .bool b, v => v = .bool b
  | .int k n, v => v = .int k n
  | .flt k c, v => ∃ b, v = .float k b ∧ cz k b = c
  | .str s, v => v = .string s
  | .nilptr, v => v = .pointer none
  | .ptr id off, v => ∃ l, β id = some l ∧ v = ptrV l off
  | .nilsl, v => v = .slice none 0 0
  | .sl id off len esz, v => ∃ l a cap, β id = some l ∧ v = .slice a len cap ∧ len ≤ cap ∧
      ((a = some ⟨l.blk, l.base + off, none⟩ ∧ off + cap * esz ≤ l.size) ∨ (len = 0 ∧ cap = 0))
  | .ifc e, v => IfR e v
  | .mref id, v => ∃ l, β id = some l ∧ v = .map (some l.blk)
  | .fn f caps, v => ∃ us : List Value, v = .func (.func f) #[] us.toArray ∧ All2 (fun (c : Nat × Nat) u => ∃ l, β c.1 = some l ∧ u = ptrV l c.2) caps us

def VS (β : Emb) (x : AV) (u : Value) : Prop := VR β x u ∧ x.stor = true

def TV0R (β : Emb) : TV0 → Value → Prop
  | .v x, u => VR β x u
  | .g cs, u => ∃ us : List Value, u = .agg us.toArray ∧ All2 (VR β) cs us

def TVR (β : Emb) : TV → Value → Prop
  | .v x, u => VR β x u
  | .g cs, u => ∃ us : List Value, u = .agg us.toArray ∧ All2 (VR β) cs us
  | .t vs, u => ∃ us : List Value, u = .tuple us.toArray ∧ All2 (TV0R β) vs us

def Le (β γ : Emb) : Prop := ∀ i l, β i = some l → γ i = some l

theorem Le.refl (β : Emb) : Le β β := fun _ _ h => h
theorem Le.trans {a b c : Emb} (h : Le a b) (k : Le b c) : Le a c := fun i l e => k i l (h i l e)

theorem VR.mono {β γ : Emb} (h : Le β γ) : ∀ {x : AV} {u : Value}, VR β x u → VR γ x u
  | .bad, _, _ => trivial
  | .und, _, e => e
  | .bool _, _, e => e
  | .int _ _, _, e => e
  | .flt _ _, _, e => e
  | .str _, _, e => e
  | .nilptr, _, e => e
  | .ifc _, _, e => e
  | .mref _, _, ⟨l, h1, h2⟩ => ⟨l, h _ _ h1, h2⟩
  | .ptr _ _, _, ⟨l, h1, h2⟩ => ⟨l, h _ _ h1, h2⟩
  | .nilsl, _, e => e
  | .sl _ _ _ _, _, ⟨l, a, c, h1, h2⟩ => ⟨l, a, c, h _ _ h1, h2⟩
  | .fn _ _, _, ⟨us, h1, h2⟩ => ⟨us, h1, h2.mono fun _ _ ⟨l, e1, e2⟩ => ⟨l, h _ _ e1, e2⟩⟩

theorem VS.mono {β γ : Emb} (h : Le β γ) {x : AV} {u : Value} (e : VS β x u) : VS γ x u := ⟨VR.mono h e.1, e.2⟩

theorem TV0R.mono {β γ : Emb} (h : Le β γ) : ∀ {x : TV0} {u : Value}, TV0R β x u → TV0R γ x u
  | .v _, _, e => VR.mono h e
  | .g _, _, ⟨us, h1, h2⟩ => ⟨us, h1, h2.mono fun _ _ => VR.mono h⟩

theorem TVR.mono {β γ : Emb} (h : Le β γ) : ∀ {x : TV} {u : Value}, TVR β x u → TVR γ x u
  | .v _, _, e => VR.mono h e
  | .g _, _, ⟨us, h1, h2⟩ => ⟨us, h1, h2.mono fun _ _ => VR.mono h⟩
  | .t _, _, ⟨us, h1, h2⟩ => ⟨us, h1, h2.mono fun _ _ => TV0R.mono h⟩

def Blk.isGone : Blk → Bool
  | .gone => true
  | _ => false

def CellsR (β : Emb) (cs : List AV) (ccs : Array Value) (base : Nat) : Prop :=
  ∀ (j : Nat) v, cs[j]? = some v → ∃ u, ccs[base + j]? = some u ∧ VS β v u

/-- No cell of the row is frozen. -/
def NF (fz : Nat × Nat) (n : Nat) : Prop := fz.1 = fz.2 ∨ n ≤ fz.1
theorem NF.not {fz : Nat × Nat} {n : Nat} (h : NF fz n) : ∀ j, j < n → ¬ (fz.1 ≤ j ∧ j < fz.2) := fun j hj => by rcases h with h | h <;> omega

/-- What a map's entries say, at whatever program in which the kinds are these. -/
def MapI (kk ek : IntKind) (m : List (Int × Int)) (es : Array MapEntry) (clock : Nat) : Prop :=
  ∃ (P : Program) (k e : TypeId), P.underlying k = some (.int kk) ∧ P.underlying e = some (.int ek) ∧ Go.WideElems.Fit (H := Unit) P k (plainElem P e) es clock ∧ es.size ≤ m.length ∧
    ∀ a, (Lit.int kk a).wf = true → (DataW.map ((es.toList.map (Go.WideElems.rg (H := Unit) P k (plainElem P e))).foldr DataW.insert [])).atKey (.int kk a) (.lit (.int ek 0)) = .lit (.int ek (mpGet m a))
theorem MapI.to {kk ek : IntKind} {m : List (Int × Int)} {es : Array MapEntry} {clock : Nat} (h : MapI kk ek m es clock) {P : Program} {k e : TypeId} (hk : P.underlying k = some (.int kk)) (he : P.underlying e = some (.int ek)) :
    Go.WideElems.Fit (H := Unit) P k (plainElem P e) es clock ∧ es.size ≤ m.length ∧
    ∀ a, (Lit.int kk a).wf = true → (DataW.map ((es.toList.map (Go.WideElems.rg (H := Unit) P k (plainElem P e))).foldr DataW.insert [])).atKey (.int kk a) (.lit (.int ek 0)) = .lit (.int ek (mpGet m a)) := by
  obtain ⟨P0, k0, e0, hk0, he0, h1, h2, h3⟩ := h
  have e1 : ∀ v, keyOf P k v = keyOf P0 k0 v := fun v => by
    simp only [keyOf, hk, hk0, mapKey]
  have e2 : plainElem (H := Unit) P e = plainElem (H := Unit) P0 e0 := by
    funext v
    simp only [plainElem, he, he0]
  have e3 : ∀ R, Go.WideElems.rd (H := Unit) P k R = Go.WideElems.rd (H := Unit) P0 k0 R := fun R => by
    funext x
    simp only [Go.WideElems.rd, e1]
  have e4 : Go.WideElems.rg (H := Unit) P k (plainElem P e) = Go.WideElems.rg (H := Unit) P0 k0 (plainElem P0 e0) := by
    funext x
    simp only [Go.WideElems.rg, e2, e3]
  exact ⟨⟨h1.size, h1.stamped, fun x hx => by rw [e2, e3]; exact h1.reads x hx⟩, h2, by rw [e4]; exact h3⟩

def RowR (β : Emb) (w : World) (l : Loc) : Blk → Prop
  | .gone => True
  | .ro cs => ∃ ccs e fz, w.heap[l.blk]? = some (.cells ccs e fz) ∧ CellsR β cs ccs l.base
  | .own cs => ∃ ccs e fz, w.heap[l.blk]? = some (.cells ccs e fz) ∧ CellsR β cs ccs l.base ∧
      l.base + l.size ≤ ccs.size ∧ cs.length ≤ l.size ∧ NF fz ccs.size
  | .tab b o => l.blk = b ∧ w.heap[b]? = some o
  | .hole => False
  | .mp kk ek m => ∃ es clock, w.heap[l.blk]? = some (.map es clock) ∧ MapI kk ek m es clock

structure SR (β : Emb) (H : Heap) (w : World) : Prop where
  dom : ∀ i, H.n ≤ i → β i = none
  tot : ∀ i, i < H.n → H.f i ≠ .hole → ∃ l, β i = some l
  row : ∀ i l, β i = some l → RowR β w l (H.f i)
  apart : ∀ i j li lj, i ≠ j → β i = some li → β j = some lj → (H.f i).isOwn = true → (H.f j).isGone = false → li.blk ≠ lj.blk

/-- The blocks that the run may write. -/
def Owns (β : Emb) (H : Heap) (b : Nat) : Prop := ∃ i l, β i = some l ∧ (H.f i).isOwn = true ∧ l.blk = b

/-- What stays as it was. -/
structure Fr (β : Emb) (H : Heap) (w : World) (β' : Emb) (H' : Heap) (w' : World) : Prop where
  os : w'.os = w.os
  tape : w'.tape = w.tape
  output : w'.output = w.output
  size : w.heap.size ≤ w'.heap.size
  block : ∀ b, b < w.heap.size → ¬ Owns β H b → w'.heap[b]? = w.heap[b]?
  owns : ∀ b, b < w.heap.size → Owns β' H' b → Owns β H b

theorem Fr.refl (β : Emb) (H : Heap) (w : World) : Fr β H w β H w := ⟨rfl, rfl, rfl, Nat.le_refl _, fun _ _ _ => rfl, fun _ _ h => h⟩

theorem Fr.trans {β β' β'' : Emb} {H H' H'' : Heap} {w w' w'' : World} (h : Fr β H w β' H' w') (k : Fr β' H' w' β'' H'' w'') : Fr β H w β'' H'' w'' :=
  ⟨k.os.trans h.os, k.tape.trans h.tape, k.output.trans h.output, Nat.le_trans h.size k.size,
   fun b hb hn => (k.block b (Nat.lt_of_lt_of_le hb h.size) (fun ho => hn (h.owns b hb ho))).trans (h.block b hb hn),
   fun b hb ho => h.owns b hb (k.owns b (Nat.lt_of_lt_of_le hb h.size) ho)⟩

/-! ### draws -/
theorem RowR.draw {β : Emb} {w : World} {l : Loc} {b : Blk} (n : Nat) (h : RowR β w l b) : RowR β { w with drawn := n } l b := by
  cases b <;> exact h
theorem SR.draw {β : Emb} {H : Heap} {w : World} (n : Nat) (h : SR β H w) : SR β H { w with drawn := n } :=
  ⟨h.dom, h.tot, fun i l e => (h.row i l e).draw n, h.apart⟩
theorem Fr.draw {β : Emb} {H : Heap} {w : World} (n : Nat) : Fr β H w β H { w with drawn := n } :=
  ⟨rfl, rfl, rfl, Nat.le_refl _, fun _ _ _ => rfl, fun _ _ h => h⟩

/-! ### what is new -/
def Emb.ext (β : Emb) (i : Nat) (l : Loc) : Emb := upd β i (some l)

theorem Le.ext {β : Emb} {i : Nat} {l : Loc} (h : β i = none) : Le β (β.ext i l) := fun j m e => by
  unfold Emb.ext upd
  split
  · rename_i hj; subst hj; rw [h] at e; cases e
  · exact e

theorem SR.lt {β : Emb} {H : Heap} {w : World} (h : SR β H w) {i : Nat} {l : Loc} (e : β i = some l) : i < H.n := by
  rcases Nat.lt_or_ge i H.n with h' | h'
  · exact h'
  · rw [h.dom i h'] at e; cases e

theorem RowR.blk_lt {β : Emb} {w : World} {l : Loc} {b : Blk} (h : RowR β w l b) (hg : b.isGone = false) : l.blk < w.heap.size := by
  have key : ∀ x : Obj, w.heap[l.blk]? = some x → l.blk < w.heap.size := fun x hx => by
    rcases Nat.lt_or_ge l.blk w.heap.size with h' | h'
    · exact h'
    · simp [Array.getElem?_eq_none h'] at hx
  cases b with
  | gone => simp [Blk.isGone] at hg
  | ro cs => obtain ⟨_, _, _, h1, _⟩ := h; exact key _ h1
  | own cs => obtain ⟨_, _, _, h1, _⟩ := h; exact key _ h1
  | tab b o => exact key o (h.1 ▸ h.2)
  | hole => exact h.elim
  | mp kk ek m => obtain ⟨_, _, h1, _⟩ := h; exact key _ h1

theorem CellsR.mono {β γ : Emb} (h : Le β γ) {cs : List AV} {ccs : Array Value} {base : Nat} (hc : CellsR β cs ccs base) : CellsR γ cs ccs base :=
  fun j v e => let ⟨u, h1, h2⟩ := hc j v e; ⟨u, h1, VS.mono h h2⟩

theorem RowR.mono {β γ : Emb} (h : Le β γ) {w w' : World} {l : Loc} {b : Blk} (hw : b.isGone = false → w'.heap[l.blk]? = w.heap[l.blk]?) (hr : RowR β w l b) : RowR γ w' l b := by
  cases b with
  | gone => trivial
  | ro cs => obtain ⟨ccs, e, fz, h1, h2⟩ := hr; exact ⟨ccs, e, fz, (hw rfl).trans h1, h2.mono h⟩
  | own cs => obtain ⟨ccs, e, fz, h1, h2, h3⟩ := hr; exact ⟨ccs, e, fz, (hw rfl).trans h1, h2.mono h, h3⟩
  | tab b o => obtain ⟨h1, h2⟩ := hr; subst h1; exact ⟨rfl, (hw rfl).trans h2⟩
  | hole => exact hr.elim
  | mp kk ek m => obtain ⟨es, clock, h1, h2⟩ := hr; exact ⟨es, clock, (hw rfl).trans h1, h2⟩

theorem CellsR.of_all2 {β : Emb} {cs : List AV} {us : List Value} (h : All2 (VS β) cs us) (rest : List Value) : CellsR β cs (us ++ rest).toArray 0 := fun j v e => by
  obtain ⟨u, h1, h2⟩ := h.get j v e
  refine ⟨u, ?_, h2⟩
  have hj : j < us.length := by
    rcases Nat.lt_or_ge j us.length with h' | h'
    · exact h'
    · rw [List.getElem?_eq_none h'] at h1; cases h1
  simp [List.getElem?_append_left hj, h1]

/-- A new block: a row of the run's own. -/
theorem SR.alloc {β : Emb} {H : Heap} {w : World} (h : SR β H w) {cs : List AV} {us rest : List Value} {t : TypeId} {fz : Nat × Nat} (hc : All2 (VS β) cs us)
    (hfz : NF fz (us.length + rest.length)) :
    SR (β.ext H.n ⟨w.heap.size, 0, us.length + rest.length⟩) (H.alloc (.own cs)) { w with heap := w.heap.push (.cells (us ++ rest).toArray t fz) } := by
  have hle : Le β (β.ext H.n ⟨w.heap.size, 0, us.length + rest.length⟩) := Le.ext (h.dom _ (Nat.le_refl _))
  have old : ∀ i l, i ≠ H.n → (β.ext H.n ⟨w.heap.size, 0, us.length + rest.length⟩) i = some l → β i = some l := fun i l hi e => by
    unfold Emb.ext upd at e; rw [if_neg hi] at e; exact e
  have new : ∀ l, (β.ext H.n ⟨w.heap.size, 0, us.length + rest.length⟩) H.n = some l → l = ⟨w.heap.size, 0, us.length + rest.length⟩ := fun l e => by
    unfold Emb.ext upd at e; rw [if_pos rfl] at e; exact (Option.some.inj e).symm
  refine ⟨fun i hi => ?_, fun i hi hh => ?_, fun i l e => ?_, fun i j li lj hij ei ej ho hg => ?_⟩
  · show upd β H.n _ i = none
    unfold upd
    rw [if_neg (by simp [Heap.alloc] at hi; omega)]
    exact h.dom i (by simp [Heap.alloc] at hi; omega)
  · show ∃ l, upd β H.n _ i = some l
    unfold upd
    split
    · exact ⟨_, rfl⟩
    · rename_i hne; exact h.tot i (by simp [Heap.alloc] at hi; omega) (by simpa [Heap.alloc, upd, hne] using hh)
  · by_cases hi : i = H.n
    · subst hi
      rw [new l e]
      show RowR _ _ _ (upd H.f H.n (.own cs) H.n)
      simp only [upd, if_true]
      refine ⟨(us ++ rest).toArray, t, fz, by simp, (CellsR.of_all2 hc rest).mono hle, by simp, by simp [hc.len], by simpa using hfz⟩
    · have e' := old i l hi e
      show RowR _ _ _ (upd H.f H.n (.own cs) i)
      simp only [upd, if_neg hi]
      refine (h.row i l e').mono hle fun hg => ?_
      have := (h.row i l e').blk_lt hg
      simp [Array.getElem?_push, Nat.ne_of_lt this]
  · have ho' : (upd H.f H.n (.own cs) i).isOwn = true := ho
    have hg' : (upd H.f H.n (.own cs) j).isGone = false := hg
    by_cases hi : i = H.n
    · subst hi
      have hj : j ≠ H.n := fun e => hij e.symm
      simp only [upd, if_neg hj] at hg'
      have := (h.row j lj (old j lj hj ej)).blk_lt hg'
      rw [new li ei]
      exact fun e => by simp at e; omega
    · simp only [upd, if_neg hi] at ho'
      by_cases hj : j = H.n
      · subst hj
        have := (h.row i li (old i li hi ei)).blk_lt (by cases hb : H.f i <;> simp_all [Blk.isOwn, Blk.isGone])
        rw [new lj ej]
        exact fun e => by simp at e; omega
      · simp only [upd, if_neg hj] at hg'
        exact h.apart i j li lj hij (old i li hi ei) (old j lj hj ej) ho' hg'

theorem Fr.alloc {β : Emb} {H : Heap} {w : World} (h : SR β H w) {cs : List AV} (o : Obj) (n : Nat) :
    Fr β H w (β.ext H.n ⟨w.heap.size, 0, n⟩) (H.alloc (.own cs)) { w with heap := w.heap.push o } := by
  refine ⟨rfl, rfl, rfl, by simp, fun b hb _ => by simp [Array.getElem?_push, Nat.ne_of_lt hb], fun b hb ⟨i, l, e, ho, hl⟩ => ?_⟩
  by_cases hi : i = H.n
  · subst hi
    unfold Emb.ext upd at e
    rw [if_pos rfl] at e
    have := Option.some.inj e
    subst this
    simp at hl
    omega
  · unfold Emb.ext upd at e
    rw [if_neg hi] at e
    refine ⟨i, l, e, ?_, hl⟩
    have : (upd H.f H.n (.own cs) i).isOwn = true := ho
    simpa only [upd, if_neg hi] using this

/-! ### cells -/
theorem addr_add (b o n : Nat) : (⟨b, o, none⟩ : Addr).add n = ⟨b, o + n, none⟩ := by
  unfold Addr.add
  split
  · rename_i h; subst h; rfl
  · rfl

theorem cell_of {β : Emb} {H : Heap} {w : World} (h : SR β H w) {id off : Nat} {l : Loc} {v : AV} (e : β id = some l) (hv : (H.f id).cs[off]? = some v) :
    ∃ u, w.cell? ⟨l.blk, l.base + off, none⟩ = some u ∧ VS β v u := by
  have hr := h.row id l e
  cases hb : H.f id with
  | gone => rw [hb] at hv; simp [Blk.cs] at hv
  | tab b o => rw [hb] at hv; simp [Blk.cs] at hv
  | hole => rw [hb] at hv; simp [Blk.cs] at hv
  | mp _ _ _ => rw [hb] at hv; simp [Blk.cs] at hv
  | ro cs =>
    rw [hb] at hv hr
    obtain ⟨ccs, t, fz, h1, h2⟩ := hr
    obtain ⟨u, hu, hvr⟩ := h2 off v hv
    exact ⟨u, by simp [World.cell?, h1, hu], hvr⟩
  | own cs =>
    rw [hb] at hv hr
    obtain ⟨ccs, t, fz, h1, h2, _⟩ := hr
    obtain ⟨u, hu, hvr⟩ := h2 off v hv
    exact ⟨u, by simp [World.cell?, h1, hu], hvr⟩

theorem run_loadCellsFrom {P : Program} {w : World} (b o : Nat) : ∀ (us : List Value) (i : Nat) (acc : Array Value),
    (∀ j u, us[j]? = some u → w.cell? ⟨b, o + (i + j), none⟩ = some u) →
    (loadCellsFrom ⟨b, o, none⟩ i us.length acc).run P w = .ok (acc ++ us.toArray) w
  | [], i, acc, _ => by simp [loadCellsFrom]
  | u :: us, i, acc, h => by
    have h0 := h 0 u (by simp)
    simp only [Nat.add_zero] at h0
    have ih := run_loadCellsFrom (P := P) (w := w) b o us (i + 1) (acc.push u) (fun j v hv => by
      have := h (j + 1) v (by simpa using hv)
      rw [show i + 1 + j = i + (j + 1) by omega]; exact this)
    simp only [List.length_cons, loadCellsFrom, Sem.run_bind, run_load, addr_add, h0, Result.andThen_ok]
    rw [ih]
    simp

theorem run_loadCells {P : Program} {w : World} (b o : Nat) (us : List Value) (h : ∀ j u, us[j]? = some u → w.cell? ⟨b, o + j, none⟩ = some u) :
    (loadCells ⟨b, o, none⟩ us.length).run P w = .ok us.toArray w := by
  unfold loadCells
  rw [run_loadCellsFrom b o us 0 #[] (fun j u hu => by simpa using h j u hu)]
  simp

/-- The machine's cells behind some of a row's. -/
theorem cells_of {β : Emb} {H : Heap} {w : World} (h : SR β H w) {id off n : Nat} {l : Loc} {cs : List AV} (e : β id = some l) (hr : rdCells H id off n = some cs) :
    ∃ us : List Value, us.length = n ∧ All2 (VS β) cs us ∧ ∀ j u, us[j]? = some u → w.cell? ⟨l.blk, l.base + off + j, none⟩ = some u := by
  unfold rdCells at hr
  split at hr
  · rename_i hle
    have hcs := (Option.some.inj hr).symm
    have key : ∀ m, m ≤ n → ∃ us : List Value, us.length = m ∧ All2 (VS β) (((H.f id).cs.drop off).take m) us ∧ ∀ j u, us[j]? = some u → w.cell? ⟨l.blk, l.base + off + j, none⟩ = some u := by
      intro m
      induction m with
      | zero => intro _; exact ⟨[], rfl, by simp [All2], fun j u hu => by simp at hu⟩
      | succ m ih =>
        intro hm
        obtain ⟨us, h1, h2, h3⟩ := ih (by omega)
        have hlt : off + m < (H.f id).cs.length := by omega
        have hv : (H.f id).cs[off + m]? = some (H.f id).cs[off + m] := List.getElem?_eq_getElem hlt
        obtain ⟨u, hu, hvr⟩ := cell_of h e hv
        refine ⟨us ++ [u], by simp [h1], ?_, fun j x hx => ?_⟩
        · rw [List.take_succ_eq_append_getElem (by simp; omega)]
          refine h2.append ⟨?_, trivial⟩
          simpa using hvr
        · rcases Nat.lt_or_ge j us.length with hj | hj
          · rw [List.getElem?_append_left hj] at hx; exact h3 j x hx
          · rw [List.getElem?_append_right hj] at hx
            have hj0 : j - us.length = 0 := by
              rcases Nat.eq_zero_or_pos (j - us.length) with h' | h'
              · exact h'
              · rw [List.getElem?_eq_none (by simp; omega)] at hx; cases hx
            rw [hj0] at hx
            simp at hx
            subst hx
            have : j = m := by omega
            subst this
            rw [Nat.add_assoc]; exact hu
    obtain ⟨us, h1, h2, h3⟩ := key n (Nat.le_refl _)
    exact ⟨us, h1, by rw [hcs]; exact h2, h3⟩
  · cases hr

theorem VS.one {β : Emb} {x : AV} {u : Value} (h : VS β x u) : u.oneCell' = true := by
  obtain ⟨h, hs⟩ := h
  cases x <;> simp only [VR, AV.stor] at h hs <;> first
    | (cases hs; done)
    | (subst h; rfl)
    | (obtain ⟨_, h, _⟩ := h; subst h; rfl)
    | (obtain ⟨_, _, h⟩ := h; subst h; rfl)
    | (obtain ⟨_, _, _, _, h, _⟩ := h; subst h; rfl)
    | (rcases IfR.cases h with ⟨_, h⟩ | ⟨_, _, _, h⟩ <;> (subst h; rfl))

/-- One block was written: some of its cells. -/
structure Wr (w w' : World) (b : Nat) (e : TypeId) (fz : Nat × Nat) (ccs : Array Value) (o : Nat) (us : List Value) : Prop where
  os : w'.os = w.os
  tape : w'.tape = w.tape
  output : w'.output = w.output
  size : w'.heap.size = w.heap.size
  other : ∀ c, c ≠ b → w'.heap[c]? = w.heap[c]?
  row : ∃ ccs' : Array Value, w'.heap[b]? = some (.cells ccs' e fz) ∧ ccs'.size = ccs.size ∧
    ∀ k, ccs'[k]? = if o ≤ k ∧ k < o + us.length then us[k - o]? else ccs[k]?

theorem run_storeCells {P : Program} (b o : Nat) (e : TypeId) (fz : Nat × Nat) : ∀ (us : List Value) (i : Nat) (w : World) (ccs : Array Value),
    (∀ u ∈ us, u.oneCell' = true) → w.heap[b]? = some (.cells ccs e fz) → o + i + us.length ≤ ccs.size → (∀ j, j < ccs.size → ¬ (fz.1 ≤ j ∧ j < fz.2)) →
    ∃ w', (storeCells ⟨b, o, none⟩ us i).run P w = .ok () w' ∧ Wr w w' b e fz ccs (o + i) us
  | [], i, w, ccs, _, hb, _, _ => ⟨w, by simp [storeCells], rfl, rfl, rfl, rfl, fun _ _ => rfl, ccs, hb, rfl, fun k => by
      rw [if_neg (by simp)]⟩
  | u :: us, i, w, ccs, h1, hb, hs, hf => by
    have hlt : o + i < ccs.size := by simp at hs; omega
    have hc : w.cell? ⟨b, o + i, none⟩ = some ccs[o + i] := by simp [World.cell?, hb, hlt]
    have hz : w.frozen? ⟨b, o + i, none⟩ = false := by
      have := hf (o + i) hlt
      simp only [World.frozen?, hb]
      rw [Bool.and_eq_false_iff]
      by_cases h : fz.1 ≤ o + i
      · right; simp; omega
      · left; simp; omega
    have hbl : b < w.heap.size := by
      rcases Nat.lt_or_ge b w.heap.size with h' | h'
      · exact h'
      · simp [Array.getElem?_eq_none h'] at hb
    have hb' : (w.setCell ⟨b, o + i, none⟩ u).heap[b]? = some (.cells (ccs.setIfInBounds (o + i) u) e fz) := by
      simp [World.setCell, Array.getElem?_modify, hb]
    obtain ⟨w', hr, hw⟩ := run_storeCells (P := P) b o e fz us (i + 1) (w.setCell ⟨b, o + i, none⟩ u) (ccs.setIfInBounds (o + i) u)
      (fun x hx => h1 x (List.mem_cons_of_mem _ hx)) hb' (by simp at hs ⊢; omega) (by simpa using hf)
    refine ⟨w', ?_, hw.os, hw.tape, hw.output, by rw [hw.size]; simp, fun c hcb => ?_, ?_⟩
    · simp only [storeCells, Sem.run_bind, addr_add]
      rw [run_store _ _ _ _ _ (h1 u (by simp)), hc]
      simp only [hz, Bool.false_eq_true, if_false, Result.andThen_ok]
      exact hr
    · rw [hw.other c hcb]
      simp [World.setCell, Array.getElem?_modify, Ne.symm hcb]
    · obtain ⟨ccs', e1, e2, e3⟩ := hw.row
      refine ⟨ccs', e1, by simpa using e2, fun k => ?_⟩
      rw [e3 k]
      by_cases hk : k = o + i
      · subst hk
        rw [if_neg (by omega), if_pos (by simp)]
        simp [hlt]
      · by_cases hk2 : o + (i + 1) ≤ k ∧ k < o + (i + 1) + us.length
        · rw [if_pos hk2, if_pos (by simp; omega)]
          rw [show k - (o + i) = (k - (o + (i + 1))) + 1 by omega]
          simp
        · rw [if_neg hk2, if_neg (by simp; omega)]
          rw [Array.getElem?_setIfInBounds_ne (by omega)]

theorem splice_get (cs new : List AV) (off : Nat) (h : off + new.length ≤ cs.length) (j : Nat) :
    (splice cs new off)[j]? = if off ≤ j ∧ j < off + new.length then new[j - off]? else cs[j]? := by
  unfold splice
  have hl : (cs.take off).length = off := by simp; omega
  rw [List.append_assoc]
  rcases Nat.lt_or_ge j off with h1 | h1
  · rw [List.getElem?_append_left (by omega), if_neg (by omega), List.getElem?_take_of_lt h1]
  · rw [List.getElem?_append_right (by omega), hl]
    rcases Nat.lt_or_ge (j - off) new.length with h2 | h2
    · rw [List.getElem?_append_left h2, if_pos (by omega)]
    · rw [List.getElem?_append_right h2, if_neg (by omega), List.getElem?_drop]
      congr 1; omega

theorem splice_len (cs new : List AV) (off : Nat) (h : off + new.length ≤ cs.length) : (splice cs new off).length = cs.length := by
  unfold splice; simp; omega

theorem RowR.other {β : Emb} {w w' : World} {l : Loc} {b : Blk} (hw : b.isGone = false → w'.heap[l.blk]? = w.heap[l.blk]?) (hr : RowR β w l b) : RowR β w' l b :=
  RowR.mono (Le.refl β) hw hr

/-- A new block, whatever it is. -/
theorem SR.allocB {β : Emb} {H : Heap} {w : World} (h : SR β H w) (o : Obj) (n : Nat) (bb : Blk) (hb : ∀ γ, RowR γ { w with heap := w.heap.push o } ⟨w.heap.size, 0, n⟩ bb) :
    SR (β.ext H.n ⟨w.heap.size, 0, n⟩) (H.alloc bb) { w with heap := w.heap.push o } := by
  have hle : Le β (β.ext H.n ⟨w.heap.size, 0, n⟩) := Le.ext (h.dom _ (Nat.le_refl _))
  have old : ∀ i l, i ≠ H.n → (β.ext H.n ⟨w.heap.size, 0, n⟩) i = some l → β i = some l := fun i l hi e => by
    unfold Emb.ext upd at e; rw [if_neg hi] at e; exact e
  have new : ∀ l, (β.ext H.n ⟨w.heap.size, 0, n⟩) H.n = some l → l = ⟨w.heap.size, 0, n⟩ := fun l e => by
    unfold Emb.ext upd at e; rw [if_pos rfl] at e; exact (Option.some.inj e).symm
  refine ⟨fun i hi => ?_, fun i hi hh => ?_, fun i l e => ?_, fun i j li lj hij ei ej ho hg => ?_⟩
  · show upd β H.n _ i = none
    unfold upd
    rw [if_neg (by simp [Heap.alloc] at hi; omega)]
    exact h.dom i (by simp [Heap.alloc] at hi; omega)
  · show ∃ l, upd β H.n _ i = some l
    unfold upd
    split
    · exact ⟨_, rfl⟩
    · rename_i hne; exact h.tot i (by simp [Heap.alloc] at hi; omega) (by simpa [Heap.alloc, upd, hne] using hh)
  · by_cases hi : i = H.n
    · subst hi
      rw [new l e]
      show RowR _ _ _ (upd H.f H.n bb H.n)
      simp only [upd, if_true]
      exact hb _
    · have e' := old i l hi e
      show RowR _ _ _ (upd H.f H.n bb i)
      simp only [upd, if_neg hi]
      refine (h.row i l e').mono hle fun hg => ?_
      have := (h.row i l e').blk_lt hg
      simp [Array.getElem?_push, Nat.ne_of_lt this]
  · have ho' : (upd H.f H.n bb i).isOwn = true := ho
    have hg' : (upd H.f H.n bb j).isGone = false := hg
    by_cases hi : i = H.n
    · subst hi
      have hj : j ≠ H.n := fun e => hij e.symm
      simp only [upd, if_neg hj] at hg'
      have := (h.row j lj (old j lj hj ej)).blk_lt hg'
      rw [new li ei]
      exact fun e => by simp at e; omega
    · simp only [upd, if_neg hi] at ho'
      by_cases hj : j = H.n
      · subst hj
        have := (h.row i li (old i li hi ei)).blk_lt (by cases hb : H.f i <;> simp_all [Blk.isOwn, Blk.isGone])
        rw [new lj ej]
        exact fun e => by simp at e; omega
      · simp only [upd, if_neg hj] at hg'
        exact h.apart i j li lj hij (old i li hi ei) (old j lj hj ej) ho' hg'

theorem Fr.allocB {β : Emb} {H : Heap} {w : World} (h : SR β H w) (bb : Blk) (o : Obj) (n : Nat) :
    Fr β H w (β.ext H.n ⟨w.heap.size, 0, n⟩) (H.alloc bb) { w with heap := w.heap.push o } := by
  refine ⟨rfl, rfl, rfl, by simp, fun b hb _ => by simp [Array.getElem?_push, Nat.ne_of_lt hb], fun b hb ⟨i, l, e, ho, hl⟩ => ?_⟩
  by_cases hi : i = H.n
  · subst hi
    unfold Emb.ext upd at e
    rw [if_pos rfl] at e
    have := Option.some.inj e
    subst this
    simp at hl
    omega
  · unfold Emb.ext upd at e
    rw [if_neg hi] at e
    refine ⟨i, l, e, ?_, hl⟩
    have : (upd H.f H.n bb i).isOwn = true := ho
    simpa only [upd, if_neg hi] using this
/-- An own block that has changed. -/
theorem SR.putB {β : Emb} {H : Heap} {w w' : World} (h : SR β H w) {id : Nat} {l : Loc} {bb : Blk} (e : β id = some l) (ho : (H.f id).isOwn = true) (hb : RowR β w' l bb) (hg : bb.isGone = false) (hne : bb ≠ .hole) (hoth : ∀ c, c < w.heap.size → c ≠ l.blk → w'.heap[c]? = w.heap[c]?) (hbo : bb.isOwn = true) : SR β (H.put id bb) w' := by
  have hfi : ∀ i, (H.put id bb).f i = if i = id then bb else H.f i := fun i => rfl
  refine ⟨h.dom, fun i hi hh => ?_, fun i li ei => ?_, fun i j li lj hij ei ej hoi hgj => ?_⟩
  · by_cases hid : i = id
    · exact ⟨l, by rw [hid]; exact e⟩
    · rw [hfi, if_neg hid] at hh; exact h.tot i hi hh
  · by_cases hid : i = id
    · subst hid
      rw [e] at ei
      cases ei
      rw [hfi, if_pos rfl]; exact hb
    · rw [hfi, if_neg hid]
      exact RowR.other (fun hgi => hoth _ ((h.row i li ei).blk_lt hgi) fun hc => h.apart id i l li (Ne.symm hid) e ei ho hgi hc.symm) (h.row i li ei)
  · rw [hfi] at hoi hgj
    have hoi' : (H.f i).isOwn = true := by
      by_cases hid : i = id
      · rw [hid]; exact ho
      · rw [if_neg hid] at hoi; exact hoi
    have hgj' : (H.f j).isGone = false := by
      by_cases hid : j = id
      · rw [hid]; cases hx : H.f id <;> rw [hx] at ho <;> first | rfl | (cases ho)
      · rw [if_neg hid] at hgj; exact hgj
    exact h.apart i j li lj hij ei ej hoi' hgj'
theorem Fr.putB {β : Emb} {H : Heap} {w w' : World} {id : Nat} {l : Loc} {bb : Blk} (e : β id = some l) (ho : (H.f id).isOwn = true) (h1 : w'.os = w.os) (h2 : w'.tape = w.tape) (h3 : w'.output = w.output) (h4 : w.heap.size ≤ w'.heap.size) (hoth : ∀ c, c < w.heap.size → c ≠ l.blk → w'.heap[c]? = w.heap[c]?) : Fr β H w β (H.put id bb) w' := by
  refine ⟨h1, h2, h3, h4, fun b hbs hn => hoth b hbs fun hc => hn ⟨id, l, e, ho, hc.symm⟩, fun b _ ⟨i, li, ei, hoi, hl⟩ => ?_⟩
  by_cases hid : i = id
  · subst hid; exact ⟨i, li, ei, ho, hl⟩
  · have : (if i = id then bb else H.f i).isOwn = true := hoi
    rw [if_neg hid] at this
    exact ⟨i, li, ei, this, hl⟩

theorem isOwn_of {b : Blk} {cs : List AV} (h : b = .own cs) : b.isOwn = true := by subst h; rfl
theorem isGone_of {b : Blk} {cs : List AV} (h : b = .own cs) : b.isGone = false := by subst h; rfl

theorem SR.store {β : Emb} {H : Heap} {w w' : World} (h : SR β H w) {id off : Nat} {l : Loc} {cs new : List AV} {us : List Value} {e : TypeId} {fz : Nat × Nat} {ccs : Array Value}
    (hl : β id = some l) (ho : H.f id = .own cs) (hb : w.heap[l.blk]? = some (.cells ccs e fz)) (hlen : off + new.length ≤ cs.length) (hn : All2 (VS β) new us)
    (hw : Wr w w' l.blk e fz ccs (l.base + off) us) : SR β (H.put id (.own (splice cs new off))) w' := by
  refine ⟨h.dom, fun i hi hh => ?_, fun i m ei => ?_, fun i j li lj hij ei ej hio hjg => ?_⟩
  · by_cases e : i = id
    · exact ⟨l, e ▸ hl⟩
    · exact h.tot i hi (by simpa [Heap.put, upd, e] using hh)
  · show RowR β w' m (upd H.f id (.own (splice cs new off)) i)
    by_cases hi : i = id
    · subst hi
      rw [hl] at ei
      have := Option.some.inj ei
      subst this
      simp only [upd, if_true]
      have hr := h.row i l hl
      rw [ho] at hr
      obtain ⟨ccs0, e0, fz0, g1, g2, g3, g4, g5⟩ := hr
      rw [hb] at g1
      obtain ⟨rfl, rfl, rfl⟩ : ccs = ccs0 ∧ e = e0 ∧ fz = fz0 := by
        have := Option.some.inj g1; simp at this; exact ⟨this.1, this.2.1, this.2.2⟩
      obtain ⟨ccs', k1, k2, k3⟩ := hw.row
      refine ⟨ccs', e, fz, k1, fun j v hv => ?_, by omega, by rw [splice_len cs new off hlen]; exact g4, by rw [k2]; exact g5⟩
      rw [splice_get cs new off hlen] at hv
      rw [k3]
      split at hv
      · rename_i hc
        obtain ⟨u, hu, hvs⟩ := hn.get _ _ hv
        refine ⟨u, ?_, hvs⟩
        rw [if_pos (by rw [← hn.len]; omega)]
        rw [show l.base + j - (l.base + off) = j - off by omega]
        exact hu
      · rename_i hc
        obtain ⟨u, hu, hvs⟩ := g2 j v hv
        exact ⟨u, by rw [if_neg (by rw [← hn.len]; omega)]; exact hu, hvs⟩
    · simp only [upd, if_neg hi]
      refine (h.row i m ei).other fun hg => hw.other _ ?_
      exact fun e' => h.apart id i l m (Ne.symm hi) hl ei (isOwn_of ho) hg e'.symm
  · have hio' : (H.f i).isOwn = true := by
      by_cases hi : i = id
      · subst hi; exact isOwn_of ho
      · have : (upd H.f id (.own (splice cs new off)) i).isOwn = true := hio
        simpa only [upd, if_neg hi] using this
    have hjg' : (H.f j).isGone = false := by
      by_cases hj : j = id
      · subst hj; exact isGone_of ho
      · have : (upd H.f id (.own (splice cs new off)) j).isGone = false := hjg
        simpa only [upd, if_neg hj] using this
    exact h.apart i j li lj hij ei ej hio' hjg'

theorem Fr.store {β : Emb} {H : Heap} {w w' : World} {id : Nat} {l : Loc} {cs cs' : List AV} {us : List Value} {e : TypeId} {fz : Nat × Nat} {ccs : Array Value} {o : Nat}
    (hl : β id = some l) (ho : H.f id = .own cs) (hw : Wr w w' l.blk e fz ccs o us) : Fr β H w β (H.put id (.own cs')) w' := by
  refine ⟨hw.os, hw.tape, hw.output, by rw [hw.size]; exact Nat.le_refl _, fun b hb hn => hw.other b fun e' => hn ⟨id, l, hl, isOwn_of ho, e'.symm⟩, fun b hb ⟨i, m, ei, hio, em⟩ => ?_⟩
  by_cases hi : i = id
  · subst hi; exact ⟨i, m, ei, isOwn_of ho, em⟩
  · refine ⟨i, m, ei, ?_, em⟩
    have : (upd H.f id (.own cs') i).isOwn = true := hio
    simpa only [upd, if_neg hi] using this

theorem CellsR.drop {β : Emb} {cs : List AV} {ccs : Array Value} {base : Nat} (off : Nat) (h : CellsR β cs ccs base) : CellsR β (cs.drop off) ccs (base + off) := fun j v hv => by
  rw [List.getElem?_drop] at hv
  obtain ⟨u, h1, h2⟩ := h _ v hv
  exact ⟨u, by rw [Nat.add_assoc]; exact h1, h2⟩

/-- A row that grows where it lies: it goes on under a new number. -/
theorem SR.grow {β : Emb} {H : Heap} {w w' : World} (h : SR β H w) {id off : Nat} {l : Loc} {cs new : List AV} {us : List Value} {e : TypeId} {fz : Nat × Nat} {ccs : Array Value}
    (hl : β id = some l) (ho : H.f id = .own cs) (hb : w.heap[l.blk]? = some (.cells ccs e fz)) (hoff : off ≤ cs.length) (hroom : cs.length + new.length ≤ l.size) (hn : All2 (VS β) new us)
    (hw : Wr w w' l.blk e fz ccs (l.base + cs.length) us) :
    SR (β.ext H.n ⟨l.blk, l.base + off, l.size - off⟩) ((H.put id .gone).alloc (.own (cs.drop off ++ new))) w' := by
  have hle : Le β (β.ext H.n ⟨l.blk, l.base + off, l.size - off⟩) := Le.ext (h.dom _ (Nat.le_refl _))
  have hid : id < H.n := h.lt hl
  have old : ∀ i m, i ≠ H.n → (β.ext H.n ⟨l.blk, l.base + off, l.size - off⟩) i = some m → β i = some m := fun i l hi e => by
    unfold Emb.ext upd at e; rw [if_neg hi] at e; exact e
  have new_ : ∀ m, (β.ext H.n ⟨l.blk, l.base + off, l.size - off⟩) H.n = some m → m = ⟨l.blk, l.base + off, l.size - off⟩ := fun l e => by
    unfold Emb.ext upd at e; rw [if_pos rfl] at e; exact (Option.some.inj e).symm
  have fnew : (((H.put id .gone).alloc (.own (cs.drop off ++ new))).f H.n) = .own (cs.drop off ++ new) := by simp [Heap.alloc, Heap.put, upd]
  have fid : (((H.put id .gone).alloc (.own (cs.drop off ++ new))).f id) = .gone := by simp [Heap.alloc, Heap.put, upd, Nat.ne_of_lt hid]
  have foth : ∀ i, i ≠ H.n → i ≠ id → (((H.put id .gone).alloc (.own (cs.drop off ++ new))).f i) = H.f i := fun i h1 h2 => by simp [Heap.alloc, Heap.put, upd, h1, h2]
  refine ⟨fun i hi => ?_, fun i hi hh => ?_, fun i m ei => ?_, fun i j li lj hij ei ej hio hjg => ?_⟩
  · simp only [Heap.alloc, Heap.put] at hi
    unfold Emb.ext upd
    rw [if_neg (by omega)]
    exact h.dom i (by omega)
  · simp only [Heap.alloc, Heap.put] at hi
    unfold Emb.ext upd
    split
    · exact ⟨_, rfl⟩
    · rename_i hne
      by_cases e : i = id
      · exact ⟨l, e ▸ hl⟩
      · exact h.tot i (by omega) (by simpa [Heap.alloc, Heap.put, upd, hne, e] using hh)
  · by_cases hi : i = H.n
    · subst hi
      rw [new_ m ei, fnew]
      have hr := h.row id l hl
      rw [ho] at hr
      obtain ⟨ccs0, e0, fz0, g1, g2, g3, g4, g5⟩ := hr
      rw [hb] at g1
      obtain ⟨rfl, rfl, rfl⟩ : ccs = ccs0 ∧ e = e0 ∧ fz = fz0 := by
        have := Option.some.inj g1; simp at this; exact ⟨this.1, this.2.1, this.2.2⟩
      obtain ⟨ccs', k1, k2, k3⟩ := hw.row
      refine ⟨ccs', e, fz, k1, fun j v hv => ?_, by simp; omega, by simp; omega, by rw [k2]; exact g5⟩
      simp only at *
      rw [k3]
      rcases Nat.lt_or_ge j (cs.drop off).length with hj | hj
      · rw [List.getElem?_append_left hj] at hv
        obtain ⟨u, hu, hvs⟩ := (g2.drop off) j v hv
        rw [List.length_drop] at hj
        exact ⟨u, by rw [if_neg (by omega)]; exact hu, VS.mono hle hvs⟩
      · rw [List.getElem?_append_right hj] at hv
        obtain ⟨u, hu, hvs⟩ := hn.get _ _ hv
        have hul : j - (cs.drop off).length < us.length := by
          rcases Nat.lt_or_ge (j - (cs.drop off).length) us.length with h' | h'
          · exact h'
          · rw [List.getElem?_eq_none h'] at hu; cases hu
        rw [List.length_drop] at hj hu hul
        refine ⟨u, ?_, VS.mono hle hvs⟩
        rw [if_pos (by omega), show l.base + off + j - (l.base + cs.length) = j - (cs.length - off) by omega]
        exact hu
    · have ei' := old i m hi ei
      by_cases hid' : i = id
      · subst hid'; rw [fid]; exact True.intro
      · rw [foth i hi hid']
        refine (h.row i m ei').mono hle fun hg => hw.other _ ?_
        exact fun e' => h.apart id i l m (Ne.symm hid') hl ei' (isOwn_of ho) hg e'.symm
  · by_cases hi : i = H.n
    · subst hi
      have hj : j ≠ H.n := fun e' => hij e'.symm
      have ej' := old j lj hj ej
      by_cases hjd : j = id
      · subst hjd; rw [fid] at hjg; simp [Blk.isGone] at hjg
      · rw [foth j hj hjd] at hjg
        rw [new_ li ei]
        exact h.apart id j l lj (Ne.symm hjd) hl ej' (isOwn_of ho) hjg
    · have ei' := old i li hi ei
      by_cases hid' : i = id
      · subst hid'; rw [fid] at hio; simp [Blk.isOwn] at hio
      · rw [foth i hi hid'] at hio
        by_cases hj : j = H.n
        · subst hj
          rw [new_ lj ej]
          exact h.apart i id li l hid' ei' hl hio (isGone_of ho)
        · have ej' := old j lj hj ej
          by_cases hjd : j = id
          · subst hjd; rw [fid] at hjg; simp [Blk.isGone] at hjg
          · rw [foth j hj hjd] at hjg
            exact h.apart i j li lj hij ei' ej' hio hjg

theorem Fr.grow {β : Emb} {H : Heap} {w w' : World} (h : SR β H w) {id b2 s2 : Nat} {l : Loc} {cs cs' : List AV} {us : List Value} {e : TypeId} {fz : Nat × Nat} {ccs : Array Value} {o : Nat}
    (hl : β id = some l) (ho : H.f id = .own cs) (hw : Wr w w' l.blk e fz ccs o us) : Fr β H w (β.ext H.n ⟨l.blk, b2, s2⟩) ((H.put id .gone).alloc (.own cs')) w' := by
  refine ⟨hw.os, hw.tape, hw.output, by rw [hw.size]; exact Nat.le_refl _, fun b hb hn => hw.other b fun e' => hn ⟨id, l, hl, isOwn_of ho, e'.symm⟩, fun b hb ⟨i, m, ei, hio, em⟩ => ?_⟩
  by_cases hi : i = H.n
  · subst hi
    unfold Emb.ext upd at ei
    rw [if_pos rfl] at ei
    have := Option.some.inj ei
    subst this
    exact ⟨id, l, hl, isOwn_of ho, em⟩
  · unfold Emb.ext upd at ei
    rw [if_neg hi] at ei
    have hio' : (upd (upd H.f id .gone) H.n (.own cs') i).isOwn = true := hio
    simp only [upd, if_neg hi] at hio'
    by_cases hid : i = id
    · subst hid; simp [Blk.isOwn] at hio'
    · rw [if_neg hid] at hio'
      exact ⟨i, m, ei, hio', em⟩

/-- A row is given up. -/
theorem SR.giveUp {β : Emb} {H : Heap} {w : World} (h : SR β H w) (id : Nat) (hid : H.f id ≠ .hole) : SR β (H.put id .gone) w := by
  refine ⟨h.dom, fun i hi hh => ?_, fun i m ei => ?_, fun i j li lj hij ei ej hio hjg => ?_⟩
  · by_cases e : i = id
    · exact h.tot i hi (e ▸ hid)
    · exact h.tot i hi (by simpa [Heap.put, upd, e] using hh)
  · show RowR β w m (upd H.f id .gone i)
    by_cases hi : i = id
    · subst hi; simp only [upd, if_true]; exact True.intro
    · simp only [upd, if_neg hi]; exact h.row i m ei
  · have hio' : (upd H.f id .gone i).isOwn = true := hio
    have hjg' : (upd H.f id .gone j).isGone = false := hjg
    by_cases hi : i = id
    · subst hi; simp [upd, Blk.isOwn] at hio'
    · by_cases hj : j = id
      · subst hj; simp [upd, Blk.isGone] at hjg'
      · simp only [upd, if_neg hi] at hio'
        simp only [upd, if_neg hj] at hjg'
        exact h.apart i j li lj hij ei ej hio' hjg'

theorem Fr.giveUp {β : Emb} {H : Heap} {w : World} (id : Nat) : Fr β H w β (H.put id .gone) w := by
  refine ⟨rfl, rfl, rfl, Nat.le_refl _, fun _ _ _ => rfl, fun b hb ⟨i, m, ei, hio, em⟩ => ?_⟩
  have hio' : (upd H.f id .gone i).isOwn = true := hio
  by_cases hi : i = id
  · subst hi; simp [upd, Blk.isOwn] at hio'
  · simp only [upd, if_neg hi] at hio'
    exact ⟨i, m, ei, hio', em⟩

end Go.Ab

namespace Go.Ab
set_option linter.unusedVariables false
set_option linter.unusedSimpArgs false

/-! ### the types -/
section
variable {P : Program} {w : World} {t : TypeId}
theorem run_tsz {n : Nat} (h : tsz P t = some n) : (sizeOf t).run P w = .ok n w := by
  unfold tsz at h
  cases hi : P.info? t with
  | none => rw [hi] at h; cases h
  | some i => rw [hi] at h; simp [sizeOf, typeInfo, hi]; simpa using h
theorem run_tbytes {n : Nat} (h : tbytes P t = some n) : ∃ i, (typeInfo t).run P w = .ok i w ∧ i.bytes = n := by
  unfold tbytes at h
  cases hi : P.info? t with
  | none => rw [hi] at h; cases h
  | some i => rw [hi] at h; exact ⟨i, by simp [typeInfo, hi], by simpa using h⟩
theorem run_tzero {z : List AV} (h : tzero P t = some z) : ∃ zv, (zeroValue t).run P w = .ok zv w ∧ z = zv.cells.toList.map ofCell := by
  unfold tzero at h
  cases hi : P.info? t with
  | none => rw [hi] at h; simp at h
  | some i =>
    rw [hi] at h
    cases hz : i.zero with
    | none => simp [hz] at h
    | some zv => exact ⟨zv, by simp [zeroValue, typeInfo, hi, hz], by simpa [hz] using h.symm⟩
theorem tagg_und {b : Bool} (h : tagg P t = some b) : ∃ d, P.underlying t = some d ∧ (match d with | .struct _ | .array _ _ => true | _ => false) = b := by
  unfold tagg at h
  cases hu : P.underlying t with
  | none => rw [hu] at h; cases h
  | some d => rw [hu] at h; cases d <;> exact ⟨_, rfl, by simpa using h⟩
theorem run_tagg {b : Bool} (h : tagg P t = some b) : (isAgg t).run P w = .ok b w := by
  obtain ⟨d, hu, hb⟩ := tagg_und h
  simp only [isAgg, Sem.run_bind, run_underlying hu, Result.andThen_ok]
  cases d <;> simp at hb <;> subst hb <;> rfl
theorem telem_und {e : TypeId} (h : telem P t = some e) : P.underlying t = some (.slice e) := by
  unfold telem at h
  cases hu : P.underlying t with
  | none => rw [hu] at h; cases h
  | some d => rw [hu] at h; cases d <;> simp at h; subst h; rfl
theorem tfields_und {fs : List Field} (h : tfields P t = some fs) : ∃ a : Array Field, P.underlying t = some (.struct a) ∧ fs = a.toList := by
  unfold tfields at h
  cases hu : P.underlying t with
  | none => rw [hu] at h; cases h
  | some d => rw [hu] at h; cases d <;> simp at h; subst h; exact ⟨_, rfl, rfl⟩
theorem tarr_und {n : Nat} {e : TypeId} (h : tarr P t = some (n, e)) : P.underlying t = some (.array n e) := by
  unfold tarr at h
  cases hu : P.underlying t with
  | none => rw [hu] at h; cases h
  | some d => rw [hu] at h; cases d <;> simp at h; obtain ⟨rfl, rfl⟩ := h; rfl
theorem tint_und {k : IntKind} (h : tint P t = some k) : P.underlying t = some (.int k) := by
  unfold tint at h
  cases hu : P.underlying t with
  | none => rw [hu] at h; cases h
  | some d => rw [hu] at h; cases d <;> simp at h; subst h; rfl
theorem tflt_und {k : FloatKind} (h : tflt P t = some k) : P.underlying t = some (.float k) := by
  unfold tflt at h
  cases hu : P.underlying t with
  | none => rw [hu] at h; cases h
  | some d => rw [hu] at h; cases d <;> simp at h; subst h; rfl
theorem tbool_und (h : tbool P t = true) : P.underlying t = some .bool := by
  unfold tbool at h
  cases hu : P.underlying t with
  | none => rw [hu] at h; cases h
  | some d => rw [hu] at h; cases d <;> simp at h; rfl
theorem tstr_und (h : tstr P t = true) : P.underlying t = some .string := by
  unfold tstr at h
  cases hu : P.underlying t with
  | none => rw [hu] at h; cases h
  | some d => rw [hu] at h; cases d <;> simp at h; rfl
end

/-- What one operation leaves. -/
def Done (β : Emb) (H : Heap) (w : World) (r : Result Next) (v : TV) (H' : Heap) : Prop :=
  ∃ β' u w', (r = .ok (.value u) w' ∨ (r = .ok .skip w' ∧ u = undef)) ∧ Le β β' ∧ SR β' H' w' ∧ TVR β' v u ∧ Fr β H w β' H' w'

theorem Done.same {β : Emb} {H : Heap} {w : World} {r : Result Next} {v : TV} {u : Value} (hs : SR β H w) (hr : r = .ok (.value u) w) (hv : TVR β v u) : Done β H w r v H :=
  ⟨β, u, w, .inl hr, Le.refl β, hs, hv, Fr.refl β H w⟩

theorem Done.drew {β : Emb} {H : Heap} {w : World} {r : Result Next} {v : TV} {u : Value} (n : Nat) (hs : SR β H w) (hr : r = .ok (.value u) { w with drawn := n }) (hv : TVR β v u) : Done β H w r v H :=
  ⟨β, u, _, .inl hr, Le.refl β, hs.draw n, hv, Fr.draw n⟩

theorem VR_ofCell (β : Emb) (c : Value) : VR β (ofCell c) c := by
  cases c with
  | bool b => rfl
  | int k n => rfl
  | float k b => exact ⟨b, rfl, rfl⟩
  | string s => rfl
  | pointer a => cases a with | none => rfl | some a => trivial
  | slice a l c =>
    cases a with
    | none => cases l with
      | zero => cases c with
        | zero => rfl
        | succ n => trivial
      | succ n => trivial
    | some a => trivial
  | func f a b =>
    cases f with
    | func g =>
      show VR β (if a.size = 0 ∧ b.size = 0 then .fn g [] else .bad) _
      split
      · rename_i h
        have ha : a = #[] := by simpa using h.1
        have hb : b = #[] := by simpa using h.2
        subst ha hb
        exact ⟨[], rfl, trivial⟩
      · trivial
    | _ => trivial
  | nilIface => rfl
  | _ => trivial

theorem All2_ofCell (β : Emb) : ∀ l : List Value, All2 (VR β) (l.map ofCell) l
  | [] => trivial
  | c :: l => ⟨VR_ofCell β c, All2_ofCell β l⟩

theorem TVR_ofConst (β : Emb) (c : Value) : TVR β (ofConst c) c := by
  cases c with
  | agg cs => exact ⟨cs.toList, by simp, All2_ofCell β _⟩
  | tuple vs => trivial
  | bool b => exact VR_ofCell β (.bool b)
  | int k n => exact VR_ofCell β (.int k n)
  | float k b => exact VR_ofCell β (.float k b)
  | string s => exact VR_ofCell β (.string s)
  | pointer a => exact VR_ofCell β (.pointer a)
  | slice a l c => exact VR_ofCell β (.slice a l c)
  | func f a b => exact VR_ofCell β (.func f a b)
  | complex k a b => trivial
  | map r => trivial
  | chan r => trivial
  | nilFunc => trivial
  | iface a b => trivial
  | nilIface => exact VR_ofCell β .nilIface

theorem All2.stor {β : Emb} : ∀ {cs : List AV} {us : List Value}, All2 (VR β) cs us → cs.all AV.stor = true → All2 (VS β) cs us
  | [], [], _, _ => trivial
  | _ :: _, _ :: _, h, k => by simp at k; exact ⟨⟨h.1, k.1⟩, All2.stor h.2 (by simpa using k.2)⟩
  | [], _ :: _, h, _ => h.elim
  | _ :: _, [], h, _ => h.elim

theorem All2.vr {β : Emb} {cs : List AV} {us : List Value} (h : All2 (VS β) cs us) : All2 (VR β) cs us := h.mono fun _ _ h => h.1

theorem All2.ones {β : Emb} : ∀ {cs : List AV} {us : List Value}, All2 (VS β) cs us → ∀ u ∈ us, u.oneCell' = true
  | [], [], _, u, hu => by cases hu
  | _ :: _, v :: vs, h, u, hu => by
    cases hu with
    | head => exact h.1.one
    | tail _ hm => exact All2.ones h.2 u hm
  | [], _ :: _, h, _, _ => h.elim
  | _ :: _, [], h, _, _ => h.elim

theorem VR.single {β : Emb} {x : AV} {u : Value} (h : VR β x u) (hs : x.stor = true) : u.cells = #[u] := by
  have := VS.one ⟨h, hs⟩
  cases u <;> first | rfl | (simp [Value.oneCell'] at this)

/-- A value's cells. -/
theorem TVR.cells {β : Emb} {v : TV} {u : Value} {cs : List AV} (h : TVR β v u) (hc : v.cells = some cs) (hs : cs.all AV.stor = true) :
    ∃ us : List Value, u.cells = us.toArray ∧ All2 (VS β) cs us := by
  cases v with
  | v x =>
    simp [TV.cells] at hc
    subst hc
    simp at hs
    exact ⟨[u], by rw [VR.single h hs], ⟨h, hs⟩, trivial⟩
  | g c =>
    simp [TV.cells] at hc
    subst hc
    obtain ⟨us, rfl, h2⟩ := h
    exact ⟨us, rfl, h2.stor hs⟩
  | t _ => simp [TV.cells] at hc

section
variable {P : Program} {o : Oper} {ρ : Operand → Value} {ev : Operand → TV} {β : Emb} {H H' : Heap} {w : World} {v : TV}

theorem d_alloc (e : TypeId) (ho : o.op = .alloc e) (hs : SR β H w) (h : astep P ev (.alloc e) H = some (v, H')) : Done β H w ((execOp ρ o).run P w) v H' := by
  simp only [astep] at h
  cases hz : tzero P e with
  | none => rw [hz] at h; cases h
  | some z =>
    rw [hz] at h
    simp only [Option.bind_some] at h
    split at h
    · rename_i hst
      cases h
      obtain ⟨zv, h1, h2⟩ := run_tzero (w := w) hz
      have ha : All2 (VS β) z zv.cells.toList := (h2 ▸ All2_ofCell β zv.cells.toList : All2 (VR β) z _).stor hst
      refine ⟨_, .pointer (some ⟨w.heap.size, 0, none⟩), _, .inl ?_, Le.ext (hs.dom _ (Nat.le_refl _)), hs.alloc (t := e) (rest := []) (fz := (0, 0)) ha (.inl rfl), ?_, Fr.alloc hs _ _⟩
      · simp [execOp, ho, Instr.alloc, h1, newVar, newRow]
      · exact ⟨_, if_pos rfl, rfl⟩
    · cases h

theorem d_box (e : TypeId) (x : Operand) (ho : o.op = .box e x) (hs : SR β H w) (hv : TVR β (ev x) (ρ x)) (h : astep P ev (.box e x) H = some (v, H')) : Done β H w ((execOp ρ o).run P w) v H' := by
  simp only [astep] at h
  cases hz : (ev x).cells with
  | none => rw [hz] at h; cases h
  | some z =>
    rw [hz] at h
    simp only [Option.bind_some] at h
    split at h
    · rename_i hst
      cases h
      obtain ⟨us, h1, ha⟩ := hv.cells hz hst.2
      refine ⟨_, .pointer (some ⟨w.heap.size, 0, none⟩), _, .inl ?_, Le.ext (hs.dom _ (Nat.le_refl _)), hs.alloc (t := e) (rest := []) (fz := (0, 0)) ha (.inl rfl), ?_, Fr.alloc hs _ _⟩
      · simp [execOp, ho, Instr.box, h1, newVar, newRow]
      · exact ⟨_, if_pos rfl, rfl⟩
    · cases h

theorem d_load (t : TypeId) (x : Operand) (ho : o.op = .load t x) (hs : SR β H w) (hv : TVR β (ev x) (ρ x)) (h : astep P ev (.load t x) H = some (v, H')) : Done β H w ((execOp ρ o).run P w) v H' := by
  simp only [astep] at h
  split at h
  · rename_i id off he
    rw [he] at hv
    obtain ⟨l, hl, hp⟩ := hv
    split at h
    · rename_i hg
      split at h
      · rename_i n hn
        cases hr : rdCells H id off n with
        | none => rw [hr] at h; cases h
        | some c =>
          rw [hr] at h
          cases h
          obtain ⟨us, h1, h2, h3⟩ := cells_of hs hl hr
          refine Done.same hs (u := .agg us.toArray) ?_ ⟨us, rfl, h2.vr⟩
          have := run_loadCells (P := P) l.blk (l.base + off) us h3
          rw [h1] at this
          simp [execOp, ho, Instr.loadAt, hp, ptrV, Instr.sureAddr, loadVar, run_tagg hg, run_tsz hn, this]
      · cases h
    · rename_i hg
      cases hr : rdCell H id off with
      | none => rw [hr] at h; cases h
      | some c =>
        rw [hr] at h
        cases h
        obtain ⟨u, h1, h2⟩ := cell_of hs hl hr
        refine Done.same hs (u := u) ?_ h2.1
        simp [execOp, ho, Instr.loadAt, hp, ptrV, Instr.sureAddr, loadVar, run_tagg hg, h1]
    · cases h
  · cases h

theorem own_row (hs : SR β H w) {id : Nat} {l : Loc} {cs : List AV} (hl : β id = some l) (ho : H.f id = .own cs) :
    ∃ ccs e fz, w.heap[l.blk]? = some (.cells ccs e fz) ∧ l.base + l.size ≤ ccs.size ∧ cs.length ≤ l.size ∧ ∀ j, j < ccs.size → ¬ (fz.1 ≤ j ∧ j < fz.2) := by
  have := hs.row id l hl
  rw [ho] at this
  obtain ⟨ccs, e, fz, h1, _, h3, h4, h5⟩ := this
  exact ⟨ccs, e, fz, h1, h3, h4, h5.not⟩

/-- Some cells of a row of one's own are written. -/
theorem d_write (hs : SR β H w) {id off : Nat} {l : Loc} {new : List AV} {us : List Value} (hl : β id = some l) (hn : All2 (VS β) new us) (h : wrCells H id off new = some H') :
    ∃ w', (storeCells ⟨l.blk, l.base + off, none⟩ us 0).run P w = .ok () w' ∧ SR β H' w' ∧ Fr β H w β H' w' := by
  unfold wrCells at h
  split at h
  · rename_i cs ho
    split at h
    · rename_i hc
      cases h
      obtain ⟨ccs, e, fz, h1, h2, h3, h4⟩ := own_row hs hl ho
      obtain ⟨w', hr, hw⟩ := run_storeCells (P := P) l.blk (l.base + off) e fz us 0 w ccs hn.ones h1 (by rw [← hn.len]; omega) h4
      exact ⟨w', hr, hs.store hl ho h1 hc.1 hn (by simpa using hw), Fr.store hl ho hw⟩
    · cases h
  · cases h

theorem d_store (t : TypeId) (a x : Operand) (ho : o.op = .store t a x) (hs : SR β H w) (ha : TVR β (ev a) (ρ a)) (hv : TVR β (ev x) (ρ x)) (h : astep P ev (.store t a x) H = some (v, H')) :
    Done β H w ((execOp ρ o).run P w) v H' := by
  simp only [astep] at h
  split at h
  · rename_i id off c n he hc hn
    split at h
    · rename_i hlen
      rw [he] at ha
      obtain ⟨l, hl, hp⟩ := ha
      cases hw : wrCells H id off c with
      | none => rw [hw] at h; cases h
      | some H2 =>
        rw [hw] at h
        cases h
        have hst : c.all AV.stor = true := by
          unfold wrCells at hw
          split at hw
          · split at hw
            · rename_i hc'; exact hc'.2
            · cases hw
          · cases hw
        obtain ⟨us, h1, h2⟩ := hv.cells hc hst
        obtain ⟨w', hr, h3, h4⟩ := d_write (P := P) hs hl h2 hw
        refine ⟨β, undef, w', .inr ⟨?_, rfl⟩, Le.refl β, h3, rfl, h4⟩
        have hl2 : us.length = n := by rw [← h2.len]; exact hlen
        simp [execOp, ho, Instr.storeAt, hp, ptrV, Instr.sureAddr, storeVar, h1, run_tsz hn, hl2, hr]
    · cases h
  · cases h

theorem d_nilCheck (x : Operand) (ho : o.op = .nilCheck x) (hs : SR β H w) (hv : TVR β (ev x) (ρ x)) (h : astep P ev (.nilCheck x) H = some (v, H')) : Done β H w ((execOp ρ o).run P w) v H' := by
  simp only [astep] at h
  split at h
  · rename_i i f he
    cases h
    rw [he] at hv
    obtain ⟨l, hl, hp⟩ := hv
    refine Done.same hs (u := ρ x) ?_ ⟨l, hl, hp⟩
    simp [execOp, ho, hp, ptrV]
  · rename_i f c he
    cases h
    rw [he] at hv
    obtain ⟨us, hp, ha⟩ := hv
    refine Done.same hs (u := ρ x) ?_ ⟨us, hp, ha⟩
    simp [execOp, ho, hp]
  · cases h

theorem d_makeFunc (f : FuncId) (first captured : Array Operand) (ho : o.op = .makeFunc (.func f) first captured) (hs : SR β H w) (hv : ∀ x ∈ captured.toList, TVR β (ev x) (ρ x))
    (h : astep P ev (.makeFunc (.func f) first captured) H = some (v, H')) : Done β H w ((execOp ρ o).run P w) v H' := by
  simp only [astep] at h
  split at h
  · rename_i hf
    have hf' : first = #[] := by simpa using hf
    have key : ∀ (l : List Operand), (∀ x ∈ l, TVR β (ev x) (ρ x)) → ∀ c, capsOf ev l = some c → All2 (fun (c : Nat × Nat) u => ∃ m, β c.1 = some m ∧ u = ptrV m c.2) c (l.map ρ) := by
      intro l
      induction l with
      | nil => intro _ c hc; simp [capsOf] at hc; subst hc; trivial
      | cons x r ih =>
        intro hx c hc
        simp only [capsOf] at hc
        split at hc
        · rename_i i o' rs he hr
          cases hc
          have := hx x (by simp)
          rw [he] at this
          obtain ⟨m, hm, hp⟩ := this
          exact ⟨⟨m, hm, hp⟩, ih (fun y hy => hx y (by simp [hy])) rs hr⟩
        · cases hc
    cases hc : capsOf ev captured.toList with
    | none => rw [hc] at h; cases h
    | some c =>
      rw [hc] at h
      cases h
      refine Done.same hs (u := .func (.func f) #[] (captured.map ρ)) ?_ ⟨captured.toList.map ρ, by rw [show captured.map ρ = (captured.toList.map ρ).toArray from Array.ext' (by simp)], key _ hv c hc⟩
      simp [execOp, ho, Instr.makeFunc, hf']
  · cases h

theorem d_fieldAddr (st : TypeId) (x : Operand) (f : Nat) (ho : o.op = .fieldAddr st x f) (hs : SR β H w) (hv : TVR β (ev x) (ρ x)) (h : astep P ev (.fieldAddr st x f) H = some (v, H')) :
    Done β H w ((execOp ρ o).run P w) v H' := by
  simp only [astep] at h
  split at h
  · rename_i id off fd he hf
    split at h
    · rename_i hz
      cases h
      rw [he] at hv
      obtain ⟨l, hl, hp⟩ := hv
      cases hfs : tfields P st with
      | none => rw [hfs] at hf; cases hf
      | some fs =>
        rw [hfs] at hf
        obtain ⟨a, hu, rfl⟩ := tfields_und hfs
        simp at hf
        cases hsz : tsz P fd.type with
        | none => rw [hsz] at hz; cases hz
        | some n =>
          rw [hsz] at hz
          simp at hz
          refine Done.same hs (u := ptrV l (off + fd.offset)) ?_ ⟨l, hl, rfl⟩
          simp [execOp, ho, Instr.fieldAt, run_underlying hu, hf, hp, ptrV, Instr.sureAddr, fieldPlace, run_tsz hsz, Nat.ne_of_gt hz, addr_add, Nat.add_assoc]
    · cases h
  · cases h

theorem d_field (t : TypeId) (x : Operand) (f : Nat) (ho : o.op = .field t x f) (hs : SR β H w) (hv : TVR β (ev x) (ρ x)) (h : astep P ev (.field t x f) H = some (v, H')) :
    Done β H w ((execOp ρ o).run P w) v H' := by
  simp only [astep] at h
  split at h
  · rename_i cs fd he hf
    rw [he] at hv
    obtain ⟨us, hp, ha⟩ := hv
    cases hfs : tfields P t with
    | none => rw [hfs] at hf; cases hf
    | some fs =>
      rw [hfs] at hf
      obtain ⟨a, hu, rfl⟩ := tfields_und hfs
      simp at hf
      split at h
      · rename_i hg
        split at h
        · rename_i n hn
          split at h
          · rename_i hle
            cases h
            refine Done.same hs (u := .agg ((us.drop fd.offset).take n).toArray) ?_ ⟨_, rfl, (ha.drop _).take _⟩
            have : us.toArray.extract fd.offset (fd.offset + n) = ((us.drop fd.offset).take n).toArray := by
              apply Array.ext'
              simp [List.extract_eq_take_drop]
            simp [execOp, ho, Instr.field, run_underlying hu, hf, hp, asAgg, part, run_tagg hg, run_tsz hn, this]
          · cases h
        · cases h
      · rename_i hg
        cases hc : cs[fd.offset]? with
        | none => rw [hc] at h; cases h
        | some c =>
          rw [hc] at h
          cases h
          obtain ⟨u, h1, h2⟩ := ha.get _ _ hc
          refine Done.same hs (u := u) ?_ h2
          simp [execOp, ho, Instr.field, run_underlying hu, hf, hp, asAgg, part, run_tagg hg, h1]
      · cases h
  · cases h

theorem d_indexAddr (t : TypeId) (x i : Operand) (ho : o.op = .indexAddr t x i) (hs : SR β H w) (hv : TVR β (ev x) (ρ x)) (hi : TVR β (ev i) (ρ i)) (h : astep P ev (.indexAddr t x i) H = some (v, H')) :
    Done β H w ((execOp ρ o).run P w) v H' := by
  simp only [astep] at h
  split at h
  · rename_i id off len esz k n he hn
    rw [he] at hv
    rw [hn] at hi
    obtain ⟨l, a, cap, hl, hp, hlc, hor⟩ := hv
    have hi' : ρ i = .int k n := hi
    split at h
    · rename_i sz hsz
      split at h
      · rename_i hb
        cases h
        obtain ⟨rfl, h0, h1⟩ := hb
        cases hte : telem P t with
        | none => rw [hte] at hsz; cases hsz
        | some e =>
          rw [hte] at hsz
          simp at hsz
          have hu := telem_und hte
          rcases hor with ⟨rfl, _⟩ | ⟨hz, _⟩
          · refine Done.same hs (u := ptrV l (off + n.toNat * sz)) ?_ ⟨l, hl, rfl⟩
            simp [execOp, ho, Instr.indexAt, hi', hp, asIntOf, run_underlying hu, h0, h1, run_tsz hsz, addr_add, ptrV, Nat.add_assoc]
          · omega
      · cases h
    · cases h
  · rename_i id off k n he hn
    rw [he] at hv
    rw [hn] at hi
    obtain ⟨l, hl, hp⟩ := hv
    have hi' : ρ i = .int k n := hi
    split at h
    · rename_i len e hta
      split at h
      · rename_i sz hsz
        split at h
        · rename_i hb
          cases h
          have hu := tarr_und hta
          refine Done.same hs (u := ptrV l (off + n.toNat * sz)) ?_ ⟨l, hl, rfl⟩
          simp [execOp, ho, Instr.indexAt, hi', hp, ptrV, Instr.sureAddr, asIntOf, run_underlying hu, hb.1, hb.2, run_tsz hsz, addr_add, Nat.add_assoc]
        · cases h
      · cases h
    · cases h
  · cases h

theorem d_makeInterface (t : TypeId) (x : Operand) (ho : o.op = .makeInterface t x) (hs : SR β H w) (hv : TVR β (ev x) (ρ x)) (h : astep P ev (.makeInterface t x) H = some (v, H')) : Done β H w ((execOp ρ o).run P w) v H' := by
  simp only [astep] at h
  split at h
  · rename_i k n he
    rw [he] at hv
    have hx : ρ x = .int k n := hv
    split at h
    · rename_i ht
      cases h
      have hu : P.underlying t = some (.int k) := by
        unfold tint at ht
        split at ht
        · rename_i k' e; cases ht; exact e
        · cases ht
      refine Done.same hs (u := .iface t (.int k n)) ?_ rfl
      simp [execOp, ho, Instr.makeInterface, run_underlying hu, hx]
    · cases h
  · cases h

theorem d_index (t : TypeId) (x i : Operand) (ho : o.op = .index t x i) (hs : SR β H w) (hv : TVR β (ev x) (ρ x)) (hi : TVR β (ev i) (ρ i)) (h : astep P ev (.index t x i) H = some (v, H')) :
    Done β H w ((execOp ρ o).run P w) v H' := by
  simp only [astep] at h
  split at h
  · rename_i s k n he hn
    rw [he] at hv
    rw [hn] at hi
    have hp : ρ x = .string s := hv
    have hi' : ρ i = .int k n := hi
    split at h
    · rename_i hb
      cases hc : s[n.toNat]? with
      | none => rw [hc] at h; cases h
      | some b =>
        rw [hc] at h
        cases h
        refine Done.same hs (u := .int .u8 b.toNat) ?_ rfl
        simp [execOp, ho, Instr.index, hi', hp, asIntOf, run_underlying (tstr_und hb.1), hb.2, hc]
    · cases h
  · cases h

theorem d_extract (x : Operand) (i : Nat) (ho : o.op = .extract x i) (hs : SR β H w) (hv : TVR β (ev x) (ρ x)) (h : astep P ev (.extract x i) H = some (v, H')) : Done β H w ((execOp ρ o).run P w) v H' := by
  simp only [astep] at h
  split at h
  · rename_i vs he
    rw [he] at hv
    obtain ⟨us, hp, ha⟩ := hv
    cases hc : vs[i]? with
    | none => rw [hc] at h; cases h
    | some z =>
      rw [hc] at h
      cases h
      obtain ⟨u, h1, h2⟩ := ha.get _ _ hc
      refine Done.same hs (u := u) ?_ (by cases z <;> exact h2)
      simp [execOp, ho, Instr.extract, hp, h1]
  · cases h

end
/-! ### operators -/
theorem read_nan (f : Ieee.Format) (word : Nat) (h0 : f.binade ≤ f.infRung) (h : f.infRung < word % f.signWeight) : (f.read word).isNaN = true := by
  unfold Ieee.Format.read
  dsimp only
  rw [if_neg (by omega), if_neg (by omega), if_neg (by omega)]
  rfl

theorem nan_f32 (t : Nat) : (FloatKind.f32.decode ((t % 2) * 2 ^ 31 + 0x7f800000 + 1 + (t / 2) % (2 ^ 23 - 1))).isNaN = true := by
  refine read_nan Ieee.single _ (by decide) ?_
  have h2 : (t / 2) % (2 ^ 23 - 1) < 2 ^ 23 - 1 := Nat.mod_lt _ (by omega)
  have h1 : t % 2 < 2 := Nat.mod_lt _ (by omega)
  show (0x7f800000 : Nat) < ((t % 2) * 2 ^ 31 + 0x7f800000 + 1 + (t / 2) % (2 ^ 23 - 1)) % 2 ^ 31
  generalize t % 2 = a at *
  generalize (t / 2) % (2 ^ 23 - 1) = c at *
  omega

theorem nan_f64 (t : Nat) : (FloatKind.f64.decode ((t % 2) * 2 ^ 63 + 0x7ff0000000000000 + 1 + (t / 2) % (2 ^ 52 - 1))).isNaN = true := by
  refine read_nan Ieee.double _ (by decide) ?_
  have h2 : (t / 2) % (2 ^ 52 - 1) < 2 ^ 52 - 1 := Nat.mod_lt _ (by omega)
  have h1 : t % 2 < 2 := Nat.mod_lt _ (by omega)
  show (0x7ff0000000000000 : Nat) < ((t % 2) * 2 ^ 63 + 0x7ff0000000000000 + 1 + (t / 2) % (2 ^ 52 - 1)) % 2 ^ 63
  generalize t % 2 = a at *
  generalize (t / 2) % (2 ^ 52 - 1) = c at *
  omega

section
variable {P : Program} {o : Oper} {ρ : Operand → Value} {ev : Operand → TV} {β : Emb} {H H' : Heap} {w : World} {v : TV}

theorem run_floatArith (op : BinOp) (k : FloatKind) (x y : Nat) (h : op = .add ∨ op = .sub ∨ op = .mul ∨ op = .quo) :
    ∃ r n, (Op.floatArith op k x y).run P w = .ok (.float k r) { w with drawn := n } ∧ cz k r = ((floatBits op k x y).map (cz k)).getD (qnan k) := by
  cases hb : floatBits op k x y with
  | some r =>
    refine ⟨r, w.drawn, ?_, by simp⟩
    have hr : (Op.floatArith op k x y).run P w = .ok (.float k r) w := by
      unfold floatBits at hb
      rcases h with rfl | rfl | rfl | rfl <;> simp only at hb <;> simp [Op.floatArith, hb]
    exact hr
  | none =>
    have hn : ∀ t, (k.decode (Question.cut (.nanBits k x y) t)).isNaN = true := by
      intro t
      cases k
      · exact nan_f32 t
      · exact nan_f64 t
    refine ⟨Question.cut (.nanBits k x y) (w.tape w.drawn (.nanBits k x y)), w.drawn + 1, ?_, by simp [cz, hn]⟩
    unfold floatBits at hb
    rcases h with rfl | rfl | rfl | rfl <;> simp only at hb <;> simp [Op.floatArith, hb, Question.forced]

/-! ### what a float operation gives depends on no not-a-number's bits -/
theorem decode_cz (k : FloatKind) (b : Nat) : (k.decode b).isNaN = true ∧ (k.decode (cz k b)).isNaN = true ∨ (k.decode (cz k b)) = k.decode b := by
  unfold cz
  split
  · rename_i h
    exact .inl ⟨h, by cases k <;> rfl⟩
  · exact .inr rfl

theorem sum_nan_left {x y : Ieee.Datum} (h : x.isNaN = true) : x.sum y = none := by
  cases x <;> simp [Ieee.Datum.isNaN] at h
  cases y <;> rfl
theorem sum_nan_right {x y : Ieee.Datum} (h : y.isNaN = true) : x.sum y = none := by
  cases y <;> simp [Ieee.Datum.isNaN] at h
  cases x <;> rfl
theorem product_nan_left {x y : Ieee.Datum} (h : x.isNaN = true) : x.product y = none := by
  cases x <;> simp [Ieee.Datum.isNaN] at h
  cases y <;> rfl
theorem product_nan_right {x y : Ieee.Datum} (h : y.isNaN = true) : x.product y = none := by
  cases y <;> simp [Ieee.Datum.isNaN] at h
  cases x <;> rfl
theorem quotient_nan_left {n : Nat} {x y : Ieee.Datum} (h : x.isNaN = true) : x.quotient n y = none := by
  cases x <;> simp [Ieee.Datum.isNaN] at h
  cases y <;> rfl
theorem quotient_nan_right {n : Nat} {x y : Ieee.Datum} (h : y.isNaN = true) : x.quotient n y = none := by
  cases y <;> simp [Ieee.Datum.isNaN] at h
  cases x <;> rfl
theorem order_nan_left {x y : Ieee.Datum} (h : x.isNaN = true) : x.order y = none := by
  cases x <;> simp [Ieee.Datum.isNaN] at h
  cases y <;> rfl
theorem order_nan_right {x y : Ieee.Datum} (h : y.isNaN = true) : x.order y = none := by
  cases y <;> simp [Ieee.Datum.isNaN] at h
  cases x <;> rfl
theorem opposite_nan {y : Ieee.Datum} (h : y.isNaN = true) : y.opposite.isNaN = true := by
  cases y <;> simp [Ieee.Datum.isNaN] at h
  rfl

theorem order_cz (k : FloatKind) (a b : Nat) : k.format.order (cz k a) (cz k b) = k.format.order a b := by
  show (k.decode _).order (k.decode _) = (k.decode a).order (k.decode b)
  rcases decode_cz k a with ⟨h1, h2⟩ | h1
  · rw [order_nan_left h1, order_nan_left h2]
  · rw [h1]
    rcases decode_cz k b with ⟨h3, h4⟩ | h3
    · rw [order_nan_right h3, order_nan_right h4]
    · rw [h3]

theorem floatBits_cz (op : BinOp) (k : FloatKind) (a b : Nat) : floatBits op k (cz k a) (cz k b) = floatBits op k a b := by
  cases op <;> first
    | rfl
    | (show Option.map _ (Ieee.Datum.sum (k.decode _) (k.decode _)) = Option.map _ (Ieee.Datum.sum (k.decode a) (k.decode b))
       congr 1
       rcases decode_cz k a with ⟨h1, h2⟩ | h1
       · rw [sum_nan_left h1, sum_nan_left h2]
       · rw [h1]
         rcases decode_cz k b with ⟨h3, h4⟩ | h3
         · rw [sum_nan_right h3, sum_nan_right h4]
         · rw [h3])
    | (show Option.map _ (Ieee.Datum.sum (k.decode _) (k.decode _).opposite) = Option.map _ (Ieee.Datum.sum (k.decode a) (k.decode b).opposite)
       congr 1
       rcases decode_cz k a with ⟨h1, h2⟩ | h1
       · rw [sum_nan_left h1, sum_nan_left h2]
       · rw [h1]
         rcases decode_cz k b with ⟨h3, h4⟩ | h3
         · rw [sum_nan_right (opposite_nan h3), sum_nan_right (opposite_nan h4)]
         · rw [h3])
    | (show Option.map _ (Ieee.Datum.product (k.decode _) (k.decode _)) = Option.map _ (Ieee.Datum.product (k.decode a) (k.decode b))
       congr 1
       rcases decode_cz k a with ⟨h1, h2⟩ | h1
       · rw [product_nan_left h1, product_nan_left h2]
       · rw [h1]
         rcases decode_cz k b with ⟨h3, h4⟩ | h3
         · rw [product_nan_right h3, product_nan_right h4]
         · rw [h3])
    | (show Option.map _ (Ieee.Datum.quotient _ (k.decode _) (k.decode _)) = Option.map _ (Ieee.Datum.quotient _ (k.decode a) (k.decode b))
       congr 1
       rcases decode_cz k a with ⟨h1, h2⟩ | h1
       · rw [quotient_nan_left h1, quotient_nan_left h2]
       · rw [h1]
         rcases decode_cz k b with ⟨h3, h4⟩ | h3
         · rw [quotient_nan_right h3, quotient_nan_right h4]
         · rw [h3])

theorem fcmp_cz (op : BinOp) (k : FloatKind) (a b : Nat) : fcmp op k (cz k a) (cz k b) = fcmp op k a b := by
  unfold fcmp
  rw [order_cz]

theorem fop_cz (op : BinOp) (k : FloatKind) (a b : Nat) : fop op k (cz k a) (cz k b) = fop op k a b := by
  unfold fop
  rw [floatBits_cz]

/-- The machine's binary operation. -/
theorem run_bin (op : BinOp) (t : TypeId) {x y z : AV} {a b : Value} (hx : VR β x a) (hy : VR β y b) (h : abin P op t x y = some z) :
    ∃ u n, (binOp op t a b).run P w = .ok u { w with drawn := n } ∧ VR β z u := by
  cases x <;> cases y <;> simp only [abin] at h <;> first | (cases h; done) | skip
  case int.int k i k' j =>
    have ha : a = .int k i := hx
    have hb : b = .int k' j := hy
    subst ha hb
    have same : ∀ r, (binOp op t (.int k i) (.int k' j)).run P w = .ok r w → VR β z r →
        ∃ u n, (binOp op t (.int k i) (.int k' j)).run P w = .ok u { w with drawn := n } ∧ VR β z u := fun r h1 h2 => ⟨r, w.drawn, h1, h2⟩
    cases op <;> simp only [ishift, iop] at h <;> first
      | (cases h; done)
      | (split at h
         · cases h
         · rename_i hj
           cases h
           exact same _ (by simp [binOp, Op.shift, hj]) rfl)
      | (split at h
         · rename_i hk
           subst hk
           first
             | (cases h; exact same _ (by simp [binOp, Op.intArith, Op.intBits, Op.intCmp, ibits]) rfl)
             | (split at h
                · cases h
                · rename_i hz
                  cases h
                  exact same _ (by simp [binOp, Op.intDiv, hz]) rfl)
         · cases h)
  case flt.flt k i k' j =>
    obtain ⟨a', rfl, ha⟩ := hx
    obtain ⟨b', rfl, hb⟩ := hy
    split at h
    · rename_i hk
      subst hk
      subst ha hb
      have arith : ∀ op', (op' = .add ∨ op' = .sub ∨ op' = .mul ∨ op' = .quo) → op = op' → some (AV.flt k (fop op' k (cz k a') (cz k b'))) = some z →
          ∃ u n, (binOp op t (.float k a') (.float k b')).run P w = .ok u { w with drawn := n } ∧ VR β z u := by
        intro op' hop e hz
        subst e
        cases hz
        obtain ⟨r, n, h1, h2⟩ := run_floatArith (P := P) (w := w) op k a' b' hop
        refine ⟨.float k r, n, ?_, ⟨r, rfl, ?_⟩⟩
        · rcases hop with rfl | rfl | rfl | rfl <;> simp [binOp, h1]
        · rw [fop_cz]; exact h2
      have cmp : ∀ op', op = op' → some (AV.bool (fcmp op' k (cz k a') (cz k b'))) = some z → (op' = .eql ∨ op' = .neq ∨ op' = .lss ∨ op' = .leq ∨ op' = .gtr ∨ op' = .geq) →
          ∃ u n, (binOp op t (.float k a') (.float k b')).run P w = .ok u { w with drawn := n } ∧ VR β z u := by
        intro op' e hz hop
        subst e
        cases hz
        rw [fcmp_cz]
        refine ⟨.bool (fcmp op k a' b'), w.drawn, ?_, rfl⟩
        rcases hop with rfl | rfl | rfl | rfl | rfl | rfl <;> simp [binOp, Op.floatCmp, fcmp]
      cases op <;> simp only at h <;> first
        | (cases h; done)
        | exact arith _ (by simp) rfl h
        | exact cmp _ rfl h (by simp)
    · cases h
  case str.str i j =>
    have ha : a = .string i := hx
    have hb : b = .string j := hy
    subst ha hb
    have same : ∀ r, (binOp op t (.string i) (.string j)).run P w = .ok r w → VR β z r →
        ∃ u n, (binOp op t (.string i) (.string j)).run P w = .ok u { w with drawn := n } ∧ VR β z u := fun r h1 h2 => ⟨r, w.drawn, h1, h2⟩
    cases op <;> simp only [sop] at h <;> first
      | (cases h; done)
      | (cases h; exact same _ (by simp [binOp, Op.stringOp]) rfl)
      | (split at h
         · rename_i hz
           cases h
           refine same _ ?_ rfl
           have hm : IntKind.i64.max = 9223372036854775807 := rfl
           simp [binOp, Op.stringOp, hm]
           omega
         · cases h)
  case bool.bool i j =>
    have ha : a = .bool i := hx
    have hb : b = .bool j := hy
    subst ha hb
    split at h
    · rename_i ht
      have hu := tbool_und ht
      have same : ∀ r, (binOp op t (.bool i) (.bool j)).run P w = .ok r w → VR β z r →
          ∃ u n, (binOp op t (.bool i) (.bool j)).run P w = .ok u { w with drawn := n } ∧ VR β z u := fun r h1 h2 => ⟨r, w.drawn, h1, h2⟩
      have he : (Op.equal t (.bool i) (.bool j)).run P w = .ok (i == j) w := by
        have key : ∀ d, (Op.equalIn (d + 1) t (.bool i) (.bool j)).run P w = .ok (i == j) w := fun d => by simp [Op.equalIn, run_underlying hu]
        exact key 9999
      cases op <;> simp only at h <;> first
        | (cases h; done)
        | (cases h; exact same _ (by simp [binOp, he]) rfl)
    · cases h

theorem run_eqGuard (op : BinOp) (t : TypeId) (xo yo : Operand) {x y z : AV} {a b : Value} (hx : VR β x a) (hy : VR β y b) (h : abin P op t x y = some z) :
    (eqGuard op t xo yo a b).run P w = .ok () w := by
  cases x <;> cases y <;> simp only [abin] at h <;> first | (cases h; done) | skip
  · have ha : a = _ := hx; have hb : b = _ := hy; subst ha hb; cases op <;> rfl
  · have ha : a = _ := hx; have hb : b = _ := hy; subst ha hb; cases op <;> rfl
  · obtain ⟨_, rfl, _⟩ := hx; obtain ⟨_, rfl, _⟩ := hy; cases op <;> rfl
  · have ha : a = _ := hx; have hb : b = _ := hy; subst ha hb; cases op <;> rfl

theorem run_ifc_eq {t : TypeId} {ms : Array (String × TypeId)} (hu : P.underlying t = some (.interface ms)) {a : Value} {p : Bool} (ha : (p = true ∧ a = .nilIface) ∨ (p = false ∧ ∃ t p, a = .iface t p)) : (Op.equal t a .nilIface).run P w = .ok p w := by
  unfold Op.equal
  rw [show Op.maxDepth = 9999 + 1 from rfl, Op.equalIn]
  rcases ha with ⟨rfl, rfl⟩ | ⟨rfl, tt, pp, rfl⟩
  · simp only [Sem.run_bind, run_underlying hu, Result.andThen_ok]; rfl
  · simp only [Sem.run_bind, run_underlying hu, Result.andThen_ok]; rfl
theorem run_ifc_guard (op : BinOp) (t : TypeId) (x : Operand) (c : Value) {a : Value} {p : Bool} (ha : (p = true ∧ a = .nilIface) ∨ (p = false ∧ ∃ t p, a = .iface t p)) : (eqGuard op t x (.const c) a .nilIface).run P w = .ok () w := by
  rcases ha with ⟨rfl, rfl⟩ | ⟨rfl, tt, pp, rfl⟩
  · cases op <;> first | rfl | (unfold eqGuard; cases x <;> rfl)
  · cases op <;> rfl
theorem d_binOp (op : BinOp) (t t2 : TypeId) (x y : Operand) (ho : o.op = .binOp op t x y t2) (hs : SR β H w) (hx : TVR β (ev x) (ρ x)) (hy : TVR β (ev y) (ρ y))
    (h : astep P ev (.binOp op t x y t2) H = some (v, H')) : Done β H w ((execOp ρ o).run P w) v H' := by
  simp only [astep] at h
  split at h
  · rename_i a b ea eb
    rw [ea] at hx
    rw [eb] at hy
    cases hz : abin P op t a b with
    | none =>
      rw [hz, Option.none_or] at h
      cases hf : aifc P op t y a b with
      | none => rw [hf] at h; cases h
      | some z =>
        rw [hf] at h
        cases h
        unfold aifc at hf
        split at hf <;> first | (cases hf; done) | skip
        rename_i c p
        split at hf <;> first | (cases hf; done) | skip
        rename_i ht
        have hu : ∃ ms, P.underlying t = some (.interface ms) := by
          unfold tif at ht
          split at ht
          · exact ⟨_, by assumption⟩
          · cases ht
        obtain ⟨ms, hu⟩ := hu
        have hy' : ρ (.const c) = .nilIface := hy
        have hx := IfR.cases hx
        have he := run_ifc_eq (P := P) (w := w) hu hx
        have hg := run_ifc_guard (P := P) (w := w) op t x c hx
        rw [← hy'] at hg he
        cases op <;> first | (cases hf; done) | skip
        · cases hf
          refine Done.same hs (u := .bool p.isNil) ?_ rfl
          rcases hx with ⟨_, hx'⟩ | ⟨_, tt, pp, hx'⟩ <;> (rw [hx', hy'] at he hg; simp [execOp, ho, hx', hy', hg, binOp, he])
        · cases hf
          refine Done.same hs (u := .bool (!p.isNil)) ?_ rfl
          rcases hx with ⟨_, hx'⟩ | ⟨_, tt, pp, hx'⟩ <;> (rw [hx', hy'] at he hg; simp [execOp, ho, hx', hy', hg, binOp, he])
    | some z =>
      rw [hz, Option.some_or] at h
      cases h
      obtain ⟨u, n, h1, h2⟩ := run_bin (P := P) (w := w) op t hx hy hz
      refine Done.drew n hs (u := u) ?_ h2
      simp [execOp, ho, run_eqGuard (P := P) (w := w) op t x y hx hy hz, h1]
  · cases h

theorem negFloat_nan (k : FloatKind) (b : Nat) : (k.decode (Op.negFloat k b)).isNaN = (k.decode b).isNaN := by
  have key : ∀ (f : Ieee.Format) (m : Nat), f.exponentBits + f.fractionBits = m → (f.read (b ^^^ 2 ^ m)).isNaN = (f.read b).isNaN := by
    intro f m hm
    unfold Ieee.Format.read Ieee.Format.signWeight
    rw [hm]
    have h2 : (b ^^^ 2 ^ m) % 2 ^ m = b % 2 ^ m := by
      rw [Nat.xor_mod_two_pow]
      simp
    rw [h2]
    dsimp only
    split
    · rfl
    · split
      · rfl
      · split <;> rfl
  cases k
  · exact key Ieee.single 31 rfl
  · exact key Ieee.double 63 rfl

theorem d_unOp (op : UnOp) (t : TypeId) (x : Operand) (ho : o.op = .unOp op t x) (hs : SR β H w) (hx : TVR β (ev x) (ρ x)) (h : astep P ev (.unOp op t x) H = some (v, H')) :
    Done β H w ((execOp ρ o).run P w) v H' := by
  simp only [astep] at h
  split at h
  · rename_i a ea
    rw [ea] at hx
    cases hz : aun op a with
    | none => rw [hz] at h; cases h
    | some z =>
      rw [hz] at h
      cases h
      unfold aun at hz
      split at hz <;> first | (cases hz; done) | skip
      · rename_i k n
        have hx' : ρ x = .int k n := hx
        cases hz
        exact Done.same hs (u := .int k (k.wrap (0 - n))) (by simp [execOp, ho, hx', Op.unary, Op.intArith]) rfl
      · rename_i k n
        have hx' : ρ x = .int k n := hx
        cases hz
        exact Done.same hs (u := .int k _) (by simp [execOp, ho, hx', Op.unary, Op.intBits, ibits]) rfl
      · rename_i k b
        obtain ⟨b', hx', hb⟩ := hx
        cases hz
        refine Done.same hs (u := .float k (Op.negFloat k b')) (by simp [execOp, ho, hx', Op.unary]) ⟨_, rfl, ?_⟩
        subst hb
        rcases decode_cz k b' with ⟨h1, h2⟩ | h1
        · unfold cz
          rw [negFloat_nan, negFloat_nan, h1, if_pos rfl, if_pos (by simpa [cz, h1] using h2)]
        · have : cz k b' = b' ∨ (k.decode b').isNaN = true := by
            unfold cz
            split
            · rename_i h; exact .inr h
            · exact .inl rfl
          rcases this with h3 | h3
          · rw [h3]
          · unfold cz
            rw [negFloat_nan, negFloat_nan, h3, if_pos rfl, if_pos]
            have : (k.decode (qnan k)).isNaN = true := by cases k <;> rfl
            simpa [h3] using this
      · rename_i b
        have hx' : ρ x = .bool b := hx
        cases hz
        exact Done.same hs (u := .bool (!b)) (by simp [execOp, ho, hx', Op.unary]) rfl
  · cases h


/-! ### conversions -/
theorem toInt_nan {d : Ieee.Datum} {way : Ieee.Toward} (h : d.isNaN = true) : d.toInt way = none := by
  cases d <;> simp [Ieee.Datum.isNaN] at h
  rfl

theorem floatToIntVal_cz (s : FloatKind) (b : Nat) (k : IntKind) : floatToIntVal s (cz s b) k = floatToIntVal s b k := by
  unfold floatToIntVal
  rcases decode_cz s b with ⟨h1, h2⟩ | h1
  · rw [toInt_nan h1, toInt_nan h2]
  · rw [h1]

theorem run_conv_int (src dst : TypeId) (q k : IntKind) (n : Int) (hs : (P.underlying src).isSome = true) (hd : P.underlying dst = some (.int k)) :
    (convert src dst (.int q n)).run P w = .ok (.int k (k.wrap n)) w := by
  obtain ⟨u, hs'⟩ := Option.isSome_iff_exists.1 hs
  cases u <;> simp [convert, run_underlying hs', run_underlying hd, Conv.intToInt]

theorem run_conv_float (src dst : TypeId) (s k : FloatKind) (b r : Nat) (hs : (P.underlying src).isSome = true) (hd : P.underlying dst = some (.float k)) (h : fconv s (cz s b) k = some r) :
    ∃ r' n, (convert src dst (.float s b)).run P w = .ok (.float k r') { w with drawn := n } ∧ cz k r' = r := by
  obtain ⟨u, hs'⟩ := Option.isSome_iff_exists.1 hs
  have hc : ∀ x, (Conv.floatToFloat s b k).run P w = x → (convert src dst (.float s b)).run P w = x := fun x hx => by
    cases u <;> simp [convert, run_underlying hs', run_underlying hd, hx]
  unfold fconv at h
  split at h
  · rename_i e
    subst e
    cases h
    exact ⟨b, w.drawn, hc _ (by simp [Conv.floatToFloat]), rfl⟩
  · rename_i ne
    rcases decode_cz s b with ⟨h1, h2⟩ | h1
    · cases hd1 : s.decode (cz s b) with
      | nan g t =>
        rw [hd1] at h
        cases h
        have hn : ∀ t, (k.decode (Question.cut (.nanConv k b) t)).isNaN = true := by
          intro t
          cases k
          · exact nan_f32 t
          · exact nan_f64 t
        refine ⟨Question.cut (.nanConv k b) (w.tape w.drawn (.nanConv k b)), w.drawn + 1, hc _ ?_, by simp [cz, hn]⟩
        cases hd2 : s.decode b with
        | nan g t => simp [Conv.floatToFloat, ne, hd2, Question.forced]
        | infinity g => rw [hd2] at h1; simp [Ieee.Datum.isNaN] at h1
        | number a b c => rw [hd2] at h1; simp [Ieee.Datum.isNaN] at h1
      | infinity g => rw [hd1] at h2; simp [Ieee.Datum.isNaN] at h2
      | number a b c => rw [hd1] at h2; simp [Ieee.Datum.isNaN] at h2
    · rw [h1] at h
      cases hd2 : s.decode b with
      | nan g t =>
        rw [hd2] at h
        cases h
        have hn : ∀ t, (k.decode (Question.cut (.nanConv k b) t)).isNaN = true := by
          intro t
          cases k
          · exact nan_f32 t
          · exact nan_f64 t
        exact ⟨Question.cut (.nanConv k b) (w.tape w.drawn (.nanConv k b)), w.drawn + 1, hc _ (by simp [Conv.floatToFloat, ne, hd2, Question.forced]), by simp [cz, hn]⟩
      | infinity g =>
        rw [hd2] at h
        cases h
        exact ⟨k.encode (.infinity g), w.drawn, hc _ (by simp [Conv.floatToFloat, ne, hd2]), rfl⟩
      | number g m e =>
        rw [hd2] at h
        simp only at h
        split at h
        · cases h
        · rename_i hi
          cases h
          exact ⟨k.encode (.number g m e), w.drawn, hc _ (by simp [Conv.floatToFloat, ne, hd2, hi]), rfl⟩

theorem strOfCells_all {β : Emb} : ∀ {cs : List AV} {us : List Value} {l : List UInt8}, All2 (VS β) cs us → strOfCells cs = some l →
    ∃ ns : List Int, us = ns.map (Value.int .u8) ∧ l = ns.map fun n => UInt8.ofNat n.toNat
  | [], [], l, _, h => by simp [strOfCells] at h; subst h; exact ⟨[], rfl, rfl⟩
  | c :: cs, u :: us, l, h, hl => by
    unfold strOfCells at hl
    split at hl
    · rename_i e; cases e
    · rename_i n r e
      cases e
      cases hr : strOfCells cs with
      | none => rw [hr] at hl; cases hl
      | some t =>
        rw [hr] at hl
        cases hl
        obtain ⟨ns, h1, h2⟩ := strOfCells_all h.2 hr
        have : u = .int .u8 n := h.1.1
        exact ⟨n :: ns, by simp [this, h1], by simp [h2]⟩
    · cases hl
  | [], _ :: _, _, h, _ => h.elim
  | _ :: _, [], _, h, _ => h.elim

theorem foldl_push (ns : List Int) (acc : ByteArray) :
    (ns.foldl (fun (r : ByteArray) n => r.push (UInt8.ofNat n.toNat)) acc) = ⟨acc.data ++ (ns.map fun n => UInt8.ofNat n.toNat).toArray⟩ := by
  induction ns generalizing acc with
  | nil => simp
  | cons n ns ih =>
    rw [List.foldl_cons, ih]
    simp [ByteArray.push]

theorem modify_push {α : Type} (a : Array α) (x : α) (f : α → α) : (a.push x).modify a.size f = a.push (f x) := by
  apply Array.ext (by simp)
  intro i h1 h2
  rw [Array.getElem_modify]
  by_cases hi : a.size = i
  · subst hi; simp
  · simp only [hi, if_false]
    simp at h1
    rw [Array.getElem_push_lt (by omega), Array.getElem_push_lt (by omega)]

theorem d_convert (src dst : TypeId) (x : Operand) (ho : o.op = .convert src dst x) (hs : SR β H w) (hx : TVR β (ev x) (ρ x)) (h : astep P ev (.convert src dst x) H = some (v, H')) :
    Done β H w ((execOp ρ o).run P w) v H' := by
  simp only [astep] at h
  split at h
  · rename_i s es
    rw [es] at hx
    have hx' : ρ x = .string s := hx
    split at h
    · cases h
    · rename_i hsr
      have hsr' : (P.underlying src).isSome = true := by
        cases hh : (P.underlying src).isSome with
        | true => rfl
        | false => exact absurd hh hsr
      obtain ⟨u, hu⟩ := Option.isSome_iff_exists.1 hsr'
      split at h
      · rename_i hd
        cases h
        refine Done.same hs (u := .string s) ?_ rfl
        cases u <;> simp [execOp, ho, hx', convert, run_underlying hu, run_underlying (tstr_und hd)]
      · split at h
        · rename_i e he
          split at h
          · rename_i hk
            cases h
            have hd := telem_und he
            have hk' := tint_und hk
            let cap := Question.cut (.appendCap s.size 0 e) (w.tape w.drawn (.appendCap s.size 0 e))
            have ha : All2 (VS β) (s.data.toList.map fun b => AV.int .u8 b.toNat) (s.data.toList.map fun b => Value.int .u8 b.toNat) :=
              All2.map (fun b => ⟨rfl, rfl⟩) _
            have hsz : (s.data.toList.map fun b => Value.int .u8 b.toNat).length = s.size := by
              rw [List.length_map]; rfl
            have hcap : s.size ≤ cap := by
              show s.size ≤ s.size + _
              omega
            refine ⟨_, .slice (some ⟨w.heap.size, 0, none⟩) s.size cap, _, .inl ?_, Le.ext (hs.dom _ (Nat.le_refl _)),
              (hs.draw (w.drawn + 1)).alloc (t := e) (rest := List.replicate (cap - s.size) (Value.int .u8 0)) (fz := ((s.data.toList.map fun b => Value.int .u8 b.toNat).length + (List.replicate (cap - s.size) (Value.int .u8 0)).length, (s.data.toList.map fun b => Value.int .u8 b.toNat).length + (List.replicate (cap - s.size) (Value.int .u8 0)).length + 1)) ha (.inr (Nat.le_refl _)),
              ?_, ?_⟩
            · have hrun : (Conv.stringToBytes e s).run P w = .ok (.slice (some ⟨w.heap.size, 0, none⟩) s.size cap)
                  { ({ w with drawn := w.drawn + 1 } : World) with heap := w.heap.push (.cells ((s.data.toList.map fun b => Value.int .u8 b.toNat) ++ List.replicate (cap - s.size) (Value.int .u8 0)).toArray e
                    ((s.data.toList.map fun b => Value.int .u8 b.toNat).length + (List.replicate (cap - s.size) (Value.int .u8 0)).length, (s.data.toList.map fun b => Value.int .u8 b.toNat).length + (List.replicate (cap - s.size) (Value.int .u8 0)).length + 1)) } := by
                have harr : (s.data.map fun b => Value.int .u8 b.toNat) ++ Array.replicate (cap - s.size) (Value.int .u8 0) =
                    ((s.data.toList.map fun b => Value.int .u8 b.toNat) ++ List.replicate (cap - s.size) (Value.int .u8 0)).toArray := Array.ext' (by simp)
                simp only [Conv.stringToBytes, Sem.run_bind, run_choose, Question.forced, Bool.false_eq_true, if_false, Result.andThen_ok, newRow, Sem.run_map, run_newObj, Sem.run_pure, markStringish, run_shape]
                rw [show (Question.cut (.appendCap s.size 0 e) (w.tape w.drawn (.appendCap s.size 0 e))) = cap from rfl, harr]
                have hsh : ({ ({ w with drawn := w.drawn + 1 } : World) with heap := w.heap.push (.cells ((s.data.toList.map fun b => Value.int .u8 b.toNat) ++ List.replicate (cap - s.size) (Value.int .u8 0)).toArray e) } : World).shape? w.heap.size =
                    some (e, (s.data.toList.map fun b => Value.int .u8 b.toNat).length + (List.replicate (cap - s.size) (Value.int .u8 0)).length) := by
                  simp [World.shape?]
                dsimp only at hsh
                rw [hsh]
                simp [World.freeze, modify_push]
              cases u <;> simp [execOp, ho, hx', convert, run_underlying hu, run_underlying hd, run_underlying hk', hrun]
            · exact ⟨_, _, cap, if_pos rfl, rfl, hcap, .inl ⟨rfl, by simp; omega⟩⟩
            · exact (Fr.draw (w.drawn + 1)).trans (Fr.alloc (hs.draw (w.drawn + 1)) _ _)
          · cases h
        · cases h
  · rename_i id off len esz es
    rw [es] at hx
    obtain ⟨l, a, cap, hl, hx', hlc, hor⟩ := hx
    split at h
    · rename_i e he
      split at h
      · rename_i hk
        obtain ⟨hk1, hk2, rfl⟩ := hk
        cases hr : rdCells H id off len with
        | none => rw [hr] at h; cases h
        | some cs =>
          rw [hr] at h
          simp only [Option.bind_some] at h
          cases hst : strOfCells cs with
          | none => rw [hst] at h; cases h
          | some bl =>
            rw [hst] at h
            cases h
            obtain ⟨us, h1, h2, h3⟩ := cells_of hs hl hr
            obtain ⟨ns, h4, h5⟩ := strOfCells_all h2 hst
            refine Done.same hs (u := .string ⟨bl.toArray⟩) ?_ rfl
            have hconv : (convert src dst (.slice a len cap)).run P w = (Conv.bytesToString (.slice a len cap)).run P w := by
              simp [convert, run_underlying (telem_und he), run_underlying (tstr_und hk2), run_underlying (tint_und hk1)]
            have hbs : (Conv.bytesToString (.slice a len cap)).run P w = .ok (.string ⟨bl.toArray⟩) w := by
              rcases hor with ⟨rfl, _⟩ | ⟨rfl, rfl⟩
              · have hload : (loadCells ⟨l.blk, l.base + off, none⟩ len).run P w = .ok (ns.map (Value.int .u8)).toArray w := by
                  have := run_loadCells (P := P) l.blk (l.base + off) us h3
                  rw [h1, h4] at this; exact this
                rw [run_bytesToString w _ len cap ns hload, foldl_push, h5]
                simp
              · have hcs : us = [] := List.length_eq_zero_iff.1 h1
                have hns : ns = [] := by rw [hcs] at h4; simpa using h4.symm
                subst hns
                subst h5
                cases a with
                | none => simp [Conv.bytesToString]; rfl
                | some ad => rw [run_bytesToString w ad 0 0 [] (by simp [loadCells, loadCellsFrom])]; rfl
            simp [execOp, ho, hx', hconv, hbs]
      · split at h
        · rename_i hk
          obtain ⟨rfl, hk1, hlen, hown⟩ := hk
          cases h
          rcases hor with ⟨rfl, _⟩ | ⟨h0, _⟩
          case inr => omega
          obtain ⟨cs, hcs⟩ : ∃ cs, H.f id = .own cs := by
            cases hb : H.f id with
            | own cs => exact ⟨cs, rfl⟩
            | ro cs => rw [hb] at hown; cases hown
            | gone => rw [hb] at hown; cases hown
            | tab b o => rw [hb] at hown; cases hown
            | hole => rw [hb] at hown; cases hown
            | mp _ _ _ => rw [hb] at hown; cases hown
          have hrow := hs.row id l hl
          rw [hcs] at hrow
          obtain ⟨ccs, t, fz, g1, g2, g3, g4, g5⟩ := hrow
          have hblt : l.blk < w.heap.size := by
            rcases Nat.lt_or_ge l.blk w.heap.size with h' | h'
            · exact h'
            · simp [Array.getElem?_eq_none h'] at g1
          let w' : World := w.freeze { block := l.blk, off := ccs.size } 1
          have hw' : ∀ b, b ≠ l.blk → w'.heap[b]? = w.heap[b]? := fun b hb => by
            simp [w', World.freeze, Array.getElem?_modify, Ne.symm hb]
          have hwb : ∃ fz', w'.heap[l.blk]? = some (.cells ccs t fz') ∧ NF fz' ccs.size := by
            refine ⟨if fz.1 == fz.2 then (ccs.size, ccs.size + 1) else (min fz.1 ccs.size, max fz.2 (ccs.size + 1)), ?_, ?_⟩
            · simp [w', World.freeze, Array.getElem?_modify, g1]
            · by_cases hz : fz.1 = fz.2
              · simp only [hz, BEq.rfl, if_true]; exact .inr (Nat.le_refl _)
              · rcases g5 with g5 | g5
                · exact absurd g5 hz
                · have : (fz.1 == fz.2) = false := by simpa using hz
                  rw [this]
                  exact .inr (by simp; omega)
          have hsame : ∀ i m, β i = some m → (H.f i).isGone = false → i ≠ id → m.blk ≠ l.blk := fun i m ei hg hne e =>
            hs.apart id i l m (Ne.symm hne) hl ei (by rw [hcs]; rfl) hg e.symm
          have hs' : SR β H w' := by
            refine ⟨hs.dom, hs.tot, fun i m ei => ?_, hs.apart⟩
            by_cases hi : i = id
            · subst hi
              obtain rfl : m = l := by rw [hl] at ei; exact (Option.some.inj ei).symm
              rw [hcs]
              obtain ⟨fz', k1, k2⟩ := hwb
              exact ⟨ccs, t, fz', k1, g2, g3, g4, k2⟩
            · cases hg : (H.f i).isGone with
              | true => cases hb : H.f i <;> rw [hb] at hg <;> first | trivial | cases hg
              | false => exact RowR.other (fun _ => hw' _ (hsame i m ei hg hi)) (hs.row i m ei)
          have hsz : w'.heap.size = w.heap.size := by simp [w', World.freeze]
          have hfr : Fr β H w β H w' := ⟨rfl, rfl, rfl, by rw [hsz]; exact Nat.le_refl _, fun b hb hn => hw' b fun e => hn ⟨id, l, hl, by rw [hcs]; rfl, e.symm⟩, fun _ _ h => h⟩
          have hshp : w.shape? l.blk = some (t, ccs.size) := by simp [World.shape?, g1]
          refine ⟨β, .slice (some ⟨l.blk, l.base + off, none⟩) len cap, w', .inl ?_, Le.refl β, hs', ⟨l, _, cap, hl, rfl, hlc, .inl ⟨rfl, by assumption⟩⟩, hfr⟩
          simp [execOp, ho, hx', convert, run_underlying (telem_und he), run_underlying (tint_und hk1), markStringish, hshp, w']
        · cases h
    · cases h
  · rename_i a hq1 hq2 ea
    clear hq1 hq2
    rw [ea] at hx
    split at h
    · rename_i hsr
      cases hz : aconv P dst a with
      | none => rw [hz] at h; cases h
      | some z =>
        rw [hz] at h
        cases h
        cases a <;> simp only [aconv] at hz <;> first | (cases hz; done) | skip
        case int q n =>
          have hx' : ρ x = .int q n := hx
          split at hz
          · rename_i k hk
            cases hz
            exact Done.same hs (u := .int k (k.wrap n)) (by simp [execOp, ho, hx', run_conv_int src dst q k n hsr (tint_und hk)]) rfl
          · split at hz
            · rename_i k hk
              cases hz
              exact Done.same hs (u := .float k (floatOfInt k n)) (by simp [execOp, ho, hx', run_convert_int_float w src dst q k n hsr (tflt_und hk)]) ⟨_, rfl, rfl⟩
            · cases hz
        case flt s b =>
          obtain ⟨b', hx', hb⟩ := hx
          split at hz
          · rename_i k hk
            subst hb
            rw [floatToIntVal_cz] at hz
            cases hf : floatToIntVal s b' k with
            | none => rw [hf] at hz; cases hz
            | some n =>
              rw [hf] at hz
              cases hz
              exact Done.same hs (u := .int k n) (by simp [execOp, ho, hx', run_convert_float_int w src dst s k b' n hsr (tint_und hk) hf]) rfl
          · split at hz
            · rename_i k hk
              cases hf : fconv s b k with
              | none => rw [hf] at hz; cases hz
              | some r =>
                rw [hf] at hz
                cases hz
                subst hb
                obtain ⟨r', n, h1, h2⟩ := run_conv_float (P := P) (w := w) src dst s k b' r hsr (tflt_und hk) hf
                exact Done.drew n hs (u := .float k r') (by simp [execOp, ho, hx', h1]) ⟨_, rfl, h2⟩
            · cases hz
    · cases h
  · cases h
/-! ### maps from integers to integers -/
theorem tmapi_und {t : TypeId} {kk ek : IntKind} (h : tmapi P t = some (kk, ek)) : ∃ k e, P.underlying t = some (.map k e) ∧ P.underlying k = some (.int kk) ∧ P.underlying e = some (.int ek) ∧ ∀ w : World, (zeroValue e).run P w = .ok (.int ek 0) w := by
  unfold tmapi at h
  split at h
  · rename_i k e hu
    have ti : ∀ x q, tint P x = some q → P.underlying x = some (.int q) := fun x q h => by
      unfold tint at h
      split at h
      · rename_i k' e'; cases h; exact e'
      · cases h
    cases h1 : tint P k with
    | none => rw [h1] at h; cases h
    | some a =>
      rw [h1, Option.bind_some] at h
      cases h2 : tint P e with
      | none => rw [h2] at h; cases h
      | some b =>
        rw [h2, Option.bind_some] at h
        split at h
        · rename_i q z hz
          split at h
          · rename_i hq
            obtain ⟨rfl, rfl⟩ := hq
            cases h
            refine ⟨k, e, hu, ti k _ h1, ti e _ h2, fun w => ?_⟩
            cases hi : P.info? e with
            | none => rw [hi] at hz; cases hz
            | some i =>
              rw [hi, Option.bind_some] at hz
              simp [zeroValue, typeInfo, hi, hz]
          · cases h
        · cases h
  · cases h
theorem d_makeMap (t : TypeId) (ho : o.op = .makeMap t none) (hs : SR β H w) (h : astep P ev (.makeMap t none) H = some (v, H')) : Done β H w ((execOp ρ o).run P w) v H' := by
  simp only [astep] at h
  cases ht : tmapi P t with
  | none => rw [ht] at h; cases h
  | some ke =>
    obtain ⟨kk, ek⟩ := ke
    rw [ht] at h
    cases h
    obtain ⟨k, e, h1, h2, h3, _⟩ := tmapi_und ht
    have hown := World.ownsMap_made (H := Unit) w P k (plainElem P e)
    obtain ⟨es, clock, hb, F, hsz, hD⟩ := hown
    have hnew : (w.alloc (.map #[] 0)).heap[w.heap.size]? = some (.map #[] 0) := heap_alloc_new w _
    rw [hnew] at hb
    cases hb
    refine ⟨_, .map (some w.heap.size), _, .inl ?_, Le.ext (hs.dom _ (Nat.le_refl _)), hs.allocB (.map #[] 0) 0 (.mp kk ek []) (fun γ => ⟨#[], 0, by simp, P, k, e, h2, h3, F, Nat.zero_le _, fun a _ => ?_⟩), ?_, Fr.allocB hs _ _ _⟩
    · simp [execOp, ho, Instr.makeMap]
    · rfl
    · exact ⟨_, if_pos rfl, rfl⟩
theorem d_lookup (t : TypeId) (m x : Operand) (ho : o.op = .lookup t m x false) (hs : SR β H w) (hm : TVR β (ev m) (ρ m)) (hx : TVR β (ev x) (ρ x)) (h : astep P ev (.lookup t m x false) H = some (v, H')) : Done β H w ((execOp ρ o).run P w) v H' := by
  simp only [astep] at h
  split at h
  · rename_i id k a kk ek em ex ht
    rw [em] at hm
    rw [ex] at hx
    obtain ⟨l, hl, hm'⟩ := hm
    have hx' : ρ x = .int k a := hx
    split at h
    · rename_i kk' ek' ml hf
      split at h
      · rename_i hc
        obtain ⟨rfl, rfl, rfl, hw⟩ := hc
        cases h
        obtain ⟨kt, et, g1, g2, g3, g4⟩ := tmapi_und ht
        have hrow := hs.row id l hl
        rw [hf] at hrow
        obtain ⟨es, clock, hb, hM⟩ := hrow
        obtain ⟨F, hsz, hat⟩ := hM.to g2 g3
        have hown : w.ownsMap (H := Unit) P kt (plainElem P et) l.blk ml.length (.map ((es.toList.map (Go.WideElems.rg P kt (plainElem P et))).foldr DataW.insert [])) := ⟨es, clock, hb, F, hsz, rfl⟩
        obtain ⟨c, hrun, hc, _⟩ := hown.lookup_int (Go.Maps.int_keyed g2) g1 g3 (g4 w) (Go.Maps.keyOf_int_mk g2 hw)
        rw [hat a hw] at hc
        cases hc
        refine Done.same hs (u := .int ek' (mpGet ml a)) ?_ rfl
        simp [execOp, ho, hm', hx', hrun]
      · cases h
    · cases h
  · cases h
theorem d_mapUpdate (t : TypeId) (m x y : Operand) (ho : o.op = .mapUpdate t m x y) (hs : SR β H w) (hm : TVR β (ev m) (ρ m)) (hx : TVR β (ev x) (ρ x)) (hy : TVR β (ev y) (ρ y)) (h : astep P ev (.mapUpdate t m x y) H = some (v, H')) : Done β H w ((execOp ρ o).run P w) v H' := by
  simp only [astep] at h
  split at h
  · rename_i id k a k2 b kk ek em ex ey ht
    rw [em] at hm
    rw [ex] at hx
    rw [ey] at hy
    obtain ⟨l, hl, hm'⟩ := hm
    have hx' : ρ x = .int k a := hx
    have hy' : ρ y = .int k2 b := hy
    split at h
    · rename_i kk' ek' ml hf
      split at h
      · rename_i hc
        obtain ⟨rfl, rfl, rfl, rfl, hw, hw2, hlen⟩ := hc
        cases h
        obtain ⟨kt, et, g1, g2, g3, g4⟩ := tmapi_und ht
        have hrow := hs.row id l hl
        rw [hf] at hrow
        obtain ⟨es, clock, hb, hM⟩ := hrow
        obtain ⟨F, hsz, hat⟩ := hM.to g2 g3
        have hown : w.ownsMap (H := Unit) P kt (plainElem P et) l.blk ml.length (.map ((es.toList.map (Go.WideElems.rg P kt (plainElem P et))).foldr DataW.insert [])) := ⟨es, clock, hb, F, hsz, rfl⟩
        have K := Go.Maps.int_keyed g2
        obtain ⟨w', hrun, hown', hgr⟩ := hown.update K g1 (by unfold maxLen; omega) (Go.Maps.keyOf_int_mk g2 hw) (plainElem_int (H := Unit) g3 hw2)
        have hisM := hown.isMap
        obtain ⟨es', clock', hb', F', hsz', hD'⟩ := hown'
        have hoth : ∀ c, c < w.heap.size → c ≠ l.blk → w'.heap[c]? = w.heap[c]? := fun c hc hne => hgr.block c hc (fun e => hne (Option.some.inj e))
        refine ⟨β, undef, w', .inr ⟨?_, rfl⟩, Le.refl β, hs.putB hl (by rw [hf]; rfl) ⟨es', clock', hb', P, kt, et, g2, g3, F', hsz', fun a' hw' => ?_⟩ rfl (fun e => by cases e) hoth rfl, rfl, Fr.putB hl (by rw [hf]; rfl) hgr.os hgr.tape hgr.output hgr.size hoth⟩
        · simp [execOp, ho, hm', hx', hy', hrun]
        · rw [← hD']
          by_cases haa : a' = a
          · subst haa
            rw [Go.Maps.atKey_put_same hisM (by exact ⟨⟩), mpGet, if_pos rfl]
          · rw [Go.Maps.atKey_put_other (fun e => haa (by cases e; rfl)), mpGet, if_neg haa]
            exact hat a' hw'
      · cases h
    · cases h
  · cases h

end
end Go.Ab

namespace Go.Ab
set_option linter.unusedVariables false
set_option linter.unusedSimpArgs false

/-! ### rows of zeros -/
theorem zerosOf_len (z : List AV) : ∀ n, (zerosOf z n).length = n * z.length
  | 0 => by simp [zerosOf]
  | n + 1 => by simp [zerosOf, zerosOf_len z n, Nat.add_mul]; omega

theorem zerosOf_get (z : List AV) : ∀ (n j : Nat), j < n * z.length → (zerosOf z n)[j]? = z[j % z.length]?
  | 0, j, h => by simp at h
  | n + 1, j, h => by
    have hz : 0 < z.length := by
      rcases Nat.eq_zero_or_pos z.length with e | e
      · rw [e] at h; simp at h
      · exact e
    simp only [zerosOf]
    rcases Nat.lt_or_ge j z.length with h1 | h1
    · rw [List.getElem?_append_left h1, Nat.mod_eq_of_lt h1]
    · rw [List.getElem?_append_right h1, zerosOf_get z n (j - z.length) (by rw [Nat.add_mul] at h; omega)]
      rw [Nat.mod_eq_sub_mod h1]

theorem zerosOf_all (z : List AV) (h : z.all AV.stor = true) : ∀ n, (zerosOf z n).all AV.stor = true
  | 0 => rfl
  | n + 1 => by simp only [zerosOf, List.all_append, h, zerosOf_all z h n, Bool.and_self]

/-- The machine's zeros. -/
theorem zeros_all2 {β : Emb} {z : List AV} {zc : Array Value} (h : z = zc.toList.map ofCell) (n : Nat) :
    All2 (VR β) (zerosOf z n) ((Array.range (n * zc.size)).map (fun i => zc[i % zc.size]!)).toList := by
  have hl : z.length = zc.size := by rw [h]; simp
  refine All2.of_get (by rw [zerosOf_len, hl]; simp) fun j a b ha hb => ?_
  have hj : j < n * z.length := by
    rcases Nat.lt_or_ge j (n * z.length) with h' | h'
    · exact h'
    · rw [List.getElem?_eq_none (by rw [zerosOf_len]; exact h')] at ha; cases ha
  rw [zerosOf_get z n j hj] at ha
  have hz : 0 < zc.size := by
    rcases Nat.eq_zero_or_pos zc.size with e | e
    · rw [hl, e] at hj; simp at hj
    · exact e
  have hm : j % zc.size < zc.size := Nat.mod_lt _ hz
  have hb' : b = zc[j % zc.size]! := by
    rw [hl] at hj
    simp [hj] at hb
    rw [← hb]
  rw [hl, h] at ha
  simp [hm] at ha
  rw [hb', ← ha]
  simp [hm]
  exact VR_ofCell β _

section
variable {P : Program} {o : Oper} {ρ : Operand → Value} {ev : Operand → TV} {β : Emb} {H H' : Heap} {w : World} {v : TV}

theorem d_makeSlice (t : TypeId) (l c : Operand) (ho : o.op = .makeSlice t l c) (hs : SR β H w) (hx : TVR β (ev l) (ρ l)) (hy : TVR β (ev c) (ρ c)) (h : astep P ev (.makeSlice t l c) H = some (v, H')) :
    Done β H w ((execOp ρ o).run P w) v H' := by
  simp only [astep] at h
  split at h
  · rename_i n m e en em he
    rw [en] at hx
    rw [em] at hy
    have hx' : ρ l = .int .i64 n := hx
    have hy' : ρ c = .int .i64 m := hy
    split at h
    · rename_i sz bys z hsz hby hz
      split at h
      · rename_i hc
        cases h
        obtain ⟨h0, h1, h2, h3, h4, h5⟩ := hc
        obtain ⟨zv, hz1, hz2⟩ := run_tzero (w := w) hz
        obtain ⟨i, hi, hib⟩ := run_tbytes (w := w) hby
        have hlen : z.length = zv.cells.size := by rw [hz2]; simp
        have hn : IntKind.i64.wrap n = n := by
          exact IntWalk.i64_in n ⟨by omega, by omega⟩
        have hm : IntKind.i64.wrap m = m := by
          exact IntWalk.i64_in m ⟨by omega, by omega⟩
        have hsplit : (Array.range (m.toNat * zv.cells.size)).map (fun i => zv.cells[i % zv.cells.size]!) =
            (((Array.range (n.toNat * zv.cells.size)).map (fun i => zv.cells[i % zv.cells.size]!)).toList ++
             ((Array.range (m.toNat * zv.cells.size)).map (fun i => zv.cells[i % zv.cells.size]!)).toList.drop (n.toNat * zv.cells.size)).toArray := by
          have hle : n.toNat * zv.cells.size ≤ m.toNat * zv.cells.size := Nat.mul_le_mul_right _ (by omega)
          apply Array.ext'
          apply List.ext_getElem? 
          intro j
          rcases Nat.lt_or_ge j (n.toNat * zv.cells.size) with hj | hj
          · rw [List.getElem?_append_left (by simpa using hj)]
            simp [hj, Nat.lt_of_lt_of_le hj hle]
          · rw [List.getElem?_append_right (by simpa using hj), List.getElem?_drop]
            simp only [Array.toList_map, Array.toList_range, List.length_map, List.length_range]
            rw [show n.toNat * zv.cells.size + (j - n.toNat * zv.cells.size) = j by omega]
        have ha : All2 (VS β) (zerosOf z n.toNat) ((Array.range (n.toNat * zv.cells.size)).map (fun i => zv.cells[i % zv.cells.size]!)).toList :=
          (zeros_all2 hz2 n.toNat).stor (zerosOf_all z h5 _)
        refine ⟨_, .slice (some ⟨w.heap.size, 0, none⟩) n.toNat m.toNat, _, .inl ?_, Le.ext (hs.dom _ (Nat.le_refl _)),
          hs.alloc (t := e) (rest := ((Array.range (m.toNat * zv.cells.size)).map (fun i => zv.cells[i % zv.cells.size]!)).toList.drop (n.toNat * zv.cells.size)) (fz := (0, 0)) ha (.inl rfl), ?_, Fr.alloc hs _ _⟩
        · have hlarge : ∀ k : Int, 0 ≤ k → k ≤ m → (decide (k < 0) || decide ((bys : Int) * k > 2 ^ 48)) = false := by
            intro k hk1 hk2
            have hmb : m * (bys : Int) ≤ 2 ^ 40 := h3
            have : (bys : Int) * k ≤ m * bys := by
              rw [Int.mul_comm]
              exact Int.mul_le_mul_of_nonneg_right hk2 (by omega)
            simp only [Bool.or_eq_false_iff, decide_eq_false_iff_not]
            constructor
            · omega
            · have : (2 : Int) ^ 48 = 281474976710656 := rfl
              have : (2 : Int) ^ 40 = 1099511627776 := rfl
              omega
          have hl1 := hlarge m (by omega) (Int.le_refl _)
          have hrun : (Instr.makeSlice t (.int .i64 n) (.int .i64 m)).run P w = .ok (.slice (some ⟨w.heap.size, 0, none⟩) n.toNat m.toNat)
              { w with heap := w.heap.push (.cells ((Array.range (m.toNat * zv.cells.size)).map (fun i => zv.cells[i % zv.cells.size]!)) e) } := by
            unfold Instr.makeSlice
            simp only [Sem.run_bind, run_underlying (telem_und he), Result.andThen_ok, asInt, asIntOf, Sem.run_pure, hi, hib, hn, hm, run_askRoom, run_tsz hsz]
            rw [if_neg (by simp only [hl1, Bool.false_or, Bool.or_eq_true, decide_eq_true_eq, not_or]; constructor <;> omega)]
            simp only [Sem.run_bind, run_askRoom, Result.andThen_ok, run_tsz hsz, newRow, run_newObj, Sem.run_pure, Sem.run_map]
            by_cases hz0 : m.toNat * sz = 0
            · simp only [hz0, if_true, Sem.run_pure, Result.andThen_ok]
              rw [show sz = zv.cells.size by omega] at hz0
              rw [hz0, show (Array.range 0) = #[] from rfl]
              simp
            · rw [if_neg hz0]
              simp only [Sem.run_bind, hz1, Result.andThen_ok, Sem.run_pure, Sem.run_map]
              rw [show sz = zv.cells.size by omega]
              simp
          rw [hsplit] at hrun
          simp [execOp, ho, hx', hy', hrun]
        · refine ⟨_, _, m.toNat, if_pos rfl, rfl, by omega, .inl ⟨rfl, ?_⟩⟩
          have hle : n.toNat * zv.cells.size ≤ m.toNat * zv.cells.size := Nat.mul_le_mul_right _ (by omega)
          simp only [List.length_drop, Array.length_toList, Array.size_map, Array.size_range]
          rw [show sz = zv.cells.size by omega]
          omega
      · cases h
    · cases h
  · cases h

/-! ### parts filled in -/
theorem foldl_set (us : List Value) (off : Nat) : ∀ (k : Nat) (cs : Array Value), off + k + us.length ≤ cs.size →
    ((us.zipIdx k).foldl (fun (cs : Array Value) (c, j) => cs.setIfInBounds (off + j) c) cs).toList = cs.toList.take (off + k) ++ us ++ cs.toList.drop (off + k + us.length) := by
  induction us with
  | nil => intro k cs _; simp
  | cons u us ih =>
    intro k cs h
    simp only [List.zipIdx_cons, List.foldl_cons]
    rw [ih (k + 1) _ (by simp at h ⊢; omega)]
    simp only [Array.toList_setIfInBounds, List.length_cons] at h ⊢
    have hlen : off + k < (cs.toList.set (off + k) u).length := by simp; omega
    have e1 : (cs.toList.set (off + k) u).take (off + (k + 1)) = cs.toList.take (off + k) ++ [u] := by
      rw [show off + (k + 1) = (off + k) + 1 by omega, List.take_succ_eq_append_getElem hlen, List.take_set_of_le (Nat.le_refl _)]
      simp
    have e2 : (cs.toList.set (off + k) u).drop (off + (k + 1) + us.length) = cs.toList.drop (off + (k + 1) + us.length) := by
      rw [List.drop_set_of_lt (by omega)]
    rw [e1, e2, show off + (k + 1) + us.length = off + k + (us.length + 1) by omega]
    simp

theorem All2.splice {β : Emb} {cs new : List AV} {us vs : List Value} (h : All2 (VR β) cs us) (k : All2 (VR β) new vs) (off : Nat) :
    All2 (VR β) (splice cs new off) (us.take off ++ vs ++ us.drop (off + vs.length)) := by
  unfold Ab.splice
  rw [k.len]
  exact ((h.take off).append k).append (h.drop _)

/-- The parts and the machine's. -/
def PartsR (β : Emb) : List (Nat × List AV) → List (Nat × Value) → Prop := All2 fun a b => a.1 = b.1 ∧ All2 (VR β) a.2 b.2.cells.toList

theorem partsOf_r {l : List (Nat × Operand)} : ∀ {ps : List (Nat × List AV)}, (∀ x ∈ l.map (·.2), TVR β (ev x) (ρ x)) → partsOf ev l = some ps → (∀ p ∈ ps, p.2.all AV.stor = true) →
    PartsR β ps (l.map fun (i, x) => (i, ρ x)) := by
  induction l with
  | nil => intro ps _ h _; simp [partsOf] at h; subst h; trivial
  | cons p r ih =>
    obtain ⟨i, x⟩ := p
    intro ps hv h hst
    simp only [partsOf] at h
    split at h
    · rename_i c rs hc hr
      cases h
      refine ⟨⟨rfl, ?_⟩, ih (fun y hy => hv y (by simp at hy ⊢; exact .inr hy)) hr (fun p hp => hst p (by simp [hp]))⟩
      have h1 := hv x (by simp)
      obtain ⟨us, e1, e2⟩ := h1.cells hc (hst (i, c) (by simp))
      show All2 (VR β) c (ρ x).cells.toList
      rw [e1]
      exact e2.vr
    · cases h

theorem fill_r {place place' : Nat → Option (Nat × Nat)} (hp : ∀ i x, place i = some x → place' i = some x) : ∀ {ps : List (Nat × List AV)} {qs : List (Nat × Value)} {cs c : List AV} {us : Array Value},
    PartsR β ps qs → All2 (VR β) cs us.toList → fillParts place cs ps = some c → ∃ us', Instr.fill place' us qs = some us' ∧ All2 (VR β) c us'.toList
  | [], [], cs, c, us, _, h, hf => by simp [fillParts] at hf; subst hf; exact ⟨us, rfl, h⟩
  | (i, v) :: ps, (j, u) :: qs, cs, c, us, hpr, h, hf => by
    obtain ⟨⟨hij, hvu⟩, hrest⟩ := hpr
    simp only at hij hvu
    subst hij
    simp only [fillParts] at hf
    split at hf
    · rename_i off size hpl
      split at hf
      · rename_i hc
        have hsz : u.cells.size = v.length := by rw [hvu.len]; simp
        have hus : us.size = cs.length := by rw [h.len]; simp
        have hcells : ((u.cells.zipIdx.foldl (fun cs (c, j) => cs.setIfInBounds (off + j) c) us).toList) = us.toList.take off ++ u.cells.toList ++ us.toList.drop (off + u.cells.toList.length) := by
          rw [← Array.foldl_toList]
          have := foldl_set u.cells.toList off 0 us (by simp; omega)
          simpa using this
        obtain ⟨us', h1, h2⟩ := fill_r hp hrest (us := u.cells.zipIdx.foldl (fun cs (c, j) => cs.setIfInBounds (off + j) c) us) (by
          rw [hcells]; exact h.splice hvu off) hf
        refine ⟨us', ?_, h2⟩
        simp only [Instr.fill, hp i _ hpl]
        rw [if_neg (by simp; omega)]
        exact h1
      · cases hf
    · cases hf
  | [], _ :: _, _, _, _, h, _, _ => h.elim
  | _ :: _, [], _, _, _, h, _, _ => h.elim

theorem run_mapM {α β : Type} (f : α → Sem β) (g : α → β) : ∀ (l : List α), (∀ x ∈ l, (f x).run P w = .ok (g x) w) → (l.mapM f).run P w = .ok (l.map g) w
  | [], _ => by simp
  | x :: l, h => by
    simp [h x (by simp), run_mapM f g l (fun y hy => h y (by simp [hy]))]

theorem run_mapM_arr {α β : Type} (f : α → Sem β) (g : α → β) (a : Array α) (h : ∀ x ∈ a.toList, (f x).run P w = .ok (g x) w) : (a.mapM f).run P w = .ok (a.map g) w := by
  have : a.mapM f = (fun l => l.toArray) <$> a.toList.mapM f := by
    rw [Array.mapM_eq_mapM_toList]
  rw [this]
  rw [show a.map g = (a.toList.map g).toArray from Array.ext' (by simp)]
  simp [run_mapM f g a.toList h]

theorem d_build (t : TypeId) (parts : Array (Nat × Operand)) (ho : o.op = .build t parts) (hs : SR β H w) (hx : ∀ x ∈ parts.toList.map (·.2), TVR β (ev x) (ρ x)) (h : astep P ev (.build t parts) H = some (v, H')) :
    Done β H w ((execOp ρ o).run P w) v H' := by
  simp only [astep] at h
  split at h
  · rename_i z fs ps hz hfs hps
    split at h
    · rename_i hc
      obtain ⟨hc1, hc2⟩ := hc
      cases hf : fillParts (structPlaces P fs) z ps with
      | none => rw [hf] at h; cases h
      | some c =>
        rw [hf] at h
        cases h
        obtain ⟨fa, hu, rfl⟩ := tfields_und hfs
        obtain ⟨zv, hz1, hz2⟩ := run_tzero (w := w) hz
        let g : Field → Nat × Nat := fun f => (f.offset, (tsz P f.type).getD 0)
        have hm : (fa.mapM fun (f : Field) => (do pure (f.offset, ← sizeOf f.type) : Sem (Nat × Nat))).run P w = .ok (fa.map g) w := by
          refine run_mapM_arr _ g fa fun f hf' => ?_
          have := List.all_eq_true.1 hc1 f hf'
          obtain ⟨n, hn⟩ := Option.isSome_iff_exists.1 this
          simp [run_tsz hn, g, hn]
        have hpr := partsOf_r (β := β) (ρ := ρ) hx hps (fun p hp => List.all_eq_true.1 hc2 p hp)
        have hplace : ∀ i x, structPlaces P fa.toList i = some x → (fa.map g)[i]? = some x := by
          intro i x hix
          unfold structPlaces at hix
          split at hix
          · rename_i f hfi
            cases hn : tsz P f.type with
            | none => rw [hn] at hix; cases hix
            | some n =>
              rw [hn] at hix
              cases hix
              simp at hfi
              simp [hfi, g, hn]
          · cases hix
        obtain ⟨us', h1, h2⟩ := fill_r (place' := fun i => (fa.map g)[i]?) hplace hpr (us := zv.cells) (hz2 ▸ All2_ofCell β zv.cells.toList) hf
        refine Done.same hs (u := .agg us') ?_ ⟨us'.toList, by simp, h2⟩
        have hp : (parts.map fun (i, x) => (i, ρ x)).toList = parts.toList.map fun (i, x) => (i, ρ x) := by simp
        have hrun : (Instr.build t (parts.map fun (i, x) => (i, ρ x))).run P w = .ok (.agg us') w := by
          unfold Instr.build
          simp only [Sem.run_bind, hz1, Result.andThen_ok, run_underlying hu, Sem.run_pure, hm, hp, h1]
        simp [execOp, ho, hrun]
    · cases h
  · cases h

theorem d_buildSlice (t : TypeId) (len : Nat) (parts : Array (Nat × Operand)) (ho : o.op = .buildSlice t len parts) (hs : SR β H w) (hx : ∀ x ∈ parts.toList.map (·.2), TVR β (ev x) (ρ x))
    (h : astep P ev (.buildSlice t len parts) H = some (v, H')) : Done β H w ((execOp ρ o).run P w) v H' := by
  simp only [astep] at h
  split at h
  · rename_i e he
    split at h
    · rename_i n z ps hn hz hps
      split at h
      · rename_i hc
        obtain ⟨hc1, hc2, hc3⟩ := hc
        cases hf : fillParts (fun i => some (i * n, n)) (zerosOf z len) ps with
        | none => rw [hf] at h; cases h
        | some c =>
          rw [hf] at h
          simp only [Option.bind_some] at h
          split at h
          · rename_i hst
            cases h
            obtain ⟨zv, hz1, hz2⟩ := run_tzero (w := w) hz
            have hlen : zv.cells.size = n := by rw [← hc2, hz2]; simp
            have hpr := partsOf_r (β := β) (ρ := ρ) hx hps (fun p hp => List.all_eq_true.1 hc3 p hp)
            obtain ⟨us', h1, h2⟩ := fill_r (place' := fun i => some (i * n, n)) (fun i x hix => hix) hpr (us := (Array.range (len * zv.cells.size)).map (fun i => zv.cells[i % zv.cells.size]!)) (zeros_all2 hz2 len) hf
            have hlc : us'.size = len * n := by
              have e1 := h2.len
              have e2 : ∀ (ps : List (Nat × List AV)) (cs c : List AV), fillParts (fun i => some (i * n, n)) cs ps = some c → c.length = cs.length := by
                intro ps
                induction ps with
                | nil => intro cs c h; simp [fillParts] at h; rw [h]
                | cons p ps ih =>
                  obtain ⟨i, vv⟩ := p
                  intro cs c h
                  simp only [fillParts] at h
                  split at h
                  · rename_i hcc
                    rw [ih _ _ h, splice_len _ _ _ hcc.2]
                  · cases h
              rw [e2 _ _ _ hf, zerosOf_len, hc2] at e1
              simpa using e1.symm
            have ha : All2 (VS β) c us'.toList := h2.stor hst
            refine ⟨_, .slice (some ⟨w.heap.size, 0, none⟩) len len, _, .inl ?_, Le.ext (hs.dom _ (Nat.le_refl _)), hs.alloc (t := e) (rest := []) (fz := (0, 0)) ha (.inl rfl), ?_, Fr.alloc hs _ _⟩
            · have hrun : (Instr.buildSlice t len (parts.map fun (i, x) => (i, ρ x))).run P w = .ok (.slice (some ⟨w.heap.size, 0, none⟩) len len) { w with heap := w.heap.push (.cells us' e) } := by
                unfold Instr.buildSlice
                simp only [Sem.run_bind, run_underlying (telem_und he), Result.andThen_ok, run_tsz hn]
                rw [if_neg (by omega)]
                have hp : (parts.map fun (i, x) => (i, ρ x)).toList = parts.toList.map fun (i, x) => (i, ρ x) := by simp
                by_cases hz0 : len * n = 0
                · simp only [hz0, if_true, Sem.run_pure, Sem.run_bind, Result.andThen_ok]
                  have : (Array.range 0).map (fun i => (#[] : Array Value)[i % (#[] : Array Value).size]!) = (Array.range (len * zv.cells.size)).map (fun i => zv.cells[i % zv.cells.size]!) := by
                    rw [hlen, hz0, show (Array.range 0) = #[] from rfl]
                    simp
                  rw [this, hp, h1]
                  simp [newRow]
                · rw [if_neg hz0]
                  simp only [Sem.run_bind, hz1, Result.andThen_ok, Sem.run_pure]
                  rw [hp]
                  rw [hlen] at h1
                  rw [hlen, h1]
                  simp [newRow]
              simp [execOp, ho, hrun]
            · exact ⟨_, _, len, if_pos rfl, rfl, Nat.le_refl _, .inl ⟨rfl, by simp; omega⟩⟩
          · cases h
      · cases h
    · cases h
  · cases h

theorem optAV_some {x : Option Operand} {r : Option Int} (hx : ∀ y, x = some y → TVR β (ev y) (ρ y)) (h : optAV (x.map ev) = some r) :
    (x = none ∧ r = none) ∨ ∃ y k n, x = some y ∧ r = some n ∧ ρ y = .int k n := by
  cases x with
  | none => simp [optAV] at h; exact .inl ⟨rfl, h.symm⟩
  | some y =>
    right
    simp only [Option.map_some, optAV] at h
    split at h
    · rename_i hh; cases hh
    · rename_i k n hh
      cases h
      have := hx y rfl
      have e := Option.some.inj hh
      rw [e] at this
      exact ⟨y, k, n, rfl, rfl, this⟩
    · cases h

/-- The machine's bounds. -/
theorem run_bounds (isSlice : Bool) {lo hi : Option Operand} {l h : Option Int} {len cap a b : Nat} (hlen : len ≤ cap) (h1 : ∀ y, lo = some y → TVR β (ev y) (ρ y)) (h2 : ∀ y, hi = some y → TVR β (ev y) (ρ y))
    (e1 : optAV (lo.map ev) = some l) (e2 : optAV (hi.map ev) = some h) (hb : slBounds len l h = some (a, b)) :
    (Instr.sliceBounds isSlice len cap (lo.map ρ) (hi.map ρ) none).run P w = .ok (a, b, cap) w ∧ a ≤ b ∧ b ≤ len := by
  unfold slBounds at hb
  dsimp only at hb
  split at hb
  · rename_i hc
    cases hb
    refine ⟨?_, by omega, by omega⟩
    have key : ∀ (k : IntKind) (n : Int) (c : Nat) (code : BoundsCode), 0 ≤ n → n ≤ c → (Instr.sliceBound (.int k n) c code).run P w = .ok n.toNat w := by
      intro k n c code g1 g2
      simp [Instr.sliceBound, asIntOf, g1, g2]
    rcases optAV_some h1 e1 with ⟨rfl, rfl⟩ | ⟨y, k, n, rfl, rfl, ey⟩
    · rcases optAV_some h2 e2 with ⟨rfl, rfl⟩ | ⟨z, k2, n2, rfl, rfl, ez⟩
      · simp [Instr.sliceBounds]
      · simp at hc
        simp [Instr.sliceBounds, ez, key k2 n2 cap _ (by omega) (by omega)]
    · rcases optAV_some h2 e2 with ⟨rfl, rfl⟩ | ⟨z, k2, n2, rfl, rfl, ez⟩
      · simp at hc
        simp [Instr.sliceBounds, ey, key k n len _ (by omega) (by omega)]
      · simp at hc
        simp [Instr.sliceBounds, ey, ez, key k2 n2 cap _ (by omega) (by omega), key k n n2.toNat _ (by omega) (by omega)]
  · cases hb

theorem d_slice (t : TypeId) (x : Operand) (lo hi : Option Operand) (ho : o.op = .slice t x lo hi none) (hs : SR β H w) (hx : TVR β (ev x) (ρ x)) (h1 : ∀ y, lo = some y → TVR β (ev y) (ρ y)) (h2 : ∀ y, hi = some y → TVR β (ev y) (ρ y))
    (h : astep P ev (.slice t x lo hi none) H = some (v, H')) : Done β H w ((execOp ρ o).run P w) v H' := by
  simp only [astep] at h
  split at h
  · rename_i s l hh es el eh
    rw [es] at hx
    have hx' : ρ x = .string s := hx
    split at h
    · rename_i ht
      cases hb : slBounds s.size l hh with
      | none => rw [hb] at h; cases h
      | some ab =>
        obtain ⟨a, b⟩ := ab
        rw [hb] at h
        cases h
        obtain ⟨hr, _, _⟩ := run_bounds (P := P) (w := w) false (Nat.le_refl s.size) h1 h2 el eh hb
        refine Done.same hs (u := .string (s.extract a b)) ?_ rfl
        simp [execOp, ho, hx', Instr.sliceAt, Instr.slice, run_underlying (tstr_und ht), hr]
    · cases h
  · rename_i id off len esz l hh es el eh
    rw [es] at hx
    obtain ⟨m, ad, cap, hl, hx', hlc, hor⟩ := hx
    split at h
    · rename_i ht
      cases hte : telem P t with
      | none => rw [hte] at ht; cases ht
      | some e =>
        rw [hte] at ht
        simp at ht
        cases hb : slBounds len l hh with
        | none => rw [hb] at h; cases h
        | some ab =>
          obtain ⟨a, b⟩ := ab
          rw [hb] at h
          cases h
          obtain ⟨hr, hab, hbl⟩ := run_bounds (P := P) (w := w) true hlc h1 h2 el eh hb
          refine Done.same hs (u := .slice (if cap = a then ad else ad.map (·.add (a * esz))) (b - a) (cap - a)) ?_ ?_
          · simp [execOp, ho, hx', Instr.sliceAt, Instr.slice, run_underlying (telem_und hte), hr, run_tsz ht]
          · refine ⟨m, _, _, hl, rfl, by omega, ?_⟩
            by_cases hca : cap = a
            · right; omega
            · rcases hor with ⟨rfl, hsz⟩ | ⟨rfl, rfl⟩
              · left
                refine ⟨by simp [hca, addr_add, Nat.add_assoc], ?_⟩
                have : (cap - a) * esz = cap * esz - a * esz := Nat.sub_mul _ _ _
                have : a * esz ≤ cap * esz := Nat.mul_le_mul_right _ (by omega)
                show off + a * esz + (cap - a) * esz ≤ m.size
                omega
              · right; omega
    · cases h
  · rename_i l hh es el eh
    rw [es] at hx
    have hx' : ρ x = .slice none 0 0 := hx
    split at h
    · rename_i ht
      cases hte : telem P t with
      | none => rw [hte] at ht; cases ht
      | some e =>
        rw [hte] at ht
        simp at ht
        obtain ⟨n, hn⟩ := Option.isSome_iff_exists.1 ht
        cases hb : slBounds 0 l hh with
        | none => rw [hb] at h; cases h
        | some ab =>
          obtain ⟨a, b⟩ := ab
          rw [hb] at h
          cases h
          obtain ⟨hr, hab, hbl⟩ := run_bounds (P := P) (w := w) true (Nat.le_refl 0) h1 h2 el eh hb
          obtain ⟨rfl, rfl⟩ : a = 0 ∧ b = 0 := by omega
          refine Done.same hs (u := .slice none 0 0) ?_ rfl
          simp [execOp, ho, hx', Instr.sliceAt, Instr.slice, run_underlying (telem_und hte), hr, run_tsz hn]
    · cases h
  · rename_i id off l hh es el eh
    rw [es] at hx
    obtain ⟨m, hl, hx'⟩ := hx
    split at h
    · rename_i n sz cs hta hown
      split at h
      · rename_i hcs
        cases hte : tarr P t with
        | none => rw [hte] at hta; cases hta
        | some ne =>
          obtain ⟨n', e⟩ := ne
          rw [hte] at hta
          simp only [Option.bind_some] at hta
          cases hsz : tsz P e with
          | none => rw [hsz] at hta; cases hta
          | some sz' =>
            rw [hsz] at hta
            cases hta
            cases hb : slBounds n l hh with
            | none => rw [hb] at h; cases h
            | some ab =>
              obtain ⟨a, b⟩ := ab
              rw [hb] at h
              cases h
              obtain ⟨hr, hab, hbl⟩ := run_bounds (P := P) (w := w) false (Nat.le_refl _) h1 h2 el eh hb
              have hrow := hs.row id m hl
              rw [hown] at hrow
              obtain ⟨ccs, te, fz, _, _, _, hcl, _⟩ := hrow
              refine Done.same hs (u := .slice (some (if n = a then ⟨m.blk, m.base + off, none⟩ else (⟨m.blk, m.base + off, none⟩ : Addr).add (a * sz))) (b - a) (n - a)) ?_ ?_
              · simp [execOp, ho, hx', ptrV, Instr.sliceAt, Instr.sureAddr, run_underlying (tarr_und hte), hr, run_tsz hsz]
              · refine ⟨m, _, _, hl, rfl, by omega, ?_⟩
                by_cases hca : n = a
                · right; omega
                · left
                  refine ⟨by simp [hca, addr_add, Nat.add_assoc], ?_⟩
                  have : (n - a) * sz = n * sz - a * sz := Nat.sub_mul _ _ _
                  have : a * sz ≤ n * sz := Nat.mul_le_mul_right _ (by omega)
                  show off + a * sz + (n - a) * sz ≤ m.size
                  omega
      · cases h
    · cases h
  · cases h

/-- A slice's or a string's cells, as they are appended or copied. -/
theorem run_arg {esz : Nat} {x : AV} {xv : Value} {n : Nat} {new : List AV} (hs : SR β H w) (hx : VR β x xv) (h : cellsOfArg H esz x = some (n, new)) :
    (∀ w1 : World, (Builtin.lenOf xv).run P w1 = .ok n w1) ∧ ∃ us : List Value, All2 (VS β) new us ∧ us.length = n * esz ∧
      (∀ m k, k ≤ n → (Builtin.firstCells esz k xv).run P { w with drawn := m } = .ok (us.take (k * esz)).toArray { w with drawn := m }) ∧
      (∀ m, (Builtin.firstCells esz n xv).run P { w with drawn := m } = .ok us.toArray { w with drawn := m }) := by
  have wrap : ∀ us : List Value, us.length = n * esz → (∀ m k, k ≤ n → (Builtin.firstCells esz k xv).run P { w with drawn := m } = .ok (us.take (k * esz)).toArray { w with drawn := m }) →
      (∀ m, (Builtin.firstCells esz n xv).run P { w with drawn := m } = .ok us.toArray { w with drawn := m }) := fun us hl key m => by
    have := key m n (Nat.le_refl _)
    rw [List.take_of_length_le (by omega)] at this
    exact this
  cases x <;> simp only [cellsOfArg] at h <;> first | (cases h; done) | skip
  case nilsl =>
    cases h
    have hx' : xv = .slice none 0 0 := hx
    subst hx'
    exact ⟨fun _ => by simp [Builtin.lenOf], [], trivial, by simp, fun m k _ => by simp [Builtin.firstCells], fun m => by simp [Builtin.firstCells]⟩
  case sl id off len esz' =>
    split at h
    · rename_i he
      subst he
      cases hr : rdCells H id off (len * esz') with
      | none => rw [hr] at h; cases h
      | some c =>
        rw [hr] at h
        cases h
        obtain ⟨l, a, cap, hl, hx', hlc, hor⟩ := hx
        subst hx'
        obtain ⟨us, h1, h2, h3⟩ := cells_of hs hl hr
        have key : ∀ m k, k ≤ n → (Builtin.firstCells esz' k (.slice a n cap)).run P { w with drawn := m } = .ok (us.take (k * esz')).toArray { w with drawn := m } := by
          intro m k hk
          have hle : k * esz' ≤ n * esz' := Nat.mul_le_mul_right _ hk
          have hload : ∀ ad : Addr, (ad = ⟨l.blk, l.base + off, none⟩ ∨ k * esz' = 0) → (loadCells ad (k * esz')).run P { w with drawn := m } = .ok (us.take (k * esz')).toArray { w with drawn := m } := by
            intro ad had
            rcases had with rfl | h0
            · have := run_loadCells (P := P) (w := { w with drawn := m }) l.blk (l.base + off) (us.take (k * esz')) (fun j u hu => by
                rw [List.getElem?_take] at hu
                split at hu
                · exact h3 j u hu
                · cases hu)
              rw [show (us.take (k * esz')).length = k * esz' by simp; omega] at this
              exact this
            · rw [h0]; simp [loadCells, loadCellsFrom]
          rcases hor with ⟨rfl, _⟩ | ⟨rfl, rfl⟩
          · exact hload _ (.inl rfl)
          · obtain rfl : k = 0 := by omega
            cases a with
            | none => simp [Builtin.firstCells]
            | some ad => exact hload ad (.inr (by simp))
        exact ⟨fun _ => by simp [Builtin.lenOf], us, h2, h1, key, wrap us h1 key⟩
    · cases h
  case str s =>
    split at h
    · rename_i he
      subst he
      cases h
      have hx' : xv = .string s := hx
      subst hx'
      have key : ∀ m k, k ≤ s.size → (Builtin.firstCells 1 k (.string s)).run P { w with drawn := m } = .ok ((s.data.toList.map fun b => Value.int .u8 b.toNat).take (k * 1)).toArray { w with drawn := m } := by
        intro m k hk
        have : (s.extract 0 k).data.map (fun b => Value.int .u8 b.toNat) = ((s.data.toList.map fun b => Value.int .u8 b.toNat).take (k * 1)).toArray := by
          apply Array.ext'
          simp [ByteArray.data_extract, List.extract_eq_take_drop, List.map_take]
        simp only [Builtin.firstCells, Sem.run_pure, this]
      have hl : (s.data.toList.map fun b => Value.int .u8 b.toNat).length = s.size * 1 := by rw [List.length_map, Nat.mul_one]; rfl
      exact ⟨fun _ => by simp [Builtin.lenOf], s.data.toList.map fun b => Value.int .u8 b.toNat, All2.map (fun b => ⟨rfl, rfl⟩) _, hl, key, wrap _ hl key⟩
    · cases h

theorem growBy_le (need : Nat) : ∀ (r c : Nat), c ≤ need + (need + 768) / 4 → Builtin.growBy need r c ≤ need + (need + 768) / 4
  | 0, c, h => h
  | r + 1, c, h => by
    unfold Builtin.growBy
    split
    · exact h
    · exact growBy_le need r _ (by omega)

theorem nextcap_le (need cap : Nat) (h : cap < need) : Builtin.nextslicecap need cap ≤ 2 * need + 192 := by
  unfold Builtin.nextslicecap
  split
  · omega
  · split
    · omega
    · have := growBy_le need 4 cap (by omega)
      omega

theorem run_append_fits {t0 t1 ty e : TypeId} {esz n len cap : Nat} {a : Option Addr} {xv : Value} {us : List Value} {d1 : TypeDesc}
    (he : telem P t0 = some e) (hsz : tsz P e = some esz) (hd1 : P.underlying t1 = some d1) (hnot : ∀ k, d1 ≠ .int k)
    (hlen : (Builtin.lenOf xv).run P w = .ok n w) (hfc : (Builtin.firstCells esz n xv).run P w = .ok us.toArray w) (hfit : len + n ≤ cap) :
    (Builtin.append_ #[t0, t1] ty #[.slice a len cap, xv]).run P w =
      ((match a with | some ad => storeCells (ad.add (len * esz)) us | none => pure () : Sem Unit).run P w).andThen fun _ w' => .ok (.slice a (len + n) cap) w' := by
  have hz : (match d1 with | .int _ => true | _ => false) = false := by cases d1 <;> first | rfl | exact absurd rfl (hnot _)
  unfold Builtin.append_
  simp only [List.getElem?_toArray, List.getElem?_cons_zero, List.getElem?_cons_succ, Sem.run_bind, run_underlying (telem_und he), Result.andThen_ok, run_tsz hsz, run_underlying hd1, Sem.run_pure, hz, Bool.false_eq_true, if_false, hlen, hfit, if_true, Bool.not_false, hfc]
  cases a <;> simp

theorem run_append_grows {t0 t1 ty e : TypeId} {esz bytes n len cap : Nat} {a : Option Addr} {xv zv : Value} {us old : List Value} {d1 : TypeDesc} {ti : TypeInfo}
    (he : telem P t0 = some e) (hsz : tsz P e = some esz) (hti : ∀ w : World, (typeInfo e).run P w = .ok ti w) (hib : ti.bytes = bytes) (hbp : 0 < bytes) (hd1 : P.underlying t1 = some d1) (hnot : ∀ k, d1 ≠ .int k)
    (hlen : (Builtin.lenOf xv).run P w = .ok n w) (hfc : ∀ m, (Builtin.firstCells esz n xv).run P { w with drawn := m } = .ok us.toArray { w with drawn := m })
    (hold : ∀ m, (Builtin.firstCells esz len (.slice a len cap)).run P { w with drawn := m } = .ok old.toArray { w with drawn := m }) (hz : ∀ w : World, (zeroValue e).run P w = .ok zv w)
    (hfit : ¬ len + n ≤ cap) (hroom : (len + n) * bytes ≤ 2 ^ 40) :
    ∃ newCap m, len + n ≤ newCap ∧ (Builtin.append_ #[t0, t1] ty #[.slice a len cap, xv]).run P w =
      .ok (.slice (some ⟨w.heap.size, 0, none⟩) (len + n) newCap) { ({ w with drawn := m } : World) with heap := w.heap.push (.cells (old ++ us ++ (Builtin.zeroCells zv.cells (newCap - (len + n))).toList).toArray e) } := by
  have h1 : ¬ (((len : Int) + (n : Int)) > IntKind.i64.max ∧ bytes = 0) := by omega
  have h2 : ¬ (Builtin.nextslicecap (len + n) cap * bytes > 2 ^ 48) := by
    have h3 := nextcap_le (len + n) cap (by omega)
    have h4 : Builtin.nextslicecap (len + n) cap * bytes ≤ (2 * (len + n) + 192) * bytes := Nat.mul_le_mul_right _ h3
    have h5 : (2 * (len + n) + 192) * bytes = 2 * ((len + n) * bytes) + 192 * bytes := by rw [Nat.add_mul, Nat.mul_assoc]
    have h6 : bytes ≤ (len + n) * bytes := Nat.le_mul_of_pos_left _ (by omega)
    omega
  let newCap := Question.cut (.appendCap (len + n) cap e) (w.tape w.drawn (.appendCap (len + n) cap e))
  refine ⟨newCap, w.drawn + 1, Nat.le_add_right _ _, ?_⟩
  have hfc' := hfc (w.drawn + 1)
  have hold' := hold (w.drawn + 1)
  unfold Builtin.append_
  have hzz : (match d1 with | .int _ => true | _ => false) = false := by cases d1 <;> first | rfl | exact absurd rfl (hnot _)
  simp only [List.getElem?_toArray, List.getElem?_cons_zero, List.getElem?_cons_succ, Sem.run_bind, run_underlying (telem_und he), Result.andThen_ok, run_tsz hsz, run_underlying hd1, Sem.run_pure, hzz, Bool.false_eq_true, if_false, hlen, hfit, Bool.not_false, if_true,
    hti, hib, Nat.ne_of_gt hbp, false_or, and_false, h2, Sem.run_ite]
  simp only [run_choose, Question.forced, Bool.false_eq_true, if_false, Result.andThen_ok, run_askRoom, hold', hfc', hz, newRow, Sem.run_bind, Sem.run_map, run_newObj, Sem.run_pure]
  have harr : old.toArray ++ us.toArray ++ Builtin.zeroCells zv.cells (newCap - (len + n)) = (old ++ us ++ (Builtin.zeroCells zv.cells (newCap - (len + n))).toList).toArray := Array.ext' (by simp)
  rw [← harr]

theorem zeroCells_len (zc : Array Value) (n : Nat) : (Builtin.zeroCells zc n).toList.length = n * zc.size := by simp [Builtin.zeroCells]

/-- append: the row grows where it lies, or a new one is made. -/
theorem run_append {t0 t1 : TypeId} {ty : TypeId} {e : TypeId} {esz bytes : Nat} {z : List AV} {s x : AV} {sv xv : Value} {r : TV}
    (hs : SR β H w) (he : telem P t0 = some e) (hsz : tsz P e = some esz) (hby : tbytes P e = some bytes) (hz : tzero P e = some z) (hzl : z.length = esz) (ht1 : tint P t1 = none) (ht2 : (P.underlying t1).isSome = true)
    (hsv : VR β s sv) (hxv : VR β x xv) (h : aappend H esz bytes s x = some (r, H')) :
    ∃ β' u w', (Builtin.append_ #[t0, t1] ty #[sv, xv]).run P w = .ok u w' ∧ Le β β' ∧ SR β' H' w' ∧ TVR β' r u ∧ Fr β H w β' H' w' := by
  obtain ⟨zv, hz1, hz2⟩ := run_tzero (w := w) hz
  have hzs : zv.cells.size = esz := by rw [← hzl, hz2]; simp
  have hzw : ∀ w1 : World, (zeroValue e).run P w1 = .ok zv w1 := by
    intro w1
    unfold tzero at hz
    cases hi : P.info? e with
    | none => rw [hi] at hz; simp at hz
    | some i =>
      cases hzz : i.zero with
      | none => simp [hi, hzz] at hz
      | some zv' =>
        simp [zeroValue, typeInfo, hi, hzz] at hz1 ⊢
        exact hz1
  obtain ⟨ti, hti, hib⟩ := run_tbytes (w := w) hby
  have htw : ∀ w1 : World, (typeInfo e).run P w1 = .ok ti w1 := by
    intro w1
    cases hi : P.info? e with
    | none => simp [typeInfo, hi] at hti
    | some i => simp [typeInfo, hi] at hti ⊢; exact hti
  obtain ⟨d1, hd1⟩ := Option.isSome_iff_exists.1 ht2
  have hnot : ∀ k, d1 ≠ .int k := by
    intro k hk
    subst hk
    simp [tint, hd1] at ht1
  unfold aappend at h
  split at h
  · cases h
  · rename_i hb0
    have hbpos : 0 < bytes := Nat.pos_of_ne_zero hb0
    split at h
    · cases h
    · rename_i n new hca
      obtain ⟨hlen, us, hn, hlu, _, hfc⟩ := run_arg (P := P) hs hxv hca
      have hfc0 : (Builtin.firstCells esz n xv).run P w = .ok us.toArray w := hfc w.drawn
      have grow : ∀ {len cap : Nat} {a : Option Addr} {old : List Value} {olda : List AV} {H1 : Heap}, sv = .slice a len cap → ¬ len + n ≤ cap → (len + n) * bytes ≤ 2 ^ 40 → All2 (VS β) olda old → old.length = len * esz →
          (∀ m, (Builtin.firstCells esz len sv).run P { w with drawn := m } = .ok old.toArray { w with drawn := m }) → SR β H1 w → Fr β H w β H1 w → r = .v (.sl H1.n 0 (len + n) esz) → H' = H1.alloc (.own (olda ++ new)) →
          ∃ β' u w', (Builtin.append_ #[t0, t1] ty #[sv, xv]).run P w = .ok u w' ∧ Le β β' ∧ SR β' H' w' ∧ TVR β' r u ∧ Fr β H w β' H' w' := by
        intro len cap a old olda H1 hsv' hfit hroom hold hlold hfco hs1 hf1 hr hH
        subst hsv' hr hH
        obtain ⟨newCap, m, hcap, hrun⟩ := run_append_grows (P := P) (w := w) (ty := ty) he hsz htw hib hbpos hd1 hnot (hlen w) hfc hfco hzw hfit hroom
        have ha : All2 (VS β) (olda ++ new) (old ++ us) := hold.append hn
        refine ⟨_, _, _, hrun, Le.ext (hs1.dom _ (Nat.le_refl _)), (hs1.draw m).alloc (t := e) (rest := (Builtin.zeroCells zv.cells (newCap - (len + n))).toList) (fz := (0, 0)) ha (.inl rfl), ?_,
          hf1.trans ((Fr.draw m).trans (Fr.alloc (hs1.draw m) _ _))⟩
        refine ⟨_, _, newCap, if_pos rfl, rfl, hcap, .inl ⟨rfl, ?_⟩⟩
        simp only [List.length_append, zeroCells_len, hzs, hlold, hlu]
        have e1 : newCap * esz = (len + n) * esz + (newCap - (len + n)) * esz := by
          rw [← Nat.add_mul]; congr 1; omega
        have e2 : (len + n) * esz = len * esz + n * esz := Nat.add_mul _ _ _
        omega
      split at h
      · -- nil
        have hsv' : sv = .slice none 0 0 := hsv
        split at h
        · rename_i hn0
          cases h
          subst hsv'
          refine ⟨β, .slice none 0 0, w, ?_, Le.refl β, hs, rfl, Fr.refl β H w⟩
          rw [run_append_fits (w := w) he hsz hd1 hnot (hlen w) hfc0 (by omega)]
          simp [hn0]
        · rename_i hn0
          split at h
          · rename_i hroom
            cases h
            have := grow (len := 0) (cap := 0) (a := none) (old := []) (olda := []) (H1 := H) hsv' (by omega) (by simpa using hroom) trivial (by simp) (fun m => by subst hsv'; simp [Builtin.firstCells]) hs (Fr.refl β H w) (by simp) (by simp)
            exact this
          · cases h
      · rename_i id off len esz' 
        split at h
        · rename_i cs hown
          split at h
          · rename_i hc
            obtain ⟨rfl, hend, hroom⟩ := hc
            cases h
            obtain ⟨l, a, cap, hl, hsv', hlc, hor⟩ := hsv
            obtain ⟨ccs, e0, fz, g1, g2, g3, g4⟩ := own_row hs hl hown
            have hcold : cellsOfArg H esz' (.sl id off len esz') = some (len, (cs.drop off).take (len * esz')) := by
              simp [cellsOfArg, rdCells, hown, Blk.cs]; omega
            have hdt : (cs.drop off).take (len * esz') = cs.drop off := List.take_of_length_le (by simp; omega)
            rw [hdt] at hcold
            obtain ⟨_, old, ho1, ho2, _, ho3⟩ := run_arg (P := P) (x := .sl id off len esz') (xv := sv) hs ⟨l, a, cap, hl, hsv', hlc, hor⟩ hcold
            by_cases hfit : len + n ≤ cap
            · subst hsv'
              rw [run_append_fits (w := w) he hsz hd1 hnot (hlen w) hfc0 hfit]
              rcases hor with ⟨rfl, hsize⟩ | ⟨rfl, rfl⟩
              · have hle : (len + n) * esz' ≤ cap * esz' := Nat.mul_le_mul_right _ hfit
                have e2 : (len + n) * esz' = len * esz' + n * esz' := Nat.add_mul _ _ _
                have hnl : new.length = n * esz' := by rw [hn.len, hlu]
                obtain ⟨w', hr, hw⟩ := run_storeCells (P := P) l.blk (l.base + cs.length) e0 fz us 0 w ccs hn.ones g1 (by omega) g4
                have hadr : (⟨l.blk, l.base + off, none⟩ : Addr).add (len * esz') = ⟨l.blk, l.base + cs.length, none⟩ := by
                  rw [addr_add]; congr 1; omega
                refine ⟨_, _, w', by simp only [hadr, hr, Result.andThen_ok]; rfl, Le.ext (hs.dom _ (Nat.le_refl _)), hs.grow hl hown g1 (by omega) (by omega) hn (by simpa using hw), ?_, Fr.grow hs hl hown hw⟩
                refine ⟨_, _, cap, if_pos rfl, rfl, hfit, .inl ⟨by simp, ?_⟩⟩
                simp only
                omega
              · obtain rfl : n = 0 := by omega
                have hus : us = [] := List.length_eq_zero_iff.1 (by simpa using hlu)
                subst hus
                have hnew : new = [] := List.length_eq_zero_iff.1 (by simpa using hn.len)
                subst hnew
                have hst : ∀ ad : Option Addr, ((match ad with | some ad => storeCells (ad.add (0 * esz')) [] | none => pure () : Sem Unit).run P w) = .ok () w := by
                  intro ad; cases ad <;> simp [storeCells]
                refine ⟨β.ext H.n ⟨l.blk, l.base + off, l.size - off⟩, _, w, by rw [hst]; simp only [Result.andThen_ok]; rfl, Le.ext (hs.dom _ (Nat.le_refl _)), ?_, ?_, ?_⟩
                · have hw : Wr w w l.blk e0 fz ccs (l.base + cs.length) [] := ⟨rfl, rfl, rfl, rfl, fun _ _ => rfl, ccs, g1, rfl, fun k => by rw [if_neg (by simp)]⟩
                  exact hs.grow hl hown g1 (by omega) (by simp; omega) (us := []) trivial hw
                · exact ⟨_, _, 0, if_pos rfl, rfl, Nat.le_refl _, .inr ⟨rfl, rfl⟩⟩
                · have hw : Wr w w l.blk e0 fz ccs (l.base + cs.length) [] := ⟨rfl, rfl, rfl, rfl, fun _ _ => rfl, ccs, g1, rfl, fun k => by rw [if_neg (by simp)]⟩
                  exact Fr.grow hs hl hown hw
            · exact grow (H1 := H.put id .gone) hsv' hfit hroom ho1 ho2 ho3 (hs.giveUp id (by rw [hown]; exact fun e => Blk.noConfusion e)) (Fr.giveUp id) rfl rfl
          · cases h
        · cases h
      · cases h


theorem run_copy {t0 t1 ty : TypeId} {e : TypeId} {esz : Nat} {d x : AV} {dv xv : Value} {n : Nat} {new : List AV} {r : TV}
    (hs : SR β H w) (he : telem P t0 = some e) (hsz : tsz P e = some esz) (hdv : VR β d dv) (hxv : VR β x xv) (hca : cellsOfArg H esz x = some (n, new))
    (h : acopy H esz n new d = some (r, H')) :
    ∃ u w', (Builtin.copy_ #[t0, t1] ty #[dv, xv]).run P w = .ok u w' ∧ SR β H' w' ∧ TVR β r u ∧ Fr β H w β H' w' := by
  obtain ⟨hlen, us, hn, hlu, hfk, hfc⟩ := run_arg (P := P) hs hxv hca
  unfold acopy at h
  split at h
  · cases h
    have hd' : dv = .slice none 0 0 := hdv
    subst hd'
    have hf0 := hfk w.drawn 0 (Nat.zero_le _)
    refine ⟨.int .i64 0, w, ?_, hs, rfl, Fr.refl β H w⟩
    have hmin : Nat.min n 0 = 0 := Nat.min_zero n
    simp [Builtin.copy_, run_underlying (telem_und he), hlen, run_tsz hsz, hmin, goInt]
    rw [show ({ heap := w.heap, tape := w.tape, drawn := w.drawn, os := w.os, output := w.output } : World) = w from rfl] at hf0
    rw [hf0]
    simp
  · rename_i id off len esz'
    split at h
    · cases h
    · rename_i hee
      have hee' : esz' = esz := by omega
      subst hee'
      cases hw : wrCells H id off (new.take (min n len * esz')) with
      | none => rw [hw] at h; cases h
      | some H2 =>
        rw [hw] at h
        cases h
        obtain ⟨l, a, cap, hl, hdv', hlc, hor⟩ := hdv
        subst hdv'
        have hle : min n len ≤ n := Nat.min_le_left _ _
        have hf := hfk w.drawn (min n len) hle
        rw [show ({ heap := w.heap, tape := w.tape, drawn := w.drawn, os := w.os, output := w.output } : World) = w from rfl] at hf
        have hn' : All2 (VS β) (new.take (min n len * esz')) (us.take (min n len * esz')) := hn.take _
        obtain ⟨w', hr, h3, h4⟩ := d_write (P := P) hs hl hn' hw
        rcases hor with ⟨rfl, hsize⟩ | ⟨rfl, rfl⟩
        · refine ⟨.int .i64 (min n len : Nat), w', ?_, h3, rfl, h4⟩
          have hmin : Nat.min n len = min n len := rfl
          simp only [Builtin.copy_, List.getElem?_toArray, List.getElem?_cons_zero, List.getElem?_cons_succ, Sem.run_bind, run_underlying (telem_und he), Result.andThen_ok, hlen, run_tsz hsz, hmin, hf, hr, Sem.run_pure, goInt]
        · have h0 : us.take (min n 0 * esz') = [] := by simp
          rw [h0] at hr hf
          have hw0 : w' = w := by simp [storeCells] at hr; exact hr.symm
          subst hw0
          refine ⟨.int .i64 (min n 0 : Nat), w', ?_, h3, rfl, h4⟩
          have hmin : Nat.min n 0 = min n 0 := rfl
          simp only [Builtin.copy_, List.getElem?_toArray, List.getElem?_cons_zero, List.getElem?_cons_succ, Sem.run_bind, run_underlying (telem_und he), Result.andThen_ok, hlen, run_tsz hsz, hmin, hf, Sem.run_pure, goInt]
          cases a <;> simp [storeCells]
  · cases h

theorem max2_nan {k : FloatKind} {mx : Bool} {x y : Nat} : ∀ t, (k.decode (Question.cut (.nanMinMax k mx x y) t)).isNaN = true := by
  intro t
  cases k
  · exact nan_f32 t
  · exact nan_f64 t

theorem neg_cz (k : FloatKind) (a : Nat) (h : (k.decode a).isNaN = false) : cz k a = a := by unfold cz; rw [h]; rfl

theorem order_some {k : FloatKind} {a b : Nat} {r : Ordering} (h : k.format.order a b = some r) : (k.decode a).isNaN = false ∧ (k.decode b).isNaN = false := by
  constructor
  · cases hn : (k.decode a).isNaN with
    | false => rfl
    | true => rw [show k.format.order a b = (k.decode a).order (k.decode b) from rfl, order_nan_left hn] at h; cases h
  · cases hn : (k.decode b).isNaN with
    | false => rfl
    | true => rw [show k.format.order a b = (k.decode a).order (k.decode b) from rfl, order_nan_right hn] at h; cases h

theorem run_mm (mx : Bool) {x y z : AV} {xv yv : Value} (hx : VR β x xv) (hy : VR β y yv) (h : minMax2 mx x y = some z) :
    ∃ u n, (if mx then Builtin.max2 xv yv else Builtin.min2 xv yv).run P w = .ok u { w with drawn := n } ∧ VR β z u := by
  cases x <;> cases y <;> simp only [minMax2] at h <;> first | (cases h; done) | skip
  case int.int k a k' b =>
    have hx' : xv = .int k a := hx
    have hy' : yv = .int k' b := hy
    subst hx' hy'
    split at h
    · cases h
      cases mx
      · exact ⟨_, w.drawn, by simp [Builtin.min2], rfl⟩
      · exact ⟨_, w.drawn, by simp [Builtin.max2], rfl⟩
    · cases h
  case flt.flt k a k' b =>
    obtain ⟨a', rfl, ha⟩ := hx
    obtain ⟨b', rfl, hb⟩ := hy
    split at h
    · rename_i hk
      subst hk
      subst ha hb
      rw [order_cz] at h
      cases ho : k.format.order a' b' with
      | none =>
        rw [ho] at h
        cases h
        cases mx
        · exact ⟨.float k (Question.cut (.nanMinMax k false a' b') (w.tape w.drawn (.nanMinMax k false a' b'))), w.drawn + 1, by simp [Builtin.min2, ho, Question.forced], ⟨_, rfl, by simp [cz, max2_nan]⟩⟩
        · exact ⟨.float k (Question.cut (.nanMinMax k true a' b') (w.tape w.drawn (.nanMinMax k true a' b'))), w.drawn + 1, by simp [Builtin.max2, ho, Question.forced], ⟨_, rfl, by simp [cz, max2_nan]⟩⟩
      | some r =>
        obtain ⟨h1, h2⟩ := order_some ho
        rw [ho, neg_cz k a' h1, neg_cz k b' h2] at h
        cases r <;> simp only at h <;> cases h <;> cases mx
        · exact ⟨.float k a', w.drawn, by simp [Builtin.min2, ho], ⟨_, rfl, neg_cz k a' h1⟩⟩
        · exact ⟨.float k b', w.drawn, by simp [Builtin.max2, ho], ⟨_, rfl, neg_cz k b' h2⟩⟩
        · refine ⟨.float k (if (k.decode a').neg then a' else b'), w.drawn, by simp [Builtin.min2, ho], ⟨_, rfl, ?_⟩⟩
          cases (k.decode a').neg <;> simp [neg_cz k a' h1, neg_cz k b' h2]
        · refine ⟨.float k (if (k.decode a').neg then b' else a'), w.drawn, by simp [Builtin.max2, ho], ⟨_, rfl, ?_⟩⟩
          cases (k.decode a').neg <;> simp [neg_cz k a' h1, neg_cz k b' h2]
        · exact ⟨.float k b', w.drawn, by simp [Builtin.min2, ho], ⟨_, rfl, neg_cz k b' h2⟩⟩
        · exact ⟨.float k a', w.drawn, by simp [Builtin.max2, ho], ⟨_, rfl, neg_cz k a' h1⟩⟩
    · cases h

theorem run_foldMM (mx : Bool) : ∀ (ys : List AV) (yvs : List Value) (x z : AV) (xv : Value) (w : World), VR β x xv → All2 (VR β) ys yvs → foldMM mx x ys = some z →
    ∃ u n, (yvs.foldlM (fun a b => if mx then Builtin.max2 a b else Builtin.min2 a b) xv).run P w = .ok u { w with drawn := n } ∧ VR β z u
  | [], [], x, z, xv, w, hx, _, h => by simp [foldMM] at h; subst h; exact ⟨xv, w.drawn, by simp, hx⟩
  | y :: ys, yv :: yvs, x, z, xv, w, hx, hy, h => by
    simp only [foldMM] at h
    split at h
    · rename_i z1 hz1
      obtain ⟨u1, n1, h1, h2⟩ := run_mm (P := P) (w := w) mx hx hy.1 hz1
      obtain ⟨u, n, h3, h4⟩ := run_foldMM mx ys yvs z1 z u1 { w with drawn := n1 } h2 hy.2 h
      exact ⟨u, n, by simp only [List.foldlM_cons, Sem.run_bind, h1, Result.andThen_ok, h3], h4⟩
    · cases h
  | [], _ :: _, _, _, _, _, _, h, _ => h.elim
  | _ :: _, [], _, _, _, _, _, h, _ => h.elim

theorem argsAV_all {l : List TV} : ∀ {us : List Value} {xs : List AV}, All2 (TVR β) l us → argsAV l = some xs → All2 (VR β) xs us := by
  induction l with
  | nil => intro us xs h e; simp [argsAV] at e; subst e; cases us <;> simp_all [All2]
  | cons a l ih =>
    intro us xs h e
    cases us with
    | nil => exact h.elim
    | cons u us =>
      cases a <;> simp only [argsAV] at e <;> first | (cases e; done) | skip
      rename_i x
      cases hr : argsAV l with
      | none => rw [hr] at e; cases e
      | some rs =>
        rw [hr] at e
        cases e
        exact ⟨h.1, ih h.2 hr⟩

theorem d_builtin (b : Builtin) (tys : Array TypeId) (args : Array Operand) (ho : o.op = .call { callee := .builtin b, args, argTypes := tys }) (hs : SR β H w) (hx : ∀ x ∈ args.toList, TVR β (ev x) (ρ x))
    (h : abuiltin P b tys (args.toList.map ev) H = some (v, H')) : Done β H w ((execOp ρ o).run P w) v H' := by
  have hall : All2 (TVR β) (args.toList.map ev) (args.toList.map ρ) := by
    have : ∀ l : List Operand, (∀ x ∈ l, TVR β (ev x) (ρ x)) → All2 (TVR β) (l.map ev) (l.map ρ) := by
      intro l
      induction l with
      | nil => intro _; trivial
      | cons x l ih => intro h; exact ⟨h x (by simp), ih fun y hy => h y (by simp [hy])⟩
    exact this _ hx
  have hargs : args.map ρ = (args.toList.map ρ).toArray := Array.ext' (by simp)
  have hexec : ∀ (s : Sem Value) (tt : TypeId → Array TypeId → Array Bool → Prop), (∀ (ty : TypeId) (cs : Array Bool), builtin b tys ty cs (args.toList.map ρ).toArray = (do pure (.value (← s)))) →
      (execOp ρ o).run P w = (s.run P w).andThen fun u w' => .ok (.value u) w' := by
    intro s _ hb
    simp only [execOp, ho, resolve, invoke, hargs]
    simp [hb]
  generalize args.toList.map ev = es at h hall
  generalize args.toList.map ρ = us at hall hexec
  unfold abuiltin at h
  split at h
  · -- len of a string
    rename_i s
    match us, hall with
    | [u], hall =>
      have hu : u = .string s := hall.1
      subst hu
      split at h
      · rename_i t0 ht0
        split at h
        · rename_i ht
          cases h
          refine Done.same hs (u := .int .i64 s.size) ?_ rfl
          rw [hexec (Builtin.len_ tys 0 #[.string s]) (fun _ _ _ => True) (fun ty cs => by simp [builtin, Builtin.len_])]
          simp [Builtin.len_, ht0, run_underlying (tstr_und ht), goInt]
        · cases h
      · cases h
  · match us, hall with
    | [u], hall =>
      have hu : u = .slice none 0 0 := hall.1
      subst hu
      split at h
      · rename_i t0 ht0
        split at h
        · rename_i ht
          cases h
          obtain ⟨e, he⟩ := Option.isSome_iff_exists.1 ht
          refine Done.same hs (u := .int .i64 0) ?_ rfl
          rw [hexec (Builtin.len_ tys 0 #[.slice none 0 0]) (fun _ _ _ => True) (fun ty cs => by simp [builtin, Builtin.len_])]
          simp [Builtin.len_, ht0, run_underlying (telem_und he), goInt]
        · cases h
      · cases h
  · rename_i id off n esz
    match us, hall with
    | [u], hall =>
      obtain ⟨l, a, cap, hl, hu, _⟩ := hall.1
      subst hu
      split at h
      · rename_i t0 ht0
        split at h
        · rename_i ht
          cases h
          obtain ⟨e, he⟩ := Option.isSome_iff_exists.1 ht
          refine Done.same hs (u := .int .i64 n) ?_ rfl
          rw [hexec (Builtin.len_ tys 0 #[.slice a n cap]) (fun _ _ _ => True) (fun ty cs => by simp [builtin, Builtin.len_])]
          simp [Builtin.len_, ht0, run_underlying (telem_und he), goInt]
        · cases h
      · cases h
  · -- append
    rename_i s x
    match us, hall with
    | [su, xu], hall =>
      split at h
      · rename_i t0 t1 ht0 ht1
        split at h
        · rename_i e he
          split at h
          · rename_i esz bytes z hsz hby hz
            split at h
            · rename_i hc
              obtain ⟨β', u, w', h1, h2, h3, h4, h5⟩ := run_append (P := P) (w := w) (ty := 0) hs he hsz hby hz hc.1 hc.2.1 hc.2.2 hall.1 hall.2.1 h
              refine ⟨β', u, w', .inl ?_, h2, h3, h4, h5⟩
              have happ : ∀ ty, Builtin.append_ tys ty #[su, xu] = Builtin.append_ #[t0, t1] 0 #[su, xu] := by
                intro ty
                simp only [Builtin.append_, ht0, ht1, List.getElem?_toArray, List.getElem?_cons_zero, List.getElem?_cons_succ]
              rw [hexec (Builtin.append_ #[t0, t1] 0 #[su, xu]) (fun _ _ _ => True) (fun ty cs => by simp only [builtin, happ])]
              rw [h1]
              rfl
            · cases h
          · cases h
        · cases h
      · cases h
  · -- copy
    rename_i d x
    match us, hall with
    | [du, xu], hall =>
      split at h
      · rename_i t0 ht0
        split at h
        · rename_i e he
          split at h
          · rename_i esz hsz
            split at h
            · rename_i n new hca
              obtain ⟨u, w', h1, h2, h3, h4⟩ := run_copy (P := P) (w := w) (t1 := 0) (ty := 0) hs he hsz hall.1 hall.2.1 hca h
              refine ⟨β, u, w', .inl ?_, Le.refl β, h2, h3, h4⟩
              have happ : ∀ ty, Builtin.copy_ tys ty #[du, xu] = Builtin.copy_ #[t0, 0] 0 #[du, xu] := by
                intro ty
                simp only [Builtin.copy_, ht0, List.getElem?_toArray, List.getElem?_cons_zero, List.getElem?_cons_succ]
              rw [hexec (Builtin.copy_ #[t0, 0] 0 #[du, xu]) (fun _ _ _ => True) (fun ty cs => by simp only [builtin, happ])]
              rw [h1]
              rfl
            · cases h
          · cases h
        · cases h
      · cases h
  · -- max
    split at h
    · rename_i x r hargsAV
      have ha := argsAV_all hall hargsAV
      match us, ha with
      | xu :: ru, ha =>
        cases hf : foldMM true x r with
        | none => rw [hf] at h; cases h
        | some z =>
          rw [hf] at h
          cases h
          obtain ⟨u, n, h1, h2⟩ := run_foldMM (P := P) true r ru x z xu w ha.1 ha.2 hf
          refine Done.drew n hs (u := u) ?_ h2
          rw [hexec (Builtin.max_ tys 0 (xu :: ru).toArray) (fun _ _ _ => True) (fun ty cs => by simp [builtin, Builtin.max_])]
          simp only [if_true] at h1
          simp [Builtin.max_, h1]
    · cases h
  · split at h
    · rename_i x r hargsAV
      have ha := argsAV_all hall hargsAV
      match us, ha with
      | xu :: ru, ha =>
        cases hf : foldMM false x r with
        | none => rw [hf] at h; cases h
        | some z =>
          rw [hf] at h
          cases h
          obtain ⟨u, n, h1, h2⟩ := run_foldMM (P := P) false r ru x z xu w ha.1 ha.2 hf
          refine Done.drew n hs (u := u) ?_ h2
          rw [hexec (Builtin.min_ tys 0 (xu :: ru).toArray) (fun _ _ _ => True) (fun ty cs => by simp [builtin, Builtin.min_])]
          simp only [Bool.false_eq_true, if_false] at h1
          simp [Builtin.min_, h1]
    · cases h
  · cases h

end
end Go.Ab

namespace Go.Ab
set_option linter.unusedVariables false
set_option linter.unusedSimpArgs false

/-- What a call hands back. -/
def Back (β : Emb) (H : Heap) (w : World) (r : TV) (H2 : Heap) (e : Ending) (w' : World) : Prop :=
  ∃ rv β2, e = .returned rv ∧ Le β β2 ∧ SR β2 H2 w' ∧ TVR β2 r rv ∧ Fr β H w β2 H2 w'

/-- THE CONTRACT: called with these values, in memory that reads so, function f hands back r, and memory reads as H2. -/
def Ok (P : Program) (f : FuncId) (args : List TV) (H : Heap) (r : TV) (H2 : Heap) : Prop :=
  ∀ β us w, SR β H w → All2 (TVR β) args us →
    match (callFunc f us.toArray).run P w with
    | .ok (.enter g cargs) w1 => Calls P g cargs w1 (Back β H w r H2)
    | .ok (.value v) w1 => Back β H w r H2 (.returned v) w1
    | _ => False

/-- One operation: whatever represents what it reads, it yields what represents its value. -/
def OpSem (P : Program) (o : Oper) (ev : Operand → TV) (H : Heap) (v : TV) (H' : Heap) : Prop :=
  ∀ β a w, SR β H w → (∀ x ∈ o.op.operands.toList, TVR β (ev x) (a.eval x)) → ∀ (K : Act → World → Prop) (Q : Exit → Act → World → Prop),
    (∀ β' u w', Le β β' → SR β' H' w' → TVR β' v u → Fr β H w β' H' w' → K (a.put o.dst u) w') → o.wp P a w K Q

theorem OpSem.of_done {P : Program} {o : Oper} {ev : Operand → TV} {H H' : Heap} {v : TV}
    (h : ∀ β (a : Act) w, SR β H w → (∀ x ∈ o.op.operands.toList, TVR β (ev x) (a.eval x)) → Done β H w ((execOp a.eval o).run P w) v H') : OpSem P o ev H v H' := by
  intro β a w hs hv K Q hK
  obtain ⟨β', u, w', hr, h1, h2, h3, h4⟩ := h β a w hs hv
  unfold Oper.wp
  rcases hr with hr | ⟨hr, rfl⟩
  · rw [hr]; exact hK β' u w' h1 h2 h3 h4
  · rw [hr]; exact hK β' undef w' h1 h2 h3 h4

theorem step_sound {P : Program} {o : Oper} {ev : Operand → TV} {H H' : Heap} {v : TV} (h : astep P ev o.op H = some (v, H')) : OpSem P o ev H v H' := by
  refine OpSem.of_done fun β a w hs hv => ?_
  cases hop : o.op with
  | move x =>
    rw [hop] at h hv
    simp only [astep] at h
    cases h
    exact Done.same hs (u := a.eval x) (by simp [execOp, hop]) (hv x (by simp [Op.operands]))
  | assign x =>
    rw [hop] at h hv
    simp only [astep] at h
    cases h
    exact Done.same hs (u := a.eval x) (by simp [execOp, hop]) (hv x (by simp [Op.operands]))
  | pick c x y =>
    rw [hop] at h hv
    simp only [astep] at h
    split at h
    · rename_i t ht
      cases h
      have hc := hv c (by simp [Op.operands])
      rw [ht] at hc
      have hc' : a.eval c = .bool t := hc
      refine Done.same hs (u := if t then a.eval x else a.eval y) (by simp [execOp, hop, hc', asBool]) ?_
      cases t
      · exact hv y (by simp [Op.operands])
      · exact hv x (by simp [Op.operands])
    · cases h
  | alloc e => rw [hop] at h hv; exact d_alloc e hop hs h
  | box e x => rw [hop] at h hv; exact d_box e x hop hs (hv x (by simp [Op.operands])) h
  | build t ps => rw [hop] at h hv; exact d_build t ps hop hs (fun x hx => hv x (by simpa [Op.operands] using hx)) h
  | buildSlice t l ps => rw [hop] at h hv; exact d_buildSlice t l ps hop hs (fun x hx => hv x (by simpa [Op.operands] using hx)) h
  | load t x => rw [hop] at h hv; exact d_load t x hop hs (hv x (by simp [Op.operands])) h
  | store t x y => rw [hop] at h hv; exact d_store t x y hop hs (hv x (by simp [Op.operands])) (hv y (by simp [Op.operands])) h
  | nilCheck x => rw [hop] at h hv; exact d_nilCheck x hop hs (hv x (by simp [Op.operands])) h
  | binOp op t x y t2 => rw [hop] at h hv; exact d_binOp op t t2 x y hop hs (hv x (by simp [Op.operands])) (hv y (by simp [Op.operands])) h
  | unOp op t x => rw [hop] at h hv; exact d_unOp op t x hop hs (hv x (by simp [Op.operands])) h
  | convert src dst x => rw [hop] at h hv; exact d_convert src dst x hop hs (hv x (by simp [Op.operands])) h
  | makeFunc fn first captured =>
    rw [hop] at h hv
    cases fn <;> simp only [astep] at h <;> first
      | (cases h; done)
      | exact d_makeFunc _ first captured hop hs (fun x hx => hv x (by simp [Op.operands]; exact .inr (by simpa using hx))) (by simpa only [astep] using h)
  | makeSlice t l c => rw [hop] at h hv; exact d_makeSlice t l c hop hs (hv l (by simp [Op.operands])) (hv c (by simp [Op.operands])) h
  | slice t x lo hi mx =>
    rw [hop] at h hv
    cases mx with
    | none => exact d_slice t x lo hi hop hs (hv x (by simp [Op.operands])) (fun y hy => hv y (by simp [Op.operands, hy])) (fun y hy => hv y (by simp [Op.operands, hy])) h
    | some m => simp [astep] at h
  | fieldAddr st x f => rw [hop] at h hv; exact d_fieldAddr st x f hop hs (hv x (by simp [Op.operands])) h
  | field t x f => rw [hop] at h hv; exact d_field t x f hop hs (hv x (by simp [Op.operands])) h
  | indexAddr t x i => rw [hop] at h hv; exact d_indexAddr t x i hop hs (hv x (by simp [Op.operands])) (hv i (by simp [Op.operands])) h
  | index t x i => rw [hop] at h hv; exact d_index t x i hop hs (hv x (by simp [Op.operands])) (hv i (by simp [Op.operands])) h
  | extract x i => rw [hop] at h hv; exact d_extract x i hop hs (hv x (by simp [Op.operands])) h
  | call c =>
    rw [hop] at h hv
    simp only [astep] at h
    cases hc : c.callee with
    | builtin b =>
      rw [hc] at h
      have hc2 : c = { callee := .builtin b, args := c.args, argTypes := c.argTypes } := by cases c; simp_all
      refine d_builtin b c.argTypes c.args (by rw [hop, hc2]) hs (fun x hx => hv x ?_) h
      simp [Op.operands, Call.operands, hc]
      simpa using hx
    | value f => rw [hc] at h; cases h
    | invoke r n => rw [hc] at h; cases h
  | makeInterface t x => rw [hop] at h hv; exact d_makeInterface t x hop hs (hv x (by simp [Op.operands])) h
  | insert => rw [hop] at h; simp [astep] at h
  | ready => rw [hop] at h; simp [astep] at h
  | waits => rw [hop] at h; simp [astep] at h
  | sliceToArrayPointer => rw [hop] at h; simp [astep] at h
  | makeMap t r =>
    rw [hop] at h hv
    cases r with
    | none => exact d_makeMap t hop hs h
    | some r => simp [astep] at h
  | makeChan => rw [hop] at h; simp [astep] at h
  | lookup t m x ok =>
    rw [hop] at h hv
    cases ok with
    | false => exact d_lookup t m x hop hs (hv m (by simp [Op.operands])) (hv x (by simp [Op.operands])) h
    | true => simp [astep] at h
  | mapUpdate t m x y => rw [hop] at h hv; exact d_mapUpdate t m x y hop hs (hv m (by simp [Op.operands])) (hv x (by simp [Op.operands])) (hv y (by simp [Op.operands])) h
  | mapEntry => rw [hop] at h; simp [astep] at h
  | entryStore => rw [hop] at h; simp [astep] at h
  | range => rw [hop] at h; simp [astep] at h
  | next => rw [hop] at h; simp [astep] at h
  | entry => rw [hop] at h; simp [astep] at h
  | typeAssert => rw [hop] at h; simp [astep] at h
  | go => rw [hop] at h; simp [astep] at h
  | defer => rw [hop] at h; simp [astep] at h
  | panic => rw [hop] at h; simp [astep] at h
  | send => rw [hop] at h; simp [astep] at h
  | recv => rw [hop] at h; simp [astep] at h
  | select => rw [hop] at h; simp [astep] at h

theorem All2.of_map {γ α δ : Type} {R : α → δ → Prop} {f : γ → α} {g : γ → δ} : ∀ (l : List γ), (∀ x ∈ l, R (f x) (g x)) → All2 R (l.map f) (l.map g)
  | [], _ => trivial
  | x :: l, h => ⟨h x (by simp), All2.of_map l fun y hy => h y (by simp [hy])⟩

theorem call_sound {P : Program} {o : Oper} {ev : Operand → TV} {H H' : Heap} {v : TV} {c : Call} {f : Operand} {g : FuncId} {caps : List (Nat × Nat)} (hop : o.op = .call c) (hc : c.callee = .value f)
    (hf : ev f = .v (.fn g caps)) (h : Ok P g (c.args.toList.map ev ++ caps.map fun p => TV.v (.ptr p.1 p.2)) H v H') : OpSem P o ev H v H' := by
  intro β a w hs hv K Q hK
  rw [hop] at hv
  have hfv := hv f (by simp [Op.operands, Call.operands, hc])
  rw [hf] at hfv
  obtain ⟨us, hfe, hcap⟩ := hfv
  have hargs : All2 (TVR β) (c.args.toList.map ev) (c.args.toList.map a.eval) :=
    All2.of_map _ fun x hx => hv x (by simp [Op.operands, Call.operands, hc]; exact .inr (by simpa using hx))
  have hcaps : All2 (TVR β) (caps.map fun p => TV.v (.ptr p.1 p.2)) us := by
    have : ∀ (cs : List (Nat × Nat)) (us : List Value), All2 (fun (c : Nat × Nat) u => ∃ l, β c.1 = some l ∧ u = ptrV l c.2) cs us → All2 (TVR β) (cs.map fun p => TV.v (.ptr p.1 p.2)) us := by
      intro cs
      induction cs with
      | nil => intro us h; cases us <;> simp_all [All2]
      | cons x cs ih => intro us h; cases us with
        | nil => exact h.elim
        | cons u us => exact ⟨h.1, ih us h.2⟩
    exact this caps us hcap
  have hall := hargs.append hcaps
  have key := h β _ w hs hall
  have hexec : (execOp a.eval o).run P w = (callFunc g (c.args.toList.map a.eval ++ us).toArray).run P w := by
    have e1 : c.args.map a.eval ++ us.toArray = (c.args.toList.map a.eval ++ us).toArray := Array.ext' (by simp)
    simp [execOp, hop, resolve, hc, hfe, Deferred.ofValue, invoke, e1]
  unfold Oper.wp
  rw [hexec]
  generalize (callFunc g (c.args.toList.map a.eval ++ us).toArray).run P w = res at key
  cases res with
  | halt x w1 => exact key.elim
  | ok nx w1 =>
    cases nx <;> simp only at key <;> first | exact key.elim | skip
    case value u =>
      obtain ⟨rv, β2, e, h1, h2, h3, h4⟩ := key
      cases e
      exact hK β2 u w1 h1 h2 h3 h4
    case enter f' args =>
      refine key.mono fun e w2 hb => ?_
      obtain ⟨rv, β2, rfl, h1, h2, h3, h4⟩ := hb
      exact hK β2 rv w2 h1 h2 h3 h4

/-! ### one operation, with its guard -/
/-- What the operation may yield. -/
inductive StepR (P : Program) (ops : List Oper) (s : Nat → TV) (H : Heap) (o : Oper) : TV → Heap → Prop
  | plain {v H'} (hw : o.guard = none ∨ ∃ j want, o.guard = some (j, want) ∧ ayield ops s j = some (some want)) (h : OpSem P o (aeval s) H v H') : StepR P ops s H o v H'
  | skip {j want y} (hg : o.guard = some (j, want)) (hy : ayield ops s j = some y) (hne : y ≠ some want) : StepR P ops s H o (.v .und) H

/-- The temporaries. -/
structure AR (β : Emb) (s : Nat → TV) (a : Act) (n : Nat) : Prop where
  size : a.tmps.size = n
  val : ∀ t, TVR β (s t) (a.tmps.getD t undef)
  defers : a.defers = []

theorem AR.mono {β γ : Emb} {s : Nat → TV} {a : Act} {n : Nat} (h : Le β γ) (ha : AR β s a n) : AR γ s a n := ⟨ha.size, fun t => TVR.mono h (ha.val t), ha.defers⟩

theorem getD_put (a : Act) (d : Tmp) (u : Value) (t : Nat) (hd : d < a.tmps.size) : (a.put (some d) u).tmps.getD t undef = if t = d then u else a.tmps.getD t undef := by
  simp only [Act.put, Array.getD_eq_getD_getElem?, Array.getElem?_setIfInBounds]
  by_cases h : t = d
  · subst h; simp [hd]
  · simp [h, Ne.symm h]

theorem AR.put {β : Emb} {s : Nat → TV} {a : Act} {n : Nat} {dst : Option Tmp} {v : TV} {u : Value} (ha : AR β s a n) (hd : ∀ d, dst = some d → d < n) (hv : TVR β v u) : AR β (aput s dst v) (a.put dst u) n := by
  cases dst with
  | none => exact ha
  | some d =>
    have hd' := hd d rfl
    refine ⟨by simp [Act.put, ha.size], fun t => ?_, ha.defers⟩
    rw [getD_put a d u t (by rw [ha.size]; exact hd')]
    show TVR β (if t = d then v else s t) _
    split
    · exact hv
    · exact ha.val t

theorem AR.eval {β : Emb} {s : Nat → TV} {a : Act} {n : Nat} (ha : AR β s a n) (x : Operand) : TVR β (aeval s x) (a.eval x) := by
  cases x with
  | tmp t => exact ha.val t
  | const c => exact TVR_ofConst β c
  | global g => trivial
  | func f => exact ⟨[], rfl, trivial⟩

theorem getElem?_of_getD (t : Array Value) (d : Nat) (h : d < t.size) : t[d]? = some (t.getD d undef) := by
  simp [Array.getD_eq_getD_getElem?, h]

/-- What a guard reads. -/
theorem yield_ok {ops : Array Oper} {s : Nat → TV} {tmps : Array Value} {n j : Nat} {y : Option Bool} {β : Emb} (hn : ∀ o ∈ ops.toList, ∀ d, o.dst = some d → d < n) (hs : tmps.size = n)
    (hv : ∀ d, (ops[j]?).bind (·.dst) = some d → TVR β (s d) (tmps.getD d undef)) (h : ayield ops.toList s j = some y) : yielded ops tmps j = y := by
  unfold ayield at h
  unfold yielded
  have e : ops.toList[j]? = ops[j]? := by simp
  rw [e] at h
  split at h
  · rename_i d hd
    have hvd := hv d hd
    have hdn : d < tmps.size := by
      rw [hs]
      cases ho : ops[j]? with
      | none => rw [ho] at hd; cases hd
      | some o =>
        rw [ho] at hd
        exact hn o (by
          have := Array.mem_of_getElem? ho
          simpa using this) d hd
    rw [hd]
    simp only [Option.bind_some, getElem?_of_getD tmps d hdn]
    split at h
    · rename_i b hb
      cases h
      rw [hb] at hvd
      have : tmps.getD d undef = .bool b := hvd
      rw [this]
    · rename_i hb
      cases h
      rw [hb] at hvd
      have : tmps.getD d undef = undef := hvd
      rw [this]
      rfl
    · cases h
  · cases h

theorem wanted_of {ops : Array Oper} {o : Oper} {tmps : Array Value} {y : Option Bool} {j : Nat} {want : Bool} (hg : o.guard = some (j, want)) (hy : yielded ops tmps j = y) :
    Region.wanted o (yielded ops tmps) = (y == some want) := by
  unfold Region.wanted
  rw [hg]
  simp [hy]


/-! ### the order of a region -/
def opTmp : Operand → Option Tmp
  | .tmp t => some t
  | _ => none

/-- What an operation names. -/
def named (ops : List Oper) (o : Oper) : List Tmp :=
  o.dst.toList ++ o.op.operands.toList.filterMap opTmp ++ (match o.guard with | some (j, _) => ((ops[j]?).bind (·.dst)).toList | none => [])

def maskOf (acc : List Nat) (o : Oper) : Nat :=
  o.after.toList.foldl (fun m e => if Region.binds .any e then m ||| 2 ^ e.on ||| acc.getD e.on 0 else m) 0

def masks : List Oper → List Nat → List Nat
  | [], acc => acc
  | o :: r, acc => masks r (acc ++ [maskOf acc o])

def maskAt (ops : List Oper) (j : Nat) : Nat := (masks ops []).getD j 0

/-- Operations that memory is nothing to. -/
def pureOp : Op → Bool
  | .move _ | .assign _ | .pick .. | .binOp .. | .unOp .. | .extract .. | .fieldAddr .. | .build .. => true
  | _ => false
def pureAt (ops : List Oper) (i : Nat) : Bool := (ops[i]?).any fun o => pureOp o.op

/-- Whatever the order: this operation comes before or behind each other one as in the text, but for those that memory is nothing to. -/
def barrier (ops : List Oper) (i : Nat) : Bool :=
  !pureAt ops i && (List.range ops.length).all fun j => pureAt ops j || if j < i then (maskAt ops i).testBit j else if i < j then (maskAt ops j).testBit i else true

def clash (ops : List Oper) (i j : Nat) : Bool :=
  match ops[i]?, ops[j]? with
  | some a, some b => a.dst.toList.any ((named ops b).contains ·) || b.dst.toList.any ((named ops a).contains ·)
  | _, _ => false

/-- A region whose order is open: edges go back, and what clashes is ordered. -/
def orderOK (ops : List Oper) : Bool :=
  ((List.range ops.length).all fun j => (ops[j]?).all fun o => o.after.toList.all fun e => !Region.binds .any e || e.on < j) &&
  (List.range ops.length).all fun j => (List.range j).all fun i => !clash ops i j || (maskAt ops j).testBit i

theorem masks_old : ∀ (ops : List Oper) (acc : List Nat) (j : Nat), j < acc.length → (masks ops acc).getD j 0 = acc.getD j 0
  | [], acc, j, _ => rfl
  | o :: r, acc, j, h => by
    rw [masks, masks_old r _ j (by simp; omega)]
    simp [List.getD_eq_getElem?_getD, List.getElem?_append_left h]

theorem masks_new : ∀ (ops : List Oper) (acc : List Nat) (j : Nat) (o : Oper), ops[j]? = some o →
    ∃ acc' : List Nat, acc'.length = acc.length + j ∧ (∀ k, k < acc'.length → acc'.getD k 0 = (masks ops acc).getD k 0) ∧ (masks ops acc).getD (acc.length + j) 0 = maskOf acc' o
  | [], _, j, o, h => by simp at h
  | x :: r, acc, 0, o, h => by
    simp at h
    subst h
    refine ⟨acc, by simp, fun k hk => (masks_old _ _ k hk).symm, ?_⟩
    rw [masks, masks_old r _ _ (by simp)]
    simp [List.getD_eq_getElem?_getD]
  | x :: r, acc, j + 1, o, h => by
    obtain ⟨acc', h1, h2, h3⟩ := masks_new r (acc ++ [maskOf acc x]) j o (by simpa using h)
    simp at h1
    refine ⟨acc', by omega, h2, ?_⟩
    rw [masks]
    rw [show acc.length + (j + 1) = (acc ++ [maskOf acc x]).length + j by simp; omega]
    exact h3

theorem maskOf_bit (acc : List Nat) (o : Oper) (i : Nat) (h : (maskOf acc o).testBit i = true) :
    ∃ e ∈ o.after.toList, Region.binds .any e = true ∧ (e.on = i ∨ (acc.getD e.on 0).testBit i = true) := by
  unfold maskOf at h
  have key : ∀ (l : List Edge) (m : Nat), (l.foldl (fun m e => if Region.binds .any e then m ||| 2 ^ e.on ||| acc.getD e.on 0 else m) m).testBit i = true →
      m.testBit i = true ∨ ∃ e ∈ l, Region.binds .any e = true ∧ (e.on = i ∨ (acc.getD e.on 0).testBit i = true) := by
    intro l
    induction l with
    | nil => intro m h; exact .inl h
    | cons e l ih =>
      intro m h
      rw [List.foldl_cons] at h
      rcases ih _ h with h1 | ⟨e', he', hb, hor⟩
      · by_cases hb : Region.binds .any e = true
        · rw [if_pos hb, Nat.testBit_or, Nat.testBit_or, Bool.or_eq_true, Bool.or_eq_true] at h1
          rcases h1 with (h1 | h1) | h1
          · exact .inl h1
          · exact .inr ⟨e, by simp, hb, .inl (by simpa [Nat.testBit_two_pow] using h1)⟩
          · exact .inr ⟨e, by simp, hb, .inr h1⟩
        · rw [if_neg hb] at h1
          exact .inl h1
      · exact .inr ⟨e', by simp [he'], hb, hor⟩
  rcases key _ 0 h with h1 | h1
  · simp at h1
  · exact h1

theorem maskAt_bit {ops : List Oper} (hok : orderOK ops = true) {j i : Nat} {o : Oper} (ho : ops[j]? = some o) (h : (maskAt ops j).testBit i = true) :
    ∃ e ∈ o.after.toList, Region.binds .any e = true ∧ (e.on = i ∨ (maskAt ops e.on).testBit i = true) := by
  obtain ⟨acc', h1, h2, h3⟩ := masks_new ops [] j o ho
  unfold maskAt at h
  simp at h3 h1
  rw [show (masks ops []).getD j 0 = maskOf acc' o by simpa using h3] at h
  obtain ⟨e, he, hb, hor⟩ := maskOf_bit acc' o i h
  refine ⟨e, he, hb, ?_⟩
  have hj : j < ops.length := by
    rcases Nat.lt_or_ge j ops.length with h' | h'
    · exact h'
    · rw [List.getElem?_eq_none h'] at ho; cases ho
  have hlt : e.on < j := by
    unfold orderOK at hok
    rw [Bool.and_eq_true] at hok
    have := List.all_eq_true.1 hok.1 j (List.mem_range.2 hj)
    rw [ho] at this
    have := List.all_eq_true.1 this e he
    rw [hb] at this
    simpa using this
  rcases hor with hor | hor
  · exact .inl hor
  · right
    unfold maskAt
    rw [← h2 e.on (by omega)]
    exact hor

theorem clash_bit {ops : List Oper} (hok : orderOK ops = true) {i j : Nat} (hij : i < j) (hj : j < ops.length) (h : clash ops i j = true) : (maskAt ops j).testBit i = true := by
  unfold orderOK at hok
  rw [Bool.and_eq_true] at hok
  have := List.all_eq_true.1 (List.all_eq_true.1 hok.2 j (List.mem_range.2 hj)) i (List.mem_range.2 hij)
  rw [h] at this
  simpa using this

/-! ### the trace of a region -/
/-- A call of a function value. -/
def callOf : Op → Option (Operand × List Operand)
  | .call c => match c.callee with
    | .value f => some (f, c.args.toList)
    | _ => none
  | _ => none

def wop (P : Program) (ev : Operand → TV) (op : Op) (H : Heap) (K : TV → Heap → Prop) : Prop :=
  match callOf op with
  | some (f, args) =>
    match ev f with
    | .v (.fn g caps) => ∃ r H2, Ok P g (args.map ev ++ caps.map fun p => TV.v (.ptr p.1 p.2)) H r H2 ∧ K r H2
    | _ => False
  | none =>
    match astep P ev op H with
    | some (v, H') => K v H'
    | none => False

def wops (P : Program) (q : Bool) (ops : List Oper) : List Oper → Nat → (Nat → TV) → Heap → ((Nat → TV) → Heap → Prop) → Prop
  | [], _, s, H, K => K s H
  | o :: r, i, s, H, K =>
    match o.guard with
    | none => wop P (aeval s) o.op H fun v H' => (q = true → H' = H ∨ barrier ops i = true) ∧ wops P q ops r (i + 1) (aput s o.dst v) H' K
    | some (j, want) =>
      match ayield ops s j with
      | some y =>
        if y = some want then wop P (aeval s) o.op H fun v H' => (q = true → H' = H ∨ barrier ops i = true) ∧ wops P q ops r (i + 1) (aput s o.dst v) H' K
        else wops P q ops r (i + 1) (aput s o.dst (.v .und)) H K
      | none => False

theorem wop_sound {P : Program} {o : Oper} {ev : Operand → TV} {H : Heap} {K : TV → Heap → Prop} (h : wop P ev o.op H K) : ∃ v H', OpSem P o ev H v H' ∧ K v H' := by
  unfold wop at h
  split at h
  · rename_i f args hc
    unfold callOf at hc
    split at hc
    · rename_i c hop
      split at hc
      · rename_i f' hcal
        cases hc
        split at h
        · rename_i g caps hf
          obtain ⟨r, H2, h1, h2⟩ := h
          exact ⟨r, H2, call_sound hop hcal hf h1, h2⟩
        · exact h.elim
      · cases hc
    · cases hc
  · split at h
    · rename_i v H' hst
      exact ⟨v, H', step_sound hst, h⟩
    · exact h.elim

theorem astep_pure {P : Program} {ev : Operand → TV} {op : Op} (hp : pureOp op = true) {H : Heap} {v : TV} {H' : Heap} (h : astep P ev op H = some (v, H')) : H' = H ∧ ∀ H2, astep P ev op H2 = some (v, H2) := by
  cases op <;> first | (exact absurd hp Bool.false_ne_true) | skip
  case move x => simp only [astep, Option.some.injEq, Prod.mk.injEq] at h ⊢; exact ⟨h.2.symm, fun H2 => ⟨h.1, trivial⟩⟩
  case assign x => simp only [astep, Option.some.injEq, Prod.mk.injEq] at h ⊢; exact ⟨h.2.symm, fun H2 => ⟨h.1, trivial⟩⟩
  case build t ps =>
    simp only [astep] at h ⊢
    split at h
    · split at h
      · rename_i hc
        obtain ⟨c, h1, h2⟩ := Option.map_eq_some_iff.1 h
        cases h2
        exact ⟨rfl, fun H2 => by rw [if_pos hc, h1]; rfl⟩
      · cases h
    · cases h
  all_goals
    simp only [astep] at h ⊢
    (repeat' split at h) <;> simp_all [Option.map_eq_some_iff]
  all_goals
    obtain ⟨a, h1, h2, h3⟩ := h
    exact ⟨h3.symm, a, h1, h2⟩

theorem callOf_pure {op : Op} (hp : pureOp op = true) : callOf op = none := by
  cases op <;> first | (exact absurd hp Bool.false_ne_true) | rfl

theorem wop_pure {P : Program} {o : Oper} {ev : Operand → TV} {H : Heap} {K : TV → Heap → Prop} (hp : pureOp o.op = true) (h : wop P ev o.op H K) : ∃ v, (∀ H2, OpSem P o ev H2 v H2) ∧ K v H := by
  unfold wop at h
  rw [callOf_pure hp] at h
  simp only at h
  split at h
  · rename_i v H' hst
    obtain ⟨rfl, h2⟩ := astep_pure hp hst
    exact ⟨v, fun H2 => step_sound (h2 H2), h⟩
  · exact h.elim

/-- A region's trace: the values before each operation, the rows, what each yields. -/
structure Trace (P : Program) (q : Bool) (ops : List Oper) (l : List Oper) (i : Nat) (S : Nat → Nat → TV) (Hs : Nat → Heap) (V : Nat → TV) : Prop where
  step : ∀ j o, l[j]? = some o → StepR P ops (S j) (Hs j) o (V j) (Hs (j + 1))
  next : ∀ j o, l[j]? = some o → S (j + 1) = aput (S j) o.dst (V j)
  quiet : q = true → ∀ j o, l[j]? = some o → Hs (j + 1) = Hs j ∨ barrier ops (i + j) = true
  pure : ∀ j o, l[j]? = some o → pureOp o.op = true → Hs (j + 1) = Hs j ∧ ∀ H2, StepR P ops (S j) H2 o (V j) H2

theorem wops_trace {P : Program} {q : Bool} {ops : List Oper} {K : (Nat → TV) → Heap → Prop} : ∀ (l : List Oper) (i : Nat) (s : Nat → TV) (H : Heap), wops P q ops l i s H K →
    ∃ S Hs V, S 0 = s ∧ Hs 0 = H ∧ Trace P q ops l i S Hs V ∧ K (S l.length) (Hs l.length)
  | [], i, s, H, h => ⟨fun _ => s, fun _ => H, fun _ => .v .und, rfl, rfl, ⟨fun j o e => by simp at e, fun j o e => by simp at e, fun _ j o e => by simp at e, fun j o e => by simp at e⟩, h⟩
  | o :: r, i, s, H, h => by
    have glue : ∀ v H', StepR P ops s H o v H' → (pureOp o.op = true → H' = H ∧ ∀ H2, StepR P ops s H2 o v H2) → (q = true → H' = H ∨ barrier ops i = true) → wops P q ops r (i + 1) (aput s o.dst v) H' K →
        ∃ S Hs V, S 0 = s ∧ Hs 0 = H ∧ Trace P q ops (o :: r) i S Hs V ∧ K (S (o :: r).length) (Hs (o :: r).length) := by
      intro v H' hst hpu hq hr
      obtain ⟨S, Hs, V, h1, h2, h3, h4⟩ := wops_trace r (i + 1) _ _ hr
      refine ⟨fun n => match n with | 0 => s | n + 1 => S n, fun n => match n with | 0 => H | n + 1 => Hs n, fun n => match n with | 0 => v | n + 1 => V n, rfl, rfl, ⟨fun j o' e => ?_, fun j o' e => ?_, fun hqt j o' e => ?_, fun j o' e hp => ?_⟩, by simpa using h4⟩
      · cases j with
        | zero =>
          simp at e
          subst e
          show StepR P ops s H o v (Hs 0)
          rw [h2]; exact hst
        | succ j => exact h3.step j o' (by simpa using e)
      · cases j with
        | zero =>
          simp at e
          subst e
          exact h1
        | succ j => exact h3.next j o' (by simpa using e)
      · cases j with
        | zero =>
          show Hs 0 = H ∨ _
          rw [h2]
          exact hq hqt
        | succ j =>
          have := h3.quiet hqt j o' (by simpa using e)
          rw [show i + (j + 1) = i + 1 + j by omega]
          exact this
      · cases j with
        | zero =>
          simp at e
          subst e
          show Hs 0 = H ∧ _
          rw [h2]
          exact hpu hp
        | succ j => exact h3.pure j o' (by simpa using e) hp
    rw [wops] at h
    split at h
    · rename_i hg
      cases hp : pureOp o.op with
      | false =>
        obtain ⟨v, H', h1, h2, h3⟩ := wop_sound h
        exact glue v H' (.plain (.inl hg) h1) (fun h => by rw [hp] at h; cases h) h2 h3
      | true =>
        obtain ⟨v, h1, h2, h3⟩ := wop_pure hp h
        exact glue v H (.plain (.inl hg) (h1 H)) (fun _ => ⟨rfl, fun H2 => .plain (.inl hg) (h1 H2)⟩) h2 h3
    · rename_i j want hg
      split at h
      · rename_i y hy
        split at h
        · rename_i hyw
          subst hyw
          cases hp : pureOp o.op with
          | false =>
            obtain ⟨v, H', h1, h2, h3⟩ := wop_sound h
            exact glue v H' (.plain (.inr ⟨j, want, hg, hy⟩) h1) (fun h => by rw [hp] at h; cases h) h2 h3
          | true =>
            obtain ⟨v, h1, h2, h3⟩ := wop_pure hp h
            exact glue v H (.plain (.inr ⟨j, want, hg, hy⟩) (h1 H)) (fun _ => ⟨rfl, fun H2 => .plain (.inr ⟨j, want, hg, hy⟩) (h1 H2)⟩) h2 h3
        · rename_i hyw
          exact glue _ _ (.skip hg hy hyw) (fun _ => ⟨rfl, fun _ => .skip hg hy hyw⟩) (fun _ => .inl rfl) h
      · exact h.elim

end Go.Ab

namespace Go.Ab
set_option linter.unusedVariables false
set_option linter.unusedSimpArgs false

section
variable {P : Program} {ops : Array Oper} {N : Nat} {S : Nat → Nat → TV} {Hs : Nat → Heap} {V : Nat → TV} {q : Bool}

/-- One operation of the trace, in a state that represents what it names. -/
theorem step_op {Hi Hi1 : Heap} {Vi : TV} (hd : ∀ o ∈ ops.toList, ∀ d, o.dst = some d → d < N) {i : Nat} {o : Oper} (ho : ops[i]? = some o) (hst : StepR P ops.toList (S i) Hi o Vi Hi1)
    {β : Emb} {a : Act} {w : World} (hs : SR β Hi w) (hsz : a.tmps.size = N) (hdf : a.defers = []) (hv : ∀ t ∈ named ops.toList o, TVR β (S i t) (a.tmps.getD t undef))
    {K : Act → World → Prop} {Q : Exit → Act → World → Prop} (hK : ∀ β' u w', Le β β' → SR β' Hi1 w' → TVR β' Vi u → Fr β Hi w β' Hi1 w' → K (a.put o.dst u) w') :
    wpOp P ops Q i K a w := by
  have hops : ∀ x ∈ o.op.operands.toList, TVR β (aeval (S i) x) (a.eval x) := by
    intro x hx
    cases x with
    | tmp t =>
      refine hv t ?_
      unfold named
      simp only [List.mem_append, List.mem_filterMap]
      exact .inl (.inr ⟨.tmp t, hx, rfl⟩)
    | const c => exact TVR_ofConst β c
    | global g => trivial
    | func f => exact ⟨[], rfl, trivial⟩
  have hyield : ∀ j want y, o.guard = some (j, want) → ayield ops.toList (S i) j = some y → yielded ops a.tmps j = y := by
    intro j want y hg hy
    refine yield_ok hd hsz (fun d hjd => hv d ?_) hy
    unfold named
    rw [hg]
    simp only [List.mem_append]
    refine .inr ?_
    have : (ops.toList[j]?).bind (·.dst) = some d := by simpa using hjd
    rw [this]
    simp
  unfold wpOp
  rw [ho]
  simp only
  cases hst with
  | plain hw h =>
    have hwant : Region.wanted o (yielded ops a.tmps) = true := by
      rcases hw with hg | ⟨j, want, hg, hy⟩
      · simp [Region.wanted, hg]
      · rw [wanted_of hg (hyield j want _ hg hy)]
        simp
    rw [hwant, if_pos rfl]
    exact .inl (h β a w hs hops K Q hK)
  | skip hg hy hne =>
    rename_i j want y
    have hwant : Region.wanted o (yielded ops a.tmps) = false := by
      rw [wanted_of hg (hyield j want _ hg hy)]
      simpa using hne
    rw [hwant, if_neg (by simp)]
    exact hK β undef w (Le.refl β) hs rfl (Fr.refl β _ w)

theorem trace_op (ht : Trace P q ops.toList ops.toList 0 S Hs V) (hd : ∀ o ∈ ops.toList, ∀ d, o.dst = some d → d < N) {i : Nat} {o : Oper} (ho : ops[i]? = some o)
    {β : Emb} {a : Act} {w : World} (hs : SR β (Hs i) w) (hsz : a.tmps.size = N) (hdf : a.defers = []) (hv : ∀ t ∈ named ops.toList o, TVR β (S i t) (a.tmps.getD t undef))
    {K : Act → World → Prop} {Q : Exit → Act → World → Prop} (hK : ∀ β' u w', Le β β' → SR β' (Hs (i + 1)) w' → TVR β' (V i) u → Fr β (Hs i) w β' (Hs (i + 1)) w' → K (a.put o.dst u) w') :
    wpOp P ops Q i K a w := step_op hd ho (ht.step i o (by simpa using ho)) hs hsz hdf hv hK

/-- In the text's order. -/
theorem region_seq (ht : Trace P q ops.toList ops.toList 0 S Hs V) (hd : ∀ o ∈ ops.toList, ∀ d, o.dst = some d → d < N) {Q : Exit → Act → World → Prop} {β0 : Emb} {w0 : World}
    (hQ : ∀ β' a' w', Le β0 β' → AR β' (S ops.size) a' N → SR β' (Hs ops.size) w' → Fr β0 (Hs 0) w0 β' (Hs ops.size) w' → Q .normal a' w') :
    ∀ (m j : Nat) (β : Emb) (a : Act) (w : World), j + m = ops.size → Le β0 β → AR β (S j) a N → SR β (Hs j) w → Fr β0 (Hs 0) w0 β (Hs j) w → wpOps P ops Q (List.range' j m) a w
  | 0, j, β, a, w, hj, hle, ha, hs, hf => by
    have : j = ops.size := by omega
    subst this
    exact hQ β a w hle ha hs hf
  | m + 1, j, β, a, w, hj, hle, ha, hs, hf => by
    rw [List.range'_succ, wpOps_cons]
    have hjl : j < ops.size := by omega
    have ho : ops[j]? = some ops[j] := by simp [hjl]
    refine trace_op ht hd ho hs ha.size ha.defers (fun t _ => ha.val t) fun β' u w' h1 h2 h3 h4 => ?_
    refine region_seq ht hd hQ m (j + 1) β' _ w' (by omega) (hle.trans h1) ?_ h2 (hf.trans h4)
    rw [ht.next j ops[j] (by simp [hjl])]
    exact (ha.mono h1).put (fun d hdd => hd _ (by simp) d hdd) h3

/-! ### in any order -/
/-- The value of a temporary where these operations have come up. -/
def look (ops : List Oper) (V : Nat → TV) (d0 : TV) (E : Nat → Bool) (t : Tmp) : Nat → TV
  | 0 => d0
  | i + 1 => if E i = true ∧ (ops[i]?).bind (·.dst) = some t then V i else look ops V d0 E t i

theorem look_congr {ops : List Oper} {V : Nat → TV} {d0 : TV} {E E' : Nat → Bool} {t : Tmp} : ∀ (k : Nat), (∀ j, j < k → (ops[j]?).bind (·.dst) = some t → E j = E' j) → look ops V d0 E t k = look ops V d0 E' t k
  | 0, _ => rfl
  | i + 1, h => by
    have ih := look_congr (V := V) (d0 := d0) (E := E) (E' := E') i fun j hj => h j (by omega)
    simp only [look]
    by_cases hd : (ops[i]?).bind (·.dst) = some t
    · rw [h i (by omega) hd, ih]
    · rw [ih]; simp [hd]

theorem look_beyond {ops : List Oper} {V : Nat → TV} {d0 : TV} {t : Tmp} (i : Nat) : ∀ (k : Nat), i ≤ k → look ops V d0 (fun j => decide (j < i)) t k = look ops V d0 (fun j => decide (j < i)) t i
  | 0, h => by obtain rfl : i = 0 := by omega
               rfl
  | k + 1, h => by
    by_cases hk : i = k + 1
    · rw [hk]
    · rw [show look ops V d0 (fun j => decide (j < i)) t (k + 1) = look ops V d0 (fun j => decide (j < i)) t k by
        simp only [look]
        rw [if_neg (by simp; omega)]]
      exact look_beyond i k (by omega)

theorem look_trace (ht : Trace P q ops.toList ops.toList 0 S Hs V) (t : Tmp) : ∀ i, i ≤ ops.size → S i t = look ops.toList V (S 0 t) (fun j => decide (j < i)) t i
  | 0, _ => rfl
  | i + 1, h => by
    have ho : ops.toList[i]? = some ops[i] := by simp
    rw [ht.next i ops[i] ho]
    have ih := look_trace ht t i (by omega)
    have e : look ops.toList V (S 0 t) (fun j => decide (j < i + 1)) t i = look ops.toList V (S 0 t) (fun j => decide (j < i)) t i :=
      look_congr i fun j hj _ => by simp; omega
    simp only [look, ho, Option.bind_some]
    rw [e, ← ih]
    cases hd : (ops[i]).dst with
    | none => simp [aput]
    | some d =>
      simp only [aput, upd]
      by_cases hdt : t = d
      · subst hdt; simp
      · rw [if_neg hdt, if_neg (by simp; exact fun e => hdt e.symm)]

/-- How many have not come up. -/
def unl (E : Array Bool) : Nat → Nat
  | 0 => 0
  | i + 1 => unl E i + if E.getD i true = true then 0 else 1

theorem getD_set_ne' {E : Array Bool} {i j : Nat} (d : Bool) (h : i ≠ j) : (E.setIfInBounds i true).getD j d = E.getD j d := by
  simp [Array.getD_eq_getD_getElem?, Array.getElem?_setIfInBounds, h]

theorem getD_set_same {E : Array Bool} {i : Nat} (d : Bool) (h : i < E.size) : (E.setIfInBounds i true).getD i d = true := by
  simp [Array.getD_eq_getD_getElem?, Array.getElem?_setIfInBounds, h]

theorem unl_set (E : Array Bool) (i : Nat) (hi : i < E.size) (he : E.getD i true = false) : ∀ k, unl (E.setIfInBounds i true) k + (if i < k then 1 else 0) = unl E k
  | 0 => by simp [unl]
  | k + 1 => by
    have ih := unl_set E i hi he k
    simp only [unl]
    by_cases hk : i = k
    · subst hk
      rw [getD_set_same true hi, he]
      simp at ih
      simp [ih]
    · rw [getD_set_ne' true hk]
      by_cases h1 : i < k
      · have e1 : (if i < k then 1 else 0) = 1 := if_pos h1
        have e2 : (if i < k + 1 then 1 else 0) = 1 := if_pos (by omega)
        rw [e1] at ih
        rw [e2]
        omega
      · have e1 : (if i < k then 1 else 0) = 0 := if_neg h1
        have e2 : (if i < k + 1 then 1 else 0) = 0 := if_neg (by omega)
        rw [e1] at ih
        rw [e2]
        omega

theorem unl_zero (E : Array Bool) : ∀ k, unl E k = 0 → ∀ j, j < k → E.getD j true = true
  | 0, _, j, h => by omega
  | k + 1, h, j, hj => by
    simp only [unl] at h
    by_cases hk : E.getD k true = true
    · rcases Nat.lt_or_ge j k with h1 | h1
      · exact unl_zero E k (by omega) j h1
      · obtain rfl : j = k := by omega
        exact hk
    · rw [if_neg hk] at h; omega

/-- The state in the middle of a region whose order is open. -/
structure Mid (P : Program) (ops : Array Oper) (N : Nat) (S : Nat → Nat → TV) (Hs : Nat → Heap) (V : Nat → TV) (β0 : Emb) (w0 : World) (E : Array Bool) (a : Act) (w : World) (β : Emb) (m : Nat) : Prop where
  le : Le β0 β
  sr : SR β (Hs m) w
  fr : Fr β0 (Hs 0) w0 β (Hs m) w
  size : a.tmps.size = N
  defers : a.defers = []
  val : ∀ t, TVR β (look ops.toList V (S 0 t) (fun j => E.getD j false) t ops.size) (a.tmps.getD t undef)
  esize : E.size = ops.size
  mle : m ≤ ops.size
  bar : ∀ j, j < ops.size → barrier ops.toList j = true → (E.getD j false = true ↔ j < m)
  closed : ∀ j, j < ops.size → E.getD j false = true → ∀ i, (maskAt ops.toList j).testBit i = true → E.getD i false = true

theorem Mid.ready {β0 : Emb} {w0 : World} {E : Array Bool} {a : Act} {w : World} {β : Emb} {m : Nat} (hok : orderOK ops.toList = true) (h : Mid P ops N S Hs V β0 w0 E a w β m) {i : Nat}
    (hi : i ∈ Region.ready .any ops E) : i < ops.size ∧ E.getD i true = false ∧ ∀ k, (maskAt ops.toList i).testBit k = true → E.getD k false = true := by
  obtain ⟨h1, o, ho, h2⟩ := mem_ready.1 hi
  have hlt : i < ops.size := by
    rcases Nat.lt_or_ge i ops.size with h' | h'
    · exact h'
    · simp [Array.getElem?_eq_none h'] at ho
  refine ⟨hlt, h1, fun k hk => ?_⟩
  obtain ⟨e, he, hb, hor⟩ := maskAt_bit hok (j := i) (i := k) (o := o) (by simpa using ho) hk
  have hE := h2 e (by simpa using he) hb
  rcases hor with rfl | hor
  · exact hE
  · have hel : e.on < ops.size := by
      rcases Nat.lt_or_ge e.on ops.size with h' | h'
      · exact h'
      · rw [← h.esize] at h'
        simp [Array.getD_eq_getD_getElem?, Array.getElem?_eq_none h'] at hE
    exact h.closed e.on hel hE k hor

theorem getD_bool {E : Array Bool} {i : Nat} (h : i < E.size) (d d' : Bool) : E.getD i d = E.getD i d' := by
  simp [Array.getD_eq_getD_getElem?, h]

theorem bar_bit {ops : List Oper} {b j : Nat} (h : barrier ops b = true) (hj : j < ops.length) (hp : pureAt ops j = false) : (j < b → (maskAt ops b).testBit j = true) ∧ (b < j → (maskAt ops j).testBit b = true) := by
  unfold barrier at h
  rw [Bool.and_eq_true] at h
  have := List.all_eq_true.1 h.2 j (List.mem_range.2 hj)
  rw [hp, Bool.false_or] at this
  constructor
  · intro hjb
    rw [if_pos hjb] at this
    exact this
  · intro hbj
    rw [if_neg (by omega), if_pos hbj] at this
    exact this
theorem bar_pure {ops : List Oper} {b : Nat} (h : barrier ops b = true) : pureAt ops b = false := by
  unfold barrier at h
  rw [Bool.and_eq_true] at h
  simpa using h.1

/-- Between two places without a barrier memory is the same. -/
theorem same_rows (ht : Trace P true ops.toList ops.toList 0 S Hs V) : ∀ (d i : Nat), i + d ≤ ops.size → (∀ j, i ≤ j → j < i + d → barrier ops.toList j = false) → Hs (i + d) = Hs i
  | 0, i, _, _ => rfl
  | d + 1, i, h, hb => by
    have hlt : i + d < ops.size := by omega
    have := ht.quiet rfl (i + d) ops[i + d] (by simp [hlt])
    rw [show i + (d + 1) = i + d + 1 by omega]
    rcases this with h1 | h1
    · rw [h1]
      exact same_rows ht d i (by omega) fun j h2 h3 => hb j h2 (by omega)
    · rw [Nat.zero_add, hb (i + d) (by omega) (by omega)] at h1
      cases h1

theorem Mid.rows {β0 : Emb} {w0 : World} {E : Array Bool} {a : Act} {w : World} {β : Emb} {m : Nat} (ht : Trace P true ops.toList ops.toList 0 S Hs V) (hok : orderOK ops.toList = true) (h : Mid P ops N S Hs V β0 w0 E a w β m) {i : Nat}
    (hi : i ∈ Region.ready .any ops E) (hpi : pureAt ops.toList i = false) : Hs m = Hs i ∧ (∀ j, j < ops.size → barrier ops.toList j = true → (j < m ↔ j < i)) := by
  obtain ⟨hlt, he, hbits⟩ := h.ready hok hi
  have hEi : E.getD i false = false := by rw [getD_bool (by rw [h.esize]; exact hlt) false true]; exact he
  have hlen : ops.toList.length = ops.size := by simp
  have key : ∀ j, j < ops.size → barrier ops.toList j = true → (j < m ↔ j < i) := by
    intro j hj hb
    rw [← h.bar j hj hb]
    constructor
    · intro hE
      rcases Nat.lt_trichotomy j i with h1 | h1 | h1
      · exact h1
      · subst h1; rw [hEi] at hE; cases hE
      · have := (bar_bit hb (j := i) (by omega) hpi).1 h1
        rw [h.closed j hj hE i this] at hEi
        cases hEi
    · intro h1
      exact hbits j ((bar_bit hb (j := i) (by omega) hpi).2 h1)
  refine ⟨?_, key⟩
  rcases Nat.le_total m i with h1 | h1
  · have := same_rows ht (i - m) m (by omega) fun j h2 h3 => by
      cases hb : barrier ops.toList j with
      | false => rfl
      | true => have := key j (by omega) hb; omega
    rw [show m + (i - m) = i by omega] at this
    exact this.symm
  · have := same_rows ht (m - i) i (by have := h.mle; omega) fun j h2 h3 => by
      cases hb : barrier ops.toList j with
      | false => rfl
      | true => have := key j (by have := h.mle; omega) hb; omega
    rw [show i + (m - i) = m by omega] at this
    exact this

theorem clash_of {ops : List Oper} {i j : Nat} {o o' : Oper} {t : Tmp} (ho : ops[i]? = some o) (ho' : ops[j]? = some o') (ht : t ∈ named ops o) (hd : o'.dst = some t) : clash ops i j = true ∧ clash ops j i = true := by
  have hc : (named ops o).contains t = true := by simpa using ht
  unfold clash
  rw [ho, ho']
  constructor
  · simp only [hd, Option.toList_some, List.any_cons, List.any_nil, Bool.or_false, hc, Bool.or_true]
  · simp only [hd, Option.toList_some, List.any_cons, List.any_nil, Bool.or_false, hc, Bool.true_or]

/-- What a ready operation names is what the text's order has there. -/
theorem Mid.names {β0 : Emb} {w0 : World} {E : Array Bool} {a : Act} {w : World} {β : Emb} {m : Nat} (ht : Trace P true ops.toList ops.toList 0 S Hs V) (hok : orderOK ops.toList = true) (h : Mid P ops N S Hs V β0 w0 E a w β m) {i : Nat} {o : Oper}
    (hi : i ∈ Region.ready .any ops E) (ho : ops[i]? = some o) {t : Tmp} (htn : t ∈ named ops.toList o) : ∀ j, j < ops.size → (ops.toList[j]?).bind (·.dst) = some t → (E.getD j false = true ↔ j < i) := by
  obtain ⟨hlt, he, hbits⟩ := h.ready hok hi
  have hEi : E.getD i false = false := by rw [getD_bool (by rw [h.esize]; exact hlt) false true]; exact he
  intro j hj hjd
  have hoj : ops.toList[j]? = some ops[j] := by simp [hj]
  rw [hoj] at hjd
  simp only [Option.bind_some] at hjd
  have hcl := clash_of (i := i) (j := j) (by simpa using ho) hoj htn hjd
  have hlen : ops.toList.length = ops.size := by simp
  constructor
  · intro hE
    rcases Nat.lt_trichotomy j i with h1 | h1 | h1
    · exact h1
    · subst h1; rw [hEi] at hE; cases hE
    · have := clash_bit hok h1 (by omega) hcl.1
      rw [h.closed j hj hE i this] at hEi
      cases hEi
  · intro h1
    exact hbits j (clash_bit hok h1 (by omega) hcl.2)

theorem region_any (ht : Trace P true ops.toList ops.toList 0 S Hs V) (hok : orderOK ops.toList = true) (hd : ∀ o ∈ ops.toList, ∀ d, o.dst = some d → d < N) {Q : Exit → Act → World → Prop} {β0 : Emb} {w0 : World}
    (hQ : ∀ β' a' w', Le β0 β' → AR β' (S ops.size) a' N → SR β' (Hs ops.size) w' → Fr β0 (Hs 0) w0 β' (Hs ops.size) w' → Q .normal a' w') :
    ∀ (fuel : Nat) (E : Array Bool) (a : Act) (w : World) (β : Emb) (m : Nat), unl E ops.size = fuel → Mid P ops N S Hs V β0 w0 E a w β m → wpAny P .any ops Q fuel E a w := by
  have hlen : ops.toList.length = ops.size := by simp
  have finish : ∀ (E : Array Bool) (a : Act) (w : World) (β : Emb) (m : Nat), Mid P ops N S Hs V β0 w0 E a w β m → (∀ j, j < ops.size → E.getD j true = true) → Q .normal a w := by
    intro E a w β m h hall
    have hallf : ∀ j, j < ops.size → E.getD j false = true := fun j hj => by rw [getD_bool (by rw [h.esize]; exact hj) false true]; exact hall j hj
    have hrows : Hs m = Hs ops.size := by
      have := same_rows ht (ops.size - m) m (by have := h.mle; omega) fun j h2 h3 => by
        cases hb : barrier ops.toList j with
        | false => rfl
        | true => have := (h.bar j (by omega) hb).1 (hallf j (by omega)); omega
      rw [show m + (ops.size - m) = ops.size by have := h.mle; omega] at this
      exact this.symm
    have hsr := h.sr
    have hfr := h.fr
    rw [hrows] at hsr hfr
    refine hQ β a w h.le ⟨h.size, fun t => ?_, h.defers⟩ hsr hfr
    rw [look_trace ht t ops.size (Nat.le_refl _)]
    rw [look_congr (E' := fun j => E.getD j false) ops.size fun j hj _ => by simp [hj, hallf j hj]]
    exact h.val t
  have ready_nil : ∀ (E : Array Bool) (a : Act) (w : World) (β : Emb) (m : Nat), Mid P ops N S Hs V β0 w0 E a w β m → Region.ready .any ops E = [] → ∀ j, j < ops.size → E.getD j true = true := by
    intro E a w β m h hnil j
    induction j using Nat.strongRecOn with
    | _ j ih =>
      intro hj
      cases hE : E.getD j true with
      | true => rfl
      | false =>
        have : j ∈ Region.ready .any ops E := by
          refine mem_ready.2 ⟨hE, ops[j], by simp [hj], fun e he hb => ?_⟩
          have hlt : e.on < j := by
            have hok' := hok
            unfold orderOK at hok'
            rw [Bool.and_eq_true] at hok'
            have := List.all_eq_true.1 hok'.1 j (List.mem_range.2 (by omega))
            rw [show ops.toList[j]? = some ops[j] by simp [hj]] at this
            have := List.all_eq_true.1 this e (by simpa using he)
            rw [hb] at this
            simpa using this
          have := ih e.on hlt (by omega)
          rw [getD_bool (by rw [h.esize]; omega) false true]
          exact this
        rw [hnil] at this
        cases this
  intro fuel
  induction fuel with
  | zero =>
    intro E a w β m hu h
    have hall := unl_zero E ops.size hu
    refine ⟨?_, finish E a w β m h hall⟩
    cases hr : Region.ready .any ops E with
    | nil => rfl
    | cons i r =>
      have hi : i ∈ Region.ready .any ops E := by rw [hr]; simp
      obtain ⟨h1, h2, _⟩ := h.ready hok hi
      rw [hall i h1] at h2
      cases h2
  | succ fuel ih =>
    intro E a w β m hu h
    refine ⟨fun hnil => finish E a w β m h (ready_nil E a w β m h hnil), fun i hi => ?_⟩
    obtain ⟨hlt, he, hbits⟩ := h.ready hok hi
    have hisz : i < E.size := by rw [h.esize]; exact hlt
    have hEi : E.getD i false = false := by rw [getD_bool hisz false true]; exact he
    have ho : ops[i]? = some ops[i] := by simp [hlt]
    have hoL : ops.toList[i]? = some ops[i] := by simp [hlt]
    have hval : ∀ t ∈ named ops.toList ops[i], TVR β (S i t) (a.tmps.getD t undef) := by
      intro t htn
      rw [look_trace ht t i (by omega), ← look_beyond i ops.size (by omega)]
      rw [look_congr (E' := fun j => E.getD j false) ops.size fun j hj hjd => by
        have := h.names ht hok hi ho htn j hj hjd
        cases hE : E.getD j false with
        | true => simp [this.1 hE]
        | false => simp; exact Nat.le_of_not_lt fun hlt' => by rw [this.2 hlt'] at hE; cases hE]
      exact h.val t
    have hu' : unl (E.setIfInBounds i true) ops.size = fuel := by
      have := unl_set E i hisz he ops.size
      rw [if_pos hlt] at this
      omega
    have hset : ∀ j, j ≠ i → (E.setIfInBounds i true).getD j false = E.getD j false := fun j hj => getD_set_ne' false (Ne.symm hj)
    have hseti : (E.setIfInBounds i true).getD i false = true := getD_set_same false hisz
    have hsize' : ∀ u, (a.put ops[i].dst u).tmps.size = N := fun u => by
      cases ops[i].dst <;> simp [Act.put, h.size]
    have hdef' : ∀ u, (a.put ops[i].dst u).defers = [] := fun u => by
      cases ops[i].dst <;> exact h.defers
    have hvals : ∀ (β' : Emb) (u : Value), Le β β' → TVR β' (V i) u → ∀ t, TVR β' (look ops.toList V (S 0 t) (fun j => (E.setIfInBounds i true).getD j false) t ops.size) ((a.put ops[i].dst u).tmps.getD t undef) := by
      intro β' u h1 h3
      intro t
      cases hdst : ops[i].dst with
      | none =>
        show TVR β' _ (a.tmps.getD t undef)
        rw [look_congr (E' := fun j => E.getD j false) ops.size fun j hj hjd => by
          by_cases hji : j = i
          · subst hji; rw [hoL] at hjd; simp [hdst] at hjd
          · exact hset j hji]
        exact TVR.mono h1 (h.val t)
      | some d =>
        rw [getD_put a d u t (by rw [h.size]; exact hd ops[i] (by simp) d hdst)]
        by_cases htd : t = d
        · rw [if_pos htd]
          subst htd
          have htn : t ∈ named ops.toList ops[i] := by
            unfold named
            simp [hdst]
          have e1 : look ops.toList V (S 0 t) (fun j => (E.setIfInBounds i true).getD j false) t ops.size = look ops.toList V (S 0 t) (fun j => decide (j < i + 1)) t ops.size := by
            refine look_congr ops.size fun j hj hjd => ?_
            by_cases hji : j = i
            · subst hji; rw [hseti]; simp
            · rw [hset j hji]
              have := h.names ht hok hi ho htn j hj hjd
              cases hE : E.getD j false with
              | true => have := this.1 hE; simp; omega
              | false =>
                simp
                have : ¬ j < i := fun hlt' => by rw [this.2 hlt'] at hE; cases hE
                omega
          rw [e1, look_beyond (i + 1) ops.size (by omega), ← look_trace ht t (i + 1) (by omega), ht.next i ops[i] hoL, hdst]
          show TVR β' (if t = t then V i else S i t) u
          rw [if_pos rfl]
          exact h3
        · rw [if_neg htd]
          rw [look_congr (E' := fun j => E.getD j false) ops.size fun j hj hjd => by
            by_cases hji : j = i
            · subst hji; rw [hoL] at hjd; simp [hdst] at hjd; exact absurd hjd.symm htd
            · exact hset j hji]
          exact TVR.mono h1 (h.val t)
    have hclosed' : ∀ j, j < ops.size → (E.setIfInBounds i true).getD j false = true → ∀ k, (maskAt ops.toList j).testBit k = true → (E.setIfInBounds i true).getD k false = true := by
      intro j hj hEj k hk
      by_cases hki : k = i
      · subst hki; exact hseti
      · rw [hset k hki]
        by_cases hji : j = i
        · subst hji; exact hbits k hk
        · rw [hset j hji] at hEj
          exact h.closed j hj hEj k hk
    cases hpi : pureAt ops.toList i with
    | true =>
      have hpo : pureOp ops[i].op = true := by
        unfold pureAt at hpi
        rw [hoL] at hpi
        exact hpi
      have hst := (ht.pure i ops[i] hoL hpo).2 (Hs m)
      refine step_op hd ho hst h.sr h.size h.defers hval fun β' u w' h1 h2 h3 h4 => ?_
      refine ih _ _ _ β' m hu' ⟨h.le.trans h1, h2, h.fr.trans h4, hsize' u, hdef' u, hvals β' u h1 h3, by simp [h.esize], h.mle, fun j hj hbj => ?_, hclosed'⟩
      by_cases hji : j = i
      · subst hji; rw [bar_pure hbj] at hpi; cases hpi
      · rw [hset j hji]
        exact h.bar j hj hbj
    | false =>
    obtain ⟨hrows, hbar⟩ := h.rows ht hok hi hpi
    have hsr := h.sr
    have hfr := h.fr
    rw [hrows] at hsr hfr
    refine trace_op ht hd ho hsr h.size h.defers hval fun β' u w' h1 h2 h3 h4 => ?_
    have hval' := hvals β' u h1 h3
    have hcase : (barrier ops.toList i = true ∧ True) ∨ (barrier ops.toList i = false ∧ Hs (i + 1) = Hs i) := by
      cases hb : barrier ops.toList i with
      | true => exact .inl ⟨rfl, trivial⟩
      | false =>
        right
        refine ⟨rfl, ?_⟩
        rcases ht.quiet rfl i ops[i] hoL with h5 | h5
        · exact h5
        · rw [Nat.zero_add, hb] at h5; cases h5
    rcases hcase with ⟨hb, _⟩ | ⟨hb, hsame⟩
    · refine ih _ _ _ β' (i + 1) hu' ⟨h.le.trans h1, h2, hfr.trans h4, hsize' u, hdef' u, hval', by simp [h.esize], by omega, fun j hj hbj => ?_, hclosed'⟩
      by_cases hji : j = i
      · subst hji; rw [hseti]; simp
      · rw [hset j hji, h.bar j hj hbj, hbar j hj hbj]
        omega
    · rw [hsame] at h2 h4
      refine ih _ _ _ β' m hu' ⟨h.le.trans h1, by rw [hrows]; exact h2, by rw [hrows]; exact hfr.trans h4, hsize' u, hdef' u, hval', by simp [h.esize], h.mle, fun j hj hbj => ?_, hclosed'⟩
      by_cases hji : j = i
      · subst hji; rw [hb] at hbj; cases hbj
      · rw [hset j hji]
        exact h.bar j hj hbj

theorem unl_replicate : ∀ (n k : Nat), k ≤ n → unl (Array.replicate n false) k = k
  | n, 0, _ => rfl
  | n, k + 1, h => by
    have hk : k < n := h
    simp only [unl]
    rw [unl_replicate n k (by omega)]
    simp [Array.getD_eq_getD_getElem?, hk]

end
end Go.Ab

namespace Go.Ab
set_option linter.unusedVariables false
set_option linter.unusedSimpArgs false

def freeAt (ops : List Oper) (F : List Nat) (i : Nat) : Bool := pureAt ops i || F.contains i
/-- These change no memory. -/
def stillOp : Op → Bool
  | .load .. | .indexAddr .. | .index .. | .field .. | .slice .. | .nilCheck .. => true
  | .call c => match c.callee with
    | .builtin .len | .builtin .cap => true
    | _ => false
  | _ => false
def stillAt (ops : List Oper) (i : Nat) : Bool := (ops[i]?).any fun o => stillOp o.op
def barrierF (ops : List Oper) (F : List Nat) (i : Nat) : Bool :=
  !freeAt ops F i && (!stillAt ops i && (List.range ops.length).all fun j => freeAt ops F j || if j < i then (maskAt ops i).testBit j else if i < j then (maskAt ops j).testBit i else true)

/-- Why the operation i does not come in the state of memory m: a change b says so. -/
def wont (ops : List Oper) (F : List Nat) (i m b : Nat) : Bool :=
  decide (b < ops.length) && barrierF ops F b && (((maskAt ops i).testBit b && decide (m ≤ b)) || ((maskAt ops b).testBit i && decide (b < m)))
def RdF (P : Program) (ops : List Oper) (F : List Nat) (i : Nat) (o : Oper) (s : Nat → TV) (v : TV) (G : Nat × Heap) : Prop := (∃ b, wont ops F i G.1 b = true) ∨ StepR P ops s G.2 o v G.2
def ixF (c i : Nat) : Nat → Nat
  | 0 => c
  | m + 1 => i + (m + 1)
/-- A region's trace, in which the free operations yield the same in each state of memory. -/
structure TraceF (P : Program) (F : List Nat) (ops : List Oper) (l : List Oper) (i : Nat) (S : Nat → Nat → TV) (Hs : Nat → Heap) (V : Nat → TV) : Prop where
  step : ∀ j o, l[j]? = some o → StepR P ops (S j) (Hs j) o (V j) (Hs (j + 1))
  next : ∀ j o, l[j]? = some o → S (j + 1) = aput (S j) o.dst (V j)
  quiet : ∀ j o, l[j]? = some o → Hs (j + 1) = Hs j ∨ barrierF ops F (i + j) = true
  free : ∀ j o, l[j]? = some o → freeAt ops F (i + j) = true → Hs (j + 1) = Hs j ∧ ∀ m, m ≤ l.length → (m = 0 ∨ barrierF ops F (i + m - 1) = true) → RdF P ops F (i + j) o (S j) (V j) (m, Hs m)

/-- The walk of a region in which the operations of F are free: past: the states of memory before the present one, with their places; pend: the free operations so far. -/
def wopf (P : Program) (F : List Nat) (ops : List Oper) : List Oper → Nat → List (Nat × Heap) → List (Nat × Oper × (Nat → TV) × TV) → Nat → (Nat → TV) → Heap → ((Nat → TV) → Heap → Prop) → Prop
  | [], _, _, _, _, s, H, K => K s H
  | o :: r, i, past, pend, c, s, H, K =>
    (freeAt ops F i = false ∧ barrierF ops F i = false ∧ ∃ v, StepR P ops s H o v H ∧ wopf P F ops r (i + 1) past pend c (aput s o.dst v) H K) ∨
    (barrierF ops F i = false ∧ ∃ v, (∀ G, StepR P ops s G o v G) ∧ wopf P F ops r (i + 1) past pend c (aput s o.dst v) H K) ∨
    (barrierF ops F i = false ∧ ∃ v, StepR P ops s H o v H ∧ (∀ G ∈ past, RdF P ops F i o s v G) ∧ wopf P F ops r (i + 1) past ((i, o, s, v) :: pend) c (aput s o.dst v) H K) ∨
    (barrierF ops F i = true ∧ ∃ v H', StepR P ops s H o v H' ∧ (∀ p ∈ pend, RdF P ops F p.1 p.2.1 p.2.2.1 p.2.2.2 (i + 1, H')) ∧ wopf P F ops r (i + 1) ((c, H) :: past) pend (i + 1) (aput s o.dst v) H' K)

theorem bar_free {ops : List Oper} {F : List Nat} {b : Nat} (h : barrierF ops F b = true) : freeAt ops F b = false := by
  unfold barrierF at h
  rw [Bool.and_eq_true] at h
  simpa using h.1

theorem wopf_trace {P : Program} {F : List Nat} {ops : List Oper} {K : (Nat → TV) → Heap → Prop} : ∀ (l : List Oper) (i : Nat) (past : List (Nat × Heap)) (pend : List (Nat × Oper × (Nat → TV) × TV)) (c : Nat) (s : Nat → TV) (H : Heap), (∀ p ∈ pend, RdF P ops F p.1 p.2.1 p.2.2.1 p.2.2.2 (c, H)) →
    wopf P F ops l i past pend c s H K → ∃ (S : Nat → Nat → TV) (Hs : Nat → Heap) (V : Nat → TV), S 0 = s ∧ Hs 0 = H ∧ (∀ j o, l[j]? = some o → StepR P ops (S j) (Hs j) o (V j) (Hs (j + 1))) ∧ (∀ j o, l[j]? = some o → S (j + 1) = aput (S j) o.dst (V j)) ∧
      (∀ j o, l[j]? = some o → Hs (j + 1) = Hs j ∨ barrierF ops F (i + j) = true) ∧
      (∀ j o, l[j]? = some o → freeAt ops F (i + j) = true → Hs (j + 1) = Hs j ∧ (∀ m, m ≤ l.length → (m = 0 ∨ barrierF ops F (i + m - 1) = true) → RdF P ops F (i + j) o (S j) (V j) (ixF c i m, Hs m)) ∧ ∀ G ∈ past, RdF P ops F (i + j) o (S j) (V j) G) ∧
      (∀ p ∈ pend, ∀ m, m ≤ l.length → (m = 0 ∨ barrierF ops F (i + m - 1) = true) → RdF P ops F p.1 p.2.1 p.2.2.1 p.2.2.2 (ixF c i m, Hs m)) ∧ K (S l.length) (Hs l.length)
  | [], i, past, pend, c, s, H, hp, h => ⟨fun _ => s, fun _ => H, fun _ => .v .und, rfl, rfl, fun j o e => by simp at e, fun j o e => by simp at e, fun j o e => by simp at e, fun j o e => by simp at e, fun p hp' m hm _ => by
      obtain rfl : m = 0 := by simpa using hm
      exact hp p hp', h⟩
  | o :: r, i, past, pend, c, s, H, hp, h => by
    have glue : ∀ v H' past' pend' c', StepR P ops s H o v H' → ((H' = H ∧ c' = c ∧ past' = past ∧ barrierF ops F i = false) ∨ (barrierF ops F i = true ∧ c' = i + 1 ∧ past' = (c, H) :: past)) → (freeAt ops F i = true → H' = H ∧ (∀ G ∈ past, RdF P ops F i o s v G) ∧ ((i, o, s, v) ∈ pend' ∨ ∀ G, StepR P ops s G o v G)) → (∀ p ∈ pend, p ∈ pend') → (∀ p ∈ pend', RdF P ops F p.1 p.2.1 p.2.2.1 p.2.2.2 (c', H')) →
        wopf P F ops r (i + 1) past' pend' c' (aput s o.dst v) H' K → ∃ (S : Nat → Nat → TV) (Hs : Nat → Heap) (V : Nat → TV), S 0 = s ∧ Hs 0 = H ∧ (∀ j o', (o :: r)[j]? = some o' → StepR P ops (S j) (Hs j) o' (V j) (Hs (j + 1))) ∧ (∀ j o', (o :: r)[j]? = some o' → S (j + 1) = aput (S j) o'.dst (V j)) ∧
      (∀ j o', (o :: r)[j]? = some o' → Hs (j + 1) = Hs j ∨ barrierF ops F (i + j) = true) ∧
      (∀ j o', (o :: r)[j]? = some o' → freeAt ops F (i + j) = true → Hs (j + 1) = Hs j ∧ (∀ m, m ≤ (o :: r).length → (m = 0 ∨ barrierF ops F (i + m - 1) = true) → RdF P ops F (i + j) o' (S j) (V j) (ixF c i m, Hs m)) ∧ ∀ G ∈ past, RdF P ops F (i + j) o' (S j) (V j) G) ∧
      (∀ p ∈ pend, ∀ m, m ≤ (o :: r).length → (m = 0 ∨ barrierF ops F (i + m - 1) = true) → RdF P ops F p.1 p.2.1 p.2.2.1 p.2.2.2 (ixF c i m, Hs m)) ∧ K (S (o :: r).length) (Hs (o :: r).length) := by
      intro v H' past' pend' c' hst hq hfr hpe hpe2 hr
      obtain ⟨S, Hs, V, h1, h2, h3, h4, h5, h6, h7, h8⟩ := wopf_trace r (i + 1) past' pend' c' _ _ hpe2 hr
      -- a later state, in the tail's words
      have hix : ∀ m, (m + 1 = 0 ∨ barrierF ops F (i + (m + 1) - 1) = true) → (m = 0 ∨ barrierF ops F (i + 1 + m - 1) = true) ∧ ixF c' (i + 1) m = ixF c i (m + 1) := by
        intro m hm
        have hm' : barrierF ops F (i + m) = true := by
          rcases hm with hm | hm
          · omega
          · rw [show i + (m + 1) - 1 = i + m by omega] at hm; exact hm
        refine ⟨?_, ?_⟩
        · right; rw [show i + 1 + m - 1 = i + m by omega]; exact hm'
        · cases m with
          | zero =>
            rcases hq with ⟨_, _, _, hq⟩ | ⟨_, hq, _⟩
            · rw [Nat.add_zero, hq] at hm'; cases hm'
            · rw [hq]; rfl
          | succ m => show i + 1 + (m + 1) = i + (m + 1 + 1); omega
      refine ⟨fun n => match n with | 0 => s | n + 1 => S n, fun n => match n with | 0 => H | n + 1 => Hs n, fun n => match n with | 0 => v | n + 1 => V n, rfl, rfl, fun j o' e => ?_, fun j o' e => ?_, fun j o' e => ?_, fun j o' e hf => ?_, fun p hp' m hm hb => ?_, by simpa using h8⟩
      · cases j with
        | zero =>
          simp at e
          subst e
          show StepR P ops s H o v (Hs 0)
          rw [h2]; exact hst
        | succ j => exact h3 j o' (by simpa using e)
      · cases j with
        | zero =>
          simp at e
          subst e
          exact h1
        | succ j => exact h4 j o' (by simpa using e)
      · cases j with
        | zero =>
          show Hs 0 = H ∨ _
          rw [h2]
          rcases hq with ⟨hq, _⟩ | ⟨hq, _⟩
          · exact .inl hq
          · exact .inr hq
        | succ j =>
          have := h5 j o' (by simpa using e)
          rw [show i + (j + 1) = i + 1 + j by omega]
          exact this
      · cases j with
        | zero =>
          simp at e
          subst e
          obtain ⟨f1, f2, f3⟩ := hfr hf
          refine ⟨by show Hs 0 = H; rw [h2, f1], fun m hm hb => ?_, f2⟩
          cases m with
          | zero => exact .inr (by rw [f1] at hst; exact hst)
          | succ m =>
            rcases f3 with f4 | f4
            · have := h7 _ f4 m (by simpa using hm) (hix m hb).1
              rw [(hix m hb).2] at this
              exact this
            · exact .inr (f4 _)
        | succ j =>
          obtain ⟨f1, f2, f3⟩ := h6 j o' (by simpa using e) (by rw [show i + 1 + j = i + (j + 1) by omega]; exact hf)
          rw [show i + 1 + j = i + (j + 1) by omega] at f2 f3
          refine ⟨f1, fun m hm hb => ?_, fun G hG => f3 G ?_⟩
          · cases m with
            | zero =>
              rcases hq with ⟨q1, q2, q3, _⟩ | ⟨_, _, q3⟩
              · have := f2 0 (Nat.zero_le _) (.inl rfl)
                rw [h2, q1] at this
                rw [← q2]
                exact this
              · exact f3 (c, H) (by rw [q3]; exact List.mem_cons_self ..)
            | succ m =>
              have := f2 m (by simpa using hm) (hix m hb).1
              rw [(hix m hb).2] at this
              exact this
          · rcases hq with ⟨_, _, q3, _⟩ | ⟨_, _, q3⟩
            · rw [q3]; exact hG
            · rw [q3]; exact List.mem_cons_of_mem _ hG
      · cases m with
        | zero => exact hp p hp'
        | succ m =>
          have := h7 p (hpe p hp') m (by simpa using hm) (hix m hb).1
          rw [(hix m hb).2] at this
          exact this
    rw [wopf] at h
    rcases h with ⟨hf, hb, v, h1, h2⟩ | ⟨hb, v, h1, h2⟩ | ⟨hb, v, h1, h1', h2⟩ | ⟨hb, v, H', h1, h2, h3⟩
    · exact glue v H past pend c h1 (.inl ⟨rfl, rfl, rfl, hb⟩) (fun hf2 => by rw [hf] at hf2; cases hf2) (fun _ h => h) hp h2
    · exact glue v H past pend c (h1 H) (.inl ⟨rfl, rfl, rfl, hb⟩) (fun _ => ⟨rfl, fun G _ => .inr (h1 G.2), .inr h1⟩) (fun _ h => h) hp h2
    · exact glue v H past ((i, o, s, v) :: pend) c h1 (.inl ⟨rfl, rfl, rfl, hb⟩) (fun _ => ⟨rfl, h1', .inl (List.mem_cons_self ..)⟩) (fun _ h => List.mem_cons_of_mem _ h) (fun p hp' => by
        rcases List.mem_cons.1 hp' with rfl | hp'
        · exact .inr h1
        · exact hp p hp') h2
    · exact glue v H' ((c, H) :: past) pend (i + 1) h1 (.inr ⟨hb, rfl, rfl⟩) (fun hf2 => by rw [bar_free hb] at hf2; cases hf2) (fun _ h => h) h2 h3

theorem wopf_mono {P : Program} {F : List Nat} {ops : List Oper} {K K' : (Nat → TV) → Heap → Prop} (h : ∀ s H, K s H → K' s H) : ∀ (l : List Oper) (i : Nat) (past : List (Nat × Heap)) (pend : List (Nat × Oper × (Nat → TV) × TV)) (c : Nat) (s : Nat → TV) (H : Heap), wopf P F ops l i past pend c s H K → wopf P F ops l i past pend c s H K'
  | [], _, _, _, _, _, _, hw => h _ _ hw
  | o :: r, i, past, pend, c, s, H, hw => by
    rw [wopf] at hw ⊢
    rcases hw with ⟨h1, hb, v, h2, h3⟩ | ⟨hb, v, h1, h2⟩ | ⟨hb, v, h1, h1', h2⟩ | ⟨h0, v, H', h1, h2, h3⟩
    · exact .inl ⟨h1, hb, v, h2, wopf_mono h r _ _ _ _ _ _ h3⟩
    · exact .inr (.inl ⟨hb, v, h1, wopf_mono h r _ _ _ _ _ _ h2⟩)
    · exact .inr (.inr (.inl ⟨hb, v, h1, h1', wopf_mono h r _ _ _ _ _ _ h2⟩))
    · exact .inr (.inr (.inr ⟨h0, v, H', h1, h2, wopf_mono h r _ _ _ _ _ _ h3⟩))
theorem wopf_ex {P : Program} {F : List Nat} {ops : List Oper} {ι : Type} {K : ι → (Nat → TV) → Heap → Prop} : ∀ (l : List Oper) (i : Nat) (past : List (Nat × Heap)) (pend : List (Nat × Oper × (Nat → TV) × TV)) (c : Nat) (s : Nat → TV) (H : Heap), wopf P F ops l i past pend c s H (fun s H => ∃ k, K k s H) → ∃ k, wopf P F ops l i past pend c s H (K k)
  | [], _, _, _, _, _, _, hw => hw
  | o :: r, i, past, pend, c, s, H, hw => by
    rw [wopf] at hw
    rcases hw with ⟨h1, hb, v, h2, h3⟩ | ⟨hb, v, h1, h2⟩ | ⟨hb, v, h1, h1', h2⟩ | ⟨h0, v, H', h1, h2, h3⟩
    · obtain ⟨k, hk⟩ := wopf_ex r _ _ _ _ _ _ h3; exact ⟨k, by rw [wopf]; exact .inl ⟨h1, hb, v, h2, hk⟩⟩
    · obtain ⟨k, hk⟩ := wopf_ex r _ _ _ _ _ _ h2; exact ⟨k, by rw [wopf]; exact .inr (.inl ⟨hb, v, h1, hk⟩)⟩
    · obtain ⟨k, hk⟩ := wopf_ex r _ _ _ _ _ _ h2; exact ⟨k, by rw [wopf]; exact .inr (.inr (.inl ⟨hb, v, h1, h1', hk⟩))⟩
    · obtain ⟨k, hk⟩ := wopf_ex r _ _ _ _ _ _ h3; exact ⟨k, by rw [wopf]; exact .inr (.inr (.inr ⟨h0, v, H', h1, h2, hk⟩))⟩

section
variable {P : Program} {F : List Nat} {ops : Array Oper} {N : Nat} {S : Nat → Nat → TV} {Hs : Nat → Heap} {V : Nat → TV}
theorem trace_opF (ht : TraceF P F ops.toList ops.toList 0 S Hs V) (hd : ∀ o ∈ ops.toList, ∀ d, o.dst = some d → d < N) {i : Nat} {o : Oper} (ho : ops[i]? = some o)
    {β : Emb} {a : Act} {w : World} (hs : SR β (Hs i) w) (hsz : a.tmps.size = N) (hdf : a.defers = []) (hv : ∀ t ∈ named ops.toList o, TVR β (S i t) (a.tmps.getD t undef))
    {K : Act → World → Prop} {Q : Exit → Act → World → Prop} (hK : ∀ β' u w', Le β β' → SR β' (Hs (i + 1)) w' → TVR β' (V i) u → Fr β (Hs i) w β' (Hs (i + 1)) w' → K (a.put o.dst u) w') :
    wpOp P ops Q i K a w := step_op hd ho (ht.step i o (by simpa using ho)) hs hsz hdf hv hK


theorem look_traceF (ht : TraceF P F ops.toList ops.toList 0 S Hs V) (t : Tmp) : ∀ i, i ≤ ops.size → S i t = look ops.toList V (S 0 t) (fun j => decide (j < i)) t i
  | 0, _ => rfl
  | i + 1, h => by
    have ho : ops.toList[i]? = some ops[i] := by simp
    rw [ht.next i ops[i] ho]
    have ih := look_traceF ht t i (by omega)
    have e : look ops.toList V (S 0 t) (fun j => decide (j < i + 1)) t i = look ops.toList V (S 0 t) (fun j => decide (j < i)) t i :=
      look_congr i fun j hj _ => by simp; omega
    simp only [look, ho, Option.bind_some]
    rw [e, ← ih]
    cases hd : (ops[i]).dst with
    | none => simp [aput]
    | some d =>
      simp only [aput, upd]
      by_cases hdt : t = d
      · subst hdt; simp
      · rw [if_neg hdt, if_neg (by simp; exact fun e => hdt e.symm)]


/-- The state in the middle of a region whose order is open. -/
structure MidF (P : Program) (F : List Nat) (ops : Array Oper) (N : Nat) (S : Nat → Nat → TV) (Hs : Nat → Heap) (V : Nat → TV) (β0 : Emb) (w0 : World) (E : Array Bool) (a : Act) (w : World) (β : Emb) (m : Nat) : Prop where
  le : Le β0 β
  sr : SR β (Hs m) w
  fr : Fr β0 (Hs 0) w0 β (Hs m) w
  size : a.tmps.size = N
  defers : a.defers = []
  val : ∀ t, TVR β (look ops.toList V (S 0 t) (fun j => E.getD j false) t ops.size) (a.tmps.getD t undef)
  esize : E.size = ops.size
  mle : m ≤ ops.size
  mb : m = 0 ∨ barrierF ops.toList F (m - 1) = true
  bar : ∀ j, j < ops.size → barrierF ops.toList F j = true → (E.getD j false = true ↔ j < m)
  closed : ∀ j, j < ops.size → E.getD j false = true → ∀ i, (maskAt ops.toList j).testBit i = true → E.getD i false = true

theorem MidF.ready {β0 : Emb} {w0 : World} {E : Array Bool} {a : Act} {w : World} {β : Emb} {m : Nat} (hok : orderOK ops.toList = true) (h : MidF P F ops N S Hs V β0 w0 E a w β m) {i : Nat}
    (hi : i ∈ Region.ready .any ops E) : i < ops.size ∧ E.getD i true = false ∧ ∀ k, (maskAt ops.toList i).testBit k = true → E.getD k false = true := by
  obtain ⟨h1, o, ho, h2⟩ := mem_ready.1 hi
  have hlt : i < ops.size := by
    rcases Nat.lt_or_ge i ops.size with h' | h'
    · exact h'
    · simp [Array.getElem?_eq_none h'] at ho
  refine ⟨hlt, h1, fun k hk => ?_⟩
  obtain ⟨e, he, hb, hor⟩ := maskAt_bit hok (j := i) (i := k) (o := o) (by simpa using ho) hk
  have hE := h2 e (by simpa using he) hb
  rcases hor with rfl | hor
  · exact hE
  · have hel : e.on < ops.size := by
      rcases Nat.lt_or_ge e.on ops.size with h' | h'
      · exact h'
      · rw [← h.esize] at h'
        simp [Array.getD_eq_getD_getElem?, Array.getElem?_eq_none h'] at hE
    exact h.closed e.on hel hE k hor

theorem bar_bitF {ops : List Oper} {F : List Nat} {b j : Nat} (h : barrierF ops F b = true) (hj : j < ops.length) (hp : freeAt ops F j = false) : (j < b → (maskAt ops b).testBit j = true) ∧ (b < j → (maskAt ops j).testBit b = true) := by
  unfold barrierF at h
  rw [Bool.and_eq_true, Bool.and_eq_true] at h
  have := List.all_eq_true.1 h.2.2 j (List.mem_range.2 hj)
  rw [hp, Bool.false_or] at this
  constructor
  · intro hjb
    rw [if_pos hjb] at this
    exact this
  · intro hbj
    rw [if_neg (by omega), if_pos hbj] at this
    exact this
theorem bar_pureF {ops : List Oper} {F : List Nat} {b : Nat} (h : barrierF ops F b = true) : freeAt ops F b = false := by
  unfold barrierF at h
  rw [Bool.and_eq_true] at h
  simpa using h.1

/-- Between two places without a barrier memory is the same. -/
theorem same_rowsF (ht : TraceF P F ops.toList ops.toList 0 S Hs V) : ∀ (d i : Nat), i + d ≤ ops.size → (∀ j, i ≤ j → j < i + d → barrierF ops.toList F j = false) → Hs (i + d) = Hs i
  | 0, i, _, _ => rfl
  | d + 1, i, h, hb => by
    have hlt : i + d < ops.size := by omega
    have := ht.quiet (i + d) ops[i + d] (by simp [hlt])
    rw [show i + (d + 1) = i + d + 1 by omega]
    rcases this with h1 | h1
    · rw [h1]
      exact same_rowsF ht d i (by omega) fun j h2 h3 => hb j h2 (by omega)
    · rw [Nat.zero_add, hb (i + d) (by omega) (by omega)] at h1
      cases h1

theorem MidF.rows {β0 : Emb} {w0 : World} {E : Array Bool} {a : Act} {w : World} {β : Emb} {m : Nat} (ht : TraceF P F ops.toList ops.toList 0 S Hs V) (hok : orderOK ops.toList = true) (h : MidF P F ops N S Hs V β0 w0 E a w β m) {i : Nat}
    (hi : i ∈ Region.ready .any ops E) (hpi : freeAt ops.toList F i = false) : Hs m = Hs i ∧ (∀ j, j < ops.size → barrierF ops.toList F j = true → (j < m ↔ j < i)) := by
  obtain ⟨hlt, he, hbits⟩ := h.ready hok hi
  have hEi : E.getD i false = false := by rw [getD_bool (by rw [h.esize]; exact hlt) false true]; exact he
  have hlen : ops.toList.length = ops.size := by simp
  have key : ∀ j, j < ops.size → barrierF ops.toList F j = true → (j < m ↔ j < i) := by
    intro j hj hb
    rw [← h.bar j hj hb]
    constructor
    · intro hE
      rcases Nat.lt_trichotomy j i with h1 | h1 | h1
      · exact h1
      · subst h1; rw [hEi] at hE; cases hE
      · have := (bar_bitF hb (j := i) (by omega) hpi).1 h1
        rw [h.closed j hj hE i this] at hEi
        cases hEi
    · intro h1
      exact hbits j ((bar_bitF hb (j := i) (by omega) hpi).2 h1)
  refine ⟨?_, key⟩
  rcases Nat.le_total m i with h1 | h1
  · have := same_rowsF ht (i - m) m (by omega) fun j h2 h3 => by
      cases hb : barrierF ops.toList F j with
      | false => rfl
      | true => have := key j (by omega) hb; omega
    rw [show m + (i - m) = i by omega] at this
    exact this.symm
  · have := same_rowsF ht (m - i) i (by have := h.mle; omega) fun j h2 h3 => by
      cases hb : barrierF ops.toList F j with
      | false => rfl
      | true => have := key j (by have := h.mle; omega) hb; omega
    rw [show i + (m - i) = m by omega] at this
    exact this

/-- What a ready operation names is what the text's order has there. -/
theorem MidF.names {β0 : Emb} {w0 : World} {E : Array Bool} {a : Act} {w : World} {β : Emb} {m : Nat} (ht : TraceF P F ops.toList ops.toList 0 S Hs V) (hok : orderOK ops.toList = true) (h : MidF P F ops N S Hs V β0 w0 E a w β m) {i : Nat} {o : Oper}
    (hi : i ∈ Region.ready .any ops E) (ho : ops[i]? = some o) {t : Tmp} (htn : t ∈ named ops.toList o) : ∀ j, j < ops.size → (ops.toList[j]?).bind (·.dst) = some t → (E.getD j false = true ↔ j < i) := by
  obtain ⟨hlt, he, hbits⟩ := h.ready hok hi
  have hEi : E.getD i false = false := by rw [getD_bool (by rw [h.esize]; exact hlt) false true]; exact he
  intro j hj hjd
  have hoj : ops.toList[j]? = some ops[j] := by simp [hj]
  rw [hoj] at hjd
  simp only [Option.bind_some] at hjd
  have hcl := clash_of (i := i) (j := j) (by simpa using ho) hoj htn hjd
  have hlen : ops.toList.length = ops.size := by simp
  constructor
  · intro hE
    rcases Nat.lt_trichotomy j i with h1 | h1 | h1
    · exact h1
    · subst h1; rw [hEi] at hE; cases hE
    · have := clash_bit hok h1 (by omega) hcl.1
      rw [h.closed j hj hE i this] at hEi
      cases hEi
  · intro h1
    exact hbits j (clash_bit hok h1 (by omega) hcl.2)

theorem region_anyF (ht : TraceF P F ops.toList ops.toList 0 S Hs V) (hok : orderOK ops.toList = true) (hd : ∀ o ∈ ops.toList, ∀ d, o.dst = some d → d < N) {Q : Exit → Act → World → Prop} {β0 : Emb} {w0 : World}
    (hQ : ∀ β' a' w', Le β0 β' → AR β' (S ops.size) a' N → SR β' (Hs ops.size) w' → Fr β0 (Hs 0) w0 β' (Hs ops.size) w' → Q .normal a' w') :
    ∀ (fuel : Nat) (E : Array Bool) (a : Act) (w : World) (β : Emb) (m : Nat), unl E ops.size = fuel → MidF P F ops N S Hs V β0 w0 E a w β m → wpAny P .any ops Q fuel E a w := by
  have hlen : ops.toList.length = ops.size := by simp
  have finish : ∀ (E : Array Bool) (a : Act) (w : World) (β : Emb) (m : Nat), MidF P F ops N S Hs V β0 w0 E a w β m → (∀ j, j < ops.size → E.getD j true = true) → Q .normal a w := by
    intro E a w β m h hall
    have hallf : ∀ j, j < ops.size → E.getD j false = true := fun j hj => by rw [getD_bool (by rw [h.esize]; exact hj) false true]; exact hall j hj
    have hrows : Hs m = Hs ops.size := by
      have := same_rowsF ht (ops.size - m) m (by have := h.mle; omega) fun j h2 h3 => by
        cases hb : barrierF ops.toList F j with
        | false => rfl
        | true => have := (h.bar j (by omega) hb).1 (hallf j (by omega)); omega
      rw [show m + (ops.size - m) = ops.size by have := h.mle; omega] at this
      exact this.symm
    have hsr := h.sr
    have hfr := h.fr
    rw [hrows] at hsr hfr
    refine hQ β a w h.le ⟨h.size, fun t => ?_, h.defers⟩ hsr hfr
    rw [look_traceF ht t ops.size (Nat.le_refl _)]
    rw [look_congr (E' := fun j => E.getD j false) ops.size fun j hj _ => by simp [hj, hallf j hj]]
    exact h.val t
  have ready_nil : ∀ (E : Array Bool) (a : Act) (w : World) (β : Emb) (m : Nat), MidF P F ops N S Hs V β0 w0 E a w β m → Region.ready .any ops E = [] → ∀ j, j < ops.size → E.getD j true = true := by
    intro E a w β m h hnil j
    induction j using Nat.strongRecOn with
    | _ j ih =>
      intro hj
      cases hE : E.getD j true with
      | true => rfl
      | false =>
        have : j ∈ Region.ready .any ops E := by
          refine mem_ready.2 ⟨hE, ops[j], by simp [hj], fun e he hb => ?_⟩
          have hlt : e.on < j := by
            have hok' := hok
            unfold orderOK at hok'
            rw [Bool.and_eq_true] at hok'
            have := List.all_eq_true.1 hok'.1 j (List.mem_range.2 (by omega))
            rw [show ops.toList[j]? = some ops[j] by simp [hj]] at this
            have := List.all_eq_true.1 this e (by simpa using he)
            rw [hb] at this
            simpa using this
          have := ih e.on hlt (by omega)
          rw [getD_bool (by rw [h.esize]; omega) false true]
          exact this
        rw [hnil] at this
        cases this
  intro fuel
  induction fuel with
  | zero =>
    intro E a w β m hu h
    have hall := unl_zero E ops.size hu
    refine ⟨?_, finish E a w β m h hall⟩
    cases hr : Region.ready .any ops E with
    | nil => rfl
    | cons i r =>
      have hi : i ∈ Region.ready .any ops E := by rw [hr]; simp
      obtain ⟨h1, h2, _⟩ := h.ready hok hi
      rw [hall i h1] at h2
      cases h2
  | succ fuel ih =>
    intro E a w β m hu h
    refine ⟨fun hnil => finish E a w β m h (ready_nil E a w β m h hnil), fun i hi => ?_⟩
    obtain ⟨hlt, he, hbits⟩ := h.ready hok hi
    have hisz : i < E.size := by rw [h.esize]; exact hlt
    have hEi : E.getD i false = false := by rw [getD_bool hisz false true]; exact he
    have ho : ops[i]? = some ops[i] := by simp [hlt]
    have hoL : ops.toList[i]? = some ops[i] := by simp [hlt]
    have hval : ∀ t ∈ named ops.toList ops[i], TVR β (S i t) (a.tmps.getD t undef) := by
      intro t htn
      rw [look_traceF ht t i (by omega), ← look_beyond i ops.size (by omega)]
      rw [look_congr (E' := fun j => E.getD j false) ops.size fun j hj hjd => by
        have := h.names ht hok hi ho htn j hj hjd
        cases hE : E.getD j false with
        | true => simp [this.1 hE]
        | false => simp; exact Nat.le_of_not_lt fun hlt' => by rw [this.2 hlt'] at hE; cases hE]
      exact h.val t
    have hu' : unl (E.setIfInBounds i true) ops.size = fuel := by
      have := unl_set E i hisz he ops.size
      rw [if_pos hlt] at this
      omega
    have hset : ∀ j, j ≠ i → (E.setIfInBounds i true).getD j false = E.getD j false := fun j hj => getD_set_ne' false (Ne.symm hj)
    have hseti : (E.setIfInBounds i true).getD i false = true := getD_set_same false hisz
    have hsize' : ∀ u, (a.put ops[i].dst u).tmps.size = N := fun u => by
      cases ops[i].dst <;> simp [Act.put, h.size]
    have hdef' : ∀ u, (a.put ops[i].dst u).defers = [] := fun u => by
      cases ops[i].dst <;> exact h.defers
    have hvals : ∀ (β' : Emb) (u : Value), Le β β' → TVR β' (V i) u → ∀ t, TVR β' (look ops.toList V (S 0 t) (fun j => (E.setIfInBounds i true).getD j false) t ops.size) ((a.put ops[i].dst u).tmps.getD t undef) := by
      intro β' u h1 h3
      intro t
      cases hdst : ops[i].dst with
      | none =>
        show TVR β' _ (a.tmps.getD t undef)
        rw [look_congr (E' := fun j => E.getD j false) ops.size fun j hj hjd => by
          by_cases hji : j = i
          · subst hji; rw [hoL] at hjd; simp [hdst] at hjd
          · exact hset j hji]
        exact TVR.mono h1 (h.val t)
      | some d =>
        rw [getD_put a d u t (by rw [h.size]; exact hd ops[i] (by simp) d hdst)]
        by_cases htd : t = d
        · rw [if_pos htd]
          subst htd
          have htn : t ∈ named ops.toList ops[i] := by
            unfold named
            simp [hdst]
          have e1 : look ops.toList V (S 0 t) (fun j => (E.setIfInBounds i true).getD j false) t ops.size = look ops.toList V (S 0 t) (fun j => decide (j < i + 1)) t ops.size := by
            refine look_congr ops.size fun j hj hjd => ?_
            by_cases hji : j = i
            · subst hji; rw [hseti]; simp
            · rw [hset j hji]
              have := h.names ht hok hi ho htn j hj hjd
              cases hE : E.getD j false with
              | true => have := this.1 hE; simp; omega
              | false =>
                simp
                have : ¬ j < i := fun hlt' => by rw [this.2 hlt'] at hE; cases hE
                omega
          rw [e1, look_beyond (i + 1) ops.size (by omega), ← look_traceF ht t (i + 1) (by omega), ht.next i ops[i] hoL, hdst]
          show TVR β' (if t = t then V i else S i t) u
          rw [if_pos rfl]
          exact h3
        · rw [if_neg htd]
          rw [look_congr (E' := fun j => E.getD j false) ops.size fun j hj hjd => by
            by_cases hji : j = i
            · subst hji; rw [hoL] at hjd; simp [hdst] at hjd; exact absurd hjd.symm htd
            · exact hset j hji]
          exact TVR.mono h1 (h.val t)
    have hclosed' : ∀ j, j < ops.size → (E.setIfInBounds i true).getD j false = true → ∀ k, (maskAt ops.toList j).testBit k = true → (E.setIfInBounds i true).getD k false = true := by
      intro j hj hEj k hk
      by_cases hki : k = i
      · subst hki; exact hseti
      · rw [hset k hki]
        by_cases hji : j = i
        · subst hji; exact hbits k hk
        · rw [hset j hji] at hEj
          exact h.closed j hj hEj k hk
    cases hpi : freeAt ops.toList F i with
    | true =>
      have hfo : freeAt ops.toList F i = true := hpi
      have hrd := (ht.free i ops[i] hoL (by rw [Nat.zero_add]; exact hfo)).2 m (by rw [hlen]; exact h.mle) (by rw [Nat.zero_add]; exact h.mb)
      have hst : StepR P ops.toList (S i) (Hs m) ops[i] (V i) (Hs m) := by
        rcases hrd with ⟨b, hb⟩ | hst
        · exfalso
          unfold wont at hb
          simp only [Bool.and_eq_true, Bool.or_eq_true, decide_eq_true_eq, Nat.zero_add] at hb
          obtain ⟨⟨hb1, hb2⟩, hb3⟩ := hb
          rw [hlen] at hb1
          rcases hb3 with ⟨hb4, hb5⟩ | ⟨hb4, hb5⟩
          · have := (h.bar b hb1 hb2).1 (hbits b hb4); omega
          · have := h.closed b hb1 ((h.bar b hb1 hb2).2 hb5) i hb4
            rw [hEi] at this; cases this
        · exact hst
      refine step_op hd ho hst h.sr h.size h.defers hval fun β' u w' h1 h2 h3 h4 => ?_
      refine ih _ _ _ β' m hu' ⟨h.le.trans h1, h2, h.fr.trans h4, hsize' u, hdef' u, hvals β' u h1 h3, by simp [h.esize], h.mle, h.mb, fun j hj hbj => ?_, hclosed'⟩
      by_cases hji : j = i
      · subst hji; rw [bar_pureF hbj] at hpi; cases hpi
      · rw [hset j hji]
        exact h.bar j hj hbj
    | false =>
    obtain ⟨hrows, hbar⟩ := h.rows ht hok hi hpi
    have hsr := h.sr
    have hfr := h.fr
    rw [hrows] at hsr hfr
    refine trace_opF ht hd ho hsr h.size h.defers hval fun β' u w' h1 h2 h3 h4 => ?_
    have hval' := hvals β' u h1 h3
    have hcase : (barrierF ops.toList F i = true ∧ True) ∨ (barrierF ops.toList F i = false ∧ Hs (i + 1) = Hs i) := by
      cases hb : barrierF ops.toList F i with
      | true => exact .inl ⟨rfl, trivial⟩
      | false =>
        right
        refine ⟨rfl, ?_⟩
        rcases ht.quiet i ops[i] hoL with h5 | h5
        · exact h5
        · rw [Nat.zero_add, hb] at h5; cases h5
    rcases hcase with ⟨hb, _⟩ | ⟨hb, hsame⟩
    · refine ih _ _ _ β' (i + 1) hu' ⟨h.le.trans h1, h2, hfr.trans h4, hsize' u, hdef' u, hval', by simp [h.esize], by omega, .inr (by rw [Nat.add_sub_cancel]; exact hb), fun j hj hbj => ?_, hclosed'⟩
      by_cases hji : j = i
      · subst hji; rw [hseti]; simp
      · rw [hset j hji, h.bar j hj hbj, hbar j hj hbj]
        omega
    · rw [hsame] at h2 h4
      refine ih _ _ _ β' m hu' ⟨h.le.trans h1, by rw [hrows]; exact h2, by rw [hrows]; exact hfr.trans h4, hsize' u, hdef' u, hval', by simp [h.esize], h.mle, h.mb, fun j hj hbj => ?_, hclosed'⟩
      by_cases hji : j = i
      · subst hji; rw [hb] at hbj; cases hbj
      · rw [hset j hji]
        exact h.bar j hj hbj


end

theorem anyF_sound {P : Program} {N : Nat} {F : List Nat} {ops : Array Oper} (hm : P.follows .mixedOrders = true) (ho : orderOK ops.toList = true) (hd : ∀ o ∈ ops.toList, ∀ t, o.dst = some t → t < N) {id : Nat} {s : Nat → TV} {H : Heap} {K : (Nat → TV) → Heap → Prop} (h : wopf P F ops.toList ops.toList 0 [] [] 0 s H K)
    {β : Emb} {a : Act} {w : World} (ha : AR β s a N) (hs : SR β H w) {Q : Exit → Act → World → Prop} (hQ : ∀ β' s' H' a' w', K s' H' → Le β β' → AR β' s' a' N → SR β' H' w' → Fr β H w β' H' w' → Q .normal a' w') :
    (Code.region id ops true).wp P Q a w := by
  obtain ⟨S, Hs, V, rfl, rfl, h3, h4, h5, h6, _, hK⟩ := wopf_trace _ _ _ _ _ _ _ (fun p hp => absurd hp (List.not_mem_nil)) h
  have ht : TraceF P F ops.toList ops.toList 0 S Hs V := ⟨h3, h4, h5, fun j o e hf => ⟨(h6 j o e hf).1, fun m h1 h2 => by
    have := (h6 j o e hf).2.1 m h1 h2
    cases m with
    | zero => exact this
    | succ m => rw [show ixF 0 0 (m + 1) = m + 1 by show 0 + (m + 1) = _; omega] at this; exact this⟩⟩
  rw [show ops.toList.length = ops.size by simp] at hK
  refine wp_region_any hm ?_
  have := region_anyF ht ho hd (β0 := β) (w0 := w) (Q := Q) (fun β' a' w' h1 h2 h3 h4 => hQ β' _ _ a' w' hK h1 h2 h3 h4) ops.size (Array.replicate ops.size false) a { w with drawn := w.drawn + 1 } β 0 (unl_replicate _ _ (Nat.le_refl _))
    ⟨Le.refl β, hs.draw _, Fr.draw _, ha.size, ha.defers, fun t => ?_, by simp, Nat.zero_le _, .inl rfl, fun j hj _ => ?_, fun j hj hE => ?_⟩
  · exact this
  · rw [look_congr (E' := fun j => decide (j < 0)) ops.size fun j hj _ => by simp [Array.getD_eq_getD_getElem?, hj]]
    rw [look_beyond 0 ops.size (Nat.zero_le _)]
    exact ha.val t
  · simp [Array.getD_eq_getD_getElem?, hj]
  · simp [Array.getD_eq_getD_getElem?, hj] at hE

end Go.Ab

