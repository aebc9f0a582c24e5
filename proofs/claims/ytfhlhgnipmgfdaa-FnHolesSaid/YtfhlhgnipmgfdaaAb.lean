/-
  THE ABSTRACT RUN (definitions). Values whose floats are canonical (one not-a-number), memory as a list of rows with numbers of its own; a run over the loaded code, with contracts in the place of calls. By an AI agent; nothing here is trusted.
-/
import Derived.Calls
import Derived.Laws.FloatArith
import Derived.Maps.OwnSet
import Derived.Maps.Views
namespace Go.Ab

/-- What is known of a value of an interface. -/
inductive IfV where
  | nil
  | num (t : TypeId) (k : IntKind) (n : Int)
  | other
  deriving Inhabited
def IfV.isNil : IfV → Bool
  | .nil => true
  | _ => false

inductive AV where
  | bad
  | und
  | bool (b : Bool)
  | int (k : IntKind) (n : Int)
  | flt (k : FloatKind) (b : Nat)
  | str (s : ByteArray)
  | nilptr
  | ptr (id off : Nat)
  | nilsl
  | sl (id off len esz : Nat)
  | fn (f : FuncId) (caps : List (Nat × Nat))
  | ifc (e : IfV)
  | mref (id : Nat)
  deriving Inhabited

inductive TV0 where
  | v (x : AV)
  | g (cs : List AV)
  deriving Inhabited

inductive TV where
  | v (x : AV)
  | g (cs : List AV)
  | t (vs : List TV0)
  deriving Inhabited

def TV0.up : TV0 → TV
  | .v x => .v x
  | .g cs => .g cs

def TV.down : TV → Option TV0
  | .v x => some (.v x)
  | .g cs => some (.g cs)
  | .t _ => none

def TV.cells : TV → Option (List AV)
  | .v x => some [x]
  | .g cs => some cs
  | .t _ => none

/-- May it be stored? -/
def AV.stor : AV → Bool
  | .bad => false
  | .und => false
  | _ => true

/-- A row of memory: one that came in (never written), one of the run's own, one that is given up; a whole block of which all is known; a number that is kept for a row to come. -/
inductive Blk where
  | ro (cs : List AV)
  | own (cs : List AV)
  | gone
  | tab (b : Nat) (o : Obj)
  | hole
  | mp (kk ek : IntKind) (m : List (Int × Int))
  deriving Inhabited

structure Heap where
  n : Nat
  f : Nat → Blk
  deriving Inhabited

def upd {α : Type} (f : Nat → α) (i : Nat) (x : α) : Nat → α := fun j => if j = i then x else f j

def Heap.alloc (H : Heap) (b : Blk) : Heap := ⟨H.n + 1, upd H.f H.n b⟩
def Heap.put (H : Heap) (i : Nat) (b : Blk) : Heap := ⟨H.n, upd H.f i b⟩

def Blk.cs : Blk → List AV
  | .ro cs => cs
  | .own cs => cs
  | .gone => []
  | .tab _ _ => []
  | .hole => []
  | .mp _ _ _ => []

def Blk.isRow : Blk → Bool
  | .own _ => true
  | _ => false
/-- What a map from integers to integers holds: its updates, the last one first. -/
def mpGet : List (Int × Int) → Int → Int
  | [], _ => 0
  | (k, v) :: r, a => if a = k then v else mpGet r a

def Blk.isOwn : Blk → Bool
  | .own _ => true
  | .mp _ _ _ => true
  | _ => false

/-- The one not-a-number of a kind. -/
def qnan : FloatKind → Nat
  | .f32 => 0x7fc00000
  | .f64 => 0x7ff8000000000000

def cz (k : FloatKind) (b : Nat) : Nat := if (k.decode b).isNaN then qnan k else b

def ofCell : Value → AV
  | .bool b => .bool b
  | .int k n => .int k n
  | .float k b => .flt k (cz k b)
  | .string s => .str s
  | .pointer none => .nilptr
  | .slice none 0 0 => .nilsl
  | .nilIface => .ifc .nil
  | .func (.func f) a b => if a.size = 0 ∧ b.size = 0 then .fn f [] else .bad
  | _ => .bad

def ofConst : Value → TV
  | .agg cs => .g (cs.toList.map ofCell)
  | .tuple _ => .v .bad
  | v => .v (ofCell v)

def aeval (s : Nat → TV) : Operand → TV
  | .tmp t => s t
  | .const v => ofConst v
  | .global _ => .v .bad
  | .func f => .v (.fn f [])

/-- What the run asks of the types. -/
def tagg (P : Program) (t : TypeId) : Option Bool :=
  match P.underlying t with
  | some (.struct _) => some true
  | some (.array _ _) => some true
  | some _ => some false
  | none => none

def tsz (P : Program) (t : TypeId) : Option Nat := (P.info? t).map (·.size)
def tbytes (P : Program) (t : TypeId) : Option Nat := (P.info? t).map (·.bytes)
def tzero (P : Program) (t : TypeId) : Option (List AV) := ((P.info? t).bind (·.zero)).map fun z => z.cells.toList.map ofCell
def telem (P : Program) (t : TypeId) : Option TypeId :=
  match P.underlying t with
  | some (.slice e) => some e
  | _ => none
def tfields (P : Program) (t : TypeId) : Option (List Field) :=
  match P.underlying t with
  | some (.struct fs) => some fs.toList
  | _ => none
def tarr (P : Program) (t : TypeId) : Option (Nat × TypeId) :=
  match P.underlying t with
  | some (.array n e) => some (n, e)
  | _ => none
def tint (P : Program) (t : TypeId) : Option IntKind :=
  match P.underlying t with
  | some (.int k) => some k
  | _ => none
def tflt (P : Program) (t : TypeId) : Option FloatKind :=
  match P.underlying t with
  | some (.float k) => some k
  | _ => none
def tbool (P : Program) (t : TypeId) : Bool :=
  match P.underlying t with
  | some .bool => true
  | _ => false
def tstr (P : Program) (t : TypeId) : Bool :=
  match P.underlying t with
  | some .string => true
  | _ => false

/-! ### operations on values -/
def fop (op : BinOp) (k : FloatKind) (x y : Nat) : Nat := ((floatBits op k x y).map (cz k)).getD (qnan k)

def fcmp (op : BinOp) (k : FloatKind) (x y : Nat) : Bool :=
  let c := k.format.order x y
  match op with
  | .eql => c == some .eq
  | .neq => c != some .eq
  | .lss => c == some .lt
  | .leq => c == some .lt || c == some .eq
  | .gtr => c == some .gt
  | .geq => c == some .gt || c == some .eq
  | _ => false

def ibits (op : BinOp) (k : IntKind) (x y : Int) : Int :=
  let a := BitVec.ofInt k.bits x
  let b := BitVec.ofInt k.bits y
  match op with
  | .and => k.wrap (a &&& b).toNat
  | .or => k.wrap (a ||| b).toNat
  | .xor => k.wrap (a ^^^ b).toNat
  | .andNot => k.wrap (a &&& ~~~b).toNat
  | _ => 0

def iop (op : BinOp) (k : IntKind) (x y : Int) : Option AV :=
  match op with
  | .add => some (.int k (k.wrap (x + y)))
  | .sub => some (.int k (k.wrap (x - y)))
  | .mul => some (.int k (k.wrap (x * y)))
  | .quo => if y = 0 then none else some (.int k (k.wrap (x.tdiv y)))
  | .rem => if y = 0 then none else some (.int k (x.tmod y))
  | .and => some (.int k (ibits .and k x y))
  | .or => some (.int k (ibits .or k x y))
  | .xor => some (.int k (ibits .xor k x y))
  | .andNot => some (.int k (ibits .andNot k x y))
  | .eql => some (.bool (x == y))
  | .neq => some (.bool (x != y))
  | .lss => some (.bool (x < y))
  | .leq => some (.bool (x ≤ y))
  | .gtr => some (.bool (x > y))
  | .geq => some (.bool (x ≥ y))
  | _ => none

def ishift (op : BinOp) (k : IntKind) (x y : Int) : Option AV :=
  if y < 0 then none else
  match op with
  | .shl => some (.int k (k.wrap (x * 2 ^ (min y.toNat k.bits))))
  | .shr => some (.int k (x.fdiv (2 ^ (min y.toNat k.bits))))
  | _ => none

def sop (op : BinOp) (x y : ByteArray) : Option AV :=
  match op with
  | .add => if x.size + y.size ≤ 9223372036854775807 then some (.str (x ++ y)) else none
  | .eql => some (.bool (x.toList == y.toList))
  | .neq => some (.bool (!(x.toList == y.toList)))
  | .lss => some (.bool (Op.bytesLess x.toList y.toList))
  | .leq => some (.bool (Op.bytesLess x.toList y.toList || x.toList == y.toList))
  | .gtr => some (.bool (!(Op.bytesLess x.toList y.toList || x.toList == y.toList)))
  | .geq => some (.bool (!(Op.bytesLess x.toList y.toList)))
  | _ => none

def abin (P : Program) (op : BinOp) (t : TypeId) (x y : AV) : Option AV :=
  match x, y with
  | .int k a, .int k' b =>
    match op with
    | .shl => ishift .shl k a b
    | .shr => ishift .shr k a b
    | _ => if k = k' then iop op k a b else none
  | .flt k a, .flt k' b =>
    if k = k' then
      match op with
      | .add => some (.flt k (fop .add k a b))
      | .sub => some (.flt k (fop .sub k a b))
      | .mul => some (.flt k (fop .mul k a b))
      | .quo => some (.flt k (fop .quo k a b))
      | .eql => some (.bool (fcmp .eql k a b))
      | .neq => some (.bool (fcmp .neq k a b))
      | .lss => some (.bool (fcmp .lss k a b))
      | .leq => some (.bool (fcmp .leq k a b))
      | .gtr => some (.bool (fcmp .gtr k a b))
      | .geq => some (.bool (fcmp .geq k a b))
      | _ => none
    else none
  | .str a, .str b => sop op a b
  | .bool a, .bool b =>
    if tbool P t then
    match op with
    | .eql => some (.bool (a == b))
    | .neq => some (.bool (!(a == b)))
    | _ => none
    else none
  | _, _ => none

def tmapi (P : Program) (t : TypeId) : Option (IntKind × IntKind) :=
  match P.underlying t with
  | some (.map k e) => (tint P k).bind fun kk => (tint P e).bind fun ek => match (P.info? e).bind (·.zero) with
    | some (.int q z) => if q = ek ∧ z = 0 then some (kk, ek) else none
    | _ => none
  | _ => none
def tif (P : Program) (t : TypeId) : Bool :=
  match P.underlying t with
  | some (.interface _) => true
  | _ => false
/-- A value of an interface, compared with the literal nil. -/
def aifc (P : Program) (op : BinOp) (t : TypeId) (y : Operand) (a b : AV) : Option AV :=
  match y, a, b with
  | .const _, .ifc p, .ifc .nil => if tif P t = true then (match op with | .eql => some (.bool p.isNil) | .neq => some (.bool (!p.isNil)) | _ => none) else none
  | _, _, _ => none

def aun (op : UnOp) (x : AV) : Option AV :=
  match op, x with
  | .neg, .int k n => some (.int k (k.wrap (0 - n)))
  | .xor, .int k n => some (.int k (ibits .xor k (if k.signed then -1 else k.max) n))
  | .neg, .flt k b => some (.flt k (cz k (Op.negFloat k b)))
  | .not, .bool b => some (.bool (!b))
  | _, _ => none

/-- A finite float of one kind as the other; 'none' where the language leaves the value open. -/
def fconv (s : FloatKind) (b : Nat) (k : FloatKind) : Option Nat :=
  if s = k then some b else
  match s.decode b with
  | .nan _ _ => some (qnan k)
  | .infinity g => some (cz k (k.encode (.infinity g)))
  | .number g m e => if (k.decode (k.encode (.number g m e))).isInfinity then none else some (cz k (k.encode (.number g m e)))

def aconv (P : Program) (dst : TypeId) (x : AV) : Option AV :=
  match x with
  | .int _ n =>
    match tint P dst with
    | some k => some (.int k (k.wrap n))
    | none => match tflt P dst with
      | some k => some (.flt k (cz k (floatOfInt k n)))
      | none => none
  | .flt s b =>
    match tint P dst with
    | some k => (floatToIntVal s b k).map (.int k ·)
    | none => match tflt P dst with
      | some k => (fconv s b k).map (.flt k ·)
      | none => none
  | _ => none

/-! ### memory -/
def rdCells (H : Heap) (id off n : Nat) : Option (List AV) :=
  if off + n ≤ (H.f id).cs.length then some (((H.f id).cs.drop off).take n) else none

def rdCell (H : Heap) (id off : Nat) : Option AV := (H.f id).cs[off]?

def splice (cs new : List AV) (off : Nat) : List AV := cs.take off ++ new ++ cs.drop (off + new.length)

def wrCells (H : Heap) (id off : Nat) (new : List AV) : Option Heap :=
  match H.f id with
  | .own cs => if off + new.length ≤ cs.length ∧ new.all AV.stor = true then some (H.put id (.own (splice cs new off))) else none
  | _ => none

def fillParts (place : Nat → Option (Nat × Nat)) (cells : List AV) : List (Nat × List AV) → Option (List AV)
  | [] => some cells
  | (i, v) :: rest =>
    match place i with
    | some (off, size) => if v.length = size ∧ off + v.length ≤ cells.length then fillParts place (splice cells v off) rest else none
    | none => none

def partsOf (ev : Operand → TV) : List (Nat × Operand) → Option (List (Nat × List AV))
  | [] => some []
  | (i, x) :: r =>
    match (ev x).cells, partsOf ev r with
    | some c, some rs => some ((i, c) :: rs)
    | _, _ => none

def structPlaces (P : Program) (fs : List Field) (i : Nat) : Option (Nat × Nat) :=
  match fs[i]? with
  | some f => (tsz P f.type).map fun n => (f.offset, n)
  | none => none

def zerosOf (z : List AV) : Nat → List AV
  | 0 => []
  | n + 1 => z ++ zerosOf z n

/-- What lies in the row of a slice or a string, as new cells. -/
def cellsOfArg (H : Heap) (esz : Nat) : AV → Option (Nat × List AV)
  | .nilsl => some (0, [])
  | .sl id off len esz' => if esz' = esz then (rdCells H id off (len * esz)).map fun c => (len, c) else none
  | .str s => if esz = 1 then some (s.size, s.data.toList.map fun b => .int .u8 b.toNat) else none
  | _ => none

def aappend (H : Heap) (esz bytes : Nat) (s x : AV) : Option (TV × Heap) :=
  if bytes = 0 then none else
  match cellsOfArg H esz x with
  | none => none
  | some (n, new) =>
    match s with
    | .nilsl =>
      if n = 0 then some (.v .nilsl, H)
      else if n * bytes ≤ 2 ^ 40 then some (.v (.sl H.n 0 n esz), H.alloc (.own new))
      else none
    | .sl id off len esz' =>
      match H.f id with
      | .own cs =>
        if esz' = esz ∧ off + len * esz = cs.length ∧ (len + n) * bytes ≤ 2 ^ 40 then
          some (.v (.sl H.n 0 (len + n) esz), (H.put id .gone).alloc (.own (cs.drop off ++ new)))
        else none
      | _ => none
    | _ => none

def strOfCells : List AV → Option (List UInt8)
  | [] => some []
  | .int .u8 n :: r => (strOfCells r).map fun t => UInt8.ofNat n.toNat :: t
  | _ => none

def optAV : Option TV → Option (Option Int)
  | none => some none
  | some (.v (.int _ n)) => some (some n)
  | _ => none

/-- The bounds of a slice: low, high. -/
def slBounds (len : Nat) (lo hi : Option Int) : Option (Nat × Nat) :=
  let l := lo.getD 0
  let h := hi.getD len
  if 0 ≤ l ∧ l ≤ h ∧ h ≤ len then some (l.toNat, h.toNat) else none

def minMax2 (mx : Bool) (x y : AV) : Option AV :=
  match x, y with
  | .int k a, .int k' b => if k = k' then some (.int k (if mx then (if b > a then b else a) else (if b < a then b else a))) else none
  | .flt k a, .flt k' b =>
    if k = k' then
      match k.format.order a b with
      | none => some (.flt k (qnan k))
      | some .lt => some (.flt k (if mx then b else a))
      | some .gt => some (.flt k (if mx then a else b))
      | some .eq => some (.flt k (if (k.decode a).neg then (if mx then b else a) else (if mx then a else b)))
    else none
  | _, _ => none

def foldMM (mx : Bool) (x : AV) : List AV → Option AV
  | [] => some x
  | y :: r => match minMax2 mx x y with
    | some z => foldMM mx z r
    | none => none

def argsAV : List TV → Option (List AV)
  | [] => some []
  | .v x :: r => (argsAV r).map (x :: ·)
  | _ => none

def acopy (H : Heap) (esz n : Nat) (new : List AV) : AV → Option (TV × Heap)
  | .nilsl => some (.v (.int .i64 0), H)
  | .sl id off len esz' => if esz' ≠ esz then none else (wrCells H id off (new.take (min n len * esz))).map fun H' => (.v (.int .i64 (min n len : Nat)), H')
  | _ => none

def abuiltin (P : Program) (b : Builtin) (tys : Array TypeId) (args : List TV) (H : Heap) : Option (TV × Heap) :=
  match b, args with
  | .len, [.v (.str s)] =>
    match tys[0]? with
    | some t0 => if tstr P t0 then some (.v (.int .i64 s.size), H) else none
    | none => none
  | .len, [.v .nilsl] =>
    match tys[0]? with
    | some t0 => if (telem P t0).isSome then some (.v (.int .i64 0), H) else none
    | none => none
  | .len, [.v (.sl _ _ n _)] =>
    match tys[0]? with
    | some t0 => if (telem P t0).isSome then some (.v (.int .i64 n), H) else none
    | none => none
  | .append, [.v s, .v x] =>
    match tys[0]?, tys[1]? with
    | some t0, some t1 => match telem P t0 with
      | some e => match tsz P e, tbytes P e, tzero P e with
        | some esz, some bytes, some z => if z.length = esz ∧ tint P t1 = none ∧ (P.underlying t1).isSome then aappend H esz bytes s x else none
        | _, _, _ => none
      | none => none
    | _, _ => none
  | .copy, [.v d, .v x] =>
    match tys[0]? with
    | some t0 => match telem P t0 with
      | some e => match tsz P e with
        | some esz => match cellsOfArg H esz x with
          | some (n, new) => acopy H esz n new d
          | none => none
        | none => none
      | none => none
    | none => none
  | .max, _ => match argsAV args with
    | some (x :: r) => (foldMM true x r).map fun z => (.v z, H)
    | _ => none
  | .min, _ => match argsAV args with
    | some (x :: r) => (foldMM false x r).map fun z => (.v z, H)
    | _ => none
  | _, _ => none

def capsOf (ev : Operand → TV) : List Operand → Option (List (Nat × Nat))
  | [] => some []
  | x :: r => match ev x, capsOf ev r with
    | .v (.ptr i o), some rs => some ((i, o) :: rs)
    | _, _ => none

def astep (P : Program) (ev : Operand → TV) (op : Op) (H : Heap) : Option (TV × Heap) :=
  match op with
  | .move x | .assign x => some (ev x, H)
  | .pick c a b =>
    match ev c with
    | .v (.bool t) => some (if t then ev a else ev b, H)
    | _ => none
  | .alloc e => (tzero P e).bind fun z => if z.all AV.stor then some (.v (.ptr H.n 0), H.alloc (.own z)) else none
  | .box e x => (ev x).cells.bind fun c => if (P.info? e).isSome = true ∧ c.all AV.stor = true then some (.v (.ptr H.n 0), H.alloc (.own c)) else none
  | .build t parts =>
    match tzero P t, tfields P t, partsOf ev parts.toList with
    | some z, some fs, some ps =>
      if fs.all (fun f => (tsz P f.type).isSome) = true ∧ ps.all (fun p => p.2.all AV.stor) = true then (fillParts (structPlaces P fs) z ps).map fun c => (.g c, H) else none
    | _, _, _ => none
  | .buildSlice t len parts =>
    match telem P t with
    | some e => match tsz P e, tzero P e, partsOf ev parts.toList with
      | some n, some z, some ps =>
        if len * n ≤ 2 ^ 24 ∧ z.length = n ∧ ps.all (fun p => p.2.all AV.stor) = true then
          (fillParts (fun i => some (i * n, n)) (zerosOf z len) ps).bind fun c => if c.all AV.stor then some (.v (.sl H.n 0 len n), H.alloc (.own c)) else none
        else none
      | _, _, _ => none
    | none => none
  | .load t a =>
    match ev a with
    | .v (.ptr id off) =>
      match tagg P t with
      | some true => match tsz P t with
        | some n => (rdCells H id off n).map fun c => (.g c, H)
        | none => none
      | some false => (rdCell H id off).map fun c => (.v c, H)
      | none => none
    | _ => none
  | .store t a x =>
    match ev a, (ev x).cells, tsz P t with
    | .v (.ptr id off), some c, some n => if c.length = n then (wrCells H id off c).map fun H' => (.v .und, H') else none
    | _, _, _ => none
  | .nilCheck x =>
    match ev x with
    | .v (.ptr i o) => some (.v (.ptr i o), H)
    | .v (.fn f c) => some (.v (.fn f c), H)
    | _ => none
  | .binOp op t x y _ =>
    match ev x, ev y with
    | .v a, .v b => ((abin P op t a b).or (aifc P op t y a b)).map fun z => (.v z, H)
    | _, _ => none
  | .unOp op _ x =>
    match ev x with
    | .v a => (aun op a).map fun z => (.v z, H)
    | _ => none
  | .convert src dst x =>
    match ev x with
    | .v (.str s) =>
      if (P.underlying src).isSome = false then none else
      if tstr P dst then some (.v (.str s), H) else
      match telem P dst with
      | some e => if tint P e = some .u8 then some (.v (.sl H.n 0 s.size 1), H.alloc (.own (s.data.toList.map fun b => .int .u8 b.toNat))) else none
      | none => none
    | .v (.sl id off len esz) =>
      match telem P src with
      | some e => if tint P e = some .u8 ∧ tstr P dst = true ∧ esz = 1 then
          ((rdCells H id off len).bind strOfCells).map fun l => (.v (.str ⟨l.toArray⟩), H)
        else if src = dst ∧ tint P e = some .u8 ∧ 0 < len ∧ (H.f id).isRow = true then some (.v (.sl id off len esz), H) else none
      | none => none
    | .v a => if (P.underlying src).isSome then (aconv P dst a).map fun z => (.v z, H) else none
    | _ => none
  | .makeFunc (.func f) first captured =>
    if first.size = 0 then (capsOf ev captured.toList).map fun c => (.v (.fn f c), H) else none
  | .makeSlice t l c =>
    match ev l, ev c, telem P t with
    | .v (.int .i64 n), .v (.int .i64 m), some e =>
      match tsz P e, tbytes P e, tzero P e with
      | some sz, some by_, some z =>
        if 0 ≤ n ∧ n ≤ m ∧ m ≤ 2 ^ 40 ∧ m * by_ ≤ 2 ^ 40 ∧ z.length = sz ∧ z.all AV.stor = true then some (.v (.sl H.n 0 n.toNat sz), H.alloc (.own (zerosOf z n.toNat))) else none
      | _, _, _ => none
    | _, _, _ => none
  | .slice t x lo hi none =>
    match ev x, optAV (lo.map ev), optAV (hi.map ev) with
    | .v (.str s), some l, some h => if tstr P t then (slBounds s.size l h).map fun (a, b) => (.v (.str (s.extract a b)), H) else none
    | .v (.sl id off len esz), some l, some h =>
      if (telem P t).bind (tsz P) = some esz then (slBounds len l h).map fun (a, b) => (.v (.sl id (off + a * esz) (b - a) esz), H) else none
    | .v .nilsl, some l, some h => if ((telem P t).bind (tsz P)).isSome then (slBounds 0 l h).map fun _ => (.v .nilsl, H) else none
    | .v (.ptr id off), some l, some h =>
      match (tarr P t).bind (fun ne => (tsz P ne.2).map (fun sz => (ne.1, sz))), H.f id with
      | some (n, sz), .own cs => if off + n * sz ≤ cs.length then (slBounds n l h).map fun (a, b) => (.v (.sl id (off + a * sz) (b - a) sz), H) else none
      | _, _ => none
    | _, _, _ => none
  | .makeMap t none => (tmapi P t).map fun ke => (.v (.mref H.n), H.alloc (.mp ke.1 ke.2 []))
  | .lookup t m x false =>
    match ev m, ev x, tmapi P t with
    | .v (.mref id), .v (.int k a), some (kk, ek) =>
      match H.f id with
      | .mp kk' ek' l => if kk' = kk ∧ ek' = ek ∧ k = kk ∧ (Lit.int kk a).wf = true then some (.v (.int ek (mpGet l a)), H) else none
      | _ => none
    | _, _, _ => none
  | .mapUpdate t m x y =>
    match ev m, ev x, ev y, tmapi P t with
    | .v (.mref id), .v (.int k a), .v (.int k2 b), some (kk, ek) =>
      match H.f id with
      | .mp kk' ek' l => if kk' = kk ∧ ek' = ek ∧ k = kk ∧ k2 = ek ∧ (Lit.int kk a).wf = true ∧ (Lit.int ek b).wf = true ∧ l.length < 2 ^ 40 then some (.v .und, H.put id (.mp kk ek ((a, b) :: l))) else none
      | _ => none
    | _, _, _, _ => none
  | .makeInterface t x =>
    match ev x with
    | .v (.int k n) => if tint P t = some k then some (.v (.ifc (.num t k n)), H) else none
    | _ => none
  | .fieldAddr st x f =>
    match ev x, (tfields P st).bind (·[f]?) with
    | .v (.ptr id off), some fd => if (tsz P fd.type).any (0 < ·) then some (.v (.ptr id (off + fd.offset)), H) else none
    | _, _ => none
  | .field t x f =>
    match ev x, (tfields P t).bind (·[f]?) with
    | .g cs, some fd =>
      match tagg P fd.type with
      | some true => match tsz P fd.type with
        | some n => if fd.offset + n ≤ cs.length then some (.g ((cs.drop fd.offset).take n), H) else none
        | none => none
      | some false => (cs[fd.offset]?).map fun c => (.v c, H)
      | none => none
    | _, _ => none
  | .indexAddr t x i =>
    match ev x, ev i with
    | .v (.sl id off len esz), .v (.int _ n) =>
      match (telem P t).bind (tsz P) with
      | some sz => if sz = esz ∧ 0 ≤ n ∧ n < len then some (.v (.ptr id (off + n.toNat * esz)), H) else none
      | none => none
    | .v (.ptr id off), .v (.int _ n) =>
      match tarr P t with
      | some (len, e) => match tsz P e with
        | some sz => if 0 ≤ n ∧ n < len then some (.v (.ptr id (off + n.toNat * sz)), H) else none
        | none => none
      | none => none
    | _, _ => none
  | .index t x i =>
    match ev x, ev i with
    | .v (.str s), .v (.int _ n) => if tstr P t = true ∧ 0 ≤ n then (s[n.toNat]?).map fun b => (.v (.int .u8 b.toNat), H) else none
    | _, _ => none
  | .extract x i =>
    match ev x with
    | .t vs => (vs[i]?).map fun z => (z.up, H)
    | _ => none
  | .call c =>
    match c.callee with
    | .builtin b => abuiltin P b c.argTypes (c.args.toList.map ev) H
    | _ => none
  | _ => none

def aput (s : Nat → TV) : Option Tmp → TV → Nat → TV
  | some d, v => upd s d v
  | none, _ => s

/-- What a guard reads: a bool, or nothing (the operation it names was not wanted); 'none': it cannot be told. -/
def ayield (ops : List Oper) (s : Nat → TV) (j : Nat) : Option (Option Bool) :=
  match (ops[j]?).bind (·.dst) with
  | some d => match s d with
    | .v (.bool b) => some (some b)
    | .v .und => some none
    | _ => none
  | none => none

def aresults (P : Program) (s : Nat → TV) (H : Heap) : List ResultVar → Option (List TV)
  | [] => some []
  | .tmp t :: r => (aresults P s H r).map (s t :: ·)
  | .cell a t :: r =>
    match s a with
    | .v (.ptr id off) =>
      match tagg P t with
      | some true => match (tsz P t).bind (rdCells H id off) with
        | some c => (aresults P s H r).map (.g c :: ·)
        | none => none
      | some false => match rdCell H id off with
        | some c => (aresults P s H r).map (.v c :: ·)
        | none => none
      | none => none
    | _ => none

def downAll : List TV → Option (List TV0)
  | [] => some []
  | x :: r => match x.down, downAll r with
    | some y, some ys => some (y :: ys)
    | _, _ => none

def packTV : List TV → Option TV
  | [x] => some x
  | xs => (downAll xs).map .t

end Go.Ab
