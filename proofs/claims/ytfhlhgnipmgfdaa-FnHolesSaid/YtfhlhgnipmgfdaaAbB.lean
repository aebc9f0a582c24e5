/-
  RULES, operation by operation: each rewrites the head of a region to what comes behind it. By an AI agent; nothing here is trusted.
-/
import Derived.Test.YtfhlhgnipmgfdaaAbA
namespace Go.Ab
set_option linter.unusedVariables false
set_option linter.unusedSimpArgs false

section
variable {P : Program} {q : Bool} {ops r : List Oper} {i : Nat} {s : Nat → TV} {H : Heap} {K : (Nat → TV) → Heap → Prop} {dst : Option Tmp} {ty : TypeId} {pos : String} {after : Array Edge}

/-- Behind an operation that leaves memory alone and yields so. -/
def stepV (P : Program) (q : Bool) (ops r : List Oper) (i : Nat) (s : Nat → TV) (dst : Option Tmp) (H : Heap) (K : (Nat → TV) → Heap → Prop) : Option TV → Prop
  | some v => wops P q ops r (i + 1) (aput s dst v) H K
  | none => False

theorem stepV_some {v : TV} : stepV P q ops r i s dst H K (some v) = wops P q ops r (i + 1) (aput s dst v) H K := rfl

theorem stepTo_map (x : Option TV) : stepTo P q ops r i s dst H K (x.map fun v => (v, H)) = stepV P q ops r i s dst H K x := by
  cases x with
  | none => rfl
  | some v => simp [stepTo, stepV]

theorem wops_move {x : Operand} : wops P q ops ({ dst, op := .move x, type := ty, pos, after, guard := none } :: r) i s H K = wops P q ops r (i + 1) (aput s dst (aeval s x)) H K := by
  rw [wops_op rfl]; exact stepTo_same
theorem wops_assign {x : Operand} : wops P q ops ({ dst, op := .assign x, type := ty, pos, after, guard := none } :: r) i s H K = wops P q ops r (i + 1) (aput s dst (aeval s x)) H K := by
  rw [wops_op rfl]; exact stepTo_same

def tpick (a b : TV) : TV → Option TV
  | .v (.bool t) => some (if t = true then a else b)
  | _ => none
theorem wops_pick {c a b : Operand} : wops P q ops ({ dst, op := .pick c a b, type := ty, pos, after, guard := none } :: r) i s H K = stepV P q ops r i s dst H K (tpick (aeval s a) (aeval s b) (aeval s c)) := by
  rw [wops_op rfl, ← stepTo_map]
  congr 1
  simp only [astep]
  cases aeval s c with
  | v x => cases x <;> rfl
  | g c => rfl
  | t v => rfl
theorem tpick_bool {a b : TV} {t : Bool} : tpick a b (.v (.bool t)) = some (if t = true then a else b) := rfl

def tbin (P : Program) (op : BinOp) (t : TypeId) (yo : Operand) : TV → TV → Option TV
  | .v a, .v b => ((abin P op t a b).or (aifc P op t yo a b)).map .v
  | _, _ => none
theorem wops_bin {op : BinOp} {t t2 : TypeId} {x y : Operand} : wops P q ops ({ dst, op := .binOp op t x y t2, type := ty, pos, after, guard := none } :: r) i s H K = stepV P q ops r i s dst H K (tbin P op t y (aeval s x) (aeval s y)) := by
  rw [wops_op rfl, ← stepTo_map]
  congr 1
  simp only [astep]
  cases aeval s x <;> cases aeval s y <;> simp [tbin, Option.map_map] <;> rfl
section bins
variable {t : TypeId} {yo : Operand} {k : IntKind} {f : FloatKind} {a b : Int} {x y : Nat}
theorem tbin_add : tbin P .add t yo (.v (.int k a)) (.v (.int k b)) = some (.v (.int k (k.wrap (a + b)))) := by simp [tbin, abin, iop]
theorem tbin_sub : tbin P .sub t yo (.v (.int k a)) (.v (.int k b)) = some (.v (.int k (k.wrap (a - b)))) := by simp [tbin, abin, iop]
theorem tbin_mul : tbin P .mul t yo (.v (.int k a)) (.v (.int k b)) = some (.v (.int k (k.wrap (a * b)))) := by simp [tbin, abin, iop]
theorem tbin_quo (h : b ≠ 0) : tbin P .quo t yo (.v (.int k a)) (.v (.int k b)) = some (.v (.int k (k.wrap (a.tdiv b)))) := by simp [tbin, abin, iop, h]
theorem tbin_rem (h : b ≠ 0) : tbin P .rem t yo (.v (.int k a)) (.v (.int k b)) = some (.v (.int k (a.tmod b))) := by simp [tbin, abin, iop, h]
theorem tbin_and : tbin P .and t yo (.v (.int k a)) (.v (.int k b)) = some (.v (.int k (ibits .and k a b))) := by simp [tbin, abin, iop]
theorem tbin_or : tbin P .or t yo (.v (.int k a)) (.v (.int k b)) = some (.v (.int k (ibits .or k a b))) := by simp [tbin, abin, iop]
theorem tbin_xor : tbin P .xor t yo (.v (.int k a)) (.v (.int k b)) = some (.v (.int k (ibits .xor k a b))) := by simp [tbin, abin, iop]
theorem tbin_andNot : tbin P .andNot t yo (.v (.int k a)) (.v (.int k b)) = some (.v (.int k (ibits .andNot k a b))) := by simp [tbin, abin, iop]
theorem tbin_eql : tbin P .eql t yo (.v (.int k a)) (.v (.int k b)) = some (.v (.bool (decide (a = b)))) := by simp [tbin, abin, iop]; rfl
theorem tbin_neq : tbin P .neq t yo (.v (.int k a)) (.v (.int k b)) = some (.v (.bool (decide (a ≠ b)))) := by
  simp [tbin, abin, iop]
  rfl
theorem tbin_lss : tbin P .lss t yo (.v (.int k a)) (.v (.int k b)) = some (.v (.bool (decide (a < b)))) := by simp [tbin, abin, iop]
theorem tbin_leq : tbin P .leq t yo (.v (.int k a)) (.v (.int k b)) = some (.v (.bool (decide (a ≤ b)))) := by simp [tbin, abin, iop]
theorem tbin_gtr : tbin P .gtr t yo (.v (.int k a)) (.v (.int k b)) = some (.v (.bool (decide (b < a)))) := by simp [tbin, abin, iop]
theorem tbin_geq : tbin P .geq t yo (.v (.int k a)) (.v (.int k b)) = some (.v (.bool (decide (b ≤ a)))) := by simp [tbin, abin, iop]
theorem tbin_shl {k2 : IntKind} (h : 0 ≤ b) : tbin P .shl t yo (.v (.int k a)) (.v (.int k2 b)) = some (.v (.int k (k.wrap (a * 2 ^ (min b.toNat k.bits))))) := by simp [tbin, abin, ishift, Int.not_lt.2 h]
theorem tbin_shr {k2 : IntKind} (h : 0 ≤ b) : tbin P .shr t yo (.v (.int k a)) (.v (.int k2 b)) = some (.v (.int k (a.fdiv (2 ^ (min b.toNat k.bits))))) := by simp [tbin, abin, ishift, Int.not_lt.2 h]
theorem tbin_fadd : tbin P .add t yo (.v (.flt f x)) (.v (.flt f y)) = some (.v (.flt f (fop .add f x y))) := by simp [tbin, abin]
theorem tbin_fsub : tbin P .sub t yo (.v (.flt f x)) (.v (.flt f y)) = some (.v (.flt f (fop .sub f x y))) := by simp [tbin, abin]
theorem tbin_fmul : tbin P .mul t yo (.v (.flt f x)) (.v (.flt f y)) = some (.v (.flt f (fop .mul f x y))) := by simp [tbin, abin]
theorem tbin_fquo : tbin P .quo t yo (.v (.flt f x)) (.v (.flt f y)) = some (.v (.flt f (fop .quo f x y))) := by simp [tbin, abin]
theorem tbin_feql : tbin P .eql t yo (.v (.flt f x)) (.v (.flt f y)) = some (.v (.bool (fcmp .eql f x y))) := by simp [tbin, abin]
theorem tbin_fneq : tbin P .neq t yo (.v (.flt f x)) (.v (.flt f y)) = some (.v (.bool (fcmp .neq f x y))) := by simp [tbin, abin]
theorem tbin_flss : tbin P .lss t yo (.v (.flt f x)) (.v (.flt f y)) = some (.v (.bool (fcmp .lss f x y))) := by simp [tbin, abin]
theorem tbin_fleq : tbin P .leq t yo (.v (.flt f x)) (.v (.flt f y)) = some (.v (.bool (fcmp .leq f x y))) := by simp [tbin, abin]
theorem tbin_fgtr : tbin P .gtr t yo (.v (.flt f x)) (.v (.flt f y)) = some (.v (.bool (fcmp .gtr f x y))) := by simp [tbin, abin]
theorem tbin_fgeq : tbin P .geq t yo (.v (.flt f x)) (.v (.flt f y)) = some (.v (.bool (fcmp .geq f x y))) := by simp [tbin, abin]
theorem tbin_beql {c d : Bool} (h : tbool P t = true) : tbin P .eql t yo (.v (.bool c)) (.v (.bool d)) = some (.v (.bool (c == d))) := by simp [tbin, abin, h]
theorem tbin_bneq {c d : Bool} (h : tbool P t = true) : tbin P .neq t yo (.v (.bool c)) (.v (.bool d)) = some (.v (.bool (!(c == d)))) := by simp [tbin, abin, h]
theorem tbin_seql {c d : ByteArray} : tbin P .eql t yo (.v (.str c)) (.v (.str d)) = some (.v (.bool (c.toList == d.toList))) := by simp [tbin, abin, sop]
theorem tbin_sneq {c d : ByteArray} : tbin P .neq t yo (.v (.str c)) (.v (.str d)) = some (.v (.bool (!(c.toList == d.toList)))) := by simp [tbin, abin, sop]
theorem tbin_sadd {c d : ByteArray} (h : c.size + d.size ≤ 9223372036854775807) : tbin P .add t yo (.v (.str c)) (.v (.str d)) = some (.v (.str (c ++ d))) := by simp [tbin, abin, sop, h]
end bins

def tun (op : UnOp) : TV → Option TV
  | .v a => (aun op a).map .v
  | _ => none
theorem wops_un {op : UnOp} {t : TypeId} {x : Operand} : wops P q ops ({ dst, op := .unOp op t x, type := ty, pos, after, guard := none } :: r) i s H K = stepV P q ops r i s dst H K (tun op (aeval s x)) := by
  rw [wops_op rfl, ← stepTo_map]
  congr 1
  simp only [astep]
  cases aeval s x <;> simp [tun, Option.map_map] <;> rfl
theorem tun_neg {k : IntKind} {n : Int} : tun .neg (.v (.int k n)) = some (.v (.int k (k.wrap (0 - n)))) := rfl
theorem tun_fneg {k : FloatKind} {b : Nat} : tun .neg (.v (.flt k b)) = some (.v (.flt k (cz k (Op.negFloat k b)))) := rfl
theorem tun_not {b : Bool} : tun .not (.v (.bool b)) = some (.v (.bool (!b))) := rfl

/-! ### the other operations, each by what it reads -/
def tconv (P : Program) (src d : TypeId) (H : Heap) : TV → Option (TV × Heap)
  | .v (.str s) =>
    if (P.underlying src).isSome = false then none else
    if tstr P d then some (.v (.str s), H) else
    match telem P d with
    | some e => if tint P e = some .u8 then some (.v (.sl H.n 0 s.size 1), H.alloc (.own (s.data.toList.map fun b => .int .u8 b.toNat))) else none
    | none => none
  | .v (.sl id off len esz) =>
    match telem P src with
    | some e => if tint P e = some .u8 ∧ tstr P d = true ∧ esz = 1 then ((rdCells H id off len).bind strOfCells).map fun l => (.v (.str ⟨l.toArray⟩), H) else if src = d ∧ tint P e = some .u8 ∧ 0 < len ∧ (H.f id).isRow = true then some (.v (.sl id off len esz), H) else none
    | none => none
  | .v a => if (P.underlying src).isSome then (aconv P d a).map fun z => (.v z, H) else none
  | _ => none
theorem wops_conv {src d : TypeId} {x : Operand} : wops P q ops ({ dst, op := .convert src d x, type := ty, pos, after, guard := none } :: r) i s H K = stepTo P q ops r i s dst H K (tconv P src d H (aeval s x)) := by
  rw [wops_op rfl]; rfl
theorem tconv_int {src d : TypeId} {k k' : IntKind} {n : Int} (h1 : (P.underlying src).isSome = true) (h2 : tint P d = some k') : tconv P src d H (.v (.int k n)) = some (.v (.int k' (k'.wrap n)), H) := by simp [tconv, h1, aconv, h2]
theorem tconv_itof {src d : TypeId} {k : IntKind} {f : FloatKind} {n : Int} (h1 : (P.underlying src).isSome = true) (h2 : tint P d = none) (h3 : tflt P d = some f) : tconv P src d H (.v (.int k n)) = some (.v (.flt f (cz f (floatOfInt f n))), H) := by
  simp [tconv, h1, aconv, h2, h3]
theorem tconv_ftoi {src d : TypeId} {k : IntKind} {f : FloatKind} {b : Nat} {n : Int} (h1 : (P.underlying src).isSome = true) (h2 : tint P d = some k) (h3 : floatToIntVal f b k = some n) : tconv P src d H (.v (.flt f b)) = some (.v (.int k n), H) := by
  simp [tconv, h1, aconv, h2, h3]
theorem tconv_ftof {src d : TypeId} {f g : FloatKind} {b c : Nat} (h1 : (P.underlying src).isSome = true) (h2 : tint P d = none) (h3 : tflt P d = some g) (h4 : fconv f b g = some c) : tconv P src d H (.v (.flt f b)) = some (.v (.flt g c), H) := by
  simp [tconv, h1, aconv, h2, h3, h4]
theorem fconv_same {f : FloatKind} {b : Nat} : fconv f b f = some b := by simp [fconv]
theorem tconv_ftof_same {src d : TypeId} {f : FloatKind} {b : Nat} (h1 : (P.underlying src).isSome = true) (h2 : tint P d = none) (h3 : tflt P d = some f) : tconv P src d H (.v (.flt f b)) = some (.v (.flt f b), H) :=
  tconv_ftof h1 h2 h3 fconv_same
theorem tconv_str {src d : TypeId} {x : ByteArray} (h1 : (P.underlying src).isSome = true) (h2 : tstr P d = true) : tconv P src d H (.v (.str x)) = some (.v (.str x), H) := by simp [tconv, h1, h2]
theorem tconv_bytes {src d e : TypeId} {x : ByteArray} (h1 : (P.underlying src).isSome = true) (h2 : tstr P d = false) (h3 : telem P d = some e) (h4 : tint P e = some .u8) :
    tconv P src d H (.v (.str x)) = some (.v (.sl H.n 0 x.size 1), H.alloc (.own (x.data.toList.map fun b => .int .u8 b.toNat))) := by simp [tconv, h1, h2, h3, h4]
theorem tconv_string {src d e : TypeId} {id off len : Nat} {cs : List AV} {l : List UInt8} (h1 : telem P src = some e) (h2 : tint P e = some .u8) (h3 : tstr P d = true) (h4 : rdCells H id off len = some cs) (h5 : strOfCells cs = some l) :
    tconv P src d H (.v (.sl id off len 1)) = some (.v (.str ⟨l.toArray⟩), H) := by simp [tconv, h1, h2, h3, h4, h5]

def tload (P : Program) (t : TypeId) (H : Heap) : TV → Option (TV × Heap)
  | .v (.ptr id off) =>
    match tagg P t with
    | some true => match tsz P t with
      | some n => (rdCells H id off n).map fun c => (.g c, H)
      | none => none
    | some false => (rdCell H id off).map fun c => (.v c, H)
    | none => none
  | _ => none
theorem wops_load {t : TypeId} {x : Operand} : wops P q ops ({ dst, op := .load t x, type := ty, pos, after, guard := none } :: r) i s H K = stepTo P q ops r i s dst H K (tload P t H (aeval s x)) := by
  rw [wops_op rfl]; rfl
theorem tload_cell {t : TypeId} {id off : Nat} {c : AV} (h1 : tagg P t = some false) (h2 : rdCell H id off = some c) : tload P t H (.v (.ptr id off)) = some (.v c, H) := by simp [tload, h1, h2]
theorem tload_agg {t : TypeId} {id off n : Nat} {c : List AV} (h1 : tagg P t = some true) (h2 : tsz P t = some n) (h3 : rdCells H id off n = some c) : tload P t H (.v (.ptr id off)) = some (.g c, H) := by simp [tload, h1, h2, h3]

def tstore (P : Program) (t : TypeId) (H : Heap) (a x : TV) : Option (TV × Heap) :=
  match a, x.cells, tsz P t with
  | .v (.ptr id off), some c, some n => if c.length = n then (wrCells H id off c).map fun H' => (.v .und, H') else none
  | _, _, _ => none
theorem wops_store {t : TypeId} {a x : Operand} : wops P q ops ({ dst, op := .store t a x, type := ty, pos, after, guard := none } :: r) i s H K = stepTo P q ops r i s dst H K (tstore P t H (aeval s a) (aeval s x)) := by
  rw [wops_op rfl]; rfl
theorem tstore_some {t : TypeId} {x : TV} {id off n : Nat} {c : List AV} {H' : Heap} (h1 : x.cells = some c) (h2 : tsz P t = some n) (h3 : c.length = n) (h4 : wrCells H id off c = some H') : tstore P t H (.v (.ptr id off)) x = some (.v .und, H') := by
  simp [tstore, h1, h2, h3, h4]

def tnilCheck (H : Heap) : TV → Option (TV × Heap)
  | .v (.ptr i o) => some (.v (.ptr i o), H)
  | .v (.fn f c) => some (.v (.fn f c), H)
  | _ => none
theorem wops_nilCheck {x : Operand} : wops P q ops ({ dst, op := .nilCheck x, type := ty, pos, after, guard := none } :: r) i s H K = stepTo P q ops r i s dst H K (tnilCheck H (aeval s x)) := by
  rw [wops_op rfl]; rfl
theorem tnilCheck_ptr {j o : Nat} : tnilCheck H (.v (.ptr j o)) = some (.v (.ptr j o), H) := rfl
theorem tnilCheck_fn {f : FuncId} {c : List (Nat × Nat)} : tnilCheck H (.v (.fn f c)) = some (.v (.fn f c), H) := rfl

def tindexAddr (P : Program) (t : TypeId) (H : Heap) : TV → TV → Option (TV × Heap)
  | .v (.sl id off len esz), .v (.int _ n) =>
    match (telem P t).bind (tsz P) with
    | some sz => if sz = esz ∧ 0 ≤ n ∧ n < len then some (.v (.ptr id (off + n.toNat * esz)), H) else none
    | none => none
  | .v (.ptr id off), .v (.int _ n) =>
    match tarr P t with
    | some (len, e) => match tsz P e with
      | some sz => if 0 ≤ n ∧ n < len then some (.v (.ptr id (off + n.toNat * sz)), H) else none
      | none => none
    | none => none
  | _, _ => none
theorem wops_indexAddr {t : TypeId} {x y : Operand} : wops P q ops ({ dst, op := .indexAddr t x y, type := ty, pos, after, guard := none } :: r) i s H K = stepTo P q ops r i s dst H K (tindexAddr P t H (aeval s x) (aeval s y)) := by
  rw [wops_op rfl]; rfl
theorem tindexAddr_arr {t e : TypeId} {id off N sz : Nat} {k : IntKind} {n : Int} (h1 : tarr P t = some (N, e)) (h1' : tsz P e = some sz) (h2 : 0 ≤ n) (h3 : n < N) : tindexAddr P t H (.v (.ptr id off)) (.v (.int k n)) = some (.v (.ptr id (off + n.toNat * sz)), H) := by
  simp [tindexAddr, h1, h1', h2, h3]
theorem tindexAddr_sl {t : TypeId} {id off len esz : Nat} {k : IntKind} {n : Int} (h1 : (telem P t).bind (tsz P) = some esz) (h2 : 0 ≤ n) (h3 : n < len) : tindexAddr P t H (.v (.sl id off len esz)) (.v (.int k n)) = some (.v (.ptr id (off + n.toNat * esz)), H) := by
  simp [tindexAddr, h1, h2, h3]

def tindex (P : Program) (t : TypeId) (H : Heap) : TV → TV → Option (TV × Heap)
  | .v (.str s), .v (.int _ n) => if tstr P t = true ∧ 0 ≤ n then (s[n.toNat]?).map fun b => (.v (.int .u8 b.toNat), H) else none
  | _, _ => none
theorem wops_index {t : TypeId} {x y : Operand} : wops P q ops ({ dst, op := .index t x y, type := ty, pos, after, guard := none } :: r) i s H K = stepTo P q ops r i s dst H K (tindex P t H (aeval s x) (aeval s y)) := by
  rw [wops_op rfl]; rfl
theorem tindex_str {t : TypeId} {x : ByteArray} {k : IntKind} {n : Int} {b : UInt8} (h1 : tstr P t = true) (h2 : 0 ≤ n) (h3 : x[n.toNat]? = some b) : tindex P t H (.v (.str x)) (.v (.int k n)) = some (.v (.int .u8 b.toNat), H) := by
  simp [tindex, h1, h2, h3]

def textract (H : Heap) (i : Nat) : TV → Option (TV × Heap)
  | .t vs => (vs[i]?).map fun z => (z.up, H)
  | _ => none
theorem wops_extract {j : Nat} {x : Operand} : wops P q ops ({ dst, op := .extract x j, type := ty, pos, after, guard := none } :: r) i s H K = stepTo P q ops r i s dst H K (textract H j (aeval s x)) := by
  rw [wops_op rfl]; rfl
theorem textract_0 {a : TV0} {l : List TV0} : textract H 0 (.t (a :: l)) = some (a.up, H) := rfl
theorem textract_1 {a b : TV0} {l : List TV0} : textract H 1 (.t (a :: b :: l)) = some (b.up, H) := rfl
theorem textract_2 {a b c : TV0} {l : List TV0} : textract H 2 (.t (a :: b :: c :: l)) = some (c.up, H) := rfl
theorem textract_3 {a b c d : TV0} {l : List TV0} : textract H 3 (.t (a :: b :: c :: d :: l)) = some (d.up, H) := rfl
theorem up_v (x : AV) : (TV0.v x).up = .v x := rfl
theorem up_g (x : List AV) : (TV0.g x).up = .g x := rfl

def tfieldAddr (P : Program) (st : TypeId) (f : Nat) (H : Heap) : TV → Option (TV × Heap)
  | .v (.ptr id off) =>
    match (tfields P st).bind (·[f]?) with
    | some fd => if (tsz P fd.type).any (0 < ·) then some (.v (.ptr id (off + fd.offset)), H) else none
    | none => none
  | _ => none
theorem wops_fieldAddr {st : TypeId} {f : Nat} {x : Operand} : wops P q ops ({ dst, op := .fieldAddr st x f, type := ty, pos, after, guard := none } :: r) i s H K = stepTo P q ops r i s dst H K (tfieldAddr P st f H (aeval s x)) := by
  rw [wops_op rfl]
  congr 1
  simp only [astep, tfieldAddr]
  cases aeval s x with
  | v x => cases x <;> first | rfl | (cases (tfields P st).bind (·[f]?) <;> rfl)
  | g c => rfl
  | t v => rfl
/-- A field: its place, its cells, whether it is an aggregate. -/
def tfield (P : Program) (st : TypeId) (f : Nat) : Option (Nat × Nat × Bool) :=
  match (tfields P st).bind (·[f]?) with
  | some fd => match tsz P fd.type, tagg P fd.type with
    | some n, some b => if 0 < n then some (fd.offset, n, b) else none
    | _, _ => none
  | none => none
theorem tfieldAddr_some {st : TypeId} {f o n : Nat} {b : Bool} {id off : Nat} (h : tfield P st f = some (o, n, b)) : tfieldAddr P st f H (.v (.ptr id off)) = some (.v (.ptr id (off + o)), H) := by
  unfold tfield at h
  cases hf : (tfields P st).bind (·[f]?) with
  | none => rw [hf] at h; cases h
  | some fd =>
    rw [hf] at h
    simp only at h
    split at h
    · rename_i n' b' hn _
      split at h
      · rename_i hpos
        cases h
        simp [tfieldAddr, hf, hn, hpos]
      · cases h
    · cases h

def tfieldV (P : Program) (t : TypeId) (f : Nat) (H : Heap) : TV → Option (TV × Heap)
  | .g cs =>
    match (tfields P t).bind (·[f]?) with
    | some fd => match tagg P fd.type with
      | some true => match tsz P fd.type with
        | some n => if fd.offset + n ≤ cs.length then some (.g ((cs.drop fd.offset).take n), H) else none
        | none => none
      | some false => (cs[fd.offset]?).map fun c => (.v c, H)
      | none => none
    | none => none
  | _ => none
theorem wops_field {t : TypeId} {f : Nat} {x : Operand} : wops P q ops ({ dst, op := .field t x f, type := ty, pos, after, guard := none } :: r) i s H K = stepTo P q ops r i s dst H K (tfieldV P t f H (aeval s x)) := by
  rw [wops_op rfl]
  congr 1
  simp only [astep, tfieldV]
  cases aeval s x with
  | v x => rfl
  | g c => cases (tfields P t).bind (·[f]?) <;> rfl
  | t v => rfl
theorem tfieldV_cell {t : TypeId} {f o n : Nat} {cs : List AV} {c : AV} (h : tfield P t f = some (o, n, false)) (hc : cs[o]? = some c) : tfieldV P t f H (.g cs) = some (.v c, H) := by
  unfold tfield at h
  cases hf : (tfields P t).bind (·[f]?) with
  | none => rw [hf] at h; cases h
  | some fd =>
    rw [hf] at h
    simp only at h
    split at h
    · rename_i n' b' hn hb
      split at h
      · cases h; simp [tfieldV, hf, hb, hc]
      · cases h
    · cases h
theorem tfieldV_agg {t : TypeId} {f o n : Nat} {cs : List AV} (h : tfield P t f = some (o, n, true)) (hc : o + n ≤ cs.length) : tfieldV P t f H (.g cs) = some (.g ((cs.drop o).take n), H) := by
  unfold tfield at h
  cases hf : (tfields P t).bind (·[f]?) with
  | none => rw [hf] at h; cases h
  | some fd =>
    rw [hf] at h
    simp only at h
    split at h
    · rename_i n' b' hn hb
      split at h
      · cases h; simp [tfieldV, hf, hb, hn, hc]
      · cases h
    · cases h

theorem tfieldV_c {t : TypeId} {f o n : Nat} (h : tfield P t f = some (o, n, false)) (cs : List AV) : tfieldV P t f H (.g cs) = (cs[o]?).map fun c => (.v c, H) := by
  unfold tfield at h
  cases hf : (tfields P t).bind (·[f]?) with
  | none => rw [hf] at h; cases h
  | some fd =>
    rw [hf] at h
    simp only at h
    split at h
    · rename_i n' b' hn hb
      split at h
      · cases h; simp [tfieldV, hf, hb]
      · cases h
    · cases h
theorem tfieldV_a {t : TypeId} {f o n : Nat} (h : tfield P t f = some (o, n, true)) (cs : List AV) : tfieldV P t f H (.g cs) = if o + n ≤ cs.length then some (.g ((cs.drop o).take n), H) else none := by
  unfold tfield at h
  cases hf : (tfields P t).bind (·[f]?) with
  | none => rw [hf] at h; cases h
  | some fd =>
    rw [hf] at h
    simp only at h
    split at h
    · rename_i n' b' hn hb
      split at h
      · cases h; simp [tfieldV, hf, hb, hn]
      · cases h
    · cases h

def tslice (P : Program) (t : TypeId) (H : Heap) (lo hi : Option (Option Int)) : TV → Option (TV × Heap)
  | .v (.str s) => match lo, hi with
    | some l, some h => if tstr P t then (slBounds s.size l h).map fun (a, b) => (.v (.str (s.extract a b)), H) else none
    | _, _ => none
  | .v (.sl id off len esz) => match lo, hi with
    | some l, some h => if (telem P t).bind (tsz P) = some esz then (slBounds len l h).map fun (a, b) => (.v (.sl id (off + a * esz) (b - a) esz), H) else none
    | _, _ => none
  | .v .nilsl => match lo, hi with
    | some l, some h => if ((telem P t).bind (tsz P)).isSome then (slBounds 0 l h).map fun _ => (.v .nilsl, H) else none
    | _, _ => none
  | .v (.ptr id off) => match lo, hi with
    | some l, some h =>
      match (tarr P t).bind (fun ne => (tsz P ne.2).map (fun sz => (ne.1, sz))), H.f id with
      | some (n, sz), .own cs => if off + n * sz ≤ cs.length then (slBounds n l h).map fun (a, b) => (.v (.sl id (off + a * sz) (b - a) sz), H) else none
      | _, _ => none
    | _, _ => none
  | _ => none
theorem wops_slice {t : TypeId} {x : Operand} {lo hi : Option Operand} : wops P q ops ({ dst, op := .slice t x lo hi none, type := ty, pos, after, guard := none } :: r) i s H K =
    stepTo P q ops r i s dst H K (tslice P t H (optAV (lo.map (aeval s))) (optAV (hi.map (aeval s))) (aeval s x)) := by
  rw [wops_op rfl]
  congr 1
  simp only [astep, tslice]
  cases aeval s x with
  | v x => cases x <;> first | rfl | (cases optAV (lo.map (aeval s)) <;> cases optAV (hi.map (aeval s)) <;> rfl)
  | g c => rfl
  | t v => rfl
theorem optAV_none : optAV none = some none := rfl
theorem optAV_int {k : IntKind} {n : Int} : optAV (some (.v (.int k n))) = some (some n) := rfl
theorem tslice_sl {t : TypeId} {id off len esz : Nat} {l h : Option Int} {a b : Nat} (h1 : (telem P t).bind (tsz P) = some esz) (h2 : slBounds len l h = some (a, b)) :
    tslice P t H (some l) (some h) (.v (.sl id off len esz)) = some (.v (.sl id (off + a * esz) (b - a) esz), H) := by simp [tslice, h1, h2]
theorem tslice_arr {t e : TypeId} {id off n sz : Nat} {cs : List AV} {l h : Option Int} {a b : Nat} (h1 : tarr P t = some (n, e)) (h1' : tsz P e = some sz) (ho : H.f id = .own cs) (hc : off + n * sz ≤ cs.length) (h2 : slBounds n l h = some (a, b)) :
    tslice P t H (some l) (some h) (.v (.ptr id off)) = some (.v (.sl id (off + a * sz) (b - a) sz), H) := by simp [tslice, h1, h1', ho, hc, h2]
theorem tslice_str {t : TypeId} {x : ByteArray} {l h : Option Int} {a b : Nat} (h1 : tstr P t = true) (h2 : slBounds x.size l h = some (a, b)) :
    tslice P t H (some l) (some h) (.v (.str x)) = some (.v (.str (x.extract a b)), H) := by simp [tslice, h1, h2]

theorem wops_builtin {b : Builtin} {as : List Operand} {tys : Array TypeId} : wops P q ops ({ dst, op := .call { callee := .builtin b, args := as.toArray, argTypes := tys }, type := ty, pos, after, guard := none } :: r) i s H K =
    stepTo P q ops r i s dst H K (abuiltin P b tys (as.map (aeval s)) H) := by
  rw [wops_op rfl]; rfl
theorem alen_str {t : TypeId} {l : List TypeId} {x : ByteArray} (h : tstr P t = true) : abuiltin P .len (t :: l).toArray [.v (.str x)] H = some (.v (.int .i64 x.size), H) := by simp [abuiltin, h]
theorem alen_nil {t : TypeId} {l : List TypeId} (h : (telem P t).isSome = true) : abuiltin P .len (t :: l).toArray [.v .nilsl] H = some (.v (.int .i64 0), H) := by simp [abuiltin, h]
theorem alen_sl {t : TypeId} {l : List TypeId} {id off n esz : Nat} (h : (telem P t).isSome = true) : abuiltin P .len (t :: l).toArray [.v (.sl id off n esz)] H = some (.v (.int .i64 n), H) := by simp [abuiltin, h]
/-- What an append asks of the types: the cells and bytes of an element. -/
def tapp (P : Program) (t0 t1 : TypeId) : Option (Nat × Nat) :=
  match telem P t0 with
  | some e => match tsz P e, tbytes P e, tzero P e with
    | some esz, some bytes, some z => if z.length = esz ∧ tint P t1 = none ∧ (P.underlying t1).isSome then some (esz, bytes) else none
    | _, _, _ => none
  | none => none
theorem aappend_to {t0 t1 : TypeId} {x y : AV} {esz bytes : Nat} (h : tapp P t0 t1 = some (esz, bytes)) : abuiltin P .append [t0, t1].toArray [.v x, .v y] H = aappend H esz bytes x y := by
  unfold tapp at h
  simp only [abuiltin, List.getElem?_toArray, List.getElem?_cons_zero, List.getElem?_cons_succ]
  split at h
  · rename_i e he
    split at h
    · rename_i a b z h1 h2 h3
      split at h
      · rename_i hc; cases h; simp [he, h1, h2, h3, hc]
      · cases h
    · cases h
  · cases h
theorem aappend_sl {esz bytes id off len n : Nat} {x : AV} {cs new : List AV} (h1 : H.f id = .own cs) (h2 : off + len * esz = cs.length) (h3 : cellsOfArg H esz x = some (n, new)) (h4 : (len + n) * bytes ≤ 2 ^ 40) (h5 : bytes ≠ 0) :
    aappend H esz bytes (.sl id off len esz) x = some (.v (.sl H.n 0 (len + n) esz), (H.put id .gone).alloc (.own (cs.drop off ++ new))) := by
  simp only [aappend, h5, if_false, h3, h1, h2, true_and, h4, if_true]
theorem aappend_nil {esz bytes n : Nat} {x : AV} {new : List AV} (h3 : cellsOfArg H esz x = some (n, new)) (h0 : n ≠ 0) (h4 : n * bytes ≤ 2 ^ 40) (h5 : bytes ≠ 0) :
    aappend H esz bytes .nilsl x = some (.v (.sl H.n 0 n esz), H.alloc (.own new)) := by
  simp only [aappend, h5, if_false, h3, h0, h4, if_true]
theorem arg_sl {esz id off len : Nat} {cs : List AV} (h : rdCells H id off (len * esz) = some cs) : cellsOfArg H esz (.sl id off len esz) = some (len, cs) := by simp [cellsOfArg, h]
theorem arg_nil {esz : Nat} : cellsOfArg H esz .nilsl = some (0, []) := rfl
theorem arg_str {x : ByteArray} : cellsOfArg H 1 (.str x) = some (x.size, x.data.toList.map fun b => .int .u8 b.toNat) := rfl

theorem splice_zero (cs new : List AV) : splice cs new 0 = new ++ cs.drop new.length := by simp [splice]
theorem splice_cons (c : AV) (cs new : List AV) (n : Nat) : splice (c :: cs) new (n + 1) = c :: splice cs new n := by
  simp only [splice, List.take_succ_cons, List.cons_append, Nat.add_right_comm, List.drop_succ_cons]
def partsT : List (Nat × TV) → Option (List (Nat × List AV))
  | [] => some []
  | (i, x) :: r =>
    match x.cells, partsT r with
    | some c, some rs => some ((i, c) :: rs)
    | _, _ => none
theorem partsT_eq (ev : Operand → TV) : ∀ ps : List (Nat × Operand), partsOf ev ps = partsT (ps.map fun p => (p.1, ev p.2))
  | [] => rfl
  | (i, x) :: r => by
    simp only [partsOf, List.map_cons, partsT, partsT_eq ev r]
    rfl
def tbs (P : Program) (t : TypeId) (len : Nat) (H : Heap) (ps : List (Nat × TV)) : Option (TV × Heap) :=
  match telem P t with
  | some e => match tsz P e, tzero P e, partsT ps with
    | some n, some z, some ps =>
      if len * n ≤ 2 ^ 24 ∧ z.length = n ∧ ps.all (fun p => p.2.all AV.stor) = true then
        (fillParts (fun i => some (i * n, n)) (zerosOf z len) ps).bind fun c => if c.all AV.stor then some (.v (.sl H.n 0 len n), H.alloc (.own c)) else none
      else none
    | _, _, _ => none
  | none => none
theorem wops_buildSlice {t : TypeId} {len : Nat} {ps : List (Nat × Operand)} : wops P q ops ({ dst, op := .buildSlice t len ps.toArray, type := ty, pos, after, guard := none } :: r) i s H K =
    stepTo P q ops r i s dst H K (tbs P t len H (ps.map fun p => (p.1, aeval s p.2))) := by
  rw [wops_op rfl]
  congr 1
  simp only [astep, tbs, partsT_eq]
  rfl
theorem tbs_0 {t e : TypeId} {n : Nat} {z : List AV} {H : Heap} (h1 : telem P t = some e) (h2 : tsz P e = some n) (h3 : tzero P e = some z) (h4 : z.length = n) : tbs P t 0 H [] = some (.v (.sl H.n 0 0 n), H.alloc (.own [])) := by
  simp [tbs, h1, h2, h3, h4, partsT, fillParts, zerosOf]
theorem tbs_1 {t e : TypeId} {z : AV} {H : Heap} (h1 : telem P t = some e) (h2 : tsz P e = some 1) (h3 : tzero P e = some [z]) (a : AV) (ha : a.stor = true) : tbs P t 1 H [(0, .v a)] = some (.v (.sl H.n 0 1 1), H.alloc (.own [a])) := by
  simp [tbs, h1, h2, h3, partsT, TV.cells, fillParts, zerosOf, splice, ha]
theorem tbs_2 {t e : TypeId} {z : AV} {H : Heap} (h1 : telem P t = some e) (h2 : tsz P e = some 1) (h3 : tzero P e = some [z]) (a b : AV) (ha : a.stor = true) (hb : b.stor = true) :
    tbs P t 2 H [(0, .v a), (1, .v b)] = some (.v (.sl H.n 0 2 1), H.alloc (.own [a, b])) := by
  simp [tbs, h1, h2, h3, partsT, TV.cells, fillParts, zerosOf, splice, ha, hb]
theorem tbs_g {t e : TypeId} {z c : List AV} {n : Nat} {H : Heap} (h1 : telem P t = some e) (h2 : tsz P e = some n) (h3 : tzero P e = some z) (h4 : z.length = n) (h5 : n ≤ 2 ^ 24) (hc : c.length = n) (ha : c.all AV.stor = true) :
    tbs P t 1 H [(0, .g c)] = some (.v (.sl H.n 0 1 n), H.alloc (.own c)) := by
  have e1 : splice (z ++ []) c 0 = c := by rw [splice_zero, hc, List.append_nil, ← h4, List.drop_length, List.append_nil]
  simp only [tbs, h1, h2, h3, partsT, TV.cells, Nat.one_mul, h5, h4, List.all_cons, List.all_nil, ha, Bool.and_true, and_self, if_true, fillParts, zerosOf, Nat.zero_mul, hc, true_and, Nat.zero_add, List.append_nil, Nat.le_refl, Option.bind_some]
  rw [List.append_nil] at e1
  rw [e1, ha]
  rfl
theorem wops_build {t : TypeId} {ps : List (Nat × Operand)} : wops P q ops ({ dst, op := .build t ps.toArray, type := ty, pos, after, guard := none } :: r) i s H K =
    stepTo P q ops r i s dst H K (astep P (aeval s) (.build t ps.toArray) H) := wops_op rfl
def tmake (P : Program) (t : TypeId) (H : Heap) (x y : TV) : Option (TV × Heap) :=
  match x, y, telem P t with
  | .v (.int .i64 n), .v (.int .i64 m), some e =>
    match tsz P e, tbytes P e, tzero P e with
    | some sz, some by_, some z =>
      if 0 ≤ n ∧ n ≤ m ∧ m ≤ 2 ^ 40 ∧ m * by_ ≤ 2 ^ 40 ∧ z.length = sz ∧ z.all AV.stor = true then some (.v (.sl H.n 0 n.toNat sz), H.alloc (.own (zerosOf z n.toNat))) else none
    | _, _, _ => none
  | _, _, _ => none
theorem wops_makeSlice {t : TypeId} {l c : Operand} : wops P q ops ({ dst, op := .makeSlice t l c, type := ty, pos, after, guard := none } :: r) i s H K =
    stepTo P q ops r i s dst H K (tmake P t H (aeval s l) (aeval s c)) := wops_op rfl
theorem mk_ {t e : TypeId} {sz bys : Nat} {z : List AV} {H : Heap} (h1 : telem P t = some e) (h2 : tsz P e = some sz) (h3 : tbytes P e = some bys) (h4 : tzero P e = some z) (h5 : z.length = sz) (h6 : z.all AV.stor = true) (n m : Int)
    (h7 : 0 ≤ n) (h8 : n ≤ m) (h9 : m ≤ 2 ^ 40) (h10 : m * bys ≤ 2 ^ 40) :
    tmake P t H (.v (.int .i64 n)) (.v (.int .i64 m)) = some (.v (.sl H.n 0 n.toNat sz), H.alloc (.own (zerosOf z n.toNat))) := by
  simp only [tmake, h1, h2, h3, h4, h5, h6, h7, h8, h9, h10, and_self, if_true]
def tbox (P : Program) (t : TypeId) (H : Heap) (x : TV) : Option (TV × Heap) :=
  x.cells.bind fun c => if (P.info? t).isSome = true ∧ c.all AV.stor = true then some (.v (.ptr H.n 0), H.alloc (.own c)) else none
theorem wops_box {t : TypeId} {x : Operand} : wops P q ops ({ dst, op := .box t x, type := ty, pos, after, guard := none } :: r) i s H K =
    stepTo P q ops r i s dst H K (tbox P t H (aeval s x)) := wops_op rfl
theorem bxg_ {t : TypeId} {H : Heap} (h : (P.info? t).isSome = true) (c : List AV) : tbox P t H (.g c) = if c.all AV.stor = true then some (.v (.ptr H.n 0), H.alloc (.own c)) else none := by
  simp only [tbox, TV.cells, Option.bind_some, h, true_and]
theorem bxv_ {t : TypeId} {H : Heap} (h : (P.info? t).isSome = true) (c : AV) : tbox P t H (.v c) = if c.stor = true then some (.v (.ptr H.n 0), H.alloc (.own [c])) else none := by
  simp only [tbox, TV.cells, Option.bind_some, h, true_and, List.all_cons, List.all_nil, Bool.and_true]
def talloc (P : Program) (t : TypeId) (H : Heap) : Option (TV × Heap) :=
  (tzero P t).bind fun z => if z.all AV.stor then some (.v (.ptr H.n 0), H.alloc (.own z)) else none
theorem wops_alloc {t : TypeId} : wops P q ops ({ dst, op := .alloc t, type := ty, pos, after, guard := none } :: r) i s H K =
    stepTo P q ops r i s dst H K (talloc P t H) := wops_op rfl
theorem al_ {t : TypeId} {z : List AV} {H : Heap} (h : tzero P t = some z) (h2 : z.all AV.stor = true) : talloc P t H = some (.v (.ptr H.n 0), H.alloc (.own z)) := by simp only [talloc, h, Option.bind_some, h2, if_true]
theorem stor_int (k : IntKind) (n : Int) : (AV.int k n).stor = true := by simp [AV.stor]
theorem stor_flt (k : FloatKind) (n : Nat) : (AV.flt k n).stor = true := by simp [AV.stor]
theorem stor_bool (b : Bool) : (AV.bool b).stor = true := by simp [AV.stor]
theorem stor_str (b : ByteArray) : (AV.str b).stor = true := by simp [AV.stor]
theorem stor_nilsl : AV.nilsl.stor = true := by simp [AV.stor]
theorem stor_sl (a b c d : Nat) : (AV.sl a b c d).stor = true := by simp [AV.stor]
theorem stor_ptr (a b : Nat) : (AV.ptr a b).stor = true := by simp [AV.stor]
end

/-! ### memory -/
theorem alloc_n (H : Heap) (b : Blk) : (H.alloc b).n = H.n + 1 := rfl
theorem alloc_f (H : Heap) (b : Blk) (j : Nat) : (H.alloc b).f j = if j = H.n then b else H.f j := rfl
theorem put_n (H : Heap) (i : Nat) (b : Blk) : (H.put i b).n = H.n := rfl
theorem put_f (H : Heap) (i : Nat) (b : Blk) (j : Nat) : (H.put i b).f j = if j = i then b else H.f j := rfl
theorem rdCell_eq (H : Heap) (id off : Nat) : rdCell H id off = (H.f id).cs[off]? := rfl
theorem cs_own (cs : List AV) : (Blk.own cs).cs = cs := rfl
theorem cs_ro (cs : List AV) : (Blk.ro cs).cs = cs := rfl
theorem cs_gone : Blk.gone.cs = [] := rfl
theorem rdCells_eq (H : Heap) (id off n : Nat) : rdCells H id off n = if off + n ≤ (H.f id).cs.length then some (((H.f id).cs.drop off).take n) else none := rfl
def wrB (H : Heap) (id off : Nat) (new : List AV) : Blk → Option Heap
  | .own cs => if off + new.length ≤ cs.length ∧ new.all AV.stor = true then some (H.put id (.own (splice cs new off))) else none
  | _ => none
theorem wrCells_eq (H : Heap) (id off : Nat) (new : List AV) : wrCells H id off new = wrB H id off new (H.f id) := by
  unfold wrCells wrB; cases H.f id <;> rfl
theorem wrB_own (H : Heap) (id off : Nat) (new cs : List AV) : wrB H id off new (.own cs) = if off + new.length ≤ cs.length ∧ new.all AV.stor = true then some (H.put id (.own (splice cs new off))) else none := rfl
theorem wrB_cons (H : Heap) (id off : Nat) (new cs : List AV) (c : AV) : wrB H id off new (.own (c :: cs)) = if off + new.length ≤ (c :: cs).length ∧ new.all AV.stor = true then some (H.put id (.own (splice (c :: cs) new off))) else none := rfl
theorem wrCells_own {H : Heap} {id off : Nat} {cs new : List AV} (h : H.f id = .own cs) (h1 : off + new.length ≤ cs.length) (h2 : new.all AV.stor = true) : wrCells H id off new = some (H.put id (.own (splice cs new off))) := by
  simp [wrCells, h, h1, h2]
theorem put_put (H : Heap) (i : Nat) (a b : Blk) : (H.put i a).put i b = H.put i b := by
  simp only [Heap.put]
  congr 1
  funext j
  simp only [upd]
  split <;> rfl

section
variable {P : Program} {H : Heap}
theorem ld_cell {t : TypeId} (h1 : tagg P t = some false) (id off : Nat) : tload P t H (.v (.ptr id off)) = (rdCell H id off).map fun c => (.v c, H) := by simp [tload, h1]
theorem ld_agg {t : TypeId} {n : Nat} (h1 : tagg P t = some true) (h2 : tsz P t = some n) (id off : Nat) : tload P t H (.v (.ptr id off)) = (rdCells H id off n).map fun c => (.g c, H) := by simp [tload, h1, h2]
theorem st_cell {t : TypeId} (h : tsz P t = some 1) (id off : Nat) (a : AV) : tstore P t H (.v (.ptr id off)) (.v a) = (wrCells H id off [a]).map fun H' => (.v .und, H') := by simp [tstore, TV.cells, h]
theorem st_agg {t : TypeId} {n : Nat} (h : tsz P t = some n) (id off : Nat) (a : List AV) (ha : a.length = n) : tstore P t H (.v (.ptr id off)) (.g a) = (wrCells H id off a).map fun H' => (.v .und, H') := by simp [tstore, TV.cells, h, ha]
theorem fa_ {st : TypeId} {f o n : Nat} {b : Bool} (h : tfield P st f = some (o, n, b)) (id off : Nat) : tfieldAddr P st f H (.v (.ptr id off)) = some (.v (.ptr id (off + o)), H) := tfieldAddr_some h
theorem ia_ {t : TypeId} {esz : Nat} (h1 : (telem P t).bind (tsz P) = some esz) (id off len : Nat) (k : IntKind) (n : Int) (h2 : 0 ≤ n) (h3 : n < len) : tindexAddr P t H (.v (.sl id off len esz)) (.v (.int k n)) = some (.v (.ptr id (off + n.toNat * esz)), H) := tindexAddr_sl h1 h2 h3
end

/-! ### small equations of the walk -/
theorem ne_add {i n : Nat} (h : i < n) (k : Nat) : (i = n + k) = False := eq_false (by omega)
theorem ne_self {i n : Nat} (h : i < n) : (i = n) = False := eq_false (by omega)
theorem aresults_nil (P : Program) (s : Nat → TV) (H : Heap) : aresults P s H [] = some [] := rfl
theorem aresults_tmp (P : Program) (s : Nat → TV) (H : Heap) (t : Nat) (r : List ResultVar) : aresults P s H (.tmp t :: r) = (aresults P s H r).map (s t :: ·) := rfl
theorem aresults_cell (P : Program) (s : Nat → TV) (H : Heap) (a : Nat) (t : TypeId) (r : List ResultVar) : aresults P s H (.cell a t :: r) = (tload P t H (s a)).bind fun v => (aresults P s H r).map (v.1 :: ·) := by
  simp only [aresults, tload]
  cases s a with
  | v x =>
    cases x <;> try rfl
    rename_i id off
    simp only
    cases tagg P t with
    | none => rfl
    | some b =>
      cases b with
      | false => cases rdCell H id off <;> rfl
      | true => cases tsz P t with
        | none => rfl
        | some n => simp only [Option.bind_some]; cases rdCells H id off n <;> rfl
  | g c => rfl
  | t v => rfl

attribute [go_sem] Fin_seq Fin_ret Fin_nil Fin_skip Fin_label Fin_block Fin_exit exitC_some exitTo_here exitTo_code exitTo_loop Fin_inBlock Fin_region FinK_app Fin_cond condC_true condC_false
  wops_nil wops_move wops_assign wops_pick tpick_bool wops_bin wops_un wops_guard wops_call wops_conv wops_load wops_store wops_nilCheck wops_indexAddr wops_index wops_extract wops_fieldAddr wops_field wops_slice wops_builtin
  wops_buildSlice wops_build wops_makeSlice wops_box wops_alloc
  stepV_some stepTo_same stepTo_seq stor_int stor_flt stor_bool stor_str stor_nilsl stor_sl stor_ptr
  tbin_add tbin_sub tbin_mul tbin_and tbin_or tbin_xor tbin_andNot tbin_eql tbin_neq tbin_lss tbin_leq tbin_gtr tbin_geq tbin_fadd tbin_fsub tbin_fmul tbin_fquo tbin_feql tbin_fneq tbin_flss tbin_fleq tbin_fgtr tbin_fgeq tbin_seql tbin_sneq BEq.rfl bne_self_eq_false
  tun_neg tun_fneg tun_not textract_0 textract_1 textract_2 textract_3 up_v up_g tnilCheck_ptr tnilCheck_fn optAV_none optAV_int
  aeval_tmp aeval_const aeval_func aput_some aput_none upd_app init_zero init_succ init_nil ofConst_bool ofConst_int ofConst_float ofConst_string ofConst_nilslice ofConst_nilptr
  rdCells_eq wrCells_eq wrB_cons splice_zero splice_cons List.length_cons List.length_nil List.all_cons List.all_nil List.drop_zero List.drop_succ_cons List.take_zero List.take_succ_cons List.take_nil List.drop_nil List.cons_append List.nil_append Nat.add_assoc Nat.left_eq_add Nat.add_eq_left and_self true_and and_true Nat.zero_add Nat.add_zero
  aresults_nil aresults_tmp aresults_cell packTV
  ayield guardC alloc_n alloc_f put_n put_f rdCell_eq cs_own cs_ro cs_gone
  List.getElem?_cons_zero List.getElem?_cons_succ Option.bind_some List.map_cons List.map_nil ite_true ite_false decide_true decide_false Bool.not_true Bool.not_false Bool.true_and Bool.false_and Bool.and_true Bool.and_false Bool.true_or Bool.false_or Bool.or_true Bool.or_false Option.map_some Option.map_none

end Go.Ab
