/-
  What the plain types of this program are, as rewrite rules. Printed by a program of the session; nothing here is trusted.
-/
import Derived.Test.YtdmoagnkdkeeeaaProg
import Derived.Test.YtdmoagnkdkeeeaaAbN
import Derived.KernelRfl
namespace Go.Proofs.Ytdmoagnkdkeeeaa.F
open Go Go.Ab Go.Proofs
set_option maxRecDepth 100000
set_option linter.unusedVariables false
set_option linter.unusedSimpArgs false
section
variable (H : Heap) (id off : Nat)
theorem hm : Try.prog.follows .mixedOrders = true := by kernel_rfl
theorem be4 (c d : Bool) : tbin Try.prog .eql 4 (.v (.bool c)) (.v (.bool d)) = some (.v (.bool (c == d))) := tbin_beql (by kernel_rfl)
theorem bn4 (c d : Bool) : tbin Try.prog .neq 4 (.v (.bool c)) (.v (.bool d)) = some (.v (.bool (!(c == d)))) := tbin_bneq (by kernel_rfl)
theorem ld2 : tload Try.prog 2 H (.v (.ptr id off)) = (rdCell H id off).map fun c => (.v c, H) := ld_cell (by kernel_rfl) id off
theorem st2 (a : AV) : tstore Try.prog 2 H (.v (.ptr id off)) (.v a) = (wrCells H id off [a]).map fun H' => (.v .und, H') := st_cell (by kernel_rfl) id off a
theorem bx2 (c : AV) : tbox Try.prog 2 H (.v c) = if c.stor = true then some (.v (.ptr H.n 0), H.alloc (.own [c])) else none := bxv_ (by kernel_rfl) c
theorem al2 : talloc Try.prog 2 H = some (.v (.ptr H.n 0), H.alloc (.own [.int .i64 0])) := al_ (by kernel_rfl) rfl
theorem ld3 : tload Try.prog 3 H (.v (.ptr id off)) = (rdCell H id off).map fun c => (.v c, H) := ld_cell (by kernel_rfl) id off
theorem st3 (a : AV) : tstore Try.prog 3 H (.v (.ptr id off)) (.v a) = (wrCells H id off [a]).map fun H' => (.v .und, H') := st_cell (by kernel_rfl) id off a
theorem bx3 (c : AV) : tbox Try.prog 3 H (.v c) = if c.stor = true then some (.v (.ptr H.n 0), H.alloc (.own [c])) else none := bxv_ (by kernel_rfl) c
theorem al3 : talloc Try.prog 3 H = some (.v (.ptr H.n 0), H.alloc (.own [.int .i64 0])) := al_ (by kernel_rfl) rfl
theorem ld4 : tload Try.prog 4 H (.v (.ptr id off)) = (rdCell H id off).map fun c => (.v c, H) := ld_cell (by kernel_rfl) id off
theorem st4 (a : AV) : tstore Try.prog 4 H (.v (.ptr id off)) (.v a) = (wrCells H id off [a]).map fun H' => (.v .und, H') := st_cell (by kernel_rfl) id off a
theorem bx4 (c : AV) : tbox Try.prog 4 H (.v c) = if c.stor = true then some (.v (.ptr H.n 0), H.alloc (.own [c])) else none := bxv_ (by kernel_rfl) c
theorem al4 : talloc Try.prog 4 H = some (.v (.ptr H.n 0), H.alloc (.own [.bool false])) := al_ (by kernel_rfl) rfl
theorem ld5 : tload Try.prog 5 H (.v (.ptr id off)) = (rdCell H id off).map fun c => (.v c, H) := ld_cell (by kernel_rfl) id off
theorem st5 (a : AV) : tstore Try.prog 5 H (.v (.ptr id off)) (.v a) = (wrCells H id off [a]).map fun H' => (.v .und, H') := st_cell (by kernel_rfl) id off a
theorem bx5 (c : AV) : tbox Try.prog 5 H (.v c) = if c.stor = true then some (.v (.ptr H.n 0), H.alloc (.own [c])) else none := bxv_ (by kernel_rfl) c
theorem al5 : talloc Try.prog 5 H = some (.v (.ptr H.n 0), H.alloc (.own [.int .u8 0])) := al_ (by kernel_rfl) rfl
theorem ld9 : tload Try.prog 9 H (.v (.ptr id off)) = (rdCell H id off).map fun c => (.v c, H) := ld_cell (by kernel_rfl) id off
theorem st9 (a : AV) : tstore Try.prog 9 H (.v (.ptr id off)) (.v a) = (wrCells H id off [a]).map fun H' => (.v .und, H') := st_cell (by kernel_rfl) id off a
theorem bx9 (c : AV) : tbox Try.prog 9 H (.v c) = if c.stor = true then some (.v (.ptr H.n 0), H.alloc (.own [c])) else none := bxv_ (by kernel_rfl) c
theorem al9 : talloc Try.prog 9 H = some (.v (.ptr H.n 0), H.alloc (.own [.str ByteArray.empty])) := al_ (by kernel_rfl) rfl
theorem len9 (x : ByteArray) : abuiltin Try.prog .len [9].toArray [.v (.str x)] H = some (.v (.int .i64 x.size), H) := alen_str (by kernel_rfl)
theorem ld12 : tload Try.prog 12 H (.v (.ptr id off)) = (rdCell H id off).map fun c => (.v c, H) := ld_cell (by kernel_rfl) id off
theorem st12 (a : AV) : tstore Try.prog 12 H (.v (.ptr id off)) (.v a) = (wrCells H id off [a]).map fun H' => (.v .und, H') := st_cell (by kernel_rfl) id off a
theorem bx12 (c : AV) : tbox Try.prog 12 H (.v c) = if c.stor = true then some (.v (.ptr H.n 0), H.alloc (.own [c])) else none := bxv_ (by kernel_rfl) c
theorem al12 : talloc Try.prog 12 H = some (.v (.ptr H.n 0), H.alloc (.own [.int .u64 0])) := al_ (by kernel_rfl) rfl
theorem ld21 : tload Try.prog 21 H (.v (.ptr id off)) = (rdCell H id off).map fun c => (.v c, H) := ld_cell (by kernel_rfl) id off
theorem st21 (a : AV) : tstore Try.prog 21 H (.v (.ptr id off)) (.v a) = (wrCells H id off [a]).map fun H' => (.v .und, H') := st_cell (by kernel_rfl) id off a
theorem bx21 (c : AV) : tbox Try.prog 21 H (.v c) = if c.stor = true then some (.v (.ptr H.n 0), H.alloc (.own [c])) else none := bxv_ (by kernel_rfl) c
theorem al21 : talloc Try.prog 21 H = some (.v (.ptr H.n 0), H.alloc (.own [.int .i32 0])) := al_ (by kernel_rfl) rfl
theorem ld22 : tload Try.prog 22 H (.v (.ptr id off)) = (rdCell H id off).map fun c => (.v c, H) := ld_cell (by kernel_rfl) id off
theorem st22 (a : AV) : tstore Try.prog 22 H (.v (.ptr id off)) (.v a) = (wrCells H id off [a]).map fun H' => (.v .und, H') := st_cell (by kernel_rfl) id off a
theorem bx22 (c : AV) : tbox Try.prog 22 H (.v c) = if c.stor = true then some (.v (.ptr H.n 0), H.alloc (.own [c])) else none := bxv_ (by kernel_rfl) c
theorem al22 : talloc Try.prog 22 H = some (.v (.ptr H.n 0), H.alloc (.own [.nilsl])) := al_ (by kernel_rfl) rfl
theorem len22 (len : Nat) : abuiltin Try.prog .len [22].toArray [.v (.sl id off len 2)] H = some (.v (.int .i64 len), H) := alen_sl (by kernel_rfl)
theorem lenn22 : abuiltin Try.prog .len [22].toArray [.v .nilsl] H = some (.v (.int .i64 0), H) := alen_nil (by kernel_rfl)
theorem ia22 (len : Nat) (k : IntKind) (n : Int) (h2 : 0 ≤ n) (h3 : n < len) : tindexAddr Try.prog 22 H (.v (.sl id off len 2)) (.v (.int k n)) = some (.v (.ptr id (off + n.toNat * 2)), H) := ia_ (by kernel_rfl) id off len k n h2 h3
theorem mk22 (n : Int) (h7 : 0 ≤ n) (h8 : n * 16 ≤ 2 ^ 40) : tmake Try.prog 22 H (.v (.int .i64 n)) (.v (.int .i64 n)) = some (.v (.sl H.n 0 n.toNat 2), H.alloc (.own (zerosOf [.int .i64 0, .flt .f32 0] n.toNat))) := mk_ (P := Try.prog) (t := 22) (H := H) (e := 43) (sz := 2) (bys := 16) (z := [.int .i64 0, .flt .f32 0]) (by kernel_rfl) (by kernel_rfl) (by kernel_rfl) (by kernel_rfl) rfl rfl n n h7 (Int.le_refl _) (by omega) h8
theorem ap22 (x y : AV) : abuiltin Try.prog .append [22, 22].toArray [.v x, .v y] H = aappend H 2 16 x y := aappend_to (by kernel_rfl)
theorem sl22 (len : Nat) (l h : Option Int) (a b : Nat) (h2 : slBounds len l h = some (a, b)) : tslice Try.prog 22 H (some l) (some h) (.v (.sl id off len 2)) = some (.v (.sl id (off + a * 2) (b - a) 2), H) := tslice_sl (by kernel_rfl) h2
theorem ld25 : tload Try.prog 25 H (.v (.ptr id off)) = (rdCell H id off).map fun c => (.v c, H) := ld_cell (by kernel_rfl) id off
theorem st25 (a : AV) : tstore Try.prog 25 H (.v (.ptr id off)) (.v a) = (wrCells H id off [a]).map fun H' => (.v .und, H') := st_cell (by kernel_rfl) id off a
theorem bx25 (c : AV) : tbox Try.prog 25 H (.v c) = if c.stor = true then some (.v (.ptr H.n 0), H.alloc (.own [c])) else none := bxv_ (by kernel_rfl) c
theorem al25 : talloc Try.prog 25 H = some (.v (.ptr H.n 0), H.alloc (.own [.nilsl])) := al_ (by kernel_rfl) rfl
theorem len25 (len : Nat) : abuiltin Try.prog .len [25].toArray [.v (.sl id off len 2)] H = some (.v (.int .i64 len), H) := alen_sl (by kernel_rfl)
theorem lenn25 : abuiltin Try.prog .len [25].toArray [.v .nilsl] H = some (.v (.int .i64 0), H) := alen_nil (by kernel_rfl)
theorem ia25 (len : Nat) (k : IntKind) (n : Int) (h2 : 0 ≤ n) (h3 : n < len) : tindexAddr Try.prog 25 H (.v (.sl id off len 2)) (.v (.int k n)) = some (.v (.ptr id (off + n.toNat * 2)), H) := ia_ (by kernel_rfl) id off len k n h2 h3
theorem mk25 (n : Int) (h7 : 0 ≤ n) (h8 : n * 16 ≤ 2 ^ 40) : tmake Try.prog 25 H (.v (.int .i64 n)) (.v (.int .i64 n)) = some (.v (.sl H.n 0 n.toNat 2), H.alloc (.own (zerosOf [.int .i64 0, .flt .f32 0] n.toNat))) := mk_ (P := Try.prog) (t := 25) (H := H) (e := 41) (sz := 2) (bys := 16) (z := [.int .i64 0, .flt .f32 0]) (by kernel_rfl) (by kernel_rfl) (by kernel_rfl) (by kernel_rfl) rfl rfl n n h7 (Int.le_refl _) (by omega) h8
theorem ap25 (x y : AV) : abuiltin Try.prog .append [25, 25].toArray [.v x, .v y] H = aappend H 2 16 x y := aappend_to (by kernel_rfl)
theorem sl25 (len : Nat) (l h : Option Int) (a b : Nat) (h2 : slBounds len l h = some (a, b)) : tslice Try.prog 25 H (some l) (some h) (.v (.sl id off len 2)) = some (.v (.sl id (off + a * 2) (b - a) 2), H) := tslice_sl (by kernel_rfl) h2
theorem ld29 : tload Try.prog 29 H (.v (.ptr id off)) = (rdCell H id off).map fun c => (.v c, H) := ld_cell (by kernel_rfl) id off
theorem st29 (a : AV) : tstore Try.prog 29 H (.v (.ptr id off)) (.v a) = (wrCells H id off [a]).map fun H' => (.v .und, H') := st_cell (by kernel_rfl) id off a
theorem bx29 (c : AV) : tbox Try.prog 29 H (.v c) = if c.stor = true then some (.v (.ptr H.n 0), H.alloc (.own [c])) else none := bxv_ (by kernel_rfl) c
theorem al29 : talloc Try.prog 29 H = some (.v (.ptr H.n 0), H.alloc (.own [.nilsl])) := al_ (by kernel_rfl) rfl
theorem len29 (len : Nat) : abuiltin Try.prog .len [29].toArray [.v (.sl id off len 1)] H = some (.v (.int .i64 len), H) := alen_sl (by kernel_rfl)
theorem lenn29 : abuiltin Try.prog .len [29].toArray [.v .nilsl] H = some (.v (.int .i64 0), H) := alen_nil (by kernel_rfl)
theorem ia29 (len : Nat) (k : IntKind) (n : Int) (h2 : 0 ≤ n) (h3 : n < len) : tindexAddr Try.prog 29 H (.v (.sl id off len 1)) (.v (.int k n)) = some (.v (.ptr id (off + n.toNat * 1)), H) := ia_ (by kernel_rfl) id off len k n h2 h3
theorem mk29 (n : Int) (h7 : 0 ≤ n) (h8 : n * 1 ≤ 2 ^ 40) : tmake Try.prog 29 H (.v (.int .i64 n)) (.v (.int .i64 n)) = some (.v (.sl H.n 0 n.toNat 1), H.alloc (.own (zerosOf [.bool false] n.toNat))) := mk_ (P := Try.prog) (t := 29) (H := H) (e := 4) (sz := 1) (bys := 1) (z := [.bool false]) (by kernel_rfl) (by kernel_rfl) (by kernel_rfl) (by kernel_rfl) rfl rfl n n h7 (Int.le_refl _) (by omega) h8
theorem ap29 (x y : AV) : abuiltin Try.prog .append [29, 29].toArray [.v x, .v y] H = aappend H 1 1 x y := aappend_to (by kernel_rfl)
theorem sl29 (len : Nat) (l h : Option Int) (a b : Nat) (h2 : slBounds len l h = some (a, b)) : tslice Try.prog 29 H (some l) (some h) (.v (.sl id off len 1)) = some (.v (.sl id (off + a * 1) (b - a) 1), H) := tslice_sl (by kernel_rfl) h2
theorem ld30 : tload Try.prog 30 H (.v (.ptr id off)) = (rdCell H id off).map fun c => (.v c, H) := ld_cell (by kernel_rfl) id off
theorem st30 (a : AV) : tstore Try.prog 30 H (.v (.ptr id off)) (.v a) = (wrCells H id off [a]).map fun H' => (.v .und, H') := st_cell (by kernel_rfl) id off a
theorem bx30 (c : AV) : tbox Try.prog 30 H (.v c) = if c.stor = true then some (.v (.ptr H.n 0), H.alloc (.own [c])) else none := bxv_ (by kernel_rfl) c
theorem al30 : talloc Try.prog 30 H = some (.v (.ptr H.n 0), H.alloc (.own [.nilsl])) := al_ (by kernel_rfl) rfl
theorem len30 (len : Nat) : abuiltin Try.prog .len [30].toArray [.v (.sl id off len 1)] H = some (.v (.int .i64 len), H) := alen_sl (by kernel_rfl)
theorem lenn30 : abuiltin Try.prog .len [30].toArray [.v .nilsl] H = some (.v (.int .i64 0), H) := alen_nil (by kernel_rfl)
theorem ia30 (len : Nat) (k : IntKind) (n : Int) (h2 : 0 ≤ n) (h3 : n < len) : tindexAddr Try.prog 30 H (.v (.sl id off len 1)) (.v (.int k n)) = some (.v (.ptr id (off + n.toNat * 1)), H) := ia_ (by kernel_rfl) id off len k n h2 h3
theorem mk30 (n : Int) (h7 : 0 ≤ n) (h8 : n * 8 ≤ 2 ^ 40) : tmake Try.prog 30 H (.v (.int .i64 n)) (.v (.int .i64 n)) = some (.v (.sl H.n 0 n.toNat 1), H.alloc (.own (zerosOf [.int .i64 0] n.toNat))) := mk_ (P := Try.prog) (t := 30) (H := H) (e := 2) (sz := 1) (bys := 8) (z := [.int .i64 0]) (by kernel_rfl) (by kernel_rfl) (by kernel_rfl) (by kernel_rfl) rfl rfl n n h7 (Int.le_refl _) (by omega) h8
theorem ap30 (x y : AV) : abuiltin Try.prog .append [30, 30].toArray [.v x, .v y] H = aappend H 1 8 x y := aappend_to (by kernel_rfl)
theorem sl30 (len : Nat) (l h : Option Int) (a b : Nat) (h2 : slBounds len l h = some (a, b)) : tslice Try.prog 30 H (some l) (some h) (.v (.sl id off len 1)) = some (.v (.sl id (off + a * 1) (b - a) 1), H) := tslice_sl (by kernel_rfl) h2
theorem ld39 : tload Try.prog 39 H (.v (.ptr id off)) = (rdCell H id off).map fun c => (.v c, H) := ld_cell (by kernel_rfl) id off
theorem st39 (a : AV) : tstore Try.prog 39 H (.v (.ptr id off)) (.v a) = (wrCells H id off [a]).map fun H' => (.v .und, H') := st_cell (by kernel_rfl) id off a
theorem bx39 (c : AV) : tbox Try.prog 39 H (.v c) = if c.stor = true then some (.v (.ptr H.n 0), H.alloc (.own [c])) else none := bxv_ (by kernel_rfl) c
theorem al39 : talloc Try.prog 39 H = some (.v (.ptr H.n 0), H.alloc (.own [.flt .f32 0])) := al_ (by kernel_rfl) rfl
theorem ld40 : tload Try.prog 40 H (.v (.ptr id off)) = (rdCells H id off 2).map fun c => (.g c, H) := ld_agg (by kernel_rfl) (by kernel_rfl) id off
theorem st40 (a : List AV) (ha : a.length = 2) : tstore Try.prog 40 H (.v (.ptr id off)) (.g a) = (wrCells H id off a).map fun H' => (.v .und, H') := st_agg (by kernel_rfl) id off a ha
theorem bx40 (c : List AV) : tbox Try.prog 40 H (.g c) = if c.all AV.stor = true then some (.v (.ptr H.n 0), H.alloc (.own c)) else none := bxg_ (by kernel_rfl) c
theorem fa40_0 : tfieldAddr Try.prog 40 0 H (.v (.ptr id off)) = some (.v (.ptr id (off + 0)), H) := fa_ (n := 1) (b := false) (by kernel_rfl) id off
theorem fv40_0 (cs : List AV) : tfieldV Try.prog 40 0 H (.g cs) = (cs[0]?).map fun c => (.v c, H) := tfieldV_c (n := 1) (by kernel_rfl) cs
theorem fa40_1 : tfieldAddr Try.prog 40 1 H (.v (.ptr id off)) = some (.v (.ptr id (off + 1)), H) := fa_ (n := 1) (b := false) (by kernel_rfl) id off
theorem fv40_1 (cs : List AV) : tfieldV Try.prog 40 1 H (.g cs) = (cs[1]?).map fun c => (.v c, H) := tfieldV_c (n := 1) (by kernel_rfl) cs
theorem al40 : talloc Try.prog 40 H = some (.v (.ptr H.n 0), H.alloc (.own [.int .i64 0, .flt .f32 0])) := al_ (by kernel_rfl) rfl
theorem ld41 : tload Try.prog 41 H (.v (.ptr id off)) = (rdCells H id off 2).map fun c => (.g c, H) := ld_agg (by kernel_rfl) (by kernel_rfl) id off
theorem st41 (a : List AV) (ha : a.length = 2) : tstore Try.prog 41 H (.v (.ptr id off)) (.g a) = (wrCells H id off a).map fun H' => (.v .und, H') := st_agg (by kernel_rfl) id off a ha
theorem bx41 (c : List AV) : tbox Try.prog 41 H (.g c) = if c.all AV.stor = true then some (.v (.ptr H.n 0), H.alloc (.own c)) else none := bxg_ (by kernel_rfl) c
theorem fa41_0 : tfieldAddr Try.prog 41 0 H (.v (.ptr id off)) = some (.v (.ptr id (off + 0)), H) := fa_ (n := 1) (b := false) (by kernel_rfl) id off
theorem fv41_0 (cs : List AV) : tfieldV Try.prog 41 0 H (.g cs) = (cs[0]?).map fun c => (.v c, H) := tfieldV_c (n := 1) (by kernel_rfl) cs
theorem fa41_1 : tfieldAddr Try.prog 41 1 H (.v (.ptr id off)) = some (.v (.ptr id (off + 1)), H) := fa_ (n := 1) (b := false) (by kernel_rfl) id off
theorem fv41_1 (cs : List AV) : tfieldV Try.prog 41 1 H (.g cs) = (cs[1]?).map fun c => (.v c, H) := tfieldV_c (n := 1) (by kernel_rfl) cs
theorem al41 : talloc Try.prog 41 H = some (.v (.ptr H.n 0), H.alloc (.own [.int .i64 0, .flt .f32 0])) := al_ (by kernel_rfl) rfl
theorem ld43 : tload Try.prog 43 H (.v (.ptr id off)) = (rdCells H id off 2).map fun c => (.g c, H) := ld_agg (by kernel_rfl) (by kernel_rfl) id off
theorem st43 (a : List AV) (ha : a.length = 2) : tstore Try.prog 43 H (.v (.ptr id off)) (.g a) = (wrCells H id off a).map fun H' => (.v .und, H') := st_agg (by kernel_rfl) id off a ha
theorem bx43 (c : List AV) : tbox Try.prog 43 H (.g c) = if c.all AV.stor = true then some (.v (.ptr H.n 0), H.alloc (.own c)) else none := bxg_ (by kernel_rfl) c
theorem fa43_0 : tfieldAddr Try.prog 43 0 H (.v (.ptr id off)) = some (.v (.ptr id (off + 0)), H) := fa_ (n := 1) (b := false) (by kernel_rfl) id off
theorem fv43_0 (cs : List AV) : tfieldV Try.prog 43 0 H (.g cs) = (cs[0]?).map fun c => (.v c, H) := tfieldV_c (n := 1) (by kernel_rfl) cs
theorem fa43_1 : tfieldAddr Try.prog 43 1 H (.v (.ptr id off)) = some (.v (.ptr id (off + 1)), H) := fa_ (n := 1) (b := false) (by kernel_rfl) id off
theorem fv43_1 (cs : List AV) : tfieldV Try.prog 43 1 H (.g cs) = (cs[1]?).map fun c => (.v c, H) := tfieldV_c (n := 1) (by kernel_rfl) cs
theorem al43 : talloc Try.prog 43 H = some (.v (.ptr H.n 0), H.alloc (.own [.int .i64 0, .flt .f32 0])) := al_ (by kernel_rfl) rfl
theorem ld49 : tload Try.prog 49 H (.v (.ptr id off)) = (rdCell H id off).map fun c => (.v c, H) := ld_cell (by kernel_rfl) id off
theorem st49 (a : AV) : tstore Try.prog 49 H (.v (.ptr id off)) (.v a) = (wrCells H id off [a]).map fun H' => (.v .und, H') := st_cell (by kernel_rfl) id off a
theorem bx49 (c : AV) : tbox Try.prog 49 H (.v c) = if c.stor = true then some (.v (.ptr H.n 0), H.alloc (.own [c])) else none := bxv_ (by kernel_rfl) c
theorem al49 : talloc Try.prog 49 H = some (.v (.ptr H.n 0), H.alloc (.own [.int .u64 0])) := al_ (by kernel_rfl) rfl
theorem ld51 : tload Try.prog 51 H (.v (.ptr id off)) = (rdCell H id off).map fun c => (.v c, H) := ld_cell (by kernel_rfl) id off
theorem st51 (a : AV) : tstore Try.prog 51 H (.v (.ptr id off)) (.v a) = (wrCells H id off [a]).map fun H' => (.v .und, H') := st_cell (by kernel_rfl) id off a
theorem bx51 (c : AV) : tbox Try.prog 51 H (.v c) = if c.stor = true then some (.v (.ptr H.n 0), H.alloc (.own [c])) else none := bxv_ (by kernel_rfl) c
theorem al51 : talloc Try.prog 51 H = some (.v (.ptr H.n 0), H.alloc (.own [.flt .f64 0])) := al_ (by kernel_rfl) rfl
theorem ld60 : tload Try.prog 60 H (.v (.ptr id off)) = (rdCell H id off).map fun c => (.v c, H) := ld_cell (by kernel_rfl) id off
theorem st60 (a : AV) : tstore Try.prog 60 H (.v (.ptr id off)) (.v a) = (wrCells H id off [a]).map fun H' => (.v .und, H') := st_cell (by kernel_rfl) id off a
theorem bx60 (c : AV) : tbox Try.prog 60 H (.v c) = if c.stor = true then some (.v (.ptr H.n 0), H.alloc (.own [c])) else none := bxv_ (by kernel_rfl) c
theorem al60 : talloc Try.prog 60 H = some (.v (.ptr H.n 0), H.alloc (.own [.int .u32 0])) := al_ (by kernel_rfl) rfl
theorem cv2_2 (n : Int) : tconv Try.prog 2 2 H (.v (.int .i64 n)) = some (.v (.int .i64 (IntKind.i64.wrap n)), H) := tconv_int (by kernel_rfl) (by kernel_rfl)
theorem cv2_3 (n : Int) : tconv Try.prog 2 3 H (.v (.int .i64 n)) = some (.v (.int .i64 (IntKind.i64.wrap n)), H) := tconv_int (by kernel_rfl) (by kernel_rfl)
theorem cv2_5 (n : Int) : tconv Try.prog 2 5 H (.v (.int .i64 n)) = some (.v (.int .u8 (IntKind.u8.wrap n)), H) := tconv_int (by kernel_rfl) (by kernel_rfl)
theorem cv2_12 (n : Int) : tconv Try.prog 2 12 H (.v (.int .i64 n)) = some (.v (.int .u64 (IntKind.u64.wrap n)), H) := tconv_int (by kernel_rfl) (by kernel_rfl)
theorem cv2_21 (n : Int) : tconv Try.prog 2 21 H (.v (.int .i64 n)) = some (.v (.int .i32 (IntKind.i32.wrap n)), H) := tconv_int (by kernel_rfl) (by kernel_rfl)
theorem cv2_39 (n : Int) : tconv Try.prog 2 39 H (.v (.int .i64 n)) = some (.v (.flt .f32 (cz .f32 (floatOfInt .f32 n))), H) := tconv_itof (by kernel_rfl) (by kernel_rfl) (by kernel_rfl)
theorem cv2_49 (n : Int) : tconv Try.prog 2 49 H (.v (.int .i64 n)) = some (.v (.int .u64 (IntKind.u64.wrap n)), H) := tconv_int (by kernel_rfl) (by kernel_rfl)
theorem cv2_51 (n : Int) : tconv Try.prog 2 51 H (.v (.int .i64 n)) = some (.v (.flt .f64 (cz .f64 (floatOfInt .f64 n))), H) := tconv_itof (by kernel_rfl) (by kernel_rfl) (by kernel_rfl)
theorem cv2_60 (n : Int) : tconv Try.prog 2 60 H (.v (.int .i64 n)) = some (.v (.int .u32 (IntKind.u32.wrap n)), H) := tconv_int (by kernel_rfl) (by kernel_rfl)
theorem cv3_2 (n : Int) : tconv Try.prog 3 2 H (.v (.int .i64 n)) = some (.v (.int .i64 (IntKind.i64.wrap n)), H) := tconv_int (by kernel_rfl) (by kernel_rfl)
theorem cv3_3 (n : Int) : tconv Try.prog 3 3 H (.v (.int .i64 n)) = some (.v (.int .i64 (IntKind.i64.wrap n)), H) := tconv_int (by kernel_rfl) (by kernel_rfl)
theorem cv3_5 (n : Int) : tconv Try.prog 3 5 H (.v (.int .i64 n)) = some (.v (.int .u8 (IntKind.u8.wrap n)), H) := tconv_int (by kernel_rfl) (by kernel_rfl)
theorem cv3_12 (n : Int) : tconv Try.prog 3 12 H (.v (.int .i64 n)) = some (.v (.int .u64 (IntKind.u64.wrap n)), H) := tconv_int (by kernel_rfl) (by kernel_rfl)
theorem cv3_21 (n : Int) : tconv Try.prog 3 21 H (.v (.int .i64 n)) = some (.v (.int .i32 (IntKind.i32.wrap n)), H) := tconv_int (by kernel_rfl) (by kernel_rfl)
theorem cv3_39 (n : Int) : tconv Try.prog 3 39 H (.v (.int .i64 n)) = some (.v (.flt .f32 (cz .f32 (floatOfInt .f32 n))), H) := tconv_itof (by kernel_rfl) (by kernel_rfl) (by kernel_rfl)
theorem cv3_49 (n : Int) : tconv Try.prog 3 49 H (.v (.int .i64 n)) = some (.v (.int .u64 (IntKind.u64.wrap n)), H) := tconv_int (by kernel_rfl) (by kernel_rfl)
theorem cv3_51 (n : Int) : tconv Try.prog 3 51 H (.v (.int .i64 n)) = some (.v (.flt .f64 (cz .f64 (floatOfInt .f64 n))), H) := tconv_itof (by kernel_rfl) (by kernel_rfl) (by kernel_rfl)
theorem cv3_60 (n : Int) : tconv Try.prog 3 60 H (.v (.int .i64 n)) = some (.v (.int .u32 (IntKind.u32.wrap n)), H) := tconv_int (by kernel_rfl) (by kernel_rfl)
theorem cv5_2 (n : Int) : tconv Try.prog 5 2 H (.v (.int .u8 n)) = some (.v (.int .i64 (IntKind.i64.wrap n)), H) := tconv_int (by kernel_rfl) (by kernel_rfl)
theorem cv5_3 (n : Int) : tconv Try.prog 5 3 H (.v (.int .u8 n)) = some (.v (.int .i64 (IntKind.i64.wrap n)), H) := tconv_int (by kernel_rfl) (by kernel_rfl)
theorem cv5_5 (n : Int) : tconv Try.prog 5 5 H (.v (.int .u8 n)) = some (.v (.int .u8 (IntKind.u8.wrap n)), H) := tconv_int (by kernel_rfl) (by kernel_rfl)
theorem cv5_12 (n : Int) : tconv Try.prog 5 12 H (.v (.int .u8 n)) = some (.v (.int .u64 (IntKind.u64.wrap n)), H) := tconv_int (by kernel_rfl) (by kernel_rfl)
theorem cv5_21 (n : Int) : tconv Try.prog 5 21 H (.v (.int .u8 n)) = some (.v (.int .i32 (IntKind.i32.wrap n)), H) := tconv_int (by kernel_rfl) (by kernel_rfl)
theorem cv5_39 (n : Int) : tconv Try.prog 5 39 H (.v (.int .u8 n)) = some (.v (.flt .f32 (cz .f32 (floatOfInt .f32 n))), H) := tconv_itof (by kernel_rfl) (by kernel_rfl) (by kernel_rfl)
theorem cv5_49 (n : Int) : tconv Try.prog 5 49 H (.v (.int .u8 n)) = some (.v (.int .u64 (IntKind.u64.wrap n)), H) := tconv_int (by kernel_rfl) (by kernel_rfl)
theorem cv5_51 (n : Int) : tconv Try.prog 5 51 H (.v (.int .u8 n)) = some (.v (.flt .f64 (cz .f64 (floatOfInt .f64 n))), H) := tconv_itof (by kernel_rfl) (by kernel_rfl) (by kernel_rfl)
theorem cv5_60 (n : Int) : tconv Try.prog 5 60 H (.v (.int .u8 n)) = some (.v (.int .u32 (IntKind.u32.wrap n)), H) := tconv_int (by kernel_rfl) (by kernel_rfl)
theorem cv9_9 (x : ByteArray) : tconv Try.prog 9 9 H (.v (.str x)) = some (.v (.str x), H) := tconv_str (by kernel_rfl) (by kernel_rfl)
theorem cv12_2 (n : Int) : tconv Try.prog 12 2 H (.v (.int .u64 n)) = some (.v (.int .i64 (IntKind.i64.wrap n)), H) := tconv_int (by kernel_rfl) (by kernel_rfl)
theorem cv12_3 (n : Int) : tconv Try.prog 12 3 H (.v (.int .u64 n)) = some (.v (.int .i64 (IntKind.i64.wrap n)), H) := tconv_int (by kernel_rfl) (by kernel_rfl)
theorem cv12_5 (n : Int) : tconv Try.prog 12 5 H (.v (.int .u64 n)) = some (.v (.int .u8 (IntKind.u8.wrap n)), H) := tconv_int (by kernel_rfl) (by kernel_rfl)
theorem cv12_12 (n : Int) : tconv Try.prog 12 12 H (.v (.int .u64 n)) = some (.v (.int .u64 (IntKind.u64.wrap n)), H) := tconv_int (by kernel_rfl) (by kernel_rfl)
theorem cv12_21 (n : Int) : tconv Try.prog 12 21 H (.v (.int .u64 n)) = some (.v (.int .i32 (IntKind.i32.wrap n)), H) := tconv_int (by kernel_rfl) (by kernel_rfl)
theorem cv12_39 (n : Int) : tconv Try.prog 12 39 H (.v (.int .u64 n)) = some (.v (.flt .f32 (cz .f32 (floatOfInt .f32 n))), H) := tconv_itof (by kernel_rfl) (by kernel_rfl) (by kernel_rfl)
theorem cv12_49 (n : Int) : tconv Try.prog 12 49 H (.v (.int .u64 n)) = some (.v (.int .u64 (IntKind.u64.wrap n)), H) := tconv_int (by kernel_rfl) (by kernel_rfl)
theorem cv12_51 (n : Int) : tconv Try.prog 12 51 H (.v (.int .u64 n)) = some (.v (.flt .f64 (cz .f64 (floatOfInt .f64 n))), H) := tconv_itof (by kernel_rfl) (by kernel_rfl) (by kernel_rfl)
theorem cv12_60 (n : Int) : tconv Try.prog 12 60 H (.v (.int .u64 n)) = some (.v (.int .u32 (IntKind.u32.wrap n)), H) := tconv_int (by kernel_rfl) (by kernel_rfl)
theorem cv21_2 (n : Int) : tconv Try.prog 21 2 H (.v (.int .i32 n)) = some (.v (.int .i64 (IntKind.i64.wrap n)), H) := tconv_int (by kernel_rfl) (by kernel_rfl)
theorem cv21_3 (n : Int) : tconv Try.prog 21 3 H (.v (.int .i32 n)) = some (.v (.int .i64 (IntKind.i64.wrap n)), H) := tconv_int (by kernel_rfl) (by kernel_rfl)
theorem cv21_5 (n : Int) : tconv Try.prog 21 5 H (.v (.int .i32 n)) = some (.v (.int .u8 (IntKind.u8.wrap n)), H) := tconv_int (by kernel_rfl) (by kernel_rfl)
theorem cv21_12 (n : Int) : tconv Try.prog 21 12 H (.v (.int .i32 n)) = some (.v (.int .u64 (IntKind.u64.wrap n)), H) := tconv_int (by kernel_rfl) (by kernel_rfl)
theorem cv21_21 (n : Int) : tconv Try.prog 21 21 H (.v (.int .i32 n)) = some (.v (.int .i32 (IntKind.i32.wrap n)), H) := tconv_int (by kernel_rfl) (by kernel_rfl)
theorem cv21_39 (n : Int) : tconv Try.prog 21 39 H (.v (.int .i32 n)) = some (.v (.flt .f32 (cz .f32 (floatOfInt .f32 n))), H) := tconv_itof (by kernel_rfl) (by kernel_rfl) (by kernel_rfl)
theorem cv21_49 (n : Int) : tconv Try.prog 21 49 H (.v (.int .i32 n)) = some (.v (.int .u64 (IntKind.u64.wrap n)), H) := tconv_int (by kernel_rfl) (by kernel_rfl)
theorem cv21_51 (n : Int) : tconv Try.prog 21 51 H (.v (.int .i32 n)) = some (.v (.flt .f64 (cz .f64 (floatOfInt .f64 n))), H) := tconv_itof (by kernel_rfl) (by kernel_rfl) (by kernel_rfl)
theorem cv21_60 (n : Int) : tconv Try.prog 21 60 H (.v (.int .i32 n)) = some (.v (.int .u32 (IntKind.u32.wrap n)), H) := tconv_int (by kernel_rfl) (by kernel_rfl)
theorem cv39_2 (b : Nat) (n : Int) (h : floatToIntVal .f32 b .i64 = some n) : tconv Try.prog 39 2 H (.v (.flt .f32 b)) = some (.v (.int .i64 n), H) := tconv_ftoi (by kernel_rfl) (by kernel_rfl) h
theorem cv39_3 (b : Nat) (n : Int) (h : floatToIntVal .f32 b .i64 = some n) : tconv Try.prog 39 3 H (.v (.flt .f32 b)) = some (.v (.int .i64 n), H) := tconv_ftoi (by kernel_rfl) (by kernel_rfl) h
theorem cv39_5 (b : Nat) (n : Int) (h : floatToIntVal .f32 b .u8 = some n) : tconv Try.prog 39 5 H (.v (.flt .f32 b)) = some (.v (.int .u8 n), H) := tconv_ftoi (by kernel_rfl) (by kernel_rfl) h
theorem cv39_12 (b : Nat) (n : Int) (h : floatToIntVal .f32 b .u64 = some n) : tconv Try.prog 39 12 H (.v (.flt .f32 b)) = some (.v (.int .u64 n), H) := tconv_ftoi (by kernel_rfl) (by kernel_rfl) h
theorem cv39_21 (b : Nat) (n : Int) (h : floatToIntVal .f32 b .i32 = some n) : tconv Try.prog 39 21 H (.v (.flt .f32 b)) = some (.v (.int .i32 n), H) := tconv_ftoi (by kernel_rfl) (by kernel_rfl) h
theorem cv39_39 (b : Nat) : tconv Try.prog 39 39 H (.v (.flt .f32 b)) = some (.v (.flt .f32 b), H) := tconv_ftof_same (by kernel_rfl) (by kernel_rfl) (by kernel_rfl)
theorem cv39_49 (b : Nat) (n : Int) (h : floatToIntVal .f32 b .u64 = some n) : tconv Try.prog 39 49 H (.v (.flt .f32 b)) = some (.v (.int .u64 n), H) := tconv_ftoi (by kernel_rfl) (by kernel_rfl) h
theorem cv39_51 (b : Nat) : tconv Try.prog 39 51 H (.v (.flt .f32 b)) = some (.v (.flt .f64 (widen b)), H) := tconv_ftof (by kernel_rfl) (by kernel_rfl) (by kernel_rfl) (widen_eq b)
theorem cv39_60 (b : Nat) (n : Int) (h : floatToIntVal .f32 b .u32 = some n) : tconv Try.prog 39 60 H (.v (.flt .f32 b)) = some (.v (.int .u32 n), H) := tconv_ftoi (by kernel_rfl) (by kernel_rfl) h
theorem cv49_2 (n : Int) : tconv Try.prog 49 2 H (.v (.int .u64 n)) = some (.v (.int .i64 (IntKind.i64.wrap n)), H) := tconv_int (by kernel_rfl) (by kernel_rfl)
theorem cv49_3 (n : Int) : tconv Try.prog 49 3 H (.v (.int .u64 n)) = some (.v (.int .i64 (IntKind.i64.wrap n)), H) := tconv_int (by kernel_rfl) (by kernel_rfl)
theorem cv49_5 (n : Int) : tconv Try.prog 49 5 H (.v (.int .u64 n)) = some (.v (.int .u8 (IntKind.u8.wrap n)), H) := tconv_int (by kernel_rfl) (by kernel_rfl)
theorem cv49_12 (n : Int) : tconv Try.prog 49 12 H (.v (.int .u64 n)) = some (.v (.int .u64 (IntKind.u64.wrap n)), H) := tconv_int (by kernel_rfl) (by kernel_rfl)
theorem cv49_21 (n : Int) : tconv Try.prog 49 21 H (.v (.int .u64 n)) = some (.v (.int .i32 (IntKind.i32.wrap n)), H) := tconv_int (by kernel_rfl) (by kernel_rfl)
theorem cv49_39 (n : Int) : tconv Try.prog 49 39 H (.v (.int .u64 n)) = some (.v (.flt .f32 (cz .f32 (floatOfInt .f32 n))), H) := tconv_itof (by kernel_rfl) (by kernel_rfl) (by kernel_rfl)
theorem cv49_49 (n : Int) : tconv Try.prog 49 49 H (.v (.int .u64 n)) = some (.v (.int .u64 (IntKind.u64.wrap n)), H) := tconv_int (by kernel_rfl) (by kernel_rfl)
theorem cv49_51 (n : Int) : tconv Try.prog 49 51 H (.v (.int .u64 n)) = some (.v (.flt .f64 (cz .f64 (floatOfInt .f64 n))), H) := tconv_itof (by kernel_rfl) (by kernel_rfl) (by kernel_rfl)
theorem cv49_60 (n : Int) : tconv Try.prog 49 60 H (.v (.int .u64 n)) = some (.v (.int .u32 (IntKind.u32.wrap n)), H) := tconv_int (by kernel_rfl) (by kernel_rfl)
theorem cv51_2 (b : Nat) (n : Int) (h : floatToIntVal .f64 b .i64 = some n) : tconv Try.prog 51 2 H (.v (.flt .f64 b)) = some (.v (.int .i64 n), H) := tconv_ftoi (by kernel_rfl) (by kernel_rfl) h
theorem cv51_3 (b : Nat) (n : Int) (h : floatToIntVal .f64 b .i64 = some n) : tconv Try.prog 51 3 H (.v (.flt .f64 b)) = some (.v (.int .i64 n), H) := tconv_ftoi (by kernel_rfl) (by kernel_rfl) h
theorem cv51_5 (b : Nat) (n : Int) (h : floatToIntVal .f64 b .u8 = some n) : tconv Try.prog 51 5 H (.v (.flt .f64 b)) = some (.v (.int .u8 n), H) := tconv_ftoi (by kernel_rfl) (by kernel_rfl) h
theorem cv51_12 (b : Nat) (n : Int) (h : floatToIntVal .f64 b .u64 = some n) : tconv Try.prog 51 12 H (.v (.flt .f64 b)) = some (.v (.int .u64 n), H) := tconv_ftoi (by kernel_rfl) (by kernel_rfl) h
theorem cv51_21 (b : Nat) (n : Int) (h : floatToIntVal .f64 b .i32 = some n) : tconv Try.prog 51 21 H (.v (.flt .f64 b)) = some (.v (.int .i32 n), H) := tconv_ftoi (by kernel_rfl) (by kernel_rfl) h
theorem cv51_39 (b c : Nat) (h : fconv .f64 b .f32 = some c) : tconv Try.prog 51 39 H (.v (.flt .f64 b)) = some (.v (.flt .f32 c), H) := tconv_ftof (by kernel_rfl) (by kernel_rfl) (by kernel_rfl) h
theorem cv51_49 (b : Nat) (n : Int) (h : floatToIntVal .f64 b .u64 = some n) : tconv Try.prog 51 49 H (.v (.flt .f64 b)) = some (.v (.int .u64 n), H) := tconv_ftoi (by kernel_rfl) (by kernel_rfl) h
theorem cv51_51 (b : Nat) : tconv Try.prog 51 51 H (.v (.flt .f64 b)) = some (.v (.flt .f64 b), H) := tconv_ftof_same (by kernel_rfl) (by kernel_rfl) (by kernel_rfl)
theorem cv51_60 (b : Nat) (n : Int) (h : floatToIntVal .f64 b .u32 = some n) : tconv Try.prog 51 60 H (.v (.flt .f64 b)) = some (.v (.int .u32 n), H) := tconv_ftoi (by kernel_rfl) (by kernel_rfl) h
theorem cv60_2 (n : Int) : tconv Try.prog 60 2 H (.v (.int .u32 n)) = some (.v (.int .i64 (IntKind.i64.wrap n)), H) := tconv_int (by kernel_rfl) (by kernel_rfl)
theorem cv60_3 (n : Int) : tconv Try.prog 60 3 H (.v (.int .u32 n)) = some (.v (.int .i64 (IntKind.i64.wrap n)), H) := tconv_int (by kernel_rfl) (by kernel_rfl)
theorem cv60_5 (n : Int) : tconv Try.prog 60 5 H (.v (.int .u32 n)) = some (.v (.int .u8 (IntKind.u8.wrap n)), H) := tconv_int (by kernel_rfl) (by kernel_rfl)
theorem cv60_12 (n : Int) : tconv Try.prog 60 12 H (.v (.int .u32 n)) = some (.v (.int .u64 (IntKind.u64.wrap n)), H) := tconv_int (by kernel_rfl) (by kernel_rfl)
theorem cv60_21 (n : Int) : tconv Try.prog 60 21 H (.v (.int .u32 n)) = some (.v (.int .i32 (IntKind.i32.wrap n)), H) := tconv_int (by kernel_rfl) (by kernel_rfl)
theorem cv60_39 (n : Int) : tconv Try.prog 60 39 H (.v (.int .u32 n)) = some (.v (.flt .f32 (cz .f32 (floatOfInt .f32 n))), H) := tconv_itof (by kernel_rfl) (by kernel_rfl) (by kernel_rfl)
theorem cv60_49 (n : Int) : tconv Try.prog 60 49 H (.v (.int .u32 n)) = some (.v (.int .u64 (IntKind.u64.wrap n)), H) := tconv_int (by kernel_rfl) (by kernel_rfl)
theorem cv60_51 (n : Int) : tconv Try.prog 60 51 H (.v (.int .u32 n)) = some (.v (.flt .f64 (cz .f64 (floatOfInt .f64 n))), H) := tconv_itof (by kernel_rfl) (by kernel_rfl) (by kernel_rfl)
theorem cv60_60 (n : Int) : tconv Try.prog 60 60 H (.v (.int .u32 n)) = some (.v (.int .u32 (IntKind.u32.wrap n)), H) := tconv_int (by kernel_rfl) (by kernel_rfl)
end
attribute [go_sem] be4 bn4 ld2 st2 bx2 al2 ld3 st3 bx3 al3 ld4 st4 bx4 al4 ld5 st5 bx5 al5 ld9 st9
attribute [go_sem] bx9 al9 len9 ld12 st12 bx12 al12 ld21 st21 bx21 al21 ld22 st22 bx22 al22 len22 lenn22 ia22 ap22 sl22
attribute [go_sem] ld25 st25 bx25 al25 len25 lenn25 ia25 ap25 sl25 ld29 st29 bx29 al29 len29 lenn29 ia29 ap29 sl29 ld30 st30
attribute [go_sem] bx30 al30 len30 lenn30 ia30 ap30 sl30 ld39 st39 bx39 al39 ld40 st40 bx40 fa40_0 fv40_0 fa40_1 fv40_1 al40 ld41
attribute [go_sem] st41 bx41 fa41_0 fv41_0 fa41_1 fv41_1 al41 ld43 st43 bx43 fa43_0 fv43_0 fa43_1 fv43_1 al43 ld49 st49 bx49 al49 ld51
attribute [go_sem] st51 bx51 al51 ld60 st60 bx60 al60 cv2_2 cv2_3 cv2_5 cv2_12 cv2_21 cv2_39 cv2_49 cv2_51 cv2_60 cv3_2 cv3_3 cv3_5 cv3_12
attribute [go_sem] cv3_21 cv3_39 cv3_49 cv3_51 cv3_60 cv5_2 cv5_3 cv5_5 cv5_12 cv5_21 cv5_39 cv5_49 cv5_51 cv5_60 cv9_9 cv12_2 cv12_3 cv12_5 cv12_12 cv12_21
attribute [go_sem] cv12_39 cv12_49 cv12_51 cv12_60 cv21_2 cv21_3 cv21_5 cv21_12 cv21_21 cv21_39 cv21_49 cv21_51 cv21_60 cv39_2 cv39_3 cv39_5 cv39_12 cv39_21 cv39_39 cv39_49
attribute [go_sem] cv39_51 cv39_60 cv49_2 cv49_3 cv49_5 cv49_12 cv49_21 cv49_39 cv49_49 cv49_51 cv49_60 cv51_2 cv51_3 cv51_5 cv51_12 cv51_21 cv51_39 cv51_49 cv51_51 cv51_60
attribute [go_sem] cv60_2 cv60_3 cv60_5 cv60_12 cv60_21 cv60_39 cv60_49 cv60_51 cv60_60
end Go.Proofs.Ytdmoagnkdkeeeaa.F
