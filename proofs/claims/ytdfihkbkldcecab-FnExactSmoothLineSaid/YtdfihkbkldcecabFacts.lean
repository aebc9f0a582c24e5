/-
  What the plain types of this program are, as rewrite rules. Printed by a program of the session; nothing here is trusted.
-/
import Derived.Test.YtdfihkbkldcecabProg
import Derived.Test.YtdfihkbkldcecabAbH
import Derived.KernelRfl
namespace Go.Proofs.Ytdfihkbkldcecab.F
open Go Go.Ab Go.Proofs
set_option maxRecDepth 100000
set_option linter.unusedVariables false
set_option linter.unusedSimpArgs false
section
variable (H : Heap) (id off : Nat)
theorem hm : Try.prog.follows .mixedOrders = true := by kernel_rfl
theorem be4 (c d : Bool) : tbin Try.prog .eql 4 (.v (.bool c)) (.v (.bool d)) = some (.v (.bool (c == d))) := tbin_beql (by kernel_rfl)
theorem bn4 (c d : Bool) : tbin Try.prog .neq 4 (.v (.bool c)) (.v (.bool d)) = some (.v (.bool (!(c == d)))) := tbin_bneq (by kernel_rfl)
theorem ld2 : tload Try.prog 2 H (.v (.ptr id off)) = (rdCell H id off).map fun c => (.v c, H) := ld_cell (by kernel_rfl) id off
theorem st2 (a : AV) : tstore Try.prog 2 H (.v (.ptr id off)) (.v a) = (wrCells H id off [a]).map fun H' => (.v .und, H') := st_cell (by kernel_rfl) id off a
theorem bx2 (c : AV) : tbox Try.prog 2 H (.v c) = if c.stor = true then some (.v (.ptr H.n 0), H.alloc (.own [c])) else none := bxv_ (by kernel_rfl) c
theorem al2 : talloc Try.prog 2 H = some (.v (.ptr H.n 0), H.alloc (.own [.int .i64 0])) := al_ (by kernel_rfl) rfl
theorem ld3 : tload Try.prog 3 H (.v (.ptr id off)) = (rdCell H id off).map fun c => (.v c, H) := ld_cell (by kernel_rfl) id off
theorem st3 (a : AV) : tstore Try.prog 3 H (.v (.ptr id off)) (.v a) = (wrCells H id off [a]).map fun H' => (.v .und, H') := st_cell (by kernel_rfl) id off a
theorem bx3 (c : AV) : tbox Try.prog 3 H (.v c) = if c.stor = true then some (.v (.ptr H.n 0), H.alloc (.own [c])) else none := bxv_ (by kernel_rfl) c
theorem al3 : talloc Try.prog 3 H = some (.v (.ptr H.n 0), H.alloc (.own [.int .i64 0])) := al_ (by kernel_rfl) rfl
theorem ld4 : tload Try.prog 4 H (.v (.ptr id off)) = (rdCell H id off).map fun c => (.v c, H) := ld_cell (by kernel_rfl) id off
theorem st4 (a : AV) : tstore Try.prog 4 H (.v (.ptr id off)) (.v a) = (wrCells H id off [a]).map fun H' => (.v .und, H') := st_cell (by kernel_rfl) id off a
theorem bx4 (c : AV) : tbox Try.prog 4 H (.v c) = if c.stor = true then some (.v (.ptr H.n 0), H.alloc (.own [c])) else none := bxv_ (by kernel_rfl) c
theorem al4 : talloc Try.prog 4 H = some (.v (.ptr H.n 0), H.alloc (.own [.bool false])) := al_ (by kernel_rfl) rfl
theorem ld5 : tload Try.prog 5 H (.v (.ptr id off)) = (rdCell H id off).map fun c => (.v c, H) := ld_cell (by kernel_rfl) id off
theorem st5 (a : AV) : tstore Try.prog 5 H (.v (.ptr id off)) (.v a) = (wrCells H id off [a]).map fun H' => (.v .und, H') := st_cell (by kernel_rfl) id off a
theorem bx5 (c : AV) : tbox Try.prog 5 H (.v c) = if c.stor = true then some (.v (.ptr H.n 0), H.alloc (.own [c])) else none := bxv_ (by kernel_rfl) c
theorem al5 : talloc Try.prog 5 H = some (.v (.ptr H.n 0), H.alloc (.own [.int .u8 0])) := al_ (by kernel_rfl) rfl
theorem ld9 : tload Try.prog 9 H (.v (.ptr id off)) = (rdCell H id off).map fun c => (.v c, H) := ld_cell (by kernel_rfl) id off
theorem st9 (a : AV) : tstore Try.prog 9 H (.v (.ptr id off)) (.v a) = (wrCells H id off [a]).map fun H' => (.v .und, H') := st_cell (by kernel_rfl) id off a
theorem bx9 (c : AV) : tbox Try.prog 9 H (.v c) = if c.stor = true then some (.v (.ptr H.n 0), H.alloc (.own [c])) else none := bxv_ (by kernel_rfl) c
theorem al9 : talloc Try.prog 9 H = some (.v (.ptr H.n 0), H.alloc (.own [.str ByteArray.empty])) := al_ (by kernel_rfl) rfl
theorem len9 (x : ByteArray) : abuiltin Try.prog .len [9].toArray [.v (.str x)] H = some (.v (.int .i64 x.size), H) := alen_str (by kernel_rfl)
theorem ld12 : tload Try.prog 12 H (.v (.ptr id off)) = (rdCell H id off).map fun c => (.v c, H) := ld_cell (by kernel_rfl) id off
theorem st12 (a : AV) : tstore Try.prog 12 H (.v (.ptr id off)) (.v a) = (wrCells H id off [a]).map fun H' => (.v .und, H') := st_cell (by kernel_rfl) id off a
theorem bx12 (c : AV) : tbox Try.prog 12 H (.v c) = if c.stor = true then some (.v (.ptr H.n 0), H.alloc (.own [c])) else none := bxv_ (by kernel_rfl) c
theorem al12 : talloc Try.prog 12 H = some (.v (.ptr H.n 0), H.alloc (.own [.int .u64 0])) := al_ (by kernel_rfl) rfl
theorem ld21 : tload Try.prog 21 H (.v (.ptr id off)) = (rdCell H id off).map fun c => (.v c, H) := ld_cell (by kernel_rfl) id off
theorem st21 (a : AV) : tstore Try.prog 21 H (.v (.ptr id off)) (.v a) = (wrCells H id off [a]).map fun H' => (.v .und, H') := st_cell (by kernel_rfl) id off a
theorem bx21 (c : AV) : tbox Try.prog 21 H (.v c) = if c.stor = true then some (.v (.ptr H.n 0), H.alloc (.own [c])) else none := bxv_ (by kernel_rfl) c
theorem al21 : talloc Try.prog 21 H = some (.v (.ptr H.n 0), H.alloc (.own [.int .i32 0])) := al_ (by kernel_rfl) rfl
theorem ld22 : tload Try.prog 22 H (.v (.ptr id off)) = (rdCell H id off).map fun c => (.v c, H) := ld_cell (by kernel_rfl) id off
theorem st22 (a : AV) : tstore Try.prog 22 H (.v (.ptr id off)) (.v a) = (wrCells H id off [a]).map fun H' => (.v .und, H') := st_cell (by kernel_rfl) id off a
theorem bx22 (c : AV) : tbox Try.prog 22 H (.v c) = if c.stor = true then some (.v (.ptr H.n 0), H.alloc (.own [c])) else none := bxv_ (by kernel_rfl) c
theorem al22 : talloc Try.prog 22 H = some (.v (.ptr H.n 0), H.alloc (.own [.nilsl])) := al_ (by kernel_rfl) rfl
theorem len22 (len : Nat) : abuiltin Try.prog .len [22].toArray [.v (.sl id off len 1)] H = some (.v (.int .i64 len), H) := alen_sl (by kernel_rfl)
theorem lenn22 : abuiltin Try.prog .len [22].toArray [.v .nilsl] H = some (.v (.int .i64 0), H) := alen_nil (by kernel_rfl)
theorem ia22 (len : Nat) (k : IntKind) (n : Int) (h2 : 0 ≤ n) (h3 : n < len) : tindexAddr Try.prog 22 H (.v (.sl id off len 1)) (.v (.int k n)) = some (.v (.ptr id (off + n.toNat * 1)), H) := ia_ (by kernel_rfl) id off len k n h2 h3
theorem mk22 (n : Int) (h7 : 0 ≤ n) (h8 : n * 4 ≤ 2 ^ 40) : tmake Try.prog 22 H (.v (.int .i64 n)) (.v (.int .i64 n)) = some (.v (.sl H.n 0 n.toNat 1), H.alloc (.own (zerosOf [.flt .f32 0] n.toNat))) := mk_ (P := Try.prog) (t := 22) (H := H) (e := 29) (sz := 1) (bys := 4) (z := [.flt .f32 0]) (by kernel_rfl) (by kernel_rfl) (by kernel_rfl) (by kernel_rfl) rfl rfl n n h7 (Int.le_refl _) (by omega) h8
theorem ap22 (x y : AV) : abuiltin Try.prog .append [22, 22].toArray [.v x, .v y] H = aappend H 1 4 x y := aappend_to (by kernel_rfl)
theorem sl22 (len : Nat) (l h : Option Int) (a b : Nat) (h2 : slBounds len l h = some (a, b)) : tslice Try.prog 22 H (some l) (some h) (.v (.sl id off len 1)) = some (.v (.sl id (off + a * 1) (b - a) 1), H) := tslice_sl (by kernel_rfl) h2
theorem bs22_0 : tbs Try.prog 22 0 H [] = some (.v (.sl H.n 0 0 1), H.alloc (.own [])) := tbs_0 (e := 29) (z := [.flt .f32 0]) (by kernel_rfl) (by kernel_rfl) (by kernel_rfl) rfl
theorem bs22_1 (a : AV) (ha : a.stor = true) : tbs Try.prog 22 1 H [(0, .v a)] = some (.v (.sl H.n 0 1 1), H.alloc (.own [a])) := tbs_1 (e := 29) (z := .flt .f32 0) (by kernel_rfl) (by kernel_rfl) (by kernel_rfl) a ha
theorem bs22_2 (a b : AV) (ha : a.stor = true) (hb : b.stor = true) : tbs Try.prog 22 2 H [(0, .v a), (1, .v b)] = some (.v (.sl H.n 0 2 1), H.alloc (.own [a, b])) := tbs_2 (e := 29) (z := .flt .f32 0) (by kernel_rfl) (by kernel_rfl) (by kernel_rfl) a b ha hb
theorem ld29 : tload Try.prog 29 H (.v (.ptr id off)) = (rdCell H id off).map fun c => (.v c, H) := ld_cell (by kernel_rfl) id off
theorem st29 (a : AV) : tstore Try.prog 29 H (.v (.ptr id off)) (.v a) = (wrCells H id off [a]).map fun H' => (.v .und, H') := st_cell (by kernel_rfl) id off a
theorem bx29 (c : AV) : tbox Try.prog 29 H (.v c) = if c.stor = true then some (.v (.ptr H.n 0), H.alloc (.own [c])) else none := bxv_ (by kernel_rfl) c
theorem al29 : talloc Try.prog 29 H = some (.v (.ptr H.n 0), H.alloc (.own [.flt .f32 0])) := al_ (by kernel_rfl) rfl
theorem ld36 : tload Try.prog 36 H (.v (.ptr id off)) = (rdCell H id off).map fun c => (.v c, H) := ld_cell (by kernel_rfl) id off
theorem st36 (a : AV) : tstore Try.prog 36 H (.v (.ptr id off)) (.v a) = (wrCells H id off [a]).map fun H' => (.v .und, H') := st_cell (by kernel_rfl) id off a
theorem bx36 (c : AV) : tbox Try.prog 36 H (.v c) = if c.stor = true then some (.v (.ptr H.n 0), H.alloc (.own [c])) else none := bxv_ (by kernel_rfl) c
theorem al36 : talloc Try.prog 36 H = some (.v (.ptr H.n 0), H.alloc (.own [.nilsl])) := al_ (by kernel_rfl) rfl
theorem len36 (len : Nat) : abuiltin Try.prog .len [36].toArray [.v (.sl id off len 2)] H = some (.v (.int .i64 len), H) := alen_sl (by kernel_rfl)
theorem lenn36 : abuiltin Try.prog .len [36].toArray [.v .nilsl] H = some (.v (.int .i64 0), H) := alen_nil (by kernel_rfl)
theorem ia36 (len : Nat) (k : IntKind) (n : Int) (h2 : 0 ≤ n) (h3 : n < len) : tindexAddr Try.prog 36 H (.v (.sl id off len 2)) (.v (.int k n)) = some (.v (.ptr id (off + n.toNat * 2)), H) := ia_ (by kernel_rfl) id off len k n h2 h3
theorem mk36 (n : Int) (h7 : 0 ≤ n) (h8 : n * 16 ≤ 2 ^ 40) : tmake Try.prog 36 H (.v (.int .i64 n)) (.v (.int .i64 n)) = some (.v (.sl H.n 0 n.toNat 2), H.alloc (.own (zerosOf [.int .i64 0, .flt .f32 0] n.toNat))) := mk_ (P := Try.prog) (t := 36) (H := H) (e := 62) (sz := 2) (bys := 16) (z := [.int .i64 0, .flt .f32 0]) (by kernel_rfl) (by kernel_rfl) (by kernel_rfl) (by kernel_rfl) rfl rfl n n h7 (Int.le_refl _) (by omega) h8
theorem ap36 (x y : AV) : abuiltin Try.prog .append [36, 36].toArray [.v x, .v y] H = aappend H 2 16 x y := aappend_to (by kernel_rfl)
theorem sl36 (len : Nat) (l h : Option Int) (a b : Nat) (h2 : slBounds len l h = some (a, b)) : tslice Try.prog 36 H (some l) (some h) (.v (.sl id off len 2)) = some (.v (.sl id (off + a * 2) (b - a) 2), H) := tslice_sl (by kernel_rfl) h2
theorem bs36_0 : tbs Try.prog 36 0 H [] = some (.v (.sl H.n 0 0 2), H.alloc (.own [])) := tbs_0 (e := 62) (z := [.int .i64 0, .flt .f32 0]) (by kernel_rfl) (by kernel_rfl) (by kernel_rfl) rfl
theorem bs36_1 (c : List AV) (hc : c.length = 2) (ha : c.all AV.stor = true) : tbs Try.prog 36 1 H [(0, .g c)] = some (.v (.sl H.n 0 1 2), H.alloc (.own c)) := tbs_g (e := 62) (z := [.int .i64 0, .flt .f32 0]) (by kernel_rfl) (by kernel_rfl) (by kernel_rfl) rfl (by decide) hc ha
theorem ld38 : tload Try.prog 38 H (.v (.ptr id off)) = (rdCell H id off).map fun c => (.v c, H) := ld_cell (by kernel_rfl) id off
theorem st38 (a : AV) : tstore Try.prog 38 H (.v (.ptr id off)) (.v a) = (wrCells H id off [a]).map fun H' => (.v .und, H') := st_cell (by kernel_rfl) id off a
theorem bx38 (c : AV) : tbox Try.prog 38 H (.v c) = if c.stor = true then some (.v (.ptr H.n 0), H.alloc (.own [c])) else none := bxv_ (by kernel_rfl) c
theorem al38 : talloc Try.prog 38 H = some (.v (.ptr H.n 0), H.alloc (.own [.nilsl])) := al_ (by kernel_rfl) rfl
theorem len38 (len : Nat) : abuiltin Try.prog .len [38].toArray [.v (.sl id off len 1)] H = some (.v (.int .i64 len), H) := alen_sl (by kernel_rfl)
theorem lenn38 : abuiltin Try.prog .len [38].toArray [.v .nilsl] H = some (.v (.int .i64 0), H) := alen_nil (by kernel_rfl)
theorem ia38 (len : Nat) (k : IntKind) (n : Int) (h2 : 0 ≤ n) (h3 : n < len) : tindexAddr Try.prog 38 H (.v (.sl id off len 1)) (.v (.int k n)) = some (.v (.ptr id (off + n.toNat * 1)), H) := ia_ (by kernel_rfl) id off len k n h2 h3
theorem mk38 (n : Int) (h7 : 0 ≤ n) (h8 : n * 8 ≤ 2 ^ 40) : tmake Try.prog 38 H (.v (.int .i64 n)) (.v (.int .i64 n)) = some (.v (.sl H.n 0 n.toNat 1), H.alloc (.own (zerosOf [.int .i64 0] n.toNat))) := mk_ (P := Try.prog) (t := 38) (H := H) (e := 2) (sz := 1) (bys := 8) (z := [.int .i64 0]) (by kernel_rfl) (by kernel_rfl) (by kernel_rfl) (by kernel_rfl) rfl rfl n n h7 (Int.le_refl _) (by omega) h8
theorem ap38 (x y : AV) : abuiltin Try.prog .append [38, 38].toArray [.v x, .v y] H = aappend H 1 8 x y := aappend_to (by kernel_rfl)
theorem sl38 (len : Nat) (l h : Option Int) (a b : Nat) (h2 : slBounds len l h = some (a, b)) : tslice Try.prog 38 H (some l) (some h) (.v (.sl id off len 1)) = some (.v (.sl id (off + a * 1) (b - a) 1), H) := tslice_sl (by kernel_rfl) h2
theorem bs38_0 : tbs Try.prog 38 0 H [] = some (.v (.sl H.n 0 0 1), H.alloc (.own [])) := tbs_0 (e := 2) (z := [.int .i64 0]) (by kernel_rfl) (by kernel_rfl) (by kernel_rfl) rfl
theorem bs38_1 (a : AV) (ha : a.stor = true) : tbs Try.prog 38 1 H [(0, .v a)] = some (.v (.sl H.n 0 1 1), H.alloc (.own [a])) := tbs_1 (e := 2) (z := .int .i64 0) (by kernel_rfl) (by kernel_rfl) (by kernel_rfl) a ha
theorem bs38_2 (a b : AV) (ha : a.stor = true) (hb : b.stor = true) : tbs Try.prog 38 2 H [(0, .v a), (1, .v b)] = some (.v (.sl H.n 0 2 1), H.alloc (.own [a, b])) := tbs_2 (e := 2) (z := .int .i64 0) (by kernel_rfl) (by kernel_rfl) (by kernel_rfl) a b ha hb
theorem ld41 : tload Try.prog 41 H (.v (.ptr id off)) = (rdCell H id off).map fun c => (.v c, H) := ld_cell (by kernel_rfl) id off
theorem st41 (a : AV) : tstore Try.prog 41 H (.v (.ptr id off)) (.v a) = (wrCells H id off [a]).map fun H' => (.v .und, H') := st_cell (by kernel_rfl) id off a
theorem bx41 (c : AV) : tbox Try.prog 41 H (.v c) = if c.stor = true then some (.v (.ptr H.n 0), H.alloc (.own [c])) else none := bxv_ (by kernel_rfl) c
theorem al41 : talloc Try.prog 41 H = some (.v (.ptr H.n 0), H.alloc (.own [.nilsl])) := al_ (by kernel_rfl) rfl
theorem len41 (len : Nat) : abuiltin Try.prog .len [41].toArray [.v (.sl id off len 2)] H = some (.v (.int .i64 len), H) := alen_sl (by kernel_rfl)
theorem lenn41 : abuiltin Try.prog .len [41].toArray [.v .nilsl] H = some (.v (.int .i64 0), H) := alen_nil (by kernel_rfl)
theorem ia41 (len : Nat) (k : IntKind) (n : Int) (h2 : 0 ≤ n) (h3 : n < len) : tindexAddr Try.prog 41 H (.v (.sl id off len 2)) (.v (.int k n)) = some (.v (.ptr id (off + n.toNat * 2)), H) := ia_ (by kernel_rfl) id off len k n h2 h3
theorem mk41 (n : Int) (h7 : 0 ≤ n) (h8 : n * 16 ≤ 2 ^ 40) : tmake Try.prog 41 H (.v (.int .i64 n)) (.v (.int .i64 n)) = some (.v (.sl H.n 0 n.toNat 2), H.alloc (.own (zerosOf [.int .i64 0, .flt .f32 0] n.toNat))) := mk_ (P := Try.prog) (t := 41) (H := H) (e := 60) (sz := 2) (bys := 16) (z := [.int .i64 0, .flt .f32 0]) (by kernel_rfl) (by kernel_rfl) (by kernel_rfl) (by kernel_rfl) rfl rfl n n h7 (Int.le_refl _) (by omega) h8
theorem ap41 (x y : AV) : abuiltin Try.prog .append [41, 41].toArray [.v x, .v y] H = aappend H 2 16 x y := aappend_to (by kernel_rfl)
theorem sl41 (len : Nat) (l h : Option Int) (a b : Nat) (h2 : slBounds len l h = some (a, b)) : tslice Try.prog 41 H (some l) (some h) (.v (.sl id off len 2)) = some (.v (.sl id (off + a * 2) (b - a) 2), H) := tslice_sl (by kernel_rfl) h2
theorem bs41_0 : tbs Try.prog 41 0 H [] = some (.v (.sl H.n 0 0 2), H.alloc (.own [])) := tbs_0 (e := 60) (z := [.int .i64 0, .flt .f32 0]) (by kernel_rfl) (by kernel_rfl) (by kernel_rfl) rfl
theorem bs41_1 (c : List AV) (hc : c.length = 2) (ha : c.all AV.stor = true) : tbs Try.prog 41 1 H [(0, .g c)] = some (.v (.sl H.n 0 1 2), H.alloc (.own c)) := tbs_g (e := 60) (z := [.int .i64 0, .flt .f32 0]) (by kernel_rfl) (by kernel_rfl) (by kernel_rfl) rfl (by decide) hc ha
theorem ld52 : tload Try.prog 52 H (.v (.ptr id off)) = (rdCell H id off).map fun c => (.v c, H) := ld_cell (by kernel_rfl) id off
theorem st52 (a : AV) : tstore Try.prog 52 H (.v (.ptr id off)) (.v a) = (wrCells H id off [a]).map fun H' => (.v .und, H') := st_cell (by kernel_rfl) id off a
theorem bx52 (c : AV) : tbox Try.prog 52 H (.v c) = if c.stor = true then some (.v (.ptr H.n 0), H.alloc (.own [c])) else none := bxv_ (by kernel_rfl) c
theorem al52 : talloc Try.prog 52 H = some (.v (.ptr H.n 0), H.alloc (.own [.flt .f64 0])) := al_ (by kernel_rfl) rfl
theorem ld59 : tload Try.prog 59 H (.v (.ptr id off)) = (rdCells H id off 2).map fun c => (.g c, H) := ld_agg (by kernel_rfl) (by kernel_rfl) id off
theorem st59 (a : List AV) (ha : a.length = 2) : tstore Try.prog 59 H (.v (.ptr id off)) (.g a) = (wrCells H id off a).map fun H' => (.v .und, H') := st_agg (by kernel_rfl) id off a ha
theorem bx59 (c : List AV) : tbox Try.prog 59 H (.g c) = if c.all AV.stor = true then some (.v (.ptr H.n 0), H.alloc (.own c)) else none := bxg_ (by kernel_rfl) c
theorem fa59_0 : tfieldAddr Try.prog 59 0 H (.v (.ptr id off)) = some (.v (.ptr id (off + 0)), H) := fa_ (n := 1) (b := false) (by kernel_rfl) id off
theorem fv59_0 (cs : List AV) : tfieldV Try.prog 59 0 H (.g cs) = (cs[0]?).map fun c => (.v c, H) := tfieldV_c (n := 1) (by kernel_rfl) cs
theorem fa59_1 : tfieldAddr Try.prog 59 1 H (.v (.ptr id off)) = some (.v (.ptr id (off + 1)), H) := fa_ (n := 1) (b := false) (by kernel_rfl) id off
theorem fv59_1 (cs : List AV) : tfieldV Try.prog 59 1 H (.g cs) = (cs[1]?).map fun c => (.v c, H) := tfieldV_c (n := 1) (by kernel_rfl) cs
theorem al59 : talloc Try.prog 59 H = some (.v (.ptr H.n 0), H.alloc (.own [.int .i64 0, .flt .f32 0])) := al_ (by kernel_rfl) rfl
theorem ld60 : tload Try.prog 60 H (.v (.ptr id off)) = (rdCells H id off 2).map fun c => (.g c, H) := ld_agg (by kernel_rfl) (by kernel_rfl) id off
theorem st60 (a : List AV) (ha : a.length = 2) : tstore Try.prog 60 H (.v (.ptr id off)) (.g a) = (wrCells H id off a).map fun H' => (.v .und, H') := st_agg (by kernel_rfl) id off a ha
theorem bx60 (c : List AV) : tbox Try.prog 60 H (.g c) = if c.all AV.stor = true then some (.v (.ptr H.n 0), H.alloc (.own c)) else none := bxg_ (by kernel_rfl) c
theorem fa60_0 : tfieldAddr Try.prog 60 0 H (.v (.ptr id off)) = some (.v (.ptr id (off + 0)), H) := fa_ (n := 1) (b := false) (by kernel_rfl) id off
theorem fv60_0 (cs : List AV) : tfieldV Try.prog 60 0 H (.g cs) = (cs[0]?).map fun c => (.v c, H) := tfieldV_c (n := 1) (by kernel_rfl) cs
theorem fa60_1 : tfieldAddr Try.prog 60 1 H (.v (.ptr id off)) = some (.v (.ptr id (off + 1)), H) := fa_ (n := 1) (b := false) (by kernel_rfl) id off
theorem fv60_1 (cs : List AV) : tfieldV Try.prog 60 1 H (.g cs) = (cs[1]?).map fun c => (.v c, H) := tfieldV_c (n := 1) (by kernel_rfl) cs
theorem al60 : talloc Try.prog 60 H = some (.v (.ptr H.n 0), H.alloc (.own [.int .i64 0, .flt .f32 0])) := al_ (by kernel_rfl) rfl
theorem ld62 : tload Try.prog 62 H (.v (.ptr id off)) = (rdCells H id off 2).map fun c => (.g c, H) := ld_agg (by kernel_rfl) (by kernel_rfl) id off
theorem st62 (a : List AV) (ha : a.length = 2) : tstore Try.prog 62 H (.v (.ptr id off)) (.g a) = (wrCells H id off a).map fun H' => (.v .und, H') := st_agg (by kernel_rfl) id off a ha
theorem bx62 (c : List AV) : tbox Try.prog 62 H (.g c) = if c.all AV.stor = true then some (.v (.ptr H.n 0), H.alloc (.own c)) else none := bxg_ (by kernel_rfl) c
theorem fa62_0 : tfieldAddr Try.prog 62 0 H (.v (.ptr id off)) = some (.v (.ptr id (off + 0)), H) := fa_ (n := 1) (b := false) (by kernel_rfl) id off
theorem fv62_0 (cs : List AV) : tfieldV Try.prog 62 0 H (.g cs) = (cs[0]?).map fun c => (.v c, H) := tfieldV_c (n := 1) (by kernel_rfl) cs
theorem fa62_1 : tfieldAddr Try.prog 62 1 H (.v (.ptr id off)) = some (.v (.ptr id (off + 1)), H) := fa_ (n := 1) (b := false) (by kernel_rfl) id off
theorem fv62_1 (cs : List AV) : tfieldV Try.prog 62 1 H (.g cs) = (cs[1]?).map fun c => (.v c, H) := tfieldV_c (n := 1) (by kernel_rfl) cs
theorem al62 : talloc Try.prog 62 H = some (.v (.ptr H.n 0), H.alloc (.own [.int .i64 0, .flt .f32 0])) := al_ (by kernel_rfl) rfl
theorem ld70 : tload Try.prog 70 H (.v (.ptr id off)) = (rdCell H id off).map fun c => (.v c, H) := ld_cell (by kernel_rfl) id off
theorem st70 (a : AV) : tstore Try.prog 70 H (.v (.ptr id off)) (.v a) = (wrCells H id off [a]).map fun H' => (.v .und, H') := st_cell (by kernel_rfl) id off a
theorem bx70 (c : AV) : tbox Try.prog 70 H (.v c) = if c.stor = true then some (.v (.ptr H.n 0), H.alloc (.own [c])) else none := bxv_ (by kernel_rfl) c
theorem al70 : talloc Try.prog 70 H = some (.v (.ptr H.n 0), H.alloc (.own [.int .u64 0])) := al_ (by kernel_rfl) rfl
theorem ld72 : tload Try.prog 72 H (.v (.ptr id off)) = (rdCell H id off).map fun c => (.v c, H) := ld_cell (by kernel_rfl) id off
theorem st72 (a : AV) : tstore Try.prog 72 H (.v (.ptr id off)) (.v a) = (wrCells H id off [a]).map fun H' => (.v .und, H') := st_cell (by kernel_rfl) id off a
theorem bx72 (c : AV) : tbox Try.prog 72 H (.v c) = if c.stor = true then some (.v (.ptr H.n 0), H.alloc (.own [c])) else none := bxv_ (by kernel_rfl) c
theorem al72 : talloc Try.prog 72 H = some (.v (.ptr H.n 0), H.alloc (.own [.int .u32 0])) := al_ (by kernel_rfl) rfl
theorem ld73 : tload Try.prog 73 H (.v (.ptr id off)) = (rdCell H id off).map fun c => (.v c, H) := ld_cell (by kernel_rfl) id off
theorem st73 (a : AV) : tstore Try.prog 73 H (.v (.ptr id off)) (.v a) = (wrCells H id off [a]).map fun H' => (.v .und, H') := st_cell (by kernel_rfl) id off a
theorem bx73 (c : AV) : tbox Try.prog 73 H (.v c) = if c.stor = true then some (.v (.ptr H.n 0), H.alloc (.own [c])) else none := bxv_ (by kernel_rfl) c
theorem al73 : talloc Try.prog 73 H = some (.v (.ptr H.n 0), H.alloc (.own [.nilsl])) := al_ (by kernel_rfl) rfl
theorem len73 (len : Nat) : abuiltin Try.prog .len [73].toArray [.v (.sl id off len 1)] H = some (.v (.int .i64 len), H) := alen_sl (by kernel_rfl)
theorem lenn73 : abuiltin Try.prog .len [73].toArray [.v .nilsl] H = some (.v (.int .i64 0), H) := alen_nil (by kernel_rfl)
theorem ia73 (len : Nat) (k : IntKind) (n : Int) (h2 : 0 ≤ n) (h3 : n < len) : tindexAddr Try.prog 73 H (.v (.sl id off len 1)) (.v (.int k n)) = some (.v (.ptr id (off + n.toNat * 1)), H) := ia_ (by kernel_rfl) id off len k n h2 h3
theorem mk73 (n : Int) (h7 : 0 ≤ n) (h8 : n * 1 ≤ 2 ^ 40) : tmake Try.prog 73 H (.v (.int .i64 n)) (.v (.int .i64 n)) = some (.v (.sl H.n 0 n.toNat 1), H.alloc (.own (zerosOf [.int .u8 0] n.toNat))) := mk_ (P := Try.prog) (t := 73) (H := H) (e := 5) (sz := 1) (bys := 1) (z := [.int .u8 0]) (by kernel_rfl) (by kernel_rfl) (by kernel_rfl) (by kernel_rfl) rfl rfl n n h7 (Int.le_refl _) (by omega) h8
theorem ap73 (x y : AV) : abuiltin Try.prog .append [73, 73].toArray [.v x, .v y] H = aappend H 1 1 x y := aappend_to (by kernel_rfl)
theorem sl73 (len : Nat) (l h : Option Int) (a b : Nat) (h2 : slBounds len l h = some (a, b)) : tslice Try.prog 73 H (some l) (some h) (.v (.sl id off len 1)) = some (.v (.sl id (off + a * 1) (b - a) 1), H) := tslice_sl (by kernel_rfl) h2
theorem bs73_0 : tbs Try.prog 73 0 H [] = some (.v (.sl H.n 0 0 1), H.alloc (.own [])) := tbs_0 (e := 5) (z := [.int .u8 0]) (by kernel_rfl) (by kernel_rfl) (by kernel_rfl) rfl
theorem bs73_1 (a : AV) (ha : a.stor = true) : tbs Try.prog 73 1 H [(0, .v a)] = some (.v (.sl H.n 0 1 1), H.alloc (.own [a])) := tbs_1 (e := 5) (z := .int .u8 0) (by kernel_rfl) (by kernel_rfl) (by kernel_rfl) a ha
theorem bs73_2 (a b : AV) (ha : a.stor = true) (hb : b.stor = true) : tbs Try.prog 73 2 H [(0, .v a), (1, .v b)] = some (.v (.sl H.n 0 2 1), H.alloc (.own [a, b])) := tbs_2 (e := 5) (z := .int .u8 0) (by kernel_rfl) (by kernel_rfl) (by kernel_rfl) a b ha hb
theorem ld75 : tload Try.prog 75 H (.v (.ptr id off)) = (rdCell H id off).map fun c => (.v c, H) := ld_cell (by kernel_rfl) id off
theorem st75 (a : AV) : tstore Try.prog 75 H (.v (.ptr id off)) (.v a) = (wrCells H id off [a]).map fun H' => (.v .und, H') := st_cell (by kernel_rfl) id off a
theorem bx75 (c : AV) : tbox Try.prog 75 H (.v c) = if c.stor = true then some (.v (.ptr H.n 0), H.alloc (.own [c])) else none := bxv_ (by kernel_rfl) c
theorem al75 : talloc Try.prog 75 H = some (.v (.ptr H.n 0), H.alloc (.own [.nilsl])) := al_ (by kernel_rfl) rfl
theorem len75 (len : Nat) : abuiltin Try.prog .len [75].toArray [.v (.sl id off len 1)] H = some (.v (.int .i64 len), H) := alen_sl (by kernel_rfl)
theorem lenn75 : abuiltin Try.prog .len [75].toArray [.v .nilsl] H = some (.v (.int .i64 0), H) := alen_nil (by kernel_rfl)
theorem ia75 (len : Nat) (k : IntKind) (n : Int) (h2 : 0 ≤ n) (h3 : n < len) : tindexAddr Try.prog 75 H (.v (.sl id off len 1)) (.v (.int k n)) = some (.v (.ptr id (off + n.toNat * 1)), H) := ia_ (by kernel_rfl) id off len k n h2 h3
theorem mk75 (n : Int) (h7 : 0 ≤ n) (h8 : n * 24 ≤ 2 ^ 40) : tmake Try.prog 75 H (.v (.int .i64 n)) (.v (.int .i64 n)) = some (.v (.sl H.n 0 n.toNat 1), H.alloc (.own (zerosOf [.nilsl] n.toNat))) := mk_ (P := Try.prog) (t := 75) (H := H) (e := 22) (sz := 1) (bys := 24) (z := [.nilsl]) (by kernel_rfl) (by kernel_rfl) (by kernel_rfl) (by kernel_rfl) rfl rfl n n h7 (Int.le_refl _) (by omega) h8
theorem ap75 (x y : AV) : abuiltin Try.prog .append [75, 75].toArray [.v x, .v y] H = aappend H 1 24 x y := aappend_to (by kernel_rfl)
theorem sl75 (len : Nat) (l h : Option Int) (a b : Nat) (h2 : slBounds len l h = some (a, b)) : tslice Try.prog 75 H (some l) (some h) (.v (.sl id off len 1)) = some (.v (.sl id (off + a * 1) (b - a) 1), H) := tslice_sl (by kernel_rfl) h2
theorem bs75_0 : tbs Try.prog 75 0 H [] = some (.v (.sl H.n 0 0 1), H.alloc (.own [])) := tbs_0 (e := 22) (z := [.nilsl]) (by kernel_rfl) (by kernel_rfl) (by kernel_rfl) rfl
theorem bs75_1 (a : AV) (ha : a.stor = true) : tbs Try.prog 75 1 H [(0, .v a)] = some (.v (.sl H.n 0 1 1), H.alloc (.own [a])) := tbs_1 (e := 22) (z := .nilsl) (by kernel_rfl) (by kernel_rfl) (by kernel_rfl) a ha
theorem bs75_2 (a b : AV) (ha : a.stor = true) (hb : b.stor = true) : tbs Try.prog 75 2 H [(0, .v a), (1, .v b)] = some (.v (.sl H.n 0 2 1), H.alloc (.own [a, b])) := tbs_2 (e := 22) (z := .nilsl) (by kernel_rfl) (by kernel_rfl) (by kernel_rfl) a b ha hb
theorem cv2_2 (n : Int) : tconv Try.prog 2 2 H (.v (.int .i64 n)) = some (.v (.int .i64 (IntKind.i64.wrap n)), H) := tconv_int (by kernel_rfl) (by kernel_rfl)
theorem cv2_3 (n : Int) : tconv Try.prog 2 3 H (.v (.int .i64 n)) = some (.v (.int .i64 (IntKind.i64.wrap n)), H) := tconv_int (by kernel_rfl) (by kernel_rfl)
theorem cv2_5 (n : Int) : tconv Try.prog 2 5 H (.v (.int .i64 n)) = some (.v (.int .u8 (IntKind.u8.wrap n)), H) := tconv_int (by kernel_rfl) (by kernel_rfl)
theorem cv2_12 (n : Int) : tconv Try.prog 2 12 H (.v (.int .i64 n)) = some (.v (.int .u64 (IntKind.u64.wrap n)), H) := tconv_int (by kernel_rfl) (by kernel_rfl)
theorem cv2_21 (n : Int) : tconv Try.prog 2 21 H (.v (.int .i64 n)) = some (.v (.int .i32 (IntKind.i32.wrap n)), H) := tconv_int (by kernel_rfl) (by kernel_rfl)
theorem cv2_29 (n : Int) : tconv Try.prog 2 29 H (.v (.int .i64 n)) = some (.v (.flt .f32 (cz .f32 (floatOfInt .f32 n))), H) := tconv_itof (by kernel_rfl) (by kernel_rfl) (by kernel_rfl)
theorem cv2_52 (n : Int) : tconv Try.prog 2 52 H (.v (.int .i64 n)) = some (.v (.flt .f64 (cz .f64 (floatOfInt .f64 n))), H) := tconv_itof (by kernel_rfl) (by kernel_rfl) (by kernel_rfl)
theorem cv2_70 (n : Int) : tconv Try.prog 2 70 H (.v (.int .i64 n)) = some (.v (.int .u64 (IntKind.u64.wrap n)), H) := tconv_int (by kernel_rfl) (by kernel_rfl)
theorem cv2_72 (n : Int) : tconv Try.prog 2 72 H (.v (.int .i64 n)) = some (.v (.int .u32 (IntKind.u32.wrap n)), H) := tconv_int (by kernel_rfl) (by kernel_rfl)
theorem cv3_2 (n : Int) : tconv Try.prog 3 2 H (.v (.int .i64 n)) = some (.v (.int .i64 (IntKind.i64.wrap n)), H) := tconv_int (by kernel_rfl) (by kernel_rfl)
theorem cv3_3 (n : Int) : tconv Try.prog 3 3 H (.v (.int .i64 n)) = some (.v (.int .i64 (IntKind.i64.wrap n)), H) := tconv_int (by kernel_rfl) (by kernel_rfl)
theorem cv3_5 (n : Int) : tconv Try.prog 3 5 H (.v (.int .i64 n)) = some (.v (.int .u8 (IntKind.u8.wrap n)), H) := tconv_int (by kernel_rfl) (by kernel_rfl)
theorem cv3_12 (n : Int) : tconv Try.prog 3 12 H (.v (.int .i64 n)) = some (.v (.int .u64 (IntKind.u64.wrap n)), H) := tconv_int (by kernel_rfl) (by kernel_rfl)
theorem cv3_21 (n : Int) : tconv Try.prog 3 21 H (.v (.int .i64 n)) = some (.v (.int .i32 (IntKind.i32.wrap n)), H) := tconv_int (by kernel_rfl) (by kernel_rfl)
theorem cv3_29 (n : Int) : tconv Try.prog 3 29 H (.v (.int .i64 n)) = some (.v (.flt .f32 (cz .f32 (floatOfInt .f32 n))), H) := tconv_itof (by kernel_rfl) (by kernel_rfl) (by kernel_rfl)
theorem cv3_52 (n : Int) : tconv Try.prog 3 52 H (.v (.int .i64 n)) = some (.v (.flt .f64 (cz .f64 (floatOfInt .f64 n))), H) := tconv_itof (by kernel_rfl) (by kernel_rfl) (by kernel_rfl)
theorem cv3_70 (n : Int) : tconv Try.prog 3 70 H (.v (.int .i64 n)) = some (.v (.int .u64 (IntKind.u64.wrap n)), H) := tconv_int (by kernel_rfl) (by kernel_rfl)
theorem cv3_72 (n : Int) : tconv Try.prog 3 72 H (.v (.int .i64 n)) = some (.v (.int .u32 (IntKind.u32.wrap n)), H) := tconv_int (by kernel_rfl) (by kernel_rfl)
theorem cv5_2 (n : Int) : tconv Try.prog 5 2 H (.v (.int .u8 n)) = some (.v (.int .i64 (IntKind.i64.wrap n)), H) := tconv_int (by kernel_rfl) (by kernel_rfl)
theorem cv5_3 (n : Int) : tconv Try.prog 5 3 H (.v (.int .u8 n)) = some (.v (.int .i64 (IntKind.i64.wrap n)), H) := tconv_int (by kernel_rfl) (by kernel_rfl)
theorem cv5_5 (n : Int) : tconv Try.prog 5 5 H (.v (.int .u8 n)) = some (.v (.int .u8 (IntKind.u8.wrap n)), H) := tconv_int (by kernel_rfl) (by kernel_rfl)
theorem cv5_12 (n : Int) : tconv Try.prog 5 12 H (.v (.int .u8 n)) = some (.v (.int .u64 (IntKind.u64.wrap n)), H) := tconv_int (by kernel_rfl) (by kernel_rfl)
theorem cv5_21 (n : Int) : tconv Try.prog 5 21 H (.v (.int .u8 n)) = some (.v (.int .i32 (IntKind.i32.wrap n)), H) := tconv_int (by kernel_rfl) (by kernel_rfl)
theorem cv5_29 (n : Int) : tconv Try.prog 5 29 H (.v (.int .u8 n)) = some (.v (.flt .f32 (cz .f32 (floatOfInt .f32 n))), H) := tconv_itof (by kernel_rfl) (by kernel_rfl) (by kernel_rfl)
theorem cv5_52 (n : Int) : tconv Try.prog 5 52 H (.v (.int .u8 n)) = some (.v (.flt .f64 (cz .f64 (floatOfInt .f64 n))), H) := tconv_itof (by kernel_rfl) (by kernel_rfl) (by kernel_rfl)
theorem cv5_70 (n : Int) : tconv Try.prog 5 70 H (.v (.int .u8 n)) = some (.v (.int .u64 (IntKind.u64.wrap n)), H) := tconv_int (by kernel_rfl) (by kernel_rfl)
theorem cv5_72 (n : Int) : tconv Try.prog 5 72 H (.v (.int .u8 n)) = some (.v (.int .u32 (IntKind.u32.wrap n)), H) := tconv_int (by kernel_rfl) (by kernel_rfl)
theorem cv9_9 (x : ByteArray) : tconv Try.prog 9 9 H (.v (.str x)) = some (.v (.str x), H) := tconv_str (by kernel_rfl) (by kernel_rfl)
theorem cv12_2 (n : Int) : tconv Try.prog 12 2 H (.v (.int .u64 n)) = some (.v (.int .i64 (IntKind.i64.wrap n)), H) := tconv_int (by kernel_rfl) (by kernel_rfl)
theorem cv12_3 (n : Int) : tconv Try.prog 12 3 H (.v (.int .u64 n)) = some (.v (.int .i64 (IntKind.i64.wrap n)), H) := tconv_int (by kernel_rfl) (by kernel_rfl)
theorem cv12_5 (n : Int) : tconv Try.prog 12 5 H (.v (.int .u64 n)) = some (.v (.int .u8 (IntKind.u8.wrap n)), H) := tconv_int (by kernel_rfl) (by kernel_rfl)
theorem cv12_12 (n : Int) : tconv Try.prog 12 12 H (.v (.int .u64 n)) = some (.v (.int .u64 (IntKind.u64.wrap n)), H) := tconv_int (by kernel_rfl) (by kernel_rfl)
theorem cv12_21 (n : Int) : tconv Try.prog 12 21 H (.v (.int .u64 n)) = some (.v (.int .i32 (IntKind.i32.wrap n)), H) := tconv_int (by kernel_rfl) (by kernel_rfl)
theorem cv12_29 (n : Int) : tconv Try.prog 12 29 H (.v (.int .u64 n)) = some (.v (.flt .f32 (cz .f32 (floatOfInt .f32 n))), H) := tconv_itof (by kernel_rfl) (by kernel_rfl) (by kernel_rfl)
theorem cv12_52 (n : Int) : tconv Try.prog 12 52 H (.v (.int .u64 n)) = some (.v (.flt .f64 (cz .f64 (floatOfInt .f64 n))), H) := tconv_itof (by kernel_rfl) (by kernel_rfl) (by kernel_rfl)
theorem cv12_70 (n : Int) : tconv Try.prog 12 70 H (.v (.int .u64 n)) = some (.v (.int .u64 (IntKind.u64.wrap n)), H) := tconv_int (by kernel_rfl) (by kernel_rfl)
theorem cv12_72 (n : Int) : tconv Try.prog 12 72 H (.v (.int .u64 n)) = some (.v (.int .u32 (IntKind.u32.wrap n)), H) := tconv_int (by kernel_rfl) (by kernel_rfl)
theorem cv21_2 (n : Int) : tconv Try.prog 21 2 H (.v (.int .i32 n)) = some (.v (.int .i64 (IntKind.i64.wrap n)), H) := tconv_int (by kernel_rfl) (by kernel_rfl)
theorem cv21_3 (n : Int) : tconv Try.prog 21 3 H (.v (.int .i32 n)) = some (.v (.int .i64 (IntKind.i64.wrap n)), H) := tconv_int (by kernel_rfl) (by kernel_rfl)
theorem cv21_5 (n : Int) : tconv Try.prog 21 5 H (.v (.int .i32 n)) = some (.v (.int .u8 (IntKind.u8.wrap n)), H) := tconv_int (by kernel_rfl) (by kernel_rfl)
theorem cv21_12 (n : Int) : tconv Try.prog 21 12 H (.v (.int .i32 n)) = some (.v (.int .u64 (IntKind.u64.wrap n)), H) := tconv_int (by kernel_rfl) (by kernel_rfl)
theorem cv21_21 (n : Int) : tconv Try.prog 21 21 H (.v (.int .i32 n)) = some (.v (.int .i32 (IntKind.i32.wrap n)), H) := tconv_int (by kernel_rfl) (by kernel_rfl)
theorem cv21_29 (n : Int) : tconv Try.prog 21 29 H (.v (.int .i32 n)) = some (.v (.flt .f32 (cz .f32 (floatOfInt .f32 n))), H) := tconv_itof (by kernel_rfl) (by kernel_rfl) (by kernel_rfl)
theorem cv21_52 (n : Int) : tconv Try.prog 21 52 H (.v (.int .i32 n)) = some (.v (.flt .f64 (cz .f64 (floatOfInt .f64 n))), H) := tconv_itof (by kernel_rfl) (by kernel_rfl) (by kernel_rfl)
theorem cv21_70 (n : Int) : tconv Try.prog 21 70 H (.v (.int .i32 n)) = some (.v (.int .u64 (IntKind.u64.wrap n)), H) := tconv_int (by kernel_rfl) (by kernel_rfl)
theorem cv21_72 (n : Int) : tconv Try.prog 21 72 H (.v (.int .i32 n)) = some (.v (.int .u32 (IntKind.u32.wrap n)), H) := tconv_int (by kernel_rfl) (by kernel_rfl)
theorem cv29_2 (b : Nat) (n : Int) (h : floatToIntVal .f32 b .i64 = some n) : tconv Try.prog 29 2 H (.v (.flt .f32 b)) = some (.v (.int .i64 n), H) := tconv_ftoi (by kernel_rfl) (by kernel_rfl) h
theorem cv29_3 (b : Nat) (n : Int) (h : floatToIntVal .f32 b .i64 = some n) : tconv Try.prog 29 3 H (.v (.flt .f32 b)) = some (.v (.int .i64 n), H) := tconv_ftoi (by kernel_rfl) (by kernel_rfl) h
theorem cv29_5 (b : Nat) (n : Int) (h : floatToIntVal .f32 b .u8 = some n) : tconv Try.prog 29 5 H (.v (.flt .f32 b)) = some (.v (.int .u8 n), H) := tconv_ftoi (by kernel_rfl) (by kernel_rfl) h
theorem cv29_12 (b : Nat) (n : Int) (h : floatToIntVal .f32 b .u64 = some n) : tconv Try.prog 29 12 H (.v (.flt .f32 b)) = some (.v (.int .u64 n), H) := tconv_ftoi (by kernel_rfl) (by kernel_rfl) h
theorem cv29_21 (b : Nat) (n : Int) (h : floatToIntVal .f32 b .i32 = some n) : tconv Try.prog 29 21 H (.v (.flt .f32 b)) = some (.v (.int .i32 n), H) := tconv_ftoi (by kernel_rfl) (by kernel_rfl) h
theorem cv29_29 (b : Nat) : tconv Try.prog 29 29 H (.v (.flt .f32 b)) = some (.v (.flt .f32 b), H) := tconv_ftof_same (by kernel_rfl) (by kernel_rfl) (by kernel_rfl)
theorem cv29_52 (b : Nat) : tconv Try.prog 29 52 H (.v (.flt .f32 b)) = some (.v (.flt .f64 (widen b)), H) := tconv_ftof (by kernel_rfl) (by kernel_rfl) (by kernel_rfl) (widen_eq b)
theorem cv29_70 (b : Nat) (n : Int) (h : floatToIntVal .f32 b .u64 = some n) : tconv Try.prog 29 70 H (.v (.flt .f32 b)) = some (.v (.int .u64 n), H) := tconv_ftoi (by kernel_rfl) (by kernel_rfl) h
theorem cv29_72 (b : Nat) (n : Int) (h : floatToIntVal .f32 b .u32 = some n) : tconv Try.prog 29 72 H (.v (.flt .f32 b)) = some (.v (.int .u32 n), H) := tconv_ftoi (by kernel_rfl) (by kernel_rfl) h
theorem cv52_2 (b : Nat) (n : Int) (h : floatToIntVal .f64 b .i64 = some n) : tconv Try.prog 52 2 H (.v (.flt .f64 b)) = some (.v (.int .i64 n), H) := tconv_ftoi (by kernel_rfl) (by kernel_rfl) h
theorem cv52_3 (b : Nat) (n : Int) (h : floatToIntVal .f64 b .i64 = some n) : tconv Try.prog 52 3 H (.v (.flt .f64 b)) = some (.v (.int .i64 n), H) := tconv_ftoi (by kernel_rfl) (by kernel_rfl) h
theorem cv52_5 (b : Nat) (n : Int) (h : floatToIntVal .f64 b .u8 = some n) : tconv Try.prog 52 5 H (.v (.flt .f64 b)) = some (.v (.int .u8 n), H) := tconv_ftoi (by kernel_rfl) (by kernel_rfl) h
theorem cv52_12 (b : Nat) (n : Int) (h : floatToIntVal .f64 b .u64 = some n) : tconv Try.prog 52 12 H (.v (.flt .f64 b)) = some (.v (.int .u64 n), H) := tconv_ftoi (by kernel_rfl) (by kernel_rfl) h
theorem cv52_21 (b : Nat) (n : Int) (h : floatToIntVal .f64 b .i32 = some n) : tconv Try.prog 52 21 H (.v (.flt .f64 b)) = some (.v (.int .i32 n), H) := tconv_ftoi (by kernel_rfl) (by kernel_rfl) h
theorem cv52_29 (b c : Nat) (h : fconv .f64 b .f32 = some c) : tconv Try.prog 52 29 H (.v (.flt .f64 b)) = some (.v (.flt .f32 c), H) := tconv_ftof (by kernel_rfl) (by kernel_rfl) (by kernel_rfl) h
theorem cv52_52 (b : Nat) : tconv Try.prog 52 52 H (.v (.flt .f64 b)) = some (.v (.flt .f64 b), H) := tconv_ftof_same (by kernel_rfl) (by kernel_rfl) (by kernel_rfl)
theorem cv52_70 (b : Nat) (n : Int) (h : floatToIntVal .f64 b .u64 = some n) : tconv Try.prog 52 70 H (.v (.flt .f64 b)) = some (.v (.int .u64 n), H) := tconv_ftoi (by kernel_rfl) (by kernel_rfl) h
theorem cv52_72 (b : Nat) (n : Int) (h : floatToIntVal .f64 b .u32 = some n) : tconv Try.prog 52 72 H (.v (.flt .f64 b)) = some (.v (.int .u32 n), H) := tconv_ftoi (by kernel_rfl) (by kernel_rfl) h
theorem cv70_2 (n : Int) : tconv Try.prog 70 2 H (.v (.int .u64 n)) = some (.v (.int .i64 (IntKind.i64.wrap n)), H) := tconv_int (by kernel_rfl) (by kernel_rfl)
theorem cv70_3 (n : Int) : tconv Try.prog 70 3 H (.v (.int .u64 n)) = some (.v (.int .i64 (IntKind.i64.wrap n)), H) := tconv_int (by kernel_rfl) (by kernel_rfl)
theorem cv70_5 (n : Int) : tconv Try.prog 70 5 H (.v (.int .u64 n)) = some (.v (.int .u8 (IntKind.u8.wrap n)), H) := tconv_int (by kernel_rfl) (by kernel_rfl)
theorem cv70_12 (n : Int) : tconv Try.prog 70 12 H (.v (.int .u64 n)) = some (.v (.int .u64 (IntKind.u64.wrap n)), H) := tconv_int (by kernel_rfl) (by kernel_rfl)
theorem cv70_21 (n : Int) : tconv Try.prog 70 21 H (.v (.int .u64 n)) = some (.v (.int .i32 (IntKind.i32.wrap n)), H) := tconv_int (by kernel_rfl) (by kernel_rfl)
theorem cv70_29 (n : Int) : tconv Try.prog 70 29 H (.v (.int .u64 n)) = some (.v (.flt .f32 (cz .f32 (floatOfInt .f32 n))), H) := tconv_itof (by kernel_rfl) (by kernel_rfl) (by kernel_rfl)
theorem cv70_52 (n : Int) : tconv Try.prog 70 52 H (.v (.int .u64 n)) = some (.v (.flt .f64 (cz .f64 (floatOfInt .f64 n))), H) := tconv_itof (by kernel_rfl) (by kernel_rfl) (by kernel_rfl)
theorem cv70_70 (n : Int) : tconv Try.prog 70 70 H (.v (.int .u64 n)) = some (.v (.int .u64 (IntKind.u64.wrap n)), H) := tconv_int (by kernel_rfl) (by kernel_rfl)
theorem cv70_72 (n : Int) : tconv Try.prog 70 72 H (.v (.int .u64 n)) = some (.v (.int .u32 (IntKind.u32.wrap n)), H) := tconv_int (by kernel_rfl) (by kernel_rfl)
theorem cv72_2 (n : Int) : tconv Try.prog 72 2 H (.v (.int .u32 n)) = some (.v (.int .i64 (IntKind.i64.wrap n)), H) := tconv_int (by kernel_rfl) (by kernel_rfl)
theorem cv72_3 (n : Int) : tconv Try.prog 72 3 H (.v (.int .u32 n)) = some (.v (.int .i64 (IntKind.i64.wrap n)), H) := tconv_int (by kernel_rfl) (by kernel_rfl)
theorem cv72_5 (n : Int) : tconv Try.prog 72 5 H (.v (.int .u32 n)) = some (.v (.int .u8 (IntKind.u8.wrap n)), H) := tconv_int (by kernel_rfl) (by kernel_rfl)
theorem cv72_12 (n : Int) : tconv Try.prog 72 12 H (.v (.int .u32 n)) = some (.v (.int .u64 (IntKind.u64.wrap n)), H) := tconv_int (by kernel_rfl) (by kernel_rfl)
theorem cv72_21 (n : Int) : tconv Try.prog 72 21 H (.v (.int .u32 n)) = some (.v (.int .i32 (IntKind.i32.wrap n)), H) := tconv_int (by kernel_rfl) (by kernel_rfl)
theorem cv72_29 (n : Int) : tconv Try.prog 72 29 H (.v (.int .u32 n)) = some (.v (.flt .f32 (cz .f32 (floatOfInt .f32 n))), H) := tconv_itof (by kernel_rfl) (by kernel_rfl) (by kernel_rfl)
theorem cv72_52 (n : Int) : tconv Try.prog 72 52 H (.v (.int .u32 n)) = some (.v (.flt .f64 (cz .f64 (floatOfInt .f64 n))), H) := tconv_itof (by kernel_rfl) (by kernel_rfl) (by kernel_rfl)
theorem cv72_70 (n : Int) : tconv Try.prog 72 70 H (.v (.int .u32 n)) = some (.v (.int .u64 (IntKind.u64.wrap n)), H) := tconv_int (by kernel_rfl) (by kernel_rfl)
theorem cv72_72 (n : Int) : tconv Try.prog 72 72 H (.v (.int .u32 n)) = some (.v (.int .u32 (IntKind.u32.wrap n)), H) := tconv_int (by kernel_rfl) (by kernel_rfl)
end
attribute [go_sem] be4 bn4 ld2 st2 bx2 al2 ld3 st3 bx3 al3 ld4 st4 bx4 al4 ld5 st5 bx5 al5 ld9 st9
attribute [go_sem] bx9 al9 len9 ld12 st12 bx12 al12 ld21 st21 bx21 al21 ld22 st22 bx22 al22 len22 lenn22 ia22 ap22 sl22
attribute [go_sem] bs22_0 bs22_1 bs22_2 ld29 st29 bx29 al29 ld36 st36 bx36 al36 len36 lenn36 ia36 ap36 sl36 bs36_0 bs36_1 ld38 st38
attribute [go_sem] bx38 al38 len38 lenn38 ia38 ap38 sl38 bs38_0 bs38_1 bs38_2 ld41 st41 bx41 al41 len41 lenn41 ia41 ap41 sl41 bs41_0
attribute [go_sem] bs41_1 ld52 st52 bx52 al52 ld59 st59 bx59 fa59_0 fv59_0 fa59_1 fv59_1 al59 ld60 st60 bx60 fa60_0 fv60_0 fa60_1 fv60_1
attribute [go_sem] al60 ld62 st62 bx62 fa62_0 fv62_0 fa62_1 fv62_1 al62 ld70 st70 bx70 al70 ld72 st72 bx72 al72 ld73 st73 bx73
attribute [go_sem] al73 len73 lenn73 ia73 ap73 sl73 bs73_0 bs73_1 bs73_2 ld75 st75 bx75 al75 len75 lenn75 ia75 ap75 sl75 bs75_0 bs75_1
attribute [go_sem] bs75_2 cv2_2 cv2_3 cv2_5 cv2_12 cv2_21 cv2_29 cv2_52 cv2_70 cv2_72 cv3_2 cv3_3 cv3_5 cv3_12 cv3_21 cv3_29 cv3_52 cv3_70 cv3_72 cv5_2
attribute [go_sem] cv5_3 cv5_5 cv5_12 cv5_21 cv5_29 cv5_52 cv5_70 cv5_72 cv9_9 cv12_2 cv12_3 cv12_5 cv12_12 cv12_21 cv12_29 cv12_52 cv12_70 cv12_72 cv21_2 cv21_3
attribute [go_sem] cv21_5 cv21_12 cv21_21 cv21_29 cv21_52 cv21_70 cv21_72 cv29_2 cv29_3 cv29_5 cv29_12 cv29_21 cv29_29 cv29_52 cv29_70 cv29_72 cv52_2 cv52_3 cv52_5 cv52_12
attribute [go_sem] cv52_21 cv52_29 cv52_52 cv52_70 cv52_72 cv70_2 cv70_3 cv70_5 cv70_12 cv70_21 cv70_29 cv70_52 cv70_70 cv70_72 cv72_2 cv72_3 cv72_5 cv72_12 cv72_21 cv72_29
attribute [go_sem] cv72_52 cv72_70 cv72_72
end Go.Proofs.Ytdfihkbkldcecab.F
