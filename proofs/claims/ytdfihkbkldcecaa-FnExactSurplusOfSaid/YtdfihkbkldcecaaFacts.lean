/-
  What the plain types of this program are, as rewrite rules. Printed by a program of the session; nothing here is trusted.
-/
import Derived.Test.YtdfihkbkldcecaaProg
import Derived.Test.YtdfihkbkldcecaaAbH
import Derived.KernelRfl
namespace Go.Proofs.Ytdfihkbkldcecaa.F
open Go Go.Ab Go.Proofs
set_option maxRecDepth 100000
set_option linter.unusedVariables false
set_option linter.unusedSimpArgs false
section
variable (H : Heap) (id off : Nat)
theorem hm : Try.prog.follows .mixedOrders = true := by kernel_rfl
theorem be4 (c d : Bool) : tbin Try.prog .eql 4 (.v (.bool c)) (.v (.bool d)) = some (.v (.bool (c == d))) := tbin_beql (by kernel_rfl)
theorem bn4 (c d : Bool) : tbin Try.prog .neq 4 (.v (.bool c)) (.v (.bool d)) = some (.v (.bool (!(c == d)))) := tbin_bneq (by kernel_rfl)
theorem ld2 : tload Try.prog 2 H (.v (.ptr id off)) = (rdCell H id off).map fun c => (.v c, H) := ld_cell (by kernel_rfl) id off
theorem st2 (a : AV) : tstore Try.prog 2 H (.v (.ptr id off)) (.v a) = (wrCells H id off [a]).map fun H' => (.v .und, H') := st_cell (by kernel_rfl) id off a
theorem bx2 (c : AV) : tbox Try.prog 2 H (.v c) = if c.stor = true then some (.v (.ptr H.n 0), H.alloc (.own [c])) else none := bxv_ (by kernel_rfl) c
theorem al2 : talloc Try.prog 2 H = some (.v (.ptr H.n 0), H.alloc (.own [.int .i64 0])) := al_ (by kernel_rfl) rfl
theorem ld3 : tload Try.prog 3 H (.v (.ptr id off)) = (rdCell H id off).map fun c => (.v c, H) := ld_cell (by kernel_rfl) id off
theorem st3 (a : AV) : tstore Try.prog 3 H (.v (.ptr id off)) (.v a) = (wrCells H id off [a]).map fun H' => (.v .und, H') := st_cell (by kernel_rfl) id off a
theorem bx3 (c : AV) : tbox Try.prog 3 H (.v c) = if c.stor = true then some (.v (.ptr H.n 0), H.alloc (.own [c])) else none := bxv_ (by kernel_rfl) c
theorem al3 : talloc Try.prog 3 H = some (.v (.ptr H.n 0), H.alloc (.own [.int .i64 0])) := al_ (by kernel_rfl) rfl
theorem ld4 : tload Try.prog 4 H (.v (.ptr id off)) = (rdCell H id off).map fun c => (.v c, H) := ld_cell (by kernel_rfl) id off
theorem st4 (a : AV) : tstore Try.prog 4 H (.v (.ptr id off)) (.v a) = (wrCells H id off [a]).map fun H' => (.v .und, H') := st_cell (by kernel_rfl) id off a
theorem bx4 (c : AV) : tbox Try.prog 4 H (.v c) = if c.stor = true then some (.v (.ptr H.n 0), H.alloc (.own [c])) else none := bxv_ (by kernel_rfl) c
theorem al4 : talloc Try.prog 4 H = some (.v (.ptr H.n 0), H.alloc (.own [.bool false])) := al_ (by kernel_rfl) rfl
theorem ld5 : tload Try.prog 5 H (.v (.ptr id off)) = (rdCell H id off).map fun c => (.v c, H) := ld_cell (by kernel_rfl) id off
theorem st5 (a : AV) : tstore Try.prog 5 H (.v (.ptr id off)) (.v a) = (wrCells H id off [a]).map fun H' => (.v .und, H') := st_cell (by kernel_rfl) id off a
theorem bx5 (c : AV) : tbox Try.prog 5 H (.v c) = if c.stor = true then some (.v (.ptr H.n 0), H.alloc (.own [c])) else none := bxv_ (by kernel_rfl) c
theorem al5 : talloc Try.prog 5 H = some (.v (.ptr H.n 0), H.alloc (.own [.int .u8 0])) := al_ (by kernel_rfl) rfl
theorem ld9 : tload Try.prog 9 H (.v (.ptr id off)) = (rdCell H id off).map fun c => (.v c, H) := ld_cell (by kernel_rfl) id off
theorem st9 (a : AV) : tstore Try.prog 9 H (.v (.ptr id off)) (.v a) = (wrCells H id off [a]).map fun H' => (.v .und, H') := st_cell (by kernel_rfl) id off a
theorem bx9 (c : AV) : tbox Try.prog 9 H (.v c) = if c.stor = true then some (.v (.ptr H.n 0), H.alloc (.own [c])) else none := bxv_ (by kernel_rfl) c
theorem al9 : talloc Try.prog 9 H = some (.v (.ptr H.n 0), H.alloc (.own [.str ByteArray.empty])) := al_ (by kernel_rfl) rfl
theorem len9 (x : ByteArray) : abuiltin Try.prog .len [9].toArray [.v (.str x)] H = some (.v (.int .i64 x.size), H) := alen_str (by kernel_rfl)
theorem ld12 : tload Try.prog 12 H (.v (.ptr id off)) = (rdCell H id off).map fun c => (.v c, H) := ld_cell (by kernel_rfl) id off
theorem st12 (a : AV) : tstore Try.prog 12 H (.v (.ptr id off)) (.v a) = (wrCells H id off [a]).map fun H' => (.v .und, H') := st_cell (by kernel_rfl) id off a
theorem bx12 (c : AV) : tbox Try.prog 12 H (.v c) = if c.stor = true then some (.v (.ptr H.n 0), H.alloc (.own [c])) else none := bxv_ (by kernel_rfl) c
theorem al12 : talloc Try.prog 12 H = some (.v (.ptr H.n 0), H.alloc (.own [.int .u64 0])) := al_ (by kernel_rfl) rfl
theorem ld21 : tload Try.prog 21 H (.v (.ptr id off)) = (rdCell H id off).map fun c => (.v c, H) := ld_cell (by kernel_rfl) id off
theorem st21 (a : AV) : tstore Try.prog 21 H (.v (.ptr id off)) (.v a) = (wrCells H id off [a]).map fun H' => (.v .und, H') := st_cell (by kernel_rfl) id off a
theorem bx21 (c : AV) : tbox Try.prog 21 H (.v c) = if c.stor = true then some (.v (.ptr H.n 0), H.alloc (.own [c])) else none := bxv_ (by kernel_rfl) c
theorem al21 : talloc Try.prog 21 H = some (.v (.ptr H.n 0), H.alloc (.own [.int .i32 0])) := al_ (by kernel_rfl) rfl
theorem ld22 : tload Try.prog 22 H (.v (.ptr id off)) = (rdCell H id off).map fun c => (.v c, H) := ld_cell (by kernel_rfl) id off
theorem st22 (a : AV) : tstore Try.prog 22 H (.v (.ptr id off)) (.v a) = (wrCells H id off [a]).map fun H' => (.v .und, H') := st_cell (by kernel_rfl) id off a
theorem bx22 (c : AV) : tbox Try.prog 22 H (.v c) = if c.stor = true then some (.v (.ptr H.n 0), H.alloc (.own [c])) else none := bxv_ (by kernel_rfl) c
theorem al22 : talloc Try.prog 22 H = some (.v (.ptr H.n 0), H.alloc (.own [.nilsl])) := al_ (by kernel_rfl) rfl
theorem len22 (len : Nat) : abuiltin Try.prog .len [22].toArray [.v (.sl id off len 2)] H = some (.v (.int .i64 len), H) := alen_sl (by kernel_rfl)
theorem lenn22 : abuiltin Try.prog .len [22].toArray [.v .nilsl] H = some (.v (.int .i64 0), H) := alen_nil (by kernel_rfl)
theorem ia22 (len : Nat) (k : IntKind) (n : Int) (h2 : 0 ≤ n) (h3 : n < len) : tindexAddr Try.prog 22 H (.v (.sl id off len 2)) (.v (.int k n)) = some (.v (.ptr id (off + n.toNat * 2)), H) := ia_ (by kernel_rfl) id off len k n h2 h3
theorem mk22 (n : Int) (h7 : 0 ≤ n) (h8 : n * 16 ≤ 2 ^ 40) : tmake Try.prog 22 H (.v (.int .i64 n)) (.v (.int .i64 n)) = some (.v (.sl H.n 0 n.toNat 2), H.alloc (.own (zerosOf [.int .i64 0, .flt .f32 0] n.toNat))) := mk_ (P := Try.prog) (t := 22) (H := H) (e := 50) (sz := 2) (bys := 16) (z := [.int .i64 0, .flt .f32 0]) (by kernel_rfl) (by kernel_rfl) (by kernel_rfl) (by kernel_rfl) rfl rfl n n h7 (Int.le_refl _) (by omega) h8
theorem ap22 (x y : AV) : abuiltin Try.prog .append [22, 22].toArray [.v x, .v y] H = aappend H 2 16 x y := aappend_to (by kernel_rfl)
theorem sl22 (len : Nat) (l h : Option Int) (a b : Nat) (h2 : slBounds len l h = some (a, b)) : tslice Try.prog 22 H (some l) (some h) (.v (.sl id off len 2)) = some (.v (.sl id (off + a * 2) (b - a) 2), H) := tslice_sl (by kernel_rfl) h2
theorem bs22_0 : tbs Try.prog 22 0 H [] = some (.v (.sl H.n 0 0 2), H.alloc (.own [])) := tbs_0 (e := 50) (z := [.int .i64 0, .flt .f32 0]) (by kernel_rfl) (by kernel_rfl) (by kernel_rfl) rfl
theorem bs22_1 (c : List AV) (hc : c.length = 2) (ha : c.all AV.stor = true) : tbs Try.prog 22 1 H [(0, .g c)] = some (.v (.sl H.n 0 1 2), H.alloc (.own c)) := tbs_g (e := 50) (z := [.int .i64 0, .flt .f32 0]) (by kernel_rfl) (by kernel_rfl) (by kernel_rfl) rfl (by decide) hc ha
theorem ld25 : tload Try.prog 25 H (.v (.ptr id off)) = (rdCell H id off).map fun c => (.v c, H) := ld_cell (by kernel_rfl) id off
theorem st25 (a : AV) : tstore Try.prog 25 H (.v (.ptr id off)) (.v a) = (wrCells H id off [a]).map fun H' => (.v .und, H') := st_cell (by kernel_rfl) id off a
theorem bx25 (c : AV) : tbox Try.prog 25 H (.v c) = if c.stor = true then some (.v (.ptr H.n 0), H.alloc (.own [c])) else none := bxv_ (by kernel_rfl) c
theorem al25 : talloc Try.prog 25 H = some (.v (.ptr H.n 0), H.alloc (.own [.nilsl])) := al_ (by kernel_rfl) rfl
theorem len25 (len : Nat) : abuiltin Try.prog .len [25].toArray [.v (.sl id off len 2)] H = some (.v (.int .i64 len), H) := alen_sl (by kernel_rfl)
theorem lenn25 : abuiltin Try.prog .len [25].toArray [.v .nilsl] H = some (.v (.int .i64 0), H) := alen_nil (by kernel_rfl)
theorem ia25 (len : Nat) (k : IntKind) (n : Int) (h2 : 0 ≤ n) (h3 : n < len) : tindexAddr Try.prog 25 H (.v (.sl id off len 2)) (.v (.int k n)) = some (.v (.ptr id (off + n.toNat * 2)), H) := ia_ (by kernel_rfl) id off len k n h2 h3
theorem mk25 (n : Int) (h7 : 0 ≤ n) (h8 : n * 16 ≤ 2 ^ 40) : tmake Try.prog 25 H (.v (.int .i64 n)) (.v (.int .i64 n)) = some (.v (.sl H.n 0 n.toNat 2), H.alloc (.own (zerosOf [.int .i64 0, .flt .f32 0] n.toNat))) := mk_ (P := Try.prog) (t := 25) (H := H) (e := 48) (sz := 2) (bys := 16) (z := [.int .i64 0, .flt .f32 0]) (by kernel_rfl) (by kernel_rfl) (by kernel_rfl) (by kernel_rfl) rfl rfl n n h7 (Int.le_refl _) (by omega) h8
theorem ap25 (x y : AV) : abuiltin Try.prog .append [25, 25].toArray [.v x, .v y] H = aappend H 2 16 x y := aappend_to (by kernel_rfl)
theorem sl25 (len : Nat) (l h : Option Int) (a b : Nat) (h2 : slBounds len l h = some (a, b)) : tslice Try.prog 25 H (some l) (some h) (.v (.sl id off len 2)) = some (.v (.sl id (off + a * 2) (b - a) 2), H) := tslice_sl (by kernel_rfl) h2
theorem bs25_0 : tbs Try.prog 25 0 H [] = some (.v (.sl H.n 0 0 2), H.alloc (.own [])) := tbs_0 (e := 48) (z := [.int .i64 0, .flt .f32 0]) (by kernel_rfl) (by kernel_rfl) (by kernel_rfl) rfl
theorem bs25_1 (c : List AV) (hc : c.length = 2) (ha : c.all AV.stor = true) : tbs Try.prog 25 1 H [(0, .g c)] = some (.v (.sl H.n 0 1 2), H.alloc (.own c)) := tbs_g (e := 48) (z := [.int .i64 0, .flt .f32 0]) (by kernel_rfl) (by kernel_rfl) (by kernel_rfl) rfl (by decide) hc ha
theorem ld29 : tload Try.prog 29 H (.v (.ptr id off)) = (rdCell H id off).map fun c => (.v c, H) := ld_cell (by kernel_rfl) id off
theorem st29 (a : AV) : tstore Try.prog 29 H (.v (.ptr id off)) (.v a) = (wrCells H id off [a]).map fun H' => (.v .und, H') := st_cell (by kernel_rfl) id off a
theorem bx29 (c : AV) : tbox Try.prog 29 H (.v c) = if c.stor = true then some (.v (.ptr H.n 0), H.alloc (.own [c])) else none := bxv_ (by kernel_rfl) c
theorem al29 : talloc Try.prog 29 H = some (.v (.ptr H.n 0), H.alloc (.own [.nilsl])) := al_ (by kernel_rfl) rfl
theorem len29 (len : Nat) : abuiltin Try.prog .len [29].toArray [.v (.sl id off len 1)] H = some (.v (.int .i64 len), H) := alen_sl (by kernel_rfl)
theorem lenn29 : abuiltin Try.prog .len [29].toArray [.v .nilsl] H = some (.v (.int .i64 0), H) := alen_nil (by kernel_rfl)
theorem ia29 (len : Nat) (k : IntKind) (n : Int) (h2 : 0 ≤ n) (h3 : n < len) : tindexAddr Try.prog 29 H (.v (.sl id off len 1)) (.v (.int k n)) = some (.v (.ptr id (off + n.toNat * 1)), H) := ia_ (by kernel_rfl) id off len k n h2 h3
theorem mk29 (n : Int) (h7 : 0 ≤ n) (h8 : n * 4 ≤ 2 ^ 40) : tmake Try.prog 29 H (.v (.int .i64 n)) (.v (.int .i64 n)) = some (.v (.sl H.n 0 n.toNat 1), H.alloc (.own (zerosOf [.flt .f32 0] n.toNat))) := mk_ (P := Try.prog) (t := 29) (H := H) (e := 46) (sz := 1) (bys := 4) (z := [.flt .f32 0]) (by kernel_rfl) (by kernel_rfl) (by kernel_rfl) (by kernel_rfl) rfl rfl n n h7 (Int.le_refl _) (by omega) h8
theorem ap29 (x y : AV) : abuiltin Try.prog .append [29, 29].toArray [.v x, .v y] H = aappend H 1 4 x y := aappend_to (by kernel_rfl)
theorem sl29 (len : Nat) (l h : Option Int) (a b : Nat) (h2 : slBounds len l h = some (a, b)) : tslice Try.prog 29 H (some l) (some h) (.v (.sl id off len 1)) = some (.v (.sl id (off + a * 1) (b - a) 1), H) := tslice_sl (by kernel_rfl) h2
theorem bs29_0 : tbs Try.prog 29 0 H [] = some (.v (.sl H.n 0 0 1), H.alloc (.own [])) := tbs_0 (e := 46) (z := [.flt .f32 0]) (by kernel_rfl) (by kernel_rfl) (by kernel_rfl) rfl
theorem bs29_1 (a : AV) (ha : a.stor = true) : tbs Try.prog 29 1 H [(0, .v a)] = some (.v (.sl H.n 0 1 1), H.alloc (.own [a])) := tbs_1 (e := 46) (z := .flt .f32 0) (by kernel_rfl) (by kernel_rfl) (by kernel_rfl) a ha
theorem bs29_2 (a b : AV) (ha : a.stor = true) (hb : b.stor = true) : tbs Try.prog 29 2 H [(0, .v a), (1, .v b)] = some (.v (.sl H.n 0 2 1), H.alloc (.own [a, b])) := tbs_2 (e := 46) (z := .flt .f32 0) (by kernel_rfl) (by kernel_rfl) (by kernel_rfl) a b ha hb
theorem ld30 : tload Try.prog 30 H (.v (.ptr id off)) = (rdCells H id off 3).map fun c => (.g c, H) := ld_agg (by kernel_rfl) (by kernel_rfl) id off
theorem st30 (a : List AV) (ha : a.length = 3) : tstore Try.prog 30 H (.v (.ptr id off)) (.g a) = (wrCells H id off a).map fun H' => (.v .und, H') := st_agg (by kernel_rfl) id off a ha
theorem bx30 (c : List AV) : tbox Try.prog 30 H (.g c) = if c.all AV.stor = true then some (.v (.ptr H.n 0), H.alloc (.own c)) else none := bxg_ (by kernel_rfl) c
theorem fa30_0 : tfieldAddr Try.prog 30 0 H (.v (.ptr id off)) = some (.v (.ptr id (off + 0)), H) := fa_ (n := 1) (b := false) (by kernel_rfl) id off
theorem fv30_0 (cs : List AV) : tfieldV Try.prog 30 0 H (.g cs) = (cs[0]?).map fun c => (.v c, H) := tfieldV_c (n := 1) (by kernel_rfl) cs
theorem fa30_1 : tfieldAddr Try.prog 30 1 H (.v (.ptr id off)) = some (.v (.ptr id (off + 1)), H) := fa_ (n := 1) (b := false) (by kernel_rfl) id off
theorem fv30_1 (cs : List AV) : tfieldV Try.prog 30 1 H (.g cs) = (cs[1]?).map fun c => (.v c, H) := tfieldV_c (n := 1) (by kernel_rfl) cs
theorem fa30_2 : tfieldAddr Try.prog 30 2 H (.v (.ptr id off)) = some (.v (.ptr id (off + 2)), H) := fa_ (n := 1) (b := false) (by kernel_rfl) id off
theorem fv30_2 (cs : List AV) : tfieldV Try.prog 30 2 H (.g cs) = (cs[2]?).map fun c => (.v c, H) := tfieldV_c (n := 1) (by kernel_rfl) cs
theorem al30 : talloc Try.prog 30 H = some (.v (.ptr H.n 0), H.alloc (.own [.str ByteArray.empty, .int .i64 0, .nilsl])) := al_ (by kernel_rfl) rfl
theorem ld31 : tload Try.prog 31 H (.v (.ptr id off)) = (rdCells H id off 3).map fun c => (.g c, H) := ld_agg (by kernel_rfl) (by kernel_rfl) id off
theorem st31 (a : List AV) (ha : a.length = 3) : tstore Try.prog 31 H (.v (.ptr id off)) (.g a) = (wrCells H id off a).map fun H' => (.v .und, H') := st_agg (by kernel_rfl) id off a ha
theorem bx31 (c : List AV) : tbox Try.prog 31 H (.g c) = if c.all AV.stor = true then some (.v (.ptr H.n 0), H.alloc (.own c)) else none := bxg_ (by kernel_rfl) c
theorem fa31_0 : tfieldAddr Try.prog 31 0 H (.v (.ptr id off)) = some (.v (.ptr id (off + 0)), H) := fa_ (n := 1) (b := false) (by kernel_rfl) id off
theorem fv31_0 (cs : List AV) : tfieldV Try.prog 31 0 H (.g cs) = (cs[0]?).map fun c => (.v c, H) := tfieldV_c (n := 1) (by kernel_rfl) cs
theorem fa31_1 : tfieldAddr Try.prog 31 1 H (.v (.ptr id off)) = some (.v (.ptr id (off + 1)), H) := fa_ (n := 1) (b := false) (by kernel_rfl) id off
theorem fv31_1 (cs : List AV) : tfieldV Try.prog 31 1 H (.g cs) = (cs[1]?).map fun c => (.v c, H) := tfieldV_c (n := 1) (by kernel_rfl) cs
theorem fa31_2 : tfieldAddr Try.prog 31 2 H (.v (.ptr id off)) = some (.v (.ptr id (off + 2)), H) := fa_ (n := 1) (b := false) (by kernel_rfl) id off
theorem fv31_2 (cs : List AV) : tfieldV Try.prog 31 2 H (.g cs) = (cs[2]?).map fun c => (.v c, H) := tfieldV_c (n := 1) (by kernel_rfl) cs
theorem al31 : talloc Try.prog 31 H = some (.v (.ptr H.n 0), H.alloc (.own [.str ByteArray.empty, .int .i64 0, .nilsl])) := al_ (by kernel_rfl) rfl
theorem ld34 : tload Try.prog 34 H (.v (.ptr id off)) = (rdCells H id off 3).map fun c => (.g c, H) := ld_agg (by kernel_rfl) (by kernel_rfl) id off
theorem st34 (a : List AV) (ha : a.length = 3) : tstore Try.prog 34 H (.v (.ptr id off)) (.g a) = (wrCells H id off a).map fun H' => (.v .und, H') := st_agg (by kernel_rfl) id off a ha
theorem bx34 (c : List AV) : tbox Try.prog 34 H (.g c) = if c.all AV.stor = true then some (.v (.ptr H.n 0), H.alloc (.own c)) else none := bxg_ (by kernel_rfl) c
theorem fa34_0 : tfieldAddr Try.prog 34 0 H (.v (.ptr id off)) = some (.v (.ptr id (off + 0)), H) := fa_ (n := 1) (b := false) (by kernel_rfl) id off
theorem fv34_0 (cs : List AV) : tfieldV Try.prog 34 0 H (.g cs) = (cs[0]?).map fun c => (.v c, H) := tfieldV_c (n := 1) (by kernel_rfl) cs
theorem fa34_1 : tfieldAddr Try.prog 34 1 H (.v (.ptr id off)) = some (.v (.ptr id (off + 1)), H) := fa_ (n := 1) (b := false) (by kernel_rfl) id off
theorem fv34_1 (cs : List AV) : tfieldV Try.prog 34 1 H (.g cs) = (cs[1]?).map fun c => (.v c, H) := tfieldV_c (n := 1) (by kernel_rfl) cs
theorem fa34_2 : tfieldAddr Try.prog 34 2 H (.v (.ptr id off)) = some (.v (.ptr id (off + 2)), H) := fa_ (n := 1) (b := false) (by kernel_rfl) id off
theorem fv34_2 (cs : List AV) : tfieldV Try.prog 34 2 H (.g cs) = (cs[2]?).map fun c => (.v c, H) := tfieldV_c (n := 1) (by kernel_rfl) cs
theorem al34 : talloc Try.prog 34 H = some (.v (.ptr H.n 0), H.alloc (.own [.str ByteArray.empty, .int .i64 0, .nilsl])) := al_ (by kernel_rfl) rfl
theorem ld46 : tload Try.prog 46 H (.v (.ptr id off)) = (rdCell H id off).map fun c => (.v c, H) := ld_cell (by kernel_rfl) id off
theorem st46 (a : AV) : tstore Try.prog 46 H (.v (.ptr id off)) (.v a) = (wrCells H id off [a]).map fun H' => (.v .und, H') := st_cell (by kernel_rfl) id off a
theorem bx46 (c : AV) : tbox Try.prog 46 H (.v c) = if c.stor = true then some (.v (.ptr H.n 0), H.alloc (.own [c])) else none := bxv_ (by kernel_rfl) c
theorem al46 : talloc Try.prog 46 H = some (.v (.ptr H.n 0), H.alloc (.own [.flt .f32 0])) := al_ (by kernel_rfl) rfl
theorem ld47 : tload Try.prog 47 H (.v (.ptr id off)) = (rdCells H id off 2).map fun c => (.g c, H) := ld_agg (by kernel_rfl) (by kernel_rfl) id off
theorem st47 (a : List AV) (ha : a.length = 2) : tstore Try.prog 47 H (.v (.ptr id off)) (.g a) = (wrCells H id off a).map fun H' => (.v .und, H') := st_agg (by kernel_rfl) id off a ha
theorem bx47 (c : List AV) : tbox Try.prog 47 H (.g c) = if c.all AV.stor = true then some (.v (.ptr H.n 0), H.alloc (.own c)) else none := bxg_ (by kernel_rfl) c
theorem fa47_0 : tfieldAddr Try.prog 47 0 H (.v (.ptr id off)) = some (.v (.ptr id (off + 0)), H) := fa_ (n := 1) (b := false) (by kernel_rfl) id off
theorem fv47_0 (cs : List AV) : tfieldV Try.prog 47 0 H (.g cs) = (cs[0]?).map fun c => (.v c, H) := tfieldV_c (n := 1) (by kernel_rfl) cs
theorem fa47_1 : tfieldAddr Try.prog 47 1 H (.v (.ptr id off)) = some (.v (.ptr id (off + 1)), H) := fa_ (n := 1) (b := false) (by kernel_rfl) id off
theorem fv47_1 (cs : List AV) : tfieldV Try.prog 47 1 H (.g cs) = (cs[1]?).map fun c => (.v c, H) := tfieldV_c (n := 1) (by kernel_rfl) cs
theorem al47 : talloc Try.prog 47 H = some (.v (.ptr H.n 0), H.alloc (.own [.int .i64 0, .flt .f32 0])) := al_ (by kernel_rfl) rfl
theorem ld48 : tload Try.prog 48 H (.v (.ptr id off)) = (rdCells H id off 2).map fun c => (.g c, H) := ld_agg (by kernel_rfl) (by kernel_rfl) id off
theorem st48 (a : List AV) (ha : a.length = 2) : tstore Try.prog 48 H (.v (.ptr id off)) (.g a) = (wrCells H id off a).map fun H' => (.v .und, H') := st_agg (by kernel_rfl) id off a ha
theorem bx48 (c : List AV) : tbox Try.prog 48 H (.g c) = if c.all AV.stor = true then some (.v (.ptr H.n 0), H.alloc (.own c)) else none := bxg_ (by kernel_rfl) c
theorem fa48_0 : tfieldAddr Try.prog 48 0 H (.v (.ptr id off)) = some (.v (.ptr id (off + 0)), H) := fa_ (n := 1) (b := false) (by kernel_rfl) id off
theorem fv48_0 (cs : List AV) : tfieldV Try.prog 48 0 H (.g cs) = (cs[0]?).map fun c => (.v c, H) := tfieldV_c (n := 1) (by kernel_rfl) cs
theorem fa48_1 : tfieldAddr Try.prog 48 1 H (.v (.ptr id off)) = some (.v (.ptr id (off + 1)), H) := fa_ (n := 1) (b := false) (by kernel_rfl) id off
theorem fv48_1 (cs : List AV) : tfieldV Try.prog 48 1 H (.g cs) = (cs[1]?).map fun c => (.v c, H) := tfieldV_c (n := 1) (by kernel_rfl) cs
theorem al48 : talloc Try.prog 48 H = some (.v (.ptr H.n 0), H.alloc (.own [.int .i64 0, .flt .f32 0])) := al_ (by kernel_rfl) rfl
theorem ld50 : tload Try.prog 50 H (.v (.ptr id off)) = (rdCells H id off 2).map fun c => (.g c, H) := ld_agg (by kernel_rfl) (by kernel_rfl) id off
theorem st50 (a : List AV) (ha : a.length = 2) : tstore Try.prog 50 H (.v (.ptr id off)) (.g a) = (wrCells H id off a).map fun H' => (.v .und, H') := st_agg (by kernel_rfl) id off a ha
theorem bx50 (c : List AV) : tbox Try.prog 50 H (.g c) = if c.all AV.stor = true then some (.v (.ptr H.n 0), H.alloc (.own c)) else none := bxg_ (by kernel_rfl) c
theorem fa50_0 : tfieldAddr Try.prog 50 0 H (.v (.ptr id off)) = some (.v (.ptr id (off + 0)), H) := fa_ (n := 1) (b := false) (by kernel_rfl) id off
theorem fv50_0 (cs : List AV) : tfieldV Try.prog 50 0 H (.g cs) = (cs[0]?).map fun c => (.v c, H) := tfieldV_c (n := 1) (by kernel_rfl) cs
theorem fa50_1 : tfieldAddr Try.prog 50 1 H (.v (.ptr id off)) = some (.v (.ptr id (off + 1)), H) := fa_ (n := 1) (b := false) (by kernel_rfl) id off
theorem fv50_1 (cs : List AV) : tfieldV Try.prog 50 1 H (.g cs) = (cs[1]?).map fun c => (.v c, H) := tfieldV_c (n := 1) (by kernel_rfl) cs
theorem al50 : talloc Try.prog 50 H = some (.v (.ptr H.n 0), H.alloc (.own [.int .i64 0, .flt .f32 0])) := al_ (by kernel_rfl) rfl
theorem ld59 : tload Try.prog 59 H (.v (.ptr id off)) = (rdCell H id off).map fun c => (.v c, H) := ld_cell (by kernel_rfl) id off
theorem st59 (a : AV) : tstore Try.prog 59 H (.v (.ptr id off)) (.v a) = (wrCells H id off [a]).map fun H' => (.v .und, H') := st_cell (by kernel_rfl) id off a
theorem bx59 (c : AV) : tbox Try.prog 59 H (.v c) = if c.stor = true then some (.v (.ptr H.n 0), H.alloc (.own [c])) else none := bxv_ (by kernel_rfl) c
theorem al59 : talloc Try.prog 59 H = some (.v (.ptr H.n 0), H.alloc (.own [.flt .f64 0])) := al_ (by kernel_rfl) rfl
theorem ld60 : tload Try.prog 60 H (.v (.ptr id off)) = (rdCell H id off).map fun c => (.v c, H) := ld_cell (by kernel_rfl) id off
theorem st60 (a : AV) : tstore Try.prog 60 H (.v (.ptr id off)) (.v a) = (wrCells H id off [a]).map fun H' => (.v .und, H') := st_cell (by kernel_rfl) id off a
theorem bx60 (c : AV) : tbox Try.prog 60 H (.v c) = if c.stor = true then some (.v (.ptr H.n 0), H.alloc (.own [c])) else none := bxv_ (by kernel_rfl) c
theorem al60 : talloc Try.prog 60 H = some (.v (.ptr H.n 0), H.alloc (.own [.nilsl])) := al_ (by kernel_rfl) rfl
theorem len60 (len : Nat) : abuiltin Try.prog .len [60].toArray [.v (.sl id off len 1)] H = some (.v (.int .i64 len), H) := alen_sl (by kernel_rfl)
theorem lenn60 : abuiltin Try.prog .len [60].toArray [.v .nilsl] H = some (.v (.int .i64 0), H) := alen_nil (by kernel_rfl)
theorem ia60 (len : Nat) (k : IntKind) (n : Int) (h2 : 0 ≤ n) (h3 : n < len) : tindexAddr Try.prog 60 H (.v (.sl id off len 1)) (.v (.int k n)) = some (.v (.ptr id (off + n.toNat * 1)), H) := ia_ (by kernel_rfl) id off len k n h2 h3
theorem mk60 (n : Int) (h7 : 0 ≤ n) (h8 : n * 1 ≤ 2 ^ 40) : tmake Try.prog 60 H (.v (.int .i64 n)) (.v (.int .i64 n)) = some (.v (.sl H.n 0 n.toNat 1), H.alloc (.own (zerosOf [.int .u8 0] n.toNat))) := mk_ (P := Try.prog) (t := 60) (H := H) (e := 5) (sz := 1) (bys := 1) (z := [.int .u8 0]) (by kernel_rfl) (by kernel_rfl) (by kernel_rfl) (by kernel_rfl) rfl rfl n n h7 (Int.le_refl _) (by omega) h8
theorem ap60 (x y : AV) : abuiltin Try.prog .append [60, 60].toArray [.v x, .v y] H = aappend H 1 1 x y := aappend_to (by kernel_rfl)
theorem sl60 (len : Nat) (l h : Option Int) (a b : Nat) (h2 : slBounds len l h = some (a, b)) : tslice Try.prog 60 H (some l) (some h) (.v (.sl id off len 1)) = some (.v (.sl id (off + a * 1) (b - a) 1), H) := tslice_sl (by kernel_rfl) h2
theorem bs60_0 : tbs Try.prog 60 0 H [] = some (.v (.sl H.n 0 0 1), H.alloc (.own [])) := tbs_0 (e := 5) (z := [.int .u8 0]) (by kernel_rfl) (by kernel_rfl) (by kernel_rfl) rfl
theorem bs60_1 (a : AV) (ha : a.stor = true) : tbs Try.prog 60 1 H [(0, .v a)] = some (.v (.sl H.n 0 1 1), H.alloc (.own [a])) := tbs_1 (e := 5) (z := .int .u8 0) (by kernel_rfl) (by kernel_rfl) (by kernel_rfl) a ha
theorem bs60_2 (a b : AV) (ha : a.stor = true) (hb : b.stor = true) : tbs Try.prog 60 2 H [(0, .v a), (1, .v b)] = some (.v (.sl H.n 0 2 1), H.alloc (.own [a, b])) := tbs_2 (e := 5) (z := .int .u8 0) (by kernel_rfl) (by kernel_rfl) (by kernel_rfl) a b ha hb
theorem ld62 : tload Try.prog 62 H (.v (.ptr id off)) = (rdCell H id off).map fun c => (.v c, H) := ld_cell (by kernel_rfl) id off
theorem st62 (a : AV) : tstore Try.prog 62 H (.v (.ptr id off)) (.v a) = (wrCells H id off [a]).map fun H' => (.v .und, H') := st_cell (by kernel_rfl) id off a
theorem bx62 (c : AV) : tbox Try.prog 62 H (.v c) = if c.stor = true then some (.v (.ptr H.n 0), H.alloc (.own [c])) else none := bxv_ (by kernel_rfl) c
theorem al62 : talloc Try.prog 62 H = some (.v (.ptr H.n 0), H.alloc (.own [.int .u64 0])) := al_ (by kernel_rfl) rfl
theorem ld64 : tload Try.prog 64 H (.v (.ptr id off)) = (rdCell H id off).map fun c => (.v c, H) := ld_cell (by kernel_rfl) id off
theorem st64 (a : AV) : tstore Try.prog 64 H (.v (.ptr id off)) (.v a) = (wrCells H id off [a]).map fun H' => (.v .und, H') := st_cell (by kernel_rfl) id off a
theorem bx64 (c : AV) : tbox Try.prog 64 H (.v c) = if c.stor = true then some (.v (.ptr H.n 0), H.alloc (.own [c])) else none := bxv_ (by kernel_rfl) c
theorem al64 : talloc Try.prog 64 H = some (.v (.ptr H.n 0), H.alloc (.own [.int .u32 0])) := al_ (by kernel_rfl) rfl
theorem ld66 : tload Try.prog 66 H (.v (.ptr id off)) = (rdCell H id off).map fun c => (.v c, H) := ld_cell (by kernel_rfl) id off
theorem st66 (a : AV) : tstore Try.prog 66 H (.v (.ptr id off)) (.v a) = (wrCells H id off [a]).map fun H' => (.v .und, H') := st_cell (by kernel_rfl) id off a
theorem bx66 (c : AV) : tbox Try.prog 66 H (.v c) = if c.stor = true then some (.v (.ptr H.n 0), H.alloc (.own [c])) else none := bxv_ (by kernel_rfl) c
theorem al66 : talloc Try.prog 66 H = some (.v (.ptr H.n 0), H.alloc (.own [.nilsl])) := al_ (by kernel_rfl) rfl
theorem len66 (len : Nat) : abuiltin Try.prog .len [66].toArray [.v (.sl id off len 1)] H = some (.v (.int .i64 len), H) := alen_sl (by kernel_rfl)
theorem lenn66 : abuiltin Try.prog .len [66].toArray [.v .nilsl] H = some (.v (.int .i64 0), H) := alen_nil (by kernel_rfl)
theorem ia66 (len : Nat) (k : IntKind) (n : Int) (h2 : 0 ≤ n) (h3 : n < len) : tindexAddr Try.prog 66 H (.v (.sl id off len 1)) (.v (.int k n)) = some (.v (.ptr id (off + n.toNat * 1)), H) := ia_ (by kernel_rfl) id off len k n h2 h3
theorem mk66 (n : Int) (h7 : 0 ≤ n) (h8 : n * 24 ≤ 2 ^ 40) : tmake Try.prog 66 H (.v (.int .i64 n)) (.v (.int .i64 n)) = some (.v (.sl H.n 0 n.toNat 1), H.alloc (.own (zerosOf [.nilsl] n.toNat))) := mk_ (P := Try.prog) (t := 66) (H := H) (e := 29) (sz := 1) (bys := 24) (z := [.nilsl]) (by kernel_rfl) (by kernel_rfl) (by kernel_rfl) (by kernel_rfl) rfl rfl n n h7 (Int.le_refl _) (by omega) h8
theorem ap66 (x y : AV) : abuiltin Try.prog .append [66, 66].toArray [.v x, .v y] H = aappend H 1 24 x y := aappend_to (by kernel_rfl)
theorem sl66 (len : Nat) (l h : Option Int) (a b : Nat) (h2 : slBounds len l h = some (a, b)) : tslice Try.prog 66 H (some l) (some h) (.v (.sl id off len 1)) = some (.v (.sl id (off + a * 1) (b - a) 1), H) := tslice_sl (by kernel_rfl) h2
theorem bs66_0 : tbs Try.prog 66 0 H [] = some (.v (.sl H.n 0 0 1), H.alloc (.own [])) := tbs_0 (e := 29) (z := [.nilsl]) (by kernel_rfl) (by kernel_rfl) (by kernel_rfl) rfl
theorem bs66_1 (a : AV) (ha : a.stor = true) : tbs Try.prog 66 1 H [(0, .v a)] = some (.v (.sl H.n 0 1 1), H.alloc (.own [a])) := tbs_1 (e := 29) (z := .nilsl) (by kernel_rfl) (by kernel_rfl) (by kernel_rfl) a ha
theorem bs66_2 (a b : AV) (ha : a.stor = true) (hb : b.stor = true) : tbs Try.prog 66 2 H [(0, .v a), (1, .v b)] = some (.v (.sl H.n 0 2 1), H.alloc (.own [a, b])) := tbs_2 (e := 29) (z := .nilsl) (by kernel_rfl) (by kernel_rfl) (by kernel_rfl) a b ha hb
theorem cv2_2 (n : Int) : tconv Try.prog 2 2 H (.v (.int .i64 n)) = some (.v (.int .i64 (IntKind.i64.wrap n)), H) := tconv_int (by kernel_rfl) (by kernel_rfl)
theorem cv2_3 (n : Int) : tconv Try.prog 2 3 H (.v (.int .i64 n)) = some (.v (.int .i64 (IntKind.i64.wrap n)), H) := tconv_int (by kernel_rfl) (by kernel_rfl)
theorem cv2_5 (n : Int) : tconv Try.prog 2 5 H (.v (.int .i64 n)) = some (.v (.int .u8 (IntKind.u8.wrap n)), H) := tconv_int (by kernel_rfl) (by kernel_rfl)
theorem cv2_12 (n : Int) : tconv Try.prog 2 12 H (.v (.int .i64 n)) = some (.v (.int .u64 (IntKind.u64.wrap n)), H) := tconv_int (by kernel_rfl) (by kernel_rfl)
theorem cv2_21 (n : Int) : tconv Try.prog 2 21 H (.v (.int .i64 n)) = some (.v (.int .i32 (IntKind.i32.wrap n)), H) := tconv_int (by kernel_rfl) (by kernel_rfl)
theorem cv2_46 (n : Int) : tconv Try.prog 2 46 H (.v (.int .i64 n)) = some (.v (.flt .f32 (cz .f32 (floatOfInt .f32 n))), H) := tconv_itof (by kernel_rfl) (by kernel_rfl) (by kernel_rfl)
theorem cv2_59 (n : Int) : tconv Try.prog 2 59 H (.v (.int .i64 n)) = some (.v (.flt .f64 (cz .f64 (floatOfInt .f64 n))), H) := tconv_itof (by kernel_rfl) (by kernel_rfl) (by kernel_rfl)
theorem cv2_62 (n : Int) : tconv Try.prog 2 62 H (.v (.int .i64 n)) = some (.v (.int .u64 (IntKind.u64.wrap n)), H) := tconv_int (by kernel_rfl) (by kernel_rfl)
theorem cv2_64 (n : Int) : tconv Try.prog 2 64 H (.v (.int .i64 n)) = some (.v (.int .u32 (IntKind.u32.wrap n)), H) := tconv_int (by kernel_rfl) (by kernel_rfl)
theorem cv3_2 (n : Int) : tconv Try.prog 3 2 H (.v (.int .i64 n)) = some (.v (.int .i64 (IntKind.i64.wrap n)), H) := tconv_int (by kernel_rfl) (by kernel_rfl)
theorem cv3_3 (n : Int) : tconv Try.prog 3 3 H (.v (.int .i64 n)) = some (.v (.int .i64 (IntKind.i64.wrap n)), H) := tconv_int (by kernel_rfl) (by kernel_rfl)
theorem cv3_5 (n : Int) : tconv Try.prog 3 5 H (.v (.int .i64 n)) = some (.v (.int .u8 (IntKind.u8.wrap n)), H) := tconv_int (by kernel_rfl) (by kernel_rfl)
theorem cv3_12 (n : Int) : tconv Try.prog 3 12 H (.v (.int .i64 n)) = some (.v (.int .u64 (IntKind.u64.wrap n)), H) := tconv_int (by kernel_rfl) (by kernel_rfl)
theorem cv3_21 (n : Int) : tconv Try.prog 3 21 H (.v (.int .i64 n)) = some (.v (.int .i32 (IntKind.i32.wrap n)), H) := tconv_int (by kernel_rfl) (by kernel_rfl)
theorem cv3_46 (n : Int) : tconv Try.prog 3 46 H (.v (.int .i64 n)) = some (.v (.flt .f32 (cz .f32 (floatOfInt .f32 n))), H) := tconv_itof (by kernel_rfl) (by kernel_rfl) (by kernel_rfl)
theorem cv3_59 (n : Int) : tconv Try.prog 3 59 H (.v (.int .i64 n)) = some (.v (.flt .f64 (cz .f64 (floatOfInt .f64 n))), H) := tconv_itof (by kernel_rfl) (by kernel_rfl) (by kernel_rfl)
theorem cv3_62 (n : Int) : tconv Try.prog 3 62 H (.v (.int .i64 n)) = some (.v (.int .u64 (IntKind.u64.wrap n)), H) := tconv_int (by kernel_rfl) (by kernel_rfl)
theorem cv3_64 (n : Int) : tconv Try.prog 3 64 H (.v (.int .i64 n)) = some (.v (.int .u32 (IntKind.u32.wrap n)), H) := tconv_int (by kernel_rfl) (by kernel_rfl)
theorem cv5_2 (n : Int) : tconv Try.prog 5 2 H (.v (.int .u8 n)) = some (.v (.int .i64 (IntKind.i64.wrap n)), H) := tconv_int (by kernel_rfl) (by kernel_rfl)
theorem cv5_3 (n : Int) : tconv Try.prog 5 3 H (.v (.int .u8 n)) = some (.v (.int .i64 (IntKind.i64.wrap n)), H) := tconv_int (by kernel_rfl) (by kernel_rfl)
theorem cv5_5 (n : Int) : tconv Try.prog 5 5 H (.v (.int .u8 n)) = some (.v (.int .u8 (IntKind.u8.wrap n)), H) := tconv_int (by kernel_rfl) (by kernel_rfl)
theorem cv5_12 (n : Int) : tconv Try.prog 5 12 H (.v (.int .u8 n)) = some (.v (.int .u64 (IntKind.u64.wrap n)), H) := tconv_int (by kernel_rfl) (by kernel_rfl)
theorem cv5_21 (n : Int) : tconv Try.prog 5 21 H (.v (.int .u8 n)) = some (.v (.int .i32 (IntKind.i32.wrap n)), H) := tconv_int (by kernel_rfl) (by kernel_rfl)
theorem cv5_46 (n : Int) : tconv Try.prog 5 46 H (.v (.int .u8 n)) = some (.v (.flt .f32 (cz .f32 (floatOfInt .f32 n))), H) := tconv_itof (by kernel_rfl) (by kernel_rfl) (by kernel_rfl)
theorem cv5_59 (n : Int) : tconv Try.prog 5 59 H (.v (.int .u8 n)) = some (.v (.flt .f64 (cz .f64 (floatOfInt .f64 n))), H) := tconv_itof (by kernel_rfl) (by kernel_rfl) (by kernel_rfl)
theorem cv5_62 (n : Int) : tconv Try.prog 5 62 H (.v (.int .u8 n)) = some (.v (.int .u64 (IntKind.u64.wrap n)), H) := tconv_int (by kernel_rfl) (by kernel_rfl)
theorem cv5_64 (n : Int) : tconv Try.prog 5 64 H (.v (.int .u8 n)) = some (.v (.int .u32 (IntKind.u32.wrap n)), H) := tconv_int (by kernel_rfl) (by kernel_rfl)
theorem cv9_9 (x : ByteArray) : tconv Try.prog 9 9 H (.v (.str x)) = some (.v (.str x), H) := tconv_str (by kernel_rfl) (by kernel_rfl)
theorem cv12_2 (n : Int) : tconv Try.prog 12 2 H (.v (.int .u64 n)) = some (.v (.int .i64 (IntKind.i64.wrap n)), H) := tconv_int (by kernel_rfl) (by kernel_rfl)
theorem cv12_3 (n : Int) : tconv Try.prog 12 3 H (.v (.int .u64 n)) = some (.v (.int .i64 (IntKind.i64.wrap n)), H) := tconv_int (by kernel_rfl) (by kernel_rfl)
theorem cv12_5 (n : Int) : tconv Try.prog 12 5 H (.v (.int .u64 n)) = some (.v (.int .u8 (IntKind.u8.wrap n)), H) := tconv_int (by kernel_rfl) (by kernel_rfl)
theorem cv12_12 (n : Int) : tconv Try.prog 12 12 H (.v (.int .u64 n)) = some (.v (.int .u64 (IntKind.u64.wrap n)), H) := tconv_int (by kernel_rfl) (by kernel_rfl)
theorem cv12_21 (n : Int) : tconv Try.prog 12 21 H (.v (.int .u64 n)) = some (.v (.int .i32 (IntKind.i32.wrap n)), H) := tconv_int (by kernel_rfl) (by kernel_rfl)
theorem cv12_46 (n : Int) : tconv Try.prog 12 46 H (.v (.int .u64 n)) = some (.v (.flt .f32 (cz .f32 (floatOfInt .f32 n))), H) := tconv_itof (by kernel_rfl) (by kernel_rfl) (by kernel_rfl)
theorem cv12_59 (n : Int) : tconv Try.prog 12 59 H (.v (.int .u64 n)) = some (.v (.flt .f64 (cz .f64 (floatOfInt .f64 n))), H) := tconv_itof (by kernel_rfl) (by kernel_rfl) (by kernel_rfl)
theorem cv12_62 (n : Int) : tconv Try.prog 12 62 H (.v (.int .u64 n)) = some (.v (.int .u64 (IntKind.u64.wrap n)), H) := tconv_int (by kernel_rfl) (by kernel_rfl)
theorem cv12_64 (n : Int) : tconv Try.prog 12 64 H (.v (.int .u64 n)) = some (.v (.int .u32 (IntKind.u32.wrap n)), H) := tconv_int (by kernel_rfl) (by kernel_rfl)
theorem cv21_2 (n : Int) : tconv Try.prog 21 2 H (.v (.int .i32 n)) = some (.v (.int .i64 (IntKind.i64.wrap n)), H) := tconv_int (by kernel_rfl) (by kernel_rfl)
theorem cv21_3 (n : Int) : tconv Try.prog 21 3 H (.v (.int .i32 n)) = some (.v (.int .i64 (IntKind.i64.wrap n)), H) := tconv_int (by kernel_rfl) (by kernel_rfl)
theorem cv21_5 (n : Int) : tconv Try.prog 21 5 H (.v (.int .i32 n)) = some (.v (.int .u8 (IntKind.u8.wrap n)), H) := tconv_int (by kernel_rfl) (by kernel_rfl)
theorem cv21_12 (n : Int) : tconv Try.prog 21 12 H (.v (.int .i32 n)) = some (.v (.int .u64 (IntKind.u64.wrap n)), H) := tconv_int (by kernel_rfl) (by kernel_rfl)
theorem cv21_21 (n : Int) : tconv Try.prog 21 21 H (.v (.int .i32 n)) = some (.v (.int .i32 (IntKind.i32.wrap n)), H) := tconv_int (by kernel_rfl) (by kernel_rfl)
theorem cv21_46 (n : Int) : tconv Try.prog 21 46 H (.v (.int .i32 n)) = some (.v (.flt .f32 (cz .f32 (floatOfInt .f32 n))), H) := tconv_itof (by kernel_rfl) (by kernel_rfl) (by kernel_rfl)
theorem cv21_59 (n : Int) : tconv Try.prog 21 59 H (.v (.int .i32 n)) = some (.v (.flt .f64 (cz .f64 (floatOfInt .f64 n))), H) := tconv_itof (by kernel_rfl) (by kernel_rfl) (by kernel_rfl)
theorem cv21_62 (n : Int) : tconv Try.prog 21 62 H (.v (.int .i32 n)) = some (.v (.int .u64 (IntKind.u64.wrap n)), H) := tconv_int (by kernel_rfl) (by kernel_rfl)
theorem cv21_64 (n : Int) : tconv Try.prog 21 64 H (.v (.int .i32 n)) = some (.v (.int .u32 (IntKind.u32.wrap n)), H) := tconv_int (by kernel_rfl) (by kernel_rfl)
theorem cv46_2 (b : Nat) (n : Int) (h : floatToIntVal .f32 b .i64 = some n) : tconv Try.prog 46 2 H (.v (.flt .f32 b)) = some (.v (.int .i64 n), H) := tconv_ftoi (by kernel_rfl) (by kernel_rfl) h
theorem cv46_3 (b : Nat) (n : Int) (h : floatToIntVal .f32 b .i64 = some n) : tconv Try.prog 46 3 H (.v (.flt .f32 b)) = some (.v (.int .i64 n), H) := tconv_ftoi (by kernel_rfl) (by kernel_rfl) h
theorem cv46_5 (b : Nat) (n : Int) (h : floatToIntVal .f32 b .u8 = some n) : tconv Try.prog 46 5 H (.v (.flt .f32 b)) = some (.v (.int .u8 n), H) := tconv_ftoi (by kernel_rfl) (by kernel_rfl) h
theorem cv46_12 (b : Nat) (n : Int) (h : floatToIntVal .f32 b .u64 = some n) : tconv Try.prog 46 12 H (.v (.flt .f32 b)) = some (.v (.int .u64 n), H) := tconv_ftoi (by kernel_rfl) (by kernel_rfl) h
theorem cv46_21 (b : Nat) (n : Int) (h : floatToIntVal .f32 b .i32 = some n) : tconv Try.prog 46 21 H (.v (.flt .f32 b)) = some (.v (.int .i32 n), H) := tconv_ftoi (by kernel_rfl) (by kernel_rfl) h
theorem cv46_46 (b : Nat) : tconv Try.prog 46 46 H (.v (.flt .f32 b)) = some (.v (.flt .f32 b), H) := tconv_ftof_same (by kernel_rfl) (by kernel_rfl) (by kernel_rfl)
theorem cv46_59 (b : Nat) : tconv Try.prog 46 59 H (.v (.flt .f32 b)) = some (.v (.flt .f64 (widen b)), H) := tconv_ftof (by kernel_rfl) (by kernel_rfl) (by kernel_rfl) (widen_eq b)
theorem cv46_62 (b : Nat) (n : Int) (h : floatToIntVal .f32 b .u64 = some n) : tconv Try.prog 46 62 H (.v (.flt .f32 b)) = some (.v (.int .u64 n), H) := tconv_ftoi (by kernel_rfl) (by kernel_rfl) h
theorem cv46_64 (b : Nat) (n : Int) (h : floatToIntVal .f32 b .u32 = some n) : tconv Try.prog 46 64 H (.v (.flt .f32 b)) = some (.v (.int .u32 n), H) := tconv_ftoi (by kernel_rfl) (by kernel_rfl) h
theorem cv59_2 (b : Nat) (n : Int) (h : floatToIntVal .f64 b .i64 = some n) : tconv Try.prog 59 2 H (.v (.flt .f64 b)) = some (.v (.int .i64 n), H) := tconv_ftoi (by kernel_rfl) (by kernel_rfl) h
theorem cv59_3 (b : Nat) (n : Int) (h : floatToIntVal .f64 b .i64 = some n) : tconv Try.prog 59 3 H (.v (.flt .f64 b)) = some (.v (.int .i64 n), H) := tconv_ftoi (by kernel_rfl) (by kernel_rfl) h
theorem cv59_5 (b : Nat) (n : Int) (h : floatToIntVal .f64 b .u8 = some n) : tconv Try.prog 59 5 H (.v (.flt .f64 b)) = some (.v (.int .u8 n), H) := tconv_ftoi (by kernel_rfl) (by kernel_rfl) h
theorem cv59_12 (b : Nat) (n : Int) (h : floatToIntVal .f64 b .u64 = some n) : tconv Try.prog 59 12 H (.v (.flt .f64 b)) = some (.v (.int .u64 n), H) := tconv_ftoi (by kernel_rfl) (by kernel_rfl) h
theorem cv59_21 (b : Nat) (n : Int) (h : floatToIntVal .f64 b .i32 = some n) : tconv Try.prog 59 21 H (.v (.flt .f64 b)) = some (.v (.int .i32 n), H) := tconv_ftoi (by kernel_rfl) (by kernel_rfl) h
theorem cv59_46 (b c : Nat) (h : fconv .f64 b .f32 = some c) : tconv Try.prog 59 46 H (.v (.flt .f64 b)) = some (.v (.flt .f32 c), H) := tconv_ftof (by kernel_rfl) (by kernel_rfl) (by kernel_rfl) h
theorem cv59_59 (b : Nat) : tconv Try.prog 59 59 H (.v (.flt .f64 b)) = some (.v (.flt .f64 b), H) := tconv_ftof_same (by kernel_rfl) (by kernel_rfl) (by kernel_rfl)
theorem cv59_62 (b : Nat) (n : Int) (h : floatToIntVal .f64 b .u64 = some n) : tconv Try.prog 59 62 H (.v (.flt .f64 b)) = some (.v (.int .u64 n), H) := tconv_ftoi (by kernel_rfl) (by kernel_rfl) h
theorem cv59_64 (b : Nat) (n : Int) (h : floatToIntVal .f64 b .u32 = some n) : tconv Try.prog 59 64 H (.v (.flt .f64 b)) = some (.v (.int .u32 n), H) := tconv_ftoi (by kernel_rfl) (by kernel_rfl) h
theorem cv62_2 (n : Int) : tconv Try.prog 62 2 H (.v (.int .u64 n)) = some (.v (.int .i64 (IntKind.i64.wrap n)), H) := tconv_int (by kernel_rfl) (by kernel_rfl)
theorem cv62_3 (n : Int) : tconv Try.prog 62 3 H (.v (.int .u64 n)) = some (.v (.int .i64 (IntKind.i64.wrap n)), H) := tconv_int (by kernel_rfl) (by kernel_rfl)
theorem cv62_5 (n : Int) : tconv Try.prog 62 5 H (.v (.int .u64 n)) = some (.v (.int .u8 (IntKind.u8.wrap n)), H) := tconv_int (by kernel_rfl) (by kernel_rfl)
theorem cv62_12 (n : Int) : tconv Try.prog 62 12 H (.v (.int .u64 n)) = some (.v (.int .u64 (IntKind.u64.wrap n)), H) := tconv_int (by kernel_rfl) (by kernel_rfl)
theorem cv62_21 (n : Int) : tconv Try.prog 62 21 H (.v (.int .u64 n)) = some (.v (.int .i32 (IntKind.i32.wrap n)), H) := tconv_int (by kernel_rfl) (by kernel_rfl)
theorem cv62_46 (n : Int) : tconv Try.prog 62 46 H (.v (.int .u64 n)) = some (.v (.flt .f32 (cz .f32 (floatOfInt .f32 n))), H) := tconv_itof (by kernel_rfl) (by kernel_rfl) (by kernel_rfl)
theorem cv62_59 (n : Int) : tconv Try.prog 62 59 H (.v (.int .u64 n)) = some (.v (.flt .f64 (cz .f64 (floatOfInt .f64 n))), H) := tconv_itof (by kernel_rfl) (by kernel_rfl) (by kernel_rfl)
theorem cv62_62 (n : Int) : tconv Try.prog 62 62 H (.v (.int .u64 n)) = some (.v (.int .u64 (IntKind.u64.wrap n)), H) := tconv_int (by kernel_rfl) (by kernel_rfl)
theorem cv62_64 (n : Int) : tconv Try.prog 62 64 H (.v (.int .u64 n)) = some (.v (.int .u32 (IntKind.u32.wrap n)), H) := tconv_int (by kernel_rfl) (by kernel_rfl)
theorem cv64_2 (n : Int) : tconv Try.prog 64 2 H (.v (.int .u32 n)) = some (.v (.int .i64 (IntKind.i64.wrap n)), H) := tconv_int (by kernel_rfl) (by kernel_rfl)
theorem cv64_3 (n : Int) : tconv Try.prog 64 3 H (.v (.int .u32 n)) = some (.v (.int .i64 (IntKind.i64.wrap n)), H) := tconv_int (by kernel_rfl) (by kernel_rfl)
theorem cv64_5 (n : Int) : tconv Try.prog 64 5 H (.v (.int .u32 n)) = some (.v (.int .u8 (IntKind.u8.wrap n)), H) := tconv_int (by kernel_rfl) (by kernel_rfl)
theorem cv64_12 (n : Int) : tconv Try.prog 64 12 H (.v (.int .u32 n)) = some (.v (.int .u64 (IntKind.u64.wrap n)), H) := tconv_int (by kernel_rfl) (by kernel_rfl)
theorem cv64_21 (n : Int) : tconv Try.prog 64 21 H (.v (.int .u32 n)) = some (.v (.int .i32 (IntKind.i32.wrap n)), H) := tconv_int (by kernel_rfl) (by kernel_rfl)
theorem cv64_46 (n : Int) : tconv Try.prog 64 46 H (.v (.int .u32 n)) = some (.v (.flt .f32 (cz .f32 (floatOfInt .f32 n))), H) := tconv_itof (by kernel_rfl) (by kernel_rfl) (by kernel_rfl)
theorem cv64_59 (n : Int) : tconv Try.prog 64 59 H (.v (.int .u32 n)) = some (.v (.flt .f64 (cz .f64 (floatOfInt .f64 n))), H) := tconv_itof (by kernel_rfl) (by kernel_rfl) (by kernel_rfl)
theorem cv64_62 (n : Int) : tconv Try.prog 64 62 H (.v (.int .u32 n)) = some (.v (.int .u64 (IntKind.u64.wrap n)), H) := tconv_int (by kernel_rfl) (by kernel_rfl)
theorem cv64_64 (n : Int) : tconv Try.prog 64 64 H (.v (.int .u32 n)) = some (.v (.int .u32 (IntKind.u32.wrap n)), H) := tconv_int (by kernel_rfl) (by kernel_rfl)
end
attribute [go_sem] be4 bn4 ld2 st2 bx2 al2 ld3 st3 bx3 al3 ld4 st4 bx4 al4 ld5 st5 bx5 al5 ld9 st9
attribute [go_sem] bx9 al9 len9 ld12 st12 bx12 al12 ld21 st21 bx21 al21 ld22 st22 bx22 al22 len22 lenn22 ia22 ap22 sl22
attribute [go_sem] bs22_0 bs22_1 ld25 st25 bx25 al25 len25 lenn25 ia25 ap25 sl25 bs25_0 bs25_1 ld29 st29 bx29 al29 len29 lenn29 ia29
attribute [go_sem] ap29 sl29 bs29_0 bs29_1 bs29_2 ld30 st30 bx30 fa30_0 fv30_0 fa30_1 fv30_1 fa30_2 fv30_2 al30 ld31 st31 bx31 fa31_0 fv31_0
attribute [go_sem] fa31_1 fv31_1 fa31_2 fv31_2 al31 ld34 st34 bx34 fa34_0 fv34_0 fa34_1 fv34_1 fa34_2 fv34_2 al34 ld46 st46 bx46 al46 ld47
attribute [go_sem] st47 bx47 fa47_0 fv47_0 fa47_1 fv47_1 al47 ld48 st48 bx48 fa48_0 fv48_0 fa48_1 fv48_1 al48 ld50 st50 bx50 fa50_0 fv50_0
attribute [go_sem] fa50_1 fv50_1 al50 ld59 st59 bx59 al59 ld60 st60 bx60 al60 len60 lenn60 ia60 ap60 sl60 bs60_0 bs60_1 bs60_2 ld62
attribute [go_sem] st62 bx62 al62 ld64 st64 bx64 al64 ld66 st66 bx66 al66 len66 lenn66 ia66 ap66 sl66 bs66_0 bs66_1 bs66_2 cv2_2
attribute [go_sem] cv2_3 cv2_5 cv2_12 cv2_21 cv2_46 cv2_59 cv2_62 cv2_64 cv3_2 cv3_3 cv3_5 cv3_12 cv3_21 cv3_46 cv3_59 cv3_62 cv3_64 cv5_2 cv5_3 cv5_5
attribute [go_sem] cv5_12 cv5_21 cv5_46 cv5_59 cv5_62 cv5_64 cv9_9 cv12_2 cv12_3 cv12_5 cv12_12 cv12_21 cv12_46 cv12_59 cv12_62 cv12_64 cv21_2 cv21_3 cv21_5 cv21_12
attribute [go_sem] cv21_21 cv21_46 cv21_59 cv21_62 cv21_64 cv46_2 cv46_3 cv46_5 cv46_12 cv46_21 cv46_46 cv46_59 cv46_62 cv46_64 cv59_2 cv59_3 cv59_5 cv59_12 cv59_21 cv59_46
attribute [go_sem] cv59_59 cv59_62 cv59_64 cv62_2 cv62_3 cv62_5 cv62_12 cv62_21 cv62_46 cv62_59 cv62_62 cv62_64 cv64_2 cv64_3 cv64_5 cv64_12 cv64_21 cv64_46 cv64_59 cv64_62
attribute [go_sem] cv64_64
end Go.Proofs.Ytdfihkbkldcecaa.F
