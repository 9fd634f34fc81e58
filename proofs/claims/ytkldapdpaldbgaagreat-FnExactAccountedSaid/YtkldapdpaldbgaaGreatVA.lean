/-
  Numbers in order, each once: the contract.
-/
import Derived.Test.YtkldapdpaldbgaaGreatT
import Derived.Test.YtkldapdpaldbgaaGreatL
import Derived.Deep.QuietTactic
import Derived.BigQuiet
import Derived.Deep.LoopGhost
import Derived.Deep.RegionHeld3
import Derived.Test.YtkldapdpaldbgaaGreatN
import Derived.Test.YtkldapdpaldbgaaGreatA
import Derived.WalkSpells
import Derived.Laws.Cover3
import Derived.Test.YtkldapdpaldbgaaGreatVX
import Derived.Sort.OwnSortedInts
import Derived.Lib.RowBridge
import Derived.Shelf.Small.Bits
import Derived.Shelf.Strconv.Itoa0
import Derived.Shelf.Sort.Plain
import Derived.Ground.Names2Prog
import Derived.Shelf.Slices.Clone
import Derived.Shelf.Slices.CompactI
import Derived.Shelf.Slices.SearchI
import Derived.Shelf.Slices.Cells
import Derived.Shelf.Slices.In.SortNone
import Derived.Ground.SlgnProg
import Derived.Shelf.SlicesE.Compact
import Derived.Shelf.SlicesE.Clone
import Derived.Ground.SlgfProg
import Derived.Shelf.SlicesE.IndexFunc
import Derived.Shelf.SlicesE.DeleteFunc
namespace Go.Proofs
open Go.Shelf
def Tryz.lays128_ren : Go.Shelf.Ren := ⟨fun | 128 => 315 | n => n, fun | 51 => 324 | 3 => 3 | 4 => 4 | 46 => 242 | 5 => 5 | 9 => 9 | n => n, fun | n => n⟩
theorem Tryz.lays128 : Go.Proofs.Lays.n128 Tryz.prog Tryz.lays128_ren := {
  mixed := by kernel_rfl
  f128 := Tryz.func315.trans (congrArg some (by kernel_rfl))
  t3 := Tryz.underlying3
  a3 := Tryz.isAgg3
  z3 := Tryz.sizeOf3
  v3 := Tryz.zeroValue3
  t4 := Tryz.underlying4
  a4 := Tryz.isAgg4
  z4 := Tryz.sizeOf4
  v4 := Tryz.zeroValue4
  t5 := Tryz.underlying5
  a5 := Tryz.isAgg5
  z5 := Tryz.sizeOf5
  v5 := Tryz.zeroValue5
  t9 := Tryz.underlying9
  a9 := Tryz.isAgg9
  z9 := Tryz.sizeOf9
  v9 := Tryz.zeroValue9
  t46 := Tryz.underlying242
  a46 := Tryz.isAgg242
  z46 := Tryz.sizeOf242
  v46 := Tryz.zeroValue242
  t51 := Tryz.underlying324
  a51 := Tryz.isAgg324
  z51 := Tryz.sizeOf324
  v51 := Tryz.zeroValue324 }
/-- bits.Len32: "Len32 returns the minimum number of bits required to represent x; the result is 0 for x == 0.": IT RETURNS 'Lib.bitLen x'; the world is as it was. ('h0', 'h1': x is a uint32.) (LAID: no walk: one application.) -/
theorem Tryz.bits_Len32 (x : Int) (w : World) (h0 : 0 ≤ x) (h1 : x ≤ 4294967295) :
    Calls Tryz.prog 315 #[.int .u32 x] w fun e w' => e = .returned (.int .i64 (Lib.bitLen x.toNat)) ∧ w' = w := Any.bits_Len32 Tryz.lays128 x w h0 h1
def Tryz.lays125_ren : Go.Shelf.Ren := ⟨fun | 125 => 274 | 128 => 315 | 129 => 316 | n => n, fun | 46 => 242 | 3 => 3 | 51 => 324 | 53 => 326 | 4 => 4 | 5 => 5 | 9 => 9 | n => n, fun | n => n⟩
theorem Tryz.lays125 : Go.Proofs.Lays.n125 Tryz.prog Tryz.lays125_ren := {
  mixed := by kernel_rfl
  f125 := Tryz.func274.trans (congrArg some (by kernel_rfl))
  f128 := Tryz.func315.trans (congrArg some (by kernel_rfl))
  f129 := Tryz.func316.trans (congrArg some (by kernel_rfl))
  t3 := Tryz.underlying3
  a3 := Tryz.isAgg3
  z3 := Tryz.sizeOf3
  v3 := Tryz.zeroValue3
  t4 := Tryz.underlying4
  a4 := Tryz.isAgg4
  z4 := Tryz.sizeOf4
  v4 := Tryz.zeroValue4
  t5 := Tryz.underlying5
  a5 := Tryz.isAgg5
  z5 := Tryz.sizeOf5
  v5 := Tryz.zeroValue5
  t9 := Tryz.underlying9
  a9 := Tryz.isAgg9
  z9 := Tryz.sizeOf9
  v9 := Tryz.zeroValue9
  t46 := Tryz.underlying242
  a46 := Tryz.isAgg242
  z46 := Tryz.sizeOf242
  v46 := Tryz.zeroValue242
  t51 := Tryz.underlying324
  a51 := Tryz.isAgg324
  z51 := Tryz.sizeOf324
  v51 := Tryz.zeroValue324
  t53 := Tryz.underlying326
  a53 := Tryz.isAgg326
  z53 := Tryz.sizeOf326
  v53 := Tryz.zeroValue326 }
/-- bits.Len: "Len returns the minimum number of bits required to represent x; the result is 0 for x == 0.": IT RETURNS 'Lib.bitLen x'; the world is as it was. (A uint has 64 bits in the model.) ITS CALLEE bits.Len64 IS MET BY ITS OWN CONTRACT OFF THE SHELF (lay that first). (LAID: no walk: one application.) -/
theorem Tryz.bits_Len (x : Int) (w : World) (h0 : 0 ≤ x) (h1 : x ≤ 18446744073709551615) :
    Calls Tryz.prog 274 #[.int .u64 x] w fun e w' => e = .returned (.int .i64 (Lib.bitLen x.toNat)) ∧ w' = w := Any.bits_Len Tryz.lays125 x w h0 h1
def Tryz.lays129_ren : Go.Shelf.Ren := ⟨fun | 129 => 316 | n => n, fun | 53 => 326 | 3 => 3 | 4 => 4 | 46 => 242 | 5 => 5 | 9 => 9 | n => n, fun | n => n⟩
theorem Tryz.lays129 : Go.Proofs.Lays.n129 Tryz.prog Tryz.lays129_ren := {
  mixed := by kernel_rfl
  f129 := Tryz.func316.trans (congrArg some (by kernel_rfl))
  t3 := Tryz.underlying3
  a3 := Tryz.isAgg3
  z3 := Tryz.sizeOf3
  v3 := Tryz.zeroValue3
  t4 := Tryz.underlying4
  a4 := Tryz.isAgg4
  z4 := Tryz.sizeOf4
  v4 := Tryz.zeroValue4
  t5 := Tryz.underlying5
  a5 := Tryz.isAgg5
  z5 := Tryz.sizeOf5
  v5 := Tryz.zeroValue5
  t9 := Tryz.underlying9
  a9 := Tryz.isAgg9
  z9 := Tryz.sizeOf9
  v9 := Tryz.zeroValue9
  t46 := Tryz.underlying242
  a46 := Tryz.isAgg242
  z46 := Tryz.sizeOf242
  v46 := Tryz.zeroValue242
  t53 := Tryz.underlying326
  a53 := Tryz.isAgg326
  z53 := Tryz.sizeOf326
  v53 := Tryz.zeroValue326 }
/-- bits.Len64: "Len64 returns the minimum number of bits required to represent x; the result is 0 for x == 0.": IT RETURNS 'Lib.bitLen x'; the world is as it was. ('h0', 'h1': x is a uint64.) (LAID: no walk: one application.) -/
theorem Tryz.bits_Len64 (x : Int) (w : World) (h0 : 0 ≤ x) (h1 : x ≤ 18446744073709551615) :
    Calls Tryz.prog 316 #[.int .u64 x] w fun e w' => e = .returned (.int .i64 (Lib.bitLen x.toNat)) ∧ w' = w := Any.bits_Len64 Tryz.lays129 x w h0 h1
def Tryz.lays189_ren : Go.Shelf.Ren := ⟨fun | 189 => 226 | 125 => 274 | 257 => 273 | 128 => 315 | 129 => 316 | 294 => 306 | 295 => 307 | 296 => 308 | 297 => 309 | 298 => 310 | 299 => 311 | 216 => 312 | 300 => 313 | 301 => 314 | 328 => 328 | 329 => 329 | 330 => 330 | 331 => 331 | 332 => 332 | 215 => 333 | 343 => 334 | n => n, fun | 28 => 24 | 3 => 3 | 46 => 242 | 0 => 0 | 51 => 324 | 53 => 326 | 4 => 4 | 183 => 316 | 182 => 315 | 131 => 321 | 5 => 5 | 9 => 9 | 218 => 334 | 222 => 338 | 228 => 340 | 229 => 271 | n => n, fun | n => n⟩
theorem Tryz.lays189 : Go.Proofs.Lays.n189 Tryz.prog Tryz.lays189_ren := {
  mixed := by kernel_rfl
  f125 := Tryz.func274.trans (congrArg some (by kernel_rfl))
  f128 := Tryz.func315.trans (congrArg some (by kernel_rfl))
  f129 := Tryz.func316.trans (congrArg some (by kernel_rfl))
  f189 := Tryz.func226.trans (congrArg some (by kernel_rfl))
  f215 := Tryz.func333.trans (congrArg some (by kernel_rfl))
  f216 := Tryz.func312.trans (congrArg some (by kernel_rfl))
  f257 := Tryz.func273.trans (congrArg some (by kernel_rfl))
  f294 := Tryz.func306.trans (congrArg some (by kernel_rfl))
  f295 := Tryz.func307.trans (congrArg some (by kernel_rfl))
  f296 := Tryz.func308.trans (congrArg some (by kernel_rfl))
  f297 := Tryz.func309.trans (congrArg some (by kernel_rfl))
  f298 := Tryz.func310.trans (congrArg some (by kernel_rfl))
  f299 := Tryz.func311.trans (congrArg some (by kernel_rfl))
  f300 := Tryz.func313.trans (congrArg some (by kernel_rfl))
  f301 := Tryz.func314.trans (congrArg some (by kernel_rfl))
  f328 := Tryz.func328.trans (congrArg some (by kernel_rfl))
  f329 := Tryz.func329.trans (congrArg some (by kernel_rfl))
  f330 := Tryz.func330.trans (congrArg some (by kernel_rfl))
  f331 := Tryz.func331.trans (congrArg some (by kernel_rfl))
  f332 := Tryz.func332.trans (congrArg some (by kernel_rfl))
  f343 := Tryz.func334.trans (congrArg some (by kernel_rfl))
  t0 := Tryz.underlying0
  a0 := Tryz.isAgg0
  z0 := Tryz.sizeOf0
  v0 := Tryz.zeroValue0
  t3 := Tryz.underlying3
  a3 := Tryz.isAgg3
  z3 := Tryz.sizeOf3
  v3 := Tryz.zeroValue3
  t4 := Tryz.underlying4
  a4 := Tryz.isAgg4
  z4 := Tryz.sizeOf4
  v4 := Tryz.zeroValue4
  t5 := Tryz.underlying5
  a5 := Tryz.isAgg5
  z5 := Tryz.sizeOf5
  v5 := Tryz.zeroValue5
  t9 := Tryz.underlying9
  a9 := Tryz.isAgg9
  z9 := Tryz.sizeOf9
  v9 := Tryz.zeroValue9
  t28 := Tryz.underlying24
  a28 := Tryz.isAgg24
  z28 := Tryz.sizeOf24
  v28 := Tryz.zeroValue24
  t46 := Tryz.underlying242
  a46 := Tryz.isAgg242
  z46 := Tryz.sizeOf242
  v46 := Tryz.zeroValue242
  t51 := Tryz.underlying324
  a51 := Tryz.isAgg324
  z51 := Tryz.sizeOf324
  v51 := Tryz.zeroValue324
  t53 := Tryz.underlying326
  a53 := Tryz.isAgg326
  z53 := Tryz.sizeOf326
  v53 := Tryz.zeroValue326
  t131 := Tryz.underlying321
  a131 := Tryz.isAgg321
  z131 := Tryz.sizeOf321
  v131 := Tryz.zeroValue321
  t182 := Tryz.underlying315
  a182 := Tryz.isAgg315
  z182 := Tryz.sizeOf315
  v182 := Tryz.zeroValue315
  t183 := Tryz.underlying316
  a183 := Tryz.isAgg316
  z183 := Tryz.sizeOf316
  v183 := Tryz.zeroValue316
  t218 := Tryz.underlying334
  a218 := Tryz.isAgg334
  z218 := Tryz.sizeOf334
  v218 := Tryz.zeroValue334
  t222 := Tryz.underlying338
  a222 := Tryz.isAgg338
  z222 := Tryz.sizeOf338
  v222 := Tryz.zeroValue338
  t228 := Tryz.underlying340
  a228 := Tryz.isAgg340
  z228 := Tryz.sizeOf340
  v228 := Tryz.zeroValue340
  t229 := Tryz.underlying271
  a229 := Tryz.isAgg271
  z229 := Tryz.sizeOf271
  v229 := Tryz.zeroValue271 }
open Go.Sort Go.RowKit in
theorem Tryz.slices_Sort_int (blk off cap : Nat) (zs : List Int) (w : World) (hH : Holds (Value.int .i64) w blk off zs.toArray) (hblk : blk < w.heap.size) (hsz : zs.length < 4611686018427387904) :
    Calls Tryz.prog 226 #[.slice (some ⟨blk, off, none⟩) zs.length cap] w fun e w' =>
      e = .returned (.tuple #[]) ∧ ∃ n os, w' = grow (putRow (Value.int .i64) (Sort.ahead w n) blk off (zs.mergeSort fun x y => decide (x ≤ y)).toArray) os := Any.slices_Sort_int Tryz.lays189 blk off cap zs w hH hblk hsz
def Tryz.laysNm215_ren : Go.Shelf.Ren := ⟨fun | 15 => 154 | n => n, fun | 22 => 24 | 3 => 3 | 4 => 4 | n => n, fun | n => n⟩
theorem Tryz.laysNm215 : Go.Proofs.Lays2.n15 Tryz.prog Tryz.laysNm215_ren := {
  mixed := by kernel_rfl
  f15 := Tryz.func154.trans (congrArg some (by kernel_rfl))
  t3 := Tryz.underlying3
  a3 := Tryz.isAgg3
  z3 := Tryz.sizeOf3
  v3 := Tryz.zeroValue3
  t4 := Tryz.underlying4
  a4 := Tryz.isAgg4
  z4 := Tryz.sizeOf4
  v4 := Tryz.zeroValue4
  t22 := Tryz.underlying24
  a22 := Tryz.isAgg24
  z22 := Tryz.sizeOf24
  v22 := Tryz.zeroValue24
  i3 := by kernel_rfl }
open Go.RowKit Go.Lib in
/-- slices.Clone at []int: "Clone returns a copy of the slice. The elements are copied using assignment, so this is a shallow clone. The result may have additional unused capacity. The result preserves the nilness of s.": OF A SLICE THAT IS NOT nil IT RETURNS A SLICE THAT IS NOT nil, OF THE SAME ELEMENTS, IN MEMORY OF THE CALL's OWN: in the how-to's words (6f): 'w'.ownsRow B e 1 v' n cells': v' begins at the head of a row among the blocks from B on (B: the heap's size at the call), not frozen, whose first cells are the elements · 'Below B w w'': below B all is as it was. The capacity is whatever the run-time gives. 'zs': what the cells behind the slice's address hold; 'zs.take n': its elements. (LAID: no walk: one application.) -/
theorem Tryz.slices_Clone_int (b off n c : Nat) (zs : List Int) (w : World) (hz : n ≤ zs.length) (hbig : n * 8 ≤ 140737488355328) (hc : ∀ j, j < zs.length → w.cell? ⟨b, off + j, none⟩ = some (.int .i64 (zs.getD j 0))) :
    Calls Tryz.prog 154 #[.slice (some ⟨b, off, none⟩) n c] w fun e w' => ∃ v', e = .returned v' ∧ w'.ownsRow w.heap.size 3 1 v' n ((zs.take n).map (Value.int .i64)) ∧ v' ≠ .slice none 0 0 ∧ Below w.heap.size w w' := Any.slices_Clone_int Tryz.laysNm215 b off n c zs w hz hbig hc
open Go.RowKit Go.Lib in
/-- The same at nil: nil comes back; the world is as it was. (LAID: no walk: one application.) -/
theorem Tryz.slices_Clone_int_nil (n c : Nat) (w : World) :
    Calls Tryz.prog 154 #[.slice none n c] w fun e w' => e = .returned (.slice none 0 0) ∧ w' = w := Any.slices_Clone_int_nil Tryz.laysNm215 n c w
open Go.RowKit Go.Lib in
/-- The same at a slice of length 0 that is not nil, WHATEVER ITS ADDRESS (no cell is asked for): a slice that is not nil and owns nothing comes back. (LAID: no walk: one application.) -/
theorem Tryz.slices_Clone_int_zero (a : Addr) (c : Nat) (w : World) :
    Calls Tryz.prog 154 #[.slice (some a) 0 c] w fun e w' => ∃ v', e = .returned v' ∧ w'.ownsRow w.heap.size 3 1 v' 0 [] ∧ v' ≠ .slice none 0 0 ∧ Below w.heap.size w w' := Any.slices_Clone_int_zero Tryz.laysNm215 a c w
def Tryz.laysNm220_ren : Go.Shelf.Ren := ⟨fun | 20 => 227 | n => n, fun | 22 => 24 | 3 => 3 | 4 => 4 | 0 => 0 | n => n, fun | n => n⟩
theorem Tryz.laysNm220 : Go.Proofs.Lays2.n20 Tryz.prog Tryz.laysNm220_ren := {
  mixed := by kernel_rfl
  f20 := Tryz.func227.trans (congrArg some (by kernel_rfl))
  t0 := Tryz.underlying0
  a0 := Tryz.isAgg0
  z0 := Tryz.sizeOf0
  v0 := Tryz.zeroValue0
  t3 := Tryz.underlying3
  a3 := Tryz.isAgg3
  z3 := Tryz.sizeOf3
  v3 := Tryz.zeroValue3
  t4 := Tryz.underlying4
  a4 := Tryz.isAgg4
  z4 := Tryz.sizeOf4
  v4 := Tryz.zeroValue4
  t22 := Tryz.underlying24
  a22 := Tryz.isAgg24
  z22 := Tryz.sizeOf24
  v22 := Tryz.zeroValue24
  i3 := by kernel_rfl }
open Go.RowKit Go.Lib Go.Sort in
/-- slices.Compact at []int, over an array: the library's two loops are walked. (LAID: no walk: one application.) -/
theorem Tryz.slices_Compact_int_arr (blk off cap : Nat) (d : Array Int) (w : World) (hH : Holds encI w blk off d) (hsz : d.size ≤ 9223372036854775807) (hcap : d.size ≤ cap) :
    Calls Tryz.prog 227 #[.slice (some ⟨blk, off, none⟩) d.size cap] w fun e w' => e = .returned (.slice (some ⟨blk, off, none⟩) (compactUpTo d d.size).length cap) ∧ ∃ q, w' = putRow encI (Sort.ahead w q) blk off (compactUpTo d d.size ++ List.replicate (d.size - (compactUpTo d d.size).length) 0).toArray := Any.slices_Compact_int_arr Tryz.laysNm220 blk off cap d w hH hsz hcap
open Go.RowKit Go.Lib Go.Sort in
/-- slices.Compact at []int: "Compact replaces consecutive runs of equal elements with a single copy. This is like the uniq command found on Unix. Compact modifies the contents of the slice s and returns the modified slice, which may have a smaller length. Compact zeroes the elements between the new length and the original length. The result preserves the nilness of s.": IT RETURNS THE SLICE CUT TO 'Lib.compact zs'; ITS CELLS HOLD 'Lib.compact zs', THEN ZERO VALUES up to the old length; all else is as it was, but for the count of draws. IN THE WORDS OF slices.Sort's CONTRACT ('Holds', 'putRow'): so the everyday 'slices.Sort(xs); xs = slices.Compact(xs)' goes from the one contract to the other. It asks 'zs.length ≤ cap' (every slice's: the reslicing 's[:k]' looks at it). Length 0, nil: '.._empty'. (LAID: no walk: one application.) -/
theorem Tryz.slices_Compact_int (blk off cap : Nat) (zs : List Int) (w : World) (hH : Holds (Value.int .i64) w blk off zs.toArray) (hsz : zs.length ≤ 9223372036854775807) (hcap : zs.length ≤ cap) :
    Calls Tryz.prog 227 #[.slice (some ⟨blk, off, none⟩) zs.length cap] w fun e w' => e = .returned (.slice (some ⟨blk, off, none⟩) (Lib.compact zs).length cap) ∧ ∃ q, w' = putRow (Value.int .i64) (Sort.ahead w q) blk off (Lib.compact zs ++ List.replicate (zs.length - (Lib.compact zs).length) 0).toArray := Any.slices_Compact_int Tryz.laysNm220 blk off cap zs w hH hsz hcap
open Go.RowKit Go.Lib Go.Sort in
/-- The same at a slice of length 0, a nil one too: it comes back as it is. (LAID: no walk: one application.) -/
theorem Tryz.slices_Compact_int_empty (a : Option Addr) (cap : Nat) (w : World) :
    Calls Tryz.prog 227 #[.slice a 0 cap] w fun e w' => e = .returned (.slice a 0 cap) ∧ w' = w := Any.slices_Compact_int_empty Tryz.laysNm220 a cap w
def Tryz.laysNm237_ren : Go.Shelf.Ren := ⟨fun | 37 => 333 | n => n, fun | 3 => 3 | 4 => 4 | n => n, fun | n => n⟩
theorem Tryz.laysNm237 : Go.Proofs.Lays2.n37 Tryz.prog Tryz.laysNm237_ren := {
  mixed := by kernel_rfl
  f37 := Tryz.func333.trans (congrArg some (by kernel_rfl))
  t3 := Tryz.underlying3
  a3 := Tryz.isAgg3
  z3 := Tryz.sizeOf3
  v3 := Tryz.zeroValue3
  t4 := Tryz.underlying4
  a4 := Tryz.isAgg4
  z4 := Tryz.sizeOf4
  v4 := Tryz.zeroValue4 }
open Go.RowKit Go.Lib in
/-- cmp.isNaN[int]: 'x != x': false. (LAID: no walk: one application.) -/
theorem Tryz.cmp_isNaN_int2 (x : Int) (w : World) :
    Calls Tryz.prog 333 #[.int .i64 x] w fun e w' => e = .returned (.bool false) ∧ w' = w := Any.cmp_isNaN_int2 Tryz.laysNm237 x w
def Tryz.laysNm231_ren : Go.Shelf.Ren := ⟨fun | 31 => 312 | 37 => 333 | n => n, fun | 3 => 3 | 4 => 4 | n => n, fun | n => n⟩
theorem Tryz.laysNm231 : Go.Proofs.Lays2.n31 Tryz.prog Tryz.laysNm231_ren := {
  mixed := by kernel_rfl
  f31 := Tryz.func312.trans (congrArg some (by kernel_rfl))
  f37 := Tryz.func333.trans (congrArg some (by kernel_rfl))
  t3 := Tryz.underlying3
  a3 := Tryz.isAgg3
  z3 := Tryz.sizeOf3
  v3 := Tryz.zeroValue3
  t4 := Tryz.underlying4
  a4 := Tryz.isAgg4
  z4 := Tryz.sizeOf4
  v4 := Tryz.zeroValue4 }
open Go.RowKit Go.Lib in
/-- cmp.Less[int]: "Less reports whether x is less than y.": 'x < y'; the world is as it was. (LAID: no walk: one application.) -/
theorem Tryz.cmp_Less_int2 (x y : Int) (w : World) :
    Calls Tryz.prog 312 #[.int .i64 x, .int .i64 y] w fun e w' => e = .returned (.bool (decide (x < y))) ∧ w' = w := Any.cmp_Less_int2 Tryz.laysNm231 x y w
open Go.RowKit Go.Lib Go.Sort in
/-- slices.Compact at []int, of an argument: the slice cut to 'Lib.compact (elements)'; the n cells hold that, then zeros. (LAID: no walk: one application.) -/
theorem Tryz.slices_Compact_int_cells (b off n c : Nat) (zs : List Int) (w : World) (hz : n ≤ zs.length) (hbig : n ≤ 9223372036854775807) (hcap : n ≤ c) (hc : ∀ j, j < zs.length → w.cell? ⟨b, off + j, none⟩ = some (.int .i64 (zs.getD j 0))) (hf : ∀ j, j < n → w.frozen? ⟨b, off + j, none⟩ = false) :
    Calls Tryz.prog 227 #[.slice (some ⟨b, off, none⟩) n c] w fun e w' => e = .returned (.slice (some ⟨b, off, none⟩) (Lib.compact (zs.take n)).length c) ∧ ∃ q, w' = (w.drewN q).setCells b off ((Lib.compact (zs.take n) ++ List.replicate (n - (Lib.compact (zs.take n)).length) 0).map (Value.int .i64)) := Any.slices_Compact_int_cells Tryz.laysNm220 b off n c zs w hz hbig hcap hc hf
open Go.RowKit Go.Sort in
/-- .. and plain. (LAID: no walk: one application.) -/
theorem Tryz.slices_Sort_int_none (p : Option Addr) (cap : Nat) (w : World) :
    Calls Tryz.prog 226 #[.slice p 0 cap] w fun e w' => e = .returned (.tuple #[]) ∧ w' = w := Any.slices_Sort_int_none Tryz.lays189 p cap w
def Tryz.laysSlE43_f227_ren : Go.Shelf.Ren := ⟨fun | 43 => 227 | n => n, fun | 22 => 24 | 23 => 3 | 3 => 3 | 4 => 4 | 0 => 0 | n => n, fun | n => n⟩
theorem Tryz.laysSlE43_f227 : Go.Proofs.SlLaysE.n43 Tryz.prog Tryz.laysSlE43_f227_ren := {
  mixed := by kernel_rfl
  f43 := ⟨Tryz.f227.name, by decide, Tryz.func227.trans (congrArg some (by kernel_rfl))⟩
  t0 := Tryz.underlying0
  a0 := Tryz.isAgg0
  z0 := Tryz.sizeOf0
  v0 := Tryz.zeroValue0
  t3 := Tryz.underlying3
  a3 := Tryz.isAgg3
  z3 := Tryz.sizeOf3
  v3 := Tryz.zeroValue3
  t4 := Tryz.underlying4
  a4 := Tryz.isAgg4
  z4 := Tryz.sizeOf4
  v4 := Tryz.zeroValue4
  t22 := Tryz.underlying24
  a22 := Tryz.isAgg24
  z22 := Tryz.sizeOf24
  v22 := Tryz.zeroValue24
  a23 := Tryz.isAgg3
  z23 := Tryz.sizeOf3 }
open Go.RowKit Go.Lib Go.Sort in
/-- slices.Compact: "Compact replaces consecutive runs of equal elements with a single copy. .. Compact zeroes the elements between the new length and the original length.": IT RETURNS THE SLICE CUT TO 'compactUpTo d d.size'; ITS CELLS HOLD THAT, THEN ZERO VALUES up to the old length; the library's two loops are walked. (LAID AT THE INSTANCE 'slices.Compact[[]int,int]': no walk: one application.) -/
theorem Tryz.slices_Compact {α : Type} [Inhabited α] [DecidableEq α] (enc : α → Value) (hO : OneCell enc) (heq : EqlAt Tryz.prog 3 enc (fun x y => decide (x = y))) (hne : NeqAt Tryz.prog 3 enc (fun x y => decide (x = y))) (zr : α) (v23 : ∀ w, (zeroValue 3).run Tryz.prog w = .ok (enc zr) w) (blk off cap : Nat) (d : Array α) (w : World) (hH : Holds enc w blk off d) (hsz : d.size ≤ 9223372036854775807) (hcap : d.size ≤ cap) :
    Calls Tryz.prog 227 #[.slice (some ⟨blk, off, none⟩) d.size cap] w fun e w' => e = .returned (.slice (some ⟨blk, off, none⟩) (compactUpTo d d.size).length cap) ∧ ∃ q, w' = putRow enc (Sort.ahead w q) blk off (compactUpTo d d.size ++ List.replicate (d.size - (compactUpTo d d.size).length) zr).toArray := AnyE.slices_Compact Tryz.laysSlE43_f227 enc hO heq hne zr v23 blk off cap d w hH hsz hcap
def Tryz.laysSlE041_f154_ren : Go.Shelf.Ren := ⟨fun | 41 => 154 | n => n, fun | 22 => 24 | 23 => 3 | 4 => 4 | n => n, fun | n => n⟩
theorem Tryz.laysSlE041_f154 : Go.Proofs.SlLaysE0.n41 Tryz.prog Tryz.laysSlE041_f154_ren := {
  mixed := by kernel_rfl
  f41 := ⟨Tryz.f154.name, by decide, Tryz.func154.trans (congrArg some (by kernel_rfl))⟩
  t4 := Tryz.underlying4
  a4 := Tryz.isAgg4
  z4 := Tryz.sizeOf4
  v4 := Tryz.zeroValue4
  t22 := Tryz.underlying24
  a22 := Tryz.isAgg24
  z22 := Tryz.sizeOf24
  v22 := Tryz.zeroValue24 }
open Go.RowKit Go.Lib in
/-- slices.Clone: "Clone returns a copy of the slice. The elements are copied using assignment, so this is a shallow clone. The result may have additional unused capacity. The result preserves the nilness of s.": OF A SLICE THAT IS NOT nil IT RETURNS A SLICE THAT IS NOT nil, OF THE SAME CELLS, IN MEMORY OF THE CALL's OWN ('ownsRow': the how-to's 6f); below the heap's size at the call all is as it was. (LAID AT THE INSTANCE 'slices.Clone[[]int,int]': no walk: one application.) -/
theorem Tryz.slices_Clone (i0 : TypeInfo) (z : Value) (size bytes : Nat) (hi : Tryz.prog.info? 3 = some i0) (hz0 : i0.zero = some z) (hz1 : i0.size = size) (hz2 : i0.bytes = bytes) (hzs : z.cells.size = size) (hsz : 0 < size) (z23 : ∀ w, (Go.sizeOf 3).run Tryz.prog w = .ok size w) (b off n c : Nat) (news : List Value) (w : World) (hl : news.length = n * size) (hn : n ≤ maxLen) (hbig : n * bytes ≤ 140737488355328) (hc : ∀ j u, news[j]? = some u → w.cell? ⟨b, off + j, none⟩ = some u) (h1 : ∀ u ∈ news, u.oneCell' = true) :
    Calls Tryz.prog 154 #[.slice (some ⟨b, off, none⟩) n c] w fun e w' => ∃ v', e = .returned v' ∧ w'.ownsRow w.heap.size 3 size v' n news ∧ v' ≠ .slice none 0 0 ∧ Below w.heap.size w w' := AnyE.slices_Clone Tryz.laysSlE041_f154 i0 z size bytes hi hz0 hz1 hz2 hzs hsz z23 b off n c news w hl hn hbig hc h1
open Go.RowKit Go.Lib in
/-- The same at nil: nil comes back; the world is as it was; nothing is asked of the element's type. (LAID AT THE INSTANCE 'slices.Clone[[]int,int]': no walk: one application.) -/
theorem Tryz.slices_Clone_nil (n c : Nat) (w : World) :
    Calls Tryz.prog 154 #[.slice none n c] w fun e w' => e = .returned (.slice none 0 0) ∧ w' = w := AnyE.slices_Clone_nil Tryz.laysSlE041_f154 n c w
def Tryz.laysSlH6_f145_ren : Go.Shelf.Ren := ⟨fun | 6 => 145 | n => n, fun | 22 => 24 | 23 => 3 | 25 => 114 | 3 => 3 | 0 => 0 | 4 => 4 | n => n, fun | n => n⟩
theorem Tryz.laysSlH6_f145 : Go.Proofs.SlLaysH.n6 Tryz.prog Tryz.laysSlH6_f145_ren := {
  mixed := by kernel_rfl
  f6 := ⟨Tryz.f145.name, by decide, Tryz.func145.trans (congrArg some (by kernel_rfl))⟩
  t0 := Tryz.underlying0
  a0 := Tryz.isAgg0
  z0 := Tryz.sizeOf0
  v0 := Tryz.zeroValue0
  t3 := Tryz.underlying3
  a3 := Tryz.isAgg3
  z3 := Tryz.sizeOf3
  v3 := Tryz.zeroValue3
  t4 := Tryz.underlying4
  a4 := Tryz.isAgg4
  z4 := Tryz.sizeOf4
  v4 := Tryz.zeroValue4
  t22 := Tryz.underlying24
  a22 := Tryz.isAgg24
  z22 := Tryz.sizeOf24
  v22 := Tryz.zeroValue24
  a23 := Tryz.isAgg3
  z23 := Tryz.sizeOf3
  t25 := Tryz.underlying114
  a25 := Tryz.isAgg114
  z25 := Tryz.sizeOf114
  v25 := Tryz.zeroValue114 }
open Go.RowKit Go.Lib in
/-- slices.IndexFunc: "IndexFunc returns the first index i satisfying f(s[i]), or -1 if none do." (LAID AT THE INSTANCE 'slices.IndexFunc[[]int,int]': no walk: one application.) -/
theorem Tryz.slices_IndexFunc {α : Type} [Inhabited α] (enc : α → Value) (p : α → Bool) (g : Nat) (lb : Array Value) (eg : ∀ args w, (callFunc g args).run Tryz.prog w = .ok (.enter g args) w) (b off n c : Nat) (zs : List α) (w : World) (hp : PredAt Tryz.prog g lb enc p w) (hz : n ≤ zs.length) (hbig : n ≤ 9223372036854775807) (hc : ∀ j, j < zs.length → w.cell? ⟨b, off + j, none⟩ = some (enc zs[j]!)) :
    Calls Tryz.prog 145 #[.slice (some ⟨b, off, none⟩) n c, .func (.func g) #[] lb] w fun e w' => e = .returned (.int .i64 (Lib.idxBy (fun _ y => p y) (zs.take n) default)) ∧ ∃ q, w' = w.drewN q := AnyE.slices_IndexFunc Tryz.laysSlH6_f145 enc p g lb eg b off n c zs w hp hz hbig hc
open Go.RowKit Go.Lib in
/-- The same at a slice of length 0, a nil one too: the predicate is not called: nothing is asked of it. (LAID AT THE INSTANCE 'slices.IndexFunc[[]int,int]': no walk: one application.) -/
theorem Tryz.slices_IndexFunc_empty {α : Type} [Inhabited α] (a : Option Addr) (c : Nat) (fv : Value) (w : World) :
    Calls Tryz.prog 145 #[.slice a 0 c, fv] w fun e w' => e = .returned (.int .i64 (-1)) ∧ w' = w := AnyE.slices_IndexFunc_empty Tryz.laysSlH6_f145 a c fv w
def Tryz.laysSlH8_f70_ren : Go.Shelf.Ren := ⟨fun | 8 => 70 | 6 => 145 | n => n, fun | 22 => 24 | 23 => 3 | 25 => 114 | 4 => 4 | 3 => 3 | 0 => 0 | n => n, fun | n => n⟩
theorem Tryz.laysSlH8_f70 : Go.Proofs.SlLaysH.n8 Tryz.prog Tryz.laysSlH8_f70_ren := {
  mixed := by kernel_rfl
  f6 := ⟨Tryz.f145.name, by decide, Tryz.func145.trans (congrArg some (by kernel_rfl))⟩
  f8 := ⟨Tryz.f70.name, by decide, Tryz.func70.trans (congrArg some (by kernel_rfl))⟩
  t0 := Tryz.underlying0
  a0 := Tryz.isAgg0
  z0 := Tryz.sizeOf0
  v0 := Tryz.zeroValue0
  t3 := Tryz.underlying3
  a3 := Tryz.isAgg3
  z3 := Tryz.sizeOf3
  v3 := Tryz.zeroValue3
  t4 := Tryz.underlying4
  a4 := Tryz.isAgg4
  z4 := Tryz.sizeOf4
  v4 := Tryz.zeroValue4
  t22 := Tryz.underlying24
  a22 := Tryz.isAgg24
  z22 := Tryz.sizeOf24
  v22 := Tryz.zeroValue24
  a23 := Tryz.isAgg3
  z23 := Tryz.sizeOf3
  t25 := Tryz.underlying114
  a25 := Tryz.isAgg114
  z25 := Tryz.sizeOf114
  v25 := Tryz.zeroValue114 }
open Go.RowKit Go.Lib in
/-- slices.ContainsFunc: "ContainsFunc reports whether at least one element e of s satisfies f(e).": ITS CALLEE slices.IndexFunc IS MET BY ITS OWN CONTRACT. (LAID AT THE INSTANCE 'slices.ContainsFunc[[]int,int]': no walk: one application.) -/
theorem Tryz.slices_ContainsFunc {α : Type} [Inhabited α] (enc : α → Value) (p : α → Bool) (g : Nat) (lb : Array Value) (eg : ∀ args w, (callFunc g args).run Tryz.prog w = .ok (.enter g args) w) (b off n c : Nat) (zs : List α) (w : World) (hp : PredAt Tryz.prog g lb enc p w) (hz : n ≤ zs.length) (hbig : n ≤ 9223372036854775807) (hc : ∀ j, j < zs.length → w.cell? ⟨b, off + j, none⟩ = some (enc zs[j]!)) :
    Calls Tryz.prog 70 #[.slice (some ⟨b, off, none⟩) n c, .func (.func g) #[] lb] w fun e w' => e = .returned (.bool ((zs.take n).any p)) ∧ ∃ q, w' = w.drewN q := AnyE.slices_ContainsFunc Tryz.laysSlH8_f70 enc p g lb eg b off n c zs w hp hz hbig hc
open Go.RowKit Go.Lib in
/-- The same at a slice of length 0, a nil one too. (LAID AT THE INSTANCE 'slices.ContainsFunc[[]int,int]': no walk: one application.) -/
theorem Tryz.slices_ContainsFunc_empty {α : Type} [Inhabited α] (a : Option Addr) (c : Nat) (fv : Value) (w : World) :
    Calls Tryz.prog 70 #[.slice a 0 c, fv] w fun e w' => e = .returned (.bool false) ∧ w' = w := AnyE.slices_ContainsFunc_empty Tryz.laysSlH8_f70 a c fv w
def Tryz.laysSlH10_f224_ren : Go.Shelf.Ren := ⟨fun | 10 => 224 | 6 => 145 | n => n, fun | 22 => 24 | 23 => 3 | 25 => 114 | 3 => 3 | 4 => 4 | 0 => 0 | n => n, fun | n => n⟩
theorem Tryz.laysSlH10_f224 : Go.Proofs.SlLaysH.n10 Tryz.prog Tryz.laysSlH10_f224_ren := {
  mixed := by kernel_rfl
  f6 := ⟨Tryz.f145.name, by decide, Tryz.func145.trans (congrArg some (by kernel_rfl))⟩
  f10 := ⟨Tryz.f224.name, by decide, Tryz.func224.trans (congrArg some (by kernel_rfl))⟩
  t0 := Tryz.underlying0
  a0 := Tryz.isAgg0
  z0 := Tryz.sizeOf0
  v0 := Tryz.zeroValue0
  t3 := Tryz.underlying3
  a3 := Tryz.isAgg3
  z3 := Tryz.sizeOf3
  v3 := Tryz.zeroValue3
  t4 := Tryz.underlying4
  a4 := Tryz.isAgg4
  z4 := Tryz.sizeOf4
  v4 := Tryz.zeroValue4
  t22 := Tryz.underlying24
  a22 := Tryz.isAgg24
  z22 := Tryz.sizeOf24
  v22 := Tryz.zeroValue24
  a23 := Tryz.isAgg3
  z23 := Tryz.sizeOf3
  t25 := Tryz.underlying114
  a25 := Tryz.isAgg114
  z25 := Tryz.sizeOf114
  v25 := Tryz.zeroValue114 }
open Go.RowKit Go.Lib Go.Sort in
theorem Tryz.slices_DeleteFunc {α : Type} [Inhabited α] (enc : α → Value) (hO : OneCell enc) (p : α → Bool) (g : Nat) (lb : Array Value) (eg : ∀ args w, (callFunc g args).run Tryz.prog w = .ok (.enter g args) w) (zr : α) (v23 : ∀ w, (zeroValue 3).run Tryz.prog w = .ok (enc zr) w) (blk off cap : Nat) (d : Array α) (w : World) (hp : PredAt Tryz.prog g lb enc p w) (hpo : PredOver Tryz.prog g lb enc p blk off d.size w) (hH : Holds enc w blk off d) (hsz : d.size ≤ 9223372036854775807) (hcap : d.size ≤ cap) :
    Calls Tryz.prog 224 #[.slice (some ⟨blk, off, none⟩) d.size cap, .func (.func g) #[] lb] w fun e w' => e = .returned (.slice (some ⟨blk, off, none⟩) (d.toList.filter fun x => !p x).length cap) ∧ ∃ q, w' = putRow enc (Sort.ahead w q) blk off ((d.toList.filter fun x => !p x) ++ List.replicate (d.size - (d.toList.filter fun x => !p x).length) zr).toArray := AnyE.slices_DeleteFunc Tryz.laysSlH10_f224 enc hO p g lb eg zr v23 blk off cap d w hp hpo hH hsz hcap
end Go.Proofs
namespace Go.Proofs.YtkldapdpaldbgaaGreat
open Go.RowKit
open Go.RowKit Go.Lib Go.Sort

theorem compactTo_sorted (d : Array Int) (hs : ∀ i j, i ≤ j → j < d.size → d[i]! ≤ d[j]!) : ∀ m, m ≤ d.size → (Lib.compactUpTo d m).Nodup ∧ (∀ x, x ∈ Lib.compactUpTo d m ↔ ∃ j, j < m ∧ x = d[j]!)
  | 0, _ => by simp [Lib.compactUpTo]
  | m + 1, hm => by
    obtain ⟨ih1, ih2⟩ := compactTo_sorted d hs m (by omega)
    rw [Lib.compactUpTo_succ]
    by_cases hk : Lib.keeps d m = true
    · rw [if_pos hk]
      have hnew : d[m]! ∉ Lib.compactUpTo d m := by
        intro hmem
        obtain ⟨j, hj, e⟩ := (ih2 _).1 hmem
        have h1 : d[j]! ≤ d[m - 1]! := hs j (m - 1) (by omega) (by omega)
        have h2 : d[m - 1]! ≤ d[m]! := hs (m - 1) m (by omega) (by omega)
        have : d[m]! = d[m - 1]! := by omega
        rw [Lib.keeps_neg (by omega) this] at hk
        cases hk
      refine ⟨?_, fun x => ?_⟩
      · rw [List.nodup_append]
        refine ⟨ih1, by simp, fun a ha b hb e => ?_⟩
        rw [List.mem_singleton] at hb
        exact hnew (hb ▸ e ▸ ha)
      · rw [List.mem_append, List.mem_singleton, ih2]
        constructor
        · rintro (⟨j, hj, e⟩ | e)
          · exact ⟨j, by omega, e⟩
          · exact ⟨m, by omega, e⟩
        · rintro ⟨j, hj, e⟩
          by_cases hjm : j = m
          · exact Or.inr (hjm ▸ e)
          · exact Or.inl ⟨j, by omega, e⟩
    · rw [if_neg hk, List.append_nil]
      refine ⟨ih1, fun x => ?_⟩
      rw [ih2]
      have hm0 : 0 < m := by
        rcases Nat.eq_zero_or_pos m with e | e
        · subst e; exact absurd (Lib.keeps_lt_one d 0 (by omega)) hk
        · exact e
      have he : d[m]! = d[m - 1]! := by
        by_cases e : d[m]! = d[m - 1]!
        · exact e
        · exact absurd (Lib.keeps_pos e) hk
      constructor
      · rintro ⟨j, hj, e⟩
        exact ⟨j, by omega, e⟩
      · rintro ⟨j, hj, e⟩
        by_cases hjm : j = m
        · exact ⟨m - 1, by omega, by rw [e, hjm, he]⟩
        · exact ⟨j, by omega, e⟩
theorem compact_sorted {zs : List Int} (hs : zs.Pairwise (· ≤ ·)) : (Lib.compact zs).Nodup ∧ ∀ x, x ∈ Lib.compact zs ↔ x ∈ zs := by
  have hg : ∀ j, j < zs.length → zs.toArray[j]! = zs.getD j 0 := fun j hj => by simp [List.getD, hj]
  have h := compactTo_sorted zs.toArray (fun i j hij hj => by
    have hj' : j < zs.length := by simpa using hj
    rw [hg i (by omega), hg j hj']
    simp only [List.getD, List.getElem?_eq_getElem hj', List.getElem?_eq_getElem (show i < zs.length by omega), Option.getD_some]
    rcases Nat.lt_or_eq_of_le hij with hlt | he
    · exact List.pairwise_iff_getElem.1 hs i j (by omega) hj' hlt
    · subst he; exact Int.le_refl _) zs.length (by simp)
  refine ⟨h.1, fun x => ?_⟩
  show x ∈ Lib.compactUpTo zs.toArray zs.length ↔ _
  rw [h.2]
  constructor
  · rintro ⟨j, hj, rfl⟩
    rw [hg j hj]
    simp only [List.getD, List.getElem?_eq_getElem hj, Option.getD_some]
    exact List.getElem_mem hj
  · intro hx
    obtain ⟨j, hj, rfl⟩ := List.mem_iff_getElem.1 hx
    exact ⟨j, hj, by rw [hg j hj]; simp [List.getD, hj]⟩
theorem heap_putI {w : World} {g q : Nat} {cur : Array Value} {e : TypeId} {fr : Nat × Nat} (d : Array Int) (hb : w.heap[g]? = some (.cells cur e fr)) :
    (putRow (Value.int .i64) (Sort.ahead w q) g 0 d).heap[g]? = some (.cells (putCells (Value.int .i64) 0 d cur) e fr) := by
  simp [putRow, mapBlock, Sort.ahead, Array.getElem?_modify, hb, onCells]
theorem grownBy_putI {w : World} {g q : Nat} (d : Array Int) : w.grownBy (putRow (Value.int .i64) (Sort.ahead w q) g 0 d) (some g) := by
  refine ⟨rfl, rfl, rfl, by simp [putRow, mapBlock, Sort.ahead], fun k hk hne => ?_⟩
  have : g ≠ k := fun e => hne (by rw [e])
  simp [putRow, mapBlock, Sort.ahead, Array.getElem?_modify, this]
theorem flat_FI : ∀ q : List Int, flat FI q = q.map (Value.int .i64)
  | [] => rfl
  | z :: q => by
    show FI.enc z ++ flat FI q = _
    rw [flat_FI q]
    rfl
def Blk (w : World) (g cap : Nat) (ss : List Int) : Prop := ∃ cur e, w.heap[g]? = some (.cells cur e (0, 0)) ∧ cur.size = cap ∧ cur.toList.take ss.length = ss.map (Value.int .i64) ∧ ss.length ≤ cap
theorem Blk.holds {w : World} {g cap : Nat} {ss : List Int} (h : Blk w g cap ss) : Holds (Value.int .i64) w g 0 ss.toArray := by
  obtain ⟨cur, e, hb, _, ht, _⟩ := h
  exact holds_of_blockI hb ht
theorem Blk.lt {w : World} {g cap : Nat} {ss : List Int} (h : Blk w g cap ss) : g < w.heap.size := by
  obtain ⟨cur, e, hb, _⟩ := h
  exact (Array.getElem?_eq_some_iff.1 hb).1
theorem take_pre {cur : Array Value} {us rest : List Int} (h : (us ++ rest).length ≤ cur.size) : (putCells (Value.int .i64) 0 (us ++ rest).toArray cur).toList.take us.length = us.map (Value.int .i64) := by
  have a := take_putCellsI cur (us ++ rest) h
  have b := congrArg (fun l => l.take us.length) a
  simp only [List.take_take, List.map_append] at b
  rw [Nat.min_eq_left (by simp)] at b
  rw [b, List.take_left' (by simp)]
theorem Blk.put {w : World} {g cap q : Nat} {ss : List Int} (h : Blk w g cap ss) (us rest : List Int) (hl : (us ++ rest).length ≤ cap) : Blk (putRow (Value.int .i64) (Sort.ahead w q) g 0 (us ++ rest).toArray) g cap us := by
  obtain ⟨cur, e, hb, hs, _, _⟩ := h
  exact ⟨_, e, heap_putI _ hb, by simp [putCells, hs], take_pre (by omega), by rw [List.length_append] at hl; omega⟩
theorem Blk.sort {w : World} {g cap n : Nat} {os : Array Obj} {ss : List Int} (h : Blk w g cap ss) (us : List Int) (hl : us.length ≤ cap) : Blk (Go.Sort.grow (putRow (Value.int .i64) (Sort.ahead w n) g 0 us.toArray) os) g cap us := by
  obtain ⟨cur, e, hb, hs, _, _⟩ := h
  exact ⟨_, e, heap_sortedI _ hb, by simp [putCells, hs], take_putCellsI cur us (by omega), hl⟩
theorem Blk.rd {w : World} {g cap : Nat} {ss : List Int} (h : Blk w g cap ss) (hm : cap ≤ maxLen) : RdL FI w w.heap.size (.slice (some ⟨g, 0, none⟩) ss.length cap) ss := by
  have hH := h.holds
  have hg := h.lt
  obtain ⟨_, _, _, _, _, h1⟩ := h
  refine ⟨_, _, rfl, h1, hm, fun _ => ⟨g, 0, rfl, hg, fun j u hu => ?_⟩⟩
  have hf : flat FI ss = ss.map (Value.int .i64) := flat_FI ss
  rw [hf, List.getElem?_map] at hu
  obtain ⟨y, hy, rfl⟩ := Option.map_eq_some_iff.1 hu
  obtain ⟨hj, rfl⟩ := List.getElem?_eq_some_iff.1 hy
  have := (hH j (by simpa using hj)).1
  rw [this]
  simp [hj]

theorem asc1_ct (x : Int) (W : World) : Calls Tryz.prog 225 #[.int .i64 x] W fun e w' => e = .returned (.bool (x == 0)) ∧ w' = W := by
  go_enter Tryz.func225, Tryz.ntmps225
  go_wp2
  go_ret
  exact ⟨rfl, rfl⟩
theorem asc1_gives (x : Int) (W : World) : FnGives Tryz.prog 225 #[] #[Value.int .i64 x] (.bool (x == 0)) W :=
  (asc1_ct x W).mono fun _ _ h => ⟨h.1, 0, h.2⟩
set_option maxHeartbeats 1000000 in
theorem DeleteFunc_nil (A : Option Addr) (c : Nat) (w : World) (hc : c ≤ maxLen) : Calls Tryz.prog 224 #[.slice A 0 c, .func (.func 225) #[] #[]] w fun e w' => e = .returned (.slice A 0 c) ∧ Below w.heap.size w w' := by
  go_enter Tryz.func224, Tryz.ntmps224
  go_wp2_with fail
  refine (IndexFuncInt_ct w (.slice A 0 c) [] ⟨A, c, rfl, Nat.zero_le _, hc, fun h => absurd rfl h⟩ 225 #[] (fun n => n == 0) (fun _ _ => by kernel_rfl) (fun x W hx _ => by simp at hx)).mono ?_
  rw [show idxOf (fun n : Int => n == 0) [] = -1 from rfl]
  rintro e w1 ⟨rfl, hb⟩
  go_wp2
  go_ret
  exact ⟨rfl, hb⟩
theorem own_zero {w : World} {B : Nat} {e : TypeId} {v : Value} (h : w.ownsRow B e 1 v 0 []) : ∃ A c, v = .slice A 0 c ∧ c ≤ maxLen := by
  rcases h.2 with ⟨h0, _⟩ | ⟨g, cap, cur, hv, _, _, _, hc, _, _⟩
  · exact ⟨_, _, h0, by simp [maxLen]⟩
  · exact ⟨_, _, hv, hc⟩
set_option maxRecDepth 100000 in
set_option maxHeartbeats 1000000 in
theorem asc_nil (w : World) (A : Option Addr) (cap0 : Nat) :
    Calls Tryz.prog 147 #[.slice A 0 cap0] w fun e w' => ∃ v' l', e = .returned v' ∧ RdL FI w' w'.heap.size v' l' ∧ l'.Nodup ∧ (∀ h, h ∈ l' ↔ (h ∈ ([] : List Int) ∧ h ≠ 0)) ∧ Below w.heap.size w w' := by
  have kc : Calls Tryz.prog 154 #[.slice A 0 cap0] w fun e w' => ∃ A' c', e = .returned (.slice A' 0 c') ∧ c' ≤ maxLen ∧ Below w.heap.size w w' := by
    cases A with
    | none => exact (Tryz.slices_Clone_int_nil 0 cap0 w).mono fun e w' hh => ⟨none, 0, hh.1, by simp [maxLen], by rw [hh.2]; exact Below.refl _ _⟩
    | some a =>
      refine (Tryz.slices_Clone_int_zero a cap0 w).mono ?_
      rintro e w' ⟨v', he, ho, _, hb⟩
      obtain ⟨A', c', rfl, hc⟩ := own_zero ho
      exact ⟨A', c', he, hc, hb⟩
  go_enter Tryz.func147, Tryz.ntmps147
  go_wp2_with fail
  refine kc.mono ?_
  rintro e w1 ⟨A', c', rfl, hc', hb1⟩
  go_wp2_with fail
  refine (DeleteFunc_nil A' c' w1 hc').mono ?_
  rintro e w2 ⟨rfl, hb2⟩
  go_wp2_with fail
  refine (Tryz.slices_Sort_int_none A' c' w2).mono ?_
  rintro e w3 ⟨rfl, rfl⟩
  go_wp2_with fail
  refine (Tryz.slices_Compact_int_empty A' c' w3).mono ?_
  rintro e w4 ⟨rfl, rfl⟩
  go_wp2_with fail
  go_ret
  exact ⟨_, [], rfl, ⟨A', c', rfl, Nat.zero_le _, hc', fun h => absurd rfl h⟩, List.nodup_nil, fun h => by simp, hb1.trans (hb2.mono hb1.size)⟩
set_option maxRecDepth 100000 in
set_option maxHeartbeats 2000000 in
theorem asc_cons (w : World) (b off cap0 : Nat) (l : List Int) (hn : l.length ≤ 1000) (hc : ∀ j u, (flat FI l)[j]? = some u → w.cell? ⟨b, off + j, none⟩ = some u) :
    Calls Tryz.prog 147 #[.slice (some ⟨b, off, none⟩) l.length cap0] w fun e w' => ∃ v' l', e = .returned v' ∧ RdL FI w' w'.heap.size v' l' ∧ l'.Nodup ∧ (∀ h, h ∈ l' ↔ (h ∈ l ∧ h ≠ 0)) ∧ Below w.heap.size w w' := by
  have hc' : ∀ j, j < l.length → w.cell? ⟨b, off + j, none⟩ = some (.int .i64 (l.getD j 0)) := fun j hj => by
    have hf : flat FI l = l.map (Value.int .i64) := flat_FI l
    exact hc j _ (by rw [hf]; simp [List.getD, hj])
  have kc := Tryz.slices_Clone_int b off l.length cap0 l w (Nat.le_refl _) (by omega) hc'
  obtain ⟨fl, hfl⟩ : ∃ fl, Hid (fl = l.filter fun n : Int => !(n == 0)) := ⟨_, Hid.mk_ rfl⟩
  have hfn : fl.length ≤ l.length := by rw [hfl.out]; exact List.length_filter_le _ _
  obtain ⟨so, hso⟩ : ∃ so, Hid (so = fl.mergeSort fun x y => decide (x ≤ y)) := ⟨_, Hid.mk_ rfl⟩
  have HSL := Hid.mk_ (show so.length = fl.length by rw [hso.out]; exact List.length_mergeSort _)
  have hsle : so.length ≤ fl.length := Nat.le_of_eq HSL.out
  have hsp : so.Perm fl := by rw [hso.out]; exact List.mergeSort_perm _ _
  have hsw : so.Pairwise (· ≤ ·) := by
    rw [hso.out]
    have a := List.pairwise_mergeSort (le := fun x y : Int => decide (x ≤ y)) (fun a b c h1 h2 => by simp at *; omega) (fun a b => by simp; omega) fl
    exact a.imp (fun h => of_decide_eq_true h)
  obtain ⟨hcn, hcm⟩ := compact_sorted hsw
  have hcl : (Lib.compact so).length ≤ so.length := Lib.compact_length_le so
  go_enter Tryz.func147, Tryz.ntmps147
  go_wp2_with fail
  refine kc.mono ?_
  rintro e w1 ⟨v', rfl, hown, hnn, hb1⟩
  rcases hown.2 with ⟨h0, _⟩ | ⟨g, cap, cur, hv', hBg, hblk, hle, hcap, hcs, htk⟩
  · exact absurd h0 hnn
  subst hv'
  have B1 : Blk w1 g cap l := ⟨cur, _, hblk, by omega, by rw [Nat.mul_one] at htk; rw [htk, List.take_length], hle⟩
  clear hown hnn hblk htk kc hc hc'
  go_wp2_with fail
  have kd := Tryz.slices_DeleteFunc (Value.int .i64) (fun _ => rfl) (fun n : Int => n == 0) 225 #[] (fun _ _ => by kernel_rfl) 0 Tryz.zeroValue3 g 0 cap l.toArray w1 (fun W x _ => asc1_gives x W) (fun _ _ _ x _ => asc1_gives x _) B1.holds (by simp; omega) (by simpa using hle)
  simp only [List.size_toArray] at kd
  rw [← hfl.out] at kd
  refine kd.mono ?_
  rintro e w2 ⟨rfl, q2, hw2⟩
  have B2 : Blk w2 g cap fl := by
    rw [hw2]
    exact B1.put fl _ (by simp; omega)
  have G2 : w1.grownBy w2 (some g) := by rw [hw2]; exact grownBy_putI _
  clear hw2 kd
  go_wp2_with fail
  have ks := Tryz.slices_Sort_int g 0 cap fl w2 B2.holds B2.lt (by omega)
  rw [← hso.out] at ks
  refine ks.mono ?_
  rintro e w3 ⟨rfl, n3, os3, hw3⟩
  have B3 : Blk w3 g cap so := by
    rw [hw3]
    exact B2.sort so (by omega)
  have G3 : w2.grownBy w3 (some g) := by rw [hw3]; exact grownBy_sortedI _
  clear hw3 ks
  go_wp2_with fail
  have kp := Tryz.slices_Compact_int g 0 cap so w3 B3.holds (by omega) (by omega)
  rw [HSL.out] at kp
  refine kp.mono ?_
  rintro e w4 ⟨rfl, q4, hw4⟩
  have B4 : Blk w4 g cap (Lib.compact so) := by
    rw [hw4]
    exact B3.put (Lib.compact so) _ (by simp; omega)
  have G4 : w3.grownBy w4 (some g) := by rw [hw4]; exact grownBy_putI _
  clear hw4 kp
  go_wp2_with fail
  go_ret
  have hbw : ∀ a ∈ ([g] : List Nat), w.heap.size ≤ a := fun a ha => by simp at ha; omega
  have hb2 : Below w.heap.size w w2 := hb1.grown G2 hb1.size (fun b hb' => by simp at hb'; omega)
  have hb3 : Below w.heap.size w w3 := hb2.grown G3 hb2.size (fun b hb' => by simp at hb'; omega)
  have hb4 : Below w.heap.size w w4 := hb3.grown G4 hb3.size (fun b hb' => by simp at hb'; omega)
  exact ⟨_, Lib.compact so, rfl, B4.rd hcap, hcn, fun x => by rw [hcm, hsp.mem_iff, hfl.out, List.mem_filter]; simp, hb4⟩
theorem ascending_ok : AscCt := by
  intro w v l h hn
  obtain ⟨A, cap0, hv, h1, h2, h3⟩ := id h
  subst hv
  by_cases hl : l = []
  · subst hl
    exact asc_nil w A cap0
  · obtain ⟨b, off, hA, hbl, hc⟩ := h3 hl
    subst hA
    exact asc_cons w b off cap0 l hn hc
end Go.Proofs.YtkldapdpaldbgaaGreat
