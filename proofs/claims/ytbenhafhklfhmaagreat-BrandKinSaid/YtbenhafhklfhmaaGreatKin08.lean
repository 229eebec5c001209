/-
  Part 8 of the proof of brandKin_holds: declarations of several texts, in build order. No condition on a program.
-/
import Derived.Shelf.Small.Bits
import Derived.Shelf.Strconv.Itoa0
import Derived.Ground.SlsfProg
import Derived.Shelf.SlSortCmp.Insertion
import Derived.Ground.SlgmProg
import Derived.Shelf.SortM.Plain
import Derived.Shelf.SortM.SortNone
import Derived.Shelf.SlSortCmp.SiftDown1
import Derived.Shelf.SlSortCmp.HeapSort1
import Derived.Shelf.SlSortCmp.Insertion1
import Derived.Shelf.SlSortCmp.Median1
import Derived.Shelf.SlSortCmp.Pivot1
import Derived.Shelf.SlSortCmp.ReverseRange1
import Derived.Shelf.SlSortCmp.PartialInsertion1
import Derived.Shelf.SlSortCmp.PartitionEqual1
import Derived.Shelf.SlSortCmp.Partition1
import Derived.Shelf.SlSortCmp.Pdq1
import Derived.Shelf.SlSortCmp.Whole1
import Derived.Shelf.SlSortCmp.NoneTotal
import Derived.Test.YtbenhafhklfhmaaGreatProg
import Derived.Test.YtbenhafhklfhmaaGreatKin07
import Derived.Test.YtbenhafhklfhmaaGreatKin06
import Derived.IntWalk
namespace Go.Proofs
open Go.Shelf
def Tryz.laysSlM5_f115_ren : Go.Shelf.Ren := ⟨fun | 5 => 115 | 8 => 111 | 7 => 127 | 19 => 125 | 20 => 126 | 10 => 133 | 11 => 134 | 12 => 135 | 13 => 136 | 14 => 137 | 15 => 138 | 16 => 139 | 17 => 140 | 18 => 141 | 30 => 143 | 31 => 129 | 32 => 130 | 33 => 144 | 34 => 145 | 35 => 112 | 40 => 146 | n => n, fun | 23 => 28 | 25 => 3 | 3 => 3 | 32 => 145 | 22 => 28 | 0 => 0 | 44 => 25 | 46 => 179 | 4 => 4 | 36 => 172 | 35 => 171 | 41 => 40 | 5 => 5 | 9 => 9 | 53 => 181 | 57 => 185 | 63 => 192 | 64 => 193 | n => n, fun | n => n⟩
theorem Tryz.laysSlM5_f115 : Go.Proofs.SlLaysM.n5 Tryz.prog Tryz.laysSlM5_f115_ren := {
 mixed := by kernel_rfl
 f5 := ⟨Tryz.f115.name, by decide, Tryz.func115.trans (congrArg some (by kernel_rfl))⟩
 f7 := ⟨Tryz.f127.name, by decide, Tryz.func127.trans (congrArg some (by kernel_rfl))⟩
 f8 := Tryz.func111.trans (congrArg some (by kernel_rfl))
 f10 := ⟨Tryz.f133.name, by decide, Tryz.func133.trans (congrArg some (by kernel_rfl))⟩
 f11 := ⟨Tryz.f134.name, by decide, Tryz.func134.trans (congrArg some (by kernel_rfl))⟩
 f12 := ⟨Tryz.f135.name, by decide, Tryz.func135.trans (congrArg some (by kernel_rfl))⟩
 f13 := ⟨Tryz.f136.name, by decide, Tryz.func136.trans (congrArg some (by kernel_rfl))⟩
 f14 := ⟨Tryz.f137.name, by decide, Tryz.func137.trans (congrArg some (by kernel_rfl))⟩
 f15 := ⟨Tryz.f138.name, by decide, Tryz.func138.trans (congrArg some (by kernel_rfl))⟩
 f16 := ⟨Tryz.f139.name, by decide, Tryz.func139.trans (congrArg some (by kernel_rfl))⟩
 f17 := ⟨Tryz.f140.name, by decide, Tryz.func140.trans (congrArg some (by kernel_rfl))⟩
 f18 := ⟨Tryz.f141.name, by decide, Tryz.func141.trans (congrArg some (by kernel_rfl))⟩
 f19 := Tryz.func125.trans (congrArg some (by kernel_rfl))
 f20 := Tryz.func126.trans (congrArg some (by kernel_rfl))
 f30 := ⟨Tryz.f143.name, by decide, Tryz.func143.trans (congrArg some (by kernel_rfl))⟩
 f31 := Tryz.func129.trans (congrArg some (by kernel_rfl))
 f32 := Tryz.func130.trans (congrArg some (by kernel_rfl))
 f33 := ⟨Tryz.f144.name, by decide, Tryz.func144.trans (congrArg some (by kernel_rfl))⟩
 f34 := ⟨Tryz.f145.name, by decide, Tryz.func145.trans (congrArg some (by kernel_rfl))⟩
 f35 := ⟨Tryz.f112.name, by decide, Tryz.func112.trans (congrArg some (by kernel_rfl))⟩
 f40 := ⟨Tryz.f146.name, by decide, Tryz.func146.trans (congrArg some (by kernel_rfl))⟩
 t0 := Tryz.underlying0
 a0 := Tryz.isAgg0
 z0 := Tryz.sizeOf0
 v0 := Tryz.zeroValue0
 t3 := Tryz.underlying3
 a3 := Tryz.isAgg3
 z3 := Tryz.sizeOf3
 v3 := Tryz.zeroValue3
 t4 := Tryz.underlying4
 a4 := Tryz.isAgg4
 z4 := Tryz.sizeOf4
 v4 := Tryz.zeroValue4
 t5 := Tryz.underlying5
 a5 := Tryz.isAgg5
 z5 := Tryz.sizeOf5
 v5 := Tryz.zeroValue5
 t9 := Tryz.underlying9
 a9 := Tryz.isAgg9
 z9 := Tryz.sizeOf9
 v9 := Tryz.zeroValue9
 t22 := Tryz.underlying28
 a22 := Tryz.isAgg28
 z22 := Tryz.sizeOf28
 v22 := Tryz.zeroValue28
 t23 := Tryz.underlying28
 a23 := Tryz.isAgg28
 z23 := Tryz.sizeOf28
 v23 := Tryz.zeroValue28
 t25 := Tryz.underlying3
 a25 := Tryz.isAgg3
 z25 := Tryz.sizeOf3
 v25 := Tryz.zeroValue3
 t32 := Tryz.underlying145
 a32 := Tryz.isAgg145
 z32 := Tryz.sizeOf145
 v32 := Tryz.zeroValue145
 t35 := Tryz.underlying171
 a35 := Tryz.isAgg171
 z35 := Tryz.sizeOf171
 v35 := Tryz.zeroValue171
 t36 := Tryz.underlying172
 a36 := Tryz.isAgg172
 z36 := Tryz.sizeOf172
 v36 := Tryz.zeroValue172
 t41 := Tryz.underlying40
 a41 := Tryz.isAgg40
 z41 := Tryz.sizeOf40
 v41 := Tryz.zeroValue40
 t44 := Tryz.underlying25
 a44 := Tryz.isAgg25
 z44 := Tryz.sizeOf25
 v44 := Tryz.zeroValue25
 t46 := Tryz.underlying179
 a46 := Tryz.isAgg179
 z46 := Tryz.sizeOf179
 v46 := Tryz.zeroValue179
 t53 := Tryz.underlying181
 a53 := Tryz.isAgg181
 z53 := Tryz.sizeOf181
 v53 := Tryz.zeroValue181
 t57 := Tryz.underlying185
 a57 := Tryz.isAgg185
 z57 := Tryz.sizeOf185
 v57 := Tryz.zeroValue185
 t63 := Tryz.underlying192
 a63 := Tryz.isAgg192
 z63 := Tryz.sizeOf192
 v63 := Tryz.zeroValue192
 t64 := Tryz.underlying193
 a64 := Tryz.isAgg193
 z64 := Tryz.sizeOf193
 v64 := Tryz.zeroValue193 }
open Go.Sort Go.RowKit in
theorem Tryz.slices_Sort_int (blk off cap : Nat) (zs : List Int) (w : World) (hH : Holds (Value.int .i64) w blk off zs.toArray) (hblk : blk < w.heap.size) (hsz : zs.length < 4611686018427387904) :
 Calls Tryz.prog 115 #[.slice (some ⟨blk, off, none⟩) zs.length cap] w fun e w' =>
  e = .returned (.tuple #[]) ∧ ∃ n os, w' = grow (putRow (Value.int .i64) (Sort.ahead w n) blk off (zs.mergeSort fun x y => decide (x ≤ y)).toArray) os := AnyM.slices_Sort_int Tryz.laysSlM5_f115 blk off cap zs w hH hblk hsz
open Go.RowKit Go.Sort in
theorem Tryz.slices_Sort_int_none (p : Option Addr) (cap : Nat) (w : World) :
 Calls Tryz.prog 115 #[.slice p 0 cap] w fun e w' => e = .returned (.tuple #[]) ∧ w' = w := AnyM.slices_Sort_int_none Tryz.laysSlM5_f115 p cap w
def Tryz.laysSlF6_f91_ren : Go.Shelf.Ren := ⟨fun | 6 => 91 | 15 => 111 | 14 => 110 | 28 => 125 | 29 => 126 | 20 => 117 | 21 => 118 | 22 => 119 | 23 => 120 | 24 => 121 | 25 => 122 | 26 => 123 | 27 => 124 | 46 => 128 | 47 => 129 | 48 => 130 | 49 => 131 | 50 => 132 | 57 => 142 | n => n, fun | 22 => 28 | 24 => 3 | 25 => 150 | 3 => 3 | 39 => 145 | 0 => 0 | 53 => 25 | 55 => 179 | 4 => 4 | 46 => 172 | 45 => 171 | 50 => 40 | 5 => 5 | 9 => 9 | 66 => 181 | 70 => 185 | 76 => 192 | 77 => 193 | n => n, fun | n => n⟩
theorem Tryz.laysSlF6_f91 : Go.Proofs.SlLaysF.n6 Tryz.prog Tryz.laysSlF6_f91_ren := {
 mixed := by kernel_rfl
 f6 := ⟨Tryz.f91.name, by decide, Tryz.func91.trans (congrArg some (by kernel_rfl))⟩
 f14 := ⟨Tryz.f110.name, by decide, Tryz.func110.trans (congrArg some (by kernel_rfl))⟩
 f15 := Tryz.func111.trans (congrArg some (by kernel_rfl))
 f20 := ⟨Tryz.f117.name, by decide, Tryz.func117.trans (congrArg some (by kernel_rfl))⟩
 f21 := ⟨Tryz.f118.name, by decide, Tryz.func118.trans (congrArg some (by kernel_rfl))⟩
 f22 := ⟨Tryz.f119.name, by decide, Tryz.func119.trans (congrArg some (by kernel_rfl))⟩
 f23 := ⟨Tryz.f120.name, by decide, Tryz.func120.trans (congrArg some (by kernel_rfl))⟩
 f24 := ⟨Tryz.f121.name, by decide, Tryz.func121.trans (congrArg some (by kernel_rfl))⟩
 f25 := ⟨Tryz.f122.name, by decide, Tryz.func122.trans (congrArg some (by kernel_rfl))⟩
 f26 := ⟨Tryz.f123.name, by decide, Tryz.func123.trans (congrArg some (by kernel_rfl))⟩
 f27 := ⟨Tryz.f124.name, by decide, Tryz.func124.trans (congrArg some (by kernel_rfl))⟩
 f28 := Tryz.func125.trans (congrArg some (by kernel_rfl))
 f29 := Tryz.func126.trans (congrArg some (by kernel_rfl))
 f46 := ⟨Tryz.f128.name, by decide, Tryz.func128.trans (congrArg some (by kernel_rfl))⟩
 f47 := Tryz.func129.trans (congrArg some (by kernel_rfl))
 f48 := Tryz.func130.trans (congrArg some (by kernel_rfl))
 f49 := ⟨Tryz.f131.name, by decide, Tryz.func131.trans (congrArg some (by kernel_rfl))⟩
 f50 := ⟨Tryz.f132.name, by decide, Tryz.func132.trans (congrArg some (by kernel_rfl))⟩
 f57 := ⟨Tryz.f142.name, by decide, Tryz.func142.trans (congrArg some (by kernel_rfl))⟩
 t0 := Tryz.underlying0
 a0 := Tryz.isAgg0
 z0 := Tryz.sizeOf0
 v0 := Tryz.zeroValue0
 t3 := Tryz.underlying3
 a3 := Tryz.isAgg3
 z3 := Tryz.sizeOf3
 v3 := Tryz.zeroValue3
 t4 := Tryz.underlying4
 a4 := Tryz.isAgg4
 z4 := Tryz.sizeOf4
 v4 := Tryz.zeroValue4
 t5 := Tryz.underlying5
 a5 := Tryz.isAgg5
 z5 := Tryz.sizeOf5
 v5 := Tryz.zeroValue5
 t9 := Tryz.underlying9
 a9 := Tryz.isAgg9
 z9 := Tryz.sizeOf9
 v9 := Tryz.zeroValue9
 t22 := Tryz.underlying28
 a22 := Tryz.isAgg28
 z22 := Tryz.sizeOf28
 v22 := Tryz.zeroValue28
 a24 := Tryz.isAgg3
 z24 := Tryz.sizeOf3
 t25 := Tryz.underlying150
 a25 := Tryz.isAgg150
 z25 := Tryz.sizeOf150
 v25 := Tryz.zeroValue150
 t39 := Tryz.underlying145
 a39 := Tryz.isAgg145
 z39 := Tryz.sizeOf145
 v39 := Tryz.zeroValue145
 t45 := Tryz.underlying171
 a45 := Tryz.isAgg171
 z45 := Tryz.sizeOf171
 v45 := Tryz.zeroValue171
 t46 := Tryz.underlying172
 a46 := Tryz.isAgg172
 z46 := Tryz.sizeOf172
 v46 := Tryz.zeroValue172
 t50 := Tryz.underlying40
 a50 := Tryz.isAgg40
 z50 := Tryz.sizeOf40
 v50 := Tryz.zeroValue40
 t53 := Tryz.underlying25
 a53 := Tryz.isAgg25
 z53 := Tryz.sizeOf25
 v53 := Tryz.zeroValue25
 t55 := Tryz.underlying179
 a55 := Tryz.isAgg179
 z55 := Tryz.sizeOf179
 v55 := Tryz.zeroValue179
 t66 := Tryz.underlying181
 a66 := Tryz.isAgg181
 z66 := Tryz.sizeOf181
 v66 := Tryz.zeroValue181
 t70 := Tryz.underlying185
 a70 := Tryz.isAgg185
 z70 := Tryz.sizeOf185
 v70 := Tryz.zeroValue185
 t76 := Tryz.underlying192
 a76 := Tryz.isAgg192
 z76 := Tryz.sizeOf192
 v76 := Tryz.zeroValue192
 t77 := Tryz.underlying193
 a77 := Tryz.isAgg193
 z77 := Tryz.sizeOf193
 v77 := Tryz.zeroValue193 }
open Go.RowKit Go.Lib Go.Sort in
theorem Tryz.slices_SortFunc {α : Type} [Inhabited α] (enc : α → Value) (h1 : OneCell enc) (cf : α → α → Int) (hO : SWO (ltOf cf)) (g : Nat) (cb : Array Value) (blk off cap : Nat) (d : Array α) (w : World) (eg : ∀ args w, (callFunc g args).run Tryz.prog w = .ok (.enter g args) w) (hcmp : CmpLays1 Tryz.prog g cb enc cf blk off d.size w) (hH : Holds enc w blk off d) (hblk : blk < w.heap.size) (hsz : d.size < 4611686018427387904) :
 Calls Tryz.prog 91 #[.slice (some ⟨blk, off, none⟩) d.size cap, .func (.func g) #[] cb] w fun e w' =>
  e = .returned (.tuple #[]) ∧ ∃ d' n os, PermIn 0 d.size d d' ∧ SortedIn (ltOf cf) 0 d.size d' ∧ w' = sortWorld enc w blk off n d' os := Any.slices_SortFunc Tryz.laysSlF6_f91 enc h1 cf hO g cb blk off cap d w eg hcmp hH hblk hsz
def Tryz.laysSlF06_f91_ren : Go.Shelf.Ren := ⟨fun | 6 => 91 | 15 => 111 | 14 => 110 | 28 => 125 | 29 => 126 | 20 => 117 | 21 => 118 | 22 => 119 | 23 => 120 | 24 => 121 | 25 => 122 | 26 => 123 | 27 => 124 | 46 => 128 | 47 => 129 | 48 => 130 | 49 => 131 | 50 => 132 | 57 => 142 | n => n, fun | 22 => 28 | 24 => 3 | 25 => 150 | 3 => 3 | 39 => 145 | 0 => 0 | 53 => 25 | 55 => 179 | 4 => 4 | 46 => 172 | 45 => 171 | 50 => 40 | 5 => 5 | 9 => 9 | 66 => 181 | 70 => 185 | 76 => 192 | 77 => 193 | n => n, fun | n => n⟩
theorem Tryz.laysSlF06_f91 : Go.Proofs.SlLaysF0.n6 Tryz.prog Tryz.laysSlF06_f91_ren := {
 mixed := by kernel_rfl
 f6 := ⟨Tryz.f91.name, by decide, Tryz.func91.trans (congrArg some (by kernel_rfl))⟩
 f14 := ⟨Tryz.f110.name, by decide, Tryz.func110.trans (congrArg some (by kernel_rfl))⟩
 f15 := Tryz.func111.trans (congrArg some (by kernel_rfl))
 f20 := ⟨Tryz.f117.name, by decide, Tryz.func117.trans (congrArg some (by kernel_rfl))⟩
 f21 := ⟨Tryz.f118.name, by decide, Tryz.func118.trans (congrArg some (by kernel_rfl))⟩
 f22 := ⟨Tryz.f119.name, by decide, Tryz.func119.trans (congrArg some (by kernel_rfl))⟩
 f23 := ⟨Tryz.f120.name, by decide, Tryz.func120.trans (congrArg some (by kernel_rfl))⟩
 f24 := ⟨Tryz.f121.name, by decide, Tryz.func121.trans (congrArg some (by kernel_rfl))⟩
 f25 := ⟨Tryz.f122.name, by decide, Tryz.func122.trans (congrArg some (by kernel_rfl))⟩
 f26 := ⟨Tryz.f123.name, by decide, Tryz.func123.trans (congrArg some (by kernel_rfl))⟩
 f27 := ⟨Tryz.f124.name, by decide, Tryz.func124.trans (congrArg some (by kernel_rfl))⟩
 f28 := Tryz.func125.trans (congrArg some (by kernel_rfl))
 f29 := Tryz.func126.trans (congrArg some (by kernel_rfl))
 f46 := ⟨Tryz.f128.name, by decide, Tryz.func128.trans (congrArg some (by kernel_rfl))⟩
 f47 := Tryz.func129.trans (congrArg some (by kernel_rfl))
 f48 := Tryz.func130.trans (congrArg some (by kernel_rfl))
 f49 := ⟨Tryz.f131.name, by decide, Tryz.func131.trans (congrArg some (by kernel_rfl))⟩
 f50 := ⟨Tryz.f132.name, by decide, Tryz.func132.trans (congrArg some (by kernel_rfl))⟩
 f57 := ⟨Tryz.f142.name, by decide, Tryz.func142.trans (congrArg some (by kernel_rfl))⟩
 t0 := Tryz.underlying0
 a0 := Tryz.isAgg0
 z0 := Tryz.sizeOf0
 v0 := Tryz.zeroValue0
 t3 := Tryz.underlying3
 a3 := Tryz.isAgg3
 z3 := Tryz.sizeOf3
 v3 := Tryz.zeroValue3
 t4 := Tryz.underlying4
 a4 := Tryz.isAgg4
 z4 := Tryz.sizeOf4
 v4 := Tryz.zeroValue4
 t5 := Tryz.underlying5
 a5 := Tryz.isAgg5
 z5 := Tryz.sizeOf5
 v5 := Tryz.zeroValue5
 t9 := Tryz.underlying9
 a9 := Tryz.isAgg9
 z9 := Tryz.sizeOf9
 v9 := Tryz.zeroValue9
 t22 := Tryz.underlying28
 a22 := Tryz.isAgg28
 z22 := Tryz.sizeOf28
 v22 := Tryz.zeroValue28
 t25 := Tryz.underlying150
 a25 := Tryz.isAgg150
 z25 := Tryz.sizeOf150
 v25 := Tryz.zeroValue150
 t39 := Tryz.underlying145
 a39 := Tryz.isAgg145
 z39 := Tryz.sizeOf145
 v39 := Tryz.zeroValue145
 t45 := Tryz.underlying171
 a45 := Tryz.isAgg171
 z45 := Tryz.sizeOf171
 v45 := Tryz.zeroValue171
 t46 := Tryz.underlying172
 a46 := Tryz.isAgg172
 z46 := Tryz.sizeOf172
 v46 := Tryz.zeroValue172
 t50 := Tryz.underlying40
 a50 := Tryz.isAgg40
 z50 := Tryz.sizeOf40
 v50 := Tryz.zeroValue40
 t53 := Tryz.underlying25
 a53 := Tryz.isAgg25
 z53 := Tryz.sizeOf25
 v53 := Tryz.zeroValue25
 t55 := Tryz.underlying179
 a55 := Tryz.isAgg179
 z55 := Tryz.sizeOf179
 v55 := Tryz.zeroValue179
 t66 := Tryz.underlying181
 a66 := Tryz.isAgg181
 z66 := Tryz.sizeOf181
 v66 := Tryz.zeroValue181
 t70 := Tryz.underlying185
 a70 := Tryz.isAgg185
 z70 := Tryz.sizeOf185
 v70 := Tryz.zeroValue185
 t76 := Tryz.underlying192
 a76 := Tryz.isAgg192
 z76 := Tryz.sizeOf192
 v76 := Tryz.zeroValue192
 t77 := Tryz.underlying193
 a77 := Tryz.isAgg193
 z77 := Tryz.sizeOf193
 v77 := Tryz.zeroValue193 }
open Go.RowKit Go.Lib Go.Sort in
theorem Tryz.slices_SortFunc_none {α : Type} [Inhabited α] (p : Option Addr) (cap : Nat) (fv : Value) (w : World) :
 Calls Tryz.prog 91 #[.slice p 0 cap, fv] w fun e w' => e = .returned (.tuple #[]) ∧ w' = w := AnyF.slices_SortFunc_none Tryz.laysSlF06_f91 p cap fv w
end Go.Proofs
namespace Go.Proofs.YtbenhafhklfhmaaGreat
set_option linter.all false
set_option linter.unusedVariables false
set_option linter.unusedSimpArgs false
open Go.RowKit Go.Lib Go.Sort
def cmpN (x y : Int) : Int := if x < y then -1 else if y < x then 1 else 0
set_option maxHeartbeats 1000000 in
theorem nan_exact (x : Int) (w : World) : Calls Tryz.prog 112 #[.int .i64 x] w fun e w' => e = .returned (.bool false) ∧ w' = w := by
 go_enter Tryz.func112, Tryz.ntmps112
 go_wp2
 go_ret
 exact ⟨rfl, rfl⟩
set_option maxHeartbeats 1000000 in
theorem cmp_exact (x y : Int) (w : World) : Calls Tryz.prog 93 #[.int .i64 x, .int .i64 y] w fun e w' => e = .returned (.int .i64 (cmpN x y)) ∧ w' = w := by
 go_enter Tryz.func93, Tryz.ntmps93
 go_wp2_with (go_at_call 112; refine (nan_exact _ _).mono ?_; rintro e w' ⟨rfl, rfl⟩)
 all_goals (go_ret; refine ⟨congrArg (fun z => Ending.returned (Value.int .i64 z)) ?_, rfl⟩; unfold cmpN; (repeat' split) <;> omega)
set_option maxHeartbeats 1000000 in
theorem dep_exact {W : World} {bd g o n cd x y : Nat} {dx dy : Int} (hn : n ≤ 1000000) (hx : x < n) (hy : y < n) (h0 : W.cell? ⟨bd, 0, none⟩ = some (.slice (some ⟨g, o, none⟩) n cd)) (h1 : W.cell? ⟨g, o + x, none⟩ = some (.int .i64 dx)) (h2 : W.cell? ⟨g, o + y, none⟩ = some (.int .i64 dy)) :
  Calls Tryz.prog 92 #[.int .i64 (x : Int), .int .i64 (y : Int), .pointer (some ⟨bd, 0, none⟩)] W fun e w' => e = .returned (.int .i64 (cmpN dy dx)) ∧ ∃ q, w' = W.drewN q := by
 go_enter Tryz.func92, Tryz.ntmps92
 go_wp2
 go_quiet (first | (go_at_call 93; refine Calls.quiet_of_same (cmp_exact _ _ _)))
 go_wp2
 go_ret
 exact ⟨rfl, nq, rfl⟩
def depF {k : Nat} (dep : Nat → Nat) (x y : Fin (k + 1)) : Int := cmpN (dep y.1) (dep x.1)
theorem depF_lt {k : Nat} {dep : Nat → Nat} {x y : Fin (k + 1)} : ltOf (depF dep) x y = decide (dep y.1 < dep x.1) := by
 unfold ltOf depF cmpN
 by_cases h : (dep y.1 : Int) < (dep x.1 : Int)
 · rw [if_pos h]
   simp only [decide_eq_decide]
   omega
 · rw [if_neg h]
   split
   · simp only [decide_eq_decide]; omega
   · simp only [decide_eq_decide]; omega
theorem depF_swo {k : Nat} {dep : Nat → Nat} : Sort.SWO (ltOf (depF (k := k) dep)) := by
 refine ⟨fun x => ?_, fun x y z h1 h2 => ?_, fun x y z h1 h2 => ?_⟩
 · rw [depF_lt]; simp
 · rw [depF_lt] at *
   simp only [decide_eq_true_eq] at *
   omega
 · rw [depF_lt] at *
   simp only [decide_eq_false_iff_not] at *
   omega
theorem putCells_fin {k : Nat} {d : Array (Fin (k + 1))} {M : List Int} (hM : M = d.toList.map fun x => (x.1 : Int)) (c : Array Value) : Sort.putCells (fun x : Fin (k + 1) => Value.int .i64 (x.1 : Int)) 0 d c = Sort.putCells (Value.int .i64) 0 M.toArray c := by
 unfold Sort.putCells
 congr 1
 funext q x
 have hs : M.toArray.size = d.size := by rw [hM]; simp
 rw [hs]
 by_cases h : 0 ≤ q ∧ q < 0 + d.size
 · rw [if_pos h, if_pos h]
   have hq : q - 0 < d.size := by omega
   have hq2 : q - 0 < M.toArray.size := by omega
   rw [getElem!_pos d _ hq, getElem!_pos M.toArray _ hq2]
   simp [hM]
 · rw [if_neg h, if_neg h]
abbrev DpX (dep : Nat → Nat) (n : Nat) := { L : List Nat // L.Perm (List.range n) ∧ L.Pairwise fun a b => dep b ≤ dep a }
set_option maxHeartbeats 1000000 in
theorem sortDep_any {w : World} {A Ad : Option Addr} {n cp bd cd : Nat} {dep : Nat → Nat} (hn : n ≤ 1000) (h : OwnR w A n cp 3 1 (fun j => [.int .i64 (j : Int)])) (hB : OldB w bd [.slice Ad n cd]) (hR : RdR w 1 Ad n (fun j => [.int .i64 (dep j : Int)])) (hA1 : Apart (feet [.own A n cp 3 1 (fun j => [.int .i64 (j : Int)])]) (some ⟨bd, 0, none⟩)) (hA2 : 0 < n → Apart (feet [.own A n cp 3 1 (fun j => [.int .i64 (j : Int)])]) Ad) :
  CallsK Tryz.prog 91 #[.slice A n cp, .func (.func 92) #[] #[.pointer (some ⟨bd, 0, none⟩)]] [.own A n cp 3 1 (fun j => [.int .i64 (j : Int)])] w (DpX dep n) (fun _ => .tuple #[]) (fun L => [.own A n cp 3 1 (fun j => [.int .i64 ((L.1.getD j 0 : Nat) : Int)])]) := by
 cases n with
 | zero =>
  refine (Tryz.slices_SortFunc_none (α := Int) A cp _ w).mono ?_
  rintro e' w' ⟨rfl, rfl⟩
  refine ⟨⟨[], List.Perm.refl _, List.Pairwise.nil⟩, rfl, ?_⟩
  exact Sat.sub (Sat.own1 h) (KSub.own Pick.hd (fun i hi => by omega) KSub.nil)
 | succ k =>
  rcases h.own.2 with ⟨e, h0⟩ | ⟨g, cap, cur, e, hg, hh, hnc, hcm, hcs, ht⟩
  · omega
  · simp only [Value.slice.injEq] at e
    obtain ⟨rfl, _, rfl⟩ := e
    have hlt := lt_of_get hh
    obtain ⟨d, hd⟩ : ∃ d : Array (Fin (k + 1)), d = Array.ofFn id := ⟨_, rfl⟩
    have hds : d.size = k + 1 := by rw [hd]; simp
    have hdj : ∀ j, j < k + 1 → (d[j]!).1 = j := fun j hj => by
      rw [getElem!_pos d j (by omega)]
      simp [hd]
    have hH : Sort.Holds (fun x : Fin (k + 1) => Value.int .i64 (x.1 : Int)) w g 0 d := fun j hj => by
      obtain ⟨g', c', e, _, _, _, hcell, hfr⟩ := h.own.form1 (by omega)
      cases e
      refine ⟨?_, hfr _⟩
      have := hcell j 0 (by omega) (by omega)
      rw [Nat.mul_one, Nat.add_zero] at this
      rw [Nat.zero_add, this]
      simp [rowF, hdj j (by omega)]
    obtain ⟨gd, od, rfl, hgd, hcd⟩ := hR.rd (by omega)
    have hbd : bd ≠ g := fun e => hA1 bd rfl (by simp [feet, Fact.foot, e])
    have hgd2 : gd ≠ g := fun e => hA2 (by omega) gd rfl (by simp [feet, Fact.foot, e])
    have hcmp : CmpLays1 Tryz.prog 92 #[.pointer (some ⟨bd, 0, none⟩)] (fun x : Fin (k + 1) => Value.int .i64 (x.1 : Int)) (depF dep) g 0 d.size w := by
      refine CmpReads.lays fun m os dk hs x y => ?_
      have hc : ∀ b o v, b < w.heap.size → b ≠ g → w.cell? ⟨b, o, none⟩ = some v → (sortWorld (fun x : Fin (k + 1) => Value.int .i64 (x.1 : Int)) w g 0 m dk os).cell? ⟨b, o, none⟩ = some v := fun b o v h1 h2 h3 => by
        rw [← h3]
        refine World.cell?_of_block ?_
        show (w.heap.modify g _ ++ os)[b]? = w.heap[b]?
        rw [Array.getElem?_append_left (by simpa using h1), Array.getElem?_modify, if_neg (fun e => h2 e.symm)]
      exact dep_exact (W := sortWorld (fun x : Fin (k + 1) => Value.int .i64 (x.1 : Int)) w g 0 m dk os) (o := od) (by omega) x.2 y.2 (hc _ _ _ hB.1 hbd (hB.2 0 _ rfl)) (hc _ _ _ hgd hgd2 (by have := hcd x.1 0 x.2 (by omega); simpa [rowF] using this)) (hc _ _ _ hgd hgd2 (by have := hcd y.1 0 y.2 (by omega); simpa [rowF] using this))
    have hs := Tryz.slices_SortFunc (fun x : Fin (k + 1) => Value.int .i64 (x.1 : Int)) (fun _ => rfl) (depF dep) depF_swo 92 #[.pointer (some ⟨bd, 0, none⟩)] g 0 cp d w (enters Tryz.func92 rfl rfl) hcmp hH hlt (by omega)
    rw [hds] at hs
    refine hs.mono ?_
    rintro e' w' ⟨rfl, d', n, os, hp, hso, rfl⟩
    have hs' : d'.size = k + 1 := by rw [hp.1, hds]
    refine ⟨⟨d'.toList.map (·.1), ?_, ?_⟩, rfl, ?_⟩
    · have h1 := hp.2.2
      have e1 : d'.extract 0 (k + 1) = d' := (congrArg (fun z => d'.extract 0 z) hs'.symm).trans (by simp)
      have e2 : d.extract 0 (k + 1) = d := (congrArg (fun z => d.extract 0 z) hds.symm).trans (by simp)
      rw [e1, e2] at h1
      refine (h1.map (·.1)).trans (List.Perm.of_eq ?_)
      apply List.ext_getElem
      · rw [List.length_map, Array.length_toList, hds, List.length_range]
      · intro i h2 h3
        have hi : i < d.size := by rw [List.length_map, Array.length_toList] at h2; exact h2
        have h4 := hdj i (by omega)
        rw [getElem!_pos d i hi] at h4
        rw [List.getElem_map, Array.getElem_toList, List.getElem_range]
        exact h4
    · rw [List.pairwise_map, List.pairwise_iff_getElem]
      intro i j hi hj hij
      have h1 := hso i j (Nat.zero_le _) hij (by rw [Array.length_toList] at hj; omega)
      rw [depF_lt] at h1
      simp only [decide_eq_false_iff_not] at h1
      rw [Array.length_toList] at hi hj
      rw [getElem!_pos d' j hj, getElem!_pos d' i hi] at h1
      simp only [Array.getElem_toList]
      omega
    · obtain ⟨M, hM⟩ : ∃ M : List Int, M = d'.toList.map fun x => (x.1 : Int) := ⟨_, rfl⟩
      have hlen : (toI (fun j => (j : Int)) (k + 1)).length = k + 1 := toI_len
      have hMl : M.length = (toI (fun j => (j : Int)) (k + 1)).length := by rw [hM, hlen, List.length_map, Array.length_toList, hs']
      have h' : OwnR w (some ⟨g, 0, none⟩) (toI (fun j => (j : Int)) (k + 1)).length cp 3 1 (iL (toI (fun j => (j : Int)) (k + 1))) := by
        rw [hlen]
        have he : ∀ i, i < k + 1 → [Value.int .i64 (i : Int)] = iL (toI (fun j => (j : Int)) (k + 1)) i := fun i hi => by unfold iL; rw [toI_get hi]
        exact ⟨Own.congr h.own fun i j hi hj => by simp only [rowF, he i hi], fun i hi => rfl⟩
      have hw := own_putRow os n hMl h'
      have e : sortWorld (fun x : Fin (k + 1) => Value.int .i64 (x.1 : Int)) w g 0 n d' os = Sort.grow (Sort.putRow (Value.int .i64) (Sort.ahead w n) g 0 M.toArray) os := by
        unfold sortWorld Sort.putRow
        rw [show Sort.putCells (fun x : Fin (k + 1) => Value.int .i64 (x.1 : Int)) 0 d' = Sort.putCells (Value.int .i64) 0 M.toArray from funext (putCells_fin hM)]
      rw [e]
      rw [hlen] at hw
      refine Sat.sub hw (KSub.own Pick.hd (fun i hi => ?_) KSub.nil)
      unfold iL
      have hi2 : i < d'.toList.length := by rw [Array.length_toList, hs']; exact hi
      have hi3 : i < d'.size := by omega
      simp [hM, List.getD_eq_getElem?_getD, hi3]
end Go.Proofs.YtbenhafhklfhmaaGreat
namespace Go.Proofs.YtbenhafhklfhmaaGreat
set_option linter.all false
set_option linter.unusedVariables false
set_option linter.unusedSimpArgs false
open Go.RowKit
def fnL (l : List Int) (i : Nat) : Int := l.getD i 0
def exH : Hd := ⟨4, fnL [1, 2, 3, 4], fnL [-1, 1, 1, 2], fnL [0, 1300, 5000, 2900], fnL [100, 1600, 20000, 3100], fun i => [1, 2, 1, 1].getD i 0, fun i k => ([[0], [0, 1], [0], [1]].getD i []).getD k 0, fun i k => ([[3], [3, 5], [3], [5]].getD i []).getD k 0⟩
def exS (a b : Nat) (i : Nat) : Nat := [a, b, 2097151, 2097151, 2097151, 2097151, 2097151, 2097151].getD i 0
def exK (age : Int) : Lk := ⟨8, exS 8 2097151, 6000, 0, age⟩
def exC : Lk := ⟨8, exS 2097151 33, 6000, 0, 200000⟩
def exL (i : Nat) : Lk := if i = 0 then exK 4650 else exC
set_option maxRecDepth 100000 in
theorem eFit : fitC exH (exK 4650) = 0 ∧ fitL exH (exK 4650) = [2, 3] ∧ fitC exH (exK 3000) = 0 ∧ fitL exH (exK 3000) = [3] := by decide +kernel
set_option maxRecDepth 100000 in
theorem eNam : nmC exH 2 exL 1 (fun _ => 0) (fun _ => 1) = 0 ∧ nmL exH 2 exL 1 (fun _ => 0) (fun _ => 1) 0 = [2] ∧ nmL exH 2 exL 1 (fun _ => 0) (fun _ => 1) 1 = [4] := by decide +kernel
set_option maxRecDepth 100000 in
theorem eTel : telC exH 2 = 0 ∧ telL exH 2 = [0, 1] ∧ telC exH 1 = 6 ∧ telC exH 4 = 0 ∧ telL exH 4 = [0] := by decide +kernel
set_option maxRecDepth 100000 in
theorem eKin : kinC exH 4 3 = 0 ∧ kinR exH 4 3 = (2, 1) := by decide +kernel
end Go.Proofs.YtbenhafhklfhmaaGreat
namespace Go.Proofs.YtbenhafhklfhmaaGreat
set_option linter.all false
set_option linter.unusedVariables false
set_option linter.unusedSimpArgs false
open Go.RowKit
set_option maxRecDepth 100000 in
theorem cloneSpan_any {A : Option Addr} {n cp : Nat} {S : BSt} {w : World} (hn : n ≤ 1000000000) (hR : RdR w 2 A n (fun k => spL (S k).1 (S k).2)) :
  CallsK Tryz.prog 59 #[.slice A n cp] [] w (Option Addr × Nat) (fun x => .slice x.1 n x.2) (fun x => [.own x.1 n x.2 36 2 (fun k => spL (S k).1 (S k).2)]) := by
 cases A with
 | none =>
  have h0 : n = 0 := by
   rcases Nat.eq_zero_or_pos n with h | h
   exact h
   obtain ⟨b, o, e, _⟩ := hR.rd h
   cases e
  subst h0
  refine K_enter (S := []) (K := []) Tryz.func59 rfl Tryz.ntmps59 rfl (Sat.start _) ?_
  refine TW.seq fun Y1 hY1 => TW.region ?_
  refine TL.p Pu.as ?_
  refine TL.nil (TQ.thenN (hY1 _ _ ?_))
  refine TW.seq fun Y2 hY2 => ?_
  refine TW.seq fun Y3 hY3 => TW.region ?_
  refine TL.p Pu.mv ?_
  refine TL.p Pu.bn ?_
  refine TL.nil (TQ.thenN (hY3 _ _ ?_))
  refine TW.condT rfl (rfl) ?_
  refine TW.seq fun Y4 hY4 => TW.region ?_
  refine TL.p Pu.as ?_
  refine TL.nil (TQ.thenN (hY4 _ _ ?_))
  refine TW.ret ?_
  refine TQ.thenR ?_
  refine TQ.ret Tryz.results59 rfl ((.tmp rfl .nil)) ?_
  exact fun w hw => ⟨(none, 0), rfl, hw.sub (KSub.nilOwn KSub.nil)⟩
 | some p =>
  refine K_enter (S := []) (K := []) Tryz.func59 rfl Tryz.ntmps59 rfl (Sat.start _) ?_
  refine TW.seq fun Y1 hY1 => TW.region ?_
  refine TL.p Pu.as ?_
  refine TL.nil (TQ.thenN (hY1 _ _ ?_))
  refine TW.seq fun Y2 hY2 => ?_
  refine TW.seq fun Y3 hY3 => TW.region ?_
  refine TL.p Pu.mv ?_
  refine TL.p Pu.bn ?_
  refine TL.nil (TQ.thenN (hY3 _ _ ?_))
  refine TW.condF rfl (rfl) ?_
  refine TW.skip ?_
  refine TQ.thenN (hY2 _ _ ?_)
  refine TW.seq fun Y4 hY4 => TW.region ?_
  refine TL.m Mk.bl ?_
  intro b1
  refine TL.p Pu.mv ?_
  refine TL.subK (KSub.ofBlk (n := 0) (sz := 2) (r := fun _ => []) Pick.hd rfl (fun _ h => by omega) rfl rfl KSub.nil) ?_
  first | refine TL.a0 ty_et31 ?_ | refine TL.ap ty_et31 ?_
  intro A2 c2
  refine TL.p Pu.as ?_
  refine TL.nil (TQ.thenN (hY4 _ _ ?_))
  refine TW.ret ?_
  refine TQ.ret Tryz.results59 rfl ((.tmp rfl .nil)) ?_
  exact fun w hw => ⟨(A2, c2), rfl, hw⟩
theorem backI_any {w : World} {A : Option Addr} {n cp : Nat} : CallsK Tryz.prog 95 #[.slice A n cp] [] w Nat (fun b => .func (.func 113) #[] #[.pointer (some ⟨b, 0, none⟩)]) (fun b => [.blk b 28 [.slice A n cp]]) := by
 refine K_enter (S := []) (K := []) Tryz.func95 rfl Tryz.ntmps95 rfl (Sat.start _) ?_
 refine TW.seq fun Y1 hY1 => TW.region ?_
 refine TL.m Mk.bx ?_
 intro b1
 refine TL.p Pu.as ?_
 refine TL.nil (TQ.thenN (hY1 _ _ ?_))
 refine TW.seq fun Y2 hY2 => TW.region ?_
 refine TL.p Pu.fn ?_
 refine TL.p Pu.as ?_
 refine TL.nil (TQ.thenN (hY2 _ _ ?_))
 refine TW.ret ?_
 refine TQ.ret Tryz.results95 rfl ((.tmp rfl .nil)) ?_
 exact fun w hw => ⟨b1, rfl, hw.sub ks9⟩
def backM (A : Option Addr) (n cp b : Nat) (v : Nat → Int) : List Fact := [.blk b 28 [.slice A n cp], .own A n cp 3 1 (fun j => [.int .i64 (v j)])]
set_option maxRecDepth 100000 in
set_option maxHeartbeats 1000000 in
theorem backI1_iter {A : Option Addr} {n cp b : Nat} {v : Nat → Int} {S : List Nat} {W0 : World} (h1 : n ≤ 1000000) :
  IterK Tryz.prog 113 [.pointer (some ⟨b, 0, none⟩)] (backM A n cp b v) Unit (fun q _ => [.int .i64 ((n - 1 - q : Nat) : Int), .int .i64 (v (n - 1 - q))]) (fun _ _ => backM A n cp b v) (fun _ _ => backM A n cp b v) n [] S W0 := by
 intro lY R Rx J Jx r0 W hS hround
 refine K_enterW (S := S) (K := .blk b 28 [.slice A n cp] :: .own A n cp 3 1 (fun j => [.int .i64 (v j)]) :: J 0 r0) Tryz.func113 rfl Tryz.ntmps113 rfl hS ?_
 refine TW.seq fun Y1 hY1 => TW.region ?_
 refine TL.p (by first | exact (Pu.ld ty_sc28) | exact (Pu.ldo ty_sc28)) ?_
 refine TL.p (Pu.ln Tryz.underlying28) ?_
 refine TL.p Pu.sb ?_
 refine TL.p Pu.as ?_
 refine TL.nil (TQ.thenN (hY1 _ _ ?_))
 refine TW.block ?_
 refine TW.loop2 (fun (q : Nat) (r : R) => [(3, .int .i64 ((n : Int) - 1 - (q : Int))), (0, .func (.yield lY) #[] #[]), (1, .pointer (some ⟨b, 0, none⟩))]) (fun q r => .blk b 28 [.slice A n cp] :: .own A n cp 3 1 (fun j => [.int .i64 (v j)]) :: J q r) (fun q r => q ≤ n) (fun q r => n - q) 0 r0 ⟨(by show some (Value.int .i64 _) = some (Value.int .i64 _); congr 2; omega), rfl, rfl, trivial⟩ ?_ ?_ ?_
 exact kt9
 exact Nat.zero_le _
 rintro q r hq Z0 hZ0
 refine TW.seq fun Y2 hY2 => ?_
 refine TW.seq fun Y3 hY3 => TW.region ?_
 refine TL.p Pu.mv ?_
 refine TL.p Pu.ge ?_
 refine TL.nil (TQ.thenN (hY3 _ _ ?_))
 refine TW.cond rfl (fun hc0 => ?_) (fun hc0 => ?_)
 try simp only [zcb9] at hc0
 have hqn : q < n := by omega
 refine TW.skip ?_
 refine TQ.thenN (hY2 _ _ ?_)
 refine TW.seq fun Y4 hY4 => ?_
 refine TW.block ?_
 refine TW.seq fun Y5 hY5 => ?_
 refine TW.regionI ?_
 refine TLi.op (fun U1 hU1 => ?_) (by rintro ⟨_, _, h⟩; first | exact h | (obtain ⟨⟨_, h⟩, _⟩ := h; cases h) | cases h)
 refine TL.p Pu.mv ?_
 refine TL.nil ?_
 refine TQ.nxt (hU1 _ _ ?_)
 refine TLi.op (fun U2 hU2 => ?_) (by rintro ⟨_, _, h⟩; first | exact h | (obtain ⟨⟨_, h⟩, _⟩ := h; cases h) | cases h)
 refine TL.p Pu.mv ?_
 refine TL.nil ?_
 refine TQ.nxt (hU2 _ _ ?_)
 refine TLi.op (fun U3 hU3 => ?_) (by rintro ⟨_, _, h⟩; first | exact h | (obtain ⟨⟨_, h⟩, _⟩ := h; cases h) | cases h)
 refine TL.p (by first | exact (Pu.ld ty_sc28) | exact (Pu.ldo ty_sc28)) ?_
 refine TL.nil ?_
 refine TQ.nxt (hU3 _ _ ?_)
 refine TLi.op (fun U4 hU4 => ?_) (by rintro ⟨_, _, h⟩; first | exact h | (obtain ⟨⟨_, h⟩, _⟩ := h; cases h) | cases h)
 refine TL.p Pu.mv ?_
 refine TL.nil ?_
 refine TQ.nxt (hU4 _ _ ?_)
 refine TLi.op (fun U5 hU5 => ?_) (by rintro ⟨_, _, h⟩; first | exact h | (obtain ⟨⟨_, h⟩, _⟩ := h; cases h) | cases h)
 refine TL.p (Pu.el (q := n - 1 - q) ty_et28 (hk := by omega)) ?_
 refine TL.nil ?_
 refine TQ.nxt (hU5 _ _ ?_)
 refine TLi.op (fun U6 hU6 => ?_) (by rintro ⟨_, _, h⟩; first | exact h | (obtain ⟨⟨_, h⟩, _⟩ := h; cases h) | cases h)
 refine TL.p (by first | exact (Pu.ld ty_sc3) | exact (Pu.ldo ty_sc3)) ?_
 refine TL.nil ?_
 refine TQ.nxt (hU6 _ _ ?_)
 refine TLi.yi rfl rfl (fun w hw => by
   have h9 := hround q () r w hqn hw
   dsimp only at h9
   rw [show ((n - 1 - q : Nat) : Int) = (n : Int) - 1 - (q : Int) by omega] at h9
   exact h9) ?_ ?_
 intro r'
 refine TLi.op (fun U7 hU7 => ?_) (by rintro ⟨_, _, h⟩; first | exact h | (obtain ⟨⟨_, h⟩, _⟩ := h; cases h) | cases h)
 refine TL.p Pu.no ?_
 refine TL.nil ?_
 refine TQ.nxt (hU7 _ _ ?_)
 refine TLi.nil ?_
 refine TQ.thenN (hY5 _ _ ?_)
 refine TW.condF rfl rfl ?_
 refine TW.skip ?_
 refine TQ.blkN ?_
 refine TQ.thenN (hY4 _ _ ?_)
 refine TW.region ?_
 refine TL.p Pu.mv ?_
 refine TL.p Pu.sb ?_
 refine TL.p Pu.as ?_
 refine TL.nil ?_
 refine TQ.thenN (hZ0 (q + 1) r' _ _ ?_ ?_ ⟨(by show some (Value.int .i64 _) = some (Value.int .i64 _); congr 2; omega), rfl, rfl, trivial⟩ ?_)
 exact (by omega)
 exact zom9
 exact KSub.refl _
 intro x
 refine TLi.op (fun U8 hU8 => ?_) (by rintro ⟨_, _, h⟩; first | exact h | (obtain ⟨⟨_, h⟩, _⟩ := h; cases h) | cases h)
 refine TL.p Pu.no ?_
 refine TL.nil ?_
 refine TQ.nxt (hU8 _ _ ?_)
 refine TLi.nil ?_
 refine TQ.thenN (hY5 _ _ ?_)
 refine TW.condT rfl rfl ?_
 refine TW.ret ?_
 refine TQ.blkR ?_
 refine TQ.thenR ?_
 refine TQ.thenR ?_
 refine TQ.blkR ?_
 refine TQ.ret Tryz.results113 rfl (.nil) ?_
 exact fun w hw => ⟨⟨_, rfl⟩, .inr ⟨x, hw.sub (KSub.dropL _ (KSub.refl _))⟩⟩
 try simp only [zcb9] at hc0
 obtain rfl : q = n := by omega
 refine TW.exit ?_
 refine TQ.thenX ?_
 refine TQ.thenX ?_
 refine TQ.blkX ?_
 refine TQ.end Tryz.results113 rfl (.nil) ?_
 exact fun w hw => ⟨⟨_, rfl⟩, .inl ⟨r, hw.sub (KSub.drop (KSub.drop (KSub.refl _)))⟩⟩
theorem emptySpan_any (a b : Int) (w : World) : Calls Tryz.prog 97 #[.agg (spL a b).toArray] w (Ret w (.bool (decide (b < a)))) := by
 refine K_enter (S := []) (K := []) Tryz.func97 rfl Tryz.ntmps97 rfl (Sat.start _) ?_
 refine TW.seq fun Y1 hY1 => TW.region ?_
 refine TL.m Mk.bx ?_
 intro b1
 refine TL.p Pu.as ?_
 refine TL.nil (TQ.thenN (hY1 _ _ ?_))
 refine TW.seq fun Y2 hY2 => TW.region ?_
 refine TL.p (by first | exact Pu.fb ty_fa36_0 | exact Pu.fe ty_fa36_0) ?_
 refine TL.p (Pu.ld ty_sc3) ?_
 refine TL.p (by first | exact Pu.fb ty_fa36_1 | exact Pu.fe ty_fa36_1) ?_
 refine TL.p (Pu.ld ty_sc3) ?_
 refine TL.p Pu.gt ?_
 refine TL.p Pu.as ?_
 refine TL.nil (TQ.thenN (hY2 _ _ ?_))
 refine TW.ret ?_
 refine TQ.ret Tryz.results97 rfl ((.tmp rfl .nil)) ?_
 exact fun w hw => Ret.of hw
structure HwIn (w : World) (H : Hd) (A : Option Addr) (cp : Nat) (x : OpX) : Prop where
 oB : OldB w x.1.1 [.slice A H.n cp, .map (some x.1.2), .slice x.2.1.1 H.n x.2.1.2, .slice x.2.2.1 H.n x.2.2.2]
 oP : w.heap[x.1.2]? = some (mapO .i64 (plM H H.n))
 oM : RdR w 1 x.2.1.1 H.n (fun j => [.int .i64 (moH H j)])
 oK : RdR w 8 x.2.2.1 H.n (fun j => octL (sgH H j))
theorem bd_up {f : Nat → Int} {n K i : Nat} {S : BSt} (hf : Mo f n) (hi : i < n) (h : ∀ j, j < n → -(K : Int) ≤ (S j).1 ∧ (S j).1 ≤ K ∧ -(K : Int) ≤ (S j).2 ∧ (S j).2 ≤ K) : ∀ j, j < n → -((K + 10000 : Nat) : Int) ≤ (upS f S i j).1 ∧ (upS f S i j).1 ≤ ((K + 10000 : Nat) : Int) ∧ -((K + 10000 : Nat) : Int) ≤ (upS f S i j).2 ∧ (upS f S i j).2 ≤ ((K + 10000 : Nat) : Int) := fun j hj => by
 have h1 := h j hj
 have h2 := h i hi
 unfold upS
 split
 · by_cases e : j = (f i).toNat
   · subst e; rw [putS1_at]; unfold comm shf; dsimp only; omega
   · rw [putS1_ne e]; omega
 · omega
theorem bd_dn {f : Nat → Int} {n K i : Nat} {S : BSt} (hf : Mo f n) (hi : i < n) (h : ∀ j, j < n → -(K : Int) ≤ (S j).1 ∧ (S j).1 ≤ K ∧ -(K : Int) ≤ (S j).2 ∧ (S j).2 ≤ K) : ∀ j, j < n → -((K + 10000 : Nat) : Int) ≤ (dnS f S i j).1 ∧ (dnS f S i j).1 ≤ ((K + 10000 : Nat) : Int) ∧ -((K + 10000 : Nat) : Int) ≤ (dnS f S i j).2 ∧ (dnS f S i j).2 ≤ ((K + 10000 : Nat) : Int) := fun j hj => by
 have h1 := h j hj
 unfold dnS
 split
 · rename_i h0
   have h2 := h (f i).toNat (by have := hf i hi; omega)
   by_cases e : j = i
   · subst e; rw [putS1_at]; unfold comm shf; dsimp only; omega
   · rw [putS1_ne e]; omega
 · omega
def BdS (n K : Nat) (S : BSt) : Prop := ∀ j, j < n → -(K : Int) ≤ (S j).1 ∧ (S j).1 ≤ K ∧ -(K : Int) ≤ (S j).2 ∧ (S j).2 ≤ K
theorem take_at {L : List Nat} {p : Nat} (h : p < L.length) : L.take (p + 1) = L.take p ++ [L.getD p 0] := by
 rw [List.take_succ, List.getElem?_eq_getElem h]
 simp [List.getD_eq_getElem?_getD, h]
theorem upP_at {f : Nat → Int} {S : BSt} {L : List Nat} {p : Nat} (h : p < L.length) : upP f S (L.take (p + 1)) = upS f (upP f S (L.take p)) (L.getD p 0) := by
 rw [take_at h]; simp [upP]
theorem dnP_at {f : Nat → Int} {S : BSt} {L : List Nat} {p : Nat} (h : p < L.length) : dnP f S (L.take (p + 1)) = dnS f (dnP f S (L.take p)) (L.getD p 0) := by
 rw [take_at h]; simp [dnP]
theorem bd_upP {f : Nat → Int} {n K : Nat} {S : BSt} {L : List Nat} (hf : Mo f n) (hL : ∀ i ∈ L, i < n) (h : BdS n K S) : ∀ p, p ≤ L.length → BdS n (K + 10000 * p) (upP f S (L.take p))
 | 0, _ => by simpa [upP] using h
 | p + 1, hp => by
  rw [upP_at (by omega)]
  have h1 := bd_up hf (hL (L.getD p 0) (by rw [List.getD_eq_getElem?_getD, List.getElem?_eq_getElem (show p < L.length by omega)]; exact List.getElem_mem _)) (bd_upP hf hL h p (by omega))
  rw [show K + 10000 * (p + 1) = K + 10000 * p + 10000 by omega]
  exact h1
theorem bd_dnP {f : Nat → Int} {n K : Nat} {S : BSt} {L : List Nat} (hf : Mo f n) (hL : ∀ i ∈ L, i < n) (h : BdS n K S) : ∀ p, p ≤ L.length → BdS n (K + 10000 * p) (dnP f S (L.take p))
 | 0, _ => by simpa [dnP] using h
 | p + 1, hp => by
  rw [dnP_at (by omega)]
  have h1 := bd_dn hf (hL (L.getD p 0) (by rw [List.getD_eq_getElem?_getD, List.getElem?_eq_getElem (show p < L.length by omega)]; exact List.getElem_mem _)) (bd_dnP hf hL h p (by omega))
  rw [show K + 10000 * (p + 1) = K + 10000 * p + 10000 by omega]
  exact h1
theorem getD_memN {L : List Nat} {p : Nat} (h : p < L.length) : L.getD p 0 ∈ L := by
 rw [List.getD_eq_getElem?_getD, List.getElem?_eq_getElem h]
 exact List.getElem_mem _
theorem rev_getD {L : List Nat} {q : Nat} (h : q < L.length) : L.reverse.getD q 0 = L.getD (L.length - 1 - q) 0 := by
 rw [List.getD_eq_getElem?_getD, List.getD_eq_getElem?_getD, List.getElem?_reverse h]
theorem RdR.cg {w : World} {sz n : Nat} {A : Option Addr} {r s : Nat → List Value} (h : RdR w sz A n r) (e : ∀ j, j < n → r j = s j) : RdR w sz A n s := ⟨h.rd.congr fun j q hj _ => by simp only [rowF]; rw [e j hj], fun j hj => by rw [← e j hj]; exact h.len j hj⟩
theorem row_put {S T : BSt} {i j : Nat} {a b : Int} (h : T = putS1 S i (a, b)) : updR (fun j => spL (S j).1 (S j).2) i [.int .i64 a, .int .i64 b] j = spL (T j).1 (T j).2 := by
 subst h
 unfold updR putS1
 by_cases e : j = i
 · rw [if_pos e, if_pos e]; rfl
 · rw [if_neg e, if_neg e]
set_option maxRecDepth 100000 in
set_option maxHeartbeats 4000000 in
theorem births_any {w : World} {H : Hd} {A : Option Addr} {cp : Nat} {x : OpX} {Ao : Option Addr} {co B : Nat} {S : BSt} (hk : HOk H) (hW : HwIn w H A cp x) (hR : RdR w 2 Ao H.n (fun j => spL (S j).1 (S j).2)) (hS : BdS H.n B S) (hB : B ≤ 1000000) :
    CallsK Tryz.prog 55 #[.pointer (some ⟨x.1.1, 0, none⟩), .slice Ao H.n co] [] w (Option Addr × Nat) (fun y => .tuple #[.slice y.1 H.n y.2, .bool (bthOk (moH H) H.n S)]) (fun y => [.own y.1 H.n y.2 36 2 (fun j => spL (bth (moH H) H.n S j).1 (bth (moH H) H.n S j).2)]) := by
  have h16 := hk.n16
  have hoB := hW.oB
  have hoM := hW.oM
  refine K_enterM (S := []) (K := []) Tryz.func55 rfl Tryz.ntmps55 rfl (Sat.start _) ?_
  refine TW.seqD fun Y1 hY1 => ?_
  refine TW.region ?_
  refine TL.m Mk.bx ?_
  intro b1
  refine TL.p Pu.as ?_
  refine TL.p Pu.as ?_
  refine TL.nil ?_
  refine TQ.thenN (hY1 _ _ _ ?_)
  refine TW.seqD fun Y2 hY2 => ?_
  refine TW.region ?_
  refine TL.p Pu.mv ?_
  refine TL.call (M := []) rfl (enters Tryz.func59 rfl rfl) (List.Perm.refl _) rfl (fun w hw => by
      exact cloneSpan_any (S := S) (by omega) (hR.sat hw Apart.nil)) ?_
  rintro ⟨A2, c2⟩
  refine TL.m (Mk.al ty_zr31) ?_
  intro b2
  first | refine TL.st ty_sz31 ?_ | refine TL.se ty_sz31 ?_
  refine TL.nil ?_
  refine TQ.thenN (hY2 _ _ _ ?_)
  refine TW.seqD fun Y3 hY3 => ?_
  refine TW.region ?_
  refine TL.p Pu.as ?_
  refine TL.nil ?_
  refine TQ.thenN (hY3 _ _ _ ?_)
  refine TW.seqD fun Y4 hY4 => ?_
  refine TW.region ?_
  refine TL.p (Pu.ld ty_sc31) ?_
  refine TL.p (Pu.ln Tryz.underlying31) ?_
  refine TL.ms ty_et28 ty_zr3 ?_
  intro b3
  refine TL.m (Mk.al ty_zr28) ?_
  intro b4
  first | refine TL.st ty_sz28 ?_ | refine TL.se ty_sz28 ?_
  refine TL.nil ?_
  refine TQ.thenN (hY4 _ _ _ ?_)
  refine TW.seqD fun Y5 hY5 => ?_
  refine TW.seqD fun Y6 hY6 => ?_
  refine TW.region ?_
  refine TL.p (Pu.ld ty_sc31) ?_
  refine TL.p (Pu.ln Tryz.underlying31) ?_
  refine TL.p Pu.mv ?_
  refine TL.nil ?_
  refine TQ.thenN (hY6 _ _ _ ?_)
  refine TW.block ?_
  refine TW.loopM3 (fun (i : Nat) (Ar : Option Addr) (cr : Nat) => [(23, .int .i64 (i : Int)), (22, .int .i64 (H.n : Int)), (7, .slice Ar i cr), (2, .pointer (some ⟨b1, 0, none⟩)), (6, .pointer (some ⟨b2, 0, none⟩)), (8, .pointer (some ⟨b4, 0, none⟩))]) (fun i Ar cr Ds => .own Ar i cr 3 1 (fun j => [.int .i64 (j : Int)]) :: .own (some ⟨b3, 0, none⟩) H.n H.n 3 1 (fun j => [.int .i64 (if j < i then (depH (moH H) H.n j : Int) else 0)]) :: .blk b4 28 [.slice (some ⟨b3, 0, none⟩) H.n H.n] :: .own A2 H.n c2 36 2 (fun j => spL (S j).1 (S j).2) :: .blk b2 31 [.slice A2 H.n c2] :: .blk b1 96 [.pointer (some ⟨x.1.1, 0, none⟩)] :: defK Ds) (fun i Ar cr => i ≤ H.n) (fun i Ar cr => H.n - i) 0 none 0 ([]) fs9 ?_ ?_ ?_
  exact KSub.nilOwn (KSub.own pk9 (fun j hj => by rw [if_neg (Nat.not_lt_zero j)]) (KSub.cons pk9 (KSub.cons pk9 (KSub.cons pk9 (KSub.cons pk9 KSub.nil)))))
  exact Nat.zero_le _
  rintro i Ar cr hi Ds Z0 hZ0
  refine TW.seqD fun Y7 hY7 => ?_
  refine TW.region ?_
  refine TL.p Pu.lt ?_
  refine TL.nil ?_
  refine TQ.thenN (hY7 _ _ _ ?_)
  refine TW.seqD fun Y8 hY8 => ?_
  refine TW.cond rfl (fun hc0 => ?_) (fun hc0 => ?_)
  try simp only [zcb9] at hc0
  have hin : i < H.n := by omega
  refine TW.skip ?_
  refine TQ.thenN (hY8 _ _ _ ?_)
  refine TW.seqD fun Y9 hY9 => ?_
  refine TW.block ?_
  refine TW.seqD fun Y10 hY10 => ?_
  refine TW.region ?_
  refine TL.p Pu.mv ?_
  refine TL.m (Mk.al ty_zr3) ?_
  intro b5
  first | refine TL.st ty_sz3 ?_ | refine TL.se ty_sz3 ?_
  refine TL.nil ?_
  refine TQ.thenN (hY10 _ _ _ ?_)
  refine TW.seqD fun Y11 hY11 => ?_
  refine TW.seqD fun Y12 hY12 => ?_
  refine TW.region ?_
  refine TL.p (Pu.ld ty_sc96) ?_
  refine TL.p (Pu.ld ty_sc3) ?_
  refine TL.call (M := []) rfl (enters Tryz.func82 rfl rfl) (List.Perm.refl _) rfl (fun w hw => by
      exact line_any) ?_
  rintro ⟨bi, bp⟩
  refine TL.nil ?_
  refine TQ.thenN (hY12 _ _ _ ?_)
  refine TW.block ?_
  refine TW.rangeR (fun (q : Nat) (_ : Unit) => .own (some ⟨b3, 0, none⟩) H.n H.n 3 1 (fun j => [.int .i64 (if j = i then (q : Int) else if j < i then (depH (moH H) H.n j : Int) else 0)]) :: .blk b5 3 [.int .i64 (i : Int)] :: .own Ar i cr 3 1 (fun j => [.int .i64 (j : Int)]) :: .blk b4 28 [.slice (some ⟨b3, 0, none⟩) H.n H.n] :: .own A2 H.n c2 36 2 (fun j => spL (S j).1 (S j).2) :: .blk b2 31 [.slice A2 H.n c2] :: .blk b1 96 [.pointer (some ⟨x.1.1, 0, none⟩)] :: defK Ds) (fun x : Empty => x.elim) (fun x => x.elim) (()) (fun x y => line1_iter (N := depH (moH H) H.n i) (bi := bi) (bp := bp) (i := i) hoB Apart.nil hoM Apart.nil moH_Mo hin (.inl ⟨rfl, hk.ac i hin⟩)) ?_ ?_ ?_ ?_ (eg := enters Tryz.func107 rfl rfl)
  refine KSub.cons pk9 (KSub.cons pk9 (KSub.own pk9 (fun j hj => ?_) (KSub.cons pk9 (KSub.cons pk9 (KSub.cons pk9 (KSub.cons pk9 (KSub.cons pk9 (KSub.cons pk9 (KSub.refl _)))))))))
  by_cases e : j = i
  rw [if_neg (by omega), if_pos e]; rfl
  rw [if_neg e]
  rintro lR DR oR oR1 oR2 q g r hq ZR0 hZR0
  simp only [linM, List.cons_append, List.nil_append]
  have hdl := dep_le (f := moH H) (n := H.n) (i := i)
  refine TWi.skip ?_
  refine TQ.thenN (hZR0 _ _ _ Pick.hd ?_)
  refine TWi.block ?_
  refine TWi.region ?_
  refine TL.p (Pu.ld ty_sc28) ?_
  refine TL.p (Pu.ld ty_sc3) ?_
  refine TL.p (Pu.el ty_et28) ?_
  refine TL.p (Pu.ld (v := .int .i64 (q : Int)) ty_sc3 (hq := Cells.own (m := 1) pk9 (by omega) (by rw [if_pos rfl]; exact SubL.take SubL.nil))) ?_
  refine TL.p Pu.ad ?_
  refine TL.p (Pu.el ty_et28) ?_
  first | refine TL.st ty_sz3 ?_ | refine TL.se ty_sz3 ?_
  refine TL.nil ?_
  refine TQ.blkN ?_
  refine TQ.rbN (()) ?_
  refine KSub.cons pk9 (KSub.cons pk9 (KSub.cons pk9 (KSub.cons pk9 (KSub.own pk9 (fun j hj => ?_) (KSub.cons pk9 (KSub.cons pk9 (KSub.cons pk9 (KSub.cons pk9 (KSub.cons pk9 (KSub.cons pk9 (KSub.refl _)))))))))))
  unfold updR
  by_cases e : j = i
  rw [if_pos e, if_pos e]; rfl
  simp only [if_neg e]
  rintro DR r
  simp only [List.nil_append]
  refine TQ.blkN ?_
  refine TQ.thenN (hY11 _ _ _ ?_)
  refine TW.region ?_
  refine TL.p Pu.mv ?_
  refine TL.p (Pu.ld ty_sc3) ?_
  refine TL.m Mk.bl ?_
  intro b6
  first | refine TL.a0 ty_et28 ?_ | refine TL.ap ty_et28 ?_
  intro A7 c7
  refine TL.p Pu.as ?_
  refine TL.nil ?_
  refine TQ.blkN ?_
  refine TQ.thenN (hY9 _ _ _ ?_)
  refine TW.region ?_
  refine TL.p Pu.ad ?_
  refine TL.p Pu.mv ?_
  refine TL.nil ?_
  refine TQ.thenN (hZ0 (i + 1) A7 c7 (DR :: Ds) _ _ ?_ ?_ fs9 ?_)
  exact (by omega)
  exact zom9
  refine KSub.own pk9 (fun j hj => cat_rows (r := fun j => [Value.int .i64 (j : Int)]) rfl hj) (KSub.own pk9 (fun j hj => ?_) (KSub.cons pk9 (KSub.cons pk9 (KSub.cons pk9 (KSub.cons pk9 (KSub.cons pk9 (KSub.drop (KSub.drop (KSub.refl _)))))))))
  by_cases e : j = i
  subst e; rw [if_pos rfl, if_pos (by omega)]
  rw [if_neg e]
  by_cases e2 : j < i
  rw [if_pos e2, if_pos (by omega)]
  rw [if_neg e2, if_neg (by omega)]
  intro _ x; exact x.elim
  try simp only [zcb9] at hc0
  obtain rfl : i = H.n := by omega
  refine TW.exit ?_
  refine TQ.thenX ?_
  refine TQ.thenX ?_
  refine TQ.blkX ?_
  refine TQ.thenN (hY5 _ _ _ ?_)
  refine TW.seqD fun Y13 hY13 => ?_
  refine TW.region ?_
  refine TL.p Pu.mv ?_
  refine TL.p Pu.fn ?_
  refine TL.call rfl (enters Tryz.func91 rfl rfl) (M := [.own Ar H.n cr 3 1 (fun j => [.int .i64 (j : Int)])]) (Pick.perm pk9) rfl (fun w hw => by
      have hw2 := hw.perm (Pick.perm (φ := .own Ar H.n cr 3 1 (fun j => [.int .i64 (j : Int)])) pk9)
      exact sortDep_any (dep := depH (moH H) H.n) (by omega) (hw2.holds _ (List.mem_cons_self ..)) (OldB.of_blk (hw.holds (.blk b4 28 [.slice (some ⟨b3, 0, none⟩) H.n H.n]) (by simp))) ((OwnR.rdr (hw.holds (.own (some ⟨b3, 0, none⟩) H.n H.n 3 1 (fun j => [.int .i64 (if j < H.n then (depH (moH H) H.n j : Int) else 0)])) (by simp))).cg fun j hj => by rw [if_pos hj]) (Sat.apartB (K1 := [.own Ar H.n cr 3 1 (fun j => [.int .i64 (j : Int)])]) (t := 28) (cs := [.slice (some ⟨b3, 0, none⟩) H.n H.n]) hw2 (by simp)) (fun _ => Sat.apartO (K1 := [.own Ar H.n cr 3 1 (fun j => [.int .i64 (j : Int)])]) (n := H.n) (c := H.n) (E := 3) (sz := 1) (r := fun j => [.int .i64 (if j < H.n then (depH (moH H) H.n j : Int) else 0)]) hw2 (by simp))) ?_
  rintro ⟨L, hLp, hLw⟩
  have hO : Ordd (moH H) H.n L := ⟨fun i => hLp.mem_iff.trans List.mem_range, hLp.nodup_iff.2 List.nodup_range, hLw⟩
  have hLl : L.length = H.n := by rw [hLp.length_eq, List.length_range]
  have hLm : ∀ i ∈ L, i < H.n := fun i hi => (hO.mem i).1 hi
  refine TL.nil ?_
  refine TQ.thenN (hY13 _ _ _ ?_)
  refine TW.seqD fun Y14 hY14 => ?_
  refine TW.seqD fun Y15 hY15 => ?_
  refine TW.region ?_
  refine TL.p Pu.mv ?_
  refine TL.p (Pu.ln Tryz.underlying28) ?_
  refine TL.p Pu.mv ?_
  refine TL.nil ?_
  refine TQ.thenN (hY15 _ _ _ ?_)
  refine TW.block ?_
  refine TW.loop1 (fun (p : Nat) => [(46, .int .i64 (p : Int)), (45, .int .i64 (H.n : Int)), (44, .slice Ar H.n cr), (7, .slice Ar H.n cr), (2, .pointer (some ⟨b1, 0, none⟩)), (6, .pointer (some ⟨b2, 0, none⟩))]) (fun p => .own A2 H.n c2 36 2 (fun j => spL (upP (moH H) S (L.take p) j).1 (upP (moH H) S (L.take p) j).2) :: .own Ar H.n cr 3 1 (fun j => [.int .i64 ((L.getD j 0 : Nat) : Int)]) :: .blk b2 31 [.slice A2 H.n c2] :: .blk b1 96 [.pointer (some ⟨x.1.1, 0, none⟩)] :: defK Ds) (fun p => p ≤ H.n) (fun p => H.n - p) 0 fs9 ?_ ?_ ?_
  exact KSub.cons pk9 (KSub.cons pk9 (KSub.cons pk9 (KSub.cons pk9 (KSub.drop (KSub.drop (KSub.refl _))))))
  exact Nat.zero_le _
  rintro p hp Z1 hZ1
  refine TW.seqD fun Y16 hY16 => ?_
  refine TW.region ?_
  refine TL.p Pu.lt ?_
  refine TL.nil ?_
  refine TQ.thenN (hY16 _ _ _ ?_)
  refine TW.seqD fun Y17 hY17 => ?_
  refine TW.cond rfl (fun hc1 => ?_) (fun hc1 => ?_)
  try simp only [zcb9] at hc1
  have hpn : p < H.n := by omega
  have hiL := hLm _ (getD_memN (show p < L.length by omega))
  have hbd := bd_upP moH_Mo hLm hS p (by omega)
  have hat := upP_at (f := moH H) (S := S) (show p < L.length by omega)
  generalize upP (moH H) S (L.take p) = U at hbd hat ⊢
  generalize hi9 : L.getD p 0 = i at *
  have hmb := moH_Mo (H := H) i hiL
  refine TW.skip ?_
  refine TQ.thenN (hY17 _ _ _ ?_)
  refine TW.seqD fun Y18 hY18 => ?_
  refine TW.block ?_
  refine TW.seqD fun Y19 hY19 => ?_
  refine TW.region ?_
  refine TL.p (Pu.el ty_et28) ?_
  refine TL.p (Pu.ld (v := .int .i64 (i : Int)) ty_sc3 (hq := Cells.own (m := 1) pk9 (by omega) (by show SubL [Value.int .i64 ((L.getD p 0 : Nat) : Int)] _ _ _; rw [hi9]; exact SubL.take SubL.nil))) ?_
  refine TL.p Pu.as ?_
  refine TL.nil ?_
  refine TQ.thenN (hY19 _ _ _ ?_)
  refine TW.seqD fun Y20 hY20 => ?_
  refine TW.region ?_
  refine TL.p (Pu.ld ty_sc96) ?_
  refine TL.p (by first | exact Pu.nn | exact Pu.nc) ?_
  refine TL.p (by first | exact Pu.fb ty_fa106_2 | exact Pu.fe ty_fa106_2) ?_
  refine TL.p (Pu.ldo ty_sc28) ?_
  refine TL.p Pu.mv ?_
  refine TL.p (Pu.el (q := i) ty_et28) ?_
  refine TL.p (Pu.ld ty_sc3) ?_
  refine TL.p Pu.as ?_
  refine TL.nil ?_
  refine TQ.thenN (hY20 _ _ _ ?_)
  refine TW.seqD fun Y21 hY21 => ?_
  refine TW.region ?_
  refine TL.p Pu.mv ?_
  refine TL.p Pu.ge ?_
  refine TL.nil ?_
  refine TQ.thenN (hY21 _ _ _ ?_)
  refine TW.cond rfl (fun hc2 => ?_) (fun hc2 => ?_)
  try simp only [zcb9] at hc2
  have hm0 : 0 ≤ moH H i := hc2
  have bi2 := hbd i hiL
  have bm2 := hbd (moH H i).toNat (by omega)
  refine TW.np ?_
  refine TW.dw 13 ?_
  refine RK.tk (Pu.ld ty_sc31) ?_
  refine RK.tk Pu.mv ?_
  refine RK.tk (Pu.ld ty_sc31) ?_
  refine RK.tk Pu.mv ?_
  refine RK.tk (Pu.el (q := (moH H i).toNat) ty_et31 (hk := rfl)) ?_
  refine RK.tk (Pu.lds ty_ag36) ?_
  refine RK.tk (Pu.ld ty_sc31) ?_
  refine RK.tk Pu.mv ?_
  refine RK.tk (Pu.el (q := i) ty_et31) ?_
  refine RK.tk (Pu.lds ty_ag36) ?_
  refine RK.keep ?_
  refine RK.keep ?_
  refine RK.keep ?_
  refine RK.ch [false, false, true] ?_ trivial
  refine WK.cr rfl (enters Tryz.func94 rfl rfl) (fun w hw => by
      exact bShifted_any _ _ _ _ _ (by omega)) ?_
  refine WK.cr rfl (enters Tryz.func73 rfl rfl) (fun w hw => by
      exact bCommon_any _ _ _ _ _) ?_
  refine WK.p (Pu.el (q := (moH H i).toNat) ty_et31 (hk := rfl)) ?_
  refine WK.n ?_
  first | refine TL.st ty_sz36 ?_ | refine TL.se ty_sz36 ?_
  refine TL.nil ?_
  refine TQ.npN ?_
  refine TQ.blkN ?_
  refine TQ.thenN (hY18 _ _ _ ?_)
  refine TW.region ?_
  refine TL.p Pu.ad ?_
  refine TL.p Pu.mv ?_
  refine TL.nil ?_
  refine TQ.thenN (hZ1 (p + 1) _ _ ?_ ?_ fs9 ?_)
  exact (by omega)
  exact zom9
  first
    | (refine KSub.own pk9 (fun j hj => row_put ?_) (KSub.cons pk9 (KSub.cons pk9 (KSub.cons pk9 (KSub.refl _))))
       rw [hat]
       unfold upS
       rw [if_pos hm0]
       rfl)
    | (refine KSub.own pk9 (fun j hj => ?_) (KSub.cons pk9 (KSub.cons pk9 (KSub.cons pk9 (KSub.refl _))))
       rw [hat]
       unfold upS
       rw [if_neg hm0])
  try simp only [zcb9] at hc2
  have hm0 : ¬ 0 ≤ moH H i := by omega
  refine TW.skip ?_
  refine TQ.blkN ?_
  refine TQ.thenN (hY18 _ _ _ ?_)
  refine TW.region ?_
  refine TL.p Pu.ad ?_
  refine TL.p Pu.mv ?_
  refine TL.nil ?_
  refine TQ.thenN (hZ1 (p + 1) _ _ ?_ ?_ fs9 ?_)
  exact (by omega)
  exact zom9
  first
    | (refine KSub.own pk9 (fun j hj => row_put ?_) (KSub.cons pk9 (KSub.cons pk9 (KSub.cons pk9 (KSub.refl _))))
       rw [hat]
       unfold upS
       rw [if_pos hm0]
       rfl)
    | (refine KSub.own pk9 (fun j hj => ?_) (KSub.cons pk9 (KSub.cons pk9 (KSub.cons pk9 (KSub.refl _))))
       rw [hat]
       unfold upS
       rw [if_neg hm0])
  try simp only [zcb9] at hc1
  obtain rfl : p = H.n := by omega
  have hUe : upP (moH H) S (L.take H.n) = upP (moH H) S L := by rw [List.take_of_length_le (by omega)]
  rw [hUe]
  refine TW.exit ?_
  refine TQ.thenX ?_
  refine TQ.thenX ?_
  refine TQ.blkX ?_
  refine TQ.thenN (hY14 _ _ _ ?_)
  refine TW.seqD fun Y22 hY22 => ?_
  refine TW.seqD fun Y23 hY23 => ?_
  refine TW.region ?_
  refine TL.p Pu.mv ?_
  refine TL.call (M := []) rfl (enters Tryz.func95 rfl rfl) (List.Perm.refl _) rfl (fun w hw => by
      exact backI_any) ?_
  rintro bk
  refine TL.nil ?_
  refine TQ.thenN (hY23 _ _ _ ?_)
  refine TW.block ?_
  refine TW.rangeR (fun (q : Nat) (_ : Unit) => .own A2 H.n c2 36 2 (fun j => spL (dnP (moH H) (upP (moH H) S L) (L.reverse.take q) j).1 (dnP (moH H) (upP (moH H) S L) (L.reverse.take q) j).2) :: .blk b2 31 [.slice A2 H.n c2] :: .blk b1 96 [.pointer (some ⟨x.1.1, 0, none⟩)] :: defK Ds) (fun x : Empty => x.elim) (fun x => x.elim) (()) (fun x y => (backI1_iter (A := Ar) (n := H.n) (cp := cr) (b := bk) (v := fun j => ((L.getD j 0 : Nat) : Int)) (by omega)).at) ?_ ?_ ?_ ?_ (eg := enters Tryz.func113 rfl rfl)
  exact KSub.cons pk9 (KSub.cons pk9 (KSub.cons pk9 (KSub.cons pk9 (KSub.cons pk9 (KSub.refl _)))))
  rintro lR DR oR oR1 oR2 q g r hq ZR1 hZR1
  simp only [backM, List.cons_append, List.nil_append]
  have hql : q < L.reverse.length := by rw [List.length_reverse]; omega
  have hLr : ∀ i ∈ L.reverse, i < H.n := fun i hi => hLm i (List.mem_reverse.1 hi)
  have hU := bd_upP moH_Mo hLm hS H.n (by omega)
  rw [hUe] at hU
  have hbd := bd_dnP moH_Mo hLr hU q (by omega)
  have hat := dnP_at (f := moH H) (S := upP (moH H) S L) hql
  have hiL := hLr _ (getD_memN hql)
  rw [rev_getD (show q < L.length by omega), hLl] at hat hiL
  generalize dnP (moH H) (upP (moH H) S L) (L.reverse.take q) = U at hbd hat ⊢
  generalize hi9 : L.getD (H.n - 1 - q) 0 = i at *
  have hmb := moH_Mo (H := H) i hiL
  refine TWi.region ?_
  refine TL.p Pu.as ?_
  refine TL.nil ?_
  refine TQ.thenN (hZR1 _ _ _ Pick.hd ?_)
  refine TWi.block ?_
  refine TWi.seq fun Y24 hY24 => ?_
  refine TWi.region ?_
  refine TL.p (Pu.ld ty_sc96) ?_
  refine TL.p (by first | exact Pu.nn | exact Pu.nc) ?_
  refine TL.p (by first | exact Pu.fb ty_fa106_2 | exact Pu.fe ty_fa106_2) ?_
  refine TL.p (Pu.ldo ty_sc28) ?_
  refine TL.p Pu.mv ?_
  refine TL.p (Pu.el (q := i) ty_et28) ?_
  refine TL.p (Pu.ld ty_sc3) ?_
  refine TL.p Pu.as ?_
  refine TL.nil (TQ.thenN (hY24 _ _ ?_))
  refine TWi.seq fun Y25 hY25 => ?_
  refine TWi.region ?_
  refine TL.p Pu.mv ?_
  refine TL.p Pu.ge ?_
  refine TL.nil (TQ.thenN (hY25 _ _ ?_))
  refine TWi.cond rfl (fun hc3 => ?_) (fun hc3 => ?_)
  try simp only [zcb9] at hc3
  have hm0 : 0 ≤ moH H i := hc3
  have bi2 := hbd i hiL
  have bm2 := hbd (moH H i).toNat (by omega)
  refine TWi.dw 13 ?_
  refine RK.tk (Pu.ld ty_sc31) ?_
  refine RK.tk Pu.mv ?_
  refine RK.tk (Pu.ld ty_sc31) ?_
  refine RK.tk Pu.mv ?_
  refine RK.tk (Pu.el (q := i) ty_et31) ?_
  refine RK.tk (Pu.lds ty_ag36) ?_
  refine RK.tk (Pu.ld ty_sc31) ?_
  refine RK.tk Pu.mv ?_
  refine RK.tk (Pu.el (q := (moH H i).toNat) ty_et31 (hk := rfl)) ?_
  refine RK.tk (Pu.lds ty_ag36) ?_
  refine RK.keep ?_
  refine RK.keep ?_
  refine RK.keep ?_
  refine RK.ch [false, false, true] ?_ trivial
  refine WK.cr rfl (enters Tryz.func94 rfl rfl) (fun w hw => by
      exact bShifted_any _ _ _ _ _ (by omega)) ?_
  refine WK.cr rfl (enters Tryz.func73 rfl rfl) (fun w hw => by
      exact bCommon_any _ _ _ _ _) ?_
  refine WK.p (Pu.el (q := i) ty_et31) ?_
  refine WK.n ?_
  first | refine TL.st ty_sz36 ?_ | refine TL.se ty_sz36 ?_
  refine TL.nil ?_
  refine TQ.blkN ?_
  refine TQ.rbN (()) ?_
  simp only [backM, List.cons_append, List.nil_append]
  first
    | (refine KSub.cons pk9 (KSub.cons pk9 (KSub.cons pk9 (KSub.cons pk9 (KSub.own pk9 (fun j hj => row_put ?_) (KSub.cons pk9 (KSub.cons pk9 (KSub.refl _)))))))
       rw [hat]
       unfold dnS
       rw [if_pos hm0]
       rfl)
    | (refine KSub.cons pk9 (KSub.cons pk9 (KSub.cons pk9 (KSub.cons pk9 (KSub.own pk9 (fun j hj => ?_) (KSub.cons pk9 (KSub.cons pk9 (KSub.refl _)))))))
       rw [hat]
       unfold dnS
       rw [if_neg hm0])
  try simp only [zcb9] at hc3
  have hm0 : ¬ 0 ≤ moH H i := by omega
  refine TWi.skip ?_
  refine TQ.blkN ?_
  refine TQ.rbN (()) ?_
  simp only [backM, List.cons_append, List.nil_append]
  first
    | (refine KSub.cons pk9 (KSub.cons pk9 (KSub.cons pk9 (KSub.cons pk9 (KSub.own pk9 (fun j hj => row_put ?_) (KSub.cons pk9 (KSub.cons pk9 (KSub.refl _)))))))
       rw [hat]
       unfold dnS
       rw [if_pos hm0]
       rfl)
    | (refine KSub.cons pk9 (KSub.cons pk9 (KSub.cons pk9 (KSub.cons pk9 (KSub.own pk9 (fun j hj => ?_) (KSub.cons pk9 (KSub.cons pk9 (KSub.refl _)))))))
       rw [hat]
       unfold dnS
       rw [if_neg hm0])
  rintro DR r
  have hDe : dnP (moH H) (upP (moH H) S L) (L.reverse.take H.n) = bthP (moH H) S L := by rw [List.take_of_length_le (by rw [List.length_reverse]; omega)]; rfl
  simp only [List.nil_append, hDe]
  have hRe := bth_eq moH_Mo hk.ac (bth_wid (S := S) moH_Mo hk.ac hO)
  generalize bthP (moH H) S L = R9 at hRe ⊢
  refine TQ.blkN ?_
  refine TQ.thenN (hY22 _ _ _ ?_)
  refine TW.seqD fun Y26 hY26 => ?_
  refine TW.np ?_
  refine TW.dw 6 ?_
  refine RK.tk (Pu.ld ty_sc31) ?_
  refine RK.tk (Pu.ld ty_sc31) ?_
  refine RK.keep ?_
  refine RK.keep ?_
  refine RK.keep ?_
  refine RK.keep ?_
  refine RK.ch [false, true, true, true] ?_ trivial
  refine WK.cr rfl (enters Tryz.func96 rfl rfl) (fun w hw => by
      exact hasSpan_any (fs := []) (cs := []) (v := fun k j => if j = 0 then (R9 k).1 else (R9 k).2) (p := fun k => decide ((R9 k).2 < (R9 k).1)) (enters Tryz.func97 rfl rfl) (by omega) (OwnR.rdr (hw.holds (.own A2 H.n c2 36 2 (fun j => spL (R9 j).1 (R9 j).2)) (by simp))) fun k hk w' hb => emptySpan_any _ _ _) ?_
  refine WK.p Pu.no ?_
  refine WK.p Pu.as ?_
  refine WK.p Pu.as ?_
  refine WK.n ?_
  refine TL.nil ?_
  refine TQ.npN ?_
  refine TQ.thenN (hY26 _ _ _ ?_)
  refine TW.ret ?_
  refine TQ.retMs (DR :: Ds) ([.own A2 H.n c2 36 2 (fun j => spL (R9 j).1 (R9 j).2)]) Tryz.results55 ?_ ((.tmp rfl (.tmp rfl .nil))) ?_
  simp only [defK, List.map_nil, List.map_cons, List.nil_append, List.cons_append]
  exact kt9
  have hv : (!anyB H.n fun k => decide ((R9 k).2 < (R9 k).1)) = bthOk (moH H) H.n S := by
    rw [not_anyB]
    refine allB_congr fun i hi => ?_
    rw [hRe i hi, Bool.eq_iff_iff]
    simp
  exact fun w hw => ⟨(A2, c2), by show Ending.returned _ = Ending.returned (Value.tuple #[Value.slice A2 H.n c2, Value.bool (bthOk (moH H) H.n S)]); rw [← hv]; rfl, hw.sub (KSub.own Pick.hd (fun j hj => by rw [hRe j hj]) KSub.nil)⟩
  intro _ x; exact x.elim
end Go.Proofs.YtbenhafhklfhmaaGreat
namespace Go.Proofs.YtbenhafhklfhmaaGreat
set_option linter.all false
set_option linter.unusedVariables false
set_option linter.unusedSimpArgs false
open Go.RowKit
theorem opK_in {S : List Nat} {w0 w : World} {K : List Fact} {H : Hd} {A : Option Addr} {cp : Nat} {x : OpX} (h : Sat S w0 K w) (hm : ∀ φ ∈ opK H A cp x, φ ∈ K) : HwIn w H A cp x :=
  ⟨OldB.of_blk (h.holds (.blk x.1.1 106 [.slice A H.n cp, .map (some x.1.2), .slice x.2.1.1 H.n x.2.1.2, .slice x.2.2.1 H.n x.2.2.2]) (hm _ (by simp [opK]))),
    (h.holds (.obj x.1.2 (mapO .i64 (plM H H.n))) (hm _ (by simp [opK]))).1,
    OwnR.rdr (h.holds (.own x.2.1.1 H.n x.2.1.2 3 1 (fun j => [.int .i64 (moH H j)])) (hm _ (by simp [opK]))),
    OwnR.rdr (h.holds (.own x.2.2.1 H.n x.2.2.2 111 8 (fun j => octL (sgH H j))) (hm _ (by simp [opK])))⟩
set_option maxRecDepth 100000 in
set_option maxHeartbeats 1000000 in
theorem born_any {w : World} {H : Hd} {A : Option Addr} {cp : Nat} {x : OpX} {a : Nat → Option Addr} {c : Nat → Nat} (hI : HIn w A H a c) (hW : HwIn w H A cp x) :
  CallsK Tryz.prog 61 #[.pointer (some ⟨x.1.1, 0, none⟩)] [] w (Option Addr × Nat) (fun y => .slice y.1 H.n y.2) (fun y => [.own y.1 H.n y.2 36 2 (fun j => spL (bornH H j).1 (bornH H j).2)]) := by
 have hn := hI.hn
 have hR := hI.hR
 have hoB := hW.oB
 refine K_enter (S := []) (K := []) Tryz.func61 rfl Tryz.ntmps61 rfl (Sat.start _) ?_
 refine TW.seq fun Y1 hY1 => TW.region ?_
 refine TL.p Pu.as ?_
 refine TL.nil (TQ.thenN (hY1 _ _ ?_))
 refine TW.seq fun Y2 hY2 => TW.region ?_
 refine TL.p Pu.as ?_
 refine TL.nil (TQ.thenN (hY2 _ _ ?_))
 refine TW.seq fun Y3 hY3 => ?_
 refine TW.seq fun Y4 hY4 => TW.region ?_
 refine TL.p Pu.mv ?_
 refine TL.p (by first | exact Pu.nn | exact Pu.nc) ?_
 refine TL.p (by first | exact Pu.fb ty_fa106_0 | exact Pu.fe ty_fa106_0) ?_
 refine TL.p (Pu.ldo ty_sc22) ?_
 refine TL.p (Pu.ln Tryz.underlying22) ?_
 refine TL.p Pu.mv ?_
 refine TL.nil (TQ.thenN (hY4 _ _ ?_))
 refine TW.block ?_
 refine TW.loop3 (fun (i : Nat) (B : Option Addr) (cb : Nat) => [(11, .int .i64 (i : Int)), (10, .int .i64 (H.n : Int)), (9, .slice A H.n cp), (3, .slice B i cb)]) (fun i B cb => [.own B i cb 36 2 (fun j => spL (bornH H j).1 (bornH H j).2)]) (fun i B cb => i ≤ H.n) (fun i B cb => H.n - i) 0 none 0 fs9 ?_ ?_ ?_
 exact KSub.nilOwn KSub.nil
 exact Nat.zero_le _
 rintro i B cb hi Z0 hZ0
 refine TW.seq fun Y5 hY5 => TW.region ?_
 refine TL.p Pu.lt ?_
 refine TL.nil (TQ.thenN (hY5 _ _ ?_))
 refine TW.seq fun Y6 hY6 => ?_
 refine TW.cond rfl (fun hc0 => ?_) (fun hc0 => ?_)
 try simp only [zcb9] at hc0
 have hin : i < H.n := by omega
 refine TW.skip ?_
 refine TQ.thenN (hY6 _ _ ?_)
 refine TW.seq fun Y7 hY7 => ?_
 refine TW.block ?_
 refine TW.seq fun Y8 hY8 => TW.region ?_
 refine TL.p (Pu.el ty_et22) ?_
 refine TL.p (Pu.lds ty_ag46) ?_
 refine TL.m (Mk.al ty_zr46) ?_
 intro b1
 first | refine TL.st ty_sz46 ?_ | refine TL.se ty_sz46 ?_
 refine TL.nil (TQ.thenN (hY8 _ _ ?_))
 refine TW.region ?_
 refine TL.p Pu.mv ?_
 refine TL.p (by first | exact Pu.fb ty_fa46_2 | exact Pu.fe ty_fa46_2) ?_
 refine TL.p (Pu.lds ty_ag36) ?_
 refine TL.m Mk.bl ?_
 intro b2
 first | refine TL.a0 ty_et31 ?_ | refine TL.ap ty_et31 ?_
 intro A3 c3
 refine TL.p Pu.as ?_
 refine TL.nil ?_
 refine TQ.blkN ?_
 refine TQ.thenN (hY7 _ _ ?_)
 refine TW.region ?_
 refine TL.p Pu.ad ?_
 refine TL.p Pu.mv ?_
 refine TL.nil ?_
 refine TQ.thenN (hZ0 (i + 1) A3 c3 _ _ ?_ ?_ fs9 ?_)
 exact (by omega)
 exact zom9
 exact KSub.own pk9 (fun j hj => cat_rows (r := fun j => spL (bornH H j).1 (bornH H j).2) rfl hj) KSub.nil
 try simp only [zcb9] at hc0
 obtain rfl : i = H.n := by omega
 refine TW.exit ?_
 refine TQ.thenX ?_
 refine TQ.thenX ?_
 refine TQ.blkX ?_
 refine TQ.thenN (hY3 _ _ ?_)
 refine TW.seq fun Y9 hY9 => TW.region ?_
 refine TL.p Pu.mv ?_
 refine TL.p Pu.as ?_
 refine TL.nil (TQ.thenN (hY9 _ _ ?_))
 refine TW.ret ?_
 refine TQ.ret Tryz.results61 rfl ((.tmp rfl .nil)) ?_
 exact fun w hw => ⟨(B, cb), rfl, hw⟩
theorem born_bd {H : Hd} (h : HOk H) : BdS H.n 100000 (bornH H) := fun j hj => by
 have := h.bd j hj
 unfold bornH
 dsimp only
 omega
def livC (H : Hd) : Int := if herdB H then (if bthOk (moH H) H.n (bornH H) then 0 else 21) else 20
abbrev LvX := OpX × (Option Addr × Nat)
def livB (H : Hd) : BSt := bth (moH H) H.n (bornH H)
set_option maxRecDepth 100000 in
set_option maxHeartbeats 1000000 in
theorem lived_any {w : World} {A : Option Addr} {cp : Nat} {H : Hd} {a : Nat → Option Addr} {c : Nat → Nat} (hI : HIn w A H a c) :
  CallsK Tryz.prog 46 #[.slice A H.n cp] [] w LvX (fun x => if livC H = 0 then .tuple #[.pointer (some ⟨x.1.1.1, 0, none⟩), .slice x.2.1 H.n x.2.2, .int .i64 0] else .tuple #[.pointer none, .slice none 0 0, .int .i64 (livC H)])
   (fun x => if livC H = 0 then .own x.2.1 H.n x.2.2 36 2 (fun j => spL (livB H j).1 (livB H j).2) :: opK H A cp x.1 else []) := by
 cases hh : herdB H with
 | false =>
  have hc : livC H = 20 := by unfold livC; rw [hh]; rfl
  refine K_enter (S := []) (K := []) Tryz.func46 rfl Tryz.ntmps46 rfl (Sat.start _) ?_
  refine TW.seq fun Y1 hY1 => TW.region ?_
  refine TL.p Pu.as ?_
  refine TL.p Pu.as ?_
  refine TL.p Pu.as ?_
  refine TL.nil (TQ.thenN (hY1 _ _ ?_))
  refine TW.seq fun Y2 hY2 => TW.region ?_
  refine TL.p Pu.mv ?_
  refine TL.call (M := []) rfl (enters Tryz.func69 rfl rfl) (List.Perm.refl _) rfl (fun w hw => by
    have h9 := open_any (cp := cp) (hI.sat hw)
    rw [hh] at h9
    exact h9) ?_
  rintro xo
  refine TL.p Pu.mv ?_
  refine TL.p Pu.ex ?_
  refine TL.p Pu.ex ?_
  refine TL.p Pu.as ?_
  refine TL.p Pu.as ?_
  refine TL.nil (TQ.thenN (hY2 _ _ ?_))
  refine TW.seq fun Y3 hY3 => ?_
  refine TW.seq fun Y4 hY4 => TW.region ?_
  refine TL.p Pu.mv ?_
  refine TL.p Pu.ne ?_
  refine TL.nil (TQ.thenN (hY4 _ _ ?_))
  refine TW.condT rfl (rfl) ?_
  refine TW.seq fun Y5 hY5 => TW.region ?_
  refine TL.p Pu.mv ?_
  refine TL.p Pu.as ?_
  refine TL.p Pu.as ?_
  refine TL.p Pu.as ?_
  refine TL.nil (TQ.thenN (hY5 _ _ ?_))
  refine TW.ret ?_
  refine TQ.thenR ?_
  refine TQ.ret Tryz.results46 rfl ((.tmp rfl (.tmp rfl (.tmp rfl .nil)))) ?_
  exact fun w hw => ⟨(((0, 0), (none, 0), (none, 0)), (none, 0)), by show Ending.returned _ = Ending.returned (if livC H = 0 then _ else _); rw [hc]; rfl, by show Sat _ _ (if livC H = 0 then _ else _) _; rw [hc]; exact hw.sub KSub.nil⟩
 | true =>
  have hk := herdB_ok.1 hh
  refine K_enter (S := []) (K := []) Tryz.func46 rfl Tryz.ntmps46 rfl (Sat.start _) ?_
  refine TW.seq fun Y1 hY1 => TW.region ?_
  refine TL.p Pu.as ?_
  refine TL.p Pu.as ?_
  refine TL.p Pu.as ?_
  refine TL.nil (TQ.thenN (hY1 _ _ ?_))
  refine TW.seq fun Y2 hY2 => TW.region ?_
  refine TL.p Pu.mv ?_
  refine TL.call (M := []) rfl (enters Tryz.func69 rfl rfl) (List.Perm.refl _) rfl (fun w hw => by
    have h9 := open_any (cp := cp) (hI.sat hw)
    rw [hh] at h9
    exact h9) ?_
  rintro xo
  simp only [if_true]
  refine TL.p Pu.mv ?_
  refine TL.p Pu.ex ?_
  refine TL.p Pu.ex ?_
  refine TL.p Pu.as ?_
  refine TL.p Pu.as ?_
  refine TL.nil (TQ.thenN (hY2 _ _ ?_))
  refine TW.seq fun Y3 hY3 => ?_
  refine TW.seq fun Y4 hY4 => TW.region ?_
  refine TL.p Pu.mv ?_
  refine TL.p Pu.ne ?_
  refine TL.nil (TQ.thenN (hY4 _ _ ?_))
  refine TW.condF rfl (rfl) ?_
  refine TW.skip ?_
  refine TQ.thenN (hY3 _ _ ?_)
  refine TW.seq fun Y5 hY5 => TW.region ?_
  refine TL.p Pu.mv ?_
  refine TL.p Pu.mv ?_
  refine TL.call (M := []) rfl (enters Tryz.func61 rfl rfl) (List.Perm.refl _) rfl (fun w hw => by
    exact born_any (x := xo) (hI.sat hw) (opK_in (A := A) (cp := cp) (x := xo) hw (by intro φ h; first | exact h | (simp only [opK, List.mem_cons] at h ⊢; simp at h ⊢; first | exact h | exact .inr h | exact .inr (.inr h))))) ?_
  rintro ⟨A2, c2⟩
  refine TL.call (M := []) rfl (enters Tryz.func55 rfl rfl) (List.Perm.refl _) rfl (fun w hw => by
    exact births_any (x := xo) (S := bornH H) (B := 100000) hk (opK_in (A := A) (cp := cp) (x := xo) hw (by intro φ h; first | exact h | (simp only [opK, List.mem_cons] at h ⊢; simp at h ⊢; first | exact h | exact .inr h | exact .inr (.inr h)))) (OwnR.rdr (hw.holds (.own A2 H.n c2 36 2 (fun j => spL (bornH H j).1 (bornH H j).2)) (by simp))) (born_bd hk) (by omega)) ?_
  rintro ⟨A3, c3⟩
  refine TL.p Pu.mv ?_
  refine TL.p Pu.ex ?_
  refine TL.p Pu.ex ?_
  refine TL.p Pu.as ?_
  refine TL.p Pu.as ?_
  refine TL.nil (TQ.thenN (hY5 _ _ ?_))
  refine TW.seq fun Y6 hY6 => ?_
  refine TW.seq fun Y7 hY7 => TW.region ?_
  refine TL.p Pu.mv ?_
  refine TL.p Pu.no ?_
  refine TL.nil (TQ.thenN (hY7 _ _ ?_))
  refine TW.cond rfl (fun hc1 => ?_) (fun hc1 => ?_)
  try simp only [zcb9] at hc1
  have hc : livC H = 21 := by unfold livC; rw [hh, hc1]; rfl
  refine TW.seq fun Y8 hY8 => TW.region ?_
  refine TL.p Pu.as ?_
  refine TL.p Pu.as ?_
  refine TL.p Pu.as ?_
  refine TL.nil (TQ.thenN (hY8 _ _ ?_))
  refine TW.ret ?_
  refine TQ.thenR ?_
  refine TQ.ret Tryz.results46 rfl ((.tmp rfl (.tmp rfl (.tmp rfl .nil)))) ?_
  exact fun w hw => ⟨(((0, 0), (none, 0), (none, 0)), (none, 0)), by show Ending.returned _ = Ending.returned (if livC H = 0 then _ else _); rw [hc]; rfl, by show Sat _ _ (if livC H = 0 then _ else _) _; rw [hc]; exact hw.sub KSub.nil⟩
  try simp only [zcb9] at hc1
  have hc : livC H = 0 := by unfold livC; rw [hh, hc1]; rfl
  refine TW.skip ?_
  refine TQ.thenN (hY6 _ _ ?_)
  refine TW.seq fun Y9 hY9 => TW.region ?_
  refine TL.p Pu.mv ?_
  refine TL.p Pu.mv ?_
  refine TL.p Pu.as ?_
  refine TL.p Pu.as ?_
  refine TL.p Pu.as ?_
  refine TL.nil (TQ.thenN (hY9 _ _ ?_))
  refine TW.ret ?_
  refine TQ.ret Tryz.results46 rfl ((.tmp rfl (.tmp rfl (.tmp rfl .nil)))) ?_
  exact fun w hw => ⟨(xo, (A3, c3)), by show Ending.returned _ = Ending.returned (if livC H = 0 then _ else _); rw [hc]; rfl, by show Sat _ _ (if livC H = 0 then _ else _) _; rw [hc]; exact hw.sub (by unfold opK livB; (repeat (first | exact KSub.nil | refine KSub.cons pk9 ?_)))⟩
theorem bBirths_any {w : World} {A : Option Addr} {cp : Nat} {H : Hd} {a : Nat → Option Addr} {c : Nat → Nat} (hI : HIn w A H a c) :
  CallsK Tryz.prog 15 #[.slice A H.n cp] [] w (Option Addr × Nat) (fun x => .tuple #[.slice x.1 (if livC H = 0 then H.n else 0) x.2, .int .i64 (livC H)]) (fun x => [.own x.1 (if livC H = 0 then H.n else 0) x.2 36 2 (fun j => spL (livB H j).1 (livB H j).2)]) := by
 by_cases hc : livC H = 0
 case pos =>
  refine K_enter (S := []) (K := []) Tryz.func15 rfl Tryz.ntmps15 rfl (Sat.start _) ?_
  refine TW.seq fun Y1 hY1 => TW.region ?_
  refine TL.p Pu.as ?_
  refine TL.p Pu.as ?_
  refine TL.nil (TQ.thenN (hY1 _ _ ?_))
  refine TW.seq fun Y2 hY2 => TW.region ?_
  refine TL.p Pu.mv ?_
  refine TL.call (M := []) rfl (enters Tryz.func46 rfl rfl) (List.Perm.refl _) rfl (fun w hw => by
   have h9 := lived_any (cp := cp) (hI.sat hw)
   simp only [if_pos hc] at h9
   exact h9) ?_
  rintro ⟨xo, A3, c3⟩
  refine TL.p Pu.mv ?_
  refine TL.p Pu.ex ?_
  refine TL.p Pu.ex ?_
  refine TL.p Pu.ex ?_
  refine TL.p Pu.as ?_
  refine TL.p Pu.as ?_
  refine TL.p Pu.as ?_
  refine TL.nil (TQ.thenN (hY2 _ _ ?_))
  refine TW.seq fun Y3 hY3 => TW.region ?_
  refine TL.p Pu.mv ?_
  refine TL.p Pu.mv ?_
  refine TL.p Pu.as ?_
  refine TL.p Pu.as ?_
  refine TL.nil (TQ.thenN (hY3 _ _ ?_))
  refine TW.ret ?_
  refine TQ.ret Tryz.results15 rfl ((.tmp rfl (.tmp rfl .nil))) ?_
  exact fun w hw => ⟨(A3, c3), by simp only [hc]; rfl, by simp only [if_pos hc]; exact hw.sub (KSub.cons Pick.hd KSub.nil)⟩
 case neg =>
  refine K_enter (S := []) (K := []) Tryz.func15 rfl Tryz.ntmps15 rfl (Sat.start _) ?_
  refine TW.seq fun Y1 hY1 => TW.region ?_
  refine TL.p Pu.as ?_
  refine TL.p Pu.as ?_
  refine TL.nil (TQ.thenN (hY1 _ _ ?_))
  refine TW.seq fun Y2 hY2 => TW.region ?_
  refine TL.p Pu.mv ?_
  refine TL.call (M := []) rfl (enters Tryz.func46 rfl rfl) (List.Perm.refl _) rfl (fun w hw => by
   have h9 := lived_any (cp := cp) (hI.sat hw)
   simp only [if_neg hc] at h9
   exact h9) ?_
  rintro ⟨xo, A3, c3⟩
  refine TL.p Pu.mv ?_
  refine TL.p Pu.ex ?_
  refine TL.p Pu.ex ?_
  refine TL.p Pu.ex ?_
  refine TL.p Pu.as ?_
  refine TL.p Pu.as ?_
  refine TL.p Pu.as ?_
  refine TL.nil (TQ.thenN (hY2 _ _ ?_))
  refine TW.seq fun Y3 hY3 => TW.region ?_
  refine TL.p Pu.mv ?_
  refine TL.p Pu.mv ?_
  refine TL.p Pu.as ?_
  refine TL.p Pu.as ?_
  refine TL.nil (TQ.thenN (hY3 _ _ ?_))
  refine TW.ret ?_
  refine TQ.ret Tryz.results15 rfl ((.tmp rfl (.tmp rfl .nil))) ?_
  exact fun w hw => ⟨(none, 0), by simp only [if_neg hc]; rfl, by simp only [if_neg hc]; exact hw.sub (KSub.nilOwn KSub.nil)⟩
end Go.Proofs.YtbenhafhklfhmaaGreat
namespace Go.Proofs.YtbenhafhklfhmaaGreat
set_option linter.all false
set_option linter.unusedVariables false
set_option linter.unusedSimpArgs false
open Go.RowKit
theorem dep_up {f : Nat → Int} {n i : Nat} (ha : Acyc f n) (hf : Mo f n) (hi : i < n) : ∀ q, q < depH f n i → depH f n (upH f i q).toNat + q = depH f n i
 | 0, _ => by simp [upH]
 | q + 1, hq => by
  have ih := dep_up ha hf hi q (by omega)
  have h0 := dep_in (f := f) (n := n) (i := i) (s := q) (by omega)
  have h1 := dep_in hq
  have hb := upH_bd hf hi q
  have e : upH f i (q + 1) = f (upH f i q).toNat := if_neg (by omega)
  rw [e] at h1 ⊢
  have := dep_mother ha hf (i := (upH f i q).toNat) (by omega) h1
  omega
theorem up_ne {f : Nat → Int} {n i q : Nat} (ha : Acyc f n) (hf : Mo f n) (hi : i < n) (hq : q + 1 < depH f n i) : upH f i (q + 1) ≠ i := fun e => by
 have := dep_up ha hf hi (q + 1) hq
 rw [e] at this
 simp at this
theorem pl_v {H : Hd} {x : Int} : (mlook x (plM H H.n)).getD (.int .i64 0) = .int .i64 (if 0 ≤ atH H x then atH H x else 0) := by
 rw [pl_look]
 by_cases h : 0 ≤ atH H x
 · rw [if_pos h, if_pos h]; rfl
 · rw [if_neg h, if_neg h]; rfl
theorem pl_s {H : Hd} {x : Int} : (mlook x (plM H H.n)).isSome = decide (0 ≤ atH H x) := by
 rw [pl_look]
 by_cases h : 0 ≤ atH H x
 · rw [if_pos h, decide_eq_true h]; rfl
 · rw [if_neg h, decide_eq_false h]; rfl
theorem at_lt {H : Hd} {x : Int} (h : 0 ≤ atH H x) : (atH H x).toNat < H.n ∧ ((atH H x).toNat : Int) = atH H x := by
 have := atI_le (p := fun j => decide (H.id j = x)) (n := H.n) h
 exact ⟨this.1, this.2.2⟩
theorem pl_n {H : Hd} {x : Int} : (mlook x (plM H H.n)).getD (.int .i64 0) = .int .i64 ((atH H x).toNat : Int) := by
 rw [pl_v]
 by_cases h : 0 ≤ atH H x
 · rw [if_pos h, Int.toNat_of_nonneg h]
 · rw [if_neg h, Int.toNat_of_nonpos (by omega)]; rfl
def linC (H : Hd) (id : Int) : Int := if herdB H then (if 0 ≤ atH H id then 0 else 2) else 20
def linN (H : Hd) (id : Int) : Nat := if linC H id = 0 then depH (moH H) H.n (atH H id).toNat - 1 else 0
def linV (H : Hd) (id : Int) (s : Nat) : Int := H.id (upH (moH H) (atH H id).toNat (s + 1)).toNat
set_option maxRecDepth 100000 in
set_option maxHeartbeats 2000000 in
theorem bLine_any {w : World} {A : Option Addr} {cp : Nat} {H : Hd} {a : Nat → Option Addr} {c : Nat → Nat} {id : Int} (hI : HIn w A H a c) :
  CallsK Tryz.prog 34 #[.slice A H.n cp, .int .i64 id] [] w (Option Addr × Nat) (fun y => .tuple #[.slice y.1 (linN H id) y.2, .int .i64 (linC H id)]) (fun y => [.own y.1 (linN H id) y.2 3 1 (fun s => [.int .i64 (linV H id s)])]) := by
 cases hh : herdB H with
 | false =>
  have hc : linC H id = 20 := by unfold linC; rw [hh]; rfl
  have hN : linN H id = 0 := by unfold linN; rw [hc]; rfl
  refine K_enterM (S := []) (K := []) Tryz.func34 rfl Tryz.ntmps34 rfl (Sat.start _) ?_
  refine TW.seqD fun Y1 hY1 => ?_
  refine TW.region ?_
  refine TL.p Pu.as ?_
  refine TL.p Pu.as ?_
  refine TL.nil ?_
  refine TQ.thenN (hY1 _ _ _ ?_)
  refine TW.seqD fun Y2 hY2 => ?_
  refine TW.region ?_
  refine TL.p Pu.mv ?_
  refine TL.call (M := []) rfl (enters Tryz.func69 rfl rfl) (List.Perm.refl _) rfl (fun w hw => by
    have h9 := open_any (cp := cp) (hI.sat hw)
    rw [hh] at h9
    exact h9) ?_
  rintro xo
  refine TL.p Pu.mv ?_
  refine TL.p Pu.ex ?_
  refine TL.p Pu.ex ?_
  refine TL.m (Mk.al ty_zr96) ?_
  intro b1
  first | refine TL.st ty_sz96 ?_ | refine TL.se ty_sz96 ?_
  refine TL.p Pu.as ?_
  refine TL.nil ?_
  refine TQ.thenN (hY2 _ _ _ ?_)
  refine TW.seqD fun Y3 hY3 => ?_
  refine TW.seqD fun Y4 hY4 => ?_
  refine TW.region ?_
  refine TL.p Pu.mv ?_
  refine TL.p Pu.ne ?_
  refine TL.nil ?_
  refine TQ.thenN (hY4 _ _ _ ?_)
  refine TW.condT rfl (rfl) ?_
  refine TW.seqD fun Y5 hY5 => ?_
  refine TW.region ?_
  refine TL.p Pu.mv ?_
  refine TL.p Pu.as ?_
  refine TL.p Pu.as ?_
  refine TL.nil ?_
  refine TQ.thenN (hY5 _ _ _ ?_)
  refine TW.ret ?_
  refine TQ.thenR ?_
  refine TQ.retM0 Tryz.results34 ((.tmp rfl (.tmp rfl .nil))) ?_
  exact fun w hw => ⟨(none, 0), by simp only [hN, hc]; rfl, by simp only [hN]; exact hw.sub (KSub.nilOwn KSub.nil)⟩
 | true =>
  have hk := herdB_ok.1 hh
  have h16 := hk.n16
  obtain ⟨i, hi9⟩ : ∃ i, i = (atH H id).toNat := ⟨_, rfl⟩
  refine K_enterM (S := []) (K := []) Tryz.func34 rfl Tryz.ntmps34 rfl (Sat.start _) ?_
  refine TW.seqD fun Y1 hY1 => ?_
  refine TW.region ?_
  refine TL.p Pu.as ?_
  refine TL.p Pu.as ?_
  refine TL.nil ?_
  refine TQ.thenN (hY1 _ _ _ ?_)
  refine TW.seqD fun Y2 hY2 => ?_
  refine TW.region ?_
  refine TL.p Pu.mv ?_
  refine TL.call (M := []) rfl (enters Tryz.func69 rfl rfl) (List.Perm.refl _) rfl (fun w hw => by
    have h9 := open_any (cp := cp) (hI.sat hw)
    rw [hh] at h9
    exact h9) ?_
  rintro xo
  simp only [if_true, opK]
  refine TL.p Pu.mv ?_
  refine TL.p Pu.ex ?_
  refine TL.p Pu.ex ?_
  refine TL.m (Mk.al ty_zr96) ?_
  intro b1
  first | refine TL.st ty_sz96 ?_ | refine TL.se ty_sz96 ?_
  refine TL.p Pu.as ?_
  refine TL.nil ?_
  refine TQ.thenN (hY2 _ _ _ ?_)
  refine TW.seqD fun Y3 hY3 => ?_
  refine TW.seqD fun Y4 hY4 => ?_
  refine TW.region ?_
  refine TL.p Pu.mv ?_
  refine TL.p Pu.ne ?_
  refine TL.nil ?_
  refine TQ.thenN (hY4 _ _ _ ?_)
  refine TW.condF rfl (rfl) ?_
  refine TW.skip ?_
  refine TQ.thenN (hY3 _ _ _ ?_)
  refine TW.seqD fun Y5 hY5 => ?_
  refine TW.region ?_
  refine TL.p (Pu.ld ty_sc96) ?_
  refine TL.p (by first | exact Pu.nn | exact Pu.nc) ?_
  refine TL.p (by first | exact Pu.fb ty_fa106_1 | exact Pu.fe ty_fa106_1) ?_
  refine TL.p (Pu.ld ty_sc39) ?_
  refine TL.p Pu.mv ?_
  refine TL.p (Pu.lkV (.int .i64 (i : Int)) (decide (0 ≤ atH H id)) ty_mp39 ty_zv3 (hi9 ▸ pl_n) pl_s) ?_
  refine TL.p Pu.mv ?_
  refine TL.p Pu.ex ?_
  refine TL.p Pu.ex ?_
  refine TL.m (Mk.al ty_zr3) ?_
  intro b2
  first | refine TL.st ty_sz3 ?_ | refine TL.se ty_sz3 ?_
  refine TL.p Pu.as ?_
  refine TL.nil ?_
  refine TQ.thenN (hY5 _ _ _ ?_)
  refine TW.seqD fun Y6 hY6 => ?_
  refine TW.seqD fun Y7 hY7 => ?_
  refine TW.region ?_
  refine TL.p Pu.mv ?_
  refine TL.p Pu.no ?_
  refine TL.nil ?_
  refine TQ.thenN (hY7 _ _ _ ?_)
  refine TW.cond rfl (fun hc1 => ?_) (fun hc1 => ?_)
  try simp only [zcb9] at hc1
  have hc : linC H id = 2 := by unfold linC; rw [hh, if_pos rfl, if_neg (by omega)]
  have hN : linN H id = 0 := by unfold linN; rw [hc]; rfl
  refine TW.seqD fun Y8 hY8 => ?_
  refine TW.region ?_
  refine TL.p Pu.as ?_
  refine TL.p Pu.as ?_
  refine TL.nil ?_
  refine TQ.thenN (hY8 _ _ _ ?_)
  refine TW.ret ?_
  refine TQ.thenR ?_
  refine TQ.retM0 Tryz.results34 ((.tmp rfl (.tmp rfl .nil))) ?_
  exact fun w hw => ⟨(none, 0), by simp only [hN, hc]; rfl, by simp only [hN]; exact hw.sub (KSub.nilOwn KSub.nil)⟩
  try simp only [zcb9] at hc1
  have hat : 0 ≤ atH H id := hc1
  have hc : linC H id = 0 := by unfold linC; rw [hh, if_pos rfl, if_pos hat]
  have hN : linN H id = depH (moH H) H.n (atH H id).toNat - 1 := by unfold linN; rw [hc]; rfl
  obtain ⟨hil, hie⟩ := at_lt hat
  rw [← hi9] at hil hie hN
  refine TW.skip ?_
  refine TQ.thenN (hY6 _ _ _ ?_)
  refine TW.seqD fun Y9 hY9 => ?_
  refine TW.region ?_
  refine TL.m (Mk.al ty_zr28) ?_
  intro b3
  refine TL.nil ?_
  refine TQ.thenN (hY9 _ _ _ ?_)
  refine TW.seqD fun Y10 hY10 => ?_
  refine TW.rebaseK [.blk b3 28 [.slice none 0 0], .blk b1 96 [.pointer (some ⟨xo.1.1, 0, none⟩)], .blk b2 3 [.int .i64 (i : Int)]] (opK H A cp xo) (by unfold opK; (repeat (first | exact KSub.nil | refine KSub.cons pk9 ?_))) fun w1 hw1 => ?_
  have hoB : OldB w1 xo.1.1 [.slice A H.n cp, .map (some xo.1.2), .slice xo.2.1.1 H.n xo.2.1.2, .slice xo.2.2.1 H.n xo.2.2.2] := OldB.of_blk (hw1.holds (.blk xo.1.1 106 [.slice A H.n cp, .map (some xo.1.2), .slice xo.2.1.1 H.n xo.2.1.2, .slice xo.2.2.1 H.n xo.2.2.2]) (by simp [opK]))
  have hSb := hw1.apartB (b := xo.1.1) (t := 106) (cs := [.slice A H.n cp, .map (some xo.1.2), .slice xo.2.1.1 H.n xo.2.1.2, .slice xo.2.2.1 H.n xo.2.2.2]) (by simp [opK])
  have hoM : RdR w1 1 xo.2.1.1 H.n (fun j => [.int .i64 (moH H j)]) := OwnR.rdr (hw1.holds (.own xo.2.1.1 H.n xo.2.1.2 3 1 (fun j => [.int .i64 (moH H j)])) (by simp [opK]))
  have hSm := hw1.apartO (A := xo.2.1.1) (n := H.n) (c := xo.2.1.2) (E := 3) (sz := 1) (r := fun j => [.int .i64 (moH H j)]) (by simp [opK])
  have hRA : RdR w1 5 A H.n (fun i => anL H a c i) := hI.hR.sat hw1 Apart.nil
  have hSA := hI.hR.apart (S := feet [.blk b3 28 [.slice none 0 0], .blk b1 96 [.pointer (some ⟨xo.1.1, 0, none⟩)], .blk b2 3 [.int .i64 (i : Int)]]) (fun b hb => (hw1.ge b (by rw [feet_append]; exact List.mem_append_left _ hb)).resolve_left (by simp)) (by omega)
  refine TW.seqD fun Y11 hY11 => ?_
  refine TW.region ?_
  refine TL.p (Pu.ld ty_sc96) ?_
  refine TL.p (Pu.ld ty_sc3) ?_
  refine TL.call (M := []) rfl (enters Tryz.func82 rfl rfl) (List.Perm.refl _) rfl (fun w hw => by
    exact line_any) ?_
  rintro ⟨bi, bp⟩
  refine TL.nil ?_
  refine TQ.thenN (hY11 _ _ _ ?_)
  refine TW.block ?_
  refine TW.rangeR (fun (q : Nat) (r : Option Addr × Nat) => .own r.1 (q - 1) r.2 3 1 (fun s => [.int .i64 (H.id (upH (moH H) i (s + 1)).toNat)]) :: .blk b3 28 [.slice r.1 (q - 1) r.2] :: .blk b1 96 [.pointer (some ⟨xo.1.1, 0, none⟩)] :: .blk b2 3 [.int .i64 (i : Int)] :: []) (fun x : Empty => x.elim) (fun x => x.elim) ((none, 0)) (fun x y => line1_iter (N := depH (moH H) H.n i) (bi := bi) (bp := bp) (i := i) hoB hSb hoM hSm moH_Mo hil (.inl ⟨rfl, hk.ac i hil⟩)) ?_ ?_ ?_ ?_ (eg := enters Tryz.func107 rfl rfl)
  exact KSub.cons pk9 (KSub.cons pk9 (KSub.nilOwn (KSub.cons pk9 (KSub.cons pk9 (KSub.cons pk9 KSub.nil)))))
  rintro lR DR oR oR1 oR2 q g ⟨Al, cl⟩ hq ZR0 hZR0
  simp only [linM, List.cons_append, List.nil_append]
  have hdl := dep_le (f := moH H) (n := H.n) (i := i)
  have hup := dep_in hq
  have hub := upH_bd moH_Mo hil q
  refine TWi.region ?_
  refine TL.p Pu.as ?_
  refine TL.nil ?_
  refine TQ.thenN (hZR0 _ _ _ Pick.hd ?_)
  refine TWi.block ?_
  refine TWi.seq fun Y12 hY12 => ?_
  refine TWi.region ?_
  refine TL.p Pu.mv ?_
  refine TL.p (Pu.ld ty_sc3) ?_
  refine TL.p Pu.ne ?_
  refine TL.nil (TQ.thenN (hY12 _ _ ?_))
  refine TWi.cond rfl (fun hc2 => ?_) (fun hc2 => ?_)
  try simp only [zcb9] at hc2
  have hq1 : q ≠ 0 := fun e => hc2 (by rw [e]; rfl)
  obtain ⟨q', rfl⟩ : ∃ q', q = q' + 1 := ⟨q - 1, by omega⟩
  simp only [Nat.add_sub_cancel]
  refine TWi.dw 10 ?_
  refine RK.tk (Pu.ld ty_sc28) ?_
  refine RK.tk (Pu.ld ty_sc96) ?_
  refine RK.tk (by first | exact Pu.nn | exact Pu.nc) ?_
  refine RK.tk (by first | exact Pu.fb ty_fa106_0 | exact Pu.fe ty_fa106_0) ?_
  refine RK.tk (Pu.ldo ty_sc22) ?_
  refine RK.tk Pu.mv ?_
  refine RK.tk (Pu.el (q := (upH (moH H) i (q' + 1)).toNat) ty_et22 (hk := rfl)) ?_
  refine RK.tk (by first | exact Pu.fb ty_fa46_0 | exact Pu.fe ty_fa46_0) ?_
  refine RK.tk (Pu.ld ty_sc3) ?_
  refine RK.keep ?_
  refine RK.ch [false] ?_ trivial
  refine WK.m Mk.bl ?_
  intro b4
  refine WK.n ?_
  first | refine TL.a0 ty_et28 ?_ | refine TL.ap ty_et28 ?_
  intro A5 c5
  first | refine TL.st ty_sz28 ?_ | refine TL.se ty_sz28 ?_
  refine TL.nil ?_
  refine TQ.blkN ?_
  first
   | (generalize A5 = A9; generalize c5 = c9)
   | (generalize Al = A9; generalize cl = c9)
  refine TQ.rbN ((A9, c9)) ?_
  simp only [linM, Nat.add_sub_cancel, List.cons_append, List.nil_append]
  first
   | exact KSub.cons pk9 (KSub.cons pk9 (KSub.cons pk9 (KSub.cons pk9 (KSub.own pk9 (fun j hj => by exact cat_rows (r := fun s => [Value.int .i64 (H.id (upH (moH H) i (s + 1)).toNat)]) (by rw [hi9]) hj) (KSub.cons pk9 (KSub.cons pk9 (KSub.cons pk9 KSub.nil)))))))
   | exact KSub.cons pk9 (KSub.cons pk9 (KSub.cons pk9 (KSub.cons pk9 (KSub.cons pk9 (KSub.cons pk9 (KSub.cons pk9 (KSub.cons pk9 KSub.nil)))))))
  try simp only [zcb9] at hc2
  have hq0 : q = 0 := by
   cases q with
   | zero => rfl
   | succ q' => exact absurd hc2 (up_ne hk.ac moH_Mo hil hq)
  subst hq0
  refine TWi.skip ?_
  refine TQ.blkN ?_
  first
   | (generalize A5 = A9; generalize c5 = c9)
   | (generalize Al = A9; generalize cl = c9)
  refine TQ.rbN ((A9, c9)) ?_
  simp only [linM, Nat.add_sub_cancel, List.cons_append, List.nil_append]
  first
   | exact KSub.cons pk9 (KSub.cons pk9 (KSub.cons pk9 (KSub.cons pk9 (KSub.own pk9 (fun j hj => by exact cat_rows (r := fun s => [Value.int .i64 (H.id (upH (moH H) i (s + 1)).toNat)]) (by rw [hi9]) hj) (KSub.cons pk9 (KSub.cons pk9 (KSub.cons pk9 KSub.nil)))))))
   | exact KSub.cons pk9 (KSub.cons pk9 (KSub.cons pk9 (KSub.cons pk9 (KSub.cons pk9 (KSub.cons pk9 (KSub.cons pk9 (KSub.cons pk9 KSub.nil)))))))
  rintro DR ⟨Al, cl⟩
  simp only [List.nil_append]
  refine TQ.blkN ?_
  refine TQ.thenN (hY10 _ _ _ ?_)
  refine TW.seqD fun Y13 hY13 => ?_
  refine TW.region ?_
  refine TL.p (Pu.ld ty_sc28) ?_
  refine TL.p Pu.as ?_
  refine TL.p Pu.as ?_
  refine TL.nil ?_
  refine TQ.thenN (hY13 _ _ _ ?_)
  refine TW.ret ?_
  refine TQ.retM Tryz.results34 pk9 ((.tmp rfl (.tmp rfl .nil))) ?_
  exact fun w hw => ⟨(Al, cl), by simp only [hN, hc]; rfl, by simp only [hN]; exact Sat.sub (K := _ ++ opK H A cp xo) (hw1.step hw) (KSub.own Pick.hd (fun s hs => by unfold linV; rw [← hi9]) KSub.nil)⟩
  intro _ x; exact x.elim
end Go.Proofs.YtbenhafhklfhmaaGreat
namespace Go.Proofs.YtbenhafhklfhmaaGreat
set_option linter.all false
set_option linter.unusedVariables false
set_option linter.unusedSimpArgs false
open Go.RowKit
theorem ofI32 {m : Nat} (hm : m ≤ 4294967295) : (BitVec.ofInt 32 (m : Int)).toNat = m := by
 rw [BitVec.toNat_ofInt]
 omega
theorem bitsW_and {a b : Nat} (ha : a ≤ 4294967295) (hb : b ≤ 4294967295) : bits .and .u32 (a : Int) (b : Int) = ((a &&& b : Nat) : Int) := by
 have h2 : bits .and .u32 (a : Int) (b : Int) = IntKind.u32.wrap ((BitVec.ofInt 32 (a : Int) &&& BitVec.ofInt 32 (b : Int)).toNat : Int) := rfl
 rw [h2, BitVec.toNat_and, ofI32 ha, ofI32 hb]
 have : a &&& b ≤ a := Nat.and_le_left
 exact IntWalk.u32_in _ (by omega)
section
variable {c : Cx} {F : Fr} {K : List Fact} {d : Option Tmp} {ty xt yt : TypeId} {pos : String} {af : Array Edge} {g : Option (Nat × Bool)} {x y : Operand}
theorem Pu.srW {b i : Nat} (hx : ev F x = some (.int .u32 (b : Int)) := by rfl) (hy : ev F y = some (.int .i64 (i : Int)) := by rfl) (hj : i ≤ 32 := by omega) : Pu c F K ⟨d, .binOp .shr xt x y yt, ty, pos, af, g⟩ (.int .u32 ((b / 2 ^ i : Nat) : Int)) := Pu.bin hx hy fun w => by
 have h9 : Min.min i 32 = i := Nat.min_eq_left hj
 go_simp
theorem Pu.srW64 {b i : Nat} (hx : ev F x = some (.int .u32 (b : Int)) := by rfl) (hy : ev F y = some (.int .u64 (i : Int)) := by rfl) (hj : i ≤ 32 := by omega) : Pu c F K ⟨d, .binOp .shr xt x y yt, ty, pos, af, g⟩ (.int .u32 ((b / 2 ^ i : Nat) : Int)) := Pu.bin hx hy fun w => by
 have h9 : Min.min i 32 = i := Nat.min_eq_left hj
 go_simp
theorem Pu.anW {m : Nat} (hx : ev F x = some (.int .u32 (m : Int)) := by rfl) (hy : ev F y = some (.int .u32 1) := by rfl) (hm : m ≤ 4294967295 := by omega) : Pu c F K ⟨d, .binOp .and xt x y yt, ty, pos, af, g⟩ (.int .u32 ((m % 2 : Nat) : Int)) := Pu.bin hx hy fun w => by
 have h := bitsW_and (a := m) (b := 1) hm (by decide)
 rw [Nat.and_one_is_mod] at h
 have h : bits .and .u32 (m : Int) 1 = ((m % 2 : Nat) : Int) := h
 go_simp
end
end Go.Proofs.YtbenhafhklfhmaaGreat
namespace Go.Proofs.YtbenhafhklfhmaaGreat
set_option linter.all false
set_option linter.unusedVariables false
set_option linter.unusedSimpArgs false
open Go.RowKit
theorem sortI_any {w : World} {A : Option Addr} {n cp : Nat} {L : List Int} (hn : n = L.length) (h1 : n ≤ 1000000) (h : OwnR w A n cp 3 1 (iL L)) :
   CallsK Tryz.prog 115 #[.slice A n cp] [.own A n cp 3 1 (iL L)] w Unit (fun _ => .tuple #[]) (fun _ => [.own A n cp 3 1 (iL (srt L))]) := by
 subst hn
 rcases h.own.2 with ⟨e, h0⟩ | ⟨g, cap, cur, e, hg, hh, hnc, hcm, hcs, ht⟩
 · have hL : L = [] := List.length_eq_zero_iff.1 h0
   subst hL
   refine (Tryz.slices_Sort_int_none A cp w).mono ?_
   rintro e' w' ⟨rfl, rfl⟩
   refine ⟨(), rfl, ?_⟩
   rw [srt_nil]
   exact Sat.own1 h
 · simp only [Value.slice.injEq] at e
   obtain ⟨rfl, _, rfl⟩ := e
   have hlt := lt_of_get hh
   have hH : Sort.Holds (Value.int .i64) w g 0 L.toArray := fun j hj => by
    have hj' : j < L.length := by simpa using hj
    have hrd := h.own.form1 (by omega)
    obtain ⟨g', c', e, _, _, _, hcell, hfr⟩ := hrd
    cases e
    refine ⟨?_, hfr _⟩
    have := hcell j 0 hj' (by omega)
    rw [Nat.mul_one, Nat.add_zero] at this
    rw [Nat.zero_add, this]
    simp [rowF, iL, List.getD_eq_getElem?_getD, hj']
   refine (Tryz.slices_Sort_int g 0 cp L w hH hlt (by omega)).mono ?_
   rintro e' w' ⟨rfl, n, os, rfl⟩
   rw [ms_srt]
   exact ⟨(), rfl, own_putRow os n (srt_len L) h⟩
end Go.Proofs.YtbenhafhklfhmaaGreat
