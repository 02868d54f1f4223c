/-
 The shelf's layings at this seat: slices.SortFunc, slices.Collect, the iterator of maps.Keys. CONDITIONS: none.
-/
import Derived.Test.YtfcajloeknedeaaGreatProg
import Derived.Shelf.SlLaysF
import Derived.Shelf.SlLaysZI
set_option linter.unusedSimpArgs false
set_option linter.unusedVariables false
namespace Go.Proofs
open Go Go.Shelf
set_option maxRecDepth 100000
def Tryz.sortL_ren : Go.Shelf.Ren := ⟨fun | 6 => 105 | 15 => 113 | 14 => 112 | 28 => 124 | 29 => 125 | 20 => 116 | 21 => 117 | 22 => 118 | 23 => 119 | 24 => 120 | 25 => 121 | 26 => 122 | 27 => 123 | 46 => 128 | 47 => 129 | 48 => 130 | 49 => 131 | 50 => 132 | 57 => 133 | n => n, fun | 22 => 25 | 24 => 3 | 25 => 143 | 3 => 3 | 39 => 107 | 0 => 0 | 53 => 156 | 55 => 157 | 4 => 4 | 46 => 171 | 45 => 170 | 50 => 109 | 5 => 5 | 9 => 9 | 66 => 178 | 70 => 181 | 76 => 183 | 77 => 184 | n => n, fun | n => n⟩
theorem Tryz.sortL : Go.Proofs.SlLaysF.n6 Tryz.prog Tryz.sortL_ren where
 mixed := by kernel_rfl
 f6 := ⟨Tryz.f105.name, by decide, Tryz.func105.trans (congrArg some (by kernel_rfl))⟩
 f14 := ⟨Tryz.f112.name, by decide, Tryz.func112.trans (congrArg some (by kernel_rfl))⟩
 f15 := Tryz.func113.trans (congrArg some (by kernel_rfl))
 f20 := ⟨Tryz.f116.name, by decide, Tryz.func116.trans (congrArg some (by kernel_rfl))⟩
 f21 := ⟨Tryz.f117.name, by decide, Tryz.func117.trans (congrArg some (by kernel_rfl))⟩
 f22 := ⟨Tryz.f118.name, by decide, Tryz.func118.trans (congrArg some (by kernel_rfl))⟩
 f23 := ⟨Tryz.f119.name, by decide, Tryz.func119.trans (congrArg some (by kernel_rfl))⟩
 f24 := ⟨Tryz.f120.name, by decide, Tryz.func120.trans (congrArg some (by kernel_rfl))⟩
 f25 := ⟨Tryz.f121.name, by decide, Tryz.func121.trans (congrArg some (by kernel_rfl))⟩
 f26 := ⟨Tryz.f122.name, by decide, Tryz.func122.trans (congrArg some (by kernel_rfl))⟩
 f27 := ⟨Tryz.f123.name, by decide, Tryz.func123.trans (congrArg some (by kernel_rfl))⟩
 f28 := Tryz.func124.trans (congrArg some (by kernel_rfl))
 f29 := Tryz.func125.trans (congrArg some (by kernel_rfl))
 f46 := ⟨Tryz.f128.name, by decide, Tryz.func128.trans (congrArg some (by kernel_rfl))⟩
 f47 := Tryz.func129.trans (congrArg some (by kernel_rfl))
 f48 := Tryz.func130.trans (congrArg some (by kernel_rfl))
 f49 := ⟨Tryz.f131.name, by decide, Tryz.func131.trans (congrArg some (by kernel_rfl))⟩
 f50 := ⟨Tryz.f132.name, by decide, Tryz.func132.trans (congrArg some (by kernel_rfl))⟩
 f57 := ⟨Tryz.f133.name, by decide, Tryz.func133.trans (congrArg some (by kernel_rfl))⟩
 t0 := Tryz.underlying0
 a0 := Tryz.isAgg0
 z0 := Tryz.sizeOf0
 v0 := Tryz.zeroValue0
 t3 := Tryz.underlying3
 a3 := Tryz.isAgg3
 z3 := Tryz.sizeOf3
 v3 := Tryz.zeroValue3
 t4 := Tryz.underlying4
 a4 := Tryz.isAgg4
 z4 := Tryz.sizeOf4
 v4 := Tryz.zeroValue4
 t5 := Tryz.underlying5
 a5 := Tryz.isAgg5
 z5 := Tryz.sizeOf5
 v5 := Tryz.zeroValue5
 t9 := Tryz.underlying9
 a9 := Tryz.isAgg9
 z9 := Tryz.sizeOf9
 v9 := Tryz.zeroValue9
 t22 := Tryz.underlying25
 a22 := Tryz.isAgg25
 z22 := Tryz.sizeOf25
 v22 := Tryz.zeroValue25
 a24 := Tryz.isAgg3
 z24 := Tryz.sizeOf3
 t25 := Tryz.underlying143
 a25 := Tryz.isAgg143
 z25 := Tryz.sizeOf143
 v25 := Tryz.zeroValue143
 t39 := Tryz.underlying107
 a39 := Tryz.isAgg107
 z39 := Tryz.sizeOf107
 v39 := Tryz.zeroValue107
 t45 := Tryz.underlying170
 a45 := Tryz.isAgg170
 z45 := Tryz.sizeOf170
 v45 := Tryz.zeroValue170
 t46 := Tryz.underlying171
 a46 := Tryz.isAgg171
 z46 := Tryz.sizeOf171
 v46 := Tryz.zeroValue171
 t50 := Tryz.underlying109
 a50 := Tryz.isAgg109
 z50 := Tryz.sizeOf109
 v50 := Tryz.zeroValue109
 t53 := Tryz.underlying156
 a53 := Tryz.isAgg156
 z53 := Tryz.sizeOf156
 v53 := Tryz.zeroValue156
 t55 := Tryz.underlying157
 a55 := Tryz.isAgg157
 z55 := Tryz.sizeOf157
 v55 := Tryz.zeroValue157
 t66 := Tryz.underlying178
 a66 := Tryz.isAgg178
 z66 := Tryz.sizeOf178
 v66 := Tryz.zeroValue178
 t70 := Tryz.underlying181
 a70 := Tryz.isAgg181
 z70 := Tryz.sizeOf181
 v70 := Tryz.zeroValue181
 t76 := Tryz.underlying183
 a76 := Tryz.isAgg183
 z76 := Tryz.sizeOf183
 v76 := Tryz.zeroValue183
 t77 := Tryz.underlying184
 a77 := Tryz.isAgg184
 z77 := Tryz.sizeOf184
 v77 := Tryz.zeroValue184
def Tryz.collectL_ren : Go.Shelf.Ren := ⟨fun | 8 => 104 | 11 => 111 | n => n, fun | 26 => 3 | 28 => 149 | 24 => 25 | 0 => 0 | 33 => 137 | 4 => 4 | n => n, fun | n => n⟩
theorem Tryz.collectL : Go.Proofs.SlLaysZI.n8 Tryz.prog Tryz.collectL_ren where
 mixed := by kernel_rfl
 f8 := ⟨Tryz.f104.name, by decide, Tryz.func104.trans (congrArg some (by kernel_rfl))⟩
 f11 := ⟨Tryz.f111.name, by decide, Tryz.func111.trans (congrArg some (by kernel_rfl))⟩
 t0 := Tryz.underlying0
 a0 := Tryz.isAgg0
 z0 := Tryz.sizeOf0
 v0 := Tryz.zeroValue0
 t24 := Tryz.underlying25
 a24 := Tryz.isAgg25
 z24 := Tryz.sizeOf25
 v24 := Tryz.zeroValue25
 t26 := Tryz.underlying3
 a26 := Tryz.isAgg3
 z26 := Tryz.sizeOf3
 v26 := Tryz.zeroValue3
 t28 := Tryz.underlying149
 a28 := Tryz.isAgg149
 z28 := Tryz.sizeOf149
 v28 := Tryz.zeroValue149
 i26 := by kernel_rfl
def Tryz.keys1L_ren : Go.Shelf.Ren := ⟨fun | 10 => 106 | n => n, fun | 33 => 137 | 23 => 117 | 0 => 0 | 4 => 4 | 26 => 3 | 3 => 61 | n => n, fun | n => n⟩
theorem Tryz.keys1L : Go.Proofs.SlLaysZI.n10 Tryz.prog Tryz.keys1L_ren where
 mixed := by kernel_rfl
 f10 := ⟨Tryz.f106.name, by decide, Tryz.func106.trans (congrArg some (by kernel_rfl))⟩
 t0 := Tryz.underlying0
 a0 := Tryz.isAgg0
 z0 := Tryz.sizeOf0
 v0 := Tryz.zeroValue0
 t4 := Tryz.underlying4
 a4 := Tryz.isAgg4
 z4 := Tryz.sizeOf4
 v4 := Tryz.zeroValue4
 t23 := Tryz.underlying117
 a23 := Tryz.isAgg117
 z23 := Tryz.sizeOf117
 v23 := Tryz.zeroValue117
 t26 := Tryz.underlying3
 a26 := Tryz.isAgg3
 z26 := Tryz.sizeOf3
 v26 := Tryz.zeroValue3
 t33 := Tryz.underlying137
 a33 := Tryz.isAgg137
 z33 := Tryz.sizeOf137
 v33 := Tryz.zeroValue137
end Go.Proofs
