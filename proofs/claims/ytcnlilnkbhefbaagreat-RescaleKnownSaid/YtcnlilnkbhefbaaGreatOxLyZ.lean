/-
 The shelf's layings at this seat: slices.SortFunc, slices.Collect, the iterator of maps.Keys. CONDITIONS: none.
-/
import Derived.Test.YtcnlilnkbhefbaaGreatProg
import Derived.Shelf.SlLaysF
import Derived.Shelf.SlLaysZI
set_option linter.unusedSimpArgs false
set_option linter.unusedVariables false
namespace Go.Proofs
open Go Go.Shelf
set_option maxRecDepth 100000
def Tryz.sortL_ren : Go.Shelf.Ren := ⟨fun | 6 => 98 | 15 => 105 | 14 => 104 | 28 => 114 | 29 => 115 | 20 => 106 | 21 => 107 | 22 => 108 | 23 => 109 | 24 => 110 | 25 => 111 | 26 => 112 | 27 => 113 | 46 => 116 | 47 => 117 | 48 => 118 | 49 => 119 | 50 => 120 | 57 => 121 | n => n, fun | 22 => 25 | 24 => 3 | 25 => 58 | 3 => 3 | 39 => 136 | 0 => 0 | 53 => 135 | 55 => 121 | 4 => 4 | 46 => 154 | 45 => 153 | 50 => 158 | 5 => 5 | 9 => 9 | 66 => 162 | 70 => 166 | 76 => 168 | 77 => 169 | n => n, fun | n => n⟩
theorem Tryz.sortL : Go.Proofs.SlLaysF.n6 Tryz.prog Tryz.sortL_ren where
 mixed := by kernel_rfl
 f6 := ⟨Tryz.f98.name, by decide, Tryz.func98.trans (congrArg some (by kernel_rfl))⟩
 f14 := ⟨Tryz.f104.name, by decide, Tryz.func104.trans (congrArg some (by kernel_rfl))⟩
 f15 := Tryz.func105.trans (congrArg some (by kernel_rfl))
 f20 := ⟨Tryz.f106.name, by decide, Tryz.func106.trans (congrArg some (by kernel_rfl))⟩
 f21 := ⟨Tryz.f107.name, by decide, Tryz.func107.trans (congrArg some (by kernel_rfl))⟩
 f22 := ⟨Tryz.f108.name, by decide, Tryz.func108.trans (congrArg some (by kernel_rfl))⟩
 f23 := ⟨Tryz.f109.name, by decide, Tryz.func109.trans (congrArg some (by kernel_rfl))⟩
 f24 := ⟨Tryz.f110.name, by decide, Tryz.func110.trans (congrArg some (by kernel_rfl))⟩
 f25 := ⟨Tryz.f111.name, by decide, Tryz.func111.trans (congrArg some (by kernel_rfl))⟩
 f26 := ⟨Tryz.f112.name, by decide, Tryz.func112.trans (congrArg some (by kernel_rfl))⟩
 f27 := ⟨Tryz.f113.name, by decide, Tryz.func113.trans (congrArg some (by kernel_rfl))⟩
 f28 := Tryz.func114.trans (congrArg some (by kernel_rfl))
 f29 := Tryz.func115.trans (congrArg some (by kernel_rfl))
 f46 := ⟨Tryz.f116.name, by decide, Tryz.func116.trans (congrArg some (by kernel_rfl))⟩
 f47 := Tryz.func117.trans (congrArg some (by kernel_rfl))
 f48 := Tryz.func118.trans (congrArg some (by kernel_rfl))
 f49 := ⟨Tryz.f119.name, by decide, Tryz.func119.trans (congrArg some (by kernel_rfl))⟩
 f50 := ⟨Tryz.f120.name, by decide, Tryz.func120.trans (congrArg some (by kernel_rfl))⟩
 f57 := ⟨Tryz.f121.name, by decide, Tryz.func121.trans (congrArg some (by kernel_rfl))⟩
 t0 := Tryz.underlying0
 a0 := Tryz.isAgg0
 z0 := Tryz.sizeOf0
 v0 := Tryz.zeroValue0
 t3 := Tryz.underlying3
 a3 := Tryz.isAgg3
 z3 := Tryz.sizeOf3
 v3 := Tryz.zeroValue3
 t4 := Tryz.underlying4
 a4 := Tryz.isAgg4
 z4 := Tryz.sizeOf4
 v4 := Tryz.zeroValue4
 t5 := Tryz.underlying5
 a5 := Tryz.isAgg5
 z5 := Tryz.sizeOf5
 v5 := Tryz.zeroValue5
 t9 := Tryz.underlying9
 a9 := Tryz.isAgg9
 z9 := Tryz.sizeOf9
 v9 := Tryz.zeroValue9
 t22 := Tryz.underlying25
 a22 := Tryz.isAgg25
 z22 := Tryz.sizeOf25
 v22 := Tryz.zeroValue25
 a24 := Tryz.isAgg3
 z24 := Tryz.sizeOf3
 t25 := Tryz.underlying58
 a25 := Tryz.isAgg58
 z25 := Tryz.sizeOf58
 v25 := Tryz.zeroValue58
 t39 := Tryz.underlying136
 a39 := Tryz.isAgg136
 z39 := Tryz.sizeOf136
 v39 := Tryz.zeroValue136
 t45 := Tryz.underlying153
 a45 := Tryz.isAgg153
 z45 := Tryz.sizeOf153
 v45 := Tryz.zeroValue153
 t46 := Tryz.underlying154
 a46 := Tryz.isAgg154
 z46 := Tryz.sizeOf154
 v46 := Tryz.zeroValue154
 t50 := Tryz.underlying158
 a50 := Tryz.isAgg158
 z50 := Tryz.sizeOf158
 v50 := Tryz.zeroValue158
 t53 := Tryz.underlying135
 a53 := Tryz.isAgg135
 z53 := Tryz.sizeOf135
 v53 := Tryz.zeroValue135
 t55 := Tryz.underlying121
 a55 := Tryz.isAgg121
 z55 := Tryz.sizeOf121
 v55 := Tryz.zeroValue121
 t66 := Tryz.underlying162
 a66 := Tryz.isAgg162
 z66 := Tryz.sizeOf162
 v66 := Tryz.zeroValue162
 t70 := Tryz.underlying166
 a70 := Tryz.isAgg166
 z70 := Tryz.sizeOf166
 v70 := Tryz.zeroValue166
 t76 := Tryz.underlying168
 a76 := Tryz.isAgg168
 z76 := Tryz.sizeOf168
 v76 := Tryz.zeroValue168
 t77 := Tryz.underlying169
 a77 := Tryz.isAgg169
 z77 := Tryz.sizeOf169
 v77 := Tryz.zeroValue169
def Tryz.collectL_ren : Go.Shelf.Ren := ⟨fun | 8 => 97 | 11 => 103 | n => n, fun | 26 => 3 | 28 => 140 | 24 => 25 | 0 => 0 | 33 => 144 | 4 => 4 | n => n, fun | n => n⟩
theorem Tryz.collectL : Go.Proofs.SlLaysZI.n8 Tryz.prog Tryz.collectL_ren where
 mixed := by kernel_rfl
 f8 := ⟨Tryz.f97.name, by decide, Tryz.func97.trans (congrArg some (by kernel_rfl))⟩
 f11 := ⟨Tryz.f103.name, by decide, Tryz.func103.trans (congrArg some (by kernel_rfl))⟩
 t0 := Tryz.underlying0
 a0 := Tryz.isAgg0
 z0 := Tryz.sizeOf0
 v0 := Tryz.zeroValue0
 t24 := Tryz.underlying25
 a24 := Tryz.isAgg25
 z24 := Tryz.sizeOf25
 v24 := Tryz.zeroValue25
 t26 := Tryz.underlying3
 a26 := Tryz.isAgg3
 z26 := Tryz.sizeOf3
 v26 := Tryz.zeroValue3
 t28 := Tryz.underlying140
 a28 := Tryz.isAgg140
 z28 := Tryz.sizeOf140
 v28 := Tryz.zeroValue140
 i26 := by kernel_rfl
def Tryz.keys1L_ren : Go.Shelf.Ren := ⟨fun | 10 => 99 | n => n, fun | 33 => 144 | 23 => 131 | 0 => 0 | 4 => 4 | 26 => 3 | 3 => 50 | n => n, fun | n => n⟩
theorem Tryz.keys1L : Go.Proofs.SlLaysZI.n10 Tryz.prog Tryz.keys1L_ren where
 mixed := by kernel_rfl
 f10 := ⟨Tryz.f99.name, by decide, Tryz.func99.trans (congrArg some (by kernel_rfl))⟩
 t0 := Tryz.underlying0
 a0 := Tryz.isAgg0
 z0 := Tryz.sizeOf0
 v0 := Tryz.zeroValue0
 t4 := Tryz.underlying4
 a4 := Tryz.isAgg4
 z4 := Tryz.sizeOf4
 v4 := Tryz.zeroValue4
 t23 := Tryz.underlying131
 a23 := Tryz.isAgg131
 z23 := Tryz.sizeOf131
 v23 := Tryz.zeroValue131
 t26 := Tryz.underlying3
 a26 := Tryz.isAgg3
 z26 := Tryz.sizeOf3
 v26 := Tryz.zeroValue3
 t33 := Tryz.underlying144
 a33 := Tryz.isAgg144
 z33 := Tryz.sizeOf144
 v33 := Tryz.zeroValue144
end Go.Proofs
