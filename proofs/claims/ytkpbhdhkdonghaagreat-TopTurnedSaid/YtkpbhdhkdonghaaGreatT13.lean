/-
  Part 13 of the proof.
-/
import Derived.Shelf.SlSortCmp.WholeK
import Derived.Shelf.SlGeneric
import Derived.Ground.SlsfProg
import Derived.Test.YtkpbhdhkdonghaaGreatProg
set_option linter.all false
namespace Go.Proofs.YtkpbhdhkdonghaaGreat
open Go.Shelf Go.RowKit
def sortPr_ren : Go.Shelf.Ren := ⟨fun | 6 => 204 | 15 => 247 | 14 => 246 | 28 => 275 | 29 => 276 | 20 => 267 | 21 => 268 | 22 => 269 | 23 => 270 | 24 => 271 | 25 => 272 | 26 => 273 | 27 => 274 | 46 => 285 | 47 => 286 | 48 => 287 | 49 => 288 | 50 => 289 | 57 => 293 | n => n, fun | 22 => 239 | 24 => 241 | 25 => 294 | 3 => 3 | 39 => 168 | 0 => 0 | 53 => 72 | 55 => 304 | 4 => 4 | 46 => 348 | 45 => 347 | 50 => 126 | 5 => 5 | 9 => 9 | 66 => 361 | 70 => 365 | 76 => 371 | 77 => 249 | n => n, fun | n => n⟩
theorem sortPr : Go.Proofs.SlLaysF0.n6 Tryz.prog sortPr_ren := {
  mixed := by kernel_rfl
  f6 := ⟨Tryz.f204.name, by decide, Tryz.func204.trans (congrArg some (by kernel_rfl))⟩
  f14 := ⟨Tryz.f246.name, by decide, Tryz.func246.trans (congrArg some (by kernel_rfl))⟩
  f15 := Tryz.func247.trans (congrArg some (by kernel_rfl))
  f20 := ⟨Tryz.f267.name, by decide, Tryz.func267.trans (congrArg some (by kernel_rfl))⟩
  f21 := ⟨Tryz.f268.name, by decide, Tryz.func268.trans (congrArg some (by kernel_rfl))⟩
  f22 := ⟨Tryz.f269.name, by decide, Tryz.func269.trans (congrArg some (by kernel_rfl))⟩
  f23 := ⟨Tryz.f270.name, by decide, Tryz.func270.trans (congrArg some (by kernel_rfl))⟩
  f24 := ⟨Tryz.f271.name, by decide, Tryz.func271.trans (congrArg some (by kernel_rfl))⟩
  f25 := ⟨Tryz.f272.name, by decide, Tryz.func272.trans (congrArg some (by kernel_rfl))⟩
  f26 := ⟨Tryz.f273.name, by decide, Tryz.func273.trans (congrArg some (by kernel_rfl))⟩
  f27 := ⟨Tryz.f274.name, by decide, Tryz.func274.trans (congrArg some (by kernel_rfl))⟩
  f28 := Tryz.func275.trans (congrArg some (by kernel_rfl))
  f29 := Tryz.func276.trans (congrArg some (by kernel_rfl))
  f46 := ⟨Tryz.f285.name, by decide, Tryz.func285.trans (congrArg some (by kernel_rfl))⟩
  f47 := Tryz.func286.trans (congrArg some (by kernel_rfl))
  f48 := Tryz.func287.trans (congrArg some (by kernel_rfl))
  f49 := ⟨Tryz.f288.name, by decide, Tryz.func288.trans (congrArg some (by kernel_rfl))⟩
  f50 := ⟨Tryz.f289.name, by decide, Tryz.func289.trans (congrArg some (by kernel_rfl))⟩
  f57 := ⟨Tryz.f293.name, by decide, Tryz.func293.trans (congrArg some (by kernel_rfl))⟩
  t0 := Tryz.underlying0
  a0 := Tryz.isAgg0
  z0 := Tryz.sizeOf0
  v0 := Tryz.zeroValue0
  t3 := Tryz.underlying3
  a3 := Tryz.isAgg3
  z3 := Tryz.sizeOf3
  v3 := Tryz.zeroValue3
  t4 := Tryz.underlying4
  a4 := Tryz.isAgg4
  z4 := Tryz.sizeOf4
  v4 := Tryz.zeroValue4
  t5 := Tryz.underlying5
  a5 := Tryz.isAgg5
  z5 := Tryz.sizeOf5
  v5 := Tryz.zeroValue5
  t9 := Tryz.underlying9
  a9 := Tryz.isAgg9
  z9 := Tryz.sizeOf9
  v9 := Tryz.zeroValue9
  t22 := Tryz.underlying239
  a22 := Tryz.isAgg239
  z22 := Tryz.sizeOf239
  v22 := Tryz.zeroValue239
  t25 := Tryz.underlying294
  a25 := Tryz.isAgg294
  z25 := Tryz.sizeOf294
  v25 := Tryz.zeroValue294
  t39 := Tryz.underlying168
  a39 := Tryz.isAgg168
  z39 := Tryz.sizeOf168
  v39 := Tryz.zeroValue168
  t45 := Tryz.underlying347
  a45 := Tryz.isAgg347
  z45 := Tryz.sizeOf347
  v45 := Tryz.zeroValue347
  t46 := Tryz.underlying348
  a46 := Tryz.isAgg348
  z46 := Tryz.sizeOf348
  v46 := Tryz.zeroValue348
  t50 := Tryz.underlying126
  a50 := Tryz.isAgg126
  z50 := Tryz.sizeOf126
  v50 := Tryz.zeroValue126
  t53 := Tryz.underlying72
  a53 := Tryz.isAgg72
  z53 := Tryz.sizeOf72
  v53 := Tryz.zeroValue72
  t55 := Tryz.underlying304
  a55 := Tryz.isAgg304
  z55 := Tryz.sizeOf304
  v55 := Tryz.zeroValue304
  t66 := Tryz.underlying361
  a66 := Tryz.isAgg361
  z66 := Tryz.sizeOf361
  v66 := Tryz.zeroValue361
  t70 := Tryz.underlying365
  a70 := Tryz.isAgg365
  z70 := Tryz.sizeOf365
  v70 := Tryz.zeroValue365
  t76 := Tryz.underlying371
  a76 := Tryz.isAgg371
  z76 := Tryz.sizeOf371
  v76 := Tryz.zeroValue371
  t77 := Tryz.underlying249
  a77 := Tryz.isAgg249
  z77 := Tryz.sizeOf249
  v77 := Tryz.zeroValue249 }
end Go.Proofs.YtkpbhdhkdonghaaGreat
