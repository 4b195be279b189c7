/-
  DERIVED: THE SHELF's CONTRACTS AT THIS DUMP, IN PLAIN WORDS (tools/lay-plain.mjs out of 'YtjmbphjgiodioaaGreatDoorLaySortT.lean', which tools/lay-shelf.mjs wrote): THE SAME DECLARATIONS UNDER THE SAME NAMES: 'import', 'namespace', 'open', 'def', 'theorem' AND NOTHING ELSE: no command of the shelf's: FOR A HAND-IN. Each laying: the table of numbers ('.._ren') and one theorem, a field a fact of the dump's own or the kernel's comparison; each contract: ONE APPLICATION.
-/
import Derived.Shelf.SlSortCmp.NoneTotal
import Derived.Test.YtjmbphjgiodioaaGreatDoorProg
namespace Go.Proofs
open Go.Shelf
def Tryz.sortTr_ren : Go.Shelf.Ren := ⟨fun | 6 => 110 | 15 => 189 | 14 => 188 | 28 => 291 | 29 => 292 | 20 => 283 | 21 => 284 | 22 => 285 | 23 => 286 | 24 => 287 | 25 => 288 | 26 => 289 | 27 => 290 | 46 => 388 | 47 => 389 | 48 => 390 | 49 => 391 | 50 => 392 | 57 => 438 | n => n, fun | 22 => 37 | 24 => 96 | 25 => 121 | 3 => 3 | 39 => 266 | 0 => 0 | 53 => 378 | 55 => 22 | 4 => 4 | 46 => 372 | 45 => 371 | 50 => 314 | 5 => 5 | 9 => 9 | 66 => 455 | 70 => 459 | 76 => 499 | 77 => 251 | n => n, fun | n => n⟩
theorem Tryz.sortTr : Go.Proofs.SlLaysF0.n6 Tryz.prog Tryz.sortTr_ren := {
  mixed := by kernel_rfl
  f6 := ⟨Tryz.f110.name, by decide, Tryz.func110.trans (congrArg some (by kernel_rfl))⟩
  f14 := ⟨Tryz.f188.name, by decide, Tryz.func188.trans (congrArg some (by kernel_rfl))⟩
  f15 := Tryz.func189.trans (congrArg some (by kernel_rfl))
  f20 := ⟨Tryz.f283.name, by decide, Tryz.func283.trans (congrArg some (by kernel_rfl))⟩
  f21 := ⟨Tryz.f284.name, by decide, Tryz.func284.trans (congrArg some (by kernel_rfl))⟩
  f22 := ⟨Tryz.f285.name, by decide, Tryz.func285.trans (congrArg some (by kernel_rfl))⟩
  f23 := ⟨Tryz.f286.name, by decide, Tryz.func286.trans (congrArg some (by kernel_rfl))⟩
  f24 := ⟨Tryz.f287.name, by decide, Tryz.func287.trans (congrArg some (by kernel_rfl))⟩
  f25 := ⟨Tryz.f288.name, by decide, Tryz.func288.trans (congrArg some (by kernel_rfl))⟩
  f26 := ⟨Tryz.f289.name, by decide, Tryz.func289.trans (congrArg some (by kernel_rfl))⟩
  f27 := ⟨Tryz.f290.name, by decide, Tryz.func290.trans (congrArg some (by kernel_rfl))⟩
  f28 := Tryz.func291.trans (congrArg some (by kernel_rfl))
  f29 := Tryz.func292.trans (congrArg some (by kernel_rfl))
  f46 := ⟨Tryz.f388.name, by decide, Tryz.func388.trans (congrArg some (by kernel_rfl))⟩
  f47 := Tryz.func389.trans (congrArg some (by kernel_rfl))
  f48 := Tryz.func390.trans (congrArg some (by kernel_rfl))
  f49 := ⟨Tryz.f391.name, by decide, Tryz.func391.trans (congrArg some (by kernel_rfl))⟩
  f50 := ⟨Tryz.f392.name, by decide, Tryz.func392.trans (congrArg some (by kernel_rfl))⟩
  f57 := ⟨Tryz.f438.name, by decide, Tryz.func438.trans (congrArg some (by kernel_rfl))⟩
  t0 := Tryz.underlying0
  a0 := Tryz.isAgg0
  z0 := Tryz.sizeOf0
  v0 := Tryz.zeroValue0
  t3 := Tryz.underlying3
  a3 := Tryz.isAgg3
  z3 := Tryz.sizeOf3
  v3 := Tryz.zeroValue3
  t4 := Tryz.underlying4
  a4 := Tryz.isAgg4
  z4 := Tryz.sizeOf4
  v4 := Tryz.zeroValue4
  t5 := Tryz.underlying5
  a5 := Tryz.isAgg5
  z5 := Tryz.sizeOf5
  v5 := Tryz.zeroValue5
  t9 := Tryz.underlying9
  a9 := Tryz.isAgg9
  z9 := Tryz.sizeOf9
  v9 := Tryz.zeroValue9
  t22 := Tryz.underlying37
  a22 := Tryz.isAgg37
  z22 := Tryz.sizeOf37
  v22 := Tryz.zeroValue37
  t25 := Tryz.underlying121
  a25 := Tryz.isAgg121
  z25 := Tryz.sizeOf121
  v25 := Tryz.zeroValue121
  t39 := Tryz.underlying266
  a39 := Tryz.isAgg266
  z39 := Tryz.sizeOf266
  v39 := Tryz.zeroValue266
  t45 := Tryz.underlying371
  a45 := Tryz.isAgg371
  z45 := Tryz.sizeOf371
  v45 := Tryz.zeroValue371
  t46 := Tryz.underlying372
  a46 := Tryz.isAgg372
  z46 := Tryz.sizeOf372
  v46 := Tryz.zeroValue372
  t50 := Tryz.underlying314
  a50 := Tryz.isAgg314
  z50 := Tryz.sizeOf314
  v50 := Tryz.zeroValue314
  t53 := Tryz.underlying378
  a53 := Tryz.isAgg378
  z53 := Tryz.sizeOf378
  v53 := Tryz.zeroValue378
  t55 := Tryz.underlying22
  a55 := Tryz.isAgg22
  z55 := Tryz.sizeOf22
  v55 := Tryz.zeroValue22
  t66 := Tryz.underlying455
  a66 := Tryz.isAgg455
  z66 := Tryz.sizeOf455
  v66 := Tryz.zeroValue455
  t70 := Tryz.underlying459
  a70 := Tryz.isAgg459
  z70 := Tryz.sizeOf459
  v70 := Tryz.zeroValue459
  t76 := Tryz.underlying499
  a76 := Tryz.isAgg499
  z76 := Tryz.sizeOf499
  v76 := Tryz.zeroValue499
  t77 := Tryz.underlying251
  a77 := Tryz.isAgg251
  z77 := Tryz.sizeOf251
  v77 := Tryz.zeroValue251 }
end Go.Proofs
