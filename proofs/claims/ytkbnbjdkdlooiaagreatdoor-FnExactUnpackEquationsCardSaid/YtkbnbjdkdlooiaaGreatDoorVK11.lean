/-
  Contracts of functions of the program: what each returns for all arguments that its precondition lets in.
-/
import Derived.Test.YtkbnbjdkdlooiaaGreatDoorVK10
set_option linter.unusedSimpArgs false
set_option linter.unusedVariables false
set_option maxRecDepth 100000
set_option maxHeartbeats 4000000
set_option synthInstance.maxHeartbeats 4000000
set_option synthInstance.maxSize 20000000
namespace Go.Vee
open Go
def B_sl_Sort_int64_s (s : List (Int)) : List (Int) := sortI s
def Q_sl_Sort_int64 (s : List (Int)) : Prop := s.length < 4611686018427387904
open Go.Shelf in
def laysSort_ren : Go.Shelf.Ren := ⟨fun | 5 => 221 | 8 => 250 | 7 => 249 | 19 => 271 | 20 => 272 | 10 => 262 | 11 => 263 | 12 => 264 | 13 => 265 | 14 => 266 | 15 => 267 | 16 => 268 | 17 => 269 | 18 => 270 | 30 => 278 | 31 => 279 | 32 => 280 | 33 => 281 | 34 => 282 | 35 => 283 | 40 => 294 | n => n, fun | 23 => 62 | 25 => 2 | 3 => 3 | 32 => 230 | 22 => 62 | 0 => 0 | 44 => 302 | 46 => 304 | 4 => 4 | 36 => 294 | 35 => 293 | 41 => 299 | 5 => 5 | 9 => 9 | 53 => 309 | 57 => 313 | 63 => 328 | 64 => 329 | n => n, fun | n => n⟩
open Go.Shelf in
theorem laysSort : Go.Proofs.SlLaysM.n5 pg laysSort_ren := {
  mixed := (by kernel_rfl),
  f5 := ⟨Go.Proofs.Tryz.f221.name, by decide, Go.Proofs.Tryz.func221.trans (congrArg some (by kernel_rfl))⟩,
  f7 := ⟨Go.Proofs.Tryz.f249.name, by decide, Go.Proofs.Tryz.func249.trans (congrArg some (by kernel_rfl))⟩,
  f8 := Go.Proofs.Tryz.func250.trans (congrArg some (by kernel_rfl)),
  f10 := ⟨Go.Proofs.Tryz.f262.name, by decide, Go.Proofs.Tryz.func262.trans (congrArg some (by kernel_rfl))⟩,
  f11 := ⟨Go.Proofs.Tryz.f263.name, by decide, Go.Proofs.Tryz.func263.trans (congrArg some (by kernel_rfl))⟩,
  f12 := ⟨Go.Proofs.Tryz.f264.name, by decide, Go.Proofs.Tryz.func264.trans (congrArg some (by kernel_rfl))⟩,
  f13 := ⟨Go.Proofs.Tryz.f265.name, by decide, Go.Proofs.Tryz.func265.trans (congrArg some (by kernel_rfl))⟩,
  f14 := ⟨Go.Proofs.Tryz.f266.name, by decide, Go.Proofs.Tryz.func266.trans (congrArg some (by kernel_rfl))⟩,
  f15 := ⟨Go.Proofs.Tryz.f267.name, by decide, Go.Proofs.Tryz.func267.trans (congrArg some (by kernel_rfl))⟩,
  f16 := ⟨Go.Proofs.Tryz.f268.name, by decide, Go.Proofs.Tryz.func268.trans (congrArg some (by kernel_rfl))⟩,
  f17 := ⟨Go.Proofs.Tryz.f269.name, by decide, Go.Proofs.Tryz.func269.trans (congrArg some (by kernel_rfl))⟩,
  f18 := ⟨Go.Proofs.Tryz.f270.name, by decide, Go.Proofs.Tryz.func270.trans (congrArg some (by kernel_rfl))⟩,
  f19 := Go.Proofs.Tryz.func271.trans (congrArg some (by kernel_rfl)),
  f20 := Go.Proofs.Tryz.func272.trans (congrArg some (by kernel_rfl)),
  f30 := ⟨Go.Proofs.Tryz.f278.name, by decide, Go.Proofs.Tryz.func278.trans (congrArg some (by kernel_rfl))⟩,
  f31 := Go.Proofs.Tryz.func279.trans (congrArg some (by kernel_rfl)),
  f32 := Go.Proofs.Tryz.func280.trans (congrArg some (by kernel_rfl)),
  f33 := ⟨Go.Proofs.Tryz.f281.name, by decide, Go.Proofs.Tryz.func281.trans (congrArg some (by kernel_rfl))⟩,
  f34 := ⟨Go.Proofs.Tryz.f282.name, by decide, Go.Proofs.Tryz.func282.trans (congrArg some (by kernel_rfl))⟩,
  f35 := ⟨Go.Proofs.Tryz.f283.name, by decide, Go.Proofs.Tryz.func283.trans (congrArg some (by kernel_rfl))⟩,
  f40 := ⟨Go.Proofs.Tryz.f294.name, by decide, Go.Proofs.Tryz.func294.trans (congrArg some (by kernel_rfl))⟩,
  t0 := Go.Proofs.Tryz.underlying0,
  a0 := Go.Proofs.Tryz.isAgg0,
  z0 := Go.Proofs.Tryz.sizeOf0,
  v0 := Go.Proofs.Tryz.zeroValue0,
  t3 := Go.Proofs.Tryz.underlying3,
  a3 := Go.Proofs.Tryz.isAgg3,
  z3 := Go.Proofs.Tryz.sizeOf3,
  v3 := Go.Proofs.Tryz.zeroValue3,
  t4 := Go.Proofs.Tryz.underlying4,
  a4 := Go.Proofs.Tryz.isAgg4,
  z4 := Go.Proofs.Tryz.sizeOf4,
  v4 := Go.Proofs.Tryz.zeroValue4,
  t5 := Go.Proofs.Tryz.underlying5,
  a5 := Go.Proofs.Tryz.isAgg5,
  z5 := Go.Proofs.Tryz.sizeOf5,
  v5 := Go.Proofs.Tryz.zeroValue5,
  t9 := Go.Proofs.Tryz.underlying9,
  a9 := Go.Proofs.Tryz.isAgg9,
  z9 := Go.Proofs.Tryz.sizeOf9,
  v9 := Go.Proofs.Tryz.zeroValue9,
  t22 := Go.Proofs.Tryz.underlying62,
  a22 := Go.Proofs.Tryz.isAgg62,
  z22 := Go.Proofs.Tryz.sizeOf62,
  v22 := Go.Proofs.Tryz.zeroValue62,
  t23 := Go.Proofs.Tryz.underlying62,
  a23 := Go.Proofs.Tryz.isAgg62,
  z23 := Go.Proofs.Tryz.sizeOf62,
  v23 := Go.Proofs.Tryz.zeroValue62,
  t25 := Go.Proofs.Tryz.underlying2,
  a25 := Go.Proofs.Tryz.isAgg2,
  z25 := Go.Proofs.Tryz.sizeOf2,
  v25 := Go.Proofs.Tryz.zeroValue2,
  t32 := Go.Proofs.Tryz.underlying230,
  a32 := Go.Proofs.Tryz.isAgg230,
  z32 := Go.Proofs.Tryz.sizeOf230,
  v32 := Go.Proofs.Tryz.zeroValue230,
  t35 := Go.Proofs.Tryz.underlying293,
  a35 := Go.Proofs.Tryz.isAgg293,
  z35 := Go.Proofs.Tryz.sizeOf293,
  v35 := Go.Proofs.Tryz.zeroValue293,
  t36 := Go.Proofs.Tryz.underlying294,
  a36 := Go.Proofs.Tryz.isAgg294,
  z36 := Go.Proofs.Tryz.sizeOf294,
  v36 := Go.Proofs.Tryz.zeroValue294,
  t41 := Go.Proofs.Tryz.underlying299,
  a41 := Go.Proofs.Tryz.isAgg299,
  z41 := Go.Proofs.Tryz.sizeOf299,
  v41 := Go.Proofs.Tryz.zeroValue299,
  t44 := Go.Proofs.Tryz.underlying302,
  a44 := Go.Proofs.Tryz.isAgg302,
  z44 := Go.Proofs.Tryz.sizeOf302,
  v44 := Go.Proofs.Tryz.zeroValue302,
  t46 := Go.Proofs.Tryz.underlying304,
  a46 := Go.Proofs.Tryz.isAgg304,
  z46 := Go.Proofs.Tryz.sizeOf304,
  v46 := Go.Proofs.Tryz.zeroValue304,
  t53 := Go.Proofs.Tryz.underlying309,
  a53 := Go.Proofs.Tryz.isAgg309,
  z53 := Go.Proofs.Tryz.sizeOf309,
  v53 := Go.Proofs.Tryz.zeroValue309,
  t57 := Go.Proofs.Tryz.underlying313,
  a57 := Go.Proofs.Tryz.isAgg313,
  z57 := Go.Proofs.Tryz.sizeOf313,
  v57 := Go.Proofs.Tryz.zeroValue313,
  t63 := Go.Proofs.Tryz.underlying328,
  a63 := Go.Proofs.Tryz.isAgg328,
  z63 := Go.Proofs.Tryz.sizeOf328,
  v63 := Go.Proofs.Tryz.zeroValue328,
  t64 := Go.Proofs.Tryz.underlying329,
  a64 := Go.Proofs.Tryz.isAgg329,
  z64 := Go.Proofs.Tryz.sizeOf329,
  v64 := Go.Proofs.Tryz.zeroValue329 }

def con_sl_Sort_int64 : Con := ⟨false, g1 (pV (.sl (.int .i64)) (.ow .sh)) fun s => .one ⟨[Q_sl_Sort_int64 s], [], [.mv (.sl (.int .i64)) (.ow .sh) (B_sl_Sort_int64_s s)]⟩, [(.ow .sh)], false, 0⟩
theorem ok_sl_Sort_int64 : ConOk pg 221 con_sl_Sort_int64 := ok_sort laysSort (by rfl) (Enters.of (by kernel_rfl)) Q_sl_Sort_int64 B_sl_Sort_int64_s (fun xs h => h) (fun xs => rfl)
end Go.Vee
