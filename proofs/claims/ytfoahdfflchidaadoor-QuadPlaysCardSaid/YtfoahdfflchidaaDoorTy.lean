/-
  The shapes, sizes and zero values of the types of this program, and its functions, as instances. Written by a program of ours.
-/
import Derived.Test.YtfoahdfflchidaaDoorI
import Derived.Test.YtfoahdfflchidaaDoorProg
namespace Go.Proofs.YtfoahdfflchidaaDoor
open Go
theorem cal_of {P : Program} {f : FuncId} {fn : Func} (hf : P.funcs[f]? = some fn) (hn : (fn.name == "runtime.NumGoroutine") = false) (hb : fn.body.isNone = false) : Cal P f := ⟨fun args w => by
  have hn' : ¬ fn.name = "runtime.NumGoroutine" := by simpa using hn
  have hb' : ¬ fn.body = none := by intro h; rw [h] at hb; cases hb
  simp [callFunc, Sem.run_bind, Result.andThen, hf, hn', hb']⟩
instance : UL Tryd.prog 3 (TypeDesc.int IntKind.i64) := ⟨Tryd.underlying3⟩
instance : SZ Tryd.prog 3 1 := ⟨by kernel_rfl⟩
instance : BY Tryd.prog 3 8 := ⟨by kernel_rfl⟩
instance : ZC Tryd.prog 3 ([Value.int IntKind.i64 0]) := ⟨by kernel_rfl⟩
instance : UL Tryd.prog 4 (TypeDesc.bool) := ⟨Tryd.underlying4⟩
instance : SZ Tryd.prog 4 1 := ⟨by kernel_rfl⟩
instance : ZC Tryd.prog 4 ([Value.bool false]) := ⟨by kernel_rfl⟩
instance : UL Tryd.prog 5 (TypeDesc.int IntKind.u8) := ⟨Tryd.underlying5⟩
instance : SZ Tryd.prog 5 1 := ⟨by kernel_rfl⟩
instance : UL Tryd.prog 22 (TypeDesc.slice 34) := ⟨Tryd.underlying22⟩
instance : SZ Tryd.prog 22 1 := ⟨by kernel_rfl⟩
instance : UL Tryd.prog 24 (TypeDesc.pointer 70) := ⟨Tryd.underlying24⟩
instance : SZ Tryd.prog 24 1 := ⟨by kernel_rfl⟩
instance : UL Tryd.prog 29 (TypeDesc.slice 3) := ⟨Tryd.underlying29⟩
instance : SZ Tryd.prog 29 1 := ⟨by kernel_rfl⟩
instance : ZC Tryd.prog 29 ([Value.slice none 0 0]) := ⟨by kernel_rfl⟩
instance : UL Tryd.prog 34 (TypeDesc.struct #[{ name := "Row", type := 3, offset := 0, embedded := false, tag := "", pkgPath := "", byteOffset := 0 }, { name := "Col", type := 3, offset := 1, embedded := false, tag := "", pkgPath := "", byteOffset := 8 }]) := ⟨Tryd.underlying34⟩
instance : SZ Tryd.prog 34 2 := ⟨by kernel_rfl⟩
instance : BY Tryd.prog 34 16 := ⟨by kernel_rfl⟩
instance : EG Tryd.prog 34 := ⟨by kernel_rfl⟩
instance : SH Tryd.prog 34 := ⟨by kernel_rfl⟩
instance : ZC Tryd.prog 34 ([Value.int IntKind.i64 0, Value.int IntKind.i64 0]) := ⟨by kernel_rfl⟩
instance : BLD Tryd.prog 34 [1, 1] := bld_of Tryd.underlying34 (ZC.out (P := Tryd.prog) (t := 34)) (by kernel_rfl) rfl
instance : FO Tryd.prog 34 0 0 := ⟨_, _, Tryd.underlying34, rfl, rfl, 0, by kernel_rfl⟩
instance : FO Tryd.prog 34 1 1 := ⟨_, _, Tryd.underlying34, rfl, rfl, 0, by kernel_rfl⟩
instance : UL Tryd.prog 42 (TypeDesc.func #[89] #[] false) := ⟨Tryd.underlying42⟩
instance : UL Tryd.prog 49 (TypeDesc.slice 55) := ⟨Tryd.underlying49⟩
instance : UL Tryd.prog 50 (TypeDesc.array 4 24) := ⟨Tryd.underlying50⟩
instance : ZC Tryd.prog 50 ([Value.pointer none, Value.pointer none, Value.pointer none, Value.pointer none]) := ⟨by kernel_rfl⟩
instance : UL Tryd.prog 52 (TypeDesc.struct #[{ name := "Side", type := 3, offset := 0, embedded := false, tag := "", pkgPath := "", byteOffset := 0 }, { name := "Cells", type := 22, offset := 1, embedded := false, tag := "", pkgPath := "", byteOffset := 8 }]) := ⟨Tryd.underlying52⟩
instance : SZ Tryd.prog 52 2 := ⟨by kernel_rfl⟩
instance : B0 Tryd.prog 52 ([Value.int IntKind.i64 0, Value.slice none 0 0]) := ⟨by kernel_rfl⟩
instance : ZC Tryd.prog 52 ([Value.int IntKind.i64 0, Value.slice none 0 0]) := ⟨by kernel_rfl⟩
instance : BLD Tryd.prog 52 [1, 1] := bld_of Tryd.underlying52 (ZC.out (P := Tryd.prog) (t := 52)) (by kernel_rfl) rfl
instance : FO Tryd.prog 52 0 0 := ⟨_, _, Tryd.underlying52, rfl, rfl, 0, by kernel_rfl⟩
instance : FO Tryd.prog 52 1 1 := ⟨_, _, Tryd.underlying52, rfl, rfl, 0, by kernel_rfl⟩
instance : UL Tryd.prog 53 (TypeDesc.array 4 52) := ⟨Tryd.underlying53⟩
instance : ZC Tryd.prog 53 ([Value.int IntKind.i64 0, Value.slice none 0 0, Value.int IntKind.i64 0, Value.slice none 0 0, Value.int IntKind.i64 0, Value.slice none 0 0, Value.int IntKind.i64 0, Value.slice none 0 0]) := ⟨by kernel_rfl⟩
instance : UL Tryd.prog 55 (TypeDesc.struct #[{ name := "Do", type := 3, offset := 0, embedded := false, tag := "", pkgPath := "", byteOffset := 0 }, { name := "A", type := 3, offset := 1, embedded := false, tag := "", pkgPath := "", byteOffset := 8 }, { name := "B", type := 3, offset := 2, embedded := false, tag := "", pkgPath := "", byteOffset := 16 }, { name := "I", type := 3, offset := 3, embedded := false, tag := "", pkgPath := "", byteOffset := 24 }, { name := "J", type := 3, offset := 4, embedded := false, tag := "", pkgPath := "", byteOffset := 32 }, { name := "Cells", type := 22, offset := 5, embedded := false, tag := "", pkgPath := "", byteOffset := 40 }]) := ⟨Tryd.underlying55⟩
instance : SZ Tryd.prog 55 6 := ⟨by kernel_rfl⟩
instance : ZC Tryd.prog 55 ([Value.int IntKind.i64 0, Value.int IntKind.i64 0, Value.int IntKind.i64 0, Value.int IntKind.i64 0, Value.int IntKind.i64 0, Value.slice none 0 0]) := ⟨by kernel_rfl⟩
instance : FO Tryd.prog 55 0 0 := ⟨_, _, Tryd.underlying55, rfl, rfl, 0, by kernel_rfl⟩
instance : FO Tryd.prog 55 1 1 := ⟨_, _, Tryd.underlying55, rfl, rfl, 0, by kernel_rfl⟩
instance : FO Tryd.prog 55 2 2 := ⟨_, _, Tryd.underlying55, rfl, rfl, 0, by kernel_rfl⟩
instance : FO Tryd.prog 55 3 3 := ⟨_, _, Tryd.underlying55, rfl, rfl, 0, by kernel_rfl⟩
instance : FO Tryd.prog 55 4 4 := ⟨_, _, Tryd.underlying55, rfl, rfl, 0, by kernel_rfl⟩
instance : FO Tryd.prog 55 5 5 := ⟨_, _, Tryd.underlying55, rfl, rfl, 0, by kernel_rfl⟩
instance : UL Tryd.prog 67 (TypeDesc.slice 93) := ⟨Tryd.underlying67⟩
instance : SZ Tryd.prog 67 1 := ⟨by kernel_rfl⟩
instance : UL Tryd.prog 68 (TypeDesc.slice 77) := ⟨Tryd.underlying68⟩
instance : SZ Tryd.prog 68 1 := ⟨by kernel_rfl⟩
instance : UL Tryd.prog 70 (TypeDesc.struct #[{ name := "side", type := 3, offset := 0, embedded := false, tag := "", pkgPath := "byway/quad", byteOffset := 0 }, { name := "depth", type := 3, offset := 1, embedded := false, tag := "", pkgPath := "byway/quad", byteOffset := 8 }, { name := "count", type := 3, offset := 2, embedded := false, tag := "", pkgPath := "byway/quad", byteOffset := 16 }, { name := "parts", type := 67, offset := 3, embedded := false, tag := "", pkgPath := "byway/quad", byteOffset := 24 }, { name := "leaves", type := 68, offset := 4, embedded := false, tag := "", pkgPath := "byway/quad", byteOffset := 48 }]) := ⟨Tryd.underlying70⟩
instance : SZ Tryd.prog 70 5 := ⟨by kernel_rfl⟩
instance : ZC Tryd.prog 70 ([Value.int IntKind.i64 0, Value.int IntKind.i64 0, Value.int IntKind.i64 0, Value.slice none 0 0, Value.slice none 0 0]) := ⟨by kernel_rfl⟩
instance : FO Tryd.prog 70 0 0 := ⟨_, _, Tryd.underlying70, rfl, rfl, 0, by kernel_rfl⟩
instance : FO Tryd.prog 70 1 1 := ⟨_, _, Tryd.underlying70, rfl, rfl, 0, by kernel_rfl⟩
instance : FO Tryd.prog 70 2 2 := ⟨_, _, Tryd.underlying70, rfl, rfl, 0, by kernel_rfl⟩
instance : FO Tryd.prog 70 3 3 := ⟨_, _, Tryd.underlying70, rfl, rfl, 0, by kernel_rfl⟩
instance : FO Tryd.prog 70 4 4 := ⟨_, _, Tryd.underlying70, rfl, rfl, 0, by kernel_rfl⟩
instance : UL Tryd.prog 73 (TypeDesc.int IntKind.u64) := ⟨Tryd.underlying73⟩
instance : SZ Tryd.prog 73 1 := ⟨by kernel_rfl⟩
instance : UL Tryd.prog 77 (TypeDesc.array 64 73) := ⟨Tryd.underlying77⟩
instance : SZ Tryd.prog 77 64 := ⟨by kernel_rfl⟩
instance : BY Tryd.prog 77 512 := ⟨by kernel_rfl⟩
instance : EG Tryd.prog 77 := ⟨by kernel_rfl⟩
instance : B0 Tryd.prog 77 (List.replicate 64 (Value.int IntKind.u64 0)) := ⟨by kernel_rfl⟩
instance : ZC Tryd.prog 77 (List.replicate 64 (Value.int IntKind.u64 0)) := ⟨by kernel_rfl⟩
instance : UL Tryd.prog 82 (TypeDesc.slice 84) := ⟨Tryd.underlying82⟩
instance : SZ Tryd.prog 82 1 := ⟨by kernel_rfl⟩
instance : ZC Tryd.prog 82 ([Value.slice none 0 0]) := ⟨by kernel_rfl⟩
instance : UL Tryd.prog 84 (TypeDesc.struct #[{ name := "at", type := 34, offset := 0, embedded := false, tag := "", pkgPath := "byway/quad", byteOffset := 0 }, { name := "b", type := 77, offset := 2, embedded := false, tag := "", pkgPath := "byway/quad", byteOffset := 16 }]) := ⟨Tryd.underlying84⟩
instance : SZ Tryd.prog 84 66 := ⟨by kernel_rfl⟩
instance : BY Tryd.prog 84 528 := ⟨by kernel_rfl⟩
instance : EG Tryd.prog 84 := ⟨by kernel_rfl⟩
instance : SH Tryd.prog 84 := ⟨by kernel_rfl⟩
instance : ZC Tryd.prog 84 (List.replicate 2 (Value.int IntKind.i64 0) ++ List.replicate 64 (Value.int IntKind.u64 0)) := ⟨by kernel_rfl⟩
instance : BLD Tryd.prog 84 [2, 64] := bld_of Tryd.underlying84 (ZC.out (P := Tryd.prog) (t := 84)) (by kernel_rfl) rfl
instance : FO Tryd.prog 84 0 0 := ⟨_, _, Tryd.underlying84, rfl, rfl, 1, by kernel_rfl⟩
instance : FO Tryd.prog 84 1 2 := ⟨_, _, Tryd.underlying84, rfl, rfl, 63, by kernel_rfl⟩
instance : UL Tryd.prog 89 (TypeDesc.func #[3, 3] #[4] false) := ⟨Tryd.underlying89⟩
instance : UL Tryd.prog 93 (TypeDesc.array 4 3) := ⟨Tryd.underlying93⟩
instance : SZ Tryd.prog 93 4 := ⟨by kernel_rfl⟩
instance : BY Tryd.prog 93 32 := ⟨by kernel_rfl⟩
instance : B0 Tryd.prog 93 ([Value.int IntKind.i64 0, Value.int IntKind.i64 0, Value.int IntKind.i64 0, Value.int IntKind.i64 0]) := ⟨by kernel_rfl⟩
instance : ZC Tryd.prog 93 ([Value.int IntKind.i64 0, Value.int IntKind.i64 0, Value.int IntKind.i64 0, Value.int IntKind.i64 0]) := ⟨by kernel_rfl⟩
instance : UL Tryd.prog 118 (TypeDesc.func #[3, 3, 3, 3] #[] false) := ⟨Tryd.underlying118⟩
instance : SZ Tryd.prog 118 1 := ⟨by kernel_rfl⟩
instance : ZC Tryd.prog 118 ([Value.nilFunc]) := ⟨by kernel_rfl⟩
instance : UL Tryd.prog 119 (TypeDesc.int IntKind.u64) := ⟨Tryd.underlying119⟩
instance : UL Tryd.prog 128 (TypeDesc.slice 134) := ⟨Tryd.underlying128⟩
instance : SZ Tryd.prog 128 1 := ⟨by kernel_rfl⟩
instance : ZC Tryd.prog 128 ([Value.slice none 0 0]) := ⟨by kernel_rfl⟩
instance : UL Tryd.prog 131 (TypeDesc.func #[140] #[] false) := ⟨Tryd.underlying131⟩
instance : SZ Tryd.prog 134 66 := ⟨by kernel_rfl⟩
instance : BY Tryd.prog 134 528 := ⟨by kernel_rfl⟩
instance : ZC Tryd.prog 134 (List.replicate 2 (Value.int IntKind.i64 0) ++ List.replicate 64 (Value.int IntKind.u64 0)) := ⟨by kernel_rfl⟩
instance : BLD Tryd.prog 134 [2, 64] := bld_of Tryd.underlying134 (ZC.out (P := Tryd.prog) (t := 134)) (by kernel_rfl) rfl
instance : FO Tryd.prog 134 0 0 := ⟨_, _, Tryd.underlying134, rfl, rfl, 1, by kernel_rfl⟩
instance : FO Tryd.prog 134 1 2 := ⟨_, _, Tryd.underlying134, rfl, rfl, 63, by kernel_rfl⟩
instance : UL Tryd.prog 135 (TypeDesc.array 64 5) := ⟨Tryd.underlying135⟩
instance : Cal Tryd.prog 9 := cal_of Tryd.func9 (by kernel_rfl) (by kernel_rfl)
instance : Cal Tryd.prog 10 := cal_of Tryd.func10 (by kernel_rfl) (by kernel_rfl)
instance : Cal Tryd.prog 12 := cal_of Tryd.func12 (by kernel_rfl) (by kernel_rfl)
instance : Cal Tryd.prog 13 := cal_of Tryd.func13 (by kernel_rfl) (by kernel_rfl)
instance : Cal Tryd.prog 14 := cal_of Tryd.func14 (by kernel_rfl) (by kernel_rfl)
instance : Cal Tryd.prog 15 := cal_of Tryd.func15 (by kernel_rfl) (by kernel_rfl)
instance : Cal Tryd.prog 16 := cal_of Tryd.func16 (by kernel_rfl) (by kernel_rfl)
instance : Cal Tryd.prog 17 := cal_of Tryd.func17 (by kernel_rfl) (by kernel_rfl)
instance : Cal Tryd.prog 18 := cal_of Tryd.func18 (by kernel_rfl) (by kernel_rfl)
instance : Cal Tryd.prog 19 := cal_of Tryd.func19 (by kernel_rfl) (by kernel_rfl)
instance : Cal Tryd.prog 20 := cal_of Tryd.func20 (by kernel_rfl) (by kernel_rfl)
instance : Cal Tryd.prog 21 := cal_of Tryd.func21 (by kernel_rfl) (by kernel_rfl)
instance : Cal Tryd.prog 22 := cal_of Tryd.func22 (by kernel_rfl) (by kernel_rfl)
instance : Cal Tryd.prog 23 := cal_of Tryd.func23 (by kernel_rfl) (by kernel_rfl)
instance : Cal Tryd.prog 24 := cal_of Tryd.func24 (by kernel_rfl) (by kernel_rfl)
instance : Cal Tryd.prog 25 := cal_of Tryd.func25 (by kernel_rfl) (by kernel_rfl)
instance : Cal Tryd.prog 26 := cal_of Tryd.func26 (by kernel_rfl) (by kernel_rfl)
instance : Cal Tryd.prog 27 := cal_of Tryd.func27 (by kernel_rfl) (by kernel_rfl)
instance : Cal Tryd.prog 28 := cal_of Tryd.func28 (by kernel_rfl) (by kernel_rfl)
instance : Cal Tryd.prog 29 := cal_of Tryd.func29 (by kernel_rfl) (by kernel_rfl)
instance : Cal Tryd.prog 30 := cal_of Tryd.func30 (by kernel_rfl) (by kernel_rfl)
instance : Cal Tryd.prog 31 := cal_of Tryd.func31 (by kernel_rfl) (by kernel_rfl)
instance : Cal Tryd.prog 32 := cal_of Tryd.func32 (by kernel_rfl) (by kernel_rfl)
instance : Cal Tryd.prog 33 := cal_of Tryd.func33 (by kernel_rfl) (by kernel_rfl)
instance : Cal Tryd.prog 34 := cal_of Tryd.func34 (by kernel_rfl) (by kernel_rfl)
instance : Cal Tryd.prog 35 := cal_of Tryd.func35 (by kernel_rfl) (by kernel_rfl)
instance : Cal Tryd.prog 36 := cal_of Tryd.func36 (by kernel_rfl) (by kernel_rfl)
instance : Cal Tryd.prog 37 := cal_of Tryd.func37 (by kernel_rfl) (by kernel_rfl)
instance : Cal Tryd.prog 38 := cal_of Tryd.func38 (by kernel_rfl) (by kernel_rfl)
instance : Cal Tryd.prog 39 := cal_of Tryd.func39 (by kernel_rfl) (by kernel_rfl)
instance : Cal Tryd.prog 40 := cal_of Tryd.func40 (by kernel_rfl) (by kernel_rfl)
instance : Cal Tryd.prog 41 := cal_of Tryd.func41 (by kernel_rfl) (by kernel_rfl)
instance : Cal Tryd.prog 42 := cal_of Tryd.func42 (by kernel_rfl) (by kernel_rfl)
instance : Cal Tryd.prog 43 := cal_of Tryd.func43 (by kernel_rfl) (by kernel_rfl)
instance : Cal Tryd.prog 44 := cal_of Tryd.func44 (by kernel_rfl) (by kernel_rfl)
instance : Cal Tryd.prog 45 := cal_of Tryd.func45 (by kernel_rfl) (by kernel_rfl)
instance : Cal Tryd.prog 46 := cal_of Tryd.func46 (by kernel_rfl) (by kernel_rfl)
instance : Cal Tryd.prog 47 := cal_of Tryd.func47 (by kernel_rfl) (by kernel_rfl)
instance : Cal Tryd.prog 48 := cal_of Tryd.func48 (by kernel_rfl) (by kernel_rfl)
instance : Cal Tryd.prog 49 := cal_of Tryd.func49 (by kernel_rfl) (by kernel_rfl)
instance : Cal Tryd.prog 50 := cal_of Tryd.func50 (by kernel_rfl) (by kernel_rfl)
instance : Cal Tryd.prog 51 := cal_of Tryd.func51 (by kernel_rfl) (by kernel_rfl)
instance : Cal Tryd.prog 52 := cal_of Tryd.func52 (by kernel_rfl) (by kernel_rfl)
instance : Cal Tryd.prog 53 := cal_of Tryd.func53 (by kernel_rfl) (by kernel_rfl)
instance : Cal Tryd.prog 54 := cal_of Tryd.func54 (by kernel_rfl) (by kernel_rfl)
instance : Cal Tryd.prog 55 := cal_of Tryd.func55 (by kernel_rfl) (by kernel_rfl)
instance : Cal Tryd.prog 56 := cal_of Tryd.func56 (by kernel_rfl) (by kernel_rfl)
instance : Cal Tryd.prog 57 := cal_of Tryd.func57 (by kernel_rfl) (by kernel_rfl)
instance : Cal Tryd.prog 58 := cal_of Tryd.func58 (by kernel_rfl) (by kernel_rfl)
instance : Cal Tryd.prog 59 := cal_of Tryd.func59 (by kernel_rfl) (by kernel_rfl)
instance : Cal Tryd.prog 60 := cal_of Tryd.func60 (by kernel_rfl) (by kernel_rfl)
instance : Cal Tryd.prog 61 := cal_of Tryd.func61 (by kernel_rfl) (by kernel_rfl)
instance : Cal Tryd.prog 62 := cal_of Tryd.func62 (by kernel_rfl) (by kernel_rfl)
instance : Cal Tryd.prog 63 := cal_of Tryd.func63 (by kernel_rfl) (by kernel_rfl)
instance : Cal Tryd.prog 64 := cal_of Tryd.func64 (by kernel_rfl) (by kernel_rfl)
instance : Cal Tryd.prog 65 := cal_of Tryd.func65 (by kernel_rfl) (by kernel_rfl)
instance : Cal Tryd.prog 66 := cal_of Tryd.func66 (by kernel_rfl) (by kernel_rfl)
instance : Cal Tryd.prog 67 := cal_of Tryd.func67 (by kernel_rfl) (by kernel_rfl)
instance : Cal Tryd.prog 68 := cal_of Tryd.func68 (by kernel_rfl) (by kernel_rfl)
instance : Cal Tryd.prog 69 := cal_of Tryd.func69 (by kernel_rfl) (by kernel_rfl)
instance : Cal Tryd.prog 70 := cal_of Tryd.func70 (by kernel_rfl) (by kernel_rfl)
instance : Cal Tryd.prog 71 := cal_of Tryd.func71 (by kernel_rfl) (by kernel_rfl)
instance : Cal Tryd.prog 72 := cal_of Tryd.func72 (by kernel_rfl) (by kernel_rfl)
instance : Cal Tryd.prog 73 := cal_of Tryd.func73 (by kernel_rfl) (by kernel_rfl)
instance : Cal Tryd.prog 74 := cal_of Tryd.func74 (by kernel_rfl) (by kernel_rfl)
instance : Cal Tryd.prog 75 := cal_of Tryd.func75 (by kernel_rfl) (by kernel_rfl)
instance : Cal Tryd.prog 76 := cal_of Tryd.func76 (by kernel_rfl) (by kernel_rfl)
instance : Cal Tryd.prog 77 := cal_of Tryd.func77 (by kernel_rfl) (by kernel_rfl)
instance : Cal Tryd.prog 78 := cal_of Tryd.func78 (by kernel_rfl) (by kernel_rfl)
instance : Cal Tryd.prog 79 := cal_of Tryd.func79 (by kernel_rfl) (by kernel_rfl)
instance : Cal Tryd.prog 80 := cal_of Tryd.func80 (by kernel_rfl) (by kernel_rfl)
instance : Cal Tryd.prog 81 := cal_of Tryd.func81 (by kernel_rfl) (by kernel_rfl)
instance : Cal Tryd.prog 82 := cal_of Tryd.func82 (by kernel_rfl) (by kernel_rfl)
instance : Cal Tryd.prog 83 := cal_of Tryd.func83 (by kernel_rfl) (by kernel_rfl)
instance : Cal Tryd.prog 84 := cal_of Tryd.func84 (by kernel_rfl) (by kernel_rfl)
instance : Cal Tryd.prog 87 := cal_of Tryd.func87 (by kernel_rfl) (by kernel_rfl)
instance : Cal Tryd.prog 88 := cal_of Tryd.func88 (by kernel_rfl) (by kernel_rfl)
instance : Cal Tryd.prog 89 := cal_of Tryd.func89 (by kernel_rfl) (by kernel_rfl)
instance : Cal Tryd.prog 90 := cal_of Tryd.func90 (by kernel_rfl) (by kernel_rfl)
end Go.Proofs.YtfoahdfflchidaaDoor
