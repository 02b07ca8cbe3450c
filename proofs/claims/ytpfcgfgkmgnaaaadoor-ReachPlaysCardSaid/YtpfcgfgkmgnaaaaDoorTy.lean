/-
  The shapes, sizes and zero values of the types of this program, and its functions, as instances. Written by a program of ours.
-/
import Derived.Test.YtpfcgfgkmgnaaaaDoorI
import Derived.Test.YtpfcgfgkmgnaaaaDoorProg
namespace Go.Proofs.YtpfcgfgkmgnaaaaDoor
open Go
theorem cal_of {P : Program} {f : FuncId} {fn : Func} (hf : P.funcs[f]? = some fn) (hn : (fn.name == "runtime.NumGoroutine") = false) (hb : fn.body.isNone = false) : Cal P f := ⟨fun args w => by
  have hn' : ¬ fn.name = "runtime.NumGoroutine" := by simpa using hn
  have hb' : ¬ fn.body = none := by intro h; rw [h] at hb; cases hb
  simp [callFunc, Sem.run_bind, Result.andThen, hf, hn', hb']⟩
instance : UL Tryd.prog 3 (TypeDesc.int IntKind.i64) := ⟨Tryd.underlying3⟩
instance : SZ Tryd.prog 3 1 := ⟨by kernel_rfl⟩
instance : BY Tryd.prog 3 8 := ⟨by kernel_rfl⟩
instance : ZC Tryd.prog 3 ([Value.int IntKind.i64 0]) := ⟨by kernel_rfl⟩
instance : UL Tryd.prog 4 (TypeDesc.bool) := ⟨Tryd.underlying4⟩
instance : SZ Tryd.prog 4 1 := ⟨by kernel_rfl⟩
instance : BY Tryd.prog 4 1 := ⟨by kernel_rfl⟩
instance : ZC Tryd.prog 4 ([Value.bool false]) := ⟨by kernel_rfl⟩
instance : UL Tryd.prog 5 (TypeDesc.int IntKind.u8) := ⟨Tryd.underlying5⟩
instance : SZ Tryd.prog 5 1 := ⟨by kernel_rfl⟩
instance : UL Tryd.prog 22 (TypeDesc.slice 34) := ⟨Tryd.underlying22⟩
instance : UL Tryd.prog 24 (TypeDesc.pointer 83) := ⟨Tryd.underlying24⟩
instance : SZ Tryd.prog 24 1 := ⟨by kernel_rfl⟩
instance : UL Tryd.prog 25 (TypeDesc.array 2 24) := ⟨Tryd.underlying25⟩
instance : ZC Tryd.prog 25 ([Value.pointer none, Value.pointer none]) := ⟨by kernel_rfl⟩
instance : UL Tryd.prog 26 (TypeDesc.slice 63) := ⟨Tryd.underlying26⟩
instance : SZ Tryd.prog 26 1 := ⟨by kernel_rfl⟩
instance : ZC Tryd.prog 26 ([Value.slice none 0 0]) := ⟨by kernel_rfl⟩
instance : UL Tryd.prog 28 (TypeDesc.struct #[{ name := "Side", type := 3, offset := 0, embedded := false, tag := "", pkgPath := "", byteOffset := 0 }, { name := "Cells", type := 26, offset := 1, embedded := false, tag := "", pkgPath := "", byteOffset := 8 }]) := ⟨Tryd.underlying28⟩
instance : SZ Tryd.prog 28 2 := ⟨by kernel_rfl⟩
instance : B0 Tryd.prog 28 ([Value.int IntKind.i64 0, Value.slice none 0 0]) := ⟨by kernel_rfl⟩
instance : ZC Tryd.prog 28 ([Value.int IntKind.i64 0, Value.slice none 0 0]) := ⟨by kernel_rfl⟩
instance : BLD Tryd.prog 28 [1, 1] := bld_of Tryd.underlying28 (ZC.out (P := Tryd.prog) (t := 28)) (by kernel_rfl) rfl
instance : FO Tryd.prog 28 0 0 := ⟨_, _, Tryd.underlying28, rfl, rfl, 0, by kernel_rfl⟩
instance : FO Tryd.prog 28 1 1 := ⟨_, _, Tryd.underlying28, rfl, rfl, 0, by kernel_rfl⟩
instance : UL Tryd.prog 30 (TypeDesc.struct #[{ name := "Steps", type := 28, offset := 0, embedded := false, tag := "", pkgPath := "", byteOffset := 0 }]) := ⟨Tryd.underlying30⟩
instance : SZ Tryd.prog 30 2 := ⟨by kernel_rfl⟩
instance : B0 Tryd.prog 30 ([Value.int IntKind.i64 0, Value.slice none 0 0]) := ⟨by kernel_rfl⟩
instance : ZC Tryd.prog 30 ([Value.int IntKind.i64 0, Value.slice none 0 0]) := ⟨by kernel_rfl⟩
instance : BLD Tryd.prog 30 [2] := bld_of Tryd.underlying30 (ZC.out (P := Tryd.prog) (t := 30)) (by kernel_rfl) rfl
instance : FO Tryd.prog 30 0 0 := ⟨_, _, Tryd.underlying30, rfl, rfl, 1, by kernel_rfl⟩
instance : UL Tryd.prog 31 (TypeDesc.array 2 30) := ⟨Tryd.underlying31⟩
instance : ZC Tryd.prog 31 ([Value.int IntKind.i64 0, Value.slice none 0 0, Value.int IntKind.i64 0, Value.slice none 0 0]) := ⟨by kernel_rfl⟩
instance : UL Tryd.prog 32 (TypeDesc.struct #[{ name := "Side", type := 3, offset := 0, embedded := false, tag := "", pkgPath := "", byteOffset := 0 }, { name := "Cells", type := 26, offset := 1, embedded := false, tag := "", pkgPath := "", byteOffset := 8 }]) := ⟨Tryd.underlying32⟩
instance : SZ Tryd.prog 32 2 := ⟨by kernel_rfl⟩
instance : FO Tryd.prog 32 0 0 := ⟨_, _, Tryd.underlying32, rfl, rfl, 0, by kernel_rfl⟩
instance : FO Tryd.prog 32 1 1 := ⟨_, _, Tryd.underlying32, rfl, rfl, 0, by kernel_rfl⟩
instance : UL Tryd.prog 34 (TypeDesc.struct #[{ name := "Do", type := 3, offset := 0, embedded := false, tag := "", pkgPath := "", byteOffset := 0 }, { name := "A", type := 3, offset := 1, embedded := false, tag := "", pkgPath := "", byteOffset := 8 }, { name := "B", type := 3, offset := 2, embedded := false, tag := "", pkgPath := "", byteOffset := 16 }, { name := "I", type := 3, offset := 3, embedded := false, tag := "", pkgPath := "", byteOffset := 24 }, { name := "J", type := 3, offset := 4, embedded := false, tag := "", pkgPath := "", byteOffset := 32 }, { name := "G", type := 32, offset := 5, embedded := false, tag := "", pkgPath := "", byteOffset := 40 }]) := ⟨Tryd.underlying34⟩
instance : SZ Tryd.prog 34 7 := ⟨by kernel_rfl⟩
instance : ZC Tryd.prog 34 ([Value.int IntKind.i64 0, Value.int IntKind.i64 0, Value.int IntKind.i64 0, Value.int IntKind.i64 0, Value.int IntKind.i64 0, Value.int IntKind.i64 0, Value.slice none 0 0]) := ⟨by kernel_rfl⟩
instance : FO Tryd.prog 34 0 0 := ⟨_, _, Tryd.underlying34, rfl, rfl, 0, by kernel_rfl⟩
instance : FO Tryd.prog 34 1 1 := ⟨_, _, Tryd.underlying34, rfl, rfl, 0, by kernel_rfl⟩
instance : FO Tryd.prog 34 2 2 := ⟨_, _, Tryd.underlying34, rfl, rfl, 0, by kernel_rfl⟩
instance : FO Tryd.prog 34 3 3 := ⟨_, _, Tryd.underlying34, rfl, rfl, 0, by kernel_rfl⟩
instance : FO Tryd.prog 34 4 4 := ⟨_, _, Tryd.underlying34, rfl, rfl, 0, by kernel_rfl⟩
instance : FO Tryd.prog 34 5 5 := ⟨_, _, Tryd.underlying34, rfl, rfl, 1, by kernel_rfl⟩
instance : UL Tryd.prog 35 (TypeDesc.pointer 99) := ⟨Tryd.underlying35⟩
instance : SZ Tryd.prog 35 1 := ⟨by kernel_rfl⟩
instance : ZC Tryd.prog 35 ([Value.pointer none]) := ⟨by kernel_rfl⟩
instance : UL Tryd.prog 63 (TypeDesc.struct #[{ name := "Row", type := 3, offset := 0, embedded := false, tag := "", pkgPath := "", byteOffset := 0 }, { name := "Col", type := 3, offset := 1, embedded := false, tag := "", pkgPath := "", byteOffset := 8 }]) := ⟨Tryd.underlying63⟩
instance : SZ Tryd.prog 63 2 := ⟨by kernel_rfl⟩
instance : BY Tryd.prog 63 16 := ⟨by kernel_rfl⟩
instance : EG Tryd.prog 63 := ⟨by kernel_rfl⟩
instance : SH Tryd.prog 63 := ⟨by kernel_rfl⟩
instance : ZC Tryd.prog 63 ([Value.int IntKind.i64 0, Value.int IntKind.i64 0]) := ⟨by kernel_rfl⟩
instance : BLD Tryd.prog 63 [1, 1] := bld_of Tryd.underlying63 (ZC.out (P := Tryd.prog) (t := 63)) (by kernel_rfl) rfl
instance : FO Tryd.prog 63 0 0 := ⟨_, _, Tryd.underlying63, rfl, rfl, 0, by kernel_rfl⟩
instance : FO Tryd.prog 63 1 1 := ⟨_, _, Tryd.underlying63, rfl, rfl, 0, by kernel_rfl⟩
instance : UL Tryd.prog 67 (TypeDesc.slice 3) := ⟨Tryd.underlying67⟩
instance : SZ Tryd.prog 67 1 := ⟨by kernel_rfl⟩
instance : BY Tryd.prog 67 24 := ⟨by kernel_rfl⟩
instance : ZC Tryd.prog 67 ([Value.slice none 0 0]) := ⟨by kernel_rfl⟩
instance : UL Tryd.prog 75 (TypeDesc.slice 4) := ⟨Tryd.underlying75⟩
instance : SZ Tryd.prog 75 1 := ⟨by kernel_rfl⟩
instance : BY Tryd.prog 75 24 := ⟨by kernel_rfl⟩
instance : ZC Tryd.prog 75 ([Value.slice none 0 0]) := ⟨by kernel_rfl⟩
instance : UL Tryd.prog 80 (TypeDesc.slice 75) := ⟨Tryd.underlying80⟩
instance : SZ Tryd.prog 80 1 := ⟨by kernel_rfl⟩
instance : FO Tryd.prog 83 0 0 := ⟨_, _, Tryd.underlying83, rfl, rfl, 0, by kernel_rfl⟩
instance : FO Tryd.prog 83 1 1 := ⟨_, _, Tryd.underlying83, rfl, rfl, 0, by kernel_rfl⟩
instance : FO Tryd.prog 83 2 2 := ⟨_, _, Tryd.underlying83, rfl, rfl, 0, by kernel_rfl⟩
instance : FO Tryd.prog 83 3 3 := ⟨_, _, Tryd.underlying83, rfl, rfl, 0, by kernel_rfl⟩
instance : UL Tryd.prog 92 (TypeDesc.func #[3, 3] #[4] false) := ⟨Tryd.underlying92⟩
instance : UL Tryd.prog 96 (TypeDesc.slice 128) := ⟨Tryd.underlying96⟩
instance : SZ Tryd.prog 96 1 := ⟨by kernel_rfl⟩
instance : UL Tryd.prog 97 (TypeDesc.slice 104) := ⟨Tryd.underlying97⟩
instance : SZ Tryd.prog 97 1 := ⟨by kernel_rfl⟩
instance : UL Tryd.prog 99 (TypeDesc.struct #[{ name := "side", type := 3, offset := 0, embedded := false, tag := "", pkgPath := "byway/quad", byteOffset := 0 }, { name := "depth", type := 3, offset := 1, embedded := false, tag := "", pkgPath := "byway/quad", byteOffset := 8 }, { name := "count", type := 3, offset := 2, embedded := false, tag := "", pkgPath := "byway/quad", byteOffset := 16 }, { name := "parts", type := 96, offset := 3, embedded := false, tag := "", pkgPath := "byway/quad", byteOffset := 24 }, { name := "leaves", type := 97, offset := 4, embedded := false, tag := "", pkgPath := "byway/quad", byteOffset := 48 }]) := ⟨Tryd.underlying99⟩
instance : SZ Tryd.prog 99 5 := ⟨by kernel_rfl⟩
instance : ZC Tryd.prog 99 ([Value.int IntKind.i64 0, Value.int IntKind.i64 0, Value.int IntKind.i64 0, Value.slice none 0 0, Value.slice none 0 0]) := ⟨by kernel_rfl⟩
instance : FO Tryd.prog 99 0 0 := ⟨_, _, Tryd.underlying99, rfl, rfl, 0, by kernel_rfl⟩
instance : FO Tryd.prog 99 1 1 := ⟨_, _, Tryd.underlying99, rfl, rfl, 0, by kernel_rfl⟩
instance : FO Tryd.prog 99 2 2 := ⟨_, _, Tryd.underlying99, rfl, rfl, 0, by kernel_rfl⟩
instance : FO Tryd.prog 99 3 3 := ⟨_, _, Tryd.underlying99, rfl, rfl, 0, by kernel_rfl⟩
instance : FO Tryd.prog 99 4 4 := ⟨_, _, Tryd.underlying99, rfl, rfl, 0, by kernel_rfl⟩
instance : UL Tryd.prog 101 (TypeDesc.slice 106) := ⟨Tryd.underlying101⟩
instance : SZ Tryd.prog 101 1 := ⟨by kernel_rfl⟩
instance : ZC Tryd.prog 101 ([Value.slice none 0 0]) := ⟨by kernel_rfl⟩
instance : UL Tryd.prog 102 (TypeDesc.int IntKind.u64) := ⟨Tryd.underlying102⟩
instance : SZ Tryd.prog 102 1 := ⟨by kernel_rfl⟩
instance : UL Tryd.prog 104 (TypeDesc.array 64 102) := ⟨Tryd.underlying104⟩
instance : SZ Tryd.prog 104 64 := ⟨by kernel_rfl⟩
instance : BY Tryd.prog 104 512 := ⟨by kernel_rfl⟩
instance : EG Tryd.prog 104 := ⟨by kernel_rfl⟩
instance : B0 Tryd.prog 104 (List.replicate 64 (Value.int IntKind.u64 0)) := ⟨by kernel_rfl⟩
instance : ZC Tryd.prog 104 (List.replicate 64 (Value.int IntKind.u64 0)) := ⟨by kernel_rfl⟩
instance : UL Tryd.prog 106 (TypeDesc.struct #[{ name := "at", type := 63, offset := 0, embedded := false, tag := "", pkgPath := "byway/quad", byteOffset := 0 }, { name := "b", type := 104, offset := 2, embedded := false, tag := "", pkgPath := "byway/quad", byteOffset := 16 }]) := ⟨Tryd.underlying106⟩
instance : SZ Tryd.prog 106 66 := ⟨by kernel_rfl⟩
instance : BY Tryd.prog 106 528 := ⟨by kernel_rfl⟩
instance : ZC Tryd.prog 106 (List.replicate 2 (Value.int IntKind.i64 0) ++ List.replicate 64 (Value.int IntKind.u64 0)) := ⟨by kernel_rfl⟩
instance : BLD Tryd.prog 106 [2, 64] := bld_of Tryd.underlying106 (ZC.out (P := Tryd.prog) (t := 106)) (by kernel_rfl) rfl
instance : FO Tryd.prog 106 0 0 := ⟨_, _, Tryd.underlying106, rfl, rfl, 1, by kernel_rfl⟩
instance : FO Tryd.prog 106 1 2 := ⟨_, _, Tryd.underlying106, rfl, rfl, 63, by kernel_rfl⟩
instance : UL Tryd.prog 114 (TypeDesc.func #[92] #[] false) := ⟨Tryd.underlying114⟩
instance : UL Tryd.prog 117 (TypeDesc.slice 67) := ⟨Tryd.underlying117⟩
instance : UL Tryd.prog 128 (TypeDesc.array 4 3) := ⟨Tryd.underlying128⟩
instance : SZ Tryd.prog 128 4 := ⟨by kernel_rfl⟩
instance : BY Tryd.prog 128 32 := ⟨by kernel_rfl⟩
instance : B0 Tryd.prog 128 ([Value.int IntKind.i64 0, Value.int IntKind.i64 0, Value.int IntKind.i64 0, Value.int IntKind.i64 0]) := ⟨by kernel_rfl⟩
instance : ZC Tryd.prog 128 ([Value.int IntKind.i64 0, Value.int IntKind.i64 0, Value.int IntKind.i64 0, Value.int IntKind.i64 0]) := ⟨by kernel_rfl⟩
instance : UL Tryd.prog 149 (TypeDesc.func #[3, 3, 3, 3] #[] false) := ⟨Tryd.underlying149⟩
instance : SZ Tryd.prog 149 1 := ⟨by kernel_rfl⟩
instance : ZC Tryd.prog 149 ([Value.nilFunc]) := ⟨by kernel_rfl⟩
instance : UL Tryd.prog 167 (TypeDesc.array 64 5) := ⟨Tryd.underlying167⟩
instance : Cal Tryd.prog 8 := cal_of Tryd.func8 (by kernel_rfl) (by kernel_rfl)
instance : Cal Tryd.prog 9 := cal_of Tryd.func9 (by kernel_rfl) (by kernel_rfl)
instance : Cal Tryd.prog 10 := cal_of Tryd.func10 (by kernel_rfl) (by kernel_rfl)
instance : Cal Tryd.prog 11 := cal_of Tryd.func11 (by kernel_rfl) (by kernel_rfl)
instance : Cal Tryd.prog 12 := cal_of Tryd.func12 (by kernel_rfl) (by kernel_rfl)
instance : Cal Tryd.prog 13 := cal_of Tryd.func13 (by kernel_rfl) (by kernel_rfl)
instance : Cal Tryd.prog 14 := cal_of Tryd.func14 (by kernel_rfl) (by kernel_rfl)
instance : Cal Tryd.prog 15 := cal_of Tryd.func15 (by kernel_rfl) (by kernel_rfl)
instance : Cal Tryd.prog 16 := cal_of Tryd.func16 (by kernel_rfl) (by kernel_rfl)
instance : Cal Tryd.prog 23 := cal_of Tryd.func23 (by kernel_rfl) (by kernel_rfl)
instance : Cal Tryd.prog 24 := cal_of Tryd.func24 (by kernel_rfl) (by kernel_rfl)
instance : Cal Tryd.prog 25 := cal_of Tryd.func25 (by kernel_rfl) (by kernel_rfl)
instance : Cal Tryd.prog 26 := cal_of Tryd.func26 (by kernel_rfl) (by kernel_rfl)
instance : Cal Tryd.prog 27 := cal_of Tryd.func27 (by kernel_rfl) (by kernel_rfl)
instance : Cal Tryd.prog 28 := cal_of Tryd.func28 (by kernel_rfl) (by kernel_rfl)
instance : Cal Tryd.prog 29 := cal_of Tryd.func29 (by kernel_rfl) (by kernel_rfl)
instance : Cal Tryd.prog 30 := cal_of Tryd.func30 (by kernel_rfl) (by kernel_rfl)
instance : Cal Tryd.prog 31 := cal_of Tryd.func31 (by kernel_rfl) (by kernel_rfl)
instance : Cal Tryd.prog 35 := cal_of Tryd.func35 (by kernel_rfl) (by kernel_rfl)
instance : Cal Tryd.prog 38 := cal_of Tryd.func38 (by kernel_rfl) (by kernel_rfl)
instance : Cal Tryd.prog 39 := cal_of Tryd.func39 (by kernel_rfl) (by kernel_rfl)
instance : Cal Tryd.prog 40 := cal_of Tryd.func40 (by kernel_rfl) (by kernel_rfl)
instance : Cal Tryd.prog 41 := cal_of Tryd.func41 (by kernel_rfl) (by kernel_rfl)
instance : Cal Tryd.prog 42 := cal_of Tryd.func42 (by kernel_rfl) (by kernel_rfl)
instance : Cal Tryd.prog 43 := cal_of Tryd.func43 (by kernel_rfl) (by kernel_rfl)
instance : Cal Tryd.prog 44 := cal_of Tryd.func44 (by kernel_rfl) (by kernel_rfl)
instance : Cal Tryd.prog 45 := cal_of Tryd.func45 (by kernel_rfl) (by kernel_rfl)
instance : Cal Tryd.prog 46 := cal_of Tryd.func46 (by kernel_rfl) (by kernel_rfl)
instance : Cal Tryd.prog 47 := cal_of Tryd.func47 (by kernel_rfl) (by kernel_rfl)
instance : Cal Tryd.prog 48 := cal_of Tryd.func48 (by kernel_rfl) (by kernel_rfl)
instance : Cal Tryd.prog 49 := cal_of Tryd.func49 (by kernel_rfl) (by kernel_rfl)
instance : Cal Tryd.prog 50 := cal_of Tryd.func50 (by kernel_rfl) (by kernel_rfl)
instance : Cal Tryd.prog 51 := cal_of Tryd.func51 (by kernel_rfl) (by kernel_rfl)
instance : Cal Tryd.prog 56 := cal_of Tryd.func56 (by kernel_rfl) (by kernel_rfl)
instance : Cal Tryd.prog 58 := cal_of Tryd.func58 (by kernel_rfl) (by kernel_rfl)
instance : Cal Tryd.prog 59 := cal_of Tryd.func59 (by kernel_rfl) (by kernel_rfl)
instance : Cal Tryd.prog 60 := cal_of Tryd.func60 (by kernel_rfl) (by kernel_rfl)
instance : Cal Tryd.prog 61 := cal_of Tryd.func61 (by kernel_rfl) (by kernel_rfl)
instance : Cal Tryd.prog 62 := cal_of Tryd.func62 (by kernel_rfl) (by kernel_rfl)
instance : Cal Tryd.prog 63 := cal_of Tryd.func63 (by kernel_rfl) (by kernel_rfl)
instance : Cal Tryd.prog 64 := cal_of Tryd.func64 (by kernel_rfl) (by kernel_rfl)
instance : Cal Tryd.prog 65 := cal_of Tryd.func65 (by kernel_rfl) (by kernel_rfl)
instance : Cal Tryd.prog 66 := cal_of Tryd.func66 (by kernel_rfl) (by kernel_rfl)
instance : Cal Tryd.prog 67 := cal_of Tryd.func67 (by kernel_rfl) (by kernel_rfl)
instance : Cal Tryd.prog 68 := cal_of Tryd.func68 (by kernel_rfl) (by kernel_rfl)
instance : Cal Tryd.prog 69 := cal_of Tryd.func69 (by kernel_rfl) (by kernel_rfl)
instance : Cal Tryd.prog 70 := cal_of Tryd.func70 (by kernel_rfl) (by kernel_rfl)
instance : Cal Tryd.prog 72 := cal_of Tryd.func72 (by kernel_rfl) (by kernel_rfl)
instance : Cal Tryd.prog 73 := cal_of Tryd.func73 (by kernel_rfl) (by kernel_rfl)
instance : Cal Tryd.prog 74 := cal_of Tryd.func74 (by kernel_rfl) (by kernel_rfl)
instance : Cal Tryd.prog 75 := cal_of Tryd.func75 (by kernel_rfl) (by kernel_rfl)
instance : Cal Tryd.prog 76 := cal_of Tryd.func76 (by kernel_rfl) (by kernel_rfl)
instance : Cal Tryd.prog 77 := cal_of Tryd.func77 (by kernel_rfl) (by kernel_rfl)
instance : Cal Tryd.prog 78 := cal_of Tryd.func78 (by kernel_rfl) (by kernel_rfl)
instance : Cal Tryd.prog 79 := cal_of Tryd.func79 (by kernel_rfl) (by kernel_rfl)
instance : Cal Tryd.prog 87 := cal_of Tryd.func87 (by kernel_rfl) (by kernel_rfl)
instance : Cal Tryd.prog 88 := cal_of Tryd.func88 (by kernel_rfl) (by kernel_rfl)
instance : Cal Tryd.prog 89 := cal_of Tryd.func89 (by kernel_rfl) (by kernel_rfl)
instance : Cal Tryd.prog 90 := cal_of Tryd.func90 (by kernel_rfl) (by kernel_rfl)
instance : Cal Tryd.prog 91 := cal_of Tryd.func91 (by kernel_rfl) (by kernel_rfl)
instance : Cal Tryd.prog 92 := cal_of Tryd.func92 (by kernel_rfl) (by kernel_rfl)
instance : Cal Tryd.prog 93 := cal_of Tryd.func93 (by kernel_rfl) (by kernel_rfl)
instance : Cal Tryd.prog 94 := cal_of Tryd.func94 (by kernel_rfl) (by kernel_rfl)
instance : Cal Tryd.prog 95 := cal_of Tryd.func95 (by kernel_rfl) (by kernel_rfl)
instance : Cal Tryd.prog 96 := cal_of Tryd.func96 (by kernel_rfl) (by kernel_rfl)
instance : Cal Tryd.prog 97 := cal_of Tryd.func97 (by kernel_rfl) (by kernel_rfl)
instance : Cal Tryd.prog 98 := cal_of Tryd.func98 (by kernel_rfl) (by kernel_rfl)
instance : Cal Tryd.prog 99 := cal_of Tryd.func99 (by kernel_rfl) (by kernel_rfl)
instance : Cal Tryd.prog 100 := cal_of Tryd.func100 (by kernel_rfl) (by kernel_rfl)
instance : Cal Tryd.prog 101 := cal_of Tryd.func101 (by kernel_rfl) (by kernel_rfl)
instance : Cal Tryd.prog 102 := cal_of Tryd.func102 (by kernel_rfl) (by kernel_rfl)
instance : Cal Tryd.prog 103 := cal_of Tryd.func103 (by kernel_rfl) (by kernel_rfl)
instance : Cal Tryd.prog 109 := cal_of Tryd.func109 (by kernel_rfl) (by kernel_rfl)
end Go.Proofs.YtpfcgfgkmgnaaaaDoor
