/-
  The shapes, sizes and zero values of the types of this program, and its functions, as instances. Written by a program of ours.
-/
import Derived.Test.YtbconcohpfkncaaGreatI
import Derived.Test.YtbconcohpfkncaaGreatProg
namespace Go.Proofs.YtbconcohpfkncaaGreat
open Go
theorem cal_of {P : Program} {f : FuncId} {fn : Func} (hf : P.funcs[f]? = some fn) (hn : (fn.name == "runtime.NumGoroutine") = false) (hb : fn.body.isNone = false) : Cal P f := ⟨fun args w => by
  have hn' : ¬ fn.name = "runtime.NumGoroutine" := by simpa using hn
  have hb' : ¬ fn.body = none := by intro h; rw [h] at hb; cases hb
  simp [callFunc, Sem.run_bind, Result.andThen, hf, hn', hb']⟩
instance : UL Tryz.prog 3 (TypeDesc.int IntKind.i64) := ⟨Tryz.underlying3⟩
instance : SZ Tryz.prog 3 1 := ⟨by kernel_rfl⟩
instance : BY Tryz.prog 3 8 := ⟨by kernel_rfl⟩
instance : ZC Tryz.prog 3 ([Value.int IntKind.i64 0]) := ⟨by kernel_rfl⟩
instance : UL Tryz.prog 4 (TypeDesc.bool) := ⟨Tryz.underlying4⟩
instance : SZ Tryz.prog 4 1 := ⟨by kernel_rfl⟩
instance : BY Tryz.prog 4 1 := ⟨by kernel_rfl⟩
instance : ZC Tryz.prog 4 ([Value.bool false]) := ⟨by kernel_rfl⟩
instance : SZ Tryz.prog 5 1 := ⟨by kernel_rfl⟩
instance : BY Tryz.prog 5 1 := ⟨by kernel_rfl⟩
instance : ZC Tryz.prog 5 ([Value.int IntKind.u8 0]) := ⟨by kernel_rfl⟩
instance : UL Tryz.prog 9 (TypeDesc.string) := ⟨Tryz.underlying9⟩
instance : SZ Tryz.prog 9 1 := ⟨by kernel_rfl⟩
instance : BY Tryz.prog 9 16 := ⟨by kernel_rfl⟩
instance : ZC Tryz.prog 9 ([Value.string { data := #[] }]) := ⟨by kernel_rfl⟩
instance : UL Tryz.prog 20 (TypeDesc.interface #[]) := ⟨Tryz.underlying20⟩
instance : UL Tryz.prog 22 (TypeDesc.slice 9) := ⟨Tryz.underlying22⟩
instance : SZ Tryz.prog 22 1 := ⟨by kernel_rfl⟩
instance : UL Tryz.prog 23 (TypeDesc.slice 74) := ⟨Tryz.underlying23⟩
instance : SZ Tryz.prog 23 1 := ⟨by kernel_rfl⟩
instance : ZC Tryz.prog 23 ([Value.slice none 0 0]) := ⟨by kernel_rfl⟩
instance : UL Tryz.prog 24 (TypeDesc.int IntKind.i64) := ⟨Tryz.underlying24⟩
instance : SZ Tryz.prog 24 1 := ⟨by kernel_rfl⟩
instance : ZC Tryz.prog 24 ([Value.int IntKind.i64 0]) := ⟨by kernel_rfl⟩
instance : UL Tryz.prog 28 (TypeDesc.pointer 66) := ⟨Tryz.underlying28⟩
instance : UL Tryz.prog 32 (TypeDesc.slice 72) := ⟨Tryz.underlying32⟩
instance : SZ Tryz.prog 32 1 := ⟨by kernel_rfl⟩
instance : UL Tryz.prog 35 (TypeDesc.slice 39) := ⟨Tryz.underlying35⟩
instance : UL Tryz.prog 39 (TypeDesc.slice 78) := ⟨Tryz.underlying39⟩
instance : SZ Tryz.prog 39 1 := ⟨by kernel_rfl⟩
instance : BY Tryz.prog 39 24 := ⟨by kernel_rfl⟩
instance : ZC Tryz.prog 39 ([Value.slice none 0 0]) := ⟨by kernel_rfl⟩
instance : UL Tryz.prog 40 (TypeDesc.slice 3) := ⟨Tryz.underlying40⟩
instance : SZ Tryz.prog 40 1 := ⟨by kernel_rfl⟩
instance : ZC Tryz.prog 40 ([Value.slice none 0 0]) := ⟨by kernel_rfl⟩
instance : UL Tryz.prog 41 (TypeDesc.slice 85) := ⟨Tryz.underlying41⟩
instance : SZ Tryz.prog 41 1 := ⟨by kernel_rfl⟩
instance : UL Tryz.prog 43 (TypeDesc.struct #[{ name := "States", type := 3, offset := 0, embedded := false, tag := "", pkgPath := "", byteOffset := 0 }, { name := "Finals", type := 40, offset := 1, embedded := false, tag := "", pkgPath := "", byteOffset := 8 }, { name := "Arcs", type := 41, offset := 2, embedded := false, tag := "", pkgPath := "", byteOffset := 32 }]) := ⟨Tryz.underlying43⟩
instance : SZ Tryz.prog 43 3 := ⟨by kernel_rfl⟩
instance : ZC Tryz.prog 43 ([Value.int IntKind.i64 0, Value.slice none 0 0, Value.slice none 0 0]) := ⟨by kernel_rfl⟩
instance : BLD Tryz.prog 43 [1, 1, 1] := bld_of Tryz.underlying43 (ZC.out (P := Tryz.prog) (t := 43)) (by kernel_rfl) rfl
instance : FO Tryz.prog 43 0 0 := ⟨_, _, Tryz.underlying43, rfl, rfl, 0, by kernel_rfl⟩
instance : FO Tryz.prog 43 1 1 := ⟨_, _, Tryz.underlying43, rfl, rfl, 0, by kernel_rfl⟩
instance : FO Tryz.prog 43 2 2 := ⟨_, _, Tryz.underlying43, rfl, rfl, 0, by kernel_rfl⟩
instance : UL Tryz.prog 49 (TypeDesc.struct #[{ name := "at", type := 3, offset := 0, embedded := false, tag := "", pkgPath := "byway/bnf", byteOffset := 0 }]) := ⟨Tryz.underlying49⟩
instance : SZ Tryz.prog 49 1 := ⟨by kernel_rfl⟩
instance : ZC Tryz.prog 49 ([Value.int IntKind.i64 0]) := ⟨by kernel_rfl⟩
instance : BLD Tryz.prog 49 [1] := bld_of Tryz.underlying49 (ZC.out (P := Tryz.prog) (t := 49)) (by kernel_rfl) rfl
instance : FO Tryz.prog 49 0 0 := ⟨_, _, Tryz.underlying49, rfl, rfl, 0, by kernel_rfl⟩
instance : UL Tryz.prog 51 (TypeDesc.slice 95) := ⟨Tryz.underlying51⟩
instance : SZ Tryz.prog 51 1 := ⟨by kernel_rfl⟩
instance : ZC Tryz.prog 51 ([Value.slice none 0 0]) := ⟨by kernel_rfl⟩
instance : FO Tryz.prog 56 0 0 := ⟨_, _, Tryz.underlying56, rfl, rfl, 0, by kernel_rfl⟩
instance : FO Tryz.prog 56 1 1 := ⟨_, _, Tryz.underlying56, rfl, rfl, 0, by kernel_rfl⟩
instance : FO Tryz.prog 56 2 2 := ⟨_, _, Tryz.underlying56, rfl, rfl, 0, by kernel_rfl⟩
instance : FO Tryz.prog 56 3 3 := ⟨_, _, Tryz.underlying56, rfl, rfl, 0, by kernel_rfl⟩
instance : UL Tryz.prog 58 (TypeDesc.func #[23] #[4] false) := ⟨Tryz.underlying58⟩
instance : UL Tryz.prog 61 (TypeDesc.pointer 110) := ⟨Tryz.underlying61⟩
instance : UL Tryz.prog 64 (TypeDesc.slice 69) := ⟨Tryz.underlying64⟩
instance : SZ Tryz.prog 64 1 := ⟨by kernel_rfl⟩
instance : FO Tryz.prog 66 0 0 := ⟨_, _, Tryz.underlying66, rfl, rfl, 0, by kernel_rfl⟩
instance : FO Tryz.prog 66 1 1 := ⟨_, _, Tryz.underlying66, rfl, rfl, 0, by kernel_rfl⟩
instance : FO Tryz.prog 66 2 2 := ⟨_, _, Tryz.underlying66, rfl, rfl, 0, by kernel_rfl⟩
instance : SZ Tryz.prog 69 4 := ⟨by kernel_rfl⟩
instance : BY Tryz.prog 69 64 := ⟨by kernel_rfl⟩
instance : ZC Tryz.prog 69 ([Value.int IntKind.i64 0, Value.slice none 0 0, Value.slice none 0 0, Value.int IntKind.i64 0]) := ⟨by kernel_rfl⟩
instance : BLD Tryz.prog 69 [3, 1] := bld_of Tryz.underlying69 (ZC.out (P := Tryz.prog) (t := 69)) (by kernel_rfl) rfl
instance : FO Tryz.prog 69 0 0 := ⟨_, _, Tryz.underlying69, rfl, rfl, 2, by kernel_rfl⟩
instance : FO Tryz.prog 69 1 3 := ⟨_, _, Tryz.underlying69, rfl, rfl, 0, by kernel_rfl⟩
instance : UL Tryz.prog 72 (TypeDesc.struct #[{ name := "Label", type := 4, offset := 0, embedded := false, tag := "", pkgPath := "", byteOffset := 0 }, { name := "N", type := 3, offset := 1, embedded := false, tag := "", pkgPath := "", byteOffset := 8 }]) := ⟨Tryz.underlying72⟩
instance : SZ Tryz.prog 72 2 := ⟨by kernel_rfl⟩
instance : BY Tryz.prog 72 16 := ⟨by kernel_rfl⟩
instance : EG Tryz.prog 72 := ⟨by kernel_rfl⟩
instance : SH Tryz.prog 72 := ⟨by kernel_rfl⟩
instance : B0 Tryz.prog 72 ([Value.bool false, Value.int IntKind.i64 0]) := ⟨by kernel_rfl⟩
instance : ZC Tryz.prog 72 ([Value.bool false, Value.int IntKind.i64 0]) := ⟨by kernel_rfl⟩
instance : BLD Tryz.prog 72 [1, 1] := bld_of Tryz.underlying72 (ZC.out (P := Tryz.prog) (t := 72)) (by kernel_rfl) rfl
instance : FO Tryz.prog 72 0 0 := ⟨_, _, Tryz.underlying72, rfl, rfl, 0, by kernel_rfl⟩
instance : FO Tryz.prog 72 1 1 := ⟨_, _, Tryz.underlying72, rfl, rfl, 0, by kernel_rfl⟩
instance : UL Tryz.prog 74 (TypeDesc.struct #[{ name := "Head", type := 9, offset := 0, embedded := false, tag := "", pkgPath := "", byteOffset := 0 }, { name := "Body", type := 39, offset := 1, embedded := false, tag := "", pkgPath := "", byteOffset := 16 }]) := ⟨Tryz.underlying74⟩
instance : SZ Tryz.prog 74 2 := ⟨by kernel_rfl⟩
instance : BY Tryz.prog 74 40 := ⟨by kernel_rfl⟩
instance : ZC Tryz.prog 74 ([Value.string { data := #[] }, Value.slice none 0 0]) := ⟨by kernel_rfl⟩
instance : BLD Tryz.prog 74 [1, 1] := bld_of Tryz.underlying74 (ZC.out (P := Tryz.prog) (t := 74)) (by kernel_rfl) rfl
instance : FO Tryz.prog 74 0 0 := ⟨_, _, Tryz.underlying74, rfl, rfl, 0, by kernel_rfl⟩
instance : FO Tryz.prog 74 1 1 := ⟨_, _, Tryz.underlying74, rfl, rfl, 0, by kernel_rfl⟩
instance : UL Tryz.prog 76 (TypeDesc.int IntKind.i64) := ⟨Tryz.underlying76⟩
instance : UL Tryz.prog 78 (TypeDesc.struct #[{ name := "Kind", type := 76, offset := 0, embedded := false, tag := "", pkgPath := "", byteOffset := 0 }, { name := "Name", type := 9, offset := 1, embedded := false, tag := "", pkgPath := "", byteOffset := 8 }, { name := "Kids", type := 3, offset := 2, embedded := false, tag := "", pkgPath := "", byteOffset := 24 }]) := ⟨Tryz.underlying78⟩
instance : SZ Tryz.prog 78 3 := ⟨by kernel_rfl⟩
instance : BY Tryz.prog 78 32 := ⟨by kernel_rfl⟩
instance : ZC Tryz.prog 78 ([Value.int IntKind.i64 0, Value.string { data := #[] }, Value.int IntKind.i64 0]) := ⟨by kernel_rfl⟩
instance : FO Tryz.prog 78 0 0 := ⟨_, _, Tryz.underlying78, rfl, rfl, 0, by kernel_rfl⟩
instance : FO Tryz.prog 78 1 1 := ⟨_, _, Tryz.underlying78, rfl, rfl, 0, by kernel_rfl⟩
instance : FO Tryz.prog 78 2 2 := ⟨_, _, Tryz.underlying78, rfl, rfl, 0, by kernel_rfl⟩
instance : UL Tryz.prog 80 (TypeDesc.slice 4) := ⟨Tryz.underlying80⟩
instance : SZ Tryz.prog 80 1 := ⟨by kernel_rfl⟩
instance : ZC Tryz.prog 80 ([Value.slice none 0 0]) := ⟨by kernel_rfl⟩
instance : UL Tryz.prog 85 (TypeDesc.struct #[{ name := "From", type := 3, offset := 0, embedded := false, tag := "", pkgPath := "", byteOffset := 0 }, { name := "Sym", type := 72, offset := 1, embedded := false, tag := "", pkgPath := "", byteOffset := 8 }, { name := "To", type := 3, offset := 3, embedded := false, tag := "", pkgPath := "", byteOffset := 24 }]) := ⟨Tryz.underlying85⟩
instance : SZ Tryz.prog 85 4 := ⟨by kernel_rfl⟩
instance : BY Tryz.prog 85 32 := ⟨by kernel_rfl⟩
instance : EG Tryz.prog 85 := ⟨by kernel_rfl⟩
instance : SH Tryz.prog 85 := ⟨by kernel_rfl⟩
instance : ZC Tryz.prog 85 ([Value.int IntKind.i64 0, Value.bool false, Value.int IntKind.i64 0, Value.int IntKind.i64 0]) := ⟨by kernel_rfl⟩
instance : BLD Tryz.prog 85 [1, 2, 1] := bld_of Tryz.underlying85 (ZC.out (P := Tryz.prog) (t := 85)) (by kernel_rfl) rfl
instance : FO Tryz.prog 85 0 0 := ⟨_, _, Tryz.underlying85, rfl, rfl, 0, by kernel_rfl⟩
instance : FO Tryz.prog 85 1 1 := ⟨_, _, Tryz.underlying85, rfl, rfl, 1, by kernel_rfl⟩
instance : FO Tryz.prog 85 2 3 := ⟨_, _, Tryz.underlying85, rfl, rfl, 0, by kernel_rfl⟩
instance : UL Tryz.prog 93 (TypeDesc.int IntKind.i64) := ⟨Tryz.underlying93⟩
instance : UL Tryz.prog 95 (TypeDesc.struct #[{ name := "Kind", type := 93, offset := 0, embedded := false, tag := "", pkgPath := "", byteOffset := 0 }, { name := "At", type := 3, offset := 1, embedded := false, tag := "", pkgPath := "", byteOffset := 8 }, { name := "Text", type := 9, offset := 2, embedded := false, tag := "", pkgPath := "", byteOffset := 16 }]) := ⟨Tryz.underlying95⟩
instance : SZ Tryz.prog 95 3 := ⟨by kernel_rfl⟩
instance : BY Tryz.prog 95 32 := ⟨by kernel_rfl⟩
instance : ZC Tryz.prog 95 ([Value.int IntKind.i64 0, Value.int IntKind.i64 0, Value.string { data := #[] }]) := ⟨by kernel_rfl⟩
instance : FO Tryz.prog 95 0 0 := ⟨_, _, Tryz.underlying95, rfl, rfl, 0, by kernel_rfl⟩
instance : FO Tryz.prog 95 1 1 := ⟨_, _, Tryz.underlying95, rfl, rfl, 0, by kernel_rfl⟩
instance : FO Tryz.prog 95 2 2 := ⟨_, _, Tryz.underlying95, rfl, rfl, 0, by kernel_rfl⟩
instance : UL Tryz.prog 102 (TypeDesc.func #[74] #[4] false) := ⟨Tryz.underlying102⟩
instance : UL Tryz.prog 103 (TypeDesc.slice 106) := ⟨Tryz.underlying103⟩
instance : UL Tryz.prog 106 (TypeDesc.struct #[{ name := "wrong", type := 58, offset := 0, embedded := false, tag := "", pkgPath := "byway/bnf", byteOffset := 0 }, { name := "e", type := 24, offset := 1, embedded := false, tag := "", pkgPath := "byway/bnf", byteOffset := 8 }]) := ⟨Tryz.underlying106⟩
instance : SZ Tryz.prog 106 2 := ⟨by kernel_rfl⟩
instance : ZC Tryz.prog 106 ([Value.nilFunc, Value.int IntKind.i64 0]) := ⟨by kernel_rfl⟩
instance : BLD Tryz.prog 106 [1, 1] := bld_of Tryz.underlying106 (ZC.out (P := Tryz.prog) (t := 106)) (by kernel_rfl) rfl
instance : FO Tryz.prog 106 0 0 := ⟨_, _, Tryz.underlying106, rfl, rfl, 0, by kernel_rfl⟩
instance : FO Tryz.prog 106 1 1 := ⟨_, _, Tryz.underlying106, rfl, rfl, 0, by kernel_rfl⟩
instance : UL Tryz.prog 108 (TypeDesc.map 112 3) := ⟨Tryz.underlying108⟩
instance : ZC Tryz.prog 110 ([Value.slice none 0 0, Value.slice none 0 0, Value.map none]) := ⟨by kernel_rfl⟩
instance : BLD Tryz.prog 110 [1, 1, 1] := bld_of Tryz.underlying110 (ZC.out (P := Tryz.prog) (t := 110)) (by kernel_rfl) rfl
instance : FO Tryz.prog 110 0 0 := ⟨_, _, Tryz.underlying110, rfl, rfl, 0, by kernel_rfl⟩
instance : FO Tryz.prog 110 1 1 := ⟨_, _, Tryz.underlying110, rfl, rfl, 0, by kernel_rfl⟩
instance : FO Tryz.prog 110 2 2 := ⟨_, _, Tryz.underlying110, rfl, rfl, 0, by kernel_rfl⟩
instance : UL Tryz.prog 112 (TypeDesc.struct #[{ name := "label", type := 4, offset := 0, embedded := false, tag := "", pkgPath := "byway/symbols", byteOffset := 0 }, { name := "name", type := 9, offset := 1, embedded := false, tag := "", pkgPath := "byway/symbols", byteOffset := 8 }]) := ⟨Tryz.underlying112⟩
instance : SZ Tryz.prog 112 2 := ⟨by kernel_rfl⟩
instance : SH Tryz.prog 112 := ⟨by kernel_rfl⟩
instance : ZC Tryz.prog 112 ([Value.bool false, Value.string { data := #[] }]) := ⟨by kernel_rfl⟩
instance : BLD Tryz.prog 112 [1, 1] := bld_of Tryz.underlying112 (ZC.out (P := Tryz.prog) (t := 112)) (by kernel_rfl) rfl
instance : B0 Tryz.prog 119 ([Value.slice none 0 0, Value.slice none 0 0]) := ⟨by kernel_rfl⟩
instance : FO Tryz.prog 119 0 0 := ⟨_, _, Tryz.underlying119, rfl, rfl, 0, by kernel_rfl⟩
instance : FO Tryz.prog 119 1 1 := ⟨_, _, Tryz.underlying119, rfl, rfl, 0, by kernel_rfl⟩
instance : UL Tryz.prog 121 (TypeDesc.struct #[{ name := "empty", type := 4, offset := 0, embedded := false, tag := "", pkgPath := "byway/box", byteOffset := 0 }, { name := "first", type := 40, offset := 1, embedded := false, tag := "", pkgPath := "byway/box", byteOffset := 8 }, { name := "last", type := 40, offset := 2, embedded := false, tag := "", pkgPath := "byway/box", byteOffset := 32 }]) := ⟨Tryz.underlying121⟩
instance : SZ Tryz.prog 121 3 := ⟨by kernel_rfl⟩
instance : B0 Tryz.prog 121 ([Value.bool false, Value.slice none 0 0, Value.slice none 0 0]) := ⟨by kernel_rfl⟩
instance : ZC Tryz.prog 121 ([Value.bool false, Value.slice none 0 0, Value.slice none 0 0]) := ⟨by kernel_rfl⟩
instance : BLD Tryz.prog 121 [1, 1, 1] := bld_of Tryz.underlying121 (ZC.out (P := Tryz.prog) (t := 121)) (by kernel_rfl) rfl
instance : FO Tryz.prog 121 0 0 := ⟨_, _, Tryz.underlying121, rfl, rfl, 0, by kernel_rfl⟩
instance : FO Tryz.prog 121 1 1 := ⟨_, _, Tryz.underlying121, rfl, rfl, 0, by kernel_rfl⟩
instance : FO Tryz.prog 121 2 2 := ⟨_, _, Tryz.underlying121, rfl, rfl, 0, by kernel_rfl⟩
instance : UL Tryz.prog 151 (TypeDesc.map 9 3) := ⟨Tryz.underlying151⟩
instance : UL Tryz.prog 168 (TypeDesc.struct #[{ name := "at", type := 3, offset := 0, embedded := false, tag := "", pkgPath := "byway/regex", byteOffset := 0 }]) := ⟨Tryz.underlying168⟩
instance : SZ Tryz.prog 168 1 := ⟨by kernel_rfl⟩
instance : ZC Tryz.prog 168 ([Value.int IntKind.i64 0]) := ⟨by kernel_rfl⟩
instance : BLD Tryz.prog 168 [1] := bld_of Tryz.underlying168 (ZC.out (P := Tryz.prog) (t := 168)) (by kernel_rfl) rfl
instance : FO Tryz.prog 168 0 0 := ⟨_, _, Tryz.underlying168, rfl, rfl, 0, by kernel_rfl⟩
instance : UL Tryz.prog 170 (TypeDesc.pointer 172) := ⟨Tryz.underlying170⟩
instance : FO Tryz.prog 172 0 0 := ⟨_, _, Tryz.underlying172, rfl, rfl, 0, by kernel_rfl⟩
instance : FO Tryz.prog 172 1 1 := ⟨_, _, Tryz.underlying172, rfl, rfl, 0, by kernel_rfl⟩
instance : FO Tryz.prog 172 2 2 := ⟨_, _, Tryz.underlying172, rfl, rfl, 0, by kernel_rfl⟩
instance : UL Tryz.prog 173 (TypeDesc.pointer 176) := ⟨Tryz.underlying173⟩
instance : SZ Tryz.prog 173 1 := ⟨by kernel_rfl⟩
instance : UL Tryz.prog 174 (TypeDesc.slice 5) := ⟨Tryz.underlying174⟩
instance : SZ Tryz.prog 174 1 := ⟨by kernel_rfl⟩
instance : SZ Tryz.prog 176 2 := ⟨by kernel_rfl⟩
instance : ZC Tryz.prog 176 ([Value.pointer none, Value.slice none 0 0]) := ⟨by kernel_rfl⟩
instance : FO Tryz.prog 176 0 0 := ⟨_, _, Tryz.underlying176, rfl, rfl, 0, by kernel_rfl⟩
instance : FO Tryz.prog 176 1 1 := ⟨_, _, Tryz.underlying176, rfl, rfl, 0, by kernel_rfl⟩
instance : UL Tryz.prog 187 (TypeDesc.slice 40) := ⟨Tryz.underlying187⟩
instance : UL Tryz.prog 213 (TypeDesc.pointer 5) := ⟨Tryz.underlying213⟩
instance : UL Tryz.prog 227 (TypeDesc.unsafePointer) := ⟨Tryz.underlying227⟩
instance : Cal Tryz.prog 4 := cal_of Tryz.func4 (by kernel_rfl) (by kernel_rfl)
instance : Cal Tryz.prog 5 := cal_of Tryz.func5 (by kernel_rfl) (by kernel_rfl)
instance : Cal Tryz.prog 6 := cal_of Tryz.func6 (by kernel_rfl) (by kernel_rfl)
instance : Cal Tryz.prog 7 := cal_of Tryz.func7 (by kernel_rfl) (by kernel_rfl)
instance : Cal Tryz.prog 8 := cal_of Tryz.func8 (by kernel_rfl) (by kernel_rfl)
instance : Cal Tryz.prog 9 := cal_of Tryz.func9 (by kernel_rfl) (by kernel_rfl)
instance : Cal Tryz.prog 10 := cal_of Tryz.func10 (by kernel_rfl) (by kernel_rfl)
instance : Cal Tryz.prog 11 := cal_of Tryz.func11 (by kernel_rfl) (by kernel_rfl)
instance : Cal Tryz.prog 12 := cal_of Tryz.func12 (by kernel_rfl) (by kernel_rfl)
instance : Cal Tryz.prog 13 := cal_of Tryz.func13 (by kernel_rfl) (by kernel_rfl)
instance : Cal Tryz.prog 14 := cal_of Tryz.func14 (by kernel_rfl) (by kernel_rfl)
instance : Cal Tryz.prog 15 := cal_of Tryz.func15 (by kernel_rfl) (by kernel_rfl)
instance : Cal Tryz.prog 16 := cal_of Tryz.func16 (by kernel_rfl) (by kernel_rfl)
instance : Cal Tryz.prog 17 := cal_of Tryz.func17 (by kernel_rfl) (by kernel_rfl)
instance : Cal Tryz.prog 18 := cal_of Tryz.func18 (by kernel_rfl) (by kernel_rfl)
instance : Cal Tryz.prog 19 := cal_of Tryz.func19 (by kernel_rfl) (by kernel_rfl)
instance : Cal Tryz.prog 20 := cal_of Tryz.func20 (by kernel_rfl) (by kernel_rfl)
instance : Cal Tryz.prog 21 := cal_of Tryz.func21 (by kernel_rfl) (by kernel_rfl)
instance : Cal Tryz.prog 22 := cal_of Tryz.func22 (by kernel_rfl) (by kernel_rfl)
instance : Cal Tryz.prog 23 := cal_of Tryz.func23 (by kernel_rfl) (by kernel_rfl)
instance : Cal Tryz.prog 24 := cal_of Tryz.func24 (by kernel_rfl) (by kernel_rfl)
instance : Cal Tryz.prog 25 := cal_of Tryz.func25 (by kernel_rfl) (by kernel_rfl)
instance : Cal Tryz.prog 26 := cal_of Tryz.func26 (by kernel_rfl) (by kernel_rfl)
instance : Cal Tryz.prog 27 := cal_of Tryz.func27 (by kernel_rfl) (by kernel_rfl)
instance : Cal Tryz.prog 28 := cal_of Tryz.func28 (by kernel_rfl) (by kernel_rfl)
instance : Cal Tryz.prog 29 := cal_of Tryz.func29 (by kernel_rfl) (by kernel_rfl)
instance : Cal Tryz.prog 30 := cal_of Tryz.func30 (by kernel_rfl) (by kernel_rfl)
instance : Cal Tryz.prog 31 := cal_of Tryz.func31 (by kernel_rfl) (by kernel_rfl)
instance : Cal Tryz.prog 32 := cal_of Tryz.func32 (by kernel_rfl) (by kernel_rfl)
instance : Cal Tryz.prog 33 := cal_of Tryz.func33 (by kernel_rfl) (by kernel_rfl)
instance : Cal Tryz.prog 34 := cal_of Tryz.func34 (by kernel_rfl) (by kernel_rfl)
instance : Cal Tryz.prog 35 := cal_of Tryz.func35 (by kernel_rfl) (by kernel_rfl)
instance : Cal Tryz.prog 36 := cal_of Tryz.func36 (by kernel_rfl) (by kernel_rfl)
instance : Cal Tryz.prog 37 := cal_of Tryz.func37 (by kernel_rfl) (by kernel_rfl)
instance : Cal Tryz.prog 38 := cal_of Tryz.func38 (by kernel_rfl) (by kernel_rfl)
instance : Cal Tryz.prog 39 := cal_of Tryz.func39 (by kernel_rfl) (by kernel_rfl)
instance : Cal Tryz.prog 40 := cal_of Tryz.func40 (by kernel_rfl) (by kernel_rfl)
instance : Cal Tryz.prog 41 := cal_of Tryz.func41 (by kernel_rfl) (by kernel_rfl)
instance : Cal Tryz.prog 42 := cal_of Tryz.func42 (by kernel_rfl) (by kernel_rfl)
instance : Cal Tryz.prog 43 := cal_of Tryz.func43 (by kernel_rfl) (by kernel_rfl)
instance : Cal Tryz.prog 44 := cal_of Tryz.func44 (by kernel_rfl) (by kernel_rfl)
instance : Cal Tryz.prog 45 := cal_of Tryz.func45 (by kernel_rfl) (by kernel_rfl)
instance : Cal Tryz.prog 46 := cal_of Tryz.func46 (by kernel_rfl) (by kernel_rfl)
instance : Cal Tryz.prog 47 := cal_of Tryz.func47 (by kernel_rfl) (by kernel_rfl)
instance : Cal Tryz.prog 48 := cal_of Tryz.func48 (by kernel_rfl) (by kernel_rfl)
instance : Cal Tryz.prog 49 := cal_of Tryz.func49 (by kernel_rfl) (by kernel_rfl)
instance : Cal Tryz.prog 50 := cal_of Tryz.func50 (by kernel_rfl) (by kernel_rfl)
instance : Cal Tryz.prog 51 := cal_of Tryz.func51 (by kernel_rfl) (by kernel_rfl)
instance : Cal Tryz.prog 52 := cal_of Tryz.func52 (by kernel_rfl) (by kernel_rfl)
instance : Cal Tryz.prog 53 := cal_of Tryz.func53 (by kernel_rfl) (by kernel_rfl)
instance : Cal Tryz.prog 54 := cal_of Tryz.func54 (by kernel_rfl) (by kernel_rfl)
instance : Cal Tryz.prog 55 := cal_of Tryz.func55 (by kernel_rfl) (by kernel_rfl)
instance : Cal Tryz.prog 56 := cal_of Tryz.func56 (by kernel_rfl) (by kernel_rfl)
instance : Cal Tryz.prog 57 := cal_of Tryz.func57 (by kernel_rfl) (by kernel_rfl)
instance : Cal Tryz.prog 58 := cal_of Tryz.func58 (by kernel_rfl) (by kernel_rfl)
instance : Cal Tryz.prog 59 := cal_of Tryz.func59 (by kernel_rfl) (by kernel_rfl)
instance : Cal Tryz.prog 60 := cal_of Tryz.func60 (by kernel_rfl) (by kernel_rfl)
instance : Cal Tryz.prog 61 := cal_of Tryz.func61 (by kernel_rfl) (by kernel_rfl)
instance : Cal Tryz.prog 62 := cal_of Tryz.func62 (by kernel_rfl) (by kernel_rfl)
instance : Cal Tryz.prog 63 := cal_of Tryz.func63 (by kernel_rfl) (by kernel_rfl)
instance : Cal Tryz.prog 64 := cal_of Tryz.func64 (by kernel_rfl) (by kernel_rfl)
instance : Cal Tryz.prog 65 := cal_of Tryz.func65 (by kernel_rfl) (by kernel_rfl)
instance : Cal Tryz.prog 66 := cal_of Tryz.func66 (by kernel_rfl) (by kernel_rfl)
instance : Cal Tryz.prog 67 := cal_of Tryz.func67 (by kernel_rfl) (by kernel_rfl)
instance : Cal Tryz.prog 68 := cal_of Tryz.func68 (by kernel_rfl) (by kernel_rfl)
instance : Cal Tryz.prog 69 := cal_of Tryz.func69 (by kernel_rfl) (by kernel_rfl)
instance : Cal Tryz.prog 70 := cal_of Tryz.func70 (by kernel_rfl) (by kernel_rfl)
instance : Cal Tryz.prog 71 := cal_of Tryz.func71 (by kernel_rfl) (by kernel_rfl)
instance : Cal Tryz.prog 72 := cal_of Tryz.func72 (by kernel_rfl) (by kernel_rfl)
instance : Cal Tryz.prog 73 := cal_of Tryz.func73 (by kernel_rfl) (by kernel_rfl)
instance : Cal Tryz.prog 74 := cal_of Tryz.func74 (by kernel_rfl) (by kernel_rfl)
instance : Cal Tryz.prog 75 := cal_of Tryz.func75 (by kernel_rfl) (by kernel_rfl)
instance : Cal Tryz.prog 76 := cal_of Tryz.func76 (by kernel_rfl) (by kernel_rfl)
instance : Cal Tryz.prog 77 := cal_of Tryz.func77 (by kernel_rfl) (by kernel_rfl)
instance : Cal Tryz.prog 78 := cal_of Tryz.func78 (by kernel_rfl) (by kernel_rfl)
instance : Cal Tryz.prog 79 := cal_of Tryz.func79 (by kernel_rfl) (by kernel_rfl)
instance : Cal Tryz.prog 80 := cal_of Tryz.func80 (by kernel_rfl) (by kernel_rfl)
instance : Cal Tryz.prog 81 := cal_of Tryz.func81 (by kernel_rfl) (by kernel_rfl)
instance : Cal Tryz.prog 82 := cal_of Tryz.func82 (by kernel_rfl) (by kernel_rfl)
instance : Cal Tryz.prog 83 := cal_of Tryz.func83 (by kernel_rfl) (by kernel_rfl)
instance : Cal Tryz.prog 84 := cal_of Tryz.func84 (by kernel_rfl) (by kernel_rfl)
instance : Cal Tryz.prog 85 := cal_of Tryz.func85 (by kernel_rfl) (by kernel_rfl)
instance : Cal Tryz.prog 86 := cal_of Tryz.func86 (by kernel_rfl) (by kernel_rfl)
instance : Cal Tryz.prog 87 := cal_of Tryz.func87 (by kernel_rfl) (by kernel_rfl)
instance : Cal Tryz.prog 88 := cal_of Tryz.func88 (by kernel_rfl) (by kernel_rfl)
instance : Cal Tryz.prog 89 := cal_of Tryz.func89 (by kernel_rfl) (by kernel_rfl)
instance : Cal Tryz.prog 90 := cal_of Tryz.func90 (by kernel_rfl) (by kernel_rfl)
instance : Cal Tryz.prog 91 := cal_of Tryz.func91 (by kernel_rfl) (by kernel_rfl)
instance : Cal Tryz.prog 92 := cal_of Tryz.func92 (by kernel_rfl) (by kernel_rfl)
instance : Cal Tryz.prog 93 := cal_of Tryz.func93 (by kernel_rfl) (by kernel_rfl)
instance : Cal Tryz.prog 94 := cal_of Tryz.func94 (by kernel_rfl) (by kernel_rfl)
instance : Cal Tryz.prog 95 := cal_of Tryz.func95 (by kernel_rfl) (by kernel_rfl)
instance : Cal Tryz.prog 98 := cal_of Tryz.func98 (by kernel_rfl) (by kernel_rfl)
instance : Cal Tryz.prog 99 := cal_of Tryz.func99 (by kernel_rfl) (by kernel_rfl)
instance : Cal Tryz.prog 100 := cal_of Tryz.func100 (by kernel_rfl) (by kernel_rfl)
instance : Cal Tryz.prog 102 := cal_of Tryz.func102 (by kernel_rfl) (by kernel_rfl)
instance : Cal Tryz.prog 103 := cal_of Tryz.func103 (by kernel_rfl) (by kernel_rfl)
instance : Cal Tryz.prog 104 := cal_of Tryz.func104 (by kernel_rfl) (by kernel_rfl)
instance : Cal Tryz.prog 105 := cal_of Tryz.func105 (by kernel_rfl) (by kernel_rfl)
instance : Cal Tryz.prog 106 := cal_of Tryz.func106 (by kernel_rfl) (by kernel_rfl)
instance : Cal Tryz.prog 107 := cal_of Tryz.func107 (by kernel_rfl) (by kernel_rfl)
instance : Cal Tryz.prog 108 := cal_of Tryz.func108 (by kernel_rfl) (by kernel_rfl)
instance : Cal Tryz.prog 109 := cal_of Tryz.func109 (by kernel_rfl) (by kernel_rfl)
instance : Cal Tryz.prog 110 := cal_of Tryz.func110 (by kernel_rfl) (by kernel_rfl)
instance : Cal Tryz.prog 111 := cal_of Tryz.func111 (by kernel_rfl) (by kernel_rfl)
instance : Cal Tryz.prog 112 := cal_of Tryz.func112 (by kernel_rfl) (by kernel_rfl)
instance : Cal Tryz.prog 113 := cal_of Tryz.func113 (by kernel_rfl) (by kernel_rfl)
instance : Cal Tryz.prog 114 := cal_of Tryz.func114 (by kernel_rfl) (by kernel_rfl)
instance : Cal Tryz.prog 115 := cal_of Tryz.func115 (by kernel_rfl) (by kernel_rfl)
instance : Cal Tryz.prog 116 := cal_of Tryz.func116 (by kernel_rfl) (by kernel_rfl)
instance : Cal Tryz.prog 117 := cal_of Tryz.func117 (by kernel_rfl) (by kernel_rfl)
instance : Cal Tryz.prog 118 := cal_of Tryz.func118 (by kernel_rfl) (by kernel_rfl)
instance : Cal Tryz.prog 129 := cal_of Tryz.func129 (by kernel_rfl) (by kernel_rfl)
instance : Cal Tryz.prog 139 := cal_of Tryz.func139 (by kernel_rfl) (by kernel_rfl)
instance : Cal Tryz.prog 140 := cal_of Tryz.func140 (by kernel_rfl) (by kernel_rfl)
instance : Cal Tryz.prog 141 := cal_of Tryz.func141 (by kernel_rfl) (by kernel_rfl)
instance : Cal Tryz.prog 142 := cal_of Tryz.func142 (by kernel_rfl) (by kernel_rfl)
instance : Cal Tryz.prog 143 := cal_of Tryz.func143 (by kernel_rfl) (by kernel_rfl)
instance : Cal Tryz.prog 144 := cal_of Tryz.func144 (by kernel_rfl) (by kernel_rfl)
instance : Cal Tryz.prog 145 := cal_of Tryz.func145 (by kernel_rfl) (by kernel_rfl)
instance : Cal Tryz.prog 146 := cal_of Tryz.func146 (by kernel_rfl) (by kernel_rfl)
instance : Cal Tryz.prog 147 := cal_of Tryz.func147 (by kernel_rfl) (by kernel_rfl)
instance : Cal Tryz.prog 148 := cal_of Tryz.func148 (by kernel_rfl) (by kernel_rfl)
instance : Cal Tryz.prog 149 := cal_of Tryz.func149 (by kernel_rfl) (by kernel_rfl)
instance : Cal Tryz.prog 159 := cal_of Tryz.func159 (by kernel_rfl) (by kernel_rfl)
instance : Cal Tryz.prog 160 := cal_of Tryz.func160 (by kernel_rfl) (by kernel_rfl)
instance : Cal Tryz.prog 161 := cal_of Tryz.func161 (by kernel_rfl) (by kernel_rfl)
instance : Cal Tryz.prog 162 := cal_of Tryz.func162 (by kernel_rfl) (by kernel_rfl)
instance : Cal Tryz.prog 175 := cal_of Tryz.func175 (by kernel_rfl) (by kernel_rfl)
instance : Cal Tryz.prog 176 := cal_of Tryz.func176 (by kernel_rfl) (by kernel_rfl)
end Go.Proofs.YtbconcohpfkncaaGreat
