/-
  The shapes, sizes and zero values of the types of this program, and its functions, as instances. Written by a program of ours.
-/
import Derived.Test.YtpgfmfbpmkfbjaaGreatI
import Derived.Test.YtpgfmfbpmkfbjaaGreatProg
namespace Go.Proofs.YtpgfmfbpmkfbjaaGreat
open Go
theorem cal_of {P : Program} {f : FuncId} {fn : Func} (hf : P.funcs[f]? = some fn) (hn : (fn.name == "runtime.NumGoroutine") = false) (hb : fn.body.isNone = false) : Cal P f := ⟨fun args w => by
  have hn' : ¬ fn.name = "runtime.NumGoroutine" := by simpa using hn
  have hb' : ¬ fn.body = none := by intro h; rw [h] at hb; cases hb
  simp [callFunc, Sem.run_bind, Result.andThen, hf, hn', hb']⟩
instance : UL Tryz.prog 3 (TypeDesc.int IntKind.i64) := ⟨Tryz.underlying3⟩
instance : SZ Tryz.prog 3 1 := ⟨by kernel_rfl⟩
instance : BY Tryz.prog 3 8 := ⟨by kernel_rfl⟩
instance : ZC Tryz.prog 3 ([Value.int IntKind.i64 0]) := ⟨by kernel_rfl⟩
instance : SZ Tryz.prog 5 1 := ⟨by kernel_rfl⟩
instance : BY Tryz.prog 5 1 := ⟨by kernel_rfl⟩
instance : ZC Tryz.prog 5 ([Value.int IntKind.u8 0]) := ⟨by kernel_rfl⟩
instance : UL Tryz.prog 9 (TypeDesc.string) := ⟨Tryz.underlying9⟩
instance : SZ Tryz.prog 9 1 := ⟨by kernel_rfl⟩
instance : BY Tryz.prog 9 16 := ⟨by kernel_rfl⟩
instance : ZC Tryz.prog 9 ([Value.string { data := #[] }]) := ⟨by kernel_rfl⟩
instance : UL Tryz.prog 20 (TypeDesc.interface #[]) := ⟨Tryz.underlying20⟩
instance : UL Tryz.prog 22 (TypeDesc.slice 60) := ⟨Tryz.underlying22⟩
instance : SZ Tryz.prog 22 1 := ⟨by kernel_rfl⟩
instance : ZC Tryz.prog 22 ([Value.slice none 0 0]) := ⟨by kernel_rfl⟩
instance : UL Tryz.prog 23 (TypeDesc.int IntKind.i64) := ⟨Tryz.underlying23⟩
instance : SZ Tryz.prog 23 1 := ⟨by kernel_rfl⟩
instance : ZC Tryz.prog 23 ([Value.int IntKind.i64 0]) := ⟨by kernel_rfl⟩
instance : UL Tryz.prog 30 (TypeDesc.slice 9) := ⟨Tryz.underlying30⟩
instance : SZ Tryz.prog 30 1 := ⟨by kernel_rfl⟩
instance : ZC Tryz.prog 30 ([Value.slice none 0 0]) := ⟨by kernel_rfl⟩
instance : UL Tryz.prog 31 (TypeDesc.slice 80) := ⟨Tryz.underlying31⟩
instance : SZ Tryz.prog 31 1 := ⟨by kernel_rfl⟩
instance : UL Tryz.prog 33 (TypeDesc.struct #[{ name := "Nodes", type := 30, offset := 0, embedded := false, tag := "", pkgPath := "", byteOffset := 0 }, { name := "Edges", type := 31, offset := 1, embedded := false, tag := "", pkgPath := "", byteOffset := 24 }]) := ⟨Tryz.underlying33⟩
instance : SZ Tryz.prog 33 2 := ⟨by kernel_rfl⟩
instance : B0 Tryz.prog 33 ([Value.slice none 0 0, Value.slice none 0 0]) := ⟨by kernel_rfl⟩
instance : ZC Tryz.prog 33 ([Value.slice none 0 0, Value.slice none 0 0]) := ⟨by kernel_rfl⟩
instance : BLD Tryz.prog 33 [1, 1] := bld_of Tryz.underlying33 (ZC.out (P := Tryz.prog) (t := 33)) (by kernel_rfl) rfl
instance : FO Tryz.prog 33 0 0 := ⟨_, _, Tryz.underlying33, rfl, rfl, 0, by kernel_rfl⟩
instance : FO Tryz.prog 33 1 1 := ⟨_, _, Tryz.underlying33, rfl, rfl, 0, by kernel_rfl⟩
instance : UL Tryz.prog 41 (TypeDesc.struct #[{ name := "at", type := 3, offset := 0, embedded := false, tag := "", pkgPath := "byway/bnf", byteOffset := 0 }]) := ⟨Tryz.underlying41⟩
instance : SZ Tryz.prog 41 1 := ⟨by kernel_rfl⟩
instance : ZC Tryz.prog 41 ([Value.int IntKind.i64 0]) := ⟨by kernel_rfl⟩
instance : BLD Tryz.prog 41 [1] := bld_of Tryz.underlying41 (ZC.out (P := Tryz.prog) (t := 41)) (by kernel_rfl) rfl
instance : FO Tryz.prog 41 0 0 := ⟨_, _, Tryz.underlying41, rfl, rfl, 0, by kernel_rfl⟩
instance : UL Tryz.prog 43 (TypeDesc.slice 54) := ⟨Tryz.underlying43⟩
instance : SZ Tryz.prog 43 1 := ⟨by kernel_rfl⟩
instance : ZC Tryz.prog 43 ([Value.slice none 0 0]) := ⟨by kernel_rfl⟩
instance : FO Tryz.prog 48 0 0 := ⟨_, _, Tryz.underlying48, rfl, rfl, 0, by kernel_rfl⟩
instance : FO Tryz.prog 48 1 1 := ⟨_, _, Tryz.underlying48, rfl, rfl, 0, by kernel_rfl⟩
instance : FO Tryz.prog 48 2 2 := ⟨_, _, Tryz.underlying48, rfl, rfl, 0, by kernel_rfl⟩
instance : FO Tryz.prog 48 3 3 := ⟨_, _, Tryz.underlying48, rfl, rfl, 0, by kernel_rfl⟩
instance : UL Tryz.prog 50 (TypeDesc.func #[22] #[4] false) := ⟨Tryz.underlying50⟩
instance : UL Tryz.prog 52 (TypeDesc.int IntKind.i64) := ⟨Tryz.underlying52⟩
instance : UL Tryz.prog 54 (TypeDesc.struct #[{ name := "Kind", type := 52, offset := 0, embedded := false, tag := "", pkgPath := "", byteOffset := 0 }, { name := "At", type := 3, offset := 1, embedded := false, tag := "", pkgPath := "", byteOffset := 8 }, { name := "Text", type := 9, offset := 2, embedded := false, tag := "", pkgPath := "", byteOffset := 16 }]) := ⟨Tryz.underlying54⟩
instance : SZ Tryz.prog 54 3 := ⟨by kernel_rfl⟩
instance : BY Tryz.prog 54 32 := ⟨by kernel_rfl⟩
instance : ZC Tryz.prog 54 ([Value.int IntKind.i64 0, Value.int IntKind.i64 0, Value.string { data := #[] }]) := ⟨by kernel_rfl⟩
instance : F1 Tryz.prog 54 0 := ⟨_, _, _, Tryz.underlying54, rfl, Tryz.underlying52, rfl⟩
instance : FO Tryz.prog 54 0 0 := ⟨_, _, Tryz.underlying54, rfl, rfl, 0, by kernel_rfl⟩
instance : F1 Tryz.prog 54 1 := ⟨_, _, _, Tryz.underlying54, rfl, Tryz.underlying3, rfl⟩
instance : FO Tryz.prog 54 1 1 := ⟨_, _, Tryz.underlying54, rfl, rfl, 0, by kernel_rfl⟩
instance : F1 Tryz.prog 54 2 := ⟨_, _, _, Tryz.underlying54, rfl, Tryz.underlying9, rfl⟩
instance : FO Tryz.prog 54 2 2 := ⟨_, _, Tryz.underlying54, rfl, rfl, 0, by kernel_rfl⟩
instance : UL Tryz.prog 58 (TypeDesc.slice 64) := ⟨Tryz.underlying58⟩
instance : SZ Tryz.prog 58 1 := ⟨by kernel_rfl⟩
instance : BY Tryz.prog 58 24 := ⟨by kernel_rfl⟩
instance : ZC Tryz.prog 58 ([Value.slice none 0 0]) := ⟨by kernel_rfl⟩
instance : UL Tryz.prog 60 (TypeDesc.struct #[{ name := "Head", type := 9, offset := 0, embedded := false, tag := "", pkgPath := "", byteOffset := 0 }, { name := "Body", type := 58, offset := 1, embedded := false, tag := "", pkgPath := "", byteOffset := 16 }]) := ⟨Tryz.underlying60⟩
instance : SZ Tryz.prog 60 2 := ⟨by kernel_rfl⟩
instance : BY Tryz.prog 60 40 := ⟨by kernel_rfl⟩
instance : ZC Tryz.prog 60 ([Value.string { data := #[] }, Value.slice none 0 0]) := ⟨by kernel_rfl⟩
instance : BLD Tryz.prog 60 [1, 1] := bld_of Tryz.underlying60 (ZC.out (P := Tryz.prog) (t := 60)) (by kernel_rfl) rfl
instance : FO Tryz.prog 60 0 0 := ⟨_, _, Tryz.underlying60, rfl, rfl, 0, by kernel_rfl⟩
instance : FO Tryz.prog 60 1 1 := ⟨_, _, Tryz.underlying60, rfl, rfl, 0, by kernel_rfl⟩
instance : UL Tryz.prog 62 (TypeDesc.int IntKind.i64) := ⟨Tryz.underlying62⟩
instance : UL Tryz.prog 64 (TypeDesc.struct #[{ name := "Kind", type := 62, offset := 0, embedded := false, tag := "", pkgPath := "", byteOffset := 0 }, { name := "Name", type := 9, offset := 1, embedded := false, tag := "", pkgPath := "", byteOffset := 8 }, { name := "Kids", type := 3, offset := 2, embedded := false, tag := "", pkgPath := "", byteOffset := 24 }]) := ⟨Tryz.underlying64⟩
instance : SZ Tryz.prog 64 3 := ⟨by kernel_rfl⟩
instance : BY Tryz.prog 64 32 := ⟨by kernel_rfl⟩
instance : EG Tryz.prog 64 := ⟨by kernel_rfl⟩
instance : SH Tryz.prog 64 := ⟨by kernel_rfl⟩
instance : ZC Tryz.prog 64 ([Value.int IntKind.i64 0, Value.string { data := #[] }, Value.int IntKind.i64 0]) := ⟨by kernel_rfl⟩
instance : FO Tryz.prog 64 0 0 := ⟨_, _, Tryz.underlying64, rfl, rfl, 0, by kernel_rfl⟩
instance : FO Tryz.prog 64 1 1 := ⟨_, _, Tryz.underlying64, rfl, rfl, 0, by kernel_rfl⟩
instance : FO Tryz.prog 64 2 2 := ⟨_, _, Tryz.underlying64, rfl, rfl, 0, by kernel_rfl⟩
instance : UL Tryz.prog 70 (TypeDesc.struct #[{ name := "nodes", type := 30, offset := 0, embedded := false, tag := "", pkgPath := "byway/edges", byteOffset := 0 }, { name := "edges", type := 31, offset := 1, embedded := false, tag := "", pkgPath := "byway/edges", byteOffset := 24 }]) := ⟨Tryz.underlying70⟩
instance : SZ Tryz.prog 70 2 := ⟨by kernel_rfl⟩
instance : B0 Tryz.prog 70 ([Value.slice none 0 0, Value.slice none 0 0]) := ⟨by kernel_rfl⟩
instance : ZC Tryz.prog 70 ([Value.slice none 0 0, Value.slice none 0 0]) := ⟨by kernel_rfl⟩
instance : FO Tryz.prog 70 0 0 := ⟨_, _, Tryz.underlying70, rfl, rfl, 0, by kernel_rfl⟩
instance : FO Tryz.prog 70 1 1 := ⟨_, _, Tryz.underlying70, rfl, rfl, 0, by kernel_rfl⟩
instance : UL Tryz.prog 80 (TypeDesc.struct #[{ name := "From", type := 9, offset := 0, embedded := false, tag := "", pkgPath := "", byteOffset := 0 }, { name := "Label", type := 9, offset := 1, embedded := false, tag := "", pkgPath := "", byteOffset := 16 }, { name := "To", type := 9, offset := 2, embedded := false, tag := "", pkgPath := "", byteOffset := 32 }]) := ⟨Tryz.underlying80⟩
instance : SZ Tryz.prog 80 3 := ⟨by kernel_rfl⟩
instance : BY Tryz.prog 80 48 := ⟨by kernel_rfl⟩
instance : EG Tryz.prog 80 := ⟨by kernel_rfl⟩
instance : SH Tryz.prog 80 := ⟨by kernel_rfl⟩
instance : ZC Tryz.prog 80 ([Value.string { data := #[] }, Value.string { data := #[] }, Value.string { data := #[] }]) := ⟨by kernel_rfl⟩
instance : FO Tryz.prog 80 0 0 := ⟨_, _, Tryz.underlying80, rfl, rfl, 0, by kernel_rfl⟩
instance : FO Tryz.prog 80 1 1 := ⟨_, _, Tryz.underlying80, rfl, rfl, 0, by kernel_rfl⟩
instance : FO Tryz.prog 80 2 2 := ⟨_, _, Tryz.underlying80, rfl, rfl, 0, by kernel_rfl⟩
instance : UL Tryz.prog 87 (TypeDesc.func #[60] #[4] false) := ⟨Tryz.underlying87⟩
instance : UL Tryz.prog 88 (TypeDesc.slice 91) := ⟨Tryz.underlying88⟩
instance : UL Tryz.prog 91 (TypeDesc.struct #[{ name := "wrong", type := 50, offset := 0, embedded := false, tag := "", pkgPath := "byway/bnf", byteOffset := 0 }, { name := "e", type := 23, offset := 1, embedded := false, tag := "", pkgPath := "byway/bnf", byteOffset := 8 }]) := ⟨Tryz.underlying91⟩
instance : SZ Tryz.prog 91 2 := ⟨by kernel_rfl⟩
instance : ZC Tryz.prog 91 ([Value.nilFunc, Value.int IntKind.i64 0]) := ⟨by kernel_rfl⟩
instance : BLD Tryz.prog 91 [1, 1] := bld_of Tryz.underlying91 (ZC.out (P := Tryz.prog) (t := 91)) (by kernel_rfl) rfl
instance : FO Tryz.prog 91 0 0 := ⟨_, _, Tryz.underlying91, rfl, rfl, 0, by kernel_rfl⟩
instance : FO Tryz.prog 91 1 1 := ⟨_, _, Tryz.underlying91, rfl, rfl, 0, by kernel_rfl⟩
instance : UL Tryz.prog 92 (TypeDesc.pointer 95) := ⟨Tryz.underlying92⟩
instance : SZ Tryz.prog 92 1 := ⟨by kernel_rfl⟩
instance : UL Tryz.prog 93 (TypeDesc.slice 5) := ⟨Tryz.underlying93⟩
instance : SZ Tryz.prog 93 1 := ⟨by kernel_rfl⟩
instance : SZ Tryz.prog 95 2 := ⟨by kernel_rfl⟩
instance : ZC Tryz.prog 95 ([Value.pointer none, Value.slice none 0 0]) := ⟨by kernel_rfl⟩
instance : FO Tryz.prog 95 0 0 := ⟨_, _, Tryz.underlying95, rfl, rfl, 0, by kernel_rfl⟩
instance : FO Tryz.prog 95 1 1 := ⟨_, _, Tryz.underlying95, rfl, rfl, 0, by kernel_rfl⟩
instance : UL Tryz.prog 119 (TypeDesc.pointer 5) := ⟨Tryz.underlying119⟩
instance : UL Tryz.prog 127 (TypeDesc.map 9 3) := ⟨Tryz.underlying127⟩
instance : UL Tryz.prog 129 (TypeDesc.struct #[{ name := "at", type := 3, offset := 0, embedded := false, tag := "", pkgPath := "byway/regex", byteOffset := 0 }]) := ⟨Tryz.underlying129⟩
instance : SZ Tryz.prog 129 1 := ⟨by kernel_rfl⟩
instance : ZC Tryz.prog 129 ([Value.int IntKind.i64 0]) := ⟨by kernel_rfl⟩
instance : BLD Tryz.prog 129 [1] := bld_of Tryz.underlying129 (ZC.out (P := Tryz.prog) (t := 129)) (by kernel_rfl) rfl
instance : FO Tryz.prog 129 0 0 := ⟨_, _, Tryz.underlying129, rfl, rfl, 0, by kernel_rfl⟩
instance : UL Tryz.prog 131 (TypeDesc.pointer 133) := ⟨Tryz.underlying131⟩
instance : FO Tryz.prog 133 0 0 := ⟨_, _, Tryz.underlying133, rfl, rfl, 0, by kernel_rfl⟩
instance : FO Tryz.prog 133 1 1 := ⟨_, _, Tryz.underlying133, rfl, rfl, 0, by kernel_rfl⟩
instance : FO Tryz.prog 133 2 2 := ⟨_, _, Tryz.underlying133, rfl, rfl, 0, by kernel_rfl⟩
instance : UL Tryz.prog 141 (TypeDesc.slice 58) := ⟨Tryz.underlying141⟩
instance : UL Tryz.prog 145 (TypeDesc.unsafePointer) := ⟨Tryz.underlying145⟩
instance : UL Tryz.prog 156 (TypeDesc.slice 3) := ⟨Tryz.underlying156⟩
instance : Cal Tryz.prog 4 := cal_of Tryz.func4 (by kernel_rfl) (by kernel_rfl)
instance : Cal Tryz.prog 5 := cal_of Tryz.func5 (by kernel_rfl) (by kernel_rfl)
instance : Cal Tryz.prog 6 := cal_of Tryz.func6 (by kernel_rfl) (by kernel_rfl)
instance : Cal Tryz.prog 7 := cal_of Tryz.func7 (by kernel_rfl) (by kernel_rfl)
instance : Cal Tryz.prog 8 := cal_of Tryz.func8 (by kernel_rfl) (by kernel_rfl)
instance : Cal Tryz.prog 9 := cal_of Tryz.func9 (by kernel_rfl) (by kernel_rfl)
instance : Cal Tryz.prog 10 := cal_of Tryz.func10 (by kernel_rfl) (by kernel_rfl)
instance : Cal Tryz.prog 11 := cal_of Tryz.func11 (by kernel_rfl) (by kernel_rfl)
instance : Cal Tryz.prog 12 := cal_of Tryz.func12 (by kernel_rfl) (by kernel_rfl)
instance : Cal Tryz.prog 13 := cal_of Tryz.func13 (by kernel_rfl) (by kernel_rfl)
instance : Cal Tryz.prog 14 := cal_of Tryz.func14 (by kernel_rfl) (by kernel_rfl)
instance : Cal Tryz.prog 15 := cal_of Tryz.func15 (by kernel_rfl) (by kernel_rfl)
instance : Cal Tryz.prog 16 := cal_of Tryz.func16 (by kernel_rfl) (by kernel_rfl)
instance : Cal Tryz.prog 17 := cal_of Tryz.func17 (by kernel_rfl) (by kernel_rfl)
instance : Cal Tryz.prog 18 := cal_of Tryz.func18 (by kernel_rfl) (by kernel_rfl)
instance : Cal Tryz.prog 19 := cal_of Tryz.func19 (by kernel_rfl) (by kernel_rfl)
instance : Cal Tryz.prog 20 := cal_of Tryz.func20 (by kernel_rfl) (by kernel_rfl)
instance : Cal Tryz.prog 21 := cal_of Tryz.func21 (by kernel_rfl) (by kernel_rfl)
instance : Cal Tryz.prog 22 := cal_of Tryz.func22 (by kernel_rfl) (by kernel_rfl)
instance : Cal Tryz.prog 23 := cal_of Tryz.func23 (by kernel_rfl) (by kernel_rfl)
instance : Cal Tryz.prog 24 := cal_of Tryz.func24 (by kernel_rfl) (by kernel_rfl)
instance : Cal Tryz.prog 25 := cal_of Tryz.func25 (by kernel_rfl) (by kernel_rfl)
instance : Cal Tryz.prog 26 := cal_of Tryz.func26 (by kernel_rfl) (by kernel_rfl)
instance : Cal Tryz.prog 27 := cal_of Tryz.func27 (by kernel_rfl) (by kernel_rfl)
instance : Cal Tryz.prog 28 := cal_of Tryz.func28 (by kernel_rfl) (by kernel_rfl)
instance : Cal Tryz.prog 29 := cal_of Tryz.func29 (by kernel_rfl) (by kernel_rfl)
instance : Cal Tryz.prog 30 := cal_of Tryz.func30 (by kernel_rfl) (by kernel_rfl)
instance : Cal Tryz.prog 31 := cal_of Tryz.func31 (by kernel_rfl) (by kernel_rfl)
instance : Cal Tryz.prog 32 := cal_of Tryz.func32 (by kernel_rfl) (by kernel_rfl)
instance : Cal Tryz.prog 33 := cal_of Tryz.func33 (by kernel_rfl) (by kernel_rfl)
instance : Cal Tryz.prog 34 := cal_of Tryz.func34 (by kernel_rfl) (by kernel_rfl)
instance : Cal Tryz.prog 35 := cal_of Tryz.func35 (by kernel_rfl) (by kernel_rfl)
instance : Cal Tryz.prog 36 := cal_of Tryz.func36 (by kernel_rfl) (by kernel_rfl)
instance : Cal Tryz.prog 37 := cal_of Tryz.func37 (by kernel_rfl) (by kernel_rfl)
instance : Cal Tryz.prog 38 := cal_of Tryz.func38 (by kernel_rfl) (by kernel_rfl)
instance : Cal Tryz.prog 39 := cal_of Tryz.func39 (by kernel_rfl) (by kernel_rfl)
instance : Cal Tryz.prog 40 := cal_of Tryz.func40 (by kernel_rfl) (by kernel_rfl)
instance : Cal Tryz.prog 41 := cal_of Tryz.func41 (by kernel_rfl) (by kernel_rfl)
instance : Cal Tryz.prog 42 := cal_of Tryz.func42 (by kernel_rfl) (by kernel_rfl)
instance : Cal Tryz.prog 43 := cal_of Tryz.func43 (by kernel_rfl) (by kernel_rfl)
instance : Cal Tryz.prog 44 := cal_of Tryz.func44 (by kernel_rfl) (by kernel_rfl)
instance : Cal Tryz.prog 45 := cal_of Tryz.func45 (by kernel_rfl) (by kernel_rfl)
instance : Cal Tryz.prog 46 := cal_of Tryz.func46 (by kernel_rfl) (by kernel_rfl)
instance : Cal Tryz.prog 47 := cal_of Tryz.func47 (by kernel_rfl) (by kernel_rfl)
instance : Cal Tryz.prog 48 := cal_of Tryz.func48 (by kernel_rfl) (by kernel_rfl)
instance : Cal Tryz.prog 49 := cal_of Tryz.func49 (by kernel_rfl) (by kernel_rfl)
instance : Cal Tryz.prog 50 := cal_of Tryz.func50 (by kernel_rfl) (by kernel_rfl)
instance : Cal Tryz.prog 51 := cal_of Tryz.func51 (by kernel_rfl) (by kernel_rfl)
instance : Cal Tryz.prog 52 := cal_of Tryz.func52 (by kernel_rfl) (by kernel_rfl)
instance : Cal Tryz.prog 53 := cal_of Tryz.func53 (by kernel_rfl) (by kernel_rfl)
instance : Cal Tryz.prog 54 := cal_of Tryz.func54 (by kernel_rfl) (by kernel_rfl)
instance : Cal Tryz.prog 55 := cal_of Tryz.func55 (by kernel_rfl) (by kernel_rfl)
instance : Cal Tryz.prog 56 := cal_of Tryz.func56 (by kernel_rfl) (by kernel_rfl)
instance : Cal Tryz.prog 57 := cal_of Tryz.func57 (by kernel_rfl) (by kernel_rfl)
instance : Cal Tryz.prog 58 := cal_of Tryz.func58 (by kernel_rfl) (by kernel_rfl)
instance : Cal Tryz.prog 59 := cal_of Tryz.func59 (by kernel_rfl) (by kernel_rfl)
instance : Cal Tryz.prog 60 := cal_of Tryz.func60 (by kernel_rfl) (by kernel_rfl)
instance : Cal Tryz.prog 61 := cal_of Tryz.func61 (by kernel_rfl) (by kernel_rfl)
instance : Cal Tryz.prog 62 := cal_of Tryz.func62 (by kernel_rfl) (by kernel_rfl)
instance : Cal Tryz.prog 63 := cal_of Tryz.func63 (by kernel_rfl) (by kernel_rfl)
instance : Cal Tryz.prog 64 := cal_of Tryz.func64 (by kernel_rfl) (by kernel_rfl)
instance : Cal Tryz.prog 65 := cal_of Tryz.func65 (by kernel_rfl) (by kernel_rfl)
instance : Cal Tryz.prog 66 := cal_of Tryz.func66 (by kernel_rfl) (by kernel_rfl)
instance : Cal Tryz.prog 67 := cal_of Tryz.func67 (by kernel_rfl) (by kernel_rfl)
instance : Cal Tryz.prog 68 := cal_of Tryz.func68 (by kernel_rfl) (by kernel_rfl)
instance : Cal Tryz.prog 69 := cal_of Tryz.func69 (by kernel_rfl) (by kernel_rfl)
instance : Cal Tryz.prog 70 := cal_of Tryz.func70 (by kernel_rfl) (by kernel_rfl)
instance : Cal Tryz.prog 71 := cal_of Tryz.func71 (by kernel_rfl) (by kernel_rfl)
instance : Cal Tryz.prog 72 := cal_of Tryz.func72 (by kernel_rfl) (by kernel_rfl)
instance : Cal Tryz.prog 73 := cal_of Tryz.func73 (by kernel_rfl) (by kernel_rfl)
instance : Cal Tryz.prog 74 := cal_of Tryz.func74 (by kernel_rfl) (by kernel_rfl)
instance : Cal Tryz.prog 75 := cal_of Tryz.func75 (by kernel_rfl) (by kernel_rfl)
instance : Cal Tryz.prog 76 := cal_of Tryz.func76 (by kernel_rfl) (by kernel_rfl)
instance : Cal Tryz.prog 77 := cal_of Tryz.func77 (by kernel_rfl) (by kernel_rfl)
instance : Cal Tryz.prog 78 := cal_of Tryz.func78 (by kernel_rfl) (by kernel_rfl)
instance : Cal Tryz.prog 79 := cal_of Tryz.func79 (by kernel_rfl) (by kernel_rfl)
instance : Cal Tryz.prog 80 := cal_of Tryz.func80 (by kernel_rfl) (by kernel_rfl)
instance : Cal Tryz.prog 81 := cal_of Tryz.func81 (by kernel_rfl) (by kernel_rfl)
instance : Cal Tryz.prog 82 := cal_of Tryz.func82 (by kernel_rfl) (by kernel_rfl)
instance : Cal Tryz.prog 83 := cal_of Tryz.func83 (by kernel_rfl) (by kernel_rfl)
instance : Cal Tryz.prog 84 := cal_of Tryz.func84 (by kernel_rfl) (by kernel_rfl)
instance : Cal Tryz.prog 85 := cal_of Tryz.func85 (by kernel_rfl) (by kernel_rfl)
instance : Cal Tryz.prog 86 := cal_of Tryz.func86 (by kernel_rfl) (by kernel_rfl)
instance : Cal Tryz.prog 87 := cal_of Tryz.func87 (by kernel_rfl) (by kernel_rfl)
instance : Cal Tryz.prog 88 := cal_of Tryz.func88 (by kernel_rfl) (by kernel_rfl)
instance : Cal Tryz.prog 89 := cal_of Tryz.func89 (by kernel_rfl) (by kernel_rfl)
instance : Cal Tryz.prog 90 := cal_of Tryz.func90 (by kernel_rfl) (by kernel_rfl)
instance : Cal Tryz.prog 91 := cal_of Tryz.func91 (by kernel_rfl) (by kernel_rfl)
instance : Cal Tryz.prog 92 := cal_of Tryz.func92 (by kernel_rfl) (by kernel_rfl)
instance : Cal Tryz.prog 93 := cal_of Tryz.func93 (by kernel_rfl) (by kernel_rfl)
instance : Cal Tryz.prog 94 := cal_of Tryz.func94 (by kernel_rfl) (by kernel_rfl)
instance : Cal Tryz.prog 95 := cal_of Tryz.func95 (by kernel_rfl) (by kernel_rfl)
instance : Cal Tryz.prog 96 := cal_of Tryz.func96 (by kernel_rfl) (by kernel_rfl)
instance : Cal Tryz.prog 97 := cal_of Tryz.func97 (by kernel_rfl) (by kernel_rfl)
instance : Cal Tryz.prog 99 := cal_of Tryz.func99 (by kernel_rfl) (by kernel_rfl)
instance : Cal Tryz.prog 100 := cal_of Tryz.func100 (by kernel_rfl) (by kernel_rfl)
instance : Cal Tryz.prog 101 := cal_of Tryz.func101 (by kernel_rfl) (by kernel_rfl)
instance : Cal Tryz.prog 102 := cal_of Tryz.func102 (by kernel_rfl) (by kernel_rfl)
instance : Cal Tryz.prog 103 := cal_of Tryz.func103 (by kernel_rfl) (by kernel_rfl)
instance : Cal Tryz.prog 104 := cal_of Tryz.func104 (by kernel_rfl) (by kernel_rfl)
instance : Cal Tryz.prog 105 := cal_of Tryz.func105 (by kernel_rfl) (by kernel_rfl)
instance : Cal Tryz.prog 106 := cal_of Tryz.func106 (by kernel_rfl) (by kernel_rfl)
instance : Cal Tryz.prog 107 := cal_of Tryz.func107 (by kernel_rfl) (by kernel_rfl)
instance : Cal Tryz.prog 108 := cal_of Tryz.func108 (by kernel_rfl) (by kernel_rfl)
instance : Cal Tryz.prog 109 := cal_of Tryz.func109 (by kernel_rfl) (by kernel_rfl)
instance : Cal Tryz.prog 110 := cal_of Tryz.func110 (by kernel_rfl) (by kernel_rfl)
instance : Cal Tryz.prog 111 := cal_of Tryz.func111 (by kernel_rfl) (by kernel_rfl)
instance : Cal Tryz.prog 112 := cal_of Tryz.func112 (by kernel_rfl) (by kernel_rfl)
instance : Cal Tryz.prog 113 := cal_of Tryz.func113 (by kernel_rfl) (by kernel_rfl)
instance : Cal Tryz.prog 114 := cal_of Tryz.func114 (by kernel_rfl) (by kernel_rfl)
instance : Cal Tryz.prog 115 := cal_of Tryz.func115 (by kernel_rfl) (by kernel_rfl)
instance : Cal Tryz.prog 116 := cal_of Tryz.func116 (by kernel_rfl) (by kernel_rfl)
instance : Cal Tryz.prog 117 := cal_of Tryz.func117 (by kernel_rfl) (by kernel_rfl)
instance : Cal Tryz.prog 118 := cal_of Tryz.func118 (by kernel_rfl) (by kernel_rfl)
instance : Cal Tryz.prog 124 := cal_of Tryz.func124 (by kernel_rfl) (by kernel_rfl)
instance : Cal Tryz.prog 125 := cal_of Tryz.func125 (by kernel_rfl) (by kernel_rfl)
instance : Cal Tryz.prog 126 := cal_of Tryz.func126 (by kernel_rfl) (by kernel_rfl)
instance : Cal Tryz.prog 127 := cal_of Tryz.func127 (by kernel_rfl) (by kernel_rfl)
instance : Cal Tryz.prog 128 := cal_of Tryz.func128 (by kernel_rfl) (by kernel_rfl)
instance : Cal Tryz.prog 129 := cal_of Tryz.func129 (by kernel_rfl) (by kernel_rfl)
instance : Cal Tryz.prog 130 := cal_of Tryz.func130 (by kernel_rfl) (by kernel_rfl)
instance : Cal Tryz.prog 131 := cal_of Tryz.func131 (by kernel_rfl) (by kernel_rfl)
instance : Cal Tryz.prog 132 := cal_of Tryz.func132 (by kernel_rfl) (by kernel_rfl)
instance : Cal Tryz.prog 133 := cal_of Tryz.func133 (by kernel_rfl) (by kernel_rfl)
instance : Cal Tryz.prog 161 := cal_of Tryz.func161 (by kernel_rfl) (by kernel_rfl)
end Go.Proofs.YtpgfmfbpmkfbjaaGreat
