/-
  The shapes, sizes and zero values of the types of this program, and its functions, as instances. Written by a program of ours.
-/
import Derived.Test.YticnafofachleaaDoorI
import Derived.Test.YticnafofachleaaDoorProg
namespace Go.Proofs.YticnafofachleaaDoor
open Go
theorem cal_of {P : Program} {f : FuncId} {fn : Func} (hf : P.funcs[f]? = some fn) (hn : (fn.name == "runtime.NumGoroutine") = false) (hb : fn.body.isNone = false) : Cal P f := ⟨fun args w => by
  have hn' : ¬ fn.name = "runtime.NumGoroutine" := by simpa using hn
  have hb' : ¬ fn.body = none := by intro h; rw [h] at hb; cases hb
  simp [callFunc, Sem.run_bind, Result.andThen, hf, hn', hb']⟩
instance : UL Tryd.prog 0 (TypeDesc.tuple #[]) := ⟨Tryd.underlying0⟩
instance : SZ Tryd.prog 0 1 := ⟨by kernel_rfl⟩
instance : BY Tryd.prog 0 0 := ⟨by kernel_rfl⟩
instance : ZC Tryd.prog 0 ([Value.tuple #[]]) := ⟨by kernel_rfl⟩
instance : UL Tryd.prog 1 (TypeDesc.func #[] #[] false) := ⟨Tryd.underlying1⟩
instance : SZ Tryd.prog 1 1 := ⟨by kernel_rfl⟩
instance : BY Tryd.prog 1 8 := ⟨by kernel_rfl⟩
instance : ZC Tryd.prog 1 ([Value.nilFunc]) := ⟨by kernel_rfl⟩
instance : UL Tryd.prog 2 (TypeDesc.int IntKind.i64) := ⟨Tryd.underlying2⟩
instance : SZ Tryd.prog 2 1 := ⟨by kernel_rfl⟩
instance : BY Tryd.prog 2 8 := ⟨by kernel_rfl⟩
instance : ZC Tryd.prog 2 ([Value.int IntKind.i64 0]) := ⟨by kernel_rfl⟩
instance : UL Tryd.prog 3 (TypeDesc.int IntKind.i64) := ⟨Tryd.underlying3⟩
instance : SZ Tryd.prog 3 1 := ⟨by kernel_rfl⟩
instance : BY Tryd.prog 3 8 := ⟨by kernel_rfl⟩
instance : ZC Tryd.prog 3 ([Value.int IntKind.i64 0]) := ⟨by kernel_rfl⟩
instance : UL Tryd.prog 4 (TypeDesc.bool) := ⟨Tryd.underlying4⟩
instance : SZ Tryd.prog 4 1 := ⟨by kernel_rfl⟩
instance : BY Tryd.prog 4 1 := ⟨by kernel_rfl⟩
instance : ZC Tryd.prog 4 ([Value.bool false]) := ⟨by kernel_rfl⟩
instance : UL Tryd.prog 5 (TypeDesc.int IntKind.u8) := ⟨Tryd.underlying5⟩
instance : SZ Tryd.prog 5 1 := ⟨by kernel_rfl⟩
instance : BY Tryd.prog 5 1 := ⟨by kernel_rfl⟩
instance : ZC Tryd.prog 5 ([Value.int IntKind.u8 0]) := ⟨by kernel_rfl⟩
instance : UL Tryd.prog 6 (TypeDesc.int IntKind.u8) := ⟨Tryd.underlying6⟩
instance : SZ Tryd.prog 6 1 := ⟨by kernel_rfl⟩
instance : BY Tryd.prog 6 1 := ⟨by kernel_rfl⟩
instance : ZC Tryd.prog 6 ([Value.int IntKind.u8 0]) := ⟨by kernel_rfl⟩
instance : UL Tryd.prog 7 (TypeDesc.struct #[{ name := "x", type := 2, offset := 0, embedded := false, tag := "", pkgPath := "runtime", byteOffset := 0 }, { name := "y", type := 3, offset := 1, embedded := false, tag := "", pkgPath := "runtime", byteOffset := 8 }, { name := "signed", type := 4, offset := 2, embedded := false, tag := "", pkgPath := "runtime", byteOffset := 16 }, { name := "code", type := 6, offset := 3, embedded := false, tag := "", pkgPath := "runtime", byteOffset := 17 }]) := ⟨Tryd.underlying7⟩
instance : SZ Tryd.prog 7 4 := ⟨by kernel_rfl⟩
instance : BY Tryd.prog 7 24 := ⟨by kernel_rfl⟩
instance : B0 Tryd.prog 7 ([Value.int IntKind.i64 0, Value.int IntKind.i64 0, Value.bool false, Value.int IntKind.u8 0]) := ⟨by kernel_rfl⟩
instance : ZC Tryd.prog 7 ([Value.int IntKind.i64 0, Value.int IntKind.i64 0, Value.bool false, Value.int IntKind.u8 0]) := ⟨by kernel_rfl⟩
instance : BLD Tryd.prog 7 [1, 1, 1, 1] := bld_of Tryd.underlying7 (ZC.out (P := Tryd.prog) (t := 7)) (by kernel_rfl) rfl
instance : F1 Tryd.prog 7 0 := ⟨_, _, _, Tryd.underlying7, rfl, Tryd.underlying2, rfl⟩
instance : FO Tryd.prog 7 0 0 := ⟨_, _, Tryd.underlying7, rfl, rfl, 0, by kernel_rfl⟩
instance : F1 Tryd.prog 7 1 := ⟨_, _, _, Tryd.underlying7, rfl, Tryd.underlying3, rfl⟩
instance : FO Tryd.prog 7 1 1 := ⟨_, _, Tryd.underlying7, rfl, rfl, 0, by kernel_rfl⟩
instance : F1 Tryd.prog 7 2 := ⟨_, _, _, Tryd.underlying7, rfl, Tryd.underlying4, rfl⟩
instance : FO Tryd.prog 7 2 2 := ⟨_, _, Tryd.underlying7, rfl, rfl, 0, by kernel_rfl⟩
instance : F1 Tryd.prog 7 3 := ⟨_, _, _, Tryd.underlying7, rfl, Tryd.underlying6, rfl⟩
instance : FO Tryd.prog 7 3 3 := ⟨_, _, Tryd.underlying7, rfl, rfl, 0, by kernel_rfl⟩
instance : UL Tryd.prog 8 (TypeDesc.struct #[{ name := "x", type := 2, offset := 0, embedded := false, tag := "", pkgPath := "runtime", byteOffset := 0 }, { name := "y", type := 3, offset := 1, embedded := false, tag := "", pkgPath := "runtime", byteOffset := 8 }, { name := "signed", type := 4, offset := 2, embedded := false, tag := "", pkgPath := "runtime", byteOffset := 16 }, { name := "code", type := 6, offset := 3, embedded := false, tag := "", pkgPath := "runtime", byteOffset := 17 }]) := ⟨Tryd.underlying8⟩
instance : SZ Tryd.prog 8 4 := ⟨by kernel_rfl⟩
instance : BY Tryd.prog 8 24 := ⟨by kernel_rfl⟩
instance : B0 Tryd.prog 8 ([Value.int IntKind.i64 0, Value.int IntKind.i64 0, Value.bool false, Value.int IntKind.u8 0]) := ⟨by kernel_rfl⟩
instance : ZC Tryd.prog 8 ([Value.int IntKind.i64 0, Value.int IntKind.i64 0, Value.bool false, Value.int IntKind.u8 0]) := ⟨by kernel_rfl⟩
instance : BLD Tryd.prog 8 [1, 1, 1, 1] := bld_of Tryd.underlying8 (ZC.out (P := Tryd.prog) (t := 8)) (by kernel_rfl) rfl
instance : F1 Tryd.prog 8 0 := ⟨_, _, _, Tryd.underlying8, rfl, Tryd.underlying2, rfl⟩
instance : FO Tryd.prog 8 0 0 := ⟨_, _, Tryd.underlying8, rfl, rfl, 0, by kernel_rfl⟩
instance : F1 Tryd.prog 8 1 := ⟨_, _, _, Tryd.underlying8, rfl, Tryd.underlying3, rfl⟩
instance : FO Tryd.prog 8 1 1 := ⟨_, _, Tryd.underlying8, rfl, rfl, 0, by kernel_rfl⟩
instance : F1 Tryd.prog 8 2 := ⟨_, _, _, Tryd.underlying8, rfl, Tryd.underlying4, rfl⟩
instance : FO Tryd.prog 8 2 2 := ⟨_, _, Tryd.underlying8, rfl, rfl, 0, by kernel_rfl⟩
instance : F1 Tryd.prog 8 3 := ⟨_, _, _, Tryd.underlying8, rfl, Tryd.underlying6, rfl⟩
instance : FO Tryd.prog 8 3 3 := ⟨_, _, Tryd.underlying8, rfl, rfl, 0, by kernel_rfl⟩
instance : UL Tryd.prog 9 (TypeDesc.string) := ⟨Tryd.underlying9⟩
instance : SZ Tryd.prog 9 1 := ⟨by kernel_rfl⟩
instance : BY Tryd.prog 9 16 := ⟨by kernel_rfl⟩
instance : ZC Tryd.prog 9 ([Value.string { data := #[] }]) := ⟨by kernel_rfl⟩
instance : UL Tryd.prog 10 (TypeDesc.string) := ⟨Tryd.underlying10⟩
instance : SZ Tryd.prog 10 1 := ⟨by kernel_rfl⟩
instance : BY Tryd.prog 10 16 := ⟨by kernel_rfl⟩
instance : ZC Tryd.prog 10 ([Value.string { data := #[] }]) := ⟨by kernel_rfl⟩
instance : UL Tryd.prog 11 (TypeDesc.string) := ⟨Tryd.underlying11⟩
instance : SZ Tryd.prog 11 1 := ⟨by kernel_rfl⟩
instance : BY Tryd.prog 11 16 := ⟨by kernel_rfl⟩
instance : ZC Tryd.prog 11 ([Value.string { data := #[] }]) := ⟨by kernel_rfl⟩
instance : UL Tryd.prog 12 (TypeDesc.int IntKind.u64) := ⟨Tryd.underlying12⟩
instance : SZ Tryd.prog 12 1 := ⟨by kernel_rfl⟩
instance : BY Tryd.prog 12 8 := ⟨by kernel_rfl⟩
instance : ZC Tryd.prog 12 ([Value.int IntKind.u64 0]) := ⟨by kernel_rfl⟩
instance : UL Tryd.prog 13 (TypeDesc.struct #[{ name := "msg", type := 9, offset := 0, embedded := false, tag := "", pkgPath := "runtime", byteOffset := 0 }, { name := "addr", type := 12, offset := 1, embedded := false, tag := "", pkgPath := "runtime", byteOffset := 16 }]) := ⟨Tryd.underlying13⟩
instance : SZ Tryd.prog 13 2 := ⟨by kernel_rfl⟩
instance : BY Tryd.prog 13 24 := ⟨by kernel_rfl⟩
instance : B0 Tryd.prog 13 ([Value.string { data := #[] }, Value.int IntKind.u64 0]) := ⟨by kernel_rfl⟩
instance : ZC Tryd.prog 13 ([Value.string { data := #[] }, Value.int IntKind.u64 0]) := ⟨by kernel_rfl⟩
instance : BLD Tryd.prog 13 [1, 1] := bld_of Tryd.underlying13 (ZC.out (P := Tryd.prog) (t := 13)) (by kernel_rfl) rfl
instance : F1 Tryd.prog 13 0 := ⟨_, _, _, Tryd.underlying13, rfl, Tryd.underlying9, rfl⟩
instance : FO Tryd.prog 13 0 0 := ⟨_, _, Tryd.underlying13, rfl, rfl, 0, by kernel_rfl⟩
instance : F1 Tryd.prog 13 1 := ⟨_, _, _, Tryd.underlying13, rfl, Tryd.underlying12, rfl⟩
instance : FO Tryd.prog 13 1 1 := ⟨_, _, Tryd.underlying13, rfl, rfl, 0, by kernel_rfl⟩
instance : UL Tryd.prog 14 (TypeDesc.struct #[{ name := "msg", type := 9, offset := 0, embedded := false, tag := "", pkgPath := "runtime", byteOffset := 0 }, { name := "addr", type := 12, offset := 1, embedded := false, tag := "", pkgPath := "runtime", byteOffset := 16 }]) := ⟨Tryd.underlying14⟩
instance : SZ Tryd.prog 14 2 := ⟨by kernel_rfl⟩
instance : BY Tryd.prog 14 24 := ⟨by kernel_rfl⟩
instance : B0 Tryd.prog 14 ([Value.string { data := #[] }, Value.int IntKind.u64 0]) := ⟨by kernel_rfl⟩
instance : ZC Tryd.prog 14 ([Value.string { data := #[] }, Value.int IntKind.u64 0]) := ⟨by kernel_rfl⟩
instance : BLD Tryd.prog 14 [1, 1] := bld_of Tryd.underlying14 (ZC.out (P := Tryd.prog) (t := 14)) (by kernel_rfl) rfl
instance : F1 Tryd.prog 14 0 := ⟨_, _, _, Tryd.underlying14, rfl, Tryd.underlying9, rfl⟩
instance : FO Tryd.prog 14 0 0 := ⟨_, _, Tryd.underlying14, rfl, rfl, 0, by kernel_rfl⟩
instance : F1 Tryd.prog 14 1 := ⟨_, _, _, Tryd.underlying14, rfl, Tryd.underlying12, rfl⟩
instance : FO Tryd.prog 14 1 1 := ⟨_, _, Tryd.underlying14, rfl, rfl, 0, by kernel_rfl⟩
instance : UL Tryd.prog 15 (TypeDesc.pointer 60) := ⟨Tryd.underlying15⟩
instance : SZ Tryd.prog 15 1 := ⟨by kernel_rfl⟩
instance : BY Tryd.prog 15 8 := ⟨by kernel_rfl⟩
instance : ZC Tryd.prog 15 ([Value.pointer none]) := ⟨by kernel_rfl⟩
instance : UL Tryd.prog 16 (TypeDesc.pointer 63) := ⟨Tryd.underlying16⟩
instance : SZ Tryd.prog 16 1 := ⟨by kernel_rfl⟩
instance : BY Tryd.prog 16 8 := ⟨by kernel_rfl⟩
instance : ZC Tryd.prog 16 ([Value.pointer none]) := ⟨by kernel_rfl⟩
instance : UL Tryd.prog 17 (TypeDesc.pointer 73) := ⟨Tryd.underlying17⟩
instance : SZ Tryd.prog 17 1 := ⟨by kernel_rfl⟩
instance : BY Tryd.prog 17 8 := ⟨by kernel_rfl⟩
instance : ZC Tryd.prog 17 ([Value.pointer none]) := ⟨by kernel_rfl⟩
instance : UL Tryd.prog 18 (TypeDesc.struct #[{ name := "typ", type := 17, offset := 0, embedded := false, tag := "", pkgPath := "internal/runtime/maps", byteOffset := 0 }]) := ⟨Tryd.underlying18⟩
instance : SZ Tryd.prog 18 1 := ⟨by kernel_rfl⟩
instance : BY Tryd.prog 18 8 := ⟨by kernel_rfl⟩
instance : B0 Tryd.prog 18 ([Value.pointer none]) := ⟨by kernel_rfl⟩
instance : ZC Tryd.prog 18 ([Value.pointer none]) := ⟨by kernel_rfl⟩
instance : BLD Tryd.prog 18 [1] := bld_of Tryd.underlying18 (ZC.out (P := Tryd.prog) (t := 18)) (by kernel_rfl) rfl
instance : F1 Tryd.prog 18 0 := ⟨_, _, _, Tryd.underlying18, rfl, Tryd.underlying17, rfl⟩
instance : FO Tryd.prog 18 0 0 := ⟨_, _, Tryd.underlying18, rfl, rfl, 0, by kernel_rfl⟩
instance : UL Tryd.prog 19 (TypeDesc.struct #[{ name := "typ", type := 17, offset := 0, embedded := false, tag := "", pkgPath := "internal/runtime/maps", byteOffset := 0 }]) := ⟨Tryd.underlying19⟩
instance : SZ Tryd.prog 19 1 := ⟨by kernel_rfl⟩
instance : BY Tryd.prog 19 8 := ⟨by kernel_rfl⟩
instance : B0 Tryd.prog 19 ([Value.pointer none]) := ⟨by kernel_rfl⟩
instance : ZC Tryd.prog 19 ([Value.pointer none]) := ⟨by kernel_rfl⟩
instance : BLD Tryd.prog 19 [1] := bld_of Tryd.underlying19 (ZC.out (P := Tryd.prog) (t := 19)) (by kernel_rfl) rfl
instance : F1 Tryd.prog 19 0 := ⟨_, _, _, Tryd.underlying19, rfl, Tryd.underlying17, rfl⟩
instance : FO Tryd.prog 19 0 0 := ⟨_, _, Tryd.underlying19, rfl, rfl, 0, by kernel_rfl⟩
instance : UL Tryd.prog 20 (TypeDesc.interface #[]) := ⟨Tryd.underlying20⟩
instance : SZ Tryd.prog 20 1 := ⟨by kernel_rfl⟩
instance : BY Tryd.prog 20 16 := ⟨by kernel_rfl⟩
instance : ZC Tryd.prog 20 ([Value.nilIface]) := ⟨by kernel_rfl⟩
instance : UL Tryd.prog 21 (TypeDesc.int IntKind.i32) := ⟨Tryd.underlying21⟩
instance : SZ Tryd.prog 21 1 := ⟨by kernel_rfl⟩
instance : BY Tryd.prog 21 4 := ⟨by kernel_rfl⟩
instance : ZC Tryd.prog 21 ([Value.int IntKind.i32 0]) := ⟨by kernel_rfl⟩
instance : UL Tryd.prog 22 (TypeDesc.slice 31) := ⟨Tryd.underlying22⟩
instance : SZ Tryd.prog 22 1 := ⟨by kernel_rfl⟩
instance : BY Tryd.prog 22 24 := ⟨by kernel_rfl⟩
instance : ZC Tryd.prog 22 ([Value.slice none 0 0]) := ⟨by kernel_rfl⟩
instance : UL Tryd.prog 23 (TypeDesc.int IntKind.u64) := ⟨Tryd.underlying23⟩
instance : SZ Tryd.prog 23 1 := ⟨by kernel_rfl⟩
instance : BY Tryd.prog 23 8 := ⟨by kernel_rfl⟩
instance : ZC Tryd.prog 23 ([Value.int IntKind.u64 0]) := ⟨by kernel_rfl⟩
instance : UL Tryd.prog 24 (TypeDesc.array 64 23) := ⟨Tryd.underlying24⟩
instance : SZ Tryd.prog 24 64 := ⟨by kernel_rfl⟩
instance : BY Tryd.prog 24 512 := ⟨by kernel_rfl⟩
instance : EG Tryd.prog 24 := ⟨by kernel_rfl⟩
instance : SH Tryd.prog 24 := ⟨by kernel_rfl⟩
instance : B0 Tryd.prog 24 (List.replicate 64 (Value.int IntKind.u64 0)) := ⟨by kernel_rfl⟩
instance : ZC Tryd.prog 24 (List.replicate 64 (Value.int IntKind.u64 0)) := ⟨by kernel_rfl⟩
instance : UL Tryd.prog 25 (TypeDesc.array 64 23) := ⟨Tryd.underlying25⟩
instance : SZ Tryd.prog 25 64 := ⟨by kernel_rfl⟩
instance : BY Tryd.prog 25 512 := ⟨by kernel_rfl⟩
instance : EG Tryd.prog 25 := ⟨by kernel_rfl⟩
instance : SH Tryd.prog 25 := ⟨by kernel_rfl⟩
instance : B0 Tryd.prog 25 (List.replicate 64 (Value.int IntKind.u64 0)) := ⟨by kernel_rfl⟩
instance : ZC Tryd.prog 25 (List.replicate 64 (Value.int IntKind.u64 0)) := ⟨by kernel_rfl⟩
instance : UL Tryd.prog 26 (TypeDesc.int IntKind.i64) := ⟨Tryd.underlying26⟩
instance : SZ Tryd.prog 26 1 := ⟨by kernel_rfl⟩
instance : BY Tryd.prog 26 8 := ⟨by kernel_rfl⟩
instance : ZC Tryd.prog 26 ([Value.int IntKind.i64 0]) := ⟨by kernel_rfl⟩
instance : UL Tryd.prog 27 (TypeDesc.tuple #[25, 26]) := ⟨Tryd.underlying27⟩
instance : SZ Tryd.prog 27 1 := ⟨by kernel_rfl⟩
instance : BY Tryd.prog 27 0 := ⟨by kernel_rfl⟩
instance : ZC Tryd.prog 27 ([Value.tuple #[Value.agg #[Value.int IntKind.u64 0, Value.int IntKind.u64 0, Value.int IntKind.u64 0, Value.int IntKind.u64 0, Value.int IntKind.u64 0, Value.int IntKind.u64 0, Value.int IntKind.u64 0, Value.int IntKind.u64 0, Value.int IntKind.u64 0, Value.int IntKind.u64 0, Value.int IntKind.u64 0, Value.int IntKind.u64 0, Value.int IntKind.u64 0, Value.int IntKind.u64 0, Value.int IntKind.u64 0, Value.int IntKind.u64 0, Value.int IntKind.u64 0, Value.int IntKind.u64 0, Value.int IntKind.u64 0, Value.int IntKind.u64 0, Value.int IntKind.u64 0, Value.int IntKind.u64 0, Value.int IntKind.u64 0, Value.int IntKind.u64 0, Value.int IntKind.u64 0, Value.int IntKind.u64 0, Value.int IntKind.u64 0, Value.int IntKind.u64 0, Value.int IntKind.u64 0, Value.int IntKind.u64 0, Value.int IntKind.u64 0, Value.int IntKind.u64 0, Value.int IntKind.u64 0, Value.int IntKind.u64 0, Value.int IntKind.u64 0, Value.int IntKind.u64 0, Value.int IntKind.u64 0, Value.int IntKind.u64 0, Value.int IntKind.u64 0, Value.int IntKind.u64 0, Value.int IntKind.u64 0, Value.int IntKind.u64 0, Value.int IntKind.u64 0, Value.int IntKind.u64 0, Value.int IntKind.u64 0, Value.int IntKind.u64 0, Value.int IntKind.u64 0, Value.int IntKind.u64 0, Value.int IntKind.u64 0, Value.int IntKind.u64 0, Value.int IntKind.u64 0, Value.int IntKind.u64 0, Value.int IntKind.u64 0, Value.int IntKind.u64 0, Value.int IntKind.u64 0, Value.int IntKind.u64 0, Value.int IntKind.u64 0, Value.int IntKind.u64 0, Value.int IntKind.u64 0, Value.int IntKind.u64 0, Value.int IntKind.u64 0, Value.int IntKind.u64 0, Value.int IntKind.u64 0, Value.int IntKind.u64 0], Value.int IntKind.i64 0]]) := ⟨by kernel_rfl⟩
instance : UL Tryd.prog 28 (TypeDesc.func #[22] #[25, 26] true) := ⟨Tryd.underlying28⟩
instance : SZ Tryd.prog 28 1 := ⟨by kernel_rfl⟩
instance : BY Tryd.prog 28 8 := ⟨by kernel_rfl⟩
instance : ZC Tryd.prog 28 ([Value.nilFunc]) := ⟨by kernel_rfl⟩
instance : UL Tryd.prog 29 (TypeDesc.func #[22] #[25, 26] false) := ⟨Tryd.underlying29⟩
instance : SZ Tryd.prog 29 1 := ⟨by kernel_rfl⟩
instance : BY Tryd.prog 29 8 := ⟨by kernel_rfl⟩
instance : ZC Tryd.prog 29 ([Value.nilFunc]) := ⟨by kernel_rfl⟩
instance : UL Tryd.prog 30 (TypeDesc.struct #[{ name := "Row", type := 3, offset := 0, embedded := false, tag := "", pkgPath := "", byteOffset := 0 }, { name := "Col", type := 3, offset := 1, embedded := false, tag := "", pkgPath := "", byteOffset := 8 }]) := ⟨Tryd.underlying30⟩
instance : SZ Tryd.prog 30 2 := ⟨by kernel_rfl⟩
instance : BY Tryd.prog 30 16 := ⟨by kernel_rfl⟩
instance : EG Tryd.prog 30 := ⟨by kernel_rfl⟩
instance : SH Tryd.prog 30 := ⟨by kernel_rfl⟩
instance : B0 Tryd.prog 30 ([Value.int IntKind.i64 0, Value.int IntKind.i64 0]) := ⟨by kernel_rfl⟩
instance : ZC Tryd.prog 30 ([Value.int IntKind.i64 0, Value.int IntKind.i64 0]) := ⟨by kernel_rfl⟩
instance : BLD Tryd.prog 30 [1, 1] := bld_of Tryd.underlying30 (ZC.out (P := Tryd.prog) (t := 30)) (by kernel_rfl) rfl
instance : F1 Tryd.prog 30 0 := ⟨_, _, _, Tryd.underlying30, rfl, Tryd.underlying3, rfl⟩
instance : FO Tryd.prog 30 0 0 := ⟨_, _, Tryd.underlying30, rfl, rfl, 0, by kernel_rfl⟩
instance : F1 Tryd.prog 30 1 := ⟨_, _, _, Tryd.underlying30, rfl, Tryd.underlying3, rfl⟩
instance : FO Tryd.prog 30 1 1 := ⟨_, _, Tryd.underlying30, rfl, rfl, 0, by kernel_rfl⟩
instance : UL Tryd.prog 31 (TypeDesc.struct #[{ name := "Row", type := 3, offset := 0, embedded := false, tag := "", pkgPath := "", byteOffset := 0 }, { name := "Col", type := 3, offset := 1, embedded := false, tag := "", pkgPath := "", byteOffset := 8 }]) := ⟨Tryd.underlying31⟩
instance : SZ Tryd.prog 31 2 := ⟨by kernel_rfl⟩
instance : BY Tryd.prog 31 16 := ⟨by kernel_rfl⟩
instance : EG Tryd.prog 31 := ⟨by kernel_rfl⟩
instance : SH Tryd.prog 31 := ⟨by kernel_rfl⟩
instance : B0 Tryd.prog 31 ([Value.int IntKind.i64 0, Value.int IntKind.i64 0]) := ⟨by kernel_rfl⟩
instance : ZC Tryd.prog 31 ([Value.int IntKind.i64 0, Value.int IntKind.i64 0]) := ⟨by kernel_rfl⟩
instance : BLD Tryd.prog 31 [1, 1] := bld_of Tryd.underlying31 (ZC.out (P := Tryd.prog) (t := 31)) (by kernel_rfl) rfl
instance : F1 Tryd.prog 31 0 := ⟨_, _, _, Tryd.underlying31, rfl, Tryd.underlying3, rfl⟩
instance : FO Tryd.prog 31 0 0 := ⟨_, _, Tryd.underlying31, rfl, rfl, 0, by kernel_rfl⟩
instance : F1 Tryd.prog 31 1 := ⟨_, _, _, Tryd.underlying31, rfl, Tryd.underlying3, rfl⟩
instance : FO Tryd.prog 31 1 1 := ⟨_, _, Tryd.underlying31, rfl, rfl, 0, by kernel_rfl⟩
instance : UL Tryd.prog 32 (TypeDesc.func #[25] #[22] false) := ⟨Tryd.underlying32⟩
instance : SZ Tryd.prog 32 1 := ⟨by kernel_rfl⟩
instance : BY Tryd.prog 32 8 := ⟨by kernel_rfl⟩
instance : ZC Tryd.prog 32 ([Value.nilFunc]) := ⟨by kernel_rfl⟩
instance : UL Tryd.prog 33 (TypeDesc.func #[49] #[] false) := ⟨Tryd.underlying33⟩
instance : SZ Tryd.prog 33 1 := ⟨by kernel_rfl⟩
instance : BY Tryd.prog 33 8 := ⟨by kernel_rfl⟩
instance : ZC Tryd.prog 33 ([Value.nilFunc]) := ⟨by kernel_rfl⟩
instance : UL Tryd.prog 34 (TypeDesc.func #[49] #[] false) := ⟨Tryd.underlying34⟩
instance : SZ Tryd.prog 34 1 := ⟨by kernel_rfl⟩
instance : BY Tryd.prog 34 8 := ⟨by kernel_rfl⟩
instance : ZC Tryd.prog 34 ([Value.nilFunc]) := ⟨by kernel_rfl⟩
instance : UL Tryd.prog 35 (TypeDesc.func #[25] #[34] false) := ⟨Tryd.underlying35⟩
instance : SZ Tryd.prog 35 1 := ⟨by kernel_rfl⟩
instance : BY Tryd.prog 35 8 := ⟨by kernel_rfl⟩
instance : ZC Tryd.prog 35 ([Value.nilFunc]) := ⟨by kernel_rfl⟩
instance : UL Tryd.prog 36 (TypeDesc.func #[25] #[3] false) := ⟨Tryd.underlying36⟩
instance : SZ Tryd.prog 36 1 := ⟨by kernel_rfl⟩
instance : BY Tryd.prog 36 8 := ⟨by kernel_rfl⟩
instance : ZC Tryd.prog 36 ([Value.nilFunc]) := ⟨by kernel_rfl⟩
instance : UL Tryd.prog 37 (TypeDesc.func #[] #[4] false) := ⟨Tryd.underlying37⟩
instance : SZ Tryd.prog 37 1 := ⟨by kernel_rfl⟩
instance : BY Tryd.prog 37 8 := ⟨by kernel_rfl⟩
instance : ZC Tryd.prog 37 ([Value.nilFunc]) := ⟨by kernel_rfl⟩
instance : UL Tryd.prog 38 (TypeDesc.func #[22, 3] #[4] false) := ⟨Tryd.underlying38⟩
instance : SZ Tryd.prog 38 1 := ⟨by kernel_rfl⟩
instance : BY Tryd.prog 38 8 := ⟨by kernel_rfl⟩
instance : ZC Tryd.prog 38 ([Value.nilFunc]) := ⟨by kernel_rfl⟩
instance : UL Tryd.prog 39 (TypeDesc.func #[22] #[25] false) := ⟨Tryd.underlying39⟩
instance : SZ Tryd.prog 39 1 := ⟨by kernel_rfl⟩
instance : BY Tryd.prog 39 8 := ⟨by kernel_rfl⟩
instance : ZC Tryd.prog 39 ([Value.nilFunc]) := ⟨by kernel_rfl⟩
instance : UL Tryd.prog 40 (TypeDesc.func #[25, 25] #[25] false) := ⟨Tryd.underlying40⟩
instance : SZ Tryd.prog 40 1 := ⟨by kernel_rfl⟩
instance : BY Tryd.prog 40 8 := ⟨by kernel_rfl⟩
instance : ZC Tryd.prog 40 ([Value.nilFunc]) := ⟨by kernel_rfl⟩
instance : UL Tryd.prog 41 (TypeDesc.func #[25] #[25] false) := ⟨Tryd.underlying41⟩
instance : SZ Tryd.prog 41 1 := ⟨by kernel_rfl⟩
instance : BY Tryd.prog 41 8 := ⟨by kernel_rfl⟩
instance : ZC Tryd.prog 41 ([Value.nilFunc]) := ⟨by kernel_rfl⟩
instance : UL Tryd.prog 42 (TypeDesc.func #[22, 22] #[4] false) := ⟨Tryd.underlying42⟩
instance : SZ Tryd.prog 42 1 := ⟨by kernel_rfl⟩
instance : BY Tryd.prog 42 8 := ⟨by kernel_rfl⟩
instance : ZC Tryd.prog 42 ([Value.nilFunc]) := ⟨by kernel_rfl⟩
instance : UL Tryd.prog 43 (TypeDesc.func #[] #[25] false) := ⟨Tryd.underlying43⟩
instance : SZ Tryd.prog 43 1 := ⟨by kernel_rfl⟩
instance : BY Tryd.prog 43 8 := ⟨by kernel_rfl⟩
instance : ZC Tryd.prog 43 ([Value.nilFunc]) := ⟨by kernel_rfl⟩
instance : UL Tryd.prog 44 (TypeDesc.func #[22, 22, 22] #[4] false) := ⟨Tryd.underlying44⟩
instance : SZ Tryd.prog 44 1 := ⟨by kernel_rfl⟩
instance : BY Tryd.prog 44 8 := ⟨by kernel_rfl⟩
instance : ZC Tryd.prog 44 ([Value.nilFunc]) := ⟨by kernel_rfl⟩
instance : UL Tryd.prog 45 (TypeDesc.int IntKind.u64) := ⟨Tryd.underlying45⟩
instance : SZ Tryd.prog 45 1 := ⟨by kernel_rfl⟩
instance : BY Tryd.prog 45 8 := ⟨by kernel_rfl⟩
instance : ZC Tryd.prog 45 ([Value.int IntKind.u64 0]) := ⟨by kernel_rfl⟩
instance : UL Tryd.prog 46 (TypeDesc.func #[25, 25] #[4] false) := ⟨Tryd.underlying46⟩
instance : SZ Tryd.prog 46 1 := ⟨by kernel_rfl⟩
instance : BY Tryd.prog 46 8 := ⟨by kernel_rfl⟩
instance : ZC Tryd.prog 46 ([Value.nilFunc]) := ⟨by kernel_rfl⟩
instance : UL Tryd.prog 47 (TypeDesc.func #[3] #[4] false) := ⟨Tryd.underlying47⟩
instance : SZ Tryd.prog 47 1 := ⟨by kernel_rfl⟩
instance : BY Tryd.prog 47 8 := ⟨by kernel_rfl⟩
instance : ZC Tryd.prog 47 ([Value.nilFunc]) := ⟨by kernel_rfl⟩
instance : UL Tryd.prog 48 (TypeDesc.func #[25, 3, 3] #[4] false) := ⟨Tryd.underlying48⟩
instance : SZ Tryd.prog 48 1 := ⟨by kernel_rfl⟩
instance : BY Tryd.prog 48 8 := ⟨by kernel_rfl⟩
instance : ZC Tryd.prog 48 ([Value.nilFunc]) := ⟨by kernel_rfl⟩
instance : UL Tryd.prog 49 (TypeDesc.func #[31] #[4] false) := ⟨Tryd.underlying49⟩
instance : SZ Tryd.prog 49 1 := ⟨by kernel_rfl⟩
instance : BY Tryd.prog 49 8 := ⟨by kernel_rfl⟩
instance : ZC Tryd.prog 49 ([Value.nilFunc]) := ⟨by kernel_rfl⟩
instance : UL Tryd.prog 50 (TypeDesc.func #[23] #[3] false) := ⟨Tryd.underlying50⟩
instance : SZ Tryd.prog 50 1 := ⟨by kernel_rfl⟩
instance : BY Tryd.prog 50 8 := ⟨by kernel_rfl⟩
instance : ZC Tryd.prog 50 ([Value.nilFunc]) := ⟨by kernel_rfl⟩
instance : UL Tryd.prog 51 (TypeDesc.tuple #[4, 26]) := ⟨Tryd.underlying51⟩
instance : SZ Tryd.prog 51 1 := ⟨by kernel_rfl⟩
instance : BY Tryd.prog 51 0 := ⟨by kernel_rfl⟩
instance : ZC Tryd.prog 51 ([Value.tuple #[Value.bool false, Value.int IntKind.i64 0]]) := ⟨by kernel_rfl⟩
instance : UL Tryd.prog 52 (TypeDesc.func #[25, 3, 3] #[4, 26] false) := ⟨Tryd.underlying52⟩
instance : SZ Tryd.prog 52 1 := ⟨by kernel_rfl⟩
instance : BY Tryd.prog 52 8 := ⟨by kernel_rfl⟩
instance : ZC Tryd.prog 52 ([Value.nilFunc]) := ⟨by kernel_rfl⟩
instance : UL Tryd.prog 53 (TypeDesc.tuple #[23, 26]) := ⟨Tryd.underlying53⟩
instance : SZ Tryd.prog 53 1 := ⟨by kernel_rfl⟩
instance : BY Tryd.prog 53 0 := ⟨by kernel_rfl⟩
instance : ZC Tryd.prog 53 ([Value.tuple #[Value.int IntKind.u64 0, Value.int IntKind.i64 0]]) := ⟨by kernel_rfl⟩
instance : UL Tryd.prog 54 (TypeDesc.func #[25, 3] #[23, 26] false) := ⟨Tryd.underlying54⟩
instance : SZ Tryd.prog 54 1 := ⟨by kernel_rfl⟩
instance : BY Tryd.prog 54 8 := ⟨by kernel_rfl⟩
instance : ZC Tryd.prog 54 ([Value.nilFunc]) := ⟨by kernel_rfl⟩
instance : UL Tryd.prog 55 (TypeDesc.func #[25, 3, 3] #[25] false) := ⟨Tryd.underlying55⟩
instance : SZ Tryd.prog 55 1 := ⟨by kernel_rfl⟩
instance : BY Tryd.prog 55 8 := ⟨by kernel_rfl⟩
instance : ZC Tryd.prog 55 ([Value.nilFunc]) := ⟨by kernel_rfl⟩
instance : UL Tryd.prog 56 (TypeDesc.slice 3) := ⟨Tryd.underlying56⟩
instance : SZ Tryd.prog 56 1 := ⟨by kernel_rfl⟩
instance : BY Tryd.prog 56 24 := ⟨by kernel_rfl⟩
instance : ZC Tryd.prog 56 ([Value.slice none 0 0]) := ⟨by kernel_rfl⟩
instance : UL Tryd.prog 57 (TypeDesc.array 64 5) := ⟨Tryd.underlying57⟩
instance : SZ Tryd.prog 57 64 := ⟨by kernel_rfl⟩
instance : BY Tryd.prog 57 64 := ⟨by kernel_rfl⟩
instance : EG Tryd.prog 57 := ⟨by kernel_rfl⟩
instance : SH Tryd.prog 57 := ⟨by kernel_rfl⟩
instance : B0 Tryd.prog 57 (List.replicate 64 (Value.int IntKind.u8 0)) := ⟨by kernel_rfl⟩
instance : ZC Tryd.prog 57 (List.replicate 64 (Value.int IntKind.u8 0)) := ⟨by kernel_rfl⟩
instance : UL Tryd.prog 58 (TypeDesc.func #[] #[9] false) := ⟨Tryd.underlying58⟩
instance : SZ Tryd.prog 58 1 := ⟨by kernel_rfl⟩
instance : BY Tryd.prog 58 8 := ⟨by kernel_rfl⟩
instance : ZC Tryd.prog 58 ([Value.nilFunc]) := ⟨by kernel_rfl⟩
instance : UL Tryd.prog 59 (TypeDesc.struct #[{ name := "_interface", type := 17, offset := 0, embedded := false, tag := "", pkgPath := "runtime", byteOffset := 0 }, { name := "concrete", type := 17, offset := 1, embedded := false, tag := "", pkgPath := "runtime", byteOffset := 8 }, { name := "asserted", type := 17, offset := 2, embedded := false, tag := "", pkgPath := "runtime", byteOffset := 16 }, { name := "missingMethod", type := 9, offset := 3, embedded := false, tag := "", pkgPath := "runtime", byteOffset := 24 }]) := ⟨Tryd.underlying59⟩
instance : SZ Tryd.prog 59 4 := ⟨by kernel_rfl⟩
instance : BY Tryd.prog 59 40 := ⟨by kernel_rfl⟩
instance : B0 Tryd.prog 59 ([Value.pointer none, Value.pointer none, Value.pointer none, Value.string { data := #[] }]) := ⟨by kernel_rfl⟩
instance : ZC Tryd.prog 59 ([Value.pointer none, Value.pointer none, Value.pointer none, Value.string { data := #[] }]) := ⟨by kernel_rfl⟩
instance : BLD Tryd.prog 59 [1, 1, 1, 1] := bld_of Tryd.underlying59 (ZC.out (P := Tryd.prog) (t := 59)) (by kernel_rfl) rfl
instance : F1 Tryd.prog 59 0 := ⟨_, _, _, Tryd.underlying59, rfl, Tryd.underlying17, rfl⟩
instance : FO Tryd.prog 59 0 0 := ⟨_, _, Tryd.underlying59, rfl, rfl, 0, by kernel_rfl⟩
instance : F1 Tryd.prog 59 1 := ⟨_, _, _, Tryd.underlying59, rfl, Tryd.underlying17, rfl⟩
instance : FO Tryd.prog 59 1 1 := ⟨_, _, Tryd.underlying59, rfl, rfl, 0, by kernel_rfl⟩
instance : F1 Tryd.prog 59 2 := ⟨_, _, _, Tryd.underlying59, rfl, Tryd.underlying17, rfl⟩
instance : FO Tryd.prog 59 2 2 := ⟨_, _, Tryd.underlying59, rfl, rfl, 0, by kernel_rfl⟩
instance : F1 Tryd.prog 59 3 := ⟨_, _, _, Tryd.underlying59, rfl, Tryd.underlying9, rfl⟩
instance : FO Tryd.prog 59 3 3 := ⟨_, _, Tryd.underlying59, rfl, rfl, 0, by kernel_rfl⟩
instance : UL Tryd.prog 60 (TypeDesc.struct #[{ name := "_interface", type := 17, offset := 0, embedded := false, tag := "", pkgPath := "runtime", byteOffset := 0 }, { name := "concrete", type := 17, offset := 1, embedded := false, tag := "", pkgPath := "runtime", byteOffset := 8 }, { name := "asserted", type := 17, offset := 2, embedded := false, tag := "", pkgPath := "runtime", byteOffset := 16 }, { name := "missingMethod", type := 9, offset := 3, embedded := false, tag := "", pkgPath := "runtime", byteOffset := 24 }]) := ⟨Tryd.underlying60⟩
instance : SZ Tryd.prog 60 4 := ⟨by kernel_rfl⟩
instance : BY Tryd.prog 60 40 := ⟨by kernel_rfl⟩
instance : B0 Tryd.prog 60 ([Value.pointer none, Value.pointer none, Value.pointer none, Value.string { data := #[] }]) := ⟨by kernel_rfl⟩
instance : ZC Tryd.prog 60 ([Value.pointer none, Value.pointer none, Value.pointer none, Value.string { data := #[] }]) := ⟨by kernel_rfl⟩
instance : BLD Tryd.prog 60 [1, 1, 1, 1] := bld_of Tryd.underlying60 (ZC.out (P := Tryd.prog) (t := 60)) (by kernel_rfl) rfl
instance : F1 Tryd.prog 60 0 := ⟨_, _, _, Tryd.underlying60, rfl, Tryd.underlying17, rfl⟩
instance : FO Tryd.prog 60 0 0 := ⟨_, _, Tryd.underlying60, rfl, rfl, 0, by kernel_rfl⟩
instance : F1 Tryd.prog 60 1 := ⟨_, _, _, Tryd.underlying60, rfl, Tryd.underlying17, rfl⟩
instance : FO Tryd.prog 60 1 1 := ⟨_, _, Tryd.underlying60, rfl, rfl, 0, by kernel_rfl⟩
instance : F1 Tryd.prog 60 2 := ⟨_, _, _, Tryd.underlying60, rfl, Tryd.underlying17, rfl⟩
instance : FO Tryd.prog 60 2 2 := ⟨_, _, Tryd.underlying60, rfl, rfl, 0, by kernel_rfl⟩
instance : F1 Tryd.prog 60 3 := ⟨_, _, _, Tryd.underlying60, rfl, Tryd.underlying9, rfl⟩
instance : FO Tryd.prog 60 3 3 := ⟨_, _, Tryd.underlying60, rfl, rfl, 0, by kernel_rfl⟩
instance : UL Tryd.prog 61 (TypeDesc.array 0 16) := ⟨Tryd.underlying61⟩
instance : SZ Tryd.prog 61 0 := ⟨by kernel_rfl⟩
instance : BY Tryd.prog 61 0 := ⟨by kernel_rfl⟩
instance : EG Tryd.prog 61 := ⟨by kernel_rfl⟩
instance : SH Tryd.prog 61 := ⟨by kernel_rfl⟩
instance : B0 Tryd.prog 61 ([]) := ⟨by kernel_rfl⟩
instance : ZC Tryd.prog 61 ([]) := ⟨by kernel_rfl⟩
instance : UL Tryd.prog 62 (TypeDesc.struct #[{ name := "_", type := 61, offset := 0, embedded := false, tag := "", pkgPath := "runtime", byteOffset := 0 }]) := ⟨Tryd.underlying62⟩
instance : SZ Tryd.prog 62 0 := ⟨by kernel_rfl⟩
instance : BY Tryd.prog 62 0 := ⟨by kernel_rfl⟩
instance : B0 Tryd.prog 62 ([]) := ⟨by kernel_rfl⟩
instance : ZC Tryd.prog 62 ([]) := ⟨by kernel_rfl⟩
instance : BLD Tryd.prog 62 [0] := bld_of Tryd.underlying62 (ZC.out (P := Tryd.prog) (t := 62)) (by kernel_rfl) rfl
instance : UL Tryd.prog 63 (TypeDesc.struct #[{ name := "_", type := 61, offset := 0, embedded := false, tag := "", pkgPath := "runtime", byteOffset := 0 }]) := ⟨Tryd.underlying63⟩
instance : SZ Tryd.prog 63 0 := ⟨by kernel_rfl⟩
instance : BY Tryd.prog 63 0 := ⟨by kernel_rfl⟩
instance : B0 Tryd.prog 63 ([]) := ⟨by kernel_rfl⟩
instance : ZC Tryd.prog 63 ([]) := ⟨by kernel_rfl⟩
instance : BLD Tryd.prog 63 [0] := bld_of Tryd.underlying63 (ZC.out (P := Tryd.prog) (t := 63)) (by kernel_rfl) rfl
instance : UL Tryd.prog 64 (TypeDesc.func #[] #[3] false) := ⟨Tryd.underlying64⟩
instance : SZ Tryd.prog 64 1 := ⟨by kernel_rfl⟩
instance : BY Tryd.prog 64 8 := ⟨by kernel_rfl⟩
instance : ZC Tryd.prog 64 ([Value.nilFunc]) := ⟨by kernel_rfl⟩
instance : UL Tryd.prog 65 (TypeDesc.int IntKind.u32) := ⟨Tryd.underlying65⟩
instance : SZ Tryd.prog 65 1 := ⟨by kernel_rfl⟩
instance : BY Tryd.prog 65 4 := ⟨by kernel_rfl⟩
instance : ZC Tryd.prog 65 ([Value.int IntKind.u32 0]) := ⟨by kernel_rfl⟩
instance : UL Tryd.prog 66 (TypeDesc.int IntKind.u8) := ⟨Tryd.underlying66⟩
instance : SZ Tryd.prog 66 1 := ⟨by kernel_rfl⟩
instance : BY Tryd.prog 66 1 := ⟨by kernel_rfl⟩
instance : ZC Tryd.prog 66 ([Value.int IntKind.u8 0]) := ⟨by kernel_rfl⟩
instance : UL Tryd.prog 67 (TypeDesc.int IntKind.u8) := ⟨Tryd.underlying67⟩
instance : SZ Tryd.prog 67 1 := ⟨by kernel_rfl⟩
instance : BY Tryd.prog 67 1 := ⟨by kernel_rfl⟩
instance : ZC Tryd.prog 67 ([Value.int IntKind.u8 0]) := ⟨by kernel_rfl⟩
instance : UL Tryd.prog 68 (TypeDesc.func #[74, 74] #[4] false) := ⟨Tryd.underlying68⟩
instance : SZ Tryd.prog 68 1 := ⟨by kernel_rfl⟩
instance : BY Tryd.prog 68 8 := ⟨by kernel_rfl⟩
instance : ZC Tryd.prog 68 ([Value.nilFunc]) := ⟨by kernel_rfl⟩
instance : UL Tryd.prog 69 (TypeDesc.pointer 5) := ⟨Tryd.underlying69⟩
instance : SZ Tryd.prog 69 1 := ⟨by kernel_rfl⟩
instance : BY Tryd.prog 69 8 := ⟨by kernel_rfl⟩
instance : ZC Tryd.prog 69 ([Value.pointer none]) := ⟨by kernel_rfl⟩
instance : UL Tryd.prog 70 (TypeDesc.int IntKind.i32) := ⟨Tryd.underlying70⟩
instance : SZ Tryd.prog 70 1 := ⟨by kernel_rfl⟩
instance : BY Tryd.prog 70 4 := ⟨by kernel_rfl⟩
instance : ZC Tryd.prog 70 ([Value.int IntKind.i32 0]) := ⟨by kernel_rfl⟩
instance : UL Tryd.prog 71 (TypeDesc.int IntKind.i32) := ⟨Tryd.underlying71⟩
instance : SZ Tryd.prog 71 1 := ⟨by kernel_rfl⟩
instance : BY Tryd.prog 71 4 := ⟨by kernel_rfl⟩
instance : ZC Tryd.prog 71 ([Value.int IntKind.i32 0]) := ⟨by kernel_rfl⟩
instance : UL Tryd.prog 72 (TypeDesc.struct #[{ name := "Size_", type := 12, offset := 0, embedded := false, tag := "", pkgPath := "", byteOffset := 0 }, { name := "PtrBytes", type := 12, offset := 1, embedded := false, tag := "", pkgPath := "", byteOffset := 8 }, { name := "Hash", type := 65, offset := 2, embedded := false, tag := "", pkgPath := "", byteOffset := 16 }, { name := "TFlag", type := 66, offset := 3, embedded := false, tag := "", pkgPath := "", byteOffset := 20 }, { name := "Align_", type := 5, offset := 4, embedded := false, tag := "", pkgPath := "", byteOffset := 21 }, { name := "FieldAlign_", type := 5, offset := 5, embedded := false, tag := "", pkgPath := "", byteOffset := 22 }, { name := "Kind_", type := 67, offset := 6, embedded := false, tag := "", pkgPath := "", byteOffset := 23 }, { name := "Equal", type := 68, offset := 7, embedded := false, tag := "", pkgPath := "", byteOffset := 24 }, { name := "GCData", type := 69, offset := 8, embedded := false, tag := "", pkgPath := "", byteOffset := 32 }, { name := "Str", type := 70, offset := 9, embedded := false, tag := "", pkgPath := "", byteOffset := 40 }, { name := "PtrToThis", type := 71, offset := 10, embedded := false, tag := "", pkgPath := "", byteOffset := 44 }]) := ⟨Tryd.underlying72⟩
instance : SZ Tryd.prog 72 11 := ⟨by kernel_rfl⟩
instance : BY Tryd.prog 72 48 := ⟨by kernel_rfl⟩
instance : B0 Tryd.prog 72 (List.replicate 2 (Value.int IntKind.u64 0) ++ [Value.int IntKind.u32 0] ++ List.replicate 4 (Value.int IntKind.u8 0) ++ [Value.nilFunc] ++ [Value.pointer none] ++ List.replicate 2 (Value.int IntKind.i32 0)) := ⟨by kernel_rfl⟩
instance : ZC Tryd.prog 72 (List.replicate 2 (Value.int IntKind.u64 0) ++ [Value.int IntKind.u32 0] ++ List.replicate 4 (Value.int IntKind.u8 0) ++ [Value.nilFunc] ++ [Value.pointer none] ++ List.replicate 2 (Value.int IntKind.i32 0)) := ⟨by kernel_rfl⟩
instance : BLD Tryd.prog 72 [1, 1, 1, 1, 1, 1, 1, 1, 1, 1, 1] := bld_of Tryd.underlying72 (ZC.out (P := Tryd.prog) (t := 72)) (by kernel_rfl) rfl
instance : F1 Tryd.prog 72 0 := ⟨_, _, _, Tryd.underlying72, rfl, Tryd.underlying12, rfl⟩
instance : FO Tryd.prog 72 0 0 := ⟨_, _, Tryd.underlying72, rfl, rfl, 0, by kernel_rfl⟩
instance : F1 Tryd.prog 72 1 := ⟨_, _, _, Tryd.underlying72, rfl, Tryd.underlying12, rfl⟩
instance : FO Tryd.prog 72 1 1 := ⟨_, _, Tryd.underlying72, rfl, rfl, 0, by kernel_rfl⟩
instance : F1 Tryd.prog 72 2 := ⟨_, _, _, Tryd.underlying72, rfl, Tryd.underlying65, rfl⟩
instance : FO Tryd.prog 72 2 2 := ⟨_, _, Tryd.underlying72, rfl, rfl, 0, by kernel_rfl⟩
instance : F1 Tryd.prog 72 3 := ⟨_, _, _, Tryd.underlying72, rfl, Tryd.underlying66, rfl⟩
instance : FO Tryd.prog 72 3 3 := ⟨_, _, Tryd.underlying72, rfl, rfl, 0, by kernel_rfl⟩
instance : F1 Tryd.prog 72 4 := ⟨_, _, _, Tryd.underlying72, rfl, Tryd.underlying5, rfl⟩
instance : FO Tryd.prog 72 4 4 := ⟨_, _, Tryd.underlying72, rfl, rfl, 0, by kernel_rfl⟩
instance : F1 Tryd.prog 72 5 := ⟨_, _, _, Tryd.underlying72, rfl, Tryd.underlying5, rfl⟩
instance : FO Tryd.prog 72 5 5 := ⟨_, _, Tryd.underlying72, rfl, rfl, 0, by kernel_rfl⟩
instance : F1 Tryd.prog 72 6 := ⟨_, _, _, Tryd.underlying72, rfl, Tryd.underlying67, rfl⟩
instance : FO Tryd.prog 72 6 6 := ⟨_, _, Tryd.underlying72, rfl, rfl, 0, by kernel_rfl⟩
instance : F1 Tryd.prog 72 7 := ⟨_, _, _, Tryd.underlying72, rfl, Tryd.underlying68, rfl⟩
instance : FO Tryd.prog 72 7 7 := ⟨_, _, Tryd.underlying72, rfl, rfl, 0, by kernel_rfl⟩
instance : F1 Tryd.prog 72 8 := ⟨_, _, _, Tryd.underlying72, rfl, Tryd.underlying69, rfl⟩
instance : FO Tryd.prog 72 8 8 := ⟨_, _, Tryd.underlying72, rfl, rfl, 0, by kernel_rfl⟩
instance : F1 Tryd.prog 72 9 := ⟨_, _, _, Tryd.underlying72, rfl, Tryd.underlying70, rfl⟩
instance : FO Tryd.prog 72 9 9 := ⟨_, _, Tryd.underlying72, rfl, rfl, 0, by kernel_rfl⟩
instance : F1 Tryd.prog 72 10 := ⟨_, _, _, Tryd.underlying72, rfl, Tryd.underlying71, rfl⟩
instance : FO Tryd.prog 72 10 10 := ⟨_, _, Tryd.underlying72, rfl, rfl, 0, by kernel_rfl⟩
instance : UL Tryd.prog 73 (TypeDesc.struct #[{ name := "Size_", type := 12, offset := 0, embedded := false, tag := "", pkgPath := "", byteOffset := 0 }, { name := "PtrBytes", type := 12, offset := 1, embedded := false, tag := "", pkgPath := "", byteOffset := 8 }, { name := "Hash", type := 65, offset := 2, embedded := false, tag := "", pkgPath := "", byteOffset := 16 }, { name := "TFlag", type := 66, offset := 3, embedded := false, tag := "", pkgPath := "", byteOffset := 20 }, { name := "Align_", type := 5, offset := 4, embedded := false, tag := "", pkgPath := "", byteOffset := 21 }, { name := "FieldAlign_", type := 5, offset := 5, embedded := false, tag := "", pkgPath := "", byteOffset := 22 }, { name := "Kind_", type := 67, offset := 6, embedded := false, tag := "", pkgPath := "", byteOffset := 23 }, { name := "Equal", type := 68, offset := 7, embedded := false, tag := "", pkgPath := "", byteOffset := 24 }, { name := "GCData", type := 69, offset := 8, embedded := false, tag := "", pkgPath := "", byteOffset := 32 }, { name := "Str", type := 70, offset := 9, embedded := false, tag := "", pkgPath := "", byteOffset := 40 }, { name := "PtrToThis", type := 71, offset := 10, embedded := false, tag := "", pkgPath := "", byteOffset := 44 }]) := ⟨Tryd.underlying73⟩
instance : SZ Tryd.prog 73 11 := ⟨by kernel_rfl⟩
instance : BY Tryd.prog 73 48 := ⟨by kernel_rfl⟩
instance : B0 Tryd.prog 73 (List.replicate 2 (Value.int IntKind.u64 0) ++ [Value.int IntKind.u32 0] ++ List.replicate 4 (Value.int IntKind.u8 0) ++ [Value.nilFunc] ++ [Value.pointer none] ++ List.replicate 2 (Value.int IntKind.i32 0)) := ⟨by kernel_rfl⟩
instance : ZC Tryd.prog 73 (List.replicate 2 (Value.int IntKind.u64 0) ++ [Value.int IntKind.u32 0] ++ List.replicate 4 (Value.int IntKind.u8 0) ++ [Value.nilFunc] ++ [Value.pointer none] ++ List.replicate 2 (Value.int IntKind.i32 0)) := ⟨by kernel_rfl⟩
instance : BLD Tryd.prog 73 [1, 1, 1, 1, 1, 1, 1, 1, 1, 1, 1] := bld_of Tryd.underlying73 (ZC.out (P := Tryd.prog) (t := 73)) (by kernel_rfl) rfl
instance : F1 Tryd.prog 73 0 := ⟨_, _, _, Tryd.underlying73, rfl, Tryd.underlying12, rfl⟩
instance : FO Tryd.prog 73 0 0 := ⟨_, _, Tryd.underlying73, rfl, rfl, 0, by kernel_rfl⟩
instance : F1 Tryd.prog 73 1 := ⟨_, _, _, Tryd.underlying73, rfl, Tryd.underlying12, rfl⟩
instance : FO Tryd.prog 73 1 1 := ⟨_, _, Tryd.underlying73, rfl, rfl, 0, by kernel_rfl⟩
instance : F1 Tryd.prog 73 2 := ⟨_, _, _, Tryd.underlying73, rfl, Tryd.underlying65, rfl⟩
instance : FO Tryd.prog 73 2 2 := ⟨_, _, Tryd.underlying73, rfl, rfl, 0, by kernel_rfl⟩
instance : F1 Tryd.prog 73 3 := ⟨_, _, _, Tryd.underlying73, rfl, Tryd.underlying66, rfl⟩
instance : FO Tryd.prog 73 3 3 := ⟨_, _, Tryd.underlying73, rfl, rfl, 0, by kernel_rfl⟩
instance : F1 Tryd.prog 73 4 := ⟨_, _, _, Tryd.underlying73, rfl, Tryd.underlying5, rfl⟩
instance : FO Tryd.prog 73 4 4 := ⟨_, _, Tryd.underlying73, rfl, rfl, 0, by kernel_rfl⟩
instance : F1 Tryd.prog 73 5 := ⟨_, _, _, Tryd.underlying73, rfl, Tryd.underlying5, rfl⟩
instance : FO Tryd.prog 73 5 5 := ⟨_, _, Tryd.underlying73, rfl, rfl, 0, by kernel_rfl⟩
instance : F1 Tryd.prog 73 6 := ⟨_, _, _, Tryd.underlying73, rfl, Tryd.underlying67, rfl⟩
instance : FO Tryd.prog 73 6 6 := ⟨_, _, Tryd.underlying73, rfl, rfl, 0, by kernel_rfl⟩
instance : F1 Tryd.prog 73 7 := ⟨_, _, _, Tryd.underlying73, rfl, Tryd.underlying68, rfl⟩
instance : FO Tryd.prog 73 7 7 := ⟨_, _, Tryd.underlying73, rfl, rfl, 0, by kernel_rfl⟩
instance : F1 Tryd.prog 73 8 := ⟨_, _, _, Tryd.underlying73, rfl, Tryd.underlying69, rfl⟩
instance : FO Tryd.prog 73 8 8 := ⟨_, _, Tryd.underlying73, rfl, rfl, 0, by kernel_rfl⟩
instance : F1 Tryd.prog 73 9 := ⟨_, _, _, Tryd.underlying73, rfl, Tryd.underlying70, rfl⟩
instance : FO Tryd.prog 73 9 9 := ⟨_, _, Tryd.underlying73, rfl, rfl, 0, by kernel_rfl⟩
instance : F1 Tryd.prog 73 10 := ⟨_, _, _, Tryd.underlying73, rfl, Tryd.underlying71, rfl⟩
instance : FO Tryd.prog 73 10 10 := ⟨_, _, Tryd.underlying73, rfl, rfl, 0, by kernel_rfl⟩
instance : UL Tryd.prog 74 (TypeDesc.unsafePointer) := ⟨Tryd.underlying74⟩
instance : SZ Tryd.prog 74 1 := ⟨by kernel_rfl⟩
instance : BY Tryd.prog 74 8 := ⟨by kernel_rfl⟩
instance : ZC Tryd.prog 74 ([Value.pointer none]) := ⟨by kernel_rfl⟩
instance : Cal Tryd.prog 2 := cal_of Tryd.func2 (by kernel_rfl) (by kernel_rfl)
instance : Cal Tryd.prog 3 := cal_of Tryd.func3 (by kernel_rfl) (by kernel_rfl)
instance : Cal Tryd.prog 4 := cal_of Tryd.func4 (by kernel_rfl) (by kernel_rfl)
instance : Cal Tryd.prog 5 := cal_of Tryd.func5 (by kernel_rfl) (by kernel_rfl)
instance : Cal Tryd.prog 6 := cal_of Tryd.func6 (by kernel_rfl) (by kernel_rfl)
instance : Cal Tryd.prog 7 := cal_of Tryd.func7 (by kernel_rfl) (by kernel_rfl)
instance : Cal Tryd.prog 8 := cal_of Tryd.func8 (by kernel_rfl) (by kernel_rfl)
instance : Cal Tryd.prog 9 := cal_of Tryd.func9 (by kernel_rfl) (by kernel_rfl)
instance : Cal Tryd.prog 10 := cal_of Tryd.func10 (by kernel_rfl) (by kernel_rfl)
instance : Cal Tryd.prog 11 := cal_of Tryd.func11 (by kernel_rfl) (by kernel_rfl)
instance : Cal Tryd.prog 12 := cal_of Tryd.func12 (by kernel_rfl) (by kernel_rfl)
instance : Cal Tryd.prog 13 := cal_of Tryd.func13 (by kernel_rfl) (by kernel_rfl)
instance : Cal Tryd.prog 14 := cal_of Tryd.func14 (by kernel_rfl) (by kernel_rfl)
instance : Cal Tryd.prog 15 := cal_of Tryd.func15 (by kernel_rfl) (by kernel_rfl)
instance : Cal Tryd.prog 16 := cal_of Tryd.func16 (by kernel_rfl) (by kernel_rfl)
instance : Cal Tryd.prog 17 := cal_of Tryd.func17 (by kernel_rfl) (by kernel_rfl)
instance : Cal Tryd.prog 18 := cal_of Tryd.func18 (by kernel_rfl) (by kernel_rfl)
instance : Cal Tryd.prog 19 := cal_of Tryd.func19 (by kernel_rfl) (by kernel_rfl)
instance : Cal Tryd.prog 20 := cal_of Tryd.func20 (by kernel_rfl) (by kernel_rfl)
instance : Cal Tryd.prog 21 := cal_of Tryd.func21 (by kernel_rfl) (by kernel_rfl)
instance : Cal Tryd.prog 22 := cal_of Tryd.func22 (by kernel_rfl) (by kernel_rfl)
instance : Cal Tryd.prog 23 := cal_of Tryd.func23 (by kernel_rfl) (by kernel_rfl)
instance : Cal Tryd.prog 24 := cal_of Tryd.func24 (by kernel_rfl) (by kernel_rfl)
instance : Cal Tryd.prog 25 := cal_of Tryd.func25 (by kernel_rfl) (by kernel_rfl)
instance : Cal Tryd.prog 26 := cal_of Tryd.func26 (by kernel_rfl) (by kernel_rfl)
instance : Cal Tryd.prog 27 := cal_of Tryd.func27 (by kernel_rfl) (by kernel_rfl)
instance : Cal Tryd.prog 28 := cal_of Tryd.func28 (by kernel_rfl) (by kernel_rfl)
instance : Cal Tryd.prog 29 := cal_of Tryd.func29 (by kernel_rfl) (by kernel_rfl)
instance : Cal Tryd.prog 30 := cal_of Tryd.func30 (by kernel_rfl) (by kernel_rfl)
instance : Cal Tryd.prog 31 := cal_of Tryd.func31 (by kernel_rfl) (by kernel_rfl)
instance : Cal Tryd.prog 52 := cal_of Tryd.func52 (by kernel_rfl) (by kernel_rfl)
end Go.Proofs.YticnafofachleaaDoor
