/-
  The shapes, sizes and zero values of the types of this program, and its functions, as instances. Written by a program of ours.
-/
import Derived.Test.YticnafofachleaaI
import Derived.Test.YticnafofachleaaProg
namespace Go.Proofs.Yticnafofachleaa
open Go
theorem cal_of {P : Program} {f : FuncId} {fn : Func} (hf : P.funcs[f]? = some fn) (hn : (fn.name == "runtime.NumGoroutine") = false) (hb : fn.body.isNone = false) : Cal P f := ⟨fun args w => by
  have hn' : ¬ fn.name = "runtime.NumGoroutine" := by simpa using hn
  have hb' : ¬ fn.body = none := by intro h; rw [h] at hb; cases hb
  simp [callFunc, Sem.run_bind, Result.andThen, hf, hn', hb']⟩
instance : UL Try.prog 0 (TypeDesc.tuple #[]) := ⟨Try.underlying0⟩
instance : SZ Try.prog 0 1 := ⟨by kernel_rfl⟩
instance : BY Try.prog 0 0 := ⟨by kernel_rfl⟩
instance : ZC Try.prog 0 ([Value.tuple #[]]) := ⟨by kernel_rfl⟩
instance : UL Try.prog 1 (TypeDesc.func #[] #[] false) := ⟨Try.underlying1⟩
instance : SZ Try.prog 1 1 := ⟨by kernel_rfl⟩
instance : BY Try.prog 1 8 := ⟨by kernel_rfl⟩
instance : ZC Try.prog 1 ([Value.nilFunc]) := ⟨by kernel_rfl⟩
instance : UL Try.prog 2 (TypeDesc.int IntKind.i64) := ⟨Try.underlying2⟩
instance : SZ Try.prog 2 1 := ⟨by kernel_rfl⟩
instance : BY Try.prog 2 8 := ⟨by kernel_rfl⟩
instance : ZC Try.prog 2 ([Value.int IntKind.i64 0]) := ⟨by kernel_rfl⟩
instance : UL Try.prog 3 (TypeDesc.int IntKind.i64) := ⟨Try.underlying3⟩
instance : SZ Try.prog 3 1 := ⟨by kernel_rfl⟩
instance : BY Try.prog 3 8 := ⟨by kernel_rfl⟩
instance : ZC Try.prog 3 ([Value.int IntKind.i64 0]) := ⟨by kernel_rfl⟩
instance : UL Try.prog 4 (TypeDesc.bool) := ⟨Try.underlying4⟩
instance : SZ Try.prog 4 1 := ⟨by kernel_rfl⟩
instance : BY Try.prog 4 1 := ⟨by kernel_rfl⟩
instance : ZC Try.prog 4 ([Value.bool false]) := ⟨by kernel_rfl⟩
instance : UL Try.prog 5 (TypeDesc.int IntKind.u8) := ⟨Try.underlying5⟩
instance : SZ Try.prog 5 1 := ⟨by kernel_rfl⟩
instance : BY Try.prog 5 1 := ⟨by kernel_rfl⟩
instance : ZC Try.prog 5 ([Value.int IntKind.u8 0]) := ⟨by kernel_rfl⟩
instance : UL Try.prog 6 (TypeDesc.int IntKind.u8) := ⟨Try.underlying6⟩
instance : SZ Try.prog 6 1 := ⟨by kernel_rfl⟩
instance : BY Try.prog 6 1 := ⟨by kernel_rfl⟩
instance : ZC Try.prog 6 ([Value.int IntKind.u8 0]) := ⟨by kernel_rfl⟩
instance : UL Try.prog 7 (TypeDesc.struct #[{ name := "x", type := 2, offset := 0, embedded := false, tag := "", pkgPath := "runtime", byteOffset := 0 }, { name := "y", type := 3, offset := 1, embedded := false, tag := "", pkgPath := "runtime", byteOffset := 8 }, { name := "signed", type := 4, offset := 2, embedded := false, tag := "", pkgPath := "runtime", byteOffset := 16 }, { name := "code", type := 6, offset := 3, embedded := false, tag := "", pkgPath := "runtime", byteOffset := 17 }]) := ⟨Try.underlying7⟩
instance : SZ Try.prog 7 4 := ⟨by kernel_rfl⟩
instance : BY Try.prog 7 24 := ⟨by kernel_rfl⟩
instance : B0 Try.prog 7 ([Value.int IntKind.i64 0, Value.int IntKind.i64 0, Value.bool false, Value.int IntKind.u8 0]) := ⟨by kernel_rfl⟩
instance : ZC Try.prog 7 ([Value.int IntKind.i64 0, Value.int IntKind.i64 0, Value.bool false, Value.int IntKind.u8 0]) := ⟨by kernel_rfl⟩
instance : BLD Try.prog 7 [1, 1, 1, 1] := bld_of Try.underlying7 (ZC.out (P := Try.prog) (t := 7)) (by kernel_rfl) rfl
instance : F1 Try.prog 7 0 := ⟨_, _, _, Try.underlying7, rfl, Try.underlying2, rfl⟩
instance : FO Try.prog 7 0 0 := ⟨_, _, Try.underlying7, rfl, rfl, 0, by kernel_rfl⟩
instance : F1 Try.prog 7 1 := ⟨_, _, _, Try.underlying7, rfl, Try.underlying3, rfl⟩
instance : FO Try.prog 7 1 1 := ⟨_, _, Try.underlying7, rfl, rfl, 0, by kernel_rfl⟩
instance : F1 Try.prog 7 2 := ⟨_, _, _, Try.underlying7, rfl, Try.underlying4, rfl⟩
instance : FO Try.prog 7 2 2 := ⟨_, _, Try.underlying7, rfl, rfl, 0, by kernel_rfl⟩
instance : F1 Try.prog 7 3 := ⟨_, _, _, Try.underlying7, rfl, Try.underlying6, rfl⟩
instance : FO Try.prog 7 3 3 := ⟨_, _, Try.underlying7, rfl, rfl, 0, by kernel_rfl⟩
instance : UL Try.prog 8 (TypeDesc.struct #[{ name := "x", type := 2, offset := 0, embedded := false, tag := "", pkgPath := "runtime", byteOffset := 0 }, { name := "y", type := 3, offset := 1, embedded := false, tag := "", pkgPath := "runtime", byteOffset := 8 }, { name := "signed", type := 4, offset := 2, embedded := false, tag := "", pkgPath := "runtime", byteOffset := 16 }, { name := "code", type := 6, offset := 3, embedded := false, tag := "", pkgPath := "runtime", byteOffset := 17 }]) := ⟨Try.underlying8⟩
instance : SZ Try.prog 8 4 := ⟨by kernel_rfl⟩
instance : BY Try.prog 8 24 := ⟨by kernel_rfl⟩
instance : B0 Try.prog 8 ([Value.int IntKind.i64 0, Value.int IntKind.i64 0, Value.bool false, Value.int IntKind.u8 0]) := ⟨by kernel_rfl⟩
instance : ZC Try.prog 8 ([Value.int IntKind.i64 0, Value.int IntKind.i64 0, Value.bool false, Value.int IntKind.u8 0]) := ⟨by kernel_rfl⟩
instance : BLD Try.prog 8 [1, 1, 1, 1] := bld_of Try.underlying8 (ZC.out (P := Try.prog) (t := 8)) (by kernel_rfl) rfl
instance : F1 Try.prog 8 0 := ⟨_, _, _, Try.underlying8, rfl, Try.underlying2, rfl⟩
instance : FO Try.prog 8 0 0 := ⟨_, _, Try.underlying8, rfl, rfl, 0, by kernel_rfl⟩
instance : F1 Try.prog 8 1 := ⟨_, _, _, Try.underlying8, rfl, Try.underlying3, rfl⟩
instance : FO Try.prog 8 1 1 := ⟨_, _, Try.underlying8, rfl, rfl, 0, by kernel_rfl⟩
instance : F1 Try.prog 8 2 := ⟨_, _, _, Try.underlying8, rfl, Try.underlying4, rfl⟩
instance : FO Try.prog 8 2 2 := ⟨_, _, Try.underlying8, rfl, rfl, 0, by kernel_rfl⟩
instance : F1 Try.prog 8 3 := ⟨_, _, _, Try.underlying8, rfl, Try.underlying6, rfl⟩
instance : FO Try.prog 8 3 3 := ⟨_, _, Try.underlying8, rfl, rfl, 0, by kernel_rfl⟩
instance : UL Try.prog 9 (TypeDesc.string) := ⟨Try.underlying9⟩
instance : SZ Try.prog 9 1 := ⟨by kernel_rfl⟩
instance : BY Try.prog 9 16 := ⟨by kernel_rfl⟩
instance : ZC Try.prog 9 ([Value.string { data := #[] }]) := ⟨by kernel_rfl⟩
instance : UL Try.prog 10 (TypeDesc.string) := ⟨Try.underlying10⟩
instance : SZ Try.prog 10 1 := ⟨by kernel_rfl⟩
instance : BY Try.prog 10 16 := ⟨by kernel_rfl⟩
instance : ZC Try.prog 10 ([Value.string { data := #[] }]) := ⟨by kernel_rfl⟩
instance : UL Try.prog 11 (TypeDesc.string) := ⟨Try.underlying11⟩
instance : SZ Try.prog 11 1 := ⟨by kernel_rfl⟩
instance : BY Try.prog 11 16 := ⟨by kernel_rfl⟩
instance : ZC Try.prog 11 ([Value.string { data := #[] }]) := ⟨by kernel_rfl⟩
instance : UL Try.prog 12 (TypeDesc.int IntKind.u64) := ⟨Try.underlying12⟩
instance : SZ Try.prog 12 1 := ⟨by kernel_rfl⟩
instance : BY Try.prog 12 8 := ⟨by kernel_rfl⟩
instance : ZC Try.prog 12 ([Value.int IntKind.u64 0]) := ⟨by kernel_rfl⟩
instance : UL Try.prog 13 (TypeDesc.struct #[{ name := "msg", type := 9, offset := 0, embedded := false, tag := "", pkgPath := "runtime", byteOffset := 0 }, { name := "addr", type := 12, offset := 1, embedded := false, tag := "", pkgPath := "runtime", byteOffset := 16 }]) := ⟨Try.underlying13⟩
instance : SZ Try.prog 13 2 := ⟨by kernel_rfl⟩
instance : BY Try.prog 13 24 := ⟨by kernel_rfl⟩
instance : B0 Try.prog 13 ([Value.string { data := #[] }, Value.int IntKind.u64 0]) := ⟨by kernel_rfl⟩
instance : ZC Try.prog 13 ([Value.string { data := #[] }, Value.int IntKind.u64 0]) := ⟨by kernel_rfl⟩
instance : BLD Try.prog 13 [1, 1] := bld_of Try.underlying13 (ZC.out (P := Try.prog) (t := 13)) (by kernel_rfl) rfl
instance : F1 Try.prog 13 0 := ⟨_, _, _, Try.underlying13, rfl, Try.underlying9, rfl⟩
instance : FO Try.prog 13 0 0 := ⟨_, _, Try.underlying13, rfl, rfl, 0, by kernel_rfl⟩
instance : F1 Try.prog 13 1 := ⟨_, _, _, Try.underlying13, rfl, Try.underlying12, rfl⟩
instance : FO Try.prog 13 1 1 := ⟨_, _, Try.underlying13, rfl, rfl, 0, by kernel_rfl⟩
instance : UL Try.prog 14 (TypeDesc.struct #[{ name := "msg", type := 9, offset := 0, embedded := false, tag := "", pkgPath := "runtime", byteOffset := 0 }, { name := "addr", type := 12, offset := 1, embedded := false, tag := "", pkgPath := "runtime", byteOffset := 16 }]) := ⟨Try.underlying14⟩
instance : SZ Try.prog 14 2 := ⟨by kernel_rfl⟩
instance : BY Try.prog 14 24 := ⟨by kernel_rfl⟩
instance : B0 Try.prog 14 ([Value.string { data := #[] }, Value.int IntKind.u64 0]) := ⟨by kernel_rfl⟩
instance : ZC Try.prog 14 ([Value.string { data := #[] }, Value.int IntKind.u64 0]) := ⟨by kernel_rfl⟩
instance : BLD Try.prog 14 [1, 1] := bld_of Try.underlying14 (ZC.out (P := Try.prog) (t := 14)) (by kernel_rfl) rfl
instance : F1 Try.prog 14 0 := ⟨_, _, _, Try.underlying14, rfl, Try.underlying9, rfl⟩
instance : FO Try.prog 14 0 0 := ⟨_, _, Try.underlying14, rfl, rfl, 0, by kernel_rfl⟩
instance : F1 Try.prog 14 1 := ⟨_, _, _, Try.underlying14, rfl, Try.underlying12, rfl⟩
instance : FO Try.prog 14 1 1 := ⟨_, _, Try.underlying14, rfl, rfl, 0, by kernel_rfl⟩
instance : UL Try.prog 15 (TypeDesc.pointer 55) := ⟨Try.underlying15⟩
instance : SZ Try.prog 15 1 := ⟨by kernel_rfl⟩
instance : BY Try.prog 15 8 := ⟨by kernel_rfl⟩
instance : ZC Try.prog 15 ([Value.pointer none]) := ⟨by kernel_rfl⟩
instance : UL Try.prog 16 (TypeDesc.pointer 58) := ⟨Try.underlying16⟩
instance : SZ Try.prog 16 1 := ⟨by kernel_rfl⟩
instance : BY Try.prog 16 8 := ⟨by kernel_rfl⟩
instance : ZC Try.prog 16 ([Value.pointer none]) := ⟨by kernel_rfl⟩
instance : UL Try.prog 17 (TypeDesc.pointer 68) := ⟨Try.underlying17⟩
instance : SZ Try.prog 17 1 := ⟨by kernel_rfl⟩
instance : BY Try.prog 17 8 := ⟨by kernel_rfl⟩
instance : ZC Try.prog 17 ([Value.pointer none]) := ⟨by kernel_rfl⟩
instance : UL Try.prog 18 (TypeDesc.struct #[{ name := "typ", type := 17, offset := 0, embedded := false, tag := "", pkgPath := "internal/runtime/maps", byteOffset := 0 }]) := ⟨Try.underlying18⟩
instance : SZ Try.prog 18 1 := ⟨by kernel_rfl⟩
instance : BY Try.prog 18 8 := ⟨by kernel_rfl⟩
instance : B0 Try.prog 18 ([Value.pointer none]) := ⟨by kernel_rfl⟩
instance : ZC Try.prog 18 ([Value.pointer none]) := ⟨by kernel_rfl⟩
instance : BLD Try.prog 18 [1] := bld_of Try.underlying18 (ZC.out (P := Try.prog) (t := 18)) (by kernel_rfl) rfl
instance : F1 Try.prog 18 0 := ⟨_, _, _, Try.underlying18, rfl, Try.underlying17, rfl⟩
instance : FO Try.prog 18 0 0 := ⟨_, _, Try.underlying18, rfl, rfl, 0, by kernel_rfl⟩
instance : UL Try.prog 19 (TypeDesc.struct #[{ name := "typ", type := 17, offset := 0, embedded := false, tag := "", pkgPath := "internal/runtime/maps", byteOffset := 0 }]) := ⟨Try.underlying19⟩
instance : SZ Try.prog 19 1 := ⟨by kernel_rfl⟩
instance : BY Try.prog 19 8 := ⟨by kernel_rfl⟩
instance : B0 Try.prog 19 ([Value.pointer none]) := ⟨by kernel_rfl⟩
instance : ZC Try.prog 19 ([Value.pointer none]) := ⟨by kernel_rfl⟩
instance : BLD Try.prog 19 [1] := bld_of Try.underlying19 (ZC.out (P := Try.prog) (t := 19)) (by kernel_rfl) rfl
instance : F1 Try.prog 19 0 := ⟨_, _, _, Try.underlying19, rfl, Try.underlying17, rfl⟩
instance : FO Try.prog 19 0 0 := ⟨_, _, Try.underlying19, rfl, rfl, 0, by kernel_rfl⟩
instance : UL Try.prog 20 (TypeDesc.interface #[]) := ⟨Try.underlying20⟩
instance : SZ Try.prog 20 1 := ⟨by kernel_rfl⟩
instance : BY Try.prog 20 16 := ⟨by kernel_rfl⟩
instance : ZC Try.prog 20 ([Value.nilIface]) := ⟨by kernel_rfl⟩
instance : UL Try.prog 21 (TypeDesc.int IntKind.i32) := ⟨Try.underlying21⟩
instance : SZ Try.prog 21 1 := ⟨by kernel_rfl⟩
instance : BY Try.prog 21 4 := ⟨by kernel_rfl⟩
instance : ZC Try.prog 21 ([Value.int IntKind.i32 0]) := ⟨by kernel_rfl⟩
instance : UL Try.prog 22 (TypeDesc.slice 45) := ⟨Try.underlying22⟩
instance : SZ Try.prog 22 1 := ⟨by kernel_rfl⟩
instance : BY Try.prog 22 24 := ⟨by kernel_rfl⟩
instance : ZC Try.prog 22 ([Value.slice none 0 0]) := ⟨by kernel_rfl⟩
instance : UL Try.prog 23 (TypeDesc.int IntKind.u64) := ⟨Try.underlying23⟩
instance : SZ Try.prog 23 1 := ⟨by kernel_rfl⟩
instance : BY Try.prog 23 8 := ⟨by kernel_rfl⟩
instance : ZC Try.prog 23 ([Value.int IntKind.u64 0]) := ⟨by kernel_rfl⟩
instance : UL Try.prog 24 (TypeDesc.array 64 23) := ⟨Try.underlying24⟩
instance : SZ Try.prog 24 64 := ⟨by kernel_rfl⟩
instance : BY Try.prog 24 512 := ⟨by kernel_rfl⟩
instance : EG Try.prog 24 := ⟨by kernel_rfl⟩
instance : SH Try.prog 24 := ⟨by kernel_rfl⟩
instance : B0 Try.prog 24 (List.replicate 64 (Value.int IntKind.u64 0)) := ⟨by kernel_rfl⟩
instance : ZC Try.prog 24 (List.replicate 64 (Value.int IntKind.u64 0)) := ⟨by kernel_rfl⟩
instance : UL Try.prog 25 (TypeDesc.array 64 23) := ⟨Try.underlying25⟩
instance : SZ Try.prog 25 64 := ⟨by kernel_rfl⟩
instance : BY Try.prog 25 512 := ⟨by kernel_rfl⟩
instance : EG Try.prog 25 := ⟨by kernel_rfl⟩
instance : SH Try.prog 25 := ⟨by kernel_rfl⟩
instance : B0 Try.prog 25 (List.replicate 64 (Value.int IntKind.u64 0)) := ⟨by kernel_rfl⟩
instance : ZC Try.prog 25 (List.replicate 64 (Value.int IntKind.u64 0)) := ⟨by kernel_rfl⟩
instance : UL Try.prog 26 (TypeDesc.func #[22] #[25] false) := ⟨Try.underlying26⟩
instance : SZ Try.prog 26 1 := ⟨by kernel_rfl⟩
instance : BY Try.prog 26 8 := ⟨by kernel_rfl⟩
instance : ZC Try.prog 26 ([Value.nilFunc]) := ⟨by kernel_rfl⟩
instance : UL Try.prog 27 (TypeDesc.int IntKind.i64) := ⟨Try.underlying27⟩
instance : SZ Try.prog 27 1 := ⟨by kernel_rfl⟩
instance : BY Try.prog 27 8 := ⟨by kernel_rfl⟩
instance : ZC Try.prog 27 ([Value.int IntKind.i64 0]) := ⟨by kernel_rfl⟩
instance : UL Try.prog 28 (TypeDesc.tuple #[4, 27]) := ⟨Try.underlying28⟩
instance : SZ Try.prog 28 1 := ⟨by kernel_rfl⟩
instance : BY Try.prog 28 0 := ⟨by kernel_rfl⟩
instance : ZC Try.prog 28 ([Value.tuple #[Value.bool false, Value.int IntKind.i64 0]]) := ⟨by kernel_rfl⟩
instance : UL Try.prog 29 (TypeDesc.func #[25, 3, 3] #[4, 27] false) := ⟨Try.underlying29⟩
instance : SZ Try.prog 29 1 := ⟨by kernel_rfl⟩
instance : BY Try.prog 29 8 := ⟨by kernel_rfl⟩
instance : ZC Try.prog 29 ([Value.nilFunc]) := ⟨by kernel_rfl⟩
instance : UL Try.prog 30 (TypeDesc.tuple #[25, 27]) := ⟨Try.underlying30⟩
instance : SZ Try.prog 30 1 := ⟨by kernel_rfl⟩
instance : BY Try.prog 30 0 := ⟨by kernel_rfl⟩
instance : ZC Try.prog 30 ([Value.tuple #[Value.agg #[Value.int IntKind.u64 0, Value.int IntKind.u64 0, Value.int IntKind.u64 0, Value.int IntKind.u64 0, Value.int IntKind.u64 0, Value.int IntKind.u64 0, Value.int IntKind.u64 0, Value.int IntKind.u64 0, Value.int IntKind.u64 0, Value.int IntKind.u64 0, Value.int IntKind.u64 0, Value.int IntKind.u64 0, Value.int IntKind.u64 0, Value.int IntKind.u64 0, Value.int IntKind.u64 0, Value.int IntKind.u64 0, Value.int IntKind.u64 0, Value.int IntKind.u64 0, Value.int IntKind.u64 0, Value.int IntKind.u64 0, Value.int IntKind.u64 0, Value.int IntKind.u64 0, Value.int IntKind.u64 0, Value.int IntKind.u64 0, Value.int IntKind.u64 0, Value.int IntKind.u64 0, Value.int IntKind.u64 0, Value.int IntKind.u64 0, Value.int IntKind.u64 0, Value.int IntKind.u64 0, Value.int IntKind.u64 0, Value.int IntKind.u64 0, Value.int IntKind.u64 0, Value.int IntKind.u64 0, Value.int IntKind.u64 0, Value.int IntKind.u64 0, Value.int IntKind.u64 0, Value.int IntKind.u64 0, Value.int IntKind.u64 0, Value.int IntKind.u64 0, Value.int IntKind.u64 0, Value.int IntKind.u64 0, Value.int IntKind.u64 0, Value.int IntKind.u64 0, Value.int IntKind.u64 0, Value.int IntKind.u64 0, Value.int IntKind.u64 0, Value.int IntKind.u64 0, Value.int IntKind.u64 0, Value.int IntKind.u64 0, Value.int IntKind.u64 0, Value.int IntKind.u64 0, Value.int IntKind.u64 0, Value.int IntKind.u64 0, Value.int IntKind.u64 0, Value.int IntKind.u64 0, Value.int IntKind.u64 0, Value.int IntKind.u64 0, Value.int IntKind.u64 0, Value.int IntKind.u64 0, Value.int IntKind.u64 0, Value.int IntKind.u64 0, Value.int IntKind.u64 0, Value.int IntKind.u64 0], Value.int IntKind.i64 0]]) := ⟨by kernel_rfl⟩
instance : UL Try.prog 31 (TypeDesc.func #[25, 3, 3, 4] #[25, 27] false) := ⟨Try.underlying31⟩
instance : SZ Try.prog 31 1 := ⟨by kernel_rfl⟩
instance : BY Try.prog 31 8 := ⟨by kernel_rfl⟩
instance : ZC Try.prog 31 ([Value.nilFunc]) := ⟨by kernel_rfl⟩
instance : UL Try.prog 32 (TypeDesc.tuple #[23, 27]) := ⟨Try.underlying32⟩
instance : SZ Try.prog 32 1 := ⟨by kernel_rfl⟩
instance : BY Try.prog 32 0 := ⟨by kernel_rfl⟩
instance : ZC Try.prog 32 ([Value.tuple #[Value.int IntKind.u64 0, Value.int IntKind.i64 0]]) := ⟨by kernel_rfl⟩
instance : UL Try.prog 33 (TypeDesc.func #[25, 3] #[23, 27] false) := ⟨Try.underlying33⟩
instance : SZ Try.prog 33 1 := ⟨by kernel_rfl⟩
instance : BY Try.prog 33 8 := ⟨by kernel_rfl⟩
instance : ZC Try.prog 33 ([Value.nilFunc]) := ⟨by kernel_rfl⟩
instance : UL Try.prog 34 (TypeDesc.func #[] #[4] false) := ⟨Try.underlying34⟩
instance : SZ Try.prog 34 1 := ⟨by kernel_rfl⟩
instance : BY Try.prog 34 8 := ⟨by kernel_rfl⟩
instance : ZC Try.prog 34 ([Value.nilFunc]) := ⟨by kernel_rfl⟩
instance : UL Try.prog 35 (TypeDesc.func #[22, 3, 3, 4] #[4] false) := ⟨Try.underlying35⟩
instance : SZ Try.prog 35 1 := ⟨by kernel_rfl⟩
instance : BY Try.prog 35 8 := ⟨by kernel_rfl⟩
instance : ZC Try.prog 35 ([Value.nilFunc]) := ⟨by kernel_rfl⟩
instance : UL Try.prog 36 (TypeDesc.tuple #[25, 25, 25]) := ⟨Try.underlying36⟩
instance : SZ Try.prog 36 1 := ⟨by kernel_rfl⟩
instance : BY Try.prog 36 0 := ⟨by kernel_rfl⟩
instance : ZC Try.prog 36 ([Value.tuple #[Value.agg #[Value.int IntKind.u64 0, Value.int IntKind.u64 0, Value.int IntKind.u64 0, Value.int IntKind.u64 0, Value.int IntKind.u64 0, Value.int IntKind.u64 0, Value.int IntKind.u64 0, Value.int IntKind.u64 0, Value.int IntKind.u64 0, Value.int IntKind.u64 0, Value.int IntKind.u64 0, Value.int IntKind.u64 0, Value.int IntKind.u64 0, Value.int IntKind.u64 0, Value.int IntKind.u64 0, Value.int IntKind.u64 0, Value.int IntKind.u64 0, Value.int IntKind.u64 0, Value.int IntKind.u64 0, Value.int IntKind.u64 0, Value.int IntKind.u64 0, Value.int IntKind.u64 0, Value.int IntKind.u64 0, Value.int IntKind.u64 0, Value.int IntKind.u64 0, Value.int IntKind.u64 0, Value.int IntKind.u64 0, Value.int IntKind.u64 0, Value.int IntKind.u64 0, Value.int IntKind.u64 0, Value.int IntKind.u64 0, Value.int IntKind.u64 0, Value.int IntKind.u64 0, Value.int IntKind.u64 0, Value.int IntKind.u64 0, Value.int IntKind.u64 0, Value.int IntKind.u64 0, Value.int IntKind.u64 0, Value.int IntKind.u64 0, Value.int IntKind.u64 0, Value.int IntKind.u64 0, Value.int IntKind.u64 0, Value.int IntKind.u64 0, Value.int IntKind.u64 0, Value.int IntKind.u64 0, Value.int IntKind.u64 0, Value.int IntKind.u64 0, Value.int IntKind.u64 0, Value.int IntKind.u64 0, Value.int IntKind.u64 0, Value.int IntKind.u64 0, Value.int IntKind.u64 0, Value.int IntKind.u64 0, Value.int IntKind.u64 0, Value.int IntKind.u64 0, Value.int IntKind.u64 0, Value.int IntKind.u64 0, Value.int IntKind.u64 0, Value.int IntKind.u64 0, Value.int IntKind.u64 0, Value.int IntKind.u64 0, Value.int IntKind.u64 0, Value.int IntKind.u64 0, Value.int IntKind.u64 0], Value.agg #[Value.int IntKind.u64 0, Value.int IntKind.u64 0, Value.int IntKind.u64 0, Value.int IntKind.u64 0, Value.int IntKind.u64 0, Value.int IntKind.u64 0, Value.int IntKind.u64 0, Value.int IntKind.u64 0, Value.int IntKind.u64 0, Value.int IntKind.u64 0, Value.int IntKind.u64 0, Value.int IntKind.u64 0, Value.int IntKind.u64 0, Value.int IntKind.u64 0, Value.int IntKind.u64 0, Value.int IntKind.u64 0, Value.int IntKind.u64 0, Value.int IntKind.u64 0, Value.int IntKind.u64 0, Value.int IntKind.u64 0, Value.int IntKind.u64 0, Value.int IntKind.u64 0, Value.int IntKind.u64 0, Value.int IntKind.u64 0, Value.int IntKind.u64 0, Value.int IntKind.u64 0, Value.int IntKind.u64 0, Value.int IntKind.u64 0, Value.int IntKind.u64 0, Value.int IntKind.u64 0, Value.int IntKind.u64 0, Value.int IntKind.u64 0, Value.int IntKind.u64 0, Value.int IntKind.u64 0, Value.int IntKind.u64 0, Value.int IntKind.u64 0, Value.int IntKind.u64 0, Value.int IntKind.u64 0, Value.int IntKind.u64 0, Value.int IntKind.u64 0, Value.int IntKind.u64 0, Value.int IntKind.u64 0, Value.int IntKind.u64 0, Value.int IntKind.u64 0, Value.int IntKind.u64 0, Value.int IntKind.u64 0, Value.int IntKind.u64 0, Value.int IntKind.u64 0, Value.int IntKind.u64 0, Value.int IntKind.u64 0, Value.int IntKind.u64 0, Value.int IntKind.u64 0, Value.int IntKind.u64 0, Value.int IntKind.u64 0, Value.int IntKind.u64 0, Value.int IntKind.u64 0, Value.int IntKind.u64 0, Value.int IntKind.u64 0, Value.int IntKind.u64 0, Value.int IntKind.u64 0, Value.int IntKind.u64 0, Value.int IntKind.u64 0, Value.int IntKind.u64 0, Value.int IntKind.u64 0], Value.agg #[Value.int IntKind.u64 0, Value.int IntKind.u64 0, Value.int IntKind.u64 0, Value.int IntKind.u64 0, Value.int IntKind.u64 0, Value.int IntKind.u64 0, Value.int IntKind.u64 0, Value.int IntKind.u64 0, Value.int IntKind.u64 0, Value.int IntKind.u64 0, Value.int IntKind.u64 0, Value.int IntKind.u64 0, Value.int IntKind.u64 0, Value.int IntKind.u64 0, Value.int IntKind.u64 0, Value.int IntKind.u64 0, Value.int IntKind.u64 0, Value.int IntKind.u64 0, Value.int IntKind.u64 0, Value.int IntKind.u64 0, Value.int IntKind.u64 0, Value.int IntKind.u64 0, Value.int IntKind.u64 0, Value.int IntKind.u64 0, Value.int IntKind.u64 0, Value.int IntKind.u64 0, Value.int IntKind.u64 0, Value.int IntKind.u64 0, Value.int IntKind.u64 0, Value.int IntKind.u64 0, Value.int IntKind.u64 0, Value.int IntKind.u64 0, Value.int IntKind.u64 0, Value.int IntKind.u64 0, Value.int IntKind.u64 0, Value.int IntKind.u64 0, Value.int IntKind.u64 0, Value.int IntKind.u64 0, Value.int IntKind.u64 0, Value.int IntKind.u64 0, Value.int IntKind.u64 0, Value.int IntKind.u64 0, Value.int IntKind.u64 0, Value.int IntKind.u64 0, Value.int IntKind.u64 0, Value.int IntKind.u64 0, Value.int IntKind.u64 0, Value.int IntKind.u64 0, Value.int IntKind.u64 0, Value.int IntKind.u64 0, Value.int IntKind.u64 0, Value.int IntKind.u64 0, Value.int IntKind.u64 0, Value.int IntKind.u64 0, Value.int IntKind.u64 0, Value.int IntKind.u64 0, Value.int IntKind.u64 0, Value.int IntKind.u64 0, Value.int IntKind.u64 0, Value.int IntKind.u64 0, Value.int IntKind.u64 0, Value.int IntKind.u64 0, Value.int IntKind.u64 0, Value.int IntKind.u64 0]]]) := ⟨by kernel_rfl⟩
instance : UL Try.prog 37 (TypeDesc.func #[25, 25] #[25, 25, 25] false) := ⟨Try.underlying37⟩
instance : SZ Try.prog 37 1 := ⟨by kernel_rfl⟩
instance : BY Try.prog 37 8 := ⟨by kernel_rfl⟩
instance : ZC Try.prog 37 ([Value.nilFunc]) := ⟨by kernel_rfl⟩
instance : UL Try.prog 38 (TypeDesc.func #[25, 3, 3] #[25, 27] false) := ⟨Try.underlying38⟩
instance : SZ Try.prog 38 1 := ⟨by kernel_rfl⟩
instance : BY Try.prog 38 8 := ⟨by kernel_rfl⟩
instance : ZC Try.prog 38 ([Value.nilFunc]) := ⟨by kernel_rfl⟩
instance : UL Try.prog 39 (TypeDesc.func #[25, 25] #[25] false) := ⟨Try.underlying39⟩
instance : SZ Try.prog 39 1 := ⟨by kernel_rfl⟩
instance : BY Try.prog 39 8 := ⟨by kernel_rfl⟩
instance : ZC Try.prog 39 ([Value.nilFunc]) := ⟨by kernel_rfl⟩
instance : UL Try.prog 40 (TypeDesc.func #[25] #[25] false) := ⟨Try.underlying40⟩
instance : SZ Try.prog 40 1 := ⟨by kernel_rfl⟩
instance : BY Try.prog 40 8 := ⟨by kernel_rfl⟩
instance : ZC Try.prog 40 ([Value.nilFunc]) := ⟨by kernel_rfl⟩
instance : UL Try.prog 41 (TypeDesc.func #[] #[25] false) := ⟨Try.underlying41⟩
instance : SZ Try.prog 41 1 := ⟨by kernel_rfl⟩
instance : BY Try.prog 41 8 := ⟨by kernel_rfl⟩
instance : ZC Try.prog 41 ([Value.nilFunc]) := ⟨by kernel_rfl⟩
instance : UL Try.prog 42 (TypeDesc.func #[22, 22, 3, 3] #[4] false) := ⟨Try.underlying42⟩
instance : SZ Try.prog 42 1 := ⟨by kernel_rfl⟩
instance : BY Try.prog 42 8 := ⟨by kernel_rfl⟩
instance : ZC Try.prog 42 ([Value.nilFunc]) := ⟨by kernel_rfl⟩
instance : UL Try.prog 43 (TypeDesc.func #[25, 3, 3] #[25] false) := ⟨Try.underlying43⟩
instance : SZ Try.prog 43 1 := ⟨by kernel_rfl⟩
instance : BY Try.prog 43 8 := ⟨by kernel_rfl⟩
instance : ZC Try.prog 43 ([Value.nilFunc]) := ⟨by kernel_rfl⟩
instance : UL Try.prog 44 (TypeDesc.struct #[{ name := "Row", type := 3, offset := 0, embedded := false, tag := "", pkgPath := "", byteOffset := 0 }, { name := "Col", type := 3, offset := 1, embedded := false, tag := "", pkgPath := "", byteOffset := 8 }]) := ⟨Try.underlying44⟩
instance : SZ Try.prog 44 2 := ⟨by kernel_rfl⟩
instance : BY Try.prog 44 16 := ⟨by kernel_rfl⟩
instance : EG Try.prog 44 := ⟨by kernel_rfl⟩
instance : SH Try.prog 44 := ⟨by kernel_rfl⟩
instance : B0 Try.prog 44 ([Value.int IntKind.i64 0, Value.int IntKind.i64 0]) := ⟨by kernel_rfl⟩
instance : ZC Try.prog 44 ([Value.int IntKind.i64 0, Value.int IntKind.i64 0]) := ⟨by kernel_rfl⟩
instance : BLD Try.prog 44 [1, 1] := bld_of Try.underlying44 (ZC.out (P := Try.prog) (t := 44)) (by kernel_rfl) rfl
instance : F1 Try.prog 44 0 := ⟨_, _, _, Try.underlying44, rfl, Try.underlying3, rfl⟩
instance : FO Try.prog 44 0 0 := ⟨_, _, Try.underlying44, rfl, rfl, 0, by kernel_rfl⟩
instance : F1 Try.prog 44 1 := ⟨_, _, _, Try.underlying44, rfl, Try.underlying3, rfl⟩
instance : FO Try.prog 44 1 1 := ⟨_, _, Try.underlying44, rfl, rfl, 0, by kernel_rfl⟩
instance : UL Try.prog 45 (TypeDesc.struct #[{ name := "Row", type := 3, offset := 0, embedded := false, tag := "", pkgPath := "", byteOffset := 0 }, { name := "Col", type := 3, offset := 1, embedded := false, tag := "", pkgPath := "", byteOffset := 8 }]) := ⟨Try.underlying45⟩
instance : SZ Try.prog 45 2 := ⟨by kernel_rfl⟩
instance : BY Try.prog 45 16 := ⟨by kernel_rfl⟩
instance : EG Try.prog 45 := ⟨by kernel_rfl⟩
instance : SH Try.prog 45 := ⟨by kernel_rfl⟩
instance : B0 Try.prog 45 ([Value.int IntKind.i64 0, Value.int IntKind.i64 0]) := ⟨by kernel_rfl⟩
instance : ZC Try.prog 45 ([Value.int IntKind.i64 0, Value.int IntKind.i64 0]) := ⟨by kernel_rfl⟩
instance : BLD Try.prog 45 [1, 1] := bld_of Try.underlying45 (ZC.out (P := Try.prog) (t := 45)) (by kernel_rfl) rfl
instance : F1 Try.prog 45 0 := ⟨_, _, _, Try.underlying45, rfl, Try.underlying3, rfl⟩
instance : FO Try.prog 45 0 0 := ⟨_, _, Try.underlying45, rfl, rfl, 0, by kernel_rfl⟩
instance : F1 Try.prog 45 1 := ⟨_, _, _, Try.underlying45, rfl, Try.underlying3, rfl⟩
instance : FO Try.prog 45 1 1 := ⟨_, _, Try.underlying45, rfl, rfl, 0, by kernel_rfl⟩
instance : UL Try.prog 46 (TypeDesc.func #[3] #[4] false) := ⟨Try.underlying46⟩
instance : SZ Try.prog 46 1 := ⟨by kernel_rfl⟩
instance : BY Try.prog 46 8 := ⟨by kernel_rfl⟩
instance : ZC Try.prog 46 ([Value.nilFunc]) := ⟨by kernel_rfl⟩
instance : UL Try.prog 47 (TypeDesc.func #[25, 3, 3] #[4] false) := ⟨Try.underlying47⟩
instance : SZ Try.prog 47 1 := ⟨by kernel_rfl⟩
instance : BY Try.prog 47 8 := ⟨by kernel_rfl⟩
instance : ZC Try.prog 47 ([Value.nilFunc]) := ⟨by kernel_rfl⟩
instance : UL Try.prog 48 (TypeDesc.int IntKind.u64) := ⟨Try.underlying48⟩
instance : SZ Try.prog 48 1 := ⟨by kernel_rfl⟩
instance : BY Try.prog 48 8 := ⟨by kernel_rfl⟩
instance : ZC Try.prog 48 ([Value.int IntKind.u64 0]) := ⟨by kernel_rfl⟩
instance : UL Try.prog 49 (TypeDesc.func #[22] #[25, 27] true) := ⟨Try.underlying49⟩
instance : SZ Try.prog 49 1 := ⟨by kernel_rfl⟩
instance : BY Try.prog 49 8 := ⟨by kernel_rfl⟩
instance : ZC Try.prog 49 ([Value.nilFunc]) := ⟨by kernel_rfl⟩
instance : UL Try.prog 50 (TypeDesc.func #[25] #[3] false) := ⟨Try.underlying50⟩
instance : SZ Try.prog 50 1 := ⟨by kernel_rfl⟩
instance : BY Try.prog 50 8 := ⟨by kernel_rfl⟩
instance : ZC Try.prog 50 ([Value.nilFunc]) := ⟨by kernel_rfl⟩
instance : UL Try.prog 51 (TypeDesc.func #[3] #[23] false) := ⟨Try.underlying51⟩
instance : SZ Try.prog 51 1 := ⟨by kernel_rfl⟩
instance : BY Try.prog 51 8 := ⟨by kernel_rfl⟩
instance : ZC Try.prog 51 ([Value.nilFunc]) := ⟨by kernel_rfl⟩
instance : UL Try.prog 52 (TypeDesc.func #[23] #[3] false) := ⟨Try.underlying52⟩
instance : SZ Try.prog 52 1 := ⟨by kernel_rfl⟩
instance : BY Try.prog 52 8 := ⟨by kernel_rfl⟩
instance : ZC Try.prog 52 ([Value.nilFunc]) := ⟨by kernel_rfl⟩
instance : UL Try.prog 53 (TypeDesc.func #[] #[9] false) := ⟨Try.underlying53⟩
instance : SZ Try.prog 53 1 := ⟨by kernel_rfl⟩
instance : BY Try.prog 53 8 := ⟨by kernel_rfl⟩
instance : ZC Try.prog 53 ([Value.nilFunc]) := ⟨by kernel_rfl⟩
instance : UL Try.prog 54 (TypeDesc.struct #[{ name := "_interface", type := 17, offset := 0, embedded := false, tag := "", pkgPath := "runtime", byteOffset := 0 }, { name := "concrete", type := 17, offset := 1, embedded := false, tag := "", pkgPath := "runtime", byteOffset := 8 }, { name := "asserted", type := 17, offset := 2, embedded := false, tag := "", pkgPath := "runtime", byteOffset := 16 }, { name := "missingMethod", type := 9, offset := 3, embedded := false, tag := "", pkgPath := "runtime", byteOffset := 24 }]) := ⟨Try.underlying54⟩
instance : SZ Try.prog 54 4 := ⟨by kernel_rfl⟩
instance : BY Try.prog 54 40 := ⟨by kernel_rfl⟩
instance : B0 Try.prog 54 ([Value.pointer none, Value.pointer none, Value.pointer none, Value.string { data := #[] }]) := ⟨by kernel_rfl⟩
instance : ZC Try.prog 54 ([Value.pointer none, Value.pointer none, Value.pointer none, Value.string { data := #[] }]) := ⟨by kernel_rfl⟩
instance : BLD Try.prog 54 [1, 1, 1, 1] := bld_of Try.underlying54 (ZC.out (P := Try.prog) (t := 54)) (by kernel_rfl) rfl
instance : F1 Try.prog 54 0 := ⟨_, _, _, Try.underlying54, rfl, Try.underlying17, rfl⟩
instance : FO Try.prog 54 0 0 := ⟨_, _, Try.underlying54, rfl, rfl, 0, by kernel_rfl⟩
instance : F1 Try.prog 54 1 := ⟨_, _, _, Try.underlying54, rfl, Try.underlying17, rfl⟩
instance : FO Try.prog 54 1 1 := ⟨_, _, Try.underlying54, rfl, rfl, 0, by kernel_rfl⟩
instance : F1 Try.prog 54 2 := ⟨_, _, _, Try.underlying54, rfl, Try.underlying17, rfl⟩
instance : FO Try.prog 54 2 2 := ⟨_, _, Try.underlying54, rfl, rfl, 0, by kernel_rfl⟩
instance : F1 Try.prog 54 3 := ⟨_, _, _, Try.underlying54, rfl, Try.underlying9, rfl⟩
instance : FO Try.prog 54 3 3 := ⟨_, _, Try.underlying54, rfl, rfl, 0, by kernel_rfl⟩
instance : UL Try.prog 55 (TypeDesc.struct #[{ name := "_interface", type := 17, offset := 0, embedded := false, tag := "", pkgPath := "runtime", byteOffset := 0 }, { name := "concrete", type := 17, offset := 1, embedded := false, tag := "", pkgPath := "runtime", byteOffset := 8 }, { name := "asserted", type := 17, offset := 2, embedded := false, tag := "", pkgPath := "runtime", byteOffset := 16 }, { name := "missingMethod", type := 9, offset := 3, embedded := false, tag := "", pkgPath := "runtime", byteOffset := 24 }]) := ⟨Try.underlying55⟩
instance : SZ Try.prog 55 4 := ⟨by kernel_rfl⟩
instance : BY Try.prog 55 40 := ⟨by kernel_rfl⟩
instance : B0 Try.prog 55 ([Value.pointer none, Value.pointer none, Value.pointer none, Value.string { data := #[] }]) := ⟨by kernel_rfl⟩
instance : ZC Try.prog 55 ([Value.pointer none, Value.pointer none, Value.pointer none, Value.string { data := #[] }]) := ⟨by kernel_rfl⟩
instance : BLD Try.prog 55 [1, 1, 1, 1] := bld_of Try.underlying55 (ZC.out (P := Try.prog) (t := 55)) (by kernel_rfl) rfl
instance : F1 Try.prog 55 0 := ⟨_, _, _, Try.underlying55, rfl, Try.underlying17, rfl⟩
instance : FO Try.prog 55 0 0 := ⟨_, _, Try.underlying55, rfl, rfl, 0, by kernel_rfl⟩
instance : F1 Try.prog 55 1 := ⟨_, _, _, Try.underlying55, rfl, Try.underlying17, rfl⟩
instance : FO Try.prog 55 1 1 := ⟨_, _, Try.underlying55, rfl, rfl, 0, by kernel_rfl⟩
instance : F1 Try.prog 55 2 := ⟨_, _, _, Try.underlying55, rfl, Try.underlying17, rfl⟩
instance : FO Try.prog 55 2 2 := ⟨_, _, Try.underlying55, rfl, rfl, 0, by kernel_rfl⟩
instance : F1 Try.prog 55 3 := ⟨_, _, _, Try.underlying55, rfl, Try.underlying9, rfl⟩
instance : FO Try.prog 55 3 3 := ⟨_, _, Try.underlying55, rfl, rfl, 0, by kernel_rfl⟩
instance : UL Try.prog 56 (TypeDesc.array 0 16) := ⟨Try.underlying56⟩
instance : SZ Try.prog 56 0 := ⟨by kernel_rfl⟩
instance : BY Try.prog 56 0 := ⟨by kernel_rfl⟩
instance : EG Try.prog 56 := ⟨by kernel_rfl⟩
instance : SH Try.prog 56 := ⟨by kernel_rfl⟩
instance : B0 Try.prog 56 ([]) := ⟨by kernel_rfl⟩
instance : ZC Try.prog 56 ([]) := ⟨by kernel_rfl⟩
instance : UL Try.prog 57 (TypeDesc.struct #[{ name := "_", type := 56, offset := 0, embedded := false, tag := "", pkgPath := "runtime", byteOffset := 0 }]) := ⟨Try.underlying57⟩
instance : SZ Try.prog 57 0 := ⟨by kernel_rfl⟩
instance : BY Try.prog 57 0 := ⟨by kernel_rfl⟩
instance : B0 Try.prog 57 ([]) := ⟨by kernel_rfl⟩
instance : ZC Try.prog 57 ([]) := ⟨by kernel_rfl⟩
instance : BLD Try.prog 57 [0] := bld_of Try.underlying57 (ZC.out (P := Try.prog) (t := 57)) (by kernel_rfl) rfl
instance : UL Try.prog 58 (TypeDesc.struct #[{ name := "_", type := 56, offset := 0, embedded := false, tag := "", pkgPath := "runtime", byteOffset := 0 }]) := ⟨Try.underlying58⟩
instance : SZ Try.prog 58 0 := ⟨by kernel_rfl⟩
instance : BY Try.prog 58 0 := ⟨by kernel_rfl⟩
instance : B0 Try.prog 58 ([]) := ⟨by kernel_rfl⟩
instance : ZC Try.prog 58 ([]) := ⟨by kernel_rfl⟩
instance : BLD Try.prog 58 [0] := bld_of Try.underlying58 (ZC.out (P := Try.prog) (t := 58)) (by kernel_rfl) rfl
instance : UL Try.prog 59 (TypeDesc.func #[] #[3] false) := ⟨Try.underlying59⟩
instance : SZ Try.prog 59 1 := ⟨by kernel_rfl⟩
instance : BY Try.prog 59 8 := ⟨by kernel_rfl⟩
instance : ZC Try.prog 59 ([Value.nilFunc]) := ⟨by kernel_rfl⟩
instance : UL Try.prog 60 (TypeDesc.int IntKind.u32) := ⟨Try.underlying60⟩
instance : SZ Try.prog 60 1 := ⟨by kernel_rfl⟩
instance : BY Try.prog 60 4 := ⟨by kernel_rfl⟩
instance : ZC Try.prog 60 ([Value.int IntKind.u32 0]) := ⟨by kernel_rfl⟩
instance : UL Try.prog 61 (TypeDesc.int IntKind.u8) := ⟨Try.underlying61⟩
instance : SZ Try.prog 61 1 := ⟨by kernel_rfl⟩
instance : BY Try.prog 61 1 := ⟨by kernel_rfl⟩
instance : ZC Try.prog 61 ([Value.int IntKind.u8 0]) := ⟨by kernel_rfl⟩
instance : UL Try.prog 62 (TypeDesc.int IntKind.u8) := ⟨Try.underlying62⟩
instance : SZ Try.prog 62 1 := ⟨by kernel_rfl⟩
instance : BY Try.prog 62 1 := ⟨by kernel_rfl⟩
instance : ZC Try.prog 62 ([Value.int IntKind.u8 0]) := ⟨by kernel_rfl⟩
instance : UL Try.prog 63 (TypeDesc.func #[69, 69] #[4] false) := ⟨Try.underlying63⟩
instance : SZ Try.prog 63 1 := ⟨by kernel_rfl⟩
instance : BY Try.prog 63 8 := ⟨by kernel_rfl⟩
instance : ZC Try.prog 63 ([Value.nilFunc]) := ⟨by kernel_rfl⟩
instance : UL Try.prog 64 (TypeDesc.pointer 5) := ⟨Try.underlying64⟩
instance : SZ Try.prog 64 1 := ⟨by kernel_rfl⟩
instance : BY Try.prog 64 8 := ⟨by kernel_rfl⟩
instance : ZC Try.prog 64 ([Value.pointer none]) := ⟨by kernel_rfl⟩
instance : UL Try.prog 65 (TypeDesc.int IntKind.i32) := ⟨Try.underlying65⟩
instance : SZ Try.prog 65 1 := ⟨by kernel_rfl⟩
instance : BY Try.prog 65 4 := ⟨by kernel_rfl⟩
instance : ZC Try.prog 65 ([Value.int IntKind.i32 0]) := ⟨by kernel_rfl⟩
instance : UL Try.prog 66 (TypeDesc.int IntKind.i32) := ⟨Try.underlying66⟩
instance : SZ Try.prog 66 1 := ⟨by kernel_rfl⟩
instance : BY Try.prog 66 4 := ⟨by kernel_rfl⟩
instance : ZC Try.prog 66 ([Value.int IntKind.i32 0]) := ⟨by kernel_rfl⟩
instance : UL Try.prog 67 (TypeDesc.struct #[{ name := "Size_", type := 12, offset := 0, embedded := false, tag := "", pkgPath := "", byteOffset := 0 }, { name := "PtrBytes", type := 12, offset := 1, embedded := false, tag := "", pkgPath := "", byteOffset := 8 }, { name := "Hash", type := 60, offset := 2, embedded := false, tag := "", pkgPath := "", byteOffset := 16 }, { name := "TFlag", type := 61, offset := 3, embedded := false, tag := "", pkgPath := "", byteOffset := 20 }, { name := "Align_", type := 5, offset := 4, embedded := false, tag := "", pkgPath := "", byteOffset := 21 }, { name := "FieldAlign_", type := 5, offset := 5, embedded := false, tag := "", pkgPath := "", byteOffset := 22 }, { name := "Kind_", type := 62, offset := 6, embedded := false, tag := "", pkgPath := "", byteOffset := 23 }, { name := "Equal", type := 63, offset := 7, embedded := false, tag := "", pkgPath := "", byteOffset := 24 }, { name := "GCData", type := 64, offset := 8, embedded := false, tag := "", pkgPath := "", byteOffset := 32 }, { name := "Str", type := 65, offset := 9, embedded := false, tag := "", pkgPath := "", byteOffset := 40 }, { name := "PtrToThis", type := 66, offset := 10, embedded := false, tag := "", pkgPath := "", byteOffset := 44 }]) := ⟨Try.underlying67⟩
instance : SZ Try.prog 67 11 := ⟨by kernel_rfl⟩
instance : BY Try.prog 67 48 := ⟨by kernel_rfl⟩
instance : B0 Try.prog 67 (List.replicate 2 (Value.int IntKind.u64 0) ++ [Value.int IntKind.u32 0] ++ List.replicate 4 (Value.int IntKind.u8 0) ++ [Value.nilFunc] ++ [Value.pointer none] ++ List.replicate 2 (Value.int IntKind.i32 0)) := ⟨by kernel_rfl⟩
instance : ZC Try.prog 67 (List.replicate 2 (Value.int IntKind.u64 0) ++ [Value.int IntKind.u32 0] ++ List.replicate 4 (Value.int IntKind.u8 0) ++ [Value.nilFunc] ++ [Value.pointer none] ++ List.replicate 2 (Value.int IntKind.i32 0)) := ⟨by kernel_rfl⟩
instance : BLD Try.prog 67 [1, 1, 1, 1, 1, 1, 1, 1, 1, 1, 1] := bld_of Try.underlying67 (ZC.out (P := Try.prog) (t := 67)) (by kernel_rfl) rfl
instance : F1 Try.prog 67 0 := ⟨_, _, _, Try.underlying67, rfl, Try.underlying12, rfl⟩
instance : FO Try.prog 67 0 0 := ⟨_, _, Try.underlying67, rfl, rfl, 0, by kernel_rfl⟩
instance : F1 Try.prog 67 1 := ⟨_, _, _, Try.underlying67, rfl, Try.underlying12, rfl⟩
instance : FO Try.prog 67 1 1 := ⟨_, _, Try.underlying67, rfl, rfl, 0, by kernel_rfl⟩
instance : F1 Try.prog 67 2 := ⟨_, _, _, Try.underlying67, rfl, Try.underlying60, rfl⟩
instance : FO Try.prog 67 2 2 := ⟨_, _, Try.underlying67, rfl, rfl, 0, by kernel_rfl⟩
instance : F1 Try.prog 67 3 := ⟨_, _, _, Try.underlying67, rfl, Try.underlying61, rfl⟩
instance : FO Try.prog 67 3 3 := ⟨_, _, Try.underlying67, rfl, rfl, 0, by kernel_rfl⟩
instance : F1 Try.prog 67 4 := ⟨_, _, _, Try.underlying67, rfl, Try.underlying5, rfl⟩
instance : FO Try.prog 67 4 4 := ⟨_, _, Try.underlying67, rfl, rfl, 0, by kernel_rfl⟩
instance : F1 Try.prog 67 5 := ⟨_, _, _, Try.underlying67, rfl, Try.underlying5, rfl⟩
instance : FO Try.prog 67 5 5 := ⟨_, _, Try.underlying67, rfl, rfl, 0, by kernel_rfl⟩
instance : F1 Try.prog 67 6 := ⟨_, _, _, Try.underlying67, rfl, Try.underlying62, rfl⟩
instance : FO Try.prog 67 6 6 := ⟨_, _, Try.underlying67, rfl, rfl, 0, by kernel_rfl⟩
instance : F1 Try.prog 67 7 := ⟨_, _, _, Try.underlying67, rfl, Try.underlying63, rfl⟩
instance : FO Try.prog 67 7 7 := ⟨_, _, Try.underlying67, rfl, rfl, 0, by kernel_rfl⟩
instance : F1 Try.prog 67 8 := ⟨_, _, _, Try.underlying67, rfl, Try.underlying64, rfl⟩
instance : FO Try.prog 67 8 8 := ⟨_, _, Try.underlying67, rfl, rfl, 0, by kernel_rfl⟩
instance : F1 Try.prog 67 9 := ⟨_, _, _, Try.underlying67, rfl, Try.underlying65, rfl⟩
instance : FO Try.prog 67 9 9 := ⟨_, _, Try.underlying67, rfl, rfl, 0, by kernel_rfl⟩
instance : F1 Try.prog 67 10 := ⟨_, _, _, Try.underlying67, rfl, Try.underlying66, rfl⟩
instance : FO Try.prog 67 10 10 := ⟨_, _, Try.underlying67, rfl, rfl, 0, by kernel_rfl⟩
instance : UL Try.prog 68 (TypeDesc.struct #[{ name := "Size_", type := 12, offset := 0, embedded := false, tag := "", pkgPath := "", byteOffset := 0 }, { name := "PtrBytes", type := 12, offset := 1, embedded := false, tag := "", pkgPath := "", byteOffset := 8 }, { name := "Hash", type := 60, offset := 2, embedded := false, tag := "", pkgPath := "", byteOffset := 16 }, { name := "TFlag", type := 61, offset := 3, embedded := false, tag := "", pkgPath := "", byteOffset := 20 }, { name := "Align_", type := 5, offset := 4, embedded := false, tag := "", pkgPath := "", byteOffset := 21 }, { name := "FieldAlign_", type := 5, offset := 5, embedded := false, tag := "", pkgPath := "", byteOffset := 22 }, { name := "Kind_", type := 62, offset := 6, embedded := false, tag := "", pkgPath := "", byteOffset := 23 }, { name := "Equal", type := 63, offset := 7, embedded := false, tag := "", pkgPath := "", byteOffset := 24 }, { name := "GCData", type := 64, offset := 8, embedded := false, tag := "", pkgPath := "", byteOffset := 32 }, { name := "Str", type := 65, offset := 9, embedded := false, tag := "", pkgPath := "", byteOffset := 40 }, { name := "PtrToThis", type := 66, offset := 10, embedded := false, tag := "", pkgPath := "", byteOffset := 44 }]) := ⟨Try.underlying68⟩
instance : SZ Try.prog 68 11 := ⟨by kernel_rfl⟩
instance : BY Try.prog 68 48 := ⟨by kernel_rfl⟩
instance : B0 Try.prog 68 (List.replicate 2 (Value.int IntKind.u64 0) ++ [Value.int IntKind.u32 0] ++ List.replicate 4 (Value.int IntKind.u8 0) ++ [Value.nilFunc] ++ [Value.pointer none] ++ List.replicate 2 (Value.int IntKind.i32 0)) := ⟨by kernel_rfl⟩
instance : ZC Try.prog 68 (List.replicate 2 (Value.int IntKind.u64 0) ++ [Value.int IntKind.u32 0] ++ List.replicate 4 (Value.int IntKind.u8 0) ++ [Value.nilFunc] ++ [Value.pointer none] ++ List.replicate 2 (Value.int IntKind.i32 0)) := ⟨by kernel_rfl⟩
instance : BLD Try.prog 68 [1, 1, 1, 1, 1, 1, 1, 1, 1, 1, 1] := bld_of Try.underlying68 (ZC.out (P := Try.prog) (t := 68)) (by kernel_rfl) rfl
instance : F1 Try.prog 68 0 := ⟨_, _, _, Try.underlying68, rfl, Try.underlying12, rfl⟩
instance : FO Try.prog 68 0 0 := ⟨_, _, Try.underlying68, rfl, rfl, 0, by kernel_rfl⟩
instance : F1 Try.prog 68 1 := ⟨_, _, _, Try.underlying68, rfl, Try.underlying12, rfl⟩
instance : FO Try.prog 68 1 1 := ⟨_, _, Try.underlying68, rfl, rfl, 0, by kernel_rfl⟩
instance : F1 Try.prog 68 2 := ⟨_, _, _, Try.underlying68, rfl, Try.underlying60, rfl⟩
instance : FO Try.prog 68 2 2 := ⟨_, _, Try.underlying68, rfl, rfl, 0, by kernel_rfl⟩
instance : F1 Try.prog 68 3 := ⟨_, _, _, Try.underlying68, rfl, Try.underlying61, rfl⟩
instance : FO Try.prog 68 3 3 := ⟨_, _, Try.underlying68, rfl, rfl, 0, by kernel_rfl⟩
instance : F1 Try.prog 68 4 := ⟨_, _, _, Try.underlying68, rfl, Try.underlying5, rfl⟩
instance : FO Try.prog 68 4 4 := ⟨_, _, Try.underlying68, rfl, rfl, 0, by kernel_rfl⟩
instance : F1 Try.prog 68 5 := ⟨_, _, _, Try.underlying68, rfl, Try.underlying5, rfl⟩
instance : FO Try.prog 68 5 5 := ⟨_, _, Try.underlying68, rfl, rfl, 0, by kernel_rfl⟩
instance : F1 Try.prog 68 6 := ⟨_, _, _, Try.underlying68, rfl, Try.underlying62, rfl⟩
instance : FO Try.prog 68 6 6 := ⟨_, _, Try.underlying68, rfl, rfl, 0, by kernel_rfl⟩
instance : F1 Try.prog 68 7 := ⟨_, _, _, Try.underlying68, rfl, Try.underlying63, rfl⟩
instance : FO Try.prog 68 7 7 := ⟨_, _, Try.underlying68, rfl, rfl, 0, by kernel_rfl⟩
instance : F1 Try.prog 68 8 := ⟨_, _, _, Try.underlying68, rfl, Try.underlying64, rfl⟩
instance : FO Try.prog 68 8 8 := ⟨_, _, Try.underlying68, rfl, rfl, 0, by kernel_rfl⟩
instance : F1 Try.prog 68 9 := ⟨_, _, _, Try.underlying68, rfl, Try.underlying65, rfl⟩
instance : FO Try.prog 68 9 9 := ⟨_, _, Try.underlying68, rfl, rfl, 0, by kernel_rfl⟩
instance : F1 Try.prog 68 10 := ⟨_, _, _, Try.underlying68, rfl, Try.underlying66, rfl⟩
instance : FO Try.prog 68 10 10 := ⟨_, _, Try.underlying68, rfl, rfl, 0, by kernel_rfl⟩
instance : UL Try.prog 69 (TypeDesc.unsafePointer) := ⟨Try.underlying69⟩
instance : SZ Try.prog 69 1 := ⟨by kernel_rfl⟩
instance : BY Try.prog 69 8 := ⟨by kernel_rfl⟩
instance : ZC Try.prog 69 ([Value.pointer none]) := ⟨by kernel_rfl⟩
instance : Cal Try.prog 2 := cal_of Try.func2 (by kernel_rfl) (by kernel_rfl)
instance : Cal Try.prog 3 := cal_of Try.func3 (by kernel_rfl) (by kernel_rfl)
instance : Cal Try.prog 4 := cal_of Try.func4 (by kernel_rfl) (by kernel_rfl)
instance : Cal Try.prog 5 := cal_of Try.func5 (by kernel_rfl) (by kernel_rfl)
instance : Cal Try.prog 6 := cal_of Try.func6 (by kernel_rfl) (by kernel_rfl)
instance : Cal Try.prog 7 := cal_of Try.func7 (by kernel_rfl) (by kernel_rfl)
instance : Cal Try.prog 8 := cal_of Try.func8 (by kernel_rfl) (by kernel_rfl)
instance : Cal Try.prog 9 := cal_of Try.func9 (by kernel_rfl) (by kernel_rfl)
instance : Cal Try.prog 10 := cal_of Try.func10 (by kernel_rfl) (by kernel_rfl)
instance : Cal Try.prog 11 := cal_of Try.func11 (by kernel_rfl) (by kernel_rfl)
instance : Cal Try.prog 12 := cal_of Try.func12 (by kernel_rfl) (by kernel_rfl)
instance : Cal Try.prog 13 := cal_of Try.func13 (by kernel_rfl) (by kernel_rfl)
instance : Cal Try.prog 14 := cal_of Try.func14 (by kernel_rfl) (by kernel_rfl)
instance : Cal Try.prog 15 := cal_of Try.func15 (by kernel_rfl) (by kernel_rfl)
instance : Cal Try.prog 16 := cal_of Try.func16 (by kernel_rfl) (by kernel_rfl)
instance : Cal Try.prog 17 := cal_of Try.func17 (by kernel_rfl) (by kernel_rfl)
instance : Cal Try.prog 18 := cal_of Try.func18 (by kernel_rfl) (by kernel_rfl)
instance : Cal Try.prog 19 := cal_of Try.func19 (by kernel_rfl) (by kernel_rfl)
instance : Cal Try.prog 20 := cal_of Try.func20 (by kernel_rfl) (by kernel_rfl)
instance : Cal Try.prog 21 := cal_of Try.func21 (by kernel_rfl) (by kernel_rfl)
instance : Cal Try.prog 22 := cal_of Try.func22 (by kernel_rfl) (by kernel_rfl)
instance : Cal Try.prog 23 := cal_of Try.func23 (by kernel_rfl) (by kernel_rfl)
instance : Cal Try.prog 24 := cal_of Try.func24 (by kernel_rfl) (by kernel_rfl)
instance : Cal Try.prog 25 := cal_of Try.func25 (by kernel_rfl) (by kernel_rfl)
instance : Cal Try.prog 26 := cal_of Try.func26 (by kernel_rfl) (by kernel_rfl)
instance : Cal Try.prog 27 := cal_of Try.func27 (by kernel_rfl) (by kernel_rfl)
instance : Cal Try.prog 28 := cal_of Try.func28 (by kernel_rfl) (by kernel_rfl)
instance : Cal Try.prog 29 := cal_of Try.func29 (by kernel_rfl) (by kernel_rfl)
instance : Cal Try.prog 30 := cal_of Try.func30 (by kernel_rfl) (by kernel_rfl)
instance : Cal Try.prog 31 := cal_of Try.func31 (by kernel_rfl) (by kernel_rfl)
instance : Cal Try.prog 32 := cal_of Try.func32 (by kernel_rfl) (by kernel_rfl)
end Go.Proofs.Yticnafofachleaa
