/-
  The facts on the types and functions of the translation, as instances that the rules look for. Made by program.
-/
import Derived.Test.YtfkklicpnoeclaaChecked
import Derived.Test.YtfkklicpnoeclaaSv
namespace Go.SL
open Go Go.Proofs
theorem info_of {P : Program} {t : Nat} {i : TypeInfo} (h : P.toTables.types[t]? = some i) : P.info? t = some i := by
  have hl := (Array.getElem?_eq_some_iff.1 h).1
  simp only [Tables.info?, hl, if_true]
  exact h

instance : Und Try.prog 0 (TypeDesc.tuple #[]) := ⟨Try.underlying0⟩
instance : Size Try.prog 0 1 := ⟨_, info_of Try.type0, rfl⟩
instance : Und Try.prog 1 (TypeDesc.func #[] #[] false) := ⟨Try.underlying1⟩
instance : Size Try.prog 1 1 := ⟨_, info_of Try.type1, rfl⟩
instance : One Try.prog 1 := ⟨_, Try.underlying1, rfl⟩
instance : ZeroC Try.prog 1 ([Value.nilFunc]) := ⟨_, _, info_of Try.type1, rfl, rfl⟩
instance : Elem Try.prog 1 1 8 := ⟨_, _, info_of Try.type1, rfl, rfl, rfl, rfl, by decide⟩
instance : Und Try.prog 2 (TypeDesc.int IntKind.i64) := ⟨Try.underlying2⟩
instance : Size Try.prog 2 1 := ⟨_, info_of Try.type2, rfl⟩
instance : One Try.prog 2 := ⟨_, Try.underlying2, rfl⟩
instance : ZeroC Try.prog 2 ([Value.int IntKind.i64 0]) := ⟨_, _, info_of Try.type2, rfl, rfl⟩
instance : Elem Try.prog 2 1 8 := ⟨_, _, info_of Try.type2, rfl, rfl, rfl, rfl, by decide⟩
instance : Und Try.prog 3 (TypeDesc.int IntKind.i64) := ⟨Try.underlying3⟩
instance : Size Try.prog 3 1 := ⟨_, info_of Try.type3, rfl⟩
instance : One Try.prog 3 := ⟨_, Try.underlying3, rfl⟩
instance : ZeroC Try.prog 3 ([Value.int IntKind.i64 0]) := ⟨_, _, info_of Try.type3, rfl, rfl⟩
instance : Elem Try.prog 3 1 8 := ⟨_, _, info_of Try.type3, rfl, rfl, rfl, rfl, by decide⟩
instance : Und Try.prog 4 (TypeDesc.bool) := ⟨Try.underlying4⟩
instance : Size Try.prog 4 1 := ⟨_, info_of Try.type4, rfl⟩
instance : One Try.prog 4 := ⟨_, Try.underlying4, rfl⟩
instance : ZeroC Try.prog 4 ([Value.bool false]) := ⟨_, _, info_of Try.type4, rfl, rfl⟩
instance : Elem Try.prog 4 1 1 := ⟨_, _, info_of Try.type4, rfl, rfl, rfl, rfl, by decide⟩
instance : Und Try.prog 5 (TypeDesc.int IntKind.u8) := ⟨Try.underlying5⟩
instance : Size Try.prog 5 1 := ⟨_, info_of Try.type5, rfl⟩
instance : One Try.prog 5 := ⟨_, Try.underlying5, rfl⟩
instance : ZeroC Try.prog 5 ([Value.int IntKind.u8 0]) := ⟨_, _, info_of Try.type5, rfl, rfl⟩
instance : Elem Try.prog 5 1 1 := ⟨_, _, info_of Try.type5, rfl, rfl, rfl, rfl, by decide⟩
instance : Und Try.prog 6 (TypeDesc.int IntKind.u8) := ⟨Try.underlying6⟩
instance : Size Try.prog 6 1 := ⟨_, info_of Try.type6, rfl⟩
instance : One Try.prog 6 := ⟨_, Try.underlying6, rfl⟩
instance : ZeroC Try.prog 6 ([Value.int IntKind.u8 0]) := ⟨_, _, info_of Try.type6, rfl, rfl⟩
instance : Elem Try.prog 6 1 1 := ⟨_, _, info_of Try.type6, rfl, rfl, rfl, rfl, by decide⟩
instance : Und Try.prog 7 (TypeDesc.struct #[{ name := "x", type := 2, offset := 0, embedded := false, tag := "", pkgPath := "runtime", byteOffset := 0 }, { name := "y", type := 3, offset := 1, embedded := false, tag := "", pkgPath := "runtime", byteOffset := 8 }, { name := "signed", type := 4, offset := 2, embedded := false, tag := "", pkgPath := "runtime", byteOffset := 16 }, { name := "code", type := 6, offset := 3, embedded := false, tag := "", pkgPath := "runtime", byteOffset := 17 }]) := ⟨Try.underlying7⟩
instance : Size Try.prog 7 4 := ⟨_, info_of Try.type7, rfl⟩
instance : Agg Try.prog 7 4 := ⟨_, _, Try.underlying7, rfl, info_of Try.type7, rfl⟩
instance : ZeroC Try.prog 7 ([Value.int IntKind.i64 0, Value.int IntKind.i64 0, Value.bool false, Value.int IntKind.u8 0]) := ⟨_, _, info_of Try.type7, rfl, rfl⟩
instance : Elem Try.prog 7 4 24 := ⟨_, _, info_of Try.type7, rfl, rfl, rfl, rfl, by decide⟩
instance : Struct Try.prog 7 [(0, 1), (1, 1), (2, 1), (3, 1)] ([Value.int IntKind.i64 0, Value.int IntKind.i64 0, Value.bool false, Value.int IntKind.u8 0]) := ⟨_, _, _, info_of Try.type7, Try.underlying7, rfl, by simp only [List.mapM_cons, List.mapM_nil, info_of Try.type2, info_of Try.type3, info_of Try.type4, info_of Try.type6]; rfl, rfl⟩
instance : Fld Try.prog 7 0 0 := ⟨_, _, _, Try.underlying7, rfl, rfl, info_of Try.type2, by decide⟩
instance : Fld Try.prog 7 1 1 := ⟨_, _, _, Try.underlying7, rfl, rfl, info_of Try.type3, by decide⟩
instance : Fld Try.prog 7 2 2 := ⟨_, _, _, Try.underlying7, rfl, rfl, info_of Try.type4, by decide⟩
instance : Fld Try.prog 7 3 3 := ⟨_, _, _, Try.underlying7, rfl, rfl, info_of Try.type6, by decide⟩
instance : Und Try.prog 8 (TypeDesc.struct #[{ name := "x", type := 2, offset := 0, embedded := false, tag := "", pkgPath := "runtime", byteOffset := 0 }, { name := "y", type := 3, offset := 1, embedded := false, tag := "", pkgPath := "runtime", byteOffset := 8 }, { name := "signed", type := 4, offset := 2, embedded := false, tag := "", pkgPath := "runtime", byteOffset := 16 }, { name := "code", type := 6, offset := 3, embedded := false, tag := "", pkgPath := "runtime", byteOffset := 17 }]) := ⟨Try.underlying8⟩
instance : Size Try.prog 8 4 := ⟨_, info_of Try.type8, rfl⟩
instance : Agg Try.prog 8 4 := ⟨_, _, Try.underlying8, rfl, info_of Try.type8, rfl⟩
instance : ZeroC Try.prog 8 ([Value.int IntKind.i64 0, Value.int IntKind.i64 0, Value.bool false, Value.int IntKind.u8 0]) := ⟨_, _, info_of Try.type8, rfl, rfl⟩
instance : Elem Try.prog 8 4 24 := ⟨_, _, info_of Try.type8, rfl, rfl, rfl, rfl, by decide⟩
instance : Struct Try.prog 8 [(0, 1), (1, 1), (2, 1), (3, 1)] ([Value.int IntKind.i64 0, Value.int IntKind.i64 0, Value.bool false, Value.int IntKind.u8 0]) := ⟨_, _, _, info_of Try.type8, Try.underlying8, rfl, by simp only [List.mapM_cons, List.mapM_nil, info_of Try.type2, info_of Try.type3, info_of Try.type4, info_of Try.type6]; rfl, rfl⟩
instance : Fld Try.prog 8 0 0 := ⟨_, _, _, Try.underlying8, rfl, rfl, info_of Try.type2, by decide⟩
instance : Fld Try.prog 8 1 1 := ⟨_, _, _, Try.underlying8, rfl, rfl, info_of Try.type3, by decide⟩
instance : Fld Try.prog 8 2 2 := ⟨_, _, _, Try.underlying8, rfl, rfl, info_of Try.type4, by decide⟩
instance : Fld Try.prog 8 3 3 := ⟨_, _, _, Try.underlying8, rfl, rfl, info_of Try.type6, by decide⟩
instance : Und Try.prog 9 (TypeDesc.string) := ⟨Try.underlying9⟩
instance : Size Try.prog 9 1 := ⟨_, info_of Try.type9, rfl⟩
instance : One Try.prog 9 := ⟨_, Try.underlying9, rfl⟩
instance : ZeroC Try.prog 9 ([Value.string { data := #[] }]) := ⟨_, _, info_of Try.type9, rfl, rfl⟩
instance : Elem Try.prog 9 1 16 := ⟨_, _, info_of Try.type9, rfl, rfl, rfl, rfl, by decide⟩
instance : Und Try.prog 10 (TypeDesc.string) := ⟨Try.underlying10⟩
instance : Size Try.prog 10 1 := ⟨_, info_of Try.type10, rfl⟩
instance : One Try.prog 10 := ⟨_, Try.underlying10, rfl⟩
instance : ZeroC Try.prog 10 ([Value.string { data := #[] }]) := ⟨_, _, info_of Try.type10, rfl, rfl⟩
instance : Elem Try.prog 10 1 16 := ⟨_, _, info_of Try.type10, rfl, rfl, rfl, rfl, by decide⟩
instance : Und Try.prog 11 (TypeDesc.string) := ⟨Try.underlying11⟩
instance : Size Try.prog 11 1 := ⟨_, info_of Try.type11, rfl⟩
instance : One Try.prog 11 := ⟨_, Try.underlying11, rfl⟩
instance : ZeroC Try.prog 11 ([Value.string { data := #[] }]) := ⟨_, _, info_of Try.type11, rfl, rfl⟩
instance : Elem Try.prog 11 1 16 := ⟨_, _, info_of Try.type11, rfl, rfl, rfl, rfl, by decide⟩
instance : Und Try.prog 12 (TypeDesc.int IntKind.u64) := ⟨Try.underlying12⟩
instance : Size Try.prog 12 1 := ⟨_, info_of Try.type12, rfl⟩
instance : One Try.prog 12 := ⟨_, Try.underlying12, rfl⟩
instance : ZeroC Try.prog 12 ([Value.int IntKind.u64 0]) := ⟨_, _, info_of Try.type12, rfl, rfl⟩
instance : Elem Try.prog 12 1 8 := ⟨_, _, info_of Try.type12, rfl, rfl, rfl, rfl, by decide⟩
instance : Und Try.prog 13 (TypeDesc.struct #[{ name := "msg", type := 9, offset := 0, embedded := false, tag := "", pkgPath := "runtime", byteOffset := 0 }, { name := "addr", type := 12, offset := 1, embedded := false, tag := "", pkgPath := "runtime", byteOffset := 16 }]) := ⟨Try.underlying13⟩
instance : Size Try.prog 13 2 := ⟨_, info_of Try.type13, rfl⟩
instance : Agg Try.prog 13 2 := ⟨_, _, Try.underlying13, rfl, info_of Try.type13, rfl⟩
instance : ZeroC Try.prog 13 ([Value.string { data := #[] }, Value.int IntKind.u64 0]) := ⟨_, _, info_of Try.type13, rfl, rfl⟩
instance : Elem Try.prog 13 2 24 := ⟨_, _, info_of Try.type13, rfl, rfl, rfl, rfl, by decide⟩
instance : Struct Try.prog 13 [(0, 1), (1, 1)] ([Value.string { data := #[] }, Value.int IntKind.u64 0]) := ⟨_, _, _, info_of Try.type13, Try.underlying13, rfl, by simp only [List.mapM_cons, List.mapM_nil, info_of Try.type12, info_of Try.type9]; rfl, rfl⟩
instance : Fld Try.prog 13 0 0 := ⟨_, _, _, Try.underlying13, rfl, rfl, info_of Try.type9, by decide⟩
instance : Fld Try.prog 13 1 1 := ⟨_, _, _, Try.underlying13, rfl, rfl, info_of Try.type12, by decide⟩
instance : Und Try.prog 14 (TypeDesc.struct #[{ name := "msg", type := 9, offset := 0, embedded := false, tag := "", pkgPath := "runtime", byteOffset := 0 }, { name := "addr", type := 12, offset := 1, embedded := false, tag := "", pkgPath := "runtime", byteOffset := 16 }]) := ⟨Try.underlying14⟩
instance : Size Try.prog 14 2 := ⟨_, info_of Try.type14, rfl⟩
instance : Agg Try.prog 14 2 := ⟨_, _, Try.underlying14, rfl, info_of Try.type14, rfl⟩
instance : ZeroC Try.prog 14 ([Value.string { data := #[] }, Value.int IntKind.u64 0]) := ⟨_, _, info_of Try.type14, rfl, rfl⟩
instance : Elem Try.prog 14 2 24 := ⟨_, _, info_of Try.type14, rfl, rfl, rfl, rfl, by decide⟩
instance : Struct Try.prog 14 [(0, 1), (1, 1)] ([Value.string { data := #[] }, Value.int IntKind.u64 0]) := ⟨_, _, _, info_of Try.type14, Try.underlying14, rfl, by simp only [List.mapM_cons, List.mapM_nil, info_of Try.type12, info_of Try.type9]; rfl, rfl⟩
instance : Fld Try.prog 14 0 0 := ⟨_, _, _, Try.underlying14, rfl, rfl, info_of Try.type9, by decide⟩
instance : Fld Try.prog 14 1 1 := ⟨_, _, _, Try.underlying14, rfl, rfl, info_of Try.type12, by decide⟩
instance : Und Try.prog 15 (TypeDesc.pointer 131) := ⟨Try.underlying15⟩
instance : Size Try.prog 15 1 := ⟨_, info_of Try.type15, rfl⟩
instance : One Try.prog 15 := ⟨_, Try.underlying15, rfl⟩
instance : ZeroC Try.prog 15 ([Value.pointer none]) := ⟨_, _, info_of Try.type15, rfl, rfl⟩
instance : Elem Try.prog 15 1 8 := ⟨_, _, info_of Try.type15, rfl, rfl, rfl, rfl, by decide⟩
instance : Und Try.prog 16 (TypeDesc.pointer 134) := ⟨Try.underlying16⟩
instance : Size Try.prog 16 1 := ⟨_, info_of Try.type16, rfl⟩
instance : One Try.prog 16 := ⟨_, Try.underlying16, rfl⟩
instance : ZeroC Try.prog 16 ([Value.pointer none]) := ⟨_, _, info_of Try.type16, rfl, rfl⟩
instance : Elem Try.prog 16 1 8 := ⟨_, _, info_of Try.type16, rfl, rfl, rfl, rfl, by decide⟩
instance : Und Try.prog 17 (TypeDesc.pointer 144) := ⟨Try.underlying17⟩
instance : Size Try.prog 17 1 := ⟨_, info_of Try.type17, rfl⟩
instance : One Try.prog 17 := ⟨_, Try.underlying17, rfl⟩
instance : ZeroC Try.prog 17 ([Value.pointer none]) := ⟨_, _, info_of Try.type17, rfl, rfl⟩
instance : Elem Try.prog 17 1 8 := ⟨_, _, info_of Try.type17, rfl, rfl, rfl, rfl, by decide⟩
instance : Und Try.prog 18 (TypeDesc.struct #[{ name := "typ", type := 17, offset := 0, embedded := false, tag := "", pkgPath := "internal/runtime/maps", byteOffset := 0 }]) := ⟨Try.underlying18⟩
instance : Size Try.prog 18 1 := ⟨_, info_of Try.type18, rfl⟩
instance : Agg Try.prog 18 1 := ⟨_, _, Try.underlying18, rfl, info_of Try.type18, rfl⟩
instance : ZeroC Try.prog 18 ([Value.pointer none]) := ⟨_, _, info_of Try.type18, rfl, rfl⟩
instance : Elem Try.prog 18 1 8 := ⟨_, _, info_of Try.type18, rfl, rfl, rfl, rfl, by decide⟩
instance : Struct Try.prog 18 [(0, 1)] ([Value.pointer none]) := ⟨_, _, _, info_of Try.type18, Try.underlying18, rfl, by simp only [List.mapM_cons, List.mapM_nil, info_of Try.type17]; rfl, rfl⟩
instance : Fld Try.prog 18 0 0 := ⟨_, _, _, Try.underlying18, rfl, rfl, info_of Try.type17, by decide⟩
instance : Und Try.prog 19 (TypeDesc.struct #[{ name := "typ", type := 17, offset := 0, embedded := false, tag := "", pkgPath := "internal/runtime/maps", byteOffset := 0 }]) := ⟨Try.underlying19⟩
instance : Size Try.prog 19 1 := ⟨_, info_of Try.type19, rfl⟩
instance : Agg Try.prog 19 1 := ⟨_, _, Try.underlying19, rfl, info_of Try.type19, rfl⟩
instance : ZeroC Try.prog 19 ([Value.pointer none]) := ⟨_, _, info_of Try.type19, rfl, rfl⟩
instance : Elem Try.prog 19 1 8 := ⟨_, _, info_of Try.type19, rfl, rfl, rfl, rfl, by decide⟩
instance : Struct Try.prog 19 [(0, 1)] ([Value.pointer none]) := ⟨_, _, _, info_of Try.type19, Try.underlying19, rfl, by simp only [List.mapM_cons, List.mapM_nil, info_of Try.type17]; rfl, rfl⟩
instance : Fld Try.prog 19 0 0 := ⟨_, _, _, Try.underlying19, rfl, rfl, info_of Try.type17, by decide⟩
instance : Und Try.prog 20 (TypeDesc.interface #[]) := ⟨Try.underlying20⟩
instance : Size Try.prog 20 1 := ⟨_, info_of Try.type20, rfl⟩
instance : One Try.prog 20 := ⟨_, Try.underlying20, rfl⟩
instance : ZeroC Try.prog 20 ([Value.nilIface]) := ⟨_, _, info_of Try.type20, rfl, rfl⟩
instance : Elem Try.prog 20 1 16 := ⟨_, _, info_of Try.type20, rfl, rfl, rfl, rfl, by decide⟩
instance : Und Try.prog 21 (TypeDesc.int IntKind.i32) := ⟨Try.underlying21⟩
instance : Size Try.prog 21 1 := ⟨_, info_of Try.type21, rfl⟩
instance : One Try.prog 21 := ⟨_, Try.underlying21, rfl⟩
instance : ZeroC Try.prog 21 ([Value.int IntKind.i32 0]) := ⟨_, _, info_of Try.type21, rfl, rfl⟩
instance : Elem Try.prog 21 1 4 := ⟨_, _, info_of Try.type21, rfl, rfl, rfl, rfl, by decide⟩
instance : Und Try.prog 22 (TypeDesc.slice 40) := ⟨Try.underlying22⟩
instance : Size Try.prog 22 1 := ⟨_, info_of Try.type22, rfl⟩
instance : One Try.prog 22 := ⟨_, Try.underlying22, rfl⟩
instance : ZeroC Try.prog 22 ([Value.slice none 0 0]) := ⟨_, _, info_of Try.type22, rfl, rfl⟩
instance : Elem Try.prog 22 1 24 := ⟨_, _, info_of Try.type22, rfl, rfl, rfl, rfl, by decide⟩
instance : Und Try.prog 23 (TypeDesc.func #[22] #[22] false) := ⟨Try.underlying23⟩
instance : Size Try.prog 23 1 := ⟨_, info_of Try.type23, rfl⟩
instance : One Try.prog 23 := ⟨_, Try.underlying23, rfl⟩
instance : ZeroC Try.prog 23 ([Value.nilFunc]) := ⟨_, _, info_of Try.type23, rfl, rfl⟩
instance : Elem Try.prog 23 1 8 := ⟨_, _, info_of Try.type23, rfl, rfl, rfl, rfl, by decide⟩
instance : Und Try.prog 24 (TypeDesc.int IntKind.i64) := ⟨Try.underlying24⟩
instance : Size Try.prog 24 1 := ⟨_, info_of Try.type24, rfl⟩
instance : One Try.prog 24 := ⟨_, Try.underlying24, rfl⟩
instance : ZeroC Try.prog 24 ([Value.int IntKind.i64 0]) := ⟨_, _, info_of Try.type24, rfl, rfl⟩
instance : Elem Try.prog 24 1 8 := ⟨_, _, info_of Try.type24, rfl, rfl, rfl, rfl, by decide⟩
instance : Und Try.prog 25 (TypeDesc.tuple #[3, 24]) := ⟨Try.underlying25⟩
instance : Size Try.prog 25 1 := ⟨_, info_of Try.type25, rfl⟩
instance : Und Try.prog 26 (TypeDesc.func #[22] #[3, 24] false) := ⟨Try.underlying26⟩
instance : Size Try.prog 26 1 := ⟨_, info_of Try.type26, rfl⟩
instance : One Try.prog 26 := ⟨_, Try.underlying26, rfl⟩
instance : ZeroC Try.prog 26 ([Value.nilFunc]) := ⟨_, _, info_of Try.type26, rfl, rfl⟩
instance : Elem Try.prog 26 1 8 := ⟨_, _, info_of Try.type26, rfl, rfl, rfl, rfl, by decide⟩
instance : Und Try.prog 27 (TypeDesc.slice 3) := ⟨Try.underlying27⟩
instance : Size Try.prog 27 1 := ⟨_, info_of Try.type27, rfl⟩
instance : One Try.prog 27 := ⟨_, Try.underlying27, rfl⟩
instance : ZeroC Try.prog 27 ([Value.slice none 0 0]) := ⟨_, _, info_of Try.type27, rfl, rfl⟩
instance : Elem Try.prog 27 1 24 := ⟨_, _, info_of Try.type27, rfl, rfl, rfl, rfl, by decide⟩
instance : Und Try.prog 28 (TypeDesc.tuple #[27, 24]) := ⟨Try.underlying28⟩
instance : Size Try.prog 28 1 := ⟨_, info_of Try.type28, rfl⟩
instance : Und Try.prog 29 (TypeDesc.func #[22, 3] #[27, 24] false) := ⟨Try.underlying29⟩
instance : Size Try.prog 29 1 := ⟨_, info_of Try.type29, rfl⟩
instance : One Try.prog 29 := ⟨_, Try.underlying29, rfl⟩
instance : ZeroC Try.prog 29 ([Value.nilFunc]) := ⟨_, _, info_of Try.type29, rfl, rfl⟩
instance : Elem Try.prog 29 1 8 := ⟨_, _, info_of Try.type29, rfl, rfl, rfl, rfl, by decide⟩
instance : Und Try.prog 30 (TypeDesc.tuple #[22, 24]) := ⟨Try.underlying30⟩
instance : Size Try.prog 30 1 := ⟨_, info_of Try.type30, rfl⟩
instance : Und Try.prog 31 (TypeDesc.func #[22, 3] #[22, 24] false) := ⟨Try.underlying31⟩
instance : Size Try.prog 31 1 := ⟨_, info_of Try.type31, rfl⟩
instance : One Try.prog 31 := ⟨_, Try.underlying31, rfl⟩
instance : ZeroC Try.prog 31 ([Value.nilFunc]) := ⟨_, _, info_of Try.type31, rfl, rfl⟩
instance : Elem Try.prog 31 1 8 := ⟨_, _, info_of Try.type31, rfl, rfl, rfl, rfl, by decide⟩
instance : Und Try.prog 32 (TypeDesc.func #[22] #[24] false) := ⟨Try.underlying32⟩
instance : Size Try.prog 32 1 := ⟨_, info_of Try.type32, rfl⟩
instance : One Try.prog 32 := ⟨_, Try.underlying32, rfl⟩
instance : ZeroC Try.prog 32 ([Value.nilFunc]) := ⟨_, _, info_of Try.type32, rfl, rfl⟩
instance : Elem Try.prog 32 1 8 := ⟨_, _, info_of Try.type32, rfl, rfl, rfl, rfl, by decide⟩
instance : Und Try.prog 33 (TypeDesc.func #[27, 27] #[4] false) := ⟨Try.underlying33⟩
instance : Size Try.prog 33 1 := ⟨_, info_of Try.type33, rfl⟩
instance : One Try.prog 33 := ⟨_, Try.underlying33, rfl⟩
instance : ZeroC Try.prog 33 ([Value.nilFunc]) := ⟨_, _, info_of Try.type33, rfl, rfl⟩
instance : Elem Try.prog 33 1 8 := ⟨_, _, info_of Try.type33, rfl, rfl, rfl, rfl, by decide⟩
instance : Und Try.prog 34 (TypeDesc.func #[22, 22] #[4] false) := ⟨Try.underlying34⟩
instance : Size Try.prog 34 1 := ⟨_, info_of Try.type34, rfl⟩
instance : One Try.prog 34 := ⟨_, Try.underlying34, rfl⟩
instance : ZeroC Try.prog 34 ([Value.nilFunc]) := ⟨_, _, info_of Try.type34, rfl, rfl⟩
instance : Elem Try.prog 34 1 8 := ⟨_, _, info_of Try.type34, rfl, rfl, rfl, rfl, by decide⟩
instance : Und Try.prog 35 (TypeDesc.struct #[{ name := "Kind", type := 5, offset := 0, embedded := false, tag := "", pkgPath := "", byteOffset := 0 }, { name := "Num", type := 2, offset := 1, embedded := false, tag := "", pkgPath := "", byteOffset := 8 }, { name := "Text", type := 9, offset := 2, embedded := false, tag := "", pkgPath := "", byteOffset := 16 }]) := ⟨Try.underlying35⟩
instance : Size Try.prog 35 3 := ⟨_, info_of Try.type35, rfl⟩
instance : Agg Try.prog 35 3 := ⟨_, _, Try.underlying35, rfl, info_of Try.type35, rfl⟩
instance : ZeroC Try.prog 35 ([Value.int IntKind.u8 0, Value.int IntKind.i64 0, Value.string { data := #[] }]) := ⟨_, _, info_of Try.type35, rfl, rfl⟩
instance : Elem Try.prog 35 3 32 := ⟨_, _, info_of Try.type35, rfl, rfl, rfl, rfl, by decide⟩
instance : Struct Try.prog 35 [(0, 1), (1, 1), (2, 1)] ([Value.int IntKind.u8 0, Value.int IntKind.i64 0, Value.string { data := #[] }]) := ⟨_, _, _, info_of Try.type35, Try.underlying35, rfl, by simp only [List.mapM_cons, List.mapM_nil, info_of Try.type2, info_of Try.type5, info_of Try.type9]; rfl, rfl⟩
instance : Fld Try.prog 35 0 0 := ⟨_, _, _, Try.underlying35, rfl, rfl, info_of Try.type5, by decide⟩
instance : Fld Try.prog 35 1 1 := ⟨_, _, _, Try.underlying35, rfl, rfl, info_of Try.type2, by decide⟩
instance : Fld Try.prog 35 2 2 := ⟨_, _, _, Try.underlying35, rfl, rfl, info_of Try.type9, by decide⟩
instance : Und Try.prog 36 (TypeDesc.struct #[{ name := "Kind", type := 5, offset := 0, embedded := false, tag := "", pkgPath := "", byteOffset := 0 }, { name := "Num", type := 2, offset := 1, embedded := false, tag := "", pkgPath := "", byteOffset := 8 }, { name := "Text", type := 9, offset := 2, embedded := false, tag := "", pkgPath := "", byteOffset := 16 }]) := ⟨Try.underlying36⟩
instance : Size Try.prog 36 3 := ⟨_, info_of Try.type36, rfl⟩
instance : Agg Try.prog 36 3 := ⟨_, _, Try.underlying36, rfl, info_of Try.type36, rfl⟩
instance : ZeroC Try.prog 36 ([Value.int IntKind.u8 0, Value.int IntKind.i64 0, Value.string { data := #[] }]) := ⟨_, _, info_of Try.type36, rfl, rfl⟩
instance : Elem Try.prog 36 3 32 := ⟨_, _, info_of Try.type36, rfl, rfl, rfl, rfl, by decide⟩
instance : Struct Try.prog 36 [(0, 1), (1, 1), (2, 1)] ([Value.int IntKind.u8 0, Value.int IntKind.i64 0, Value.string { data := #[] }]) := ⟨_, _, _, info_of Try.type36, Try.underlying36, rfl, by simp only [List.mapM_cons, List.mapM_nil, info_of Try.type2, info_of Try.type5, info_of Try.type9]; rfl, rfl⟩
instance : Fld Try.prog 36 0 0 := ⟨_, _, _, Try.underlying36, rfl, rfl, info_of Try.type5, by decide⟩
instance : Fld Try.prog 36 1 1 := ⟨_, _, _, Try.underlying36, rfl, rfl, info_of Try.type2, by decide⟩
instance : Fld Try.prog 36 2 2 := ⟨_, _, _, Try.underlying36, rfl, rfl, info_of Try.type9, by decide⟩
instance : Und Try.prog 37 (TypeDesc.struct #[{ name := "C1", type := 3, offset := 0, embedded := false, tag := "", pkgPath := "", byteOffset := 0 }, { name := "R1", type := 3, offset := 1, embedded := false, tag := "", pkgPath := "", byteOffset := 8 }, { name := "C2", type := 3, offset := 2, embedded := false, tag := "", pkgPath := "", byteOffset := 16 }, { name := "R2", type := 3, offset := 3, embedded := false, tag := "", pkgPath := "", byteOffset := 24 }]) := ⟨Try.underlying37⟩
instance : Size Try.prog 37 4 := ⟨_, info_of Try.type37, rfl⟩
instance : Agg Try.prog 37 4 := ⟨_, _, Try.underlying37, rfl, info_of Try.type37, rfl⟩
instance : ZeroC Try.prog 37 ([Value.int IntKind.i64 0, Value.int IntKind.i64 0, Value.int IntKind.i64 0, Value.int IntKind.i64 0]) := ⟨_, _, info_of Try.type37, rfl, rfl⟩
instance : Elem Try.prog 37 4 32 := ⟨_, _, info_of Try.type37, rfl, rfl, rfl, rfl, by decide⟩
instance : Struct Try.prog 37 [(0, 1), (1, 1), (2, 1), (3, 1)] ([Value.int IntKind.i64 0, Value.int IntKind.i64 0, Value.int IntKind.i64 0, Value.int IntKind.i64 0]) := ⟨_, _, _, info_of Try.type37, Try.underlying37, rfl, by simp only [List.mapM_cons, List.mapM_nil, info_of Try.type3]; rfl, rfl⟩
instance : Fld Try.prog 37 0 0 := ⟨_, _, _, Try.underlying37, rfl, rfl, info_of Try.type3, by decide⟩
instance : Fld Try.prog 37 1 1 := ⟨_, _, _, Try.underlying37, rfl, rfl, info_of Try.type3, by decide⟩
instance : Fld Try.prog 37 2 2 := ⟨_, _, _, Try.underlying37, rfl, rfl, info_of Try.type3, by decide⟩
instance : Fld Try.prog 37 3 3 := ⟨_, _, _, Try.underlying37, rfl, rfl, info_of Try.type3, by decide⟩
instance : Und Try.prog 38 (TypeDesc.struct #[{ name := "C1", type := 3, offset := 0, embedded := false, tag := "", pkgPath := "", byteOffset := 0 }, { name := "R1", type := 3, offset := 1, embedded := false, tag := "", pkgPath := "", byteOffset := 8 }, { name := "C2", type := 3, offset := 2, embedded := false, tag := "", pkgPath := "", byteOffset := 16 }, { name := "R2", type := 3, offset := 3, embedded := false, tag := "", pkgPath := "", byteOffset := 24 }]) := ⟨Try.underlying38⟩
instance : Size Try.prog 38 4 := ⟨_, info_of Try.type38, rfl⟩
instance : Agg Try.prog 38 4 := ⟨_, _, Try.underlying38, rfl, info_of Try.type38, rfl⟩
instance : ZeroC Try.prog 38 ([Value.int IntKind.i64 0, Value.int IntKind.i64 0, Value.int IntKind.i64 0, Value.int IntKind.i64 0]) := ⟨_, _, info_of Try.type38, rfl, rfl⟩
instance : Elem Try.prog 38 4 32 := ⟨_, _, info_of Try.type38, rfl, rfl, rfl, rfl, by decide⟩
instance : Struct Try.prog 38 [(0, 1), (1, 1), (2, 1), (3, 1)] ([Value.int IntKind.i64 0, Value.int IntKind.i64 0, Value.int IntKind.i64 0, Value.int IntKind.i64 0]) := ⟨_, _, _, info_of Try.type38, Try.underlying38, rfl, by simp only [List.mapM_cons, List.mapM_nil, info_of Try.type3]; rfl, rfl⟩
instance : Fld Try.prog 38 0 0 := ⟨_, _, _, Try.underlying38, rfl, rfl, info_of Try.type3, by decide⟩
instance : Fld Try.prog 38 1 1 := ⟨_, _, _, Try.underlying38, rfl, rfl, info_of Try.type3, by decide⟩
instance : Fld Try.prog 38 2 2 := ⟨_, _, _, Try.underlying38, rfl, rfl, info_of Try.type3, by decide⟩
instance : Fld Try.prog 38 3 3 := ⟨_, _, _, Try.underlying38, rfl, rfl, info_of Try.type3, by decide⟩
instance : Und Try.prog 39 (TypeDesc.struct #[{ name := "Kind", type := 5, offset := 0, embedded := false, tag := "", pkgPath := "", byteOffset := 0 }, { name := "V", type := 36, offset := 1, embedded := false, tag := "", pkgPath := "", byteOffset := 8 }, { name := "Rect", type := 38, offset := 4, embedded := false, tag := "", pkgPath := "", byteOffset := 40 }, { name := "Op", type := 2, offset := 8, embedded := false, tag := "", pkgPath := "", byteOffset := 72 }, { name := "Fn", type := 5, offset := 9, embedded := false, tag := "", pkgPath := "", byteOffset := 80 }, { name := "N", type := 3, offset := 10, embedded := false, tag := "", pkgPath := "", byteOffset := 88 }]) := ⟨Try.underlying39⟩
instance : Size Try.prog 39 11 := ⟨_, info_of Try.type39, rfl⟩
instance : Agg Try.prog 39 11 := ⟨_, _, Try.underlying39, rfl, info_of Try.type39, rfl⟩
instance : ZeroC Try.prog 39 ([Value.int IntKind.u8 0, Value.int IntKind.u8 0, Value.int IntKind.i64 0, Value.string { data := #[] }, Value.int IntKind.i64 0, Value.int IntKind.i64 0, Value.int IntKind.i64 0, Value.int IntKind.i64 0, Value.int IntKind.i64 0, Value.int IntKind.u8 0, Value.int IntKind.i64 0]) := ⟨_, _, info_of Try.type39, rfl, rfl⟩
instance : Elem Try.prog 39 11 96 := ⟨_, _, info_of Try.type39, rfl, rfl, rfl, rfl, by decide⟩
instance : Struct Try.prog 39 [(0, 1), (1, 3), (4, 4), (8, 1), (9, 1), (10, 1)] ([Value.int IntKind.u8 0, Value.int IntKind.u8 0, Value.int IntKind.i64 0, Value.string { data := #[] }, Value.int IntKind.i64 0, Value.int IntKind.i64 0, Value.int IntKind.i64 0, Value.int IntKind.i64 0, Value.int IntKind.i64 0, Value.int IntKind.u8 0, Value.int IntKind.i64 0]) := ⟨_, _, _, info_of Try.type39, Try.underlying39, rfl, by simp only [List.mapM_cons, List.mapM_nil, info_of Try.type2, info_of Try.type3, info_of Try.type36, info_of Try.type38, info_of Try.type5]; rfl, rfl⟩
instance : Fld Try.prog 39 0 0 := ⟨_, _, _, Try.underlying39, rfl, rfl, info_of Try.type5, by decide⟩
instance : Fld Try.prog 39 1 1 := ⟨_, _, _, Try.underlying39, rfl, rfl, info_of Try.type36, by decide⟩
instance : Fld Try.prog 39 2 4 := ⟨_, _, _, Try.underlying39, rfl, rfl, info_of Try.type38, by decide⟩
instance : Fld Try.prog 39 3 8 := ⟨_, _, _, Try.underlying39, rfl, rfl, info_of Try.type2, by decide⟩
instance : Fld Try.prog 39 4 9 := ⟨_, _, _, Try.underlying39, rfl, rfl, info_of Try.type5, by decide⟩
instance : Fld Try.prog 39 5 10 := ⟨_, _, _, Try.underlying39, rfl, rfl, info_of Try.type3, by decide⟩
instance : Und Try.prog 40 (TypeDesc.struct #[{ name := "Kind", type := 5, offset := 0, embedded := false, tag := "", pkgPath := "", byteOffset := 0 }, { name := "V", type := 36, offset := 1, embedded := false, tag := "", pkgPath := "", byteOffset := 8 }, { name := "Rect", type := 38, offset := 4, embedded := false, tag := "", pkgPath := "", byteOffset := 40 }, { name := "Op", type := 2, offset := 8, embedded := false, tag := "", pkgPath := "", byteOffset := 72 }, { name := "Fn", type := 5, offset := 9, embedded := false, tag := "", pkgPath := "", byteOffset := 80 }, { name := "N", type := 3, offset := 10, embedded := false, tag := "", pkgPath := "", byteOffset := 88 }]) := ⟨Try.underlying40⟩
instance : Size Try.prog 40 11 := ⟨_, info_of Try.type40, rfl⟩
instance : Agg Try.prog 40 11 := ⟨_, _, Try.underlying40, rfl, info_of Try.type40, rfl⟩
instance : ZeroC Try.prog 40 ([Value.int IntKind.u8 0, Value.int IntKind.u8 0, Value.int IntKind.i64 0, Value.string { data := #[] }, Value.int IntKind.i64 0, Value.int IntKind.i64 0, Value.int IntKind.i64 0, Value.int IntKind.i64 0, Value.int IntKind.i64 0, Value.int IntKind.u8 0, Value.int IntKind.i64 0]) := ⟨_, _, info_of Try.type40, rfl, rfl⟩
instance : Elem Try.prog 40 11 96 := ⟨_, _, info_of Try.type40, rfl, rfl, rfl, rfl, by decide⟩
instance : Struct Try.prog 40 [(0, 1), (1, 3), (4, 4), (8, 1), (9, 1), (10, 1)] ([Value.int IntKind.u8 0, Value.int IntKind.u8 0, Value.int IntKind.i64 0, Value.string { data := #[] }, Value.int IntKind.i64 0, Value.int IntKind.i64 0, Value.int IntKind.i64 0, Value.int IntKind.i64 0, Value.int IntKind.i64 0, Value.int IntKind.u8 0, Value.int IntKind.i64 0]) := ⟨_, _, _, info_of Try.type40, Try.underlying40, rfl, by simp only [List.mapM_cons, List.mapM_nil, info_of Try.type2, info_of Try.type3, info_of Try.type36, info_of Try.type38, info_of Try.type5]; rfl, rfl⟩
instance : Fld Try.prog 40 0 0 := ⟨_, _, _, Try.underlying40, rfl, rfl, info_of Try.type5, by decide⟩
instance : Fld Try.prog 40 1 1 := ⟨_, _, _, Try.underlying40, rfl, rfl, info_of Try.type36, by decide⟩
instance : Fld Try.prog 40 2 4 := ⟨_, _, _, Try.underlying40, rfl, rfl, info_of Try.type38, by decide⟩
instance : Fld Try.prog 40 3 8 := ⟨_, _, _, Try.underlying40, rfl, rfl, info_of Try.type2, by decide⟩
instance : Fld Try.prog 40 4 9 := ⟨_, _, _, Try.underlying40, rfl, rfl, info_of Try.type5, by decide⟩
instance : Fld Try.prog 40 5 10 := ⟨_, _, _, Try.underlying40, rfl, rfl, info_of Try.type3, by decide⟩
instance : Und Try.prog 41 (TypeDesc.func #[] #[4] false) := ⟨Try.underlying41⟩
instance : Size Try.prog 41 1 := ⟨_, info_of Try.type41, rfl⟩
instance : One Try.prog 41 := ⟨_, Try.underlying41, rfl⟩
instance : ZeroC Try.prog 41 ([Value.nilFunc]) := ⟨_, _, info_of Try.type41, rfl, rfl⟩
instance : Elem Try.prog 41 1 8 := ⟨_, _, info_of Try.type41, rfl, rfl, rfl, rfl, by decide⟩
instance : Und Try.prog 42 (TypeDesc.func #[22, 3] #[4] false) := ⟨Try.underlying42⟩
instance : Size Try.prog 42 1 := ⟨_, info_of Try.type42, rfl⟩
instance : One Try.prog 42 := ⟨_, Try.underlying42, rfl⟩
instance : ZeroC Try.prog 42 ([Value.nilFunc]) := ⟨_, _, info_of Try.type42, rfl, rfl⟩
instance : Elem Try.prog 42 1 8 := ⟨_, _, info_of Try.type42, rfl, rfl, rfl, rfl, by decide⟩
instance : Und Try.prog 43 (TypeDesc.slice 22) := ⟨Try.underlying43⟩
instance : Size Try.prog 43 1 := ⟨_, info_of Try.type43, rfl⟩
instance : One Try.prog 43 := ⟨_, Try.underlying43, rfl⟩
instance : ZeroC Try.prog 43 ([Value.slice none 0 0]) := ⟨_, _, info_of Try.type43, rfl, rfl⟩
instance : Elem Try.prog 43 1 24 := ⟨_, _, info_of Try.type43, rfl, rfl, rfl, rfl, by decide⟩
instance : Und Try.prog 44 (TypeDesc.func #[40, 43] #[22, 24] true) := ⟨Try.underlying44⟩
instance : Size Try.prog 44 1 := ⟨_, info_of Try.type44, rfl⟩
instance : One Try.prog 44 := ⟨_, Try.underlying44, rfl⟩
instance : ZeroC Try.prog 44 ([Value.nilFunc]) := ⟨_, _, info_of Try.type44, rfl, rfl⟩
instance : Elem Try.prog 44 1 8 := ⟨_, _, info_of Try.type44, rfl, rfl, rfl, rfl, by decide⟩
instance : Und Try.prog 45 (TypeDesc.func #[40, 43] #[22, 24] false) := ⟨Try.underlying45⟩
instance : Size Try.prog 45 1 := ⟨_, info_of Try.type45, rfl⟩
instance : One Try.prog 45 := ⟨_, Try.underlying45, rfl⟩
instance : ZeroC Try.prog 45 ([Value.nilFunc]) := ⟨_, _, info_of Try.type45, rfl, rfl⟩
instance : Elem Try.prog 45 1 8 := ⟨_, _, info_of Try.type45, rfl, rfl, rfl, rfl, by decide⟩
instance : Und Try.prog 46 (TypeDesc.func #[40, 43] #[4] false) := ⟨Try.underlying46⟩
instance : Size Try.prog 46 1 := ⟨_, info_of Try.type46, rfl⟩
instance : One Try.prog 46 := ⟨_, Try.underlying46, rfl⟩
instance : ZeroC Try.prog 46 ([Value.nilFunc]) := ⟨_, _, info_of Try.type46, rfl, rfl⟩
instance : Elem Try.prog 46 1 8 := ⟨_, _, info_of Try.type46, rfl, rfl, rfl, rfl, by decide⟩
instance : Und Try.prog 47 (TypeDesc.func #[22] #[4] false) := ⟨Try.underlying47⟩
instance : Size Try.prog 47 1 := ⟨_, info_of Try.type47, rfl⟩
instance : One Try.prog 47 := ⟨_, Try.underlying47, rfl⟩
instance : ZeroC Try.prog 47 ([Value.nilFunc]) := ⟨_, _, info_of Try.type47, rfl, rfl⟩
instance : Elem Try.prog 47 1 8 := ⟨_, _, info_of Try.type47, rfl, rfl, rfl, rfl, by decide⟩
instance : Und Try.prog 48 (TypeDesc.tuple #[9, 24]) := ⟨Try.underlying48⟩
instance : Size Try.prog 48 1 := ⟨_, info_of Try.type48, rfl⟩
instance : Und Try.prog 49 (TypeDesc.func #[5] #[9, 24] false) := ⟨Try.underlying49⟩
instance : Size Try.prog 49 1 := ⟨_, info_of Try.type49, rfl⟩
instance : One Try.prog 49 := ⟨_, Try.underlying49, rfl⟩
instance : ZeroC Try.prog 49 ([Value.nilFunc]) := ⟨_, _, info_of Try.type49, rfl, rfl⟩
instance : Elem Try.prog 49 1 8 := ⟨_, _, info_of Try.type49, rfl, rfl, rfl, rfl, by decide⟩
instance : Und Try.prog 50 (TypeDesc.tuple #[3, 3, 24]) := ⟨Try.underlying50⟩
instance : Size Try.prog 50 1 := ⟨_, info_of Try.type50, rfl⟩
instance : Und Try.prog 51 (TypeDesc.func #[5] #[3, 3, 24] false) := ⟨Try.underlying51⟩
instance : Size Try.prog 51 1 := ⟨_, info_of Try.type51, rfl⟩
instance : One Try.prog 51 := ⟨_, Try.underlying51, rfl⟩
instance : ZeroC Try.prog 51 ([Value.nilFunc]) := ⟨_, _, info_of Try.type51, rfl, rfl⟩
instance : Elem Try.prog 51 1 8 := ⟨_, _, info_of Try.type51, rfl, rfl, rfl, rfl, by decide⟩
instance : Und Try.prog 52 (TypeDesc.tuple #[4, 24]) := ⟨Try.underlying52⟩
instance : Size Try.prog 52 1 := ⟨_, info_of Try.type52, rfl⟩
instance : Und Try.prog 53 (TypeDesc.func #[5, 3] #[4, 24] false) := ⟨Try.underlying53⟩
instance : Size Try.prog 53 1 := ⟨_, info_of Try.type53, rfl⟩
instance : One Try.prog 53 := ⟨_, Try.underlying53, rfl⟩
instance : ZeroC Try.prog 53 ([Value.nilFunc]) := ⟨_, _, info_of Try.type53, rfl, rfl⟩
instance : Elem Try.prog 53 1 8 := ⟨_, _, info_of Try.type53, rfl, rfl, rfl, rfl, by decide⟩
instance : Und Try.prog 54 (TypeDesc.tuple #[5, 24]) := ⟨Try.underlying54⟩
instance : Size Try.prog 54 1 := ⟨_, info_of Try.type54, rfl⟩
instance : Und Try.prog 55 (TypeDesc.func #[9] #[5, 24] false) := ⟨Try.underlying55⟩
instance : Size Try.prog 55 1 := ⟨_, info_of Try.type55, rfl⟩
instance : One Try.prog 55 := ⟨_, Try.underlying55, rfl⟩
instance : ZeroC Try.prog 55 ([Value.nilFunc]) := ⟨_, _, info_of Try.type55, rfl, rfl⟩
instance : Elem Try.prog 55 1 8 := ⟨_, _, info_of Try.type55, rfl, rfl, rfl, rfl, by decide⟩
instance : Und Try.prog 56 (TypeDesc.func #[5] #[9] false) := ⟨Try.underlying56⟩
instance : Size Try.prog 56 1 := ⟨_, info_of Try.type56, rfl⟩
instance : One Try.prog 56 := ⟨_, Try.underlying56, rfl⟩
instance : ZeroC Try.prog 56 ([Value.nilFunc]) := ⟨_, _, info_of Try.type56, rfl, rfl⟩
instance : Elem Try.prog 56 1 8 := ⟨_, _, info_of Try.type56, rfl, rfl, rfl, rfl, by decide⟩
instance : Und Try.prog 57 (TypeDesc.tuple #[3, 3]) := ⟨Try.underlying57⟩
instance : Size Try.prog 57 1 := ⟨_, info_of Try.type57, rfl⟩
instance : Und Try.prog 58 (TypeDesc.func #[5] #[3, 3] false) := ⟨Try.underlying58⟩
instance : Size Try.prog 58 1 := ⟨_, info_of Try.type58, rfl⟩
instance : One Try.prog 58 := ⟨_, Try.underlying58, rfl⟩
instance : ZeroC Try.prog 58 ([Value.nilFunc]) := ⟨_, _, info_of Try.type58, rfl, rfl⟩
instance : Elem Try.prog 58 1 8 := ⟨_, _, info_of Try.type58, rfl, rfl, rfl, rfl, by decide⟩
instance : Und Try.prog 59 (TypeDesc.func #[5, 3] #[4] false) := ⟨Try.underlying59⟩
instance : Size Try.prog 59 1 := ⟨_, info_of Try.type59, rfl⟩
instance : One Try.prog 59 := ⟨_, Try.underlying59, rfl⟩
instance : ZeroC Try.prog 59 ([Value.nilFunc]) := ⟨_, _, info_of Try.type59, rfl, rfl⟩
instance : Elem Try.prog 59 1 8 := ⟨_, _, info_of Try.type59, rfl, rfl, rfl, rfl, by decide⟩
instance : Und Try.prog 60 (TypeDesc.func #[5, 3, 9] #[4] false) := ⟨Try.underlying60⟩
instance : Size Try.prog 60 1 := ⟨_, info_of Try.type60, rfl⟩
instance : One Try.prog 60 := ⟨_, Try.underlying60, rfl⟩
instance : ZeroC Try.prog 60 ([Value.nilFunc]) := ⟨_, _, info_of Try.type60, rfl, rfl⟩
instance : Elem Try.prog 60 1 8 := ⟨_, _, info_of Try.type60, rfl, rfl, rfl, rfl, by decide⟩
instance : Und Try.prog 61 (TypeDesc.func #[5] #[4] false) := ⟨Try.underlying61⟩
instance : Size Try.prog 61 1 := ⟨_, info_of Try.type61, rfl⟩
instance : One Try.prog 61 := ⟨_, Try.underlying61, rfl⟩
instance : ZeroC Try.prog 61 ([Value.nilFunc]) := ⟨_, _, info_of Try.type61, rfl, rfl⟩
instance : Elem Try.prog 61 1 8 := ⟨_, _, info_of Try.type61, rfl, rfl, rfl, rfl, by decide⟩
instance : Und Try.prog 62 (TypeDesc.slice 68) := ⟨Try.underlying62⟩
instance : Size Try.prog 62 1 := ⟨_, info_of Try.type62, rfl⟩
instance : One Try.prog 62 := ⟨_, Try.underlying62, rfl⟩
instance : ZeroC Try.prog 62 ([Value.slice none 0 0]) := ⟨_, _, info_of Try.type62, rfl, rfl⟩
instance : Elem Try.prog 62 1 24 := ⟨_, _, info_of Try.type62, rfl, rfl, rfl, rfl, by decide⟩
instance : Und Try.prog 63 (TypeDesc.tuple #[62, 24]) := ⟨Try.underlying63⟩
instance : Size Try.prog 63 1 := ⟨_, info_of Try.type63, rfl⟩
instance : Und Try.prog 64 (TypeDesc.func #[22] #[62, 24] false) := ⟨Try.underlying64⟩
instance : Size Try.prog 64 1 := ⟨_, info_of Try.type64, rfl⟩
instance : One Try.prog 64 := ⟨_, Try.underlying64, rfl⟩
instance : ZeroC Try.prog 64 ([Value.nilFunc]) := ⟨_, _, info_of Try.type64, rfl, rfl⟩
instance : Elem Try.prog 64 1 8 := ⟨_, _, info_of Try.type64, rfl, rfl, rfl, rfl, by decide⟩
instance : Und Try.prog 65 (TypeDesc.func #[22, 38] #[4, 24] false) := ⟨Try.underlying65⟩
instance : Size Try.prog 65 1 := ⟨_, info_of Try.type65, rfl⟩
instance : One Try.prog 65 := ⟨_, Try.underlying65, rfl⟩
instance : ZeroC Try.prog 65 ([Value.nilFunc]) := ⟨_, _, info_of Try.type65, rfl, rfl⟩
instance : Elem Try.prog 65 1 8 := ⟨_, _, info_of Try.type65, rfl, rfl, rfl, rfl, by decide⟩
instance : Und Try.prog 66 (TypeDesc.func #[62, 62] #[4] false) := ⟨Try.underlying66⟩
instance : Size Try.prog 66 1 := ⟨_, info_of Try.type66, rfl⟩
instance : One Try.prog 66 := ⟨_, Try.underlying66, rfl⟩
instance : ZeroC Try.prog 66 ([Value.nilFunc]) := ⟨_, _, info_of Try.type66, rfl, rfl⟩
instance : Elem Try.prog 66 1 8 := ⟨_, _, info_of Try.type66, rfl, rfl, rfl, rfl, by decide⟩
instance : Und Try.prog 67 (TypeDesc.struct #[{ name := "Rect", type := 38, offset := 0, embedded := false, tag := "", pkgPath := "", byteOffset := 0 }, { name := "Node", type := 3, offset := 4, embedded := false, tag := "", pkgPath := "", byteOffset := 32 }, { name := "Fn", type := 5, offset := 5, embedded := false, tag := "", pkgPath := "", byteOffset := 40 }]) := ⟨Try.underlying67⟩
instance : Size Try.prog 67 6 := ⟨_, info_of Try.type67, rfl⟩
instance : Agg Try.prog 67 6 := ⟨_, _, Try.underlying67, rfl, info_of Try.type67, rfl⟩
instance : ZeroC Try.prog 67 ([Value.int IntKind.i64 0, Value.int IntKind.i64 0, Value.int IntKind.i64 0, Value.int IntKind.i64 0, Value.int IntKind.i64 0, Value.int IntKind.u8 0]) := ⟨_, _, info_of Try.type67, rfl, rfl⟩
instance : Elem Try.prog 67 6 48 := ⟨_, _, info_of Try.type67, rfl, rfl, rfl, rfl, by decide⟩
instance : Struct Try.prog 67 [(0, 4), (4, 1), (5, 1)] ([Value.int IntKind.i64 0, Value.int IntKind.i64 0, Value.int IntKind.i64 0, Value.int IntKind.i64 0, Value.int IntKind.i64 0, Value.int IntKind.u8 0]) := ⟨_, _, _, info_of Try.type67, Try.underlying67, rfl, by simp only [List.mapM_cons, List.mapM_nil, info_of Try.type3, info_of Try.type38, info_of Try.type5]; rfl, rfl⟩
instance : Fld Try.prog 67 0 0 := ⟨_, _, _, Try.underlying67, rfl, rfl, info_of Try.type38, by decide⟩
instance : Fld Try.prog 67 1 4 := ⟨_, _, _, Try.underlying67, rfl, rfl, info_of Try.type3, by decide⟩
instance : Fld Try.prog 67 2 5 := ⟨_, _, _, Try.underlying67, rfl, rfl, info_of Try.type5, by decide⟩
instance : Und Try.prog 68 (TypeDesc.struct #[{ name := "Rect", type := 38, offset := 0, embedded := false, tag := "", pkgPath := "", byteOffset := 0 }, { name := "Node", type := 3, offset := 4, embedded := false, tag := "", pkgPath := "", byteOffset := 32 }, { name := "Fn", type := 5, offset := 5, embedded := false, tag := "", pkgPath := "", byteOffset := 40 }]) := ⟨Try.underlying68⟩
instance : Size Try.prog 68 6 := ⟨_, info_of Try.type68, rfl⟩
instance : Agg Try.prog 68 6 := ⟨_, _, Try.underlying68, rfl, info_of Try.type68, rfl⟩
instance : ZeroC Try.prog 68 ([Value.int IntKind.i64 0, Value.int IntKind.i64 0, Value.int IntKind.i64 0, Value.int IntKind.i64 0, Value.int IntKind.i64 0, Value.int IntKind.u8 0]) := ⟨_, _, info_of Try.type68, rfl, rfl⟩
instance : Elem Try.prog 68 6 48 := ⟨_, _, info_of Try.type68, rfl, rfl, rfl, rfl, by decide⟩
instance : Struct Try.prog 68 [(0, 4), (4, 1), (5, 1)] ([Value.int IntKind.i64 0, Value.int IntKind.i64 0, Value.int IntKind.i64 0, Value.int IntKind.i64 0, Value.int IntKind.i64 0, Value.int IntKind.u8 0]) := ⟨_, _, _, info_of Try.type68, Try.underlying68, rfl, by simp only [List.mapM_cons, List.mapM_nil, info_of Try.type3, info_of Try.type38, info_of Try.type5]; rfl, rfl⟩
instance : Fld Try.prog 68 0 0 := ⟨_, _, _, Try.underlying68, rfl, rfl, info_of Try.type38, by decide⟩
instance : Fld Try.prog 68 1 4 := ⟨_, _, _, Try.underlying68, rfl, rfl, info_of Try.type3, by decide⟩
instance : Fld Try.prog 68 2 5 := ⟨_, _, _, Try.underlying68, rfl, rfl, info_of Try.type5, by decide⟩
instance : Und Try.prog 69 (TypeDesc.func #[22, 38] #[4] false) := ⟨Try.underlying69⟩
instance : Size Try.prog 69 1 := ⟨_, info_of Try.type69, rfl⟩
instance : One Try.prog 69 := ⟨_, Try.underlying69, rfl⟩
instance : ZeroC Try.prog 69 ([Value.nilFunc]) := ⟨_, _, info_of Try.type69, rfl, rfl⟩
instance : Elem Try.prog 69 1 8 := ⟨_, _, info_of Try.type69, rfl, rfl, rfl, rfl, by decide⟩
instance : Und Try.prog 70 (TypeDesc.func #[22, 3, 3] #[22, 24] false) := ⟨Try.underlying70⟩
instance : Size Try.prog 70 1 := ⟨_, info_of Try.type70, rfl⟩
instance : One Try.prog 70 := ⟨_, Try.underlying70, rfl⟩
instance : ZeroC Try.prog 70 ([Value.nilFunc]) := ⟨_, _, info_of Try.type70, rfl, rfl⟩
instance : Elem Try.prog 70 1 8 := ⟨_, _, info_of Try.type70, rfl, rfl, rfl, rfl, by decide⟩
instance : Und Try.prog 71 (TypeDesc.func #[22, 3, 3] #[4] false) := ⟨Try.underlying71⟩
instance : Size Try.prog 71 1 := ⟨_, info_of Try.type71, rfl⟩
instance : One Try.prog 71 := ⟨_, Try.underlying71, rfl⟩
instance : ZeroC Try.prog 71 ([Value.nilFunc]) := ⟨_, _, info_of Try.type71, rfl, rfl⟩
instance : Elem Try.prog 71 1 8 := ⟨_, _, info_of Try.type71, rfl, rfl, rfl, rfl, by decide⟩
instance : Und Try.prog 72 (TypeDesc.array 2 40) := ⟨Try.underlying72⟩
instance : Size Try.prog 72 22 := ⟨_, info_of Try.type72, rfl⟩
instance : Agg Try.prog 72 22 := ⟨_, _, Try.underlying72, rfl, info_of Try.type72, rfl⟩
instance : ZeroC Try.prog 72 ([Value.int IntKind.u8 0, Value.int IntKind.u8 0, Value.int IntKind.i64 0, Value.string { data := #[] }, Value.int IntKind.i64 0, Value.int IntKind.i64 0, Value.int IntKind.i64 0, Value.int IntKind.i64 0, Value.int IntKind.i64 0, Value.int IntKind.u8 0, Value.int IntKind.i64 0, Value.int IntKind.u8 0, Value.int IntKind.u8 0, Value.int IntKind.i64 0, Value.string { data := #[] }, Value.int IntKind.i64 0, Value.int IntKind.i64 0, Value.int IntKind.i64 0, Value.int IntKind.i64 0, Value.int IntKind.i64 0, Value.int IntKind.u8 0, Value.int IntKind.i64 0]) := ⟨_, _, info_of Try.type72, rfl, rfl⟩
instance : Elem Try.prog 72 22 192 := ⟨_, _, info_of Try.type72, rfl, rfl, rfl, rfl, by decide⟩
instance : Und Try.prog 73 (TypeDesc.array 2 3) := ⟨Try.underlying73⟩
instance : Size Try.prog 73 2 := ⟨_, info_of Try.type73, rfl⟩
instance : Agg Try.prog 73 2 := ⟨_, _, Try.underlying73, rfl, info_of Try.type73, rfl⟩
instance : ZeroC Try.prog 73 ([Value.int IntKind.i64 0, Value.int IntKind.i64 0]) := ⟨_, _, info_of Try.type73, rfl, rfl⟩
instance : Elem Try.prog 73 2 16 := ⟨_, _, info_of Try.type73, rfl, rfl, rfl, rfl, by decide⟩
instance : Und Try.prog 74 (TypeDesc.func #[22, 73, 73] #[4] false) := ⟨Try.underlying74⟩
instance : Size Try.prog 74 1 := ⟨_, info_of Try.type74, rfl⟩
instance : One Try.prog 74 := ⟨_, Try.underlying74, rfl⟩
instance : ZeroC Try.prog 74 ([Value.nilFunc]) := ⟨_, _, info_of Try.type74, rfl, rfl⟩
instance : Elem Try.prog 74 1 8 := ⟨_, _, info_of Try.type74, rfl, rfl, rfl, rfl, by decide⟩
instance : Und Try.prog 75 (TypeDesc.func #[38] #[24] false) := ⟨Try.underlying75⟩
instance : Size Try.prog 75 1 := ⟨_, info_of Try.type75, rfl⟩
instance : One Try.prog 75 := ⟨_, Try.underlying75, rfl⟩
instance : ZeroC Try.prog 75 ([Value.nilFunc]) := ⟨_, _, info_of Try.type75, rfl, rfl⟩
instance : Elem Try.prog 75 1 8 := ⟨_, _, info_of Try.type75, rfl, rfl, rfl, rfl, by decide⟩
instance : Und Try.prog 76 (TypeDesc.tuple #[38, 4]) := ⟨Try.underlying76⟩
instance : Size Try.prog 76 1 := ⟨_, info_of Try.type76, rfl⟩
instance : Und Try.prog 77 (TypeDesc.func #[38, 38] #[38, 4] false) := ⟨Try.underlying77⟩
instance : Size Try.prog 77 1 := ⟨_, info_of Try.type77, rfl⟩
instance : One Try.prog 77 := ⟨_, Try.underlying77, rfl⟩
instance : ZeroC Try.prog 77 ([Value.nilFunc]) := ⟨_, _, info_of Try.type77, rfl, rfl⟩
instance : Elem Try.prog 77 1 8 := ⟨_, _, info_of Try.type77, rfl, rfl, rfl, rfl, by decide⟩
instance : Und Try.prog 78 (TypeDesc.func #[22, 38, 3] #[4] false) := ⟨Try.underlying78⟩
instance : Size Try.prog 78 1 := ⟨_, info_of Try.type78, rfl⟩
instance : One Try.prog 78 := ⟨_, Try.underlying78, rfl⟩
instance : ZeroC Try.prog 78 ([Value.nilFunc]) := ⟨_, _, info_of Try.type78, rfl, rfl⟩
instance : Elem Try.prog 78 1 8 := ⟨_, _, info_of Try.type78, rfl, rfl, rfl, rfl, by decide⟩
instance : Und Try.prog 79 (TypeDesc.func #[22] #[22] true) := ⟨Try.underlying79⟩
instance : Size Try.prog 79 1 := ⟨_, info_of Try.type79, rfl⟩
instance : One Try.prog 79 := ⟨_, Try.underlying79, rfl⟩
instance : ZeroC Try.prog 79 ([Value.nilFunc]) := ⟨_, _, info_of Try.type79, rfl, rfl⟩
instance : Elem Try.prog 79 1 8 := ⟨_, _, info_of Try.type79, rfl, rfl, rfl, rfl, by decide⟩
instance : Und Try.prog 80 (TypeDesc.array 5 40) := ⟨Try.underlying80⟩
instance : Size Try.prog 80 55 := ⟨_, info_of Try.type80, rfl⟩
instance : Agg Try.prog 80 55 := ⟨_, _, Try.underlying80, rfl, info_of Try.type80, rfl⟩
instance : ZeroC Try.prog 80 ([Value.int IntKind.u8 0, Value.int IntKind.u8 0, Value.int IntKind.i64 0, Value.string { data := #[] }, Value.int IntKind.i64 0, Value.int IntKind.i64 0, Value.int IntKind.i64 0, Value.int IntKind.i64 0, Value.int IntKind.i64 0, Value.int IntKind.u8 0, Value.int IntKind.i64 0, Value.int IntKind.u8 0, Value.int IntKind.u8 0, Value.int IntKind.i64 0, Value.string { data := #[] }, Value.int IntKind.i64 0, Value.int IntKind.i64 0, Value.int IntKind.i64 0, Value.int IntKind.i64 0, Value.int IntKind.i64 0, Value.int IntKind.u8 0, Value.int IntKind.i64 0, Value.int IntKind.u8 0, Value.int IntKind.u8 0, Value.int IntKind.i64 0, Value.string { data := #[] }, Value.int IntKind.i64 0, Value.int IntKind.i64 0, Value.int IntKind.i64 0, Value.int IntKind.i64 0, Value.int IntKind.i64 0, Value.int IntKind.u8 0, Value.int IntKind.i64 0, Value.int IntKind.u8 0, Value.int IntKind.u8 0, Value.int IntKind.i64 0, Value.string { data := #[] }, Value.int IntKind.i64 0, Value.int IntKind.i64 0, Value.int IntKind.i64 0, Value.int IntKind.i64 0, Value.int IntKind.i64 0, Value.int IntKind.u8 0, Value.int IntKind.i64 0, Value.int IntKind.u8 0, Value.int IntKind.u8 0, Value.int IntKind.i64 0, Value.string { data := #[] }, Value.int IntKind.i64 0, Value.int IntKind.i64 0, Value.int IntKind.i64 0, Value.int IntKind.i64 0, Value.int IntKind.i64 0, Value.int IntKind.u8 0, Value.int IntKind.i64 0]) := ⟨_, _, info_of Try.type80, rfl, rfl⟩
instance : Elem Try.prog 80 55 480 := ⟨_, _, info_of Try.type80, rfl, rfl, rfl, rfl, by decide⟩
instance : Und Try.prog 81 (TypeDesc.array 3 40) := ⟨Try.underlying81⟩
instance : Size Try.prog 81 33 := ⟨_, info_of Try.type81, rfl⟩
instance : Agg Try.prog 81 33 := ⟨_, _, Try.underlying81, rfl, info_of Try.type81, rfl⟩
instance : ZeroC Try.prog 81 ([Value.int IntKind.u8 0, Value.int IntKind.u8 0, Value.int IntKind.i64 0, Value.string { data := #[] }, Value.int IntKind.i64 0, Value.int IntKind.i64 0, Value.int IntKind.i64 0, Value.int IntKind.i64 0, Value.int IntKind.i64 0, Value.int IntKind.u8 0, Value.int IntKind.i64 0, Value.int IntKind.u8 0, Value.int IntKind.u8 0, Value.int IntKind.i64 0, Value.string { data := #[] }, Value.int IntKind.i64 0, Value.int IntKind.i64 0, Value.int IntKind.i64 0, Value.int IntKind.i64 0, Value.int IntKind.i64 0, Value.int IntKind.u8 0, Value.int IntKind.i64 0, Value.int IntKind.u8 0, Value.int IntKind.u8 0, Value.int IntKind.i64 0, Value.string { data := #[] }, Value.int IntKind.i64 0, Value.int IntKind.i64 0, Value.int IntKind.i64 0, Value.int IntKind.i64 0, Value.int IntKind.i64 0, Value.int IntKind.u8 0, Value.int IntKind.i64 0]) := ⟨_, _, info_of Try.type81, rfl, rfl⟩
instance : Elem Try.prog 81 33 288 := ⟨_, _, info_of Try.type81, rfl, rfl, rfl, rfl, by decide⟩
instance : Und Try.prog 82 (TypeDesc.func #[22, 4, 83] #[24] false) := ⟨Try.underlying82⟩
instance : Size Try.prog 82 1 := ⟨_, info_of Try.type82, rfl⟩
instance : One Try.prog 82 := ⟨_, Try.underlying82, rfl⟩
instance : ZeroC Try.prog 82 ([Value.nilFunc]) := ⟨_, _, info_of Try.type82, rfl, rfl⟩
instance : Elem Try.prog 82 1 8 := ⟨_, _, info_of Try.type82, rfl, rfl, rfl, rfl, by decide⟩
instance : Und Try.prog 83 (TypeDesc.func #[3, 27, 3] #[] false) := ⟨Try.underlying83⟩
instance : Size Try.prog 83 1 := ⟨_, info_of Try.type83, rfl⟩
instance : One Try.prog 83 := ⟨_, Try.underlying83, rfl⟩
instance : ZeroC Try.prog 83 ([Value.nilFunc]) := ⟨_, _, info_of Try.type83, rfl, rfl⟩
instance : Elem Try.prog 83 1 8 := ⟨_, _, info_of Try.type83, rfl, rfl, rfl, rfl, by decide⟩
instance : Und Try.prog 84 (TypeDesc.slice 88) := ⟨Try.underlying84⟩
instance : Size Try.prog 84 1 := ⟨_, info_of Try.type84, rfl⟩
instance : One Try.prog 84 := ⟨_, Try.underlying84, rfl⟩
instance : ZeroC Try.prog 84 ([Value.slice none 0 0]) := ⟨_, _, info_of Try.type84, rfl, rfl⟩
instance : Elem Try.prog 84 1 24 := ⟨_, _, info_of Try.type84, rfl, rfl, rfl, rfl, by decide⟩
instance : Und Try.prog 85 (TypeDesc.tuple #[84, 24]) := ⟨Try.underlying85⟩
instance : Size Try.prog 85 1 := ⟨_, info_of Try.type85, rfl⟩
instance : Und Try.prog 86 (TypeDesc.func #[22] #[84, 24] false) := ⟨Try.underlying86⟩
instance : Size Try.prog 86 1 := ⟨_, info_of Try.type86, rfl⟩
instance : One Try.prog 86 := ⟨_, Try.underlying86, rfl⟩
instance : ZeroC Try.prog 86 ([Value.nilFunc]) := ⟨_, _, info_of Try.type86, rfl, rfl⟩
instance : Elem Try.prog 86 1 8 := ⟨_, _, info_of Try.type86, rfl, rfl, rfl, rfl, by decide⟩
instance : Und Try.prog 87 (TypeDesc.struct #[{ name := "Root", type := 3, offset := 0, embedded := false, tag := "", pkgPath := "", byteOffset := 0 }, { name := "Depth", type := 3, offset := 1, embedded := false, tag := "", pkgPath := "", byteOffset := 8 }]) := ⟨Try.underlying87⟩
instance : Size Try.prog 87 2 := ⟨_, info_of Try.type87, rfl⟩
instance : Agg Try.prog 87 2 := ⟨_, _, Try.underlying87, rfl, info_of Try.type87, rfl⟩
instance : ZeroC Try.prog 87 ([Value.int IntKind.i64 0, Value.int IntKind.i64 0]) := ⟨_, _, info_of Try.type87, rfl, rfl⟩
instance : Elem Try.prog 87 2 16 := ⟨_, _, info_of Try.type87, rfl, rfl, rfl, rfl, by decide⟩
instance : Struct Try.prog 87 [(0, 1), (1, 1)] ([Value.int IntKind.i64 0, Value.int IntKind.i64 0]) := ⟨_, _, _, info_of Try.type87, Try.underlying87, rfl, by simp only [List.mapM_cons, List.mapM_nil, info_of Try.type3]; rfl, rfl⟩
instance : Fld Try.prog 87 0 0 := ⟨_, _, _, Try.underlying87, rfl, rfl, info_of Try.type3, by decide⟩
instance : Fld Try.prog 87 1 1 := ⟨_, _, _, Try.underlying87, rfl, rfl, info_of Try.type3, by decide⟩
instance : Und Try.prog 88 (TypeDesc.struct #[{ name := "Root", type := 3, offset := 0, embedded := false, tag := "", pkgPath := "", byteOffset := 0 }, { name := "Depth", type := 3, offset := 1, embedded := false, tag := "", pkgPath := "", byteOffset := 8 }]) := ⟨Try.underlying88⟩
instance : Size Try.prog 88 2 := ⟨_, info_of Try.type88, rfl⟩
instance : Agg Try.prog 88 2 := ⟨_, _, Try.underlying88, rfl, info_of Try.type88, rfl⟩
instance : ZeroC Try.prog 88 ([Value.int IntKind.i64 0, Value.int IntKind.i64 0]) := ⟨_, _, info_of Try.type88, rfl, rfl⟩
instance : Elem Try.prog 88 2 16 := ⟨_, _, info_of Try.type88, rfl, rfl, rfl, rfl, by decide⟩
instance : Struct Try.prog 88 [(0, 1), (1, 1)] ([Value.int IntKind.i64 0, Value.int IntKind.i64 0]) := ⟨_, _, _, info_of Try.type88, Try.underlying88, rfl, by simp only [List.mapM_cons, List.mapM_nil, info_of Try.type3]; rfl, rfl⟩
instance : Fld Try.prog 88 0 0 := ⟨_, _, _, Try.underlying88, rfl, rfl, info_of Try.type3, by decide⟩
instance : Fld Try.prog 88 1 1 := ⟨_, _, _, Try.underlying88, rfl, rfl, info_of Try.type3, by decide⟩
instance : Und Try.prog 89 (TypeDesc.func #[27, 3] #[27] false) := ⟨Try.underlying89⟩
instance : Size Try.prog 89 1 := ⟨_, info_of Try.type89, rfl⟩
instance : One Try.prog 89 := ⟨_, Try.underlying89, rfl⟩
instance : ZeroC Try.prog 89 ([Value.nilFunc]) := ⟨_, _, info_of Try.type89, rfl, rfl⟩
instance : Elem Try.prog 89 1 8 := ⟨_, _, info_of Try.type89, rfl, rfl, rfl, rfl, by decide⟩
instance : Und Try.prog 90 (TypeDesc.func #[22] #[27] false) := ⟨Try.underlying90⟩
instance : Size Try.prog 90 1 := ⟨_, info_of Try.type90, rfl⟩
instance : One Try.prog 90 := ⟨_, Try.underlying90, rfl⟩
instance : ZeroC Try.prog 90 ([Value.nilFunc]) := ⟨_, _, info_of Try.type90, rfl, rfl⟩
instance : Elem Try.prog 90 1 8 := ⟨_, _, info_of Try.type90, rfl, rfl, rfl, rfl, by decide⟩
instance : Und Try.prog 91 (TypeDesc.func #[40] #[4] false) := ⟨Try.underlying91⟩
instance : Size Try.prog 91 1 := ⟨_, info_of Try.type91, rfl⟩
instance : One Try.prog 91 := ⟨_, Try.underlying91, rfl⟩
instance : ZeroC Try.prog 91 ([Value.nilFunc]) := ⟨_, _, info_of Try.type91, rfl, rfl⟩
instance : Elem Try.prog 91 1 8 := ⟨_, _, info_of Try.type91, rfl, rfl, rfl, rfl, by decide⟩
instance : Und Try.prog 92 (TypeDesc.array 50 9) := ⟨Try.underlying92⟩
instance : Size Try.prog 92 50 := ⟨_, info_of Try.type92, rfl⟩
instance : Agg Try.prog 92 50 := ⟨_, _, Try.underlying92, rfl, info_of Try.type92, rfl⟩
instance : ZeroC Try.prog 92 ([Value.string { data := #[] }, Value.string { data := #[] }, Value.string { data := #[] }, Value.string { data := #[] }, Value.string { data := #[] }, Value.string { data := #[] }, Value.string { data := #[] }, Value.string { data := #[] }, Value.string { data := #[] }, Value.string { data := #[] }, Value.string { data := #[] }, Value.string { data := #[] }, Value.string { data := #[] }, Value.string { data := #[] }, Value.string { data := #[] }, Value.string { data := #[] }, Value.string { data := #[] }, Value.string { data := #[] }, Value.string { data := #[] }, Value.string { data := #[] }, Value.string { data := #[] }, Value.string { data := #[] }, Value.string { data := #[] }, Value.string { data := #[] }, Value.string { data := #[] }, Value.string { data := #[] }, Value.string { data := #[] }, Value.string { data := #[] }, Value.string { data := #[] }, Value.string { data := #[] }, Value.string { data := #[] }, Value.string { data := #[] }, Value.string { data := #[] }, Value.string { data := #[] }, Value.string { data := #[] }, Value.string { data := #[] }, Value.string { data := #[] }, Value.string { data := #[] }, Value.string { data := #[] }, Value.string { data := #[] }, Value.string { data := #[] }, Value.string { data := #[] }, Value.string { data := #[] }, Value.string { data := #[] }, Value.string { data := #[] }, Value.string { data := #[] }, Value.string { data := #[] }, Value.string { data := #[] }, Value.string { data := #[] }, Value.string { data := #[] }]) := ⟨_, _, info_of Try.type92, rfl, rfl⟩
instance : Elem Try.prog 92 50 800 := ⟨_, _, info_of Try.type92, rfl, rfl, rfl, rfl, by decide⟩
instance : Und Try.prog 93 (TypeDesc.func #[] #[92] false) := ⟨Try.underlying93⟩
instance : Size Try.prog 93 1 := ⟨_, info_of Try.type93, rfl⟩
instance : One Try.prog 93 := ⟨_, Try.underlying93, rfl⟩
instance : ZeroC Try.prog 93 ([Value.nilFunc]) := ⟨_, _, info_of Try.type93, rfl, rfl⟩
instance : Elem Try.prog 93 1 8 := ⟨_, _, info_of Try.type93, rfl, rfl, rfl, rfl, by decide⟩
instance : Und Try.prog 94 (TypeDesc.func #[95, 9] #[3] false) := ⟨Try.underlying94⟩
instance : Size Try.prog 94 1 := ⟨_, info_of Try.type94, rfl⟩
instance : One Try.prog 94 := ⟨_, Try.underlying94, rfl⟩
instance : ZeroC Try.prog 94 ([Value.nilFunc]) := ⟨_, _, info_of Try.type94, rfl, rfl⟩
instance : Elem Try.prog 94 1 8 := ⟨_, _, info_of Try.type94, rfl, rfl, rfl, rfl, by decide⟩
instance : Und Try.prog 95 (TypeDesc.slice 9) := ⟨Try.underlying95⟩
instance : Size Try.prog 95 1 := ⟨_, info_of Try.type95, rfl⟩
instance : One Try.prog 95 := ⟨_, Try.underlying95, rfl⟩
instance : ZeroC Try.prog 95 ([Value.slice none 0 0]) := ⟨_, _, info_of Try.type95, rfl, rfl⟩
instance : Elem Try.prog 95 1 24 := ⟨_, _, info_of Try.type95, rfl, rfl, rfl, rfl, by decide⟩
instance : Und Try.prog 96 (TypeDesc.func #[110] #[] false) := ⟨Try.underlying96⟩
instance : Size Try.prog 96 1 := ⟨_, info_of Try.type96, rfl⟩
instance : One Try.prog 96 := ⟨_, Try.underlying96, rfl⟩
instance : ZeroC Try.prog 96 ([Value.nilFunc]) := ⟨_, _, info_of Try.type96, rfl, rfl⟩
instance : Elem Try.prog 96 1 8 := ⟨_, _, info_of Try.type96, rfl, rfl, rfl, rfl, by decide⟩
instance : Und Try.prog 97 (TypeDesc.func #[22] #[96] false) := ⟨Try.underlying97⟩
instance : Size Try.prog 97 1 := ⟨_, info_of Try.type97, rfl⟩
instance : One Try.prog 97 := ⟨_, Try.underlying97, rfl⟩
instance : ZeroC Try.prog 97 ([Value.nilFunc]) := ⟨_, _, info_of Try.type97, rfl, rfl⟩
instance : Elem Try.prog 97 1 8 := ⟨_, _, info_of Try.type97, rfl, rfl, rfl, rfl, by decide⟩
instance : Und Try.prog 98 (TypeDesc.func #[3, 3] #[4] false) := ⟨Try.underlying98⟩
instance : Size Try.prog 98 1 := ⟨_, info_of Try.type98, rfl⟩
instance : One Try.prog 98 := ⟨_, Try.underlying98, rfl⟩
instance : ZeroC Try.prog 98 ([Value.nilFunc]) := ⟨_, _, info_of Try.type98, rfl, rfl⟩
instance : Elem Try.prog 98 1 8 := ⟨_, _, info_of Try.type98, rfl, rfl, rfl, rfl, by decide⟩
instance : Und Try.prog 99 (TypeDesc.struct #[{ name := "Col", type := 3, offset := 0, embedded := false, tag := "", pkgPath := "", byteOffset := 0 }, { name := "Row", type := 3, offset := 1, embedded := false, tag := "", pkgPath := "", byteOffset := 8 }]) := ⟨Try.underlying99⟩
instance : Size Try.prog 99 2 := ⟨_, info_of Try.type99, rfl⟩
instance : Agg Try.prog 99 2 := ⟨_, _, Try.underlying99, rfl, info_of Try.type99, rfl⟩
instance : ZeroC Try.prog 99 ([Value.int IntKind.i64 0, Value.int IntKind.i64 0]) := ⟨_, _, info_of Try.type99, rfl, rfl⟩
instance : Elem Try.prog 99 2 16 := ⟨_, _, info_of Try.type99, rfl, rfl, rfl, rfl, by decide⟩
instance : Struct Try.prog 99 [(0, 1), (1, 1)] ([Value.int IntKind.i64 0, Value.int IntKind.i64 0]) := ⟨_, _, _, info_of Try.type99, Try.underlying99, rfl, by simp only [List.mapM_cons, List.mapM_nil, info_of Try.type3]; rfl, rfl⟩
instance : Fld Try.prog 99 0 0 := ⟨_, _, _, Try.underlying99, rfl, rfl, info_of Try.type3, by decide⟩
instance : Fld Try.prog 99 1 1 := ⟨_, _, _, Try.underlying99, rfl, rfl, info_of Try.type3, by decide⟩
instance : Und Try.prog 100 (TypeDesc.struct #[{ name := "Col", type := 3, offset := 0, embedded := false, tag := "", pkgPath := "", byteOffset := 0 }, { name := "Row", type := 3, offset := 1, embedded := false, tag := "", pkgPath := "", byteOffset := 8 }]) := ⟨Try.underlying100⟩
instance : Size Try.prog 100 2 := ⟨_, info_of Try.type100, rfl⟩
instance : Agg Try.prog 100 2 := ⟨_, _, Try.underlying100, rfl, info_of Try.type100, rfl⟩
instance : ZeroC Try.prog 100 ([Value.int IntKind.i64 0, Value.int IntKind.i64 0]) := ⟨_, _, info_of Try.type100, rfl, rfl⟩
instance : Elem Try.prog 100 2 16 := ⟨_, _, info_of Try.type100, rfl, rfl, rfl, rfl, by decide⟩
instance : Struct Try.prog 100 [(0, 1), (1, 1)] ([Value.int IntKind.i64 0, Value.int IntKind.i64 0]) := ⟨_, _, _, info_of Try.type100, Try.underlying100, rfl, by simp only [List.mapM_cons, List.mapM_nil, info_of Try.type3]; rfl, rfl⟩
instance : Fld Try.prog 100 0 0 := ⟨_, _, _, Try.underlying100, rfl, rfl, info_of Try.type3, by decide⟩
instance : Fld Try.prog 100 1 1 := ⟨_, _, _, Try.underlying100, rfl, rfl, info_of Try.type3, by decide⟩
instance : Und Try.prog 101 (TypeDesc.tuple #[100, 100]) := ⟨Try.underlying101⟩
instance : Size Try.prog 101 1 := ⟨_, info_of Try.type101, rfl⟩
instance : Und Try.prog 102 (TypeDesc.func #[38] #[100, 100] false) := ⟨Try.underlying102⟩
instance : Size Try.prog 102 1 := ⟨_, info_of Try.type102, rfl⟩
instance : One Try.prog 102 := ⟨_, Try.underlying102, rfl⟩
instance : ZeroC Try.prog 102 ([Value.nilFunc]) := ⟨_, _, info_of Try.type102, rfl, rfl⟩
instance : Elem Try.prog 102 1 8 := ⟨_, _, info_of Try.type102, rfl, rfl, rfl, rfl, by decide⟩
instance : Und Try.prog 103 (TypeDesc.func #[100] #[4] false) := ⟨Try.underlying103⟩
instance : Size Try.prog 103 1 := ⟨_, info_of Try.type103, rfl⟩
instance : One Try.prog 103 := ⟨_, Try.underlying103, rfl⟩
instance : ZeroC Try.prog 103 ([Value.nilFunc]) := ⟨_, _, info_of Try.type103, rfl, rfl⟩
instance : Elem Try.prog 103 1 8 := ⟨_, _, info_of Try.type103, rfl, rfl, rfl, rfl, by decide⟩
instance : Und Try.prog 104 (TypeDesc.func #[112] #[4] true) := ⟨Try.underlying104⟩
instance : Size Try.prog 104 1 := ⟨_, info_of Try.type104, rfl⟩
instance : One Try.prog 104 := ⟨_, Try.underlying104, rfl⟩
instance : ZeroC Try.prog 104 ([Value.nilFunc]) := ⟨_, _, info_of Try.type104, rfl, rfl⟩
instance : Elem Try.prog 104 1 8 := ⟨_, _, info_of Try.type104, rfl, rfl, rfl, rfl, by decide⟩
instance : Und Try.prog 105 (TypeDesc.func #[22, 83] #[24] false) := ⟨Try.underlying105⟩
instance : Size Try.prog 105 1 := ⟨_, info_of Try.type105, rfl⟩
instance : One Try.prog 105 := ⟨_, Try.underlying105, rfl⟩
instance : ZeroC Try.prog 105 ([Value.nilFunc]) := ⟨_, _, info_of Try.type105, rfl, rfl⟩
instance : Elem Try.prog 105 1 8 := ⟨_, _, info_of Try.type105, rfl, rfl, rfl, rfl, by decide⟩
instance : Und Try.prog 106 (TypeDesc.func #[22, 3, 84] #[84, 24] false) := ⟨Try.underlying106⟩
instance : Size Try.prog 106 1 := ⟨_, info_of Try.type106, rfl⟩
instance : One Try.prog 106 := ⟨_, Try.underlying106, rfl⟩
instance : ZeroC Try.prog 106 ([Value.nilFunc]) := ⟨_, _, info_of Try.type106, rfl, rfl⟩
instance : Elem Try.prog 106 1 8 := ⟨_, _, info_of Try.type106, rfl, rfl, rfl, rfl, by decide⟩
instance : Und Try.prog 107 (TypeDesc.func #[40] #[3] false) := ⟨Try.underlying107⟩
instance : Size Try.prog 107 1 := ⟨_, info_of Try.type107, rfl⟩
instance : One Try.prog 107 := ⟨_, Try.underlying107, rfl⟩
instance : ZeroC Try.prog 107 ([Value.nilFunc]) := ⟨_, _, info_of Try.type107, rfl, rfl⟩
instance : Elem Try.prog 107 1 8 := ⟨_, _, info_of Try.type107, rfl, rfl, rfl, rfl, by decide⟩
instance : Und Try.prog 108 (TypeDesc.func #[36] #[4] false) := ⟨Try.underlying108⟩
instance : Size Try.prog 108 1 := ⟨_, info_of Try.type108, rfl⟩
instance : One Try.prog 108 := ⟨_, Try.underlying108, rfl⟩
instance : ZeroC Try.prog 108 ([Value.nilFunc]) := ⟨_, _, info_of Try.type108, rfl, rfl⟩
instance : Elem Try.prog 108 1 8 := ⟨_, _, info_of Try.type108, rfl, rfl, rfl, rfl, by decide⟩
instance : Und Try.prog 109 (TypeDesc.func #[38] #[4] false) := ⟨Try.underlying109⟩
instance : Size Try.prog 109 1 := ⟨_, info_of Try.type109, rfl⟩
instance : One Try.prog 109 := ⟨_, Try.underlying109, rfl⟩
instance : ZeroC Try.prog 109 ([Value.nilFunc]) := ⟨_, _, info_of Try.type109, rfl, rfl⟩
instance : Elem Try.prog 109 1 8 := ⟨_, _, info_of Try.type109, rfl, rfl, rfl, rfl, by decide⟩
instance : Und Try.prog 110 (TypeDesc.func #[68] #[4] false) := ⟨Try.underlying110⟩
instance : Size Try.prog 110 1 := ⟨_, info_of Try.type110, rfl⟩
instance : One Try.prog 110 := ⟨_, Try.underlying110, rfl⟩
instance : ZeroC Try.prog 110 ([Value.nilFunc]) := ⟨_, _, info_of Try.type110, rfl, rfl⟩
instance : Elem Try.prog 110 1 8 := ⟨_, _, info_of Try.type110, rfl, rfl, rfl, rfl, by decide⟩
instance : Und Try.prog 111 (TypeDesc.func #[38] #[100] false) := ⟨Try.underlying111⟩
instance : Size Try.prog 111 1 := ⟨_, info_of Try.type111, rfl⟩
instance : One Try.prog 111 := ⟨_, Try.underlying111, rfl⟩
instance : ZeroC Try.prog 111 ([Value.nilFunc]) := ⟨_, _, info_of Try.type111, rfl, rfl⟩
instance : Elem Try.prog 111 1 8 := ⟨_, _, info_of Try.type111, rfl, rfl, rfl, rfl, by decide⟩
instance : Und Try.prog 112 (TypeDesc.slice 38) := ⟨Try.underlying112⟩
instance : Size Try.prog 112 1 := ⟨_, info_of Try.type112, rfl⟩
instance : One Try.prog 112 := ⟨_, Try.underlying112, rfl⟩
instance : ZeroC Try.prog 112 ([Value.slice none 0 0]) := ⟨_, _, info_of Try.type112, rfl, rfl⟩
instance : Elem Try.prog 112 1 24 := ⟨_, _, info_of Try.type112, rfl, rfl, rfl, rfl, by decide⟩
instance : Und Try.prog 113 (TypeDesc.slice 117) := ⟨Try.underlying113⟩
instance : Size Try.prog 113 1 := ⟨_, info_of Try.type113, rfl⟩
instance : One Try.prog 113 := ⟨_, Try.underlying113, rfl⟩
instance : ZeroC Try.prog 113 ([Value.slice none 0 0]) := ⟨_, _, info_of Try.type113, rfl, rfl⟩
instance : Elem Try.prog 113 1 24 := ⟨_, _, info_of Try.type113, rfl, rfl, rfl, rfl, by decide⟩
instance : Und Try.prog 114 (TypeDesc.func #[40] #[24] false) := ⟨Try.underlying114⟩
instance : Size Try.prog 114 1 := ⟨_, info_of Try.type114, rfl⟩
instance : One Try.prog 114 := ⟨_, Try.underlying114, rfl⟩
instance : ZeroC Try.prog 114 ([Value.nilFunc]) := ⟨_, _, info_of Try.type114, rfl, rfl⟩
instance : Elem Try.prog 114 1 8 := ⟨_, _, info_of Try.type114, rfl, rfl, rfl, rfl, by decide⟩
instance : Und Try.prog 115 (TypeDesc.func #[22, 40, 113] #[4] false) := ⟨Try.underlying115⟩
instance : Size Try.prog 115 1 := ⟨_, info_of Try.type115, rfl⟩
instance : One Try.prog 115 := ⟨_, Try.underlying115, rfl⟩
instance : ZeroC Try.prog 115 ([Value.nilFunc]) := ⟨_, _, info_of Try.type115, rfl, rfl⟩
instance : Elem Try.prog 115 1 8 := ⟨_, _, info_of Try.type115, rfl, rfl, rfl, rfl, by decide⟩
instance : Und Try.prog 116 (TypeDesc.struct #[{ name := "root", type := 3, offset := 0, embedded := false, tag := "", pkgPath := "louvre/tree", byteOffset := 0 }, { name := "depth", type := 3, offset := 1, embedded := false, tag := "", pkgPath := "louvre/tree", byteOffset := 8 }, { name := "wide", type := 4, offset := 2, embedded := false, tag := "", pkgPath := "louvre/tree", byteOffset := 16 }]) := ⟨Try.underlying116⟩
instance : Size Try.prog 116 3 := ⟨_, info_of Try.type116, rfl⟩
instance : Agg Try.prog 116 3 := ⟨_, _, Try.underlying116, rfl, info_of Try.type116, rfl⟩
instance : ZeroC Try.prog 116 ([Value.int IntKind.i64 0, Value.int IntKind.i64 0, Value.bool false]) := ⟨_, _, info_of Try.type116, rfl, rfl⟩
instance : Elem Try.prog 116 3 24 := ⟨_, _, info_of Try.type116, rfl, rfl, rfl, rfl, by decide⟩
instance : Struct Try.prog 116 [(0, 1), (1, 1), (2, 1)] ([Value.int IntKind.i64 0, Value.int IntKind.i64 0, Value.bool false]) := ⟨_, _, _, info_of Try.type116, Try.underlying116, rfl, by simp only [List.mapM_cons, List.mapM_nil, info_of Try.type3, info_of Try.type4]; rfl, rfl⟩
instance : Fld Try.prog 116 0 0 := ⟨_, _, _, Try.underlying116, rfl, rfl, info_of Try.type3, by decide⟩
instance : Fld Try.prog 116 1 1 := ⟨_, _, _, Try.underlying116, rfl, rfl, info_of Try.type3, by decide⟩
instance : Fld Try.prog 116 2 2 := ⟨_, _, _, Try.underlying116, rfl, rfl, info_of Try.type4, by decide⟩
instance : Und Try.prog 117 (TypeDesc.struct #[{ name := "root", type := 3, offset := 0, embedded := false, tag := "", pkgPath := "louvre/tree", byteOffset := 0 }, { name := "depth", type := 3, offset := 1, embedded := false, tag := "", pkgPath := "louvre/tree", byteOffset := 8 }, { name := "wide", type := 4, offset := 2, embedded := false, tag := "", pkgPath := "louvre/tree", byteOffset := 16 }]) := ⟨Try.underlying117⟩
instance : Size Try.prog 117 3 := ⟨_, info_of Try.type117, rfl⟩
instance : Agg Try.prog 117 3 := ⟨_, _, Try.underlying117, rfl, info_of Try.type117, rfl⟩
instance : ZeroC Try.prog 117 ([Value.int IntKind.i64 0, Value.int IntKind.i64 0, Value.bool false]) := ⟨_, _, info_of Try.type117, rfl, rfl⟩
instance : Elem Try.prog 117 3 24 := ⟨_, _, info_of Try.type117, rfl, rfl, rfl, rfl, by decide⟩
instance : Struct Try.prog 117 [(0, 1), (1, 1), (2, 1)] ([Value.int IntKind.i64 0, Value.int IntKind.i64 0, Value.bool false]) := ⟨_, _, _, info_of Try.type117, Try.underlying117, rfl, by simp only [List.mapM_cons, List.mapM_nil, info_of Try.type3, info_of Try.type4]; rfl, rfl⟩
instance : Fld Try.prog 117 0 0 := ⟨_, _, _, Try.underlying117, rfl, rfl, info_of Try.type3, by decide⟩
instance : Fld Try.prog 117 1 1 := ⟨_, _, _, Try.underlying117, rfl, rfl, info_of Try.type3, by decide⟩
instance : Fld Try.prog 117 2 2 := ⟨_, _, _, Try.underlying117, rfl, rfl, info_of Try.type4, by decide⟩
instance : Und Try.prog 118 (TypeDesc.func #[40, 3, 40] #[4] false) := ⟨Try.underlying118⟩
instance : Size Try.prog 118 1 := ⟨_, info_of Try.type118, rfl⟩
instance : One Try.prog 118 := ⟨_, Try.underlying118, rfl⟩
instance : ZeroC Try.prog 118 ([Value.nilFunc]) := ⟨_, _, info_of Try.type118, rfl, rfl⟩
instance : Elem Try.prog 118 1 8 := ⟨_, _, info_of Try.type118, rfl, rfl, rfl, rfl, by decide⟩
instance : Und Try.prog 119 (TypeDesc.func #[36] #[24] false) := ⟨Try.underlying119⟩
instance : Size Try.prog 119 1 := ⟨_, info_of Try.type119, rfl⟩
instance : One Try.prog 119 := ⟨_, Try.underlying119, rfl⟩
instance : ZeroC Try.prog 119 ([Value.nilFunc]) := ⟨_, _, info_of Try.type119, rfl, rfl⟩
instance : Elem Try.prog 119 1 8 := ⟨_, _, info_of Try.type119, rfl, rfl, rfl, rfl, by decide⟩
instance : Und Try.prog 120 (TypeDesc.func #[9] #[24] false) := ⟨Try.underlying120⟩
instance : Size Try.prog 120 1 := ⟨_, info_of Try.type120, rfl⟩
instance : One Try.prog 120 := ⟨_, Try.underlying120, rfl⟩
instance : ZeroC Try.prog 120 ([Value.nilFunc]) := ⟨_, _, info_of Try.type120, rfl, rfl⟩
instance : Elem Try.prog 120 1 8 := ⟨_, _, info_of Try.type120, rfl, rfl, rfl, rfl, by decide⟩
instance : Und Try.prog 121 (TypeDesc.int IntKind.u64) := ⟨Try.underlying121⟩
instance : Size Try.prog 121 1 := ⟨_, info_of Try.type121, rfl⟩
instance : One Try.prog 121 := ⟨_, Try.underlying121, rfl⟩
instance : ZeroC Try.prog 121 ([Value.int IntKind.u64 0]) := ⟨_, _, info_of Try.type121, rfl, rfl⟩
instance : Elem Try.prog 121 1 8 := ⟨_, _, info_of Try.type121, rfl, rfl, rfl, rfl, by decide⟩
instance : Und Try.prog 122 (TypeDesc.func #[9] #[4] false) := ⟨Try.underlying122⟩
instance : Size Try.prog 122 1 := ⟨_, info_of Try.type122, rfl⟩
instance : One Try.prog 122 := ⟨_, Try.underlying122, rfl⟩
instance : ZeroC Try.prog 122 ([Value.nilFunc]) := ⟨_, _, info_of Try.type122, rfl, rfl⟩
instance : Elem Try.prog 122 1 8 := ⟨_, _, info_of Try.type122, rfl, rfl, rfl, rfl, by decide⟩
instance : Und Try.prog 123 (TypeDesc.func #[9, 127] #[3] false) := ⟨Try.underlying123⟩
instance : Size Try.prog 123 1 := ⟨_, info_of Try.type123, rfl⟩
instance : One Try.prog 123 := ⟨_, Try.underlying123, rfl⟩
instance : ZeroC Try.prog 123 ([Value.nilFunc]) := ⟨_, _, info_of Try.type123, rfl, rfl⟩
instance : Elem Try.prog 123 1 8 := ⟨_, _, info_of Try.type123, rfl, rfl, rfl, rfl, by decide⟩
instance : Und Try.prog 124 (TypeDesc.slice 5) := ⟨Try.underlying124⟩
instance : Size Try.prog 124 1 := ⟨_, info_of Try.type124, rfl⟩
instance : One Try.prog 124 := ⟨_, Try.underlying124, rfl⟩
instance : ZeroC Try.prog 124 ([Value.slice none 0 0]) := ⟨_, _, info_of Try.type124, rfl, rfl⟩
instance : Elem Try.prog 124 1 24 := ⟨_, _, info_of Try.type124, rfl, rfl, rfl, rfl, by decide⟩
instance : Und Try.prog 125 (TypeDesc.func #[9, 126] #[124] false) := ⟨Try.underlying125⟩
instance : Size Try.prog 125 1 := ⟨_, info_of Try.type125, rfl⟩
instance : One Try.prog 125 := ⟨_, Try.underlying125, rfl⟩
instance : ZeroC Try.prog 125 ([Value.nilFunc]) := ⟨_, _, info_of Try.type125, rfl, rfl⟩
instance : Elem Try.prog 125 1 8 := ⟨_, _, info_of Try.type125, rfl, rfl, rfl, rfl, by decide⟩
instance : Und Try.prog 126 (TypeDesc.func #[5] #[5] false) := ⟨Try.underlying126⟩
instance : Size Try.prog 126 1 := ⟨_, info_of Try.type126, rfl⟩
instance : One Try.prog 126 := ⟨_, Try.underlying126, rfl⟩
instance : ZeroC Try.prog 126 ([Value.nilFunc]) := ⟨_, _, info_of Try.type126, rfl, rfl⟩
instance : Elem Try.prog 126 1 8 := ⟨_, _, info_of Try.type126, rfl, rfl, rfl, rfl, by decide⟩
instance : Und Try.prog 127 (TypeDesc.func #[21] #[4] false) := ⟨Try.underlying127⟩
instance : Size Try.prog 127 1 := ⟨_, info_of Try.type127, rfl⟩
instance : One Try.prog 127 := ⟨_, Try.underlying127, rfl⟩
instance : ZeroC Try.prog 127 ([Value.nilFunc]) := ⟨_, _, info_of Try.type127, rfl, rfl⟩
instance : Elem Try.prog 127 1 8 := ⟨_, _, info_of Try.type127, rfl, rfl, rfl, rfl, by decide⟩
instance : Und Try.prog 128 (TypeDesc.func #[9, 127, 4] #[3] false) := ⟨Try.underlying128⟩
instance : Size Try.prog 128 1 := ⟨_, info_of Try.type128, rfl⟩
instance : One Try.prog 128 := ⟨_, Try.underlying128, rfl⟩
instance : ZeroC Try.prog 128 ([Value.nilFunc]) := ⟨_, _, info_of Try.type128, rfl, rfl⟩
instance : Elem Try.prog 128 1 8 := ⟨_, _, info_of Try.type128, rfl, rfl, rfl, rfl, by decide⟩
instance : Und Try.prog 129 (TypeDesc.func #[] #[9] false) := ⟨Try.underlying129⟩
instance : Size Try.prog 129 1 := ⟨_, info_of Try.type129, rfl⟩
instance : One Try.prog 129 := ⟨_, Try.underlying129, rfl⟩
instance : ZeroC Try.prog 129 ([Value.nilFunc]) := ⟨_, _, info_of Try.type129, rfl, rfl⟩
instance : Elem Try.prog 129 1 8 := ⟨_, _, info_of Try.type129, rfl, rfl, rfl, rfl, by decide⟩
instance : Und Try.prog 130 (TypeDesc.struct #[{ name := "_interface", type := 17, offset := 0, embedded := false, tag := "", pkgPath := "runtime", byteOffset := 0 }, { name := "concrete", type := 17, offset := 1, embedded := false, tag := "", pkgPath := "runtime", byteOffset := 8 }, { name := "asserted", type := 17, offset := 2, embedded := false, tag := "", pkgPath := "runtime", byteOffset := 16 }, { name := "missingMethod", type := 9, offset := 3, embedded := false, tag := "", pkgPath := "runtime", byteOffset := 24 }]) := ⟨Try.underlying130⟩
instance : Size Try.prog 130 4 := ⟨_, info_of Try.type130, rfl⟩
instance : Agg Try.prog 130 4 := ⟨_, _, Try.underlying130, rfl, info_of Try.type130, rfl⟩
instance : ZeroC Try.prog 130 ([Value.pointer none, Value.pointer none, Value.pointer none, Value.string { data := #[] }]) := ⟨_, _, info_of Try.type130, rfl, rfl⟩
instance : Elem Try.prog 130 4 40 := ⟨_, _, info_of Try.type130, rfl, rfl, rfl, rfl, by decide⟩
instance : Struct Try.prog 130 [(0, 1), (1, 1), (2, 1), (3, 1)] ([Value.pointer none, Value.pointer none, Value.pointer none, Value.string { data := #[] }]) := ⟨_, _, _, info_of Try.type130, Try.underlying130, rfl, by simp only [List.mapM_cons, List.mapM_nil, info_of Try.type17, info_of Try.type9]; rfl, rfl⟩
instance : Fld Try.prog 130 0 0 := ⟨_, _, _, Try.underlying130, rfl, rfl, info_of Try.type17, by decide⟩
instance : Fld Try.prog 130 1 1 := ⟨_, _, _, Try.underlying130, rfl, rfl, info_of Try.type17, by decide⟩
instance : Fld Try.prog 130 2 2 := ⟨_, _, _, Try.underlying130, rfl, rfl, info_of Try.type17, by decide⟩
instance : Fld Try.prog 130 3 3 := ⟨_, _, _, Try.underlying130, rfl, rfl, info_of Try.type9, by decide⟩
instance : Und Try.prog 131 (TypeDesc.struct #[{ name := "_interface", type := 17, offset := 0, embedded := false, tag := "", pkgPath := "runtime", byteOffset := 0 }, { name := "concrete", type := 17, offset := 1, embedded := false, tag := "", pkgPath := "runtime", byteOffset := 8 }, { name := "asserted", type := 17, offset := 2, embedded := false, tag := "", pkgPath := "runtime", byteOffset := 16 }, { name := "missingMethod", type := 9, offset := 3, embedded := false, tag := "", pkgPath := "runtime", byteOffset := 24 }]) := ⟨Try.underlying131⟩
instance : Size Try.prog 131 4 := ⟨_, info_of Try.type131, rfl⟩
instance : Agg Try.prog 131 4 := ⟨_, _, Try.underlying131, rfl, info_of Try.type131, rfl⟩
instance : ZeroC Try.prog 131 ([Value.pointer none, Value.pointer none, Value.pointer none, Value.string { data := #[] }]) := ⟨_, _, info_of Try.type131, rfl, rfl⟩
instance : Elem Try.prog 131 4 40 := ⟨_, _, info_of Try.type131, rfl, rfl, rfl, rfl, by decide⟩
instance : Struct Try.prog 131 [(0, 1), (1, 1), (2, 1), (3, 1)] ([Value.pointer none, Value.pointer none, Value.pointer none, Value.string { data := #[] }]) := ⟨_, _, _, info_of Try.type131, Try.underlying131, rfl, by simp only [List.mapM_cons, List.mapM_nil, info_of Try.type17, info_of Try.type9]; rfl, rfl⟩
instance : Fld Try.prog 131 0 0 := ⟨_, _, _, Try.underlying131, rfl, rfl, info_of Try.type17, by decide⟩
instance : Fld Try.prog 131 1 1 := ⟨_, _, _, Try.underlying131, rfl, rfl, info_of Try.type17, by decide⟩
instance : Fld Try.prog 131 2 2 := ⟨_, _, _, Try.underlying131, rfl, rfl, info_of Try.type17, by decide⟩
instance : Fld Try.prog 131 3 3 := ⟨_, _, _, Try.underlying131, rfl, rfl, info_of Try.type9, by decide⟩
instance : Und Try.prog 132 (TypeDesc.array 0 16) := ⟨Try.underlying132⟩
instance : Size Try.prog 132 0 := ⟨_, info_of Try.type132, rfl⟩
instance : Agg Try.prog 132 0 := ⟨_, _, Try.underlying132, rfl, info_of Try.type132, rfl⟩
instance : Und Try.prog 133 (TypeDesc.struct #[{ name := "_", type := 132, offset := 0, embedded := false, tag := "", pkgPath := "runtime", byteOffset := 0 }]) := ⟨Try.underlying133⟩
instance : Size Try.prog 133 0 := ⟨_, info_of Try.type133, rfl⟩
instance : Agg Try.prog 133 0 := ⟨_, _, Try.underlying133, rfl, info_of Try.type133, rfl⟩
instance : Und Try.prog 134 (TypeDesc.struct #[{ name := "_", type := 132, offset := 0, embedded := false, tag := "", pkgPath := "runtime", byteOffset := 0 }]) := ⟨Try.underlying134⟩
instance : Size Try.prog 134 0 := ⟨_, info_of Try.type134, rfl⟩
instance : Agg Try.prog 134 0 := ⟨_, _, Try.underlying134, rfl, info_of Try.type134, rfl⟩
instance : Und Try.prog 135 (TypeDesc.func #[] #[3] false) := ⟨Try.underlying135⟩
instance : Size Try.prog 135 1 := ⟨_, info_of Try.type135, rfl⟩
instance : One Try.prog 135 := ⟨_, Try.underlying135, rfl⟩
instance : ZeroC Try.prog 135 ([Value.nilFunc]) := ⟨_, _, info_of Try.type135, rfl, rfl⟩
instance : Elem Try.prog 135 1 8 := ⟨_, _, info_of Try.type135, rfl, rfl, rfl, rfl, by decide⟩
instance : Und Try.prog 136 (TypeDesc.int IntKind.u32) := ⟨Try.underlying136⟩
instance : Size Try.prog 136 1 := ⟨_, info_of Try.type136, rfl⟩
instance : One Try.prog 136 := ⟨_, Try.underlying136, rfl⟩
instance : ZeroC Try.prog 136 ([Value.int IntKind.u32 0]) := ⟨_, _, info_of Try.type136, rfl, rfl⟩
instance : Elem Try.prog 136 1 4 := ⟨_, _, info_of Try.type136, rfl, rfl, rfl, rfl, by decide⟩
instance : Und Try.prog 137 (TypeDesc.int IntKind.u8) := ⟨Try.underlying137⟩
instance : Size Try.prog 137 1 := ⟨_, info_of Try.type137, rfl⟩
instance : One Try.prog 137 := ⟨_, Try.underlying137, rfl⟩
instance : ZeroC Try.prog 137 ([Value.int IntKind.u8 0]) := ⟨_, _, info_of Try.type137, rfl, rfl⟩
instance : Elem Try.prog 137 1 1 := ⟨_, _, info_of Try.type137, rfl, rfl, rfl, rfl, by decide⟩
instance : Und Try.prog 138 (TypeDesc.int IntKind.u8) := ⟨Try.underlying138⟩
instance : Size Try.prog 138 1 := ⟨_, info_of Try.type138, rfl⟩
instance : One Try.prog 138 := ⟨_, Try.underlying138, rfl⟩
instance : ZeroC Try.prog 138 ([Value.int IntKind.u8 0]) := ⟨_, _, info_of Try.type138, rfl, rfl⟩
instance : Elem Try.prog 138 1 1 := ⟨_, _, info_of Try.type138, rfl, rfl, rfl, rfl, by decide⟩
instance : Und Try.prog 139 (TypeDesc.func #[145, 145] #[4] false) := ⟨Try.underlying139⟩
instance : Size Try.prog 139 1 := ⟨_, info_of Try.type139, rfl⟩
instance : One Try.prog 139 := ⟨_, Try.underlying139, rfl⟩
instance : ZeroC Try.prog 139 ([Value.nilFunc]) := ⟨_, _, info_of Try.type139, rfl, rfl⟩
instance : Elem Try.prog 139 1 8 := ⟨_, _, info_of Try.type139, rfl, rfl, rfl, rfl, by decide⟩
instance : Und Try.prog 140 (TypeDesc.pointer 5) := ⟨Try.underlying140⟩
instance : Size Try.prog 140 1 := ⟨_, info_of Try.type140, rfl⟩
instance : One Try.prog 140 := ⟨_, Try.underlying140, rfl⟩
instance : ZeroC Try.prog 140 ([Value.pointer none]) := ⟨_, _, info_of Try.type140, rfl, rfl⟩
instance : Elem Try.prog 140 1 8 := ⟨_, _, info_of Try.type140, rfl, rfl, rfl, rfl, by decide⟩
instance : Und Try.prog 141 (TypeDesc.int IntKind.i32) := ⟨Try.underlying141⟩
instance : Size Try.prog 141 1 := ⟨_, info_of Try.type141, rfl⟩
instance : One Try.prog 141 := ⟨_, Try.underlying141, rfl⟩
instance : ZeroC Try.prog 141 ([Value.int IntKind.i32 0]) := ⟨_, _, info_of Try.type141, rfl, rfl⟩
instance : Elem Try.prog 141 1 4 := ⟨_, _, info_of Try.type141, rfl, rfl, rfl, rfl, by decide⟩
instance : Und Try.prog 142 (TypeDesc.int IntKind.i32) := ⟨Try.underlying142⟩
instance : Size Try.prog 142 1 := ⟨_, info_of Try.type142, rfl⟩
instance : One Try.prog 142 := ⟨_, Try.underlying142, rfl⟩
instance : ZeroC Try.prog 142 ([Value.int IntKind.i32 0]) := ⟨_, _, info_of Try.type142, rfl, rfl⟩
instance : Elem Try.prog 142 1 4 := ⟨_, _, info_of Try.type142, rfl, rfl, rfl, rfl, by decide⟩
instance : Und Try.prog 143 (TypeDesc.struct #[{ name := "Size_", type := 12, offset := 0, embedded := false, tag := "", pkgPath := "", byteOffset := 0 }, { name := "PtrBytes", type := 12, offset := 1, embedded := false, tag := "", pkgPath := "", byteOffset := 8 }, { name := "Hash", type := 136, offset := 2, embedded := false, tag := "", pkgPath := "", byteOffset := 16 }, { name := "TFlag", type := 137, offset := 3, embedded := false, tag := "", pkgPath := "", byteOffset := 20 }, { name := "Align_", type := 5, offset := 4, embedded := false, tag := "", pkgPath := "", byteOffset := 21 }, { name := "FieldAlign_", type := 5, offset := 5, embedded := false, tag := "", pkgPath := "", byteOffset := 22 }, { name := "Kind_", type := 138, offset := 6, embedded := false, tag := "", pkgPath := "", byteOffset := 23 }, { name := "Equal", type := 139, offset := 7, embedded := false, tag := "", pkgPath := "", byteOffset := 24 }, { name := "GCData", type := 140, offset := 8, embedded := false, tag := "", pkgPath := "", byteOffset := 32 }, { name := "Str", type := 141, offset := 9, embedded := false, tag := "", pkgPath := "", byteOffset := 40 }, { name := "PtrToThis", type := 142, offset := 10, embedded := false, tag := "", pkgPath := "", byteOffset := 44 }]) := ⟨Try.underlying143⟩
instance : Size Try.prog 143 11 := ⟨_, info_of Try.type143, rfl⟩
instance : Agg Try.prog 143 11 := ⟨_, _, Try.underlying143, rfl, info_of Try.type143, rfl⟩
instance : ZeroC Try.prog 143 ([Value.int IntKind.u64 0, Value.int IntKind.u64 0, Value.int IntKind.u32 0, Value.int IntKind.u8 0, Value.int IntKind.u8 0, Value.int IntKind.u8 0, Value.int IntKind.u8 0, Value.nilFunc, Value.pointer none, Value.int IntKind.i32 0, Value.int IntKind.i32 0]) := ⟨_, _, info_of Try.type143, rfl, rfl⟩
instance : Elem Try.prog 143 11 48 := ⟨_, _, info_of Try.type143, rfl, rfl, rfl, rfl, by decide⟩
instance : Struct Try.prog 143 [(0, 1), (1, 1), (2, 1), (3, 1), (4, 1), (5, 1), (6, 1), (7, 1), (8, 1), (9, 1), (10, 1)] ([Value.int IntKind.u64 0, Value.int IntKind.u64 0, Value.int IntKind.u32 0, Value.int IntKind.u8 0, Value.int IntKind.u8 0, Value.int IntKind.u8 0, Value.int IntKind.u8 0, Value.nilFunc, Value.pointer none, Value.int IntKind.i32 0, Value.int IntKind.i32 0]) := ⟨_, _, _, info_of Try.type143, Try.underlying143, rfl, by simp only [List.mapM_cons, List.mapM_nil, info_of Try.type12, info_of Try.type136, info_of Try.type137, info_of Try.type138, info_of Try.type139, info_of Try.type140, info_of Try.type141, info_of Try.type142, info_of Try.type5]; rfl, rfl⟩
instance : Fld Try.prog 143 0 0 := ⟨_, _, _, Try.underlying143, rfl, rfl, info_of Try.type12, by decide⟩
instance : Fld Try.prog 143 1 1 := ⟨_, _, _, Try.underlying143, rfl, rfl, info_of Try.type12, by decide⟩
instance : Fld Try.prog 143 2 2 := ⟨_, _, _, Try.underlying143, rfl, rfl, info_of Try.type136, by decide⟩
instance : Fld Try.prog 143 3 3 := ⟨_, _, _, Try.underlying143, rfl, rfl, info_of Try.type137, by decide⟩
instance : Fld Try.prog 143 4 4 := ⟨_, _, _, Try.underlying143, rfl, rfl, info_of Try.type5, by decide⟩
instance : Fld Try.prog 143 5 5 := ⟨_, _, _, Try.underlying143, rfl, rfl, info_of Try.type5, by decide⟩
instance : Fld Try.prog 143 6 6 := ⟨_, _, _, Try.underlying143, rfl, rfl, info_of Try.type138, by decide⟩
instance : Fld Try.prog 143 7 7 := ⟨_, _, _, Try.underlying143, rfl, rfl, info_of Try.type139, by decide⟩
instance : Fld Try.prog 143 8 8 := ⟨_, _, _, Try.underlying143, rfl, rfl, info_of Try.type140, by decide⟩
instance : Fld Try.prog 143 9 9 := ⟨_, _, _, Try.underlying143, rfl, rfl, info_of Try.type141, by decide⟩
instance : Fld Try.prog 143 10 10 := ⟨_, _, _, Try.underlying143, rfl, rfl, info_of Try.type142, by decide⟩
instance : Und Try.prog 144 (TypeDesc.struct #[{ name := "Size_", type := 12, offset := 0, embedded := false, tag := "", pkgPath := "", byteOffset := 0 }, { name := "PtrBytes", type := 12, offset := 1, embedded := false, tag := "", pkgPath := "", byteOffset := 8 }, { name := "Hash", type := 136, offset := 2, embedded := false, tag := "", pkgPath := "", byteOffset := 16 }, { name := "TFlag", type := 137, offset := 3, embedded := false, tag := "", pkgPath := "", byteOffset := 20 }, { name := "Align_", type := 5, offset := 4, embedded := false, tag := "", pkgPath := "", byteOffset := 21 }, { name := "FieldAlign_", type := 5, offset := 5, embedded := false, tag := "", pkgPath := "", byteOffset := 22 }, { name := "Kind_", type := 138, offset := 6, embedded := false, tag := "", pkgPath := "", byteOffset := 23 }, { name := "Equal", type := 139, offset := 7, embedded := false, tag := "", pkgPath := "", byteOffset := 24 }, { name := "GCData", type := 140, offset := 8, embedded := false, tag := "", pkgPath := "", byteOffset := 32 }, { name := "Str", type := 141, offset := 9, embedded := false, tag := "", pkgPath := "", byteOffset := 40 }, { name := "PtrToThis", type := 142, offset := 10, embedded := false, tag := "", pkgPath := "", byteOffset := 44 }]) := ⟨Try.underlying144⟩
instance : Size Try.prog 144 11 := ⟨_, info_of Try.type144, rfl⟩
instance : Agg Try.prog 144 11 := ⟨_, _, Try.underlying144, rfl, info_of Try.type144, rfl⟩
instance : ZeroC Try.prog 144 ([Value.int IntKind.u64 0, Value.int IntKind.u64 0, Value.int IntKind.u32 0, Value.int IntKind.u8 0, Value.int IntKind.u8 0, Value.int IntKind.u8 0, Value.int IntKind.u8 0, Value.nilFunc, Value.pointer none, Value.int IntKind.i32 0, Value.int IntKind.i32 0]) := ⟨_, _, info_of Try.type144, rfl, rfl⟩
instance : Elem Try.prog 144 11 48 := ⟨_, _, info_of Try.type144, rfl, rfl, rfl, rfl, by decide⟩
instance : Struct Try.prog 144 [(0, 1), (1, 1), (2, 1), (3, 1), (4, 1), (5, 1), (6, 1), (7, 1), (8, 1), (9, 1), (10, 1)] ([Value.int IntKind.u64 0, Value.int IntKind.u64 0, Value.int IntKind.u32 0, Value.int IntKind.u8 0, Value.int IntKind.u8 0, Value.int IntKind.u8 0, Value.int IntKind.u8 0, Value.nilFunc, Value.pointer none, Value.int IntKind.i32 0, Value.int IntKind.i32 0]) := ⟨_, _, _, info_of Try.type144, Try.underlying144, rfl, by simp only [List.mapM_cons, List.mapM_nil, info_of Try.type12, info_of Try.type136, info_of Try.type137, info_of Try.type138, info_of Try.type139, info_of Try.type140, info_of Try.type141, info_of Try.type142, info_of Try.type5]; rfl, rfl⟩
instance : Fld Try.prog 144 0 0 := ⟨_, _, _, Try.underlying144, rfl, rfl, info_of Try.type12, by decide⟩
instance : Fld Try.prog 144 1 1 := ⟨_, _, _, Try.underlying144, rfl, rfl, info_of Try.type12, by decide⟩
instance : Fld Try.prog 144 2 2 := ⟨_, _, _, Try.underlying144, rfl, rfl, info_of Try.type136, by decide⟩
instance : Fld Try.prog 144 3 3 := ⟨_, _, _, Try.underlying144, rfl, rfl, info_of Try.type137, by decide⟩
instance : Fld Try.prog 144 4 4 := ⟨_, _, _, Try.underlying144, rfl, rfl, info_of Try.type5, by decide⟩
instance : Fld Try.prog 144 5 5 := ⟨_, _, _, Try.underlying144, rfl, rfl, info_of Try.type5, by decide⟩
instance : Fld Try.prog 144 6 6 := ⟨_, _, _, Try.underlying144, rfl, rfl, info_of Try.type138, by decide⟩
instance : Fld Try.prog 144 7 7 := ⟨_, _, _, Try.underlying144, rfl, rfl, info_of Try.type139, by decide⟩
instance : Fld Try.prog 144 8 8 := ⟨_, _, _, Try.underlying144, rfl, rfl, info_of Try.type140, by decide⟩
instance : Fld Try.prog 144 9 9 := ⟨_, _, _, Try.underlying144, rfl, rfl, info_of Try.type141, by decide⟩
instance : Fld Try.prog 144 10 10 := ⟨_, _, _, Try.underlying144, rfl, rfl, info_of Try.type142, by decide⟩
instance : Und Try.prog 145 (TypeDesc.unsafePointer) := ⟨Try.underlying145⟩
instance : Size Try.prog 145 1 := ⟨_, info_of Try.type145, rfl⟩
instance : One Try.prog 145 := ⟨_, Try.underlying145, rfl⟩
instance : ZeroC Try.prog 145 ([Value.pointer none]) := ⟨_, _, info_of Try.type145, rfl, rfl⟩
instance : Elem Try.prog 145 1 8 := ⟨_, _, info_of Try.type145, rfl, rfl, rfl, rfl, by decide⟩
instance : Callable Try.prog 3 := ⟨fun args w => Try.call3 args w⟩
instance : Callable Try.prog 4 := ⟨fun args w => Try.call4 args w⟩
instance : Callable Try.prog 5 := ⟨fun args w => Try.call5 args w⟩
instance : Callable Try.prog 6 := ⟨fun args w => Try.call6 args w⟩
instance : Callable Try.prog 7 := ⟨fun args w => Try.call7 args w⟩
instance : Callable Try.prog 8 := ⟨fun args w => Try.call8 args w⟩
instance : Callable Try.prog 9 := ⟨fun args w => Try.call9 args w⟩
instance : Callable Try.prog 10 := ⟨fun args w => Try.call10 args w⟩
instance : Callable Try.prog 11 := ⟨fun args w => Try.call11 args w⟩
instance : Callable Try.prog 12 := ⟨fun args w => Try.call12 args w⟩
instance : Callable Try.prog 13 := ⟨fun args w => Try.call13 args w⟩
instance : Callable Try.prog 14 := ⟨fun args w => Try.call14 args w⟩
instance : Callable Try.prog 15 := ⟨fun args w => Try.call15 args w⟩
instance : Callable Try.prog 16 := ⟨fun args w => Try.call16 args w⟩
instance : Callable Try.prog 17 := ⟨fun args w => Try.call17 args w⟩
instance : Callable Try.prog 18 := ⟨fun args w => Try.call18 args w⟩
instance : Callable Try.prog 19 := ⟨fun args w => Try.call19 args w⟩
instance : Callable Try.prog 20 := ⟨fun args w => Try.call20 args w⟩
instance : Callable Try.prog 21 := ⟨fun args w => Try.call21 args w⟩
instance : Callable Try.prog 22 := ⟨fun args w => Try.call22 args w⟩
instance : Callable Try.prog 23 := ⟨fun args w => Try.call23 args w⟩
instance : Callable Try.prog 24 := ⟨fun args w => Try.call24 args w⟩
instance : Callable Try.prog 25 := ⟨fun args w => Try.call25 args w⟩
instance : Callable Try.prog 26 := ⟨fun args w => Try.call26 args w⟩
instance : Callable Try.prog 27 := ⟨fun args w => Try.call27 args w⟩
instance : Callable Try.prog 28 := ⟨fun args w => Try.call28 args w⟩
instance : Callable Try.prog 29 := ⟨fun args w => Try.call29 args w⟩
instance : Callable Try.prog 30 := ⟨fun args w => Try.call30 args w⟩
instance : Callable Try.prog 31 := ⟨fun args w => Try.call31 args w⟩
instance : Callable Try.prog 32 := ⟨fun args w => Try.call32 args w⟩
instance : Callable Try.prog 33 := ⟨fun args w => Try.call33 args w⟩
instance : Callable Try.prog 34 := ⟨fun args w => Try.call34 args w⟩
instance : Callable Try.prog 35 := ⟨fun args w => Try.call35 args w⟩
instance : Callable Try.prog 36 := ⟨fun args w => Try.call36 args w⟩
instance : Callable Try.prog 37 := ⟨fun args w => Try.call37 args w⟩
instance : Callable Try.prog 38 := ⟨fun args w => Try.call38 args w⟩
instance : Callable Try.prog 39 := ⟨fun args w => Try.call39 args w⟩
instance : Callable Try.prog 40 := ⟨fun args w => Try.call40 args w⟩
instance : Callable Try.prog 41 := ⟨fun args w => Try.call41 args w⟩
instance : Callable Try.prog 42 := ⟨fun args w => Try.call42 args w⟩
instance : Callable Try.prog 43 := ⟨fun args w => Try.call43 args w⟩
instance : Callable Try.prog 44 := ⟨fun args w => Try.call44 args w⟩
instance : Callable Try.prog 45 := ⟨fun args w => Try.call45 args w⟩
instance : Callable Try.prog 46 := ⟨fun args w => Try.call46 args w⟩
instance : Callable Try.prog 47 := ⟨fun args w => Try.call47 args w⟩
instance : Callable Try.prog 48 := ⟨fun args w => Try.call48 args w⟩
instance : Callable Try.prog 49 := ⟨fun args w => Try.call49 args w⟩
instance : Callable Try.prog 50 := ⟨fun args w => Try.call50 args w⟩
instance : Callable Try.prog 51 := ⟨fun args w => Try.call51 args w⟩
instance : Callable Try.prog 52 := ⟨fun args w => Try.call52 args w⟩
instance : Callable Try.prog 53 := ⟨fun args w => Try.call53 args w⟩
instance : Callable Try.prog 54 := ⟨fun args w => Try.call54 args w⟩
instance : Callable Try.prog 55 := ⟨fun args w => Try.call55 args w⟩
instance : Callable Try.prog 56 := ⟨fun args w => Try.call56 args w⟩
instance : Callable Try.prog 57 := ⟨fun args w => Try.call57 args w⟩
instance : Callable Try.prog 58 := ⟨fun args w => Try.call58 args w⟩
instance : Callable Try.prog 59 := ⟨fun args w => Try.call59 args w⟩
instance : Callable Try.prog 60 := ⟨fun args w => Try.call60 args w⟩
instance : Callable Try.prog 61 := ⟨fun args w => Try.call61 args w⟩
instance : Callable Try.prog 62 := ⟨fun args w => Try.call62 args w⟩
instance : Callable Try.prog 63 := ⟨fun args w => Try.call63 args w⟩
instance : Callable Try.prog 64 := ⟨fun args w => Try.call64 args w⟩
instance : Callable Try.prog 65 := ⟨fun args w => Try.call65 args w⟩
instance : Callable Try.prog 66 := ⟨fun args w => Try.call66 args w⟩
instance : Callable Try.prog 67 := ⟨fun args w => Try.call67 args w⟩
instance : Callable Try.prog 68 := ⟨fun args w => Try.call68 args w⟩
instance : Callable Try.prog 69 := ⟨fun args w => Try.call69 args w⟩
instance : Callable Try.prog 70 := ⟨fun args w => Try.call70 args w⟩
instance : Callable Try.prog 71 := ⟨fun args w => Try.call71 args w⟩
instance : Callable Try.prog 72 := ⟨fun args w => Try.call72 args w⟩
instance : Callable Try.prog 73 := ⟨fun args w => Try.call73 args w⟩
instance : Callable Try.prog 74 := ⟨fun args w => Try.call74 args w⟩
instance : Callable Try.prog 75 := ⟨fun args w => Try.call75 args w⟩
instance : Callable Try.prog 76 := ⟨fun args w => Try.call76 args w⟩
instance : Callable Try.prog 77 := ⟨fun args w => Try.call77 args w⟩
instance : Callable Try.prog 78 := ⟨fun args w => Try.call78 args w⟩
instance : Callable Try.prog 79 := ⟨fun args w => Try.call79 args w⟩
instance : Callable Try.prog 80 := ⟨fun args w => Try.call80 args w⟩
instance : Callable Try.prog 81 := ⟨fun args w => Try.call81 args w⟩
instance : Callable Try.prog 82 := ⟨fun args w => Try.call82 args w⟩
instance : Callable Try.prog 83 := ⟨fun args w => Try.call83 args w⟩
instance : Callable Try.prog 84 := ⟨fun args w => Try.call84 args w⟩
instance : Callable Try.prog 85 := ⟨fun args w => Try.call85 args w⟩
instance : Callable Try.prog 86 := ⟨fun args w => Try.call86 args w⟩
instance : Callable Try.prog 87 := ⟨fun args w => Try.call87 args w⟩
instance : Callable Try.prog 88 := ⟨fun args w => Try.call88 args w⟩
instance : Callable Try.prog 89 := ⟨fun args w => Try.call89 args w⟩
instance : Callable Try.prog 90 := ⟨fun args w => Try.call90 args w⟩
instance : Callable Try.prog 91 := ⟨fun args w => Try.call91 args w⟩
instance : Callable Try.prog 92 := ⟨fun args w => Try.call92 args w⟩
instance : Callable Try.prog 93 := ⟨fun args w => Try.call93 args w⟩
instance : Callable Try.prog 94 := ⟨fun args w => Try.call94 args w⟩
instance : Callable Try.prog 95 := ⟨fun args w => Try.call95 args w⟩
instance : Callable Try.prog 96 := ⟨fun args w => Try.call96 args w⟩
instance : Callable Try.prog 97 := ⟨fun args w => Try.call97 args w⟩
instance : Callable Try.prog 98 := ⟨fun args w => Try.call98 args w⟩
instance : Callable Try.prog 99 := ⟨fun args w => Try.call99 args w⟩
end Go.SL
