/-
  Lemmas and walks, packed: Ty E1 Tr Fin W1 W2 W3 W4 W5.
-/
import Derived.Test.YtfkklicpnoeclaaChecked
import Derived.Test.YtfkklicpnoeclaaRows
import Derived.OpenShut
import Derived.ProofKit
import Derived.Carry
import Derived.Deep.Slices
import Derived.Test.YtfkklicpnoeclaaGa
import Derived.Test.YtfkklicpnoeclaaGb
set_option linter.unusedSimpArgs false
set_option linter.unusedVariables false
/-
  The facts on the types and functions of the translation, as instances that the rules look for. Made by program.
-/
namespace Go.SL
open Go Go.Proofs
theorem info_of {P : Program} {t : Nat} {i : TypeInfo} (h : P.toTables.types[t]? = some i) : P.info? t = some i := by
  have hl := (Array.getElem?_eq_some_iff.1 h).1
  simp only [Tables.info?, hl, if_true]
  exact h

instance : Und Try.prog 0 (TypeDesc.tuple #[]) := ⟨Try.underlying0⟩
instance : Size Try.prog 0 1 := ⟨_, info_of Try.type0, rfl⟩
instance : Und Try.prog 1 (TypeDesc.func #[] #[] false) := ⟨Try.underlying1⟩
instance : Size Try.prog 1 1 := ⟨_, info_of Try.type1, rfl⟩
instance : One Try.prog 1 := ⟨_, Try.underlying1, rfl⟩
instance : ZeroC Try.prog 1 ([Value.nilFunc]) := ⟨_, _, info_of Try.type1, rfl, rfl⟩
instance : Elem Try.prog 1 1 8 := ⟨_, _, info_of Try.type1, rfl, rfl, rfl, rfl, by decide⟩
instance : Und Try.prog 2 (TypeDesc.int IntKind.i64) := ⟨Try.underlying2⟩
instance : Size Try.prog 2 1 := ⟨_, info_of Try.type2, rfl⟩
instance : One Try.prog 2 := ⟨_, Try.underlying2, rfl⟩
instance : ZeroC Try.prog 2 ([Value.int IntKind.i64 0]) := ⟨_, _, info_of Try.type2, rfl, rfl⟩
instance : Elem Try.prog 2 1 8 := ⟨_, _, info_of Try.type2, rfl, rfl, rfl, rfl, by decide⟩
instance : Und Try.prog 3 (TypeDesc.int IntKind.i64) := ⟨Try.underlying3⟩
instance : Size Try.prog 3 1 := ⟨_, info_of Try.type3, rfl⟩
instance : One Try.prog 3 := ⟨_, Try.underlying3, rfl⟩
instance : ZeroC Try.prog 3 ([Value.int IntKind.i64 0]) := ⟨_, _, info_of Try.type3, rfl, rfl⟩
instance : Elem Try.prog 3 1 8 := ⟨_, _, info_of Try.type3, rfl, rfl, rfl, rfl, by decide⟩
instance : Und Try.prog 4 (TypeDesc.bool) := ⟨Try.underlying4⟩
instance : Size Try.prog 4 1 := ⟨_, info_of Try.type4, rfl⟩
instance : One Try.prog 4 := ⟨_, Try.underlying4, rfl⟩
instance : ZeroC Try.prog 4 ([Value.bool false]) := ⟨_, _, info_of Try.type4, rfl, rfl⟩
instance : Elem Try.prog 4 1 1 := ⟨_, _, info_of Try.type4, rfl, rfl, rfl, rfl, by decide⟩
instance : Und Try.prog 5 (TypeDesc.int IntKind.u8) := ⟨Try.underlying5⟩
instance : Size Try.prog 5 1 := ⟨_, info_of Try.type5, rfl⟩
instance : One Try.prog 5 := ⟨_, Try.underlying5, rfl⟩
instance : ZeroC Try.prog 5 ([Value.int IntKind.u8 0]) := ⟨_, _, info_of Try.type5, rfl, rfl⟩
instance : Elem Try.prog 5 1 1 := ⟨_, _, info_of Try.type5, rfl, rfl, rfl, rfl, by decide⟩
instance : Und Try.prog 6 (TypeDesc.int IntKind.u8) := ⟨Try.underlying6⟩
instance : Size Try.prog 6 1 := ⟨_, info_of Try.type6, rfl⟩
instance : One Try.prog 6 := ⟨_, Try.underlying6, rfl⟩
instance : ZeroC Try.prog 6 ([Value.int IntKind.u8 0]) := ⟨_, _, info_of Try.type6, rfl, rfl⟩
instance : Elem Try.prog 6 1 1 := ⟨_, _, info_of Try.type6, rfl, rfl, rfl, rfl, by decide⟩
instance : Und Try.prog 7 (TypeDesc.struct #[{ name := "x", type := 2, offset := 0, embedded := false, tag := "", pkgPath := "runtime", byteOffset := 0 }, { name := "y", type := 3, offset := 1, embedded := false, tag := "", pkgPath := "runtime", byteOffset := 8 }, { name := "signed", type := 4, offset := 2, embedded := false, tag := "", pkgPath := "runtime", byteOffset := 16 }, { name := "code", type := 6, offset := 3, embedded := false, tag := "", pkgPath := "runtime", byteOffset := 17 }]) := ⟨Try.underlying7⟩
instance : Size Try.prog 7 4 := ⟨_, info_of Try.type7, rfl⟩
instance : Agg Try.prog 7 4 := ⟨_, _, Try.underlying7, rfl, info_of Try.type7, rfl⟩
instance : ZeroC Try.prog 7 ([Value.int IntKind.i64 0, Value.int IntKind.i64 0, Value.bool false, Value.int IntKind.u8 0]) := ⟨_, _, info_of Try.type7, rfl, rfl⟩
instance : Elem Try.prog 7 4 24 := ⟨_, _, info_of Try.type7, rfl, rfl, rfl, rfl, by decide⟩
instance : Struct Try.prog 7 [(0, 1), (1, 1), (2, 1), (3, 1)] ([Value.int IntKind.i64 0, Value.int IntKind.i64 0, Value.bool false, Value.int IntKind.u8 0]) := ⟨_, _, _, info_of Try.type7, Try.underlying7, rfl, by simp only [List.mapM_cons, List.mapM_nil, info_of Try.type2, info_of Try.type3, info_of Try.type4, info_of Try.type6]; rfl, rfl⟩
instance : Fld Try.prog 7 0 0 := ⟨_, _, _, Try.underlying7, rfl, rfl, info_of Try.type2, by decide⟩
instance : Fld Try.prog 7 1 1 := ⟨_, _, _, Try.underlying7, rfl, rfl, info_of Try.type3, by decide⟩
instance : Fld Try.prog 7 2 2 := ⟨_, _, _, Try.underlying7, rfl, rfl, info_of Try.type4, by decide⟩
instance : Fld Try.prog 7 3 3 := ⟨_, _, _, Try.underlying7, rfl, rfl, info_of Try.type6, by decide⟩
instance : Und Try.prog 8 (TypeDesc.struct #[{ name := "x", type := 2, offset := 0, embedded := false, tag := "", pkgPath := "runtime", byteOffset := 0 }, { name := "y", type := 3, offset := 1, embedded := false, tag := "", pkgPath := "runtime", byteOffset := 8 }, { name := "signed", type := 4, offset := 2, embedded := false, tag := "", pkgPath := "runtime", byteOffset := 16 }, { name := "code", type := 6, offset := 3, embedded := false, tag := "", pkgPath := "runtime", byteOffset := 17 }]) := ⟨Try.underlying8⟩
instance : Size Try.prog 8 4 := ⟨_, info_of Try.type8, rfl⟩
instance : Agg Try.prog 8 4 := ⟨_, _, Try.underlying8, rfl, info_of Try.type8, rfl⟩
instance : ZeroC Try.prog 8 ([Value.int IntKind.i64 0, Value.int IntKind.i64 0, Value.bool false, Value.int IntKind.u8 0]) := ⟨_, _, info_of Try.type8, rfl, rfl⟩
instance : Elem Try.prog 8 4 24 := ⟨_, _, info_of Try.type8, rfl, rfl, rfl, rfl, by decide⟩
instance : Struct Try.prog 8 [(0, 1), (1, 1), (2, 1), (3, 1)] ([Value.int IntKind.i64 0, Value.int IntKind.i64 0, Value.bool false, Value.int IntKind.u8 0]) := ⟨_, _, _, info_of Try.type8, Try.underlying8, rfl, by simp only [List.mapM_cons, List.mapM_nil, info_of Try.type2, info_of Try.type3, info_of Try.type4, info_of Try.type6]; rfl, rfl⟩
instance : Fld Try.prog 8 0 0 := ⟨_, _, _, Try.underlying8, rfl, rfl, info_of Try.type2, by decide⟩
instance : Fld Try.prog 8 1 1 := ⟨_, _, _, Try.underlying8, rfl, rfl, info_of Try.type3, by decide⟩
instance : Fld Try.prog 8 2 2 := ⟨_, _, _, Try.underlying8, rfl, rfl, info_of Try.type4, by decide⟩
instance : Fld Try.prog 8 3 3 := ⟨_, _, _, Try.underlying8, rfl, rfl, info_of Try.type6, by decide⟩
instance : Und Try.prog 9 (TypeDesc.string) := ⟨Try.underlying9⟩
instance : Size Try.prog 9 1 := ⟨_, info_of Try.type9, rfl⟩
instance : One Try.prog 9 := ⟨_, Try.underlying9, rfl⟩
instance : ZeroC Try.prog 9 ([Value.string { data := #[] }]) := ⟨_, _, info_of Try.type9, rfl, rfl⟩
instance : Elem Try.prog 9 1 16 := ⟨_, _, info_of Try.type9, rfl, rfl, rfl, rfl, by decide⟩
instance : Und Try.prog 10 (TypeDesc.string) := ⟨Try.underlying10⟩
instance : Size Try.prog 10 1 := ⟨_, info_of Try.type10, rfl⟩
instance : One Try.prog 10 := ⟨_, Try.underlying10, rfl⟩
instance : ZeroC Try.prog 10 ([Value.string { data := #[] }]) := ⟨_, _, info_of Try.type10, rfl, rfl⟩
instance : Elem Try.prog 10 1 16 := ⟨_, _, info_of Try.type10, rfl, rfl, rfl, rfl, by decide⟩
instance : Und Try.prog 11 (TypeDesc.string) := ⟨Try.underlying11⟩
instance : Size Try.prog 11 1 := ⟨_, info_of Try.type11, rfl⟩
instance : One Try.prog 11 := ⟨_, Try.underlying11, rfl⟩
instance : ZeroC Try.prog 11 ([Value.string { data := #[] }]) := ⟨_, _, info_of Try.type11, rfl, rfl⟩
instance : Elem Try.prog 11 1 16 := ⟨_, _, info_of Try.type11, rfl, rfl, rfl, rfl, by decide⟩
instance : Und Try.prog 12 (TypeDesc.int IntKind.u64) := ⟨Try.underlying12⟩
instance : Size Try.prog 12 1 := ⟨_, info_of Try.type12, rfl⟩
instance : One Try.prog 12 := ⟨_, Try.underlying12, rfl⟩
instance : ZeroC Try.prog 12 ([Value.int IntKind.u64 0]) := ⟨_, _, info_of Try.type12, rfl, rfl⟩
instance : Elem Try.prog 12 1 8 := ⟨_, _, info_of Try.type12, rfl, rfl, rfl, rfl, by decide⟩
instance : Und Try.prog 13 (TypeDesc.struct #[{ name := "msg", type := 9, offset := 0, embedded := false, tag := "", pkgPath := "runtime", byteOffset := 0 }, { name := "addr", type := 12, offset := 1, embedded := false, tag := "", pkgPath := "runtime", byteOffset := 16 }]) := ⟨Try.underlying13⟩
instance : Size Try.prog 13 2 := ⟨_, info_of Try.type13, rfl⟩
instance : Agg Try.prog 13 2 := ⟨_, _, Try.underlying13, rfl, info_of Try.type13, rfl⟩
instance : ZeroC Try.prog 13 ([Value.string { data := #[] }, Value.int IntKind.u64 0]) := ⟨_, _, info_of Try.type13, rfl, rfl⟩
instance : Elem Try.prog 13 2 24 := ⟨_, _, info_of Try.type13, rfl, rfl, rfl, rfl, by decide⟩
instance : Struct Try.prog 13 [(0, 1), (1, 1)] ([Value.string { data := #[] }, Value.int IntKind.u64 0]) := ⟨_, _, _, info_of Try.type13, Try.underlying13, rfl, by simp only [List.mapM_cons, List.mapM_nil, info_of Try.type12, info_of Try.type9]; rfl, rfl⟩
instance : Fld Try.prog 13 0 0 := ⟨_, _, _, Try.underlying13, rfl, rfl, info_of Try.type9, by decide⟩
instance : Fld Try.prog 13 1 1 := ⟨_, _, _, Try.underlying13, rfl, rfl, info_of Try.type12, by decide⟩
instance : Und Try.prog 14 (TypeDesc.struct #[{ name := "msg", type := 9, offset := 0, embedded := false, tag := "", pkgPath := "runtime", byteOffset := 0 }, { name := "addr", type := 12, offset := 1, embedded := false, tag := "", pkgPath := "runtime", byteOffset := 16 }]) := ⟨Try.underlying14⟩
instance : Size Try.prog 14 2 := ⟨_, info_of Try.type14, rfl⟩
instance : Agg Try.prog 14 2 := ⟨_, _, Try.underlying14, rfl, info_of Try.type14, rfl⟩
instance : ZeroC Try.prog 14 ([Value.string { data := #[] }, Value.int IntKind.u64 0]) := ⟨_, _, info_of Try.type14, rfl, rfl⟩
instance : Elem Try.prog 14 2 24 := ⟨_, _, info_of Try.type14, rfl, rfl, rfl, rfl, by decide⟩
instance : Struct Try.prog 14 [(0, 1), (1, 1)] ([Value.string { data := #[] }, Value.int IntKind.u64 0]) := ⟨_, _, _, info_of Try.type14, Try.underlying14, rfl, by simp only [List.mapM_cons, List.mapM_nil, info_of Try.type12, info_of Try.type9]; rfl, rfl⟩
instance : Fld Try.prog 14 0 0 := ⟨_, _, _, Try.underlying14, rfl, rfl, info_of Try.type9, by decide⟩
instance : Fld Try.prog 14 1 1 := ⟨_, _, _, Try.underlying14, rfl, rfl, info_of Try.type12, by decide⟩
instance : Und Try.prog 15 (TypeDesc.pointer 131) := ⟨Try.underlying15⟩
instance : Size Try.prog 15 1 := ⟨_, info_of Try.type15, rfl⟩
instance : One Try.prog 15 := ⟨_, Try.underlying15, rfl⟩
instance : ZeroC Try.prog 15 ([Value.pointer none]) := ⟨_, _, info_of Try.type15, rfl, rfl⟩
instance : Elem Try.prog 15 1 8 := ⟨_, _, info_of Try.type15, rfl, rfl, rfl, rfl, by decide⟩
instance : Und Try.prog 16 (TypeDesc.pointer 134) := ⟨Try.underlying16⟩
instance : Size Try.prog 16 1 := ⟨_, info_of Try.type16, rfl⟩
instance : One Try.prog 16 := ⟨_, Try.underlying16, rfl⟩
instance : ZeroC Try.prog 16 ([Value.pointer none]) := ⟨_, _, info_of Try.type16, rfl, rfl⟩
instance : Elem Try.prog 16 1 8 := ⟨_, _, info_of Try.type16, rfl, rfl, rfl, rfl, by decide⟩
instance : Und Try.prog 17 (TypeDesc.pointer 144) := ⟨Try.underlying17⟩
instance : Size Try.prog 17 1 := ⟨_, info_of Try.type17, rfl⟩
instance : One Try.prog 17 := ⟨_, Try.underlying17, rfl⟩
instance : ZeroC Try.prog 17 ([Value.pointer none]) := ⟨_, _, info_of Try.type17, rfl, rfl⟩
instance : Elem Try.prog 17 1 8 := ⟨_, _, info_of Try.type17, rfl, rfl, rfl, rfl, by decide⟩
instance : Und Try.prog 18 (TypeDesc.struct #[{ name := "typ", type := 17, offset := 0, embedded := false, tag := "", pkgPath := "internal/runtime/maps", byteOffset := 0 }]) := ⟨Try.underlying18⟩
instance : Size Try.prog 18 1 := ⟨_, info_of Try.type18, rfl⟩
instance : Agg Try.prog 18 1 := ⟨_, _, Try.underlying18, rfl, info_of Try.type18, rfl⟩
instance : ZeroC Try.prog 18 ([Value.pointer none]) := ⟨_, _, info_of Try.type18, rfl, rfl⟩
instance : Elem Try.prog 18 1 8 := ⟨_, _, info_of Try.type18, rfl, rfl, rfl, rfl, by decide⟩
instance : Struct Try.prog 18 [(0, 1)] ([Value.pointer none]) := ⟨_, _, _, info_of Try.type18, Try.underlying18, rfl, by simp only [List.mapM_cons, List.mapM_nil, info_of Try.type17]; rfl, rfl⟩
instance : Fld Try.prog 18 0 0 := ⟨_, _, _, Try.underlying18, rfl, rfl, info_of Try.type17, by decide⟩
instance : Und Try.prog 19 (TypeDesc.struct #[{ name := "typ", type := 17, offset := 0, embedded := false, tag := "", pkgPath := "internal/runtime/maps", byteOffset := 0 }]) := ⟨Try.underlying19⟩
instance : Size Try.prog 19 1 := ⟨_, info_of Try.type19, rfl⟩
instance : Agg Try.prog 19 1 := ⟨_, _, Try.underlying19, rfl, info_of Try.type19, rfl⟩
instance : ZeroC Try.prog 19 ([Value.pointer none]) := ⟨_, _, info_of Try.type19, rfl, rfl⟩
instance : Elem Try.prog 19 1 8 := ⟨_, _, info_of Try.type19, rfl, rfl, rfl, rfl, by decide⟩
instance : Struct Try.prog 19 [(0, 1)] ([Value.pointer none]) := ⟨_, _, _, info_of Try.type19, Try.underlying19, rfl, by simp only [List.mapM_cons, List.mapM_nil, info_of Try.type17]; rfl, rfl⟩
instance : Fld Try.prog 19 0 0 := ⟨_, _, _, Try.underlying19, rfl, rfl, info_of Try.type17, by decide⟩
instance : Und Try.prog 20 (TypeDesc.interface #[]) := ⟨Try.underlying20⟩
instance : Size Try.prog 20 1 := ⟨_, info_of Try.type20, rfl⟩
instance : One Try.prog 20 := ⟨_, Try.underlying20, rfl⟩
instance : ZeroC Try.prog 20 ([Value.nilIface]) := ⟨_, _, info_of Try.type20, rfl, rfl⟩
instance : Elem Try.prog 20 1 16 := ⟨_, _, info_of Try.type20, rfl, rfl, rfl, rfl, by decide⟩
instance : Und Try.prog 21 (TypeDesc.int IntKind.i32) := ⟨Try.underlying21⟩
instance : Size Try.prog 21 1 := ⟨_, info_of Try.type21, rfl⟩
instance : One Try.prog 21 := ⟨_, Try.underlying21, rfl⟩
instance : ZeroC Try.prog 21 ([Value.int IntKind.i32 0]) := ⟨_, _, info_of Try.type21, rfl, rfl⟩
instance : Elem Try.prog 21 1 4 := ⟨_, _, info_of Try.type21, rfl, rfl, rfl, rfl, by decide⟩
instance : Und Try.prog 22 (TypeDesc.slice 40) := ⟨Try.underlying22⟩
instance : Size Try.prog 22 1 := ⟨_, info_of Try.type22, rfl⟩
instance : One Try.prog 22 := ⟨_, Try.underlying22, rfl⟩
instance : ZeroC Try.prog 22 ([Value.slice none 0 0]) := ⟨_, _, info_of Try.type22, rfl, rfl⟩
instance : Elem Try.prog 22 1 24 := ⟨_, _, info_of Try.type22, rfl, rfl, rfl, rfl, by decide⟩
instance : Und Try.prog 23 (TypeDesc.func #[22] #[22] false) := ⟨Try.underlying23⟩
instance : Size Try.prog 23 1 := ⟨_, info_of Try.type23, rfl⟩
instance : One Try.prog 23 := ⟨_, Try.underlying23, rfl⟩
instance : ZeroC Try.prog 23 ([Value.nilFunc]) := ⟨_, _, info_of Try.type23, rfl, rfl⟩
instance : Elem Try.prog 23 1 8 := ⟨_, _, info_of Try.type23, rfl, rfl, rfl, rfl, by decide⟩
instance : Und Try.prog 24 (TypeDesc.int IntKind.i64) := ⟨Try.underlying24⟩
instance : Size Try.prog 24 1 := ⟨_, info_of Try.type24, rfl⟩
instance : One Try.prog 24 := ⟨_, Try.underlying24, rfl⟩
instance : ZeroC Try.prog 24 ([Value.int IntKind.i64 0]) := ⟨_, _, info_of Try.type24, rfl, rfl⟩
instance : Elem Try.prog 24 1 8 := ⟨_, _, info_of Try.type24, rfl, rfl, rfl, rfl, by decide⟩
instance : Und Try.prog 25 (TypeDesc.tuple #[3, 24]) := ⟨Try.underlying25⟩
instance : Size Try.prog 25 1 := ⟨_, info_of Try.type25, rfl⟩
instance : Und Try.prog 26 (TypeDesc.func #[22] #[3, 24] false) := ⟨Try.underlying26⟩
instance : Size Try.prog 26 1 := ⟨_, info_of Try.type26, rfl⟩
instance : One Try.prog 26 := ⟨_, Try.underlying26, rfl⟩
instance : ZeroC Try.prog 26 ([Value.nilFunc]) := ⟨_, _, info_of Try.type26, rfl, rfl⟩
instance : Elem Try.prog 26 1 8 := ⟨_, _, info_of Try.type26, rfl, rfl, rfl, rfl, by decide⟩
instance : Und Try.prog 27 (TypeDesc.slice 3) := ⟨Try.underlying27⟩
instance : Size Try.prog 27 1 := ⟨_, info_of Try.type27, rfl⟩
instance : One Try.prog 27 := ⟨_, Try.underlying27, rfl⟩
instance : ZeroC Try.prog 27 ([Value.slice none 0 0]) := ⟨_, _, info_of Try.type27, rfl, rfl⟩
instance : Elem Try.prog 27 1 24 := ⟨_, _, info_of Try.type27, rfl, rfl, rfl, rfl, by decide⟩
instance : Und Try.prog 28 (TypeDesc.tuple #[27, 24]) := ⟨Try.underlying28⟩
instance : Size Try.prog 28 1 := ⟨_, info_of Try.type28, rfl⟩
instance : Und Try.prog 29 (TypeDesc.func #[22, 3] #[27, 24] false) := ⟨Try.underlying29⟩
instance : Size Try.prog 29 1 := ⟨_, info_of Try.type29, rfl⟩
instance : One Try.prog 29 := ⟨_, Try.underlying29, rfl⟩
instance : ZeroC Try.prog 29 ([Value.nilFunc]) := ⟨_, _, info_of Try.type29, rfl, rfl⟩
instance : Elem Try.prog 29 1 8 := ⟨_, _, info_of Try.type29, rfl, rfl, rfl, rfl, by decide⟩
instance : Und Try.prog 30 (TypeDesc.tuple #[22, 24]) := ⟨Try.underlying30⟩
instance : Size Try.prog 30 1 := ⟨_, info_of Try.type30, rfl⟩
instance : Und Try.prog 31 (TypeDesc.func #[22, 3] #[22, 24] false) := ⟨Try.underlying31⟩
instance : Size Try.prog 31 1 := ⟨_, info_of Try.type31, rfl⟩
instance : One Try.prog 31 := ⟨_, Try.underlying31, rfl⟩
instance : ZeroC Try.prog 31 ([Value.nilFunc]) := ⟨_, _, info_of Try.type31, rfl, rfl⟩
instance : Elem Try.prog 31 1 8 := ⟨_, _, info_of Try.type31, rfl, rfl, rfl, rfl, by decide⟩
instance : Und Try.prog 32 (TypeDesc.func #[22] #[24] false) := ⟨Try.underlying32⟩
instance : Size Try.prog 32 1 := ⟨_, info_of Try.type32, rfl⟩
instance : One Try.prog 32 := ⟨_, Try.underlying32, rfl⟩
instance : ZeroC Try.prog 32 ([Value.nilFunc]) := ⟨_, _, info_of Try.type32, rfl, rfl⟩
instance : Elem Try.prog 32 1 8 := ⟨_, _, info_of Try.type32, rfl, rfl, rfl, rfl, by decide⟩
instance : Und Try.prog 33 (TypeDesc.func #[27, 27] #[4] false) := ⟨Try.underlying33⟩
instance : Size Try.prog 33 1 := ⟨_, info_of Try.type33, rfl⟩
instance : One Try.prog 33 := ⟨_, Try.underlying33, rfl⟩
instance : ZeroC Try.prog 33 ([Value.nilFunc]) := ⟨_, _, info_of Try.type33, rfl, rfl⟩
instance : Elem Try.prog 33 1 8 := ⟨_, _, info_of Try.type33, rfl, rfl, rfl, rfl, by decide⟩
instance : Und Try.prog 34 (TypeDesc.func #[22, 22] #[4] false) := ⟨Try.underlying34⟩
instance : Size Try.prog 34 1 := ⟨_, info_of Try.type34, rfl⟩
instance : One Try.prog 34 := ⟨_, Try.underlying34, rfl⟩
instance : ZeroC Try.prog 34 ([Value.nilFunc]) := ⟨_, _, info_of Try.type34, rfl, rfl⟩
instance : Elem Try.prog 34 1 8 := ⟨_, _, info_of Try.type34, rfl, rfl, rfl, rfl, by decide⟩
instance : Und Try.prog 35 (TypeDesc.struct #[{ name := "Kind", type := 5, offset := 0, embedded := false, tag := "", pkgPath := "", byteOffset := 0 }, { name := "Num", type := 2, offset := 1, embedded := false, tag := "", pkgPath := "", byteOffset := 8 }, { name := "Text", type := 9, offset := 2, embedded := false, tag := "", pkgPath := "", byteOffset := 16 }]) := ⟨Try.underlying35⟩
instance : Size Try.prog 35 3 := ⟨_, info_of Try.type35, rfl⟩
instance : Agg Try.prog 35 3 := ⟨_, _, Try.underlying35, rfl, info_of Try.type35, rfl⟩
instance : ZeroC Try.prog 35 ([Value.int IntKind.u8 0, Value.int IntKind.i64 0, Value.string { data := #[] }]) := ⟨_, _, info_of Try.type35, rfl, rfl⟩
instance : Elem Try.prog 35 3 32 := ⟨_, _, info_of Try.type35, rfl, rfl, rfl, rfl, by decide⟩
instance : Struct Try.prog 35 [(0, 1), (1, 1), (2, 1)] ([Value.int IntKind.u8 0, Value.int IntKind.i64 0, Value.string { data := #[] }]) := ⟨_, _, _, info_of Try.type35, Try.underlying35, rfl, by simp only [List.mapM_cons, List.mapM_nil, info_of Try.type2, info_of Try.type5, info_of Try.type9]; rfl, rfl⟩
instance : Fld Try.prog 35 0 0 := ⟨_, _, _, Try.underlying35, rfl, rfl, info_of Try.type5, by decide⟩
instance : Fld Try.prog 35 1 1 := ⟨_, _, _, Try.underlying35, rfl, rfl, info_of Try.type2, by decide⟩
instance : Fld Try.prog 35 2 2 := ⟨_, _, _, Try.underlying35, rfl, rfl, info_of Try.type9, by decide⟩
instance : Und Try.prog 36 (TypeDesc.struct #[{ name := "Kind", type := 5, offset := 0, embedded := false, tag := "", pkgPath := "", byteOffset := 0 }, { name := "Num", type := 2, offset := 1, embedded := false, tag := "", pkgPath := "", byteOffset := 8 }, { name := "Text", type := 9, offset := 2, embedded := false, tag := "", pkgPath := "", byteOffset := 16 }]) := ⟨Try.underlying36⟩
instance : Size Try.prog 36 3 := ⟨_, info_of Try.type36, rfl⟩
instance : Agg Try.prog 36 3 := ⟨_, _, Try.underlying36, rfl, info_of Try.type36, rfl⟩
instance : ZeroC Try.prog 36 ([Value.int IntKind.u8 0, Value.int IntKind.i64 0, Value.string { data := #[] }]) := ⟨_, _, info_of Try.type36, rfl, rfl⟩
instance : Elem Try.prog 36 3 32 := ⟨_, _, info_of Try.type36, rfl, rfl, rfl, rfl, by decide⟩
instance : Struct Try.prog 36 [(0, 1), (1, 1), (2, 1)] ([Value.int IntKind.u8 0, Value.int IntKind.i64 0, Value.string { data := #[] }]) := ⟨_, _, _, info_of Try.type36, Try.underlying36, rfl, by simp only [List.mapM_cons, List.mapM_nil, info_of Try.type2, info_of Try.type5, info_of Try.type9]; rfl, rfl⟩
instance : Fld Try.prog 36 0 0 := ⟨_, _, _, Try.underlying36, rfl, rfl, info_of Try.type5, by decide⟩
instance : Fld Try.prog 36 1 1 := ⟨_, _, _, Try.underlying36, rfl, rfl, info_of Try.type2, by decide⟩
instance : Fld Try.prog 36 2 2 := ⟨_, _, _, Try.underlying36, rfl, rfl, info_of Try.type9, by decide⟩
instance : Und Try.prog 37 (TypeDesc.struct #[{ name := "C1", type := 3, offset := 0, embedded := false, tag := "", pkgPath := "", byteOffset := 0 }, { name := "R1", type := 3, offset := 1, embedded := false, tag := "", pkgPath := "", byteOffset := 8 }, { name := "C2", type := 3, offset := 2, embedded := false, tag := "", pkgPath := "", byteOffset := 16 }, { name := "R2", type := 3, offset := 3, embedded := false, tag := "", pkgPath := "", byteOffset := 24 }]) := ⟨Try.underlying37⟩
instance : Size Try.prog 37 4 := ⟨_, info_of Try.type37, rfl⟩
instance : Agg Try.prog 37 4 := ⟨_, _, Try.underlying37, rfl, info_of Try.type37, rfl⟩
instance : ZeroC Try.prog 37 ([Value.int IntKind.i64 0, Value.int IntKind.i64 0, Value.int IntKind.i64 0, Value.int IntKind.i64 0]) := ⟨_, _, info_of Try.type37, rfl, rfl⟩
instance : Elem Try.prog 37 4 32 := ⟨_, _, info_of Try.type37, rfl, rfl, rfl, rfl, by decide⟩
instance : Struct Try.prog 37 [(0, 1), (1, 1), (2, 1), (3, 1)] ([Value.int IntKind.i64 0, Value.int IntKind.i64 0, Value.int IntKind.i64 0, Value.int IntKind.i64 0]) := ⟨_, _, _, info_of Try.type37, Try.underlying37, rfl, by simp only [List.mapM_cons, List.mapM_nil, info_of Try.type3]; rfl, rfl⟩
instance : Fld Try.prog 37 0 0 := ⟨_, _, _, Try.underlying37, rfl, rfl, info_of Try.type3, by decide⟩
instance : Fld Try.prog 37 1 1 := ⟨_, _, _, Try.underlying37, rfl, rfl, info_of Try.type3, by decide⟩
instance : Fld Try.prog 37 2 2 := ⟨_, _, _, Try.underlying37, rfl, rfl, info_of Try.type3, by decide⟩
instance : Fld Try.prog 37 3 3 := ⟨_, _, _, Try.underlying37, rfl, rfl, info_of Try.type3, by decide⟩
instance : Und Try.prog 38 (TypeDesc.struct #[{ name := "C1", type := 3, offset := 0, embedded := false, tag := "", pkgPath := "", byteOffset := 0 }, { name := "R1", type := 3, offset := 1, embedded := false, tag := "", pkgPath := "", byteOffset := 8 }, { name := "C2", type := 3, offset := 2, embedded := false, tag := "", pkgPath := "", byteOffset := 16 }, { name := "R2", type := 3, offset := 3, embedded := false, tag := "", pkgPath := "", byteOffset := 24 }]) := ⟨Try.underlying38⟩
instance : Size Try.prog 38 4 := ⟨_, info_of Try.type38, rfl⟩
instance : Agg Try.prog 38 4 := ⟨_, _, Try.underlying38, rfl, info_of Try.type38, rfl⟩
instance : ZeroC Try.prog 38 ([Value.int IntKind.i64 0, Value.int IntKind.i64 0, Value.int IntKind.i64 0, Value.int IntKind.i64 0]) := ⟨_, _, info_of Try.type38, rfl, rfl⟩
instance : Elem Try.prog 38 4 32 := ⟨_, _, info_of Try.type38, rfl, rfl, rfl, rfl, by decide⟩
instance : Struct Try.prog 38 [(0, 1), (1, 1), (2, 1), (3, 1)] ([Value.int IntKind.i64 0, Value.int IntKind.i64 0, Value.int IntKind.i64 0, Value.int IntKind.i64 0]) := ⟨_, _, _, info_of Try.type38, Try.underlying38, rfl, by simp only [List.mapM_cons, List.mapM_nil, info_of Try.type3]; rfl, rfl⟩
instance : Fld Try.prog 38 0 0 := ⟨_, _, _, Try.underlying38, rfl, rfl, info_of Try.type3, by decide⟩
instance : Fld Try.prog 38 1 1 := ⟨_, _, _, Try.underlying38, rfl, rfl, info_of Try.type3, by decide⟩
instance : Fld Try.prog 38 2 2 := ⟨_, _, _, Try.underlying38, rfl, rfl, info_of Try.type3, by decide⟩
instance : Fld Try.prog 38 3 3 := ⟨_, _, _, Try.underlying38, rfl, rfl, info_of Try.type3, by decide⟩
instance : Und Try.prog 39 (TypeDesc.struct #[{ name := "Kind", type := 5, offset := 0, embedded := false, tag := "", pkgPath := "", byteOffset := 0 }, { name := "V", type := 36, offset := 1, embedded := false, tag := "", pkgPath := "", byteOffset := 8 }, { name := "Rect", type := 38, offset := 4, embedded := false, tag := "", pkgPath := "", byteOffset := 40 }, { name := "Op", type := 2, offset := 8, embedded := false, tag := "", pkgPath := "", byteOffset := 72 }, { name := "Fn", type := 5, offset := 9, embedded := false, tag := "", pkgPath := "", byteOffset := 80 }, { name := "N", type := 3, offset := 10, embedded := false, tag := "", pkgPath := "", byteOffset := 88 }]) := ⟨Try.underlying39⟩
instance : Size Try.prog 39 11 := ⟨_, info_of Try.type39, rfl⟩
instance : Agg Try.prog 39 11 := ⟨_, _, Try.underlying39, rfl, info_of Try.type39, rfl⟩
instance : ZeroC Try.prog 39 ([Value.int IntKind.u8 0, Value.int IntKind.u8 0, Value.int IntKind.i64 0, Value.string { data := #[] }, Value.int IntKind.i64 0, Value.int IntKind.i64 0, Value.int IntKind.i64 0, Value.int IntKind.i64 0, Value.int IntKind.i64 0, Value.int IntKind.u8 0, Value.int IntKind.i64 0]) := ⟨_, _, info_of Try.type39, rfl, rfl⟩
instance : Elem Try.prog 39 11 96 := ⟨_, _, info_of Try.type39, rfl, rfl, rfl, rfl, by decide⟩
instance : Struct Try.prog 39 [(0, 1), (1, 3), (4, 4), (8, 1), (9, 1), (10, 1)] ([Value.int IntKind.u8 0, Value.int IntKind.u8 0, Value.int IntKind.i64 0, Value.string { data := #[] }, Value.int IntKind.i64 0, Value.int IntKind.i64 0, Value.int IntKind.i64 0, Value.int IntKind.i64 0, Value.int IntKind.i64 0, Value.int IntKind.u8 0, Value.int IntKind.i64 0]) := ⟨_, _, _, info_of Try.type39, Try.underlying39, rfl, by simp only [List.mapM_cons, List.mapM_nil, info_of Try.type2, info_of Try.type3, info_of Try.type36, info_of Try.type38, info_of Try.type5]; rfl, rfl⟩
instance : Fld Try.prog 39 0 0 := ⟨_, _, _, Try.underlying39, rfl, rfl, info_of Try.type5, by decide⟩
instance : Fld Try.prog 39 1 1 := ⟨_, _, _, Try.underlying39, rfl, rfl, info_of Try.type36, by decide⟩
instance : Fld Try.prog 39 2 4 := ⟨_, _, _, Try.underlying39, rfl, rfl, info_of Try.type38, by decide⟩
instance : Fld Try.prog 39 3 8 := ⟨_, _, _, Try.underlying39, rfl, rfl, info_of Try.type2, by decide⟩
instance : Fld Try.prog 39 4 9 := ⟨_, _, _, Try.underlying39, rfl, rfl, info_of Try.type5, by decide⟩
instance : Fld Try.prog 39 5 10 := ⟨_, _, _, Try.underlying39, rfl, rfl, info_of Try.type3, by decide⟩
instance : Und Try.prog 40 (TypeDesc.struct #[{ name := "Kind", type := 5, offset := 0, embedded := false, tag := "", pkgPath := "", byteOffset := 0 }, { name := "V", type := 36, offset := 1, embedded := false, tag := "", pkgPath := "", byteOffset := 8 }, { name := "Rect", type := 38, offset := 4, embedded := false, tag := "", pkgPath := "", byteOffset := 40 }, { name := "Op", type := 2, offset := 8, embedded := false, tag := "", pkgPath := "", byteOffset := 72 }, { name := "Fn", type := 5, offset := 9, embedded := false, tag := "", pkgPath := "", byteOffset := 80 }, { name := "N", type := 3, offset := 10, embedded := false, tag := "", pkgPath := "", byteOffset := 88 }]) := ⟨Try.underlying40⟩
instance : Size Try.prog 40 11 := ⟨_, info_of Try.type40, rfl⟩
instance : Agg Try.prog 40 11 := ⟨_, _, Try.underlying40, rfl, info_of Try.type40, rfl⟩
instance : ZeroC Try.prog 40 ([Value.int IntKind.u8 0, Value.int IntKind.u8 0, Value.int IntKind.i64 0, Value.string { data := #[] }, Value.int IntKind.i64 0, Value.int IntKind.i64 0, Value.int IntKind.i64 0, Value.int IntKind.i64 0, Value.int IntKind.i64 0, Value.int IntKind.u8 0, Value.int IntKind.i64 0]) := ⟨_, _, info_of Try.type40, rfl, rfl⟩
instance : Elem Try.prog 40 11 96 := ⟨_, _, info_of Try.type40, rfl, rfl, rfl, rfl, by decide⟩
instance : Struct Try.prog 40 [(0, 1), (1, 3), (4, 4), (8, 1), (9, 1), (10, 1)] ([Value.int IntKind.u8 0, Value.int IntKind.u8 0, Value.int IntKind.i64 0, Value.string { data := #[] }, Value.int IntKind.i64 0, Value.int IntKind.i64 0, Value.int IntKind.i64 0, Value.int IntKind.i64 0, Value.int IntKind.i64 0, Value.int IntKind.u8 0, Value.int IntKind.i64 0]) := ⟨_, _, _, info_of Try.type40, Try.underlying40, rfl, by simp only [List.mapM_cons, List.mapM_nil, info_of Try.type2, info_of Try.type3, info_of Try.type36, info_of Try.type38, info_of Try.type5]; rfl, rfl⟩
instance : Fld Try.prog 40 0 0 := ⟨_, _, _, Try.underlying40, rfl, rfl, info_of Try.type5, by decide⟩
instance : Fld Try.prog 40 1 1 := ⟨_, _, _, Try.underlying40, rfl, rfl, info_of Try.type36, by decide⟩
instance : Fld Try.prog 40 2 4 := ⟨_, _, _, Try.underlying40, rfl, rfl, info_of Try.type38, by decide⟩
instance : Fld Try.prog 40 3 8 := ⟨_, _, _, Try.underlying40, rfl, rfl, info_of Try.type2, by decide⟩
instance : Fld Try.prog 40 4 9 := ⟨_, _, _, Try.underlying40, rfl, rfl, info_of Try.type5, by decide⟩
instance : Fld Try.prog 40 5 10 := ⟨_, _, _, Try.underlying40, rfl, rfl, info_of Try.type3, by decide⟩
instance : Und Try.prog 41 (TypeDesc.func #[] #[4] false) := ⟨Try.underlying41⟩
instance : Size Try.prog 41 1 := ⟨_, info_of Try.type41, rfl⟩
instance : One Try.prog 41 := ⟨_, Try.underlying41, rfl⟩
instance : ZeroC Try.prog 41 ([Value.nilFunc]) := ⟨_, _, info_of Try.type41, rfl, rfl⟩
instance : Elem Try.prog 41 1 8 := ⟨_, _, info_of Try.type41, rfl, rfl, rfl, rfl, by decide⟩
instance : Und Try.prog 42 (TypeDesc.func #[22, 3] #[4] false) := ⟨Try.underlying42⟩
instance : Size Try.prog 42 1 := ⟨_, info_of Try.type42, rfl⟩
instance : One Try.prog 42 := ⟨_, Try.underlying42, rfl⟩
instance : ZeroC Try.prog 42 ([Value.nilFunc]) := ⟨_, _, info_of Try.type42, rfl, rfl⟩
instance : Elem Try.prog 42 1 8 := ⟨_, _, info_of Try.type42, rfl, rfl, rfl, rfl, by decide⟩
instance : Und Try.prog 43 (TypeDesc.slice 22) := ⟨Try.underlying43⟩
instance : Size Try.prog 43 1 := ⟨_, info_of Try.type43, rfl⟩
instance : One Try.prog 43 := ⟨_, Try.underlying43, rfl⟩
instance : ZeroC Try.prog 43 ([Value.slice none 0 0]) := ⟨_, _, info_of Try.type43, rfl, rfl⟩
instance : Elem Try.prog 43 1 24 := ⟨_, _, info_of Try.type43, rfl, rfl, rfl, rfl, by decide⟩
instance : Und Try.prog 44 (TypeDesc.func #[40, 43] #[22, 24] true) := ⟨Try.underlying44⟩
instance : Size Try.prog 44 1 := ⟨_, info_of Try.type44, rfl⟩
instance : One Try.prog 44 := ⟨_, Try.underlying44, rfl⟩
instance : ZeroC Try.prog 44 ([Value.nilFunc]) := ⟨_, _, info_of Try.type44, rfl, rfl⟩
instance : Elem Try.prog 44 1 8 := ⟨_, _, info_of Try.type44, rfl, rfl, rfl, rfl, by decide⟩
instance : Und Try.prog 45 (TypeDesc.func #[40, 43] #[22, 24] false) := ⟨Try.underlying45⟩
instance : Size Try.prog 45 1 := ⟨_, info_of Try.type45, rfl⟩
instance : One Try.prog 45 := ⟨_, Try.underlying45, rfl⟩
instance : ZeroC Try.prog 45 ([Value.nilFunc]) := ⟨_, _, info_of Try.type45, rfl, rfl⟩
instance : Elem Try.prog 45 1 8 := ⟨_, _, info_of Try.type45, rfl, rfl, rfl, rfl, by decide⟩
instance : Und Try.prog 46 (TypeDesc.func #[40, 43] #[4] false) := ⟨Try.underlying46⟩
instance : Size Try.prog 46 1 := ⟨_, info_of Try.type46, rfl⟩
instance : One Try.prog 46 := ⟨_, Try.underlying46, rfl⟩
instance : ZeroC Try.prog 46 ([Value.nilFunc]) := ⟨_, _, info_of Try.type46, rfl, rfl⟩
instance : Elem Try.prog 46 1 8 := ⟨_, _, info_of Try.type46, rfl, rfl, rfl, rfl, by decide⟩
instance : Und Try.prog 47 (TypeDesc.func #[22] #[4] false) := ⟨Try.underlying47⟩
instance : Size Try.prog 47 1 := ⟨_, info_of Try.type47, rfl⟩
instance : One Try.prog 47 := ⟨_, Try.underlying47, rfl⟩
instance : ZeroC Try.prog 47 ([Value.nilFunc]) := ⟨_, _, info_of Try.type47, rfl, rfl⟩
instance : Elem Try.prog 47 1 8 := ⟨_, _, info_of Try.type47, rfl, rfl, rfl, rfl, by decide⟩
instance : Und Try.prog 48 (TypeDesc.tuple #[9, 24]) := ⟨Try.underlying48⟩
instance : Size Try.prog 48 1 := ⟨_, info_of Try.type48, rfl⟩
instance : Und Try.prog 49 (TypeDesc.func #[5] #[9, 24] false) := ⟨Try.underlying49⟩
instance : Size Try.prog 49 1 := ⟨_, info_of Try.type49, rfl⟩
instance : One Try.prog 49 := ⟨_, Try.underlying49, rfl⟩
instance : ZeroC Try.prog 49 ([Value.nilFunc]) := ⟨_, _, info_of Try.type49, rfl, rfl⟩
instance : Elem Try.prog 49 1 8 := ⟨_, _, info_of Try.type49, rfl, rfl, rfl, rfl, by decide⟩
instance : Und Try.prog 50 (TypeDesc.tuple #[3, 3, 24]) := ⟨Try.underlying50⟩
instance : Size Try.prog 50 1 := ⟨_, info_of Try.type50, rfl⟩
instance : Und Try.prog 51 (TypeDesc.func #[5] #[3, 3, 24] false) := ⟨Try.underlying51⟩
instance : Size Try.prog 51 1 := ⟨_, info_of Try.type51, rfl⟩
instance : One Try.prog 51 := ⟨_, Try.underlying51, rfl⟩
instance : ZeroC Try.prog 51 ([Value.nilFunc]) := ⟨_, _, info_of Try.type51, rfl, rfl⟩
instance : Elem Try.prog 51 1 8 := ⟨_, _, info_of Try.type51, rfl, rfl, rfl, rfl, by decide⟩
instance : Und Try.prog 52 (TypeDesc.tuple #[4, 24]) := ⟨Try.underlying52⟩
instance : Size Try.prog 52 1 := ⟨_, info_of Try.type52, rfl⟩
instance : Und Try.prog 53 (TypeDesc.func #[5, 3] #[4, 24] false) := ⟨Try.underlying53⟩
instance : Size Try.prog 53 1 := ⟨_, info_of Try.type53, rfl⟩
instance : One Try.prog 53 := ⟨_, Try.underlying53, rfl⟩
instance : ZeroC Try.prog 53 ([Value.nilFunc]) := ⟨_, _, info_of Try.type53, rfl, rfl⟩
instance : Elem Try.prog 53 1 8 := ⟨_, _, info_of Try.type53, rfl, rfl, rfl, rfl, by decide⟩
instance : Und Try.prog 54 (TypeDesc.tuple #[5, 24]) := ⟨Try.underlying54⟩
instance : Size Try.prog 54 1 := ⟨_, info_of Try.type54, rfl⟩
instance : Und Try.prog 55 (TypeDesc.func #[9] #[5, 24] false) := ⟨Try.underlying55⟩
instance : Size Try.prog 55 1 := ⟨_, info_of Try.type55, rfl⟩
instance : One Try.prog 55 := ⟨_, Try.underlying55, rfl⟩
instance : ZeroC Try.prog 55 ([Value.nilFunc]) := ⟨_, _, info_of Try.type55, rfl, rfl⟩
instance : Elem Try.prog 55 1 8 := ⟨_, _, info_of Try.type55, rfl, rfl, rfl, rfl, by decide⟩
instance : Und Try.prog 56 (TypeDesc.func #[5] #[9] false) := ⟨Try.underlying56⟩
instance : Size Try.prog 56 1 := ⟨_, info_of Try.type56, rfl⟩
instance : One Try.prog 56 := ⟨_, Try.underlying56, rfl⟩
instance : ZeroC Try.prog 56 ([Value.nilFunc]) := ⟨_, _, info_of Try.type56, rfl, rfl⟩
instance : Elem Try.prog 56 1 8 := ⟨_, _, info_of Try.type56, rfl, rfl, rfl, rfl, by decide⟩
instance : Und Try.prog 57 (TypeDesc.tuple #[3, 3]) := ⟨Try.underlying57⟩
instance : Size Try.prog 57 1 := ⟨_, info_of Try.type57, rfl⟩
instance : Und Try.prog 58 (TypeDesc.func #[5] #[3, 3] false) := ⟨Try.underlying58⟩
instance : Size Try.prog 58 1 := ⟨_, info_of Try.type58, rfl⟩
instance : One Try.prog 58 := ⟨_, Try.underlying58, rfl⟩
instance : ZeroC Try.prog 58 ([Value.nilFunc]) := ⟨_, _, info_of Try.type58, rfl, rfl⟩
instance : Elem Try.prog 58 1 8 := ⟨_, _, info_of Try.type58, rfl, rfl, rfl, rfl, by decide⟩
instance : Und Try.prog 59 (TypeDesc.func #[5, 3] #[4] false) := ⟨Try.underlying59⟩
instance : Size Try.prog 59 1 := ⟨_, info_of Try.type59, rfl⟩
instance : One Try.prog 59 := ⟨_, Try.underlying59, rfl⟩
instance : ZeroC Try.prog 59 ([Value.nilFunc]) := ⟨_, _, info_of Try.type59, rfl, rfl⟩
instance : Elem Try.prog 59 1 8 := ⟨_, _, info_of Try.type59, rfl, rfl, rfl, rfl, by decide⟩
instance : Und Try.prog 60 (TypeDesc.func #[5, 3, 9] #[4] false) := ⟨Try.underlying60⟩
instance : Size Try.prog 60 1 := ⟨_, info_of Try.type60, rfl⟩
instance : One Try.prog 60 := ⟨_, Try.underlying60, rfl⟩
instance : ZeroC Try.prog 60 ([Value.nilFunc]) := ⟨_, _, info_of Try.type60, rfl, rfl⟩
instance : Elem Try.prog 60 1 8 := ⟨_, _, info_of Try.type60, rfl, rfl, rfl, rfl, by decide⟩
instance : Und Try.prog 61 (TypeDesc.func #[5] #[4] false) := ⟨Try.underlying61⟩
instance : Size Try.prog 61 1 := ⟨_, info_of Try.type61, rfl⟩
instance : One Try.prog 61 := ⟨_, Try.underlying61, rfl⟩
instance : ZeroC Try.prog 61 ([Value.nilFunc]) := ⟨_, _, info_of Try.type61, rfl, rfl⟩
instance : Elem Try.prog 61 1 8 := ⟨_, _, info_of Try.type61, rfl, rfl, rfl, rfl, by decide⟩
instance : Und Try.prog 62 (TypeDesc.slice 68) := ⟨Try.underlying62⟩
instance : Size Try.prog 62 1 := ⟨_, info_of Try.type62, rfl⟩
instance : One Try.prog 62 := ⟨_, Try.underlying62, rfl⟩
instance : ZeroC Try.prog 62 ([Value.slice none 0 0]) := ⟨_, _, info_of Try.type62, rfl, rfl⟩
instance : Elem Try.prog 62 1 24 := ⟨_, _, info_of Try.type62, rfl, rfl, rfl, rfl, by decide⟩
instance : Und Try.prog 63 (TypeDesc.tuple #[62, 24]) := ⟨Try.underlying63⟩
instance : Size Try.prog 63 1 := ⟨_, info_of Try.type63, rfl⟩
instance : Und Try.prog 64 (TypeDesc.func #[22] #[62, 24] false) := ⟨Try.underlying64⟩
instance : Size Try.prog 64 1 := ⟨_, info_of Try.type64, rfl⟩
instance : One Try.prog 64 := ⟨_, Try.underlying64, rfl⟩
instance : ZeroC Try.prog 64 ([Value.nilFunc]) := ⟨_, _, info_of Try.type64, rfl, rfl⟩
instance : Elem Try.prog 64 1 8 := ⟨_, _, info_of Try.type64, rfl, rfl, rfl, rfl, by decide⟩
instance : Und Try.prog 65 (TypeDesc.func #[22, 38] #[4, 24] false) := ⟨Try.underlying65⟩
instance : Size Try.prog 65 1 := ⟨_, info_of Try.type65, rfl⟩
instance : One Try.prog 65 := ⟨_, Try.underlying65, rfl⟩
instance : ZeroC Try.prog 65 ([Value.nilFunc]) := ⟨_, _, info_of Try.type65, rfl, rfl⟩
instance : Elem Try.prog 65 1 8 := ⟨_, _, info_of Try.type65, rfl, rfl, rfl, rfl, by decide⟩
instance : Und Try.prog 66 (TypeDesc.func #[62, 62] #[4] false) := ⟨Try.underlying66⟩
instance : Size Try.prog 66 1 := ⟨_, info_of Try.type66, rfl⟩
instance : One Try.prog 66 := ⟨_, Try.underlying66, rfl⟩
instance : ZeroC Try.prog 66 ([Value.nilFunc]) := ⟨_, _, info_of Try.type66, rfl, rfl⟩
instance : Elem Try.prog 66 1 8 := ⟨_, _, info_of Try.type66, rfl, rfl, rfl, rfl, by decide⟩
instance : Und Try.prog 67 (TypeDesc.struct #[{ name := "Rect", type := 38, offset := 0, embedded := false, tag := "", pkgPath := "", byteOffset := 0 }, { name := "Node", type := 3, offset := 4, embedded := false, tag := "", pkgPath := "", byteOffset := 32 }, { name := "Fn", type := 5, offset := 5, embedded := false, tag := "", pkgPath := "", byteOffset := 40 }]) := ⟨Try.underlying67⟩
instance : Size Try.prog 67 6 := ⟨_, info_of Try.type67, rfl⟩
instance : Agg Try.prog 67 6 := ⟨_, _, Try.underlying67, rfl, info_of Try.type67, rfl⟩
instance : ZeroC Try.prog 67 ([Value.int IntKind.i64 0, Value.int IntKind.i64 0, Value.int IntKind.i64 0, Value.int IntKind.i64 0, Value.int IntKind.i64 0, Value.int IntKind.u8 0]) := ⟨_, _, info_of Try.type67, rfl, rfl⟩
instance : Elem Try.prog 67 6 48 := ⟨_, _, info_of Try.type67, rfl, rfl, rfl, rfl, by decide⟩
instance : Struct Try.prog 67 [(0, 4), (4, 1), (5, 1)] ([Value.int IntKind.i64 0, Value.int IntKind.i64 0, Value.int IntKind.i64 0, Value.int IntKind.i64 0, Value.int IntKind.i64 0, Value.int IntKind.u8 0]) := ⟨_, _, _, info_of Try.type67, Try.underlying67, rfl, by simp only [List.mapM_cons, List.mapM_nil, info_of Try.type3, info_of Try.type38, info_of Try.type5]; rfl, rfl⟩
instance : Fld Try.prog 67 0 0 := ⟨_, _, _, Try.underlying67, rfl, rfl, info_of Try.type38, by decide⟩
instance : Fld Try.prog 67 1 4 := ⟨_, _, _, Try.underlying67, rfl, rfl, info_of Try.type3, by decide⟩
instance : Fld Try.prog 67 2 5 := ⟨_, _, _, Try.underlying67, rfl, rfl, info_of Try.type5, by decide⟩
instance : Und Try.prog 68 (TypeDesc.struct #[{ name := "Rect", type := 38, offset := 0, embedded := false, tag := "", pkgPath := "", byteOffset := 0 }, { name := "Node", type := 3, offset := 4, embedded := false, tag := "", pkgPath := "", byteOffset := 32 }, { name := "Fn", type := 5, offset := 5, embedded := false, tag := "", pkgPath := "", byteOffset := 40 }]) := ⟨Try.underlying68⟩
instance : Size Try.prog 68 6 := ⟨_, info_of Try.type68, rfl⟩
instance : Agg Try.prog 68 6 := ⟨_, _, Try.underlying68, rfl, info_of Try.type68, rfl⟩
instance : ZeroC Try.prog 68 ([Value.int IntKind.i64 0, Value.int IntKind.i64 0, Value.int IntKind.i64 0, Value.int IntKind.i64 0, Value.int IntKind.i64 0, Value.int IntKind.u8 0]) := ⟨_, _, info_of Try.type68, rfl, rfl⟩
instance : Elem Try.prog 68 6 48 := ⟨_, _, info_of Try.type68, rfl, rfl, rfl, rfl, by decide⟩
instance : Struct Try.prog 68 [(0, 4), (4, 1), (5, 1)] ([Value.int IntKind.i64 0, Value.int IntKind.i64 0, Value.int IntKind.i64 0, Value.int IntKind.i64 0, Value.int IntKind.i64 0, Value.int IntKind.u8 0]) := ⟨_, _, _, info_of Try.type68, Try.underlying68, rfl, by simp only [List.mapM_cons, List.mapM_nil, info_of Try.type3, info_of Try.type38, info_of Try.type5]; rfl, rfl⟩
instance : Fld Try.prog 68 0 0 := ⟨_, _, _, Try.underlying68, rfl, rfl, info_of Try.type38, by decide⟩
instance : Fld Try.prog 68 1 4 := ⟨_, _, _, Try.underlying68, rfl, rfl, info_of Try.type3, by decide⟩
instance : Fld Try.prog 68 2 5 := ⟨_, _, _, Try.underlying68, rfl, rfl, info_of Try.type5, by decide⟩
instance : Und Try.prog 69 (TypeDesc.func #[22, 38] #[4] false) := ⟨Try.underlying69⟩
instance : Size Try.prog 69 1 := ⟨_, info_of Try.type69, rfl⟩
instance : One Try.prog 69 := ⟨_, Try.underlying69, rfl⟩
instance : ZeroC Try.prog 69 ([Value.nilFunc]) := ⟨_, _, info_of Try.type69, rfl, rfl⟩
instance : Elem Try.prog 69 1 8 := ⟨_, _, info_of Try.type69, rfl, rfl, rfl, rfl, by decide⟩
instance : Und Try.prog 70 (TypeDesc.func #[22, 3, 3] #[22, 24] false) := ⟨Try.underlying70⟩
instance : Size Try.prog 70 1 := ⟨_, info_of Try.type70, rfl⟩
instance : One Try.prog 70 := ⟨_, Try.underlying70, rfl⟩
instance : ZeroC Try.prog 70 ([Value.nilFunc]) := ⟨_, _, info_of Try.type70, rfl, rfl⟩
instance : Elem Try.prog 70 1 8 := ⟨_, _, info_of Try.type70, rfl, rfl, rfl, rfl, by decide⟩
instance : Und Try.prog 71 (TypeDesc.func #[22, 3, 3] #[4] false) := ⟨Try.underlying71⟩
instance : Size Try.prog 71 1 := ⟨_, info_of Try.type71, rfl⟩
instance : One Try.prog 71 := ⟨_, Try.underlying71, rfl⟩
instance : ZeroC Try.prog 71 ([Value.nilFunc]) := ⟨_, _, info_of Try.type71, rfl, rfl⟩
instance : Elem Try.prog 71 1 8 := ⟨_, _, info_of Try.type71, rfl, rfl, rfl, rfl, by decide⟩
instance : Und Try.prog 72 (TypeDesc.array 2 40) := ⟨Try.underlying72⟩
instance : Size Try.prog 72 22 := ⟨_, info_of Try.type72, rfl⟩
instance : Agg Try.prog 72 22 := ⟨_, _, Try.underlying72, rfl, info_of Try.type72, rfl⟩
instance : ZeroC Try.prog 72 ([Value.int IntKind.u8 0, Value.int IntKind.u8 0, Value.int IntKind.i64 0, Value.string { data := #[] }, Value.int IntKind.i64 0, Value.int IntKind.i64 0, Value.int IntKind.i64 0, Value.int IntKind.i64 0, Value.int IntKind.i64 0, Value.int IntKind.u8 0, Value.int IntKind.i64 0, Value.int IntKind.u8 0, Value.int IntKind.u8 0, Value.int IntKind.i64 0, Value.string { data := #[] }, Value.int IntKind.i64 0, Value.int IntKind.i64 0, Value.int IntKind.i64 0, Value.int IntKind.i64 0, Value.int IntKind.i64 0, Value.int IntKind.u8 0, Value.int IntKind.i64 0]) := ⟨_, _, info_of Try.type72, rfl, rfl⟩
instance : Elem Try.prog 72 22 192 := ⟨_, _, info_of Try.type72, rfl, rfl, rfl, rfl, by decide⟩
instance : Und Try.prog 73 (TypeDesc.array 2 3) := ⟨Try.underlying73⟩
instance : Size Try.prog 73 2 := ⟨_, info_of Try.type73, rfl⟩
instance : Agg Try.prog 73 2 := ⟨_, _, Try.underlying73, rfl, info_of Try.type73, rfl⟩
instance : ZeroC Try.prog 73 ([Value.int IntKind.i64 0, Value.int IntKind.i64 0]) := ⟨_, _, info_of Try.type73, rfl, rfl⟩
instance : Elem Try.prog 73 2 16 := ⟨_, _, info_of Try.type73, rfl, rfl, rfl, rfl, by decide⟩
instance : Und Try.prog 74 (TypeDesc.func #[22, 73, 73] #[4] false) := ⟨Try.underlying74⟩
instance : Size Try.prog 74 1 := ⟨_, info_of Try.type74, rfl⟩
instance : One Try.prog 74 := ⟨_, Try.underlying74, rfl⟩
instance : ZeroC Try.prog 74 ([Value.nilFunc]) := ⟨_, _, info_of Try.type74, rfl, rfl⟩
instance : Elem Try.prog 74 1 8 := ⟨_, _, info_of Try.type74, rfl, rfl, rfl, rfl, by decide⟩
instance : Und Try.prog 75 (TypeDesc.func #[38] #[24] false) := ⟨Try.underlying75⟩
instance : Size Try.prog 75 1 := ⟨_, info_of Try.type75, rfl⟩
instance : One Try.prog 75 := ⟨_, Try.underlying75, rfl⟩
instance : ZeroC Try.prog 75 ([Value.nilFunc]) := ⟨_, _, info_of Try.type75, rfl, rfl⟩
instance : Elem Try.prog 75 1 8 := ⟨_, _, info_of Try.type75, rfl, rfl, rfl, rfl, by decide⟩
instance : Und Try.prog 76 (TypeDesc.tuple #[38, 4]) := ⟨Try.underlying76⟩
instance : Size Try.prog 76 1 := ⟨_, info_of Try.type76, rfl⟩
instance : Und Try.prog 77 (TypeDesc.func #[38, 38] #[38, 4] false) := ⟨Try.underlying77⟩
instance : Size Try.prog 77 1 := ⟨_, info_of Try.type77, rfl⟩
instance : One Try.prog 77 := ⟨_, Try.underlying77, rfl⟩
instance : ZeroC Try.prog 77 ([Value.nilFunc]) := ⟨_, _, info_of Try.type77, rfl, rfl⟩
instance : Elem Try.prog 77 1 8 := ⟨_, _, info_of Try.type77, rfl, rfl, rfl, rfl, by decide⟩
instance : Und Try.prog 78 (TypeDesc.func #[22, 38, 3] #[4] false) := ⟨Try.underlying78⟩
instance : Size Try.prog 78 1 := ⟨_, info_of Try.type78, rfl⟩
instance : One Try.prog 78 := ⟨_, Try.underlying78, rfl⟩
instance : ZeroC Try.prog 78 ([Value.nilFunc]) := ⟨_, _, info_of Try.type78, rfl, rfl⟩
instance : Elem Try.prog 78 1 8 := ⟨_, _, info_of Try.type78, rfl, rfl, rfl, rfl, by decide⟩
instance : Und Try.prog 79 (TypeDesc.func #[22] #[22] true) := ⟨Try.underlying79⟩
instance : Size Try.prog 79 1 := ⟨_, info_of Try.type79, rfl⟩
instance : One Try.prog 79 := ⟨_, Try.underlying79, rfl⟩
instance : ZeroC Try.prog 79 ([Value.nilFunc]) := ⟨_, _, info_of Try.type79, rfl, rfl⟩
instance : Elem Try.prog 79 1 8 := ⟨_, _, info_of Try.type79, rfl, rfl, rfl, rfl, by decide⟩
instance : Und Try.prog 80 (TypeDesc.array 5 40) := ⟨Try.underlying80⟩
instance : Size Try.prog 80 55 := ⟨_, info_of Try.type80, rfl⟩
instance : Agg Try.prog 80 55 := ⟨_, _, Try.underlying80, rfl, info_of Try.type80, rfl⟩
instance : ZeroC Try.prog 80 ([Value.int IntKind.u8 0, Value.int IntKind.u8 0, Value.int IntKind.i64 0, Value.string { data := #[] }, Value.int IntKind.i64 0, Value.int IntKind.i64 0, Value.int IntKind.i64 0, Value.int IntKind.i64 0, Value.int IntKind.i64 0, Value.int IntKind.u8 0, Value.int IntKind.i64 0, Value.int IntKind.u8 0, Value.int IntKind.u8 0, Value.int IntKind.i64 0, Value.string { data := #[] }, Value.int IntKind.i64 0, Value.int IntKind.i64 0, Value.int IntKind.i64 0, Value.int IntKind.i64 0, Value.int IntKind.i64 0, Value.int IntKind.u8 0, Value.int IntKind.i64 0, Value.int IntKind.u8 0, Value.int IntKind.u8 0, Value.int IntKind.i64 0, Value.string { data := #[] }, Value.int IntKind.i64 0, Value.int IntKind.i64 0, Value.int IntKind.i64 0, Value.int IntKind.i64 0, Value.int IntKind.i64 0, Value.int IntKind.u8 0, Value.int IntKind.i64 0, Value.int IntKind.u8 0, Value.int IntKind.u8 0, Value.int IntKind.i64 0, Value.string { data := #[] }, Value.int IntKind.i64 0, Value.int IntKind.i64 0, Value.int IntKind.i64 0, Value.int IntKind.i64 0, Value.int IntKind.i64 0, Value.int IntKind.u8 0, Value.int IntKind.i64 0, Value.int IntKind.u8 0, Value.int IntKind.u8 0, Value.int IntKind.i64 0, Value.string { data := #[] }, Value.int IntKind.i64 0, Value.int IntKind.i64 0, Value.int IntKind.i64 0, Value.int IntKind.i64 0, Value.int IntKind.i64 0, Value.int IntKind.u8 0, Value.int IntKind.i64 0]) := ⟨_, _, info_of Try.type80, rfl, rfl⟩
instance : Elem Try.prog 80 55 480 := ⟨_, _, info_of Try.type80, rfl, rfl, rfl, rfl, by decide⟩
instance : Und Try.prog 81 (TypeDesc.array 3 40) := ⟨Try.underlying81⟩
instance : Size Try.prog 81 33 := ⟨_, info_of Try.type81, rfl⟩
instance : Agg Try.prog 81 33 := ⟨_, _, Try.underlying81, rfl, info_of Try.type81, rfl⟩
instance : ZeroC Try.prog 81 ([Value.int IntKind.u8 0, Value.int IntKind.u8 0, Value.int IntKind.i64 0, Value.string { data := #[] }, Value.int IntKind.i64 0, Value.int IntKind.i64 0, Value.int IntKind.i64 0, Value.int IntKind.i64 0, Value.int IntKind.i64 0, Value.int IntKind.u8 0, Value.int IntKind.i64 0, Value.int IntKind.u8 0, Value.int IntKind.u8 0, Value.int IntKind.i64 0, Value.string { data := #[] }, Value.int IntKind.i64 0, Value.int IntKind.i64 0, Value.int IntKind.i64 0, Value.int IntKind.i64 0, Value.int IntKind.i64 0, Value.int IntKind.u8 0, Value.int IntKind.i64 0, Value.int IntKind.u8 0, Value.int IntKind.u8 0, Value.int IntKind.i64 0, Value.string { data := #[] }, Value.int IntKind.i64 0, Value.int IntKind.i64 0, Value.int IntKind.i64 0, Value.int IntKind.i64 0, Value.int IntKind.i64 0, Value.int IntKind.u8 0, Value.int IntKind.i64 0]) := ⟨_, _, info_of Try.type81, rfl, rfl⟩
instance : Elem Try.prog 81 33 288 := ⟨_, _, info_of Try.type81, rfl, rfl, rfl, rfl, by decide⟩
instance : Und Try.prog 82 (TypeDesc.func #[22, 4, 83] #[24] false) := ⟨Try.underlying82⟩
instance : Size Try.prog 82 1 := ⟨_, info_of Try.type82, rfl⟩
instance : One Try.prog 82 := ⟨_, Try.underlying82, rfl⟩
instance : ZeroC Try.prog 82 ([Value.nilFunc]) := ⟨_, _, info_of Try.type82, rfl, rfl⟩
instance : Elem Try.prog 82 1 8 := ⟨_, _, info_of Try.type82, rfl, rfl, rfl, rfl, by decide⟩
instance : Und Try.prog 83 (TypeDesc.func #[3, 27, 3] #[] false) := ⟨Try.underlying83⟩
instance : Size Try.prog 83 1 := ⟨_, info_of Try.type83, rfl⟩
instance : One Try.prog 83 := ⟨_, Try.underlying83, rfl⟩
instance : ZeroC Try.prog 83 ([Value.nilFunc]) := ⟨_, _, info_of Try.type83, rfl, rfl⟩
instance : Elem Try.prog 83 1 8 := ⟨_, _, info_of Try.type83, rfl, rfl, rfl, rfl, by decide⟩
instance : Und Try.prog 84 (TypeDesc.slice 88) := ⟨Try.underlying84⟩
instance : Size Try.prog 84 1 := ⟨_, info_of Try.type84, rfl⟩
instance : One Try.prog 84 := ⟨_, Try.underlying84, rfl⟩
instance : ZeroC Try.prog 84 ([Value.slice none 0 0]) := ⟨_, _, info_of Try.type84, rfl, rfl⟩
instance : Elem Try.prog 84 1 24 := ⟨_, _, info_of Try.type84, rfl, rfl, rfl, rfl, by decide⟩
instance : Und Try.prog 85 (TypeDesc.tuple #[84, 24]) := ⟨Try.underlying85⟩
instance : Size Try.prog 85 1 := ⟨_, info_of Try.type85, rfl⟩
instance : Und Try.prog 86 (TypeDesc.func #[22] #[84, 24] false) := ⟨Try.underlying86⟩
instance : Size Try.prog 86 1 := ⟨_, info_of Try.type86, rfl⟩
instance : One Try.prog 86 := ⟨_, Try.underlying86, rfl⟩
instance : ZeroC Try.prog 86 ([Value.nilFunc]) := ⟨_, _, info_of Try.type86, rfl, rfl⟩
instance : Elem Try.prog 86 1 8 := ⟨_, _, info_of Try.type86, rfl, rfl, rfl, rfl, by decide⟩
instance : Und Try.prog 87 (TypeDesc.struct #[{ name := "Root", type := 3, offset := 0, embedded := false, tag := "", pkgPath := "", byteOffset := 0 }, { name := "Depth", type := 3, offset := 1, embedded := false, tag := "", pkgPath := "", byteOffset := 8 }]) := ⟨Try.underlying87⟩
instance : Size Try.prog 87 2 := ⟨_, info_of Try.type87, rfl⟩
instance : Agg Try.prog 87 2 := ⟨_, _, Try.underlying87, rfl, info_of Try.type87, rfl⟩
instance : ZeroC Try.prog 87 ([Value.int IntKind.i64 0, Value.int IntKind.i64 0]) := ⟨_, _, info_of Try.type87, rfl, rfl⟩
instance : Elem Try.prog 87 2 16 := ⟨_, _, info_of Try.type87, rfl, rfl, rfl, rfl, by decide⟩
instance : Struct Try.prog 87 [(0, 1), (1, 1)] ([Value.int IntKind.i64 0, Value.int IntKind.i64 0]) := ⟨_, _, _, info_of Try.type87, Try.underlying87, rfl, by simp only [List.mapM_cons, List.mapM_nil, info_of Try.type3]; rfl, rfl⟩
instance : Fld Try.prog 87 0 0 := ⟨_, _, _, Try.underlying87, rfl, rfl, info_of Try.type3, by decide⟩
instance : Fld Try.prog 87 1 1 := ⟨_, _, _, Try.underlying87, rfl, rfl, info_of Try.type3, by decide⟩
instance : Und Try.prog 88 (TypeDesc.struct #[{ name := "Root", type := 3, offset := 0, embedded := false, tag := "", pkgPath := "", byteOffset := 0 }, { name := "Depth", type := 3, offset := 1, embedded := false, tag := "", pkgPath := "", byteOffset := 8 }]) := ⟨Try.underlying88⟩
instance : Size Try.prog 88 2 := ⟨_, info_of Try.type88, rfl⟩
instance : Agg Try.prog 88 2 := ⟨_, _, Try.underlying88, rfl, info_of Try.type88, rfl⟩
instance : ZeroC Try.prog 88 ([Value.int IntKind.i64 0, Value.int IntKind.i64 0]) := ⟨_, _, info_of Try.type88, rfl, rfl⟩
instance : Elem Try.prog 88 2 16 := ⟨_, _, info_of Try.type88, rfl, rfl, rfl, rfl, by decide⟩
instance : Struct Try.prog 88 [(0, 1), (1, 1)] ([Value.int IntKind.i64 0, Value.int IntKind.i64 0]) := ⟨_, _, _, info_of Try.type88, Try.underlying88, rfl, by simp only [List.mapM_cons, List.mapM_nil, info_of Try.type3]; rfl, rfl⟩
instance : Fld Try.prog 88 0 0 := ⟨_, _, _, Try.underlying88, rfl, rfl, info_of Try.type3, by decide⟩
instance : Fld Try.prog 88 1 1 := ⟨_, _, _, Try.underlying88, rfl, rfl, info_of Try.type3, by decide⟩
instance : Und Try.prog 89 (TypeDesc.func #[27, 3] #[27] false) := ⟨Try.underlying89⟩
instance : Size Try.prog 89 1 := ⟨_, info_of Try.type89, rfl⟩
instance : One Try.prog 89 := ⟨_, Try.underlying89, rfl⟩
instance : ZeroC Try.prog 89 ([Value.nilFunc]) := ⟨_, _, info_of Try.type89, rfl, rfl⟩
instance : Elem Try.prog 89 1 8 := ⟨_, _, info_of Try.type89, rfl, rfl, rfl, rfl, by decide⟩
instance : Und Try.prog 90 (TypeDesc.func #[22] #[27] false) := ⟨Try.underlying90⟩
instance : Size Try.prog 90 1 := ⟨_, info_of Try.type90, rfl⟩
instance : One Try.prog 90 := ⟨_, Try.underlying90, rfl⟩
instance : ZeroC Try.prog 90 ([Value.nilFunc]) := ⟨_, _, info_of Try.type90, rfl, rfl⟩
instance : Elem Try.prog 90 1 8 := ⟨_, _, info_of Try.type90, rfl, rfl, rfl, rfl, by decide⟩
instance : Und Try.prog 91 (TypeDesc.func #[40] #[4] false) := ⟨Try.underlying91⟩
instance : Size Try.prog 91 1 := ⟨_, info_of Try.type91, rfl⟩
instance : One Try.prog 91 := ⟨_, Try.underlying91, rfl⟩
instance : ZeroC Try.prog 91 ([Value.nilFunc]) := ⟨_, _, info_of Try.type91, rfl, rfl⟩
instance : Elem Try.prog 91 1 8 := ⟨_, _, info_of Try.type91, rfl, rfl, rfl, rfl, by decide⟩
instance : Und Try.prog 92 (TypeDesc.array 50 9) := ⟨Try.underlying92⟩
instance : Size Try.prog 92 50 := ⟨_, info_of Try.type92, rfl⟩
instance : Agg Try.prog 92 50 := ⟨_, _, Try.underlying92, rfl, info_of Try.type92, rfl⟩
instance : ZeroC Try.prog 92 ([Value.string { data := #[] }, Value.string { data := #[] }, Value.string { data := #[] }, Value.string { data := #[] }, Value.string { data := #[] }, Value.string { data := #[] }, Value.string { data := #[] }, Value.string { data := #[] }, Value.string { data := #[] }, Value.string { data := #[] }, Value.string { data := #[] }, Value.string { data := #[] }, Value.string { data := #[] }, Value.string { data := #[] }, Value.string { data := #[] }, Value.string { data := #[] }, Value.string { data := #[] }, Value.string { data := #[] }, Value.string { data := #[] }, Value.string { data := #[] }, Value.string { data := #[] }, Value.string { data := #[] }, Value.string { data := #[] }, Value.string { data := #[] }, Value.string { data := #[] }, Value.string { data := #[] }, Value.string { data := #[] }, Value.string { data := #[] }, Value.string { data := #[] }, Value.string { data := #[] }, Value.string { data := #[] }, Value.string { data := #[] }, Value.string { data := #[] }, Value.string { data := #[] }, Value.string { data := #[] }, Value.string { data := #[] }, Value.string { data := #[] }, Value.string { data := #[] }, Value.string { data := #[] }, Value.string { data := #[] }, Value.string { data := #[] }, Value.string { data := #[] }, Value.string { data := #[] }, Value.string { data := #[] }, Value.string { data := #[] }, Value.string { data := #[] }, Value.string { data := #[] }, Value.string { data := #[] }, Value.string { data := #[] }, Value.string { data := #[] }]) := ⟨_, _, info_of Try.type92, rfl, rfl⟩
instance : Elem Try.prog 92 50 800 := ⟨_, _, info_of Try.type92, rfl, rfl, rfl, rfl, by decide⟩
instance : Und Try.prog 93 (TypeDesc.func #[] #[92] false) := ⟨Try.underlying93⟩
instance : Size Try.prog 93 1 := ⟨_, info_of Try.type93, rfl⟩
instance : One Try.prog 93 := ⟨_, Try.underlying93, rfl⟩
instance : ZeroC Try.prog 93 ([Value.nilFunc]) := ⟨_, _, info_of Try.type93, rfl, rfl⟩
instance : Elem Try.prog 93 1 8 := ⟨_, _, info_of Try.type93, rfl, rfl, rfl, rfl, by decide⟩
instance : Und Try.prog 94 (TypeDesc.func #[95, 9] #[3] false) := ⟨Try.underlying94⟩
instance : Size Try.prog 94 1 := ⟨_, info_of Try.type94, rfl⟩
instance : One Try.prog 94 := ⟨_, Try.underlying94, rfl⟩
instance : ZeroC Try.prog 94 ([Value.nilFunc]) := ⟨_, _, info_of Try.type94, rfl, rfl⟩
instance : Elem Try.prog 94 1 8 := ⟨_, _, info_of Try.type94, rfl, rfl, rfl, rfl, by decide⟩
instance : Und Try.prog 95 (TypeDesc.slice 9) := ⟨Try.underlying95⟩
instance : Size Try.prog 95 1 := ⟨_, info_of Try.type95, rfl⟩
instance : One Try.prog 95 := ⟨_, Try.underlying95, rfl⟩
instance : ZeroC Try.prog 95 ([Value.slice none 0 0]) := ⟨_, _, info_of Try.type95, rfl, rfl⟩
instance : Elem Try.prog 95 1 24 := ⟨_, _, info_of Try.type95, rfl, rfl, rfl, rfl, by decide⟩
instance : Und Try.prog 96 (TypeDesc.func #[110] #[] false) := ⟨Try.underlying96⟩
instance : Size Try.prog 96 1 := ⟨_, info_of Try.type96, rfl⟩
instance : One Try.prog 96 := ⟨_, Try.underlying96, rfl⟩
instance : ZeroC Try.prog 96 ([Value.nilFunc]) := ⟨_, _, info_of Try.type96, rfl, rfl⟩
instance : Elem Try.prog 96 1 8 := ⟨_, _, info_of Try.type96, rfl, rfl, rfl, rfl, by decide⟩
instance : Und Try.prog 97 (TypeDesc.func #[22] #[96] false) := ⟨Try.underlying97⟩
instance : Size Try.prog 97 1 := ⟨_, info_of Try.type97, rfl⟩
instance : One Try.prog 97 := ⟨_, Try.underlying97, rfl⟩
instance : ZeroC Try.prog 97 ([Value.nilFunc]) := ⟨_, _, info_of Try.type97, rfl, rfl⟩
instance : Elem Try.prog 97 1 8 := ⟨_, _, info_of Try.type97, rfl, rfl, rfl, rfl, by decide⟩
instance : Und Try.prog 98 (TypeDesc.func #[3, 3] #[4] false) := ⟨Try.underlying98⟩
instance : Size Try.prog 98 1 := ⟨_, info_of Try.type98, rfl⟩
instance : One Try.prog 98 := ⟨_, Try.underlying98, rfl⟩
instance : ZeroC Try.prog 98 ([Value.nilFunc]) := ⟨_, _, info_of Try.type98, rfl, rfl⟩
instance : Elem Try.prog 98 1 8 := ⟨_, _, info_of Try.type98, rfl, rfl, rfl, rfl, by decide⟩
instance : Und Try.prog 99 (TypeDesc.struct #[{ name := "Col", type := 3, offset := 0, embedded := false, tag := "", pkgPath := "", byteOffset := 0 }, { name := "Row", type := 3, offset := 1, embedded := false, tag := "", pkgPath := "", byteOffset := 8 }]) := ⟨Try.underlying99⟩
instance : Size Try.prog 99 2 := ⟨_, info_of Try.type99, rfl⟩
instance : Agg Try.prog 99 2 := ⟨_, _, Try.underlying99, rfl, info_of Try.type99, rfl⟩
instance : ZeroC Try.prog 99 ([Value.int IntKind.i64 0, Value.int IntKind.i64 0]) := ⟨_, _, info_of Try.type99, rfl, rfl⟩
instance : Elem Try.prog 99 2 16 := ⟨_, _, info_of Try.type99, rfl, rfl, rfl, rfl, by decide⟩
instance : Struct Try.prog 99 [(0, 1), (1, 1)] ([Value.int IntKind.i64 0, Value.int IntKind.i64 0]) := ⟨_, _, _, info_of Try.type99, Try.underlying99, rfl, by simp only [List.mapM_cons, List.mapM_nil, info_of Try.type3]; rfl, rfl⟩
instance : Fld Try.prog 99 0 0 := ⟨_, _, _, Try.underlying99, rfl, rfl, info_of Try.type3, by decide⟩
instance : Fld Try.prog 99 1 1 := ⟨_, _, _, Try.underlying99, rfl, rfl, info_of Try.type3, by decide⟩
instance : Und Try.prog 100 (TypeDesc.struct #[{ name := "Col", type := 3, offset := 0, embedded := false, tag := "", pkgPath := "", byteOffset := 0 }, { name := "Row", type := 3, offset := 1, embedded := false, tag := "", pkgPath := "", byteOffset := 8 }]) := ⟨Try.underlying100⟩
instance : Size Try.prog 100 2 := ⟨_, info_of Try.type100, rfl⟩
instance : Agg Try.prog 100 2 := ⟨_, _, Try.underlying100, rfl, info_of Try.type100, rfl⟩
instance : ZeroC Try.prog 100 ([Value.int IntKind.i64 0, Value.int IntKind.i64 0]) := ⟨_, _, info_of Try.type100, rfl, rfl⟩
instance : Elem Try.prog 100 2 16 := ⟨_, _, info_of Try.type100, rfl, rfl, rfl, rfl, by decide⟩
instance : Struct Try.prog 100 [(0, 1), (1, 1)] ([Value.int IntKind.i64 0, Value.int IntKind.i64 0]) := ⟨_, _, _, info_of Try.type100, Try.underlying100, rfl, by simp only [List.mapM_cons, List.mapM_nil, info_of Try.type3]; rfl, rfl⟩
instance : Fld Try.prog 100 0 0 := ⟨_, _, _, Try.underlying100, rfl, rfl, info_of Try.type3, by decide⟩
instance : Fld Try.prog 100 1 1 := ⟨_, _, _, Try.underlying100, rfl, rfl, info_of Try.type3, by decide⟩
instance : Und Try.prog 101 (TypeDesc.tuple #[100, 100]) := ⟨Try.underlying101⟩
instance : Size Try.prog 101 1 := ⟨_, info_of Try.type101, rfl⟩
instance : Und Try.prog 102 (TypeDesc.func #[38] #[100, 100] false) := ⟨Try.underlying102⟩
instance : Size Try.prog 102 1 := ⟨_, info_of Try.type102, rfl⟩
instance : One Try.prog 102 := ⟨_, Try.underlying102, rfl⟩
instance : ZeroC Try.prog 102 ([Value.nilFunc]) := ⟨_, _, info_of Try.type102, rfl, rfl⟩
instance : Elem Try.prog 102 1 8 := ⟨_, _, info_of Try.type102, rfl, rfl, rfl, rfl, by decide⟩
instance : Und Try.prog 103 (TypeDesc.func #[100] #[4] false) := ⟨Try.underlying103⟩
instance : Size Try.prog 103 1 := ⟨_, info_of Try.type103, rfl⟩
instance : One Try.prog 103 := ⟨_, Try.underlying103, rfl⟩
instance : ZeroC Try.prog 103 ([Value.nilFunc]) := ⟨_, _, info_of Try.type103, rfl, rfl⟩
instance : Elem Try.prog 103 1 8 := ⟨_, _, info_of Try.type103, rfl, rfl, rfl, rfl, by decide⟩
instance : Und Try.prog 104 (TypeDesc.func #[112] #[4] true) := ⟨Try.underlying104⟩
instance : Size Try.prog 104 1 := ⟨_, info_of Try.type104, rfl⟩
instance : One Try.prog 104 := ⟨_, Try.underlying104, rfl⟩
instance : ZeroC Try.prog 104 ([Value.nilFunc]) := ⟨_, _, info_of Try.type104, rfl, rfl⟩
instance : Elem Try.prog 104 1 8 := ⟨_, _, info_of Try.type104, rfl, rfl, rfl, rfl, by decide⟩
instance : Und Try.prog 105 (TypeDesc.func #[22, 83] #[24] false) := ⟨Try.underlying105⟩
instance : Size Try.prog 105 1 := ⟨_, info_of Try.type105, rfl⟩
instance : One Try.prog 105 := ⟨_, Try.underlying105, rfl⟩
instance : ZeroC Try.prog 105 ([Value.nilFunc]) := ⟨_, _, info_of Try.type105, rfl, rfl⟩
instance : Elem Try.prog 105 1 8 := ⟨_, _, info_of Try.type105, rfl, rfl, rfl, rfl, by decide⟩
instance : Und Try.prog 106 (TypeDesc.func #[22, 3, 84] #[84, 24] false) := ⟨Try.underlying106⟩
instance : Size Try.prog 106 1 := ⟨_, info_of Try.type106, rfl⟩
instance : One Try.prog 106 := ⟨_, Try.underlying106, rfl⟩
instance : ZeroC Try.prog 106 ([Value.nilFunc]) := ⟨_, _, info_of Try.type106, rfl, rfl⟩
instance : Elem Try.prog 106 1 8 := ⟨_, _, info_of Try.type106, rfl, rfl, rfl, rfl, by decide⟩
instance : Und Try.prog 107 (TypeDesc.func #[40] #[3] false) := ⟨Try.underlying107⟩
instance : Size Try.prog 107 1 := ⟨_, info_of Try.type107, rfl⟩
instance : One Try.prog 107 := ⟨_, Try.underlying107, rfl⟩
instance : ZeroC Try.prog 107 ([Value.nilFunc]) := ⟨_, _, info_of Try.type107, rfl, rfl⟩
instance : Elem Try.prog 107 1 8 := ⟨_, _, info_of Try.type107, rfl, rfl, rfl, rfl, by decide⟩
instance : Und Try.prog 108 (TypeDesc.func #[36] #[4] false) := ⟨Try.underlying108⟩
instance : Size Try.prog 108 1 := ⟨_, info_of Try.type108, rfl⟩
instance : One Try.prog 108 := ⟨_, Try.underlying108, rfl⟩
instance : ZeroC Try.prog 108 ([Value.nilFunc]) := ⟨_, _, info_of Try.type108, rfl, rfl⟩
instance : Elem Try.prog 108 1 8 := ⟨_, _, info_of Try.type108, rfl, rfl, rfl, rfl, by decide⟩
instance : Und Try.prog 109 (TypeDesc.func #[38] #[4] false) := ⟨Try.underlying109⟩
instance : Size Try.prog 109 1 := ⟨_, info_of Try.type109, rfl⟩
instance : One Try.prog 109 := ⟨_, Try.underlying109, rfl⟩
instance : ZeroC Try.prog 109 ([Value.nilFunc]) := ⟨_, _, info_of Try.type109, rfl, rfl⟩
instance : Elem Try.prog 109 1 8 := ⟨_, _, info_of Try.type109, rfl, rfl, rfl, rfl, by decide⟩
instance : Und Try.prog 110 (TypeDesc.func #[68] #[4] false) := ⟨Try.underlying110⟩
instance : Size Try.prog 110 1 := ⟨_, info_of Try.type110, rfl⟩
instance : One Try.prog 110 := ⟨_, Try.underlying110, rfl⟩
instance : ZeroC Try.prog 110 ([Value.nilFunc]) := ⟨_, _, info_of Try.type110, rfl, rfl⟩
instance : Elem Try.prog 110 1 8 := ⟨_, _, info_of Try.type110, rfl, rfl, rfl, rfl, by decide⟩
instance : Und Try.prog 111 (TypeDesc.func #[38] #[100] false) := ⟨Try.underlying111⟩
instance : Size Try.prog 111 1 := ⟨_, info_of Try.type111, rfl⟩
instance : One Try.prog 111 := ⟨_, Try.underlying111, rfl⟩
instance : ZeroC Try.prog 111 ([Value.nilFunc]) := ⟨_, _, info_of Try.type111, rfl, rfl⟩
instance : Elem Try.prog 111 1 8 := ⟨_, _, info_of Try.type111, rfl, rfl, rfl, rfl, by decide⟩
instance : Und Try.prog 112 (TypeDesc.slice 38) := ⟨Try.underlying112⟩
instance : Size Try.prog 112 1 := ⟨_, info_of Try.type112, rfl⟩
instance : One Try.prog 112 := ⟨_, Try.underlying112, rfl⟩
instance : ZeroC Try.prog 112 ([Value.slice none 0 0]) := ⟨_, _, info_of Try.type112, rfl, rfl⟩
instance : Elem Try.prog 112 1 24 := ⟨_, _, info_of Try.type112, rfl, rfl, rfl, rfl, by decide⟩
instance : Und Try.prog 113 (TypeDesc.slice 117) := ⟨Try.underlying113⟩
instance : Size Try.prog 113 1 := ⟨_, info_of Try.type113, rfl⟩
instance : One Try.prog 113 := ⟨_, Try.underlying113, rfl⟩
instance : ZeroC Try.prog 113 ([Value.slice none 0 0]) := ⟨_, _, info_of Try.type113, rfl, rfl⟩
instance : Elem Try.prog 113 1 24 := ⟨_, _, info_of Try.type113, rfl, rfl, rfl, rfl, by decide⟩
instance : Und Try.prog 114 (TypeDesc.func #[40] #[24] false) := ⟨Try.underlying114⟩
instance : Size Try.prog 114 1 := ⟨_, info_of Try.type114, rfl⟩
instance : One Try.prog 114 := ⟨_, Try.underlying114, rfl⟩
instance : ZeroC Try.prog 114 ([Value.nilFunc]) := ⟨_, _, info_of Try.type114, rfl, rfl⟩
instance : Elem Try.prog 114 1 8 := ⟨_, _, info_of Try.type114, rfl, rfl, rfl, rfl, by decide⟩
instance : Und Try.prog 115 (TypeDesc.func #[22, 40, 113] #[4] false) := ⟨Try.underlying115⟩
instance : Size Try.prog 115 1 := ⟨_, info_of Try.type115, rfl⟩
instance : One Try.prog 115 := ⟨_, Try.underlying115, rfl⟩
instance : ZeroC Try.prog 115 ([Value.nilFunc]) := ⟨_, _, info_of Try.type115, rfl, rfl⟩
instance : Elem Try.prog 115 1 8 := ⟨_, _, info_of Try.type115, rfl, rfl, rfl, rfl, by decide⟩
instance : Und Try.prog 116 (TypeDesc.struct #[{ name := "root", type := 3, offset := 0, embedded := false, tag := "", pkgPath := "louvre/tree", byteOffset := 0 }, { name := "depth", type := 3, offset := 1, embedded := false, tag := "", pkgPath := "louvre/tree", byteOffset := 8 }, { name := "wide", type := 4, offset := 2, embedded := false, tag := "", pkgPath := "louvre/tree", byteOffset := 16 }]) := ⟨Try.underlying116⟩
instance : Size Try.prog 116 3 := ⟨_, info_of Try.type116, rfl⟩
instance : Agg Try.prog 116 3 := ⟨_, _, Try.underlying116, rfl, info_of Try.type116, rfl⟩
instance : ZeroC Try.prog 116 ([Value.int IntKind.i64 0, Value.int IntKind.i64 0, Value.bool false]) := ⟨_, _, info_of Try.type116, rfl, rfl⟩
instance : Elem Try.prog 116 3 24 := ⟨_, _, info_of Try.type116, rfl, rfl, rfl, rfl, by decide⟩
instance : Struct Try.prog 116 [(0, 1), (1, 1), (2, 1)] ([Value.int IntKind.i64 0, Value.int IntKind.i64 0, Value.bool false]) := ⟨_, _, _, info_of Try.type116, Try.underlying116, rfl, by simp only [List.mapM_cons, List.mapM_nil, info_of Try.type3, info_of Try.type4]; rfl, rfl⟩
instance : Fld Try.prog 116 0 0 := ⟨_, _, _, Try.underlying116, rfl, rfl, info_of Try.type3, by decide⟩
instance : Fld Try.prog 116 1 1 := ⟨_, _, _, Try.underlying116, rfl, rfl, info_of Try.type3, by decide⟩
instance : Fld Try.prog 116 2 2 := ⟨_, _, _, Try.underlying116, rfl, rfl, info_of Try.type4, by decide⟩
instance : Und Try.prog 117 (TypeDesc.struct #[{ name := "root", type := 3, offset := 0, embedded := false, tag := "", pkgPath := "louvre/tree", byteOffset := 0 }, { name := "depth", type := 3, offset := 1, embedded := false, tag := "", pkgPath := "louvre/tree", byteOffset := 8 }, { name := "wide", type := 4, offset := 2, embedded := false, tag := "", pkgPath := "louvre/tree", byteOffset := 16 }]) := ⟨Try.underlying117⟩
instance : Size Try.prog 117 3 := ⟨_, info_of Try.type117, rfl⟩
instance : Agg Try.prog 117 3 := ⟨_, _, Try.underlying117, rfl, info_of Try.type117, rfl⟩
instance : ZeroC Try.prog 117 ([Value.int IntKind.i64 0, Value.int IntKind.i64 0, Value.bool false]) := ⟨_, _, info_of Try.type117, rfl, rfl⟩
instance : Elem Try.prog 117 3 24 := ⟨_, _, info_of Try.type117, rfl, rfl, rfl, rfl, by decide⟩
instance : Struct Try.prog 117 [(0, 1), (1, 1), (2, 1)] ([Value.int IntKind.i64 0, Value.int IntKind.i64 0, Value.bool false]) := ⟨_, _, _, info_of Try.type117, Try.underlying117, rfl, by simp only [List.mapM_cons, List.mapM_nil, info_of Try.type3, info_of Try.type4]; rfl, rfl⟩
instance : Fld Try.prog 117 0 0 := ⟨_, _, _, Try.underlying117, rfl, rfl, info_of Try.type3, by decide⟩
instance : Fld Try.prog 117 1 1 := ⟨_, _, _, Try.underlying117, rfl, rfl, info_of Try.type3, by decide⟩
instance : Fld Try.prog 117 2 2 := ⟨_, _, _, Try.underlying117, rfl, rfl, info_of Try.type4, by decide⟩
instance : Und Try.prog 118 (TypeDesc.func #[40, 3, 40] #[4] false) := ⟨Try.underlying118⟩
instance : Size Try.prog 118 1 := ⟨_, info_of Try.type118, rfl⟩
instance : One Try.prog 118 := ⟨_, Try.underlying118, rfl⟩
instance : ZeroC Try.prog 118 ([Value.nilFunc]) := ⟨_, _, info_of Try.type118, rfl, rfl⟩
instance : Elem Try.prog 118 1 8 := ⟨_, _, info_of Try.type118, rfl, rfl, rfl, rfl, by decide⟩
instance : Und Try.prog 119 (TypeDesc.func #[36] #[24] false) := ⟨Try.underlying119⟩
instance : Size Try.prog 119 1 := ⟨_, info_of Try.type119, rfl⟩
instance : One Try.prog 119 := ⟨_, Try.underlying119, rfl⟩
instance : ZeroC Try.prog 119 ([Value.nilFunc]) := ⟨_, _, info_of Try.type119, rfl, rfl⟩
instance : Elem Try.prog 119 1 8 := ⟨_, _, info_of Try.type119, rfl, rfl, rfl, rfl, by decide⟩
instance : Und Try.prog 120 (TypeDesc.func #[9] #[24] false) := ⟨Try.underlying120⟩
instance : Size Try.prog 120 1 := ⟨_, info_of Try.type120, rfl⟩
instance : One Try.prog 120 := ⟨_, Try.underlying120, rfl⟩
instance : ZeroC Try.prog 120 ([Value.nilFunc]) := ⟨_, _, info_of Try.type120, rfl, rfl⟩
instance : Elem Try.prog 120 1 8 := ⟨_, _, info_of Try.type120, rfl, rfl, rfl, rfl, by decide⟩
instance : Und Try.prog 121 (TypeDesc.int IntKind.u64) := ⟨Try.underlying121⟩
instance : Size Try.prog 121 1 := ⟨_, info_of Try.type121, rfl⟩
instance : One Try.prog 121 := ⟨_, Try.underlying121, rfl⟩
instance : ZeroC Try.prog 121 ([Value.int IntKind.u64 0]) := ⟨_, _, info_of Try.type121, rfl, rfl⟩
instance : Elem Try.prog 121 1 8 := ⟨_, _, info_of Try.type121, rfl, rfl, rfl, rfl, by decide⟩
instance : Und Try.prog 122 (TypeDesc.func #[9] #[4] false) := ⟨Try.underlying122⟩
instance : Size Try.prog 122 1 := ⟨_, info_of Try.type122, rfl⟩
instance : One Try.prog 122 := ⟨_, Try.underlying122, rfl⟩
instance : ZeroC Try.prog 122 ([Value.nilFunc]) := ⟨_, _, info_of Try.type122, rfl, rfl⟩
instance : Elem Try.prog 122 1 8 := ⟨_, _, info_of Try.type122, rfl, rfl, rfl, rfl, by decide⟩
instance : Und Try.prog 123 (TypeDesc.func #[9, 127] #[3] false) := ⟨Try.underlying123⟩
instance : Size Try.prog 123 1 := ⟨_, info_of Try.type123, rfl⟩
instance : One Try.prog 123 := ⟨_, Try.underlying123, rfl⟩
instance : ZeroC Try.prog 123 ([Value.nilFunc]) := ⟨_, _, info_of Try.type123, rfl, rfl⟩
instance : Elem Try.prog 123 1 8 := ⟨_, _, info_of Try.type123, rfl, rfl, rfl, rfl, by decide⟩
instance : Und Try.prog 124 (TypeDesc.slice 5) := ⟨Try.underlying124⟩
instance : Size Try.prog 124 1 := ⟨_, info_of Try.type124, rfl⟩
instance : One Try.prog 124 := ⟨_, Try.underlying124, rfl⟩
instance : ZeroC Try.prog 124 ([Value.slice none 0 0]) := ⟨_, _, info_of Try.type124, rfl, rfl⟩
instance : Elem Try.prog 124 1 24 := ⟨_, _, info_of Try.type124, rfl, rfl, rfl, rfl, by decide⟩
instance : Und Try.prog 125 (TypeDesc.func #[9, 126] #[124] false) := ⟨Try.underlying125⟩
instance : Size Try.prog 125 1 := ⟨_, info_of Try.type125, rfl⟩
instance : One Try.prog 125 := ⟨_, Try.underlying125, rfl⟩
instance : ZeroC Try.prog 125 ([Value.nilFunc]) := ⟨_, _, info_of Try.type125, rfl, rfl⟩
instance : Elem Try.prog 125 1 8 := ⟨_, _, info_of Try.type125, rfl, rfl, rfl, rfl, by decide⟩
instance : Und Try.prog 126 (TypeDesc.func #[5] #[5] false) := ⟨Try.underlying126⟩
instance : Size Try.prog 126 1 := ⟨_, info_of Try.type126, rfl⟩
instance : One Try.prog 126 := ⟨_, Try.underlying126, rfl⟩
instance : ZeroC Try.prog 126 ([Value.nilFunc]) := ⟨_, _, info_of Try.type126, rfl, rfl⟩
instance : Elem Try.prog 126 1 8 := ⟨_, _, info_of Try.type126, rfl, rfl, rfl, rfl, by decide⟩
instance : Und Try.prog 127 (TypeDesc.func #[21] #[4] false) := ⟨Try.underlying127⟩
instance : Size Try.prog 127 1 := ⟨_, info_of Try.type127, rfl⟩
instance : One Try.prog 127 := ⟨_, Try.underlying127, rfl⟩
instance : ZeroC Try.prog 127 ([Value.nilFunc]) := ⟨_, _, info_of Try.type127, rfl, rfl⟩
instance : Elem Try.prog 127 1 8 := ⟨_, _, info_of Try.type127, rfl, rfl, rfl, rfl, by decide⟩
instance : Und Try.prog 128 (TypeDesc.func #[9, 127, 4] #[3] false) := ⟨Try.underlying128⟩
instance : Size Try.prog 128 1 := ⟨_, info_of Try.type128, rfl⟩
instance : One Try.prog 128 := ⟨_, Try.underlying128, rfl⟩
instance : ZeroC Try.prog 128 ([Value.nilFunc]) := ⟨_, _, info_of Try.type128, rfl, rfl⟩
instance : Elem Try.prog 128 1 8 := ⟨_, _, info_of Try.type128, rfl, rfl, rfl, rfl, by decide⟩
instance : Und Try.prog 129 (TypeDesc.func #[] #[9] false) := ⟨Try.underlying129⟩
instance : Size Try.prog 129 1 := ⟨_, info_of Try.type129, rfl⟩
instance : One Try.prog 129 := ⟨_, Try.underlying129, rfl⟩
instance : ZeroC Try.prog 129 ([Value.nilFunc]) := ⟨_, _, info_of Try.type129, rfl, rfl⟩
instance : Elem Try.prog 129 1 8 := ⟨_, _, info_of Try.type129, rfl, rfl, rfl, rfl, by decide⟩
instance : Und Try.prog 130 (TypeDesc.struct #[{ name := "_interface", type := 17, offset := 0, embedded := false, tag := "", pkgPath := "runtime", byteOffset := 0 }, { name := "concrete", type := 17, offset := 1, embedded := false, tag := "", pkgPath := "runtime", byteOffset := 8 }, { name := "asserted", type := 17, offset := 2, embedded := false, tag := "", pkgPath := "runtime", byteOffset := 16 }, { name := "missingMethod", type := 9, offset := 3, embedded := false, tag := "", pkgPath := "runtime", byteOffset := 24 }]) := ⟨Try.underlying130⟩
instance : Size Try.prog 130 4 := ⟨_, info_of Try.type130, rfl⟩
instance : Agg Try.prog 130 4 := ⟨_, _, Try.underlying130, rfl, info_of Try.type130, rfl⟩
instance : ZeroC Try.prog 130 ([Value.pointer none, Value.pointer none, Value.pointer none, Value.string { data := #[] }]) := ⟨_, _, info_of Try.type130, rfl, rfl⟩
instance : Elem Try.prog 130 4 40 := ⟨_, _, info_of Try.type130, rfl, rfl, rfl, rfl, by decide⟩
instance : Struct Try.prog 130 [(0, 1), (1, 1), (2, 1), (3, 1)] ([Value.pointer none, Value.pointer none, Value.pointer none, Value.string { data := #[] }]) := ⟨_, _, _, info_of Try.type130, Try.underlying130, rfl, by simp only [List.mapM_cons, List.mapM_nil, info_of Try.type17, info_of Try.type9]; rfl, rfl⟩
instance : Fld Try.prog 130 0 0 := ⟨_, _, _, Try.underlying130, rfl, rfl, info_of Try.type17, by decide⟩
instance : Fld Try.prog 130 1 1 := ⟨_, _, _, Try.underlying130, rfl, rfl, info_of Try.type17, by decide⟩
instance : Fld Try.prog 130 2 2 := ⟨_, _, _, Try.underlying130, rfl, rfl, info_of Try.type17, by decide⟩
instance : Fld Try.prog 130 3 3 := ⟨_, _, _, Try.underlying130, rfl, rfl, info_of Try.type9, by decide⟩
instance : Und Try.prog 131 (TypeDesc.struct #[{ name := "_interface", type := 17, offset := 0, embedded := false, tag := "", pkgPath := "runtime", byteOffset := 0 }, { name := "concrete", type := 17, offset := 1, embedded := false, tag := "", pkgPath := "runtime", byteOffset := 8 }, { name := "asserted", type := 17, offset := 2, embedded := false, tag := "", pkgPath := "runtime", byteOffset := 16 }, { name := "missingMethod", type := 9, offset := 3, embedded := false, tag := "", pkgPath := "runtime", byteOffset := 24 }]) := ⟨Try.underlying131⟩
instance : Size Try.prog 131 4 := ⟨_, info_of Try.type131, rfl⟩
instance : Agg Try.prog 131 4 := ⟨_, _, Try.underlying131, rfl, info_of Try.type131, rfl⟩
instance : ZeroC Try.prog 131 ([Value.pointer none, Value.pointer none, Value.pointer none, Value.string { data := #[] }]) := ⟨_, _, info_of Try.type131, rfl, rfl⟩
instance : Elem Try.prog 131 4 40 := ⟨_, _, info_of Try.type131, rfl, rfl, rfl, rfl, by decide⟩
instance : Struct Try.prog 131 [(0, 1), (1, 1), (2, 1), (3, 1)] ([Value.pointer none, Value.pointer none, Value.pointer none, Value.string { data := #[] }]) := ⟨_, _, _, info_of Try.type131, Try.underlying131, rfl, by simp only [List.mapM_cons, List.mapM_nil, info_of Try.type17, info_of Try.type9]; rfl, rfl⟩
instance : Fld Try.prog 131 0 0 := ⟨_, _, _, Try.underlying131, rfl, rfl, info_of Try.type17, by decide⟩
instance : Fld Try.prog 131 1 1 := ⟨_, _, _, Try.underlying131, rfl, rfl, info_of Try.type17, by decide⟩
instance : Fld Try.prog 131 2 2 := ⟨_, _, _, Try.underlying131, rfl, rfl, info_of Try.type17, by decide⟩
instance : Fld Try.prog 131 3 3 := ⟨_, _, _, Try.underlying131, rfl, rfl, info_of Try.type9, by decide⟩
instance : Und Try.prog 132 (TypeDesc.array 0 16) := ⟨Try.underlying132⟩
instance : Size Try.prog 132 0 := ⟨_, info_of Try.type132, rfl⟩
instance : Agg Try.prog 132 0 := ⟨_, _, Try.underlying132, rfl, info_of Try.type132, rfl⟩
instance : Und Try.prog 133 (TypeDesc.struct #[{ name := "_", type := 132, offset := 0, embedded := false, tag := "", pkgPath := "runtime", byteOffset := 0 }]) := ⟨Try.underlying133⟩
instance : Size Try.prog 133 0 := ⟨_, info_of Try.type133, rfl⟩
instance : Agg Try.prog 133 0 := ⟨_, _, Try.underlying133, rfl, info_of Try.type133, rfl⟩
instance : Und Try.prog 134 (TypeDesc.struct #[{ name := "_", type := 132, offset := 0, embedded := false, tag := "", pkgPath := "runtime", byteOffset := 0 }]) := ⟨Try.underlying134⟩
instance : Size Try.prog 134 0 := ⟨_, info_of Try.type134, rfl⟩
instance : Agg Try.prog 134 0 := ⟨_, _, Try.underlying134, rfl, info_of Try.type134, rfl⟩
instance : Und Try.prog 135 (TypeDesc.func #[] #[3] false) := ⟨Try.underlying135⟩
instance : Size Try.prog 135 1 := ⟨_, info_of Try.type135, rfl⟩
instance : One Try.prog 135 := ⟨_, Try.underlying135, rfl⟩
instance : ZeroC Try.prog 135 ([Value.nilFunc]) := ⟨_, _, info_of Try.type135, rfl, rfl⟩
instance : Elem Try.prog 135 1 8 := ⟨_, _, info_of Try.type135, rfl, rfl, rfl, rfl, by decide⟩
instance : Und Try.prog 136 (TypeDesc.int IntKind.u32) := ⟨Try.underlying136⟩
instance : Size Try.prog 136 1 := ⟨_, info_of Try.type136, rfl⟩
instance : One Try.prog 136 := ⟨_, Try.underlying136, rfl⟩
instance : ZeroC Try.prog 136 ([Value.int IntKind.u32 0]) := ⟨_, _, info_of Try.type136, rfl, rfl⟩
instance : Elem Try.prog 136 1 4 := ⟨_, _, info_of Try.type136, rfl, rfl, rfl, rfl, by decide⟩
instance : Und Try.prog 137 (TypeDesc.int IntKind.u8) := ⟨Try.underlying137⟩
instance : Size Try.prog 137 1 := ⟨_, info_of Try.type137, rfl⟩
instance : One Try.prog 137 := ⟨_, Try.underlying137, rfl⟩
instance : ZeroC Try.prog 137 ([Value.int IntKind.u8 0]) := ⟨_, _, info_of Try.type137, rfl, rfl⟩
instance : Elem Try.prog 137 1 1 := ⟨_, _, info_of Try.type137, rfl, rfl, rfl, rfl, by decide⟩
instance : Und Try.prog 138 (TypeDesc.int IntKind.u8) := ⟨Try.underlying138⟩
instance : Size Try.prog 138 1 := ⟨_, info_of Try.type138, rfl⟩
instance : One Try.prog 138 := ⟨_, Try.underlying138, rfl⟩
instance : ZeroC Try.prog 138 ([Value.int IntKind.u8 0]) := ⟨_, _, info_of Try.type138, rfl, rfl⟩
instance : Elem Try.prog 138 1 1 := ⟨_, _, info_of Try.type138, rfl, rfl, rfl, rfl, by decide⟩
instance : Und Try.prog 139 (TypeDesc.func #[145, 145] #[4] false) := ⟨Try.underlying139⟩
instance : Size Try.prog 139 1 := ⟨_, info_of Try.type139, rfl⟩
instance : One Try.prog 139 := ⟨_, Try.underlying139, rfl⟩
instance : ZeroC Try.prog 139 ([Value.nilFunc]) := ⟨_, _, info_of Try.type139, rfl, rfl⟩
instance : Elem Try.prog 139 1 8 := ⟨_, _, info_of Try.type139, rfl, rfl, rfl, rfl, by decide⟩
instance : Und Try.prog 140 (TypeDesc.pointer 5) := ⟨Try.underlying140⟩
instance : Size Try.prog 140 1 := ⟨_, info_of Try.type140, rfl⟩
instance : One Try.prog 140 := ⟨_, Try.underlying140, rfl⟩
instance : ZeroC Try.prog 140 ([Value.pointer none]) := ⟨_, _, info_of Try.type140, rfl, rfl⟩
instance : Elem Try.prog 140 1 8 := ⟨_, _, info_of Try.type140, rfl, rfl, rfl, rfl, by decide⟩
instance : Und Try.prog 141 (TypeDesc.int IntKind.i32) := ⟨Try.underlying141⟩
instance : Size Try.prog 141 1 := ⟨_, info_of Try.type141, rfl⟩
instance : One Try.prog 141 := ⟨_, Try.underlying141, rfl⟩
instance : ZeroC Try.prog 141 ([Value.int IntKind.i32 0]) := ⟨_, _, info_of Try.type141, rfl, rfl⟩
instance : Elem Try.prog 141 1 4 := ⟨_, _, info_of Try.type141, rfl, rfl, rfl, rfl, by decide⟩
instance : Und Try.prog 142 (TypeDesc.int IntKind.i32) := ⟨Try.underlying142⟩
instance : Size Try.prog 142 1 := ⟨_, info_of Try.type142, rfl⟩
instance : One Try.prog 142 := ⟨_, Try.underlying142, rfl⟩
instance : ZeroC Try.prog 142 ([Value.int IntKind.i32 0]) := ⟨_, _, info_of Try.type142, rfl, rfl⟩
instance : Elem Try.prog 142 1 4 := ⟨_, _, info_of Try.type142, rfl, rfl, rfl, rfl, by decide⟩
instance : Und Try.prog 143 (TypeDesc.struct #[{ name := "Size_", type := 12, offset := 0, embedded := false, tag := "", pkgPath := "", byteOffset := 0 }, { name := "PtrBytes", type := 12, offset := 1, embedded := false, tag := "", pkgPath := "", byteOffset := 8 }, { name := "Hash", type := 136, offset := 2, embedded := false, tag := "", pkgPath := "", byteOffset := 16 }, { name := "TFlag", type := 137, offset := 3, embedded := false, tag := "", pkgPath := "", byteOffset := 20 }, { name := "Align_", type := 5, offset := 4, embedded := false, tag := "", pkgPath := "", byteOffset := 21 }, { name := "FieldAlign_", type := 5, offset := 5, embedded := false, tag := "", pkgPath := "", byteOffset := 22 }, { name := "Kind_", type := 138, offset := 6, embedded := false, tag := "", pkgPath := "", byteOffset := 23 }, { name := "Equal", type := 139, offset := 7, embedded := false, tag := "", pkgPath := "", byteOffset := 24 }, { name := "GCData", type := 140, offset := 8, embedded := false, tag := "", pkgPath := "", byteOffset := 32 }, { name := "Str", type := 141, offset := 9, embedded := false, tag := "", pkgPath := "", byteOffset := 40 }, { name := "PtrToThis", type := 142, offset := 10, embedded := false, tag := "", pkgPath := "", byteOffset := 44 }]) := ⟨Try.underlying143⟩
instance : Size Try.prog 143 11 := ⟨_, info_of Try.type143, rfl⟩
instance : Agg Try.prog 143 11 := ⟨_, _, Try.underlying143, rfl, info_of Try.type143, rfl⟩
instance : ZeroC Try.prog 143 ([Value.int IntKind.u64 0, Value.int IntKind.u64 0, Value.int IntKind.u32 0, Value.int IntKind.u8 0, Value.int IntKind.u8 0, Value.int IntKind.u8 0, Value.int IntKind.u8 0, Value.nilFunc, Value.pointer none, Value.int IntKind.i32 0, Value.int IntKind.i32 0]) := ⟨_, _, info_of Try.type143, rfl, rfl⟩
instance : Elem Try.prog 143 11 48 := ⟨_, _, info_of Try.type143, rfl, rfl, rfl, rfl, by decide⟩
instance : Struct Try.prog 143 [(0, 1), (1, 1), (2, 1), (3, 1), (4, 1), (5, 1), (6, 1), (7, 1), (8, 1), (9, 1), (10, 1)] ([Value.int IntKind.u64 0, Value.int IntKind.u64 0, Value.int IntKind.u32 0, Value.int IntKind.u8 0, Value.int IntKind.u8 0, Value.int IntKind.u8 0, Value.int IntKind.u8 0, Value.nilFunc, Value.pointer none, Value.int IntKind.i32 0, Value.int IntKind.i32 0]) := ⟨_, _, _, info_of Try.type143, Try.underlying143, rfl, by simp only [List.mapM_cons, List.mapM_nil, info_of Try.type12, info_of Try.type136, info_of Try.type137, info_of Try.type138, info_of Try.type139, info_of Try.type140, info_of Try.type141, info_of Try.type142, info_of Try.type5]; rfl, rfl⟩
instance : Fld Try.prog 143 0 0 := ⟨_, _, _, Try.underlying143, rfl, rfl, info_of Try.type12, by decide⟩
instance : Fld Try.prog 143 1 1 := ⟨_, _, _, Try.underlying143, rfl, rfl, info_of Try.type12, by decide⟩
instance : Fld Try.prog 143 2 2 := ⟨_, _, _, Try.underlying143, rfl, rfl, info_of Try.type136, by decide⟩
instance : Fld Try.prog 143 3 3 := ⟨_, _, _, Try.underlying143, rfl, rfl, info_of Try.type137, by decide⟩
instance : Fld Try.prog 143 4 4 := ⟨_, _, _, Try.underlying143, rfl, rfl, info_of Try.type5, by decide⟩
instance : Fld Try.prog 143 5 5 := ⟨_, _, _, Try.underlying143, rfl, rfl, info_of Try.type5, by decide⟩
instance : Fld Try.prog 143 6 6 := ⟨_, _, _, Try.underlying143, rfl, rfl, info_of Try.type138, by decide⟩
instance : Fld Try.prog 143 7 7 := ⟨_, _, _, Try.underlying143, rfl, rfl, info_of Try.type139, by decide⟩
instance : Fld Try.prog 143 8 8 := ⟨_, _, _, Try.underlying143, rfl, rfl, info_of Try.type140, by decide⟩
instance : Fld Try.prog 143 9 9 := ⟨_, _, _, Try.underlying143, rfl, rfl, info_of Try.type141, by decide⟩
instance : Fld Try.prog 143 10 10 := ⟨_, _, _, Try.underlying143, rfl, rfl, info_of Try.type142, by decide⟩
instance : Und Try.prog 144 (TypeDesc.struct #[{ name := "Size_", type := 12, offset := 0, embedded := false, tag := "", pkgPath := "", byteOffset := 0 }, { name := "PtrBytes", type := 12, offset := 1, embedded := false, tag := "", pkgPath := "", byteOffset := 8 }, { name := "Hash", type := 136, offset := 2, embedded := false, tag := "", pkgPath := "", byteOffset := 16 }, { name := "TFlag", type := 137, offset := 3, embedded := false, tag := "", pkgPath := "", byteOffset := 20 }, { name := "Align_", type := 5, offset := 4, embedded := false, tag := "", pkgPath := "", byteOffset := 21 }, { name := "FieldAlign_", type := 5, offset := 5, embedded := false, tag := "", pkgPath := "", byteOffset := 22 }, { name := "Kind_", type := 138, offset := 6, embedded := false, tag := "", pkgPath := "", byteOffset := 23 }, { name := "Equal", type := 139, offset := 7, embedded := false, tag := "", pkgPath := "", byteOffset := 24 }, { name := "GCData", type := 140, offset := 8, embedded := false, tag := "", pkgPath := "", byteOffset := 32 }, { name := "Str", type := 141, offset := 9, embedded := false, tag := "", pkgPath := "", byteOffset := 40 }, { name := "PtrToThis", type := 142, offset := 10, embedded := false, tag := "", pkgPath := "", byteOffset := 44 }]) := ⟨Try.underlying144⟩
instance : Size Try.prog 144 11 := ⟨_, info_of Try.type144, rfl⟩
instance : Agg Try.prog 144 11 := ⟨_, _, Try.underlying144, rfl, info_of Try.type144, rfl⟩
instance : ZeroC Try.prog 144 ([Value.int IntKind.u64 0, Value.int IntKind.u64 0, Value.int IntKind.u32 0, Value.int IntKind.u8 0, Value.int IntKind.u8 0, Value.int IntKind.u8 0, Value.int IntKind.u8 0, Value.nilFunc, Value.pointer none, Value.int IntKind.i32 0, Value.int IntKind.i32 0]) := ⟨_, _, info_of Try.type144, rfl, rfl⟩
instance : Elem Try.prog 144 11 48 := ⟨_, _, info_of Try.type144, rfl, rfl, rfl, rfl, by decide⟩
instance : Struct Try.prog 144 [(0, 1), (1, 1), (2, 1), (3, 1), (4, 1), (5, 1), (6, 1), (7, 1), (8, 1), (9, 1), (10, 1)] ([Value.int IntKind.u64 0, Value.int IntKind.u64 0, Value.int IntKind.u32 0, Value.int IntKind.u8 0, Value.int IntKind.u8 0, Value.int IntKind.u8 0, Value.int IntKind.u8 0, Value.nilFunc, Value.pointer none, Value.int IntKind.i32 0, Value.int IntKind.i32 0]) := ⟨_, _, _, info_of Try.type144, Try.underlying144, rfl, by simp only [List.mapM_cons, List.mapM_nil, info_of Try.type12, info_of Try.type136, info_of Try.type137, info_of Try.type138, info_of Try.type139, info_of Try.type140, info_of Try.type141, info_of Try.type142, info_of Try.type5]; rfl, rfl⟩
instance : Fld Try.prog 144 0 0 := ⟨_, _, _, Try.underlying144, rfl, rfl, info_of Try.type12, by decide⟩
instance : Fld Try.prog 144 1 1 := ⟨_, _, _, Try.underlying144, rfl, rfl, info_of Try.type12, by decide⟩
instance : Fld Try.prog 144 2 2 := ⟨_, _, _, Try.underlying144, rfl, rfl, info_of Try.type136, by decide⟩
instance : Fld Try.prog 144 3 3 := ⟨_, _, _, Try.underlying144, rfl, rfl, info_of Try.type137, by decide⟩
instance : Fld Try.prog 144 4 4 := ⟨_, _, _, Try.underlying144, rfl, rfl, info_of Try.type5, by decide⟩
instance : Fld Try.prog 144 5 5 := ⟨_, _, _, Try.underlying144, rfl, rfl, info_of Try.type5, by decide⟩
instance : Fld Try.prog 144 6 6 := ⟨_, _, _, Try.underlying144, rfl, rfl, info_of Try.type138, by decide⟩
instance : Fld Try.prog 144 7 7 := ⟨_, _, _, Try.underlying144, rfl, rfl, info_of Try.type139, by decide⟩
instance : Fld Try.prog 144 8 8 := ⟨_, _, _, Try.underlying144, rfl, rfl, info_of Try.type140, by decide⟩
instance : Fld Try.prog 144 9 9 := ⟨_, _, _, Try.underlying144, rfl, rfl, info_of Try.type141, by decide⟩
instance : Fld Try.prog 144 10 10 := ⟨_, _, _, Try.underlying144, rfl, rfl, info_of Try.type142, by decide⟩
instance : Und Try.prog 145 (TypeDesc.unsafePointer) := ⟨Try.underlying145⟩
instance : Size Try.prog 145 1 := ⟨_, info_of Try.type145, rfl⟩
instance : One Try.prog 145 := ⟨_, Try.underlying145, rfl⟩
instance : ZeroC Try.prog 145 ([Value.pointer none]) := ⟨_, _, info_of Try.type145, rfl, rfl⟩
instance : Elem Try.prog 145 1 8 := ⟨_, _, info_of Try.type145, rfl, rfl, rfl, rfl, by decide⟩
instance : Callable Try.prog 3 := ⟨fun args w => Try.call3 args w⟩
instance : Callable Try.prog 4 := ⟨fun args w => Try.call4 args w⟩
instance : Callable Try.prog 5 := ⟨fun args w => Try.call5 args w⟩
instance : Callable Try.prog 6 := ⟨fun args w => Try.call6 args w⟩
instance : Callable Try.prog 7 := ⟨fun args w => Try.call7 args w⟩
instance : Callable Try.prog 8 := ⟨fun args w => Try.call8 args w⟩
instance : Callable Try.prog 9 := ⟨fun args w => Try.call9 args w⟩
instance : Callable Try.prog 10 := ⟨fun args w => Try.call10 args w⟩
instance : Callable Try.prog 11 := ⟨fun args w => Try.call11 args w⟩
instance : Callable Try.prog 12 := ⟨fun args w => Try.call12 args w⟩
instance : Callable Try.prog 13 := ⟨fun args w => Try.call13 args w⟩
instance : Callable Try.prog 14 := ⟨fun args w => Try.call14 args w⟩
instance : Callable Try.prog 15 := ⟨fun args w => Try.call15 args w⟩
instance : Callable Try.prog 16 := ⟨fun args w => Try.call16 args w⟩
instance : Callable Try.prog 17 := ⟨fun args w => Try.call17 args w⟩
instance : Callable Try.prog 18 := ⟨fun args w => Try.call18 args w⟩
instance : Callable Try.prog 19 := ⟨fun args w => Try.call19 args w⟩
instance : Callable Try.prog 20 := ⟨fun args w => Try.call20 args w⟩
instance : Callable Try.prog 21 := ⟨fun args w => Try.call21 args w⟩
instance : Callable Try.prog 22 := ⟨fun args w => Try.call22 args w⟩
instance : Callable Try.prog 23 := ⟨fun args w => Try.call23 args w⟩
instance : Callable Try.prog 24 := ⟨fun args w => Try.call24 args w⟩
instance : Callable Try.prog 25 := ⟨fun args w => Try.call25 args w⟩
instance : Callable Try.prog 26 := ⟨fun args w => Try.call26 args w⟩
instance : Callable Try.prog 27 := ⟨fun args w => Try.call27 args w⟩
instance : Callable Try.prog 28 := ⟨fun args w => Try.call28 args w⟩
instance : Callable Try.prog 29 := ⟨fun args w => Try.call29 args w⟩
instance : Callable Try.prog 30 := ⟨fun args w => Try.call30 args w⟩
instance : Callable Try.prog 31 := ⟨fun args w => Try.call31 args w⟩
instance : Callable Try.prog 32 := ⟨fun args w => Try.call32 args w⟩
instance : Callable Try.prog 33 := ⟨fun args w => Try.call33 args w⟩
instance : Callable Try.prog 34 := ⟨fun args w => Try.call34 args w⟩
instance : Callable Try.prog 35 := ⟨fun args w => Try.call35 args w⟩
instance : Callable Try.prog 36 := ⟨fun args w => Try.call36 args w⟩
instance : Callable Try.prog 37 := ⟨fun args w => Try.call37 args w⟩
instance : Callable Try.prog 38 := ⟨fun args w => Try.call38 args w⟩
instance : Callable Try.prog 39 := ⟨fun args w => Try.call39 args w⟩
instance : Callable Try.prog 40 := ⟨fun args w => Try.call40 args w⟩
instance : Callable Try.prog 41 := ⟨fun args w => Try.call41 args w⟩
instance : Callable Try.prog 42 := ⟨fun args w => Try.call42 args w⟩
instance : Callable Try.prog 43 := ⟨fun args w => Try.call43 args w⟩
instance : Callable Try.prog 44 := ⟨fun args w => Try.call44 args w⟩
instance : Callable Try.prog 45 := ⟨fun args w => Try.call45 args w⟩
instance : Callable Try.prog 46 := ⟨fun args w => Try.call46 args w⟩
instance : Callable Try.prog 47 := ⟨fun args w => Try.call47 args w⟩
instance : Callable Try.prog 48 := ⟨fun args w => Try.call48 args w⟩
instance : Callable Try.prog 49 := ⟨fun args w => Try.call49 args w⟩
instance : Callable Try.prog 50 := ⟨fun args w => Try.call50 args w⟩
instance : Callable Try.prog 51 := ⟨fun args w => Try.call51 args w⟩
instance : Callable Try.prog 52 := ⟨fun args w => Try.call52 args w⟩
instance : Callable Try.prog 53 := ⟨fun args w => Try.call53 args w⟩
instance : Callable Try.prog 54 := ⟨fun args w => Try.call54 args w⟩
instance : Callable Try.prog 55 := ⟨fun args w => Try.call55 args w⟩
instance : Callable Try.prog 56 := ⟨fun args w => Try.call56 args w⟩
instance : Callable Try.prog 57 := ⟨fun args w => Try.call57 args w⟩
instance : Callable Try.prog 58 := ⟨fun args w => Try.call58 args w⟩
instance : Callable Try.prog 59 := ⟨fun args w => Try.call59 args w⟩
instance : Callable Try.prog 60 := ⟨fun args w => Try.call60 args w⟩
instance : Callable Try.prog 61 := ⟨fun args w => Try.call61 args w⟩
instance : Callable Try.prog 62 := ⟨fun args w => Try.call62 args w⟩
instance : Callable Try.prog 63 := ⟨fun args w => Try.call63 args w⟩
instance : Callable Try.prog 64 := ⟨fun args w => Try.call64 args w⟩
instance : Callable Try.prog 65 := ⟨fun args w => Try.call65 args w⟩
instance : Callable Try.prog 66 := ⟨fun args w => Try.call66 args w⟩
instance : Callable Try.prog 67 := ⟨fun args w => Try.call67 args w⟩
instance : Callable Try.prog 68 := ⟨fun args w => Try.call68 args w⟩
instance : Callable Try.prog 69 := ⟨fun args w => Try.call69 args w⟩
instance : Callable Try.prog 70 := ⟨fun args w => Try.call70 args w⟩
instance : Callable Try.prog 71 := ⟨fun args w => Try.call71 args w⟩
instance : Callable Try.prog 72 := ⟨fun args w => Try.call72 args w⟩
instance : Callable Try.prog 73 := ⟨fun args w => Try.call73 args w⟩
instance : Callable Try.prog 74 := ⟨fun args w => Try.call74 args w⟩
instance : Callable Try.prog 75 := ⟨fun args w => Try.call75 args w⟩
instance : Callable Try.prog 76 := ⟨fun args w => Try.call76 args w⟩
instance : Callable Try.prog 77 := ⟨fun args w => Try.call77 args w⟩
instance : Callable Try.prog 78 := ⟨fun args w => Try.call78 args w⟩
instance : Callable Try.prog 79 := ⟨fun args w => Try.call79 args w⟩
instance : Callable Try.prog 80 := ⟨fun args w => Try.call80 args w⟩
instance : Callable Try.prog 81 := ⟨fun args w => Try.call81 args w⟩
instance : Callable Try.prog 82 := ⟨fun args w => Try.call82 args w⟩
instance : Callable Try.prog 83 := ⟨fun args w => Try.call83 args w⟩
instance : Callable Try.prog 84 := ⟨fun args w => Try.call84 args w⟩
instance : Callable Try.prog 85 := ⟨fun args w => Try.call85 args w⟩
instance : Callable Try.prog 86 := ⟨fun args w => Try.call86 args w⟩
instance : Callable Try.prog 87 := ⟨fun args w => Try.call87 args w⟩
instance : Callable Try.prog 88 := ⟨fun args w => Try.call88 args w⟩
instance : Callable Try.prog 89 := ⟨fun args w => Try.call89 args w⟩
instance : Callable Try.prog 90 := ⟨fun args w => Try.call90 args w⟩
instance : Callable Try.prog 91 := ⟨fun args w => Try.call91 args w⟩
instance : Callable Try.prog 92 := ⟨fun args w => Try.call92 args w⟩
instance : Callable Try.prog 93 := ⟨fun args w => Try.call93 args w⟩
instance : Callable Try.prog 94 := ⟨fun args w => Try.call94 args w⟩
instance : Callable Try.prog 95 := ⟨fun args w => Try.call95 args w⟩
instance : Callable Try.prog 96 := ⟨fun args w => Try.call96 args w⟩
instance : Callable Try.prog 97 := ⟨fun args w => Try.call97 args w⟩
instance : Callable Try.prog 98 := ⟨fun args w => Try.call98 args w⟩
instance : Callable Try.prog 99 := ⟨fun args w => Try.call99 args w⟩
end Go.SL

/-
  The operators == and != on the structs of package api.
-/
namespace Go.SL
open Go Go.Proofs

theorem run_eqV (w : World) (d : Nat) (a b : Vl) : (Op.equalIn (d + 3) 36 (.agg (encV a).toArray) (.agg (encV b).toArray)).run Try.prog w = .ok (eqV a b) w := by
  rw [run_equalIn_agg w (d + 2) 36 _ _ (by rw [Program.fieldsOf, Try.underlying36]) Try.stoodInHeld36]
  simp only [Program.fieldsOf, Try.underlying36]
  simp [Op.eqFields, encV, part, go_sem, beqL, beqI, eqV]
  by_cases h1 : a.kind = b.kind <;> by_cases h2 : a.num = b.num <;> by_cases h3 : a.text = b.text <;> simp [h1, h2, h3]

theorem run_eqR (w : World) (d : Nat) (a b : Rct) : (Op.equalIn (d + 3) 38 (.agg (encR a).toArray) (.agg (encR b).toArray)).run Try.prog w = .ok (eqR a b) w := by
  rw [run_equalIn_agg w (d + 2) 38 _ _ (by rw [Program.fieldsOf, Try.underlying38]) Try.stoodInHeld38]
  simp only [Program.fieldsOf, Try.underlying38]
  simp [Op.eqFields, encR, part, go_sem, beqI, eqR]
  by_cases h1 : a.c1 = b.c1 <;> by_cases h2 : a.r1 = b.r1 <;> by_cases h3 : a.c2 = b.c2 <;> by_cases h4 : a.r2 = b.r2 <;> simp [h1, h2, h3, h4]

theorem run_eqN (w : World) (d : Nat) (a b : Nd) : (Op.equalIn (d + 5) 40 (.agg (encN a).toArray) (.agg (encN b).toArray)).run Try.prog w = .ok (eqN a b) w := by
  rw [run_equalIn_agg w (d + 4) 40 _ _ (by rw [Program.fieldsOf, Try.underlying40]) Try.stoodInHeld40]
  simp only [Program.fieldsOf, Try.underlying40]
  have hv : ∀ w, (Op.equalIn (d + 4) 36 (.agg #[.int .u8 a.v.kind, .int .i64 a.v.num, .string a.v.text]) (.agg #[.int .u8 b.v.kind, .int .i64 b.v.num, .string b.v.text])).run Try.prog w = .ok (eqV a.v b.v) w := fun w => run_eqV w (d + 1) a.v b.v
  have hr : ∀ w, (Op.equalIn (d + 4) 38 (.agg #[.int .i64 a.rect.c1, .int .i64 a.rect.r1, .int .i64 a.rect.c2, .int .i64 a.rect.r2]) (.agg #[.int .i64 b.rect.c1, .int .i64 b.rect.r1, .int .i64 b.rect.c2, .int .i64 b.rect.r2])).run Try.prog w = .ok (eqR a.rect b.rect) w := fun w => run_eqR w (d + 1) a.rect b.rect
  simp [Op.eqFields, encN, part, go_sem, beqI, eqN, hv, hr]
  by_cases h1 : a.kind = b.kind <;> by_cases h2 : eqV a.v b.v = true <;> by_cases h3 : eqR a.rect b.rect = true <;> by_cases h4 : a.op = b.op <;> by_cases h5 : a.fn = b.fn <;> by_cases h6 : a.n = b.n <;> simp [h1, h2, h3, h4, h5, h6]

section
variable {w0 : World} {s : Slots} {H : List Blk} {ty t' : TypeId} {x y : Operand}
theorem v_eqlV {a b : Vl} (hx : ev s x = some (.agg (encV a).toArray)) (hy : ev s y = some (.agg (encV b).toArray)) : VOp Try.prog w0 s H (.binOp .eql 36 x y t') ty (.bool (eqV a b)) := fun ρ w _ _ _ _ hρ _ => by
  have h := run_eqV w 9997 a b
  simp only [Nat.reduceAdd] at h
  simp only [execOp, hρ x _ hx, hρ y _ hy, Sem.run_bind, run_eqGuard_agg w _ _ _ _ _ _ Try.eqGuardType36, Result.andThen_ok, run_eql_struct, h, Sem.run_pure]
theorem v_neqV {a b : Vl} (hx : ev s x = some (.agg (encV a).toArray)) (hy : ev s y = some (.agg (encV b).toArray)) : VOp Try.prog w0 s H (.binOp .neq 36 x y t') ty (.bool (!eqV a b)) := fun ρ w _ _ _ _ hρ _ => by
  have h := run_eqV w 9997 a b
  simp only [Nat.reduceAdd] at h
  simp only [execOp, hρ x _ hx, hρ y _ hy, Sem.run_bind, run_eqGuard_agg w _ _ _ _ _ _ Try.eqGuardType36, Result.andThen_ok, run_neq_struct, h, Sem.run_pure]
theorem v_eqlR {a b : Rct} (hx : ev s x = some (.agg (encR a).toArray)) (hy : ev s y = some (.agg (encR b).toArray)) : VOp Try.prog w0 s H (.binOp .eql 38 x y t') ty (.bool (eqR a b)) := fun ρ w _ _ _ _ hρ _ => by
  have h := run_eqR w 9997 a b
  simp only [Nat.reduceAdd] at h
  simp only [execOp, hρ x _ hx, hρ y _ hy, Sem.run_bind, run_eqGuard_agg w _ _ _ _ _ _ Try.eqGuardType38, Result.andThen_ok, run_eql_struct, h, Sem.run_pure]
theorem v_eqlN {a b : Nd} (hx : ev s x = some (.agg (encN a).toArray)) (hy : ev s y = some (.agg (encN b).toArray)) : VOp Try.prog w0 s H (.binOp .eql 40 x y t') ty (.bool (eqN a b)) := fun ρ w _ _ _ _ hρ _ => by
  have h := run_eqN w 9995 a b
  simp only [Nat.reduceAdd] at h
  simp only [execOp, hρ x _ hx, hρ y _ hy, Sem.run_bind, run_eqGuard_agg w _ _ _ _ _ _ Try.eqGuardType40, Result.andThen_ok, run_eql_struct, h, Sem.run_pure]
theorem v_neqN {a b : Nd} (hx : ev s x = some (.agg (encN a).toArray)) (hy : ev s y = some (.agg (encN b).toArray)) : VOp Try.prog w0 s H (.binOp .neq 40 x y t') ty (.bool (!eqN a b)) := fun ρ w _ _ _ _ hρ _ => by
  have h := run_eqN w 9995 a b
  simp only [Nat.reduceAdd] at h
  simp only [execOp, hρ x _ hx, hρ y _ hy, Sem.run_bind, run_eqGuard_agg w _ _ _ _ _ _ Try.eqGuardType40, Result.andThen_ok, run_neq_struct, h, Sem.run_pure]
end
end Go.SL

/-
  Trees as the walk finds them: every node's tree, the trees below it, and where they lie. No program in sight.
-/
namespace Go.SL
open Go

/-! ### Trees on the stack -/

/-- A tree: its nodes, and its depth. -/
structure STree where
  ns : List Nd
  d : Nat

def STree.kind (S : STree) : Int := ((S.ns.getLast?).map Nd.kind).getD 0
def fit1 (n : Nd) (i : Int) (k : Int) : Bool := !(decide (k = 3) && !mayAt n i) && !(decide (n.kind = 7) && releasedF n.fn && decide (k ≠ 2) && decide (k ≠ 3))
def fitsF (n : Nd) : Int → List STree → Bool
  | _, [] => true
  | i, S :: r => fit1 n i S.kind && fitsF n (i + 1) r
def lastK (st : List STree) (k : Nat) : List STree := st.drop (st.length - k)
def depthF (top : List STree) : Nat := top.foldl (fun d S => max d (S.d + 1)) 1
def flatS (st : List STree) : List Nd := st.flatMap STree.ns

def nodeF (n : Nd) (top : List STree) : STree := ⟨flatS top ++ [n], depthF top⟩

def stepF (n : Nd) (st : List STree) : Int ⊕ (List STree × List STree) :=
  if fieldsE n ≠ 0 then .inl (fieldsE n)
  else if (st.length : Int) < below n ∨ fitsF n 0 (lastK st (below n).toNat) = false then .inl 4
  else if 32 < depthF (lastK st (below n).toNat) then .inl 9
  else .inr (st.take (st.length - (below n).toNat), lastK st (below n).toNat)

abbrev Hist := List (List STree × STree)
def walkF : List Nd → List STree → Hist → Int × List STree × Hist
  | [], st, h => (if st.length = 1 then 0 else 4, st, h)
  | n :: r, st, h => match stepF n st with
    | .inl e => (e, st, h)
    | .inr (lo, top) => walkF r (lo ++ [nodeF n top]) (h ++ [(top, nodeF n top)])

theorem flatS_append (a b : List STree) : flatS (a ++ b) = flatS a ++ flatS b := List.flatMap_append
theorem flatS_one (S : STree) : flatS [S] = S.ns := by simp [flatS]
theorem flatS_cons (S : STree) (r : List STree) : flatS (S :: r) = S.ns ++ flatS r := List.flatMap_cons

theorem nodeF_len (n : Nd) (top : List STree) : (nodeF n top).ns.length = (flatS top).length + 1 := by simp [nodeF]
theorem nodeF_kind (n : Nd) (top : List STree) : (nodeF n top).kind = n.kind := by simp [nodeF, STree.kind]

/-! ### Trees that are well made -/

inductive Good : STree → Prop
  | mk (n : Nd) (top : List STree) (hg : ∀ S ∈ top, Good S) (hf : fieldsE n = 0) (hb : (top.length : Int) = Go.SL.below n) (hfit : fitsF n 0 top = true) (hd : depthF top ≤ 32) : Good (nodeF n top)

theorem Good.pos {S : STree} (h : Good S) : 0 < S.ns.length := by
  cases h with
  | mk n top _ _ _ _ _ => rw [nodeF_len]; omega

theorem lastK_append (st top : List STree) : lastK (st ++ top) top.length = top := by
  unfold lastK
  rw [List.length_append, Nat.add_sub_cancel, List.drop_left]

/-- The walk over a well made tree puts it on the stack, and makes the same history wherever. -/
theorem Good.walk {S : STree} (h : Good S) : ∃ H : Hist, H.length = S.ns.length ∧ ∀ rest st h0, walkF (S.ns ++ rest) st h0 = walkF rest (st ++ [S]) (h0 ++ H) := by
  induction h with
  | mk n top hg hf hb hfit hd ih =>
    have forest : ∀ l : List STree, (∀ S ∈ l, ∃ H : Hist, H.length = S.ns.length ∧ ∀ rest st h0, walkF (S.ns ++ rest) st h0 = walkF rest (st ++ [S]) (h0 ++ H)) →
        ∃ H : Hist, H.length = (flatS l).length ∧ ∀ rest st h0, walkF (flatS l ++ rest) st h0 = walkF rest (st ++ l) (h0 ++ H) := by
      intro l
      induction l with
      | nil => intro _; exact ⟨[], by simp [flatS], fun rest st h0 => by simp [flatS]⟩
      | cons S r ihl =>
        intro hl
        obtain ⟨H1, e1, f1⟩ := hl S List.mem_cons_self
        obtain ⟨H2, e2, f2⟩ := ihl fun T hT => hl T (List.mem_cons_of_mem _ hT)
        refine ⟨H1 ++ H2, by simp [flatS_cons, e1, e2], fun rest st h0 => ?_⟩
        rw [flatS_cons, List.append_assoc, f1, f2, List.append_assoc, List.append_assoc, List.singleton_append]
    obtain ⟨H, e, f⟩ := forest top ih
    refine ⟨H ++ [(top, nodeF n top)], by simp [nodeF_len, e], fun rest st h0 => ?_⟩
    have e1 : (nodeF n top).ns = flatS top ++ [n] := rfl
    rw [e1, List.append_assoc, f, List.singleton_append, walkF]
    have e2 : (Go.SL.below n).toNat = top.length := by omega
    have e3 : (st ++ top).length - top.length = st.length := by simp
    have e4 : stepF n (st ++ top) = .inr (st, top) := by
      unfold stepF
      rw [if_neg (by simp [hf]), e2, lastK_append, if_neg, if_neg (by omega), e3, List.take_left]
      simp [hfit]
      omega
    rw [e4]
    simp

/-! ### Where trees lie -/

/-- The roots of trees that lie in a row from o on. -/
def rootsFrom : Nat → List STree → List Nat
  | _, [] => []
  | o, S :: r => (o + S.ns.length - 1) :: rootsFrom (o + S.ns.length) r

/-- Where the tree of node i begins. -/
def lo (i : Nat) (x : List STree × STree) : Nat := i + 1 - x.2.ns.length
/-- The roots directly below node i. -/
def kidsH (i : Nat) (x : List STree × STree) : List Nat := rootsFrom (lo i x) x.1

theorem rootsFrom_length (o : Nat) (l : List STree) : (rootsFrom o l).length = l.length := by
  induction l generalizing o with
  | nil => rfl
  | cons S r ih => simp [rootsFrom, ih]

theorem rootsFrom_append (o : Nat) (a b : List STree) : rootsFrom o (a ++ b) = rootsFrom o a ++ rootsFrom (o + (flatS a).length) b := by
  induction a generalizing o with
  | nil => simp [rootsFrom, flatS]
  | cons S r ih => simp [rootsFrom, ih, flatS_cons, Nat.add_assoc]

theorem mem_roots {o k : Nat} {l : List STree} (h : k ∈ rootsFrom o l) : ∃ a S b, l = a ++ S :: b ∧ k = o + (flatS a).length + S.ns.length - 1 := by
  induction l generalizing o with
  | nil => cases h
  | cons S r ih =>
    rcases List.mem_cons.1 h with rfl | h
    · exact ⟨[], S, r, rfl, by simp [flatS]⟩
    · obtain ⟨a, T, b, rfl, rfl⟩ := ih h
      exact ⟨S :: a, T, b, rfl, by simp [flatS_cons, Nat.add_assoc]⟩

theorem roots_of {o : Nat} {a b : List STree} {S : STree} : o + (flatS a).length + S.ns.length - 1 ∈ rootsFrom o (a ++ S :: b) := by
  rw [rootsFrom_append]
  exact List.mem_append_right _ List.mem_cons_self

theorem roots_lt {o k : Nat} {l : List STree} (hp : ∀ S ∈ l, 0 < S.ns.length) (h : k ∈ rootsFrom o l) : o ≤ k ∧ k < o + (flatS l).length := by
  obtain ⟨a, S, b, rfl, rfl⟩ := mem_roots h
  have := hp S (by simp)
  simp only [flatS_append, flatS_cons, List.length_append]
  omega

theorem roots_inc {o : Nat} {l : List STree} (hp : ∀ S ∈ l, 0 < S.ns.length) : (rootsFrom o l).Pairwise (· < ·) := by
  induction l generalizing o with
  | nil => exact List.Pairwise.nil
  | cons S r ih =>
    refine List.pairwise_cons.2 ⟨fun k hk => ?_, ih fun T hT => hp T (List.mem_cons_of_mem _ hT)⟩
    have h1 := hp S List.mem_cons_self
    have h2 := (roots_lt (fun T hT => hp T (List.mem_cons_of_mem _ hT)) hk).1
    omega

/-- The history and the stack after the nodes 'done'. -/
structure Inv (dn : List Nd) (st : List STree) (h : Hist) : Prop where
  flat : flatS st = dn
  good : ∀ S ∈ st, Good S
  len : h.length = dn.length
  node : ∀ i x, h[i]? = some x → ∃ n, dn[i]? = some n ∧ x.2 = nodeF n x.1 ∧ (∀ T ∈ x.1, Good T) ∧ Good x.2 ∧ x.2.ns.length ≤ i + 1 ∧ (dn.take (i + 1)).drop (lo i x) = x.2.ns
  deep : ∀ x ∈ h, ∃ S ∈ st, x.2.d ≤ S.d
  cut : ∀ a b, st = a ++ b → ∀ j x, h[j]? = some x → (flatS a).length ≤ j → (flatS a).length ≤ lo j x
  lam : ∀ i j x y, h[i]? = some x → h[j]? = some y → j ≤ i → lo i x ≤ j → lo i x ≤ lo j y
  mid : ∀ i j x y, h[i]? = some x → h[j]? = some y → ∀ k ∈ kidsH j y, k < i → i < j → k < lo i x
  up : ∀ k < h.length, k ∈ rootsFrom 0 st ∨ ∃ j y, h[j]? = some y ∧ k ∈ kidsH j y
  apart : ∀ j y, h[j]? = some y → ∀ k ∈ kidsH j y, k ∉ rootsFrom 0 st
  one : ∀ i j x y, h[i]? = some x → h[j]? = some y → ∀ k, k ∈ kidsH i x → k ∈ kidsH j y → i = j

theorem Inv.nil : Inv [] [] [] where
  flat := rfl
  good := fun _ h => by cases h
  len := rfl
  node := fun i x h => by simp at h
  deep := fun _ h => by cases h
  cut := fun a b _ j x h => by simp at h
  lam := fun i j x y h => by simp at h
  mid := fun i j x y h => by simp at h
  up := fun k h => by simp at h
  apart := fun j y h => by simp at h
  one := fun i j x y h => by simp at h

theorem depthF_ge (top : List STree) : ∀ S ∈ top, S.d + 1 ≤ depthF top := by
  have : ∀ (l : List STree) (d : Nat), d ≤ l.foldl (fun d S => max d (S.d + 1)) d ∧ ∀ S ∈ l, S.d + 1 ≤ l.foldl (fun d S => max d (S.d + 1)) d := by
    intro l
    induction l with
    | nil => intro d; exact ⟨Nat.le_refl _, fun _ h => by cases h⟩
    | cons T r ih =>
      intro d
      obtain ⟨h1, h2⟩ := ih (max d (T.d + 1))
      refine ⟨?_, fun S hS => ?_⟩
      · rw [List.foldl_cons]; omega
      · rw [List.foldl_cons]
        rcases List.mem_cons.1 hS with rfl | hS
        · omega
        · exact h2 S hS
  exact (this top 1).2

theorem snoc_get {α : Type} {l : List α} {a x : α} {i : Nat} (h : (l ++ [a])[i]? = some x) : (i < l.length ∧ l[i]? = some x) ∨ (i = l.length ∧ x = a) := by
  rcases Nat.lt_trichotomy i l.length with h1 | h1 | h1
  · rw [List.getElem?_append_left h1] at h
    exact .inl ⟨h1, h⟩
  · subst h1
    simp at h
    exact .inr ⟨rfl, h.symm⟩
  · rw [List.getElem?_eq_none (by simp; omega)] at h
    cases h

theorem Inv.step {dn : List Nd} {st : List STree} {h : Hist} (hI : Inv dn st h) {n : Nd} {l top : List STree} (hs : stepF n st = .inr (l, top)) :
    Inv (dn ++ [n]) (l ++ [nodeF n top]) (h ++ [(top, nodeF n top)]) ∧ st = l ++ top := by
  unfold stepF at hs
  split at hs
  · cases hs
  rename_i hf
  split at hs
  · cases hs
  rename_i hb
  split at hs
  · cases hs
  rename_i hd
  simp only [Sum.inr.injEq, Prod.mk.injEq] at hs
  obtain ⟨rfl, rfl⟩ := hs
  have hst : st.take (st.length - (below n).toNat) ++ lastK st (below n).toNat = st := List.take_append_drop _ _
  have hlk : (lastK st (below n).toNat).length = min st.length (below n).toNat := by simp [lastK]; omega
  generalize st.take (st.length - (below n).toNat) = l at hst ⊢
  generalize lastK st (below n).toNat = top at hst hb hd hlk ⊢
  subst hst
  have hb1 : (0 : Int) ≤ below n ∧ fitsF n 0 top = true ∧ below n ≤ ((l ++ top).length : Int) := by
    refine ⟨?_, ?_, ?_⟩
    · have hk : kindOk n = true := by
        cases hk : kindOk n
        · exfalso
          apply hf
          intro h0
          simp [fieldsE, hk] at h0
        · rfl
      unfold below
      by_cases h7 : n.kind = 7
      · simp [kindOk, h7] at hk
        simp [h7]; exact hk
      · (repeat' split) <;> omega
    · cases hh : fitsF n 0 top
      · exact absurd (Or.inr hh) hb
      · rfl
    · omega
  obtain ⟨hb0, hfit, hble⟩ := hb1
  have hbl : (top.length : Int) = below n := by omega
  have hgt : ∀ S ∈ top, Good S := fun S hS => hI.good S (List.mem_append_right _ hS)
  have hgl : ∀ S ∈ l, Good S := fun S hS => hI.good S (List.mem_append_left _ hS)
  have hG : Good (nodeF n top) := .mk n top hgt (by omega) hbl hfit (by omega)
  have hflat : flatS l ++ flatS top = dn := by rw [← flatS_append]; exact hI.flat
  have hlen : h.length = (flatS l).length + (flatS top).length := by rw [hI.len, ← hflat, List.length_append]
  have hlo : lo h.length (top, nodeF n top) = (flatS l).length := by simp only [lo, nodeF_len]; omega
  have hkids : kidsH h.length (top, nodeF n top) = rootsFrom (0 + (flatS l).length) top := by rw [kidsH, hlo, Nat.zero_add]
  have hroots : rootsFrom 0 (l ++ top) = rootsFrom 0 l ++ kidsH h.length (top, nodeF n top) := by rw [rootsFrom_append, hkids]
  have hroots' : rootsFrom 0 (l ++ [nodeF n top]) = rootsFrom 0 l ++ [h.length] := by
    rw [rootsFrom_append]
    simp only [rootsFrom, nodeF_len]
    congr 2
    omega
  have hposl : ∀ S ∈ l, 0 < S.ns.length := fun S hS => (hgl S hS).pos
  have hpost : ∀ S ∈ top, 0 < S.ns.length := fun S hS => (hgt S hS).pos
  have hkb : ∀ k ∈ kidsH h.length (top, nodeF n top), (flatS l).length ≤ k ∧ k < h.length := fun k hk => by
    rw [hkids] at hk
    have := roots_lt hpost hk
    omega
  have hkj : ∀ j y, h[j]? = some y → ∀ k ∈ kidsH j y, k < j := fun j y hy k hk => by
    obtain ⟨m, _, e2, e3, _, e5, _⟩ := hI.node j y hy
    have h1 := roots_lt (fun T hT => (e3 T hT).pos) hk
    have h2 : y.2.ns.length = (flatS y.1).length + 1 := by rw [e2, nodeF_len]
    simp only [lo] at h1
    omega
  refine ⟨⟨?_, ?_, ?_, ?_, ?_, ?_, ?_, ?_, ?_, ?_, ?_⟩, rfl⟩
  · rw [flatS_append, flatS_one]
    show flatS l ++ (flatS top ++ [n]) = dn ++ [n]
    rw [← List.append_assoc, hflat]
  · intro S hS
    rcases List.mem_append.1 hS with hS | hS
    · exact hgl S hS
    · rw [List.mem_singleton.1 hS]; exact hG
  · simp [hI.len]
  · intro i x hx
    rcases snoc_get hx with ⟨hi, hx⟩ | ⟨rfl, rfl⟩
    · obtain ⟨m, e1, e2, e3, e4, e5, e6⟩ := hI.node i x hx
      refine ⟨m, ?_, e2, e3, e4, e5, ?_⟩
      · rw [List.getElem?_append_left (by rw [← hI.len]; exact hi)]; exact e1
      · rw [List.take_append_of_le_length (by rw [← hI.len]; exact hi)]; exact e6
    · refine ⟨n, by rw [hI.len]; simp, rfl, hgt, hG, by simp only [nodeF_len]; omega, ?_⟩
      rw [hlo, hI.len, List.take_of_length_le (by simp), ← hflat, List.append_assoc, List.drop_left]
      rfl
  · intro x hx
    rcases List.mem_append.1 hx with hx | hx
    · obtain ⟨S, hS, hd1⟩ := hI.deep x hx
      rcases List.mem_append.1 hS with hS | hS
      · exact ⟨S, List.mem_append_left _ hS, hd1⟩
      · refine ⟨nodeF n top, List.mem_append_right _ (List.mem_singleton.2 rfl), ?_⟩
        have := depthF_ge top S hS
        simp only [nodeF]; omega
    · rw [List.mem_singleton.1 hx]
      exact ⟨nodeF n top, List.mem_append_right _ (List.mem_singleton.2 rfl), Nat.le_refl _⟩
  · intro a b hab j x hx hj
    -- the cut lies in l, or behind all
    rcases List.append_eq_append_iff.1 hab with ⟨c, hc1, hc2⟩ | ⟨c, hc1, hc2⟩
    · -- a = l ++ c, [node] = c ++ b
      cases c with
      | nil =>
        rw [List.append_nil] at hc1
        subst hc1
        rcases snoc_get hx with ⟨hi, hx⟩ | ⟨rfl, rfl⟩
        · exact hI.cut a top rfl j x hx hj
        · rw [hlo]; exact Nat.le_refl _
      | cons T c' =>
        have hT : T = nodeF n top ∧ c' ++ b = [] := by
          simp only [List.cons_append, List.cons.injEq] at hc2
          exact ⟨hc2.1.symm, hc2.2.symm⟩
        obtain ⟨rfl, hcb⟩ := hT
        have hc' : c' = [] := (List.append_eq_nil_iff.1 hcb).1
        subst hc'
        exfalso
        have hj' : j < h.length + 1 := by
          have := (List.getElem?_eq_some_iff.1 hx).1
          simpa using this
        rw [hc1, flatS_append, flatS_one, List.length_append, nodeF_len] at hj
        omega
    · -- l = a ++ c
      subst hc1
      rcases snoc_get hx with ⟨hi, hx⟩ | ⟨rfl, rfl⟩
      · exact hI.cut a (c ++ top) (by simp) j x hx hj
      · rw [hlo, flatS_append, List.length_append]; omega
  · intro i j x y hx hy hji hle
    rcases snoc_get hx with ⟨hi, hx⟩ | ⟨rfl, rfl⟩
    · rcases snoc_get hy with ⟨hj, hy⟩ | ⟨rfl, rfl⟩
      · exact hI.lam i j x y hx hy hji hle
      · omega
    · rcases snoc_get hy with ⟨hj, hy⟩ | ⟨rfl, rfl⟩
      · rw [hlo] at hle ⊢
        exact hI.cut l top rfl j y hy hle
      · exact Nat.le_refl _
  · intro i j x y hx hy k hk hki hij
    rcases snoc_get hy with ⟨hj, hy⟩ | ⟨rfl, rfl⟩
    · rcases snoc_get hx with ⟨hi, hx⟩ | ⟨rfl, rfl⟩
      · exact hI.mid i j x y hx hy k hk hki hij
      · omega
    · rcases snoc_get hx with ⟨hi, hx'⟩ | ⟨rfl, rfl⟩
      · rw [hkids] at hk
        obtain ⟨a, S, b, hab, rfl⟩ := mem_roots hk
        have hS := hpost S (by simp [hab])
        have := hI.cut (l ++ a ++ [S]) b (by simp [hab]) i x hx'
        simp only [flatS_append, flatS_one, List.length_append] at this
        omega
      · omega
  · intro k hk
    rw [List.length_append, List.length_singleton] at hk
    by_cases hkh : k = h.length
    · left; rw [hroots', hkh]; simp
    · rcases hI.up k (by omega) with h1 | ⟨j, y, h1, h2⟩
      · rw [hroots] at h1
        rcases List.mem_append.1 h1 with h1 | h1
        · left; rw [hroots']; exact List.mem_append_left _ h1
        · right
          exact ⟨h.length, (top, nodeF n top), by simp, h1⟩
      · right
        refine ⟨j, y, ?_, h2⟩
        rw [List.getElem?_append_left (List.getElem?_eq_some_iff.1 h1).1]; exact h1
  · intro j y hy k hk
    rw [hroots']
    intro hm
    rcases snoc_get hy with ⟨hj, hy⟩ | ⟨rfl, rfl⟩
    · rcases List.mem_append.1 hm with hm | hm
      · exact hI.apart j y hy k hk (by rw [hroots]; exact List.mem_append_left _ hm)
      · have h1 := List.mem_singleton.1 hm
        have h2 := hkj j y hy k hk
        omega
    · have h1 := hkb k hk
      rcases List.mem_append.1 hm with hm | hm
      · have := roots_lt hposl hm
        omega
      · have := List.mem_singleton.1 hm
        omega
  · intro i j x y hx hy k hkx hky
    rcases snoc_get hx with ⟨hi, hx⟩ | ⟨rfl, rfl⟩
    · rcases snoc_get hy with ⟨hj, hy⟩ | ⟨rfl, rfl⟩
      · exact hI.one i j x y hx hy k hkx hky
      · exfalso
        exact hI.apart i x hx k hkx (by rw [hroots]; exact List.mem_append_right _ hky)
    · rcases snoc_get hy with ⟨hj, hy⟩ | ⟨rfl, rfl⟩
      · exfalso
        exact hI.apart j y hy k hky (by rw [hroots]; exact List.mem_append_right _ hkx)
      · rfl

theorem walkF_inv : ∀ (r dn : List Nd) (st : List STree) (h : Hist) (st' : List STree) (h' : Hist), Inv dn st h → walkF r st h = (0, st', h') → Inv (dn ++ r) st' h' ∧ st'.length = 1
  | [], dn, st, h, st', h', hI, hw => by
    simp only [walkF, Prod.mk.injEq] at hw
    obtain ⟨h1, rfl, rfl⟩ := hw
    refine ⟨by simpa using hI, ?_⟩
    split at h1
    · assumption
    · cases h1
  | n :: r, dn, st, h, st', h', hI, hw => by
    rw [walkF] at hw
    cases hs : stepF n st with
    | inl e =>
      rw [hs] at hw
      simp only [Prod.mk.injEq] at hw
      obtain ⟨rfl, _⟩ := hw
      exfalso
      unfold stepF at hs
      split at hs
      · injection hs with hs
        exact absurd hs (by assumption)
      · split at hs
        · cases hs
        · split at hs <;> cases hs
    | inr x =>
      obtain ⟨l, top⟩ := x
      rw [hs] at hw
      have := walkF_inv r _ _ _ _ _ (hI.step hs).1 hw
      simpa using this

/-- A walk without an error: a well made tree, and its history. -/
theorem walk_good {L : List Nd} {st : List STree} {h : Hist} (hw : walkF L [] [] = (0, st, h)) : ∃ S, st = [S] ∧ S.ns = L ∧ Good S ∧ Inv L [S] h := by
  obtain ⟨hI, h1⟩ := walkF_inv L [] [] [] st h Inv.nil hw
  match st, h1 with
  | [S], _ =>
    rw [List.nil_append] at hI
    exact ⟨S, rfl, by rw [← hI.flat, flatS_one], hI.good S (by simp), hI⟩

theorem Good.walk1 {S : STree} (hS : Good S) : ∃ h, walkF S.ns [] [] = (0, [S], h) := by
  obtain ⟨H, _, f⟩ := hS.walk
  refine ⟨H, ?_⟩
  have := f [] [] []
  rw [List.append_nil] at this
  rw [this]
  simp [walkF]

/-! ### The walk of Md is this walk -/

def ptsFrom : Nat → List STree → List Pt
  | _, [] => []
  | o, S :: r => ⟨o + S.ns.length - 1, S.d, decide (S.kind = 3)⟩ :: ptsFrom (o + S.ns.length) r
theorem ptsFrom_length (o : Nat) (l : List STree) : (ptsFrom o l).length = l.length := by
  induction l generalizing o with
  | nil => rfl
  | cons S r ih => simp [ptsFrom, ih]
theorem ptsFrom_append (o : Nat) (a b : List STree) : ptsFrom o (a ++ b) = ptsFrom o a ++ ptsFrom (o + (flatS a).length) b := by
  induction a generalizing o with
  | nil => simp [ptsFrom, flatS]
  | cons S r ih => simp [ptsFrom, ih, flatS_cons, Nat.add_assoc]
theorem ptsFrom_drop (o : Nat) (l : List STree) (m : Nat) : (ptsFrom o l).drop m = ptsFrom (o + (flatS (l.take m)).length) (l.drop m) := by
  induction l generalizing o m with
  | nil => simp [ptsFrom]
  | cons S r ih => cases m with
    | zero => simp [flatS]
    | succ m => simp [ptsFrom, ih, flatS_cons, Nat.add_assoc]
theorem ptsFrom_take (o : Nat) (l : List STree) (m : Nat) : (ptsFrom o l).take m = ptsFrom o (l.take m) := by
  induction l generalizing o m with
  | nil => simp [ptsFrom]
  | cons S r ih => cases m with
    | zero => simp [ptsFrom]
    | succ m => simp [ptsFrom, ih]
theorem ptsFrom_roots (o : Nat) (l : List STree) : (ptsFrom o l).map Pt.root = rootsFrom o l := by
  induction l generalizing o with
  | nil => rfl
  | cons S r ih => simp [ptsFrom, rootsFrom, ih]
theorem ptsFrom_depth (o : Nat) (l : List STree) : depthOf (ptsFrom o l) = depthF l := by
  have : ∀ (l : List STree) (o d : Nat), (ptsFrom o l).foldl (fun d p => max d (p.depth + 1)) d = l.foldl (fun d S => max d (S.d + 1)) d := by
    intro l
    induction l with
    | nil => intro o d; rfl
    | cons S r ih => intro o d; rw [ptsFrom, List.foldl_cons, List.foldl_cons, ih]
  exact this l o 1

theorem kindAt_root {L : List Nd} {o : Nat} {a b : List STree} {S : STree} (hS : 0 < S.ns.length) (hL : (L.drop o).take (flatS (a ++ S :: b)).length = flatS (a ++ S :: b)) : kindAt L (o + (flatS a).length + S.ns.length - 1) = S.kind := by
  have h1 : (flatS (a ++ S :: b))[(flatS a).length + (S.ns.length - 1)]? = S.ns[S.ns.length - 1]? := by
    rw [flatS_append, List.getElem?_append_right (by omega), Nat.add_sub_cancel_left, flatS_cons, List.getElem?_append_left (by omega)]
  rw [← hL, List.getElem?_take] at h1
  rw [if_pos (by rw [flatS_append, flatS_cons]; simp; omega), List.getElem?_drop] at h1
  rw [kindAt, STree.kind, List.getLast?_eq_getElem?, ← h1]
  congr 3
  omega

theorem fits_pts {L : List Nd} (n : Nd) {o : Nat} : ∀ (b a : List STree) (i : Int), (∀ S ∈ b, 0 < S.ns.length) → (L.drop o).take (flatS (a ++ b)).length = flatS (a ++ b) → fitsFrom L n i (ptsFrom (o + (flatS a).length) b) = fitsF n i b
  | [], a, i, _, _ => rfl
  | S :: r, a, i, hp, hL => by
    have h1 := kindAt_root (hp S List.mem_cons_self) hL
    have h2 := fits_pts n r (a ++ [S]) (i + 1) (fun T hT => hp T (List.mem_cons_of_mem _ hT)) (by simpa using hL)
    rw [flatS_append, flatS_one, List.length_append, ← Nat.add_assoc] at h2
    rw [ptsFrom, fitsFrom, fitsF, h2]
    congr 1
    simp only [fitOne, fit1, h1]

def visitsOf (h : Hist) : List Visit := h.zipIdx.map fun x => (kidsH x.2 x.1, x.1.2.d)
theorem visitsOf_snoc (h : Hist) (x : List STree × STree) : visitsOf (h ++ [x]) = visitsOf h ++ [(kidsH h.length x, x.2.d)] := by
  simp [visitsOf, List.zipIdx_append]

theorem walkT_eq {L : List Nd} : ∀ (r dn : List Nd) (st : List STree) (h : Hist), dn ++ r = L → Inv dn st h → walkT L r dn.length (ptsFrom 0 st) (visitsOf h) = ((walkF r st h).1, visitsOf (walkF r st h).2.2)
  | [], dn, st, h, hL, hI => by simp [walkT, walkF, ptsFrom_length]
  | n :: r, dn, st, h, hL, hI => by
    have hlast : ∀ k, topOf (ptsFrom 0 st) k = ptsFrom (flatS (st.take (st.length - k))).length (lastK st k) := fun k => by
      unfold topOf lastK
      rw [ptsFrom_length, ptsFrom_drop, Nat.zero_add]
    have hfits : ∀ k, fitsFrom L n 0 (topOf (ptsFrom 0 st) k) = fitsF n 0 (lastK st k) := fun k => by
      rw [hlast]
      have := fits_pts (L := L) n (o := 0) (lastK st k) (st.take (st.length - k)) 0 (fun S hS => (hI.good S (List.mem_of_mem_drop hS)).pos) (by
        rw [show st.take (st.length - k) ++ lastK st k = st from List.take_append_drop _ _, hI.flat, List.drop_zero, ← hL, List.take_left])
      rwa [Nat.zero_add] at this
    have hdep : ∀ k, depthOf (topOf (ptsFrom 0 st) k) = depthF (lastK st k) := fun k => by rw [hlast, ptsFrom_depth]
    rw [walkT, walkF]
    have hs : stepT L n dn.length (ptsFrom 0 st) = match stepF n st with
      | .inl e => .inl e
      | .inr (l, top) => .inr (ptsFrom 0 (l ++ [nodeF n top]), kidsH h.length (top, nodeF n top), (nodeF n top).d) := by
      unfold stepT stepF
      rw [ptsFrom_length, hfits, hdep]
      by_cases c1 : fieldsE n ≠ 0
      · rw [if_pos c1, if_pos c1]
      rw [if_neg c1, if_neg c1]
      by_cases c2 : (st.length : Int) < below n ∨ fitsF n 0 (lastK st (below n).toNat) = false
      · rw [if_pos c2, if_pos c2]
      rw [if_neg c2, if_neg c2]
      by_cases c3 : 32 < depthF (lastK st (below n).toNat)
      · rw [if_pos c3, if_pos c3]
      rw [if_neg c3, if_neg c3]
      have hfl : flatS (st.take (st.length - (below n).toNat)) ++ flatS (lastK st (below n).toNat) = dn := by
        rw [← flatS_append, show st.take (st.length - (below n).toNat) ++ lastK st (below n).toNat = st from List.take_append_drop _ _]
        exact hI.flat
      have hlen : dn.length = (flatS (st.take (st.length - (below n).toNat))).length + (flatS (lastK st (below n).toNat)).length := by rw [← hfl, List.length_append]
      have e1 := ptsFrom_take 0 st (st.length - (below n).toNat)
      have e2 : (topOf (ptsFrom 0 st) (below n).toNat).map Pt.root = kidsH h.length (lastK st (below n).toNat, nodeF n (lastK st (below n).toNat)) := by
        rw [hlast, ptsFrom_roots, kidsH]
        congr 1
        simp only [lo, nodeF_len, hI.len]
        omega
      dsimp only
      rw [e1, e2, ptsFrom_append]
      simp only [ptsFrom, nodeF_len, nodeF_kind]
      congr 4
      have e3 : 0 + (flatS (st.take (st.length - (below n).toNat))).length + ((flatS (lastK st (below n).toNat)).length + 1) - 1 = dn.length := by omega
      rw [e3]
      rfl
    rw [hs]
    cases hsf : stepF n st with
    | inl e => rfl
    | inr x =>
      obtain ⟨l, top⟩ := x
      dsimp only
      have h1 := walkT_eq r (dn ++ [n]) (l ++ [nodeF n top]) (h ++ [(top, nodeF n top)]) (by simpa using hL) (hI.step hsf).1
      rw [visitsOf_snoc, List.length_append, List.length_singleton] at h1
      exact h1

/-- The walk of Md from its beginning. -/
theorem walkT_walkF (L : List Nd) : walkT L L 0 [] [] = ((walkF L [] []).1, visitsOf (walkF L [] []).2.2) := by
  have := walkT_eq (L := L) L [] [] [] rfl Inv.nil
  exact this
end Go.SL

/-
  From the readings of a law's arguments to the cells that the walks ask for, and what a law that returns true leaves.
-/
namespace Go.SL
open Go Go.Proofs Go.ChangeShapes Go.WideShapes Go.ChangeAt Go.RowKit Go.Deep

section
variable {H : Type} {enc : TypeId × Value → H} {P : Program} {w : World} {base : Nat} {spare : Nat → Bool} {held : Bool}

/-- A law that only makes memory of its own: what was there reads as it did. -/
theorem post_of_below {f : Func} {s : ChangeSpec} {apart fresh handsOn again : Bool} {W W' : World} {args : Array Value} {v : Value} {ds gs : List (DataW H)} {before pa pv : List MemPlace}
    (hW : DataW.Whole enc P f.params.toList s.vars apart W args.toList ds gs before)
    (hres : ∀ (b : Nat) (sp : Nat → Bool) (hd : Bool), DataW.TrodAll enc P W' b sp hd f.resultTypes.toList (v.resultList f.resultTypes.size) (s.fn H (ds ++ gs)).results [])
    (hargs : ∀ sp : Nat → Bool, (∀ p ∈ before, sp p.block = true) → DataW.TrodAll enc P W' 0 sp true f.params.toList args.toList (s.fn H (ds ++ gs)).args pa)
    (hvars : ∀ sp : Nat → Bool, (∀ p ∈ before, sp p.block = true) → DataW.TrodVars enc P W' sp s.vars (s.fn H (ds ++ gs)).vars pv)
    (hps : before = pa ++ pv) (hb : Below W.heap.size W W')
    (hok : ∀ (j : Nat) (t : TypeId) (r : Value), f.resultTypes[j]? = some t → (v.resultList f.resultTypes.size)[j]? = some r → Value.okWide P W' .any 0 t r) :
    s.post enc P f apart fresh handsOn again W args v W' := by
  have hold : ∀ p ∈ before, (fun b => decide (b < W.heap.size)) p.block = true := fun p hp => by simpa using hW.lt p hp
  refine ⟨ds, gs, before, [], pa, pv, hW, hres _ _ _, hargs _ hold, hvars _ hold, hb.frame _, fun _ => ?_⟩
  have hlt := hW.lt
  obtain ⟨_, _, _, _, _, hz, hn⟩ := hW
  refine ⟨hok, _, _, ([] ++ pa) ++ pv, ⟨[] ++ pa, pv, trodAll_append (hargs _ (fun _ _ => rfl)) (hres _ _ _), hvars _ (fun _ _ => rfl), rfl, ?_, ?_⟩, ?_⟩
  · intro b off hp
    have hp' : MemPlace.cell b off ∈ before := by rw [hps]; simpa using hp
    have h1 := hz b off hp'
    have h2 := hlt _ hp'
    rw [← h1]
    exact hb.frozen h2
  · intro ha
    have := hn ha
    rw [hps] at this
    simpa using this
  · intro p hp _
    rw [hps]
    simpa using hp

theorem trod_stays_of {t : TypeId} (hl : laidOutB P = true) (hr : P.readableRec t = true) (hrow : t < P.types.size) {W W' : World} {v : Value} {d : DataW H} {ps : List MemPlace} {sp : Nat → Bool}
    (h : DataW.Trod enc P W 0 (fun _ => true) true t v d ps) (hb : Below W.heap.size W W') (hlt : ∀ x ∈ ps, x.block < W.heap.size) (hs : ∀ x ∈ ps, sp x.block = true) : DataW.Trod enc P W' 0 sp true t v d ps :=
  WideElems.Trod_stays hl hr hrow h (fun x hx => hb.same (hlt x hx)) hs
end

theorem Try_own : ownKnob Try.prog.godebug = none := by kernel_rfl
theorem Try_laidOut : laidOutB Try.prog = true := by kernel_rfl

section
variable {H : Type} {enc : TypeId × Value → H} {w : World} {base : Nat} {spare : Nat → Bool} {held : Bool}

/-- Numbers as their types hold them. -/
def okB (z : Int) : Prop := 0 ≤ z ∧ z ≤ 255
def okV (v : Vl) : Prop := okB v.kind ∧ I64 v.num
def okR (r : Rct) : Prop := I64 r.c1 ∧ I64 r.r1 ∧ I64 r.c2 ∧ I64 r.r2
def okN (n : Nd) : Prop := okB n.kind ∧ okV n.v ∧ okR n.rect ∧ I64 n.op ∧ okB n.fn ∧ I64 n.n

theorem cellsOf_of {P : Program} {t : Nat} {i : TypeInfo} (h : P.info? t = some i) : P.cellsOf t = i.size := by
  simp [Program.cellsOf, h]

set_option maxRecDepth 100000 in
theorem trod_val {fuel : Nat} {cs : List Value} {x : DataW H × List MemPlace} (h : DataW.trod enc Try.prog w base spare held fuel 36 cs = some x) : ∃ v : Vl, cs = encV v ∧ okV v := by
  obtain ⟨xs, n, _, _, hlen, hxl, hf⟩ := DataW.trod_struct Try.underlying36 h
  have e36 : Try.prog.cellsOf 36 = 3 := by kernel_rfl
  have e5 : Try.prog.cellsOf 5 = 1 := by kernel_rfl
  have e2 : Try.prog.cellsOf 2 = 1 := by kernel_rfl
  have e9 : Try.prog.cellsOf 9 = 1 := by kernel_rfl
  rw [e36] at hlen
  match cs, hlen, xs, hxl with
  | [c0, c1, c2], _, [x0, x1, x2], _ =>
    have h0 : DataW.trod enc Try.prog w base spare held n 5 ((([c0, c1, c2] : List Value).drop 0).take (Try.prog.cellsOf 5)) = some x0 := hf 0 _ rfl
    rw [e5] at h0
    replace h0 : DataW.trod enc Try.prog w base spare held n 5 [c0] = some x0 := h0
    have h1 : DataW.trod enc Try.prog w base spare held n 2 ((([c0, c1, c2] : List Value).drop 1).take (Try.prog.cellsOf 2)) = some x1 := hf 1 _ rfl
    rw [e2] at h1
    replace h1 : DataW.trod enc Try.prog w base spare held n 2 [c1] = some x1 := h1
    have h2 : DataW.trod enc Try.prog w base spare held n 9 ((([c0, c1, c2] : List Value).drop 2).take (Try.prog.cellsOf 9)) = some x2 := hf 2 _ rfl
    rw [e9] at h2
    replace h2 : DataW.trod enc Try.prog w base spare held n 9 [c2] = some x2 := h2
    obtain ⟨a0, q0, _, w0⟩ := DataW.trod_int Try.underlying5 h0
    obtain ⟨a1, q1, _, w1⟩ := DataW.trod_int Try.underlying2 h1
    obtain ⟨a2, q2, _⟩ := DataW.trod_string Try.underlying9 h2
    simp only [List.cons.injEq, and_true] at q0 q1 q2
    subst q0; subst q1; subst q2
    exact ⟨⟨a0, a1, a2⟩, rfl, bounds_u8 w0, bounds_i64 w1⟩

set_option maxRecDepth 100000 in
theorem trod_rect {fuel : Nat} {cs : List Value} {x : DataW H × List MemPlace} (h : DataW.trod enc Try.prog w base spare held fuel 38 cs = some x) : ∃ v : Rct, cs = encR v ∧ okR v := by
  obtain ⟨xs, n, _, _, hlen, hxl, hf⟩ := DataW.trod_struct Try.underlying38 h
  have e38 : Try.prog.cellsOf 38 = 4 := by kernel_rfl
  have e3 : Try.prog.cellsOf 3 = 1 := by kernel_rfl
  rw [e38] at hlen
  match cs, hlen, xs, hxl with
  | [c0, c1, c2, c3], _, [x0, x1, x2, x3], _ =>
    have h0 : DataW.trod enc Try.prog w base spare held n 3 ((([c0, c1, c2, c3] : List Value).drop 0).take (Try.prog.cellsOf 3)) = some x0 := hf 0 _ rfl
    rw [e3] at h0
    replace h0 : DataW.trod enc Try.prog w base spare held n 3 [c0] = some x0 := h0
    have h1 : DataW.trod enc Try.prog w base spare held n 3 ((([c0, c1, c2, c3] : List Value).drop 1).take (Try.prog.cellsOf 3)) = some x1 := hf 1 _ rfl
    rw [e3] at h1
    replace h1 : DataW.trod enc Try.prog w base spare held n 3 [c1] = some x1 := h1
    have h2 : DataW.trod enc Try.prog w base spare held n 3 ((([c0, c1, c2, c3] : List Value).drop 2).take (Try.prog.cellsOf 3)) = some x2 := hf 2 _ rfl
    rw [e3] at h2
    replace h2 : DataW.trod enc Try.prog w base spare held n 3 [c2] = some x2 := h2
    have h3 : DataW.trod enc Try.prog w base spare held n 3 ((([c0, c1, c2, c3] : List Value).drop 3).take (Try.prog.cellsOf 3)) = some x3 := hf 3 _ rfl
    rw [e3] at h3
    replace h3 : DataW.trod enc Try.prog w base spare held n 3 [c3] = some x3 := h3
    obtain ⟨a0, q0, _, w0⟩ := DataW.trod_int Try.underlying3 h0
    obtain ⟨a1, q1, _, w1⟩ := DataW.trod_int Try.underlying3 h1
    obtain ⟨a2, q2, _, w2⟩ := DataW.trod_int Try.underlying3 h2
    obtain ⟨a3, q3, _, w3⟩ := DataW.trod_int Try.underlying3 h3
    simp only [List.cons.injEq, and_true] at q0 q1 q2 q3
    subst q0; subst q1; subst q2; subst q3
    exact ⟨⟨a0, a1, a2, a3⟩, rfl, bounds_i64 w0, bounds_i64 w1, bounds_i64 w2, bounds_i64 w3⟩

set_option maxRecDepth 100000 in
theorem trod_node {fuel : Nat} {cs : List Value} {x : DataW H × List MemPlace} (h : DataW.trod enc Try.prog w base spare held fuel 40 cs = some x) : ∃ n : Nd, cs = encN n ∧ okN n := by
  obtain ⟨xs, n, _, _, hlen, hxl, hf⟩ := DataW.trod_struct Try.underlying40 h
  have e40 : Try.prog.cellsOf 40 = 11 := by kernel_rfl
  have e5 : Try.prog.cellsOf 5 = 1 := by kernel_rfl
  have e36 : Try.prog.cellsOf 36 = 3 := by kernel_rfl
  have e38 : Try.prog.cellsOf 38 = 4 := by kernel_rfl
  have e2 : Try.prog.cellsOf 2 = 1 := by kernel_rfl
  have e3 : Try.prog.cellsOf 3 = 1 := by kernel_rfl
  rw [e40] at hlen
  match cs, hlen, xs, hxl with
  | [c0, c1, c2, c3, c4, c5, c6, c7, c8, c9, c10], _, [x0, x1, x2, x3, x4, x5], _ =>
    have h0 : DataW.trod enc Try.prog w base spare held n 5 ((([c0, c1, c2, c3, c4, c5, c6, c7, c8, c9, c10] : List Value).drop 0).take (Try.prog.cellsOf 5)) = some x0 := hf 0 _ rfl
    rw [e5] at h0
    replace h0 : DataW.trod enc Try.prog w base spare held n 5 [c0] = some x0 := h0
    have h1 : DataW.trod enc Try.prog w base spare held n 36 ((([c0, c1, c2, c3, c4, c5, c6, c7, c8, c9, c10] : List Value).drop 1).take (Try.prog.cellsOf 36)) = some x1 := hf 1 _ rfl
    rw [e36] at h1
    replace h1 : DataW.trod enc Try.prog w base spare held n 36 [c1, c2, c3] = some x1 := h1
    have h2 : DataW.trod enc Try.prog w base spare held n 38 ((([c0, c1, c2, c3, c4, c5, c6, c7, c8, c9, c10] : List Value).drop 4).take (Try.prog.cellsOf 38)) = some x2 := hf 2 _ rfl
    rw [e38] at h2
    replace h2 : DataW.trod enc Try.prog w base spare held n 38 [c4, c5, c6, c7] = some x2 := h2
    have h3 : DataW.trod enc Try.prog w base spare held n 2 ((([c0, c1, c2, c3, c4, c5, c6, c7, c8, c9, c10] : List Value).drop 8).take (Try.prog.cellsOf 2)) = some x3 := hf 3 _ rfl
    rw [e2] at h3
    replace h3 : DataW.trod enc Try.prog w base spare held n 2 [c8] = some x3 := h3
    have h4 : DataW.trod enc Try.prog w base spare held n 5 ((([c0, c1, c2, c3, c4, c5, c6, c7, c8, c9, c10] : List Value).drop 9).take (Try.prog.cellsOf 5)) = some x4 := hf 4 _ rfl
    rw [e5] at h4
    replace h4 : DataW.trod enc Try.prog w base spare held n 5 [c9] = some x4 := h4
    have h5 : DataW.trod enc Try.prog w base spare held n 3 ((([c0, c1, c2, c3, c4, c5, c6, c7, c8, c9, c10] : List Value).drop 10).take (Try.prog.cellsOf 3)) = some x5 := hf 5 _ rfl
    rw [e3] at h5
    replace h5 : DataW.trod enc Try.prog w base spare held n 3 [c10] = some x5 := h5
    obtain ⟨a0, q0, _, w0⟩ := DataW.trod_int Try.underlying5 h0
    obtain ⟨a1, q1, w1⟩ := trod_val h1
    obtain ⟨a2, q2, w2⟩ := trod_rect h2
    obtain ⟨a3, q3, _, w3⟩ := DataW.trod_int Try.underlying2 h3
    obtain ⟨a4, q4, _, w4⟩ := DataW.trod_int Try.underlying5 h4
    obtain ⟨a5, q5, _, w5⟩ := DataW.trod_int Try.underlying3 h5
    simp only [encV, encR, List.cons.injEq, and_true] at q0 q1 q2 q3 q4 q5
    refine ⟨⟨a0, a1, a2, a3, a4, a5⟩, ?_, bounds_u8 w0, w1, w2, bounds_i64 w3, bounds_u8 w4, bounds_i64 w5⟩
    simp only [encN]
    simp [q0, q1, q2, q3, q4, q5]

instance : Inhabited Nd := ⟨⟨0, zeroV, zeroR, 0, 0, 0⟩⟩

/-- The cells of a row of records, read one record at a time, are the records' cells in a row. -/
theorem cells_flat {α : Type} {enc : α → List Value} {m : Nat} (hm : ∀ a, (enc a).length = m) (w : World) (g o : Nat) : ∀ (L : List α), (∀ (i : Nat) (a : α), L[i]? = some a → Cells w g (o + i * m) (enc a)) → Cells w g o (L.flatMap enc) := by
  intro L h j v hv
  by_cases hm0 : m = 0
  · have : (L.flatMap enc).length = 0 := by rw [flat_length' hm, hm0, Nat.mul_zero]
    rw [List.getElem?_eq_none (by omega)] at hv
    cases hv
  have hlen : (L.flatMap enc).length = L.length * m := flat_length' hm L
  have hj : j < (L.flatMap enc).length := (List.getElem?_eq_some_iff.1 hv).1
  have hi : j / m < L.length := by rw [Nat.div_lt_iff_lt_mul (by omega)]; omega
  have hk : j % m < m := Nat.mod_lt _ (by omega)
  have he : j / m * m + j % m = j := by rw [Nat.mul_comm]; exact Nat.div_add_mod j m
  have h1 := flat_cell hm L (j / m) (j % m) hi hk
  rw [he, hv] at h1
  have h2 := h (j / m) L[j / m] (List.getElem?_eq_getElem hi) (j % m) v h1.symm
  rw [show o + j / m * m + j % m = o + j by omega] at h2
  exact h2

set_option maxRecDepth 100000 in
/-- An argument that is a slice of nodes reads as cells. -/
theorem open_tree {v : Value} {d : DataW H} {p : List MemPlace} (hv : Value.okWide Try.prog w .any base 22 v) (h : DataW.Trod enc Try.prog w 0 spare held 22 v d p) : ∃ L : List Nd, Reads w v L.length (L.flatMap encN) ∧ ∀ n ∈ L, okN n := by
  obtain ⟨fuel, hf⟩ := h
  have hc : v.cells.toList = [v] := by
    obtain ⟨a, n, c, rfl⟩ := okWide_slice Try.underlying22 hv
    rfl
  rw [hc] at hf
  rcases open_slice Try.underlying22 hf with ⟨h0, _⟩ | ⟨a, len, cap, m, n, D, Pl, h0, hb, hl, hm, hmm, _, hx⟩
  · simp only [List.cons.injEq, and_true] at h0
    subst h0
    exact ⟨[], ⟨none, 0, rfl, Nat.le_refl _, Nat.zero_le _, fun h => by cases h⟩, fun _ h => by cases h⟩
  · simp only [List.cons.injEq, and_true] at h0
    subst h0
    have hlm : len ≤ m := by rw [hmm]; split <;> omega
    have e40 : Try.prog.cellsOf 40 = 11 := by kernel_rfl
    obtain ⟨F, hF⟩ := choose_lt (α := Nd) (n := len) (p := fun i nd => w.cells? 0 (a.add (i * 11)) 11 = some (encN nd) ∧ okN nd) (fun i hi => by
      obtain ⟨cs', h1, h2⟩ := hx i (by omega)
      rw [e40] at h1
      obtain ⟨nd, rfl, hw⟩ := trod_node h2
      exact ⟨nd, h1, hw⟩)
    have hlen : ((List.range len).map F).length = len := by simp
    refine ⟨(List.range len).map F, ⟨some a, cap, by rw [hlen], by omega, hm, fun hpos => ?_⟩, fun n hn => ?_⟩
    rotate_left
    · obtain ⟨i, hi, rfl⟩ := List.mem_map.1 hn
      exact (hF i (List.mem_range.1 hi)).2
    rw [hlen] at hpos
    obtain ⟨g, o, spot⟩ := a
    have hspot : spot = none := by
      obtain ⟨_, _, h3⟩ := World.cells?_some (hF 0 (by omega)).1
      have h4 := World.cell?_spot (h3 0 (by omega))
      simpa [Addr.add] using h4
    subst hspot
    have hcell : ∀ (i : Nat) (nd : Nd), ((List.range len).map F)[i]? = some nd → Cells w g (o + i * 11) (encN nd) := by
      intro i nd hnd k v hv
      have hil : i < len := by have := (List.getElem?_eq_some_iff.1 hnd).1; omega
      have hnd' : F i = nd := by simpa [hil] using hnd
      subst hnd'
      have hk : k < 11 := by have := (List.getElem?_eq_some_iff.1 hv).1; rwa [encN_len] at this
      obtain ⟨_, _, h3⟩ := World.cells?_some (hF i hil).1
      have := h3 k hk
      rw [hv, addr_add, addr_add] at this
      exact this
    refine ⟨g, o, rfl, ?_, cells_flat encN_len w g o _ hcell⟩
    have h5 := hcell 0 (F 0) (by simp [hpos]) 0 _ rfl
    simp only [World.cell?] at h5
    split at h5
    · rename_i h6
      exact (Array.getElem?_eq_some_iff.1 h6).1
    · cases h5

end
end Go.SL

/-
  What the functions of packages addr, rect and the small ones of package tree return.
-/
namespace Go.SL
open Go Go.Proofs
attribute [local irreducible] W WL WQ WG VOp thn blk retP FnAt FnIn

set_option maxRecDepth 10000 in
theorem valid_at (c r : Int) (w : World) : Pure Try.prog 74 [.agg #[.int .i64 c, .int .i64 r]] w (.bool (valid c r)) := by
  refine fn_at Try.func74 rfl Try.ntmps74 rfl ?_
  repeat' (first
    | ((with_reducible apply wl_v); exact rfl; (first | ((with_reducible apply vop_ok); exact rfl) | ((with_reducible apply v_fieldAddr); exact rfl) | ((with_reducible apply v_load_box); exact rfl; (repeat first | exact .hd | apply Sel.tl | apply In.tl); exact rfl) | ((with_reducible apply v_loadw_box); exact rfl; (repeat first | exact .hd | apply Sel.tl | apply In.tl); exact rfl) | ((with_reducible apply v_loadn_box); exact rfl; (repeat first | exact .hd | apply Sel.tl | apply In.tl); exact rfl; exact rfl)))
    | ((with_reducible apply wl_gyes); exact rfl; exact rfl)
    | ((with_reducible apply wl_gno_b); exact rfl; exact rfl; exact rfl; exact rfl)
    | ((with_reducible apply wl_gno_u); exact rfl; exact rfl; exact rfl)
    | ((with_reducible apply wl_boxs); exact rfl; exact rfl; intro _)
    | ((with_reducible apply wl_box1); exact rfl; exact rfl; exact rfl; intro _)
    | ((with_reducible apply wl_gsplit) <;> first | exact rfl | (intro hb; (replace hb := Tidy.out hb; try (exfalso; omega))))
    | (with_reducible first | apply wl_nil | apply thn_n | apply w_seq | apply w_region | apply w_ret | apply w_skip | apply w_exit | apply w_block | apply thn_r | apply thn_e | apply blk_n | apply blk_r | apply blk_e)
    | ((with_reducible apply w_cond_true); exact rfl)
    | ((with_reducible apply w_cond_false); exact rfl)
    | ((with_reducible apply w_cond) <;> first | exact rfl | (intro hb; (replace hb := Tidy.out hb; try (exfalso; omega))))
    | ((with_reducible apply blk_x); exact rfl))
  all_goals (((with_reducible apply ret1); exact .inl rfl; exact rfl; exact rfl; exact MSub.nil _); ((try simp only [← Int.not_lt] at *); simp_all [valid, -Int.not_lt, -Int.not_le, ← Int.not_lt]))

set_option maxRecDepth 10000 in
theorem corners_at (r : Rct) (w : World) : Pure Try.prog 73 [.agg (encR r).toArray] w (.tuple #[.agg #[.int .i64 r.c1, .int .i64 r.r1], .agg #[.int .i64 r.c2, .int .i64 r.r2]]) := by
  refine fn_at Try.func73 rfl Try.ntmps73 rfl ?_
  repeat' (first
    | ((with_reducible apply wl_v); exact rfl; (first | ((with_reducible apply vop_ok); exact rfl) | ((with_reducible apply v_fieldAddr); exact rfl) | ((with_reducible apply v_load_box); exact rfl; (repeat first | exact .hd | apply Sel.tl | apply In.tl); exact rfl) | ((with_reducible apply v_loadw_box); exact rfl; (repeat first | exact .hd | apply Sel.tl | apply In.tl); exact rfl) | ((with_reducible apply v_loadn_box); exact rfl; (repeat first | exact .hd | apply Sel.tl | apply In.tl); exact rfl; exact rfl) | ((with_reducible apply v_build); exact rfl; exact rfl; exact rfl)))
    | ((with_reducible apply wl_boxs); exact rfl; exact rfl; intro _)
    | ((with_reducible apply wl_box1); exact rfl; exact rfl; exact rfl; intro _)
    | ((with_reducible apply wl_alloc); exact rfl; intro _)
    | ((with_reducible apply wl_storen_box); exact rfl; exact rfl; (repeat first | exact .hd | apply Sel.tl | apply In.tl); exact rfl; exact rfl; exact rfl)
    | ((with_reducible apply wl_putn_box); exact rfl; exact rfl; (repeat first | exact .hd | apply Sel.tl | apply In.tl); exact rfl; exact rfl; exact rfl; exact rfl)
    | (with_reducible first | apply wl_nil | apply thn_n | apply w_seq | apply w_region | apply w_ret | apply w_skip | apply w_exit | apply w_block | apply thn_r | apply thn_e | apply blk_n | apply blk_r | apply blk_e)
    | ((with_reducible apply w_cond_true); exact rfl)
    | ((with_reducible apply w_cond_false); exact rfl)
    | ((with_reducible apply w_cond) <;> first | exact rfl | (intro hb; (replace hb := Tidy.out hb; try (exfalso; omega))))
    | ((with_reducible apply blk_x); exact rfl))
  rename_i g1 g2 g3
  refine w_drawG (fun D => [.box g2 100 [.int .i64 (bif D 10 then r.c1 else 0), .int .i64 (bif D 10 then r.r1 else 0)], .box g3 100 [.int .i64 (bif D 11 then r.c2 else 0), .int .i64 (bif D 11 then r.r2 else 0)], .box g1 38 (encR r)]) (by kernel_rfl) (by kernel_rfl) (.pick (.tl .hd) (.pick .hd (.refl _))) ?_
  repeat' (first
    | ((with_reducible apply wl_v); exact rfl; (first | ((with_reducible apply vop_ok); exact rfl) | ((with_reducible apply v_fieldAddr); exact rfl) | ((with_reducible apply v_load_box); exact rfl; (repeat first | exact .hd | apply Sel.tl | apply In.tl); exact rfl) | ((with_reducible apply v_loadw_box); exact rfl; (repeat first | exact .hd | apply Sel.tl | apply In.tl); exact rfl) | ((with_reducible apply v_loadn_box); exact rfl; (repeat first | exact .hd | apply Sel.tl | apply In.tl); exact rfl; exact rfl) | ((with_reducible apply v_build); exact rfl; exact rfl; exact rfl)))
    | ((with_reducible apply wl_boxs); exact rfl; exact rfl; intro _)
    | ((with_reducible apply wl_box1); exact rfl; exact rfl; exact rfl; intro _)
    | ((with_reducible apply wl_alloc); exact rfl; intro _)
    | ((with_reducible apply wl_storen_box); exact rfl; exact rfl; (repeat first | exact .hd | apply Sel.tl | apply In.tl); exact rfl; exact rfl; exact rfl)
    | ((with_reducible apply wl_putn_box); exact rfl; exact rfl; (repeat first | exact .hd | apply Sel.tl | apply In.tl); exact rfl; exact rfl; exact rfl; exact rfl)
    | (with_reducible first | apply wl_nil | apply thn_n | apply w_seq | apply w_region | apply w_ret | apply w_skip | apply w_exit | apply w_block | apply thn_r | apply thn_e | apply blk_n | apply blk_r | apply blk_e | apply wg_nil)
    | ((with_reducible apply w_cond_true); exact rfl)
    | ((with_reducible apply w_cond_false); exact rfl)
    | ((with_reducible apply w_cond) <;> first | exact rfl | (intro hb; (replace hb := Tidy.out hb; try (exfalso; omega))))
    | ((with_reducible apply blk_x); exact rfl)
    | ((with_reducible apply wg_v); exact rfl; (intro D ht; (first | ((with_reducible apply vop_ok); exact rfl) | ((with_reducible apply v_fieldAddr); exact rfl) | ((with_reducible apply v_load_box); exact rfl; (repeat first | exact .hd | apply Sel.tl | apply In.tl); exact rfl) | ((with_reducible apply v_loadw_box); exact rfl; (repeat first | exact .hd | apply Sel.tl | apply In.tl); exact rfl) | ((with_reducible apply v_loadn_box); exact rfl; (repeat first | exact .hd | apply Sel.tl | apply In.tl); exact rfl; exact rfl) | ((with_reducible apply v_build); exact rfl; exact rfl; exact rfl))); exact fun _ => rfl)
    | (refine wg_put _ _ rfl rfl (fun D => .hd) rfl rfl rfl (fun _ => Nat.le_of_ble_eq_true rfl) (fun D ht => .refl _) ?_)
    | ((with_reducible apply wg_l (f := 60)); exact rfl; decide +kernel; exact rfl; (first | ((with_reducible apply vop_ok); exact rfl) | ((with_reducible apply v_fieldAddr); exact rfl) | ((with_reducible apply v_load_box); exact rfl; (repeat first | exact .hd | apply Sel.tl | apply In.tl); exact rfl) | ((with_reducible apply v_loadw_box); exact rfl; (repeat first | exact .hd | apply Sel.tl | apply In.tl); exact rfl) | ((with_reducible apply v_loadn_box); exact rfl; (repeat first | exact .hd | apply Sel.tl | apply In.tl); exact rfl; exact rfl) | ((with_reducible apply v_build); exact rfl; exact rfl; exact rfl))))
  refine wg_put _ _ rfl rfl (fun D => .tl .hd) rfl rfl rfl (fun _ => Nat.le_refl _) (fun D ht => .pick (.tl .hd) (.pick .hd (.refl _))) ?_
  refine wg_nil fun D hD => ?_
  have h10 := hD 10 (by decide)
  have h11 := hD 11 (by decide)
  simp only [h10, h11, cond_true]
  repeat' (first
    | ((with_reducible apply wl_v); exact rfl; (first | ((with_reducible apply vop_ok); exact rfl) | ((with_reducible apply v_fieldAddr); exact rfl) | ((with_reducible apply v_load_box); exact rfl; (repeat first | exact .hd | apply Sel.tl | apply In.tl); exact rfl) | ((with_reducible apply v_loadw_box); exact rfl; (repeat first | exact .hd | apply Sel.tl | apply In.tl); exact rfl) | ((with_reducible apply v_loadn_box); exact rfl; (repeat first | exact .hd | apply Sel.tl | apply In.tl); exact rfl; exact rfl) | ((with_reducible apply v_build); exact rfl; exact rfl; exact rfl)))
    | ((with_reducible apply wl_boxs); exact rfl; exact rfl; intro _)
    | ((with_reducible apply wl_box1); exact rfl; exact rfl; exact rfl; intro _)
    | ((with_reducible apply wl_alloc); exact rfl; intro _)
    | ((with_reducible apply wl_storen_box); exact rfl; exact rfl; (repeat first | exact .hd | apply Sel.tl | apply In.tl); exact rfl; exact rfl; exact rfl)
    | ((with_reducible apply wl_putn_box); exact rfl; exact rfl; (repeat first | exact .hd | apply Sel.tl | apply In.tl); exact rfl; exact rfl; exact rfl; exact rfl)
    | (with_reducible first | apply wl_nil | apply thn_n | apply w_seq | apply w_region | apply w_ret | apply w_skip | apply w_exit | apply w_block | apply thn_r | apply thn_e | apply blk_n | apply blk_r | apply blk_e)
    | ((with_reducible apply w_cond_true); exact rfl)
    | ((with_reducible apply w_cond_false); exact rfl)
    | ((with_reducible apply w_cond) <;> first | exact rfl | (intro hb; (replace hb := Tidy.out hb; try (exfalso; omega))))
    | ((with_reducible apply blk_x); exact rfl))
  refine retcc (.inl rfl) Try.results73 rfl .hd rfl rfl (.tl .hd) rfl (MSub.nil _) ?_
  rfl

set_option maxRecDepth 10000 in
theorem rect_at (r : Rct) (w : World) : Pure Try.prog 50 [.agg (encR r).toArray] w (.int .i64 (rectE r)) := by
  refine fn_at Try.func50 rfl Try.ntmps50 rfl ?_
  repeat' (first
    | ((with_reducible apply wl_callp); exact rfl; exact rfl; (intro w hm; exact corners_at r w))
    | ((with_reducible apply wl_callp); exact rfl; exact rfl; (intro w hm; exact valid_at r.c1 r.r1 w))
    | ((with_reducible apply wl_callp); exact rfl; exact rfl; (intro w hm; exact valid_at r.c2 r.r2 w))
    | ((with_reducible apply wl_v); exact rfl; (first | ((with_reducible apply vop_ok); exact rfl) | ((with_reducible apply v_fieldAddr); exact rfl) | ((with_reducible apply v_load_box); exact rfl; (repeat first | exact .hd | apply Sel.tl | apply In.tl); exact rfl) | ((with_reducible apply v_loadw_box); exact rfl; (repeat first | exact .hd | apply Sel.tl | apply In.tl); exact rfl) | ((with_reducible apply v_loadn_box); exact rfl; (repeat first | exact .hd | apply Sel.tl | apply In.tl); exact rfl; exact rfl)))
    | ((with_reducible apply wl_gyes); exact rfl; exact rfl)
    | ((with_reducible apply wl_gno_b); exact rfl; exact rfl; exact rfl; exact rfl)
    | ((with_reducible apply wl_gno_u); exact rfl; exact rfl; exact rfl)
    | ((with_reducible apply wl_boxs); exact rfl; exact rfl; intro _)
    | ((with_reducible apply wl_box1); exact rfl; exact rfl; exact rfl; intro _)
    | ((with_reducible apply wl_alloc); exact rfl; intro _)
    | ((with_reducible apply wl_storen_box); exact rfl; exact rfl; (repeat first | exact .hd | apply Sel.tl | apply In.tl); exact rfl; exact rfl; exact rfl)
    | ((with_reducible apply wl_putn_box); exact rfl; exact rfl; (repeat first | exact .hd | apply Sel.tl | apply In.tl); exact rfl; exact rfl; exact rfl; exact rfl)
    | ((with_reducible apply wl_gsplit) <;> first | exact rfl | (intro hb; (replace hb := Tidy.out hb; try (exfalso; omega))))
    | (with_reducible first | apply wl_nil | apply thn_n | apply w_seq | apply w_region | apply w_ret | apply w_skip | apply w_exit | apply w_block | apply thn_r | apply thn_e | apply blk_n | apply blk_r | apply blk_e)
    | ((with_reducible apply w_cond_true); exact rfl)
    | ((with_reducible apply w_cond_false); exact rfl)
    | ((with_reducible apply w_cond) <;> first | exact rfl | (intro hb; (replace hb := Tidy.out hb; try (exfalso; omega))))
    | ((with_reducible apply blk_x); exact rfl))
  all_goals (((with_reducible apply ret1); exact .inl rfl; exact rfl; exact rfl; exact MSub.nil _); ((try simp only [← Int.not_lt] at *); simp_all [rectE, rectOk, -Int.not_lt, -Int.not_le, ← Int.not_lt]))

set_option maxRecDepth 10000 in
theorem known_at (fn : Int) (w : World) : Pure Try.prog 64 [.int .u8 fn] w (.bool (knownF fn)) := by
  refine fn_at Try.func64 rfl Try.ntmps64 rfl ?_
  repeat' (first
    | ((with_reducible apply wl_v); exact rfl; (first | ((with_reducible apply vop_ok); exact rfl)))
    | ((with_reducible apply wl_gyes); exact rfl; exact rfl)
    | ((with_reducible apply wl_gno_b); exact rfl; exact rfl; exact rfl; exact rfl)
    | ((with_reducible apply wl_gno_u); exact rfl; exact rfl; exact rfl)
    | ((with_reducible apply wl_gsplit) <;> first | exact rfl | (intro hb; (replace hb := Tidy.out hb; try (exfalso; omega))))
    | (with_reducible first | apply wl_nil | apply thn_n | apply w_seq | apply w_region | apply w_ret | apply w_skip | apply w_exit | apply w_block | apply thn_r | apply thn_e | apply blk_n | apply blk_r | apply blk_e)
    | ((with_reducible apply w_cond_true); exact rfl)
    | ((with_reducible apply w_cond_false); exact rfl)
    | ((with_reducible apply w_cond) <;> first | exact rfl | (intro hb; (replace hb := Tidy.out hb; try (exfalso; omega))))
    | ((with_reducible apply blk_x); exact rfl))
  all_goals (((with_reducible apply ret1); exact .inl rfl; exact rfl; exact rfl; exact MSub.nil _); ((try simp only [← Int.not_lt] at *); simp_all [knownF, -Int.not_lt, -Int.not_le, ← Int.not_lt]))

set_option maxRecDepth 10000 in
theorem released_at (fn : Int) (w : World) : Pure Try.prog 66 [.int .u8 fn] w (.bool (releasedF fn)) := by
  refine fn_at Try.func66 rfl Try.ntmps66 rfl ?_
  repeat' (first
    | ((with_reducible apply wl_v); exact rfl; (first | ((with_reducible apply vop_ok); exact rfl)))
    | ((with_reducible apply wl_gyes); exact rfl; exact rfl)
    | ((with_reducible apply wl_gno_b); exact rfl; exact rfl; exact rfl; exact rfl)
    | ((with_reducible apply wl_gno_u); exact rfl; exact rfl; exact rfl)
    | ((with_reducible apply wl_gsplit) <;> first | exact rfl | (intro hb; (replace hb := Tidy.out hb; try (exfalso; omega))))
    | (with_reducible first | apply wl_nil | apply thn_n | apply w_seq | apply w_region | apply w_ret | apply w_skip | apply w_exit | apply w_block | apply thn_r | apply thn_e | apply blk_n | apply blk_r | apply blk_e)
    | ((with_reducible apply w_cond_true); exact rfl)
    | ((with_reducible apply w_cond_false); exact rfl)
    | ((with_reducible apply w_cond) <;> first | exact rfl | (intro hb; (replace hb := Tidy.out hb; try (exfalso; omega))))
    | ((with_reducible apply blk_x); exact rfl))
  all_goals (((with_reducible apply ret1); exact .inl rfl; exact rfl; exact rfl; exact MSub.nil _); ((try simp only [← Int.not_lt] at *); simp_all [releasedF, -Int.not_lt, -Int.not_le, ← Int.not_lt]))

set_option maxRecDepth 10000 in
theorem below_at (n : Nd) (w : World) : Pure Try.prog 86 [.agg (encN n).toArray] w (.int .i64 (below n)) := by
  refine fn_at Try.func86 rfl Try.ntmps86 rfl ?_
  repeat' (first
    | ((with_reducible apply wl_v); exact rfl; (first | ((with_reducible apply vop_ok); exact rfl) | ((with_reducible apply v_fieldAddr); exact rfl) | ((with_reducible apply v_load_box); exact rfl; (repeat first | exact .hd | apply Sel.tl | apply In.tl); exact rfl) | ((with_reducible apply v_eqlb); exact rfl; exact rfl) | ((with_reducible apply v_neqb); exact rfl; exact rfl) | ((with_reducible apply v_loadw_box); exact rfl; (repeat first | exact .hd | apply Sel.tl | apply In.tl); exact rfl) | ((with_reducible apply v_loadn_box); exact rfl; (repeat first | exact .hd | apply Sel.tl | apply In.tl); exact rfl; exact rfl)))
    | ((with_reducible apply wl_boxs); exact rfl; exact rfl; intro _)
    | ((with_reducible apply wl_box1); exact rfl; exact rfl; exact rfl; intro _)
    | (with_reducible first | apply wl_nil | apply thn_n | apply w_seq | apply w_region | apply w_ret | apply w_skip | apply w_exit | apply w_block | apply thn_r | apply thn_e | apply blk_n | apply blk_r | apply blk_e)
    | ((with_reducible apply w_cond_true); exact rfl)
    | ((with_reducible apply w_cond_false); exact rfl)
    | ((with_reducible apply w_cond) <;> first | exact rfl | (intro hb; (replace hb := Tidy.out hb; try (exfalso; omega))))
    | ((with_reducible apply blk_x); exact rfl))
  all_goals (((with_reducible apply ret1); exact .inl rfl; exact rfl; exact rfl; exact MSub.nil _); simp_all [below])

set_option maxRecDepth 10000 in
theorem arity_at (fn : Int) (w : World) : Pure Try.prog 33 [.int .u8 fn] w (.tuple #[.int .i64 (arity fn).1, .int .i64 (arity fn).2.1, .int .i64 (arity fn).2.2]) := by
  refine fn_at Try.func33 rfl Try.ntmps33 rfl ?_
  repeat' (first
    | ((with_reducible apply wl_callp); exact rfl; exact rfl; (intro w hm; exact known_at fn w))
    | ((with_reducible apply wl_v); exact rfl; (first | ((with_reducible apply vop_ok); exact rfl) | ((with_reducible apply v_eqlb); exact rfl; exact rfl) | ((with_reducible apply v_neqb); exact rfl; exact rfl)))
    | (with_reducible first | apply wl_nil | apply thn_n | apply w_seq | apply w_region | apply w_ret | apply w_skip | apply w_exit | apply w_block | apply thn_r | apply thn_e | apply blk_n | apply blk_r | apply blk_e)
    | ((with_reducible apply w_cond_true); exact rfl)
    | ((with_reducible apply w_cond_false); exact rfl)
    | ((with_reducible apply w_cond) <;> first | exact rfl | (intro hb; (replace hb := Tidy.out hb; try (exfalso; omega))))
    | ((with_reducible apply blk_x); exact rfl))
  all_goals (((with_reducible apply ret3); exact .inl rfl; exact rfl; exact rfl; exact rfl; exact rfl; exact MSub.nil _); simp_all [arity])

set_option maxRecDepth 10000 in
theorem wide_at (fn i : Int) (w : World) : Pure Try.prog 34 [.int .u8 fn, .int .i64 i] w (.tuple #[.bool (wideF fn i).1, .int .i64 (wideF fn i).2]) := by
  refine fn_at Try.func34 rfl Try.ntmps34 rfl ?_
  repeat' (first
    | ((with_reducible apply wl_callp); exact rfl; exact rfl; (intro w hm; exact arity_at fn w))
    | ((with_reducible apply wl_callp); exact rfl; exact rfl; (intro w hm; exact released_at fn w))
    | ((with_reducible apply wl_v); exact rfl; (first | ((with_reducible apply vop_ok); exact rfl) | ((with_reducible apply v_eqlb); exact rfl; exact rfl) | ((with_reducible apply v_neqb); exact rfl; exact rfl)))
    | ((with_reducible apply wl_gyes); exact rfl; exact rfl)
    | ((with_reducible apply wl_gno_b); exact rfl; exact rfl; exact rfl; exact rfl)
    | ((with_reducible apply wl_gno_u); exact rfl; exact rfl; exact rfl)
    | ((with_reducible apply wl_gsplit) <;> first | exact rfl | (intro hb; (replace hb := Tidy.out hb; try (exfalso; omega))))
    | (with_reducible first | apply wl_nil | apply thn_n | apply w_seq | apply w_region | apply w_ret | apply w_skip | apply w_exit | apply w_block | apply thn_r | apply thn_e | apply blk_n | apply blk_r | apply blk_e)
    | ((with_reducible apply w_cond_true); exact rfl)
    | ((with_reducible apply w_cond_false); exact rfl)
    | ((with_reducible apply w_cond) <;> first | exact rfl | (intro hb; (replace hb := Tidy.out hb; try (exfalso; omega))))
    | ((with_reducible apply blk_x); exact rfl))
  all_goals (((with_reducible apply ret2); exact .inl rfl; exact rfl; exact rfl; exact rfl; exact MSub.nil _); ((try simp only [← Int.not_lt] at *); simp_all [wideF, -Int.not_lt, -Int.not_le, ← Int.not_lt]))
end Go.SL

/-
  What the functions of packages glyph and val return that package tree calls.
-/
namespace Go.SL
open Go Go.Proofs
attribute [local irreducible] W WL WQ WG VOp thn blk retP FnAt FnIn

def ints (b : ByteArray) : List Int := b.data.toList.map fun c => (c.toNat : Int)
theorem bytesV_eq (b : ByteArray) : bytesV b = (ints b).map (Value.int .u8) := by simp [bytesV, ints]
theorem ints_length (b : ByteArray) : (ints b).length = b.size := by simp [ints]

theorem upd_step {α β : Type} (f : α → α) (E : α → β) (xs : List α) (i : Nat) (h : i < xs.length) : (((xs.take i).map f ++ xs.drop i).map E).set i (E (f xs[i])) = ((xs.take (i + 1)).map f ++ xs.drop (i + 1)).map E := by
  rw [← List.map_set, List.set_append_right _ _ (by simp; omega)]
  have e1 : xs.drop i = xs[i] :: xs.drop (i + 1) := List.drop_eq_getElem_cons h
  have e2 : xs.take (i + 1) = xs.take i ++ [xs[i]] := List.take_succ_eq_append_getElem h
  have e3 : i - ((xs.take i).map f).length = 0 := by simp; omega
  rw [e3, e1, e2]
  simp only [List.set_cons_zero, List.map_append, List.map_cons, List.map_nil, List.append_assoc, List.cons_append, List.nil_append]

set_option maxRecDepth 10000 in
/-- 'changed': every byte by a function. -/
theorem changed_at (f : FuncId) [Callable Try.prog f] (g : Int → Int) (hf : ∀ c w, Pure Try.prog f [.int .u8 c] w (.int .u8 (g c))) (a : ByteArray) (ha : a.size ≤ 1000000) (w : World) :
    FnAt Try.prog 96 [.string a, .func (.func f) #[] #[]] w fun v H => ∃ gb cap, v = .slice (some ⟨gb, 0, none⟩) a.size cap ∧ H = [.byt gb 5 a.size cap (((ints a).map g).map (Value.int .u8))] := by
  refine fn_at Try.func96 rfl Try.ntmps96 rfl ?_
  repeat' (first
    | ((with_reducible apply wl_toBytes); exact rfl; exact rfl; intro gb cap)
    | ((with_reducible apply wl_v); exact rfl; (first | ((with_reducible apply vop_ok); exact rfl) | ((with_reducible apply v_len); exact rfl) | ((with_reducible apply v_lens); exact rfl) | ((with_reducible apply v_load_box); exact rfl; (repeat first | exact .hd | apply Sel.tl | apply In.tl); exact rfl) | ((with_reducible apply v_loadw_box); exact rfl; (repeat first | exact .hd | apply Sel.tl | apply In.tl); exact rfl) | ((with_reducible apply v_loadn_box); exact rfl; (repeat first | exact .hd | apply Sel.tl | apply In.tl); exact rfl; exact rfl)))
    | ((with_reducible apply wl_storen_box); exact rfl; exact rfl; (repeat first | exact .hd | apply Sel.tl | apply In.tl); exact rfl; exact rfl; exact rfl)
    | ((with_reducible apply wl_putn_box); exact rfl; exact rfl; (repeat first | exact .hd | apply Sel.tl | apply In.tl); exact rfl; exact rfl; exact rfl; exact rfl)
    | (with_reducible first | apply wl_nil | apply thn_n | apply w_seq | apply w_region | apply w_ret | apply w_skip | apply w_exit | apply w_block | apply thn_r | apply thn_e | apply blk_n | apply blk_r | apply blk_e)
    | ((with_reducible apply w_cond_true); exact rfl)
    | ((with_reducible apply w_cond_false); exact rfl)
    | ((with_reducible apply w_cond) <;> first | exact rfl | (intro hb; (replace hb := Tidy.out hb; try (exfalso; omega))))
    | ((with_reducible apply blk_x); exact rfl))
  refine w_loop (fun i : Nat => [(5, .slice (some ⟨gb, 0, none⟩) a.size cap), (10, .slice (some ⟨gb, 0, none⟩) a.size cap), (11, .int .i64 (a.size : Int)), (12, .int .i64 (i : Int)), (1, .func (.func f) #[] #[])])
    (fun i => [.byt gb 5 a.size cap ((((ints a).take i).map g ++ (ints a).drop i).map (Value.int .u8))]) (fun i => i ≤ a.size) (fun i => a.size - i) 0 (by omega) ?_ ?_ ?_
  · (repeat (first | exact Sub.nil _ | refine Sub.cons rfl ?_))
  · rw [bytesV_eq]; simp only [List.take_zero, List.map_nil, List.nil_append, List.drop_zero]; (repeat (first | exact MSub.nil _ | refine MSub.pick (by (repeat first | exact .hd | apply Sel.tl | apply In.tl)) ?_ | exact MSub.refl _ | refine MSub.drop .hd ?_))
  · intro i hi
    have hl := ints_length a
    by_cases hlt : i < a.size
    · have hil : i < (ints a).length := by omega
      have hget : ((((ints a).take i).map g ++ (ints a).drop i).map (Value.int .u8))[0 + i * 1]? = some (.int .u8 (ints a)[i]) := by
        rw [List.getElem?_map, show 0 + i * 1 = i by omega, List.getElem?_append_right (by simp; omega)]
        simp [Nat.min_eq_left (Nat.le_of_lt hil), List.getElem?_drop]
      repeat' (first
        | ((with_reducible apply wl_v); exact rfl; (with_reducible apply v_indexAddr); exact rfl; exact rfl; exact hlt)
        | ((with_reducible apply wl_v); exact rfl; (with_reducible apply v_load_byt); exact rfl; exact .hd; exact hget)
        | ((with_reducible apply wl_callvp); exact rfl; exact rfl; infer_instance; exact rfl; (intro w hm; exact hf _ w))
        | ((with_reducible apply wl_store_byt); exact rfl; exact rfl; exact .hd; exact rfl; (simp; omega))
        | ((with_reducible apply wl_v); exact rfl; (with_reducible apply v_add); exact rfl; exact rfl; (constructor <;> omega))
        | ((with_reducible apply wl_v); exact rfl; (first | ((with_reducible apply vop_ok); exact rfl) | ((with_reducible apply v_len); exact rfl) | ((with_reducible apply v_lens); exact rfl) | ((with_reducible apply v_load_box); exact rfl; (repeat first | exact .hd | apply Sel.tl | apply In.tl); exact rfl) | ((with_reducible apply v_loadw_box); exact rfl; (repeat first | exact .hd | apply Sel.tl | apply In.tl); exact rfl) | ((with_reducible apply v_loadn_box); exact rfl; (repeat first | exact .hd | apply Sel.tl | apply In.tl); exact rfl; exact rfl)))
        | ((with_reducible apply wl_storen_box); exact rfl; exact rfl; (repeat first | exact .hd | apply Sel.tl | apply In.tl); exact rfl; exact rfl; exact rfl)
        | ((with_reducible apply wl_putn_box); exact rfl; exact rfl; (repeat first | exact .hd | apply Sel.tl | apply In.tl); exact rfl; exact rfl; exact rfl; exact rfl)
        | (with_reducible first | apply wl_nil | apply thn_n | apply w_seq | apply w_region | apply w_ret | apply w_skip | apply w_exit | apply w_block | apply thn_r | apply thn_e | apply blk_n | apply blk_r | apply blk_e)
        | ((with_reducible apply w_cond_true); exact rfl)
        | ((with_reducible apply w_cond_false); exact rfl)
        | ((with_reducible apply w_cond) <;> first | exact rfl | (intro hb; (replace hb := Tidy.out hb; try (exfalso; omega))))
        | ((with_reducible apply blk_x); exact rfl))
      refine ⟨i + 1, by omega, by omega, ?_, ?_⟩
      · (repeat (first | exact Sub.nil _ | refine Sub.cons rfl ?_))
      · rw [show 0 + i * 1 = i by omega, upd_step g (Value.int .u8) (ints a) i hil]
        (repeat (first | exact MSub.nil _ | refine MSub.pick (by (repeat first | exact .hd | apply Sel.tl | apply In.tl)) ?_ | exact MSub.refl _ | refine MSub.drop .hd ?_))
    · have e : i = a.size := by omega
      subst e
      repeat' (first
        | ((with_reducible apply wl_v); exact rfl; (first | ((with_reducible apply vop_ok); exact rfl) | ((with_reducible apply v_len); exact rfl) | ((with_reducible apply v_lens); exact rfl) | ((with_reducible apply v_load_box); exact rfl; (repeat first | exact .hd | apply Sel.tl | apply In.tl); exact rfl) | ((with_reducible apply v_loadw_box); exact rfl; (repeat first | exact .hd | apply Sel.tl | apply In.tl); exact rfl) | ((with_reducible apply v_loadn_box); exact rfl; (repeat first | exact .hd | apply Sel.tl | apply In.tl); exact rfl; exact rfl)))
        | ((with_reducible apply wl_storen_box); exact rfl; exact rfl; (repeat first | exact .hd | apply Sel.tl | apply In.tl); exact rfl; exact rfl; exact rfl)
        | ((with_reducible apply wl_putn_box); exact rfl; exact rfl; (repeat first | exact .hd | apply Sel.tl | apply In.tl); exact rfl; exact rfl; exact rfl; exact rfl)
        | (with_reducible first | apply wl_nil | apply thn_n | apply w_seq | apply w_region | apply w_ret | apply w_skip | apply w_exit | apply w_block | apply thn_r | apply thn_e | apply blk_n | apply blk_r | apply blk_e)
        | ((with_reducible apply w_cond_true); exact rfl)
        | ((with_reducible apply w_cond_false); exact rfl)
        | ((with_reducible apply w_cond) <;> first | exact rfl | (intro hb; (replace hb := Tidy.out hb; try (exfalso; omega))))
        | ((with_reducible apply blk_x); exact rfl))
      refine ret1 (.inl rfl) Try.results96 rfl (.refl _) ⟨gb, cap, rfl, ?_⟩
      rw [List.take_of_length_le (by omega), List.drop_of_length_le (by omega), List.append_nil]

def markB (c : Int) : Int := if c < 32 ∨ 126 < c then 0 else 32

set_option maxRecDepth 10000 in
theorem mark_at (c : Int) (w : World) : Pure Try.prog 97 [.int .u8 c] w (.int .u8 (markB c)) := by
  refine fn_at Try.func97 rfl Try.ntmps97 rfl ?_
  repeat' (first
    | ((with_reducible apply wl_v); exact rfl; (first | ((with_reducible apply vop_ok); exact rfl)))
    | ((with_reducible apply wl_gyes); exact rfl; exact rfl)
    | ((with_reducible apply wl_gno_b); exact rfl; exact rfl; exact rfl; exact rfl)
    | ((with_reducible apply wl_gno_u); exact rfl; exact rfl; exact rfl)
    | ((with_reducible apply wl_gsplit) <;> first | exact rfl | (intro hb; (replace hb := Tidy.out hb; try (exfalso; omega))))
    | (with_reducible first | apply wl_nil | apply thn_n | apply w_seq | apply w_region | apply w_ret | apply w_skip | apply w_exit | apply w_block | apply thn_r | apply thn_e | apply blk_n | apply blk_r | apply blk_e)
    | ((with_reducible apply w_cond_true); exact rfl)
    | ((with_reducible apply w_cond_false); exact rfl)
    | ((with_reducible apply w_cond) <;> first | exact rfl | (intro hb; (replace hb := Tidy.out hb; try (exfalso; omega))))
    | ((with_reducible apply blk_x); exact rfl))
  all_goals (((with_reducible apply ret1); exact .inl rfl; exact rfl; exact rfl; exact MSub.nil _); ((try simp only [← Int.not_lt] at *); simp_all [markB, -Int.not_lt, -Int.not_le]))

set_option maxRecDepth 10000 in
theorem isZero_at (c : Int) (w : World) : Pure Try.prog 98 [.int .i32 c] w (.bool (decide (c = 0))) := by
  refine fn_at Try.func98 rfl Try.ntmps98 rfl ?_
  repeat' (first
    | ((with_reducible apply wl_v); exact rfl; (first | ((with_reducible apply vop_ok); exact rfl) | ((with_reducible apply v_eqlb); exact rfl; exact rfl) | ((with_reducible apply v_neqb); exact rfl; exact rfl)))
    | (with_reducible first | apply wl_nil | apply thn_n | apply w_seq | apply w_region | apply w_ret | apply w_skip | apply w_exit | apply w_block | apply thn_r | apply thn_e | apply blk_n | apply blk_r | apply blk_e)
    | ((with_reducible apply w_cond_true); exact rfl)
    | ((with_reducible apply w_cond_false); exact rfl)
    | ((with_reducible apply w_cond) <;> first | exact rfl | (intro hb; (replace hb := Tidy.out hb; try (exfalso; omega))))
    | ((with_reducible apply blk_x); exact rfl))
  all_goals (((with_reducible apply ret1); exact .inl rfl; exact rfl; exact rfl; exact MSub.nil _); rfl)

def firstAt (q : Int → Bool) (l : List Int) : Int := match l.findIdx? q with
  | some i => (i : Int)
  | none => -1

theorem ints_get (b : ByteArray) (i : Nat) (h : i < b.size) : (ints b)[i]'(by rw [ints_length]; exact h) = (b[i].toNat : Int) := by
  simp [ints]; rfl

theorem firstAt_hit {q : Int → Bool} {l : List Int} {i : Nat} (h : i < l.length) (hq : q l[i] = true) (hno : ∀ j (h : j < l.length), j < i → q l[j] = false) : firstAt q l = (i : Int) := by
  have : l.findIdx? q = some i := by
    rw [List.findIdx?_eq_some_iff_getElem]
    exact ⟨h, hq, fun j hj => by simpa using hno j (by omega) hj⟩
  simp [firstAt, this]
theorem firstAt_miss {q : Int → Bool} {l : List Int} (hno : ∀ j (h : j < l.length), q l[j] = false) : firstAt q l = -1 := by
  have : l.findIdx? q = none := by
    rw [List.findIdx?_eq_none_iff]
    intro x hx
    obtain ⟨j, hj, rfl⟩ := List.getElem_of_mem hx
    exact hno j hj
  simp [firstAt, this]

set_option maxRecDepth 10000 in
theorem indexFunc_at (f : FuncId) [Callable Try.prog f] (q : Int → Bool) (hf : ∀ c w, Pure Try.prog f [.int .i32 c] w (.bool (q c))) (a : ByteArray) (ha : a.size ≤ 1000000) (hasc : ∀ i (h : i < a.size), (a[i]'h).toNat < 128) (w : World) :
    Pure Try.prog 99 [.string a, .func (.func f) #[] #[], .bool true] w (.int .i64 (firstAt q (ints a))) := by
  refine fn_at Try.func99 rfl Try.ntmps99 rfl ?_
  have hl := ints_length a
  repeat' (first
    | ((with_reducible apply wl_range_str); exact rfl; exact rfl; intro gi)
    | ((with_reducible apply wl_v); exact rfl; (first | ((with_reducible apply vop_ok); exact rfl) | ((with_reducible apply v_eqlb); exact rfl; exact rfl) | ((with_reducible apply v_neqb); exact rfl; exact rfl)))
    | (with_reducible first | apply wl_nil | apply thn_n | apply w_seq | apply w_region | apply w_ret | apply w_skip | apply w_exit | apply w_block | apply thn_r | apply thn_e | apply blk_n | apply blk_r | apply blk_e)
    | ((with_reducible apply w_cond_true); exact rfl)
    | ((with_reducible apply w_cond_false); exact rfl)
    | ((with_reducible apply w_cond) <;> first | exact rfl | (intro hb; (replace hb := Tidy.out hb; try (exfalso; omega))))
    | ((with_reducible apply blk_x); exact rfl))
  refine w_loop (fun i : Nat => [(0, .string a), (1, .func (.func f) #[] #[]), (2, .bool true), (10, .pointer (some ⟨gi, 0, none⟩))])
    (fun i => [.obj gi (.stringIter a i)]) (fun i => i ≤ a.size ∧ ∀ j (h : j < (ints a).length), j < i → q (ints a)[j] = false) (fun i => a.size - i) 0 ⟨by omega, fun j _ h => by omega⟩ ?_ ?_ ?_
  · (repeat (first | exact Sub.nil _ | refine Sub.cons rfl ?_))
  · (repeat (first | exact MSub.nil _ | refine MSub.pick (by (repeat first | exact .hd | apply Sel.tl | apply In.tl)) ?_ | exact MSub.refl _ | refine MSub.drop .hd ?_))
  · rintro i ⟨hi, hno⟩
    repeat' (first
      | ((with_reducible apply wl_next_str); exact rfl; exact rfl; exact .hd; exact hasc i; all_goals intro hb)
      | ((with_reducible apply wl_callvp); exact rfl; exact rfl; infer_instance; exact rfl; (intro w hm; exact hf _ w))
      | ((with_reducible apply wl_v); exact rfl; (first | ((with_reducible apply vop_ok); exact rfl) | ((with_reducible apply v_eqlb); exact rfl; exact rfl) | ((with_reducible apply v_neqb); exact rfl; exact rfl)))
      | (with_reducible first | apply wl_nil | apply thn_n | apply w_seq | apply w_region | apply w_ret | apply w_skip | apply w_exit | apply w_block | apply thn_r | apply thn_e | apply blk_n | apply blk_r | apply blk_e)
      | ((with_reducible apply w_cond_true); exact rfl)
      | ((with_reducible apply w_cond_false); exact rfl)
      | ((with_reducible apply w_cond) <;> first | exact rfl | (intro hb; (replace hb := Tidy.out hb; try (exfalso; omega))))
      | ((with_reducible apply blk_x); exact rfl))
    all_goals (try simp only [beq_true] at *)
    · rename_i hlt
      have hq := hb
      refine ret1 (.inl rfl) Try.results99 rfl (MSub.nil _) ?_
      have h1 := ints_get a i hlt
      rw [firstAt_hit (i := i) (by omega) (by rw [h1]; exact hq) hno]
    · rename_i hlt
      have hq := hb
      refine ⟨i + 1, ⟨by omega, fun j hj hji => ?_⟩, by omega, ?_, ?_⟩
      · by_cases e : j = i
        · subst e
          rw [ints_get a j hlt]; exact hq
        · exact hno j hj (by omega)
      · (repeat (first | exact Sub.nil _ | refine Sub.cons rfl ?_))
      · (repeat (first | exact MSub.nil _ | refine MSub.pick (by (repeat first | exact .hd | apply Sel.tl | apply In.tl)) ?_ | exact MSub.refl _ | refine MSub.drop .hd ?_))
    · have hge := hb
      refine ret1 (.inl rfl) Try.results99 rfl (MSub.nil _) ?_
      rw [firstAt_miss fun j hj => hno j hj (by omega)]

set_option maxRecDepth 10000 in
theorem IndexFunc_at (f : FuncId) [Callable Try.prog f] (q : Int → Bool) (hf : ∀ c w, Pure Try.prog f [.int .i32 c] w (.bool (q c))) (a : ByteArray) (ha : a.size ≤ 1000000) (hasc : ∀ i (h : i < a.size), (a[i]'h).toNat < 128) (w : World) :
    Pure Try.prog 95 [.string a, .func (.func f) #[] #[]] w (.int .i64 (firstAt q (ints a))) := by
  refine fn_at Try.func95 rfl Try.ntmps95 rfl ?_
  repeat' (first
    | ((with_reducible apply wl_callp); exact rfl; exact rfl; (intro w hm; exact indexFunc_at f q hf a ha hasc w))
    | ((with_reducible apply wl_v); exact rfl; (first | ((with_reducible apply vop_ok); exact rfl)))
    | (with_reducible first | apply wl_nil | apply thn_n | apply w_seq | apply w_region | apply w_ret | apply w_skip | apply w_exit | apply w_block | apply thn_r | apply thn_e | apply blk_n | apply blk_r | apply blk_e)
    | ((with_reducible apply w_cond_true); exact rfl)
    | ((with_reducible apply w_cond_false); exact rfl)
    | ((with_reducible apply w_cond) <;> first | exact rfl | (intro hb; (replace hb := Tidy.out hb; try (exfalso; omega))))
    | ((with_reducible apply blk_x); exact rfl))
  all_goals (((with_reducible apply ret1); exact .inl rfl; exact rfl; exact rfl; exact MSub.nil _); rfl)

def marked (a : ByteArray) : ByteArray := ⟨(((ints a).map markB).map fun n => UInt8.ofNat n.toNat).toArray⟩

theorem marked_size (a : ByteArray) : (marked a).size = a.size := by
  have : (marked a).size = ((ints a).map markB).length := by simp [marked, ByteArray.size]
  rw [this]; simp [ints_length]

theorem marked_ints (a : ByteArray) : ints (marked a) = (ints a).map markB := by
  simp only [ints, marked, List.map_map]
  congr 1
  funext c
  simp only [Function.comp, markB]
  split <;> simp

theorem firstAt_neg (q : Int → Bool) (l : List Int) : decide (firstAt q l < 0) = l.all fun c => !q c := by
  unfold firstAt
  cases h : l.findIdx? q with
  | none =>
    rw [List.findIdx?_eq_none_iff] at h
    rw [Bool.eq_iff_iff]
    simpa using h
  | some i =>
    rw [List.findIdx?_eq_some_iff_getElem] at h
    obtain ⟨h1, h2, _⟩ := h
    rw [Bool.eq_iff_iff]
    simp only [decide_eq_true_eq, List.all_eq_true]
    constructor
    · intro h; omega
    · intro h
      have := h _ (List.getElem_mem h1)
      rw [h2] at this
      cases this

theorem plain_marks (a : ByteArray) : decide (firstAt (fun c => decide (c = 0)) (ints (marked a)) < 0) = plainB a := by
  rw [firstAt_neg, marked_ints]
  simp only [ints, List.all_map, plainB]
  congr 1
  funext c
  have e : (decide (markB (c.toNat : Int) = 0)) = !(decide (32 ≤ c.toNat) && decide (c.toNat ≤ 126)) := by
    rw [Bool.eq_iff_iff]
    by_cases h : (c.toNat : Int) < 32 ∨ 126 < (c.toNat : Int)
    · simp only [markB, if_pos h]; simp; omega
    · simp only [markB, if_neg h]; simp; omega
  simp only [Function.comp, e, Bool.not_not]

theorem marked_ascii (a : ByteArray) : ∀ i (h : i < (marked a).size), ((marked a)[i]'h).toNat < 128 := by
  intro i h
  have h1 := ints_get (marked a) i h
  have h2 : ((marked a)[i].toNat : Int) = markB ((ints a)[i]'(by rw [ints_length, ← marked_size]; exact h)) := by
    rw [← h1]
    simp [marked_ints]
  have h3 : ∀ x, markB x = 0 ∨ markB x = 32 := fun x => by unfold markB; split <;> simp
  rcases h3 ((ints a)[i]'(by rw [ints_length, ← marked_size]; exact h)) with h4 | h4 <;> omega

set_option maxRecDepth 10000 in
theorem printable_at (a : ByteArray) (ha : a.size ≤ 1000000) (w : World) : Pure Try.prog 94 [.string a] w (.bool (plainB a)) := by
  refine fn_at Try.func94 rfl Try.ntmps94 rfl ?_
  repeat' (first
    | ((with_reducible apply wl_call (R := fun v H => ∃ gb cap, v = .slice (some ⟨gb, 0, none⟩) a.size cap ∧ H = [.byt gb 5 a.size cap (((ints a).map markB).map (Value.int .u8))])); exact rfl; exact rfl; (intro w hm; exact changed_at 97 markB mark_at a ha w); (rintro v H' ⟨gb, cap, rfl, rfl⟩))
    | ((with_reducible apply wl_v); exact rfl; (with_reducible apply v_ofBytes); exact rfl; exact .hd; simp [ints_length])
    | ((with_reducible apply wl_callp); exact rfl; exact rfl; (intro w hm; exact IndexFunc_at 98 (fun c => decide (c = 0)) isZero_at (marked a) (by rw [marked_size]; exact ha) (marked_ascii a) w))
    | ((with_reducible apply wl_v); exact rfl; (first | ((with_reducible apply vop_ok); exact rfl)))
    | (with_reducible first | apply wl_nil | apply thn_n | apply w_seq | apply w_region | apply w_ret | apply w_skip | apply w_exit | apply w_block | apply thn_r | apply thn_e | apply blk_n | apply blk_r | apply blk_e)
    | ((with_reducible apply w_cond_true); exact rfl)
    | ((with_reducible apply w_cond_false); exact rfl)
    | ((with_reducible apply w_cond) <;> first | exact rfl | (intro hb; (replace hb := Tidy.out hb; try (exfalso; omega))))
    | ((with_reducible apply blk_x); exact rfl))
  all_goals (((with_reducible apply ret1); exact .inl rfl; exact rfl; exact rfl; exact MSub.nil _); rw [← plain_marks])

set_option maxRecDepth 10000 in
theorem glyph_at (a : ByteArray) (w : World) : Pure Try.prog 92 [.string a] w (.int .i64 (glyphE a)) := by
  refine fn_at Try.func92 rfl Try.ntmps92 rfl ?_
  repeat' (first
    | ((with_reducible apply wl_callp); exact rfl; exact rfl; (intro w hm; exact printable_at a (by omega) w))
    | ((with_reducible apply wl_v); exact rfl; (first | ((with_reducible apply vop_ok); exact rfl) | ((with_reducible apply v_len); exact rfl) | ((with_reducible apply v_lens); exact rfl)))
    | (with_reducible first | apply wl_nil | apply thn_n | apply w_seq | apply w_region | apply w_ret | apply w_skip | apply w_exit | apply w_block | apply thn_r | apply thn_e | apply blk_n | apply blk_r | apply blk_e)
    | ((with_reducible apply w_cond_true); exact rfl)
    | ((with_reducible apply w_cond_false); exact rfl)
    | ((with_reducible apply w_cond) <;> first | exact rfl | (intro hb; (replace hb := Tidy.out hb; try (exfalso; omega))))
    | ((with_reducible apply blk_x); exact rfl))
  · ((with_reducible apply ret1); exact .inl rfl; exact rfl; exact rfl; exact MSub.nil _)
    have : decide (256 < a.size) = true := by simp; omega
    simp [glyphE, this]
  all_goals
    ((with_reducible apply ret1); exact .inl rfl; exact rfl; exact rfl; exact MSub.nil _)
    have h256 : decide (256 < a.size) = false := by simp; omega
    simp only [glyphE, h256, hb, cond_true, cond_false]

set_option maxRecDepth 10000 in
theorem val_at (v : Vl) (w : World) : Pure Try.prog 90 [.agg (encV v).toArray] w (.int .i64 (valE v)) := by
  refine fn_at Try.func90 rfl Try.ntmps90 rfl ?_
  repeat' (first
    | ((with_reducible apply wl_callp); exact rfl; exact rfl; (intro w hm; exact glyph_at v.text w))
    | ((with_reducible apply wl_v); exact rfl; exact v_eqlV (b := ⟨0, 0, emptyB⟩) rfl rfl)
    | ((with_reducible apply wl_v); exact rfl; (first | ((with_reducible apply vop_ok); exact rfl) | ((with_reducible apply v_fieldAddr); exact rfl) | ((with_reducible apply v_load_box); exact rfl; (repeat first | exact .hd | apply Sel.tl | apply In.tl); exact rfl) | ((with_reducible apply v_eqlb); exact rfl; exact rfl) | ((with_reducible apply v_neqb); exact rfl; exact rfl) | ((with_reducible apply v_loadw_box); exact rfl; (repeat first | exact .hd | apply Sel.tl | apply In.tl); exact rfl) | ((with_reducible apply v_loadn_box); exact rfl; (repeat first | exact .hd | apply Sel.tl | apply In.tl); exact rfl; exact rfl) | ((with_reducible apply v_build); exact rfl; exact rfl; exact rfl) | ((with_reducible apply v_shr); exact rfl; exact rfl; exact rfl)))
    | ((with_reducible apply wl_gyes); exact rfl; exact rfl)
    | ((with_reducible apply wl_gno_b); exact rfl; exact rfl; exact rfl; exact rfl)
    | ((with_reducible apply wl_gno_u); exact rfl; exact rfl; exact rfl)
    | ((with_reducible apply wl_boxs); exact rfl; exact rfl; intro _)
    | ((with_reducible apply wl_box1); exact rfl; exact rfl; exact rfl; intro _)
    | ((with_reducible apply wl_gsplit) <;> first | exact rfl | (intro hb; (replace hb := Tidy.out hb; try (exfalso; omega))))
    | (with_reducible first | apply wl_nil | apply thn_n | apply w_seq | apply w_region | apply w_ret | apply w_skip | apply w_exit | apply w_block | apply thn_r | apply thn_e | apply blk_n | apply blk_r | apply blk_e)
    | ((with_reducible apply w_cond_true); exact rfl)
    | ((with_reducible apply w_cond_false); exact rfl)
    | ((with_reducible apply w_cond) <;> first | exact rfl | (intro hb; (replace hb := Tidy.out hb; try (exfalso; omega))))
    | ((with_reducible apply blk_x); exact rfl))
  all_goals (((with_reducible apply ret1); exact .inl rfl; exact rfl; exact rfl; exact MSub.nil _); ((try simp only [← Int.not_lt] at *); simp_all [valE, valOk, eqV, emptyB, -Int.not_lt, -Int.not_le, ← Int.not_lt]); try (by_cases h : v.num = 0 <;> simp_all))
end Go.SL

/-
  What 'fields' and 'fits' of package tree return.
-/
namespace Go.SL
open Go Go.Proofs
attribute [local irreducible] W WL WQ WG VOp thn blk retP FnAt FnIn

set_option maxRecDepth 20000 in
set_option maxHeartbeats 1000000 in
theorem fields_at (n : Nd) (w : World) : Pure Try.prog 85 [.agg (encN n).toArray] w (.int .i64 (fieldsE n)) := by
  refine fn_at Try.func85 rfl Try.ntmps85 rfl ?_
  repeat' (first
    | ((with_reducible apply wl_callp); exact rfl; exact rfl; (intro w hm; exact val_at n.v w))
    | ((with_reducible apply wl_callp); exact rfl; exact rfl; (intro w hm; exact rect_at n.rect w))
    | ((with_reducible apply wl_callp); exact rfl; exact rfl; (intro w hm; exact arity_at n.fn w))
    | ((with_reducible apply w_drawB (T := 40) (fun D => [.int .u8 n.kind, .int .u8 0, .int .i64 0, .string emptyB, .int .i64 0, .int .i64 0, .int .i64 0, .int .i64 0, .int .i64 0, .int .u8 (bif D 5 then n.fn else 0), .int .i64 (bif D 7 then n.n else 0)]) (xs' := [.int .u8 n.kind, .int .u8 0, .int .i64 0, .string emptyB, .int .i64 0, .int .i64 0, .int .i64 0, .int .i64 0, .int .i64 0, .int .u8 n.fn, .int .i64 n.n])); kernel_rfl; kernel_rfl; (first | exact .hd | exact .tl .hd); exact rfl; (intro D hD; simp only [hD 5 (by decide), hD 7 (by decide), cond_true]))
    | ((with_reducible apply wl_v); exact rfl; (first | ((with_reducible apply v_neqN (b := ⟨n.kind, n.v, zeroR, 0, 0, 0⟩)); exact rfl; exact rfl) | ((with_reducible apply v_neqN (b := ⟨n.kind, zeroV, n.rect, 0, 0, 0⟩)); exact rfl; exact rfl) | ((with_reducible apply v_neqN (b := ⟨n.kind, zeroV, zeroR, 0, 0, 0⟩)); exact rfl; exact rfl) | ((with_reducible apply v_neqN (b := ⟨n.kind, zeroV, zeroR, n.op, 0, 0⟩)); exact rfl; exact rfl) | ((with_reducible apply v_neqN (b := ⟨n.kind, zeroV, zeroR, 0, n.fn, n.n⟩)); exact rfl; exact rfl)))
    | ((with_reducible apply wl_v); exact rfl; (first | ((with_reducible apply vop_ok); exact rfl) | ((with_reducible apply v_fieldAddr); exact rfl) | ((with_reducible apply v_load_box); exact rfl; (repeat first | exact .hd | apply Sel.tl | apply In.tl); exact rfl) | ((with_reducible apply v_eqlb); exact rfl; exact rfl) | ((with_reducible apply v_neqb); exact rfl; exact rfl) | ((with_reducible apply v_loadw_box); exact rfl; (repeat first | exact .hd | apply Sel.tl | apply In.tl); exact rfl) | ((with_reducible apply v_loadn_box); exact rfl; (repeat first | exact .hd | apply Sel.tl | apply In.tl); exact rfl; exact rfl) | ((with_reducible apply v_build); exact rfl; exact rfl; exact rfl)))
    | ((with_reducible apply wl_gyes); exact rfl; exact rfl)
    | ((with_reducible apply wl_gno_b); exact rfl; exact rfl; exact rfl; exact rfl)
    | ((with_reducible apply wl_gno_u); exact rfl; exact rfl; exact rfl)
    | ((with_reducible apply wl_boxs); exact rfl; exact rfl; intro _)
    | ((with_reducible apply wl_box1); exact rfl; exact rfl; exact rfl; intro _)
    | ((with_reducible apply wl_alloc); exact rfl; intro _)
    | ((with_reducible apply wl_storen_box); exact rfl; exact rfl; (repeat first | exact .hd | apply Sel.tl | apply In.tl); exact rfl; exact rfl; exact rfl)
    | ((with_reducible apply wl_putn_box); exact rfl; exact rfl; (repeat first | exact .hd | apply Sel.tl | apply In.tl); exact rfl; exact rfl; exact rfl; exact rfl)
    | ((with_reducible apply wl_gsplit) <;> first | exact rfl | (intro hb; (replace hb := Tidy.out hb; try (exfalso; omega))))
    | (with_reducible first | apply wl_nil | apply thn_n | apply w_seq | apply w_region | apply w_ret | apply w_skip | apply w_exit | apply w_block | apply thn_r | apply thn_e | apply blk_n | apply blk_r | apply blk_e | apply wg_nil)
    | ((with_reducible apply w_cond_true); exact rfl)
    | ((with_reducible apply w_cond_false); exact rfl)
    | ((with_reducible apply w_cond) <;> first | exact rfl | (intro hb; (replace hb := Tidy.out hb; try (exfalso; omega))))
    | ((with_reducible apply blk_x); exact rfl)
    | ((with_reducible apply wg_v); exact rfl; (intro D ht; (first | ((with_reducible apply vop_ok); exact rfl) | ((with_reducible apply v_fieldAddr); exact rfl) | ((with_reducible apply v_load_box); exact rfl; (repeat first | exact .hd | apply Sel.tl | apply In.tl); exact rfl) | ((with_reducible apply v_eqlb); exact rfl; exact rfl) | ((with_reducible apply v_neqb); exact rfl; exact rfl) | ((with_reducible apply v_loadw_box); exact rfl; (repeat first | exact .hd | apply Sel.tl | apply In.tl); exact rfl) | ((with_reducible apply v_loadn_box); exact rfl; (repeat first | exact .hd | apply Sel.tl | apply In.tl); exact rfl; exact rfl) | ((with_reducible apply v_build); exact rfl; exact rfl; exact rfl))); exact fun _ => rfl)
    | (refine wg_put _ _ rfl rfl (fun D => .hd) rfl rfl rfl (fun _ => Nat.le_of_ble_eq_true rfl) (fun D ht => .refl _) ?_)
    | ((with_reducible apply wg_l (f := 60)); exact rfl; decide +kernel; exact rfl; (first | ((with_reducible apply vop_ok); exact rfl) | ((with_reducible apply v_fieldAddr); exact rfl) | ((with_reducible apply v_load_box); exact rfl; (repeat first | exact .hd | apply Sel.tl | apply In.tl); exact rfl) | ((with_reducible apply v_eqlb); exact rfl; exact rfl) | ((with_reducible apply v_neqb); exact rfl; exact rfl) | ((with_reducible apply v_loadw_box); exact rfl; (repeat first | exact .hd | apply Sel.tl | apply In.tl); exact rfl) | ((with_reducible apply v_loadn_box); exact rfl; (repeat first | exact .hd | apply Sel.tl | apply In.tl); exact rfl; exact rfl) | ((with_reducible apply v_build); exact rfl; exact rfl; exact rfl))))
  all_goals (((with_reducible apply ret1); exact .inl rfl; exact rfl; exact rfl; exact MSub.nil _); ((try simp only [← Int.not_lt] at *); simp_all [fieldsE, kindOk, want, litOk, oneR, -Int.not_lt, -Int.not_le, ← Int.not_lt]))
end Go.SL

/-
  What 'fits' of package tree returns.
-/
namespace Go.SL
open Go Go.Proofs
attribute [local irreducible] W WL WQ WG WA VOp thn blk retP FnAt FnIn

theorem kindAt_get {L : List Nd} {i : Nat} (h : i < L.length) : kindAt L i = L[i].kind := by simp [kindAt, h]

set_option maxRecDepth 20000 in
set_option maxHeartbeats 1000000 in
theorem fits_at (L : List Nd) (n : Nd) (ps : List Pt) (tv lv : Value) (w : World) (ht : Reads w tv L.length (L.flatMap encN)) (hp : Reads w lv ps.length (ps.flatMap encP)) (hroot : ∀ p ∈ ps, p.root < L.length) (hlen : ps.length ≤ 1000000) :
    Pure Try.prog 87 [tv, .agg (encN n).toArray, lv] w (.bool (fitsFrom L n 0 ps)) := by
  obtain ⟨At, ct, rfl, ht1, ht2, ht3⟩ := ht
  obtain ⟨Al, cl, rfl, hl1, hl2, hl3⟩ := hp
  refine fn_at Try.func87 rfl Try.ntmps87 rfl ?_
  repeat' (first
    | ((with_reducible apply wl_v); exact rfl; (first | ((with_reducible apply vop_ok); exact rfl) | ((with_reducible apply v_fieldAddr); exact rfl) | ((with_reducible apply v_len); exact rfl) | ((with_reducible apply v_lens); exact rfl) | ((with_reducible apply v_load_box); exact rfl; (repeat first | exact .hd | apply Sel.tl | apply In.tl); exact rfl) | ((with_reducible apply v_eqlb); exact rfl; exact rfl) | ((with_reducible apply v_neqb); exact rfl; exact rfl) | ((with_reducible apply v_loadw_box); exact rfl; (repeat first | exact .hd | apply Sel.tl | apply In.tl); exact rfl) | ((with_reducible apply v_loadn_box); exact rfl; (repeat first | exact .hd | apply Sel.tl | apply In.tl); exact rfl; exact rfl)))
    | ((with_reducible apply wl_gyes); exact rfl; exact rfl)
    | ((with_reducible apply wl_gno_b); exact rfl; exact rfl; exact rfl; exact rfl)
    | ((with_reducible apply wl_gno_u); exact rfl; exact rfl; exact rfl)
    | ((with_reducible apply wl_boxs); exact rfl; exact rfl; intro _)
    | ((with_reducible apply wl_box1); exact rfl; exact rfl; exact rfl; intro _)
    | ((with_reducible apply wl_alloc); exact rfl; intro _)
    | ((with_reducible apply wl_storen_box); exact rfl; exact rfl; (repeat first | exact .hd | apply Sel.tl | apply In.tl); exact rfl; exact rfl; exact rfl)
    | ((with_reducible apply wl_putn_box); exact rfl; exact rfl; (repeat first | exact .hd | apply Sel.tl | apply In.tl); exact rfl; exact rfl; exact rfl; exact rfl)
    | ((with_reducible apply wl_gsplit) <;> first | exact rfl | (intro hb; (replace hb := Tidy.out hb; try (exfalso; omega))))
    | (with_reducible first | apply wl_nil | apply thn_n | apply w_seq | apply w_region | apply w_ret | apply w_skip | apply w_exit | apply w_block | apply thn_r | apply thn_e | apply blk_n | apply blk_r | apply blk_e)
    | ((with_reducible apply w_cond_true); exact rfl)
    | ((with_reducible apply w_cond_false); exact rfl)
    | ((with_reducible apply w_cond) <;> first | exact rfl | (intro hb; (replace hb := Tidy.out hb; try (exfalso; omega))))
    | ((with_reducible apply blk_x); exact rfl))
  rename_i gn
  refine w_loop (fun i : Nat => [(0, .slice At L.length ct), (4, .pointer (some ⟨gn, 0, none⟩)), (11, .slice Al ps.length cl), (12, .int .i64 (ps.length : Int)), (13, .int .i64 (i : Int))])
    (fun i => [.box gn 40 (encN n)]) (fun i => i ≤ ps.length ∧ fitsFrom L n 0 ps = fitsFrom L n (i : Int) (ps.drop i)) (fun i => ps.length - i) 0 ⟨by omega, rfl⟩ ?_ ?_ ?_
  · (repeat (first | exact Sub.nil _ | refine Sub.cons rfl ?_))
  · (repeat (first | exact MSub.nil _ | refine MSub.pick (by (repeat first | exact .hd | apply Sel.tl | apply In.tl)) ?_ | exact MSub.refl _ | refine MSub.drop .hd ?_))
  · rintro i ⟨hi, hrec⟩
    by_cases hlt : i < ps.length
    · obtain ⟨g, o, rfl, hro⟩ := hl3 (by omega)
      have hrp := hro.elem encP_len i hlt
      have hr0 := hroot ps[i] (List.getElem_mem hlt)
      obtain ⟨gt, ot, rfl, hrt⟩ := ht3 (by omega)
      have hrn := hrt.elem encN_len ps[i].root hr0
      rw [List.drop_eq_getElem_cons hlt, fitsFrom, fitOne, kindAt_get hr0] at hrec
      repeat' (first
        | ((with_reducible apply wl_v); exact rfl; (with_reducible apply v_indexAddr); exact rfl; exact rfl; first | exact hlt | exact hr0)
        | ((with_reducible apply wl_v); exact rfl; (with_reducible apply v_loadw_ro); exact rfl; exact hrp; exact rfl)
        | ((with_reducible apply wl_v); exact rfl; (with_reducible apply v_loadf_ro); exact rfl; exact hrn; exact rfl)
        | ((with_reducible apply wl_v); exact rfl; (with_reducible apply v_add); exact rfl; exact rfl; (constructor <;> omega))
        | ((with_reducible apply wl_callp); exact rfl; exact rfl; (intro w hm; exact wide_at n.fn (i : Int) w))
        | ((with_reducible apply wl_callp); exact rfl; exact rfl; (intro w hm; exact released_at n.fn w))
        | ((with_reducible apply wl_v); exact rfl; (first | ((with_reducible apply vop_ok); exact rfl) | ((with_reducible apply v_fieldAddr); exact rfl) | ((with_reducible apply v_len); exact rfl) | ((with_reducible apply v_lens); exact rfl) | ((with_reducible apply v_load_box); exact rfl; (repeat first | exact .hd | apply Sel.tl | apply In.tl); exact rfl) | ((with_reducible apply v_eqlb); exact rfl; exact rfl) | ((with_reducible apply v_neqb); exact rfl; exact rfl) | ((with_reducible apply v_loadw_box); exact rfl; (repeat first | exact .hd | apply Sel.tl | apply In.tl); exact rfl) | ((with_reducible apply v_loadn_box); exact rfl; (repeat first | exact .hd | apply Sel.tl | apply In.tl); exact rfl; exact rfl)))
        | ((with_reducible apply wl_gyes); exact rfl; exact rfl)
        | ((with_reducible apply wl_gno_b); exact rfl; exact rfl; exact rfl; exact rfl)
        | ((with_reducible apply wl_gno_u); exact rfl; exact rfl; exact rfl)
        | ((with_reducible apply wl_boxs); exact rfl; exact rfl; intro _)
        | ((with_reducible apply wl_box1); exact rfl; exact rfl; exact rfl; intro _)
        | ((with_reducible apply wl_alloc); exact rfl; intro _)
        | ((with_reducible apply wl_storen_box); exact rfl; exact rfl; (repeat first | exact .hd | apply Sel.tl | apply In.tl); exact rfl; exact rfl; exact rfl)
        | ((with_reducible apply wl_putn_box); exact rfl; exact rfl; (repeat first | exact .hd | apply Sel.tl | apply In.tl); exact rfl; exact rfl; exact rfl; exact rfl)
        | ((with_reducible apply wl_gsplit) <;> first | exact rfl | (intro hb; (replace hb := Tidy.out hb; try (exfalso; omega))))
        | (with_reducible first | apply wl_nil | apply thn_n | apply w_seq | apply w_region | apply w_ret | apply w_skip | apply w_exit | apply w_block | apply thn_r | apply thn_e | apply blk_n | apply blk_r | apply blk_e)
        | ((with_reducible apply w_cond_true); exact rfl)
        | ((with_reducible apply w_cond_false); exact rfl)
        | ((with_reducible apply w_cond) <;> first | exact rfl | (intro hb; (replace hb := Tidy.out hb; try (exfalso; omega))))
        | ((with_reducible apply blk_x); exact rfl))
      all_goals first
        | (((with_reducible apply ret1); exact .inl rfl; exact rfl; exact rfl; exact MSub.nil _); rw [hrec]; simp_all [mayAt]; done)
        | (refine ⟨i + 1, ⟨by omega, ?_⟩, by omega, ?_, ?_⟩; (focus (rw [hrec, Int.natCast_add]; simp [mayAt, *])); (focus (repeat (first | exact Sub.nil _ | refine Sub.cons rfl ?_))); (focus (repeat (first | exact MSub.nil _ | refine MSub.pick (by (repeat first | exact .hd | apply Sel.tl | apply In.tl)) ?_ | exact MSub.refl _ | refine MSub.drop .hd ?_))))
    · have e : i = ps.length := by omega
      subst e
      rw [List.drop_length, fitsFrom] at hrec
      repeat' (first
        | ((with_reducible apply wl_v); exact rfl; (first | ((with_reducible apply vop_ok); exact rfl) | ((with_reducible apply v_fieldAddr); exact rfl) | ((with_reducible apply v_len); exact rfl) | ((with_reducible apply v_lens); exact rfl) | ((with_reducible apply v_load_box); exact rfl; (repeat first | exact .hd | apply Sel.tl | apply In.tl); exact rfl) | ((with_reducible apply v_eqlb); exact rfl; exact rfl) | ((with_reducible apply v_neqb); exact rfl; exact rfl) | ((with_reducible apply v_loadw_box); exact rfl; (repeat first | exact .hd | apply Sel.tl | apply In.tl); exact rfl) | ((with_reducible apply v_loadn_box); exact rfl; (repeat first | exact .hd | apply Sel.tl | apply In.tl); exact rfl; exact rfl)))
        | ((with_reducible apply wl_gyes); exact rfl; exact rfl)
        | ((with_reducible apply wl_gno_b); exact rfl; exact rfl; exact rfl; exact rfl)
        | ((with_reducible apply wl_gno_u); exact rfl; exact rfl; exact rfl)
        | ((with_reducible apply wl_boxs); exact rfl; exact rfl; intro _)
        | ((with_reducible apply wl_box1); exact rfl; exact rfl; exact rfl; intro _)
        | ((with_reducible apply wl_alloc); exact rfl; intro _)
        | ((with_reducible apply wl_storen_box); exact rfl; exact rfl; (repeat first | exact .hd | apply Sel.tl | apply In.tl); exact rfl; exact rfl; exact rfl)
        | ((with_reducible apply wl_putn_box); exact rfl; exact rfl; (repeat first | exact .hd | apply Sel.tl | apply In.tl); exact rfl; exact rfl; exact rfl; exact rfl)
        | ((with_reducible apply wl_gsplit) <;> first | exact rfl | (intro hb; (replace hb := Tidy.out hb; try (exfalso; omega))))
        | (with_reducible first | apply wl_nil | apply thn_n | apply w_seq | apply w_region | apply w_ret | apply w_skip | apply w_exit | apply w_block | apply thn_r | apply thn_e | apply blk_n | apply blk_r | apply blk_e)
        | ((with_reducible apply w_cond_true); exact rfl)
        | ((with_reducible apply w_cond_false); exact rfl)
        | ((with_reducible apply w_cond) <;> first | exact rfl | (intro hb; (replace hb := Tidy.out hb; try (exfalso; omega))))
        | ((with_reducible apply blk_x); exact rfl))
      ((with_reducible apply ret1); exact .inl rfl; exact rfl; exact rfl; exact MSub.nil _)
      rw [hrec]
end Go.SL

/-
  What 'walk' and 'check' of package tree return, and which visits they make.
-/
namespace Go.SL
open Go Go.Proofs
attribute [local irreducible] W WL WQ WG WA VOp thn blk retP FnAt FnIn

/-- A visit keeps Inv, which tells what is owned by the visits so far. -/
def Visits (N : Nat) (w0 : World) (f : FuncId) (caps : List Value) (Inv : List Visit → List Blk → Prop) : Prop :=
  ∀ (vs : List Visit) (kids : List Nat) (d : Nat) (A : Option Nat) (cap : Nat) (H F : List Blk), Inv vs H → kids.length ≤ 1000 → vs.length < N → (∀ k ∈ kids, k < vs.length) →
    FnIn Try.prog f ([.int .i64 (vs.length : Int), sl A kids.length cap, .int .i64 (d : Int)] ++ caps) w0 (.own A 3 1 kids.length cap (kids.map fun (k : Nat) => .int .i64 (k : Int)) :: (H ++ F))
      fun _ H' => ∃ H1, Inv (vs ++ [(kids, d)]) H1 ∧ MSub (H1 ++ F) H'

theorem fields_ok {n : Nd} (h : fieldsE n = 0) : 0 ≤ below n ∧ below n ≤ 16 := by
  unfold fieldsE at h
  split at h
  · cases h
  · rename_i hk
    split at h
    · rename_i h7
      unfold below
      split
      · omega
      · split
        · omega
        · omega
    · rename_i h7
      have h7' : n.kind = 7 := by omega
      have hb : below n = n.n := by simp [below, h7']
      have hk1 : kindOk n = true := by
        cases hh : kindOk n
        · exact absurd (Or.inl hh) hk
        · rfl
      simp [kindOk, h7'] at hk1
      split at h
      · rename_i ha; omega
      · split at h
        · omega
        · rename_i hc
          have hm : (arity n.fn).2.1 ≤ 16 := by
            unfold arity
            (repeat' split) <;> simp
          omega

theorem topOf_length (st : List Pt) (k : Nat) (h : k ≤ st.length) : (topOf st k).length = k := by simp [topOf]; omega
theorem topOf_mem {st : List Pt} {k : Nat} {p : Pt} (h : p ∈ topOf st k) : p ∈ st := List.mem_of_mem_drop h

/-- The last k trees of the stack, as a slice. -/
theorem top_reads {w0 w : World} {H : List Blk} {A : Option Nat} {st : List Pt} {cap k : Nat} (hm : Mem w0 w H) (hi : In (.own A 117 3 st.length cap (st.flatMap encP)) H) (h : k ≤ st.length) :
    Reads w (.slice (if cap = st.length - k then A.map fun g => ⟨g, 0, none⟩ else (A.map fun g => (⟨g, 0, none⟩ : Addr)).map (·.add ((st.length - k) * 3))) (st.length - (st.length - k)) (cap - (st.length - k))) (topOf st k).length ((topOf st k).flatMap encP) := by
  have h1 := (Reads.of_own hm hi).cut (lo := st.length - k) (hi := st.length) (sz := 3) (by omega) (Nat.le_refl _)
  have e1 : st.length - (st.length - k) = (topOf st k).length := by rw [topOf_length st k h]; omega
  rw [flat_drop encP_len, e1] at h1
  have e2 : ((st.drop (st.length - k)).flatMap encP).take ((topOf st k).length * 3) = (topOf st k).flatMap encP := by
    rw [List.take_of_length_le (by rw [flat_length' encP_len]; exact Nat.le_refl _)]; rfl
  rw [e2] at h1
  rw [e1]
  exact h1

theorem depthOf_succ (top : List Pt) (j : Nat) (h : j < top.length) : depthOf (top.take (j + 1)) = max (depthOf (top.take j)) (top[j].depth + 1) := by
  unfold depthOf
  rw [List.take_succ_eq_append_getElem h, List.foldl_append]
  rfl
theorem depthOf_bound (top : List Pt) (h : ∀ p ∈ top, p.depth ≤ 32) : depthOf top ≤ 33 := by
  have : ∀ (l : List Pt) (d : Nat), d ≤ 33 → (∀ p ∈ l, p.depth ≤ 32) → l.foldl (fun d p => max d (p.depth + 1)) d ≤ 33 := by
    intro l
    induction l with
    | nil => intro d hd _; simpa using hd
    | cons p r ih =>
      intro d hd hp
      have := hp p List.mem_cons_self
      exact ih _ (by show max d (p.depth + 1) ≤ 33; omega) fun q hq => hp q (List.mem_cons_of_mem _ hq)
  exact this top 1 (by omega) h

structure WalkSt (L : List Nd) (Inv : List Visit → List Blk → Prop) (i : Nat) (st : List Pt) (vs : List Visit) (Hv : List Blk) : Prop where
  le : i ≤ L.length
  len : vs.length = i
  inv : Inv vs Hv
  rest : walkT L L 0 [] [] = walkT L (L.drop i) i st vs
  ok : ∀ p ∈ st, p.root < i ∧ p.depth ≤ 32
  small : st.length ≤ i

set_option maxRecDepth 20000 in
set_option maxHeartbeats 2000000 in
theorem walkAt_in (L : List Nd) (hne : 0 < L.length) (hlen : L.length ≤ 256) (tv : Value) (w0 : World) (ht : Reads w0 tv L.length (L.flatMap encN)) (f : FuncId) [hf : Callable Try.prog f] (caps : List Value) (Inv : List Visit → List Blk → Prop) (hV : Visits L.length w0 f caps Inv)
    (H : List Blk) (hI : Inv [] H) : FnIn Try.prog 76 [tv, .func (.func f) #[] caps.toArray] w0 H fun v H' => v = .int .i64 (walkT L L 0 [] []).1 ∧ Inv (walkT L L 0 [] []).2 H' := by
  have ht' := ht
  obtain ⟨At, ct, rfl, ht1, ht2, ht3⟩ := ht
  obtain ⟨gt, ot, rfl, hrt⟩ := ht3 hne
  refine fn_in Try.func76 rfl Try.ntmps76 rfl ?_
  repeat' (first
    | ((with_reducible apply wl_v); exact rfl; (first | ((with_reducible apply vop_ok); exact rfl) | ((with_reducible apply v_fieldAddr); exact rfl) | ((with_reducible apply v_len); exact rfl) | ((with_reducible apply v_lens); exact rfl) | ((with_reducible apply v_load_box); exact rfl; (repeat first | exact .hd | apply Sel.tl | apply In.tl); exact rfl) | ((with_reducible apply v_eqlb); exact rfl; exact rfl) | ((with_reducible apply v_neqb); exact rfl; exact rfl) | ((with_reducible apply v_max); exact rfl; exact rfl) | ((with_reducible apply v_loadw_box); exact rfl; (repeat first | exact .hd | apply Sel.tl | apply In.tl); exact rfl) | ((with_reducible apply v_loadn_box); exact rfl; (repeat first | exact .hd | apply Sel.tl | apply In.tl); exact rfl; exact rfl) | ((with_reducible apply v_build); exact rfl; exact rfl; exact rfl)))
    | ((with_reducible apply wl_gyes); exact rfl; exact rfl)
    | ((with_reducible apply wl_gno_b); exact rfl; exact rfl; exact rfl; exact rfl)
    | ((with_reducible apply wl_gno_u); exact rfl; exact rfl; exact rfl)
    | ((with_reducible apply wl_alloc); exact rfl; intro _)
    | ((with_reducible apply wl_storen_box); exact rfl; exact rfl; (repeat first | exact .hd | apply Sel.tl | apply In.tl); exact rfl; exact rfl; exact rfl)
    | ((with_reducible apply wl_putn_box); exact rfl; exact rfl; (repeat first | exact .hd | apply Sel.tl | apply In.tl); exact rfl; exact rfl; exact rfl; exact rfl)
    | ((with_reducible apply wl_buildSlice); exact rfl; exact rfl; exact rfl; exact rfl; exact rfl; exact rfl; exact rfl; intro _)
    | ((with_reducible apply wl_gsplit) <;> first | exact rfl | (intro hb; (replace hb := Tidy.out hb; try (exfalso; omega))))
    | (with_reducible first | apply wl_nil | apply thn_n | apply w_seq | apply w_region | apply w_ret | apply w_skip | apply w_exit | apply w_block | apply thn_r | apply thn_e | apply blk_n | apply blk_r | apply blk_e)
    | ((with_reducible apply w_cond_true); exact rfl)
    | ((with_reducible apply w_cond_false); exact rfl)
    | ((with_reducible apply w_cond) <;> first | exact rfl | (intro hb; (replace hb := Tidy.out hb; try (exfalso; omega))))
    | ((with_reducible apply blk_x); exact rfl))
  refine w_nilrow 117 3 ?_
  refine w_loopR (fun (i : Nat) s H => ∃ st vs A cap Hv, s = [(0, .slice (some ⟨gt, ot, none⟩) L.length ct), (1, .func (.func f) #[] caps.toArray), (5, sl A st.length cap), (14, .slice (some ⟨gt, ot, none⟩) L.length ct), (15, .int .i64 (L.length : Int)), (16, .int .i64 (i : Int))] ∧
      H = .own A 117 3 st.length cap (st.flatMap encP) :: Hv ∧ WalkSt L Inv i st vs Hv) (fun i => L.length - i) 0 ?_ ?_
  · refine ⟨_, _, ?_, ?_, ⟨[], [], none, 0, H, rfl, rfl, ⟨Nat.zero_le _, rfl, hI, rfl, by simp, Nat.le_refl _⟩⟩⟩
    · (repeat (first | exact Sub.nil _ | refine Sub.cons rfl ?_))
    · (repeat (first | exact MSub.nil _ | refine MSub.pick (by (repeat first | exact .hd | apply Sel.tl | apply In.tl)) ?_ | exact MSub.refl _ | refine MSub.drop .hd ?_))
  · rintro i _ _ ⟨st, vs, A, cap, Hv, rfl, rfl, hst⟩
    obtain ⟨hle, hvl, hinv, hrest, hok, hsmall⟩ := hst
    by_cases hlt : i < L.length
    · have hrn := hrt.elem encN_len i hlt
      rw [List.drop_eq_getElem_cons hlt, walkT, stepT] at hrest
      generalize hn : L[i] = n at hrest hrn
      by_cases hfe : fieldsE n = 0
      · obtain ⟨hb0, hb16⟩ := fields_ok hfe
        obtain ⟨k, hk⟩ := Int.eq_ofNat_of_zero_le hb0
        rw [if_neg (by simp [hfe]), hk, Int.toNat_natCast] at hrest
        have hbel : ∀ w, Pure Try.prog 86 [.agg (encN n).toArray] w (.int .i64 (k : Int)) := fun w => hk ▸ below_at n w
        have hfie : ∀ w, Pure Try.prog 85 [.agg (encN n).toArray] w (.int .i64 0) := fun w => hfe ▸ fields_at n w
        refine w_row .hd fun hr1 hr2 hr3 => ?_
        repeat' (first
          | ((with_reducible apply wl_v); exact rfl; (with_reducible apply v_indexAddr); exact rfl; exact rfl; exact hlt)
          | ((with_reducible apply wl_v); exact rfl; (with_reducible apply v_loadw_ro); exact rfl; exact hrn; exact rfl)
          | ((with_reducible apply wl_v); exact rfl; (with_reducible apply v_addN); exact rfl; exact rfl; (simp only [maxLen]; omega))
          | ((with_reducible apply wl_callp); exact rfl; exact rfl; (intro w hm; exact hfie w))
          | ((with_reducible apply wl_callp); exact rfl; exact rfl; (intro w hm; exact hbel w))
          | ((with_reducible apply w_draw (id := 9)); kernel_rfl; kernel_rfl)
          | ((with_reducible apply wq_v); exact rfl; (with_reducible apply v_subN); exact rfl; exact rfl; omega; omega)
          | ((with_reducible apply wl_v); exact rfl; (with_reducible apply v_subN); exact rfl; exact rfl; omega; omega)
          | ((with_reducible apply wq_v); exact rfl; (with_reducible apply v_slice (hi := st.length)); exact rfl; exact ⟨_, rfl⟩; exact rfl; omega; omega)
          | ((with_reducible apply wq_callp); exact rfl; exact rfl; (intro w hm; exact fits_at L n (topOf st k) _ _ w (ht'.of_w0 hm) (top_reads hm (by (repeat first | exact .hd | apply Sel.tl | apply In.tl)) (by omega)) (fun p hp => Nat.lt_trans (hok p (topOf_mem hp)).1 hlt) (by rw [topOf_length st k (by omega)]; omega)))
          | ((with_reducible first | apply wl_v | apply wq_v); exact rfl; (first | ((with_reducible apply vop_ok); exact rfl) | ((with_reducible apply v_fieldAddr); exact rfl) | ((with_reducible apply v_len); exact rfl) | ((with_reducible apply v_lens); exact rfl) | ((with_reducible apply v_load_box); exact rfl; (repeat first | exact .hd | apply Sel.tl | apply In.tl); exact rfl) | ((with_reducible apply v_eqlb); exact rfl; exact rfl) | ((with_reducible apply v_neqb); exact rfl; exact rfl) | ((with_reducible apply v_max); exact rfl; exact rfl) | ((with_reducible apply v_loadw_box); exact rfl; (repeat first | exact .hd | apply Sel.tl | apply In.tl); exact rfl) | ((with_reducible apply v_loadn_box); exact rfl; (repeat first | exact .hd | apply Sel.tl | apply In.tl); exact rfl; exact rfl) | ((with_reducible apply v_build); exact rfl; exact rfl; exact rfl)))
          | ((with_reducible first | apply wl_gyes | apply wq_gyes); exact rfl; exact rfl)
          | ((with_reducible first | apply wl_gno_b | apply wq_gno_b); exact rfl; exact rfl; exact rfl; exact rfl)
          | ((with_reducible first | apply wl_gno_u | apply wq_gno_u); exact rfl; exact rfl; exact rfl)
          | ((with_reducible apply wl_alloc); exact rfl; intro _)
          | ((with_reducible apply wl_storen_box); exact rfl; exact rfl; (repeat first | exact .hd | apply Sel.tl | apply In.tl); exact rfl; exact rfl; exact rfl)
          | ((with_reducible apply wl_putn_box); exact rfl; exact rfl; (repeat first | exact .hd | apply Sel.tl | apply In.tl); exact rfl; exact rfl; exact rfl; exact rfl)
          | ((with_reducible apply wl_buildSlice); exact rfl; exact rfl; exact rfl; exact rfl; exact rfl; exact rfl; exact rfl; intro _)
          | ((with_reducible first | apply wl_gsplit | apply wq_gsplit) <;> first | exact rfl | (intro hb; (replace hb := Tidy.out hb; try (exfalso; omega))))
          | (with_reducible first | apply wl_nil | apply thn_n | apply w_seq | apply w_region | apply w_ret | apply w_skip | apply w_exit | apply w_block | apply thn_r | apply thn_e | apply blk_n | apply blk_r | apply blk_e | apply wq_nil)
          | ((with_reducible apply w_cond_true); exact rfl)
          | ((with_reducible apply w_cond_false); exact rfl)
          | ((with_reducible apply w_cond) <;> first | exact rfl | (intro hb; (replace hb := Tidy.out hb; try (exfalso; omega))))
          | ((with_reducible apply blk_x); exact rfl))
        · refine ret1 (.inl rfl) Try.results76 rfl (.drop .hd (.drop .hd (.refl _))) ?_
          rw [hrest, if_pos (Or.inl (by omega))]
          exact ⟨rfl, hinv⟩
        · refine ret1 (.inl rfl) Try.results76 rfl (.drop .hd (.drop .hd (.refl _))) ?_
          rw [hrest, if_pos (Or.inr hb)]
          exact ⟨rfl, hinv⟩
        have hkl : k ≤ st.length := by omega
        rw [if_neg (by intro h; rcases h with h | h; (· omega); (· rw [hb] at h; cases h))] at hrest
        repeat' (first
          | ((with_reducible apply wl_v); exact rfl; (with_reducible apply v_subN); exact rfl; exact rfl; omega; omega)
          | ((with_reducible apply wl_slice (hi := st.length)); exact rfl; exact rfl; exact ⟨_, rfl⟩; exact rfl; omega; omega; (intro B hB))
          | ((with_reducible apply wl_v); exact rfl; (first | ((with_reducible apply vop_ok); exact rfl) | ((with_reducible apply v_fieldAddr); exact rfl) | ((with_reducible apply v_len); exact rfl) | ((with_reducible apply v_lens); exact rfl) | ((with_reducible apply v_load_box); exact rfl; (repeat first | exact .hd | apply Sel.tl | apply In.tl); exact rfl) | ((with_reducible apply v_eqlb); exact rfl; exact rfl) | ((with_reducible apply v_neqb); exact rfl; exact rfl) | ((with_reducible apply v_max); exact rfl; exact rfl) | ((with_reducible apply v_loadw_box); exact rfl; (repeat first | exact .hd | apply Sel.tl | apply In.tl); exact rfl) | ((with_reducible apply v_loadn_box); exact rfl; (repeat first | exact .hd | apply Sel.tl | apply In.tl); exact rfl; exact rfl) | ((with_reducible apply v_build); exact rfl; exact rfl; exact rfl)))
          | ((with_reducible apply wl_gyes); exact rfl; exact rfl)
          | ((with_reducible apply wl_gno_b); exact rfl; exact rfl; exact rfl; exact rfl)
          | ((with_reducible apply wl_gno_u); exact rfl; exact rfl; exact rfl)
          | ((with_reducible apply wl_alloc); exact rfl; intro _)
          | ((with_reducible apply wl_storen_box); exact rfl; exact rfl; (repeat first | exact .hd | apply Sel.tl | apply In.tl); exact rfl; exact rfl; exact rfl)
          | ((with_reducible apply wl_putn_box); exact rfl; exact rfl; (repeat first | exact .hd | apply Sel.tl | apply In.tl); exact rfl; exact rfl; exact rfl; exact rfl)
          | ((with_reducible apply wl_buildSlice); exact rfl; exact rfl; exact rfl; exact rfl; exact rfl; exact rfl; exact rfl; intro _)
          | ((with_reducible apply wl_gsplit) <;> first | exact rfl | (intro hb; (replace hb := Tidy.out hb; try (exfalso; omega))))
          | (with_reducible first | apply wl_nil | apply thn_n | apply w_seq | apply w_region | apply w_ret | apply w_skip | apply w_exit | apply w_block | apply thn_r | apply thn_e | apply blk_n | apply blk_r | apply blk_e)
          | ((with_reducible apply w_cond_true); exact rfl)
          | ((with_reducible apply w_cond_false); exact rfl)
          | ((with_reducible apply w_cond) <;> first | exact rfl | (intro hb; (replace hb := Tidy.out hb; try (exfalso; omega))))
          | ((with_reducible apply blk_x); exact rfl))
        rename_i gn gp
        refine w_nilrow 3 1 ?_
        have htl := topOf_length st k hkl
        refine w_loopR (fun (j : Nat) s H => ∃ A2 cap2, s = [(0, .slice (some ⟨gt, ot, none⟩) L.length ct), (1, .func (.func f) #[] caps.toArray), (5, sl A st.length cap), (6, .int .i64 (i : Int)), (9, .int .i64 (k : Int)), (10, .pointer (some ⟨gp, 0, none⟩)), (11, sl A2 j cap2),
            (14, .slice (some ⟨gt, ot, none⟩) L.length ct), (15, .int .i64 (L.length : Int)), (16, .int .i64 (i : Int)), (54, .slice B (st.length - (st.length - k)) (cap - (st.length - k))), (55, .int .i64 ((st.length - (st.length - k) : Nat) : Int)), (56, .int .i64 (j : Int))] ∧
            H = .own A2 3 1 j cap2 (((topOf st k).take j).map fun p => .int .i64 (p.root : Int)) :: .box gp 117 [.int .i64 (i : Int), .int .i64 (depthOf ((topOf st k).take j) : Int), .bool (decide (n.kind = 3))] :: .own A 117 3 st.length cap (st.flatMap encP) :: Hv ∧ j ≤ k) (fun j => k - j) 0 ?_ ?_
        · refine ⟨_, _, ?_, ?_, ⟨none, 0, rfl, rfl, by omega⟩⟩
          · (repeat (first | exact Sub.nil _ | refine Sub.cons rfl ?_))
          · (repeat (first | exact MSub.nil _ | refine MSub.pick (by (repeat first | exact .hd | apply Sel.tl | apply In.tl)) ?_ | exact MSub.refl _ | refine MSub.drop .hd ?_))
        · rintro j _ _ ⟨A2, cap2, rfl, rfl, hjk⟩
          by_cases hj : j < k
          · refine w_some (.tl (.tl .hd)) (by omega) fun gs hA => ?_
            subst hA
            obtain rfl : B = some ⟨gs, 0 + (st.length - k) * 3, none⟩ := by rw [hB, if_neg (by omega)]; simp [addr_add]
            have hjt : j < (topOf st k).length := by omega
            have he : ((st.flatMap encP).drop (0 + (st.length - k) * 3 + j * 3)).take 3 = encP (topOf st k)[j] := by
              rw [show 0 + (st.length - k) * 3 + j * 3 = (st.length - k + j) * 3 by rw [Nat.add_mul]; omega, flat_elem encP_len st _ (by omega)]
              simp [topOf]
            have hd32 : (topOf st k)[j].depth ≤ 32 := (hok _ (topOf_mem (List.getElem_mem hjt))).2
            repeat' (first
              | ((with_reducible apply wl_v); exact rfl; (with_reducible apply v_indexAddr); exact rfl; exact rfl; omega)
              | ((with_reducible apply wl_v); exact rfl; (with_reducible apply v_loade_own); exact rfl; (repeat first | exact .hd | apply Sel.tl | apply In.tl); exact he; exact rfl)
              | ((with_reducible apply wl_v); exact rfl; (with_reducible apply v_succN); exact rfl; exact rfl; (simp only [maxLen]; omega))
              | ((with_reducible apply wl_v); exact rfl; (with_reducible apply v_maxN); exact rfl; exact rfl)
              | ((with_reducible apply wl_append); exact rfl; exact rfl; exact rfl; (repeat first | exact .hd | apply Sel.tl | apply In.tl); (intro w hm; exact hm.cells_own (by (repeat first | exact .hd | apply Sel.tl | apply In.tl))); exact rfl; (simp [Value.oneCell', sl]); omega; (simp only [maxLen]; omega); (intro A' cap' hA'))
              | ((with_reducible apply wl_v); exact rfl; (first | ((with_reducible apply vop_ok); exact rfl) | ((with_reducible apply v_fieldAddr); exact rfl) | ((with_reducible apply v_len); exact rfl) | ((with_reducible apply v_lens); exact rfl) | ((with_reducible apply v_load_box); exact rfl; (repeat first | exact .hd | apply Sel.tl | apply In.tl); exact rfl) | ((with_reducible apply v_eqlb); exact rfl; exact rfl) | ((with_reducible apply v_neqb); exact rfl; exact rfl) | ((with_reducible apply v_max); exact rfl; exact rfl) | ((with_reducible apply v_loadw_box); exact rfl; (repeat first | exact .hd | apply Sel.tl | apply In.tl); exact rfl) | ((with_reducible apply v_loadn_box); exact rfl; (repeat first | exact .hd | apply Sel.tl | apply In.tl); exact rfl; exact rfl) | ((with_reducible apply v_build); exact rfl; exact rfl; exact rfl)))
              | ((with_reducible apply wl_gyes); exact rfl; exact rfl)
              | ((with_reducible apply wl_gno_b); exact rfl; exact rfl; exact rfl; exact rfl)
              | ((with_reducible apply wl_gno_u); exact rfl; exact rfl; exact rfl)
              | ((with_reducible apply wl_alloc); exact rfl; intro _)
              | ((with_reducible apply wl_storen_box); exact rfl; exact rfl; (repeat first | exact .hd | apply Sel.tl | apply In.tl); exact rfl; exact rfl; exact rfl)
              | ((with_reducible apply wl_putn_box); exact rfl; exact rfl; (repeat first | exact .hd | apply Sel.tl | apply In.tl); exact rfl; exact rfl; exact rfl; exact rfl)
              | ((with_reducible apply wl_buildSlice); exact rfl; exact rfl; exact rfl; exact rfl; exact rfl; exact rfl; exact rfl; intro _)
              | ((with_reducible apply wl_gsplit) <;> first | exact rfl | (intro hb; (replace hb := Tidy.out hb; try (exfalso; omega))))
              | (with_reducible first | apply wl_nil | apply thn_n | apply w_seq | apply w_region | apply w_ret | apply w_skip | apply w_exit | apply w_block | apply thn_r | apply thn_e | apply blk_n | apply blk_r | apply blk_e)
              | ((with_reducible apply w_cond_true); exact rfl)
              | ((with_reducible apply w_cond_false); exact rfl)
              | ((with_reducible apply w_cond) <;> first | exact rfl | (intro hb; (replace hb := Tidy.out hb; try (exfalso; omega))))
              | ((with_reducible apply blk_x); exact rfl))
            have hk1 : ((topOf st k).take (j + 1)).map (fun p => Value.int .i64 (p.root : Int)) = ((topOf st k).take j).map (fun p => Value.int .i64 (p.root : Int)) ++ [.int .i64 ((topOf st k)[j].root : Int)] := by
              rw [List.take_succ_eq_append_getElem hjt, List.map_append]; rfl
            refine ⟨j + 1, _, _, ?_, ?_, ?_, ⟨A', cap', rfl, rfl, hj⟩⟩
            · omega
            · (repeat (first | exact Sub.nil _ | refine Sub.cons rfl ?_))
            · rw [hk1, depthOf_succ _ _ hjt]
              (repeat (first | exact MSub.nil _ | refine MSub.pick (by (repeat first | exact .hd | apply Sel.tl | apply In.tl)) ?_ | exact MSub.refl _ | refine MSub.drop .hd ?_))
          · have e : j = k := by omega
            subst e
            have htk : (topOf st j).take j = topOf st j := List.take_of_length_le (by omega)
            rw [htk]
            have hd33 := depthOf_bound (topOf st j) fun p hp => (hok p (topOf_mem hp)).2
            repeat' (first
              | ((with_reducible apply wl_v); exact rfl; (first | ((with_reducible apply vop_ok); exact rfl) | ((with_reducible apply v_fieldAddr); exact rfl) | ((with_reducible apply v_len); exact rfl) | ((with_reducible apply v_lens); exact rfl) | ((with_reducible apply v_load_box); exact rfl; (repeat first | exact .hd | apply Sel.tl | apply In.tl); exact rfl) | ((with_reducible apply v_eqlb); exact rfl; exact rfl) | ((with_reducible apply v_neqb); exact rfl; exact rfl) | ((with_reducible apply v_max); exact rfl; exact rfl) | ((with_reducible apply v_loadw_box); exact rfl; (repeat first | exact .hd | apply Sel.tl | apply In.tl); exact rfl) | ((with_reducible apply v_loadn_box); exact rfl; (repeat first | exact .hd | apply Sel.tl | apply In.tl); exact rfl; exact rfl) | ((with_reducible apply v_build); exact rfl; exact rfl; exact rfl)))
              | ((with_reducible apply wl_gyes); exact rfl; exact rfl)
              | ((with_reducible apply wl_gno_b); exact rfl; exact rfl; exact rfl; exact rfl)
              | ((with_reducible apply wl_gno_u); exact rfl; exact rfl; exact rfl)
              | ((with_reducible apply wl_alloc); exact rfl; intro _)
              | ((with_reducible apply wl_storen_box); exact rfl; exact rfl; (repeat first | exact .hd | apply Sel.tl | apply In.tl); exact rfl; exact rfl; exact rfl)
              | ((with_reducible apply wl_putn_box); exact rfl; exact rfl; (repeat first | exact .hd | apply Sel.tl | apply In.tl); exact rfl; exact rfl; exact rfl; exact rfl)
              | ((with_reducible apply wl_buildSlice); exact rfl; exact rfl; exact rfl; exact rfl; exact rfl; exact rfl; exact rfl; intro _)
              | ((with_reducible apply wl_gsplit) <;> first | exact rfl | (intro hb; (replace hb := Tidy.out hb; try (exfalso; omega))))
              | (with_reducible first | apply wl_nil | apply thn_n | apply w_seq | apply w_region | apply w_ret | apply w_skip | apply w_exit | apply w_block | apply thn_r | apply thn_e | apply blk_n | apply blk_r | apply blk_e)
              | ((with_reducible apply w_cond_true); exact rfl)
              | ((with_reducible apply w_cond_false); exact rfl)
              | ((with_reducible apply w_cond) <;> first | exact rfl | (intro hb; (replace hb := Tidy.out hb; try (exfalso; omega))))
              | ((with_reducible apply blk_x); exact rfl))
            · refine ret1 (.inl rfl) Try.results76 rfl (.drop .hd (.drop .hd (.drop .hd (.refl _)))) ?_
              rw [hrest, if_pos (by omega)]
              exact ⟨rfl, hinv⟩
            rw [if_neg (by omega)] at hrest
            refine w_shrink (.tl (.tl .hd)) (st.length - j) (by omega) ?_
            refine w_drawA 10 rfl (by kernel_rfl) ?_
            ((with_reducible apply wa_pure (i := 0)); exact rfl; exact rfl; decide +kernel; decide +kernel; decide +kernel; (repeat (first | exact np_ret | apply np_thn | apply np_blk)); (intro _ _; first | (first | ((with_reducible apply vop_ok); exact rfl) | ((with_reducible apply v_fieldAddr); exact rfl) | ((with_reducible apply v_len); exact rfl) | ((with_reducible apply v_lens); exact rfl) | ((with_reducible apply v_makeFunc); exact rfl) | ((with_reducible apply v_load_box); exact rfl; (repeat first | exact .hd | apply Sel.tl | apply In.tl); exact rfl) | ((with_reducible apply v_eqlb); exact rfl; exact rfl) | ((with_reducible apply v_neqb); exact rfl; exact rfl) | ((with_reducible apply v_max); exact rfl; exact rfl) | ((with_reducible apply v_min); exact rfl; exact rfl) | ((with_reducible apply v_loadw_box); exact rfl; (repeat first | exact .hd | apply Sel.tl | apply In.tl); exact rfl) | ((with_reducible apply v_loadn_box); exact rfl; (repeat first | exact .hd | apply Sel.tl | apply In.tl); exact rfl; exact rfl) | ((with_reducible apply v_build); exact rfl; exact rfl; exact rfl) | ((with_reducible apply v_shr); exact rfl; exact rfl; exact rfl)) | ((with_reducible apply v_subN); exact rfl; exact rfl; omega; omega) | ((with_reducible apply v_sliceP); exact rfl; exact rfl; omega)))
            ((with_reducible apply wa_pure (i := 1)); exact rfl; exact rfl; decide +kernel; decide +kernel; decide +kernel; (repeat (first | exact np_ret | apply np_thn | apply np_blk)); (intro _ _; first | (first | ((with_reducible apply vop_ok); exact rfl) | ((with_reducible apply v_fieldAddr); exact rfl) | ((with_reducible apply v_len); exact rfl) | ((with_reducible apply v_lens); exact rfl) | ((with_reducible apply v_makeFunc); exact rfl) | ((with_reducible apply v_load_box); exact rfl; (repeat first | exact .hd | apply Sel.tl | apply In.tl); exact rfl) | ((with_reducible apply v_eqlb); exact rfl; exact rfl) | ((with_reducible apply v_neqb); exact rfl; exact rfl) | ((with_reducible apply v_max); exact rfl; exact rfl) | ((with_reducible apply v_min); exact rfl; exact rfl) | ((with_reducible apply v_loadw_box); exact rfl; (repeat first | exact .hd | apply Sel.tl | apply In.tl); exact rfl) | ((with_reducible apply v_loadn_box); exact rfl; (repeat first | exact .hd | apply Sel.tl | apply In.tl); exact rfl; exact rfl) | ((with_reducible apply v_build); exact rfl; exact rfl; exact rfl) | ((with_reducible apply v_shr); exact rfl; exact rfl; exact rfl)) | ((with_reducible apply v_subN); exact rfl; exact rfl; omega; omega) | ((with_reducible apply v_sliceP); exact rfl; exact rfl; omega)))
            ((with_reducible apply wa_pure (i := 2)); exact rfl; exact rfl; decide +kernel; decide +kernel; decide +kernel; (repeat (first | exact np_ret | apply np_thn | apply np_blk)); (intro _ _; first | (first | ((with_reducible apply vop_ok); exact rfl) | ((with_reducible apply v_fieldAddr); exact rfl) | ((with_reducible apply v_len); exact rfl) | ((with_reducible apply v_lens); exact rfl) | ((with_reducible apply v_makeFunc); exact rfl) | ((with_reducible apply v_load_box); exact rfl; (repeat first | exact .hd | apply Sel.tl | apply In.tl); exact rfl) | ((with_reducible apply v_eqlb); exact rfl; exact rfl) | ((with_reducible apply v_neqb); exact rfl; exact rfl) | ((with_reducible apply v_max); exact rfl; exact rfl) | ((with_reducible apply v_min); exact rfl; exact rfl) | ((with_reducible apply v_loadw_box); exact rfl; (repeat first | exact .hd | apply Sel.tl | apply In.tl); exact rfl) | ((with_reducible apply v_loadn_box); exact rfl; (repeat first | exact .hd | apply Sel.tl | apply In.tl); exact rfl; exact rfl) | ((with_reducible apply v_build); exact rfl; exact rfl; exact rfl) | ((with_reducible apply v_shr); exact rfl; exact rfl; exact rfl)) | ((with_reducible apply v_subN); exact rfl; exact rfl; omega; omega) | ((with_reducible apply v_sliceP); exact rfl; exact rfl; omega)))
            ((with_reducible apply wa_pure (i := 3)); exact rfl; exact rfl; decide +kernel; decide +kernel; decide +kernel; (repeat (first | exact np_ret | apply np_thn | apply np_blk)); (intro _ _; first | (first | ((with_reducible apply vop_ok); exact rfl) | ((with_reducible apply v_fieldAddr); exact rfl) | ((with_reducible apply v_len); exact rfl) | ((with_reducible apply v_lens); exact rfl) | ((with_reducible apply v_makeFunc); exact rfl) | ((with_reducible apply v_load_box); exact rfl; (repeat first | exact .hd | apply Sel.tl | apply In.tl); exact rfl) | ((with_reducible apply v_eqlb); exact rfl; exact rfl) | ((with_reducible apply v_neqb); exact rfl; exact rfl) | ((with_reducible apply v_max); exact rfl; exact rfl) | ((with_reducible apply v_min); exact rfl; exact rfl) | ((with_reducible apply v_loadw_box); exact rfl; (repeat first | exact .hd | apply Sel.tl | apply In.tl); exact rfl) | ((with_reducible apply v_loadn_box); exact rfl; (repeat first | exact .hd | apply Sel.tl | apply In.tl); exact rfl; exact rfl) | ((with_reducible apply v_build); exact rfl; exact rfl; exact rfl) | ((with_reducible apply v_shr); exact rfl; exact rfl; exact rfl)) | ((with_reducible apply v_subN); exact rfl; exact rfl; omega; omega) | ((with_reducible apply v_sliceP); exact rfl; exact rfl; omega)))
            ((with_reducible apply wa_pure (i := 4)); exact rfl; exact rfl; decide +kernel; decide +kernel; decide +kernel; (repeat (first | exact np_ret | apply np_thn | apply np_blk)); (intro _ _; first | (first | ((with_reducible apply vop_ok); exact rfl) | ((with_reducible apply v_fieldAddr); exact rfl) | ((with_reducible apply v_len); exact rfl) | ((with_reducible apply v_lens); exact rfl) | ((with_reducible apply v_makeFunc); exact rfl) | ((with_reducible apply v_load_box); exact rfl; (repeat first | exact .hd | apply Sel.tl | apply In.tl); exact rfl) | ((with_reducible apply v_eqlb); exact rfl; exact rfl) | ((with_reducible apply v_neqb); exact rfl; exact rfl) | ((with_reducible apply v_max); exact rfl; exact rfl) | ((with_reducible apply v_min); exact rfl; exact rfl) | ((with_reducible apply v_loadw_box); exact rfl; (repeat first | exact .hd | apply Sel.tl | apply In.tl); exact rfl) | ((with_reducible apply v_loadn_box); exact rfl; (repeat first | exact .hd | apply Sel.tl | apply In.tl); exact rfl; exact rfl) | ((with_reducible apply v_build); exact rfl; exact rfl; exact rfl) | ((with_reducible apply v_shr); exact rfl; exact rfl; exact rfl)) | ((with_reducible apply v_subN); exact rfl; exact rfl; omega; omega) | ((with_reducible apply v_sliceP); exact rfl; exact rfl; omega)))
            ((with_reducible apply wa_pure (i := 5)); exact rfl; exact rfl; decide +kernel; decide +kernel; decide +kernel; (repeat (first | exact np_ret | apply np_thn | apply np_blk)); (intro _ _; first | (first | ((with_reducible apply vop_ok); exact rfl) | ((with_reducible apply v_fieldAddr); exact rfl) | ((with_reducible apply v_len); exact rfl) | ((with_reducible apply v_lens); exact rfl) | ((with_reducible apply v_makeFunc); exact rfl) | ((with_reducible apply v_load_box); exact rfl; (repeat first | exact .hd | apply Sel.tl | apply In.tl); exact rfl) | ((with_reducible apply v_eqlb); exact rfl; exact rfl) | ((with_reducible apply v_neqb); exact rfl; exact rfl) | ((with_reducible apply v_max); exact rfl; exact rfl) | ((with_reducible apply v_min); exact rfl; exact rfl) | ((with_reducible apply v_loadw_box); exact rfl; (repeat first | exact .hd | apply Sel.tl | apply In.tl); exact rfl) | ((with_reducible apply v_loadn_box); exact rfl; (repeat first | exact .hd | apply Sel.tl | apply In.tl); exact rfl; exact rfl) | ((with_reducible apply v_build); exact rfl; exact rfl; exact rfl) | ((with_reducible apply v_shr); exact rfl; exact rfl; exact rfl)) | ((with_reducible apply v_subN); exact rfl; exact rfl; omega; omega) | ((with_reducible apply v_sliceP); exact rfl; exact rfl; omega)))
            repeat' (first
              | ((with_reducible apply wa_one (i := 6)); exact rfl; decide +kernel)
              | ((with_reducible apply wa_one (i := 7)); exact rfl; decide +kernel)
              | ((with_reducible apply wa_one (i := 8)); exact rfl; decide +kernel)
              | ((with_reducible apply wa_one (i := 9)); exact rfl; decide +kernel)
              | ((with_reducible apply wa_done); decide +kernel)
              | ((with_reducible apply wl_append); exact rfl; exact rfl; exact rfl; (repeat first | exact .hd | apply Sel.tl | apply In.tl); (intro w hm; exact hm.cells_own (by (repeat first | exact .hd | apply Sel.tl | apply In.tl))); exact rfl; (simp [Value.oneCell', sl]); omega; (simp only [maxLen]; omega); (intro A' cap' hA'))
              | ((with_reducible apply wl_v); exact rfl; (first | ((with_reducible apply vop_ok); exact rfl) | ((with_reducible apply v_fieldAddr); exact rfl) | ((with_reducible apply v_len); exact rfl) | ((with_reducible apply v_lens); exact rfl) | ((with_reducible apply v_load_box); exact rfl; (repeat first | exact .hd | apply Sel.tl | apply In.tl); exact rfl) | ((with_reducible apply v_eqlb); exact rfl; exact rfl) | ((with_reducible apply v_neqb); exact rfl; exact rfl) | ((with_reducible apply v_max); exact rfl; exact rfl) | ((with_reducible apply v_loadw_box); exact rfl; (repeat first | exact .hd | apply Sel.tl | apply In.tl); exact rfl) | ((with_reducible apply v_loadn_box); exact rfl; (repeat first | exact .hd | apply Sel.tl | apply In.tl); exact rfl; exact rfl) | ((with_reducible apply v_build); exact rfl; exact rfl; exact rfl)))
              | ((with_reducible apply wl_gyes); exact rfl; exact rfl)
              | ((with_reducible apply wl_gno_b); exact rfl; exact rfl; exact rfl; exact rfl)
              | ((with_reducible apply wl_gno_u); exact rfl; exact rfl; exact rfl)
              | ((with_reducible apply wl_alloc); exact rfl; intro _)
              | ((with_reducible apply wl_storen_box); exact rfl; exact rfl; (repeat first | exact .hd | apply Sel.tl | apply In.tl); exact rfl; exact rfl; exact rfl)
              | ((with_reducible apply wl_putn_box); exact rfl; exact rfl; (repeat first | exact .hd | apply Sel.tl | apply In.tl); exact rfl; exact rfl; exact rfl; exact rfl)
              | ((with_reducible apply wl_buildSlice); exact rfl; exact rfl; exact rfl; exact rfl; exact rfl; exact rfl; exact rfl; intro _)
              | ((with_reducible apply wl_gsplit) <;> first | exact rfl | (intro hb; (replace hb := Tidy.out hb; try (exfalso; omega))))
              | (with_reducible first | apply wl_nil | apply thn_n | apply w_seq | apply w_region | apply w_ret | apply w_skip | apply w_exit | apply w_block | apply thn_r | apply thn_e | apply blk_n | apply blk_r | apply blk_e)
              | ((with_reducible apply w_cond_true); exact rfl)
              | ((with_reducible apply w_cond_false); exact rfl)
              | ((with_reducible apply w_cond) <;> first | exact rfl | (intro hb; (replace hb := Tidy.out hb; try (exfalso; omega))))
              | ((with_reducible apply blk_x); exact rfl))
            have hcont : (st.flatMap encP).take ((st.length - j) * 3) ++ [.int .i64 (i : Int), .int .i64 (depthOf (topOf st j) : Int), .bool (decide (n.kind = 3))] = (st.take (st.length - j) ++ [(⟨i, depthOf (topOf st j), decide (n.kind = 3)⟩ : Pt)]).flatMap encP := by
              rw [flat_take encP_len, List.flatMap_append]; rfl
            have hvis := hV vs ((topOf st j).map Pt.root) (depthOf (topOf st j)) A2 cap2 Hv [.own A' 117 3 (st.length - j + 1) cap' ((st.take (st.length - j) ++ [(⟨i, depthOf (topOf st j), decide (n.kind = 3)⟩ : Pt)]).flatMap encP)] hinv (by rw [List.length_map]; omega) (by omega) (by intro q hq; obtain ⟨p, hp, rfl⟩ := List.mem_map.1 hq; rw [hvl]; exact (hok p (topOf_mem hp)).1)
            simp only [List.length_map, htl, hvl, List.map_map] at hvis
            rw [hcont]
            (with_reducible apply wl_callv)
            · exact rfl
            · exact rfl
            · infer_instance
            · exact rfl
            · refine hvis.msub ?_
              refine MSub.pick (T := _) (by (repeat first | exact .hd | apply Sel.tl | apply In.tl)) (MSub.snoc (by (repeat first | exact .hd | apply Sel.tl | apply In.tl)) ?_)
              (repeat (first | exact MSub.nil _ | refine MSub.pick (by (repeat first | exact .hd | apply Sel.tl | apply In.tl)) ?_ | exact MSub.refl _ | refine MSub.drop .hd ?_))
            rintro v H' ⟨H1, hI1, hM1⟩
            repeat' (first
              | ((with_reducible apply wl_v); exact rfl; (with_reducible apply v_succN); exact rfl; exact rfl; (simp only [maxLen]; omega))
              | ((with_reducible apply wl_v); exact rfl; (first | ((with_reducible apply vop_ok); exact rfl) | ((with_reducible apply v_fieldAddr); exact rfl) | ((with_reducible apply v_len); exact rfl) | ((with_reducible apply v_lens); exact rfl) | ((with_reducible apply v_load_box); exact rfl; (repeat first | exact .hd | apply Sel.tl | apply In.tl); exact rfl) | ((with_reducible apply v_eqlb); exact rfl; exact rfl) | ((with_reducible apply v_neqb); exact rfl; exact rfl) | ((with_reducible apply v_max); exact rfl; exact rfl) | ((with_reducible apply v_loadw_box); exact rfl; (repeat first | exact .hd | apply Sel.tl | apply In.tl); exact rfl) | ((with_reducible apply v_loadn_box); exact rfl; (repeat first | exact .hd | apply Sel.tl | apply In.tl); exact rfl; exact rfl) | ((with_reducible apply v_build); exact rfl; exact rfl; exact rfl)))
              | ((with_reducible apply wl_gyes); exact rfl; exact rfl)
              | ((with_reducible apply wl_gno_b); exact rfl; exact rfl; exact rfl; exact rfl)
              | ((with_reducible apply wl_gno_u); exact rfl; exact rfl; exact rfl)
              | ((with_reducible apply wl_alloc); exact rfl; intro _)
              | ((with_reducible apply wl_storen_box); exact rfl; exact rfl; (repeat first | exact .hd | apply Sel.tl | apply In.tl); exact rfl; exact rfl; exact rfl)
              | ((with_reducible apply wl_putn_box); exact rfl; exact rfl; (repeat first | exact .hd | apply Sel.tl | apply In.tl); exact rfl; exact rfl; exact rfl; exact rfl)
              | ((with_reducible apply wl_buildSlice); exact rfl; exact rfl; exact rfl; exact rfl; exact rfl; exact rfl; exact rfl; intro _)
              | ((with_reducible apply wl_gsplit) <;> first | exact rfl | (intro hb; (replace hb := Tidy.out hb; try (exfalso; omega))))
              | (with_reducible first | apply wl_nil | apply thn_n | apply w_seq | apply w_region | apply w_ret | apply w_skip | apply w_exit | apply w_block | apply thn_r | apply thn_e | apply blk_n | apply blk_r | apply blk_e)
              | ((with_reducible apply w_cond_true); exact rfl)
              | ((with_reducible apply w_cond_false); exact rfl)
              | ((with_reducible apply w_cond) <;> first | exact rfl | (intro hb; (replace hb := Tidy.out hb; try (exfalso; omega))))
              | ((with_reducible apply blk_x); exact rfl))
            refine ⟨i + 1, _, _, ?_, ?_, ?_, ⟨st.take (st.length - j) ++ [(⟨i, depthOf (topOf st j), decide (n.kind = 3)⟩ : Pt)], vs ++ [((topOf st j).map Pt.root, depthOf (topOf st j))], A', cap', H1, rfl, rfl, ⟨?_, ?_, ?_, ?_, ?_, ?_⟩⟩⟩
            · omega
            · have e1 : (st.take (st.length - j) ++ [(⟨i, depthOf (topOf st j), decide (n.kind = 3)⟩ : Pt)]).length = st.length - j + 1 := by simp
              rw [e1]
              (repeat (first | exact Sub.nil _ | refine Sub.cons rfl ?_))
            · have e1 : (st.take (st.length - j) ++ [(⟨i, depthOf (topOf st j), decide (n.kind = 3)⟩ : Pt)]).length = st.length - j + 1 := by simp
              rw [e1]
              exact hM1.rot
            · omega
            · simp [hvl]
            · exact hI1
            · exact hrest
            · intro p hp
              rcases List.mem_append.1 hp with hp | hp
              · exact ⟨Nat.lt_succ_of_lt (hok p (List.mem_of_mem_take hp)).1, (hok p (List.mem_of_mem_take hp)).2⟩
              · have e : p = ⟨i, depthOf (topOf st j), decide (n.kind = 3)⟩ := by simpa using hp
                subst e
                exact ⟨Nat.lt_succ_self i, by show depthOf (topOf st j) ≤ 32; omega⟩
            · simp; omega
      · have hfie : ∀ w, Pure Try.prog 85 [.agg (encN n).toArray] w (.int .i64 (fieldsE n)) := fun w => fields_at n w
        rw [if_pos hfe] at hrest
        repeat' (first
          | ((with_reducible apply wl_v); exact rfl; (with_reducible apply v_indexAddr); exact rfl; exact rfl; exact hlt)
          | ((with_reducible apply wl_v); exact rfl; (with_reducible apply v_loadw_ro); exact rfl; exact hrn; exact rfl)
          | ((with_reducible apply wl_callp); exact rfl; exact rfl; (intro w hm; exact hfie w))
          | ((with_reducible apply wl_v); exact rfl; (first | ((with_reducible apply vop_ok); exact rfl) | ((with_reducible apply v_fieldAddr); exact rfl) | ((with_reducible apply v_len); exact rfl) | ((with_reducible apply v_lens); exact rfl) | ((with_reducible apply v_load_box); exact rfl; (repeat first | exact .hd | apply Sel.tl | apply In.tl); exact rfl) | ((with_reducible apply v_eqlb); exact rfl; exact rfl) | ((with_reducible apply v_neqb); exact rfl; exact rfl) | ((with_reducible apply v_max); exact rfl; exact rfl) | ((with_reducible apply v_loadw_box); exact rfl; (repeat first | exact .hd | apply Sel.tl | apply In.tl); exact rfl) | ((with_reducible apply v_loadn_box); exact rfl; (repeat first | exact .hd | apply Sel.tl | apply In.tl); exact rfl; exact rfl) | ((with_reducible apply v_build); exact rfl; exact rfl; exact rfl)))
          | ((with_reducible apply wl_gyes); exact rfl; exact rfl)
          | ((with_reducible apply wl_gno_b); exact rfl; exact rfl; exact rfl; exact rfl)
          | ((with_reducible apply wl_gno_u); exact rfl; exact rfl; exact rfl)
          | ((with_reducible apply wl_alloc); exact rfl; intro _)
          | ((with_reducible apply wl_storen_box); exact rfl; exact rfl; (repeat first | exact .hd | apply Sel.tl | apply In.tl); exact rfl; exact rfl; exact rfl)
          | ((with_reducible apply wl_putn_box); exact rfl; exact rfl; (repeat first | exact .hd | apply Sel.tl | apply In.tl); exact rfl; exact rfl; exact rfl; exact rfl)
          | ((with_reducible apply wl_buildSlice); exact rfl; exact rfl; exact rfl; exact rfl; exact rfl; exact rfl; exact rfl; intro _)
          | ((with_reducible apply wl_gsplit) <;> first | exact rfl | (intro hb; (replace hb := Tidy.out hb; try (exfalso; omega))))
          | (with_reducible first | apply wl_nil | apply thn_n | apply w_seq | apply w_region | apply w_ret | apply w_skip | apply w_exit | apply w_block | apply thn_r | apply thn_e | apply blk_n | apply blk_r | apply blk_e)
          | ((with_reducible apply w_cond_true); exact rfl)
          | ((with_reducible apply w_cond_false); exact rfl)
          | ((with_reducible apply w_cond) <;> first | exact rfl | (intro hb; (replace hb := Tidy.out hb; try (exfalso; omega))))
          | ((with_reducible apply blk_x); exact rfl))
        refine ret1 (.inl rfl) Try.results76 rfl (.drop .hd (.drop .hd (.refl _))) ?_
        rw [hrest]
        exact ⟨rfl, hinv⟩
    · have e : i = L.length := by omega
      subst e
      rw [List.drop_length, walkT] at hrest
      repeat' (first
        | ((with_reducible apply wl_v); exact rfl; (first | ((with_reducible apply vop_ok); exact rfl) | ((with_reducible apply v_fieldAddr); exact rfl) | ((with_reducible apply v_len); exact rfl) | ((with_reducible apply v_lens); exact rfl) | ((with_reducible apply v_load_box); exact rfl; (repeat first | exact .hd | apply Sel.tl | apply In.tl); exact rfl) | ((with_reducible apply v_eqlb); exact rfl; exact rfl) | ((with_reducible apply v_neqb); exact rfl; exact rfl) | ((with_reducible apply v_max); exact rfl; exact rfl) | ((with_reducible apply v_loadw_box); exact rfl; (repeat first | exact .hd | apply Sel.tl | apply In.tl); exact rfl) | ((with_reducible apply v_loadn_box); exact rfl; (repeat first | exact .hd | apply Sel.tl | apply In.tl); exact rfl; exact rfl) | ((with_reducible apply v_build); exact rfl; exact rfl; exact rfl)))
        | ((with_reducible apply wl_gyes); exact rfl; exact rfl)
        | ((with_reducible apply wl_gno_b); exact rfl; exact rfl; exact rfl; exact rfl)
        | ((with_reducible apply wl_gno_u); exact rfl; exact rfl; exact rfl)
        | ((with_reducible apply wl_alloc); exact rfl; intro _)
        | ((with_reducible apply wl_storen_box); exact rfl; exact rfl; (repeat first | exact .hd | apply Sel.tl | apply In.tl); exact rfl; exact rfl; exact rfl)
        | ((with_reducible apply wl_putn_box); exact rfl; exact rfl; (repeat first | exact .hd | apply Sel.tl | apply In.tl); exact rfl; exact rfl; exact rfl; exact rfl)
        | ((with_reducible apply wl_buildSlice); exact rfl; exact rfl; exact rfl; exact rfl; exact rfl; exact rfl; exact rfl; intro _)
        | ((with_reducible apply wl_gsplit) <;> first | exact rfl | (intro hb; (replace hb := Tidy.out hb; try (exfalso; omega))))
        | (with_reducible first | apply wl_nil | apply thn_n | apply w_seq | apply w_region | apply w_ret | apply w_skip | apply w_exit | apply w_block | apply thn_r | apply thn_e | apply blk_n | apply blk_r | apply blk_e)
        | ((with_reducible apply w_cond_true); exact rfl)
        | ((with_reducible apply w_cond_false); exact rfl)
        | ((with_reducible apply w_cond) <;> first | exact rfl | (intro hb; (replace hb := Tidy.out hb; try (exfalso; omega))))
        | ((with_reducible apply blk_x); exact rfl))
      · refine ret1 (.inl rfl) Try.results76 rfl (.drop .hd (.refl _)) ?_
        rw [hrest, if_neg (by omega)]
        exact ⟨rfl, hinv⟩
      · refine ret1 (.inl rfl) Try.results76 rfl (.drop .hd (.refl _)) ?_
        rw [hrest, if_pos (by omega)]
        exact ⟨rfl, hinv⟩
end Go.SL
