/-
  Lemmas and walks, put together: Ty.
-/
import Derived.Test.YtljeomidcjpfmaaGreatDoorChecked
import Derived.Test.YtljeomidcjpfmaaGreatDoorKb03
set_option linter.unusedSimpArgs false
set_option linter.unusedVariables false
set_option maxRecDepth 20000
namespace Go.SL
open Go Go.Proofs
theorem info_of {P:Program} {t:Nat} {i:TypeInfo} (h:P.toTables.types[t]? =some i):P.info? t=some i:=by
 have hl:=(Array.getElem?_eq_some_iff.1 h).1
 simp only [Tables.info?,hl,if_true]
 exact h
instance:Und Tryz.prog 2 (TypeDesc.int IntKind.i64):=⟨Tryz.underlying2⟩
instance:Size Tryz.prog 2 1:=⟨_,info_of Tryz.type2,rfl⟩
instance:One Tryz.prog 2:=⟨_,Tryz.underlying2,rfl⟩
instance:Elem Tryz.prog 2 1 8:=⟨_,_,info_of Tryz.type2,rfl,rfl,rfl,rfl,by decide⟩
instance:Und Tryz.prog 3 (TypeDesc.int IntKind.i64):=⟨Tryz.underlying3⟩
instance:Size Tryz.prog 3 1:=⟨_,info_of Tryz.type3,rfl⟩
instance:One Tryz.prog 3:=⟨_,Tryz.underlying3,rfl⟩
instance:Zero Tryz.prog 3 (Value.int IntKind.i64 0):=⟨_,info_of Tryz.type3,rfl⟩
instance:ZeroC Tryz.prog 3 ([Value.int IntKind.i64 0]):=⟨_,_,info_of Tryz.type3,rfl,rfl⟩
instance:Elem Tryz.prog 3 1 8:=⟨_,_,info_of Tryz.type3,rfl,rfl,rfl,rfl,by decide⟩
instance:Und Tryz.prog 4 (TypeDesc.bool):=⟨Tryz.underlying4⟩
instance:Size Tryz.prog 4 1:=⟨_,info_of Tryz.type4,rfl⟩
instance:One Tryz.prog 4:=⟨_,Tryz.underlying4,rfl⟩
instance:ZeroC Tryz.prog 4 ([Value.bool false]):=⟨_,_,info_of Tryz.type4,rfl,rfl⟩
instance:Und Tryz.prog 5 (TypeDesc.int IntKind.u8):=⟨Tryz.underlying5⟩
instance:Size Tryz.prog 5 1:=⟨_,info_of Tryz.type5,rfl⟩
instance:One Tryz.prog 5:=⟨_,Tryz.underlying5,rfl⟩
instance:Elem Tryz.prog 5 1 1:=⟨_,_,info_of Tryz.type5,rfl,rfl,rfl,rfl,by decide⟩
instance:Und Tryz.prog 9 (TypeDesc.string):=⟨Tryz.underlying9⟩
instance:Size Tryz.prog 9 1:=⟨_,info_of Tryz.type9,rfl⟩
instance:One Tryz.prog 9:=⟨_,Tryz.underlying9,rfl⟩
instance:Elem Tryz.prog 9 1 16:=⟨_,_,info_of Tryz.type9,rfl,rfl,rfl,rfl,by decide⟩
instance:Und Tryz.prog 20 (TypeDesc.interface #[]):=⟨Tryz.underlying20⟩
instance:Und Tryz.prog 22 (TypeDesc.slice 53):=⟨Tryz.underlying22⟩
instance:Size Tryz.prog 22 1:=⟨_,info_of Tryz.type22,rfl⟩
instance:One Tryz.prog 22:=⟨_,Tryz.underlying22,rfl⟩
instance:Und Tryz.prog 23 (TypeDesc.slice 38):=⟨Tryz.underlying23⟩
instance:Size Tryz.prog 23 1:=⟨_,info_of Tryz.type23,rfl⟩
instance:One Tryz.prog 23:=⟨_,Tryz.underlying23,rfl⟩
instance:Und Tryz.prog 24 (TypeDesc.slice 56):=⟨Tryz.underlying24⟩
instance:Size Tryz.prog 24 1:=⟨_,info_of Tryz.type24,rfl⟩
instance:One Tryz.prog 24:=⟨_,Tryz.underlying24,rfl⟩
instance:Und Tryz.prog 25 (TypeDesc.slice 48):=⟨Tryz.underlying25⟩
instance:Size Tryz.prog 25 1:=⟨_,info_of Tryz.type25,rfl⟩
instance:One Tryz.prog 25:=⟨_,Tryz.underlying25,rfl⟩
instance:Und Tryz.prog 26 (TypeDesc.slice 66):=⟨Tryz.underlying26⟩
instance:Size Tryz.prog 26 1:=⟨_,info_of Tryz.type26,rfl⟩
instance:One Tryz.prog 26:=⟨_,Tryz.underlying26,rfl⟩
instance:Size Tryz.prog 28 7:=⟨_,info_of Tryz.type28,rfl⟩
instance:Agg Tryz.prog 28 7:=⟨_,_,Tryz.underlying28,rfl,info_of Tryz.type28,rfl⟩
instance:ZeroC Tryz.prog 28 ([Value.int IntKind.i64 0,Value.slice none 0 0,Value.slice none 0 0,Value.slice none 0 0,Value.slice none 0 0,Value.slice none 0 0,Value.int IntKind.i64 0]):=⟨_,_,info_of Tryz.type28,rfl,rfl⟩
instance:Struct Tryz.prog 28 [(0,1),(1,1),(2,1),(3,1),(4,1),(5,1),(6,1)] ([Value.int IntKind.i64 0,Value.slice none 0 0,Value.slice none 0 0,Value.slice none 0 0,Value.slice none 0 0,Value.slice none 0 0,Value.int IntKind.i64 0]):=⟨_,_,_,info_of Tryz.type28,Tryz.underlying28,rfl,by simp only [List.mapM_cons,List.mapM_nil,info_of Tryz.type22,info_of Tryz.type23,info_of Tryz.type24,info_of Tryz.type25,info_of Tryz.type26,info_of Tryz.type3];rfl,rfl⟩
instance:Fld Tryz.prog 28 0 0:=⟨_,_,_,Tryz.underlying28,rfl,rfl,info_of Tryz.type3,by decide⟩
instance:Fld Tryz.prog 28 1 1:=⟨_,_,_,Tryz.underlying28,rfl,rfl,info_of Tryz.type22,by decide⟩
instance:Fld Tryz.prog 28 2 2:=⟨_,_,_,Tryz.underlying28,rfl,rfl,info_of Tryz.type23,by decide⟩
instance:Fld Tryz.prog 28 3 3:=⟨_,_,_,Tryz.underlying28,rfl,rfl,info_of Tryz.type24,by decide⟩
instance:Fld Tryz.prog 28 4 4:=⟨_,_,_,Tryz.underlying28,rfl,rfl,info_of Tryz.type25,by decide⟩
instance:Fld Tryz.prog 28 5 5:=⟨_,_,_,Tryz.underlying28,rfl,rfl,info_of Tryz.type26,by decide⟩
instance:Fld Tryz.prog 28 6 6:=⟨_,_,_,Tryz.underlying28,rfl,rfl,info_of Tryz.type3,by decide⟩
instance:Size Tryz.prog 30 1:=⟨_,info_of Tryz.type30,rfl⟩
instance:One Tryz.prog 30:=⟨_,Tryz.underlying30,rfl⟩
instance:ZeroC Tryz.prog 30 ([Value.int IntKind.i64 0]):=⟨_,_,info_of Tryz.type30,rfl,rfl⟩
instance:Size Tryz.prog 33 4:=⟨_,info_of Tryz.type33,rfl⟩
instance:Agg Tryz.prog 33 4:=⟨_,_,Tryz.underlying33,rfl,info_of Tryz.type33,rfl⟩
instance:ZeroC Tryz.prog 33 ([Value.int IntKind.i64 0,Value.int IntKind.i64 0,Value.int IntKind.i64 0,Value.int IntKind.i64 0]):=⟨_,_,info_of Tryz.type33,rfl,rfl⟩
instance:Elem Tryz.prog 33 4 32:=⟨_,_,info_of Tryz.type33,rfl,rfl,rfl,rfl,by decide⟩
instance:Struct Tryz.prog 33 [(0,1),(1,1),(2,1),(3,1)] ([Value.int IntKind.i64 0,Value.int IntKind.i64 0,Value.int IntKind.i64 0,Value.int IntKind.i64 0]):=⟨_,_,_,info_of Tryz.type33,Tryz.underlying33,rfl,by simp only [List.mapM_cons,List.mapM_nil,info_of Tryz.type3];rfl,rfl⟩
instance:Fld Tryz.prog 33 0 0:=⟨_,_,_,Tryz.underlying33,rfl,rfl,info_of Tryz.type3,by decide⟩
instance:Fld Tryz.prog 33 1 1:=⟨_,_,_,Tryz.underlying33,rfl,rfl,info_of Tryz.type3,by decide⟩
instance:Fld Tryz.prog 33 2 2:=⟨_,_,_,Tryz.underlying33,rfl,rfl,info_of Tryz.type3,by decide⟩
instance:Fld Tryz.prog 33 3 3:=⟨_,_,_,Tryz.underlying33,rfl,rfl,info_of Tryz.type3,by decide⟩
instance:Und Tryz.prog 34 (TypeDesc.int IntKind.u64):=⟨Tryz.underlying34⟩
instance:Size Tryz.prog 34 1:=⟨_,info_of Tryz.type34,rfl⟩
instance:One Tryz.prog 34:=⟨_,Tryz.underlying34,rfl⟩
instance:ZeroC Tryz.prog 34 ([Value.int IntKind.u64 0]):=⟨_,_,info_of Tryz.type34,rfl,rfl⟩
instance:Elem Tryz.prog 34 1 8:=⟨_,_,info_of Tryz.type34,rfl,rfl,rfl,rfl,by decide⟩
instance:Size Tryz.prog 36 3:=⟨_,info_of Tryz.type36,rfl⟩
instance:Agg Tryz.prog 36 3:=⟨_,_,Tryz.underlying36,rfl,info_of Tryz.type36,rfl⟩
instance:ZeroC Tryz.prog 36 ([Value.int IntKind.u64 0,Value.int IntKind.u64 0,Value.int IntKind.u64 0]):=⟨_,_,info_of Tryz.type36,rfl,rfl⟩
instance:Struct Tryz.prog 36 [(0,1),(1,1),(2,1)] ([Value.int IntKind.u64 0,Value.int IntKind.u64 0,Value.int IntKind.u64 0]):=⟨_,_,_,info_of Tryz.type36,Tryz.underlying36,rfl,by simp only [List.mapM_cons,List.mapM_nil,info_of Tryz.type34];rfl,rfl⟩
instance:Fld Tryz.prog 36 0 0:=⟨_,_,_,Tryz.underlying36,rfl,rfl,info_of Tryz.type34,by decide⟩
instance:Fld Tryz.prog 36 1 1:=⟨_,_,_,Tryz.underlying36,rfl,rfl,info_of Tryz.type34,by decide⟩
instance:Fld Tryz.prog 36 2 2:=⟨_,_,_,Tryz.underlying36,rfl,rfl,info_of Tryz.type34,by decide⟩
instance:Size Tryz.prog 38 7:=⟨_,info_of Tryz.type38,rfl⟩
instance:Agg Tryz.prog 38 7:=⟨_,_,Tryz.underlying38,rfl,info_of Tryz.type38,rfl⟩
instance:ZeroC Tryz.prog 38 ([Value.int IntKind.i64 0,Value.int IntKind.i64 0,Value.int IntKind.i64 0,Value.int IntKind.i64 0,Value.int IntKind.u64 0,Value.int IntKind.u64 0,Value.int IntKind.u64 0]):=⟨_,_,info_of Tryz.type38,rfl,rfl⟩
instance:Elem Tryz.prog 38 7 56:=⟨_,_,info_of Tryz.type38,rfl,rfl,rfl,rfl,by decide⟩
instance:Struct Tryz.prog 38 [(0,4),(4,3)] ([Value.int IntKind.i64 0,Value.int IntKind.i64 0,Value.int IntKind.i64 0,Value.int IntKind.i64 0,Value.int IntKind.u64 0,Value.int IntKind.u64 0,Value.int IntKind.u64 0]):=⟨_,_,_,info_of Tryz.type38,Tryz.underlying38,rfl,by simp only [List.mapM_cons,List.mapM_nil,info_of Tryz.type33,info_of Tryz.type36];rfl,rfl⟩
instance:Fld Tryz.prog 38 0 0:=⟨_,_,_,Tryz.underlying38,rfl,rfl,info_of Tryz.type33,by decide⟩
instance:Fld Tryz.prog 38 1 4:=⟨_,_,_,Tryz.underlying38,rfl,rfl,info_of Tryz.type36,by decide⟩
instance:Size Tryz.prog 41 13:=⟨_,info_of Tryz.type41,rfl⟩
instance:Agg Tryz.prog 41 13:=⟨_,_,Tryz.underlying41,rfl,info_of Tryz.type41,rfl⟩
instance:ZeroC Tryz.prog 41 ([Value.int IntKind.u8 0,Value.int IntKind.i64 0,Value.int IntKind.i64 0,Value.int IntKind.i64 0,Value.int IntKind.i64 0,Value.int IntKind.i64 0,Value.string { data:= #[] },Value.int IntKind.u64 0,Value.int IntKind.u64 0,Value.int IntKind.u64 0,Value.int IntKind.u8 0,Value.int IntKind.u64 0,Value.int IntKind.i64 0]):=⟨_,_,info_of Tryz.type41,rfl,rfl⟩
instance:Struct Tryz.prog 41 [(0,1),(1,1),(2,4),(6,1),(7,3),(10,1),(11,1),(12,1)] ([Value.int IntKind.u8 0,Value.int IntKind.i64 0,Value.int IntKind.i64 0,Value.int IntKind.i64 0,Value.int IntKind.i64 0,Value.int IntKind.i64 0,Value.string { data:= #[] },Value.int IntKind.u64 0,Value.int IntKind.u64 0,Value.int IntKind.u64 0,Value.int IntKind.u8 0,Value.int IntKind.u64 0,Value.int IntKind.i64 0]):=⟨_,_,_,info_of Tryz.type41,Tryz.underlying41,rfl,by simp only [List.mapM_cons,List.mapM_nil,info_of Tryz.type3,info_of Tryz.type33,info_of Tryz.type34,info_of Tryz.type36,info_of Tryz.type5,info_of Tryz.type9];rfl,rfl⟩
instance:Fld Tryz.prog 41 0 0:=⟨_,_,_,Tryz.underlying41,rfl,rfl,info_of Tryz.type5,by decide⟩
instance:Fld Tryz.prog 41 1 1:=⟨_,_,_,Tryz.underlying41,rfl,rfl,info_of Tryz.type3,by decide⟩
instance:Fld Tryz.prog 41 2 2:=⟨_,_,_,Tryz.underlying41,rfl,rfl,info_of Tryz.type33,by decide⟩
instance:Fld Tryz.prog 41 3 6:=⟨_,_,_,Tryz.underlying41,rfl,rfl,info_of Tryz.type9,by decide⟩
instance:Fld Tryz.prog 41 4 7:=⟨_,_,_,Tryz.underlying41,rfl,rfl,info_of Tryz.type36,by decide⟩
instance:Fld Tryz.prog 41 5 10:=⟨_,_,_,Tryz.underlying41,rfl,rfl,info_of Tryz.type5,by decide⟩
instance:Fld Tryz.prog 41 6 11:=⟨_,_,_,Tryz.underlying41,rfl,rfl,info_of Tryz.type34,by decide⟩
instance:Fld Tryz.prog 41 7 12:=⟨_,_,_,Tryz.underlying41,rfl,rfl,info_of Tryz.type3,by decide⟩
instance:Size Tryz.prog 48 9:=⟨_,info_of Tryz.type48,rfl⟩
instance:Agg Tryz.prog 48 9:=⟨_,_,Tryz.underlying48,rfl,info_of Tryz.type48,rfl⟩
instance:ZeroC Tryz.prog 48 ([Value.int IntKind.i64 0,Value.int IntKind.i64 0,Value.int IntKind.u8 0,Value.int IntKind.i64 0,Value.int IntKind.i64 0,Value.int IntKind.i64 0,Value.int IntKind.i64 0,Value.bool false,Value.int IntKind.u64 0]):=⟨_,_,info_of Tryz.type48,rfl,rfl⟩
instance:Elem Tryz.prog 48 9 72:=⟨_,_,info_of Tryz.type48,rfl,rfl,rfl,rfl,by decide⟩
instance:Struct Tryz.prog 48 [(0,1),(1,1),(2,1),(3,4),(7,1),(8,1)] ([Value.int IntKind.i64 0,Value.int IntKind.i64 0,Value.int IntKind.u8 0,Value.int IntKind.i64 0,Value.int IntKind.i64 0,Value.int IntKind.i64 0,Value.int IntKind.i64 0,Value.bool false,Value.int IntKind.u64 0]):=⟨_,_,_,info_of Tryz.type48,Tryz.underlying48,rfl,by simp only [List.mapM_cons,List.mapM_nil,info_of Tryz.type3,info_of Tryz.type33,info_of Tryz.type34,info_of Tryz.type4,info_of Tryz.type5];rfl,rfl⟩
instance:Fld Tryz.prog 48 0 0:=⟨_,_,_,Tryz.underlying48,rfl,rfl,info_of Tryz.type3,by decide⟩
instance:Fld Tryz.prog 48 1 1:=⟨_,_,_,Tryz.underlying48,rfl,rfl,info_of Tryz.type3,by decide⟩
instance:Fld Tryz.prog 48 2 2:=⟨_,_,_,Tryz.underlying48,rfl,rfl,info_of Tryz.type5,by decide⟩
instance:Fld Tryz.prog 48 3 3:=⟨_,_,_,Tryz.underlying48,rfl,rfl,info_of Tryz.type33,by decide⟩
instance:Fld Tryz.prog 48 5 8:=⟨_,_,_,Tryz.underlying48,rfl,rfl,info_of Tryz.type34,by decide⟩
instance:Size Tryz.prog 51 2:=⟨_,info_of Tryz.type51,rfl⟩
instance:Agg Tryz.prog 51 2:=⟨_,_,Tryz.underlying51,rfl,info_of Tryz.type51,rfl⟩
instance:ZeroC Tryz.prog 51 ([Value.int IntKind.i64 0,Value.int IntKind.i64 0]):=⟨_,_,info_of Tryz.type51,rfl,rfl⟩
instance:Struct Tryz.prog 51 [(0,1),(1,1)] ([Value.int IntKind.i64 0,Value.int IntKind.i64 0]):=⟨_,_,_,info_of Tryz.type51,Tryz.underlying51,rfl,by simp only [List.mapM_cons,List.mapM_nil,info_of Tryz.type3];rfl,rfl⟩
instance:Fld Tryz.prog 51 0 0:=⟨_,_,_,Tryz.underlying51,rfl,rfl,info_of Tryz.type3,by decide⟩
instance:Fld Tryz.prog 51 1 1:=⟨_,_,_,Tryz.underlying51,rfl,rfl,info_of Tryz.type3,by decide⟩
instance:Size Tryz.prog 53 3:=⟨_,info_of Tryz.type53,rfl⟩
instance:Agg Tryz.prog 53 3:=⟨_,_,Tryz.underlying53,rfl,info_of Tryz.type53,rfl⟩
instance:Zero Tryz.prog 53 (Value.agg #[Value.int IntKind.i64 0,Value.int IntKind.i64 0,Value.string { data:= #[] }]):=⟨_,info_of Tryz.type53,rfl⟩
instance:ZeroC Tryz.prog 53 ([Value.int IntKind.i64 0,Value.int IntKind.i64 0,Value.string { data:= #[] }]):=⟨_,_,info_of Tryz.type53,rfl,rfl⟩
instance:Elem Tryz.prog 53 3 32:=⟨_,_,info_of Tryz.type53,rfl,rfl,rfl,rfl,by decide⟩
instance:Struct Tryz.prog 53 [(0,2),(2,1)] ([Value.int IntKind.i64 0,Value.int IntKind.i64 0,Value.string { data:= #[] }]):=⟨_,_,_,info_of Tryz.type53,Tryz.underlying53,rfl,by simp only [List.mapM_cons,List.mapM_nil,info_of Tryz.type51,info_of Tryz.type9];rfl,rfl⟩
instance:Fld Tryz.prog 53 0 0:=⟨_,_,_,Tryz.underlying53,rfl,rfl,info_of Tryz.type51,by decide⟩
instance:Fld Tryz.prog 53 1 2:=⟨_,_,_,Tryz.underlying53,rfl,rfl,info_of Tryz.type9,by decide⟩
instance:Size Tryz.prog 56 8:=⟨_,info_of Tryz.type56,rfl⟩
instance:Agg Tryz.prog 56 8:=⟨_,_,Tryz.underlying56,rfl,info_of Tryz.type56,rfl⟩
instance:ZeroC Tryz.prog 56 ([Value.int IntKind.i64 0,Value.int IntKind.i64 0,Value.int IntKind.i64 0,Value.int IntKind.i64 0,Value.int IntKind.u8 0,Value.int IntKind.u64 0,Value.int IntKind.i64 0,Value.bool false]):=⟨_,_,info_of Tryz.type56,rfl,rfl⟩
instance:Elem Tryz.prog 56 8 64:=⟨_,_,info_of Tryz.type56,rfl,rfl,rfl,rfl,by decide⟩
instance:Struct Tryz.prog 56 [(0,4),(4,1),(5,1),(6,1),(7,1)] ([Value.int IntKind.i64 0,Value.int IntKind.i64 0,Value.int IntKind.i64 0,Value.int IntKind.i64 0,Value.int IntKind.u8 0,Value.int IntKind.u64 0,Value.int IntKind.i64 0,Value.bool false]):=⟨_,_,_,info_of Tryz.type56,Tryz.underlying56,rfl,by simp only [List.mapM_cons,List.mapM_nil,info_of Tryz.type3,info_of Tryz.type33,info_of Tryz.type34,info_of Tryz.type4,info_of Tryz.type5];rfl,rfl⟩
instance:Fld Tryz.prog 56 0 0:=⟨_,_,_,Tryz.underlying56,rfl,rfl,info_of Tryz.type33,by decide⟩
instance:Fld Tryz.prog 56 1 4:=⟨_,_,_,Tryz.underlying56,rfl,rfl,info_of Tryz.type5,by decide⟩
instance:Fld Tryz.prog 56 2 5:=⟨_,_,_,Tryz.underlying56,rfl,rfl,info_of Tryz.type34,by decide⟩
instance:Fld Tryz.prog 56 3 6:=⟨_,_,_,Tryz.underlying56,rfl,rfl,info_of Tryz.type3,by decide⟩
instance:Fld Tryz.prog 56 4 7:=⟨_,_,_,Tryz.underlying56,rfl,rfl,info_of Tryz.type4,by decide⟩
instance:One Tryz.prog 60:=⟨_,Tryz.underlying60,rfl⟩
instance:Fld Tryz.prog 64 0 0:=⟨_,_,_,Tryz.underlying64,rfl,rfl,info_of Tryz.type51,by decide⟩
instance:Fld Tryz.prog 64 1 2:=⟨_,_,_,Tryz.underlying64,rfl,rfl,info_of Tryz.type3,by decide⟩
instance:Size Tryz.prog 66 11:=⟨_,info_of Tryz.type66,rfl⟩
instance:Agg Tryz.prog 66 11:=⟨_,_,Tryz.underlying66,rfl,info_of Tryz.type66,rfl⟩
instance:ZeroC Tryz.prog 66 ([Value.int IntKind.i64 0,Value.int IntKind.i64 0,Value.int IntKind.i64 0,Value.int IntKind.i64 0,Value.int IntKind.u8 0,Value.int IntKind.i64 0,Value.int IntKind.i64 0,Value.int IntKind.i64 0,Value.int IntKind.i64 0,Value.int IntKind.i64 0,Value.int IntKind.u64 0]):=⟨_,_,info_of Tryz.type66,rfl,rfl⟩
instance:Elem Tryz.prog 66 11 88:=⟨_,_,info_of Tryz.type66,rfl,rfl,rfl,rfl,by decide⟩
instance:Struct Tryz.prog 66 [(0,1),(1,3),(4,1),(5,4),(9,1),(10,1)] ([Value.int IntKind.i64 0,Value.int IntKind.i64 0,Value.int IntKind.i64 0,Value.int IntKind.i64 0,Value.int IntKind.u8 0,Value.int IntKind.i64 0,Value.int IntKind.i64 0,Value.int IntKind.i64 0,Value.int IntKind.i64 0,Value.int IntKind.i64 0,Value.int IntKind.u64 0]):=⟨_,_,_,info_of Tryz.type66,Tryz.underlying66,rfl,by simp only [List.mapM_cons,List.mapM_nil,info_of Tryz.type3,info_of Tryz.type33,info_of Tryz.type34,info_of Tryz.type5,info_of Tryz.type64];rfl,rfl⟩
instance:Fld Tryz.prog 66 0 0:=⟨_,_,_,Tryz.underlying66,rfl,rfl,info_of Tryz.type3,by decide⟩
instance:Fld Tryz.prog 66 1 1:=⟨_,_,_,Tryz.underlying66,rfl,rfl,info_of Tryz.type64,by decide⟩
instance:Fld Tryz.prog 66 2 4:=⟨_,_,_,Tryz.underlying66,rfl,rfl,info_of Tryz.type5,by decide⟩
instance:Fld Tryz.prog 66 3 5:=⟨_,_,_,Tryz.underlying66,rfl,rfl,info_of Tryz.type33,by decide⟩
instance:Fld Tryz.prog 66 4 9:=⟨_,_,_,Tryz.underlying66,rfl,rfl,info_of Tryz.type3,by decide⟩
instance:Fld Tryz.prog 66 5 10:=⟨_,_,_,Tryz.underlying66,rfl,rfl,info_of Tryz.type34,by decide⟩
instance:Und Tryz.prog 90 (TypeDesc.slice 3):=⟨Tryz.underlying90⟩
instance:Und Tryz.prog 93 (TypeDesc.slice 34):=⟨Tryz.underlying93⟩
instance:Und Tryz.prog 119 (TypeDesc.int IntKind.u64):=⟨Tryz.underlying119⟩
instance:Und Tryz.prog 121 (TypeDesc.slice 33):=⟨Tryz.underlying121⟩
instance:One Tryz.prog 139:=⟨_,Tryz.underlying139,rfl⟩
instance:Size Tryz.prog 173 3:=⟨_,info_of Tryz.type173,rfl⟩
instance:Agg Tryz.prog 173 3:=⟨_,_,Tryz.underlying173,rfl,info_of Tryz.type173,rfl⟩
instance:ZeroC Tryz.prog 173 ([Value.int IntKind.u8 0,Value.int IntKind.i64 0,Value.string { data:= #[] }]):=⟨_,_,info_of Tryz.type173,rfl,rfl⟩
instance:Struct Tryz.prog 173 [(0,1),(1,1),(2,1)] ([Value.int IntKind.u8 0,Value.int IntKind.i64 0,Value.string { data:= #[] }]):=⟨_,_,_,info_of Tryz.type173,Tryz.underlying173,rfl,by simp only [List.mapM_cons,List.mapM_nil,info_of Tryz.type2,info_of Tryz.type5,info_of Tryz.type9];rfl,rfl⟩
instance:Fld Tryz.prog 173 0 0:=⟨_,_,_,Tryz.underlying173,rfl,rfl,info_of Tryz.type5,by decide⟩
instance:Fld Tryz.prog 173 1 1:=⟨_,_,_,Tryz.underlying173,rfl,rfl,info_of Tryz.type2,by decide⟩
instance:Fld Tryz.prog 173 2 2:=⟨_,_,_,Tryz.underlying173,rfl,rfl,info_of Tryz.type9,by decide⟩
instance:Und Tryz.prog 174 (TypeDesc.slice 368):=⟨Tryz.underlying174⟩
instance:Size Tryz.prog 174 1:=⟨_,info_of Tryz.type174,rfl⟩
instance:One Tryz.prog 174:=⟨_,Tryz.underlying174,rfl⟩
instance:ZeroC Tryz.prog 174 ([Value.slice none 0 0]):=⟨_,_,info_of Tryz.type174,rfl,rfl⟩
instance:Size Tryz.prog 176 5:=⟨_,info_of Tryz.type176,rfl⟩
instance:Agg Tryz.prog 176 5:=⟨_,_,Tryz.underlying176,rfl,info_of Tryz.type176,rfl⟩
instance:ZeroC Tryz.prog 176 ([Value.bool false,Value.int IntKind.u8 0,Value.int IntKind.i64 0,Value.string { data:= #[] },Value.slice none 0 0]):=⟨_,_,info_of Tryz.type176,rfl,rfl⟩
instance:Struct Tryz.prog 176 [(0,1),(1,3),(4,1)] ([Value.bool false,Value.int IntKind.u8 0,Value.int IntKind.i64 0,Value.string { data:= #[] },Value.slice none 0 0]):=⟨_,_,_,info_of Tryz.type176,Tryz.underlying176,rfl,by simp only [List.mapM_cons,List.mapM_nil,info_of Tryz.type173,info_of Tryz.type174,info_of Tryz.type4];rfl,rfl⟩
instance:Size Tryz.prog 239 2:=⟨_,info_of Tryz.type239,rfl⟩
instance:Agg Tryz.prog 239 2:=⟨_,_,Tryz.underlying239,rfl,info_of Tryz.type239,rfl⟩
instance:ZeroC Tryz.prog 239 ([Value.int IntKind.u8 0,Value.nilFunc]):=⟨_,_,info_of Tryz.type239,rfl,rfl⟩
instance:Elem Tryz.prog 239 2 16:=⟨_,_,info_of Tryz.type239,rfl,rfl,rfl,rfl,by decide⟩
instance:Struct Tryz.prog 239 [(0,1),(1,1)] ([Value.int IntKind.u8 0,Value.nilFunc]):=⟨_,_,_,info_of Tryz.type239,Tryz.underlying239,rfl,by simp only [List.mapM_cons,List.mapM_nil,info_of Tryz.type5,info_of Tryz.type60];rfl,rfl⟩
instance:Fld Tryz.prog 239 0 0:=⟨_,_,_,Tryz.underlying239,rfl,rfl,info_of Tryz.type5,by decide⟩
instance:Fld Tryz.prog 239 1 1:=⟨_,_,_,Tryz.underlying239,rfl,rfl,info_of Tryz.type60,by decide⟩
instance:Und Tryz.prog 242 (TypeDesc.slice 239):=⟨Tryz.underlying242⟩
instance:Und Tryz.prog 315 (TypeDesc.slice 319):=⟨Tryz.underlying315⟩
instance:Und Tryz.prog 317 (TypeDesc.array 2 3):=⟨Tryz.underlying317⟩
instance:Size Tryz.prog 317 2:=⟨_,info_of Tryz.type317,rfl⟩
instance:Agg Tryz.prog 317 2:=⟨_,_,Tryz.underlying317,rfl,info_of Tryz.type317,rfl⟩
instance:ZeroC Tryz.prog 317 ([Value.int IntKind.i64 0,Value.int IntKind.i64 0]):=⟨_,_,info_of Tryz.type317,rfl,rfl⟩
instance:Elem Tryz.prog 317 2 16:=⟨_,_,info_of Tryz.type317,rfl,rfl,rfl,rfl,by decide⟩
instance:Size Tryz.prog 319 6:=⟨_,info_of Tryz.type319,rfl⟩
instance:Agg Tryz.prog 319 6:=⟨_,_,Tryz.underlying319,rfl,info_of Tryz.type319,rfl⟩
instance:ZeroC Tryz.prog 319 ([Value.int IntKind.i64 0,Value.int IntKind.i64 0,Value.int IntKind.i64 0,Value.int IntKind.i64 0,Value.int IntKind.i64 0,Value.int IntKind.i64 0]):=⟨_,_,info_of Tryz.type319,rfl,rfl⟩
instance:Elem Tryz.prog 319 6 48:=⟨_,_,info_of Tryz.type319,rfl,rfl,rfl,rfl,by decide⟩
instance:Struct Tryz.prog 319 [(0,4),(4,2)] ([Value.int IntKind.i64 0,Value.int IntKind.i64 0,Value.int IntKind.i64 0,Value.int IntKind.i64 0,Value.int IntKind.i64 0,Value.int IntKind.i64 0]):=⟨_,_,_,info_of Tryz.type319,Tryz.underlying319,rfl,by simp only [List.mapM_cons,List.mapM_nil,info_of Tryz.type317,info_of Tryz.type33];rfl,rfl⟩
instance:Fld Tryz.prog 319 0 0:=⟨_,_,_,Tryz.underlying319,rfl,rfl,info_of Tryz.type33,by decide⟩
instance:Fld Tryz.prog 319 1 4:=⟨_,_,_,Tryz.underlying319,rfl,rfl,info_of Tryz.type317,by decide⟩
instance:Size Tryz.prog 346 1:=⟨_,info_of Tryz.type346,rfl⟩
instance:One Tryz.prog 346:=⟨_,Tryz.underlying346,rfl⟩
instance:Elem Tryz.prog 346 1 8:=⟨_,_,info_of Tryz.type346,rfl,rfl,rfl,rfl,by decide⟩
instance:Und Tryz.prog 351 (TypeDesc.slice 346):=⟨Tryz.underlying351⟩
instance:Und Tryz.prog 353 (TypeDesc.slice 362):=⟨Tryz.underlying353⟩
instance:Size Tryz.prog 353 1:=⟨_,info_of Tryz.type353,rfl⟩
instance:One Tryz.prog 353:=⟨_,Tryz.underlying353,rfl⟩
instance:Und Tryz.prog 357 (TypeDesc.struct #[{ name:= "at",type:=3,offset:=0,embedded:=false,tag:= "",pkgPath:= "louvre/parse",byteOffset:=0 },{ name:= "e",type:=30,offset:=1,embedded:=false,tag:= "",pkgPath:= "louvre/parse",byteOffset:=8 }]):=⟨Tryz.underlying357⟩
instance:Size Tryz.prog 357 2:=⟨_,info_of Tryz.type357,rfl⟩
instance:ZeroC Tryz.prog 357 ([Value.int IntKind.i64 0,Value.int IntKind.i64 0]):=⟨_,_,info_of Tryz.type357,rfl,rfl⟩
instance:Struct Tryz.prog 357 [(0,1),(1,1)] ([Value.int IntKind.i64 0,Value.int IntKind.i64 0]):=⟨_,_,_,info_of Tryz.type357,Tryz.underlying357,rfl,by simp only [List.mapM_cons,List.mapM_nil,info_of Tryz.type3,info_of Tryz.type30];rfl,rfl⟩
instance:Fld Tryz.prog 357 0 0:=⟨_,_,_,Tryz.underlying357,rfl,rfl,info_of Tryz.type3,by decide⟩
instance:Fld Tryz.prog 357 1 1:=⟨_,_,_,Tryz.underlying357,rfl,rfl,info_of Tryz.type30,by decide⟩
instance:One Tryz.prog 358:=⟨_,Tryz.underlying358,rfl⟩
instance:Struct Tryz.prog 360 [(0,1),(1,1),(2,1)] ([Value.slice none 0 0,Value.int IntKind.i64 0,Value.slice none 0 0]):=⟨_,_,_,info_of Tryz.type360,Tryz.underlying360,rfl,by simp only [List.mapM_cons,List.mapM_nil,info_of Tryz.type174,info_of Tryz.type3,info_of Tryz.type353];rfl,rfl⟩
instance:Fld Tryz.prog 360 0 0:=⟨_,_,_,Tryz.underlying360,rfl,rfl,info_of Tryz.type353,by decide⟩
instance:Fld Tryz.prog 360 1 1:=⟨_,_,_,Tryz.underlying360,rfl,rfl,info_of Tryz.type3,by decide⟩
instance:Fld Tryz.prog 360 2 2:=⟨_,_,_,Tryz.underlying360,rfl,rfl,info_of Tryz.type174,by decide⟩
instance:Size Tryz.prog 362 8:=⟨_,info_of Tryz.type362,rfl⟩
instance:Agg Tryz.prog 362 8:=⟨_,_,Tryz.underlying362,rfl,info_of Tryz.type362,rfl⟩
instance:ZeroC Tryz.prog 362 ([Value.int IntKind.u8 0,Value.int IntKind.i64 0,Value.string { data:= #[] },Value.int IntKind.i64 0,Value.int IntKind.i64 0,Value.int IntKind.i64 0,Value.int IntKind.i64 0,Value.int IntKind.i64 0]):=⟨_,_,info_of Tryz.type362,rfl,rfl⟩
instance:Elem Tryz.prog 362 8 72:=⟨_,_,info_of Tryz.type362,rfl,rfl,rfl,rfl,by decide⟩
instance:Struct Tryz.prog 362 [(0,1),(1,1),(2,1),(3,4),(7,1)] ([Value.int IntKind.u8 0,Value.int IntKind.i64 0,Value.string { data:= #[] },Value.int IntKind.i64 0,Value.int IntKind.i64 0,Value.int IntKind.i64 0,Value.int IntKind.i64 0,Value.int IntKind.i64 0]):=⟨_,_,_,info_of Tryz.type362,Tryz.underlying362,rfl,by simp only [List.mapM_cons,List.mapM_nil,info_of Tryz.type2,info_of Tryz.type3,info_of Tryz.type33,info_of Tryz.type5,info_of Tryz.type9];rfl,rfl⟩
instance:Fld Tryz.prog 362 0 0:=⟨_,_,_,Tryz.underlying362,rfl,rfl,info_of Tryz.type5,by decide⟩
instance:Fld Tryz.prog 362 1 1:=⟨_,_,_,Tryz.underlying362,rfl,rfl,info_of Tryz.type2,by decide⟩
instance:Fld Tryz.prog 362 2 2:=⟨_,_,_,Tryz.underlying362,rfl,rfl,info_of Tryz.type9,by decide⟩
instance:Fld Tryz.prog 362 3 3:=⟨_,_,_,Tryz.underlying362,rfl,rfl,info_of Tryz.type33,by decide⟩
instance:Fld Tryz.prog 362 4 7:=⟨_,_,_,Tryz.underlying362,rfl,rfl,info_of Tryz.type3,by decide⟩
instance:Size Tryz.prog 368 11:=⟨_,info_of Tryz.type368,rfl⟩
instance:Agg Tryz.prog 368 11:=⟨_,_,Tryz.underlying368,rfl,info_of Tryz.type368,rfl⟩
instance:ZeroC Tryz.prog 368 ([Value.int IntKind.u8 0,Value.int IntKind.u8 0,Value.int IntKind.i64 0,Value.string { data:= #[] },Value.int IntKind.i64 0,Value.int IntKind.i64 0,Value.int IntKind.i64 0,Value.int IntKind.i64 0,Value.int IntKind.i64 0,Value.int IntKind.u8 0,Value.int IntKind.i64 0]):=⟨_,_,info_of Tryz.type368,rfl,rfl⟩
instance:Elem Tryz.prog 368 11 96:=⟨_,_,info_of Tryz.type368,rfl,rfl,rfl,rfl,by decide⟩
instance:Struct Tryz.prog 368 [(0,1),(1,3),(4,4),(8,1),(9,1),(10,1)] ([Value.int IntKind.u8 0,Value.int IntKind.u8 0,Value.int IntKind.i64 0,Value.string { data:= #[] },Value.int IntKind.i64 0,Value.int IntKind.i64 0,Value.int IntKind.i64 0,Value.int IntKind.i64 0,Value.int IntKind.i64 0,Value.int IntKind.u8 0,Value.int IntKind.i64 0]):=⟨_,_,_,info_of Tryz.type368,Tryz.underlying368,rfl,by simp only [List.mapM_cons,List.mapM_nil,info_of Tryz.type173,info_of Tryz.type2,info_of Tryz.type3,info_of Tryz.type33,info_of Tryz.type5];rfl,rfl⟩
instance:Fld Tryz.prog 368 0 0:=⟨_,_,_,Tryz.underlying368,rfl,rfl,info_of Tryz.type5,by decide⟩
instance:Fld Tryz.prog 368 1 1:=⟨_,_,_,Tryz.underlying368,rfl,rfl,info_of Tryz.type173,by decide⟩
instance:Fld Tryz.prog 368 2 4:=⟨_,_,_,Tryz.underlying368,rfl,rfl,info_of Tryz.type33,by decide⟩
instance:Fld Tryz.prog 368 3 8:=⟨_,_,_,Tryz.underlying368,rfl,rfl,info_of Tryz.type2,by decide⟩
instance:Fld Tryz.prog 368 4 9:=⟨_,_,_,Tryz.underlying368,rfl,rfl,info_of Tryz.type5,by decide⟩
instance:Fld Tryz.prog 368 5 10:=⟨_,_,_,Tryz.underlying368,rfl,rfl,info_of Tryz.type3,by decide⟩
instance:Und Tryz.prog 385 (TypeDesc.slice 317):=⟨Tryz.underlying385⟩
instance:Size Tryz.prog 385 1:=⟨_,info_of Tryz.type385,rfl⟩
instance:One Tryz.prog 385:=⟨_,Tryz.underlying385,rfl⟩
instance:ZeroC Tryz.prog 385 ([Value.slice none 0 0]):=⟨_,_,info_of Tryz.type385,rfl,rfl⟩
instance:Und Tryz.prog 402 (TypeDesc.slice 5):=⟨Tryz.underlying402⟩
instance:Agg Tryz.prog 408 3:=⟨_,_,Tryz.underlying408,rfl,info_of Tryz.type408,rfl⟩
instance:Fld Tryz.prog 408 2 2:=⟨_,_,_,Tryz.underlying408,rfl,rfl,info_of Tryz.type9,by decide⟩
instance:Und Tryz.prog 409 (TypeDesc.map 5 410):=⟨Tryz.underlying409⟩
instance:Zero Tryz.prog 410 (Value.nilFunc):=⟨_,info_of Tryz.type410,rfl⟩
instance:Und Tryz.prog 413 (TypeDesc.array 8 9):=⟨Tryz.underlying413⟩
instance:Agg Tryz.prog 413 8:=⟨_,_,Tryz.underlying413,rfl,info_of Tryz.type413,rfl⟩
instance:Struct Tryz.prog 419 [(0,1)] ([Value.string { data:= #[] }]):=⟨_,_,_,info_of Tryz.type419,Tryz.underlying419,rfl,by simp only [List.mapM_cons,List.mapM_nil,info_of Tryz.type9];rfl,rfl⟩
instance:Fld Tryz.prog 419 0 0:=⟨_,_,_,Tryz.underlying419,rfl,rfl,info_of Tryz.type9,by decide⟩
instance:Size Tryz.prog 420 1:=⟨_,info_of Tryz.type420,rfl⟩
instance:One Tryz.prog 420:=⟨_,Tryz.underlying420,rfl⟩
instance:Und Tryz.prog 421 (TypeDesc.array 5 420):=⟨Tryz.underlying421⟩
instance:Size Tryz.prog 421 5:=⟨_,info_of Tryz.type421,rfl⟩
instance:Agg Tryz.prog 421 5:=⟨_,_,Tryz.underlying421,rfl,info_of Tryz.type421,rfl⟩
instance:ZeroC Tryz.prog 421 ([Value.nilFunc,Value.nilFunc,Value.nilFunc,Value.nilFunc,Value.nilFunc]):=⟨_,_,info_of Tryz.type421,rfl,rfl⟩
instance:One Tryz.prog 460:=⟨_,Tryz.underlying460,rfl⟩
instance:Und Tryz.prog 468 (TypeDesc.slice 9):=⟨Tryz.underlying468⟩
instance:Und Tryz.prog 469 (TypeDesc.slice 2):=⟨Tryz.underlying469⟩
instance:Und Tryz.prog 475 (TypeDesc.slice 480):=⟨Tryz.underlying475⟩
instance:Size Tryz.prog 480 3:=⟨_,info_of Tryz.type480,rfl⟩
instance:Agg Tryz.prog 480 3:=⟨_,_,Tryz.underlying480,rfl,info_of Tryz.type480,rfl⟩
instance:ZeroC Tryz.prog 480 ([Value.int IntKind.i64 0,Value.int IntKind.i64 0,Value.bool false]):=⟨_,_,info_of Tryz.type480,rfl,rfl⟩
instance:Elem Tryz.prog 480 3 24:=⟨_,_,info_of Tryz.type480,rfl,rfl,rfl,rfl,by decide⟩
instance:Struct Tryz.prog 480 [(0,1),(1,1),(2,1)] ([Value.int IntKind.i64 0,Value.int IntKind.i64 0,Value.bool false]):=⟨_,_,_,info_of Tryz.type480,Tryz.underlying480,rfl,by simp only [List.mapM_cons,List.mapM_nil,info_of Tryz.type3,info_of Tryz.type4];rfl,rfl⟩
instance:Fld Tryz.prog 480 0 0:=⟨_,_,_,Tryz.underlying480,rfl,rfl,info_of Tryz.type3,by decide⟩
instance:Fld Tryz.prog 480 1 1:=⟨_,_,_,Tryz.underlying480,rfl,rfl,info_of Tryz.type3,by decide⟩
instance:Fld Tryz.prog 480 2 2:=⟨_,_,_,Tryz.underlying480,rfl,rfl,info_of Tryz.type4,by decide⟩
instance:Size Tryz.prog 494 5:=⟨_,info_of Tryz.type494,rfl⟩
instance:Agg Tryz.prog 494 5:=⟨_,_,Tryz.underlying494,rfl,info_of Tryz.type494,rfl⟩
instance:ZeroC Tryz.prog 494 ([Value.int IntKind.i64 0,Value.int IntKind.i64 0,Value.int IntKind.i64 0,Value.int IntKind.i64 0,Value.bool false]):=⟨_,_,info_of Tryz.type494,rfl,rfl⟩
instance:Struct Tryz.prog 494 [(0,2),(2,2),(4,1)] ([Value.int IntKind.i64 0,Value.int IntKind.i64 0,Value.int IntKind.i64 0,Value.int IntKind.i64 0,Value.bool false]):=⟨_,_,_,info_of Tryz.type494,Tryz.underlying494,rfl,by simp only [List.mapM_cons,List.mapM_nil,info_of Tryz.type317,info_of Tryz.type4];rfl,rfl⟩
instance:Fld Tryz.prog 494 0 0:=⟨_,_,_,Tryz.underlying494,rfl,rfl,info_of Tryz.type317,by decide⟩
instance:Fld Tryz.prog 494 1 2:=⟨_,_,_,Tryz.underlying494,rfl,rfl,info_of Tryz.type317,by decide⟩
instance:Fld Tryz.prog 494 2 4:=⟨_,_,_,Tryz.underlying494,rfl,rfl,info_of Tryz.type4,by decide⟩
instance:Und Tryz.prog 515 (TypeDesc.array 50 9):=⟨Tryz.underlying515⟩
instance:Size Tryz.prog 515 50:=⟨_,info_of Tryz.type515,rfl⟩
instance:Agg Tryz.prog 515 50:=⟨_,_,Tryz.underlying515,rfl,info_of Tryz.type515,rfl⟩
instance:ZeroC Tryz.prog 515 ([Value.string { data:= #[] },Value.string { data:= #[] },Value.string { data:= #[] },Value.string { data:= #[] },Value.string { data:= #[] },Value.string { data:= #[] },Value.string { data:= #[] },Value.string { data:= #[] },Value.string { data:= #[] },Value.string { data:= #[] },Value.string { data:= #[] },Value.string { data:= #[] },Value.string { data:= #[] },Value.string { data:= #[] },Value.string { data:= #[] },Value.string { data:= #[] },Value.string { data:= #[] },Value.string { data:= #[] },Value.string { data:= #[] },Value.string { data:= #[] },Value.string { data:= #[] },Value.string { data:= #[] },Value.string { data:= #[] },Value.string { data:= #[] },Value.string { data:= #[] },Value.string { data:= #[] },Value.string { data:= #[] },Value.string { data:= #[] },Value.string { data:= #[] },Value.string { data:= #[] },Value.string { data:= #[] },Value.string { data:= #[] },Value.string { data:= #[] },Value.string { data:= #[] },Value.string { data:= #[] },Value.string { data:= #[] },Value.string { data:= #[] },Value.string { data:= #[] },Value.string { data:= #[] },Value.string { data:= #[] },Value.string { data:= #[] },Value.string { data:= #[] },Value.string { data:= #[] },Value.string { data:= #[] },Value.string { data:= #[] },Value.string { data:= #[] },Value.string { data:= #[] },Value.string { data:= #[] },Value.string { data:= #[] },Value.string { data:= #[] }]):=⟨_,_,info_of Tryz.type515,rfl,rfl⟩
instance:Callable Tryz.prog 13:=⟨fun args w=>Tryz.call13 args w⟩
instance:Callable Tryz.prog 14:=⟨fun args w=>Tryz.call14 args w⟩
instance:Callable Tryz.prog 15:=⟨fun args w=>Tryz.call15 args w⟩
instance:Callable Tryz.prog 16:=⟨fun args w=>Tryz.call16 args w⟩
instance:Callable Tryz.prog 21:=⟨fun args w=>Tryz.call21 args w⟩
instance:Callable Tryz.prog 22:=⟨fun args w=>Tryz.call22 args w⟩
instance:Callable Tryz.prog 23:=⟨fun args w=>Tryz.call23 args w⟩
instance:Callable Tryz.prog 24:=⟨fun args w=>Tryz.call24 args w⟩
instance:Callable Tryz.prog 25:=⟨fun args w=>Tryz.call25 args w⟩
instance:Callable Tryz.prog 45:=⟨fun args w=>Tryz.call45 args w⟩
instance:Callable Tryz.prog 54:=⟨fun args w=>Tryz.call54 args w⟩
instance:Callable Tryz.prog 67:=⟨fun args w=>Tryz.call67 args w⟩
instance:Callable Tryz.prog 68:=⟨fun args w=>Tryz.call68 args w⟩
instance:Callable Tryz.prog 71:=⟨fun args w=>Tryz.call71 args w⟩
instance:Callable Tryz.prog 72:=⟨fun args w=>Tryz.call72 args w⟩
instance:Callable Tryz.prog 73:=⟨fun args w=>Tryz.call73 args w⟩
instance:Callable Tryz.prog 74:=⟨fun args w=>Tryz.call74 args w⟩
instance:Callable Tryz.prog 75:=⟨fun args w=>Tryz.call75 args w⟩
instance:Callable Tryz.prog 76:=⟨fun args w=>Tryz.call76 args w⟩
instance:Callable Tryz.prog 77:=⟨fun args w=>Tryz.call77 args w⟩
instance:Callable Tryz.prog 78:=⟨fun args w=>Tryz.call78 args w⟩
instance:Callable Tryz.prog 79:=⟨fun args w=>Tryz.call79 args w⟩
instance:Callable Tryz.prog 80:=⟨fun args w=>Tryz.call80 args w⟩
instance:Callable Tryz.prog 81:=⟨fun args w=>Tryz.call81 args w⟩
instance:Callable Tryz.prog 82:=⟨fun args w=>Tryz.call82 args w⟩
instance:Callable Tryz.prog 87:=⟨fun args w=>Tryz.call87 args w⟩
instance:Callable Tryz.prog 88:=⟨fun args w=>Tryz.call88 args w⟩
instance:Callable Tryz.prog 89:=⟨fun args w=>Tryz.call89 args w⟩
instance:Callable Tryz.prog 90:=⟨fun args w=>Tryz.call90 args w⟩
instance:Callable Tryz.prog 91:=⟨fun args w=>Tryz.call91 args w⟩
instance:Callable Tryz.prog 92:=⟨fun args w=>Tryz.call92 args w⟩
instance:Callable Tryz.prog 93:=⟨fun args w=>Tryz.call93 args w⟩
instance:Callable Tryz.prog 94:=⟨fun args w=>Tryz.call94 args w⟩
instance:Callable Tryz.prog 95:=⟨fun args w=>Tryz.call95 args w⟩
instance:Callable Tryz.prog 96:=⟨fun args w=>Tryz.call96 args w⟩
instance:Callable Tryz.prog 97:=⟨fun args w=>Tryz.call97 args w⟩
instance:Callable Tryz.prog 98:=⟨fun args w=>Tryz.call98 args w⟩
instance:Callable Tryz.prog 106:=⟨fun args w=>Tryz.call106 args w⟩
instance:Callable Tryz.prog 108:=⟨fun args w=>Tryz.call108 args w⟩
instance:Callable Tryz.prog 113:=⟨fun args w=>Tryz.call113 args w⟩
instance:Callable Tryz.prog 137:=⟨fun args w=>Tryz.call137 args w⟩
instance:Callable Tryz.prog 140:=⟨fun args w=>Tryz.call140 args w⟩
instance:Callable Tryz.prog 141:=⟨fun args w=>Tryz.call141 args w⟩
instance:Callable Tryz.prog 145:=⟨fun args w=>Tryz.call145 args w⟩
instance:Callable Tryz.prog 146:=⟨fun args w=>Tryz.call146 args w⟩
instance:Callable Tryz.prog 147:=⟨fun args w=>Tryz.call147 args w⟩
instance:Callable Tryz.prog 148:=⟨fun args w=>Tryz.call148 args w⟩
instance:Callable Tryz.prog 149:=⟨fun args w=>Tryz.call149 args w⟩
instance:Callable Tryz.prog 150:=⟨fun args w=>Tryz.call150 args w⟩
instance:Callable Tryz.prog 151:=⟨fun args w=>Tryz.call151 args w⟩
instance:Callable Tryz.prog 152:=⟨fun args w=>Tryz.call152 args w⟩
instance:Callable Tryz.prog 153:=⟨fun args w=>Tryz.call153 args w⟩
instance:Callable Tryz.prog 154:=⟨fun args w=>Tryz.call154 args w⟩
instance:Callable Tryz.prog 155:=⟨fun args w=>Tryz.call155 args w⟩
instance:Callable Tryz.prog 156:=⟨fun args w=>Tryz.call156 args w⟩
instance:Callable Tryz.prog 157:=⟨fun args w=>Tryz.call157 args w⟩
instance:Callable Tryz.prog 158:=⟨fun args w=>Tryz.call158 args w⟩
instance:Callable Tryz.prog 159:=⟨fun args w=>Tryz.call159 args w⟩
instance:Callable Tryz.prog 160:=⟨fun args w=>Tryz.call160 args w⟩
instance:Callable Tryz.prog 161:=⟨fun args w=>Tryz.call161 args w⟩
instance:Callable Tryz.prog 162:=⟨fun args w=>Tryz.call162 args w⟩
instance:Callable Tryz.prog 163:=⟨fun args w=>Tryz.call163 args w⟩
instance:Callable Tryz.prog 164:=⟨fun args w=>Tryz.call164 args w⟩
instance:Callable Tryz.prog 176:=⟨fun args w=>Tryz.call176 args w⟩
instance:Callable Tryz.prog 177:=⟨fun args w=>Tryz.call177 args w⟩
instance:Callable Tryz.prog 178:=⟨fun args w=>Tryz.call178 args w⟩
instance:Callable Tryz.prog 179:=⟨fun args w=>Tryz.call179 args w⟩
instance:Callable Tryz.prog 180:=⟨fun args w=>Tryz.call180 args w⟩
instance:Callable Tryz.prog 189:=⟨fun args w=>Tryz.call189 args w⟩
instance:Callable Tryz.prog 214:=⟨fun args w=>Tryz.call214 args w⟩
instance:Callable Tryz.prog 215:=⟨fun args w=>Tryz.call215 args w⟩
instance:Callable Tryz.prog 216:=⟨fun args w=>Tryz.call216 args w⟩
instance:Callable Tryz.prog 217:=⟨fun args w=>Tryz.call217 args w⟩
instance:Callable Tryz.prog 218:=⟨fun args w=>Tryz.call218 args w⟩
instance:Callable Tryz.prog 241:=⟨fun args w=>Tryz.call241 args w⟩
instance:Callable Tryz.prog 242:=⟨fun args w=>Tryz.call242 args w⟩
instance:Callable Tryz.prog 243:=⟨fun args w=>Tryz.call243 args w⟩
instance:Callable Tryz.prog 244:=⟨fun args w=>Tryz.call244 args w⟩
instance:Callable Tryz.prog 245:=⟨fun args w=>Tryz.call245 args w⟩
instance:Callable Tryz.prog 246:=⟨fun args w=>Tryz.call246 args w⟩
instance:Callable Tryz.prog 247:=⟨fun args w=>Tryz.call247 args w⟩
instance:Callable Tryz.prog 248:=⟨fun args w=>Tryz.call248 args w⟩
instance:Callable Tryz.prog 249:=⟨fun args w=>Tryz.call249 args w⟩
instance:Callable Tryz.prog 250:=⟨fun args w=>Tryz.call250 args w⟩
instance:Callable Tryz.prog 251:=⟨fun args w=>Tryz.call251 args w⟩
instance:Callable Tryz.prog 252:=⟨fun args w=>Tryz.call252 args w⟩
instance:Callable Tryz.prog 253:=⟨fun args w=>Tryz.call253 args w⟩
instance:Callable Tryz.prog 254:=⟨fun args w=>Tryz.call254 args w⟩
instance:Callable Tryz.prog 255:=⟨fun args w=>Tryz.call255 args w⟩
instance:Callable Tryz.prog 256:=⟨fun args w=>Tryz.call256 args w⟩
instance:Callable Tryz.prog 257:=⟨fun args w=>Tryz.call257 args w⟩
instance:Callable Tryz.prog 258:=⟨fun args w=>Tryz.call258 args w⟩
instance:Callable Tryz.prog 259:=⟨fun args w=>Tryz.call259 args w⟩
instance:Callable Tryz.prog 279:=⟨fun args w=>Tryz.call279 args w⟩
instance:Callable Tryz.prog 280:=⟨fun args w=>Tryz.call280 args w⟩
instance:Callable Tryz.prog 281:=⟨fun args w=>Tryz.call281 args w⟩
instance:Callable Tryz.prog 282:=⟨fun args w=>Tryz.call282 args w⟩
instance:Callable Tryz.prog 283:=⟨fun args w=>Tryz.call283 args w⟩
instance:Callable Tryz.prog 284:=⟨fun args w=>Tryz.call284 args w⟩
instance:Callable Tryz.prog 293:=⟨fun args w=>Tryz.call293 args w⟩
instance:Callable Tryz.prog 294:=⟨fun args w=>Tryz.call294 args w⟩
instance:Callable Tryz.prog 295:=⟨fun args w=>Tryz.call295 args w⟩
instance:Callable Tryz.prog 296:=⟨fun args w=>Tryz.call296 args w⟩
instance:Callable Tryz.prog 297:=⟨fun args w=>Tryz.call297 args w⟩
instance:Callable Tryz.prog 298:=⟨fun args w=>Tryz.call298 args w⟩
instance:Callable Tryz.prog 299:=⟨fun args w=>Tryz.call299 args w⟩
instance:Callable Tryz.prog 302:=⟨fun args w=>Tryz.call302 args w⟩
instance:Callable Tryz.prog 303:=⟨fun args w=>Tryz.call303 args w⟩
instance:Callable Tryz.prog 304:=⟨fun args w=>Tryz.call304 args w⟩
instance:Callable Tryz.prog 305:=⟨fun args w=>Tryz.call305 args w⟩
instance:Callable Tryz.prog 306:=⟨fun args w=>Tryz.call306 args w⟩
instance:Callable Tryz.prog 307:=⟨fun args w=>Tryz.call307 args w⟩
instance:Callable Tryz.prog 308:=⟨fun args w=>Tryz.call308 args w⟩
instance:Callable Tryz.prog 309:=⟨fun args w=>Tryz.call309 args w⟩
instance:Callable Tryz.prog 310:=⟨fun args w=>Tryz.call310 args w⟩
instance:Callable Tryz.prog 311:=⟨fun args w=>Tryz.call311 args w⟩
instance:Callable Tryz.prog 312:=⟨fun args w=>Tryz.call312 args w⟩
instance:Callable Tryz.prog 335:=⟨fun args w=>Tryz.call335 args w⟩
instance:Callable Tryz.prog 336:=⟨fun args w=>Tryz.call336 args w⟩
instance:Callable Tryz.prog 354:=⟨fun args w=>Tryz.call354 args w⟩
instance:Callable Tryz.prog 355:=⟨fun args w=>Tryz.call355 args w⟩
instance:Callable Tryz.prog 356:=⟨fun args w=>Tryz.call356 args w⟩
instance:Callable Tryz.prog 357:=⟨fun args w=>Tryz.call357 args w⟩
instance:Callable Tryz.prog 358:=⟨fun args w=>Tryz.call358 args w⟩
instance:Callable Tryz.prog 359:=⟨fun args w=>Tryz.call359 args w⟩
instance:Callable Tryz.prog 360:=⟨fun args w=>Tryz.call360 args w⟩
instance:Callable Tryz.prog 361:=⟨fun args w=>Tryz.call361 args w⟩
instance:Callable Tryz.prog 362:=⟨fun args w=>Tryz.call362 args w⟩
instance:Callable Tryz.prog 363:=⟨fun args w=>Tryz.call363 args w⟩
instance:Callable Tryz.prog 364:=⟨fun args w=>Tryz.call364 args w⟩
instance:Callable Tryz.prog 365:=⟨fun args w=>Tryz.call365 args w⟩
instance:Callable Tryz.prog 366:=⟨fun args w=>Tryz.call366 args w⟩
instance:Callable Tryz.prog 367:=⟨fun args w=>Tryz.call367 args w⟩
instance:Callable Tryz.prog 368:=⟨fun args w=>Tryz.call368 args w⟩
instance:Callable Tryz.prog 369:=⟨fun args w=>Tryz.call369 args w⟩
instance:Callable Tryz.prog 370:=⟨fun args w=>Tryz.call370 args w⟩
instance:Callable Tryz.prog 371:=⟨fun args w=>Tryz.call371 args w⟩
instance:Callable Tryz.prog 372:=⟨fun args w=>Tryz.call372 args w⟩
instance:Callable Tryz.prog 373:=⟨fun args w=>Tryz.call373 args w⟩
instance:Callable Tryz.prog 374:=⟨fun args w=>Tryz.call374 args w⟩
instance:Callable Tryz.prog 375:=⟨fun args w=>Tryz.call375 args w⟩
instance:Callable Tryz.prog 376:=⟨fun args w=>Tryz.call376 args w⟩
instance:Callable Tryz.prog 383:=⟨fun args w=>Tryz.call383 args w⟩
instance:Callable Tryz.prog 384:=⟨fun args w=>Tryz.call384 args w⟩
instance:Callable Tryz.prog 391:=⟨fun args w=>Tryz.call391 args w⟩
instance:Callable Tryz.prog 392:=⟨fun args w=>Tryz.call392 args w⟩
instance:Callable Tryz.prog 393:=⟨fun args w=>Tryz.call393 args w⟩
instance:Callable Tryz.prog 394:=⟨fun args w=>Tryz.call394 args w⟩
instance:Callable Tryz.prog 396:=⟨fun args w=>Tryz.call396 args w⟩
instance:Callable Tryz.prog 397:=⟨fun args w=>Tryz.call397 args w⟩
instance:Callable Tryz.prog 398:=⟨fun args w=>Tryz.call398 args w⟩
instance:Callable Tryz.prog 399:=⟨fun args w=>Tryz.call399 args w⟩
instance:Callable Tryz.prog 400:=⟨fun args w=>Tryz.call400 args w⟩
instance:Callable Tryz.prog 406:=⟨fun args w=>Tryz.call406 args w⟩
instance:Callable Tryz.prog 407:=⟨fun args w=>Tryz.call407 args w⟩
instance:Callable Tryz.prog 411:=⟨fun args w=>Tryz.call411 args w⟩
instance:Callable Tryz.prog 412:=⟨fun args w=>Tryz.call412 args w⟩
instance:Callable Tryz.prog 415:=⟨fun args w=>Tryz.call415 args w⟩
instance:Callable Tryz.prog 416:=⟨fun args w=>Tryz.call416 args w⟩
instance:Callable Tryz.prog 417:=⟨fun args w=>Tryz.call417 args w⟩
instance:Callable Tryz.prog 420:=⟨fun args w=>Tryz.call420 args w⟩
instance:Callable Tryz.prog 421:=⟨fun args w=>Tryz.call421 args w⟩
instance:Callable Tryz.prog 422:=⟨fun args w=>Tryz.call422 args w⟩
instance:Callable Tryz.prog 423:=⟨fun args w=>Tryz.call423 args w⟩
end Go.SL
