/-
  Lemmas and walks, put together: Ty Sl8.
-/
import Derived.Test.YtljeomidcjpfmaaGreatDoorChecked
import Derived.Test.YtljeomidcjpfmaaGreatDoorKf03
set_option linter.unusedSimpArgs false
set_option linter.unusedVariables false
set_option maxRecDepth 20000
namespace Go.SL
open Go Go.Proofs
theorem info_of {P:Program} {t:Nat} {i:TypeInfo} (h:P.toTables.types[t]? =some i):P.info? t=some i:=by
 have hl:=(Array.getElem?_eq_some_iff.1 h).1
 simp only [Tables.info?,hl,if_true]
 exact h
instance:Und Tryz.prog 2 (TypeDesc.int IntKind.i64):=⟨Tryz.underlying2⟩
instance:Size Tryz.prog 2 1:=⟨_,info_of Tryz.type2,rfl⟩
instance:One Tryz.prog 2:=⟨_,Tryz.underlying2,rfl⟩
instance:Elem Tryz.prog 2 1 8:=⟨_,_,info_of Tryz.type2,rfl,rfl,rfl,rfl,by decide⟩
instance:Und Tryz.prog 3 (TypeDesc.int IntKind.i64):=⟨Tryz.underlying3⟩
instance:Size Tryz.prog 3 1:=⟨_,info_of Tryz.type3,rfl⟩
instance:One Tryz.prog 3:=⟨_,Tryz.underlying3,rfl⟩
instance:Zero Tryz.prog 3 (Value.int IntKind.i64 0):=⟨_,info_of Tryz.type3,rfl⟩
instance:ZeroC Tryz.prog 3 ([Value.int IntKind.i64 0]):=⟨_,_,info_of Tryz.type3,rfl,rfl⟩
instance:Elem Tryz.prog 3 1 8:=⟨_,_,info_of Tryz.type3,rfl,rfl,rfl,rfl,by decide⟩
instance:Und Tryz.prog 4 (TypeDesc.bool):=⟨Tryz.underlying4⟩
instance:Size Tryz.prog 4 1:=⟨_,info_of Tryz.type4,rfl⟩
instance:One Tryz.prog 4:=⟨_,Tryz.underlying4,rfl⟩
instance:Zero Tryz.prog 4 (Value.bool false):=⟨_,info_of Tryz.type4,rfl⟩
instance:Und Tryz.prog 5 (TypeDesc.int IntKind.u8):=⟨Tryz.underlying5⟩
instance:Size Tryz.prog 5 1:=⟨_,info_of Tryz.type5,rfl⟩
instance:One Tryz.prog 5:=⟨_,Tryz.underlying5,rfl⟩
instance:Elem Tryz.prog 5 1 1:=⟨_,_,info_of Tryz.type5,rfl,rfl,rfl,rfl,by decide⟩
instance:Und Tryz.prog 9 (TypeDesc.string):=⟨Tryz.underlying9⟩
instance:Size Tryz.prog 9 1:=⟨_,info_of Tryz.type9,rfl⟩
instance:One Tryz.prog 9:=⟨_,Tryz.underlying9,rfl⟩
instance:Elem Tryz.prog 9 1 16:=⟨_,_,info_of Tryz.type9,rfl,rfl,rfl,rfl,by decide⟩
instance:Und Tryz.prog 20 (TypeDesc.interface #[]):=⟨Tryz.underlying20⟩
instance:Und Tryz.prog 22 (TypeDesc.slice 53):=⟨Tryz.underlying22⟩
instance:Und Tryz.prog 23 (TypeDesc.slice 38):=⟨Tryz.underlying23⟩
instance:One Tryz.prog 23:=⟨_,Tryz.underlying23,rfl⟩
instance:Und Tryz.prog 24 (TypeDesc.slice 56):=⟨Tryz.underlying24⟩
instance:One Tryz.prog 24:=⟨_,Tryz.underlying24,rfl⟩
instance:Size Tryz.prog 30 1:=⟨_,info_of Tryz.type30,rfl⟩
instance:One Tryz.prog 30:=⟨_,Tryz.underlying30,rfl⟩
instance:ZeroC Tryz.prog 30 ([Value.int IntKind.i64 0]):=⟨_,_,info_of Tryz.type30,rfl,rfl⟩
instance:Size Tryz.prog 33 4:=⟨_,info_of Tryz.type33,rfl⟩
instance:Agg Tryz.prog 33 4:=⟨_,_,Tryz.underlying33,rfl,info_of Tryz.type33,rfl⟩
instance:ZeroC Tryz.prog 33 ([Value.int IntKind.i64 0,Value.int IntKind.i64 0,Value.int IntKind.i64 0,Value.int IntKind.i64 0]):=⟨_,_,info_of Tryz.type33,rfl,rfl⟩
instance:Elem Tryz.prog 33 4 32:=⟨_,_,info_of Tryz.type33,rfl,rfl,rfl,rfl,by decide⟩
instance:Struct Tryz.prog 33 [(0,1),(1,1),(2,1),(3,1)] ([Value.int IntKind.i64 0,Value.int IntKind.i64 0,Value.int IntKind.i64 0,Value.int IntKind.i64 0]):=⟨_,_,_,info_of Tryz.type33,Tryz.underlying33,rfl,by simp only [List.mapM_cons,List.mapM_nil,info_of Tryz.type3];rfl,rfl⟩
instance:Fld Tryz.prog 33 0 0:=⟨_,_,_,Tryz.underlying33,rfl,rfl,info_of Tryz.type3,by decide⟩
instance:Fld Tryz.prog 33 1 1:=⟨_,_,_,Tryz.underlying33,rfl,rfl,info_of Tryz.type3,by decide⟩
instance:Fld Tryz.prog 33 2 2:=⟨_,_,_,Tryz.underlying33,rfl,rfl,info_of Tryz.type3,by decide⟩
instance:Fld Tryz.prog 33 3 3:=⟨_,_,_,Tryz.underlying33,rfl,rfl,info_of Tryz.type3,by decide⟩
instance:Und Tryz.prog 34 (TypeDesc.int IntKind.u64):=⟨Tryz.underlying34⟩
instance:Size Tryz.prog 34 1:=⟨_,info_of Tryz.type34,rfl⟩
instance:One Tryz.prog 34:=⟨_,Tryz.underlying34,rfl⟩
instance:Zero Tryz.prog 34 (Value.int IntKind.u64 0):=⟨_,info_of Tryz.type34,rfl⟩
instance:ZeroC Tryz.prog 34 ([Value.int IntKind.u64 0]):=⟨_,_,info_of Tryz.type34,rfl,rfl⟩
instance:Elem Tryz.prog 34 1 8:=⟨_,_,info_of Tryz.type34,rfl,rfl,rfl,rfl,by decide⟩
instance:Size Tryz.prog 36 3:=⟨_,info_of Tryz.type36,rfl⟩
instance:Agg Tryz.prog 36 3:=⟨_,_,Tryz.underlying36,rfl,info_of Tryz.type36,rfl⟩
instance:ZeroC Tryz.prog 36 ([Value.int IntKind.u64 0,Value.int IntKind.u64 0,Value.int IntKind.u64 0]):=⟨_,_,info_of Tryz.type36,rfl,rfl⟩
instance:Struct Tryz.prog 36 [(0,1),(1,1),(2,1)] ([Value.int IntKind.u64 0,Value.int IntKind.u64 0,Value.int IntKind.u64 0]):=⟨_,_,_,info_of Tryz.type36,Tryz.underlying36,rfl,by simp only [List.mapM_cons,List.mapM_nil,info_of Tryz.type34];rfl,rfl⟩
instance:Fld Tryz.prog 36 0 0:=⟨_,_,_,Tryz.underlying36,rfl,rfl,info_of Tryz.type34,by decide⟩
instance:Fld Tryz.prog 36 1 1:=⟨_,_,_,Tryz.underlying36,rfl,rfl,info_of Tryz.type34,by decide⟩
instance:Fld Tryz.prog 36 2 2:=⟨_,_,_,Tryz.underlying36,rfl,rfl,info_of Tryz.type34,by decide⟩
instance:Size Tryz.prog 38 7:=⟨_,info_of Tryz.type38,rfl⟩
instance:Agg Tryz.prog 38 7:=⟨_,_,Tryz.underlying38,rfl,info_of Tryz.type38,rfl⟩
instance:ZeroC Tryz.prog 38 ([Value.int IntKind.i64 0,Value.int IntKind.i64 0,Value.int IntKind.i64 0,Value.int IntKind.i64 0,Value.int IntKind.u64 0,Value.int IntKind.u64 0,Value.int IntKind.u64 0]):=⟨_,_,info_of Tryz.type38,rfl,rfl⟩
instance:Elem Tryz.prog 38 7 56:=⟨_,_,info_of Tryz.type38,rfl,rfl,rfl,rfl,by decide⟩
instance:Struct Tryz.prog 38 [(0,4),(4,3)] ([Value.int IntKind.i64 0,Value.int IntKind.i64 0,Value.int IntKind.i64 0,Value.int IntKind.i64 0,Value.int IntKind.u64 0,Value.int IntKind.u64 0,Value.int IntKind.u64 0]):=⟨_,_,_,info_of Tryz.type38,Tryz.underlying38,rfl,by simp only [List.mapM_cons,List.mapM_nil,info_of Tryz.type33,info_of Tryz.type36];rfl,rfl⟩
instance:Fld Tryz.prog 38 0 0:=⟨_,_,_,Tryz.underlying38,rfl,rfl,info_of Tryz.type33,by decide⟩
instance:Fld Tryz.prog 38 1 4:=⟨_,_,_,Tryz.underlying38,rfl,rfl,info_of Tryz.type36,by decide⟩
instance:Size Tryz.prog 51 2:=⟨_,info_of Tryz.type51,rfl⟩
instance:Agg Tryz.prog 51 2:=⟨_,_,Tryz.underlying51,rfl,info_of Tryz.type51,rfl⟩
instance:ZeroC Tryz.prog 51 ([Value.int IntKind.i64 0,Value.int IntKind.i64 0]):=⟨_,_,info_of Tryz.type51,rfl,rfl⟩
instance:Elem Tryz.prog 51 2 16:=⟨_,_,info_of Tryz.type51,rfl,rfl,rfl,rfl,by decide⟩
instance:Struct Tryz.prog 51 [(0,1),(1,1)] ([Value.int IntKind.i64 0,Value.int IntKind.i64 0]):=⟨_,_,_,info_of Tryz.type51,Tryz.underlying51,rfl,by simp only [List.mapM_cons,List.mapM_nil,info_of Tryz.type3];rfl,rfl⟩
instance:Fld Tryz.prog 51 0 0:=⟨_,_,_,Tryz.underlying51,rfl,rfl,info_of Tryz.type3,by decide⟩
instance:Fld Tryz.prog 51 1 1:=⟨_,_,_,Tryz.underlying51,rfl,rfl,info_of Tryz.type3,by decide⟩
instance:Size Tryz.prog 53 3:=⟨_,info_of Tryz.type53,rfl⟩
instance:Agg Tryz.prog 53 3:=⟨_,_,Tryz.underlying53,rfl,info_of Tryz.type53,rfl⟩
instance:ZeroC Tryz.prog 53 ([Value.int IntKind.i64 0,Value.int IntKind.i64 0,Value.string { data:= #[] }]):=⟨_,_,info_of Tryz.type53,rfl,rfl⟩
instance:Elem Tryz.prog 53 3 32:=⟨_,_,info_of Tryz.type53,rfl,rfl,rfl,rfl,by decide⟩
instance:Struct Tryz.prog 53 [(0,2),(2,1)] ([Value.int IntKind.i64 0,Value.int IntKind.i64 0,Value.string { data:= #[] }]):=⟨_,_,_,info_of Tryz.type53,Tryz.underlying53,rfl,by simp only [List.mapM_cons,List.mapM_nil,info_of Tryz.type51,info_of Tryz.type9];rfl,rfl⟩
instance:Fld Tryz.prog 53 0 0:=⟨_,_,_,Tryz.underlying53,rfl,rfl,info_of Tryz.type51,by decide⟩
instance:Fld Tryz.prog 53 1 2:=⟨_,_,_,Tryz.underlying53,rfl,rfl,info_of Tryz.type9,by decide⟩
instance:Size Tryz.prog 56 8:=⟨_,info_of Tryz.type56,rfl⟩
instance:Agg Tryz.prog 56 8:=⟨_,_,Tryz.underlying56,rfl,info_of Tryz.type56,rfl⟩
instance:ZeroC Tryz.prog 56 ([Value.int IntKind.i64 0,Value.int IntKind.i64 0,Value.int IntKind.i64 0,Value.int IntKind.i64 0,Value.int IntKind.u8 0,Value.int IntKind.u64 0,Value.int IntKind.i64 0,Value.bool false]):=⟨_,_,info_of Tryz.type56,rfl,rfl⟩
instance:Elem Tryz.prog 56 8 64:=⟨_,_,info_of Tryz.type56,rfl,rfl,rfl,rfl,by decide⟩
instance:Struct Tryz.prog 56 [(0,4),(4,1),(5,1),(6,1),(7,1)] ([Value.int IntKind.i64 0,Value.int IntKind.i64 0,Value.int IntKind.i64 0,Value.int IntKind.i64 0,Value.int IntKind.u8 0,Value.int IntKind.u64 0,Value.int IntKind.i64 0,Value.bool false]):=⟨_,_,_,info_of Tryz.type56,Tryz.underlying56,rfl,by simp only [List.mapM_cons,List.mapM_nil,info_of Tryz.type3,info_of Tryz.type33,info_of Tryz.type34,info_of Tryz.type4,info_of Tryz.type5];rfl,rfl⟩
instance:Fld Tryz.prog 56 0 0:=⟨_,_,_,Tryz.underlying56,rfl,rfl,info_of Tryz.type33,by decide⟩
instance:Fld Tryz.prog 56 1 4:=⟨_,_,_,Tryz.underlying56,rfl,rfl,info_of Tryz.type5,by decide⟩
instance:Fld Tryz.prog 56 2 5:=⟨_,_,_,Tryz.underlying56,rfl,rfl,info_of Tryz.type34,by decide⟩
instance:Fld Tryz.prog 56 3 6:=⟨_,_,_,Tryz.underlying56,rfl,rfl,info_of Tryz.type3,by decide⟩
instance:Fld Tryz.prog 56 4 7:=⟨_,_,_,Tryz.underlying56,rfl,rfl,info_of Tryz.type4,by decide⟩
instance:Struct Tryz.prog 64 [(0,2),(2,1)] ([Value.int IntKind.i64 0,Value.int IntKind.i64 0,Value.int IntKind.i64 0]):=⟨_,_,_,info_of Tryz.type64,Tryz.underlying64,rfl,by simp only [List.mapM_cons,List.mapM_nil,info_of Tryz.type3,info_of Tryz.type51];rfl,rfl⟩
instance:Fld Tryz.prog 64 0 0:=⟨_,_,_,Tryz.underlying64,rfl,rfl,info_of Tryz.type51,by decide⟩
instance:Fld Tryz.prog 64 1 2:=⟨_,_,_,Tryz.underlying64,rfl,rfl,info_of Tryz.type3,by decide⟩
instance:Und Tryz.prog 68 (TypeDesc.slice 51):=⟨Tryz.underlying68⟩
instance:Size Tryz.prog 68 1:=⟨_,info_of Tryz.type68,rfl⟩
instance:One Tryz.prog 68:=⟨_,Tryz.underlying68,rfl⟩
instance:ZeroC Tryz.prog 68 ([Value.slice none 0 0]):=⟨_,_,info_of Tryz.type68,rfl,rfl⟩
instance:Und Tryz.prog 73 (TypeDesc.pointer 171):=⟨Tryz.underlying73⟩
instance:One Tryz.prog 73:=⟨_,Tryz.underlying73,rfl⟩
instance:Und Tryz.prog 90 (TypeDesc.slice 3):=⟨Tryz.underlying90⟩
instance:Size Tryz.prog 90 1:=⟨_,info_of Tryz.type90,rfl⟩
instance:One Tryz.prog 90:=⟨_,Tryz.underlying90,rfl⟩
instance:ZeroC Tryz.prog 90 ([Value.slice none 0 0]):=⟨_,_,info_of Tryz.type90,rfl,rfl⟩
instance:Und Tryz.prog 93 (TypeDesc.slice 34):=⟨Tryz.underlying93⟩
instance:Und Tryz.prog 96 (TypeDesc.slice 101):=⟨Tryz.underlying96⟩
instance:Size Tryz.prog 101 3:=⟨_,info_of Tryz.type101,rfl⟩
instance:Agg Tryz.prog 101 3:=⟨_,_,Tryz.underlying101,rfl,info_of Tryz.type101,rfl⟩
instance:Elem Tryz.prog 101 3 24:=⟨_,_,info_of Tryz.type101,rfl,rfl,rfl,rfl,by decide⟩
instance:Struct Tryz.prog 101 [(0,2),(2,1)] ([Value.int IntKind.i64 0,Value.int IntKind.i64 0,Value.int IntKind.u64 0]):=⟨_,_,_,info_of Tryz.type101,Tryz.underlying101,rfl,by simp only [List.mapM_cons,List.mapM_nil,info_of Tryz.type34,info_of Tryz.type51];rfl,rfl⟩
instance:Und Tryz.prog 119 (TypeDesc.int IntKind.u64):=⟨Tryz.underlying119⟩
instance:Und Tryz.prog 121 (TypeDesc.slice 33):=⟨Tryz.underlying121⟩
instance:Und Tryz.prog 169 (TypeDesc.map 51 183):=⟨Tryz.underlying169⟩
instance:One Tryz.prog 169:=⟨_,Tryz.underlying169,rfl⟩
instance:Struct Tryz.prog 171 [(0,1)] ([Value.map none]):=⟨_,_,_,info_of Tryz.type171,Tryz.underlying171,rfl,by simp only [List.mapM_cons,List.mapM_nil,info_of Tryz.type169];rfl,rfl⟩
instance:Fld Tryz.prog 171 0 0:=⟨_,_,_,Tryz.underlying171,rfl,rfl,info_of Tryz.type169,by decide⟩
instance:Size Tryz.prog 173 3:=⟨_,info_of Tryz.type173,rfl⟩
instance:Agg Tryz.prog 173 3:=⟨_,_,Tryz.underlying173,rfl,info_of Tryz.type173,rfl⟩
instance:ZeroC Tryz.prog 173 ([Value.int IntKind.u8 0,Value.int IntKind.i64 0,Value.string { data:= #[] }]):=⟨_,_,info_of Tryz.type173,rfl,rfl⟩
instance:Struct Tryz.prog 173 [(0,1),(1,1),(2,1)] ([Value.int IntKind.u8 0,Value.int IntKind.i64 0,Value.string { data:= #[] }]):=⟨_,_,_,info_of Tryz.type173,Tryz.underlying173,rfl,by simp only [List.mapM_cons,List.mapM_nil,info_of Tryz.type2,info_of Tryz.type5,info_of Tryz.type9];rfl,rfl⟩
instance:Fld Tryz.prog 173 0 0:=⟨_,_,_,Tryz.underlying173,rfl,rfl,info_of Tryz.type5,by decide⟩
instance:Fld Tryz.prog 173 1 1:=⟨_,_,_,Tryz.underlying173,rfl,rfl,info_of Tryz.type2,by decide⟩
instance:Fld Tryz.prog 173 2 2:=⟨_,_,_,Tryz.underlying173,rfl,rfl,info_of Tryz.type9,by decide⟩
instance:Und Tryz.prog 174 (TypeDesc.slice 368):=⟨Tryz.underlying174⟩
instance:Size Tryz.prog 174 1:=⟨_,info_of Tryz.type174,rfl⟩
instance:One Tryz.prog 174:=⟨_,Tryz.underlying174,rfl⟩
instance:ZeroC Tryz.prog 174 ([Value.slice none 0 0]):=⟨_,_,info_of Tryz.type174,rfl,rfl⟩
instance:Size Tryz.prog 176 5:=⟨_,info_of Tryz.type176,rfl⟩
instance:Agg Tryz.prog 176 5:=⟨_,_,Tryz.underlying176,rfl,info_of Tryz.type176,rfl⟩
instance:ZeroC Tryz.prog 176 ([Value.bool false,Value.int IntKind.u8 0,Value.int IntKind.i64 0,Value.string { data:= #[] },Value.slice none 0 0]):=⟨_,_,info_of Tryz.type176,rfl,rfl⟩
instance:Struct Tryz.prog 176 [(0,1),(1,3),(4,1)] ([Value.bool false,Value.int IntKind.u8 0,Value.int IntKind.i64 0,Value.string { data:= #[] },Value.slice none 0 0]):=⟨_,_,_,info_of Tryz.type176,Tryz.underlying176,rfl,by simp only [List.mapM_cons,List.mapM_nil,info_of Tryz.type173,info_of Tryz.type174,info_of Tryz.type4];rfl,rfl⟩
instance:Fld Tryz.prog 176 0 0:=⟨_,_,_,Tryz.underlying176,rfl,rfl,info_of Tryz.type4,by decide⟩
instance:Fld Tryz.prog 176 2 4:=⟨_,_,_,Tryz.underlying176,rfl,rfl,info_of Tryz.type174,by decide⟩
instance:Und Tryz.prog 179 (TypeDesc.slice 200):=⟨Tryz.underlying179⟩
instance:Size Tryz.prog 179 1:=⟨_,info_of Tryz.type179,rfl⟩
instance:One Tryz.prog 179:=⟨_,Tryz.underlying179,rfl⟩
instance:ZeroC Tryz.prog 179 ([Value.slice none 0 0]):=⟨_,_,info_of Tryz.type179,rfl,rfl⟩
instance:Zero Tryz.prog 183 (Value.agg #[Value.slice none 0 0,Value.slice none 0 0]):=⟨_,info_of Tryz.type183,rfl⟩
instance:Struct Tryz.prog 183 [(0,1),(1,1)] ([Value.slice none 0 0,Value.slice none 0 0]):=⟨_,_,_,info_of Tryz.type183,Tryz.underlying183,rfl,by simp only [List.mapM_cons,List.mapM_nil,info_of Tryz.type174,info_of Tryz.type179];rfl,rfl⟩
instance:One Tryz.prog 187:=⟨_,Tryz.underlying187,rfl⟩
instance:Und Tryz.prog 191 (TypeDesc.map 51 34):=⟨Tryz.underlying191⟩
instance:One Tryz.prog 191:=⟨_,Tryz.underlying191,rfl⟩
instance:Und Tryz.prog 192 (TypeDesc.map 33 34):=⟨Tryz.underlying192⟩
instance:One Tryz.prog 192:=⟨_,Tryz.underlying192,rfl⟩
instance:Und Tryz.prog 193 (TypeDesc.map 287 34):=⟨Tryz.underlying193⟩
instance:One Tryz.prog 193:=⟨_,Tryz.underlying193,rfl⟩
instance:Struct Tryz.prog 195 [(0,1),(1,1),(2,1),(3,1),(4,1),(5,1),(6,1)] ([Value.pointer none,Value.slice none 0 0,Value.slice none 0 0,Value.slice none 0 0,Value.map none,Value.map none,Value.map none]):=⟨_,_,_,info_of Tryz.type195,Tryz.underlying195,rfl,by simp only [List.mapM_cons,List.mapM_nil,info_of Tryz.type191,info_of Tryz.type192,info_of Tryz.type193,info_of Tryz.type23,info_of Tryz.type24,info_of Tryz.type68,info_of Tryz.type73];rfl,rfl⟩
instance:Fld Tryz.prog 195 1 1:=⟨_,_,_,Tryz.underlying195,rfl,rfl,info_of Tryz.type23,by decide⟩
instance:Fld Tryz.prog 195 2 2:=⟨_,_,_,Tryz.underlying195,rfl,rfl,info_of Tryz.type24,by decide⟩
instance:Fld Tryz.prog 195 3 3:=⟨_,_,_,Tryz.underlying195,rfl,rfl,info_of Tryz.type68,by decide⟩
instance:Fld Tryz.prog 195 4 4:=⟨_,_,_,Tryz.underlying195,rfl,rfl,info_of Tryz.type191,by decide⟩
instance:Fld Tryz.prog 195 5 5:=⟨_,_,_,Tryz.underlying195,rfl,rfl,info_of Tryz.type192,by decide⟩
instance:Fld Tryz.prog 195 6 6:=⟨_,_,_,Tryz.underlying195,rfl,rfl,info_of Tryz.type193,by decide⟩
instance:Size Tryz.prog 200 6:=⟨_,info_of Tryz.type200,rfl⟩
instance:Agg Tryz.prog 200 6:=⟨_,_,Tryz.underlying200,rfl,info_of Tryz.type200,rfl⟩
instance:ZeroC Tryz.prog 200 ([Value.int IntKind.i64 0,Value.int IntKind.i64 0,Value.int IntKind.i64 0,Value.int IntKind.i64 0,Value.int IntKind.i64 0,Value.int IntKind.u8 0]):=⟨_,_,info_of Tryz.type200,rfl,rfl⟩
instance:Elem Tryz.prog 200 6 48:=⟨_,_,info_of Tryz.type200,rfl,rfl,rfl,rfl,by decide⟩
instance:Struct Tryz.prog 200 [(0,4),(4,1),(5,1)] ([Value.int IntKind.i64 0,Value.int IntKind.i64 0,Value.int IntKind.i64 0,Value.int IntKind.i64 0,Value.int IntKind.i64 0,Value.int IntKind.u8 0]):=⟨_,_,_,info_of Tryz.type200,Tryz.underlying200,rfl,by simp only [List.mapM_cons,List.mapM_nil,info_of Tryz.type3,info_of Tryz.type33,info_of Tryz.type5];rfl,rfl⟩
instance:Fld Tryz.prog 200 0 0:=⟨_,_,_,Tryz.underlying200,rfl,rfl,info_of Tryz.type33,by decide⟩
instance:Fld Tryz.prog 200 1 4:=⟨_,_,_,Tryz.underlying200,rfl,rfl,info_of Tryz.type3,by decide⟩
instance:Fld Tryz.prog 200 2 5:=⟨_,_,_,Tryz.underlying200,rfl,rfl,info_of Tryz.type5,by decide⟩
instance:Und Tryz.prog 219 (TypeDesc.map 51 4):=⟨Tryz.underlying219⟩
instance:Struct Tryz.prog 287 [(0,1),(1,4)] ([Value.int IntKind.u8 0,Value.int IntKind.i64 0,Value.int IntKind.i64 0,Value.int IntKind.i64 0,Value.int IntKind.i64 0]):=⟨_,_,_,info_of Tryz.type287,Tryz.underlying287,rfl,by simp only [List.mapM_cons,List.mapM_nil,info_of Tryz.type33,info_of Tryz.type5];rfl,rfl⟩
instance:Und Tryz.prog 315 (TypeDesc.slice 319):=⟨Tryz.underlying315⟩
instance:Und Tryz.prog 317 (TypeDesc.array 2 3):=⟨Tryz.underlying317⟩
instance:Size Tryz.prog 317 2:=⟨_,info_of Tryz.type317,rfl⟩
instance:Agg Tryz.prog 317 2:=⟨_,_,Tryz.underlying317,rfl,info_of Tryz.type317,rfl⟩
instance:ZeroC Tryz.prog 317 ([Value.int IntKind.i64 0,Value.int IntKind.i64 0]):=⟨_,_,info_of Tryz.type317,rfl,rfl⟩
instance:Elem Tryz.prog 317 2 16:=⟨_,_,info_of Tryz.type317,rfl,rfl,rfl,rfl,by decide⟩
instance:Size Tryz.prog 319 6:=⟨_,info_of Tryz.type319,rfl⟩
instance:Agg Tryz.prog 319 6:=⟨_,_,Tryz.underlying319,rfl,info_of Tryz.type319,rfl⟩
instance:ZeroC Tryz.prog 319 ([Value.int IntKind.i64 0,Value.int IntKind.i64 0,Value.int IntKind.i64 0,Value.int IntKind.i64 0,Value.int IntKind.i64 0,Value.int IntKind.i64 0]):=⟨_,_,info_of Tryz.type319,rfl,rfl⟩
instance:Elem Tryz.prog 319 6 48:=⟨_,_,info_of Tryz.type319,rfl,rfl,rfl,rfl,by decide⟩
instance:Struct Tryz.prog 319 [(0,4),(4,2)] ([Value.int IntKind.i64 0,Value.int IntKind.i64 0,Value.int IntKind.i64 0,Value.int IntKind.i64 0,Value.int IntKind.i64 0,Value.int IntKind.i64 0]):=⟨_,_,_,info_of Tryz.type319,Tryz.underlying319,rfl,by simp only [List.mapM_cons,List.mapM_nil,info_of Tryz.type317,info_of Tryz.type33];rfl,rfl⟩
instance:Fld Tryz.prog 319 0 0:=⟨_,_,_,Tryz.underlying319,rfl,rfl,info_of Tryz.type33,by decide⟩
instance:Fld Tryz.prog 319 1 4:=⟨_,_,_,Tryz.underlying319,rfl,rfl,info_of Tryz.type317,by decide⟩
instance:Size Tryz.prog 346 1:=⟨_,info_of Tryz.type346,rfl⟩
instance:One Tryz.prog 346:=⟨_,Tryz.underlying346,rfl⟩
instance:Elem Tryz.prog 346 1 8:=⟨_,_,info_of Tryz.type346,rfl,rfl,rfl,rfl,by decide⟩
instance:Und Tryz.prog 351 (TypeDesc.slice 346):=⟨Tryz.underlying351⟩
instance:Und Tryz.prog 353 (TypeDesc.slice 362):=⟨Tryz.underlying353⟩
instance:Size Tryz.prog 353 1:=⟨_,info_of Tryz.type353,rfl⟩
instance:One Tryz.prog 353:=⟨_,Tryz.underlying353,rfl⟩
instance:Und Tryz.prog 357 (TypeDesc.struct #[{ name:= "at",type:=3,offset:=0,embedded:=false,tag:= "",pkgPath:= "louvre/parse",byteOffset:=0 },{ name:= "e",type:=30,offset:=1,embedded:=false,tag:= "",pkgPath:= "louvre/parse",byteOffset:=8 }]):=⟨Tryz.underlying357⟩
instance:Size Tryz.prog 357 2:=⟨_,info_of Tryz.type357,rfl⟩
instance:ZeroC Tryz.prog 357 ([Value.int IntKind.i64 0,Value.int IntKind.i64 0]):=⟨_,_,info_of Tryz.type357,rfl,rfl⟩
instance:Struct Tryz.prog 357 [(0,1),(1,1)] ([Value.int IntKind.i64 0,Value.int IntKind.i64 0]):=⟨_,_,_,info_of Tryz.type357,Tryz.underlying357,rfl,by simp only [List.mapM_cons,List.mapM_nil,info_of Tryz.type3,info_of Tryz.type30];rfl,rfl⟩
instance:Fld Tryz.prog 357 0 0:=⟨_,_,_,Tryz.underlying357,rfl,rfl,info_of Tryz.type3,by decide⟩
instance:Fld Tryz.prog 357 1 1:=⟨_,_,_,Tryz.underlying357,rfl,rfl,info_of Tryz.type30,by decide⟩
instance:One Tryz.prog 358:=⟨_,Tryz.underlying358,rfl⟩
instance:Struct Tryz.prog 360 [(0,1),(1,1),(2,1)] ([Value.slice none 0 0,Value.int IntKind.i64 0,Value.slice none 0 0]):=⟨_,_,_,info_of Tryz.type360,Tryz.underlying360,rfl,by simp only [List.mapM_cons,List.mapM_nil,info_of Tryz.type174,info_of Tryz.type3,info_of Tryz.type353];rfl,rfl⟩
instance:Fld Tryz.prog 360 0 0:=⟨_,_,_,Tryz.underlying360,rfl,rfl,info_of Tryz.type353,by decide⟩
instance:Fld Tryz.prog 360 1 1:=⟨_,_,_,Tryz.underlying360,rfl,rfl,info_of Tryz.type3,by decide⟩
instance:Fld Tryz.prog 360 2 2:=⟨_,_,_,Tryz.underlying360,rfl,rfl,info_of Tryz.type174,by decide⟩
instance:Size Tryz.prog 362 8:=⟨_,info_of Tryz.type362,rfl⟩
instance:Agg Tryz.prog 362 8:=⟨_,_,Tryz.underlying362,rfl,info_of Tryz.type362,rfl⟩
instance:ZeroC Tryz.prog 362 ([Value.int IntKind.u8 0,Value.int IntKind.i64 0,Value.string { data:= #[] },Value.int IntKind.i64 0,Value.int IntKind.i64 0,Value.int IntKind.i64 0,Value.int IntKind.i64 0,Value.int IntKind.i64 0]):=⟨_,_,info_of Tryz.type362,rfl,rfl⟩
instance:Elem Tryz.prog 362 8 72:=⟨_,_,info_of Tryz.type362,rfl,rfl,rfl,rfl,by decide⟩
instance:Struct Tryz.prog 362 [(0,1),(1,1),(2,1),(3,4),(7,1)] ([Value.int IntKind.u8 0,Value.int IntKind.i64 0,Value.string { data:= #[] },Value.int IntKind.i64 0,Value.int IntKind.i64 0,Value.int IntKind.i64 0,Value.int IntKind.i64 0,Value.int IntKind.i64 0]):=⟨_,_,_,info_of Tryz.type362,Tryz.underlying362,rfl,by simp only [List.mapM_cons,List.mapM_nil,info_of Tryz.type2,info_of Tryz.type3,info_of Tryz.type33,info_of Tryz.type5,info_of Tryz.type9];rfl,rfl⟩
instance:Fld Tryz.prog 362 0 0:=⟨_,_,_,Tryz.underlying362,rfl,rfl,info_of Tryz.type5,by decide⟩
instance:Fld Tryz.prog 362 1 1:=⟨_,_,_,Tryz.underlying362,rfl,rfl,info_of Tryz.type2,by decide⟩
instance:Fld Tryz.prog 362 2 2:=⟨_,_,_,Tryz.underlying362,rfl,rfl,info_of Tryz.type9,by decide⟩
instance:Fld Tryz.prog 362 3 3:=⟨_,_,_,Tryz.underlying362,rfl,rfl,info_of Tryz.type33,by decide⟩
instance:Fld Tryz.prog 362 4 7:=⟨_,_,_,Tryz.underlying362,rfl,rfl,info_of Tryz.type3,by decide⟩
instance:Size Tryz.prog 368 11:=⟨_,info_of Tryz.type368,rfl⟩
instance:Agg Tryz.prog 368 11:=⟨_,_,Tryz.underlying368,rfl,info_of Tryz.type368,rfl⟩
instance:ZeroC Tryz.prog 368 ([Value.int IntKind.u8 0,Value.int IntKind.u8 0,Value.int IntKind.i64 0,Value.string { data:= #[] },Value.int IntKind.i64 0,Value.int IntKind.i64 0,Value.int IntKind.i64 0,Value.int IntKind.i64 0,Value.int IntKind.i64 0,Value.int IntKind.u8 0,Value.int IntKind.i64 0]):=⟨_,_,info_of Tryz.type368,rfl,rfl⟩
instance:Elem Tryz.prog 368 11 96:=⟨_,_,info_of Tryz.type368,rfl,rfl,rfl,rfl,by decide⟩
instance:Struct Tryz.prog 368 [(0,1),(1,3),(4,4),(8,1),(9,1),(10,1)] ([Value.int IntKind.u8 0,Value.int IntKind.u8 0,Value.int IntKind.i64 0,Value.string { data:= #[] },Value.int IntKind.i64 0,Value.int IntKind.i64 0,Value.int IntKind.i64 0,Value.int IntKind.i64 0,Value.int IntKind.i64 0,Value.int IntKind.u8 0,Value.int IntKind.i64 0]):=⟨_,_,_,info_of Tryz.type368,Tryz.underlying368,rfl,by simp only [List.mapM_cons,List.mapM_nil,info_of Tryz.type173,info_of Tryz.type2,info_of Tryz.type3,info_of Tryz.type33,info_of Tryz.type5];rfl,rfl⟩
instance:Fld Tryz.prog 368 0 0:=⟨_,_,_,Tryz.underlying368,rfl,rfl,info_of Tryz.type5,by decide⟩
instance:Fld Tryz.prog 368 1 1:=⟨_,_,_,Tryz.underlying368,rfl,rfl,info_of Tryz.type173,by decide⟩
instance:Fld Tryz.prog 368 2 4:=⟨_,_,_,Tryz.underlying368,rfl,rfl,info_of Tryz.type33,by decide⟩
instance:Fld Tryz.prog 368 3 8:=⟨_,_,_,Tryz.underlying368,rfl,rfl,info_of Tryz.type2,by decide⟩
instance:Fld Tryz.prog 368 4 9:=⟨_,_,_,Tryz.underlying368,rfl,rfl,info_of Tryz.type5,by decide⟩
instance:Fld Tryz.prog 368 5 10:=⟨_,_,_,Tryz.underlying368,rfl,rfl,info_of Tryz.type3,by decide⟩
instance:Und Tryz.prog 385 (TypeDesc.slice 317):=⟨Tryz.underlying385⟩
instance:Size Tryz.prog 385 1:=⟨_,info_of Tryz.type385,rfl⟩
instance:One Tryz.prog 385:=⟨_,Tryz.underlying385,rfl⟩
instance:ZeroC Tryz.prog 385 ([Value.slice none 0 0]):=⟨_,_,info_of Tryz.type385,rfl,rfl⟩
instance:Und Tryz.prog 402 (TypeDesc.slice 5):=⟨Tryz.underlying402⟩
instance:Agg Tryz.prog 408 3:=⟨_,_,Tryz.underlying408,rfl,info_of Tryz.type408,rfl⟩
instance:Fld Tryz.prog 408 2 2:=⟨_,_,_,Tryz.underlying408,rfl,rfl,info_of Tryz.type9,by decide⟩
instance:Und Tryz.prog 409 (TypeDesc.map 5 410):=⟨Tryz.underlying409⟩
instance:Zero Tryz.prog 410 (Value.nilFunc):=⟨_,info_of Tryz.type410,rfl⟩
instance:Und Tryz.prog 413 (TypeDesc.array 8 9):=⟨Tryz.underlying413⟩
instance:Agg Tryz.prog 413 8:=⟨_,_,Tryz.underlying413,rfl,info_of Tryz.type413,rfl⟩
instance:Struct Tryz.prog 419 [(0,1)] ([Value.string { data:= #[] }]):=⟨_,_,_,info_of Tryz.type419,Tryz.underlying419,rfl,by simp only [List.mapM_cons,List.mapM_nil,info_of Tryz.type9];rfl,rfl⟩
instance:Fld Tryz.prog 419 0 0:=⟨_,_,_,Tryz.underlying419,rfl,rfl,info_of Tryz.type9,by decide⟩
instance:Size Tryz.prog 420 1:=⟨_,info_of Tryz.type420,rfl⟩
instance:One Tryz.prog 420:=⟨_,Tryz.underlying420,rfl⟩
instance:Und Tryz.prog 421 (TypeDesc.array 5 420):=⟨Tryz.underlying421⟩
instance:Size Tryz.prog 421 5:=⟨_,info_of Tryz.type421,rfl⟩
instance:Agg Tryz.prog 421 5:=⟨_,_,Tryz.underlying421,rfl,info_of Tryz.type421,rfl⟩
instance:ZeroC Tryz.prog 421 ([Value.nilFunc,Value.nilFunc,Value.nilFunc,Value.nilFunc,Value.nilFunc]):=⟨_,_,info_of Tryz.type421,rfl,rfl⟩
instance:One Tryz.prog 460:=⟨_,Tryz.underlying460,rfl⟩
instance:Und Tryz.prog 468 (TypeDesc.slice 9):=⟨Tryz.underlying468⟩
instance:Und Tryz.prog 469 (TypeDesc.slice 2):=⟨Tryz.underlying469⟩
instance:Und Tryz.prog 475 (TypeDesc.slice 480):=⟨Tryz.underlying475⟩
instance:Size Tryz.prog 480 3:=⟨_,info_of Tryz.type480,rfl⟩
instance:Agg Tryz.prog 480 3:=⟨_,_,Tryz.underlying480,rfl,info_of Tryz.type480,rfl⟩
instance:ZeroC Tryz.prog 480 ([Value.int IntKind.i64 0,Value.int IntKind.i64 0,Value.bool false]):=⟨_,_,info_of Tryz.type480,rfl,rfl⟩
instance:Elem Tryz.prog 480 3 24:=⟨_,_,info_of Tryz.type480,rfl,rfl,rfl,rfl,by decide⟩
instance:Struct Tryz.prog 480 [(0,1),(1,1),(2,1)] ([Value.int IntKind.i64 0,Value.int IntKind.i64 0,Value.bool false]):=⟨_,_,_,info_of Tryz.type480,Tryz.underlying480,rfl,by simp only [List.mapM_cons,List.mapM_nil,info_of Tryz.type3,info_of Tryz.type4];rfl,rfl⟩
instance:Fld Tryz.prog 480 0 0:=⟨_,_,_,Tryz.underlying480,rfl,rfl,info_of Tryz.type3,by decide⟩
instance:Fld Tryz.prog 480 1 1:=⟨_,_,_,Tryz.underlying480,rfl,rfl,info_of Tryz.type3,by decide⟩
instance:Fld Tryz.prog 480 2 2:=⟨_,_,_,Tryz.underlying480,rfl,rfl,info_of Tryz.type4,by decide⟩
instance:Size Tryz.prog 494 5:=⟨_,info_of Tryz.type494,rfl⟩
instance:Agg Tryz.prog 494 5:=⟨_,_,Tryz.underlying494,rfl,info_of Tryz.type494,rfl⟩
instance:ZeroC Tryz.prog 494 ([Value.int IntKind.i64 0,Value.int IntKind.i64 0,Value.int IntKind.i64 0,Value.int IntKind.i64 0,Value.bool false]):=⟨_,_,info_of Tryz.type494,rfl,rfl⟩
instance:Struct Tryz.prog 494 [(0,2),(2,2),(4,1)] ([Value.int IntKind.i64 0,Value.int IntKind.i64 0,Value.int IntKind.i64 0,Value.int IntKind.i64 0,Value.bool false]):=⟨_,_,_,info_of Tryz.type494,Tryz.underlying494,rfl,by simp only [List.mapM_cons,List.mapM_nil,info_of Tryz.type317,info_of Tryz.type4];rfl,rfl⟩
instance:Fld Tryz.prog 494 0 0:=⟨_,_,_,Tryz.underlying494,rfl,rfl,info_of Tryz.type317,by decide⟩
instance:Fld Tryz.prog 494 1 2:=⟨_,_,_,Tryz.underlying494,rfl,rfl,info_of Tryz.type317,by decide⟩
instance:Fld Tryz.prog 494 2 4:=⟨_,_,_,Tryz.underlying494,rfl,rfl,info_of Tryz.type4,by decide⟩
instance:Und Tryz.prog 515 (TypeDesc.array 50 9):=⟨Tryz.underlying515⟩
instance:Size Tryz.prog 515 50:=⟨_,info_of Tryz.type515,rfl⟩
instance:Agg Tryz.prog 515 50:=⟨_,_,Tryz.underlying515,rfl,info_of Tryz.type515,rfl⟩
instance:ZeroC Tryz.prog 515 ([Value.string { data:= #[] },Value.string { data:= #[] },Value.string { data:= #[] },Value.string { data:= #[] },Value.string { data:= #[] },Value.string { data:= #[] },Value.string { data:= #[] },Value.string { data:= #[] },Value.string { data:= #[] },Value.string { data:= #[] },Value.string { data:= #[] },Value.string { data:= #[] },Value.string { data:= #[] },Value.string { data:= #[] },Value.string { data:= #[] },Value.string { data:= #[] },Value.string { data:= #[] },Value.string { data:= #[] },Value.string { data:= #[] },Value.string { data:= #[] },Value.string { data:= #[] },Value.string { data:= #[] },Value.string { data:= #[] },Value.string { data:= #[] },Value.string { data:= #[] },Value.string { data:= #[] },Value.string { data:= #[] },Value.string { data:= #[] },Value.string { data:= #[] },Value.string { data:= #[] },Value.string { data:= #[] },Value.string { data:= #[] },Value.string { data:= #[] },Value.string { data:= #[] },Value.string { data:= #[] },Value.string { data:= #[] },Value.string { data:= #[] },Value.string { data:= #[] },Value.string { data:= #[] },Value.string { data:= #[] },Value.string { data:= #[] },Value.string { data:= #[] },Value.string { data:= #[] },Value.string { data:= #[] },Value.string { data:= #[] },Value.string { data:= #[] },Value.string { data:= #[] },Value.string { data:= #[] },Value.string { data:= #[] },Value.string { data:= #[] }]):=⟨_,_,info_of Tryz.type515,rfl,rfl⟩
instance:Callable Tryz.prog 31:=⟨fun args w=>Tryz.call31 args w⟩
instance:Callable Tryz.prog 33:=⟨fun args w=>Tryz.call33 args w⟩
instance:Callable Tryz.prog 45:=⟨fun args w=>Tryz.call45 args w⟩
instance:Callable Tryz.prog 46:=⟨fun args w=>Tryz.call46 args w⟩
instance:Callable Tryz.prog 47:=⟨fun args w=>Tryz.call47 args w⟩
instance:Callable Tryz.prog 48:=⟨fun args w=>Tryz.call48 args w⟩
instance:Callable Tryz.prog 49:=⟨fun args w=>Tryz.call49 args w⟩
instance:Callable Tryz.prog 50:=⟨fun args w=>Tryz.call50 args w⟩
instance:Callable Tryz.prog 51:=⟨fun args w=>Tryz.call51 args w⟩
instance:Callable Tryz.prog 52:=⟨fun args w=>Tryz.call52 args w⟩
instance:Callable Tryz.prog 54:=⟨fun args w=>Tryz.call54 args w⟩
instance:Callable Tryz.prog 67:=⟨fun args w=>Tryz.call67 args w⟩
instance:Callable Tryz.prog 68:=⟨fun args w=>Tryz.call68 args w⟩
instance:Callable Tryz.prog 71:=⟨fun args w=>Tryz.call71 args w⟩
instance:Callable Tryz.prog 72:=⟨fun args w=>Tryz.call72 args w⟩
instance:Callable Tryz.prog 73:=⟨fun args w=>Tryz.call73 args w⟩
instance:Callable Tryz.prog 74:=⟨fun args w=>Tryz.call74 args w⟩
instance:Callable Tryz.prog 81:=⟨fun args w=>Tryz.call81 args w⟩
instance:Callable Tryz.prog 87:=⟨fun args w=>Tryz.call87 args w⟩
instance:Callable Tryz.prog 106:=⟨fun args w=>Tryz.call106 args w⟩
instance:Callable Tryz.prog 108:=⟨fun args w=>Tryz.call108 args w⟩
instance:Callable Tryz.prog 109:=⟨fun args w=>Tryz.call109 args w⟩
instance:Callable Tryz.prog 113:=⟨fun args w=>Tryz.call113 args w⟩
instance:Callable Tryz.prog 114:=⟨fun args w=>Tryz.call114 args w⟩
instance:Callable Tryz.prog 115:=⟨fun args w=>Tryz.call115 args w⟩
instance:Callable Tryz.prog 116:=⟨fun args w=>Tryz.call116 args w⟩
instance:Callable Tryz.prog 117:=⟨fun args w=>Tryz.call117 args w⟩
instance:Callable Tryz.prog 118:=⟨fun args w=>Tryz.call118 args w⟩
instance:Callable Tryz.prog 137:=⟨fun args w=>Tryz.call137 args w⟩
instance:Callable Tryz.prog 140:=⟨fun args w=>Tryz.call140 args w⟩
instance:Callable Tryz.prog 141:=⟨fun args w=>Tryz.call141 args w⟩
instance:Callable Tryz.prog 145:=⟨fun args w=>Tryz.call145 args w⟩
instance:Callable Tryz.prog 146:=⟨fun args w=>Tryz.call146 args w⟩
instance:Callable Tryz.prog 147:=⟨fun args w=>Tryz.call147 args w⟩
instance:Callable Tryz.prog 160:=⟨fun args w=>Tryz.call160 args w⟩
instance:Callable Tryz.prog 165:=⟨fun args w=>Tryz.call165 args w⟩
instance:Callable Tryz.prog 176:=⟨fun args w=>Tryz.call176 args w⟩
instance:Callable Tryz.prog 177:=⟨fun args w=>Tryz.call177 args w⟩
instance:Callable Tryz.prog 178:=⟨fun args w=>Tryz.call178 args w⟩
instance:Callable Tryz.prog 179:=⟨fun args w=>Tryz.call179 args w⟩
instance:Callable Tryz.prog 180:=⟨fun args w=>Tryz.call180 args w⟩
instance:Callable Tryz.prog 181:=⟨fun args w=>Tryz.call181 args w⟩
instance:Callable Tryz.prog 183:=⟨fun args w=>Tryz.call183 args w⟩
instance:Callable Tryz.prog 184:=⟨fun args w=>Tryz.call184 args w⟩
instance:Callable Tryz.prog 185:=⟨fun args w=>Tryz.call185 args w⟩
instance:Callable Tryz.prog 186:=⟨fun args w=>Tryz.call186 args w⟩
instance:Callable Tryz.prog 187:=⟨fun args w=>Tryz.call187 args w⟩
instance:Callable Tryz.prog 189:=⟨fun args w=>Tryz.call189 args w⟩
instance:Callable Tryz.prog 216:=⟨fun args w=>Tryz.call216 args w⟩
instance:Callable Tryz.prog 217:=⟨fun args w=>Tryz.call217 args w⟩
instance:Callable Tryz.prog 219:=⟨fun args w=>Tryz.call219 args w⟩
instance:Callable Tryz.prog 241:=⟨fun args w=>Tryz.call241 args w⟩
instance:Callable Tryz.prog 242:=⟨fun args w=>Tryz.call242 args w⟩
instance:Callable Tryz.prog 243:=⟨fun args w=>Tryz.call243 args w⟩
instance:Callable Tryz.prog 244:=⟨fun args w=>Tryz.call244 args w⟩
instance:Callable Tryz.prog 245:=⟨fun args w=>Tryz.call245 args w⟩
instance:Callable Tryz.prog 246:=⟨fun args w=>Tryz.call246 args w⟩
instance:Callable Tryz.prog 247:=⟨fun args w=>Tryz.call247 args w⟩
instance:Callable Tryz.prog 248:=⟨fun args w=>Tryz.call248 args w⟩
instance:Callable Tryz.prog 249:=⟨fun args w=>Tryz.call249 args w⟩
instance:Callable Tryz.prog 250:=⟨fun args w=>Tryz.call250 args w⟩
instance:Callable Tryz.prog 251:=⟨fun args w=>Tryz.call251 args w⟩
instance:Callable Tryz.prog 252:=⟨fun args w=>Tryz.call252 args w⟩
instance:Callable Tryz.prog 253:=⟨fun args w=>Tryz.call253 args w⟩
instance:Callable Tryz.prog 254:=⟨fun args w=>Tryz.call254 args w⟩
instance:Callable Tryz.prog 255:=⟨fun args w=>Tryz.call255 args w⟩
instance:Callable Tryz.prog 256:=⟨fun args w=>Tryz.call256 args w⟩
instance:Callable Tryz.prog 257:=⟨fun args w=>Tryz.call257 args w⟩
instance:Callable Tryz.prog 258:=⟨fun args w=>Tryz.call258 args w⟩
instance:Callable Tryz.prog 259:=⟨fun args w=>Tryz.call259 args w⟩
instance:Callable Tryz.prog 260:=⟨fun args w=>Tryz.call260 args w⟩
instance:Callable Tryz.prog 261:=⟨fun args w=>Tryz.call261 args w⟩
instance:Callable Tryz.prog 262:=⟨fun args w=>Tryz.call262 args w⟩
instance:Callable Tryz.prog 263:=⟨fun args w=>Tryz.call263 args w⟩
instance:Callable Tryz.prog 264:=⟨fun args w=>Tryz.call264 args w⟩
instance:Callable Tryz.prog 265:=⟨fun args w=>Tryz.call265 args w⟩
instance:Callable Tryz.prog 279:=⟨fun args w=>Tryz.call279 args w⟩
instance:Callable Tryz.prog 280:=⟨fun args w=>Tryz.call280 args w⟩
instance:Callable Tryz.prog 281:=⟨fun args w=>Tryz.call281 args w⟩
instance:Callable Tryz.prog 282:=⟨fun args w=>Tryz.call282 args w⟩
instance:Callable Tryz.prog 283:=⟨fun args w=>Tryz.call283 args w⟩
instance:Callable Tryz.prog 293:=⟨fun args w=>Tryz.call293 args w⟩
instance:Callable Tryz.prog 294:=⟨fun args w=>Tryz.call294 args w⟩
instance:Callable Tryz.prog 295:=⟨fun args w=>Tryz.call295 args w⟩
instance:Callable Tryz.prog 296:=⟨fun args w=>Tryz.call296 args w⟩
instance:Callable Tryz.prog 297:=⟨fun args w=>Tryz.call297 args w⟩
instance:Callable Tryz.prog 298:=⟨fun args w=>Tryz.call298 args w⟩
instance:Callable Tryz.prog 299:=⟨fun args w=>Tryz.call299 args w⟩
instance:Callable Tryz.prog 302:=⟨fun args w=>Tryz.call302 args w⟩
instance:Callable Tryz.prog 303:=⟨fun args w=>Tryz.call303 args w⟩
instance:Callable Tryz.prog 304:=⟨fun args w=>Tryz.call304 args w⟩
instance:Callable Tryz.prog 305:=⟨fun args w=>Tryz.call305 args w⟩
instance:Callable Tryz.prog 306:=⟨fun args w=>Tryz.call306 args w⟩
instance:Callable Tryz.prog 307:=⟨fun args w=>Tryz.call307 args w⟩
instance:Callable Tryz.prog 308:=⟨fun args w=>Tryz.call308 args w⟩
instance:Callable Tryz.prog 309:=⟨fun args w=>Tryz.call309 args w⟩
instance:Callable Tryz.prog 310:=⟨fun args w=>Tryz.call310 args w⟩
instance:Callable Tryz.prog 311:=⟨fun args w=>Tryz.call311 args w⟩
instance:Callable Tryz.prog 312:=⟨fun args w=>Tryz.call312 args w⟩
instance:Callable Tryz.prog 313:=⟨fun args w=>Tryz.call313 args w⟩
instance:Callable Tryz.prog 314:=⟨fun args w=>Tryz.call314 args w⟩
instance:Callable Tryz.prog 315:=⟨fun args w=>Tryz.call315 args w⟩
instance:Callable Tryz.prog 316:=⟨fun args w=>Tryz.call316 args w⟩
instance:Callable Tryz.prog 317:=⟨fun args w=>Tryz.call317 args w⟩
instance:Callable Tryz.prog 335:=⟨fun args w=>Tryz.call335 args w⟩
instance:Callable Tryz.prog 336:=⟨fun args w=>Tryz.call336 args w⟩
instance:Callable Tryz.prog 354:=⟨fun args w=>Tryz.call354 args w⟩
instance:Callable Tryz.prog 355:=⟨fun args w=>Tryz.call355 args w⟩
instance:Callable Tryz.prog 356:=⟨fun args w=>Tryz.call356 args w⟩
instance:Callable Tryz.prog 357:=⟨fun args w=>Tryz.call357 args w⟩
instance:Callable Tryz.prog 358:=⟨fun args w=>Tryz.call358 args w⟩
instance:Callable Tryz.prog 359:=⟨fun args w=>Tryz.call359 args w⟩
instance:Callable Tryz.prog 360:=⟨fun args w=>Tryz.call360 args w⟩
instance:Callable Tryz.prog 361:=⟨fun args w=>Tryz.call361 args w⟩
instance:Callable Tryz.prog 362:=⟨fun args w=>Tryz.call362 args w⟩
instance:Callable Tryz.prog 363:=⟨fun args w=>Tryz.call363 args w⟩
instance:Callable Tryz.prog 364:=⟨fun args w=>Tryz.call364 args w⟩
instance:Callable Tryz.prog 365:=⟨fun args w=>Tryz.call365 args w⟩
instance:Callable Tryz.prog 366:=⟨fun args w=>Tryz.call366 args w⟩
instance:Callable Tryz.prog 367:=⟨fun args w=>Tryz.call367 args w⟩
instance:Callable Tryz.prog 368:=⟨fun args w=>Tryz.call368 args w⟩
instance:Callable Tryz.prog 369:=⟨fun args w=>Tryz.call369 args w⟩
instance:Callable Tryz.prog 370:=⟨fun args w=>Tryz.call370 args w⟩
instance:Callable Tryz.prog 371:=⟨fun args w=>Tryz.call371 args w⟩
instance:Callable Tryz.prog 372:=⟨fun args w=>Tryz.call372 args w⟩
instance:Callable Tryz.prog 373:=⟨fun args w=>Tryz.call373 args w⟩
instance:Callable Tryz.prog 374:=⟨fun args w=>Tryz.call374 args w⟩
instance:Callable Tryz.prog 375:=⟨fun args w=>Tryz.call375 args w⟩
instance:Callable Tryz.prog 376:=⟨fun args w=>Tryz.call376 args w⟩
instance:Callable Tryz.prog 383:=⟨fun args w=>Tryz.call383 args w⟩
instance:Callable Tryz.prog 384:=⟨fun args w=>Tryz.call384 args w⟩
instance:Callable Tryz.prog 391:=⟨fun args w=>Tryz.call391 args w⟩
instance:Callable Tryz.prog 392:=⟨fun args w=>Tryz.call392 args w⟩
instance:Callable Tryz.prog 393:=⟨fun args w=>Tryz.call393 args w⟩
instance:Callable Tryz.prog 394:=⟨fun args w=>Tryz.call394 args w⟩
instance:Callable Tryz.prog 396:=⟨fun args w=>Tryz.call396 args w⟩
instance:Callable Tryz.prog 397:=⟨fun args w=>Tryz.call397 args w⟩
instance:Callable Tryz.prog 398:=⟨fun args w=>Tryz.call398 args w⟩
instance:Callable Tryz.prog 399:=⟨fun args w=>Tryz.call399 args w⟩
instance:Callable Tryz.prog 400:=⟨fun args w=>Tryz.call400 args w⟩
instance:Callable Tryz.prog 406:=⟨fun args w=>Tryz.call406 args w⟩
instance:Callable Tryz.prog 407:=⟨fun args w=>Tryz.call407 args w⟩
instance:Callable Tryz.prog 411:=⟨fun args w=>Tryz.call411 args w⟩
instance:Callable Tryz.prog 412:=⟨fun args w=>Tryz.call412 args w⟩
instance:Callable Tryz.prog 415:=⟨fun args w=>Tryz.call415 args w⟩
instance:Callable Tryz.prog 416:=⟨fun args w=>Tryz.call416 args w⟩
instance:Callable Tryz.prog 417:=⟨fun args w=>Tryz.call417 args w⟩
instance:Callable Tryz.prog 420:=⟨fun args w=>Tryz.call420 args w⟩
instance:Callable Tryz.prog 421:=⟨fun args w=>Tryz.call421 args w⟩
instance:Callable Tryz.prog 422:=⟨fun args w=>Tryz.call422 args w⟩
instance:Callable Tryz.prog 423:=⟨fun args w=>Tryz.call423 args w⟩
end Go.SL
namespace Go.SL
open Go Go.RowKit
def reaches (l:List Oper):Nat→Nat→Nat→Bool
 |0,j,k=>Nat.beq j k
 |f+1,j,k=>Nat.beq j k||match l[j]? with
  |none=>false
  |some x=>(waits x).any fun i=>reaches l f i k
theorem reaches_done {l:List Oper} {D:Done} (hc: ∀ i x,l[i]? =some x→D i=true→ ∀ j∈waits x,D j=true): ∀ (f j k:Nat),reaches l f j k=true→D j=true→D k=true
 |0,j,k,h,hj=>by
  have:=Nat.eq_of_beq_eq_true h
  subst this
  exact hj
 |f+1,j,k,h,hj=>by
  simp only [reaches,Bool.or_eq_true] at h
  rcases h with h|h
  ·
   have:=Nat.eq_of_beq_eq_true h
   subst this
   exact hj
  ·
   cases hx:l[j]? with
   |none=>rw [hx] at h;cases h
   |some x=>
    rw [hx] at h
    obtain ⟨i,hi,hr⟩:=List.any_eq_true.1 h
    exact reaches_done hc f i k hr (hc j x hx hj i hi)
section
variable {P:Program} {n:Fr} {w0:World} {Q:Post} {K:Slots→Prop} {s:Slots} {H H1:List Blk} {l rest:List Oper} {k j f:Nat} {ty:TypeId} {p:String} {af:Array Edge}
theorem Turn.late {o:Oper} {D:Done} (ht:Turn l k o D) (h:reaches l f j k=true):D j=false:=by
 cases hD:D j
 ·
  rfl
 ·
  have:=reaches_done ht.closed f j k h hD
  rw [ht.not] at this
  cases this
theorem w_drawL {id:Nat} (j:Nat) (H1:List Blk) (hm:P.follows .mixedOrders=true) (hB:Region.lexB .any l.toArray=true) (hj:Nat.blt j l.length=true)
  (h:WG P n w0 l (fun D=>if D j then H1 else H) (fun s' =>Q .normal s' H1) l 0 s):W P n w0 (.region id l.toArray true) Q s H:=by
 refine w_drawG (fun D=>if D j then H1 else H) hm hB (by simp only [Bool.false_eq_true,if_false];exact .refl _) fun a hs hl=> ?_
 have mono: ∀ (r:List Oper) (k:Nat) (a:Act) (K K' :Act→Prop),(∀ a,K a→K' a)→wpG P .any l.toArray (Cls w0 l fun D=>if D j then H1 else H) K r k a→wpG P .any l.toArray (Cls w0 l fun D=>if D j then H1 else H) K' r k a:=by
  intro r
  induction r with
  |nil=>intro k a K K' hk h;exact hk _ h
  |cons o r ih=>
   rintro k a K K' hk ⟨v,h1,h2⟩
   exact ⟨v,h1,ih _ _ K K' hk h2⟩
 refine mono _ _ _ _ _ ?_ (h a hs hl)
 rintro a' ⟨s',h2,h3⟩
 refine ⟨s',h2,fun D hD=> ?_⟩
 rw [if_pos (hD j (Nat.blt_eq ▸ hj))]
 exact h3
theorem wg_l {op:Op} {d:Nat} {v:Value} (hn:Nat.blt d n.sz=true) (hr:reaches l f j k=true) (hne:Nat.beq j k=false) (hv:VOp P w0 s H op ty v) (h:WG P n w0 l (fun D=>if D j then H1 else H) K rest (k+1) ((d,v)::s)):
  WG P n w0 l (fun D=>if D j then H1 else H) K (⟨some d,op,ty,p,af,none⟩::rest) k s:=by
 refine wg_v hn (fun D ht=> ?_) (fun D=> ?_) h
 ·
  rw [ht.late hr]
  exact hv
 ·
  have:put D k j=D j:=by
   unfold put
   rw [if_neg]
   intro e
   subst e
   rw [Nat.beq_refl] at hne
   cases hne
  simp only [this]
theorem wl_append_addr {d t e n' c m c' sz by_:Nat} {a2:Addr} {A:Option Nat} {x y:Operand} {xs news:List Value} {R:List Blk} {ops:Array Oper} [ht:Und P t (.slice e)] [he:Elem P e sz by_] (hn:Nat.blt d n.sz=true)
  (hx:ev s x=some (sl A n' c)) (hy:ev s y=some (.slice (some a2) m c')) (hsel:Sel (.own A e sz n' c xs) H R)
  (hnews: ∀ w,Mem w0 w H→ ∀ j u,news[j]? =some u→w.cell? (a2.add j)=some u) (hl:news.length=m*sz) (h1: ∀ u∈news,u.oneCell' =true) (hby:(n' +m)*by_≤140737488355328) (h63:n' +m≤maxLen)
  (k: ∀ A' cap',(0<n' +m→ ∃ g,A' =some g)→WL P n w0 ops rest Q ((d,sl A' (n' +m) cap')::s) (.own A' e sz (n' +m) cap' (xs++news)::R)):
  WL P n w0 ops (⟨some d,.call { callee:= .builtin .append,args:= #[x,y],argTypes:= #[t,t] },ty,p,af,none⟩::rest) Q s H:=by
 intro a w hs hm
 have hm' :=hm.sel hsel
 obtain ⟨i,z,i1,i2,i3,i4,i5,i6⟩:=he.out
 have hb:=(hm'.on _ List.mem_cons_self)
 have hown:w.ownsRow w0.heap.size e sz (sl A n' c) n' xs:=by
  obtain ⟨⟨b1,b2,b3,b4⟩,b5⟩:=hb
  refine ⟨b1,?_⟩
  cases A with
  |none=>obtain ⟨rfl,rfl⟩:=b4;exact .inl ⟨rfl,rfl⟩
  |some g=>
   obtain ⟨junk,j1,j2⟩:=b4
   refine .inr ⟨g,c,_,rfl,b5 g rfl,j2,b2,b3,by simpa using j1,?_⟩
   simp only [List.toList_toArray]
   rw [← b1,List.take_left]
 obtain ⟨v',w',hr,h2,h3,h4,h5⟩:=run_append_own_at (P:=P) w w0.heap.size t ty e i z sz by_ ht.out i1 i4 i2 i3 i5 i6 (sl A n' c) n' xs hown a2 m c' news hl
  (hnews w hm) h1 h63 hby hm.below.size
 have hsh: ∃ A' cap',v' =sl A' (n' +m) cap' ∧(Blk.own A' e sz (n' +m) cap' (xs++news)).on w' ∧(0<n' +m→ ∃ g,A' =some g):=by
  obtain ⟨q1,q2⟩:=h2
  rcases q2 with ⟨rfl,q3⟩|⟨g,cap,cur,rfl,_,q4,q5,q6,q7,q8⟩
  ·
   refine ⟨none,0,by rw [q3];rfl,⟨q1,by omega,Nat.zero_le _,q3,rfl⟩,fun h=>by omega⟩
  ·
   refine ⟨some g,cap,rfl,⟨q1,q5,q6,cur.toList.drop ((n' +m)*sz),?_,?_⟩,fun _=>⟨g,rfl⟩⟩
   ·
    rw [← q8,List.take_append_drop];simpa using q7
   ·
    rw [← q8,List.take_append_drop];simpa using q4
 obtain ⟨A',cap',rfl,hon,hsome⟩:=hsh
 refine wpList_plain rfl fun K hK=> ?_
 unfold Oper.wp execOp
 simp only [resolve,invoke,builtin,Sem.run_bind,Sem.run_pure,Result.andThen_ok,List.map_toArray,List.map_cons,List.map_nil,hs.eval x _ hx,hs.eval y _ hy,hr,Oper.upon]
 have hkey: ∀ (B:Option Nat) (q r:Nat),(sl B q r).ownBlock=B:=fun B q r=>by cases B<;>rfl
 rw [hkey] at h3
 refine hK _ _ (k A' cap' hsome _ _ (hs.put (Nat.blt_eq ▸ hn) _) (hm'.upd h3 hon fun j hj=> ?_))
 rw [hkey,hkey] at h5
 simp only [Blk.key] at hj ⊢
 rcases h5 with h5|h5
 ·
  left;rw [← h5];exact hj
 ·
  right;rw [h5] at hj;injection hj with hj;omega
theorem run_append_none (w:World) (t ty e:TypeId) (i:TypeInfo) (ht:P.underlying t=some (.slice e)) (hi:P.info? e=some i) (B:Option Addr) (m c c' :Nat) (h:m≤c):
  (Builtin.append_ #[t,t] ty #[.slice B m c,.slice none 0 c']).run P w= .ok (.slice B m c) w:=by
 cases B<;>simp [Builtin.append_,run_underlying ht,sizeOf,typeInfo,hi,Builtin.lenOf,Builtin.firstCells,h,storeCells]
theorem wl_appendR {d t e n' c m sz by_:Nat} {A:Option Nat} {x y:Operand} {yv:Value} {xs news:List Value} {R:List Blk} {ops:Array Oper} [ht:Und P t (.slice e)] [he:Elem P e sz by_] (hn:Nat.blt d n.sz=true)
  (hx:ev s x=some (sl A n' c)) (hy:ev s y=some yv) (hsel:Sel (.own A e sz n' c xs) H R)
  (hnews: ∀ w,Mem w0 w H→Reads w yv m news) (hl:news.length=m*sz) (h1: ∀ u∈news,u.oneCell' =true) (hby:(n' +m)*by_≤140737488355328) (h63:n' +m≤maxLen)
  (k: ∀ A' cap',(0<m→ ∃ g,A' =some g)→WL P n w0 ops rest Q ((d,sl A' (n' +m) cap')::s) (.own A' e sz (n' +m) cap' (xs++news)::R)):
  WL P n w0 ops (⟨some d,.call { callee:= .builtin .append,args:= #[x,y],argTypes:= #[t,t] },ty,p,af,none⟩::rest) Q s H:=by
 intro a w hs hm
 have hm' :=hm.sel hsel
 have hb:=(hm'.on _ List.mem_cons_self).1
 obtain ⟨B,c',rfl,h2,h3,h4⟩:=hnews w hm
 by_cases h0:m=0
 ·
  subst h0
  have hnil:news= []:=List.eq_nil_of_length_eq_zero (by simpa using hl)
  subst hnil
  cases B with
  |some a2=>exact wl_append_addr hn hx hy hsel (fun w hm j u hu=>by simp at hu) hl h1 hby h63 (fun A' cap' hA=>k A' cap' (fun h=>by omega)) a w hs hm
  |none=>
   obtain ⟨i,z,i1,i2,i3,i4,i5,i6⟩:=he.out
   have hr:=run_append_none (P:=P) w t ty e i ht.out i1 (A.map fun g=>⟨g,0,none⟩) n' c c' hb.2.1
   refine wpList_plain rfl fun K hK=> ?_
   unfold Oper.wp execOp
   simp only [resolve,invoke,builtin,Sem.run_bind,Sem.run_pure,Result.andThen_ok,List.map_toArray,List.map_cons,List.map_nil,hs.eval x _ hx,hs.eval y _ hy,sl,hr,Oper.upon]
   refine hK _ _ (k A c (fun h=>by omega) _ _ (hs.put (Nat.blt_eq ▸ hn) _) ?_)
   simpa using hm'
 ·
  obtain ⟨g,o,rfl,hro⟩:=h4 (by omega)
  exact wl_append hn hx hy hsel (fun w' hm2=>by
   obtain ⟨B,c'',e1,e2,e3,e4⟩:=hnews w' hm2
   obtain ⟨g',o',e5,hro'⟩:=e4 (by omega)
   injection e1 with e1 e1' e1''
   subst e1
   injection e5 with e5
   injection e5 with e5 e6
   subst e5;subst e6
   exact hro'.cells) hl h1 hby h63 (fun A' cap' hA=>k A' cap' (fun h=>hA (by omega))) a w hs hm
end
theorem v_cut_str {P:Program} {w0:World} {s:Slots} {H:List Blk} {ty t hi:Nat} {a:ByteArray} {x q:Operand} {k:IntKind} [ht:Und P t .string] (hx:ev s x=some (.string a)) (hq:ev s q=some (.int k (hi:Nat))) (h2:hi≤a.size):
  VOp P w0 s H (.slice t x none (some q) none) ty (.string (a.extract 0 hi)):=fun ρ w _ _ _ _ hρ _=>by
 have e2:((hi:Nat):Int)≤((a.size:Nat):Int):=by omega
 simp [execOp,hρ x _ hx,hρ q _ hq,Instr.sliceAt,run_underlying ht.out,Instr.slice,Instr.sliceBounds,Instr.sliceBound,asIntOf,h2]
end Go.SL
