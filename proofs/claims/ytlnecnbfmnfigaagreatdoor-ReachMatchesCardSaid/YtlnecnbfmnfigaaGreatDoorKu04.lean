/-
  Lemmas and walks, put together: Ty.
-/
import Derived.Test.YtlnecnbfmnfigaaGreatDoorChecked
import Derived.Test.YtlnecnbfmnfigaaGreatDoorKu03
set_option linter.unusedSimpArgs false
set_option linter.unusedVariables false
set_option maxRecDepth 20000
namespace Go.SL
open Go Go.Proofs
theorem ai {P:Program} {t:Nat} {i:TypeInfo} (h:P.toTables.types[t]? =some i):P.info? t=some i:=by
 have hl:=(PL.1 h).1
 simp only [Tables.info?,hl,if_true]
 exact h
instance:Und Tryz.prog 2 (TypeDesc.int IntKind.i64):=⟨Tryz.underlying2⟩
instance:Size Tryz.prog 2 1:=⟨_,ai Tryz.type2,rfl⟩
instance:One Tryz.prog 2:=⟨_,Tryz.underlying2,rfl⟩
instance:Elem Tryz.prog 2 1 8:=⟨_,_,ai Tryz.type2,rfl,rfl,rfl,rfl,by decide⟩
instance:Und Tryz.prog 3 (TypeDesc.int IntKind.i64):=⟨Tryz.underlying3⟩
instance:Size Tryz.prog 3 1:=⟨_,ai Tryz.type3,rfl⟩
instance:One Tryz.prog 3:=⟨_,Tryz.underlying3,rfl⟩
instance:Zero Tryz.prog 3 (Value.int IntKind.i64 0):=⟨_,ai Tryz.type3,rfl⟩
instance:ZeroC Tryz.prog 3 ([Value.int IntKind.i64 0]):=⟨_,_,ai Tryz.type3,rfl,rfl⟩
instance:Elem Tryz.prog 3 1 8:=⟨_,_,ai Tryz.type3,rfl,rfl,rfl,rfl,by decide⟩
instance:Und Tryz.prog 4 (TypeDesc.bool):=⟨Tryz.underlying4⟩
instance:Size Tryz.prog 4 1:=⟨_,ai Tryz.type4,rfl⟩
instance:One Tryz.prog 4:=⟨_,Tryz.underlying4,rfl⟩
instance:Zero Tryz.prog 4 (Value.bool false):=⟨_,ai Tryz.type4,rfl⟩
instance:ZeroC Tryz.prog 4 ([Value.bool false]):=⟨_,_,ai Tryz.type4,rfl,rfl⟩
instance:Elem Tryz.prog 4 1 1:=⟨_,_,ai Tryz.type4,rfl,rfl,rfl,rfl,by decide⟩
instance:Und Tryz.prog 5 (TypeDesc.int IntKind.u8):=⟨Tryz.underlying5⟩
instance:Size Tryz.prog 5 1:=⟨_,ai Tryz.type5,rfl⟩
instance:One Tryz.prog 5:=⟨_,Tryz.underlying5,rfl⟩
instance:Elem Tryz.prog 5 1 1:=⟨_,_,ai Tryz.type5,rfl,rfl,rfl,rfl,by decide⟩
instance:Und Tryz.prog 9 (TypeDesc.string):=⟨Tryz.underlying9⟩
instance:Size Tryz.prog 9 1:=⟨_,ai Tryz.type9,rfl⟩
instance:One Tryz.prog 9:=⟨_,Tryz.underlying9,rfl⟩
instance:Elem Tryz.prog 9 1 16:=⟨_,_,ai Tryz.type9,rfl,rfl,rfl,rfl,by decide⟩
instance:Und Tryz.prog 20 (TypeDesc.interface #[]):=⟨Tryz.underlying20⟩
instance:Und Tryz.prog 22 (TypeDesc.slice 114):=⟨Tryz.underlying22⟩
instance:Size Tryz.prog 24 2:=⟨_,ai Tryz.type24,rfl⟩
instance:Agg Tryz.prog 24 2:=⟨_,_,Tryz.underlying24,rfl,ai Tryz.type24,rfl⟩
instance:ZeroC Tryz.prog 24 ([Value.int IntKind.i64 0,Value.int IntKind.i64 0]):=⟨_,_,ai Tryz.type24,rfl,rfl⟩
instance:Elem Tryz.prog 24 2 16:=⟨_,_,ai Tryz.type24,rfl,rfl,rfl,rfl,by decide⟩
instance:Struct Tryz.prog 24 [(0,1),(1,1)] ([Value.int IntKind.i64 0,Value.int IntKind.i64 0]):=⟨_,_,_,ai Tryz.type24,Tryz.underlying24,rfl,by simp only [P0,P6,ai Tryz.type3];rfl,rfl⟩
instance:Fld Tryz.prog 24 0 0:=⟨_,_,_,Tryz.underlying24,rfl,rfl,ai Tryz.type3,by decide⟩
instance:Fld Tryz.prog 24 1 1:=⟨_,_,_,Tryz.underlying24,rfl,rfl,ai Tryz.type3,by decide⟩
instance:Und Tryz.prog 25 (TypeDesc.slice 53):=⟨Tryz.underlying25⟩
instance:Size Tryz.prog 25 1:=⟨_,ai Tryz.type25,rfl⟩
instance:One Tryz.prog 25:=⟨_,Tryz.underlying25,rfl⟩
instance:ZeroC Tryz.prog 25 ([Value.slice none 0 0]):=⟨_,_,ai Tryz.type25,rfl,rfl⟩
instance:Und Tryz.prog 26 (TypeDesc.pointer 165):=⟨Tryz.underlying26⟩
instance:One Tryz.prog 26:=⟨_,Tryz.underlying26,rfl⟩
instance:Und Tryz.prog 27 (TypeDesc.pointer 138):=⟨Tryz.underlying27⟩
instance:One Tryz.prog 27:=⟨_,Tryz.underlying27,rfl⟩
instance:Size Tryz.prog 29 2:=⟨_,ai Tryz.type29,rfl⟩
instance:Agg Tryz.prog 29 2:=⟨_,_,Tryz.underlying29,rfl,ai Tryz.type29,rfl⟩
instance:ZeroC Tryz.prog 29 ([Value.pointer none,Value.pointer none]):=⟨_,_,ai Tryz.type29,rfl,rfl⟩
instance:Struct Tryz.prog 29 [(0,1),(1,1)] ([Value.pointer none,Value.pointer none]):=⟨_,_,_,ai Tryz.type29,Tryz.underlying29,rfl,by simp only [P0,P6,ai Tryz.type26,ai Tryz.type27];rfl,rfl⟩
instance:Fld Tryz.prog 29 0 0:=⟨_,_,_,Tryz.underlying29,rfl,rfl,ai Tryz.type26,by decide⟩
instance:Fld Tryz.prog 29 1 1:=⟨_,_,_,Tryz.underlying29,rfl,rfl,ai Tryz.type27,by decide⟩
instance:Und Tryz.prog 32 (TypeDesc.slice 24):=⟨Tryz.underlying32⟩
instance:Size Tryz.prog 32 1:=⟨_,ai Tryz.type32,rfl⟩
instance:One Tryz.prog 32:=⟨_,Tryz.underlying32,rfl⟩
instance:ZeroC Tryz.prog 32 ([Value.slice none 0 0]):=⟨_,_,ai Tryz.type32,rfl,rfl⟩
instance:Size Tryz.prog 33 1:=⟨_,ai Tryz.type33,rfl⟩
instance:One Tryz.prog 33:=⟨_,Tryz.underlying33,rfl⟩
instance:ZeroC Tryz.prog 33 ([Value.int IntKind.i64 0]):=⟨_,_,ai Tryz.type33,rfl,rfl⟩
instance:Size Tryz.prog 53 4:=⟨_,ai Tryz.type53,rfl⟩
instance:Agg Tryz.prog 53 4:=⟨_,_,Tryz.underlying53,rfl,ai Tryz.type53,rfl⟩
instance:Zero Tryz.prog 53 (Value.agg #[Value.int IntKind.i64 0,Value.int IntKind.i64 0,Value.int IntKind.i64 0,Value.int IntKind.i64 0]):=⟨_,ai Tryz.type53,rfl⟩
instance:ZeroC Tryz.prog 53 ([Value.int IntKind.i64 0,Value.int IntKind.i64 0,Value.int IntKind.i64 0,Value.int IntKind.i64 0]):=⟨_,_,ai Tryz.type53,rfl,rfl⟩
instance:Elem Tryz.prog 53 4 32:=⟨_,_,ai Tryz.type53,rfl,rfl,rfl,rfl,by decide⟩
instance:Struct Tryz.prog 53 [(0,1),(1,1),(2,1),(3,1)] ([Value.int IntKind.i64 0,Value.int IntKind.i64 0,Value.int IntKind.i64 0,Value.int IntKind.i64 0]):=⟨_,_,_,ai Tryz.type53,Tryz.underlying53,rfl,by simp only [P0,P6,ai Tryz.type3];rfl,rfl⟩
instance:Fld Tryz.prog 53 0 0:=⟨_,_,_,Tryz.underlying53,rfl,rfl,ai Tryz.type3,by decide⟩
instance:Fld Tryz.prog 53 1 1:=⟨_,_,_,Tryz.underlying53,rfl,rfl,ai Tryz.type3,by decide⟩
instance:Fld Tryz.prog 53 2 2:=⟨_,_,_,Tryz.underlying53,rfl,rfl,ai Tryz.type3,by decide⟩
instance:Fld Tryz.prog 53 3 3:=⟨_,_,_,Tryz.underlying53,rfl,rfl,ai Tryz.type3,by decide⟩
instance:Und Tryz.prog 56 (TypeDesc.slice 73):=⟨Tryz.underlying56⟩
instance:Und Tryz.prog 62 (TypeDesc.int IntKind.u64):=⟨Tryz.underlying62⟩
instance:One Tryz.prog 62:=⟨_,Tryz.underlying62,rfl⟩
instance:Und Tryz.prog 69 (TypeDesc.slice 157):=⟨Tryz.underlying69⟩
instance:Size Tryz.prog 69 1:=⟨_,ai Tryz.type69,rfl⟩
instance:One Tryz.prog 69:=⟨_,Tryz.underlying69,rfl⟩
instance:ZeroC Tryz.prog 69 ([Value.slice none 0 0]):=⟨_,_,ai Tryz.type69,rfl,rfl⟩
instance:Size Tryz.prog 73 3:=⟨_,ai Tryz.type73,rfl⟩
instance:Agg Tryz.prog 73 3:=⟨_,_,Tryz.underlying73,rfl,ai Tryz.type73,rfl⟩
instance:ZeroC Tryz.prog 73 ([Value.int IntKind.i64 0,Value.int IntKind.i64 0,Value.string { data:= #[] }]):=⟨_,_,ai Tryz.type73,rfl,rfl⟩
instance:Elem Tryz.prog 73 3 32:=⟨_,_,ai Tryz.type73,rfl,rfl,rfl,rfl,by decide⟩
instance:Struct Tryz.prog 73 [(0,2),(2,1)] ([Value.int IntKind.i64 0,Value.int IntKind.i64 0,Value.string { data:= #[] }]):=⟨_,_,_,ai Tryz.type73,Tryz.underlying73,rfl,by simp only [P0,P6,ai Tryz.type24,ai Tryz.type9];rfl,rfl⟩
instance:Fld Tryz.prog 73 0 0:=⟨_,_,_,Tryz.underlying73,rfl,rfl,ai Tryz.type24,by decide⟩
instance:Fld Tryz.prog 73 1 2:=⟨_,_,_,Tryz.underlying73,rfl,rfl,ai Tryz.type9,by decide⟩
instance:Und Tryz.prog 74 (TypeDesc.slice 9):=⟨Tryz.underlying74⟩
instance:Und Tryz.prog 86 (TypeDesc.slice 89):=⟨Tryz.underlying86⟩
instance:Size Tryz.prog 86 1:=⟨_,ai Tryz.type86,rfl⟩
instance:One Tryz.prog 86:=⟨_,Tryz.underlying86,rfl⟩
instance:ZeroC Tryz.prog 86 ([Value.slice none 0 0]):=⟨_,_,ai Tryz.type86,rfl,rfl⟩
instance:Size Tryz.prog 89 6:=⟨_,ai Tryz.type89,rfl⟩
instance:Agg Tryz.prog 89 6:=⟨_,_,Tryz.underlying89,rfl,ai Tryz.type89,rfl⟩
instance:ZeroC Tryz.prog 89 ([Value.int IntKind.i64 0,Value.int IntKind.i64 0,Value.int IntKind.i64 0,Value.int IntKind.i64 0,Value.int IntKind.i64 0,Value.int IntKind.u8 0]):=⟨_,_,ai Tryz.type89,rfl,rfl⟩
instance:Elem Tryz.prog 89 6 48:=⟨_,_,ai Tryz.type89,rfl,rfl,rfl,rfl,by decide⟩
instance:Struct Tryz.prog 89 [(0,4),(4,1),(5,1)] ([Value.int IntKind.i64 0,Value.int IntKind.i64 0,Value.int IntKind.i64 0,Value.int IntKind.i64 0,Value.int IntKind.i64 0,Value.int IntKind.u8 0]):=⟨_,_,_,ai Tryz.type89,Tryz.underlying89,rfl,by simp only [P0,P6,ai Tryz.type3,ai Tryz.type5,ai Tryz.type53];rfl,rfl⟩
instance:Fld Tryz.prog 89 0 0:=⟨_,_,_,Tryz.underlying89,rfl,rfl,ai Tryz.type53,by decide⟩
instance:Fld Tryz.prog 89 1 4:=⟨_,_,_,Tryz.underlying89,rfl,rfl,ai Tryz.type3,by decide⟩
instance:Fld Tryz.prog 89 2 5:=⟨_,_,_,Tryz.underlying89,rfl,rfl,ai Tryz.type5,by decide⟩
instance:Und Tryz.prog 91 (TypeDesc.slice 3):=⟨Tryz.underlying91⟩
instance:Size Tryz.prog 114 3:=⟨_,ai Tryz.type114,rfl⟩
instance:Agg Tryz.prog 114 3:=⟨_,_,Tryz.underlying114,rfl,ai Tryz.type114,rfl⟩
instance:Fld Tryz.prog 114 0 0:=⟨_,_,_,Tryz.underlying114,rfl,rfl,ai Tryz.type3,by decide⟩
instance:Fld Tryz.prog 114 1 1:=⟨_,_,_,Tryz.underlying114,rfl,rfl,ai Tryz.type3,by decide⟩
instance:Fld Tryz.prog 114 2 2:=⟨_,_,_,Tryz.underlying114,rfl,rfl,ai Tryz.type9,by decide⟩
instance:Und Tryz.prog 117 (TypeDesc.map 24 4):=⟨Tryz.underlying117⟩
instance:Size Tryz.prog 117 1:=⟨_,ai Tryz.type117,rfl⟩
instance:One Tryz.prog 117:=⟨_,Tryz.underlying117,rfl⟩
instance:ZeroC Tryz.prog 117 ([Value.map none]):=⟨_,_,ai Tryz.type117,rfl,rfl⟩
instance:Und Tryz.prog 124 (TypeDesc.slice 4):=⟨Tryz.underlying124⟩
instance:Size Tryz.prog 124 1:=⟨_,ai Tryz.type124,rfl⟩
instance:One Tryz.prog 124:=⟨_,Tryz.underlying124,rfl⟩
instance:Elem Tryz.prog 124 1 24:=⟨_,_,ai Tryz.type124,rfl,rfl,rfl,rfl,by decide⟩
instance:Und Tryz.prog 128 (TypeDesc.slice 124):=⟨Tryz.underlying128⟩
instance:Size Tryz.prog 135 4:=⟨_,ai Tryz.type135,rfl⟩
instance:Agg Tryz.prog 135 4:=⟨_,_,Tryz.underlying135,rfl,ai Tryz.type135,rfl⟩
instance:Elem Tryz.prog 135 4 64:=⟨_,_,ai Tryz.type135,rfl,rfl,rfl,rfl,by decide⟩
instance:Struct Tryz.prog 135 [(0,2),(2,1),(3,1)] ([Value.int IntKind.i64 0,Value.int IntKind.i64 0,Value.slice none 0 0,Value.slice none 0 0]):=⟨_,_,_,ai Tryz.type135,Tryz.underlying135,rfl,by simp only [P0,P6,ai Tryz.type24,ai Tryz.type69,ai Tryz.type86];rfl,rfl⟩
instance:Fld Tryz.prog 135 0 0:=⟨_,_,_,Tryz.underlying135,rfl,rfl,ai Tryz.type24,by decide⟩
instance:Fld Tryz.prog 135 1 2:=⟨_,_,_,Tryz.underlying135,rfl,rfl,ai Tryz.type69,by decide⟩
instance:Fld Tryz.prog 135 2 3:=⟨_,_,_,Tryz.underlying135,rfl,rfl,ai Tryz.type86,by decide⟩
instance:Und Tryz.prog 136 (TypeDesc.slice 135):=⟨Tryz.underlying136⟩
instance:Size Tryz.prog 136 1:=⟨_,ai Tryz.type136,rfl⟩
instance:One Tryz.prog 136:=⟨_,Tryz.underlying136,rfl⟩
instance:Struct Tryz.prog 138 [(0,1)] ([Value.slice none 0 0]):=⟨_,_,_,ai Tryz.type138,Tryz.underlying138,rfl,by simp only [P0,P6,ai Tryz.type136];rfl,rfl⟩
instance:Fld Tryz.prog 138 0 0:=⟨_,_,_,Tryz.underlying138,rfl,rfl,ai Tryz.type136,by decide⟩
instance:Und Tryz.prog 143 (TypeDesc.map 24 3):=⟨Tryz.underlying143⟩
instance:Und Tryz.prog 148 (TypeDesc.slice 151):=⟨Tryz.underlying148⟩
instance:Und Tryz.prog 151 (TypeDesc.array 2 24):=⟨Tryz.underlying151⟩
instance:Size Tryz.prog 151 4:=⟨_,ai Tryz.type151,rfl⟩
instance:Agg Tryz.prog 151 4:=⟨_,_,Tryz.underlying151,rfl,ai Tryz.type151,rfl⟩
instance:ZeroC Tryz.prog 151 ([Value.int IntKind.i64 0,Value.int IntKind.i64 0,Value.int IntKind.i64 0,Value.int IntKind.i64 0]):=⟨_,_,ai Tryz.type151,rfl,rfl⟩
instance:Elem Tryz.prog 151 4 32:=⟨_,_,ai Tryz.type151,rfl,rfl,rfl,rfl,by decide⟩
instance:Size Tryz.prog 155 3:=⟨_,ai Tryz.type155,rfl⟩
instance:Agg Tryz.prog 155 3:=⟨_,_,Tryz.underlying155,rfl,ai Tryz.type155,rfl⟩
instance:ZeroC Tryz.prog 155 ([Value.int IntKind.u8 0,Value.int IntKind.i64 0,Value.string { data:= #[] }]):=⟨_,_,ai Tryz.type155,rfl,rfl⟩
instance:Struct Tryz.prog 155 [(0,1),(1,1),(2,1)] ([Value.int IntKind.u8 0,Value.int IntKind.i64 0,Value.string { data:= #[] }]):=⟨_,_,_,ai Tryz.type155,Tryz.underlying155,rfl,by simp only [P0,P6,ai Tryz.type2,ai Tryz.type5,ai Tryz.type9];rfl,rfl⟩
instance:Fld Tryz.prog 155 0 0:=⟨_,_,_,Tryz.underlying155,rfl,rfl,ai Tryz.type5,by decide⟩
instance:Fld Tryz.prog 155 1 1:=⟨_,_,_,Tryz.underlying155,rfl,rfl,ai Tryz.type2,by decide⟩
instance:Fld Tryz.prog 155 2 2:=⟨_,_,_,Tryz.underlying155,rfl,rfl,ai Tryz.type9,by decide⟩
instance:Size Tryz.prog 157 11:=⟨_,ai Tryz.type157,rfl⟩
instance:Agg Tryz.prog 157 11:=⟨_,_,Tryz.underlying157,rfl,ai Tryz.type157,rfl⟩
instance:ZeroC Tryz.prog 157 ([Value.int IntKind.u8 0,Value.int IntKind.u8 0,Value.int IntKind.i64 0,Value.string { data:= #[] },Value.int IntKind.i64 0,Value.int IntKind.i64 0,Value.int IntKind.i64 0,Value.int IntKind.i64 0,Value.int IntKind.i64 0,Value.int IntKind.u8 0,Value.int IntKind.i64 0]):=⟨_,_,ai Tryz.type157,rfl,rfl⟩
instance:Elem Tryz.prog 157 11 96:=⟨_,_,ai Tryz.type157,rfl,rfl,rfl,rfl,by decide⟩
instance:Struct Tryz.prog 157 [(0,1),(1,3),(4,4),(8,1),(9,1),(10,1)] ([Value.int IntKind.u8 0,Value.int IntKind.u8 0,Value.int IntKind.i64 0,Value.string { data:= #[] },Value.int IntKind.i64 0,Value.int IntKind.i64 0,Value.int IntKind.i64 0,Value.int IntKind.i64 0,Value.int IntKind.i64 0,Value.int IntKind.u8 0,Value.int IntKind.i64 0]):=⟨_,_,_,ai Tryz.type157,Tryz.underlying157,rfl,by simp only [P0,P6,ai Tryz.type155,ai Tryz.type2,ai Tryz.type3,ai Tryz.type5,ai Tryz.type53];rfl,rfl⟩
instance:Fld Tryz.prog 157 0 0:=⟨_,_,_,Tryz.underlying157,rfl,rfl,ai Tryz.type5,by decide⟩
instance:Fld Tryz.prog 157 1 1:=⟨_,_,_,Tryz.underlying157,rfl,rfl,ai Tryz.type155,by decide⟩
instance:Fld Tryz.prog 157 2 4:=⟨_,_,_,Tryz.underlying157,rfl,rfl,ai Tryz.type53,by decide⟩
instance:Fld Tryz.prog 157 3 8:=⟨_,_,_,Tryz.underlying157,rfl,rfl,ai Tryz.type2,by decide⟩
instance:Fld Tryz.prog 157 4 9:=⟨_,_,_,Tryz.underlying157,rfl,rfl,ai Tryz.type5,by decide⟩
instance:Fld Tryz.prog 157 5 10:=⟨_,_,_,Tryz.underlying157,rfl,rfl,ai Tryz.type3,by decide⟩
instance:Und Tryz.prog 163 (TypeDesc.map 24 180):=⟨Tryz.underlying163⟩
instance:One Tryz.prog 163:=⟨_,Tryz.underlying163,rfl⟩
instance:Struct Tryz.prog 165 [(0,1)] ([Value.map none]):=⟨_,_,_,ai Tryz.type165,Tryz.underlying165,rfl,by simp only [P0,P6,ai Tryz.type163];rfl,rfl⟩
instance:Fld Tryz.prog 165 0 0:=⟨_,_,_,Tryz.underlying165,rfl,rfl,ai Tryz.type163,by decide⟩
instance:Size Tryz.prog 180 2:=⟨_,ai Tryz.type180,rfl⟩
instance:Zero Tryz.prog 180 (Value.agg #[Value.slice none 0 0,Value.slice none 0 0]):=⟨_,ai Tryz.type180,rfl⟩
instance:ZeroC Tryz.prog 180 ([Value.slice none 0 0,Value.slice none 0 0]):=⟨_,_,ai Tryz.type180,rfl,rfl⟩
instance:Struct Tryz.prog 180 [(0,1),(1,1)] ([Value.slice none 0 0,Value.slice none 0 0]):=⟨_,_,_,ai Tryz.type180,Tryz.underlying180,rfl,by simp only [P0,P6,ai Tryz.type69,ai Tryz.type86];rfl,rfl⟩
instance:Fld Tryz.prog 180 0 0:=⟨_,_,_,Tryz.underlying180,rfl,rfl,ai Tryz.type69,by decide⟩
instance:Und Tryz.prog 198 (TypeDesc.array 2 3):=⟨Tryz.underlying198⟩
instance:Size Tryz.prog 204 5:=⟨_,ai Tryz.type204,rfl⟩
instance:Agg Tryz.prog 204 5:=⟨_,_,Tryz.underlying204,rfl,ai Tryz.type204,rfl⟩
instance:ZeroC Tryz.prog 204 ([Value.bool false,Value.int IntKind.u8 0,Value.int IntKind.i64 0,Value.string { data:= #[] },Value.slice none 0 0]):=⟨_,_,ai Tryz.type204,rfl,rfl⟩
instance:Struct Tryz.prog 204 [(0,1),(1,3),(4,1)] ([Value.bool false,Value.int IntKind.u8 0,Value.int IntKind.i64 0,Value.string { data:= #[] },Value.slice none 0 0]):=⟨_,_,_,ai Tryz.type204,Tryz.underlying204,rfl,by simp only [P0,P6,ai Tryz.type155,ai Tryz.type4,ai Tryz.type69];rfl,rfl⟩
instance:Fld Tryz.prog 204 0 0:=⟨_,_,_,Tryz.underlying204,rfl,rfl,ai Tryz.type4,by decide⟩
instance:Fld Tryz.prog 204 2 4:=⟨_,_,_,Tryz.underlying204,rfl,rfl,ai Tryz.type69,by decide⟩
instance:Size Tryz.prog 275 1:=⟨_,ai Tryz.type275,rfl⟩
instance:One Tryz.prog 275:=⟨_,Tryz.underlying275,rfl⟩
instance:Elem Tryz.prog 275 1 8:=⟨_,_,ai Tryz.type275,rfl,rfl,rfl,rfl,by decide⟩
instance:Und Tryz.prog 280 (TypeDesc.slice 275):=⟨Tryz.underlying280⟩
instance:Und Tryz.prog 282 (TypeDesc.slice 291):=⟨Tryz.underlying282⟩
instance:Size Tryz.prog 282 1:=⟨_,ai Tryz.type282,rfl⟩
instance:One Tryz.prog 282:=⟨_,Tryz.underlying282,rfl⟩
instance:Und Tryz.prog 286 (TypeDesc.struct #[{ name:= "at",type:=3,offset:=0,embedded:=false,tag:= "",pkgPath:= "louvre/parse",byteOffset:=0 },{ name:= "e",type:=33,offset:=1,embedded:=false,tag:= "",pkgPath:= "louvre/parse",byteOffset:=8 }]):=⟨Tryz.underlying286⟩
instance:Size Tryz.prog 286 2:=⟨_,ai Tryz.type286,rfl⟩
instance:ZeroC Tryz.prog 286 ([Value.int IntKind.i64 0,Value.int IntKind.i64 0]):=⟨_,_,ai Tryz.type286,rfl,rfl⟩
instance:Struct Tryz.prog 286 [(0,1),(1,1)] ([Value.int IntKind.i64 0,Value.int IntKind.i64 0]):=⟨_,_,_,ai Tryz.type286,Tryz.underlying286,rfl,by simp only [P0,P6,ai Tryz.type3,ai Tryz.type33];rfl,rfl⟩
instance:Fld Tryz.prog 286 0 0:=⟨_,_,_,Tryz.underlying286,rfl,rfl,ai Tryz.type3,by decide⟩
instance:Fld Tryz.prog 286 1 1:=⟨_,_,_,Tryz.underlying286,rfl,rfl,ai Tryz.type33,by decide⟩
instance:One Tryz.prog 287:=⟨_,Tryz.underlying287,rfl⟩
instance:Struct Tryz.prog 289 [(0,1),(1,1),(2,1)] ([Value.slice none 0 0,Value.int IntKind.i64 0,Value.slice none 0 0]):=⟨_,_,_,ai Tryz.type289,Tryz.underlying289,rfl,by simp only [P0,P6,ai Tryz.type282,ai Tryz.type3,ai Tryz.type69];rfl,rfl⟩
instance:Fld Tryz.prog 289 0 0:=⟨_,_,_,Tryz.underlying289,rfl,rfl,ai Tryz.type282,by decide⟩
instance:Fld Tryz.prog 289 1 1:=⟨_,_,_,Tryz.underlying289,rfl,rfl,ai Tryz.type3,by decide⟩
instance:Fld Tryz.prog 289 2 2:=⟨_,_,_,Tryz.underlying289,rfl,rfl,ai Tryz.type69,by decide⟩
instance:Size Tryz.prog 291 8:=⟨_,ai Tryz.type291,rfl⟩
instance:Agg Tryz.prog 291 8:=⟨_,_,Tryz.underlying291,rfl,ai Tryz.type291,rfl⟩
instance:ZeroC Tryz.prog 291 ([Value.int IntKind.u8 0,Value.int IntKind.i64 0,Value.string { data:= #[] },Value.int IntKind.i64 0,Value.int IntKind.i64 0,Value.int IntKind.i64 0,Value.int IntKind.i64 0,Value.int IntKind.i64 0]):=⟨_,_,ai Tryz.type291,rfl,rfl⟩
instance:Elem Tryz.prog 291 8 72:=⟨_,_,ai Tryz.type291,rfl,rfl,rfl,rfl,by decide⟩
instance:Struct Tryz.prog 291 [(0,1),(1,1),(2,1),(3,4),(7,1)] ([Value.int IntKind.u8 0,Value.int IntKind.i64 0,Value.string { data:= #[] },Value.int IntKind.i64 0,Value.int IntKind.i64 0,Value.int IntKind.i64 0,Value.int IntKind.i64 0,Value.int IntKind.i64 0]):=⟨_,_,_,ai Tryz.type291,Tryz.underlying291,rfl,by simp only [P0,P6,ai Tryz.type2,ai Tryz.type3,ai Tryz.type5,ai Tryz.type53,ai Tryz.type9];rfl,rfl⟩
instance:Fld Tryz.prog 291 0 0:=⟨_,_,_,Tryz.underlying291,rfl,rfl,ai Tryz.type5,by decide⟩
instance:Fld Tryz.prog 291 1 1:=⟨_,_,_,Tryz.underlying291,rfl,rfl,ai Tryz.type2,by decide⟩
instance:Fld Tryz.prog 291 2 2:=⟨_,_,_,Tryz.underlying291,rfl,rfl,ai Tryz.type9,by decide⟩
instance:Fld Tryz.prog 291 3 3:=⟨_,_,_,Tryz.underlying291,rfl,rfl,ai Tryz.type53,by decide⟩
instance:Fld Tryz.prog 291 4 7:=⟨_,_,_,Tryz.underlying291,rfl,rfl,ai Tryz.type3,by decide⟩
instance:Struct Tryz.prog 301 [(0,1),(1,1),(2,1),(3,1),(4,1),(5,1)] ([Value.string { data:= #[] },Value.slice none 0 0,Value.int IntKind.i64 0,Value.slice none 0 0,Value.int IntKind.i64 0,Value.int IntKind.i64 0]):=⟨_,_,_,ai Tryz.type301,Tryz.underlying301,rfl,by simp only [P0,P6,ai Tryz.type282,ai Tryz.type3,ai Tryz.type33,ai Tryz.type69,ai Tryz.type9];rfl,rfl⟩
instance:Fld Tryz.prog 301 0 0:=⟨_,_,_,Tryz.underlying301,rfl,rfl,ai Tryz.type9,by decide⟩
instance:Fld Tryz.prog 301 1 1:=⟨_,_,_,Tryz.underlying301,rfl,rfl,ai Tryz.type282,by decide⟩
instance:Fld Tryz.prog 301 2 2:=⟨_,_,_,Tryz.underlying301,rfl,rfl,ai Tryz.type3,by decide⟩
instance:Fld Tryz.prog 301 3 3:=⟨_,_,_,Tryz.underlying301,rfl,rfl,ai Tryz.type69,by decide⟩
instance:Fld Tryz.prog 301 4 4:=⟨_,_,_,Tryz.underlying301,rfl,rfl,ai Tryz.type3,by decide⟩
instance:Fld Tryz.prog 301 5 5:=⟨_,_,_,Tryz.underlying301,rfl,rfl,ai Tryz.type33,by decide⟩
instance:Und Tryz.prog 318 (TypeDesc.slice 5):=⟨Tryz.underlying318⟩
instance:Agg Tryz.prog 324 3:=⟨_,_,Tryz.underlying324,rfl,ai Tryz.type324,rfl⟩
instance:Fld Tryz.prog 324 2 2:=⟨_,_,_,Tryz.underlying324,rfl,rfl,ai Tryz.type9,by decide⟩
instance:Und Tryz.prog 325 (TypeDesc.map 5 326):=⟨Tryz.underlying325⟩
instance:Zero Tryz.prog 326 (Value.nilFunc):=⟨_,ai Tryz.type326,rfl⟩
instance:Und Tryz.prog 328 (TypeDesc.array 8 9):=⟨Tryz.underlying328⟩
instance:Agg Tryz.prog 328 8:=⟨_,_,Tryz.underlying328,rfl,ai Tryz.type328,rfl⟩
instance:Struct Tryz.prog 334 [(0,1)] ([Value.string { data:= #[] }]):=⟨_,_,_,ai Tryz.type334,Tryz.underlying334,rfl,by simp only [P0,P6,ai Tryz.type9];rfl,rfl⟩
instance:Fld Tryz.prog 334 0 0:=⟨_,_,_,Tryz.underlying334,rfl,rfl,ai Tryz.type9,by decide⟩
instance:Size Tryz.prog 335 1:=⟨_,ai Tryz.type335,rfl⟩
instance:One Tryz.prog 335:=⟨_,Tryz.underlying335,rfl⟩
instance:Und Tryz.prog 336 (TypeDesc.array 5 335):=⟨Tryz.underlying336⟩
instance:Size Tryz.prog 336 5:=⟨_,ai Tryz.type336,rfl⟩
instance:Agg Tryz.prog 336 5:=⟨_,_,Tryz.underlying336,rfl,ai Tryz.type336,rfl⟩
instance:ZeroC Tryz.prog 336 ([Value.nilFunc,Value.nilFunc,Value.nilFunc,Value.nilFunc,Value.nilFunc]):=⟨_,_,ai Tryz.type336,rfl,rfl⟩
instance:Size Tryz.prog 342 2:=⟨_,ai Tryz.type342,rfl⟩
instance:Agg Tryz.prog 342 2:=⟨_,_,Tryz.underlying342,rfl,ai Tryz.type342,rfl⟩
instance:ZeroC Tryz.prog 342 ([Value.int IntKind.u64 0,Value.int IntKind.u64 0]):=⟨_,_,ai Tryz.type342,rfl,rfl⟩
instance:Struct Tryz.prog 342 [(0,1),(1,1)] ([Value.int IntKind.u64 0,Value.int IntKind.u64 0]):=⟨_,_,_,ai Tryz.type342,Tryz.underlying342,rfl,by simp only [P0,P6,ai Tryz.type62];rfl,rfl⟩
instance:Fld Tryz.prog 342 0 0:=⟨_,_,_,Tryz.underlying342,rfl,rfl,ai Tryz.type62,by decide⟩
instance:Fld Tryz.prog 342 1 1:=⟨_,_,_,Tryz.underlying342,rfl,rfl,ai Tryz.type62,by decide⟩
instance:Und Tryz.prog 348 (TypeDesc.slice 352):=⟨Tryz.underlying348⟩
instance:Size Tryz.prog 352 2:=⟨_,ai Tryz.type352,rfl⟩
instance:Elem Tryz.prog 352 2 16:=⟨_,_,ai Tryz.type352,rfl,rfl,rfl,rfl,by decide⟩
instance:Struct Tryz.prog 352 [(0,1),(1,1)] ([Value.int IntKind.i64 0,Value.int IntKind.i64 0]):=⟨_,_,_,ai Tryz.type352,Tryz.underlying352,rfl,by simp only [P0,P6,ai Tryz.type3];rfl,rfl⟩
instance:Fld Tryz.prog 352 0 0:=⟨_,_,_,Tryz.underlying352,rfl,rfl,ai Tryz.type3,by decide⟩
instance:Fld Tryz.prog 352 1 1:=⟨_,_,_,Tryz.underlying352,rfl,rfl,ai Tryz.type3,by decide⟩
instance:One Tryz.prog 368:=⟨_,Tryz.underlying368,rfl⟩
instance:Und Tryz.prog 377 (TypeDesc.slice 2):=⟨Tryz.underlying377⟩
instance:Und Tryz.prog 383 (TypeDesc.slice 387):=⟨Tryz.underlying383⟩
instance:Size Tryz.prog 387 3:=⟨_,ai Tryz.type387,rfl⟩
instance:Agg Tryz.prog 387 3:=⟨_,_,Tryz.underlying387,rfl,ai Tryz.type387,rfl⟩
instance:ZeroC Tryz.prog 387 ([Value.int IntKind.i64 0,Value.int IntKind.i64 0,Value.bool false]):=⟨_,_,ai Tryz.type387,rfl,rfl⟩
instance:Elem Tryz.prog 387 3 24:=⟨_,_,ai Tryz.type387,rfl,rfl,rfl,rfl,by decide⟩
instance:Struct Tryz.prog 387 [(0,1),(1,1),(2,1)] ([Value.int IntKind.i64 0,Value.int IntKind.i64 0,Value.bool false]):=⟨_,_,_,ai Tryz.type387,Tryz.underlying387,rfl,by simp only [P0,P6,ai Tryz.type3,ai Tryz.type4];rfl,rfl⟩
instance:Fld Tryz.prog 387 0 0:=⟨_,_,_,Tryz.underlying387,rfl,rfl,ai Tryz.type3,by decide⟩
instance:Fld Tryz.prog 387 1 1:=⟨_,_,_,Tryz.underlying387,rfl,rfl,ai Tryz.type3,by decide⟩
instance:Fld Tryz.prog 387 2 2:=⟨_,_,_,Tryz.underlying387,rfl,rfl,ai Tryz.type4,by decide⟩
instance:Size Tryz.prog 395 5:=⟨_,ai Tryz.type395,rfl⟩
instance:Agg Tryz.prog 395 5:=⟨_,_,Tryz.underlying395,rfl,ai Tryz.type395,rfl⟩
instance:ZeroC Tryz.prog 395 ([Value.int IntKind.i64 0,Value.int IntKind.i64 0,Value.int IntKind.i64 0,Value.int IntKind.i64 0,Value.bool false]):=⟨_,_,ai Tryz.type395,rfl,rfl⟩
instance:Struct Tryz.prog 395 [(0,2),(2,2),(4,1)] ([Value.int IntKind.i64 0,Value.int IntKind.i64 0,Value.int IntKind.i64 0,Value.int IntKind.i64 0,Value.bool false]):=⟨_,_,_,ai Tryz.type395,Tryz.underlying395,rfl,by simp only [P0,P6,ai Tryz.type198,ai Tryz.type4];rfl,rfl⟩
instance:Fld Tryz.prog 395 0 0:=⟨_,_,_,Tryz.underlying395,rfl,rfl,ai Tryz.type198,by decide⟩
instance:Fld Tryz.prog 395 1 2:=⟨_,_,_,Tryz.underlying395,rfl,rfl,ai Tryz.type198,by decide⟩
instance:Fld Tryz.prog 395 2 4:=⟨_,_,_,Tryz.underlying395,rfl,rfl,ai Tryz.type4,by decide⟩
instance:Und Tryz.prog 422 (TypeDesc.array 50 9):=⟨Tryz.underlying422⟩
instance:Size Tryz.prog 422 50:=⟨_,ai Tryz.type422,rfl⟩
instance:Agg Tryz.prog 422 50:=⟨_,_,Tryz.underlying422,rfl,ai Tryz.type422,rfl⟩
instance:ZeroC Tryz.prog 422 ([Value.string { data:= #[] },Value.string { data:= #[] },Value.string { data:= #[] },Value.string { data:= #[] },Value.string { data:= #[] },Value.string { data:= #[] },Value.string { data:= #[] },Value.string { data:= #[] },Value.string { data:= #[] },Value.string { data:= #[] },Value.string { data:= #[] },Value.string { data:= #[] },Value.string { data:= #[] },Value.string { data:= #[] },Value.string { data:= #[] },Value.string { data:= #[] },Value.string { data:= #[] },Value.string { data:= #[] },Value.string { data:= #[] },Value.string { data:= #[] },Value.string { data:= #[] },Value.string { data:= #[] },Value.string { data:= #[] },Value.string { data:= #[] },Value.string { data:= #[] },Value.string { data:= #[] },Value.string { data:= #[] },Value.string { data:= #[] },Value.string { data:= #[] },Value.string { data:= #[] },Value.string { data:= #[] },Value.string { data:= #[] },Value.string { data:= #[] },Value.string { data:= #[] },Value.string { data:= #[] },Value.string { data:= #[] },Value.string { data:= #[] },Value.string { data:= #[] },Value.string { data:= #[] },Value.string { data:= #[] },Value.string { data:= #[] },Value.string { data:= #[] },Value.string { data:= #[] },Value.string { data:= #[] },Value.string { data:= #[] },Value.string { data:= #[] },Value.string { data:= #[] },Value.string { data:= #[] },Value.string { data:= #[] },Value.string { data:= #[] }]):=⟨_,_,ai Tryz.type422,rfl,rfl⟩
instance:Callable Tryz.prog 9:=⟨fun args w=>Tryz.call9 args w⟩
instance:Callable Tryz.prog 10:=⟨fun args w=>Tryz.call10 args w⟩
instance:Callable Tryz.prog 11:=⟨fun args w=>Tryz.call11 args w⟩
instance:Callable Tryz.prog 12:=⟨fun args w=>Tryz.call12 args w⟩
instance:Callable Tryz.prog 13:=⟨fun args w=>Tryz.call13 args w⟩
instance:Callable Tryz.prog 14:=⟨fun args w=>Tryz.call14 args w⟩
instance:Callable Tryz.prog 15:=⟨fun args w=>Tryz.call15 args w⟩
instance:Callable Tryz.prog 16:=⟨fun args w=>Tryz.call16 args w⟩
instance:Callable Tryz.prog 17:=⟨fun args w=>Tryz.call17 args w⟩
instance:Callable Tryz.prog 18:=⟨fun args w=>Tryz.call18 args w⟩
instance:Callable Tryz.prog 19:=⟨fun args w=>Tryz.call19 args w⟩
instance:Callable Tryz.prog 20:=⟨fun args w=>Tryz.call20 args w⟩
instance:Callable Tryz.prog 21:=⟨fun args w=>Tryz.call21 args w⟩
instance:Callable Tryz.prog 22:=⟨fun args w=>Tryz.call22 args w⟩
instance:Callable Tryz.prog 23:=⟨fun args w=>Tryz.call23 args w⟩
instance:Callable Tryz.prog 24:=⟨fun args w=>Tryz.call24 args w⟩
instance:Callable Tryz.prog 25:=⟨fun args w=>Tryz.call25 args w⟩
instance:Callable Tryz.prog 28:=⟨fun args w=>Tryz.call28 args w⟩
instance:Callable Tryz.prog 33:=⟨fun args w=>Tryz.call33 args w⟩
instance:Callable Tryz.prog 34:=⟨fun args w=>Tryz.call34 args w⟩
instance:Callable Tryz.prog 38:=⟨fun args w=>Tryz.call38 args w⟩
instance:Callable Tryz.prog 46:=⟨fun args w=>Tryz.call46 args w⟩
instance:Callable Tryz.prog 47:=⟨fun args w=>Tryz.call47 args w⟩
instance:Callable Tryz.prog 48:=⟨fun args w=>Tryz.call48 args w⟩
instance:Callable Tryz.prog 49:=⟨fun args w=>Tryz.call49 args w⟩
instance:Callable Tryz.prog 50:=⟨fun args w=>Tryz.call50 args w⟩
instance:Callable Tryz.prog 51:=⟨fun args w=>Tryz.call51 args w⟩
instance:Callable Tryz.prog 52:=⟨fun args w=>Tryz.call52 args w⟩
instance:Callable Tryz.prog 53:=⟨fun args w=>Tryz.call53 args w⟩
instance:Callable Tryz.prog 54:=⟨fun args w=>Tryz.call54 args w⟩
instance:Callable Tryz.prog 55:=⟨fun args w=>Tryz.call55 args w⟩
instance:Callable Tryz.prog 56:=⟨fun args w=>Tryz.call56 args w⟩
instance:Callable Tryz.prog 57:=⟨fun args w=>Tryz.call57 args w⟩
instance:Callable Tryz.prog 58:=⟨fun args w=>Tryz.call58 args w⟩
instance:Callable Tryz.prog 59:=⟨fun args w=>Tryz.call59 args w⟩
instance:Callable Tryz.prog 60:=⟨fun args w=>Tryz.call60 args w⟩
instance:Callable Tryz.prog 61:=⟨fun args w=>Tryz.call61 args w⟩
instance:Callable Tryz.prog 62:=⟨fun args w=>Tryz.call62 args w⟩
instance:Callable Tryz.prog 66:=⟨fun args w=>Tryz.call66 args w⟩
instance:Callable Tryz.prog 67:=⟨fun args w=>Tryz.call67 args w⟩
instance:Callable Tryz.prog 68:=⟨fun args w=>Tryz.call68 args w⟩
instance:Callable Tryz.prog 69:=⟨fun args w=>Tryz.call69 args w⟩
instance:Callable Tryz.prog 70:=⟨fun args w=>Tryz.call70 args w⟩
instance:Callable Tryz.prog 71:=⟨fun args w=>Tryz.call71 args w⟩
instance:Callable Tryz.prog 72:=⟨fun args w=>Tryz.call72 args w⟩
instance:Callable Tryz.prog 73:=⟨fun args w=>Tryz.call73 args w⟩
instance:Callable Tryz.prog 74:=⟨fun args w=>Tryz.call74 args w⟩
instance:Callable Tryz.prog 75:=⟨fun args w=>Tryz.call75 args w⟩
instance:Callable Tryz.prog 76:=⟨fun args w=>Tryz.call76 args w⟩
instance:Callable Tryz.prog 77:=⟨fun args w=>Tryz.call77 args w⟩
instance:Callable Tryz.prog 78:=⟨fun args w=>Tryz.call78 args w⟩
instance:Callable Tryz.prog 79:=⟨fun args w=>Tryz.call79 args w⟩
instance:Callable Tryz.prog 80:=⟨fun args w=>Tryz.call80 args w⟩
instance:Callable Tryz.prog 81:=⟨fun args w=>Tryz.call81 args w⟩
instance:Callable Tryz.prog 82:=⟨fun args w=>Tryz.call82 args w⟩
instance:Callable Tryz.prog 83:=⟨fun args w=>Tryz.call83 args w⟩
instance:Callable Tryz.prog 84:=⟨fun args w=>Tryz.call84 args w⟩
instance:Callable Tryz.prog 85:=⟨fun args w=>Tryz.call85 args w⟩
instance:Callable Tryz.prog 86:=⟨fun args w=>Tryz.call86 args w⟩
instance:Callable Tryz.prog 90:=⟨fun args w=>Tryz.call90 args w⟩
instance:Callable Tryz.prog 93:=⟨fun args w=>Tryz.call93 args w⟩
instance:Callable Tryz.prog 95:=⟨fun args w=>Tryz.call95 args w⟩
instance:Callable Tryz.prog 96:=⟨fun args w=>Tryz.call96 args w⟩
instance:Callable Tryz.prog 98:=⟨fun args w=>Tryz.call98 args w⟩
instance:Callable Tryz.prog 99:=⟨fun args w=>Tryz.call99 args w⟩
instance:Callable Tryz.prog 109:=⟨fun args w=>Tryz.call109 args w⟩
instance:Callable Tryz.prog 110:=⟨fun args w=>Tryz.call110 args w⟩
instance:Callable Tryz.prog 111:=⟨fun args w=>Tryz.call111 args w⟩
instance:Callable Tryz.prog 112:=⟨fun args w=>Tryz.call112 args w⟩
instance:Callable Tryz.prog 113:=⟨fun args w=>Tryz.call113 args w⟩
instance:Callable Tryz.prog 114:=⟨fun args w=>Tryz.call114 args w⟩
instance:Callable Tryz.prog 115:=⟨fun args w=>Tryz.call115 args w⟩
instance:Callable Tryz.prog 116:=⟨fun args w=>Tryz.call116 args w⟩
instance:Callable Tryz.prog 117:=⟨fun args w=>Tryz.call117 args w⟩
instance:Callable Tryz.prog 118:=⟨fun args w=>Tryz.call118 args w⟩
instance:Callable Tryz.prog 120:=⟨fun args w=>Tryz.call120 args w⟩
instance:Callable Tryz.prog 121:=⟨fun args w=>Tryz.call121 args w⟩
instance:Callable Tryz.prog 125:=⟨fun args w=>Tryz.call125 args w⟩
instance:Callable Tryz.prog 126:=⟨fun args w=>Tryz.call126 args w⟩
instance:Callable Tryz.prog 127:=⟨fun args w=>Tryz.call127 args w⟩
instance:Callable Tryz.prog 128:=⟨fun args w=>Tryz.call128 args w⟩
instance:Callable Tryz.prog 129:=⟨fun args w=>Tryz.call129 args w⟩
instance:Callable Tryz.prog 133:=⟨fun args w=>Tryz.call133 args w⟩
instance:Callable Tryz.prog 135:=⟨fun args w=>Tryz.call135 args w⟩
instance:Callable Tryz.prog 148:=⟨fun args w=>Tryz.call148 args w⟩
instance:Callable Tryz.prog 149:=⟨fun args w=>Tryz.call149 args w⟩
instance:Callable Tryz.prog 150:=⟨fun args w=>Tryz.call150 args w⟩
instance:Callable Tryz.prog 151:=⟨fun args w=>Tryz.call151 args w⟩
instance:Callable Tryz.prog 152:=⟨fun args w=>Tryz.call152 args w⟩
instance:Callable Tryz.prog 153:=⟨fun args w=>Tryz.call153 args w⟩
instance:Callable Tryz.prog 154:=⟨fun args w=>Tryz.call154 args w⟩
instance:Callable Tryz.prog 155:=⟨fun args w=>Tryz.call155 args w⟩
instance:Callable Tryz.prog 156:=⟨fun args w=>Tryz.call156 args w⟩
instance:Callable Tryz.prog 157:=⟨fun args w=>Tryz.call157 args w⟩
instance:Callable Tryz.prog 158:=⟨fun args w=>Tryz.call158 args w⟩
instance:Callable Tryz.prog 159:=⟨fun args w=>Tryz.call159 args w⟩
instance:Callable Tryz.prog 160:=⟨fun args w=>Tryz.call160 args w⟩
instance:Callable Tryz.prog 161:=⟨fun args w=>Tryz.call161 args w⟩
instance:Callable Tryz.prog 162:=⟨fun args w=>Tryz.call162 args w⟩
instance:Callable Tryz.prog 187:=⟨fun args w=>Tryz.call187 args w⟩
instance:Callable Tryz.prog 188:=⟨fun args w=>Tryz.call188 args w⟩
instance:Callable Tryz.prog 189:=⟨fun args w=>Tryz.call189 args w⟩
instance:Callable Tryz.prog 190:=⟨fun args w=>Tryz.call190 args w⟩
instance:Callable Tryz.prog 191:=⟨fun args w=>Tryz.call191 args w⟩
instance:Callable Tryz.prog 192:=⟨fun args w=>Tryz.call192 args w⟩
instance:Callable Tryz.prog 193:=⟨fun args w=>Tryz.call193 args w⟩
instance:Callable Tryz.prog 194:=⟨fun args w=>Tryz.call194 args w⟩
instance:Callable Tryz.prog 195:=⟨fun args w=>Tryz.call195 args w⟩
instance:Callable Tryz.prog 196:=⟨fun args w=>Tryz.call196 args w⟩
instance:Callable Tryz.prog 197:=⟨fun args w=>Tryz.call197 args w⟩
instance:Callable Tryz.prog 198:=⟨fun args w=>Tryz.call198 args w⟩
instance:Callable Tryz.prog 199:=⟨fun args w=>Tryz.call199 args w⟩
instance:Callable Tryz.prog 200:=⟨fun args w=>Tryz.call200 args w⟩
instance:Callable Tryz.prog 201:=⟨fun args w=>Tryz.call201 args w⟩
instance:Callable Tryz.prog 202:=⟨fun args w=>Tryz.call202 args w⟩
instance:Callable Tryz.prog 203:=⟨fun args w=>Tryz.call203 args w⟩
instance:Callable Tryz.prog 204:=⟨fun args w=>Tryz.call204 args w⟩
instance:Callable Tryz.prog 205:=⟨fun args w=>Tryz.call205 args w⟩
instance:Callable Tryz.prog 206:=⟨fun args w=>Tryz.call206 args w⟩
instance:Callable Tryz.prog 207:=⟨fun args w=>Tryz.call207 args w⟩
instance:Callable Tryz.prog 208:=⟨fun args w=>Tryz.call208 args w⟩
instance:Callable Tryz.prog 209:=⟨fun args w=>Tryz.call209 args w⟩
instance:Callable Tryz.prog 210:=⟨fun args w=>Tryz.call210 args w⟩
instance:Callable Tryz.prog 211:=⟨fun args w=>Tryz.call211 args w⟩
instance:Callable Tryz.prog 212:=⟨fun args w=>Tryz.call212 args w⟩
instance:Callable Tryz.prog 213:=⟨fun args w=>Tryz.call213 args w⟩
instance:Callable Tryz.prog 214:=⟨fun args w=>Tryz.call214 args w⟩
instance:Callable Tryz.prog 215:=⟨fun args w=>Tryz.call215 args w⟩
instance:Callable Tryz.prog 216:=⟨fun args w=>Tryz.call216 args w⟩
instance:Callable Tryz.prog 217:=⟨fun args w=>Tryz.call217 args w⟩
instance:Callable Tryz.prog 218:=⟨fun args w=>Tryz.call218 args w⟩
instance:Callable Tryz.prog 219:=⟨fun args w=>Tryz.call219 args w⟩
instance:Callable Tryz.prog 232:=⟨fun args w=>Tryz.call232 args w⟩
instance:Callable Tryz.prog 233:=⟨fun args w=>Tryz.call233 args w⟩
instance:Callable Tryz.prog 234:=⟨fun args w=>Tryz.call234 args w⟩
instance:Callable Tryz.prog 235:=⟨fun args w=>Tryz.call235 args w⟩
instance:Callable Tryz.prog 236:=⟨fun args w=>Tryz.call236 args w⟩
instance:Callable Tryz.prog 237:=⟨fun args w=>Tryz.call237 args w⟩
instance:Callable Tryz.prog 238:=⟨fun args w=>Tryz.call238 args w⟩
instance:Callable Tryz.prog 241:=⟨fun args w=>Tryz.call241 args w⟩
instance:Callable Tryz.prog 242:=⟨fun args w=>Tryz.call242 args w⟩
instance:Callable Tryz.prog 243:=⟨fun args w=>Tryz.call243 args w⟩
instance:Callable Tryz.prog 244:=⟨fun args w=>Tryz.call244 args w⟩
instance:Callable Tryz.prog 245:=⟨fun args w=>Tryz.call245 args w⟩
instance:Callable Tryz.prog 246:=⟨fun args w=>Tryz.call246 args w⟩
instance:Callable Tryz.prog 247:=⟨fun args w=>Tryz.call247 args w⟩
instance:Callable Tryz.prog 248:=⟨fun args w=>Tryz.call248 args w⟩
instance:Callable Tryz.prog 249:=⟨fun args w=>Tryz.call249 args w⟩
instance:Callable Tryz.prog 250:=⟨fun args w=>Tryz.call250 args w⟩
instance:Callable Tryz.prog 251:=⟨fun args w=>Tryz.call251 args w⟩
instance:Callable Tryz.prog 252:=⟨fun args w=>Tryz.call252 args w⟩
instance:Callable Tryz.prog 253:=⟨fun args w=>Tryz.call253 args w⟩
instance:Callable Tryz.prog 254:=⟨fun args w=>Tryz.call254 args w⟩
instance:Callable Tryz.prog 255:=⟨fun args w=>Tryz.call255 args w⟩
instance:Callable Tryz.prog 256:=⟨fun args w=>Tryz.call256 args w⟩
instance:Callable Tryz.prog 257:=⟨fun args w=>Tryz.call257 args w⟩
instance:Callable Tryz.prog 258:=⟨fun args w=>Tryz.call258 args w⟩
instance:Callable Tryz.prog 259:=⟨fun args w=>Tryz.call259 args w⟩
instance:Callable Tryz.prog 260:=⟨fun args w=>Tryz.call260 args w⟩
instance:Callable Tryz.prog 273:=⟨fun args w=>Tryz.call273 args w⟩
instance:Callable Tryz.prog 274:=⟨fun args w=>Tryz.call274 args w⟩
instance:Callable Tryz.prog 275:=⟨fun args w=>Tryz.call275 args w⟩
instance:Callable Tryz.prog 276:=⟨fun args w=>Tryz.call276 args w⟩
instance:Callable Tryz.prog 277:=⟨fun args w=>Tryz.call277 args w⟩
instance:Callable Tryz.prog 278:=⟨fun args w=>Tryz.call278 args w⟩
instance:Callable Tryz.prog 279:=⟨fun args w=>Tryz.call279 args w⟩
instance:Callable Tryz.prog 280:=⟨fun args w=>Tryz.call280 args w⟩
instance:Callable Tryz.prog 281:=⟨fun args w=>Tryz.call281 args w⟩
instance:Callable Tryz.prog 282:=⟨fun args w=>Tryz.call282 args w⟩
instance:Callable Tryz.prog 283:=⟨fun args w=>Tryz.call283 args w⟩
instance:Callable Tryz.prog 284:=⟨fun args w=>Tryz.call284 args w⟩
instance:Callable Tryz.prog 285:=⟨fun args w=>Tryz.call285 args w⟩
instance:Callable Tryz.prog 286:=⟨fun args w=>Tryz.call286 args w⟩
instance:Callable Tryz.prog 287:=⟨fun args w=>Tryz.call287 args w⟩
instance:Callable Tryz.prog 288:=⟨fun args w=>Tryz.call288 args w⟩
instance:Callable Tryz.prog 289:=⟨fun args w=>Tryz.call289 args w⟩
instance:Callable Tryz.prog 290:=⟨fun args w=>Tryz.call290 args w⟩
instance:Callable Tryz.prog 291:=⟨fun args w=>Tryz.call291 args w⟩
instance:Callable Tryz.prog 292:=⟨fun args w=>Tryz.call292 args w⟩
instance:Callable Tryz.prog 293:=⟨fun args w=>Tryz.call293 args w⟩
instance:Callable Tryz.prog 294:=⟨fun args w=>Tryz.call294 args w⟩
instance:Callable Tryz.prog 295:=⟨fun args w=>Tryz.call295 args w⟩
instance:Callable Tryz.prog 296:=⟨fun args w=>Tryz.call296 args w⟩
instance:Callable Tryz.prog 297:=⟨fun args w=>Tryz.call297 args w⟩
instance:Callable Tryz.prog 298:=⟨fun args w=>Tryz.call298 args w⟩
instance:Callable Tryz.prog 299:=⟨fun args w=>Tryz.call299 args w⟩
instance:Callable Tryz.prog 300:=⟨fun args w=>Tryz.call300 args w⟩
instance:Callable Tryz.prog 301:=⟨fun args w=>Tryz.call301 args w⟩
instance:Callable Tryz.prog 302:=⟨fun args w=>Tryz.call302 args w⟩
instance:Callable Tryz.prog 303:=⟨fun args w=>Tryz.call303 args w⟩
instance:Callable Tryz.prog 304:=⟨fun args w=>Tryz.call304 args w⟩
instance:Callable Tryz.prog 309:=⟨fun args w=>Tryz.call309 args w⟩
instance:Callable Tryz.prog 310:=⟨fun args w=>Tryz.call310 args w⟩
instance:Callable Tryz.prog 311:=⟨fun args w=>Tryz.call311 args w⟩
instance:Callable Tryz.prog 312:=⟨fun args w=>Tryz.call312 args w⟩
instance:Callable Tryz.prog 314:=⟨fun args w=>Tryz.call314 args w⟩
instance:Callable Tryz.prog 315:=⟨fun args w=>Tryz.call315 args w⟩
instance:Callable Tryz.prog 316:=⟨fun args w=>Tryz.call316 args w⟩
instance:Callable Tryz.prog 317:=⟨fun args w=>Tryz.call317 args w⟩
instance:Callable Tryz.prog 318:=⟨fun args w=>Tryz.call318 args w⟩
instance:Callable Tryz.prog 319:=⟨fun args w=>Tryz.call319 args w⟩
instance:Callable Tryz.prog 320:=⟨fun args w=>Tryz.call320 args w⟩
instance:Callable Tryz.prog 321:=⟨fun args w=>Tryz.call321 args w⟩
instance:Callable Tryz.prog 322:=⟨fun args w=>Tryz.call322 args w⟩
instance:Callable Tryz.prog 323:=⟨fun args w=>Tryz.call323 args w⟩
instance:Callable Tryz.prog 324:=⟨fun args w=>Tryz.call324 args w⟩
instance:Callable Tryz.prog 325:=⟨fun args w=>Tryz.call325 args w⟩
instance:Callable Tryz.prog 326:=⟨fun args w=>Tryz.call326 args w⟩
instance:Callable Tryz.prog 327:=⟨fun args w=>Tryz.call327 args w⟩
instance:Callable Tryz.prog 328:=⟨fun args w=>Tryz.call328 args w⟩
instance:Callable Tryz.prog 330:=⟨fun args w=>Tryz.call330 args w⟩
instance:Callable Tryz.prog 331:=⟨fun args w=>Tryz.call331 args w⟩
instance:Callable Tryz.prog 335:=⟨fun args w=>Tryz.call335 args w⟩
instance:Callable Tryz.prog 336:=⟨fun args w=>Tryz.call336 args w⟩
instance:Callable Tryz.prog 337:=⟨fun args w=>Tryz.call337 args w⟩
instance:Callable Tryz.prog 338:=⟨fun args w=>Tryz.call338 args w⟩
instance:Callable Tryz.prog 340:=⟨fun args w=>Tryz.call340 args w⟩
instance:Callable Tryz.prog 341:=⟨fun args w=>Tryz.call341 args w⟩
instance:Callable Tryz.prog 342:=⟨fun args w=>Tryz.call342 args w⟩
instance:Callable Tryz.prog 343:=⟨fun args w=>Tryz.call343 args w⟩
instance:Callable Tryz.prog 344:=⟨fun args w=>Tryz.call344 args w⟩
instance:Callable Tryz.prog 346:=⟨fun args w=>Tryz.call346 args w⟩
instance:Callable Tryz.prog 347:=⟨fun args w=>Tryz.call347 args w⟩
instance:Callable Tryz.prog 348:=⟨fun args w=>Tryz.call348 args w⟩
instance:Callable Tryz.prog 349:=⟨fun args w=>Tryz.call349 args w⟩
instance:Callable Tryz.prog 350:=⟨fun args w=>Tryz.call350 args w⟩
instance:Callable Tryz.prog 351:=⟨fun args w=>Tryz.call351 args w⟩
instance:Callable Tryz.prog 354:=⟨fun args w=>Tryz.call354 args w⟩
instance:Callable Tryz.prog 355:=⟨fun args w=>Tryz.call355 args w⟩
instance:Callable Tryz.prog 358:=⟨fun args w=>Tryz.call358 args w⟩
instance:Callable Tryz.prog 359:=⟨fun args w=>Tryz.call359 args w⟩
instance:Callable Tryz.prog 360:=⟨fun args w=>Tryz.call360 args w⟩
instance:Callable Tryz.prog 363:=⟨fun args w=>Tryz.call363 args w⟩
instance:Callable Tryz.prog 364:=⟨fun args w=>Tryz.call364 args w⟩
end Go.SL
