/-
  Lemmas and walks, put together: Ty W9.
-/
import Derived.Test.YthgjiibbmkiplaaGreatDoorKw02
set_option linter.unusedSimpArgs false
set_option linter.unusedVariables false
set_option maxRecDepth 20000
namespace Go.SL
open Go Go.Proofs
theorem ah {P:Program} {t:Nat} {i:TypeInfo} (h:P.toTables.types[t]? =some i):P.info? t=some i:=by
 have hl:=(XK.1 h).1;simp only [Tables.info?,hl,if_true];exact h
instance:Und Tryz.prog 2 (TypeDesc.int IntKind.i64):=⟨Tryz.underlying2⟩
instance:Size Tryz.prog 2 1:=⟨_,ah Tryz.type2,rfl⟩
instance:One Tryz.prog 2:=⟨_,Tryz.underlying2,rfl⟩
instance:Elem Tryz.prog 2 1 8:=⟨_,_,ah Tryz.type2,rfl,rfl,rfl,rfl,by decide⟩
instance:Und Tryz.prog 3 (TypeDesc.int IntKind.i64):=⟨Tryz.underlying3⟩
instance:Size Tryz.prog 3 1:=⟨_,ah Tryz.type3,rfl⟩
instance:One Tryz.prog 3:=⟨_,Tryz.underlying3,rfl⟩
instance:Zero Tryz.prog 3 (Value.int IntKind.i64 0):=⟨_,ah Tryz.type3,rfl⟩
instance:ZeroC Tryz.prog 3 ([Value.int IntKind.i64 0]):=⟨_,_,ah Tryz.type3,rfl,rfl⟩
instance:Elem Tryz.prog 3 1 8:=⟨_,_,ah Tryz.type3,rfl,rfl,rfl,rfl,by decide⟩
instance:Und Tryz.prog 4 (TypeDesc.bool):=⟨Tryz.underlying4⟩
instance:Size Tryz.prog 4 1:=⟨_,ah Tryz.type4,rfl⟩
instance:One Tryz.prog 4:=⟨_,Tryz.underlying4,rfl⟩
instance:Zero Tryz.prog 4 (Value.bool false):=⟨_,ah Tryz.type4,rfl⟩
instance:Und Tryz.prog 5 (TypeDesc.int IntKind.u8):=⟨Tryz.underlying5⟩
instance:Size Tryz.prog 5 1:=⟨_,ah Tryz.type5,rfl⟩
instance:One Tryz.prog 5:=⟨_,Tryz.underlying5,rfl⟩
instance:Elem Tryz.prog 5 1 1:=⟨_,_,ah Tryz.type5,rfl,rfl,rfl,rfl,by decide⟩
instance:Und Tryz.prog 9 (TypeDesc.string):=⟨Tryz.underlying9⟩
instance:Size Tryz.prog 9 1:=⟨_,ah Tryz.type9,rfl⟩
instance:One Tryz.prog 9:=⟨_,Tryz.underlying9,rfl⟩
instance:Elem Tryz.prog 9 1 16:=⟨_,_,ah Tryz.type9,rfl,rfl,rfl,rfl,by decide⟩
instance:Und Tryz.prog 20 (TypeDesc.interface #[]):=⟨Tryz.underlying20⟩
instance:Und Tryz.prog 22 (TypeDesc.slice 79):=⟨Tryz.underlying22⟩
instance:One Tryz.prog 22:=⟨_,Tryz.underlying22,rfl⟩
instance:Und Tryz.prog 23 (TypeDesc.slice 137):=⟨Tryz.underlying23⟩
instance:One Tryz.prog 23:=⟨_,Tryz.underlying23,rfl⟩
instance:Und Tryz.prog 24 (TypeDesc.slice 76):=⟨Tryz.underlying24⟩
instance:Size Tryz.prog 24 1:=⟨_,ah Tryz.type24,rfl⟩
instance:One Tryz.prog 24:=⟨_,Tryz.underlying24,rfl⟩
instance:Und Tryz.prog 25 (TypeDesc.slice 147):=⟨Tryz.underlying25⟩
instance:One Tryz.prog 25:=⟨_,Tryz.underlying25,rfl⟩
instance:Und Tryz.prog 26 (TypeDesc.slice 149):=⟨Tryz.underlying26⟩
instance:One Tryz.prog 26:=⟨_,Tryz.underlying26,rfl⟩
instance:Size Tryz.prog 28 7:=⟨_,ah Tryz.type28,rfl⟩
instance:Agg Tryz.prog 28 7:=⟨_,_,Tryz.underlying28,rfl,ah Tryz.type28,rfl⟩
instance:ZeroC Tryz.prog 28 ([Value.int IntKind.i64 0,Value.slice none 0 0,Value.slice none 0 0,Value.slice none 0 0,Value.slice none 0 0,Value.slice none 0 0,Value.int IntKind.i64 0]):=⟨_,_,ah Tryz.type28,rfl,rfl⟩
instance:Struct Tryz.prog 28 [(0,1),(1,1),(2,1),(3,1),(4,1),(5,1),(6,1)] ([Value.int IntKind.i64 0,Value.slice none 0 0,Value.slice none 0 0,Value.slice none 0 0,Value.slice none 0 0,Value.slice none 0 0,Value.int IntKind.i64 0]):=⟨_,_,_,ah Tryz.type28,Tryz.underlying28,rfl,by simp only [XV,X5,ah Tryz.type22,ah Tryz.type23,ah Tryz.type24,ah Tryz.type25,ah Tryz.type26,ah Tryz.type3];rfl,rfl⟩
instance:Fld Tryz.prog 28 0 0:=⟨_,_,_,Tryz.underlying28,rfl,rfl,ah Tryz.type3,by decide⟩
instance:Fld Tryz.prog 28 1 1:=⟨_,_,_,Tryz.underlying28,rfl,rfl,ah Tryz.type22,by decide⟩
instance:Fld Tryz.prog 28 2 2:=⟨_,_,_,Tryz.underlying28,rfl,rfl,ah Tryz.type23,by decide⟩
instance:Fld Tryz.prog 28 3 3:=⟨_,_,_,Tryz.underlying28,rfl,rfl,ah Tryz.type24,by decide⟩
instance:Fld Tryz.prog 28 4 4:=⟨_,_,_,Tryz.underlying28,rfl,rfl,ah Tryz.type25,by decide⟩
instance:Fld Tryz.prog 28 5 5:=⟨_,_,_,Tryz.underlying28,rfl,rfl,ah Tryz.type26,by decide⟩
instance:Fld Tryz.prog 28 6 6:=⟨_,_,_,Tryz.underlying28,rfl,rfl,ah Tryz.type3,by decide⟩
instance:Size Tryz.prog 31 4:=⟨_,ah Tryz.type31,rfl⟩
instance:Agg Tryz.prog 31 4:=⟨_,_,Tryz.underlying31,rfl,ah Tryz.type31,rfl⟩
instance:ZeroC Tryz.prog 31 ([Value.int IntKind.i64 0,Value.int IntKind.i64 0,Value.int IntKind.i64 0,Value.int IntKind.i64 0]):=⟨_,_,ah Tryz.type31,rfl,rfl⟩
instance:Elem Tryz.prog 31 4 32:=⟨_,_,ah Tryz.type31,rfl,rfl,rfl,rfl,by decide⟩
instance:Struct Tryz.prog 31 [(0,1),(1,1),(2,1),(3,1)] ([Value.int IntKind.i64 0,Value.int IntKind.i64 0,Value.int IntKind.i64 0,Value.int IntKind.i64 0]):=⟨_,_,_,ah Tryz.type31,Tryz.underlying31,rfl,by simp only [XV,X5,ah Tryz.type3];rfl,rfl⟩
instance:Fld Tryz.prog 31 0 0:=⟨_,_,_,Tryz.underlying31,rfl,rfl,ah Tryz.type3,by decide⟩
instance:Fld Tryz.prog 31 1 1:=⟨_,_,_,Tryz.underlying31,rfl,rfl,ah Tryz.type3,by decide⟩
instance:Fld Tryz.prog 31 2 2:=⟨_,_,_,Tryz.underlying31,rfl,rfl,ah Tryz.type3,by decide⟩
instance:Fld Tryz.prog 31 3 3:=⟨_,_,_,Tryz.underlying31,rfl,rfl,ah Tryz.type3,by decide⟩
instance:Size Tryz.prog 34 2:=⟨_,ah Tryz.type34,rfl⟩
instance:Agg Tryz.prog 34 2:=⟨_,_,Tryz.underlying34,rfl,ah Tryz.type34,rfl⟩
instance:ZeroC Tryz.prog 34 ([Value.int IntKind.i64 0,Value.int IntKind.i64 0]):=⟨_,_,ah Tryz.type34,rfl,rfl⟩
instance:Elem Tryz.prog 34 2 16:=⟨_,_,ah Tryz.type34,rfl,rfl,rfl,rfl,by decide⟩
instance:Struct Tryz.prog 34 [(0,1),(1,1)] ([Value.int IntKind.i64 0,Value.int IntKind.i64 0]):=⟨_,_,_,ah Tryz.type34,Tryz.underlying34,rfl,by simp only [XV,X5,ah Tryz.type3];rfl,rfl⟩
instance:Fld Tryz.prog 34 0 0:=⟨_,_,_,Tryz.underlying34,rfl,rfl,ah Tryz.type3,by decide⟩
instance:Fld Tryz.prog 34 1 1:=⟨_,_,_,Tryz.underlying34,rfl,rfl,ah Tryz.type3,by decide⟩
instance:Und Tryz.prog 36 (TypeDesc.slice 34):=⟨Tryz.underlying36⟩
instance:Size Tryz.prog 36 1:=⟨_,ah Tryz.type36,rfl⟩
instance:One Tryz.prog 36:=⟨_,Tryz.underlying36,rfl⟩
instance:ZeroC Tryz.prog 36 ([Value.slice none 0 0]):=⟨_,_,ah Tryz.type36,rfl,rfl⟩
instance:Size Tryz.prog 37 1:=⟨_,ah Tryz.type37,rfl⟩
instance:One Tryz.prog 37:=⟨_,Tryz.underlying37,rfl⟩
instance:ZeroC Tryz.prog 37 ([Value.int IntKind.i64 0]):=⟨_,_,ah Tryz.type37,rfl,rfl⟩
instance:Und Tryz.prog 40 (TypeDesc.slice 3):=⟨Tryz.underlying40⟩
instance:Size Tryz.prog 40 1:=⟨_,ah Tryz.type40,rfl⟩
instance:One Tryz.prog 40:=⟨_,Tryz.underlying40,rfl⟩
instance:ZeroC Tryz.prog 40 ([Value.slice none 0 0]):=⟨_,_,ah Tryz.type40,rfl,rfl⟩
instance:Und Tryz.prog 54 (TypeDesc.pointer 104):=⟨Tryz.underlying54⟩
instance:One Tryz.prog 54:=⟨_,Tryz.underlying54,rfl⟩
instance:Und Tryz.prog 57 (TypeDesc.int IntKind.u64):=⟨Tryz.underlying57⟩
instance:Size Tryz.prog 57 1:=⟨_,ah Tryz.type57,rfl⟩
instance:One Tryz.prog 57:=⟨_,Tryz.underlying57,rfl⟩
instance:Zero Tryz.prog 57 (Value.int IntKind.u64 0):=⟨_,ah Tryz.type57,rfl⟩
instance:ZeroC Tryz.prog 57 ([Value.int IntKind.u64 0]):=⟨_,_,ah Tryz.type57,rfl,rfl⟩
instance:Elem Tryz.prog 57 1 8:=⟨_,_,ah Tryz.type57,rfl,rfl,rfl,rfl,by decide⟩
instance:Und Tryz.prog 60 (TypeDesc.int IntKind.u64):=⟨Tryz.underlying60⟩
instance:Und Tryz.prog 62 (TypeDesc.slice 31):=⟨Tryz.underlying62⟩
instance:Size Tryz.prog 76 8:=⟨_,ah Tryz.type76,rfl⟩
instance:Agg Tryz.prog 76 8:=⟨_,_,Tryz.underlying76,rfl,ah Tryz.type76,rfl⟩
instance:ZeroC Tryz.prog 76 ([Value.int IntKind.i64 0,Value.int IntKind.i64 0,Value.int IntKind.i64 0,Value.int IntKind.i64 0,Value.int IntKind.u8 0,Value.int IntKind.u64 0,Value.int IntKind.i64 0,Value.bool false]):=⟨_,_,ah Tryz.type76,rfl,rfl⟩
instance:Elem Tryz.prog 76 8 64:=⟨_,_,ah Tryz.type76,rfl,rfl,rfl,rfl,by decide⟩
instance:Struct Tryz.prog 76 [(0,4),(4,1),(5,1),(6,1),(7,1)] ([Value.int IntKind.i64 0,Value.int IntKind.i64 0,Value.int IntKind.i64 0,Value.int IntKind.i64 0,Value.int IntKind.u8 0,Value.int IntKind.u64 0,Value.int IntKind.i64 0,Value.bool false]):=⟨_,_,_,ah Tryz.type76,Tryz.underlying76,rfl,by simp only [XV,X5,ah Tryz.type3,ah Tryz.type31,ah Tryz.type4,ah Tryz.type5,ah Tryz.type57];rfl,rfl⟩
instance:Fld Tryz.prog 76 0 0:=⟨_,_,_,Tryz.underlying76,rfl,rfl,ah Tryz.type31,by decide⟩
instance:Fld Tryz.prog 76 1 4:=⟨_,_,_,Tryz.underlying76,rfl,rfl,ah Tryz.type5,by decide⟩
instance:Fld Tryz.prog 76 2 5:=⟨_,_,_,Tryz.underlying76,rfl,rfl,ah Tryz.type57,by decide⟩
instance:Fld Tryz.prog 76 3 6:=⟨_,_,_,Tryz.underlying76,rfl,rfl,ah Tryz.type3,by decide⟩
instance:Fld Tryz.prog 76 4 7:=⟨_,_,_,Tryz.underlying76,rfl,rfl,ah Tryz.type4,by decide⟩
instance:Size Tryz.prog 79 3:=⟨_,ah Tryz.type79,rfl⟩
instance:Agg Tryz.prog 79 3:=⟨_,_,Tryz.underlying79,rfl,ah Tryz.type79,rfl⟩
instance:ZeroC Tryz.prog 79 ([Value.int IntKind.i64 0,Value.int IntKind.i64 0,Value.string { data:= #[] }]):=⟨_,_,ah Tryz.type79,rfl,rfl⟩
instance:Elem Tryz.prog 79 3 32:=⟨_,_,ah Tryz.type79,rfl,rfl,rfl,rfl,by decide⟩
instance:Struct Tryz.prog 79 [(0,2),(2,1)] ([Value.int IntKind.i64 0,Value.int IntKind.i64 0,Value.string { data:= #[] }]):=⟨_,_,_,ah Tryz.type79,Tryz.underlying79,rfl,by simp only [XV,X5,ah Tryz.type34,ah Tryz.type9];rfl,rfl⟩
instance:Fld Tryz.prog 79 0 0:=⟨_,_,_,Tryz.underlying79,rfl,rfl,ah Tryz.type34,by decide⟩
instance:Fld Tryz.prog 79 1 2:=⟨_,_,_,Tryz.underlying79,rfl,rfl,ah Tryz.type9,by decide⟩
instance:Und Tryz.prog 81 (TypeDesc.slice 57):=⟨Tryz.underlying81⟩
instance:Fld Tryz.prog 98 0 0:=⟨_,_,_,Tryz.underlying98,rfl,rfl,ah Tryz.type34,by decide⟩
instance:Fld Tryz.prog 98 1 2:=⟨_,_,_,Tryz.underlying98,rfl,rfl,ah Tryz.type3,by decide⟩
instance:Und Tryz.prog 102 (TypeDesc.map 34 182):=⟨Tryz.underlying102⟩
instance:One Tryz.prog 102:=⟨_,Tryz.underlying102,rfl⟩
instance:Struct Tryz.prog 104 [(0,1)] ([Value.map none]):=⟨_,_,_,ah Tryz.type104,Tryz.underlying104,rfl,by simp only [XV,X5,ah Tryz.type102];rfl,rfl⟩
instance:Fld Tryz.prog 104 0 0:=⟨_,_,_,Tryz.underlying104,rfl,rfl,ah Tryz.type102,by decide⟩
instance:One Tryz.prog 106:=⟨_,Tryz.underlying106,rfl⟩
instance:Und Tryz.prog 110 (TypeDesc.map 34 57):=⟨Tryz.underlying110⟩
instance:One Tryz.prog 110:=⟨_,Tryz.underlying110,rfl⟩
instance:Und Tryz.prog 111 (TypeDesc.map 31 57):=⟨Tryz.underlying111⟩
instance:One Tryz.prog 111:=⟨_,Tryz.underlying111,rfl⟩
instance:Und Tryz.prog 112 (TypeDesc.map 232 57):=⟨Tryz.underlying112⟩
instance:One Tryz.prog 112:=⟨_,Tryz.underlying112,rfl⟩
instance:Struct Tryz.prog 114 [(0,1),(1,1),(2,1),(3,1),(4,1),(5,1),(6,1)] ([Value.pointer none,Value.slice none 0 0,Value.slice none 0 0,Value.slice none 0 0,Value.map none,Value.map none,Value.map none]):=⟨_,_,_,ah Tryz.type114,Tryz.underlying114,rfl,by simp only [XV,X5,ah Tryz.type110,ah Tryz.type111,ah Tryz.type112,ah Tryz.type23,ah Tryz.type24,ah Tryz.type36,ah Tryz.type54];rfl,rfl⟩
instance:Fld Tryz.prog 114 1 1:=⟨_,_,_,Tryz.underlying114,rfl,rfl,ah Tryz.type23,by decide⟩
instance:Fld Tryz.prog 114 2 2:=⟨_,_,_,Tryz.underlying114,rfl,rfl,ah Tryz.type24,by decide⟩
instance:Fld Tryz.prog 114 3 3:=⟨_,_,_,Tryz.underlying114,rfl,rfl,ah Tryz.type36,by decide⟩
instance:Fld Tryz.prog 114 4 4:=⟨_,_,_,Tryz.underlying114,rfl,rfl,ah Tryz.type110,by decide⟩
instance:Fld Tryz.prog 114 5 5:=⟨_,_,_,Tryz.underlying114,rfl,rfl,ah Tryz.type111,by decide⟩
instance:Fld Tryz.prog 114 6 6:=⟨_,_,_,Tryz.underlying114,rfl,rfl,ah Tryz.type112,by decide⟩
instance:Und Tryz.prog 117 (TypeDesc.map 34 4):=⟨Tryz.underlying117⟩
instance:Size Tryz.prog 117 1:=⟨_,ah Tryz.type117,rfl⟩
instance:One Tryz.prog 117:=⟨_,Tryz.underlying117,rfl⟩
instance:ZeroC Tryz.prog 117 ([Value.map none]):=⟨_,_,ah Tryz.type117,rfl,rfl⟩
instance:Size Tryz.prog 135 3:=⟨_,ah Tryz.type135,rfl⟩
instance:Agg Tryz.prog 135 3:=⟨_,_,Tryz.underlying135,rfl,ah Tryz.type135,rfl⟩
instance:ZeroC Tryz.prog 135 ([Value.int IntKind.u64 0,Value.int IntKind.u64 0,Value.int IntKind.u64 0]):=⟨_,_,ah Tryz.type135,rfl,rfl⟩
instance:Struct Tryz.prog 135 [(0,1),(1,1),(2,1)] ([Value.int IntKind.u64 0,Value.int IntKind.u64 0,Value.int IntKind.u64 0]):=⟨_,_,_,ah Tryz.type135,Tryz.underlying135,rfl,by simp only [XV,X5,ah Tryz.type57];rfl,rfl⟩
instance:Fld Tryz.prog 135 0 0:=⟨_,_,_,Tryz.underlying135,rfl,rfl,ah Tryz.type57,by decide⟩
instance:Fld Tryz.prog 135 1 1:=⟨_,_,_,Tryz.underlying135,rfl,rfl,ah Tryz.type57,by decide⟩
instance:Fld Tryz.prog 135 2 2:=⟨_,_,_,Tryz.underlying135,rfl,rfl,ah Tryz.type57,by decide⟩
instance:Size Tryz.prog 137 7:=⟨_,ah Tryz.type137,rfl⟩
instance:Agg Tryz.prog 137 7:=⟨_,_,Tryz.underlying137,rfl,ah Tryz.type137,rfl⟩
instance:ZeroC Tryz.prog 137 ([Value.int IntKind.i64 0,Value.int IntKind.i64 0,Value.int IntKind.i64 0,Value.int IntKind.i64 0,Value.int IntKind.u64 0,Value.int IntKind.u64 0,Value.int IntKind.u64 0]):=⟨_,_,ah Tryz.type137,rfl,rfl⟩
instance:Elem Tryz.prog 137 7 56:=⟨_,_,ah Tryz.type137,rfl,rfl,rfl,rfl,by decide⟩
instance:Struct Tryz.prog 137 [(0,4),(4,3)] ([Value.int IntKind.i64 0,Value.int IntKind.i64 0,Value.int IntKind.i64 0,Value.int IntKind.i64 0,Value.int IntKind.u64 0,Value.int IntKind.u64 0,Value.int IntKind.u64 0]):=⟨_,_,_,ah Tryz.type137,Tryz.underlying137,rfl,by simp only [XV,X5,ah Tryz.type135,ah Tryz.type31];rfl,rfl⟩
instance:Fld Tryz.prog 137 0 0:=⟨_,_,_,Tryz.underlying137,rfl,rfl,ah Tryz.type31,by decide⟩
instance:Fld Tryz.prog 137 1 4:=⟨_,_,_,Tryz.underlying137,rfl,rfl,ah Tryz.type135,by decide⟩
instance:Size Tryz.prog 147 9:=⟨_,ah Tryz.type147,rfl⟩
instance:Agg Tryz.prog 147 9:=⟨_,_,Tryz.underlying147,rfl,ah Tryz.type147,rfl⟩
instance:ZeroC Tryz.prog 147 ([Value.int IntKind.i64 0,Value.int IntKind.i64 0,Value.int IntKind.u8 0,Value.int IntKind.i64 0,Value.int IntKind.i64 0,Value.int IntKind.i64 0,Value.int IntKind.i64 0,Value.bool false,Value.int IntKind.u64 0]):=⟨_,_,ah Tryz.type147,rfl,rfl⟩
instance:Fld Tryz.prog 147 0 0:=⟨_,_,_,Tryz.underlying147,rfl,rfl,ah Tryz.type3,by decide⟩
instance:Fld Tryz.prog 147 1 1:=⟨_,_,_,Tryz.underlying147,rfl,rfl,ah Tryz.type3,by decide⟩
instance:Fld Tryz.prog 147 2 2:=⟨_,_,_,Tryz.underlying147,rfl,rfl,ah Tryz.type5,by decide⟩
instance:Fld Tryz.prog 147 3 3:=⟨_,_,_,Tryz.underlying147,rfl,rfl,ah Tryz.type31,by decide⟩
instance:Fld Tryz.prog 147 5 8:=⟨_,_,_,Tryz.underlying147,rfl,rfl,ah Tryz.type57,by decide⟩
instance:Size Tryz.prog 149 11:=⟨_,ah Tryz.type149,rfl⟩
instance:Agg Tryz.prog 149 11:=⟨_,_,Tryz.underlying149,rfl,ah Tryz.type149,rfl⟩
instance:ZeroC Tryz.prog 149 ([Value.int IntKind.i64 0,Value.int IntKind.i64 0,Value.int IntKind.i64 0,Value.int IntKind.i64 0,Value.int IntKind.u8 0,Value.int IntKind.i64 0,Value.int IntKind.i64 0,Value.int IntKind.i64 0,Value.int IntKind.i64 0,Value.int IntKind.i64 0,Value.int IntKind.u64 0]):=⟨_,_,ah Tryz.type149,rfl,rfl⟩
instance:Fld Tryz.prog 149 0 0:=⟨_,_,_,Tryz.underlying149,rfl,rfl,ah Tryz.type3,by decide⟩
instance:Fld Tryz.prog 149 1 1:=⟨_,_,_,Tryz.underlying149,rfl,rfl,ah Tryz.type98,by decide⟩
instance:Fld Tryz.prog 149 2 4:=⟨_,_,_,Tryz.underlying149,rfl,rfl,ah Tryz.type5,by decide⟩
instance:Fld Tryz.prog 149 3 5:=⟨_,_,_,Tryz.underlying149,rfl,rfl,ah Tryz.type31,by decide⟩
instance:Fld Tryz.prog 149 4 9:=⟨_,_,_,Tryz.underlying149,rfl,rfl,ah Tryz.type3,by decide⟩
instance:Fld Tryz.prog 149 5 10:=⟨_,_,_,Tryz.underlying149,rfl,rfl,ah Tryz.type57,by decide⟩
instance:Und Tryz.prog 156 (TypeDesc.slice 159):=⟨Tryz.underlying156⟩
instance:Size Tryz.prog 156 1:=⟨_,ah Tryz.type156,rfl⟩
instance:One Tryz.prog 156:=⟨_,Tryz.underlying156,rfl⟩
instance:ZeroC Tryz.prog 156 ([Value.slice none 0 0]):=⟨_,_,ah Tryz.type156,rfl,rfl⟩
instance:Size Tryz.prog 159 6:=⟨_,ah Tryz.type159,rfl⟩
instance:Agg Tryz.prog 159 6:=⟨_,_,Tryz.underlying159,rfl,ah Tryz.type159,rfl⟩
instance:ZeroC Tryz.prog 159 ([Value.int IntKind.i64 0,Value.int IntKind.i64 0,Value.int IntKind.i64 0,Value.int IntKind.i64 0,Value.int IntKind.i64 0,Value.int IntKind.u8 0]):=⟨_,_,ah Tryz.type159,rfl,rfl⟩
instance:Elem Tryz.prog 159 6 48:=⟨_,_,ah Tryz.type159,rfl,rfl,rfl,rfl,by decide⟩
instance:Struct Tryz.prog 159 [(0,4),(4,1),(5,1)] ([Value.int IntKind.i64 0,Value.int IntKind.i64 0,Value.int IntKind.i64 0,Value.int IntKind.i64 0,Value.int IntKind.i64 0,Value.int IntKind.u8 0]):=⟨_,_,_,ah Tryz.type159,Tryz.underlying159,rfl,by simp only [XV,X5,ah Tryz.type3,ah Tryz.type31,ah Tryz.type5];rfl,rfl⟩
instance:Fld Tryz.prog 159 0 0:=⟨_,_,_,Tryz.underlying159,rfl,rfl,ah Tryz.type31,by decide⟩
instance:Fld Tryz.prog 159 1 4:=⟨_,_,_,Tryz.underlying159,rfl,rfl,ah Tryz.type3,by decide⟩
instance:Fld Tryz.prog 159 2 5:=⟨_,_,_,Tryz.underlying159,rfl,rfl,ah Tryz.type5,by decide⟩
instance:Size Tryz.prog 173 3:=⟨_,ah Tryz.type173,rfl⟩
instance:Agg Tryz.prog 173 3:=⟨_,_,Tryz.underlying173,rfl,ah Tryz.type173,rfl⟩
instance:ZeroC Tryz.prog 173 ([Value.int IntKind.u8 0,Value.int IntKind.i64 0,Value.string { data:= #[] }]):=⟨_,_,ah Tryz.type173,rfl,rfl⟩
instance:Struct Tryz.prog 173 [(0,1),(1,1),(2,1)] ([Value.int IntKind.u8 0,Value.int IntKind.i64 0,Value.string { data:= #[] }]):=⟨_,_,_,ah Tryz.type173,Tryz.underlying173,rfl,by simp only [XV,X5,ah Tryz.type2,ah Tryz.type5,ah Tryz.type9];rfl,rfl⟩
instance:Fld Tryz.prog 173 0 0:=⟨_,_,_,Tryz.underlying173,rfl,rfl,ah Tryz.type5,by decide⟩
instance:Fld Tryz.prog 173 1 1:=⟨_,_,_,Tryz.underlying173,rfl,rfl,ah Tryz.type2,by decide⟩
instance:Fld Tryz.prog 173 2 2:=⟨_,_,_,Tryz.underlying173,rfl,rfl,ah Tryz.type9,by decide⟩
instance:Und Tryz.prog 174 (TypeDesc.slice 283):=⟨Tryz.underlying174⟩
instance:Size Tryz.prog 174 1:=⟨_,ah Tryz.type174,rfl⟩
instance:One Tryz.prog 174:=⟨_,Tryz.underlying174,rfl⟩
instance:ZeroC Tryz.prog 174 ([Value.slice none 0 0]):=⟨_,_,ah Tryz.type174,rfl,rfl⟩
instance:Size Tryz.prog 176 5:=⟨_,ah Tryz.type176,rfl⟩
instance:Agg Tryz.prog 176 5:=⟨_,_,Tryz.underlying176,rfl,ah Tryz.type176,rfl⟩
instance:ZeroC Tryz.prog 176 ([Value.bool false,Value.int IntKind.u8 0,Value.int IntKind.i64 0,Value.string { data:= #[] },Value.slice none 0 0]):=⟨_,_,ah Tryz.type176,rfl,rfl⟩
instance:Struct Tryz.prog 176 [(0,1),(1,3),(4,1)] ([Value.bool false,Value.int IntKind.u8 0,Value.int IntKind.i64 0,Value.string { data:= #[] },Value.slice none 0 0]):=⟨_,_,_,ah Tryz.type176,Tryz.underlying176,rfl,by simp only [XV,X5,ah Tryz.type173,ah Tryz.type174,ah Tryz.type4];rfl,rfl⟩
instance:Fld Tryz.prog 176 0 0:=⟨_,_,_,Tryz.underlying176,rfl,rfl,ah Tryz.type4,by decide⟩
instance:Fld Tryz.prog 176 2 4:=⟨_,_,_,Tryz.underlying176,rfl,rfl,ah Tryz.type174,by decide⟩
instance:Zero Tryz.prog 182 (Value.agg #[Value.slice none 0 0,Value.slice none 0 0]):=⟨_,ah Tryz.type182,rfl⟩
instance:Struct Tryz.prog 182 [(0,1),(1,1)] ([Value.slice none 0 0,Value.slice none 0 0]):=⟨_,_,_,ah Tryz.type182,Tryz.underlying182,rfl,by simp only [XV,X5,ah Tryz.type156,ah Tryz.type174];rfl,rfl⟩
instance:Struct Tryz.prog 210 [(0,1),(1,1),(2,4),(6,1),(7,3),(10,1),(11,1),(12,1)] ([Value.int IntKind.u8 0,Value.int IntKind.i64 0,Value.int IntKind.i64 0,Value.int IntKind.i64 0,Value.int IntKind.i64 0,Value.int IntKind.i64 0,Value.string { data:= #[] },Value.int IntKind.u64 0,Value.int IntKind.u64 0,Value.int IntKind.u64 0,Value.int IntKind.u8 0,Value.int IntKind.u64 0,Value.int IntKind.i64 0]):=⟨_,_,_,ah Tryz.type210,Tryz.underlying210,rfl,by simp only [XV,X5,ah Tryz.type135,ah Tryz.type3,ah Tryz.type31,ah Tryz.type5,ah Tryz.type57,ah Tryz.type9];rfl,rfl⟩
instance:Fld Tryz.prog 210 0 0:=⟨_,_,_,Tryz.underlying210,rfl,rfl,ah Tryz.type5,by decide⟩
instance:Struct Tryz.prog 232 [(0,1),(1,4)] ([Value.int IntKind.u8 0,Value.int IntKind.i64 0,Value.int IntKind.i64 0,Value.int IntKind.i64 0,Value.int IntKind.i64 0]):=⟨_,_,_,ah Tryz.type232,Tryz.underlying232,rfl,by simp only [XV,X5,ah Tryz.type31,ah Tryz.type5];rfl,rfl⟩
instance:Und Tryz.prog 240 (TypeDesc.slice 244):=⟨Tryz.underlying240⟩
instance:Und Tryz.prog 242 (TypeDesc.array 2 3):=⟨Tryz.underlying242⟩
instance:Size Tryz.prog 242 2:=⟨_,ah Tryz.type242,rfl⟩
instance:Agg Tryz.prog 242 2:=⟨_,_,Tryz.underlying242,rfl,ah Tryz.type242,rfl⟩
instance:ZeroC Tryz.prog 242 ([Value.int IntKind.i64 0,Value.int IntKind.i64 0]):=⟨_,_,ah Tryz.type242,rfl,rfl⟩
instance:Elem Tryz.prog 242 2 16:=⟨_,_,ah Tryz.type242,rfl,rfl,rfl,rfl,by decide⟩
instance:Size Tryz.prog 244 6:=⟨_,ah Tryz.type244,rfl⟩
instance:Agg Tryz.prog 244 6:=⟨_,_,Tryz.underlying244,rfl,ah Tryz.type244,rfl⟩
instance:ZeroC Tryz.prog 244 ([Value.int IntKind.i64 0,Value.int IntKind.i64 0,Value.int IntKind.i64 0,Value.int IntKind.i64 0,Value.int IntKind.i64 0,Value.int IntKind.i64 0]):=⟨_,_,ah Tryz.type244,rfl,rfl⟩
instance:Elem Tryz.prog 244 6 48:=⟨_,_,ah Tryz.type244,rfl,rfl,rfl,rfl,by decide⟩
instance:Struct Tryz.prog 244 [(0,4),(4,2)] ([Value.int IntKind.i64 0,Value.int IntKind.i64 0,Value.int IntKind.i64 0,Value.int IntKind.i64 0,Value.int IntKind.i64 0,Value.int IntKind.i64 0]):=⟨_,_,_,ah Tryz.type244,Tryz.underlying244,rfl,by simp only [XV,X5,ah Tryz.type242,ah Tryz.type31];rfl,rfl⟩
instance:Fld Tryz.prog 244 0 0:=⟨_,_,_,Tryz.underlying244,rfl,rfl,ah Tryz.type31,by decide⟩
instance:Fld Tryz.prog 244 1 4:=⟨_,_,_,Tryz.underlying244,rfl,rfl,ah Tryz.type242,by decide⟩
instance:Size Tryz.prog 261 1:=⟨_,ah Tryz.type261,rfl⟩
instance:One Tryz.prog 261:=⟨_,Tryz.underlying261,rfl⟩
instance:Elem Tryz.prog 261 1 8:=⟨_,_,ah Tryz.type261,rfl,rfl,rfl,rfl,by decide⟩
instance:Und Tryz.prog 266 (TypeDesc.slice 261):=⟨Tryz.underlying266⟩
instance:Und Tryz.prog 268 (TypeDesc.slice 277):=⟨Tryz.underlying268⟩
instance:Size Tryz.prog 268 1:=⟨_,ah Tryz.type268,rfl⟩
instance:One Tryz.prog 268:=⟨_,Tryz.underlying268,rfl⟩
instance:Und Tryz.prog 272 (TypeDesc.struct #[{ name:= "at",type:=3,offset:=0,embedded:=false,tag:= "",pkgPath:= "louvre/parse",byteOffset:=0 },{ name:= "e",type:=37,offset:=1,embedded:=false,tag:= "",pkgPath:= "louvre/parse",byteOffset:=8 }]):=⟨Tryz.underlying272⟩
instance:Size Tryz.prog 272 2:=⟨_,ah Tryz.type272,rfl⟩
instance:ZeroC Tryz.prog 272 ([Value.int IntKind.i64 0,Value.int IntKind.i64 0]):=⟨_,_,ah Tryz.type272,rfl,rfl⟩
instance:Struct Tryz.prog 272 [(0,1),(1,1)] ([Value.int IntKind.i64 0,Value.int IntKind.i64 0]):=⟨_,_,_,ah Tryz.type272,Tryz.underlying272,rfl,by simp only [XV,X5,ah Tryz.type3,ah Tryz.type37];rfl,rfl⟩
instance:Fld Tryz.prog 272 0 0:=⟨_,_,_,Tryz.underlying272,rfl,rfl,ah Tryz.type3,by decide⟩
instance:Fld Tryz.prog 272 1 1:=⟨_,_,_,Tryz.underlying272,rfl,rfl,ah Tryz.type37,by decide⟩
instance:One Tryz.prog 273:=⟨_,Tryz.underlying273,rfl⟩
instance:Struct Tryz.prog 275 [(0,1),(1,1),(2,1)] ([Value.slice none 0 0,Value.int IntKind.i64 0,Value.slice none 0 0]):=⟨_,_,_,ah Tryz.type275,Tryz.underlying275,rfl,by simp only [XV,X5,ah Tryz.type174,ah Tryz.type268,ah Tryz.type3];rfl,rfl⟩
instance:Fld Tryz.prog 275 0 0:=⟨_,_,_,Tryz.underlying275,rfl,rfl,ah Tryz.type268,by decide⟩
instance:Fld Tryz.prog 275 1 1:=⟨_,_,_,Tryz.underlying275,rfl,rfl,ah Tryz.type3,by decide⟩
instance:Fld Tryz.prog 275 2 2:=⟨_,_,_,Tryz.underlying275,rfl,rfl,ah Tryz.type174,by decide⟩
instance:Size Tryz.prog 277 8:=⟨_,ah Tryz.type277,rfl⟩
instance:Agg Tryz.prog 277 8:=⟨_,_,Tryz.underlying277,rfl,ah Tryz.type277,rfl⟩
instance:ZeroC Tryz.prog 277 ([Value.int IntKind.u8 0,Value.int IntKind.i64 0,Value.string { data:= #[] },Value.int IntKind.i64 0,Value.int IntKind.i64 0,Value.int IntKind.i64 0,Value.int IntKind.i64 0,Value.int IntKind.i64 0]):=⟨_,_,ah Tryz.type277,rfl,rfl⟩
instance:Elem Tryz.prog 277 8 72:=⟨_,_,ah Tryz.type277,rfl,rfl,rfl,rfl,by decide⟩
instance:Struct Tryz.prog 277 [(0,1),(1,1),(2,1),(3,4),(7,1)] ([Value.int IntKind.u8 0,Value.int IntKind.i64 0,Value.string { data:= #[] },Value.int IntKind.i64 0,Value.int IntKind.i64 0,Value.int IntKind.i64 0,Value.int IntKind.i64 0,Value.int IntKind.i64 0]):=⟨_,_,_,ah Tryz.type277,Tryz.underlying277,rfl,by simp only [XV,X5,ah Tryz.type2,ah Tryz.type3,ah Tryz.type31,ah Tryz.type5,ah Tryz.type9];rfl,rfl⟩
instance:Fld Tryz.prog 277 0 0:=⟨_,_,_,Tryz.underlying277,rfl,rfl,ah Tryz.type5,by decide⟩
instance:Fld Tryz.prog 277 1 1:=⟨_,_,_,Tryz.underlying277,rfl,rfl,ah Tryz.type2,by decide⟩
instance:Fld Tryz.prog 277 2 2:=⟨_,_,_,Tryz.underlying277,rfl,rfl,ah Tryz.type9,by decide⟩
instance:Fld Tryz.prog 277 3 3:=⟨_,_,_,Tryz.underlying277,rfl,rfl,ah Tryz.type31,by decide⟩
instance:Fld Tryz.prog 277 4 7:=⟨_,_,_,Tryz.underlying277,rfl,rfl,ah Tryz.type3,by decide⟩
instance:Size Tryz.prog 283 11:=⟨_,ah Tryz.type283,rfl⟩
instance:Agg Tryz.prog 283 11:=⟨_,_,Tryz.underlying283,rfl,ah Tryz.type283,rfl⟩
instance:ZeroC Tryz.prog 283 ([Value.int IntKind.u8 0,Value.int IntKind.u8 0,Value.int IntKind.i64 0,Value.string { data:= #[] },Value.int IntKind.i64 0,Value.int IntKind.i64 0,Value.int IntKind.i64 0,Value.int IntKind.i64 0,Value.int IntKind.i64 0,Value.int IntKind.u8 0,Value.int IntKind.i64 0]):=⟨_,_,ah Tryz.type283,rfl,rfl⟩
instance:Elem Tryz.prog 283 11 96:=⟨_,_,ah Tryz.type283,rfl,rfl,rfl,rfl,by decide⟩
instance:Struct Tryz.prog 283 [(0,1),(1,3),(4,4),(8,1),(9,1),(10,1)] ([Value.int IntKind.u8 0,Value.int IntKind.u8 0,Value.int IntKind.i64 0,Value.string { data:= #[] },Value.int IntKind.i64 0,Value.int IntKind.i64 0,Value.int IntKind.i64 0,Value.int IntKind.i64 0,Value.int IntKind.i64 0,Value.int IntKind.u8 0,Value.int IntKind.i64 0]):=⟨_,_,_,ah Tryz.type283,Tryz.underlying283,rfl,by simp only [XV,X5,ah Tryz.type173,ah Tryz.type2,ah Tryz.type3,ah Tryz.type31,ah Tryz.type5];rfl,rfl⟩
instance:Fld Tryz.prog 283 0 0:=⟨_,_,_,Tryz.underlying283,rfl,rfl,ah Tryz.type5,by decide⟩
instance:Fld Tryz.prog 283 1 1:=⟨_,_,_,Tryz.underlying283,rfl,rfl,ah Tryz.type173,by decide⟩
instance:Fld Tryz.prog 283 2 4:=⟨_,_,_,Tryz.underlying283,rfl,rfl,ah Tryz.type31,by decide⟩
instance:Fld Tryz.prog 283 3 8:=⟨_,_,_,Tryz.underlying283,rfl,rfl,ah Tryz.type2,by decide⟩
instance:Fld Tryz.prog 283 4 9:=⟨_,_,_,Tryz.underlying283,rfl,rfl,ah Tryz.type5,by decide⟩
instance:Fld Tryz.prog 283 5 10:=⟨_,_,_,Tryz.underlying283,rfl,rfl,ah Tryz.type3,by decide⟩
instance:Und Tryz.prog 292 (TypeDesc.slice 242):=⟨Tryz.underlying292⟩
instance:Size Tryz.prog 292 1:=⟨_,ah Tryz.type292,rfl⟩
instance:One Tryz.prog 292:=⟨_,Tryz.underlying292,rfl⟩
instance:ZeroC Tryz.prog 292 ([Value.slice none 0 0]):=⟨_,_,ah Tryz.type292,rfl,rfl⟩
instance:Und Tryz.prog 318 (TypeDesc.slice 5):=⟨Tryz.underlying318⟩
instance:Agg Tryz.prog 324 3:=⟨_,_,Tryz.underlying324,rfl,ah Tryz.type324,rfl⟩
instance:Fld Tryz.prog 324 2 2:=⟨_,_,_,Tryz.underlying324,rfl,rfl,ah Tryz.type9,by decide⟩
instance:Und Tryz.prog 325 (TypeDesc.map 5 326):=⟨Tryz.underlying325⟩
instance:Zero Tryz.prog 326 (Value.nilFunc):=⟨_,ah Tryz.type326,rfl⟩
instance:Und Tryz.prog 329 (TypeDesc.array 8 9):=⟨Tryz.underlying329⟩
instance:Agg Tryz.prog 329 8:=⟨_,_,Tryz.underlying329,rfl,ah Tryz.type329,rfl⟩
instance:Struct Tryz.prog 335 [(0,1)] ([Value.string { data:= #[] }]):=⟨_,_,_,ah Tryz.type335,Tryz.underlying335,rfl,by simp only [XV,X5,ah Tryz.type9];rfl,rfl⟩
instance:Fld Tryz.prog 335 0 0:=⟨_,_,_,Tryz.underlying335,rfl,rfl,ah Tryz.type9,by decide⟩
instance:Size Tryz.prog 336 1:=⟨_,ah Tryz.type336,rfl⟩
instance:One Tryz.prog 336:=⟨_,Tryz.underlying336,rfl⟩
instance:Und Tryz.prog 337 (TypeDesc.array 5 336):=⟨Tryz.underlying337⟩
instance:Size Tryz.prog 337 5:=⟨_,ah Tryz.type337,rfl⟩
instance:Agg Tryz.prog 337 5:=⟨_,_,Tryz.underlying337,rfl,ah Tryz.type337,rfl⟩
instance:ZeroC Tryz.prog 337 ([Value.nilFunc,Value.nilFunc,Value.nilFunc,Value.nilFunc,Value.nilFunc]):=⟨_,_,ah Tryz.type337,rfl,rfl⟩
instance:One Tryz.prog 358:=⟨_,Tryz.underlying358,rfl⟩
instance:Und Tryz.prog 367 (TypeDesc.slice 9):=⟨Tryz.underlying367⟩
instance:Und Tryz.prog 368 (TypeDesc.slice 2):=⟨Tryz.underlying368⟩
instance:Und Tryz.prog 374 (TypeDesc.slice 379):=⟨Tryz.underlying374⟩
instance:Size Tryz.prog 379 3:=⟨_,ah Tryz.type379,rfl⟩
instance:Agg Tryz.prog 379 3:=⟨_,_,Tryz.underlying379,rfl,ah Tryz.type379,rfl⟩
instance:ZeroC Tryz.prog 379 ([Value.int IntKind.i64 0,Value.int IntKind.i64 0,Value.bool false]):=⟨_,_,ah Tryz.type379,rfl,rfl⟩
instance:Elem Tryz.prog 379 3 24:=⟨_,_,ah Tryz.type379,rfl,rfl,rfl,rfl,by decide⟩
instance:Struct Tryz.prog 379 [(0,1),(1,1),(2,1)] ([Value.int IntKind.i64 0,Value.int IntKind.i64 0,Value.bool false]):=⟨_,_,_,ah Tryz.type379,Tryz.underlying379,rfl,by simp only [XV,X5,ah Tryz.type3,ah Tryz.type4];rfl,rfl⟩
instance:Fld Tryz.prog 379 0 0:=⟨_,_,_,Tryz.underlying379,rfl,rfl,ah Tryz.type3,by decide⟩
instance:Fld Tryz.prog 379 1 1:=⟨_,_,_,Tryz.underlying379,rfl,rfl,ah Tryz.type3,by decide⟩
instance:Fld Tryz.prog 379 2 2:=⟨_,_,_,Tryz.underlying379,rfl,rfl,ah Tryz.type4,by decide⟩
instance:Size Tryz.prog 388 5:=⟨_,ah Tryz.type388,rfl⟩
instance:Agg Tryz.prog 388 5:=⟨_,_,Tryz.underlying388,rfl,ah Tryz.type388,rfl⟩
instance:ZeroC Tryz.prog 388 ([Value.int IntKind.i64 0,Value.int IntKind.i64 0,Value.int IntKind.i64 0,Value.int IntKind.i64 0,Value.bool false]):=⟨_,_,ah Tryz.type388,rfl,rfl⟩
instance:Struct Tryz.prog 388 [(0,2),(2,2),(4,1)] ([Value.int IntKind.i64 0,Value.int IntKind.i64 0,Value.int IntKind.i64 0,Value.int IntKind.i64 0,Value.bool false]):=⟨_,_,_,ah Tryz.type388,Tryz.underlying388,rfl,by simp only [XV,X5,ah Tryz.type242,ah Tryz.type4];rfl,rfl⟩
instance:Fld Tryz.prog 388 0 0:=⟨_,_,_,Tryz.underlying388,rfl,rfl,ah Tryz.type242,by decide⟩
instance:Fld Tryz.prog 388 1 2:=⟨_,_,_,Tryz.underlying388,rfl,rfl,ah Tryz.type242,by decide⟩
instance:Fld Tryz.prog 388 2 4:=⟨_,_,_,Tryz.underlying388,rfl,rfl,ah Tryz.type4,by decide⟩
instance:Und Tryz.prog 405 (TypeDesc.array 50 9):=⟨Tryz.underlying405⟩
instance:Size Tryz.prog 405 50:=⟨_,ah Tryz.type405,rfl⟩
instance:Agg Tryz.prog 405 50:=⟨_,_,Tryz.underlying405,rfl,ah Tryz.type405,rfl⟩
instance:ZeroC Tryz.prog 405 ([Value.string { data:= #[] },Value.string { data:= #[] },Value.string { data:= #[] },Value.string { data:= #[] },Value.string { data:= #[] },Value.string { data:= #[] },Value.string { data:= #[] },Value.string { data:= #[] },Value.string { data:= #[] },Value.string { data:= #[] },Value.string { data:= #[] },Value.string { data:= #[] },Value.string { data:= #[] },Value.string { data:= #[] },Value.string { data:= #[] },Value.string { data:= #[] },Value.string { data:= #[] },Value.string { data:= #[] },Value.string { data:= #[] },Value.string { data:= #[] },Value.string { data:= #[] },Value.string { data:= #[] },Value.string { data:= #[] },Value.string { data:= #[] },Value.string { data:= #[] },Value.string { data:= #[] },Value.string { data:= #[] },Value.string { data:= #[] },Value.string { data:= #[] },Value.string { data:= #[] },Value.string { data:= #[] },Value.string { data:= #[] },Value.string { data:= #[] },Value.string { data:= #[] },Value.string { data:= #[] },Value.string { data:= #[] },Value.string { data:= #[] },Value.string { data:= #[] },Value.string { data:= #[] },Value.string { data:= #[] },Value.string { data:= #[] },Value.string { data:= #[] },Value.string { data:= #[] },Value.string { data:= #[] },Value.string { data:= #[] },Value.string { data:= #[] },Value.string { data:= #[] },Value.string { data:= #[] },Value.string { data:= #[] },Value.string { data:= #[] }]):=⟨_,_,ah Tryz.type405,rfl,rfl⟩
instance:Callable Tryz.prog 9:=⟨fun args w=>Tryz.call9 args w⟩
instance:Callable Tryz.prog 13:=⟨fun args w=>Tryz.call13 args w⟩
instance:Callable Tryz.prog 21:=⟨fun args w=>Tryz.call21 args w⟩
instance:Callable Tryz.prog 22:=⟨fun args w=>Tryz.call22 args w⟩
instance:Callable Tryz.prog 24:=⟨fun args w=>Tryz.call24 args w⟩
instance:Callable Tryz.prog 25:=⟨fun args w=>Tryz.call25 args w⟩
instance:Callable Tryz.prog 28:=⟨fun args w=>Tryz.call28 args w⟩
instance:Callable Tryz.prog 35:=⟨fun args w=>Tryz.call35 args w⟩
instance:Callable Tryz.prog 47:=⟨fun args w=>Tryz.call47 args w⟩
instance:Callable Tryz.prog 48:=⟨fun args w=>Tryz.call48 args w⟩
instance:Callable Tryz.prog 49:=⟨fun args w=>Tryz.call49 args w⟩
instance:Callable Tryz.prog 50:=⟨fun args w=>Tryz.call50 args w⟩
instance:Callable Tryz.prog 51:=⟨fun args w=>Tryz.call51 args w⟩
instance:Callable Tryz.prog 54:=⟨fun args w=>Tryz.call54 args w⟩
instance:Callable Tryz.prog 55:=⟨fun args w=>Tryz.call55 args w⟩
instance:Callable Tryz.prog 58:=⟨fun args w=>Tryz.call58 args w⟩
instance:Callable Tryz.prog 59:=⟨fun args w=>Tryz.call59 args w⟩
instance:Callable Tryz.prog 60:=⟨fun args w=>Tryz.call60 args w⟩
instance:Callable Tryz.prog 64:=⟨fun args w=>Tryz.call64 args w⟩
instance:Callable Tryz.prog 65:=⟨fun args w=>Tryz.call65 args w⟩
instance:Callable Tryz.prog 68:=⟨fun args w=>Tryz.call68 args w⟩
instance:Callable Tryz.prog 69:=⟨fun args w=>Tryz.call69 args w⟩
instance:Callable Tryz.prog 70:=⟨fun args w=>Tryz.call70 args w⟩
instance:Callable Tryz.prog 78:=⟨fun args w=>Tryz.call78 args w⟩
instance:Callable Tryz.prog 89:=⟨fun args w=>Tryz.call89 args w⟩
instance:Callable Tryz.prog 90:=⟨fun args w=>Tryz.call90 args w⟩
instance:Callable Tryz.prog 91:=⟨fun args w=>Tryz.call91 args w⟩
instance:Callable Tryz.prog 92:=⟨fun args w=>Tryz.call92 args w⟩
instance:Callable Tryz.prog 93:=⟨fun args w=>Tryz.call93 args w⟩
instance:Callable Tryz.prog 94:=⟨fun args w=>Tryz.call94 args w⟩
instance:Callable Tryz.prog 95:=⟨fun args w=>Tryz.call95 args w⟩
instance:Callable Tryz.prog 96:=⟨fun args w=>Tryz.call96 args w⟩
instance:Callable Tryz.prog 111:=⟨fun args w=>Tryz.call111 args w⟩
instance:Callable Tryz.prog 112:=⟨fun args w=>Tryz.call112 args w⟩
instance:Callable Tryz.prog 113:=⟨fun args w=>Tryz.call113 args w⟩
instance:Callable Tryz.prog 117:=⟨fun args w=>Tryz.call117 args w⟩
instance:Callable Tryz.prog 119:=⟨fun args w=>Tryz.call119 args w⟩
instance:Callable Tryz.prog 120:=⟨fun args w=>Tryz.call120 args w⟩
instance:Callable Tryz.prog 124:=⟨fun args w=>Tryz.call124 args w⟩
instance:Callable Tryz.prog 125:=⟨fun args w=>Tryz.call125 args w⟩
instance:Callable Tryz.prog 126:=⟨fun args w=>Tryz.call126 args w⟩
instance:Callable Tryz.prog 127:=⟨fun args w=>Tryz.call127 args w⟩
instance:Callable Tryz.prog 128:=⟨fun args w=>Tryz.call128 args w⟩
instance:Callable Tryz.prog 129:=⟨fun args w=>Tryz.call129 args w⟩
instance:Callable Tryz.prog 131:=⟨fun args w=>Tryz.call131 args w⟩
instance:Callable Tryz.prog 132:=⟨fun args w=>Tryz.call132 args w⟩
instance:Callable Tryz.prog 133:=⟨fun args w=>Tryz.call133 args w⟩
instance:Callable Tryz.prog 134:=⟨fun args w=>Tryz.call134 args w⟩
instance:Callable Tryz.prog 138:=⟨fun args w=>Tryz.call138 args w⟩
instance:Callable Tryz.prog 139:=⟨fun args w=>Tryz.call139 args w⟩
instance:Callable Tryz.prog 154:=⟨fun args w=>Tryz.call154 args w⟩
instance:Callable Tryz.prog 155:=⟨fun args w=>Tryz.call155 args w⟩
instance:Callable Tryz.prog 156:=⟨fun args w=>Tryz.call156 args w⟩
instance:Callable Tryz.prog 157:=⟨fun args w=>Tryz.call157 args w⟩
instance:Callable Tryz.prog 158:=⟨fun args w=>Tryz.call158 args w⟩
instance:Callable Tryz.prog 159:=⟨fun args w=>Tryz.call159 args w⟩
instance:Callable Tryz.prog 160:=⟨fun args w=>Tryz.call160 args w⟩
instance:Callable Tryz.prog 161:=⟨fun args w=>Tryz.call161 args w⟩
instance:Callable Tryz.prog 162:=⟨fun args w=>Tryz.call162 args w⟩
instance:Callable Tryz.prog 163:=⟨fun args w=>Tryz.call163 args w⟩
instance:Callable Tryz.prog 164:=⟨fun args w=>Tryz.call164 args w⟩
instance:Callable Tryz.prog 165:=⟨fun args w=>Tryz.call165 args w⟩
instance:Callable Tryz.prog 166:=⟨fun args w=>Tryz.call166 args w⟩
instance:Callable Tryz.prog 167:=⟨fun args w=>Tryz.call167 args w⟩
instance:Callable Tryz.prog 168:=⟨fun args w=>Tryz.call168 args w⟩
instance:Callable Tryz.prog 169:=⟨fun args w=>Tryz.call169 args w⟩
instance:Callable Tryz.prog 170:=⟨fun args w=>Tryz.call170 args w⟩
instance:Callable Tryz.prog 171:=⟨fun args w=>Tryz.call171 args w⟩
instance:Callable Tryz.prog 172:=⟨fun args w=>Tryz.call172 args w⟩
instance:Callable Tryz.prog 173:=⟨fun args w=>Tryz.call173 args w⟩
instance:Callable Tryz.prog 174:=⟨fun args w=>Tryz.call174 args w⟩
instance:Callable Tryz.prog 175:=⟨fun args w=>Tryz.call175 args w⟩
instance:Callable Tryz.prog 176:=⟨fun args w=>Tryz.call176 args w⟩
instance:Callable Tryz.prog 177:=⟨fun args w=>Tryz.call177 args w⟩
instance:Callable Tryz.prog 178:=⟨fun args w=>Tryz.call178 args w⟩
instance:Callable Tryz.prog 187:=⟨fun args w=>Tryz.call187 args w⟩
instance:Callable Tryz.prog 188:=⟨fun args w=>Tryz.call188 args w⟩
instance:Callable Tryz.prog 189:=⟨fun args w=>Tryz.call189 args w⟩
instance:Callable Tryz.prog 190:=⟨fun args w=>Tryz.call190 args w⟩
instance:Callable Tryz.prog 191:=⟨fun args w=>Tryz.call191 args w⟩
instance:Callable Tryz.prog 213:=⟨fun args w=>Tryz.call213 args w⟩
instance:Callable Tryz.prog 214:=⟨fun args w=>Tryz.call214 args w⟩
instance:Callable Tryz.prog 215:=⟨fun args w=>Tryz.call215 args w⟩
instance:Callable Tryz.prog 216:=⟨fun args w=>Tryz.call216 args w⟩
instance:Callable Tryz.prog 217:=⟨fun args w=>Tryz.call217 args w⟩
instance:Callable Tryz.prog 218:=⟨fun args w=>Tryz.call218 args w⟩
instance:Callable Tryz.prog 219:=⟨fun args w=>Tryz.call219 args w⟩
instance:Callable Tryz.prog 220:=⟨fun args w=>Tryz.call220 args w⟩
instance:Callable Tryz.prog 221:=⟨fun args w=>Tryz.call221 args w⟩
instance:Callable Tryz.prog 222:=⟨fun args w=>Tryz.call222 args w⟩
instance:Callable Tryz.prog 225:=⟨fun args w=>Tryz.call225 args w⟩
instance:Callable Tryz.prog 226:=⟨fun args w=>Tryz.call226 args w⟩
instance:Callable Tryz.prog 227:=⟨fun args w=>Tryz.call227 args w⟩
instance:Callable Tryz.prog 228:=⟨fun args w=>Tryz.call228 args w⟩
instance:Callable Tryz.prog 229:=⟨fun args w=>Tryz.call229 args w⟩
instance:Callable Tryz.prog 230:=⟨fun args w=>Tryz.call230 args w⟩
instance:Callable Tryz.prog 231:=⟨fun args w=>Tryz.call231 args w⟩
instance:Callable Tryz.prog 232:=⟨fun args w=>Tryz.call232 args w⟩
instance:Callable Tryz.prog 233:=⟨fun args w=>Tryz.call233 args w⟩
instance:Callable Tryz.prog 234:=⟨fun args w=>Tryz.call234 args w⟩
instance:Callable Tryz.prog 235:=⟨fun args w=>Tryz.call235 args w⟩
instance:Callable Tryz.prog 239:=⟨fun args w=>Tryz.call239 args w⟩
instance:Callable Tryz.prog 240:=⟨fun args w=>Tryz.call240 args w⟩
instance:Callable Tryz.prog 248:=⟨fun args w=>Tryz.call248 args w⟩
instance:Callable Tryz.prog 249:=⟨fun args w=>Tryz.call249 args w⟩
instance:Callable Tryz.prog 250:=⟨fun args w=>Tryz.call250 args w⟩
instance:Callable Tryz.prog 251:=⟨fun args w=>Tryz.call251 args w⟩
instance:Callable Tryz.prog 252:=⟨fun args w=>Tryz.call252 args w⟩
instance:Callable Tryz.prog 253:=⟨fun args w=>Tryz.call253 args w⟩
instance:Callable Tryz.prog 254:=⟨fun args w=>Tryz.call254 args w⟩
instance:Callable Tryz.prog 255:=⟨fun args w=>Tryz.call255 args w⟩
instance:Callable Tryz.prog 256:=⟨fun args w=>Tryz.call256 args w⟩
instance:Callable Tryz.prog 257:=⟨fun args w=>Tryz.call257 args w⟩
instance:Callable Tryz.prog 258:=⟨fun args w=>Tryz.call258 args w⟩
instance:Callable Tryz.prog 259:=⟨fun args w=>Tryz.call259 args w⟩
instance:Callable Tryz.prog 260:=⟨fun args w=>Tryz.call260 args w⟩
instance:Callable Tryz.prog 261:=⟨fun args w=>Tryz.call261 args w⟩
instance:Callable Tryz.prog 262:=⟨fun args w=>Tryz.call262 args w⟩
instance:Callable Tryz.prog 263:=⟨fun args w=>Tryz.call263 args w⟩
instance:Callable Tryz.prog 264:=⟨fun args w=>Tryz.call264 args w⟩
instance:Callable Tryz.prog 265:=⟨fun args w=>Tryz.call265 args w⟩
instance:Callable Tryz.prog 266:=⟨fun args w=>Tryz.call266 args w⟩
instance:Callable Tryz.prog 267:=⟨fun args w=>Tryz.call267 args w⟩
instance:Callable Tryz.prog 268:=⟨fun args w=>Tryz.call268 args w⟩
instance:Callable Tryz.prog 269:=⟨fun args w=>Tryz.call269 args w⟩
instance:Callable Tryz.prog 270:=⟨fun args w=>Tryz.call270 args w⟩
instance:Callable Tryz.prog 272:=⟨fun args w=>Tryz.call272 args w⟩
instance:Callable Tryz.prog 273:=⟨fun args w=>Tryz.call273 args w⟩
instance:Callable Tryz.prog 276:=⟨fun args w=>Tryz.call276 args w⟩
instance:Callable Tryz.prog 277:=⟨fun args w=>Tryz.call277 args w⟩
instance:Callable Tryz.prog 278:=⟨fun args w=>Tryz.call278 args w⟩
instance:Callable Tryz.prog 279:=⟨fun args w=>Tryz.call279 args w⟩
instance:Callable Tryz.prog 281:=⟨fun args w=>Tryz.call281 args w⟩
instance:Callable Tryz.prog 282:=⟨fun args w=>Tryz.call282 args w⟩
instance:Callable Tryz.prog 283:=⟨fun args w=>Tryz.call283 args w⟩
instance:Callable Tryz.prog 284:=⟨fun args w=>Tryz.call284 args w⟩
instance:Callable Tryz.prog 285:=⟨fun args w=>Tryz.call285 args w⟩
instance:Callable Tryz.prog 287:=⟨fun args w=>Tryz.call287 args w⟩
instance:Callable Tryz.prog 288:=⟨fun args w=>Tryz.call288 args w⟩
instance:Callable Tryz.prog 292:=⟨fun args w=>Tryz.call292 args w⟩
instance:Callable Tryz.prog 293:=⟨fun args w=>Tryz.call293 args w⟩
instance:Callable Tryz.prog 296:=⟨fun args w=>Tryz.call296 args w⟩
instance:Callable Tryz.prog 297:=⟨fun args w=>Tryz.call297 args w⟩
instance:Callable Tryz.prog 298:=⟨fun args w=>Tryz.call298 args w⟩
instance:Callable Tryz.prog 301:=⟨fun args w=>Tryz.call301 args w⟩
instance:Callable Tryz.prog 302:=⟨fun args w=>Tryz.call302 args w⟩
instance:Callable Tryz.prog 303:=⟨fun args w=>Tryz.call303 args w⟩
instance:Callable Tryz.prog 304:=⟨fun args w=>Tryz.call304 args w⟩
attribute [local irreducible] FnAt FnIn VOp W WA WG WL WQ aY blk thn
theorem qx {α:Type} [DecidableEq α] {L M:List α} {i:Nat} (h1:i<L.length) (h2:i<M.length):decide (L.drop i=M.drop i)=(decide (L[i]=M[i]) && decide (L.drop (i+1)=M.drop (i+1))):=by
 rw [XC h1,XC h2];simp only [List.cons.injEq,Bool.decide_and]
end Go.SL
