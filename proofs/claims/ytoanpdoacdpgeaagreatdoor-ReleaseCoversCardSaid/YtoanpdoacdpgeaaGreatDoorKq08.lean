/-
  Lemmas and walks, put together: Ty.
-/
import Derived.Test.YtoanpdoacdpgeaaGreatDoorKq02
set_option linter.unusedSimpArgs false
set_option linter.unusedVariables false
set_option maxRecDepth 20000
namespace Go.SL
open Go Go.Proofs
theorem ai {P:Program} {t:Nat} {i:TypeInfo} (h:P.toTables.types[t]? =some i):P.info? t=some i:=by
 have hl:=(RI.1 h).1
 simp only [Tables.info?,hl,if_true]
 exact h
instance:Und Tryz.prog 2 (TypeDesc.int IntKind.i64):=⟨Tryz.underlying2⟩
instance:Size Tryz.prog 2 1:=⟨_,ai Tryz.type2,rfl⟩
instance:One Tryz.prog 2:=⟨_,Tryz.underlying2,rfl⟩
instance:Elem Tryz.prog 2 1 8:=⟨_,_,ai Tryz.type2,rfl,rfl,rfl,rfl,by decide⟩
instance:Und Tryz.prog 3 (TypeDesc.int IntKind.i64):=⟨Tryz.underlying3⟩
instance:Size Tryz.prog 3 1:=⟨_,ai Tryz.type3,rfl⟩
instance:One Tryz.prog 3:=⟨_,Tryz.underlying3,rfl⟩
instance:Zero Tryz.prog 3 (Value.int IntKind.i64 0):=⟨_,ai Tryz.type3,rfl⟩
instance:ZeroC Tryz.prog 3 ([Value.int IntKind.i64 0]):=⟨_,_,ai Tryz.type3,rfl,rfl⟩
instance:Elem Tryz.prog 3 1 8:=⟨_,_,ai Tryz.type3,rfl,rfl,rfl,rfl,by decide⟩
instance:Und Tryz.prog 4 (TypeDesc.bool):=⟨Tryz.underlying4⟩
instance:Size Tryz.prog 4 1:=⟨_,ai Tryz.type4,rfl⟩
instance:One Tryz.prog 4:=⟨_,Tryz.underlying4,rfl⟩
instance:Zero Tryz.prog 4 (Value.bool false):=⟨_,ai Tryz.type4,rfl⟩
instance:ZeroC Tryz.prog 4 ([Value.bool false]):=⟨_,_,ai Tryz.type4,rfl,rfl⟩
instance:Und Tryz.prog 5 (TypeDesc.int IntKind.u8):=⟨Tryz.underlying5⟩
instance:Size Tryz.prog 5 1:=⟨_,ai Tryz.type5,rfl⟩
instance:One Tryz.prog 5:=⟨_,Tryz.underlying5,rfl⟩
instance:Elem Tryz.prog 5 1 1:=⟨_,_,ai Tryz.type5,rfl,rfl,rfl,rfl,by decide⟩
instance:Und Tryz.prog 9 (TypeDesc.string):=⟨Tryz.underlying9⟩
instance:Size Tryz.prog 9 1:=⟨_,ai Tryz.type9,rfl⟩
instance:One Tryz.prog 9:=⟨_,Tryz.underlying9,rfl⟩
instance:Elem Tryz.prog 9 1 16:=⟨_,_,ai Tryz.type9,rfl,rfl,rfl,rfl,by decide⟩
instance:Und Tryz.prog 20 (TypeDesc.interface #[]):=⟨Tryz.underlying20⟩
instance:Und Tryz.prog 22 (TypeDesc.slice 52):=⟨Tryz.underlying22⟩
instance:Size Tryz.prog 22 1:=⟨_,ai Tryz.type22,rfl⟩
instance:One Tryz.prog 22:=⟨_,Tryz.underlying22,rfl⟩
instance:Und Tryz.prog 23 (TypeDesc.slice 54):=⟨Tryz.underlying23⟩
instance:Size Tryz.prog 23 1:=⟨_,ai Tryz.type23,rfl⟩
instance:One Tryz.prog 23:=⟨_,Tryz.underlying23,rfl⟩
instance:Und Tryz.prog 24 (TypeDesc.slice 56):=⟨Tryz.underlying24⟩
instance:Size Tryz.prog 24 1:=⟨_,ai Tryz.type24,rfl⟩
instance:One Tryz.prog 24:=⟨_,Tryz.underlying24,rfl⟩
instance:Und Tryz.prog 25 (TypeDesc.slice 58):=⟨Tryz.underlying25⟩
instance:Size Tryz.prog 25 1:=⟨_,ai Tryz.type25,rfl⟩
instance:One Tryz.prog 25:=⟨_,Tryz.underlying25,rfl⟩
instance:Und Tryz.prog 26 (TypeDesc.slice 62):=⟨Tryz.underlying26⟩
instance:Size Tryz.prog 26 1:=⟨_,ai Tryz.type26,rfl⟩
instance:One Tryz.prog 26:=⟨_,Tryz.underlying26,rfl⟩
instance:Size Tryz.prog 28 7:=⟨_,ai Tryz.type28,rfl⟩
instance:Agg Tryz.prog 28 7:=⟨_,_,Tryz.underlying28,rfl,ai Tryz.type28,rfl⟩
instance:ZeroC Tryz.prog 28 ([Value.int IntKind.i64 0,Value.slice none 0 0,Value.slice none 0 0,Value.slice none 0 0,Value.slice none 0 0,Value.slice none 0 0,Value.int IntKind.i64 0]):=⟨_,_,ai Tryz.type28,rfl,rfl⟩
instance:Struct Tryz.prog 28 [(0,1),(1,1),(2,1),(3,1),(4,1),(5,1),(6,1)] ([Value.int IntKind.i64 0,Value.slice none 0 0,Value.slice none 0 0,Value.slice none 0 0,Value.slice none 0 0,Value.slice none 0 0,Value.int IntKind.i64 0]):=⟨_,_,_,ai Tryz.type28,Tryz.underlying28,rfl,by simp only [RF,RJ,ai Tryz.type22,ai Tryz.type23,ai Tryz.type24,ai Tryz.type25,ai Tryz.type26,ai Tryz.type3];rfl,rfl⟩
instance:Fld Tryz.prog 28 0 0:=⟨_,_,_,Tryz.underlying28,rfl,rfl,ai Tryz.type3,by decide⟩
instance:Fld Tryz.prog 28 1 1:=⟨_,_,_,Tryz.underlying28,rfl,rfl,ai Tryz.type22,by decide⟩
instance:Fld Tryz.prog 28 2 2:=⟨_,_,_,Tryz.underlying28,rfl,rfl,ai Tryz.type23,by decide⟩
instance:Fld Tryz.prog 28 3 3:=⟨_,_,_,Tryz.underlying28,rfl,rfl,ai Tryz.type24,by decide⟩
instance:Fld Tryz.prog 28 4 4:=⟨_,_,_,Tryz.underlying28,rfl,rfl,ai Tryz.type25,by decide⟩
instance:Fld Tryz.prog 28 5 5:=⟨_,_,_,Tryz.underlying28,rfl,rfl,ai Tryz.type26,by decide⟩
instance:Fld Tryz.prog 28 6 6:=⟨_,_,_,Tryz.underlying28,rfl,rfl,ai Tryz.type3,by decide⟩
instance:Und Tryz.prog 29 (TypeDesc.slice 37):=⟨Tryz.underlying29⟩
instance:Size Tryz.prog 32 4:=⟨_,ai Tryz.type32,rfl⟩
instance:Agg Tryz.prog 32 4:=⟨_,_,Tryz.underlying32,rfl,ai Tryz.type32,rfl⟩
instance:ZeroC Tryz.prog 32 ([Value.int IntKind.i64 0,Value.int IntKind.i64 0,Value.int IntKind.i64 0,Value.int IntKind.i64 0]):=⟨_,_,ai Tryz.type32,rfl,rfl⟩
instance:Elem Tryz.prog 32 4 32:=⟨_,_,ai Tryz.type32,rfl,rfl,rfl,rfl,by decide⟩
instance:Struct Tryz.prog 32 [(0,1),(1,1),(2,1),(3,1)] ([Value.int IntKind.i64 0,Value.int IntKind.i64 0,Value.int IntKind.i64 0,Value.int IntKind.i64 0]):=⟨_,_,_,ai Tryz.type32,Tryz.underlying32,rfl,by simp only [RF,RJ,ai Tryz.type3];rfl,rfl⟩
instance:Fld Tryz.prog 32 0 0:=⟨_,_,_,Tryz.underlying32,rfl,rfl,ai Tryz.type3,by decide⟩
instance:Fld Tryz.prog 32 1 1:=⟨_,_,_,Tryz.underlying32,rfl,rfl,ai Tryz.type3,by decide⟩
instance:Fld Tryz.prog 32 2 2:=⟨_,_,_,Tryz.underlying32,rfl,rfl,ai Tryz.type3,by decide⟩
instance:Fld Tryz.prog 32 3 3:=⟨_,_,_,Tryz.underlying32,rfl,rfl,ai Tryz.type3,by decide⟩
instance:Und Tryz.prog 33 (TypeDesc.int IntKind.u64):=⟨Tryz.underlying33⟩
instance:Size Tryz.prog 33 1:=⟨_,ai Tryz.type33,rfl⟩
instance:One Tryz.prog 33:=⟨_,Tryz.underlying33,rfl⟩
instance:ZeroC Tryz.prog 33 ([Value.int IntKind.u64 0]):=⟨_,_,ai Tryz.type33,rfl,rfl⟩
instance:Elem Tryz.prog 33 1 8:=⟨_,_,ai Tryz.type33,rfl,rfl,rfl,rfl,by decide⟩
instance:Size Tryz.prog 35 3:=⟨_,ai Tryz.type35,rfl⟩
instance:Agg Tryz.prog 35 3:=⟨_,_,Tryz.underlying35,rfl,ai Tryz.type35,rfl⟩
instance:ZeroC Tryz.prog 35 ([Value.int IntKind.u64 0,Value.int IntKind.u64 0,Value.int IntKind.u64 0]):=⟨_,_,ai Tryz.type35,rfl,rfl⟩
instance:Struct Tryz.prog 35 [(0,1),(1,1),(2,1)] ([Value.int IntKind.u64 0,Value.int IntKind.u64 0,Value.int IntKind.u64 0]):=⟨_,_,_,ai Tryz.type35,Tryz.underlying35,rfl,by simp only [RF,RJ,ai Tryz.type33];rfl,rfl⟩
instance:Fld Tryz.prog 35 0 0:=⟨_,_,_,Tryz.underlying35,rfl,rfl,ai Tryz.type33,by decide⟩
instance:Fld Tryz.prog 35 1 1:=⟨_,_,_,Tryz.underlying35,rfl,rfl,ai Tryz.type33,by decide⟩
instance:Fld Tryz.prog 35 2 2:=⟨_,_,_,Tryz.underlying35,rfl,rfl,ai Tryz.type33,by decide⟩
instance:Size Tryz.prog 37 13:=⟨_,ai Tryz.type37,rfl⟩
instance:Agg Tryz.prog 37 13:=⟨_,_,Tryz.underlying37,rfl,ai Tryz.type37,rfl⟩
instance:ZeroC Tryz.prog 37 ([Value.int IntKind.u8 0,Value.int IntKind.i64 0,Value.int IntKind.i64 0,Value.int IntKind.i64 0,Value.int IntKind.i64 0,Value.int IntKind.i64 0,Value.string { data:= #[] },Value.int IntKind.u64 0,Value.int IntKind.u64 0,Value.int IntKind.u64 0,Value.int IntKind.u8 0,Value.int IntKind.u64 0,Value.int IntKind.i64 0]):=⟨_,_,ai Tryz.type37,rfl,rfl⟩
instance:Struct Tryz.prog 37 [(0,1),(1,1),(2,4),(6,1),(7,3),(10,1),(11,1),(12,1)] ([Value.int IntKind.u8 0,Value.int IntKind.i64 0,Value.int IntKind.i64 0,Value.int IntKind.i64 0,Value.int IntKind.i64 0,Value.int IntKind.i64 0,Value.string { data:= #[] },Value.int IntKind.u64 0,Value.int IntKind.u64 0,Value.int IntKind.u64 0,Value.int IntKind.u8 0,Value.int IntKind.u64 0,Value.int IntKind.i64 0]):=⟨_,_,_,ai Tryz.type37,Tryz.underlying37,rfl,by simp only [RF,RJ,ai Tryz.type3,ai Tryz.type32,ai Tryz.type33,ai Tryz.type35,ai Tryz.type5,ai Tryz.type9];rfl,rfl⟩
instance:Fld Tryz.prog 37 0 0:=⟨_,_,_,Tryz.underlying37,rfl,rfl,ai Tryz.type5,by decide⟩
instance:Fld Tryz.prog 37 1 1:=⟨_,_,_,Tryz.underlying37,rfl,rfl,ai Tryz.type3,by decide⟩
instance:Fld Tryz.prog 37 2 2:=⟨_,_,_,Tryz.underlying37,rfl,rfl,ai Tryz.type32,by decide⟩
instance:Fld Tryz.prog 37 3 6:=⟨_,_,_,Tryz.underlying37,rfl,rfl,ai Tryz.type9,by decide⟩
instance:Fld Tryz.prog 37 4 7:=⟨_,_,_,Tryz.underlying37,rfl,rfl,ai Tryz.type35,by decide⟩
instance:Fld Tryz.prog 37 5 10:=⟨_,_,_,Tryz.underlying37,rfl,rfl,ai Tryz.type5,by decide⟩
instance:Fld Tryz.prog 37 6 11:=⟨_,_,_,Tryz.underlying37,rfl,rfl,ai Tryz.type33,by decide⟩
instance:Fld Tryz.prog 37 7 12:=⟨_,_,_,Tryz.underlying37,rfl,rfl,ai Tryz.type3,by decide⟩
instance:Size Tryz.prog 39 1:=⟨_,ai Tryz.type39,rfl⟩
instance:One Tryz.prog 39:=⟨_,Tryz.underlying39,rfl⟩
instance:ZeroC Tryz.prog 39 ([Value.int IntKind.i64 0]):=⟨_,_,ai Tryz.type39,rfl,rfl⟩
instance:One Tryz.prog 43:=⟨_,Tryz.underlying43,rfl⟩
instance:Und Tryz.prog 45 (TypeDesc.slice 50):=⟨Tryz.underlying45⟩
instance:Size Tryz.prog 50 2:=⟨_,ai Tryz.type50,rfl⟩
instance:Agg Tryz.prog 50 2:=⟨_,_,Tryz.underlying50,rfl,ai Tryz.type50,rfl⟩
instance:ZeroC Tryz.prog 50 ([Value.int IntKind.i64 0,Value.int IntKind.i64 0]):=⟨_,_,ai Tryz.type50,rfl,rfl⟩
instance:Elem Tryz.prog 50 2 16:=⟨_,_,ai Tryz.type50,rfl,rfl,rfl,rfl,by decide⟩
instance:Struct Tryz.prog 50 [(0,1),(1,1)] ([Value.int IntKind.i64 0,Value.int IntKind.i64 0]):=⟨_,_,_,ai Tryz.type50,Tryz.underlying50,rfl,by simp only [RF,RJ,ai Tryz.type3];rfl,rfl⟩
instance:Fld Tryz.prog 50 0 0:=⟨_,_,_,Tryz.underlying50,rfl,rfl,ai Tryz.type3,by decide⟩
instance:Fld Tryz.prog 50 1 1:=⟨_,_,_,Tryz.underlying50,rfl,rfl,ai Tryz.type3,by decide⟩
instance:Size Tryz.prog 52 3:=⟨_,ai Tryz.type52,rfl⟩
instance:Agg Tryz.prog 52 3:=⟨_,_,Tryz.underlying52,rfl,ai Tryz.type52,rfl⟩
instance:Zero Tryz.prog 52 (Value.agg #[Value.int IntKind.i64 0,Value.int IntKind.i64 0,Value.string { data:= #[] }]):=⟨_,ai Tryz.type52,rfl⟩
instance:ZeroC Tryz.prog 52 ([Value.int IntKind.i64 0,Value.int IntKind.i64 0,Value.string { data:= #[] }]):=⟨_,_,ai Tryz.type52,rfl,rfl⟩
instance:Elem Tryz.prog 52 3 32:=⟨_,_,ai Tryz.type52,rfl,rfl,rfl,rfl,by decide⟩
instance:Struct Tryz.prog 52 [(0,2),(2,1)] ([Value.int IntKind.i64 0,Value.int IntKind.i64 0,Value.string { data:= #[] }]):=⟨_,_,_,ai Tryz.type52,Tryz.underlying52,rfl,by simp only [RF,RJ,ai Tryz.type50,ai Tryz.type9];rfl,rfl⟩
instance:Fld Tryz.prog 52 0 0:=⟨_,_,_,Tryz.underlying52,rfl,rfl,ai Tryz.type50,by decide⟩
instance:Fld Tryz.prog 52 1 2:=⟨_,_,_,Tryz.underlying52,rfl,rfl,ai Tryz.type9,by decide⟩
instance:Size Tryz.prog 54 7:=⟨_,ai Tryz.type54,rfl⟩
instance:Agg Tryz.prog 54 7:=⟨_,_,Tryz.underlying54,rfl,ai Tryz.type54,rfl⟩
instance:ZeroC Tryz.prog 54 ([Value.int IntKind.i64 0,Value.int IntKind.i64 0,Value.int IntKind.i64 0,Value.int IntKind.i64 0,Value.int IntKind.u64 0,Value.int IntKind.u64 0,Value.int IntKind.u64 0]):=⟨_,_,ai Tryz.type54,rfl,rfl⟩
instance:Elem Tryz.prog 54 7 56:=⟨_,_,ai Tryz.type54,rfl,rfl,rfl,rfl,by decide⟩
instance:Struct Tryz.prog 54 [(0,4),(4,3)] ([Value.int IntKind.i64 0,Value.int IntKind.i64 0,Value.int IntKind.i64 0,Value.int IntKind.i64 0,Value.int IntKind.u64 0,Value.int IntKind.u64 0,Value.int IntKind.u64 0]):=⟨_,_,_,ai Tryz.type54,Tryz.underlying54,rfl,by simp only [RF,RJ,ai Tryz.type32,ai Tryz.type35];rfl,rfl⟩
instance:Fld Tryz.prog 54 0 0:=⟨_,_,_,Tryz.underlying54,rfl,rfl,ai Tryz.type32,by decide⟩
instance:Fld Tryz.prog 54 1 4:=⟨_,_,_,Tryz.underlying54,rfl,rfl,ai Tryz.type35,by decide⟩
instance:Size Tryz.prog 56 8:=⟨_,ai Tryz.type56,rfl⟩
instance:Agg Tryz.prog 56 8:=⟨_,_,Tryz.underlying56,rfl,ai Tryz.type56,rfl⟩
instance:ZeroC Tryz.prog 56 ([Value.int IntKind.i64 0,Value.int IntKind.i64 0,Value.int IntKind.i64 0,Value.int IntKind.i64 0,Value.int IntKind.u8 0,Value.int IntKind.u64 0,Value.int IntKind.i64 0,Value.bool false]):=⟨_,_,ai Tryz.type56,rfl,rfl⟩
instance:Elem Tryz.prog 56 8 64:=⟨_,_,ai Tryz.type56,rfl,rfl,rfl,rfl,by decide⟩
instance:Struct Tryz.prog 56 [(0,4),(4,1),(5,1),(6,1),(7,1)] ([Value.int IntKind.i64 0,Value.int IntKind.i64 0,Value.int IntKind.i64 0,Value.int IntKind.i64 0,Value.int IntKind.u8 0,Value.int IntKind.u64 0,Value.int IntKind.i64 0,Value.bool false]):=⟨_,_,_,ai Tryz.type56,Tryz.underlying56,rfl,by simp only [RF,RJ,ai Tryz.type3,ai Tryz.type32,ai Tryz.type33,ai Tryz.type4,ai Tryz.type5];rfl,rfl⟩
instance:Fld Tryz.prog 56 0 0:=⟨_,_,_,Tryz.underlying56,rfl,rfl,ai Tryz.type32,by decide⟩
instance:Fld Tryz.prog 56 1 4:=⟨_,_,_,Tryz.underlying56,rfl,rfl,ai Tryz.type5,by decide⟩
instance:Fld Tryz.prog 56 2 5:=⟨_,_,_,Tryz.underlying56,rfl,rfl,ai Tryz.type33,by decide⟩
instance:Fld Tryz.prog 56 3 6:=⟨_,_,_,Tryz.underlying56,rfl,rfl,ai Tryz.type3,by decide⟩
instance:Fld Tryz.prog 56 4 7:=⟨_,_,_,Tryz.underlying56,rfl,rfl,ai Tryz.type4,by decide⟩
instance:Size Tryz.prog 58 9:=⟨_,ai Tryz.type58,rfl⟩
instance:Agg Tryz.prog 58 9:=⟨_,_,Tryz.underlying58,rfl,ai Tryz.type58,rfl⟩
instance:ZeroC Tryz.prog 58 ([Value.int IntKind.i64 0,Value.int IntKind.i64 0,Value.int IntKind.u8 0,Value.int IntKind.i64 0,Value.int IntKind.i64 0,Value.int IntKind.i64 0,Value.int IntKind.i64 0,Value.bool false,Value.int IntKind.u64 0]):=⟨_,_,ai Tryz.type58,rfl,rfl⟩
instance:Elem Tryz.prog 58 9 72:=⟨_,_,ai Tryz.type58,rfl,rfl,rfl,rfl,by decide⟩
instance:Struct Tryz.prog 58 [(0,1),(1,1),(2,1),(3,4),(7,1),(8,1)] ([Value.int IntKind.i64 0,Value.int IntKind.i64 0,Value.int IntKind.u8 0,Value.int IntKind.i64 0,Value.int IntKind.i64 0,Value.int IntKind.i64 0,Value.int IntKind.i64 0,Value.bool false,Value.int IntKind.u64 0]):=⟨_,_,_,ai Tryz.type58,Tryz.underlying58,rfl,by simp only [RF,RJ,ai Tryz.type3,ai Tryz.type32,ai Tryz.type33,ai Tryz.type4,ai Tryz.type5];rfl,rfl⟩
instance:Fld Tryz.prog 58 0 0:=⟨_,_,_,Tryz.underlying58,rfl,rfl,ai Tryz.type3,by decide⟩
instance:Fld Tryz.prog 58 1 1:=⟨_,_,_,Tryz.underlying58,rfl,rfl,ai Tryz.type3,by decide⟩
instance:Fld Tryz.prog 58 2 2:=⟨_,_,_,Tryz.underlying58,rfl,rfl,ai Tryz.type5,by decide⟩
instance:Fld Tryz.prog 58 3 3:=⟨_,_,_,Tryz.underlying58,rfl,rfl,ai Tryz.type32,by decide⟩
instance:Fld Tryz.prog 58 5 8:=⟨_,_,_,Tryz.underlying58,rfl,rfl,ai Tryz.type33,by decide⟩
instance:Agg Tryz.prog 60 3:=⟨_,_,Tryz.underlying60,rfl,ai Tryz.type60,rfl⟩
instance:Struct Tryz.prog 60 [(0,2),(2,1)] ([Value.int IntKind.i64 0,Value.int IntKind.i64 0,Value.int IntKind.i64 0]):=⟨_,_,_,ai Tryz.type60,Tryz.underlying60,rfl,by simp only [RF,RJ,ai Tryz.type3,ai Tryz.type50];rfl,rfl⟩
instance:Fld Tryz.prog 60 0 0:=⟨_,_,_,Tryz.underlying60,rfl,rfl,ai Tryz.type50,by decide⟩
instance:Fld Tryz.prog 60 1 2:=⟨_,_,_,Tryz.underlying60,rfl,rfl,ai Tryz.type3,by decide⟩
instance:Size Tryz.prog 62 11:=⟨_,ai Tryz.type62,rfl⟩
instance:Agg Tryz.prog 62 11:=⟨_,_,Tryz.underlying62,rfl,ai Tryz.type62,rfl⟩
instance:ZeroC Tryz.prog 62 ([Value.int IntKind.i64 0,Value.int IntKind.i64 0,Value.int IntKind.i64 0,Value.int IntKind.i64 0,Value.int IntKind.u8 0,Value.int IntKind.i64 0,Value.int IntKind.i64 0,Value.int IntKind.i64 0,Value.int IntKind.i64 0,Value.int IntKind.i64 0,Value.int IntKind.u64 0]):=⟨_,_,ai Tryz.type62,rfl,rfl⟩
instance:Elem Tryz.prog 62 11 88:=⟨_,_,ai Tryz.type62,rfl,rfl,rfl,rfl,by decide⟩
instance:Struct Tryz.prog 62 [(0,1),(1,3),(4,1),(5,4),(9,1),(10,1)] ([Value.int IntKind.i64 0,Value.int IntKind.i64 0,Value.int IntKind.i64 0,Value.int IntKind.i64 0,Value.int IntKind.u8 0,Value.int IntKind.i64 0,Value.int IntKind.i64 0,Value.int IntKind.i64 0,Value.int IntKind.i64 0,Value.int IntKind.i64 0,Value.int IntKind.u64 0]):=⟨_,_,_,ai Tryz.type62,Tryz.underlying62,rfl,by simp only [RF,RJ,ai Tryz.type3,ai Tryz.type32,ai Tryz.type33,ai Tryz.type5,ai Tryz.type60];rfl,rfl⟩
instance:Fld Tryz.prog 62 0 0:=⟨_,_,_,Tryz.underlying62,rfl,rfl,ai Tryz.type3,by decide⟩
instance:Fld Tryz.prog 62 1 1:=⟨_,_,_,Tryz.underlying62,rfl,rfl,ai Tryz.type60,by decide⟩
instance:Fld Tryz.prog 62 2 4:=⟨_,_,_,Tryz.underlying62,rfl,rfl,ai Tryz.type5,by decide⟩
instance:Fld Tryz.prog 62 3 5:=⟨_,_,_,Tryz.underlying62,rfl,rfl,ai Tryz.type32,by decide⟩
instance:Fld Tryz.prog 62 4 9:=⟨_,_,_,Tryz.underlying62,rfl,rfl,ai Tryz.type3,by decide⟩
instance:Fld Tryz.prog 62 5 10:=⟨_,_,_,Tryz.underlying62,rfl,rfl,ai Tryz.type33,by decide⟩
instance:Und Tryz.prog 75 (TypeDesc.slice 3):=⟨Tryz.underlying75⟩
instance:Size Tryz.prog 75 1:=⟨_,ai Tryz.type75,rfl⟩
instance:One Tryz.prog 75:=⟨_,Tryz.underlying75,rfl⟩
instance:ZeroC Tryz.prog 75 ([Value.slice none 0 0]):=⟨_,_,ai Tryz.type75,rfl,rfl⟩
instance:Und Tryz.prog 76 (TypeDesc.slice 9):=⟨Tryz.underlying76⟩
instance:One Tryz.prog 88:=⟨_,Tryz.underlying88,rfl⟩
instance:Size Tryz.prog 123 2:=⟨_,ai Tryz.type123,rfl⟩
instance:Agg Tryz.prog 123 2:=⟨_,_,Tryz.underlying123,rfl,ai Tryz.type123,rfl⟩
instance:ZeroC Tryz.prog 123 ([Value.int IntKind.u8 0,Value.nilFunc]):=⟨_,_,ai Tryz.type123,rfl,rfl⟩
instance:Elem Tryz.prog 123 2 16:=⟨_,_,ai Tryz.type123,rfl,rfl,rfl,rfl,by decide⟩
instance:Struct Tryz.prog 123 [(0,1),(1,1)] ([Value.int IntKind.u8 0,Value.nilFunc]):=⟨_,_,_,ai Tryz.type123,Tryz.underlying123,rfl,by simp only [RF,RJ,ai Tryz.type43,ai Tryz.type5];rfl,rfl⟩
instance:Fld Tryz.prog 123 0 0:=⟨_,_,_,Tryz.underlying123,rfl,rfl,ai Tryz.type5,by decide⟩
instance:Fld Tryz.prog 123 1 1:=⟨_,_,_,Tryz.underlying123,rfl,rfl,ai Tryz.type43,by decide⟩
instance:Size Tryz.prog 127 3:=⟨_,ai Tryz.type127,rfl⟩
instance:Agg Tryz.prog 127 3:=⟨_,_,Tryz.underlying127,rfl,ai Tryz.type127,rfl⟩
instance:ZeroC Tryz.prog 127 ([Value.int IntKind.u8 0,Value.int IntKind.i64 0,Value.string { data:= #[] }]):=⟨_,_,ai Tryz.type127,rfl,rfl⟩
instance:Struct Tryz.prog 127 [(0,1),(1,1),(2,1)] ([Value.int IntKind.u8 0,Value.int IntKind.i64 0,Value.string { data:= #[] }]):=⟨_,_,_,ai Tryz.type127,Tryz.underlying127,rfl,by simp only [RF,RJ,ai Tryz.type2,ai Tryz.type5,ai Tryz.type9];rfl,rfl⟩
instance:Fld Tryz.prog 127 0 0:=⟨_,_,_,Tryz.underlying127,rfl,rfl,ai Tryz.type5,by decide⟩
instance:Fld Tryz.prog 127 1 1:=⟨_,_,_,Tryz.underlying127,rfl,rfl,ai Tryz.type2,by decide⟩
instance:Fld Tryz.prog 127 2 2:=⟨_,_,_,Tryz.underlying127,rfl,rfl,ai Tryz.type9,by decide⟩
instance:Und Tryz.prog 128 (TypeDesc.slice 293):=⟨Tryz.underlying128⟩
instance:Size Tryz.prog 128 1:=⟨_,ai Tryz.type128,rfl⟩
instance:One Tryz.prog 128:=⟨_,Tryz.underlying128,rfl⟩
instance:ZeroC Tryz.prog 128 ([Value.slice none 0 0]):=⟨_,_,ai Tryz.type128,rfl,rfl⟩
instance:Size Tryz.prog 130 5:=⟨_,ai Tryz.type130,rfl⟩
instance:Agg Tryz.prog 130 5:=⟨_,_,Tryz.underlying130,rfl,ai Tryz.type130,rfl⟩
instance:ZeroC Tryz.prog 130 ([Value.bool false,Value.int IntKind.u8 0,Value.int IntKind.i64 0,Value.string { data:= #[] },Value.slice none 0 0]):=⟨_,_,ai Tryz.type130,rfl,rfl⟩
instance:Struct Tryz.prog 130 [(0,1),(1,3),(4,1)] ([Value.bool false,Value.int IntKind.u8 0,Value.int IntKind.i64 0,Value.string { data:= #[] },Value.slice none 0 0]):=⟨_,_,_,ai Tryz.type130,Tryz.underlying130,rfl,by simp only [RF,RJ,ai Tryz.type127,ai Tryz.type128,ai Tryz.type4];rfl,rfl⟩
instance:Fld Tryz.prog 130 0 0:=⟨_,_,_,Tryz.underlying130,rfl,rfl,ai Tryz.type4,by decide⟩
instance:Fld Tryz.prog 130 2 4:=⟨_,_,_,Tryz.underlying130,rfl,rfl,ai Tryz.type128,by decide⟩
instance:Und Tryz.prog 134 (TypeDesc.slice 123):=⟨Tryz.underlying134⟩
instance:One Tryz.prog 139:=⟨_,Tryz.underlying139,rfl⟩
instance:Und Tryz.prog 151 (TypeDesc.pointer 199):=⟨Tryz.underlying151⟩
instance:Und Tryz.prog 156 (TypeDesc.slice 159):=⟨Tryz.underlying156⟩
instance:Size Tryz.prog 156 1:=⟨_,ai Tryz.type156,rfl⟩
instance:One Tryz.prog 156:=⟨_,Tryz.underlying156,rfl⟩
instance:ZeroC Tryz.prog 156 ([Value.slice none 0 0]):=⟨_,_,ai Tryz.type156,rfl,rfl⟩
instance:Size Tryz.prog 159 6:=⟨_,ai Tryz.type159,rfl⟩
instance:Agg Tryz.prog 159 6:=⟨_,_,Tryz.underlying159,rfl,ai Tryz.type159,rfl⟩
instance:ZeroC Tryz.prog 159 ([Value.int IntKind.i64 0,Value.int IntKind.i64 0,Value.int IntKind.i64 0,Value.int IntKind.i64 0,Value.int IntKind.i64 0,Value.int IntKind.u8 0]):=⟨_,_,ai Tryz.type159,rfl,rfl⟩
instance:Elem Tryz.prog 159 6 48:=⟨_,_,ai Tryz.type159,rfl,rfl,rfl,rfl,by decide⟩
instance:Struct Tryz.prog 159 [(0,4),(4,1),(5,1)] ([Value.int IntKind.i64 0,Value.int IntKind.i64 0,Value.int IntKind.i64 0,Value.int IntKind.i64 0,Value.int IntKind.i64 0,Value.int IntKind.u8 0]):=⟨_,_,_,ai Tryz.type159,Tryz.underlying159,rfl,by simp only [RF,RJ,ai Tryz.type3,ai Tryz.type32,ai Tryz.type5];rfl,rfl⟩
instance:Fld Tryz.prog 159 0 0:=⟨_,_,_,Tryz.underlying159,rfl,rfl,ai Tryz.type32,by decide⟩
instance:Fld Tryz.prog 159 1 4:=⟨_,_,_,Tryz.underlying159,rfl,rfl,ai Tryz.type3,by decide⟩
instance:Fld Tryz.prog 159 2 5:=⟨_,_,_,Tryz.underlying159,rfl,rfl,ai Tryz.type5,by decide⟩
instance:Und Tryz.prog 171 (TypeDesc.map 173 4):=⟨Tryz.underlying171⟩
instance:Size Tryz.prog 173 9:=⟨_,ai Tryz.type173,rfl⟩
instance:Agg Tryz.prog 173 9:=⟨_,_,Tryz.underlying173,rfl,ai Tryz.type173,rfl⟩
instance:ZeroC Tryz.prog 173 ([Value.int IntKind.i64 0,Value.int IntKind.i64 0,Value.int IntKind.i64 0,Value.int IntKind.u8 0,Value.int IntKind.i64 0,Value.int IntKind.i64 0,Value.int IntKind.i64 0,Value.int IntKind.i64 0,Value.int IntKind.i64 0]):=⟨_,_,ai Tryz.type173,rfl,rfl⟩
instance:Struct Tryz.prog 173 [(0,3),(3,1),(4,4),(8,1)] ([Value.int IntKind.i64 0,Value.int IntKind.i64 0,Value.int IntKind.i64 0,Value.int IntKind.u8 0,Value.int IntKind.i64 0,Value.int IntKind.i64 0,Value.int IntKind.i64 0,Value.int IntKind.i64 0,Value.int IntKind.i64 0]):=⟨_,_,_,ai Tryz.type173,Tryz.underlying173,rfl,by simp only [RF,RJ,ai Tryz.type3,ai Tryz.type32,ai Tryz.type5,ai Tryz.type60];rfl,rfl⟩
instance:Und Tryz.prog 186 (TypeDesc.slice 33):=⟨Tryz.underlying186⟩
instance:Und Tryz.prog 187 (TypeDesc.slice 191):=⟨Tryz.underlying187⟩
instance:Und Tryz.prog 189 (TypeDesc.array 2 3):=⟨Tryz.underlying189⟩
instance:Size Tryz.prog 189 2:=⟨_,ai Tryz.type189,rfl⟩
instance:Agg Tryz.prog 189 2:=⟨_,_,Tryz.underlying189,rfl,ai Tryz.type189,rfl⟩
instance:ZeroC Tryz.prog 189 ([Value.int IntKind.i64 0,Value.int IntKind.i64 0]):=⟨_,_,ai Tryz.type189,rfl,rfl⟩
instance:Elem Tryz.prog 189 2 16:=⟨_,_,ai Tryz.type189,rfl,rfl,rfl,rfl,by decide⟩
instance:Size Tryz.prog 191 6:=⟨_,ai Tryz.type191,rfl⟩
instance:Agg Tryz.prog 191 6:=⟨_,_,Tryz.underlying191,rfl,ai Tryz.type191,rfl⟩
instance:ZeroC Tryz.prog 191 ([Value.int IntKind.i64 0,Value.int IntKind.i64 0,Value.int IntKind.i64 0,Value.int IntKind.i64 0,Value.int IntKind.i64 0,Value.int IntKind.i64 0]):=⟨_,_,ai Tryz.type191,rfl,rfl⟩
instance:Elem Tryz.prog 191 6 48:=⟨_,_,ai Tryz.type191,rfl,rfl,rfl,rfl,by decide⟩
instance:Struct Tryz.prog 191 [(0,4),(4,2)] ([Value.int IntKind.i64 0,Value.int IntKind.i64 0,Value.int IntKind.i64 0,Value.int IntKind.i64 0,Value.int IntKind.i64 0,Value.int IntKind.i64 0]):=⟨_,_,_,ai Tryz.type191,Tryz.underlying191,rfl,by simp only [RF,RJ,ai Tryz.type189,ai Tryz.type32];rfl,rfl⟩
instance:Fld Tryz.prog 191 0 0:=⟨_,_,_,Tryz.underlying191,rfl,rfl,ai Tryz.type32,by decide⟩
instance:Fld Tryz.prog 191 1 4:=⟨_,_,_,Tryz.underlying191,rfl,rfl,ai Tryz.type189,by decide⟩
instance:Und Tryz.prog 196 (TypeDesc.int IntKind.u64):=⟨Tryz.underlying196⟩
instance:Und Tryz.prog 197 (TypeDesc.map 50 206):=⟨Tryz.underlying197⟩
instance:One Tryz.prog 197:=⟨_,Tryz.underlying197,rfl⟩
instance:Struct Tryz.prog 199 [(0,1)] ([Value.map none]):=⟨_,_,_,ai Tryz.type199,Tryz.underlying199,rfl,by simp only [RF,RJ,ai Tryz.type197];rfl,rfl⟩
instance:Fld Tryz.prog 199 0 0:=⟨_,_,_,Tryz.underlying199,rfl,rfl,ai Tryz.type197,by decide⟩
instance:Zero Tryz.prog 206 (Value.agg #[Value.slice none 0 0,Value.slice none 0 0]):=⟨_,ai Tryz.type206,rfl⟩
instance:Struct Tryz.prog 206 [(0,1),(1,1)] ([Value.slice none 0 0,Value.slice none 0 0]):=⟨_,_,_,ai Tryz.type206,Tryz.underlying206,rfl,by simp only [RF,RJ,ai Tryz.type128,ai Tryz.type156];rfl,rfl⟩
instance:Size Tryz.prog 212 1:=⟨_,ai Tryz.type212,rfl⟩
instance:One Tryz.prog 212:=⟨_,Tryz.underlying212,rfl⟩
instance:Elem Tryz.prog 212 1 8:=⟨_,_,ai Tryz.type212,rfl,rfl,rfl,rfl,by decide⟩
instance:Und Tryz.prog 217 (TypeDesc.slice 212):=⟨Tryz.underlying217⟩
instance:Und Tryz.prog 219 (TypeDesc.slice 228):=⟨Tryz.underlying219⟩
instance:Size Tryz.prog 219 1:=⟨_,ai Tryz.type219,rfl⟩
instance:One Tryz.prog 219:=⟨_,Tryz.underlying219,rfl⟩
instance:Und Tryz.prog 223 (TypeDesc.struct #[{ name:= "at",type:=3,offset:=0,embedded:=false,tag:= "",pkgPath:= "louvre/parse",byteOffset:=0 },{ name:= "e",type:=39,offset:=1,embedded:=false,tag:= "",pkgPath:= "louvre/parse",byteOffset:=8 }]):=⟨Tryz.underlying223⟩
instance:Size Tryz.prog 223 2:=⟨_,ai Tryz.type223,rfl⟩
instance:ZeroC Tryz.prog 223 ([Value.int IntKind.i64 0,Value.int IntKind.i64 0]):=⟨_,_,ai Tryz.type223,rfl,rfl⟩
instance:Struct Tryz.prog 223 [(0,1),(1,1)] ([Value.int IntKind.i64 0,Value.int IntKind.i64 0]):=⟨_,_,_,ai Tryz.type223,Tryz.underlying223,rfl,by simp only [RF,RJ,ai Tryz.type3,ai Tryz.type39];rfl,rfl⟩
instance:Fld Tryz.prog 223 0 0:=⟨_,_,_,Tryz.underlying223,rfl,rfl,ai Tryz.type3,by decide⟩
instance:Fld Tryz.prog 223 1 1:=⟨_,_,_,Tryz.underlying223,rfl,rfl,ai Tryz.type39,by decide⟩
instance:One Tryz.prog 224:=⟨_,Tryz.underlying224,rfl⟩
instance:Struct Tryz.prog 226 [(0,1),(1,1),(2,1)] ([Value.slice none 0 0,Value.int IntKind.i64 0,Value.slice none 0 0]):=⟨_,_,_,ai Tryz.type226,Tryz.underlying226,rfl,by simp only [RF,RJ,ai Tryz.type128,ai Tryz.type219,ai Tryz.type3];rfl,rfl⟩
instance:Fld Tryz.prog 226 0 0:=⟨_,_,_,Tryz.underlying226,rfl,rfl,ai Tryz.type219,by decide⟩
instance:Fld Tryz.prog 226 1 1:=⟨_,_,_,Tryz.underlying226,rfl,rfl,ai Tryz.type3,by decide⟩
instance:Fld Tryz.prog 226 2 2:=⟨_,_,_,Tryz.underlying226,rfl,rfl,ai Tryz.type128,by decide⟩
instance:Size Tryz.prog 228 8:=⟨_,ai Tryz.type228,rfl⟩
instance:Agg Tryz.prog 228 8:=⟨_,_,Tryz.underlying228,rfl,ai Tryz.type228,rfl⟩
instance:ZeroC Tryz.prog 228 ([Value.int IntKind.u8 0,Value.int IntKind.i64 0,Value.string { data:= #[] },Value.int IntKind.i64 0,Value.int IntKind.i64 0,Value.int IntKind.i64 0,Value.int IntKind.i64 0,Value.int IntKind.i64 0]):=⟨_,_,ai Tryz.type228,rfl,rfl⟩
instance:Elem Tryz.prog 228 8 72:=⟨_,_,ai Tryz.type228,rfl,rfl,rfl,rfl,by decide⟩
instance:Struct Tryz.prog 228 [(0,1),(1,1),(2,1),(3,4),(7,1)] ([Value.int IntKind.u8 0,Value.int IntKind.i64 0,Value.string { data:= #[] },Value.int IntKind.i64 0,Value.int IntKind.i64 0,Value.int IntKind.i64 0,Value.int IntKind.i64 0,Value.int IntKind.i64 0]):=⟨_,_,_,ai Tryz.type228,Tryz.underlying228,rfl,by simp only [RF,RJ,ai Tryz.type2,ai Tryz.type3,ai Tryz.type32,ai Tryz.type5,ai Tryz.type9];rfl,rfl⟩
instance:Fld Tryz.prog 228 0 0:=⟨_,_,_,Tryz.underlying228,rfl,rfl,ai Tryz.type5,by decide⟩
instance:Fld Tryz.prog 228 1 1:=⟨_,_,_,Tryz.underlying228,rfl,rfl,ai Tryz.type2,by decide⟩
instance:Fld Tryz.prog 228 2 2:=⟨_,_,_,Tryz.underlying228,rfl,rfl,ai Tryz.type9,by decide⟩
instance:Fld Tryz.prog 228 3 3:=⟨_,_,_,Tryz.underlying228,rfl,rfl,ai Tryz.type32,by decide⟩
instance:Fld Tryz.prog 228 4 7:=⟨_,_,_,Tryz.underlying228,rfl,rfl,ai Tryz.type3,by decide⟩
instance:Und Tryz.prog 232 (TypeDesc.slice 189):=⟨Tryz.underlying232⟩
instance:Size Tryz.prog 232 1:=⟨_,ai Tryz.type232,rfl⟩
instance:One Tryz.prog 232:=⟨_,Tryz.underlying232,rfl⟩
instance:ZeroC Tryz.prog 232 ([Value.slice none 0 0]):=⟨_,_,ai Tryz.type232,rfl,rfl⟩
instance:Struct Tryz.prog 245 [(0,1),(1,1),(2,1),(3,1),(4,1),(5,1)] ([Value.string { data:= #[] },Value.slice none 0 0,Value.int IntKind.i64 0,Value.slice none 0 0,Value.int IntKind.i64 0,Value.int IntKind.i64 0]):=⟨_,_,_,ai Tryz.type245,Tryz.underlying245,rfl,by simp only [RF,RJ,ai Tryz.type128,ai Tryz.type219,ai Tryz.type3,ai Tryz.type39,ai Tryz.type9];rfl,rfl⟩
instance:Fld Tryz.prog 245 0 0:=⟨_,_,_,Tryz.underlying245,rfl,rfl,ai Tryz.type9,by decide⟩
instance:Fld Tryz.prog 245 1 1:=⟨_,_,_,Tryz.underlying245,rfl,rfl,ai Tryz.type219,by decide⟩
instance:Fld Tryz.prog 245 2 2:=⟨_,_,_,Tryz.underlying245,rfl,rfl,ai Tryz.type3,by decide⟩
instance:Fld Tryz.prog 245 3 3:=⟨_,_,_,Tryz.underlying245,rfl,rfl,ai Tryz.type128,by decide⟩
instance:Fld Tryz.prog 245 4 4:=⟨_,_,_,Tryz.underlying245,rfl,rfl,ai Tryz.type3,by decide⟩
instance:Fld Tryz.prog 245 5 5:=⟨_,_,_,Tryz.underlying245,rfl,rfl,ai Tryz.type39,by decide⟩
instance:Und Tryz.prog 256 (TypeDesc.slice 5):=⟨Tryz.underlying256⟩
instance:Agg Tryz.prog 262 3:=⟨_,_,Tryz.underlying262,rfl,ai Tryz.type262,rfl⟩
instance:Fld Tryz.prog 262 2 2:=⟨_,_,_,Tryz.underlying262,rfl,rfl,ai Tryz.type9,by decide⟩
instance:Und Tryz.prog 263 (TypeDesc.map 5 264):=⟨Tryz.underlying263⟩
instance:Zero Tryz.prog 264 (Value.nilFunc):=⟨_,ai Tryz.type264,rfl⟩
instance:Und Tryz.prog 266 (TypeDesc.array 8 9):=⟨Tryz.underlying266⟩
instance:Agg Tryz.prog 266 8:=⟨_,_,Tryz.underlying266,rfl,ai Tryz.type266,rfl⟩
instance:Struct Tryz.prog 272 [(0,1)] ([Value.string { data:= #[] }]):=⟨_,_,_,ai Tryz.type272,Tryz.underlying272,rfl,by simp only [RF,RJ,ai Tryz.type9];rfl,rfl⟩
instance:Fld Tryz.prog 272 0 0:=⟨_,_,_,Tryz.underlying272,rfl,rfl,ai Tryz.type9,by decide⟩
instance:Size Tryz.prog 273 1:=⟨_,ai Tryz.type273,rfl⟩
instance:One Tryz.prog 273:=⟨_,Tryz.underlying273,rfl⟩
instance:Und Tryz.prog 274 (TypeDesc.array 5 273):=⟨Tryz.underlying274⟩
instance:Size Tryz.prog 274 5:=⟨_,ai Tryz.type274,rfl⟩
instance:Agg Tryz.prog 274 5:=⟨_,_,Tryz.underlying274,rfl,ai Tryz.type274,rfl⟩
instance:ZeroC Tryz.prog 274 ([Value.nilFunc,Value.nilFunc,Value.nilFunc,Value.nilFunc,Value.nilFunc]):=⟨_,_,ai Tryz.type274,rfl,rfl⟩
instance:Size Tryz.prog 286 2:=⟨_,ai Tryz.type286,rfl⟩
instance:Agg Tryz.prog 286 2:=⟨_,_,Tryz.underlying286,rfl,ai Tryz.type286,rfl⟩
instance:ZeroC Tryz.prog 286 ([Value.int IntKind.u64 0,Value.int IntKind.u64 0]):=⟨_,_,ai Tryz.type286,rfl,rfl⟩
instance:Struct Tryz.prog 286 [(0,1),(1,1)] ([Value.int IntKind.u64 0,Value.int IntKind.u64 0]):=⟨_,_,_,ai Tryz.type286,Tryz.underlying286,rfl,by simp only [RF,RJ,ai Tryz.type33];rfl,rfl⟩
instance:Fld Tryz.prog 286 0 0:=⟨_,_,_,Tryz.underlying286,rfl,rfl,ai Tryz.type33,by decide⟩
instance:Fld Tryz.prog 286 1 1:=⟨_,_,_,Tryz.underlying286,rfl,rfl,ai Tryz.type33,by decide⟩
instance:Size Tryz.prog 293 11:=⟨_,ai Tryz.type293,rfl⟩
instance:Agg Tryz.prog 293 11:=⟨_,_,Tryz.underlying293,rfl,ai Tryz.type293,rfl⟩
instance:ZeroC Tryz.prog 293 ([Value.int IntKind.u8 0,Value.int IntKind.u8 0,Value.int IntKind.i64 0,Value.string { data:= #[] },Value.int IntKind.i64 0,Value.int IntKind.i64 0,Value.int IntKind.i64 0,Value.int IntKind.i64 0,Value.int IntKind.i64 0,Value.int IntKind.u8 0,Value.int IntKind.i64 0]):=⟨_,_,ai Tryz.type293,rfl,rfl⟩
instance:Elem Tryz.prog 293 11 96:=⟨_,_,ai Tryz.type293,rfl,rfl,rfl,rfl,by decide⟩
instance:Struct Tryz.prog 293 [(0,1),(1,3),(4,4),(8,1),(9,1),(10,1)] ([Value.int IntKind.u8 0,Value.int IntKind.u8 0,Value.int IntKind.i64 0,Value.string { data:= #[] },Value.int IntKind.i64 0,Value.int IntKind.i64 0,Value.int IntKind.i64 0,Value.int IntKind.i64 0,Value.int IntKind.i64 0,Value.int IntKind.u8 0,Value.int IntKind.i64 0]):=⟨_,_,_,ai Tryz.type293,Tryz.underlying293,rfl,by simp only [RF,RJ,ai Tryz.type127,ai Tryz.type2,ai Tryz.type3,ai Tryz.type32,ai Tryz.type5];rfl,rfl⟩
instance:Fld Tryz.prog 293 0 0:=⟨_,_,_,Tryz.underlying293,rfl,rfl,ai Tryz.type5,by decide⟩
instance:Fld Tryz.prog 293 1 1:=⟨_,_,_,Tryz.underlying293,rfl,rfl,ai Tryz.type127,by decide⟩
instance:Fld Tryz.prog 293 2 4:=⟨_,_,_,Tryz.underlying293,rfl,rfl,ai Tryz.type32,by decide⟩
instance:Fld Tryz.prog 293 3 8:=⟨_,_,_,Tryz.underlying293,rfl,rfl,ai Tryz.type2,by decide⟩
instance:Fld Tryz.prog 293 4 9:=⟨_,_,_,Tryz.underlying293,rfl,rfl,ai Tryz.type5,by decide⟩
instance:Fld Tryz.prog 293 5 10:=⟨_,_,_,Tryz.underlying293,rfl,rfl,ai Tryz.type3,by decide⟩
instance:Und Tryz.prog 294 (TypeDesc.slice 298):=⟨Tryz.underlying294⟩
instance:Size Tryz.prog 298 2:=⟨_,ai Tryz.type298,rfl⟩
instance:Elem Tryz.prog 298 2 16:=⟨_,_,ai Tryz.type298,rfl,rfl,rfl,rfl,by decide⟩
instance:Struct Tryz.prog 298 [(0,1),(1,1)] ([Value.int IntKind.i64 0,Value.int IntKind.i64 0]):=⟨_,_,_,ai Tryz.type298,Tryz.underlying298,rfl,by simp only [RF,RJ,ai Tryz.type3];rfl,rfl⟩
instance:Fld Tryz.prog 298 0 0:=⟨_,_,_,Tryz.underlying298,rfl,rfl,ai Tryz.type3,by decide⟩
instance:Fld Tryz.prog 298 1 1:=⟨_,_,_,Tryz.underlying298,rfl,rfl,ai Tryz.type3,by decide⟩
instance:Und Tryz.prog 325 (TypeDesc.slice 2):=⟨Tryz.underlying325⟩
instance:Und Tryz.prog 332 (TypeDesc.slice 32):=⟨Tryz.underlying332⟩
instance:Size Tryz.prog 350 5:=⟨_,ai Tryz.type350,rfl⟩
instance:Agg Tryz.prog 350 5:=⟨_,_,Tryz.underlying350,rfl,ai Tryz.type350,rfl⟩
instance:ZeroC Tryz.prog 350 ([Value.int IntKind.i64 0,Value.int IntKind.i64 0,Value.int IntKind.i64 0,Value.int IntKind.i64 0,Value.bool false]):=⟨_,_,ai Tryz.type350,rfl,rfl⟩
instance:Struct Tryz.prog 350 [(0,2),(2,2),(4,1)] ([Value.int IntKind.i64 0,Value.int IntKind.i64 0,Value.int IntKind.i64 0,Value.int IntKind.i64 0,Value.bool false]):=⟨_,_,_,ai Tryz.type350,Tryz.underlying350,rfl,by simp only [RF,RJ,ai Tryz.type189,ai Tryz.type4];rfl,rfl⟩
instance:Fld Tryz.prog 350 0 0:=⟨_,_,_,Tryz.underlying350,rfl,rfl,ai Tryz.type189,by decide⟩
instance:Fld Tryz.prog 350 1 2:=⟨_,_,_,Tryz.underlying350,rfl,rfl,ai Tryz.type189,by decide⟩
instance:Fld Tryz.prog 350 2 4:=⟨_,_,_,Tryz.underlying350,rfl,rfl,ai Tryz.type4,by decide⟩
instance:Und Tryz.prog 352 (TypeDesc.slice 356):=⟨Tryz.underlying352⟩
instance:Size Tryz.prog 356 3:=⟨_,ai Tryz.type356,rfl⟩
instance:Agg Tryz.prog 356 3:=⟨_,_,Tryz.underlying356,rfl,ai Tryz.type356,rfl⟩
instance:ZeroC Tryz.prog 356 ([Value.int IntKind.i64 0,Value.int IntKind.i64 0,Value.bool false]):=⟨_,_,ai Tryz.type356,rfl,rfl⟩
instance:Elem Tryz.prog 356 3 24:=⟨_,_,ai Tryz.type356,rfl,rfl,rfl,rfl,by decide⟩
instance:Struct Tryz.prog 356 [(0,1),(1,1),(2,1)] ([Value.int IntKind.i64 0,Value.int IntKind.i64 0,Value.bool false]):=⟨_,_,_,ai Tryz.type356,Tryz.underlying356,rfl,by simp only [RF,RJ,ai Tryz.type3,ai Tryz.type4];rfl,rfl⟩
instance:Fld Tryz.prog 356 0 0:=⟨_,_,_,Tryz.underlying356,rfl,rfl,ai Tryz.type3,by decide⟩
instance:Fld Tryz.prog 356 1 1:=⟨_,_,_,Tryz.underlying356,rfl,rfl,ai Tryz.type3,by decide⟩
instance:Fld Tryz.prog 356 2 2:=⟨_,_,_,Tryz.underlying356,rfl,rfl,ai Tryz.type4,by decide⟩
instance:Und Tryz.prog 393 (TypeDesc.array 50 9):=⟨Tryz.underlying393⟩
instance:Size Tryz.prog 393 50:=⟨_,ai Tryz.type393,rfl⟩
instance:Agg Tryz.prog 393 50:=⟨_,_,Tryz.underlying393,rfl,ai Tryz.type393,rfl⟩
instance:ZeroC Tryz.prog 393 ([Value.string { data:= #[] },Value.string { data:= #[] },Value.string { data:= #[] },Value.string { data:= #[] },Value.string { data:= #[] },Value.string { data:= #[] },Value.string { data:= #[] },Value.string { data:= #[] },Value.string { data:= #[] },Value.string { data:= #[] },Value.string { data:= #[] },Value.string { data:= #[] },Value.string { data:= #[] },Value.string { data:= #[] },Value.string { data:= #[] },Value.string { data:= #[] },Value.string { data:= #[] },Value.string { data:= #[] },Value.string { data:= #[] },Value.string { data:= #[] },Value.string { data:= #[] },Value.string { data:= #[] },Value.string { data:= #[] },Value.string { data:= #[] },Value.string { data:= #[] },Value.string { data:= #[] },Value.string { data:= #[] },Value.string { data:= #[] },Value.string { data:= #[] },Value.string { data:= #[] },Value.string { data:= #[] },Value.string { data:= #[] },Value.string { data:= #[] },Value.string { data:= #[] },Value.string { data:= #[] },Value.string { data:= #[] },Value.string { data:= #[] },Value.string { data:= #[] },Value.string { data:= #[] },Value.string { data:= #[] },Value.string { data:= #[] },Value.string { data:= #[] },Value.string { data:= #[] },Value.string { data:= #[] },Value.string { data:= #[] },Value.string { data:= #[] },Value.string { data:= #[] },Value.string { data:= #[] },Value.string { data:= #[] },Value.string { data:= #[] }]):=⟨_,_,ai Tryz.type393,rfl,rfl⟩
instance:Callable Tryz.prog 9:=⟨fun args w=>Tryz.call9 args w⟩
instance:Callable Tryz.prog 11:=⟨fun args w=>Tryz.call11 args w⟩
instance:Callable Tryz.prog 15:=⟨fun args w=>Tryz.call15 args w⟩
instance:Callable Tryz.prog 16:=⟨fun args w=>Tryz.call16 args w⟩
instance:Callable Tryz.prog 17:=⟨fun args w=>Tryz.call17 args w⟩
instance:Callable Tryz.prog 20:=⟨fun args w=>Tryz.call20 args w⟩
instance:Callable Tryz.prog 21:=⟨fun args w=>Tryz.call21 args w⟩
instance:Callable Tryz.prog 23:=⟨fun args w=>Tryz.call23 args w⟩
instance:Callable Tryz.prog 24:=⟨fun args w=>Tryz.call24 args w⟩
instance:Callable Tryz.prog 26:=⟨fun args w=>Tryz.call26 args w⟩
instance:Callable Tryz.prog 28:=⟨fun args w=>Tryz.call28 args w⟩
instance:Callable Tryz.prog 30:=⟨fun args w=>Tryz.call30 args w⟩
instance:Callable Tryz.prog 31:=⟨fun args w=>Tryz.call31 args w⟩
instance:Callable Tryz.prog 32:=⟨fun args w=>Tryz.call32 args w⟩
instance:Callable Tryz.prog 33:=⟨fun args w=>Tryz.call33 args w⟩
instance:Callable Tryz.prog 34:=⟨fun args w=>Tryz.call34 args w⟩
instance:Callable Tryz.prog 40:=⟨fun args w=>Tryz.call40 args w⟩
instance:Callable Tryz.prog 41:=⟨fun args w=>Tryz.call41 args w⟩
instance:Callable Tryz.prog 42:=⟨fun args w=>Tryz.call42 args w⟩
instance:Callable Tryz.prog 43:=⟨fun args w=>Tryz.call43 args w⟩
instance:Callable Tryz.prog 44:=⟨fun args w=>Tryz.call44 args w⟩
instance:Callable Tryz.prog 45:=⟨fun args w=>Tryz.call45 args w⟩
instance:Callable Tryz.prog 46:=⟨fun args w=>Tryz.call46 args w⟩
instance:Callable Tryz.prog 47:=⟨fun args w=>Tryz.call47 args w⟩
instance:Callable Tryz.prog 49:=⟨fun args w=>Tryz.call49 args w⟩
instance:Callable Tryz.prog 57:=⟨fun args w=>Tryz.call57 args w⟩
instance:Callable Tryz.prog 59:=⟨fun args w=>Tryz.call59 args w⟩
instance:Callable Tryz.prog 60:=⟨fun args w=>Tryz.call60 args w⟩
instance:Callable Tryz.prog 61:=⟨fun args w=>Tryz.call61 args w⟩
instance:Callable Tryz.prog 62:=⟨fun args w=>Tryz.call62 args w⟩
instance:Callable Tryz.prog 63:=⟨fun args w=>Tryz.call63 args w⟩
instance:Callable Tryz.prog 64:=⟨fun args w=>Tryz.call64 args w⟩
instance:Callable Tryz.prog 65:=⟨fun args w=>Tryz.call65 args w⟩
instance:Callable Tryz.prog 66:=⟨fun args w=>Tryz.call66 args w⟩
instance:Callable Tryz.prog 67:=⟨fun args w=>Tryz.call67 args w⟩
instance:Callable Tryz.prog 68:=⟨fun args w=>Tryz.call68 args w⟩
instance:Callable Tryz.prog 69:=⟨fun args w=>Tryz.call69 args w⟩
instance:Callable Tryz.prog 70:=⟨fun args w=>Tryz.call70 args w⟩
instance:Callable Tryz.prog 71:=⟨fun args w=>Tryz.call71 args w⟩
instance:Callable Tryz.prog 72:=⟨fun args w=>Tryz.call72 args w⟩
instance:Callable Tryz.prog 74:=⟨fun args w=>Tryz.call74 args w⟩
instance:Callable Tryz.prog 75:=⟨fun args w=>Tryz.call75 args w⟩
instance:Callable Tryz.prog 76:=⟨fun args w=>Tryz.call76 args w⟩
instance:Callable Tryz.prog 77:=⟨fun args w=>Tryz.call77 args w⟩
instance:Callable Tryz.prog 78:=⟨fun args w=>Tryz.call78 args w⟩
instance:Callable Tryz.prog 79:=⟨fun args w=>Tryz.call79 args w⟩
instance:Callable Tryz.prog 81:=⟨fun args w=>Tryz.call81 args w⟩
instance:Callable Tryz.prog 83:=⟨fun args w=>Tryz.call83 args w⟩
instance:Callable Tryz.prog 84:=⟨fun args w=>Tryz.call84 args w⟩
instance:Callable Tryz.prog 85:=⟨fun args w=>Tryz.call85 args w⟩
instance:Callable Tryz.prog 86:=⟨fun args w=>Tryz.call86 args w⟩
instance:Callable Tryz.prog 87:=⟨fun args w=>Tryz.call87 args w⟩
instance:Callable Tryz.prog 88:=⟨fun args w=>Tryz.call88 args w⟩
instance:Callable Tryz.prog 89:=⟨fun args w=>Tryz.call89 args w⟩
instance:Callable Tryz.prog 90:=⟨fun args w=>Tryz.call90 args w⟩
instance:Callable Tryz.prog 91:=⟨fun args w=>Tryz.call91 args w⟩
instance:Callable Tryz.prog 92:=⟨fun args w=>Tryz.call92 args w⟩
instance:Callable Tryz.prog 93:=⟨fun args w=>Tryz.call93 args w⟩
instance:Callable Tryz.prog 94:=⟨fun args w=>Tryz.call94 args w⟩
instance:Callable Tryz.prog 95:=⟨fun args w=>Tryz.call95 args w⟩
instance:Callable Tryz.prog 96:=⟨fun args w=>Tryz.call96 args w⟩
instance:Callable Tryz.prog 97:=⟨fun args w=>Tryz.call97 args w⟩
instance:Callable Tryz.prog 98:=⟨fun args w=>Tryz.call98 args w⟩
instance:Callable Tryz.prog 99:=⟨fun args w=>Tryz.call99 args w⟩
instance:Callable Tryz.prog 100:=⟨fun args w=>Tryz.call100 args w⟩
instance:Callable Tryz.prog 101:=⟨fun args w=>Tryz.call101 args w⟩
instance:Callable Tryz.prog 102:=⟨fun args w=>Tryz.call102 args w⟩
instance:Callable Tryz.prog 103:=⟨fun args w=>Tryz.call103 args w⟩
instance:Callable Tryz.prog 104:=⟨fun args w=>Tryz.call104 args w⟩
instance:Callable Tryz.prog 108:=⟨fun args w=>Tryz.call108 args w⟩
instance:Callable Tryz.prog 110:=⟨fun args w=>Tryz.call110 args w⟩
instance:Callable Tryz.prog 112:=⟨fun args w=>Tryz.call112 args w⟩
instance:Callable Tryz.prog 114:=⟨fun args w=>Tryz.call114 args w⟩
instance:Callable Tryz.prog 116:=⟨fun args w=>Tryz.call116 args w⟩
instance:Callable Tryz.prog 117:=⟨fun args w=>Tryz.call117 args w⟩
instance:Callable Tryz.prog 118:=⟨fun args w=>Tryz.call118 args w⟩
instance:Callable Tryz.prog 119:=⟨fun args w=>Tryz.call119 args w⟩
instance:Callable Tryz.prog 120:=⟨fun args w=>Tryz.call120 args w⟩
instance:Callable Tryz.prog 121:=⟨fun args w=>Tryz.call121 args w⟩
instance:Callable Tryz.prog 122:=⟨fun args w=>Tryz.call122 args w⟩
instance:Callable Tryz.prog 123:=⟨fun args w=>Tryz.call123 args w⟩
instance:Callable Tryz.prog 124:=⟨fun args w=>Tryz.call124 args w⟩
instance:Callable Tryz.prog 125:=⟨fun args w=>Tryz.call125 args w⟩
instance:Callable Tryz.prog 126:=⟨fun args w=>Tryz.call126 args w⟩
instance:Callable Tryz.prog 130:=⟨fun args w=>Tryz.call130 args w⟩
instance:Callable Tryz.prog 132:=⟨fun args w=>Tryz.call132 args w⟩
instance:Callable Tryz.prog 133:=⟨fun args w=>Tryz.call133 args w⟩
instance:Callable Tryz.prog 134:=⟨fun args w=>Tryz.call134 args w⟩
instance:Callable Tryz.prog 135:=⟨fun args w=>Tryz.call135 args w⟩
instance:Callable Tryz.prog 136:=⟨fun args w=>Tryz.call136 args w⟩
instance:Callable Tryz.prog 137:=⟨fun args w=>Tryz.call137 args w⟩
instance:Callable Tryz.prog 138:=⟨fun args w=>Tryz.call138 args w⟩
instance:Callable Tryz.prog 139:=⟨fun args w=>Tryz.call139 args w⟩
instance:Callable Tryz.prog 140:=⟨fun args w=>Tryz.call140 args w⟩
instance:Callable Tryz.prog 141:=⟨fun args w=>Tryz.call141 args w⟩
instance:Callable Tryz.prog 142:=⟨fun args w=>Tryz.call142 args w⟩
instance:Callable Tryz.prog 144:=⟨fun args w=>Tryz.call144 args w⟩
instance:Callable Tryz.prog 145:=⟨fun args w=>Tryz.call145 args w⟩
instance:Callable Tryz.prog 146:=⟨fun args w=>Tryz.call146 args w⟩
instance:Callable Tryz.prog 147:=⟨fun args w=>Tryz.call147 args w⟩
instance:Callable Tryz.prog 151:=⟨fun args w=>Tryz.call151 args w⟩
instance:Callable Tryz.prog 152:=⟨fun args w=>Tryz.call152 args w⟩
instance:Callable Tryz.prog 153:=⟨fun args w=>Tryz.call153 args w⟩
instance:Callable Tryz.prog 154:=⟨fun args w=>Tryz.call154 args w⟩
instance:Callable Tryz.prog 156:=⟨fun args w=>Tryz.call156 args w⟩
instance:Callable Tryz.prog 157:=⟨fun args w=>Tryz.call157 args w⟩
instance:Callable Tryz.prog 158:=⟨fun args w=>Tryz.call158 args w⟩
instance:Callable Tryz.prog 162:=⟨fun args w=>Tryz.call162 args w⟩
instance:Callable Tryz.prog 163:=⟨fun args w=>Tryz.call163 args w⟩
instance:Callable Tryz.prog 164:=⟨fun args w=>Tryz.call164 args w⟩
instance:Callable Tryz.prog 165:=⟨fun args w=>Tryz.call165 args w⟩
instance:Callable Tryz.prog 166:=⟨fun args w=>Tryz.call166 args w⟩
instance:Callable Tryz.prog 167:=⟨fun args w=>Tryz.call167 args w⟩
instance:Callable Tryz.prog 168:=⟨fun args w=>Tryz.call168 args w⟩
instance:Callable Tryz.prog 169:=⟨fun args w=>Tryz.call169 args w⟩
instance:Callable Tryz.prog 170:=⟨fun args w=>Tryz.call170 args w⟩
instance:Callable Tryz.prog 171:=⟨fun args w=>Tryz.call171 args w⟩
instance:Callable Tryz.prog 172:=⟨fun args w=>Tryz.call172 args w⟩
instance:Callable Tryz.prog 173:=⟨fun args w=>Tryz.call173 args w⟩
instance:Callable Tryz.prog 174:=⟨fun args w=>Tryz.call174 args w⟩
instance:Callable Tryz.prog 175:=⟨fun args w=>Tryz.call175 args w⟩
instance:Callable Tryz.prog 176:=⟨fun args w=>Tryz.call176 args w⟩
instance:Callable Tryz.prog 177:=⟨fun args w=>Tryz.call177 args w⟩
instance:Callable Tryz.prog 178:=⟨fun args w=>Tryz.call178 args w⟩
instance:Callable Tryz.prog 179:=⟨fun args w=>Tryz.call179 args w⟩
instance:Callable Tryz.prog 180:=⟨fun args w=>Tryz.call180 args w⟩
instance:Callable Tryz.prog 181:=⟨fun args w=>Tryz.call181 args w⟩
instance:Callable Tryz.prog 182:=⟨fun args w=>Tryz.call182 args w⟩
instance:Callable Tryz.prog 183:=⟨fun args w=>Tryz.call183 args w⟩
instance:Callable Tryz.prog 184:=⟨fun args w=>Tryz.call184 args w⟩
instance:Callable Tryz.prog 185:=⟨fun args w=>Tryz.call185 args w⟩
instance:Callable Tryz.prog 188:=⟨fun args w=>Tryz.call188 args w⟩
instance:Callable Tryz.prog 189:=⟨fun args w=>Tryz.call189 args w⟩
instance:Callable Tryz.prog 190:=⟨fun args w=>Tryz.call190 args w⟩
instance:Callable Tryz.prog 191:=⟨fun args w=>Tryz.call191 args w⟩
instance:Callable Tryz.prog 192:=⟨fun args w=>Tryz.call192 args w⟩
instance:Callable Tryz.prog 193:=⟨fun args w=>Tryz.call193 args w⟩
instance:Callable Tryz.prog 194:=⟨fun args w=>Tryz.call194 args w⟩
instance:Callable Tryz.prog 195:=⟨fun args w=>Tryz.call195 args w⟩
instance:Callable Tryz.prog 196:=⟨fun args w=>Tryz.call196 args w⟩
instance:Callable Tryz.prog 197:=⟨fun args w=>Tryz.call197 args w⟩
instance:Callable Tryz.prog 198:=⟨fun args w=>Tryz.call198 args w⟩
instance:Callable Tryz.prog 200:=⟨fun args w=>Tryz.call200 args w⟩
instance:Callable Tryz.prog 203:=⟨fun args w=>Tryz.call203 args w⟩
instance:Callable Tryz.prog 204:=⟨fun args w=>Tryz.call204 args w⟩
instance:Callable Tryz.prog 205:=⟨fun args w=>Tryz.call205 args w⟩
instance:Callable Tryz.prog 206:=⟨fun args w=>Tryz.call206 args w⟩
instance:Callable Tryz.prog 208:=⟨fun args w=>Tryz.call208 args w⟩
instance:Callable Tryz.prog 209:=⟨fun args w=>Tryz.call209 args w⟩
instance:Callable Tryz.prog 210:=⟨fun args w=>Tryz.call210 args w⟩
instance:Callable Tryz.prog 211:=⟨fun args w=>Tryz.call211 args w⟩
instance:Callable Tryz.prog 212:=⟨fun args w=>Tryz.call212 args w⟩
instance:Callable Tryz.prog 213:=⟨fun args w=>Tryz.call213 args w⟩
instance:Callable Tryz.prog 214:=⟨fun args w=>Tryz.call214 args w⟩
instance:Callable Tryz.prog 217:=⟨fun args w=>Tryz.call217 args w⟩
instance:Callable Tryz.prog 218:=⟨fun args w=>Tryz.call218 args w⟩
instance:Callable Tryz.prog 219:=⟨fun args w=>Tryz.call219 args w⟩
instance:Callable Tryz.prog 220:=⟨fun args w=>Tryz.call220 args w⟩
instance:Callable Tryz.prog 221:=⟨fun args w=>Tryz.call221 args w⟩
instance:Callable Tryz.prog 222:=⟨fun args w=>Tryz.call222 args w⟩
instance:Callable Tryz.prog 223:=⟨fun args w=>Tryz.call223 args w⟩
instance:Callable Tryz.prog 224:=⟨fun args w=>Tryz.call224 args w⟩
instance:Callable Tryz.prog 225:=⟨fun args w=>Tryz.call225 args w⟩
instance:Callable Tryz.prog 226:=⟨fun args w=>Tryz.call226 args w⟩
instance:Callable Tryz.prog 227:=⟨fun args w=>Tryz.call227 args w⟩
instance:Callable Tryz.prog 228:=⟨fun args w=>Tryz.call228 args w⟩
instance:Callable Tryz.prog 229:=⟨fun args w=>Tryz.call229 args w⟩
instance:Callable Tryz.prog 230:=⟨fun args w=>Tryz.call230 args w⟩
instance:Callable Tryz.prog 231:=⟨fun args w=>Tryz.call231 args w⟩
instance:Callable Tryz.prog 232:=⟨fun args w=>Tryz.call232 args w⟩
instance:Callable Tryz.prog 233:=⟨fun args w=>Tryz.call233 args w⟩
instance:Callable Tryz.prog 234:=⟨fun args w=>Tryz.call234 args w⟩
instance:Callable Tryz.prog 235:=⟨fun args w=>Tryz.call235 args w⟩
instance:Callable Tryz.prog 236:=⟨fun args w=>Tryz.call236 args w⟩
instance:Callable Tryz.prog 237:=⟨fun args w=>Tryz.call237 args w⟩
instance:Callable Tryz.prog 238:=⟨fun args w=>Tryz.call238 args w⟩
instance:Callable Tryz.prog 239:=⟨fun args w=>Tryz.call239 args w⟩
instance:Callable Tryz.prog 240:=⟨fun args w=>Tryz.call240 args w⟩
instance:Callable Tryz.prog 241:=⟨fun args w=>Tryz.call241 args w⟩
instance:Callable Tryz.prog 242:=⟨fun args w=>Tryz.call242 args w⟩
instance:Callable Tryz.prog 243:=⟨fun args w=>Tryz.call243 args w⟩
instance:Callable Tryz.prog 256:=⟨fun args w=>Tryz.call256 args w⟩
instance:Callable Tryz.prog 257:=⟨fun args w=>Tryz.call257 args w⟩
instance:Callable Tryz.prog 258:=⟨fun args w=>Tryz.call258 args w⟩
instance:Callable Tryz.prog 259:=⟨fun args w=>Tryz.call259 args w⟩
instance:Callable Tryz.prog 260:=⟨fun args w=>Tryz.call260 args w⟩
instance:Callable Tryz.prog 261:=⟨fun args w=>Tryz.call261 args w⟩
instance:Callable Tryz.prog 262:=⟨fun args w=>Tryz.call262 args w⟩
instance:Callable Tryz.prog 263:=⟨fun args w=>Tryz.call263 args w⟩
instance:Callable Tryz.prog 264:=⟨fun args w=>Tryz.call264 args w⟩
instance:Callable Tryz.prog 265:=⟨fun args w=>Tryz.call265 args w⟩
instance:Callable Tryz.prog 266:=⟨fun args w=>Tryz.call266 args w⟩
instance:Callable Tryz.prog 267:=⟨fun args w=>Tryz.call267 args w⟩
instance:Callable Tryz.prog 268:=⟨fun args w=>Tryz.call268 args w⟩
instance:Callable Tryz.prog 269:=⟨fun args w=>Tryz.call269 args w⟩
instance:Callable Tryz.prog 270:=⟨fun args w=>Tryz.call270 args w⟩
instance:Callable Tryz.prog 271:=⟨fun args w=>Tryz.call271 args w⟩
instance:Callable Tryz.prog 272:=⟨fun args w=>Tryz.call272 args w⟩
instance:Callable Tryz.prog 273:=⟨fun args w=>Tryz.call273 args w⟩
instance:Callable Tryz.prog 274:=⟨fun args w=>Tryz.call274 args w⟩
instance:Callable Tryz.prog 275:=⟨fun args w=>Tryz.call275 args w⟩
instance:Callable Tryz.prog 276:=⟨fun args w=>Tryz.call276 args w⟩
instance:Callable Tryz.prog 277:=⟨fun args w=>Tryz.call277 args w⟩
instance:Callable Tryz.prog 279:=⟨fun args w=>Tryz.call279 args w⟩
instance:Callable Tryz.prog 280:=⟨fun args w=>Tryz.call280 args w⟩
instance:Callable Tryz.prog 281:=⟨fun args w=>Tryz.call281 args w⟩
instance:Callable Tryz.prog 282:=⟨fun args w=>Tryz.call282 args w⟩
instance:Callable Tryz.prog 283:=⟨fun args w=>Tryz.call283 args w⟩
instance:Callable Tryz.prog 284:=⟨fun args w=>Tryz.call284 args w⟩
instance:Callable Tryz.prog 285:=⟨fun args w=>Tryz.call285 args w⟩
instance:Callable Tryz.prog 286:=⟨fun args w=>Tryz.call286 args w⟩
instance:Callable Tryz.prog 287:=⟨fun args w=>Tryz.call287 args w⟩
instance:Callable Tryz.prog 288:=⟨fun args w=>Tryz.call288 args w⟩
instance:Callable Tryz.prog 289:=⟨fun args w=>Tryz.call289 args w⟩
instance:Callable Tryz.prog 290:=⟨fun args w=>Tryz.call290 args w⟩
instance:Callable Tryz.prog 291:=⟨fun args w=>Tryz.call291 args w⟩
instance:Callable Tryz.prog 297:=⟨fun args w=>Tryz.call297 args w⟩
instance:Callable Tryz.prog 298:=⟨fun args w=>Tryz.call298 args w⟩
instance:Callable Tryz.prog 299:=⟨fun args w=>Tryz.call299 args w⟩
instance:Callable Tryz.prog 300:=⟨fun args w=>Tryz.call300 args w⟩
instance:Callable Tryz.prog 301:=⟨fun args w=>Tryz.call301 args w⟩
instance:Callable Tryz.prog 303:=⟨fun args w=>Tryz.call303 args w⟩
instance:Callable Tryz.prog 304:=⟨fun args w=>Tryz.call304 args w⟩
instance:Callable Tryz.prog 305:=⟨fun args w=>Tryz.call305 args w⟩
instance:Callable Tryz.prog 306:=⟨fun args w=>Tryz.call306 args w⟩
instance:Callable Tryz.prog 307:=⟨fun args w=>Tryz.call307 args w⟩
instance:Callable Tryz.prog 318:=⟨fun args w=>Tryz.call318 args w⟩
instance:Callable Tryz.prog 319:=⟨fun args w=>Tryz.call319 args w⟩
instance:Callable Tryz.prog 320:=⟨fun args w=>Tryz.call320 args w⟩
instance:Callable Tryz.prog 321:=⟨fun args w=>Tryz.call321 args w⟩
instance:Callable Tryz.prog 322:=⟨fun args w=>Tryz.call322 args w⟩
instance:Callable Tryz.prog 323:=⟨fun args w=>Tryz.call323 args w⟩
instance:Callable Tryz.prog 324:=⟨fun args w=>Tryz.call324 args w⟩
instance:Callable Tryz.prog 325:=⟨fun args w=>Tryz.call325 args w⟩
instance:Callable Tryz.prog 326:=⟨fun args w=>Tryz.call326 args w⟩
instance:Callable Tryz.prog 327:=⟨fun args w=>Tryz.call327 args w⟩
instance:Callable Tryz.prog 328:=⟨fun args w=>Tryz.call328 args w⟩
instance:Callable Tryz.prog 330:=⟨fun args w=>Tryz.call330 args w⟩
instance:Callable Tryz.prog 331:=⟨fun args w=>Tryz.call331 args w⟩
instance:Callable Tryz.prog 335:=⟨fun args w=>Tryz.call335 args w⟩
instance:Callable Tryz.prog 336:=⟨fun args w=>Tryz.call336 args w⟩
instance:Callable Tryz.prog 337:=⟨fun args w=>Tryz.call337 args w⟩
instance:Callable Tryz.prog 338:=⟨fun args w=>Tryz.call338 args w⟩
instance:Callable Tryz.prog 344:=⟨fun args w=>Tryz.call344 args w⟩
instance:Callable Tryz.prog 345:=⟨fun args w=>Tryz.call345 args w⟩
instance:Callable Tryz.prog 347:=⟨fun args w=>Tryz.call347 args w⟩
instance:Callable Tryz.prog 348:=⟨fun args w=>Tryz.call348 args w⟩
instance:Callable Tryz.prog 349:=⟨fun args w=>Tryz.call349 args w⟩
instance:Callable Tryz.prog 350:=⟨fun args w=>Tryz.call350 args w⟩
instance:Callable Tryz.prog 351:=⟨fun args w=>Tryz.call351 args w⟩
instance:Callable Tryz.prog 352:=⟨fun args w=>Tryz.call352 args w⟩
instance:Callable Tryz.prog 354:=⟨fun args w=>Tryz.call354 args w⟩
instance:Callable Tryz.prog 355:=⟨fun args w=>Tryz.call355 args w⟩
instance:Callable Tryz.prog 356:=⟨fun args w=>Tryz.call356 args w⟩
instance:Callable Tryz.prog 357:=⟨fun args w=>Tryz.call357 args w⟩
instance:Callable Tryz.prog 359:=⟨fun args w=>Tryz.call359 args w⟩
instance:Callable Tryz.prog 360:=⟨fun args w=>Tryz.call360 args w⟩
instance:Callable Tryz.prog 361:=⟨fun args w=>Tryz.call361 args w⟩
instance:Callable Tryz.prog 364:=⟨fun args w=>Tryz.call364 args w⟩
instance:Callable Tryz.prog 365:=⟨fun args w=>Tryz.call365 args w⟩
instance:Callable Tryz.prog 366:=⟨fun args w=>Tryz.call366 args w⟩
instance:Callable Tryz.prog 367:=⟨fun args w=>Tryz.call367 args w⟩
instance:Callable Tryz.prog 370:=⟨fun args w=>Tryz.call370 args w⟩
instance:Callable Tryz.prog 371:=⟨fun args w=>Tryz.call371 args w⟩
instance:Callable Tryz.prog 374:=⟨fun args w=>Tryz.call374 args w⟩
instance:Callable Tryz.prog 375:=⟨fun args w=>Tryz.call375 args w⟩
end Go.SL
