/-
  Lemmas and walks, put together: Ty.
-/
import Derived.Test.YthefeclkaaocnaaGreatDoorChecked
import Derived.Test.YthefeclkaaocnaaGreatDoorKj03
set_option linter.unusedSimpArgs false
set_option linter.unusedVariables false
set_option maxRecDepth 20000
namespace Go.SL
open Go Go.Proofs
theorem ai {P:Program} {t:Nat} {i:TypeInfo} (h:P.toTables.types[t]? =some i):P.info? t=some i:=by
 have hl:=(Oz.1 h).1
 simp only [Tables.info?,hl,if_true]
 exact h
instance:Und Tryz.prog 2 (TypeDesc.int IntKind.i64):=⟨Tryz.underlying2⟩
instance:Size Tryz.prog 2 1:=⟨_,ai Tryz.type2,rfl⟩
instance:One Tryz.prog 2:=⟨_,Tryz.underlying2,rfl⟩
instance:Elem Tryz.prog 2 1 8:=⟨_,_,ai Tryz.type2,rfl,rfl,rfl,rfl,by decide⟩
instance:Und Tryz.prog 3 (TypeDesc.int IntKind.i64):=⟨Tryz.underlying3⟩
instance:Size Tryz.prog 3 1:=⟨_,ai Tryz.type3,rfl⟩
instance:One Tryz.prog 3:=⟨_,Tryz.underlying3,rfl⟩
instance:Zero Tryz.prog 3 (Value.int IntKind.i64 0):=⟨_,ai Tryz.type3,rfl⟩
instance:ZeroC Tryz.prog 3 ([Value.int IntKind.i64 0]):=⟨_,_,ai Tryz.type3,rfl,rfl⟩
instance:Elem Tryz.prog 3 1 8:=⟨_,_,ai Tryz.type3,rfl,rfl,rfl,rfl,by decide⟩
instance:Und Tryz.prog 4 (TypeDesc.bool):=⟨Tryz.underlying4⟩
instance:Size Tryz.prog 4 1:=⟨_,ai Tryz.type4,rfl⟩
instance:One Tryz.prog 4:=⟨_,Tryz.underlying4,rfl⟩
instance:ZeroC Tryz.prog 4 ([Value.bool false]):=⟨_,_,ai Tryz.type4,rfl,rfl⟩
instance:Und Tryz.prog 5 (TypeDesc.int IntKind.u8):=⟨Tryz.underlying5⟩
instance:Size Tryz.prog 5 1:=⟨_,ai Tryz.type5,rfl⟩
instance:One Tryz.prog 5:=⟨_,Tryz.underlying5,rfl⟩
instance:Elem Tryz.prog 5 1 1:=⟨_,_,ai Tryz.type5,rfl,rfl,rfl,rfl,by decide⟩
instance:Und Tryz.prog 9 (TypeDesc.string):=⟨Tryz.underlying9⟩
instance:Size Tryz.prog 9 1:=⟨_,ai Tryz.type9,rfl⟩
instance:One Tryz.prog 9:=⟨_,Tryz.underlying9,rfl⟩
instance:Elem Tryz.prog 9 1 16:=⟨_,_,ai Tryz.type9,rfl,rfl,rfl,rfl,by decide⟩
instance:Und Tryz.prog 20 (TypeDesc.interface #[]):=⟨Tryz.underlying20⟩
instance:Und Tryz.prog 22 (TypeDesc.slice 53):=⟨Tryz.underlying22⟩
instance:Size Tryz.prog 22 1:=⟨_,ai Tryz.type22,rfl⟩
instance:One Tryz.prog 22:=⟨_,Tryz.underlying22,rfl⟩
instance:Und Tryz.prog 23 (TypeDesc.slice 38):=⟨Tryz.underlying23⟩
instance:Size Tryz.prog 23 1:=⟨_,ai Tryz.type23,rfl⟩
instance:One Tryz.prog 23:=⟨_,Tryz.underlying23,rfl⟩
instance:Und Tryz.prog 24 (TypeDesc.slice 56):=⟨Tryz.underlying24⟩
instance:Size Tryz.prog 24 1:=⟨_,ai Tryz.type24,rfl⟩
instance:One Tryz.prog 24:=⟨_,Tryz.underlying24,rfl⟩
instance:Und Tryz.prog 25 (TypeDesc.slice 48):=⟨Tryz.underlying25⟩
instance:Size Tryz.prog 25 1:=⟨_,ai Tryz.type25,rfl⟩
instance:One Tryz.prog 25:=⟨_,Tryz.underlying25,rfl⟩
instance:Und Tryz.prog 26 (TypeDesc.slice 70):=⟨Tryz.underlying26⟩
instance:Size Tryz.prog 26 1:=⟨_,ai Tryz.type26,rfl⟩
instance:One Tryz.prog 26:=⟨_,Tryz.underlying26,rfl⟩
instance:Size Tryz.prog 28 7:=⟨_,ai Tryz.type28,rfl⟩
instance:Agg Tryz.prog 28 7:=⟨_,_,Tryz.underlying28,rfl,ai Tryz.type28,rfl⟩
instance:ZeroC Tryz.prog 28 ([Value.int IntKind.i64 0,Value.slice none 0 0,Value.slice none 0 0,Value.slice none 0 0,Value.slice none 0 0,Value.slice none 0 0,Value.int IntKind.i64 0]):=⟨_,_,ai Tryz.type28,rfl,rfl⟩
instance:Struct Tryz.prog 28 [(0,1),(1,1),(2,1),(3,1),(4,1),(5,1),(6,1)] ([Value.int IntKind.i64 0,Value.slice none 0 0,Value.slice none 0 0,Value.slice none 0 0,Value.slice none 0 0,Value.slice none 0 0,Value.int IntKind.i64 0]):=⟨_,_,_,ai Tryz.type28,Tryz.underlying28,rfl,by simp only [Ot,OB,ai Tryz.type22,ai Tryz.type23,ai Tryz.type24,ai Tryz.type25,ai Tryz.type26,ai Tryz.type3];rfl,rfl⟩
instance:Fld Tryz.prog 28 0 0:=⟨_,_,_,Tryz.underlying28,rfl,rfl,ai Tryz.type3,by decide⟩
instance:Fld Tryz.prog 28 1 1:=⟨_,_,_,Tryz.underlying28,rfl,rfl,ai Tryz.type22,by decide⟩
instance:Fld Tryz.prog 28 2 2:=⟨_,_,_,Tryz.underlying28,rfl,rfl,ai Tryz.type23,by decide⟩
instance:Fld Tryz.prog 28 3 3:=⟨_,_,_,Tryz.underlying28,rfl,rfl,ai Tryz.type24,by decide⟩
instance:Fld Tryz.prog 28 4 4:=⟨_,_,_,Tryz.underlying28,rfl,rfl,ai Tryz.type25,by decide⟩
instance:Fld Tryz.prog 28 5 5:=⟨_,_,_,Tryz.underlying28,rfl,rfl,ai Tryz.type26,by decide⟩
instance:Fld Tryz.prog 28 6 6:=⟨_,_,_,Tryz.underlying28,rfl,rfl,ai Tryz.type3,by decide⟩
instance:Size Tryz.prog 30 1:=⟨_,ai Tryz.type30,rfl⟩
instance:One Tryz.prog 30:=⟨_,Tryz.underlying30,rfl⟩
instance:ZeroC Tryz.prog 30 ([Value.int IntKind.i64 0]):=⟨_,_,ai Tryz.type30,rfl,rfl⟩
instance:Size Tryz.prog 33 4:=⟨_,ai Tryz.type33,rfl⟩
instance:Agg Tryz.prog 33 4:=⟨_,_,Tryz.underlying33,rfl,ai Tryz.type33,rfl⟩
instance:ZeroC Tryz.prog 33 ([Value.int IntKind.i64 0,Value.int IntKind.i64 0,Value.int IntKind.i64 0,Value.int IntKind.i64 0]):=⟨_,_,ai Tryz.type33,rfl,rfl⟩
instance:Elem Tryz.prog 33 4 32:=⟨_,_,ai Tryz.type33,rfl,rfl,rfl,rfl,by decide⟩
instance:Struct Tryz.prog 33 [(0,1),(1,1),(2,1),(3,1)] ([Value.int IntKind.i64 0,Value.int IntKind.i64 0,Value.int IntKind.i64 0,Value.int IntKind.i64 0]):=⟨_,_,_,ai Tryz.type33,Tryz.underlying33,rfl,by simp only [Ot,OB,ai Tryz.type3];rfl,rfl⟩
instance:Fld Tryz.prog 33 0 0:=⟨_,_,_,Tryz.underlying33,rfl,rfl,ai Tryz.type3,by decide⟩
instance:Fld Tryz.prog 33 1 1:=⟨_,_,_,Tryz.underlying33,rfl,rfl,ai Tryz.type3,by decide⟩
instance:Fld Tryz.prog 33 2 2:=⟨_,_,_,Tryz.underlying33,rfl,rfl,ai Tryz.type3,by decide⟩
instance:Fld Tryz.prog 33 3 3:=⟨_,_,_,Tryz.underlying33,rfl,rfl,ai Tryz.type3,by decide⟩
instance:Und Tryz.prog 34 (TypeDesc.int IntKind.u64):=⟨Tryz.underlying34⟩
instance:Size Tryz.prog 34 1:=⟨_,ai Tryz.type34,rfl⟩
instance:One Tryz.prog 34:=⟨_,Tryz.underlying34,rfl⟩
instance:ZeroC Tryz.prog 34 ([Value.int IntKind.u64 0]):=⟨_,_,ai Tryz.type34,rfl,rfl⟩
instance:Elem Tryz.prog 34 1 8:=⟨_,_,ai Tryz.type34,rfl,rfl,rfl,rfl,by decide⟩
instance:Size Tryz.prog 36 3:=⟨_,ai Tryz.type36,rfl⟩
instance:Agg Tryz.prog 36 3:=⟨_,_,Tryz.underlying36,rfl,ai Tryz.type36,rfl⟩
instance:ZeroC Tryz.prog 36 ([Value.int IntKind.u64 0,Value.int IntKind.u64 0,Value.int IntKind.u64 0]):=⟨_,_,ai Tryz.type36,rfl,rfl⟩
instance:Struct Tryz.prog 36 [(0,1),(1,1),(2,1)] ([Value.int IntKind.u64 0,Value.int IntKind.u64 0,Value.int IntKind.u64 0]):=⟨_,_,_,ai Tryz.type36,Tryz.underlying36,rfl,by simp only [Ot,OB,ai Tryz.type34];rfl,rfl⟩
instance:Fld Tryz.prog 36 0 0:=⟨_,_,_,Tryz.underlying36,rfl,rfl,ai Tryz.type34,by decide⟩
instance:Fld Tryz.prog 36 1 1:=⟨_,_,_,Tryz.underlying36,rfl,rfl,ai Tryz.type34,by decide⟩
instance:Fld Tryz.prog 36 2 2:=⟨_,_,_,Tryz.underlying36,rfl,rfl,ai Tryz.type34,by decide⟩
instance:Size Tryz.prog 38 7:=⟨_,ai Tryz.type38,rfl⟩
instance:Agg Tryz.prog 38 7:=⟨_,_,Tryz.underlying38,rfl,ai Tryz.type38,rfl⟩
instance:ZeroC Tryz.prog 38 ([Value.int IntKind.i64 0,Value.int IntKind.i64 0,Value.int IntKind.i64 0,Value.int IntKind.i64 0,Value.int IntKind.u64 0,Value.int IntKind.u64 0,Value.int IntKind.u64 0]):=⟨_,_,ai Tryz.type38,rfl,rfl⟩
instance:Elem Tryz.prog 38 7 56:=⟨_,_,ai Tryz.type38,rfl,rfl,rfl,rfl,by decide⟩
instance:Struct Tryz.prog 38 [(0,4),(4,3)] ([Value.int IntKind.i64 0,Value.int IntKind.i64 0,Value.int IntKind.i64 0,Value.int IntKind.i64 0,Value.int IntKind.u64 0,Value.int IntKind.u64 0,Value.int IntKind.u64 0]):=⟨_,_,_,ai Tryz.type38,Tryz.underlying38,rfl,by simp only [Ot,OB,ai Tryz.type33,ai Tryz.type36];rfl,rfl⟩
instance:Fld Tryz.prog 38 0 0:=⟨_,_,_,Tryz.underlying38,rfl,rfl,ai Tryz.type33,by decide⟩
instance:Fld Tryz.prog 38 1 4:=⟨_,_,_,Tryz.underlying38,rfl,rfl,ai Tryz.type36,by decide⟩
instance:Size Tryz.prog 41 13:=⟨_,ai Tryz.type41,rfl⟩
instance:Agg Tryz.prog 41 13:=⟨_,_,Tryz.underlying41,rfl,ai Tryz.type41,rfl⟩
instance:ZeroC Tryz.prog 41 ([Value.int IntKind.u8 0,Value.int IntKind.i64 0,Value.int IntKind.i64 0,Value.int IntKind.i64 0,Value.int IntKind.i64 0,Value.int IntKind.i64 0,Value.string { data:= #[] },Value.int IntKind.u64 0,Value.int IntKind.u64 0,Value.int IntKind.u64 0,Value.int IntKind.u8 0,Value.int IntKind.u64 0,Value.int IntKind.i64 0]):=⟨_,_,ai Tryz.type41,rfl,rfl⟩
instance:Struct Tryz.prog 41 [(0,1),(1,1),(2,4),(6,1),(7,3),(10,1),(11,1),(12,1)] ([Value.int IntKind.u8 0,Value.int IntKind.i64 0,Value.int IntKind.i64 0,Value.int IntKind.i64 0,Value.int IntKind.i64 0,Value.int IntKind.i64 0,Value.string { data:= #[] },Value.int IntKind.u64 0,Value.int IntKind.u64 0,Value.int IntKind.u64 0,Value.int IntKind.u8 0,Value.int IntKind.u64 0,Value.int IntKind.i64 0]):=⟨_,_,_,ai Tryz.type41,Tryz.underlying41,rfl,by simp only [Ot,OB,ai Tryz.type3,ai Tryz.type33,ai Tryz.type34,ai Tryz.type36,ai Tryz.type5,ai Tryz.type9];rfl,rfl⟩
instance:Fld Tryz.prog 41 0 0:=⟨_,_,_,Tryz.underlying41,rfl,rfl,ai Tryz.type5,by decide⟩
instance:Fld Tryz.prog 41 1 1:=⟨_,_,_,Tryz.underlying41,rfl,rfl,ai Tryz.type3,by decide⟩
instance:Fld Tryz.prog 41 2 2:=⟨_,_,_,Tryz.underlying41,rfl,rfl,ai Tryz.type33,by decide⟩
instance:Fld Tryz.prog 41 3 6:=⟨_,_,_,Tryz.underlying41,rfl,rfl,ai Tryz.type9,by decide⟩
instance:Fld Tryz.prog 41 4 7:=⟨_,_,_,Tryz.underlying41,rfl,rfl,ai Tryz.type36,by decide⟩
instance:Fld Tryz.prog 41 5 10:=⟨_,_,_,Tryz.underlying41,rfl,rfl,ai Tryz.type5,by decide⟩
instance:Fld Tryz.prog 41 6 11:=⟨_,_,_,Tryz.underlying41,rfl,rfl,ai Tryz.type34,by decide⟩
instance:Fld Tryz.prog 41 7 12:=⟨_,_,_,Tryz.underlying41,rfl,rfl,ai Tryz.type3,by decide⟩
instance:Size Tryz.prog 48 9:=⟨_,ai Tryz.type48,rfl⟩
instance:Agg Tryz.prog 48 9:=⟨_,_,Tryz.underlying48,rfl,ai Tryz.type48,rfl⟩
instance:ZeroC Tryz.prog 48 ([Value.int IntKind.i64 0,Value.int IntKind.i64 0,Value.int IntKind.u8 0,Value.int IntKind.i64 0,Value.int IntKind.i64 0,Value.int IntKind.i64 0,Value.int IntKind.i64 0,Value.bool false,Value.int IntKind.u64 0]):=⟨_,_,ai Tryz.type48,rfl,rfl⟩
instance:Elem Tryz.prog 48 9 72:=⟨_,_,ai Tryz.type48,rfl,rfl,rfl,rfl,by decide⟩
instance:Struct Tryz.prog 48 [(0,1),(1,1),(2,1),(3,4),(7,1),(8,1)] ([Value.int IntKind.i64 0,Value.int IntKind.i64 0,Value.int IntKind.u8 0,Value.int IntKind.i64 0,Value.int IntKind.i64 0,Value.int IntKind.i64 0,Value.int IntKind.i64 0,Value.bool false,Value.int IntKind.u64 0]):=⟨_,_,_,ai Tryz.type48,Tryz.underlying48,rfl,by simp only [Ot,OB,ai Tryz.type3,ai Tryz.type33,ai Tryz.type34,ai Tryz.type4,ai Tryz.type5];rfl,rfl⟩
instance:Fld Tryz.prog 48 0 0:=⟨_,_,_,Tryz.underlying48,rfl,rfl,ai Tryz.type3,by decide⟩
instance:Fld Tryz.prog 48 1 1:=⟨_,_,_,Tryz.underlying48,rfl,rfl,ai Tryz.type3,by decide⟩
instance:Fld Tryz.prog 48 2 2:=⟨_,_,_,Tryz.underlying48,rfl,rfl,ai Tryz.type5,by decide⟩
instance:Fld Tryz.prog 48 3 3:=⟨_,_,_,Tryz.underlying48,rfl,rfl,ai Tryz.type33,by decide⟩
instance:Fld Tryz.prog 48 4 7:=⟨_,_,_,Tryz.underlying48,rfl,rfl,ai Tryz.type4,by decide⟩
instance:Fld Tryz.prog 48 5 8:=⟨_,_,_,Tryz.underlying48,rfl,rfl,ai Tryz.type34,by decide⟩
instance:Size Tryz.prog 51 2:=⟨_,ai Tryz.type51,rfl⟩
instance:Agg Tryz.prog 51 2:=⟨_,_,Tryz.underlying51,rfl,ai Tryz.type51,rfl⟩
instance:ZeroC Tryz.prog 51 ([Value.int IntKind.i64 0,Value.int IntKind.i64 0]):=⟨_,_,ai Tryz.type51,rfl,rfl⟩
instance:Struct Tryz.prog 51 [(0,1),(1,1)] ([Value.int IntKind.i64 0,Value.int IntKind.i64 0]):=⟨_,_,_,ai Tryz.type51,Tryz.underlying51,rfl,by simp only [Ot,OB,ai Tryz.type3];rfl,rfl⟩
instance:Fld Tryz.prog 51 0 0:=⟨_,_,_,Tryz.underlying51,rfl,rfl,ai Tryz.type3,by decide⟩
instance:Fld Tryz.prog 51 1 1:=⟨_,_,_,Tryz.underlying51,rfl,rfl,ai Tryz.type3,by decide⟩
instance:Size Tryz.prog 53 3:=⟨_,ai Tryz.type53,rfl⟩
instance:Agg Tryz.prog 53 3:=⟨_,_,Tryz.underlying53,rfl,ai Tryz.type53,rfl⟩
instance:Zero Tryz.prog 53 (Value.agg #[Value.int IntKind.i64 0,Value.int IntKind.i64 0,Value.string { data:= #[] }]):=⟨_,ai Tryz.type53,rfl⟩
instance:ZeroC Tryz.prog 53 ([Value.int IntKind.i64 0,Value.int IntKind.i64 0,Value.string { data:= #[] }]):=⟨_,_,ai Tryz.type53,rfl,rfl⟩
instance:Elem Tryz.prog 53 3 32:=⟨_,_,ai Tryz.type53,rfl,rfl,rfl,rfl,by decide⟩
instance:Struct Tryz.prog 53 [(0,2),(2,1)] ([Value.int IntKind.i64 0,Value.int IntKind.i64 0,Value.string { data:= #[] }]):=⟨_,_,_,ai Tryz.type53,Tryz.underlying53,rfl,by simp only [Ot,OB,ai Tryz.type51,ai Tryz.type9];rfl,rfl⟩
instance:Fld Tryz.prog 53 0 0:=⟨_,_,_,Tryz.underlying53,rfl,rfl,ai Tryz.type51,by decide⟩
instance:Fld Tryz.prog 53 1 2:=⟨_,_,_,Tryz.underlying53,rfl,rfl,ai Tryz.type9,by decide⟩
instance:Size Tryz.prog 56 8:=⟨_,ai Tryz.type56,rfl⟩
instance:Agg Tryz.prog 56 8:=⟨_,_,Tryz.underlying56,rfl,ai Tryz.type56,rfl⟩
instance:ZeroC Tryz.prog 56 ([Value.int IntKind.i64 0,Value.int IntKind.i64 0,Value.int IntKind.i64 0,Value.int IntKind.i64 0,Value.int IntKind.u8 0,Value.int IntKind.u64 0,Value.int IntKind.i64 0,Value.bool false]):=⟨_,_,ai Tryz.type56,rfl,rfl⟩
instance:Elem Tryz.prog 56 8 64:=⟨_,_,ai Tryz.type56,rfl,rfl,rfl,rfl,by decide⟩
instance:Struct Tryz.prog 56 [(0,4),(4,1),(5,1),(6,1),(7,1)] ([Value.int IntKind.i64 0,Value.int IntKind.i64 0,Value.int IntKind.i64 0,Value.int IntKind.i64 0,Value.int IntKind.u8 0,Value.int IntKind.u64 0,Value.int IntKind.i64 0,Value.bool false]):=⟨_,_,_,ai Tryz.type56,Tryz.underlying56,rfl,by simp only [Ot,OB,ai Tryz.type3,ai Tryz.type33,ai Tryz.type34,ai Tryz.type4,ai Tryz.type5];rfl,rfl⟩
instance:Fld Tryz.prog 56 0 0:=⟨_,_,_,Tryz.underlying56,rfl,rfl,ai Tryz.type33,by decide⟩
instance:Fld Tryz.prog 56 1 4:=⟨_,_,_,Tryz.underlying56,rfl,rfl,ai Tryz.type5,by decide⟩
instance:Fld Tryz.prog 56 2 5:=⟨_,_,_,Tryz.underlying56,rfl,rfl,ai Tryz.type34,by decide⟩
instance:Fld Tryz.prog 56 3 6:=⟨_,_,_,Tryz.underlying56,rfl,rfl,ai Tryz.type3,by decide⟩
instance:Fld Tryz.prog 56 4 7:=⟨_,_,_,Tryz.underlying56,rfl,rfl,ai Tryz.type4,by decide⟩
instance:One Tryz.prog 60:=⟨_,Tryz.underlying60,rfl⟩
instance:Und Tryz.prog 65 (TypeDesc.slice 51):=⟨Tryz.underlying65⟩
instance:Fld Tryz.prog 68 0 0:=⟨_,_,_,Tryz.underlying68,rfl,rfl,ai Tryz.type51,by decide⟩
instance:Fld Tryz.prog 68 1 2:=⟨_,_,_,Tryz.underlying68,rfl,rfl,ai Tryz.type3,by decide⟩
instance:Size Tryz.prog 70 11:=⟨_,ai Tryz.type70,rfl⟩
instance:Agg Tryz.prog 70 11:=⟨_,_,Tryz.underlying70,rfl,ai Tryz.type70,rfl⟩
instance:ZeroC Tryz.prog 70 ([Value.int IntKind.i64 0,Value.int IntKind.i64 0,Value.int IntKind.i64 0,Value.int IntKind.i64 0,Value.int IntKind.u8 0,Value.int IntKind.i64 0,Value.int IntKind.i64 0,Value.int IntKind.i64 0,Value.int IntKind.i64 0,Value.int IntKind.i64 0,Value.int IntKind.u64 0]):=⟨_,_,ai Tryz.type70,rfl,rfl⟩
instance:Elem Tryz.prog 70 11 88:=⟨_,_,ai Tryz.type70,rfl,rfl,rfl,rfl,by decide⟩
instance:Fld Tryz.prog 70 0 0:=⟨_,_,_,Tryz.underlying70,rfl,rfl,ai Tryz.type3,by decide⟩
instance:Fld Tryz.prog 70 1 1:=⟨_,_,_,Tryz.underlying70,rfl,rfl,ai Tryz.type68,by decide⟩
instance:Fld Tryz.prog 70 2 4:=⟨_,_,_,Tryz.underlying70,rfl,rfl,ai Tryz.type5,by decide⟩
instance:Fld Tryz.prog 70 3 5:=⟨_,_,_,Tryz.underlying70,rfl,rfl,ai Tryz.type33,by decide⟩
instance:Fld Tryz.prog 70 4 9:=⟨_,_,_,Tryz.underlying70,rfl,rfl,ai Tryz.type3,by decide⟩
instance:Fld Tryz.prog 70 5 10:=⟨_,_,_,Tryz.underlying70,rfl,rfl,ai Tryz.type34,by decide⟩
instance:Und Tryz.prog 75 (TypeDesc.int IntKind.u64):=⟨Tryz.underlying75⟩
instance:Und Tryz.prog 86 (TypeDesc.slice 174):=⟨Tryz.underlying86⟩
instance:Size Tryz.prog 86 1:=⟨_,ai Tryz.type86,rfl⟩
instance:One Tryz.prog 86:=⟨_,Tryz.underlying86,rfl⟩
instance:ZeroC Tryz.prog 86 ([Value.slice none 0 0]):=⟨_,_,ai Tryz.type86,rfl,rfl⟩
instance:Und Tryz.prog 89 (TypeDesc.slice 9):=⟨Tryz.underlying89⟩
instance:Und Tryz.prog 102 (TypeDesc.slice 3):=⟨Tryz.underlying102⟩
instance:Und Tryz.prog 110 (TypeDesc.slice 33):=⟨Tryz.underlying110⟩
instance:One Tryz.prog 123:=⟨_,Tryz.underlying123,rfl⟩
instance:Und Tryz.prog 140 (TypeDesc.slice 34):=⟨Tryz.underlying140⟩
instance:Und Tryz.prog 141 (TypeDesc.slice 145):=⟨Tryz.underlying141⟩
instance:Und Tryz.prog 143 (TypeDesc.array 2 3):=⟨Tryz.underlying143⟩
instance:Size Tryz.prog 143 2:=⟨_,ai Tryz.type143,rfl⟩
instance:Agg Tryz.prog 143 2:=⟨_,_,Tryz.underlying143,rfl,ai Tryz.type143,rfl⟩
instance:ZeroC Tryz.prog 143 ([Value.int IntKind.i64 0,Value.int IntKind.i64 0]):=⟨_,_,ai Tryz.type143,rfl,rfl⟩
instance:Elem Tryz.prog 143 2 16:=⟨_,_,ai Tryz.type143,rfl,rfl,rfl,rfl,by decide⟩
instance:Size Tryz.prog 145 6:=⟨_,ai Tryz.type145,rfl⟩
instance:Agg Tryz.prog 145 6:=⟨_,_,Tryz.underlying145,rfl,ai Tryz.type145,rfl⟩
instance:ZeroC Tryz.prog 145 ([Value.int IntKind.i64 0,Value.int IntKind.i64 0,Value.int IntKind.i64 0,Value.int IntKind.i64 0,Value.int IntKind.i64 0,Value.int IntKind.i64 0]):=⟨_,_,ai Tryz.type145,rfl,rfl⟩
instance:Elem Tryz.prog 145 6 48:=⟨_,_,ai Tryz.type145,rfl,rfl,rfl,rfl,by decide⟩
instance:Struct Tryz.prog 145 [(0,4),(4,2)] ([Value.int IntKind.i64 0,Value.int IntKind.i64 0,Value.int IntKind.i64 0,Value.int IntKind.i64 0,Value.int IntKind.i64 0,Value.int IntKind.i64 0]):=⟨_,_,_,ai Tryz.type145,Tryz.underlying145,rfl,by simp only [Ot,OB,ai Tryz.type143,ai Tryz.type33];rfl,rfl⟩
instance:Fld Tryz.prog 145 0 0:=⟨_,_,_,Tryz.underlying145,rfl,rfl,ai Tryz.type33,by decide⟩
instance:Fld Tryz.prog 145 1 4:=⟨_,_,_,Tryz.underlying145,rfl,rfl,ai Tryz.type143,by decide⟩
instance:Size Tryz.prog 172 3:=⟨_,ai Tryz.type172,rfl⟩
instance:Agg Tryz.prog 172 3:=⟨_,_,Tryz.underlying172,rfl,ai Tryz.type172,rfl⟩
instance:ZeroC Tryz.prog 172 ([Value.int IntKind.u8 0,Value.int IntKind.i64 0,Value.string { data:= #[] }]):=⟨_,_,ai Tryz.type172,rfl,rfl⟩
instance:Struct Tryz.prog 172 [(0,1),(1,1),(2,1)] ([Value.int IntKind.u8 0,Value.int IntKind.i64 0,Value.string { data:= #[] }]):=⟨_,_,_,ai Tryz.type172,Tryz.underlying172,rfl,by simp only [Ot,OB,ai Tryz.type2,ai Tryz.type5,ai Tryz.type9];rfl,rfl⟩
instance:Fld Tryz.prog 172 0 0:=⟨_,_,_,Tryz.underlying172,rfl,rfl,ai Tryz.type5,by decide⟩
instance:Fld Tryz.prog 172 1 1:=⟨_,_,_,Tryz.underlying172,rfl,rfl,ai Tryz.type2,by decide⟩
instance:Fld Tryz.prog 172 2 2:=⟨_,_,_,Tryz.underlying172,rfl,rfl,ai Tryz.type9,by decide⟩
instance:Size Tryz.prog 174 11:=⟨_,ai Tryz.type174,rfl⟩
instance:Agg Tryz.prog 174 11:=⟨_,_,Tryz.underlying174,rfl,ai Tryz.type174,rfl⟩
instance:ZeroC Tryz.prog 174 ([Value.int IntKind.u8 0,Value.int IntKind.u8 0,Value.int IntKind.i64 0,Value.string { data:= #[] },Value.int IntKind.i64 0,Value.int IntKind.i64 0,Value.int IntKind.i64 0,Value.int IntKind.i64 0,Value.int IntKind.i64 0,Value.int IntKind.u8 0,Value.int IntKind.i64 0]):=⟨_,_,ai Tryz.type174,rfl,rfl⟩
instance:Elem Tryz.prog 174 11 96:=⟨_,_,ai Tryz.type174,rfl,rfl,rfl,rfl,by decide⟩
instance:Struct Tryz.prog 174 [(0,1),(1,3),(4,4),(8,1),(9,1),(10,1)] ([Value.int IntKind.u8 0,Value.int IntKind.u8 0,Value.int IntKind.i64 0,Value.string { data:= #[] },Value.int IntKind.i64 0,Value.int IntKind.i64 0,Value.int IntKind.i64 0,Value.int IntKind.i64 0,Value.int IntKind.i64 0,Value.int IntKind.u8 0,Value.int IntKind.i64 0]):=⟨_,_,_,ai Tryz.type174,Tryz.underlying174,rfl,by simp only [Ot,OB,ai Tryz.type172,ai Tryz.type2,ai Tryz.type3,ai Tryz.type33,ai Tryz.type5];rfl,rfl⟩
instance:Fld Tryz.prog 174 0 0:=⟨_,_,_,Tryz.underlying174,rfl,rfl,ai Tryz.type5,by decide⟩
instance:Fld Tryz.prog 174 1 1:=⟨_,_,_,Tryz.underlying174,rfl,rfl,ai Tryz.type172,by decide⟩
instance:Fld Tryz.prog 174 2 4:=⟨_,_,_,Tryz.underlying174,rfl,rfl,ai Tryz.type33,by decide⟩
instance:Fld Tryz.prog 174 3 8:=⟨_,_,_,Tryz.underlying174,rfl,rfl,ai Tryz.type2,by decide⟩
instance:Fld Tryz.prog 174 4 9:=⟨_,_,_,Tryz.underlying174,rfl,rfl,ai Tryz.type5,by decide⟩
instance:Fld Tryz.prog 174 5 10:=⟨_,_,_,Tryz.underlying174,rfl,rfl,ai Tryz.type3,by decide⟩
instance:Size Tryz.prog 192 5:=⟨_,ai Tryz.type192,rfl⟩
instance:Agg Tryz.prog 192 5:=⟨_,_,Tryz.underlying192,rfl,ai Tryz.type192,rfl⟩
instance:ZeroC Tryz.prog 192 ([Value.bool false,Value.int IntKind.u8 0,Value.int IntKind.i64 0,Value.string { data:= #[] },Value.slice none 0 0]):=⟨_,_,ai Tryz.type192,rfl,rfl⟩
instance:Struct Tryz.prog 192 [(0,1),(1,3),(4,1)] ([Value.bool false,Value.int IntKind.u8 0,Value.int IntKind.i64 0,Value.string { data:= #[] },Value.slice none 0 0]):=⟨_,_,_,ai Tryz.type192,Tryz.underlying192,rfl,by simp only [Ot,OB,ai Tryz.type172,ai Tryz.type4,ai Tryz.type86];rfl,rfl⟩
instance:Size Tryz.prog 200 2:=⟨_,ai Tryz.type200,rfl⟩
instance:Agg Tryz.prog 200 2:=⟨_,_,Tryz.underlying200,rfl,ai Tryz.type200,rfl⟩
instance:ZeroC Tryz.prog 200 ([Value.int IntKind.u8 0,Value.nilFunc]):=⟨_,_,ai Tryz.type200,rfl,rfl⟩
instance:Elem Tryz.prog 200 2 16:=⟨_,_,ai Tryz.type200,rfl,rfl,rfl,rfl,by decide⟩
instance:Struct Tryz.prog 200 [(0,1),(1,1)] ([Value.int IntKind.u8 0,Value.nilFunc]):=⟨_,_,_,ai Tryz.type200,Tryz.underlying200,rfl,by simp only [Ot,OB,ai Tryz.type5,ai Tryz.type60];rfl,rfl⟩
instance:Fld Tryz.prog 200 0 0:=⟨_,_,_,Tryz.underlying200,rfl,rfl,ai Tryz.type5,by decide⟩
instance:Fld Tryz.prog 200 1 1:=⟨_,_,_,Tryz.underlying200,rfl,rfl,ai Tryz.type60,by decide⟩
instance:Und Tryz.prog 203 (TypeDesc.slice 200):=⟨Tryz.underlying203⟩
instance:Und Tryz.prog 210 (TypeDesc.slice 143):=⟨Tryz.underlying210⟩
instance:Size Tryz.prog 210 1:=⟨_,ai Tryz.type210,rfl⟩
instance:One Tryz.prog 210:=⟨_,Tryz.underlying210,rfl⟩
instance:ZeroC Tryz.prog 210 ([Value.slice none 0 0]):=⟨_,_,ai Tryz.type210,rfl,rfl⟩
instance:One Tryz.prog 248:=⟨_,Tryz.underlying248,rfl⟩
instance:Size Tryz.prog 279 1:=⟨_,ai Tryz.type279,rfl⟩
instance:One Tryz.prog 279:=⟨_,Tryz.underlying279,rfl⟩
instance:Elem Tryz.prog 279 1 8:=⟨_,_,ai Tryz.type279,rfl,rfl,rfl,rfl,by decide⟩
instance:Und Tryz.prog 284 (TypeDesc.slice 279):=⟨Tryz.underlying284⟩
instance:Und Tryz.prog 286 (TypeDesc.slice 295):=⟨Tryz.underlying286⟩
instance:Size Tryz.prog 286 1:=⟨_,ai Tryz.type286,rfl⟩
instance:One Tryz.prog 286:=⟨_,Tryz.underlying286,rfl⟩
instance:Und Tryz.prog 290 (TypeDesc.struct #[{ name:= "at",type:=3,offset:=0,embedded:=false,tag:= "",pkgPath:= "louvre/parse",byteOffset:=0 },{ name:= "e",type:=30,offset:=1,embedded:=false,tag:= "",pkgPath:= "louvre/parse",byteOffset:=8 }]):=⟨Tryz.underlying290⟩
instance:Size Tryz.prog 290 2:=⟨_,ai Tryz.type290,rfl⟩
instance:ZeroC Tryz.prog 290 ([Value.int IntKind.i64 0,Value.int IntKind.i64 0]):=⟨_,_,ai Tryz.type290,rfl,rfl⟩
instance:Struct Tryz.prog 290 [(0,1),(1,1)] ([Value.int IntKind.i64 0,Value.int IntKind.i64 0]):=⟨_,_,_,ai Tryz.type290,Tryz.underlying290,rfl,by simp only [Ot,OB,ai Tryz.type3,ai Tryz.type30];rfl,rfl⟩
instance:Fld Tryz.prog 290 0 0:=⟨_,_,_,Tryz.underlying290,rfl,rfl,ai Tryz.type3,by decide⟩
instance:Fld Tryz.prog 290 1 1:=⟨_,_,_,Tryz.underlying290,rfl,rfl,ai Tryz.type30,by decide⟩
instance:One Tryz.prog 291:=⟨_,Tryz.underlying291,rfl⟩
instance:Struct Tryz.prog 293 [(0,1),(1,1),(2,1)] ([Value.slice none 0 0,Value.int IntKind.i64 0,Value.slice none 0 0]):=⟨_,_,_,ai Tryz.type293,Tryz.underlying293,rfl,by simp only [Ot,OB,ai Tryz.type286,ai Tryz.type3,ai Tryz.type86];rfl,rfl⟩
instance:Fld Tryz.prog 293 0 0:=⟨_,_,_,Tryz.underlying293,rfl,rfl,ai Tryz.type286,by decide⟩
instance:Fld Tryz.prog 293 1 1:=⟨_,_,_,Tryz.underlying293,rfl,rfl,ai Tryz.type3,by decide⟩
instance:Fld Tryz.prog 293 2 2:=⟨_,_,_,Tryz.underlying293,rfl,rfl,ai Tryz.type86,by decide⟩
instance:Size Tryz.prog 295 8:=⟨_,ai Tryz.type295,rfl⟩
instance:Agg Tryz.prog 295 8:=⟨_,_,Tryz.underlying295,rfl,ai Tryz.type295,rfl⟩
instance:ZeroC Tryz.prog 295 ([Value.int IntKind.u8 0,Value.int IntKind.i64 0,Value.string { data:= #[] },Value.int IntKind.i64 0,Value.int IntKind.i64 0,Value.int IntKind.i64 0,Value.int IntKind.i64 0,Value.int IntKind.i64 0]):=⟨_,_,ai Tryz.type295,rfl,rfl⟩
instance:Elem Tryz.prog 295 8 72:=⟨_,_,ai Tryz.type295,rfl,rfl,rfl,rfl,by decide⟩
instance:Struct Tryz.prog 295 [(0,1),(1,1),(2,1),(3,4),(7,1)] ([Value.int IntKind.u8 0,Value.int IntKind.i64 0,Value.string { data:= #[] },Value.int IntKind.i64 0,Value.int IntKind.i64 0,Value.int IntKind.i64 0,Value.int IntKind.i64 0,Value.int IntKind.i64 0]):=⟨_,_,_,ai Tryz.type295,Tryz.underlying295,rfl,by simp only [Ot,OB,ai Tryz.type2,ai Tryz.type3,ai Tryz.type33,ai Tryz.type5,ai Tryz.type9];rfl,rfl⟩
instance:Fld Tryz.prog 295 0 0:=⟨_,_,_,Tryz.underlying295,rfl,rfl,ai Tryz.type5,by decide⟩
instance:Fld Tryz.prog 295 1 1:=⟨_,_,_,Tryz.underlying295,rfl,rfl,ai Tryz.type2,by decide⟩
instance:Fld Tryz.prog 295 2 2:=⟨_,_,_,Tryz.underlying295,rfl,rfl,ai Tryz.type9,by decide⟩
instance:Fld Tryz.prog 295 3 3:=⟨_,_,_,Tryz.underlying295,rfl,rfl,ai Tryz.type33,by decide⟩
instance:Fld Tryz.prog 295 4 7:=⟨_,_,_,Tryz.underlying295,rfl,rfl,ai Tryz.type3,by decide⟩
instance:Und Tryz.prog 317 (TypeDesc.slice 5):=⟨Tryz.underlying317⟩
instance:Agg Tryz.prog 323 3:=⟨_,_,Tryz.underlying323,rfl,ai Tryz.type323,rfl⟩
instance:Fld Tryz.prog 323 2 2:=⟨_,_,_,Tryz.underlying323,rfl,rfl,ai Tryz.type9,by decide⟩
instance:Und Tryz.prog 324 (TypeDesc.map 5 325):=⟨Tryz.underlying324⟩
instance:Zero Tryz.prog 325 (Value.nilFunc):=⟨_,ai Tryz.type325,rfl⟩
instance:Und Tryz.prog 328 (TypeDesc.array 8 9):=⟨Tryz.underlying328⟩
instance:Agg Tryz.prog 328 8:=⟨_,_,Tryz.underlying328,rfl,ai Tryz.type328,rfl⟩
instance:Struct Tryz.prog 334 [(0,1)] ([Value.string { data:= #[] }]):=⟨_,_,_,ai Tryz.type334,Tryz.underlying334,rfl,by simp only [Ot,OB,ai Tryz.type9];rfl,rfl⟩
instance:Fld Tryz.prog 334 0 0:=⟨_,_,_,Tryz.underlying334,rfl,rfl,ai Tryz.type9,by decide⟩
instance:Size Tryz.prog 335 1:=⟨_,ai Tryz.type335,rfl⟩
instance:One Tryz.prog 335:=⟨_,Tryz.underlying335,rfl⟩
instance:Und Tryz.prog 336 (TypeDesc.array 5 335):=⟨Tryz.underlying336⟩
instance:Size Tryz.prog 336 5:=⟨_,ai Tryz.type336,rfl⟩
instance:Agg Tryz.prog 336 5:=⟨_,_,Tryz.underlying336,rfl,ai Tryz.type336,rfl⟩
instance:ZeroC Tryz.prog 336 ([Value.nilFunc,Value.nilFunc,Value.nilFunc,Value.nilFunc,Value.nilFunc]):=⟨_,_,ai Tryz.type336,rfl,rfl⟩
instance:Struct Tryz.prog 342 [(0,1),(1,1),(2,1),(3,1),(4,1),(5,1)] ([Value.string { data:= #[] },Value.slice none 0 0,Value.int IntKind.i64 0,Value.slice none 0 0,Value.int IntKind.i64 0,Value.int IntKind.i64 0]):=⟨_,_,_,ai Tryz.type342,Tryz.underlying342,rfl,by simp only [Ot,OB,ai Tryz.type286,ai Tryz.type3,ai Tryz.type30,ai Tryz.type86,ai Tryz.type9];rfl,rfl⟩
instance:Fld Tryz.prog 342 0 0:=⟨_,_,_,Tryz.underlying342,rfl,rfl,ai Tryz.type9,by decide⟩
instance:Fld Tryz.prog 342 1 1:=⟨_,_,_,Tryz.underlying342,rfl,rfl,ai Tryz.type286,by decide⟩
instance:Fld Tryz.prog 342 2 2:=⟨_,_,_,Tryz.underlying342,rfl,rfl,ai Tryz.type3,by decide⟩
instance:Fld Tryz.prog 342 3 3:=⟨_,_,_,Tryz.underlying342,rfl,rfl,ai Tryz.type86,by decide⟩
instance:Fld Tryz.prog 342 4 4:=⟨_,_,_,Tryz.underlying342,rfl,rfl,ai Tryz.type3,by decide⟩
instance:Fld Tryz.prog 342 5 5:=⟨_,_,_,Tryz.underlying342,rfl,rfl,ai Tryz.type30,by decide⟩
instance:Und Tryz.prog 368 (TypeDesc.slice 2):=⟨Tryz.underlying368⟩
instance:Size Tryz.prog 377 2:=⟨_,ai Tryz.type377,rfl⟩
instance:Agg Tryz.prog 377 2:=⟨_,_,Tryz.underlying377,rfl,ai Tryz.type377,rfl⟩
instance:ZeroC Tryz.prog 377 ([Value.int IntKind.u64 0,Value.int IntKind.u64 0]):=⟨_,_,ai Tryz.type377,rfl,rfl⟩
instance:Struct Tryz.prog 377 [(0,1),(1,1)] ([Value.int IntKind.u64 0,Value.int IntKind.u64 0]):=⟨_,_,_,ai Tryz.type377,Tryz.underlying377,rfl,by simp only [Ot,OB,ai Tryz.type34];rfl,rfl⟩
instance:Fld Tryz.prog 377 0 0:=⟨_,_,_,Tryz.underlying377,rfl,rfl,ai Tryz.type34,by decide⟩
instance:Fld Tryz.prog 377 1 1:=⟨_,_,_,Tryz.underlying377,rfl,rfl,ai Tryz.type34,by decide⟩
instance:Und Tryz.prog 383 (TypeDesc.slice 387):=⟨Tryz.underlying383⟩
instance:Size Tryz.prog 387 2:=⟨_,ai Tryz.type387,rfl⟩
instance:Elem Tryz.prog 387 2 16:=⟨_,_,ai Tryz.type387,rfl,rfl,rfl,rfl,by decide⟩
instance:Struct Tryz.prog 387 [(0,1),(1,1)] ([Value.int IntKind.i64 0,Value.int IntKind.i64 0]):=⟨_,_,_,ai Tryz.type387,Tryz.underlying387,rfl,by simp only [Ot,OB,ai Tryz.type3];rfl,rfl⟩
instance:Fld Tryz.prog 387 0 0:=⟨_,_,_,Tryz.underlying387,rfl,rfl,ai Tryz.type3,by decide⟩
instance:Fld Tryz.prog 387 1 1:=⟨_,_,_,Tryz.underlying387,rfl,rfl,ai Tryz.type3,by decide⟩
instance:Und Tryz.prog 390 (TypeDesc.slice 394):=⟨Tryz.underlying390⟩
instance:Size Tryz.prog 394 3:=⟨_,ai Tryz.type394,rfl⟩
instance:Agg Tryz.prog 394 3:=⟨_,_,Tryz.underlying394,rfl,ai Tryz.type394,rfl⟩
instance:ZeroC Tryz.prog 394 ([Value.int IntKind.i64 0,Value.int IntKind.i64 0,Value.bool false]):=⟨_,_,ai Tryz.type394,rfl,rfl⟩
instance:Elem Tryz.prog 394 3 24:=⟨_,_,ai Tryz.type394,rfl,rfl,rfl,rfl,by decide⟩
instance:Struct Tryz.prog 394 [(0,1),(1,1),(2,1)] ([Value.int IntKind.i64 0,Value.int IntKind.i64 0,Value.bool false]):=⟨_,_,_,ai Tryz.type394,Tryz.underlying394,rfl,by simp only [Ot,OB,ai Tryz.type3,ai Tryz.type4];rfl,rfl⟩
instance:Fld Tryz.prog 394 0 0:=⟨_,_,_,Tryz.underlying394,rfl,rfl,ai Tryz.type3,by decide⟩
instance:Fld Tryz.prog 394 1 1:=⟨_,_,_,Tryz.underlying394,rfl,rfl,ai Tryz.type3,by decide⟩
instance:Fld Tryz.prog 394 2 2:=⟨_,_,_,Tryz.underlying394,rfl,rfl,ai Tryz.type4,by decide⟩
instance:Size Tryz.prog 398 5:=⟨_,ai Tryz.type398,rfl⟩
instance:Agg Tryz.prog 398 5:=⟨_,_,Tryz.underlying398,rfl,ai Tryz.type398,rfl⟩
instance:ZeroC Tryz.prog 398 ([Value.int IntKind.i64 0,Value.int IntKind.i64 0,Value.int IntKind.i64 0,Value.int IntKind.i64 0,Value.bool false]):=⟨_,_,ai Tryz.type398,rfl,rfl⟩
instance:Struct Tryz.prog 398 [(0,2),(2,2),(4,1)] ([Value.int IntKind.i64 0,Value.int IntKind.i64 0,Value.int IntKind.i64 0,Value.int IntKind.i64 0,Value.bool false]):=⟨_,_,_,ai Tryz.type398,Tryz.underlying398,rfl,by simp only [Ot,OB,ai Tryz.type143,ai Tryz.type4];rfl,rfl⟩
instance:Fld Tryz.prog 398 0 0:=⟨_,_,_,Tryz.underlying398,rfl,rfl,ai Tryz.type143,by decide⟩
instance:Fld Tryz.prog 398 1 2:=⟨_,_,_,Tryz.underlying398,rfl,rfl,ai Tryz.type143,by decide⟩
instance:Fld Tryz.prog 398 2 4:=⟨_,_,_,Tryz.underlying398,rfl,rfl,ai Tryz.type4,by decide⟩
instance:Und Tryz.prog 429 (TypeDesc.array 50 9):=⟨Tryz.underlying429⟩
instance:Size Tryz.prog 429 50:=⟨_,ai Tryz.type429,rfl⟩
instance:Agg Tryz.prog 429 50:=⟨_,_,Tryz.underlying429,rfl,ai Tryz.type429,rfl⟩
instance:ZeroC Tryz.prog 429 ([Value.string { data:= #[] },Value.string { data:= #[] },Value.string { data:= #[] },Value.string { data:= #[] },Value.string { data:= #[] },Value.string { data:= #[] },Value.string { data:= #[] },Value.string { data:= #[] },Value.string { data:= #[] },Value.string { data:= #[] },Value.string { data:= #[] },Value.string { data:= #[] },Value.string { data:= #[] },Value.string { data:= #[] },Value.string { data:= #[] },Value.string { data:= #[] },Value.string { data:= #[] },Value.string { data:= #[] },Value.string { data:= #[] },Value.string { data:= #[] },Value.string { data:= #[] },Value.string { data:= #[] },Value.string { data:= #[] },Value.string { data:= #[] },Value.string { data:= #[] },Value.string { data:= #[] },Value.string { data:= #[] },Value.string { data:= #[] },Value.string { data:= #[] },Value.string { data:= #[] },Value.string { data:= #[] },Value.string { data:= #[] },Value.string { data:= #[] },Value.string { data:= #[] },Value.string { data:= #[] },Value.string { data:= #[] },Value.string { data:= #[] },Value.string { data:= #[] },Value.string { data:= #[] },Value.string { data:= #[] },Value.string { data:= #[] },Value.string { data:= #[] },Value.string { data:= #[] },Value.string { data:= #[] },Value.string { data:= #[] },Value.string { data:= #[] },Value.string { data:= #[] },Value.string { data:= #[] },Value.string { data:= #[] },Value.string { data:= #[] }]):=⟨_,_,ai Tryz.type429,rfl,rfl⟩
instance:Callable Tryz.prog 11:=⟨fun args w=>Tryz.call11 args w⟩
instance:Callable Tryz.prog 12:=⟨fun args w=>Tryz.call12 args w⟩
instance:Callable Tryz.prog 13:=⟨fun args w=>Tryz.call13 args w⟩
instance:Callable Tryz.prog 14:=⟨fun args w=>Tryz.call14 args w⟩
instance:Callable Tryz.prog 15:=⟨fun args w=>Tryz.call15 args w⟩
instance:Callable Tryz.prog 16:=⟨fun args w=>Tryz.call16 args w⟩
instance:Callable Tryz.prog 17:=⟨fun args w=>Tryz.call17 args w⟩
instance:Callable Tryz.prog 19:=⟨fun args w=>Tryz.call19 args w⟩
instance:Callable Tryz.prog 20:=⟨fun args w=>Tryz.call20 args w⟩
instance:Callable Tryz.prog 21:=⟨fun args w=>Tryz.call21 args w⟩
instance:Callable Tryz.prog 23:=⟨fun args w=>Tryz.call23 args w⟩
instance:Callable Tryz.prog 24:=⟨fun args w=>Tryz.call24 args w⟩
instance:Callable Tryz.prog 25:=⟨fun args w=>Tryz.call25 args w⟩
instance:Callable Tryz.prog 28:=⟨fun args w=>Tryz.call28 args w⟩
instance:Callable Tryz.prog 29:=⟨fun args w=>Tryz.call29 args w⟩
instance:Callable Tryz.prog 30:=⟨fun args w=>Tryz.call30 args w⟩
instance:Callable Tryz.prog 31:=⟨fun args w=>Tryz.call31 args w⟩
instance:Callable Tryz.prog 49:=⟨fun args w=>Tryz.call49 args w⟩
instance:Callable Tryz.prog 50:=⟨fun args w=>Tryz.call50 args w⟩
instance:Callable Tryz.prog 51:=⟨fun args w=>Tryz.call51 args w⟩
instance:Callable Tryz.prog 52:=⟨fun args w=>Tryz.call52 args w⟩
instance:Callable Tryz.prog 53:=⟨fun args w=>Tryz.call53 args w⟩
instance:Callable Tryz.prog 54:=⟨fun args w=>Tryz.call54 args w⟩
instance:Callable Tryz.prog 55:=⟨fun args w=>Tryz.call55 args w⟩
instance:Callable Tryz.prog 56:=⟨fun args w=>Tryz.call56 args w⟩
instance:Callable Tryz.prog 57:=⟨fun args w=>Tryz.call57 args w⟩
instance:Callable Tryz.prog 58:=⟨fun args w=>Tryz.call58 args w⟩
instance:Callable Tryz.prog 59:=⟨fun args w=>Tryz.call59 args w⟩
instance:Callable Tryz.prog 60:=⟨fun args w=>Tryz.call60 args w⟩
instance:Callable Tryz.prog 61:=⟨fun args w=>Tryz.call61 args w⟩
instance:Callable Tryz.prog 64:=⟨fun args w=>Tryz.call64 args w⟩
instance:Callable Tryz.prog 65:=⟨fun args w=>Tryz.call65 args w⟩
instance:Callable Tryz.prog 66:=⟨fun args w=>Tryz.call66 args w⟩
instance:Callable Tryz.prog 67:=⟨fun args w=>Tryz.call67 args w⟩
instance:Callable Tryz.prog 68:=⟨fun args w=>Tryz.call68 args w⟩
instance:Callable Tryz.prog 69:=⟨fun args w=>Tryz.call69 args w⟩
instance:Callable Tryz.prog 70:=⟨fun args w=>Tryz.call70 args w⟩
instance:Callable Tryz.prog 71:=⟨fun args w=>Tryz.call71 args w⟩
instance:Callable Tryz.prog 72:=⟨fun args w=>Tryz.call72 args w⟩
instance:Callable Tryz.prog 73:=⟨fun args w=>Tryz.call73 args w⟩
instance:Callable Tryz.prog 74:=⟨fun args w=>Tryz.call74 args w⟩
instance:Callable Tryz.prog 76:=⟨fun args w=>Tryz.call76 args w⟩
instance:Callable Tryz.prog 77:=⟨fun args w=>Tryz.call77 args w⟩
instance:Callable Tryz.prog 78:=⟨fun args w=>Tryz.call78 args w⟩
instance:Callable Tryz.prog 79:=⟨fun args w=>Tryz.call79 args w⟩
instance:Callable Tryz.prog 80:=⟨fun args w=>Tryz.call80 args w⟩
instance:Callable Tryz.prog 81:=⟨fun args w=>Tryz.call81 args w⟩
instance:Callable Tryz.prog 82:=⟨fun args w=>Tryz.call82 args w⟩
instance:Callable Tryz.prog 83:=⟨fun args w=>Tryz.call83 args w⟩
instance:Callable Tryz.prog 84:=⟨fun args w=>Tryz.call84 args w⟩
instance:Callable Tryz.prog 94:=⟨fun args w=>Tryz.call94 args w⟩
instance:Callable Tryz.prog 105:=⟨fun args w=>Tryz.call105 args w⟩
instance:Callable Tryz.prog 106:=⟨fun args w=>Tryz.call106 args w⟩
instance:Callable Tryz.prog 107:=⟨fun args w=>Tryz.call107 args w⟩
instance:Callable Tryz.prog 108:=⟨fun args w=>Tryz.call108 args w⟩
instance:Callable Tryz.prog 109:=⟨fun args w=>Tryz.call109 args w⟩
instance:Callable Tryz.prog 110:=⟨fun args w=>Tryz.call110 args w⟩
instance:Callable Tryz.prog 111:=⟨fun args w=>Tryz.call111 args w⟩
instance:Callable Tryz.prog 112:=⟨fun args w=>Tryz.call112 args w⟩
instance:Callable Tryz.prog 113:=⟨fun args w=>Tryz.call113 args w⟩
instance:Callable Tryz.prog 114:=⟨fun args w=>Tryz.call114 args w⟩
instance:Callable Tryz.prog 115:=⟨fun args w=>Tryz.call115 args w⟩
instance:Callable Tryz.prog 116:=⟨fun args w=>Tryz.call116 args w⟩
instance:Callable Tryz.prog 117:=⟨fun args w=>Tryz.call117 args w⟩
instance:Callable Tryz.prog 118:=⟨fun args w=>Tryz.call118 args w⟩
instance:Callable Tryz.prog 119:=⟨fun args w=>Tryz.call119 args w⟩
instance:Callable Tryz.prog 120:=⟨fun args w=>Tryz.call120 args w⟩
instance:Callable Tryz.prog 121:=⟨fun args w=>Tryz.call121 args w⟩
instance:Callable Tryz.prog 122:=⟨fun args w=>Tryz.call122 args w⟩
instance:Callable Tryz.prog 123:=⟨fun args w=>Tryz.call123 args w⟩
instance:Callable Tryz.prog 124:=⟨fun args w=>Tryz.call124 args w⟩
instance:Callable Tryz.prog 125:=⟨fun args w=>Tryz.call125 args w⟩
instance:Callable Tryz.prog 126:=⟨fun args w=>Tryz.call126 args w⟩
instance:Callable Tryz.prog 127:=⟨fun args w=>Tryz.call127 args w⟩
instance:Callable Tryz.prog 128:=⟨fun args w=>Tryz.call128 args w⟩
instance:Callable Tryz.prog 129:=⟨fun args w=>Tryz.call129 args w⟩
instance:Callable Tryz.prog 130:=⟨fun args w=>Tryz.call130 args w⟩
instance:Callable Tryz.prog 131:=⟨fun args w=>Tryz.call131 args w⟩
instance:Callable Tryz.prog 132:=⟨fun args w=>Tryz.call132 args w⟩
instance:Callable Tryz.prog 133:=⟨fun args w=>Tryz.call133 args w⟩
instance:Callable Tryz.prog 134:=⟨fun args w=>Tryz.call134 args w⟩
instance:Callable Tryz.prog 135:=⟨fun args w=>Tryz.call135 args w⟩
instance:Callable Tryz.prog 140:=⟨fun args w=>Tryz.call140 args w⟩
instance:Callable Tryz.prog 142:=⟨fun args w=>Tryz.call142 args w⟩
instance:Callable Tryz.prog 150:=⟨fun args w=>Tryz.call150 args w⟩
instance:Callable Tryz.prog 151:=⟨fun args w=>Tryz.call151 args w⟩
instance:Callable Tryz.prog 152:=⟨fun args w=>Tryz.call152 args w⟩
instance:Callable Tryz.prog 153:=⟨fun args w=>Tryz.call153 args w⟩
instance:Callable Tryz.prog 154:=⟨fun args w=>Tryz.call154 args w⟩
instance:Callable Tryz.prog 155:=⟨fun args w=>Tryz.call155 args w⟩
instance:Callable Tryz.prog 156:=⟨fun args w=>Tryz.call156 args w⟩
instance:Callable Tryz.prog 157:=⟨fun args w=>Tryz.call157 args w⟩
instance:Callable Tryz.prog 158:=⟨fun args w=>Tryz.call158 args w⟩
instance:Callable Tryz.prog 159:=⟨fun args w=>Tryz.call159 args w⟩
instance:Callable Tryz.prog 160:=⟨fun args w=>Tryz.call160 args w⟩
instance:Callable Tryz.prog 161:=⟨fun args w=>Tryz.call161 args w⟩
instance:Callable Tryz.prog 162:=⟨fun args w=>Tryz.call162 args w⟩
instance:Callable Tryz.prog 163:=⟨fun args w=>Tryz.call163 args w⟩
instance:Callable Tryz.prog 164:=⟨fun args w=>Tryz.call164 args w⟩
instance:Callable Tryz.prog 165:=⟨fun args w=>Tryz.call165 args w⟩
instance:Callable Tryz.prog 166:=⟨fun args w=>Tryz.call166 args w⟩
instance:Callable Tryz.prog 167:=⟨fun args w=>Tryz.call167 args w⟩
instance:Callable Tryz.prog 180:=⟨fun args w=>Tryz.call180 args w⟩
instance:Callable Tryz.prog 191:=⟨fun args w=>Tryz.call191 args w⟩
instance:Callable Tryz.prog 192:=⟨fun args w=>Tryz.call192 args w⟩
instance:Callable Tryz.prog 193:=⟨fun args w=>Tryz.call193 args w⟩
instance:Callable Tryz.prog 194:=⟨fun args w=>Tryz.call194 args w⟩
instance:Callable Tryz.prog 195:=⟨fun args w=>Tryz.call195 args w⟩
instance:Callable Tryz.prog 196:=⟨fun args w=>Tryz.call196 args w⟩
instance:Callable Tryz.prog 197:=⟨fun args w=>Tryz.call197 args w⟩
instance:Callable Tryz.prog 198:=⟨fun args w=>Tryz.call198 args w⟩
instance:Callable Tryz.prog 199:=⟨fun args w=>Tryz.call199 args w⟩
instance:Callable Tryz.prog 200:=⟨fun args w=>Tryz.call200 args w⟩
instance:Callable Tryz.prog 201:=⟨fun args w=>Tryz.call201 args w⟩
instance:Callable Tryz.prog 202:=⟨fun args w=>Tryz.call202 args w⟩
instance:Callable Tryz.prog 203:=⟨fun args w=>Tryz.call203 args w⟩
instance:Callable Tryz.prog 204:=⟨fun args w=>Tryz.call204 args w⟩
instance:Callable Tryz.prog 205:=⟨fun args w=>Tryz.call205 args w⟩
instance:Callable Tryz.prog 206:=⟨fun args w=>Tryz.call206 args w⟩
instance:Callable Tryz.prog 207:=⟨fun args w=>Tryz.call207 args w⟩
instance:Callable Tryz.prog 208:=⟨fun args w=>Tryz.call208 args w⟩
instance:Callable Tryz.prog 209:=⟨fun args w=>Tryz.call209 args w⟩
instance:Callable Tryz.prog 210:=⟨fun args w=>Tryz.call210 args w⟩
instance:Callable Tryz.prog 211:=⟨fun args w=>Tryz.call211 args w⟩
instance:Callable Tryz.prog 213:=⟨fun args w=>Tryz.call213 args w⟩
instance:Callable Tryz.prog 214:=⟨fun args w=>Tryz.call214 args w⟩
instance:Callable Tryz.prog 223:=⟨fun args w=>Tryz.call223 args w⟩
instance:Callable Tryz.prog 224:=⟨fun args w=>Tryz.call224 args w⟩
instance:Callable Tryz.prog 230:=⟨fun args w=>Tryz.call230 args w⟩
instance:Callable Tryz.prog 231:=⟨fun args w=>Tryz.call231 args w⟩
instance:Callable Tryz.prog 232:=⟨fun args w=>Tryz.call232 args w⟩
instance:Callable Tryz.prog 233:=⟨fun args w=>Tryz.call233 args w⟩
instance:Callable Tryz.prog 234:=⟨fun args w=>Tryz.call234 args w⟩
instance:Callable Tryz.prog 235:=⟨fun args w=>Tryz.call235 args w⟩
instance:Callable Tryz.prog 236:=⟨fun args w=>Tryz.call236 args w⟩
instance:Callable Tryz.prog 239:=⟨fun args w=>Tryz.call239 args w⟩
instance:Callable Tryz.prog 240:=⟨fun args w=>Tryz.call240 args w⟩
instance:Callable Tryz.prog 241:=⟨fun args w=>Tryz.call241 args w⟩
instance:Callable Tryz.prog 242:=⟨fun args w=>Tryz.call242 args w⟩
instance:Callable Tryz.prog 243:=⟨fun args w=>Tryz.call243 args w⟩
instance:Callable Tryz.prog 244:=⟨fun args w=>Tryz.call244 args w⟩
instance:Callable Tryz.prog 245:=⟨fun args w=>Tryz.call245 args w⟩
instance:Callable Tryz.prog 246:=⟨fun args w=>Tryz.call246 args w⟩
instance:Callable Tryz.prog 247:=⟨fun args w=>Tryz.call247 args w⟩
instance:Callable Tryz.prog 248:=⟨fun args w=>Tryz.call248 args w⟩
instance:Callable Tryz.prog 249:=⟨fun args w=>Tryz.call249 args w⟩
instance:Callable Tryz.prog 250:=⟨fun args w=>Tryz.call250 args w⟩
instance:Callable Tryz.prog 251:=⟨fun args w=>Tryz.call251 args w⟩
instance:Callable Tryz.prog 252:=⟨fun args w=>Tryz.call252 args w⟩
instance:Callable Tryz.prog 253:=⟨fun args w=>Tryz.call253 args w⟩
instance:Callable Tryz.prog 254:=⟨fun args w=>Tryz.call254 args w⟩
instance:Callable Tryz.prog 255:=⟨fun args w=>Tryz.call255 args w⟩
instance:Callable Tryz.prog 256:=⟨fun args w=>Tryz.call256 args w⟩
instance:Callable Tryz.prog 257:=⟨fun args w=>Tryz.call257 args w⟩
instance:Callable Tryz.prog 258:=⟨fun args w=>Tryz.call258 args w⟩
instance:Callable Tryz.prog 259:=⟨fun args w=>Tryz.call259 args w⟩
instance:Callable Tryz.prog 270:=⟨fun args w=>Tryz.call270 args w⟩
instance:Callable Tryz.prog 272:=⟨fun args w=>Tryz.call272 args w⟩
instance:Callable Tryz.prog 274:=⟨fun args w=>Tryz.call274 args w⟩
instance:Callable Tryz.prog 275:=⟨fun args w=>Tryz.call275 args w⟩
instance:Callable Tryz.prog 276:=⟨fun args w=>Tryz.call276 args w⟩
instance:Callable Tryz.prog 277:=⟨fun args w=>Tryz.call277 args w⟩
instance:Callable Tryz.prog 278:=⟨fun args w=>Tryz.call278 args w⟩
instance:Callable Tryz.prog 279:=⟨fun args w=>Tryz.call279 args w⟩
instance:Callable Tryz.prog 280:=⟨fun args w=>Tryz.call280 args w⟩
instance:Callable Tryz.prog 281:=⟨fun args w=>Tryz.call281 args w⟩
instance:Callable Tryz.prog 282:=⟨fun args w=>Tryz.call282 args w⟩
instance:Callable Tryz.prog 283:=⟨fun args w=>Tryz.call283 args w⟩
instance:Callable Tryz.prog 284:=⟨fun args w=>Tryz.call284 args w⟩
instance:Callable Tryz.prog 285:=⟨fun args w=>Tryz.call285 args w⟩
instance:Callable Tryz.prog 286:=⟨fun args w=>Tryz.call286 args w⟩
instance:Callable Tryz.prog 287:=⟨fun args w=>Tryz.call287 args w⟩
instance:Callable Tryz.prog 288:=⟨fun args w=>Tryz.call288 args w⟩
instance:Callable Tryz.prog 289:=⟨fun args w=>Tryz.call289 args w⟩
instance:Callable Tryz.prog 290:=⟨fun args w=>Tryz.call290 args w⟩
instance:Callable Tryz.prog 291:=⟨fun args w=>Tryz.call291 args w⟩
instance:Callable Tryz.prog 292:=⟨fun args w=>Tryz.call292 args w⟩
instance:Callable Tryz.prog 293:=⟨fun args w=>Tryz.call293 args w⟩
instance:Callable Tryz.prog 294:=⟨fun args w=>Tryz.call294 args w⟩
instance:Callable Tryz.prog 295:=⟨fun args w=>Tryz.call295 args w⟩
instance:Callable Tryz.prog 296:=⟨fun args w=>Tryz.call296 args w⟩
instance:Callable Tryz.prog 297:=⟨fun args w=>Tryz.call297 args w⟩
instance:Callable Tryz.prog 298:=⟨fun args w=>Tryz.call298 args w⟩
instance:Callable Tryz.prog 299:=⟨fun args w=>Tryz.call299 args w⟩
instance:Callable Tryz.prog 300:=⟨fun args w=>Tryz.call300 args w⟩
instance:Callable Tryz.prog 301:=⟨fun args w=>Tryz.call301 args w⟩
instance:Callable Tryz.prog 302:=⟨fun args w=>Tryz.call302 args w⟩
instance:Callable Tryz.prog 307:=⟨fun args w=>Tryz.call307 args w⟩
instance:Callable Tryz.prog 308:=⟨fun args w=>Tryz.call308 args w⟩
instance:Callable Tryz.prog 309:=⟨fun args w=>Tryz.call309 args w⟩
instance:Callable Tryz.prog 310:=⟨fun args w=>Tryz.call310 args w⟩
instance:Callable Tryz.prog 311:=⟨fun args w=>Tryz.call311 args w⟩
instance:Callable Tryz.prog 312:=⟨fun args w=>Tryz.call312 args w⟩
instance:Callable Tryz.prog 313:=⟨fun args w=>Tryz.call313 args w⟩
instance:Callable Tryz.prog 315:=⟨fun args w=>Tryz.call315 args w⟩
instance:Callable Tryz.prog 316:=⟨fun args w=>Tryz.call316 args w⟩
instance:Callable Tryz.prog 317:=⟨fun args w=>Tryz.call317 args w⟩
instance:Callable Tryz.prog 318:=⟨fun args w=>Tryz.call318 args w⟩
instance:Callable Tryz.prog 319:=⟨fun args w=>Tryz.call319 args w⟩
instance:Callable Tryz.prog 320:=⟨fun args w=>Tryz.call320 args w⟩
instance:Callable Tryz.prog 321:=⟨fun args w=>Tryz.call321 args w⟩
instance:Callable Tryz.prog 322:=⟨fun args w=>Tryz.call322 args w⟩
instance:Callable Tryz.prog 323:=⟨fun args w=>Tryz.call323 args w⟩
instance:Callable Tryz.prog 324:=⟨fun args w=>Tryz.call324 args w⟩
instance:Callable Tryz.prog 325:=⟨fun args w=>Tryz.call325 args w⟩
instance:Callable Tryz.prog 327:=⟨fun args w=>Tryz.call327 args w⟩
instance:Callable Tryz.prog 328:=⟨fun args w=>Tryz.call328 args w⟩
instance:Callable Tryz.prog 329:=⟨fun args w=>Tryz.call329 args w⟩
instance:Callable Tryz.prog 330:=⟨fun args w=>Tryz.call330 args w⟩
instance:Callable Tryz.prog 331:=⟨fun args w=>Tryz.call331 args w⟩
instance:Callable Tryz.prog 335:=⟨fun args w=>Tryz.call335 args w⟩
instance:Callable Tryz.prog 336:=⟨fun args w=>Tryz.call336 args w⟩
instance:Callable Tryz.prog 337:=⟨fun args w=>Tryz.call337 args w⟩
instance:Callable Tryz.prog 338:=⟨fun args w=>Tryz.call338 args w⟩
instance:Callable Tryz.prog 339:=⟨fun args w=>Tryz.call339 args w⟩
instance:Callable Tryz.prog 340:=⟨fun args w=>Tryz.call340 args w⟩
instance:Callable Tryz.prog 341:=⟨fun args w=>Tryz.call341 args w⟩
instance:Callable Tryz.prog 342:=⟨fun args w=>Tryz.call342 args w⟩
instance:Callable Tryz.prog 343:=⟨fun args w=>Tryz.call343 args w⟩
instance:Callable Tryz.prog 344:=⟨fun args w=>Tryz.call344 args w⟩
instance:Callable Tryz.prog 345:=⟨fun args w=>Tryz.call345 args w⟩
instance:Callable Tryz.prog 346:=⟨fun args w=>Tryz.call346 args w⟩
instance:Callable Tryz.prog 347:=⟨fun args w=>Tryz.call347 args w⟩
instance:Callable Tryz.prog 349:=⟨fun args w=>Tryz.call349 args w⟩
instance:Callable Tryz.prog 350:=⟨fun args w=>Tryz.call350 args w⟩
instance:Callable Tryz.prog 351:=⟨fun args w=>Tryz.call351 args w⟩
instance:Callable Tryz.prog 352:=⟨fun args w=>Tryz.call352 args w⟩
instance:Callable Tryz.prog 353:=⟨fun args w=>Tryz.call353 args w⟩
instance:Callable Tryz.prog 355:=⟨fun args w=>Tryz.call355 args w⟩
instance:Callable Tryz.prog 356:=⟨fun args w=>Tryz.call356 args w⟩
instance:Callable Tryz.prog 357:=⟨fun args w=>Tryz.call357 args w⟩
instance:Callable Tryz.prog 358:=⟨fun args w=>Tryz.call358 args w⟩
instance:Callable Tryz.prog 359:=⟨fun args w=>Tryz.call359 args w⟩
instance:Callable Tryz.prog 360:=⟨fun args w=>Tryz.call360 args w⟩
instance:Callable Tryz.prog 363:=⟨fun args w=>Tryz.call363 args w⟩
instance:Callable Tryz.prog 364:=⟨fun args w=>Tryz.call364 args w⟩
instance:Callable Tryz.prog 365:=⟨fun args w=>Tryz.call365 args w⟩
instance:Callable Tryz.prog 366:=⟨fun args w=>Tryz.call366 args w⟩
instance:Callable Tryz.prog 367:=⟨fun args w=>Tryz.call367 args w⟩
instance:Callable Tryz.prog 370:=⟨fun args w=>Tryz.call370 args w⟩
instance:Callable Tryz.prog 371:=⟨fun args w=>Tryz.call371 args w⟩
instance:Callable Tryz.prog 372:=⟨fun args w=>Tryz.call372 args w⟩
instance:Callable Tryz.prog 373:=⟨fun args w=>Tryz.call373 args w⟩
instance:Callable Tryz.prog 374:=⟨fun args w=>Tryz.call374 args w⟩
instance:Callable Tryz.prog 375:=⟨fun args w=>Tryz.call375 args w⟩
instance:Callable Tryz.prog 376:=⟨fun args w=>Tryz.call376 args w⟩
end Go.SL
