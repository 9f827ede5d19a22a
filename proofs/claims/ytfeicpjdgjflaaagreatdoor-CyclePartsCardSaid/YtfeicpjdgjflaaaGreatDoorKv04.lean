/-
  Lemmas and walks, put together: Ty.
-/
import Derived.Test.YtfeicpjdgjflaaaGreatDoorKv02
set_option linter.unusedSimpArgs false
set_option linter.unusedVariables false
set_option maxRecDepth 20000
namespace Go.SL
open Go Go.Proofs
theorem aj {P:Program} {t:Nat} {i:TypeInfo} (h:P.toTables.types[t]? =some i):P.info? t=some i:=by
 have hl:=(V0.1 h).1;simp only [Tables.info?,hl,if_true];exact h
instance:Und Tryz.prog 2 (TypeDesc.int IntKind.i64):=⟨Tryz.underlying2⟩
instance:Size Tryz.prog 2 1:=⟨_,aj Tryz.type2,rfl⟩
instance:One Tryz.prog 2:=⟨_,Tryz.underlying2,rfl⟩
instance:Elem Tryz.prog 2 1 8:=⟨_,_,aj Tryz.type2,rfl,rfl,rfl,rfl,by decide⟩
instance:Und Tryz.prog 3 (TypeDesc.int IntKind.i64):=⟨Tryz.underlying3⟩
instance:Size Tryz.prog 3 1:=⟨_,aj Tryz.type3,rfl⟩
instance:One Tryz.prog 3:=⟨_,Tryz.underlying3,rfl⟩
instance:Zero Tryz.prog 3 (Value.int IntKind.i64 0):=⟨_,aj Tryz.type3,rfl⟩
instance:ZeroC Tryz.prog 3 ([Value.int IntKind.i64 0]):=⟨_,_,aj Tryz.type3,rfl,rfl⟩
instance:Elem Tryz.prog 3 1 8:=⟨_,_,aj Tryz.type3,rfl,rfl,rfl,rfl,by decide⟩
instance:Und Tryz.prog 4 (TypeDesc.bool):=⟨Tryz.underlying4⟩
instance:Size Tryz.prog 4 1:=⟨_,aj Tryz.type4,rfl⟩
instance:One Tryz.prog 4:=⟨_,Tryz.underlying4,rfl⟩
instance:ZeroC Tryz.prog 4 ([Value.bool false]):=⟨_,_,aj Tryz.type4,rfl,rfl⟩
instance:Elem Tryz.prog 4 1 1:=⟨_,_,aj Tryz.type4,rfl,rfl,rfl,rfl,by decide⟩
instance:Und Tryz.prog 5 (TypeDesc.int IntKind.u8):=⟨Tryz.underlying5⟩
instance:Size Tryz.prog 5 1:=⟨_,aj Tryz.type5,rfl⟩
instance:One Tryz.prog 5:=⟨_,Tryz.underlying5,rfl⟩
instance:Elem Tryz.prog 5 1 1:=⟨_,_,aj Tryz.type5,rfl,rfl,rfl,rfl,by decide⟩
instance:Und Tryz.prog 9 (TypeDesc.string):=⟨Tryz.underlying9⟩
instance:Size Tryz.prog 9 1:=⟨_,aj Tryz.type9,rfl⟩
instance:One Tryz.prog 9:=⟨_,Tryz.underlying9,rfl⟩
instance:Elem Tryz.prog 9 1 16:=⟨_,_,aj Tryz.type9,rfl,rfl,rfl,rfl,by decide⟩
instance:Und Tryz.prog 20 (TypeDesc.interface #[]):=⟨Tryz.underlying20⟩
instance:Und Tryz.prog 22 (TypeDesc.slice 91):=⟨Tryz.underlying22⟩
instance:Und Tryz.prog 23 (TypeDesc.slice 35):=⟨Tryz.underlying23⟩
instance:Size Tryz.prog 23 1:=⟨_,aj Tryz.type23,rfl⟩
instance:One Tryz.prog 23:=⟨_,Tryz.underlying23,rfl⟩
instance:Und Tryz.prog 24 (TypeDesc.int IntKind.u64):=⟨Tryz.underlying24⟩
instance:One Tryz.prog 24:=⟨_,Tryz.underlying24,rfl⟩
instance:Und Tryz.prog 25 (TypeDesc.pointer 141):=⟨Tryz.underlying25⟩
instance:One Tryz.prog 25:=⟨_,Tryz.underlying25,rfl⟩
instance:Und Tryz.prog 26 (TypeDesc.pointer 113):=⟨Tryz.underlying26⟩
instance:Size Tryz.prog 28 2:=⟨_,aj Tryz.type28,rfl⟩
instance:Agg Tryz.prog 28 2:=⟨_,_,Tryz.underlying28,rfl,aj Tryz.type28,rfl⟩
instance:ZeroC Tryz.prog 28 ([Value.pointer none,Value.pointer none]):=⟨_,_,aj Tryz.type28,rfl,rfl⟩
instance:Struct Tryz.prog 28 [(0,1),(1,1)] ([Value.pointer none,Value.pointer none]):=⟨_,_,_,aj Tryz.type28,Tryz.underlying28,rfl,by simp only [Wk,Wn,aj Tryz.type25,aj Tryz.type26];rfl,rfl⟩
instance:Fld Tryz.prog 28 0 0:=⟨_,_,_,Tryz.underlying28,rfl,rfl,aj Tryz.type25,by decide⟩
instance:Size Tryz.prog 31 1:=⟨_,aj Tryz.type31,rfl⟩
instance:One Tryz.prog 31:=⟨_,Tryz.underlying31,rfl⟩
instance:ZeroC Tryz.prog 31 ([Value.int IntKind.i64 0]):=⟨_,_,aj Tryz.type31,rfl,rfl⟩
instance:Size Tryz.prog 35 2:=⟨_,aj Tryz.type35,rfl⟩
instance:Agg Tryz.prog 35 2:=⟨_,_,Tryz.underlying35,rfl,aj Tryz.type35,rfl⟩
instance:ZeroC Tryz.prog 35 ([Value.int IntKind.i64 0,Value.int IntKind.i64 0]):=⟨_,_,aj Tryz.type35,rfl,rfl⟩
instance:Elem Tryz.prog 35 2 16:=⟨_,_,aj Tryz.type35,rfl,rfl,rfl,rfl,by decide⟩
instance:Struct Tryz.prog 35 [(0,1),(1,1)] ([Value.int IntKind.i64 0,Value.int IntKind.i64 0]):=⟨_,_,_,aj Tryz.type35,Tryz.underlying35,rfl,by simp only [Wk,Wn,aj Tryz.type3];rfl,rfl⟩
instance:Fld Tryz.prog 35 0 0:=⟨_,_,_,Tryz.underlying35,rfl,rfl,aj Tryz.type3,by decide⟩
instance:Fld Tryz.prog 35 1 1:=⟨_,_,_,Tryz.underlying35,rfl,rfl,aj Tryz.type3,by decide⟩
instance:Size Tryz.prog 53 4:=⟨_,aj Tryz.type53,rfl⟩
instance:Agg Tryz.prog 53 4:=⟨_,_,Tryz.underlying53,rfl,aj Tryz.type53,rfl⟩
instance:ZeroC Tryz.prog 53 ([Value.int IntKind.i64 0,Value.int IntKind.i64 0,Value.int IntKind.i64 0,Value.int IntKind.i64 0]):=⟨_,_,aj Tryz.type53,rfl,rfl⟩
instance:Struct Tryz.prog 53 [(0,1),(1,1),(2,1),(3,1)] ([Value.int IntKind.i64 0,Value.int IntKind.i64 0,Value.int IntKind.i64 0,Value.int IntKind.i64 0]):=⟨_,_,_,aj Tryz.type53,Tryz.underlying53,rfl,by simp only [Wk,Wn,aj Tryz.type3];rfl,rfl⟩
instance:Fld Tryz.prog 53 0 0:=⟨_,_,_,Tryz.underlying53,rfl,rfl,aj Tryz.type3,by decide⟩
instance:Fld Tryz.prog 53 1 1:=⟨_,_,_,Tryz.underlying53,rfl,rfl,aj Tryz.type3,by decide⟩
instance:Fld Tryz.prog 53 2 2:=⟨_,_,_,Tryz.underlying53,rfl,rfl,aj Tryz.type3,by decide⟩
instance:Fld Tryz.prog 53 3 3:=⟨_,_,_,Tryz.underlying53,rfl,rfl,aj Tryz.type3,by decide⟩
instance:Und Tryz.prog 56 (TypeDesc.slice 153):=⟨Tryz.underlying56⟩
instance:Size Tryz.prog 91 3:=⟨_,aj Tryz.type91,rfl⟩
instance:Agg Tryz.prog 91 3:=⟨_,_,Tryz.underlying91,rfl,aj Tryz.type91,rfl⟩
instance:Fld Tryz.prog 91 0 0:=⟨_,_,_,Tryz.underlying91,rfl,rfl,aj Tryz.type3,by decide⟩
instance:Fld Tryz.prog 91 1 1:=⟨_,_,_,Tryz.underlying91,rfl,rfl,aj Tryz.type3,by decide⟩
instance:Fld Tryz.prog 91 2 2:=⟨_,_,_,Tryz.underlying91,rfl,rfl,aj Tryz.type9,by decide⟩
instance:Und Tryz.prog 95 (TypeDesc.slice 4):=⟨Tryz.underlying95⟩
instance:Size Tryz.prog 95 1:=⟨_,aj Tryz.type95,rfl⟩
instance:One Tryz.prog 95:=⟨_,Tryz.underlying95,rfl⟩
instance:ZeroC Tryz.prog 95 ([Value.slice none 0 0]):=⟨_,_,aj Tryz.type95,rfl,rfl⟩
instance:Und Tryz.prog 98 (TypeDesc.map 35 3):=⟨Tryz.underlying98⟩
instance:Size Tryz.prog 98 1:=⟨_,aj Tryz.type98,rfl⟩
instance:One Tryz.prog 98:=⟨_,Tryz.underlying98,rfl⟩
instance:Und Tryz.prog 99 (TypeDesc.slice 104):=⟨Tryz.underlying99⟩
instance:Size Tryz.prog 99 1:=⟨_,aj Tryz.type99,rfl⟩
instance:One Tryz.prog 99:=⟨_,Tryz.underlying99,rfl⟩
instance:ZeroC Tryz.prog 99 ([Value.slice none 0 0]):=⟨_,_,aj Tryz.type99,rfl,rfl⟩
instance:Size Tryz.prog 101 3:=⟨_,aj Tryz.type101,rfl⟩
instance:Agg Tryz.prog 101 3:=⟨_,_,Tryz.underlying101,rfl,aj Tryz.type101,rfl⟩
instance:ZeroC Tryz.prog 101 ([Value.slice none 0 0,Value.map none,Value.slice none 0 0]):=⟨_,_,aj Tryz.type101,rfl,rfl⟩
instance:Struct Tryz.prog 101 [(0,1),(1,1),(2,1)] ([Value.slice none 0 0,Value.map none,Value.slice none 0 0]):=⟨_,_,_,aj Tryz.type101,Tryz.underlying101,rfl,by simp only [Wk,Wn,aj Tryz.type23,aj Tryz.type98,aj Tryz.type99];rfl,rfl⟩
instance:Fld Tryz.prog 101 0 0:=⟨_,_,_,Tryz.underlying101,rfl,rfl,aj Tryz.type23,by decide⟩
instance:Fld Tryz.prog 101 1 1:=⟨_,_,_,Tryz.underlying101,rfl,rfl,aj Tryz.type98,by decide⟩
instance:Fld Tryz.prog 101 2 2:=⟨_,_,_,Tryz.underlying101,rfl,rfl,aj Tryz.type99,by decide⟩
instance:Und Tryz.prog 104 (TypeDesc.slice 3):=⟨Tryz.underlying104⟩
instance:Size Tryz.prog 104 1:=⟨_,aj Tryz.type104,rfl⟩
instance:One Tryz.prog 104:=⟨_,Tryz.underlying104,rfl⟩
instance:ZeroC Tryz.prog 104 ([Value.slice none 0 0]):=⟨_,_,aj Tryz.type104,rfl,rfl⟩
instance:Elem Tryz.prog 104 1 24:=⟨_,_,aj Tryz.type104,rfl,rfl,rfl,rfl,by decide⟩
instance:Und Tryz.prog 111 (TypeDesc.slice 200):=⟨Tryz.underlying111⟩
instance:Size Tryz.prog 111 1:=⟨_,aj Tryz.type111,rfl⟩
instance:One Tryz.prog 111:=⟨_,Tryz.underlying111,rfl⟩
instance:Struct Tryz.prog 113 [(0,1)] ([Value.slice none 0 0]):=⟨_,_,_,aj Tryz.type113,Tryz.underlying113,rfl,by simp only [Wk,Wn,aj Tryz.type111];rfl,rfl⟩
instance:Fld Tryz.prog 113 0 0:=⟨_,_,_,Tryz.underlying113,rfl,rfl,aj Tryz.type111,by decide⟩
instance:Und Tryz.prog 116 (TypeDesc.slice 119):=⟨Tryz.underlying116⟩
instance:Und Tryz.prog 119 (TypeDesc.array 2 35):=⟨Tryz.underlying119⟩
instance:Size Tryz.prog 119 4:=⟨_,aj Tryz.type119,rfl⟩
instance:Agg Tryz.prog 119 4:=⟨_,_,Tryz.underlying119,rfl,aj Tryz.type119,rfl⟩
instance:ZeroC Tryz.prog 119 ([Value.int IntKind.i64 0,Value.int IntKind.i64 0,Value.int IntKind.i64 0,Value.int IntKind.i64 0]):=⟨_,_,aj Tryz.type119,rfl,rfl⟩
instance:Elem Tryz.prog 119 4 32:=⟨_,_,aj Tryz.type119,rfl,rfl,rfl,rfl,by decide⟩
instance:Und Tryz.prog 120 (TypeDesc.slice 128):=⟨Tryz.underlying120⟩
instance:Size Tryz.prog 120 1:=⟨_,aj Tryz.type120,rfl⟩
instance:One Tryz.prog 120:=⟨_,Tryz.underlying120,rfl⟩
instance:ZeroC Tryz.prog 120 ([Value.slice none 0 0]):=⟨_,_,aj Tryz.type120,rfl,rfl⟩
instance:Und Tryz.prog 122 (TypeDesc.slice 132):=⟨Tryz.underlying122⟩
instance:Size Tryz.prog 122 1:=⟨_,aj Tryz.type122,rfl⟩
instance:One Tryz.prog 122:=⟨_,Tryz.underlying122,rfl⟩
instance:ZeroC Tryz.prog 122 ([Value.slice none 0 0]):=⟨_,_,aj Tryz.type122,rfl,rfl⟩
instance:Size Tryz.prog 128 6:=⟨_,aj Tryz.type128,rfl⟩
instance:Agg Tryz.prog 128 6:=⟨_,_,Tryz.underlying128,rfl,aj Tryz.type128,rfl⟩
instance:ZeroC Tryz.prog 128 ([Value.int IntKind.i64 0,Value.int IntKind.i64 0,Value.int IntKind.i64 0,Value.int IntKind.i64 0,Value.int IntKind.i64 0,Value.int IntKind.u8 0]):=⟨_,_,aj Tryz.type128,rfl,rfl⟩
instance:Elem Tryz.prog 128 6 48:=⟨_,_,aj Tryz.type128,rfl,rfl,rfl,rfl,by decide⟩
instance:Struct Tryz.prog 128 [(0,4),(4,1),(5,1)] ([Value.int IntKind.i64 0,Value.int IntKind.i64 0,Value.int IntKind.i64 0,Value.int IntKind.i64 0,Value.int IntKind.i64 0,Value.int IntKind.u8 0]):=⟨_,_,_,aj Tryz.type128,Tryz.underlying128,rfl,by simp only [Wk,Wn,aj Tryz.type3,aj Tryz.type5,aj Tryz.type53];rfl,rfl⟩
instance:Fld Tryz.prog 128 0 0:=⟨_,_,_,Tryz.underlying128,rfl,rfl,aj Tryz.type53,by decide⟩
instance:Fld Tryz.prog 128 1 4:=⟨_,_,_,Tryz.underlying128,rfl,rfl,aj Tryz.type3,by decide⟩
instance:Fld Tryz.prog 128 2 5:=⟨_,_,_,Tryz.underlying128,rfl,rfl,aj Tryz.type5,by decide⟩
instance:Size Tryz.prog 130 3:=⟨_,aj Tryz.type130,rfl⟩
instance:Agg Tryz.prog 130 3:=⟨_,_,Tryz.underlying130,rfl,aj Tryz.type130,rfl⟩
instance:ZeroC Tryz.prog 130 ([Value.int IntKind.u8 0,Value.int IntKind.i64 0,Value.string { data:= #[] }]):=⟨_,_,aj Tryz.type130,rfl,rfl⟩
instance:Struct Tryz.prog 130 [(0,1),(1,1),(2,1)] ([Value.int IntKind.u8 0,Value.int IntKind.i64 0,Value.string { data:= #[] }]):=⟨_,_,_,aj Tryz.type130,Tryz.underlying130,rfl,by simp only [Wk,Wn,aj Tryz.type2,aj Tryz.type5,aj Tryz.type9];rfl,rfl⟩
instance:Fld Tryz.prog 130 0 0:=⟨_,_,_,Tryz.underlying130,rfl,rfl,aj Tryz.type5,by decide⟩
instance:Fld Tryz.prog 130 1 1:=⟨_,_,_,Tryz.underlying130,rfl,rfl,aj Tryz.type2,by decide⟩
instance:Fld Tryz.prog 130 2 2:=⟨_,_,_,Tryz.underlying130,rfl,rfl,aj Tryz.type9,by decide⟩
instance:Size Tryz.prog 132 11:=⟨_,aj Tryz.type132,rfl⟩
instance:Agg Tryz.prog 132 11:=⟨_,_,Tryz.underlying132,rfl,aj Tryz.type132,rfl⟩
instance:ZeroC Tryz.prog 132 ([Value.int IntKind.u8 0,Value.int IntKind.u8 0,Value.int IntKind.i64 0,Value.string { data:= #[] },Value.int IntKind.i64 0,Value.int IntKind.i64 0,Value.int IntKind.i64 0,Value.int IntKind.i64 0,Value.int IntKind.i64 0,Value.int IntKind.u8 0,Value.int IntKind.i64 0]):=⟨_,_,aj Tryz.type132,rfl,rfl⟩
instance:Elem Tryz.prog 132 11 96:=⟨_,_,aj Tryz.type132,rfl,rfl,rfl,rfl,by decide⟩
instance:Struct Tryz.prog 132 [(0,1),(1,3),(4,4),(8,1),(9,1),(10,1)] ([Value.int IntKind.u8 0,Value.int IntKind.u8 0,Value.int IntKind.i64 0,Value.string { data:= #[] },Value.int IntKind.i64 0,Value.int IntKind.i64 0,Value.int IntKind.i64 0,Value.int IntKind.i64 0,Value.int IntKind.i64 0,Value.int IntKind.u8 0,Value.int IntKind.i64 0]):=⟨_,_,_,aj Tryz.type132,Tryz.underlying132,rfl,by simp only [Wk,Wn,aj Tryz.type130,aj Tryz.type2,aj Tryz.type3,aj Tryz.type5,aj Tryz.type53];rfl,rfl⟩
instance:Fld Tryz.prog 132 0 0:=⟨_,_,_,Tryz.underlying132,rfl,rfl,aj Tryz.type5,by decide⟩
instance:Fld Tryz.prog 132 1 1:=⟨_,_,_,Tryz.underlying132,rfl,rfl,aj Tryz.type130,by decide⟩
instance:Fld Tryz.prog 132 2 4:=⟨_,_,_,Tryz.underlying132,rfl,rfl,aj Tryz.type53,by decide⟩
instance:Fld Tryz.prog 132 3 8:=⟨_,_,_,Tryz.underlying132,rfl,rfl,aj Tryz.type2,by decide⟩
instance:Fld Tryz.prog 132 4 9:=⟨_,_,_,Tryz.underlying132,rfl,rfl,aj Tryz.type5,by decide⟩
instance:Fld Tryz.prog 132 5 10:=⟨_,_,_,Tryz.underlying132,rfl,rfl,aj Tryz.type3,by decide⟩
instance:Und Tryz.prog 136 (TypeDesc.map 3 3):=⟨Tryz.underlying136⟩
instance:Und Tryz.prog 139 (TypeDesc.map 35 197):=⟨Tryz.underlying139⟩
instance:One Tryz.prog 139:=⟨_,Tryz.underlying139,rfl⟩
instance:Struct Tryz.prog 141 [(0,1)] ([Value.map none]):=⟨_,_,_,aj Tryz.type141,Tryz.underlying141,rfl,by simp only [Wk,Wn,aj Tryz.type139];rfl,rfl⟩
instance:Fld Tryz.prog 141 0 0:=⟨_,_,_,Tryz.underlying141,rfl,rfl,aj Tryz.type139,by decide⟩
instance:Size Tryz.prog 153 3:=⟨_,aj Tryz.type153,rfl⟩
instance:Agg Tryz.prog 153 3:=⟨_,_,Tryz.underlying153,rfl,aj Tryz.type153,rfl⟩
instance:ZeroC Tryz.prog 153 ([Value.int IntKind.i64 0,Value.int IntKind.i64 0,Value.string { data:= #[] }]):=⟨_,_,aj Tryz.type153,rfl,rfl⟩
instance:Elem Tryz.prog 153 3 32:=⟨_,_,aj Tryz.type153,rfl,rfl,rfl,rfl,by decide⟩
instance:Struct Tryz.prog 153 [(0,2),(2,1)] ([Value.int IntKind.i64 0,Value.int IntKind.i64 0,Value.string { data:= #[] }]):=⟨_,_,_,aj Tryz.type153,Tryz.underlying153,rfl,by simp only [Wk,Wn,aj Tryz.type35,aj Tryz.type9];rfl,rfl⟩
instance:Fld Tryz.prog 153 0 0:=⟨_,_,_,Tryz.underlying153,rfl,rfl,aj Tryz.type35,by decide⟩
instance:Fld Tryz.prog 153 1 2:=⟨_,_,_,Tryz.underlying153,rfl,rfl,aj Tryz.type9,by decide⟩
instance:Size Tryz.prog 191 5:=⟨_,aj Tryz.type191,rfl⟩
instance:Agg Tryz.prog 191 5:=⟨_,_,Tryz.underlying191,rfl,aj Tryz.type191,rfl⟩
instance:ZeroC Tryz.prog 191 ([Value.bool false,Value.int IntKind.u8 0,Value.int IntKind.i64 0,Value.string { data:= #[] },Value.slice none 0 0]):=⟨_,_,aj Tryz.type191,rfl,rfl⟩
instance:Struct Tryz.prog 191 [(0,1),(1,3),(4,1)] ([Value.bool false,Value.int IntKind.u8 0,Value.int IntKind.i64 0,Value.string { data:= #[] },Value.slice none 0 0]):=⟨_,_,_,aj Tryz.type191,Tryz.underlying191,rfl,by simp only [Wk,Wn,aj Tryz.type122,aj Tryz.type130,aj Tryz.type4];rfl,rfl⟩
instance:Fld Tryz.prog 191 0 0:=⟨_,_,_,Tryz.underlying191,rfl,rfl,aj Tryz.type4,by decide⟩
instance:Fld Tryz.prog 191 2 4:=⟨_,_,_,Tryz.underlying191,rfl,rfl,aj Tryz.type122,by decide⟩
instance:Zero Tryz.prog 197 (Value.agg #[Value.slice none 0 0,Value.slice none 0 0]):=⟨_,aj Tryz.type197,rfl⟩
instance:Struct Tryz.prog 197 [(0,1),(1,1)] ([Value.slice none 0 0,Value.slice none 0 0]):=⟨_,_,_,aj Tryz.type197,Tryz.underlying197,rfl,by simp only [Wk,Wn,aj Tryz.type120,aj Tryz.type122];rfl,rfl⟩
instance:Size Tryz.prog 200 4:=⟨_,aj Tryz.type200,rfl⟩
instance:Agg Tryz.prog 200 4:=⟨_,_,Tryz.underlying200,rfl,aj Tryz.type200,rfl⟩
instance:Elem Tryz.prog 200 4 64:=⟨_,_,aj Tryz.type200,rfl,rfl,rfl,rfl,by decide⟩
instance:Struct Tryz.prog 200 [(0,2),(2,1),(3,1)] ([Value.int IntKind.i64 0,Value.int IntKind.i64 0,Value.slice none 0 0,Value.slice none 0 0]):=⟨_,_,_,aj Tryz.type200,Tryz.underlying200,rfl,by simp only [Wk,Wn,aj Tryz.type120,aj Tryz.type122,aj Tryz.type35];rfl,rfl⟩
instance:Fld Tryz.prog 200 0 0:=⟨_,_,_,Tryz.underlying200,rfl,rfl,aj Tryz.type35,by decide⟩
instance:Und Tryz.prog 205 (TypeDesc.slice 3):=⟨Tryz.underlying205⟩
instance:Und Tryz.prog 206 (TypeDesc.pointer 207):=⟨Tryz.underlying206⟩
instance:Und Tryz.prog 207 (TypeDesc.slice 3):=⟨Tryz.underlying207⟩
instance:Size Tryz.prog 207 1:=⟨_,aj Tryz.type207,rfl⟩
instance:One Tryz.prog 207:=⟨_,Tryz.underlying207,rfl⟩
instance:Size Tryz.prog 295 1:=⟨_,aj Tryz.type295,rfl⟩
instance:One Tryz.prog 295:=⟨_,Tryz.underlying295,rfl⟩
instance:ZeroC Tryz.prog 295 ([Value.nilFunc]):=⟨_,_,aj Tryz.type295,rfl,rfl⟩
instance:Und Tryz.prog 318 (TypeDesc.array 2 3):=⟨Tryz.underlying318⟩
instance:Size Tryz.prog 323 1:=⟨_,aj Tryz.type323,rfl⟩
instance:One Tryz.prog 323:=⟨_,Tryz.underlying323,rfl⟩
instance:Elem Tryz.prog 323 1 8:=⟨_,_,aj Tryz.type323,rfl,rfl,rfl,rfl,by decide⟩
instance:Und Tryz.prog 328 (TypeDesc.slice 323):=⟨Tryz.underlying328⟩
instance:Und Tryz.prog 330 (TypeDesc.slice 339):=⟨Tryz.underlying330⟩
instance:Size Tryz.prog 330 1:=⟨_,aj Tryz.type330,rfl⟩
instance:One Tryz.prog 330:=⟨_,Tryz.underlying330,rfl⟩
instance:Und Tryz.prog 334 (TypeDesc.struct #[{ name:= "at",type:=3,offset:=0,embedded:=false,tag:= "",pkgPath:= "louvre/parse",byteOffset:=0 },{ name:= "e",type:=31,offset:=1,embedded:=false,tag:= "",pkgPath:= "louvre/parse",byteOffset:=8 }]):=⟨Tryz.underlying334⟩
instance:Size Tryz.prog 334 2:=⟨_,aj Tryz.type334,rfl⟩
instance:ZeroC Tryz.prog 334 ([Value.int IntKind.i64 0,Value.int IntKind.i64 0]):=⟨_,_,aj Tryz.type334,rfl,rfl⟩
instance:Struct Tryz.prog 334 [(0,1),(1,1)] ([Value.int IntKind.i64 0,Value.int IntKind.i64 0]):=⟨_,_,_,aj Tryz.type334,Tryz.underlying334,rfl,by simp only [Wk,Wn,aj Tryz.type3,aj Tryz.type31];rfl,rfl⟩
instance:Fld Tryz.prog 334 0 0:=⟨_,_,_,Tryz.underlying334,rfl,rfl,aj Tryz.type3,by decide⟩
instance:Fld Tryz.prog 334 1 1:=⟨_,_,_,Tryz.underlying334,rfl,rfl,aj Tryz.type31,by decide⟩
instance:One Tryz.prog 335:=⟨_,Tryz.underlying335,rfl⟩
instance:Struct Tryz.prog 337 [(0,1),(1,1),(2,1)] ([Value.slice none 0 0,Value.int IntKind.i64 0,Value.slice none 0 0]):=⟨_,_,_,aj Tryz.type337,Tryz.underlying337,rfl,by simp only [Wk,Wn,aj Tryz.type122,aj Tryz.type3,aj Tryz.type330];rfl,rfl⟩
instance:Fld Tryz.prog 337 0 0:=⟨_,_,_,Tryz.underlying337,rfl,rfl,aj Tryz.type330,by decide⟩
instance:Fld Tryz.prog 337 1 1:=⟨_,_,_,Tryz.underlying337,rfl,rfl,aj Tryz.type3,by decide⟩
instance:Fld Tryz.prog 337 2 2:=⟨_,_,_,Tryz.underlying337,rfl,rfl,aj Tryz.type122,by decide⟩
instance:Size Tryz.prog 339 8:=⟨_,aj Tryz.type339,rfl⟩
instance:Agg Tryz.prog 339 8:=⟨_,_,Tryz.underlying339,rfl,aj Tryz.type339,rfl⟩
instance:ZeroC Tryz.prog 339 ([Value.int IntKind.u8 0,Value.int IntKind.i64 0,Value.string { data:= #[] },Value.int IntKind.i64 0,Value.int IntKind.i64 0,Value.int IntKind.i64 0,Value.int IntKind.i64 0,Value.int IntKind.i64 0]):=⟨_,_,aj Tryz.type339,rfl,rfl⟩
instance:Elem Tryz.prog 339 8 72:=⟨_,_,aj Tryz.type339,rfl,rfl,rfl,rfl,by decide⟩
instance:Struct Tryz.prog 339 [(0,1),(1,1),(2,1),(3,4),(7,1)] ([Value.int IntKind.u8 0,Value.int IntKind.i64 0,Value.string { data:= #[] },Value.int IntKind.i64 0,Value.int IntKind.i64 0,Value.int IntKind.i64 0,Value.int IntKind.i64 0,Value.int IntKind.i64 0]):=⟨_,_,_,aj Tryz.type339,Tryz.underlying339,rfl,by simp only [Wk,Wn,aj Tryz.type2,aj Tryz.type3,aj Tryz.type5,aj Tryz.type53,aj Tryz.type9];rfl,rfl⟩
instance:Fld Tryz.prog 339 0 0:=⟨_,_,_,Tryz.underlying339,rfl,rfl,aj Tryz.type5,by decide⟩
instance:Fld Tryz.prog 339 1 1:=⟨_,_,_,Tryz.underlying339,rfl,rfl,aj Tryz.type2,by decide⟩
instance:Fld Tryz.prog 339 2 2:=⟨_,_,_,Tryz.underlying339,rfl,rfl,aj Tryz.type9,by decide⟩
instance:Fld Tryz.prog 339 3 3:=⟨_,_,_,Tryz.underlying339,rfl,rfl,aj Tryz.type53,by decide⟩
instance:Fld Tryz.prog 339 4 7:=⟨_,_,_,Tryz.underlying339,rfl,rfl,aj Tryz.type3,by decide⟩
instance:Struct Tryz.prog 349 [(0,1),(1,1),(2,1),(3,1),(4,1),(5,1)] ([Value.string { data:= #[] },Value.slice none 0 0,Value.int IntKind.i64 0,Value.slice none 0 0,Value.int IntKind.i64 0,Value.int IntKind.i64 0]):=⟨_,_,_,aj Tryz.type349,Tryz.underlying349,rfl,by simp only [Wk,Wn,aj Tryz.type122,aj Tryz.type3,aj Tryz.type31,aj Tryz.type330,aj Tryz.type9];rfl,rfl⟩
instance:Fld Tryz.prog 349 0 0:=⟨_,_,_,Tryz.underlying349,rfl,rfl,aj Tryz.type9,by decide⟩
instance:Fld Tryz.prog 349 1 1:=⟨_,_,_,Tryz.underlying349,rfl,rfl,aj Tryz.type330,by decide⟩
instance:Fld Tryz.prog 349 2 2:=⟨_,_,_,Tryz.underlying349,rfl,rfl,aj Tryz.type3,by decide⟩
instance:Fld Tryz.prog 349 3 3:=⟨_,_,_,Tryz.underlying349,rfl,rfl,aj Tryz.type122,by decide⟩
instance:Fld Tryz.prog 349 4 4:=⟨_,_,_,Tryz.underlying349,rfl,rfl,aj Tryz.type3,by decide⟩
instance:Fld Tryz.prog 349 5 5:=⟨_,_,_,Tryz.underlying349,rfl,rfl,aj Tryz.type31,by decide⟩
instance:Und Tryz.prog 387 (TypeDesc.slice 5):=⟨Tryz.underlying387⟩
instance:Agg Tryz.prog 393 3:=⟨_,_,Tryz.underlying393,rfl,aj Tryz.type393,rfl⟩
instance:Fld Tryz.prog 393 2 2:=⟨_,_,_,Tryz.underlying393,rfl,rfl,aj Tryz.type9,by decide⟩
instance:Und Tryz.prog 394 (TypeDesc.map 5 395):=⟨Tryz.underlying394⟩
instance:Zero Tryz.prog 395 (Value.nilFunc):=⟨_,aj Tryz.type395,rfl⟩
instance:Und Tryz.prog 397 (TypeDesc.array 8 9):=⟨Tryz.underlying397⟩
instance:Agg Tryz.prog 397 8:=⟨_,_,Tryz.underlying397,rfl,aj Tryz.type397,rfl⟩
instance:Struct Tryz.prog 403 [(0,1)] ([Value.string { data:= #[] }]):=⟨_,_,_,aj Tryz.type403,Tryz.underlying403,rfl,by simp only [Wk,Wn,aj Tryz.type9];rfl,rfl⟩
instance:Fld Tryz.prog 403 0 0:=⟨_,_,_,Tryz.underlying403,rfl,rfl,aj Tryz.type9,by decide⟩
instance:Size Tryz.prog 404 1:=⟨_,aj Tryz.type404,rfl⟩
instance:One Tryz.prog 404:=⟨_,Tryz.underlying404,rfl⟩
instance:Und Tryz.prog 405 (TypeDesc.array 5 404):=⟨Tryz.underlying405⟩
instance:Size Tryz.prog 405 5:=⟨_,aj Tryz.type405,rfl⟩
instance:Agg Tryz.prog 405 5:=⟨_,_,Tryz.underlying405,rfl,aj Tryz.type405,rfl⟩
instance:ZeroC Tryz.prog 405 ([Value.nilFunc,Value.nilFunc,Value.nilFunc,Value.nilFunc,Value.nilFunc]):=⟨_,_,aj Tryz.type405,rfl,rfl⟩
instance:Size Tryz.prog 411 2:=⟨_,aj Tryz.type411,rfl⟩
instance:Agg Tryz.prog 411 2:=⟨_,_,Tryz.underlying411,rfl,aj Tryz.type411,rfl⟩
instance:ZeroC Tryz.prog 411 ([Value.int IntKind.u64 0,Value.int IntKind.u64 0]):=⟨_,_,aj Tryz.type411,rfl,rfl⟩
instance:Struct Tryz.prog 411 [(0,1),(1,1)] ([Value.int IntKind.u64 0,Value.int IntKind.u64 0]):=⟨_,_,_,aj Tryz.type411,Tryz.underlying411,rfl,by simp only [Wk,Wn,aj Tryz.type24];rfl,rfl⟩
instance:Fld Tryz.prog 411 0 0:=⟨_,_,_,Tryz.underlying411,rfl,rfl,aj Tryz.type24,by decide⟩
instance:Fld Tryz.prog 411 1 1:=⟨_,_,_,Tryz.underlying411,rfl,rfl,aj Tryz.type24,by decide⟩
instance:Und Tryz.prog 417 (TypeDesc.slice 421):=⟨Tryz.underlying417⟩
instance:Size Tryz.prog 421 2:=⟨_,aj Tryz.type421,rfl⟩
instance:Elem Tryz.prog 421 2 16:=⟨_,_,aj Tryz.type421,rfl,rfl,rfl,rfl,by decide⟩
instance:Struct Tryz.prog 421 [(0,1),(1,1)] ([Value.int IntKind.i64 0,Value.int IntKind.i64 0]):=⟨_,_,_,aj Tryz.type421,Tryz.underlying421,rfl,by simp only [Wk,Wn,aj Tryz.type3];rfl,rfl⟩
instance:Fld Tryz.prog 421 0 0:=⟨_,_,_,Tryz.underlying421,rfl,rfl,aj Tryz.type3,by decide⟩
instance:Fld Tryz.prog 421 1 1:=⟨_,_,_,Tryz.underlying421,rfl,rfl,aj Tryz.type3,by decide⟩
instance:One Tryz.prog 446:=⟨_,Tryz.underlying446,rfl⟩
instance:Und Tryz.prog 455 (TypeDesc.slice 9):=⟨Tryz.underlying455⟩
instance:Und Tryz.prog 456 (TypeDesc.slice 2):=⟨Tryz.underlying456⟩
instance:Und Tryz.prog 462 (TypeDesc.slice 466):=⟨Tryz.underlying462⟩
instance:Size Tryz.prog 466 3:=⟨_,aj Tryz.type466,rfl⟩
instance:Agg Tryz.prog 466 3:=⟨_,_,Tryz.underlying466,rfl,aj Tryz.type466,rfl⟩
instance:ZeroC Tryz.prog 466 ([Value.int IntKind.i64 0,Value.int IntKind.i64 0,Value.bool false]):=⟨_,_,aj Tryz.type466,rfl,rfl⟩
instance:Elem Tryz.prog 466 3 24:=⟨_,_,aj Tryz.type466,rfl,rfl,rfl,rfl,by decide⟩
instance:Struct Tryz.prog 466 [(0,1),(1,1),(2,1)] ([Value.int IntKind.i64 0,Value.int IntKind.i64 0,Value.bool false]):=⟨_,_,_,aj Tryz.type466,Tryz.underlying466,rfl,by simp only [Wk,Wn,aj Tryz.type3,aj Tryz.type4];rfl,rfl⟩
instance:Fld Tryz.prog 466 0 0:=⟨_,_,_,Tryz.underlying466,rfl,rfl,aj Tryz.type3,by decide⟩
instance:Fld Tryz.prog 466 1 1:=⟨_,_,_,Tryz.underlying466,rfl,rfl,aj Tryz.type3,by decide⟩
instance:Fld Tryz.prog 466 2 2:=⟨_,_,_,Tryz.underlying466,rfl,rfl,aj Tryz.type4,by decide⟩
instance:Size Tryz.prog 478 5:=⟨_,aj Tryz.type478,rfl⟩
instance:Agg Tryz.prog 478 5:=⟨_,_,Tryz.underlying478,rfl,aj Tryz.type478,rfl⟩
instance:ZeroC Tryz.prog 478 ([Value.int IntKind.i64 0,Value.int IntKind.i64 0,Value.int IntKind.i64 0,Value.int IntKind.i64 0,Value.bool false]):=⟨_,_,aj Tryz.type478,rfl,rfl⟩
instance:Struct Tryz.prog 478 [(0,2),(2,2),(4,1)] ([Value.int IntKind.i64 0,Value.int IntKind.i64 0,Value.int IntKind.i64 0,Value.int IntKind.i64 0,Value.bool false]):=⟨_,_,_,aj Tryz.type478,Tryz.underlying478,rfl,by simp only [Wk,Wn,aj Tryz.type318,aj Tryz.type4];rfl,rfl⟩
instance:Fld Tryz.prog 478 0 0:=⟨_,_,_,Tryz.underlying478,rfl,rfl,aj Tryz.type318,by decide⟩
instance:Fld Tryz.prog 478 1 2:=⟨_,_,_,Tryz.underlying478,rfl,rfl,aj Tryz.type318,by decide⟩
instance:Fld Tryz.prog 478 2 4:=⟨_,_,_,Tryz.underlying478,rfl,rfl,aj Tryz.type4,by decide⟩
instance:Und Tryz.prog 505 (TypeDesc.array 50 9):=⟨Tryz.underlying505⟩
instance:Size Tryz.prog 505 50:=⟨_,aj Tryz.type505,rfl⟩
instance:Agg Tryz.prog 505 50:=⟨_,_,Tryz.underlying505,rfl,aj Tryz.type505,rfl⟩
instance:ZeroC Tryz.prog 505 ([Value.string { data:= #[] },Value.string { data:= #[] },Value.string { data:= #[] },Value.string { data:= #[] },Value.string { data:= #[] },Value.string { data:= #[] },Value.string { data:= #[] },Value.string { data:= #[] },Value.string { data:= #[] },Value.string { data:= #[] },Value.string { data:= #[] },Value.string { data:= #[] },Value.string { data:= #[] },Value.string { data:= #[] },Value.string { data:= #[] },Value.string { data:= #[] },Value.string { data:= #[] },Value.string { data:= #[] },Value.string { data:= #[] },Value.string { data:= #[] },Value.string { data:= #[] },Value.string { data:= #[] },Value.string { data:= #[] },Value.string { data:= #[] },Value.string { data:= #[] },Value.string { data:= #[] },Value.string { data:= #[] },Value.string { data:= #[] },Value.string { data:= #[] },Value.string { data:= #[] },Value.string { data:= #[] },Value.string { data:= #[] },Value.string { data:= #[] },Value.string { data:= #[] },Value.string { data:= #[] },Value.string { data:= #[] },Value.string { data:= #[] },Value.string { data:= #[] },Value.string { data:= #[] },Value.string { data:= #[] },Value.string { data:= #[] },Value.string { data:= #[] },Value.string { data:= #[] },Value.string { data:= #[] },Value.string { data:= #[] },Value.string { data:= #[] },Value.string { data:= #[] },Value.string { data:= #[] },Value.string { data:= #[] },Value.string { data:= #[] }]):=⟨_,_,aj Tryz.type505,rfl,rfl⟩
instance:Callable Tryz.prog 10:=⟨fun args w=>Tryz.call10 args w⟩
instance:Callable Tryz.prog 13:=⟨fun args w=>Tryz.call13 args w⟩
instance:Callable Tryz.prog 15:=⟨fun args w=>Tryz.call15 args w⟩
instance:Callable Tryz.prog 18:=⟨fun args w=>Tryz.call18 args w⟩
instance:Callable Tryz.prog 19:=⟨fun args w=>Tryz.call19 args w⟩
instance:Callable Tryz.prog 22:=⟨fun args w=>Tryz.call22 args w⟩
instance:Callable Tryz.prog 23:=⟨fun args w=>Tryz.call23 args w⟩
instance:Callable Tryz.prog 24:=⟨fun args w=>Tryz.call24 args w⟩
instance:Callable Tryz.prog 27:=⟨fun args w=>Tryz.call27 args w⟩
instance:Callable Tryz.prog 33:=⟨fun args w=>Tryz.call33 args w⟩
instance:Callable Tryz.prog 36:=⟨fun args w=>Tryz.call36 args w⟩
instance:Callable Tryz.prog 39:=⟨fun args w=>Tryz.call39 args w⟩
instance:Callable Tryz.prog 40:=⟨fun args w=>Tryz.call40 args w⟩
instance:Callable Tryz.prog 41:=⟨fun args w=>Tryz.call41 args w⟩
instance:Callable Tryz.prog 42:=⟨fun args w=>Tryz.call42 args w⟩
instance:Callable Tryz.prog 43:=⟨fun args w=>Tryz.call43 args w⟩
instance:Callable Tryz.prog 47:=⟨fun args w=>Tryz.call47 args w⟩
instance:Callable Tryz.prog 48:=⟨fun args w=>Tryz.call48 args w⟩
instance:Callable Tryz.prog 49:=⟨fun args w=>Tryz.call49 args w⟩
instance:Callable Tryz.prog 50:=⟨fun args w=>Tryz.call50 args w⟩
instance:Callable Tryz.prog 51:=⟨fun args w=>Tryz.call51 args w⟩
instance:Callable Tryz.prog 52:=⟨fun args w=>Tryz.call52 args w⟩
instance:Callable Tryz.prog 53:=⟨fun args w=>Tryz.call53 args w⟩
instance:Callable Tryz.prog 55:=⟨fun args w=>Tryz.call55 args w⟩
instance:Callable Tryz.prog 59:=⟨fun args w=>Tryz.call59 args w⟩
instance:Callable Tryz.prog 65:=⟨fun args w=>Tryz.call65 args w⟩
instance:Callable Tryz.prog 66:=⟨fun args w=>Tryz.call66 args w⟩
instance:Callable Tryz.prog 67:=⟨fun args w=>Tryz.call67 args w⟩
instance:Callable Tryz.prog 68:=⟨fun args w=>Tryz.call68 args w⟩
instance:Callable Tryz.prog 70:=⟨fun args w=>Tryz.call70 args w⟩
instance:Callable Tryz.prog 72:=⟨fun args w=>Tryz.call72 args w⟩
instance:Callable Tryz.prog 73:=⟨fun args w=>Tryz.call73 args w⟩
instance:Callable Tryz.prog 88:=⟨fun args w=>Tryz.call88 args w⟩
instance:Callable Tryz.prog 90:=⟨fun args w=>Tryz.call90 args w⟩
instance:Callable Tryz.prog 96:=⟨fun args w=>Tryz.call96 args w⟩
instance:Callable Tryz.prog 98:=⟨fun args w=>Tryz.call98 args w⟩
instance:Callable Tryz.prog 99:=⟨fun args w=>Tryz.call99 args w⟩
instance:Callable Tryz.prog 100:=⟨fun args w=>Tryz.call100 args w⟩
instance:Callable Tryz.prog 101:=⟨fun args w=>Tryz.call101 args w⟩
instance:Callable Tryz.prog 102:=⟨fun args w=>Tryz.call102 args w⟩
instance:Callable Tryz.prog 103:=⟨fun args w=>Tryz.call103 args w⟩
instance:Callable Tryz.prog 104:=⟨fun args w=>Tryz.call104 args w⟩
instance:Callable Tryz.prog 106:=⟨fun args w=>Tryz.call106 args w⟩
instance:Callable Tryz.prog 108:=⟨fun args w=>Tryz.call108 args w⟩
instance:Callable Tryz.prog 109:=⟨fun args w=>Tryz.call109 args w⟩
instance:Callable Tryz.prog 112:=⟨fun args w=>Tryz.call112 args w⟩
instance:Callable Tryz.prog 113:=⟨fun args w=>Tryz.call113 args w⟩
instance:Callable Tryz.prog 114:=⟨fun args w=>Tryz.call114 args w⟩
instance:Callable Tryz.prog 115:=⟨fun args w=>Tryz.call115 args w⟩
instance:Callable Tryz.prog 116:=⟨fun args w=>Tryz.call116 args w⟩
instance:Callable Tryz.prog 117:=⟨fun args w=>Tryz.call117 args w⟩
instance:Callable Tryz.prog 118:=⟨fun args w=>Tryz.call118 args w⟩
instance:Callable Tryz.prog 121:=⟨fun args w=>Tryz.call121 args w⟩
instance:Callable Tryz.prog 122:=⟨fun args w=>Tryz.call122 args w⟩
instance:Callable Tryz.prog 157:=⟨fun args w=>Tryz.call157 args w⟩
instance:Callable Tryz.prog 158:=⟨fun args w=>Tryz.call158 args w⟩
instance:Callable Tryz.prog 159:=⟨fun args w=>Tryz.call159 args w⟩
instance:Callable Tryz.prog 160:=⟨fun args w=>Tryz.call160 args w⟩
instance:Callable Tryz.prog 161:=⟨fun args w=>Tryz.call161 args w⟩
instance:Callable Tryz.prog 162:=⟨fun args w=>Tryz.call162 args w⟩
instance:Callable Tryz.prog 163:=⟨fun args w=>Tryz.call163 args w⟩
instance:Callable Tryz.prog 164:=⟨fun args w=>Tryz.call164 args w⟩
instance:Callable Tryz.prog 165:=⟨fun args w=>Tryz.call165 args w⟩
instance:Callable Tryz.prog 166:=⟨fun args w=>Tryz.call166 args w⟩
instance:Callable Tryz.prog 167:=⟨fun args w=>Tryz.call167 args w⟩
instance:Callable Tryz.prog 180:=⟨fun args w=>Tryz.call180 args w⟩
instance:Callable Tryz.prog 181:=⟨fun args w=>Tryz.call181 args w⟩
instance:Callable Tryz.prog 182:=⟨fun args w=>Tryz.call182 args w⟩
instance:Callable Tryz.prog 191:=⟨fun args w=>Tryz.call191 args w⟩
instance:Callable Tryz.prog 192:=⟨fun args w=>Tryz.call192 args w⟩
instance:Callable Tryz.prog 193:=⟨fun args w=>Tryz.call193 args w⟩
instance:Callable Tryz.prog 194:=⟨fun args w=>Tryz.call194 args w⟩
instance:Callable Tryz.prog 213:=⟨fun args w=>Tryz.call213 args w⟩
instance:Callable Tryz.prog 214:=⟨fun args w=>Tryz.call214 args w⟩
instance:Callable Tryz.prog 215:=⟨fun args w=>Tryz.call215 args w⟩
instance:Callable Tryz.prog 216:=⟨fun args w=>Tryz.call216 args w⟩
instance:Callable Tryz.prog 217:=⟨fun args w=>Tryz.call217 args w⟩
instance:Callable Tryz.prog 218:=⟨fun args w=>Tryz.call218 args w⟩
instance:Callable Tryz.prog 219:=⟨fun args w=>Tryz.call219 args w⟩
instance:Callable Tryz.prog 220:=⟨fun args w=>Tryz.call220 args w⟩
instance:Callable Tryz.prog 221:=⟨fun args w=>Tryz.call221 args w⟩
instance:Callable Tryz.prog 222:=⟨fun args w=>Tryz.call222 args w⟩
instance:Callable Tryz.prog 223:=⟨fun args w=>Tryz.call223 args w⟩
instance:Callable Tryz.prog 224:=⟨fun args w=>Tryz.call224 args w⟩
instance:Callable Tryz.prog 225:=⟨fun args w=>Tryz.call225 args w⟩
instance:Callable Tryz.prog 226:=⟨fun args w=>Tryz.call226 args w⟩
instance:Callable Tryz.prog 227:=⟨fun args w=>Tryz.call227 args w⟩
instance:Callable Tryz.prog 228:=⟨fun args w=>Tryz.call228 args w⟩
instance:Callable Tryz.prog 229:=⟨fun args w=>Tryz.call229 args w⟩
instance:Callable Tryz.prog 230:=⟨fun args w=>Tryz.call230 args w⟩
instance:Callable Tryz.prog 231:=⟨fun args w=>Tryz.call231 args w⟩
instance:Callable Tryz.prog 232:=⟨fun args w=>Tryz.call232 args w⟩
instance:Callable Tryz.prog 233:=⟨fun args w=>Tryz.call233 args w⟩
instance:Callable Tryz.prog 234:=⟨fun args w=>Tryz.call234 args w⟩
instance:Callable Tryz.prog 235:=⟨fun args w=>Tryz.call235 args w⟩
instance:Callable Tryz.prog 236:=⟨fun args w=>Tryz.call236 args w⟩
instance:Callable Tryz.prog 237:=⟨fun args w=>Tryz.call237 args w⟩
instance:Callable Tryz.prog 238:=⟨fun args w=>Tryz.call238 args w⟩
instance:Callable Tryz.prog 239:=⟨fun args w=>Tryz.call239 args w⟩
instance:Callable Tryz.prog 240:=⟨fun args w=>Tryz.call240 args w⟩
instance:Callable Tryz.prog 241:=⟨fun args w=>Tryz.call241 args w⟩
instance:Callable Tryz.prog 242:=⟨fun args w=>Tryz.call242 args w⟩
instance:Callable Tryz.prog 243:=⟨fun args w=>Tryz.call243 args w⟩
instance:Callable Tryz.prog 244:=⟨fun args w=>Tryz.call244 args w⟩
instance:Callable Tryz.prog 245:=⟨fun args w=>Tryz.call245 args w⟩
instance:Callable Tryz.prog 246:=⟨fun args w=>Tryz.call246 args w⟩
instance:Callable Tryz.prog 282:=⟨fun args w=>Tryz.call282 args w⟩
instance:Callable Tryz.prog 283:=⟨fun args w=>Tryz.call283 args w⟩
instance:Callable Tryz.prog 284:=⟨fun args w=>Tryz.call284 args w⟩
instance:Callable Tryz.prog 285:=⟨fun args w=>Tryz.call285 args w⟩
instance:Callable Tryz.prog 286:=⟨fun args w=>Tryz.call286 args w⟩
instance:Callable Tryz.prog 287:=⟨fun args w=>Tryz.call287 args w⟩
instance:Callable Tryz.prog 288:=⟨fun args w=>Tryz.call288 args w⟩
instance:Callable Tryz.prog 291:=⟨fun args w=>Tryz.call291 args w⟩
instance:Callable Tryz.prog 292:=⟨fun args w=>Tryz.call292 args w⟩
instance:Callable Tryz.prog 293:=⟨fun args w=>Tryz.call293 args w⟩
instance:Callable Tryz.prog 294:=⟨fun args w=>Tryz.call294 args w⟩
instance:Callable Tryz.prog 295:=⟨fun args w=>Tryz.call295 args w⟩
instance:Callable Tryz.prog 296:=⟨fun args w=>Tryz.call296 args w⟩
instance:Callable Tryz.prog 297:=⟨fun args w=>Tryz.call297 args w⟩
instance:Callable Tryz.prog 298:=⟨fun args w=>Tryz.call298 args w⟩
instance:Callable Tryz.prog 299:=⟨fun args w=>Tryz.call299 args w⟩
instance:Callable Tryz.prog 300:=⟨fun args w=>Tryz.call300 args w⟩
instance:Callable Tryz.prog 301:=⟨fun args w=>Tryz.call301 args w⟩
instance:Callable Tryz.prog 302:=⟨fun args w=>Tryz.call302 args w⟩
instance:Callable Tryz.prog 303:=⟨fun args w=>Tryz.call303 args w⟩
instance:Callable Tryz.prog 304:=⟨fun args w=>Tryz.call304 args w⟩
instance:Callable Tryz.prog 305:=⟨fun args w=>Tryz.call305 args w⟩
instance:Callable Tryz.prog 306:=⟨fun args w=>Tryz.call306 args w⟩
instance:Callable Tryz.prog 307:=⟨fun args w=>Tryz.call307 args w⟩
instance:Callable Tryz.prog 308:=⟨fun args w=>Tryz.call308 args w⟩
instance:Callable Tryz.prog 309:=⟨fun args w=>Tryz.call309 args w⟩
instance:Callable Tryz.prog 310:=⟨fun args w=>Tryz.call310 args w⟩
instance:Callable Tryz.prog 311:=⟨fun args w=>Tryz.call311 args w⟩
instance:Callable Tryz.prog 312:=⟨fun args w=>Tryz.call312 args w⟩
instance:Callable Tryz.prog 334:=⟨fun args w=>Tryz.call334 args w⟩
instance:Callable Tryz.prog 335:=⟨fun args w=>Tryz.call335 args w⟩
instance:Callable Tryz.prog 336:=⟨fun args w=>Tryz.call336 args w⟩
instance:Callable Tryz.prog 337:=⟨fun args w=>Tryz.call337 args w⟩
instance:Callable Tryz.prog 338:=⟨fun args w=>Tryz.call338 args w⟩
instance:Callable Tryz.prog 339:=⟨fun args w=>Tryz.call339 args w⟩
instance:Callable Tryz.prog 340:=⟨fun args w=>Tryz.call340 args w⟩
instance:Callable Tryz.prog 341:=⟨fun args w=>Tryz.call341 args w⟩
instance:Callable Tryz.prog 342:=⟨fun args w=>Tryz.call342 args w⟩
instance:Callable Tryz.prog 343:=⟨fun args w=>Tryz.call343 args w⟩
instance:Callable Tryz.prog 344:=⟨fun args w=>Tryz.call344 args w⟩
instance:Callable Tryz.prog 345:=⟨fun args w=>Tryz.call345 args w⟩
instance:Callable Tryz.prog 346:=⟨fun args w=>Tryz.call346 args w⟩
instance:Callable Tryz.prog 347:=⟨fun args w=>Tryz.call347 args w⟩
instance:Callable Tryz.prog 348:=⟨fun args w=>Tryz.call348 args w⟩
instance:Callable Tryz.prog 349:=⟨fun args w=>Tryz.call349 args w⟩
instance:Callable Tryz.prog 350:=⟨fun args w=>Tryz.call350 args w⟩
instance:Callable Tryz.prog 351:=⟨fun args w=>Tryz.call351 args w⟩
instance:Callable Tryz.prog 352:=⟨fun args w=>Tryz.call352 args w⟩
instance:Callable Tryz.prog 353:=⟨fun args w=>Tryz.call353 args w⟩
instance:Callable Tryz.prog 354:=⟨fun args w=>Tryz.call354 args w⟩
instance:Callable Tryz.prog 355:=⟨fun args w=>Tryz.call355 args w⟩
instance:Callable Tryz.prog 356:=⟨fun args w=>Tryz.call356 args w⟩
instance:Callable Tryz.prog 357:=⟨fun args w=>Tryz.call357 args w⟩
instance:Callable Tryz.prog 358:=⟨fun args w=>Tryz.call358 args w⟩
instance:Callable Tryz.prog 359:=⟨fun args w=>Tryz.call359 args w⟩
instance:Callable Tryz.prog 360:=⟨fun args w=>Tryz.call360 args w⟩
instance:Callable Tryz.prog 361:=⟨fun args w=>Tryz.call361 args w⟩
instance:Callable Tryz.prog 362:=⟨fun args w=>Tryz.call362 args w⟩
instance:Callable Tryz.prog 363:=⟨fun args w=>Tryz.call363 args w⟩
instance:Callable Tryz.prog 364:=⟨fun args w=>Tryz.call364 args w⟩
instance:Callable Tryz.prog 365:=⟨fun args w=>Tryz.call365 args w⟩
instance:Callable Tryz.prog 373:=⟨fun args w=>Tryz.call373 args w⟩
instance:Callable Tryz.prog 374:=⟨fun args w=>Tryz.call374 args w⟩
instance:Callable Tryz.prog 375:=⟨fun args w=>Tryz.call375 args w⟩
instance:Callable Tryz.prog 376:=⟨fun args w=>Tryz.call376 args w⟩
instance:Callable Tryz.prog 378:=⟨fun args w=>Tryz.call378 args w⟩
instance:Callable Tryz.prog 379:=⟨fun args w=>Tryz.call379 args w⟩
instance:Callable Tryz.prog 380:=⟨fun args w=>Tryz.call380 args w⟩
instance:Callable Tryz.prog 381:=⟨fun args w=>Tryz.call381 args w⟩
instance:Callable Tryz.prog 382:=⟨fun args w=>Tryz.call382 args w⟩
instance:Callable Tryz.prog 383:=⟨fun args w=>Tryz.call383 args w⟩
instance:Callable Tryz.prog 384:=⟨fun args w=>Tryz.call384 args w⟩
instance:Callable Tryz.prog 385:=⟨fun args w=>Tryz.call385 args w⟩
instance:Callable Tryz.prog 386:=⟨fun args w=>Tryz.call386 args w⟩
instance:Callable Tryz.prog 387:=⟨fun args w=>Tryz.call387 args w⟩
instance:Callable Tryz.prog 388:=⟨fun args w=>Tryz.call388 args w⟩
instance:Callable Tryz.prog 389:=⟨fun args w=>Tryz.call389 args w⟩
instance:Callable Tryz.prog 390:=⟨fun args w=>Tryz.call390 args w⟩
instance:Callable Tryz.prog 391:=⟨fun args w=>Tryz.call391 args w⟩
instance:Callable Tryz.prog 392:=⟨fun args w=>Tryz.call392 args w⟩
instance:Callable Tryz.prog 395:=⟨fun args w=>Tryz.call395 args w⟩
instance:Callable Tryz.prog 396:=⟨fun args w=>Tryz.call396 args w⟩
instance:Callable Tryz.prog 400:=⟨fun args w=>Tryz.call400 args w⟩
instance:Callable Tryz.prog 401:=⟨fun args w=>Tryz.call401 args w⟩
instance:Callable Tryz.prog 402:=⟨fun args w=>Tryz.call402 args w⟩
instance:Callable Tryz.prog 403:=⟨fun args w=>Tryz.call403 args w⟩
instance:Callable Tryz.prog 405:=⟨fun args w=>Tryz.call405 args w⟩
instance:Callable Tryz.prog 406:=⟨fun args w=>Tryz.call406 args w⟩
instance:Callable Tryz.prog 407:=⟨fun args w=>Tryz.call407 args w⟩
instance:Callable Tryz.prog 408:=⟨fun args w=>Tryz.call408 args w⟩
instance:Callable Tryz.prog 409:=⟨fun args w=>Tryz.call409 args w⟩
instance:Callable Tryz.prog 412:=⟨fun args w=>Tryz.call412 args w⟩
instance:Callable Tryz.prog 413:=⟨fun args w=>Tryz.call413 args w⟩
instance:Callable Tryz.prog 414:=⟨fun args w=>Tryz.call414 args w⟩
instance:Callable Tryz.prog 415:=⟨fun args w=>Tryz.call415 args w⟩
instance:Callable Tryz.prog 416:=⟨fun args w=>Tryz.call416 args w⟩
instance:Callable Tryz.prog 417:=⟨fun args w=>Tryz.call417 args w⟩
instance:Callable Tryz.prog 420:=⟨fun args w=>Tryz.call420 args w⟩
instance:Callable Tryz.prog 421:=⟨fun args w=>Tryz.call421 args w⟩
instance:Callable Tryz.prog 424:=⟨fun args w=>Tryz.call424 args w⟩
instance:Callable Tryz.prog 425:=⟨fun args w=>Tryz.call425 args w⟩
instance:Callable Tryz.prog 426:=⟨fun args w=>Tryz.call426 args w⟩
instance:Callable Tryz.prog 429:=⟨fun args w=>Tryz.call429 args w⟩
instance:Callable Tryz.prog 430:=⟨fun args w=>Tryz.call430 args w⟩
end Go.SL
