/-
  Lemmas and walks, put together: Ty Sl8.
-/
import Derived.Test.YtpohljcebgacjaaGreatDoorChecked
import Derived.Test.YtpohljcebgacjaaGreatDoorKr03
set_option linter.unusedSimpArgs false
set_option linter.unusedVariables false
set_option maxRecDepth 20000
namespace Go.SL
open Go Go.Proofs
theorem info_of {P:Program} {t:Nat} {i:TypeInfo} (h:P.toTables.types[t]? =some i):P.info? t=some i:=by
 have hl:=(Array.getElem?_eq_some_iff.1 h).1
 simp only [Tables.info?,hl,if_true]
 exact h
instance:Und Tryz.prog 2 (TypeDesc.int IntKind.i64):=⟨Tryz.underlying2⟩
instance:Size Tryz.prog 2 1:=⟨_,info_of Tryz.type2,rfl⟩
instance:One Tryz.prog 2:=⟨_,Tryz.underlying2,rfl⟩
instance:Elem Tryz.prog 2 1 8:=⟨_,_,info_of Tryz.type2,rfl,rfl,rfl,rfl,by decide⟩
instance:Und Tryz.prog 3 (TypeDesc.int IntKind.i64):=⟨Tryz.underlying3⟩
instance:Size Tryz.prog 3 1:=⟨_,info_of Tryz.type3,rfl⟩
instance:One Tryz.prog 3:=⟨_,Tryz.underlying3,rfl⟩
instance:Zero Tryz.prog 3 (Value.int IntKind.i64 0):=⟨_,info_of Tryz.type3,rfl⟩
instance:ZeroC Tryz.prog 3 ([Value.int IntKind.i64 0]):=⟨_,_,info_of Tryz.type3,rfl,rfl⟩
instance:Elem Tryz.prog 3 1 8:=⟨_,_,info_of Tryz.type3,rfl,rfl,rfl,rfl,by decide⟩
instance:Und Tryz.prog 4 (TypeDesc.bool):=⟨Tryz.underlying4⟩
instance:Size Tryz.prog 4 1:=⟨_,info_of Tryz.type4,rfl⟩
instance:One Tryz.prog 4:=⟨_,Tryz.underlying4,rfl⟩
instance:Zero Tryz.prog 4 (Value.bool false):=⟨_,info_of Tryz.type4,rfl⟩
instance:Und Tryz.prog 5 (TypeDesc.int IntKind.u8):=⟨Tryz.underlying5⟩
instance:Size Tryz.prog 5 1:=⟨_,info_of Tryz.type5,rfl⟩
instance:One Tryz.prog 5:=⟨_,Tryz.underlying5,rfl⟩
instance:Elem Tryz.prog 5 1 1:=⟨_,_,info_of Tryz.type5,rfl,rfl,rfl,rfl,by decide⟩
instance:Und Tryz.prog 9 (TypeDesc.string):=⟨Tryz.underlying9⟩
instance:Size Tryz.prog 9 1:=⟨_,info_of Tryz.type9,rfl⟩
instance:One Tryz.prog 9:=⟨_,Tryz.underlying9,rfl⟩
instance:Elem Tryz.prog 9 1 16:=⟨_,_,info_of Tryz.type9,rfl,rfl,rfl,rfl,by decide⟩
instance:Und Tryz.prog 20 (TypeDesc.interface #[]):=⟨Tryz.underlying20⟩
instance:Und Tryz.prog 22 (TypeDesc.slice 73):=⟨Tryz.underlying22⟩
instance:Size Tryz.prog 24 4:=⟨_,info_of Tryz.type24,rfl⟩
instance:Agg Tryz.prog 24 4:=⟨_,_,Tryz.underlying24,rfl,info_of Tryz.type24,rfl⟩
instance:Zero Tryz.prog 24 (Value.agg #[Value.int IntKind.i64 0,Value.int IntKind.i64 0,Value.int IntKind.i64 0,Value.int IntKind.i64 0]):=⟨_,info_of Tryz.type24,rfl⟩
instance:ZeroC Tryz.prog 24 ([Value.int IntKind.i64 0,Value.int IntKind.i64 0,Value.int IntKind.i64 0,Value.int IntKind.i64 0]):=⟨_,_,info_of Tryz.type24,rfl,rfl⟩
instance:Elem Tryz.prog 24 4 32:=⟨_,_,info_of Tryz.type24,rfl,rfl,rfl,rfl,by decide⟩
instance:Struct Tryz.prog 24 [(0,1),(1,1),(2,1),(3,1)] ([Value.int IntKind.i64 0,Value.int IntKind.i64 0,Value.int IntKind.i64 0,Value.int IntKind.i64 0]):=⟨_,_,_,info_of Tryz.type24,Tryz.underlying24,rfl,by simp only [List.mapM_cons,List.mapM_nil,info_of Tryz.type3];rfl,rfl⟩
instance:Fld Tryz.prog 24 0 0:=⟨_,_,_,Tryz.underlying24,rfl,rfl,info_of Tryz.type3,by decide⟩
instance:Fld Tryz.prog 24 1 1:=⟨_,_,_,Tryz.underlying24,rfl,rfl,info_of Tryz.type3,by decide⟩
instance:Fld Tryz.prog 24 2 2:=⟨_,_,_,Tryz.underlying24,rfl,rfl,info_of Tryz.type3,by decide⟩
instance:Fld Tryz.prog 24 3 3:=⟨_,_,_,Tryz.underlying24,rfl,rfl,info_of Tryz.type3,by decide⟩
instance:Und Tryz.prog 25 (TypeDesc.pointer 109):=⟨Tryz.underlying25⟩
instance:One Tryz.prog 25:=⟨_,Tryz.underlying25,rfl⟩
instance:Und Tryz.prog 26 (TypeDesc.pointer 129):=⟨Tryz.underlying26⟩
instance:Size Tryz.prog 28 2:=⟨_,info_of Tryz.type28,rfl⟩
instance:Agg Tryz.prog 28 2:=⟨_,_,Tryz.underlying28,rfl,info_of Tryz.type28,rfl⟩
instance:ZeroC Tryz.prog 28 ([Value.pointer none,Value.pointer none]):=⟨_,_,info_of Tryz.type28,rfl,rfl⟩
instance:Struct Tryz.prog 28 [(0,1),(1,1)] ([Value.pointer none,Value.pointer none]):=⟨_,_,_,info_of Tryz.type28,Tryz.underlying28,rfl,by simp only [List.mapM_cons,List.mapM_nil,info_of Tryz.type25,info_of Tryz.type26];rfl,rfl⟩
instance:Fld Tryz.prog 28 0 0:=⟨_,_,_,Tryz.underlying28,rfl,rfl,info_of Tryz.type25,by decide⟩
instance:Und Tryz.prog 32 (TypeDesc.slice 38):=⟨Tryz.underlying32⟩
instance:Size Tryz.prog 32 1:=⟨_,info_of Tryz.type32,rfl⟩
instance:One Tryz.prog 32:=⟨_,Tryz.underlying32,rfl⟩
instance:ZeroC Tryz.prog 32 ([Value.slice none 0 0]):=⟨_,_,info_of Tryz.type32,rfl,rfl⟩
instance:Elem Tryz.prog 32 1 24:=⟨_,_,info_of Tryz.type32,rfl,rfl,rfl,rfl,by decide⟩
instance:Size Tryz.prog 38 2:=⟨_,info_of Tryz.type38,rfl⟩
instance:Agg Tryz.prog 38 2:=⟨_,_,Tryz.underlying38,rfl,info_of Tryz.type38,rfl⟩
instance:ZeroC Tryz.prog 38 ([Value.int IntKind.i64 0,Value.int IntKind.i64 0]):=⟨_,_,info_of Tryz.type38,rfl,rfl⟩
instance:Elem Tryz.prog 38 2 16:=⟨_,_,info_of Tryz.type38,rfl,rfl,rfl,rfl,by decide⟩
instance:Struct Tryz.prog 38 [(0,1),(1,1)] ([Value.int IntKind.i64 0,Value.int IntKind.i64 0]):=⟨_,_,_,info_of Tryz.type38,Tryz.underlying38,rfl,by simp only [List.mapM_cons,List.mapM_nil,info_of Tryz.type3];rfl,rfl⟩
instance:Fld Tryz.prog 38 0 0:=⟨_,_,_,Tryz.underlying38,rfl,rfl,info_of Tryz.type3,by decide⟩
instance:Fld Tryz.prog 38 1 1:=⟨_,_,_,Tryz.underlying38,rfl,rfl,info_of Tryz.type3,by decide⟩
instance:Und Tryz.prog 40 (TypeDesc.slice 45):=⟨Tryz.underlying40⟩
instance:Size Tryz.prog 40 1:=⟨_,info_of Tryz.type40,rfl⟩
instance:One Tryz.prog 40:=⟨_,Tryz.underlying40,rfl⟩
instance:ZeroC Tryz.prog 40 ([Value.slice none 0 0]):=⟨_,_,info_of Tryz.type40,rfl,rfl⟩
instance:Size Tryz.prog 45 6:=⟨_,info_of Tryz.type45,rfl⟩
instance:Agg Tryz.prog 45 6:=⟨_,_,Tryz.underlying45,rfl,info_of Tryz.type45,rfl⟩
instance:ZeroC Tryz.prog 45 ([Value.int IntKind.i64 0,Value.int IntKind.i64 0,Value.int IntKind.i64 0,Value.int IntKind.i64 0,Value.int IntKind.i64 0,Value.int IntKind.u8 0]):=⟨_,_,info_of Tryz.type45,rfl,rfl⟩
instance:Elem Tryz.prog 45 6 48:=⟨_,_,info_of Tryz.type45,rfl,rfl,rfl,rfl,by decide⟩
instance:Struct Tryz.prog 45 [(0,4),(4,1),(5,1)] ([Value.int IntKind.i64 0,Value.int IntKind.i64 0,Value.int IntKind.i64 0,Value.int IntKind.i64 0,Value.int IntKind.i64 0,Value.int IntKind.u8 0]):=⟨_,_,_,info_of Tryz.type45,Tryz.underlying45,rfl,by simp only [List.mapM_cons,List.mapM_nil,info_of Tryz.type24,info_of Tryz.type3,info_of Tryz.type5];rfl,rfl⟩
instance:Fld Tryz.prog 45 0 0:=⟨_,_,_,Tryz.underlying45,rfl,rfl,info_of Tryz.type24,by decide⟩
instance:Fld Tryz.prog 45 1 4:=⟨_,_,_,Tryz.underlying45,rfl,rfl,info_of Tryz.type3,by decide⟩
instance:Fld Tryz.prog 45 2 5:=⟨_,_,_,Tryz.underlying45,rfl,rfl,info_of Tryz.type5,by decide⟩
instance:Size Tryz.prog 52 1:=⟨_,info_of Tryz.type52,rfl⟩
instance:One Tryz.prog 52:=⟨_,Tryz.underlying52,rfl⟩
instance:ZeroC Tryz.prog 52 ([Value.int IntKind.i64 0]):=⟨_,_,info_of Tryz.type52,rfl,rfl⟩
instance:Und Tryz.prog 54 (TypeDesc.slice 136):=⟨Tryz.underlying54⟩
instance:Size Tryz.prog 54 1:=⟨_,info_of Tryz.type54,rfl⟩
instance:One Tryz.prog 54:=⟨_,Tryz.underlying54,rfl⟩
instance:ZeroC Tryz.prog 54 ([Value.slice none 0 0]):=⟨_,_,info_of Tryz.type54,rfl,rfl⟩
instance:Und Tryz.prog 60 (TypeDesc.slice 142):=⟨Tryz.underlying60⟩
instance:Size Tryz.prog 73 3:=⟨_,info_of Tryz.type73,rfl⟩
instance:Agg Tryz.prog 73 3:=⟨_,_,Tryz.underlying73,rfl,info_of Tryz.type73,rfl⟩
instance:Fld Tryz.prog 73 0 0:=⟨_,_,_,Tryz.underlying73,rfl,rfl,info_of Tryz.type3,by decide⟩
instance:Fld Tryz.prog 73 1 1:=⟨_,_,_,Tryz.underlying73,rfl,rfl,info_of Tryz.type3,by decide⟩
instance:Fld Tryz.prog 73 2 2:=⟨_,_,_,Tryz.underlying73,rfl,rfl,info_of Tryz.type9,by decide⟩
instance:Und Tryz.prog 81 (TypeDesc.slice 24):=⟨Tryz.underlying81⟩
instance:Size Tryz.prog 81 1:=⟨_,info_of Tryz.type81,rfl⟩
instance:One Tryz.prog 81:=⟨_,Tryz.underlying81,rfl⟩
instance:ZeroC Tryz.prog 81 ([Value.slice none 0 0]):=⟨_,_,info_of Tryz.type81,rfl,rfl⟩
instance:Und Tryz.prog 91 (TypeDesc.slice 32):=⟨Tryz.underlying91⟩
instance:Und Tryz.prog 107 (TypeDesc.map 38 114):=⟨Tryz.underlying107⟩
instance:One Tryz.prog 107:=⟨_,Tryz.underlying107,rfl⟩
instance:Struct Tryz.prog 109 [(0,1)] ([Value.map none]):=⟨_,_,_,info_of Tryz.type109,Tryz.underlying109,rfl,by simp only [List.mapM_cons,List.mapM_nil,info_of Tryz.type107];rfl,rfl⟩
instance:Fld Tryz.prog 109 0 0:=⟨_,_,_,Tryz.underlying109,rfl,rfl,info_of Tryz.type107,by decide⟩
instance:Zero Tryz.prog 114 (Value.agg #[Value.slice none 0 0,Value.slice none 0 0]):=⟨_,info_of Tryz.type114,rfl⟩
instance:Struct Tryz.prog 114 [(0,1),(1,1)] ([Value.slice none 0 0,Value.slice none 0 0]):=⟨_,_,_,info_of Tryz.type114,Tryz.underlying114,rfl,by simp only [List.mapM_cons,List.mapM_nil,info_of Tryz.type40,info_of Tryz.type54];rfl,rfl⟩
instance:Size Tryz.prog 120 3:=⟨_,info_of Tryz.type120,rfl⟩
instance:Agg Tryz.prog 120 3:=⟨_,_,Tryz.underlying120,rfl,info_of Tryz.type120,rfl⟩
instance:ZeroC Tryz.prog 120 ([Value.int IntKind.u8 0,Value.int IntKind.i64 0,Value.string { data:= #[] }]):=⟨_,_,info_of Tryz.type120,rfl,rfl⟩
instance:Struct Tryz.prog 120 [(0,1),(1,1),(2,1)] ([Value.int IntKind.u8 0,Value.int IntKind.i64 0,Value.string { data:= #[] }]):=⟨_,_,_,info_of Tryz.type120,Tryz.underlying120,rfl,by simp only [List.mapM_cons,List.mapM_nil,info_of Tryz.type2,info_of Tryz.type5,info_of Tryz.type9];rfl,rfl⟩
instance:Fld Tryz.prog 120 0 0:=⟨_,_,_,Tryz.underlying120,rfl,rfl,info_of Tryz.type5,by decide⟩
instance:Fld Tryz.prog 120 1 1:=⟨_,_,_,Tryz.underlying120,rfl,rfl,info_of Tryz.type2,by decide⟩
instance:Fld Tryz.prog 120 2 2:=⟨_,_,_,Tryz.underlying120,rfl,rfl,info_of Tryz.type9,by decide⟩
instance:Size Tryz.prog 122 5:=⟨_,info_of Tryz.type122,rfl⟩
instance:Agg Tryz.prog 122 5:=⟨_,_,Tryz.underlying122,rfl,info_of Tryz.type122,rfl⟩
instance:ZeroC Tryz.prog 122 ([Value.bool false,Value.int IntKind.u8 0,Value.int IntKind.i64 0,Value.string { data:= #[] },Value.slice none 0 0]):=⟨_,_,info_of Tryz.type122,rfl,rfl⟩
instance:Struct Tryz.prog 122 [(0,1),(1,3),(4,1)] ([Value.bool false,Value.int IntKind.u8 0,Value.int IntKind.i64 0,Value.string { data:= #[] },Value.slice none 0 0]):=⟨_,_,_,info_of Tryz.type122,Tryz.underlying122,rfl,by simp only [List.mapM_cons,List.mapM_nil,info_of Tryz.type120,info_of Tryz.type4,info_of Tryz.type54];rfl,rfl⟩
instance:Fld Tryz.prog 122 0 0:=⟨_,_,_,Tryz.underlying122,rfl,rfl,info_of Tryz.type4,by decide⟩
instance:Fld Tryz.prog 122 2 4:=⟨_,_,_,Tryz.underlying122,rfl,rfl,info_of Tryz.type54,by decide⟩
instance:Und Tryz.prog 127 (TypeDesc.slice 132):=⟨Tryz.underlying127⟩
instance:Size Tryz.prog 127 1:=⟨_,info_of Tryz.type127,rfl⟩
instance:One Tryz.prog 127:=⟨_,Tryz.underlying127,rfl⟩
instance:Struct Tryz.prog 129 [(0,1)] ([Value.slice none 0 0]):=⟨_,_,_,info_of Tryz.type129,Tryz.underlying129,rfl,by simp only [List.mapM_cons,List.mapM_nil,info_of Tryz.type127];rfl,rfl⟩
instance:Fld Tryz.prog 129 0 0:=⟨_,_,_,Tryz.underlying129,rfl,rfl,info_of Tryz.type127,by decide⟩
instance:Size Tryz.prog 132 4:=⟨_,info_of Tryz.type132,rfl⟩
instance:Agg Tryz.prog 132 4:=⟨_,_,Tryz.underlying132,rfl,info_of Tryz.type132,rfl⟩
instance:Elem Tryz.prog 132 4 64:=⟨_,_,info_of Tryz.type132,rfl,rfl,rfl,rfl,by decide⟩
instance:Struct Tryz.prog 132 [(0,2),(2,1),(3,1)] ([Value.int IntKind.i64 0,Value.int IntKind.i64 0,Value.slice none 0 0,Value.slice none 0 0]):=⟨_,_,_,info_of Tryz.type132,Tryz.underlying132,rfl,by simp only [List.mapM_cons,List.mapM_nil,info_of Tryz.type38,info_of Tryz.type40,info_of Tryz.type54];rfl,rfl⟩
instance:Fld Tryz.prog 132 0 0:=⟨_,_,_,Tryz.underlying132,rfl,rfl,info_of Tryz.type38,by decide⟩
instance:Size Tryz.prog 136 11:=⟨_,info_of Tryz.type136,rfl⟩
instance:Agg Tryz.prog 136 11:=⟨_,_,Tryz.underlying136,rfl,info_of Tryz.type136,rfl⟩
instance:ZeroC Tryz.prog 136 ([Value.int IntKind.u8 0,Value.int IntKind.u8 0,Value.int IntKind.i64 0,Value.string { data:= #[] },Value.int IntKind.i64 0,Value.int IntKind.i64 0,Value.int IntKind.i64 0,Value.int IntKind.i64 0,Value.int IntKind.i64 0,Value.int IntKind.u8 0,Value.int IntKind.i64 0]):=⟨_,_,info_of Tryz.type136,rfl,rfl⟩
instance:Elem Tryz.prog 136 11 96:=⟨_,_,info_of Tryz.type136,rfl,rfl,rfl,rfl,by decide⟩
instance:Struct Tryz.prog 136 [(0,1),(1,3),(4,4),(8,1),(9,1),(10,1)] ([Value.int IntKind.u8 0,Value.int IntKind.u8 0,Value.int IntKind.i64 0,Value.string { data:= #[] },Value.int IntKind.i64 0,Value.int IntKind.i64 0,Value.int IntKind.i64 0,Value.int IntKind.i64 0,Value.int IntKind.i64 0,Value.int IntKind.u8 0,Value.int IntKind.i64 0]):=⟨_,_,_,info_of Tryz.type136,Tryz.underlying136,rfl,by simp only [List.mapM_cons,List.mapM_nil,info_of Tryz.type120,info_of Tryz.type2,info_of Tryz.type24,info_of Tryz.type3,info_of Tryz.type5];rfl,rfl⟩
instance:Fld Tryz.prog 136 0 0:=⟨_,_,_,Tryz.underlying136,rfl,rfl,info_of Tryz.type5,by decide⟩
instance:Fld Tryz.prog 136 1 1:=⟨_,_,_,Tryz.underlying136,rfl,rfl,info_of Tryz.type120,by decide⟩
instance:Fld Tryz.prog 136 2 4:=⟨_,_,_,Tryz.underlying136,rfl,rfl,info_of Tryz.type24,by decide⟩
instance:Fld Tryz.prog 136 3 8:=⟨_,_,_,Tryz.underlying136,rfl,rfl,info_of Tryz.type2,by decide⟩
instance:Fld Tryz.prog 136 4 9:=⟨_,_,_,Tryz.underlying136,rfl,rfl,info_of Tryz.type5,by decide⟩
instance:Fld Tryz.prog 136 5 10:=⟨_,_,_,Tryz.underlying136,rfl,rfl,info_of Tryz.type3,by decide⟩
instance:Size Tryz.prog 142 3:=⟨_,info_of Tryz.type142,rfl⟩
instance:Agg Tryz.prog 142 3:=⟨_,_,Tryz.underlying142,rfl,info_of Tryz.type142,rfl⟩
instance:ZeroC Tryz.prog 142 ([Value.int IntKind.i64 0,Value.int IntKind.i64 0,Value.string { data:= #[] }]):=⟨_,_,info_of Tryz.type142,rfl,rfl⟩
instance:Elem Tryz.prog 142 3 32:=⟨_,_,info_of Tryz.type142,rfl,rfl,rfl,rfl,by decide⟩
instance:Struct Tryz.prog 142 [(0,2),(2,1)] ([Value.int IntKind.i64 0,Value.int IntKind.i64 0,Value.string { data:= #[] }]):=⟨_,_,_,info_of Tryz.type142,Tryz.underlying142,rfl,by simp only [List.mapM_cons,List.mapM_nil,info_of Tryz.type38,info_of Tryz.type9];rfl,rfl⟩
instance:Fld Tryz.prog 142 0 0:=⟨_,_,_,Tryz.underlying142,rfl,rfl,info_of Tryz.type38,by decide⟩
instance:Fld Tryz.prog 142 1 2:=⟨_,_,_,Tryz.underlying142,rfl,rfl,info_of Tryz.type9,by decide⟩
instance:Und Tryz.prog 145 (TypeDesc.map 38 4):=⟨Tryz.underlying145⟩
instance:Size Tryz.prog 145 1:=⟨_,info_of Tryz.type145,rfl⟩
instance:One Tryz.prog 145:=⟨_,Tryz.underlying145,rfl⟩
instance:ZeroC Tryz.prog 145 ([Value.map none]):=⟨_,_,info_of Tryz.type145,rfl,rfl⟩
instance:Und Tryz.prog 153 (TypeDesc.map 38 3):=⟨Tryz.underlying153⟩
instance:Und Tryz.prog 156 (TypeDesc.slice 3):=⟨Tryz.underlying156⟩
instance:Und Tryz.prog 198 (TypeDesc.int IntKind.u64):=⟨Tryz.underlying198⟩
instance:One Tryz.prog 198:=⟨_,Tryz.underlying198,rfl⟩
instance:Size Tryz.prog 200 1:=⟨_,info_of Tryz.type200,rfl⟩
instance:One Tryz.prog 200:=⟨_,Tryz.underlying200,rfl⟩
instance:Elem Tryz.prog 200 1 8:=⟨_,_,info_of Tryz.type200,rfl,rfl,rfl,rfl,by decide⟩
instance:Und Tryz.prog 205 (TypeDesc.slice 200):=⟨Tryz.underlying205⟩
instance:Und Tryz.prog 207 (TypeDesc.slice 216):=⟨Tryz.underlying207⟩
instance:Size Tryz.prog 207 1:=⟨_,info_of Tryz.type207,rfl⟩
instance:One Tryz.prog 207:=⟨_,Tryz.underlying207,rfl⟩
instance:Und Tryz.prog 211 (TypeDesc.struct #[{ name:= "at",type:=3,offset:=0,embedded:=false,tag:= "",pkgPath:= "louvre/parse",byteOffset:=0 },{ name:= "e",type:=52,offset:=1,embedded:=false,tag:= "",pkgPath:= "louvre/parse",byteOffset:=8 }]):=⟨Tryz.underlying211⟩
instance:Size Tryz.prog 211 2:=⟨_,info_of Tryz.type211,rfl⟩
instance:ZeroC Tryz.prog 211 ([Value.int IntKind.i64 0,Value.int IntKind.i64 0]):=⟨_,_,info_of Tryz.type211,rfl,rfl⟩
instance:Struct Tryz.prog 211 [(0,1),(1,1)] ([Value.int IntKind.i64 0,Value.int IntKind.i64 0]):=⟨_,_,_,info_of Tryz.type211,Tryz.underlying211,rfl,by simp only [List.mapM_cons,List.mapM_nil,info_of Tryz.type3,info_of Tryz.type52];rfl,rfl⟩
instance:Fld Tryz.prog 211 0 0:=⟨_,_,_,Tryz.underlying211,rfl,rfl,info_of Tryz.type3,by decide⟩
instance:Fld Tryz.prog 211 1 1:=⟨_,_,_,Tryz.underlying211,rfl,rfl,info_of Tryz.type52,by decide⟩
instance:One Tryz.prog 212:=⟨_,Tryz.underlying212,rfl⟩
instance:Struct Tryz.prog 214 [(0,1),(1,1),(2,1)] ([Value.slice none 0 0,Value.int IntKind.i64 0,Value.slice none 0 0]):=⟨_,_,_,info_of Tryz.type214,Tryz.underlying214,rfl,by simp only [List.mapM_cons,List.mapM_nil,info_of Tryz.type207,info_of Tryz.type3,info_of Tryz.type54];rfl,rfl⟩
instance:Fld Tryz.prog 214 0 0:=⟨_,_,_,Tryz.underlying214,rfl,rfl,info_of Tryz.type207,by decide⟩
instance:Fld Tryz.prog 214 1 1:=⟨_,_,_,Tryz.underlying214,rfl,rfl,info_of Tryz.type3,by decide⟩
instance:Fld Tryz.prog 214 2 2:=⟨_,_,_,Tryz.underlying214,rfl,rfl,info_of Tryz.type54,by decide⟩
instance:Size Tryz.prog 216 8:=⟨_,info_of Tryz.type216,rfl⟩
instance:Agg Tryz.prog 216 8:=⟨_,_,Tryz.underlying216,rfl,info_of Tryz.type216,rfl⟩
instance:ZeroC Tryz.prog 216 ([Value.int IntKind.u8 0,Value.int IntKind.i64 0,Value.string { data:= #[] },Value.int IntKind.i64 0,Value.int IntKind.i64 0,Value.int IntKind.i64 0,Value.int IntKind.i64 0,Value.int IntKind.i64 0]):=⟨_,_,info_of Tryz.type216,rfl,rfl⟩
instance:Elem Tryz.prog 216 8 72:=⟨_,_,info_of Tryz.type216,rfl,rfl,rfl,rfl,by decide⟩
instance:Struct Tryz.prog 216 [(0,1),(1,1),(2,1),(3,4),(7,1)] ([Value.int IntKind.u8 0,Value.int IntKind.i64 0,Value.string { data:= #[] },Value.int IntKind.i64 0,Value.int IntKind.i64 0,Value.int IntKind.i64 0,Value.int IntKind.i64 0,Value.int IntKind.i64 0]):=⟨_,_,_,info_of Tryz.type216,Tryz.underlying216,rfl,by simp only [List.mapM_cons,List.mapM_nil,info_of Tryz.type2,info_of Tryz.type24,info_of Tryz.type3,info_of Tryz.type5,info_of Tryz.type9];rfl,rfl⟩
instance:Fld Tryz.prog 216 0 0:=⟨_,_,_,Tryz.underlying216,rfl,rfl,info_of Tryz.type5,by decide⟩
instance:Fld Tryz.prog 216 1 1:=⟨_,_,_,Tryz.underlying216,rfl,rfl,info_of Tryz.type2,by decide⟩
instance:Fld Tryz.prog 216 2 2:=⟨_,_,_,Tryz.underlying216,rfl,rfl,info_of Tryz.type9,by decide⟩
instance:Fld Tryz.prog 216 3 3:=⟨_,_,_,Tryz.underlying216,rfl,rfl,info_of Tryz.type24,by decide⟩
instance:Fld Tryz.prog 216 4 7:=⟨_,_,_,Tryz.underlying216,rfl,rfl,info_of Tryz.type3,by decide⟩
instance:Struct Tryz.prog 226 [(0,1),(1,1),(2,1),(3,1),(4,1),(5,1)] ([Value.string { data:= #[] },Value.slice none 0 0,Value.int IntKind.i64 0,Value.slice none 0 0,Value.int IntKind.i64 0,Value.int IntKind.i64 0]):=⟨_,_,_,info_of Tryz.type226,Tryz.underlying226,rfl,by simp only [List.mapM_cons,List.mapM_nil,info_of Tryz.type207,info_of Tryz.type3,info_of Tryz.type52,info_of Tryz.type54,info_of Tryz.type9];rfl,rfl⟩
instance:Fld Tryz.prog 226 0 0:=⟨_,_,_,Tryz.underlying226,rfl,rfl,info_of Tryz.type9,by decide⟩
instance:Fld Tryz.prog 226 1 1:=⟨_,_,_,Tryz.underlying226,rfl,rfl,info_of Tryz.type207,by decide⟩
instance:Fld Tryz.prog 226 2 2:=⟨_,_,_,Tryz.underlying226,rfl,rfl,info_of Tryz.type3,by decide⟩
instance:Fld Tryz.prog 226 3 3:=⟨_,_,_,Tryz.underlying226,rfl,rfl,info_of Tryz.type54,by decide⟩
instance:Fld Tryz.prog 226 4 4:=⟨_,_,_,Tryz.underlying226,rfl,rfl,info_of Tryz.type3,by decide⟩
instance:Fld Tryz.prog 226 5 5:=⟨_,_,_,Tryz.underlying226,rfl,rfl,info_of Tryz.type52,by decide⟩
instance:Und Tryz.prog 242 (TypeDesc.slice 5):=⟨Tryz.underlying242⟩
instance:Agg Tryz.prog 248 3:=⟨_,_,Tryz.underlying248,rfl,info_of Tryz.type248,rfl⟩
instance:Fld Tryz.prog 248 2 2:=⟨_,_,_,Tryz.underlying248,rfl,rfl,info_of Tryz.type9,by decide⟩
instance:Und Tryz.prog 249 (TypeDesc.map 5 250):=⟨Tryz.underlying249⟩
instance:Zero Tryz.prog 250 (Value.nilFunc):=⟨_,info_of Tryz.type250,rfl⟩
instance:Und Tryz.prog 252 (TypeDesc.array 8 9):=⟨Tryz.underlying252⟩
instance:Agg Tryz.prog 252 8:=⟨_,_,Tryz.underlying252,rfl,info_of Tryz.type252,rfl⟩
instance:Struct Tryz.prog 258 [(0,1)] ([Value.string { data:= #[] }]):=⟨_,_,_,info_of Tryz.type258,Tryz.underlying258,rfl,by simp only [List.mapM_cons,List.mapM_nil,info_of Tryz.type9];rfl,rfl⟩
instance:Fld Tryz.prog 258 0 0:=⟨_,_,_,Tryz.underlying258,rfl,rfl,info_of Tryz.type9,by decide⟩
instance:Size Tryz.prog 259 1:=⟨_,info_of Tryz.type259,rfl⟩
instance:One Tryz.prog 259:=⟨_,Tryz.underlying259,rfl⟩
instance:Und Tryz.prog 260 (TypeDesc.array 5 259):=⟨Tryz.underlying260⟩
instance:Size Tryz.prog 260 5:=⟨_,info_of Tryz.type260,rfl⟩
instance:Agg Tryz.prog 260 5:=⟨_,_,Tryz.underlying260,rfl,info_of Tryz.type260,rfl⟩
instance:ZeroC Tryz.prog 260 ([Value.nilFunc,Value.nilFunc,Value.nilFunc,Value.nilFunc,Value.nilFunc]):=⟨_,_,info_of Tryz.type260,rfl,rfl⟩
instance:Size Tryz.prog 266 2:=⟨_,info_of Tryz.type266,rfl⟩
instance:Agg Tryz.prog 266 2:=⟨_,_,Tryz.underlying266,rfl,info_of Tryz.type266,rfl⟩
instance:ZeroC Tryz.prog 266 ([Value.int IntKind.u64 0,Value.int IntKind.u64 0]):=⟨_,_,info_of Tryz.type266,rfl,rfl⟩
instance:Struct Tryz.prog 266 [(0,1),(1,1)] ([Value.int IntKind.u64 0,Value.int IntKind.u64 0]):=⟨_,_,_,info_of Tryz.type266,Tryz.underlying266,rfl,by simp only [List.mapM_cons,List.mapM_nil,info_of Tryz.type198];rfl,rfl⟩
instance:Fld Tryz.prog 266 0 0:=⟨_,_,_,Tryz.underlying266,rfl,rfl,info_of Tryz.type198,by decide⟩
instance:Fld Tryz.prog 266 1 1:=⟨_,_,_,Tryz.underlying266,rfl,rfl,info_of Tryz.type198,by decide⟩
instance:Und Tryz.prog 272 (TypeDesc.slice 276):=⟨Tryz.underlying272⟩
instance:Size Tryz.prog 276 2:=⟨_,info_of Tryz.type276,rfl⟩
instance:Elem Tryz.prog 276 2 16:=⟨_,_,info_of Tryz.type276,rfl,rfl,rfl,rfl,by decide⟩
instance:Struct Tryz.prog 276 [(0,1),(1,1)] ([Value.int IntKind.i64 0,Value.int IntKind.i64 0]):=⟨_,_,_,info_of Tryz.type276,Tryz.underlying276,rfl,by simp only [List.mapM_cons,List.mapM_nil,info_of Tryz.type3];rfl,rfl⟩
instance:Fld Tryz.prog 276 0 0:=⟨_,_,_,Tryz.underlying276,rfl,rfl,info_of Tryz.type3,by decide⟩
instance:Fld Tryz.prog 276 1 1:=⟨_,_,_,Tryz.underlying276,rfl,rfl,info_of Tryz.type3,by decide⟩
instance:One Tryz.prog 287:=⟨_,Tryz.underlying287,rfl⟩
instance:Und Tryz.prog 296 (TypeDesc.slice 9):=⟨Tryz.underlying296⟩
instance:Und Tryz.prog 297 (TypeDesc.slice 2):=⟨Tryz.underlying297⟩
instance:Und Tryz.prog 303 (TypeDesc.slice 307):=⟨Tryz.underlying303⟩
instance:Size Tryz.prog 307 3:=⟨_,info_of Tryz.type307,rfl⟩
instance:Agg Tryz.prog 307 3:=⟨_,_,Tryz.underlying307,rfl,info_of Tryz.type307,rfl⟩
instance:ZeroC Tryz.prog 307 ([Value.int IntKind.i64 0,Value.int IntKind.i64 0,Value.bool false]):=⟨_,_,info_of Tryz.type307,rfl,rfl⟩
instance:Elem Tryz.prog 307 3 24:=⟨_,_,info_of Tryz.type307,rfl,rfl,rfl,rfl,by decide⟩
instance:Struct Tryz.prog 307 [(0,1),(1,1),(2,1)] ([Value.int IntKind.i64 0,Value.int IntKind.i64 0,Value.bool false]):=⟨_,_,_,info_of Tryz.type307,Tryz.underlying307,rfl,by simp only [List.mapM_cons,List.mapM_nil,info_of Tryz.type3,info_of Tryz.type4];rfl,rfl⟩
instance:Fld Tryz.prog 307 0 0:=⟨_,_,_,Tryz.underlying307,rfl,rfl,info_of Tryz.type3,by decide⟩
instance:Fld Tryz.prog 307 1 1:=⟨_,_,_,Tryz.underlying307,rfl,rfl,info_of Tryz.type3,by decide⟩
instance:Fld Tryz.prog 307 2 2:=⟨_,_,_,Tryz.underlying307,rfl,rfl,info_of Tryz.type4,by decide⟩
instance:Und Tryz.prog 313 (TypeDesc.array 2 3):=⟨Tryz.underlying313⟩
instance:Size Tryz.prog 315 5:=⟨_,info_of Tryz.type315,rfl⟩
instance:Agg Tryz.prog 315 5:=⟨_,_,Tryz.underlying315,rfl,info_of Tryz.type315,rfl⟩
instance:ZeroC Tryz.prog 315 ([Value.int IntKind.i64 0,Value.int IntKind.i64 0,Value.int IntKind.i64 0,Value.int IntKind.i64 0,Value.bool false]):=⟨_,_,info_of Tryz.type315,rfl,rfl⟩
instance:Struct Tryz.prog 315 [(0,2),(2,2),(4,1)] ([Value.int IntKind.i64 0,Value.int IntKind.i64 0,Value.int IntKind.i64 0,Value.int IntKind.i64 0,Value.bool false]):=⟨_,_,_,info_of Tryz.type315,Tryz.underlying315,rfl,by simp only [List.mapM_cons,List.mapM_nil,info_of Tryz.type313,info_of Tryz.type4];rfl,rfl⟩
instance:Fld Tryz.prog 315 0 0:=⟨_,_,_,Tryz.underlying315,rfl,rfl,info_of Tryz.type313,by decide⟩
instance:Fld Tryz.prog 315 1 2:=⟨_,_,_,Tryz.underlying315,rfl,rfl,info_of Tryz.type313,by decide⟩
instance:Fld Tryz.prog 315 2 4:=⟨_,_,_,Tryz.underlying315,rfl,rfl,info_of Tryz.type4,by decide⟩
instance:Und Tryz.prog 341 (TypeDesc.array 50 9):=⟨Tryz.underlying341⟩
instance:Size Tryz.prog 341 50:=⟨_,info_of Tryz.type341,rfl⟩
instance:Agg Tryz.prog 341 50:=⟨_,_,Tryz.underlying341,rfl,info_of Tryz.type341,rfl⟩
instance:ZeroC Tryz.prog 341 ([Value.string { data:= #[] },Value.string { data:= #[] },Value.string { data:= #[] },Value.string { data:= #[] },Value.string { data:= #[] },Value.string { data:= #[] },Value.string { data:= #[] },Value.string { data:= #[] },Value.string { data:= #[] },Value.string { data:= #[] },Value.string { data:= #[] },Value.string { data:= #[] },Value.string { data:= #[] },Value.string { data:= #[] },Value.string { data:= #[] },Value.string { data:= #[] },Value.string { data:= #[] },Value.string { data:= #[] },Value.string { data:= #[] },Value.string { data:= #[] },Value.string { data:= #[] },Value.string { data:= #[] },Value.string { data:= #[] },Value.string { data:= #[] },Value.string { data:= #[] },Value.string { data:= #[] },Value.string { data:= #[] },Value.string { data:= #[] },Value.string { data:= #[] },Value.string { data:= #[] },Value.string { data:= #[] },Value.string { data:= #[] },Value.string { data:= #[] },Value.string { data:= #[] },Value.string { data:= #[] },Value.string { data:= #[] },Value.string { data:= #[] },Value.string { data:= #[] },Value.string { data:= #[] },Value.string { data:= #[] },Value.string { data:= #[] },Value.string { data:= #[] },Value.string { data:= #[] },Value.string { data:= #[] },Value.string { data:= #[] },Value.string { data:= #[] },Value.string { data:= #[] },Value.string { data:= #[] },Value.string { data:= #[] },Value.string { data:= #[] }]):=⟨_,_,info_of Tryz.type341,rfl,rfl⟩
instance:Callable Tryz.prog 14:=⟨fun args w=>Tryz.call14 args w⟩
instance:Callable Tryz.prog 15:=⟨fun args w=>Tryz.call15 args w⟩
instance:Callable Tryz.prog 16:=⟨fun args w=>Tryz.call16 args w⟩
instance:Callable Tryz.prog 17:=⟨fun args w=>Tryz.call17 args w⟩
instance:Callable Tryz.prog 19:=⟨fun args w=>Tryz.call19 args w⟩
instance:Callable Tryz.prog 21:=⟨fun args w=>Tryz.call21 args w⟩
instance:Callable Tryz.prog 22:=⟨fun args w=>Tryz.call22 args w⟩
instance:Callable Tryz.prog 27:=⟨fun args w=>Tryz.call27 args w⟩
instance:Callable Tryz.prog 28:=⟨fun args w=>Tryz.call28 args w⟩
instance:Callable Tryz.prog 34:=⟨fun args w=>Tryz.call34 args w⟩
instance:Callable Tryz.prog 38:=⟨fun args w=>Tryz.call38 args w⟩
instance:Callable Tryz.prog 39:=⟨fun args w=>Tryz.call39 args w⟩
instance:Callable Tryz.prog 44:=⟨fun args w=>Tryz.call44 args w⟩
instance:Callable Tryz.prog 46:=⟨fun args w=>Tryz.call46 args w⟩
instance:Callable Tryz.prog 47:=⟨fun args w=>Tryz.call47 args w⟩
instance:Callable Tryz.prog 48:=⟨fun args w=>Tryz.call48 args w⟩
instance:Callable Tryz.prog 49:=⟨fun args w=>Tryz.call49 args w⟩
instance:Callable Tryz.prog 50:=⟨fun args w=>Tryz.call50 args w⟩
instance:Callable Tryz.prog 51:=⟨fun args w=>Tryz.call51 args w⟩
instance:Callable Tryz.prog 52:=⟨fun args w=>Tryz.call52 args w⟩
instance:Callable Tryz.prog 53:=⟨fun args w=>Tryz.call53 args w⟩
instance:Callable Tryz.prog 55:=⟨fun args w=>Tryz.call55 args w⟩
instance:Callable Tryz.prog 56:=⟨fun args w=>Tryz.call56 args w⟩
instance:Callable Tryz.prog 62:=⟨fun args w=>Tryz.call62 args w⟩
instance:Callable Tryz.prog 65:=⟨fun args w=>Tryz.call65 args w⟩
instance:Callable Tryz.prog 66:=⟨fun args w=>Tryz.call66 args w⟩
instance:Callable Tryz.prog 67:=⟨fun args w=>Tryz.call67 args w⟩
instance:Callable Tryz.prog 69:=⟨fun args w=>Tryz.call69 args w⟩
instance:Callable Tryz.prog 70:=⟨fun args w=>Tryz.call70 args w⟩
instance:Callable Tryz.prog 71:=⟨fun args w=>Tryz.call71 args w⟩
instance:Callable Tryz.prog 73:=⟨fun args w=>Tryz.call73 args w⟩
instance:Callable Tryz.prog 74:=⟨fun args w=>Tryz.call74 args w⟩
instance:Callable Tryz.prog 75:=⟨fun args w=>Tryz.call75 args w⟩
instance:Callable Tryz.prog 76:=⟨fun args w=>Tryz.call76 args w⟩
instance:Callable Tryz.prog 77:=⟨fun args w=>Tryz.call77 args w⟩
instance:Callable Tryz.prog 78:=⟨fun args w=>Tryz.call78 args w⟩
instance:Callable Tryz.prog 79:=⟨fun args w=>Tryz.call79 args w⟩
instance:Callable Tryz.prog 82:=⟨fun args w=>Tryz.call82 args w⟩
instance:Callable Tryz.prog 86:=⟨fun args w=>Tryz.call86 args w⟩
instance:Callable Tryz.prog 87:=⟨fun args w=>Tryz.call87 args w⟩
instance:Callable Tryz.prog 88:=⟨fun args w=>Tryz.call88 args w⟩
instance:Callable Tryz.prog 89:=⟨fun args w=>Tryz.call89 args w⟩
instance:Callable Tryz.prog 90:=⟨fun args w=>Tryz.call90 args w⟩
instance:Callable Tryz.prog 91:=⟨fun args w=>Tryz.call91 args w⟩
instance:Callable Tryz.prog 92:=⟨fun args w=>Tryz.call92 args w⟩
instance:Callable Tryz.prog 93:=⟨fun args w=>Tryz.call93 args w⟩
instance:Callable Tryz.prog 97:=⟨fun args w=>Tryz.call97 args w⟩
instance:Callable Tryz.prog 98:=⟨fun args w=>Tryz.call98 args w⟩
instance:Callable Tryz.prog 99:=⟨fun args w=>Tryz.call99 args w⟩
instance:Callable Tryz.prog 100:=⟨fun args w=>Tryz.call100 args w⟩
instance:Callable Tryz.prog 101:=⟨fun args w=>Tryz.call101 args w⟩
instance:Callable Tryz.prog 104:=⟨fun args w=>Tryz.call104 args w⟩
instance:Callable Tryz.prog 109:=⟨fun args w=>Tryz.call109 args w⟩
instance:Callable Tryz.prog 110:=⟨fun args w=>Tryz.call110 args w⟩
instance:Callable Tryz.prog 113:=⟨fun args w=>Tryz.call113 args w⟩
instance:Callable Tryz.prog 114:=⟨fun args w=>Tryz.call114 args w⟩
instance:Callable Tryz.prog 115:=⟨fun args w=>Tryz.call115 args w⟩
instance:Callable Tryz.prog 116:=⟨fun args w=>Tryz.call116 args w⟩
instance:Callable Tryz.prog 117:=⟨fun args w=>Tryz.call117 args w⟩
instance:Callable Tryz.prog 118:=⟨fun args w=>Tryz.call118 args w⟩
instance:Callable Tryz.prog 119:=⟨fun args w=>Tryz.call119 args w⟩
instance:Callable Tryz.prog 120:=⟨fun args w=>Tryz.call120 args w⟩
instance:Callable Tryz.prog 121:=⟨fun args w=>Tryz.call121 args w⟩
instance:Callable Tryz.prog 122:=⟨fun args w=>Tryz.call122 args w⟩
instance:Callable Tryz.prog 123:=⟨fun args w=>Tryz.call123 args w⟩
instance:Callable Tryz.prog 124:=⟨fun args w=>Tryz.call124 args w⟩
instance:Callable Tryz.prog 125:=⟨fun args w=>Tryz.call125 args w⟩
instance:Callable Tryz.prog 126:=⟨fun args w=>Tryz.call126 args w⟩
instance:Callable Tryz.prog 128:=⟨fun args w=>Tryz.call128 args w⟩
instance:Callable Tryz.prog 130:=⟨fun args w=>Tryz.call130 args w⟩
instance:Callable Tryz.prog 133:=⟨fun args w=>Tryz.call133 args w⟩
instance:Callable Tryz.prog 145:=⟨fun args w=>Tryz.call145 args w⟩
instance:Callable Tryz.prog 146:=⟨fun args w=>Tryz.call146 args w⟩
instance:Callable Tryz.prog 147:=⟨fun args w=>Tryz.call147 args w⟩
instance:Callable Tryz.prog 148:=⟨fun args w=>Tryz.call148 args w⟩
instance:Callable Tryz.prog 149:=⟨fun args w=>Tryz.call149 args w⟩
instance:Callable Tryz.prog 150:=⟨fun args w=>Tryz.call150 args w⟩
instance:Callable Tryz.prog 151:=⟨fun args w=>Tryz.call151 args w⟩
instance:Callable Tryz.prog 152:=⟨fun args w=>Tryz.call152 args w⟩
instance:Callable Tryz.prog 153:=⟨fun args w=>Tryz.call153 args w⟩
instance:Callable Tryz.prog 154:=⟨fun args w=>Tryz.call154 args w⟩
instance:Callable Tryz.prog 155:=⟨fun args w=>Tryz.call155 args w⟩
instance:Callable Tryz.prog 156:=⟨fun args w=>Tryz.call156 args w⟩
instance:Callable Tryz.prog 157:=⟨fun args w=>Tryz.call157 args w⟩
instance:Callable Tryz.prog 158:=⟨fun args w=>Tryz.call158 args w⟩
instance:Callable Tryz.prog 159:=⟨fun args w=>Tryz.call159 args w⟩
instance:Callable Tryz.prog 160:=⟨fun args w=>Tryz.call160 args w⟩
instance:Callable Tryz.prog 161:=⟨fun args w=>Tryz.call161 args w⟩
instance:Callable Tryz.prog 162:=⟨fun args w=>Tryz.call162 args w⟩
instance:Callable Tryz.prog 163:=⟨fun args w=>Tryz.call163 args w⟩
instance:Callable Tryz.prog 164:=⟨fun args w=>Tryz.call164 args w⟩
instance:Callable Tryz.prog 165:=⟨fun args w=>Tryz.call165 args w⟩
instance:Callable Tryz.prog 166:=⟨fun args w=>Tryz.call166 args w⟩
instance:Callable Tryz.prog 167:=⟨fun args w=>Tryz.call167 args w⟩
instance:Callable Tryz.prog 168:=⟨fun args w=>Tryz.call168 args w⟩
instance:Callable Tryz.prog 169:=⟨fun args w=>Tryz.call169 args w⟩
instance:Callable Tryz.prog 170:=⟨fun args w=>Tryz.call170 args w⟩
instance:Callable Tryz.prog 171:=⟨fun args w=>Tryz.call171 args w⟩
instance:Callable Tryz.prog 172:=⟨fun args w=>Tryz.call172 args w⟩
instance:Callable Tryz.prog 173:=⟨fun args w=>Tryz.call173 args w⟩
instance:Callable Tryz.prog 174:=⟨fun args w=>Tryz.call174 args w⟩
instance:Callable Tryz.prog 175:=⟨fun args w=>Tryz.call175 args w⟩
instance:Callable Tryz.prog 176:=⟨fun args w=>Tryz.call176 args w⟩
instance:Callable Tryz.prog 177:=⟨fun args w=>Tryz.call177 args w⟩
instance:Callable Tryz.prog 191:=⟨fun args w=>Tryz.call191 args w⟩
instance:Callable Tryz.prog 192:=⟨fun args w=>Tryz.call192 args w⟩
instance:Callable Tryz.prog 193:=⟨fun args w=>Tryz.call193 args w⟩
instance:Callable Tryz.prog 194:=⟨fun args w=>Tryz.call194 args w⟩
instance:Callable Tryz.prog 195:=⟨fun args w=>Tryz.call195 args w⟩
instance:Callable Tryz.prog 196:=⟨fun args w=>Tryz.call196 args w⟩
instance:Callable Tryz.prog 197:=⟨fun args w=>Tryz.call197 args w⟩
instance:Callable Tryz.prog 200:=⟨fun args w=>Tryz.call200 args w⟩
instance:Callable Tryz.prog 201:=⟨fun args w=>Tryz.call201 args w⟩
instance:Callable Tryz.prog 202:=⟨fun args w=>Tryz.call202 args w⟩
instance:Callable Tryz.prog 203:=⟨fun args w=>Tryz.call203 args w⟩
instance:Callable Tryz.prog 204:=⟨fun args w=>Tryz.call204 args w⟩
instance:Callable Tryz.prog 205:=⟨fun args w=>Tryz.call205 args w⟩
instance:Callable Tryz.prog 206:=⟨fun args w=>Tryz.call206 args w⟩
instance:Callable Tryz.prog 207:=⟨fun args w=>Tryz.call207 args w⟩
instance:Callable Tryz.prog 208:=⟨fun args w=>Tryz.call208 args w⟩
instance:Callable Tryz.prog 209:=⟨fun args w=>Tryz.call209 args w⟩
instance:Callable Tryz.prog 210:=⟨fun args w=>Tryz.call210 args w⟩
instance:Callable Tryz.prog 211:=⟨fun args w=>Tryz.call211 args w⟩
instance:Callable Tryz.prog 212:=⟨fun args w=>Tryz.call212 args w⟩
instance:Callable Tryz.prog 213:=⟨fun args w=>Tryz.call213 args w⟩
instance:Callable Tryz.prog 214:=⟨fun args w=>Tryz.call214 args w⟩
instance:Callable Tryz.prog 215:=⟨fun args w=>Tryz.call215 args w⟩
instance:Callable Tryz.prog 216:=⟨fun args w=>Tryz.call216 args w⟩
instance:Callable Tryz.prog 217:=⟨fun args w=>Tryz.call217 args w⟩
instance:Callable Tryz.prog 218:=⟨fun args w=>Tryz.call218 args w⟩
instance:Callable Tryz.prog 219:=⟨fun args w=>Tryz.call219 args w⟩
instance:Callable Tryz.prog 224:=⟨fun args w=>Tryz.call224 args w⟩
instance:Callable Tryz.prog 225:=⟨fun args w=>Tryz.call225 args w⟩
instance:Callable Tryz.prog 226:=⟨fun args w=>Tryz.call226 args w⟩
instance:Callable Tryz.prog 227:=⟨fun args w=>Tryz.call227 args w⟩
instance:Callable Tryz.prog 228:=⟨fun args w=>Tryz.call228 args w⟩
instance:Callable Tryz.prog 229:=⟨fun args w=>Tryz.call229 args w⟩
instance:Callable Tryz.prog 230:=⟨fun args w=>Tryz.call230 args w⟩
instance:Callable Tryz.prog 231:=⟨fun args w=>Tryz.call231 args w⟩
instance:Callable Tryz.prog 232:=⟨fun args w=>Tryz.call232 args w⟩
instance:Callable Tryz.prog 233:=⟨fun args w=>Tryz.call233 args w⟩
instance:Callable Tryz.prog 234:=⟨fun args w=>Tryz.call234 args w⟩
instance:Callable Tryz.prog 235:=⟨fun args w=>Tryz.call235 args w⟩
instance:Callable Tryz.prog 236:=⟨fun args w=>Tryz.call236 args w⟩
instance:Callable Tryz.prog 237:=⟨fun args w=>Tryz.call237 args w⟩
instance:Callable Tryz.prog 238:=⟨fun args w=>Tryz.call238 args w⟩
instance:Callable Tryz.prog 239:=⟨fun args w=>Tryz.call239 args w⟩
instance:Callable Tryz.prog 240:=⟨fun args w=>Tryz.call240 args w⟩
instance:Callable Tryz.prog 241:=⟨fun args w=>Tryz.call241 args w⟩
instance:Callable Tryz.prog 242:=⟨fun args w=>Tryz.call242 args w⟩
instance:Callable Tryz.prog 243:=⟨fun args w=>Tryz.call243 args w⟩
instance:Callable Tryz.prog 244:=⟨fun args w=>Tryz.call244 args w⟩
instance:Callable Tryz.prog 245:=⟨fun args w=>Tryz.call245 args w⟩
instance:Callable Tryz.prog 246:=⟨fun args w=>Tryz.call246 args w⟩
instance:Callable Tryz.prog 247:=⟨fun args w=>Tryz.call247 args w⟩
instance:Callable Tryz.prog 248:=⟨fun args w=>Tryz.call248 args w⟩
instance:Callable Tryz.prog 249:=⟨fun args w=>Tryz.call249 args w⟩
instance:Callable Tryz.prog 250:=⟨fun args w=>Tryz.call250 args w⟩
instance:Callable Tryz.prog 251:=⟨fun args w=>Tryz.call251 args w⟩
instance:Callable Tryz.prog 252:=⟨fun args w=>Tryz.call252 args w⟩
instance:Callable Tryz.prog 253:=⟨fun args w=>Tryz.call253 args w⟩
instance:Callable Tryz.prog 254:=⟨fun args w=>Tryz.call254 args w⟩
instance:Callable Tryz.prog 255:=⟨fun args w=>Tryz.call255 args w⟩
instance:Callable Tryz.prog 257:=⟨fun args w=>Tryz.call257 args w⟩
instance:Callable Tryz.prog 258:=⟨fun args w=>Tryz.call258 args w⟩
instance:Callable Tryz.prog 259:=⟨fun args w=>Tryz.call259 args w⟩
instance:Callable Tryz.prog 260:=⟨fun args w=>Tryz.call260 args w⟩
instance:Callable Tryz.prog 262:=⟨fun args w=>Tryz.call262 args w⟩
instance:Callable Tryz.prog 263:=⟨fun args w=>Tryz.call263 args w⟩
instance:Callable Tryz.prog 264:=⟨fun args w=>Tryz.call264 args w⟩
instance:Callable Tryz.prog 265:=⟨fun args w=>Tryz.call265 args w⟩
instance:Callable Tryz.prog 266:=⟨fun args w=>Tryz.call266 args w⟩
instance:Callable Tryz.prog 267:=⟨fun args w=>Tryz.call267 args w⟩
instance:Callable Tryz.prog 268:=⟨fun args w=>Tryz.call268 args w⟩
instance:Callable Tryz.prog 269:=⟨fun args w=>Tryz.call269 args w⟩
instance:Callable Tryz.prog 270:=⟨fun args w=>Tryz.call270 args w⟩
instance:Callable Tryz.prog 271:=⟨fun args w=>Tryz.call271 args w⟩
instance:Callable Tryz.prog 272:=⟨fun args w=>Tryz.call272 args w⟩
instance:Callable Tryz.prog 273:=⟨fun args w=>Tryz.call273 args w⟩
instance:Callable Tryz.prog 274:=⟨fun args w=>Tryz.call274 args w⟩
instance:Callable Tryz.prog 275:=⟨fun args w=>Tryz.call275 args w⟩
instance:Callable Tryz.prog 276:=⟨fun args w=>Tryz.call276 args w⟩
instance:Callable Tryz.prog 277:=⟨fun args w=>Tryz.call277 args w⟩
instance:Callable Tryz.prog 278:=⟨fun args w=>Tryz.call278 args w⟩
instance:Callable Tryz.prog 282:=⟨fun args w=>Tryz.call282 args w⟩
instance:Callable Tryz.prog 283:=⟨fun args w=>Tryz.call283 args w⟩
instance:Callable Tryz.prog 284:=⟨fun args w=>Tryz.call284 args w⟩
instance:Callable Tryz.prog 285:=⟨fun args w=>Tryz.call285 args w⟩
instance:Callable Tryz.prog 287:=⟨fun args w=>Tryz.call287 args w⟩
instance:Callable Tryz.prog 288:=⟨fun args w=>Tryz.call288 args w⟩
instance:Callable Tryz.prog 289:=⟨fun args w=>Tryz.call289 args w⟩
instance:Callable Tryz.prog 290:=⟨fun args w=>Tryz.call290 args w⟩
instance:Callable Tryz.prog 291:=⟨fun args w=>Tryz.call291 args w⟩
instance:Callable Tryz.prog 293:=⟨fun args w=>Tryz.call293 args w⟩
instance:Callable Tryz.prog 294:=⟨fun args w=>Tryz.call294 args w⟩
instance:Callable Tryz.prog 295:=⟨fun args w=>Tryz.call295 args w⟩
instance:Callable Tryz.prog 296:=⟨fun args w=>Tryz.call296 args w⟩
instance:Callable Tryz.prog 297:=⟨fun args w=>Tryz.call297 args w⟩
instance:Callable Tryz.prog 298:=⟨fun args w=>Tryz.call298 args w⟩
instance:Callable Tryz.prog 301:=⟨fun args w=>Tryz.call301 args w⟩
instance:Callable Tryz.prog 302:=⟨fun args w=>Tryz.call302 args w⟩
instance:Callable Tryz.prog 305:=⟨fun args w=>Tryz.call305 args w⟩
instance:Callable Tryz.prog 306:=⟨fun args w=>Tryz.call306 args w⟩
instance:Callable Tryz.prog 307:=⟨fun args w=>Tryz.call307 args w⟩
instance:Callable Tryz.prog 310:=⟨fun args w=>Tryz.call310 args w⟩
instance:Callable Tryz.prog 311:=⟨fun args w=>Tryz.call311 args w⟩
end Go.SL
namespace Go.SL
open Go Go.RowKit
def reaches (l:List Oper):Nat→Nat→Nat→Bool
 |0,j,k=>Nat.beq j k
 |f+1,j,k=>Nat.beq j k||match l[j]? with
  |none=>false
  |some x=>(waits x).any fun i=>reaches l f i k
theorem reaches_done {l:List Oper} {D:Done} (hc: ∀ i x,l[i]? =some x→D i=true→ ∀ j∈waits x,D j=true): ∀ (f j k:Nat),reaches l f j k=true→D j=true→D k=true
 |0,j,k,h,hj=>by
  have:=Nat.eq_of_beq_eq_true h
  subst this
  exact hj
 |f+1,j,k,h,hj=>by
  simp only [reaches,Bool.or_eq_true] at h
  rcases h with h|h
  ·
   have:=Nat.eq_of_beq_eq_true h
   subst this
   exact hj
  ·
   cases hx:l[j]? with
   |none=>rw [hx] at h;cases h
   |some x=>
    rw [hx] at h
    obtain ⟨i,hi,hr⟩:=List.any_eq_true.1 h
    exact reaches_done hc f i k hr (hc j x hx hj i hi)
section
variable {P:Program} {n:Fr} {w0:World} {Q:Post} {K:Slots→Prop} {s:Slots} {H H1:List Blk} {l rest:List Oper} {k j f:Nat} {ty:TypeId} {p:String} {af:Array Edge}
theorem Turn.late {o:Oper} {D:Done} (ht:Turn l k o D) (h:reaches l f j k=true):D j=false:=by
 cases hD:D j
 ·
  rfl
 ·
  have:=reaches_done ht.closed f j k h hD
  rw [ht.not] at this
  cases this
theorem w_drawL {id:Nat} (j:Nat) (H1:List Blk) (hm:P.follows .mixedOrders=true) (hB:Region.lexB .any l.toArray=true) (hj:Nat.blt j l.length=true)
  (h:WG P n w0 l (fun D=>if D j then H1 else H) (fun s' =>Q .normal s' H1) l 0 s):W P n w0 (.region id l.toArray true) Q s H:=by
 refine w_drawG (fun D=>if D j then H1 else H) hm hB (by simp only [Bool.false_eq_true,if_false];exact .refl _) fun a hs hl=> ?_
 have mono: ∀ (r:List Oper) (k:Nat) (a:Act) (K K' :Act→Prop),(∀ a,K a→K' a)→wpG P .any l.toArray (Cls w0 l fun D=>if D j then H1 else H) K r k a→wpG P .any l.toArray (Cls w0 l fun D=>if D j then H1 else H) K' r k a:=by
  intro r
  induction r with
  |nil=>intro k a K K' hk h;exact hk _ h
  |cons o r ih=>
   rintro k a K K' hk ⟨v,h1,h2⟩
   exact ⟨v,h1,ih _ _ K K' hk h2⟩
 refine mono _ _ _ _ _ ?_ (h a hs hl)
 rintro a' ⟨s',h2,h3⟩
 refine ⟨s',h2,fun D hD=> ?_⟩
 rw [if_pos (hD j (Nat.blt_eq ▸ hj))]
 exact h3
theorem wg_l {op:Op} {d:Nat} {v:Value} (hn:Nat.blt d n.sz=true) (hr:reaches l f j k=true) (hne:Nat.beq j k=false) (hv:VOp P w0 s H op ty v) (h:WG P n w0 l (fun D=>if D j then H1 else H) K rest (k+1) ((d,v)::s)):
  WG P n w0 l (fun D=>if D j then H1 else H) K (⟨some d,op,ty,p,af,none⟩::rest) k s:=by
 refine wg_v hn (fun D ht=> ?_) (fun D=> ?_) h
 ·
  rw [ht.late hr]
  exact hv
 ·
  have:put D k j=D j:=by
   unfold put
   rw [if_neg]
   intro e
   subst e
   rw [Nat.beq_refl] at hne
   cases hne
  simp only [this]
theorem wl_append_addr {d t e n' c m c' sz by_:Nat} {a2:Addr} {A:Option Nat} {x y:Operand} {xs news:List Value} {R:List Blk} {ops:Array Oper} [ht:Und P t (.slice e)] [he:Elem P e sz by_] (hn:Nat.blt d n.sz=true)
  (hx:ev s x=some (sl A n' c)) (hy:ev s y=some (.slice (some a2) m c')) (hsel:Sel (.own A e sz n' c xs) H R)
  (hnews: ∀ w,Mem w0 w H→ ∀ j u,news[j]? =some u→w.cell? (a2.add j)=some u) (hl:news.length=m*sz) (h1: ∀ u∈news,u.oneCell' =true) (hby:(n' +m)*by_≤140737488355328) (h63:n' +m≤maxLen)
  (k: ∀ A' cap',(0<n' +m→ ∃ g,A' =some g)→WL P n w0 ops rest Q ((d,sl A' (n' +m) cap')::s) (.own A' e sz (n' +m) cap' (xs++news)::R)):
  WL P n w0 ops (⟨some d,.call { callee:= .builtin .append,args:= #[x,y],argTypes:= #[t,t] },ty,p,af,none⟩::rest) Q s H:=by
 intro a w hs hm
 have hm' :=hm.sel hsel
 obtain ⟨i,z,i1,i2,i3,i4,i5,i6⟩:=he.out
 have hb:=(hm'.on _ List.mem_cons_self)
 have hown:w.ownsRow w0.heap.size e sz (sl A n' c) n' xs:=by
  obtain ⟨⟨b1,b2,b3,b4⟩,b5⟩:=hb
  refine ⟨b1,?_⟩
  cases A with
  |none=>obtain ⟨rfl,rfl⟩:=b4;exact .inl ⟨rfl,rfl⟩
  |some g=>
   obtain ⟨junk,j1,j2⟩:=b4
   refine .inr ⟨g,c,_,rfl,b5 g rfl,j2,b2,b3,by simpa using j1,?_⟩
   simp only [List.toList_toArray]
   rw [← b1,List.take_left]
 obtain ⟨v',w',hr,h2,h3,h4,h5⟩:=run_append_own_at (P:=P) w w0.heap.size t ty e i z sz by_ ht.out i1 i4 i2 i3 i5 i6 (sl A n' c) n' xs hown a2 m c' news hl
  (hnews w hm) h1 h63 hby hm.below.size
 have hsh: ∃ A' cap',v' =sl A' (n' +m) cap' ∧(Blk.own A' e sz (n' +m) cap' (xs++news)).on w' ∧(0<n' +m→ ∃ g,A' =some g):=by
  obtain ⟨q1,q2⟩:=h2
  rcases q2 with ⟨rfl,q3⟩|⟨g,cap,cur,rfl,_,q4,q5,q6,q7,q8⟩
  ·
   refine ⟨none,0,by rw [q3];rfl,⟨q1,by omega,Nat.zero_le _,q3,rfl⟩,fun h=>by omega⟩
  ·
   refine ⟨some g,cap,rfl,⟨q1,q5,q6,cur.toList.drop ((n' +m)*sz),?_,?_⟩,fun _=>⟨g,rfl⟩⟩
   ·
    rw [← q8,List.take_append_drop];simpa using q7
   ·
    rw [← q8,List.take_append_drop];simpa using q4
 obtain ⟨A',cap',rfl,hon,hsome⟩:=hsh
 refine wpList_plain rfl fun K hK=> ?_
 unfold Oper.wp execOp
 simp only [resolve,invoke,builtin,Sem.run_bind,Sem.run_pure,Result.andThen_ok,List.map_toArray,List.map_cons,List.map_nil,hs.eval x _ hx,hs.eval y _ hy,hr,Oper.upon]
 have hkey: ∀ (B:Option Nat) (q r:Nat),(sl B q r).ownBlock=B:=fun B q r=>by cases B<;>rfl
 rw [hkey] at h3
 refine hK _ _ (k A' cap' hsome _ _ (hs.put (Nat.blt_eq ▸ hn) _) (hm'.upd h3 hon fun j hj=> ?_))
 rw [hkey,hkey] at h5
 simp only [Blk.key] at hj ⊢
 rcases h5 with h5|h5
 ·
  left;rw [← h5];exact hj
 ·
  right;rw [h5] at hj;injection hj with hj;omega
theorem run_append_none (w:World) (t ty e:TypeId) (i:TypeInfo) (ht:P.underlying t=some (.slice e)) (hi:P.info? e=some i) (B:Option Addr) (m c c' :Nat) (h:m≤c):
  (Builtin.append_ #[t,t] ty #[.slice B m c,.slice none 0 c']).run P w= .ok (.slice B m c) w:=by
 cases B<;>simp [Builtin.append_,run_underlying ht,sizeOf,typeInfo,hi,Builtin.lenOf,Builtin.firstCells,h,storeCells]
theorem wl_appendR {d t e n' c m sz by_:Nat} {A:Option Nat} {x y:Operand} {yv:Value} {xs news:List Value} {R:List Blk} {ops:Array Oper} [ht:Und P t (.slice e)] [he:Elem P e sz by_] (hn:Nat.blt d n.sz=true)
  (hx:ev s x=some (sl A n' c)) (hy:ev s y=some yv) (hsel:Sel (.own A e sz n' c xs) H R)
  (hnews: ∀ w,Mem w0 w H→Reads w yv m news) (hl:news.length=m*sz) (h1: ∀ u∈news,u.oneCell' =true) (hby:(n' +m)*by_≤140737488355328) (h63:n' +m≤maxLen)
  (k: ∀ A' cap',(0<m→ ∃ g,A' =some g)→WL P n w0 ops rest Q ((d,sl A' (n' +m) cap')::s) (.own A' e sz (n' +m) cap' (xs++news)::R)):
  WL P n w0 ops (⟨some d,.call { callee:= .builtin .append,args:= #[x,y],argTypes:= #[t,t] },ty,p,af,none⟩::rest) Q s H:=by
 intro a w hs hm
 have hm' :=hm.sel hsel
 have hb:=(hm'.on _ List.mem_cons_self).1
 obtain ⟨B,c',rfl,h2,h3,h4⟩:=hnews w hm
 by_cases h0:m=0
 ·
  subst h0
  have hnil:news= []:=List.eq_nil_of_length_eq_zero (by simpa using hl)
  subst hnil
  cases B with
  |some a2=>exact wl_append_addr hn hx hy hsel (fun w hm j u hu=>by simp at hu) hl h1 hby h63 (fun A' cap' hA=>k A' cap' (fun h=>by omega)) a w hs hm
  |none=>
   obtain ⟨i,z,i1,i2,i3,i4,i5,i6⟩:=he.out
   have hr:=run_append_none (P:=P) w t ty e i ht.out i1 (A.map fun g=>⟨g,0,none⟩) n' c c' hb.2.1
   refine wpList_plain rfl fun K hK=> ?_
   unfold Oper.wp execOp
   simp only [resolve,invoke,builtin,Sem.run_bind,Sem.run_pure,Result.andThen_ok,List.map_toArray,List.map_cons,List.map_nil,hs.eval x _ hx,hs.eval y _ hy,sl,hr,Oper.upon]
   refine hK _ _ (k A c (fun h=>by omega) _ _ (hs.put (Nat.blt_eq ▸ hn) _) ?_)
   simpa using hm'
 ·
  obtain ⟨g,o,rfl,hro⟩:=h4 (by omega)
  exact wl_append hn hx hy hsel (fun w' hm2=>by
   obtain ⟨B,c'',e1,e2,e3,e4⟩:=hnews w' hm2
   obtain ⟨g',o',e5,hro'⟩:=e4 (by omega)
   injection e1 with e1 e1' e1''
   subst e1
   injection e5 with e5
   injection e5 with e5 e6
   subst e5;subst e6
   exact hro'.cells) hl h1 hby h63 (fun A' cap' hA=>k A' cap' (fun h=>hA (by omega))) a w hs hm
end
theorem v_minN {P:Program} {w0:World} {s:Slots} {H:List Blk} {ty:TypeId} {x y:Operand} {a b m:Nat} {ts:Array TypeId} (hx:ev s x=some (.int .i64 (a:Nat))) (hy:ev s y=some (.int .i64 (b:Nat))) (hm:min a b=m):
  VOp P w0 s H (.call { callee:= .builtin .min,args:= #[x,y],argTypes:=ts }) ty (.int .i64 (m:Nat)):=by
 have h:(if ((b:Nat):Int)<((a:Nat):Int) then ((b:Nat):Int) else ((a:Nat):Int))=((m:Nat):Int):=by
  split<;>omega
 rw [← h]
 exact v_min hx hy
theorem v_cut_str {P:Program} {w0:World} {s:Slots} {H:List Blk} {ty t hi:Nat} {a:ByteArray} {x q:Operand} {k:IntKind} [ht:Und P t .string] (hx:ev s x=some (.string a)) (hq:ev s q=some (.int k (hi:Nat))) (h2:hi≤a.size):
  VOp P w0 s H (.slice t x none (some q) none) ty (.string (a.extract 0 hi)):=fun ρ w _ _ _ _ hρ _=>by
 have e2:((hi:Nat):Int)≤((a.size:Nat):Int):=by omega
 simp [execOp,hρ x _ hx,hρ q _ hq,Instr.sliceAt,run_underlying ht.out,Instr.slice,Instr.sliceBounds,Instr.sliceBound,asIntOf,h2]
end Go.SL
