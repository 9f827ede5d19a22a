/-
  Lemmas and walks, put together: Ty.
-/
import Derived.Test.YtpoafcnhplbkmaaGreatDoorKt02
set_option linter.unusedSimpArgs false
set_option linter.unusedVariables false
set_option maxRecDepth 20000
namespace Go.SL
open Go Go.Proofs
theorem ah {P:Program} {t:Nat} {i:TypeInfo} (h:P.toTables.types[t]? =some i):P.info? t=some i:=by
 have hl:=(IW.1 h).1;simp only [Tables.info?,hl,if_true];exact h
instance iN4:Und Tryz.prog 2 (TypeDesc.int IntKind.i64):=⟨Tryz.underlying2⟩
instance iN5:Size Tryz.prog 2 1:=⟨_,ah Tryz.type2,rfl⟩
instance iN6:One Tryz.prog 2:=⟨_,Tryz.underlying2,rfl⟩
instance iN7:Elem Tryz.prog 2 1 8:=⟨_,_,ah Tryz.type2,rfl,rfl,rfl,rfl,by decide⟩
instance iN8:Und Tryz.prog 3 (TypeDesc.int IntKind.i64):=⟨Tryz.underlying3⟩
instance iN9:Size Tryz.prog 3 1:=⟨_,ah Tryz.type3,rfl⟩
instance iN10:One Tryz.prog 3:=⟨_,Tryz.underlying3,rfl⟩
instance iN11:Zero Tryz.prog 3 (Value.int IntKind.i64 0):=⟨_,ah Tryz.type3,rfl⟩
instance iN12:ZeroC Tryz.prog 3 ([Value.int IntKind.i64 0]):=⟨_,_,ah Tryz.type3,rfl,rfl⟩
instance iN13:Elem Tryz.prog 3 1 8:=⟨_,_,ah Tryz.type3,rfl,rfl,rfl,rfl,by decide⟩
instance iN14:Und Tryz.prog 4 (TypeDesc.bool):=⟨Tryz.underlying4⟩
instance iN15:Size Tryz.prog 4 1:=⟨_,ah Tryz.type4,rfl⟩
instance iN16:One Tryz.prog 4:=⟨_,Tryz.underlying4,rfl⟩
instance iN17:ZeroC Tryz.prog 4 ([Value.bool false]):=⟨_,_,ah Tryz.type4,rfl,rfl⟩
instance iN18:Elem Tryz.prog 4 1 1:=⟨_,_,ah Tryz.type4,rfl,rfl,rfl,rfl,by decide⟩
instance iN19:Und Tryz.prog 5 (TypeDesc.int IntKind.u8):=⟨Tryz.underlying5⟩
instance iN20:Size Tryz.prog 5 1:=⟨_,ah Tryz.type5,rfl⟩
instance iN21:One Tryz.prog 5:=⟨_,Tryz.underlying5,rfl⟩
instance iN22:Elem Tryz.prog 5 1 1:=⟨_,_,ah Tryz.type5,rfl,rfl,rfl,rfl,by decide⟩
instance iN23:Und Tryz.prog 9 (TypeDesc.string):=⟨Tryz.underlying9⟩
instance iN24:Size Tryz.prog 9 1:=⟨_,ah Tryz.type9,rfl⟩
instance iN25:One Tryz.prog 9:=⟨_,Tryz.underlying9,rfl⟩
instance iN26:Elem Tryz.prog 9 1 16:=⟨_,_,ah Tryz.type9,rfl,rfl,rfl,rfl,by decide⟩
instance iN27:Und Tryz.prog 20 (TypeDesc.interface #[]):=⟨Tryz.underlying20⟩
instance iN28:Und Tryz.prog 22 (TypeDesc.slice 28):=⟨Tryz.underlying22⟩
instance iN29:One Tryz.prog 22:=⟨_,Tryz.underlying22,rfl⟩
instance iN30:Size Tryz.prog 23 1:=⟨_,ah Tryz.type23,rfl⟩
instance iN31:One Tryz.prog 23:=⟨_,Tryz.underlying23,rfl⟩
instance iN32:ZeroC Tryz.prog 23 ([Value.int IntKind.i64 0]):=⟨_,_,ah Tryz.type23,rfl,rfl⟩
instance iN33:Size Tryz.prog 28 2:=⟨_,ah Tryz.type28,rfl⟩
instance iN34:Agg Tryz.prog 28 2:=⟨_,_,Tryz.underlying28,rfl,ah Tryz.type28,rfl⟩
instance iN35:ZeroC Tryz.prog 28 ([Value.int IntKind.i64 0,Value.int IntKind.i64 0]):=⟨_,_,ah Tryz.type28,rfl,rfl⟩
instance iN36:Elem Tryz.prog 28 2 16:=⟨_,_,ah Tryz.type28,rfl,rfl,rfl,rfl,by decide⟩
instance iN37:Struct Tryz.prog 28 [(0,1),(1,1)] ([Value.int IntKind.i64 0,Value.int IntKind.i64 0]):=⟨_,_,_,ah Tryz.type28,Tryz.underlying28,rfl,by simp only [Jm,Jq,ah Tryz.type3];rfl,rfl⟩
instance iN38:Fld Tryz.prog 28 0 0:=⟨_,_,_,Tryz.underlying28,rfl,rfl,ah Tryz.type3,by decide⟩
instance iN39:Fld Tryz.prog 28 1 1:=⟨_,_,_,Tryz.underlying28,rfl,rfl,ah Tryz.type3,by decide⟩
instance iN40:Und Tryz.prog 30 (TypeDesc.pointer 85):=⟨Tryz.underlying30⟩
instance iN41:Und Tryz.prog 33 (TypeDesc.slice 87):=⟨Tryz.underlying33⟩
instance iN42:Und Tryz.prog 49 (TypeDesc.int IntKind.u64):=⟨Tryz.underlying49⟩
instance iN43:Size Tryz.prog 61 4:=⟨_,ah Tryz.type61,rfl⟩
instance iN44:Agg Tryz.prog 61 4:=⟨_,_,Tryz.underlying61,rfl,ah Tryz.type61,rfl⟩
instance iN45:ZeroC Tryz.prog 61 ([Value.int IntKind.i64 0,Value.int IntKind.i64 0,Value.int IntKind.i64 0,Value.int IntKind.i64 0]):=⟨_,_,ah Tryz.type61,rfl,rfl⟩
instance iN46:Struct Tryz.prog 61 [(0,1),(1,1),(2,1),(3,1)] ([Value.int IntKind.i64 0,Value.int IntKind.i64 0,Value.int IntKind.i64 0,Value.int IntKind.i64 0]):=⟨_,_,_,ah Tryz.type61,Tryz.underlying61,rfl,by simp only [Jm,Jq,ah Tryz.type3];rfl,rfl⟩
instance iN47:Fld Tryz.prog 61 0 0:=⟨_,_,_,Tryz.underlying61,rfl,rfl,ah Tryz.type3,by decide⟩
instance iN48:Fld Tryz.prog 61 1 1:=⟨_,_,_,Tryz.underlying61,rfl,rfl,ah Tryz.type3,by decide⟩
instance iN49:Fld Tryz.prog 61 2 2:=⟨_,_,_,Tryz.underlying61,rfl,rfl,ah Tryz.type3,by decide⟩
instance iN50:Fld Tryz.prog 61 3 3:=⟨_,_,_,Tryz.underlying61,rfl,rfl,ah Tryz.type3,by decide⟩
instance iN51:Und Tryz.prog 63 (TypeDesc.map 28 3):=⟨Tryz.underlying63⟩
instance iN52:Size Tryz.prog 63 1:=⟨_,ah Tryz.type63,rfl⟩
instance iN53:One Tryz.prog 63:=⟨_,Tryz.underlying63,rfl⟩
instance iN54:Und Tryz.prog 64 (TypeDesc.slice 68):=⟨Tryz.underlying64⟩
instance iN55:Size Tryz.prog 64 1:=⟨_,ah Tryz.type64,rfl⟩
instance iN56:One Tryz.prog 64:=⟨_,Tryz.underlying64,rfl⟩
instance iN57:ZeroC Tryz.prog 64 ([Value.slice none 0 0]):=⟨_,_,ah Tryz.type64,rfl,rfl⟩
instance iN58:Size Tryz.prog 66 3:=⟨_,ah Tryz.type66,rfl⟩
instance iN59:Agg Tryz.prog 66 3:=⟨_,_,Tryz.underlying66,rfl,ah Tryz.type66,rfl⟩
instance iN60:ZeroC Tryz.prog 66 ([Value.slice none 0 0,Value.map none,Value.slice none 0 0]):=⟨_,_,ah Tryz.type66,rfl,rfl⟩
instance iN61:Struct Tryz.prog 66 [(0,1),(1,1),(2,1)] ([Value.slice none 0 0,Value.map none,Value.slice none 0 0]):=⟨_,_,_,ah Tryz.type66,Tryz.underlying66,rfl,by simp only [Jm,Jq,ah Tryz.type22,ah Tryz.type63,ah Tryz.type64];rfl,rfl⟩
instance iN62:Fld Tryz.prog 66 0 0:=⟨_,_,_,Tryz.underlying66,rfl,rfl,ah Tryz.type22,by decide⟩
instance iN63:Fld Tryz.prog 66 1 1:=⟨_,_,_,Tryz.underlying66,rfl,rfl,ah Tryz.type63,by decide⟩
instance iN64:Fld Tryz.prog 66 2 2:=⟨_,_,_,Tryz.underlying66,rfl,rfl,ah Tryz.type64,by decide⟩
instance iN65:Und Tryz.prog 68 (TypeDesc.slice 3):=⟨Tryz.underlying68⟩
instance iN66:Size Tryz.prog 68 1:=⟨_,ah Tryz.type68,rfl⟩
instance iN67:One Tryz.prog 68:=⟨_,Tryz.underlying68,rfl⟩
instance iN68:ZeroC Tryz.prog 68 ([Value.slice none 0 0]):=⟨_,_,ah Tryz.type68,rfl,rfl⟩
instance iN69:Elem Tryz.prog 68 1 24:=⟨_,_,ah Tryz.type68,rfl,rfl,rfl,rfl,by decide⟩
instance iN70:Und Tryz.prog 72 (TypeDesc.slice 4):=⟨Tryz.underlying72⟩
instance iN71:Size Tryz.prog 72 1:=⟨_,ah Tryz.type72,rfl⟩
instance iN72:One Tryz.prog 72:=⟨_,Tryz.underlying72,rfl⟩
instance iN73:ZeroC Tryz.prog 72 ([Value.slice none 0 0]):=⟨_,_,ah Tryz.type72,rfl,rfl⟩
instance iN74:Und Tryz.prog 74 (TypeDesc.map 3 3):=⟨Tryz.underlying74⟩
instance iN75:Und Tryz.prog 83 (TypeDesc.map 28 100):=⟨Tryz.underlying83⟩
instance iN76:One Tryz.prog 83:=⟨_,Tryz.underlying83,rfl⟩
instance iN77:Struct Tryz.prog 85 [(0,1)] ([Value.map none]):=⟨_,_,_,ah Tryz.type85,Tryz.underlying85,rfl,by simp only [Jm,Jq,ah Tryz.type83];rfl,rfl⟩
instance iN78:Fld Tryz.prog 85 0 0:=⟨_,_,_,Tryz.underlying85,rfl,rfl,ah Tryz.type83,by decide⟩
instance iN79:Size Tryz.prog 87 3:=⟨_,ah Tryz.type87,rfl⟩
instance iN80:Agg Tryz.prog 87 3:=⟨_,_,Tryz.underlying87,rfl,ah Tryz.type87,rfl⟩
instance iN81:ZeroC Tryz.prog 87 ([Value.int IntKind.i64 0,Value.int IntKind.i64 0,Value.string { data:= #[] }]):=⟨_,_,ah Tryz.type87,rfl,rfl⟩
instance iN82:Elem Tryz.prog 87 3 32:=⟨_,_,ah Tryz.type87,rfl,rfl,rfl,rfl,by decide⟩
instance iN83:Struct Tryz.prog 87 [(0,2),(2,1)] ([Value.int IntKind.i64 0,Value.int IntKind.i64 0,Value.string { data:= #[] }]):=⟨_,_,_,ah Tryz.type87,Tryz.underlying87,rfl,by simp only [Jm,Jq,ah Tryz.type28,ah Tryz.type9];rfl,rfl⟩
instance iN84:Fld Tryz.prog 87 0 0:=⟨_,_,_,Tryz.underlying87,rfl,rfl,ah Tryz.type28,by decide⟩
instance iN85:Fld Tryz.prog 87 1 2:=⟨_,_,_,Tryz.underlying87,rfl,rfl,ah Tryz.type9,by decide⟩
instance iN86:Size Tryz.prog 90 3:=⟨_,ah Tryz.type90,rfl⟩
instance iN87:Agg Tryz.prog 90 3:=⟨_,_,Tryz.underlying90,rfl,ah Tryz.type90,rfl⟩
instance iN88:ZeroC Tryz.prog 90 ([Value.int IntKind.u8 0,Value.int IntKind.i64 0,Value.string { data:= #[] }]):=⟨_,_,ah Tryz.type90,rfl,rfl⟩
instance iN89:Struct Tryz.prog 90 [(0,1),(1,1),(2,1)] ([Value.int IntKind.u8 0,Value.int IntKind.i64 0,Value.string { data:= #[] }]):=⟨_,_,_,ah Tryz.type90,Tryz.underlying90,rfl,by simp only [Jm,Jq,ah Tryz.type2,ah Tryz.type5,ah Tryz.type9];rfl,rfl⟩
instance iN90:Fld Tryz.prog 90 0 0:=⟨_,_,_,Tryz.underlying90,rfl,rfl,ah Tryz.type5,by decide⟩
instance iN91:Fld Tryz.prog 90 1 1:=⟨_,_,_,Tryz.underlying90,rfl,rfl,ah Tryz.type2,by decide⟩
instance iN92:Fld Tryz.prog 90 2 2:=⟨_,_,_,Tryz.underlying90,rfl,rfl,ah Tryz.type9,by decide⟩
instance iN93:Und Tryz.prog 91 (TypeDesc.slice 123):=⟨Tryz.underlying91⟩
instance iN94:Size Tryz.prog 91 1:=⟨_,ah Tryz.type91,rfl⟩
instance iN95:One Tryz.prog 91:=⟨_,Tryz.underlying91,rfl⟩
instance iN96:ZeroC Tryz.prog 91 ([Value.slice none 0 0]):=⟨_,_,ah Tryz.type91,rfl,rfl⟩
instance iN97:Size Tryz.prog 93 5:=⟨_,ah Tryz.type93,rfl⟩
instance iN98:Agg Tryz.prog 93 5:=⟨_,_,Tryz.underlying93,rfl,ah Tryz.type93,rfl⟩
instance iN99:ZeroC Tryz.prog 93 ([Value.bool false,Value.int IntKind.u8 0,Value.int IntKind.i64 0,Value.string { data:= #[] },Value.slice none 0 0]):=⟨_,_,ah Tryz.type93,rfl,rfl⟩
instance iN100:Struct Tryz.prog 93 [(0,1),(1,3),(4,1)] ([Value.bool false,Value.int IntKind.u8 0,Value.int IntKind.i64 0,Value.string { data:= #[] },Value.slice none 0 0]):=⟨_,_,_,ah Tryz.type93,Tryz.underlying93,rfl,by simp only [Jm,Jq,ah Tryz.type4,ah Tryz.type90,ah Tryz.type91];rfl,rfl⟩
instance iN101:Fld Tryz.prog 93 0 0:=⟨_,_,_,Tryz.underlying93,rfl,rfl,ah Tryz.type4,by decide⟩
instance iN102:Fld Tryz.prog 93 2 4:=⟨_,_,_,Tryz.underlying93,rfl,rfl,ah Tryz.type91,by decide⟩
instance iN103:Und Tryz.prog 96 (TypeDesc.slice 121):=⟨Tryz.underlying96⟩
instance iN104:Size Tryz.prog 96 1:=⟨_,ah Tryz.type96,rfl⟩
instance iN105:One Tryz.prog 96:=⟨_,Tryz.underlying96,rfl⟩
instance iN106:ZeroC Tryz.prog 96 ([Value.slice none 0 0]):=⟨_,_,ah Tryz.type96,rfl,rfl⟩
instance iN107:Zero Tryz.prog 100 (Value.agg #[Value.slice none 0 0,Value.slice none 0 0]):=⟨_,ah Tryz.type100,rfl⟩
instance iN108:Struct Tryz.prog 100 [(0,1),(1,1)] ([Value.slice none 0 0,Value.slice none 0 0]):=⟨_,_,_,ah Tryz.type100,Tryz.underlying100,rfl,by simp only [Jm,Jq,ah Tryz.type91,ah Tryz.type96];rfl,rfl⟩
instance iN109:Und Tryz.prog 111 (TypeDesc.slice 114):=⟨Tryz.underlying111⟩
instance iN110:Und Tryz.prog 114 (TypeDesc.array 2 28):=⟨Tryz.underlying114⟩
instance iN111:Size Tryz.prog 114 4:=⟨_,ah Tryz.type114,rfl⟩
instance iN112:Agg Tryz.prog 114 4:=⟨_,_,Tryz.underlying114,rfl,ah Tryz.type114,rfl⟩
instance iN113:ZeroC Tryz.prog 114 ([Value.int IntKind.i64 0,Value.int IntKind.i64 0,Value.int IntKind.i64 0,Value.int IntKind.i64 0]):=⟨_,_,ah Tryz.type114,rfl,rfl⟩
instance iN114:Elem Tryz.prog 114 4 32:=⟨_,_,ah Tryz.type114,rfl,rfl,rfl,rfl,by decide⟩
instance iN115:Size Tryz.prog 121 6:=⟨_,ah Tryz.type121,rfl⟩
instance iN116:Agg Tryz.prog 121 6:=⟨_,_,Tryz.underlying121,rfl,ah Tryz.type121,rfl⟩
instance iN117:ZeroC Tryz.prog 121 ([Value.int IntKind.i64 0,Value.int IntKind.i64 0,Value.int IntKind.i64 0,Value.int IntKind.i64 0,Value.int IntKind.i64 0,Value.int IntKind.u8 0]):=⟨_,_,ah Tryz.type121,rfl,rfl⟩
instance iN118:Elem Tryz.prog 121 6 48:=⟨_,_,ah Tryz.type121,rfl,rfl,rfl,rfl,by decide⟩
instance iN119:Struct Tryz.prog 121 [(0,4),(4,1),(5,1)] ([Value.int IntKind.i64 0,Value.int IntKind.i64 0,Value.int IntKind.i64 0,Value.int IntKind.i64 0,Value.int IntKind.i64 0,Value.int IntKind.u8 0]):=⟨_,_,_,ah Tryz.type121,Tryz.underlying121,rfl,by simp only [Jm,Jq,ah Tryz.type3,ah Tryz.type5,ah Tryz.type61];rfl,rfl⟩
instance iN120:Fld Tryz.prog 121 0 0:=⟨_,_,_,Tryz.underlying121,rfl,rfl,ah Tryz.type61,by decide⟩
instance iN121:Fld Tryz.prog 121 1 4:=⟨_,_,_,Tryz.underlying121,rfl,rfl,ah Tryz.type3,by decide⟩
instance iN122:Fld Tryz.prog 121 2 5:=⟨_,_,_,Tryz.underlying121,rfl,rfl,ah Tryz.type5,by decide⟩
instance iN123:Size Tryz.prog 123 11:=⟨_,ah Tryz.type123,rfl⟩
instance iN124:Agg Tryz.prog 123 11:=⟨_,_,Tryz.underlying123,rfl,ah Tryz.type123,rfl⟩
instance iN125:ZeroC Tryz.prog 123 ([Value.int IntKind.u8 0,Value.int IntKind.u8 0,Value.int IntKind.i64 0,Value.string { data:= #[] },Value.int IntKind.i64 0,Value.int IntKind.i64 0,Value.int IntKind.i64 0,Value.int IntKind.i64 0,Value.int IntKind.i64 0,Value.int IntKind.u8 0,Value.int IntKind.i64 0]):=⟨_,_,ah Tryz.type123,rfl,rfl⟩
instance iN126:Elem Tryz.prog 123 11 96:=⟨_,_,ah Tryz.type123,rfl,rfl,rfl,rfl,by decide⟩
instance iN127:Struct Tryz.prog 123 [(0,1),(1,3),(4,4),(8,1),(9,1),(10,1)] ([Value.int IntKind.u8 0,Value.int IntKind.u8 0,Value.int IntKind.i64 0,Value.string { data:= #[] },Value.int IntKind.i64 0,Value.int IntKind.i64 0,Value.int IntKind.i64 0,Value.int IntKind.i64 0,Value.int IntKind.i64 0,Value.int IntKind.u8 0,Value.int IntKind.i64 0]):=⟨_,_,_,ah Tryz.type123,Tryz.underlying123,rfl,by simp only [Jm,Jq,ah Tryz.type2,ah Tryz.type3,ah Tryz.type5,ah Tryz.type61,ah Tryz.type90];rfl,rfl⟩
instance iN128:Fld Tryz.prog 123 0 0:=⟨_,_,_,Tryz.underlying123,rfl,rfl,ah Tryz.type5,by decide⟩
instance iN129:Fld Tryz.prog 123 1 1:=⟨_,_,_,Tryz.underlying123,rfl,rfl,ah Tryz.type90,by decide⟩
instance iN130:Fld Tryz.prog 123 2 4:=⟨_,_,_,Tryz.underlying123,rfl,rfl,ah Tryz.type61,by decide⟩
instance iN131:Fld Tryz.prog 123 3 8:=⟨_,_,_,Tryz.underlying123,rfl,rfl,ah Tryz.type2,by decide⟩
instance iN132:Fld Tryz.prog 123 4 9:=⟨_,_,_,Tryz.underlying123,rfl,rfl,ah Tryz.type5,by decide⟩
instance iN133:Fld Tryz.prog 123 5 10:=⟨_,_,_,Tryz.underlying123,rfl,rfl,ah Tryz.type3,by decide⟩
instance iN134:Und Tryz.prog 146 (TypeDesc.slice 3):=⟨Tryz.underlying146⟩
instance iN135:Und Tryz.prog 147 (TypeDesc.pointer 148):=⟨Tryz.underlying147⟩
instance iN136:Und Tryz.prog 148 (TypeDesc.slice 3):=⟨Tryz.underlying148⟩
instance iN137:Size Tryz.prog 148 1:=⟨_,ah Tryz.type148,rfl⟩
instance iN138:One Tryz.prog 148:=⟨_,Tryz.underlying148,rfl⟩
instance iN139:Size Tryz.prog 189 1:=⟨_,ah Tryz.type189,rfl⟩
instance iN140:One Tryz.prog 189:=⟨_,Tryz.underlying189,rfl⟩
instance iN141:ZeroC Tryz.prog 189 ([Value.nilFunc]):=⟨_,_,ah Tryz.type189,rfl,rfl⟩
instance iN142:Size Tryz.prog 212 1:=⟨_,ah Tryz.type212,rfl⟩
instance iN143:One Tryz.prog 212:=⟨_,Tryz.underlying212,rfl⟩
instance iN144:Elem Tryz.prog 212 1 8:=⟨_,_,ah Tryz.type212,rfl,rfl,rfl,rfl,by decide⟩
instance iN145:Und Tryz.prog 217 (TypeDesc.slice 212):=⟨Tryz.underlying217⟩
instance iN146:Und Tryz.prog 219 (TypeDesc.slice 228):=⟨Tryz.underlying219⟩
instance iN147:Size Tryz.prog 219 1:=⟨_,ah Tryz.type219,rfl⟩
instance iN148:One Tryz.prog 219:=⟨_,Tryz.underlying219,rfl⟩
instance iN149:Und Tryz.prog 223 (TypeDesc.struct #[{ name:= "at",type:=3,offset:=0,embedded:=false,tag:= "",pkgPath:= "louvre/parse",byteOffset:=0 },{ name:= "e",type:=23,offset:=1,embedded:=false,tag:= "",pkgPath:= "louvre/parse",byteOffset:=8 }]):=⟨Tryz.underlying223⟩
instance iN150:Size Tryz.prog 223 2:=⟨_,ah Tryz.type223,rfl⟩
instance iN151:ZeroC Tryz.prog 223 ([Value.int IntKind.i64 0,Value.int IntKind.i64 0]):=⟨_,_,ah Tryz.type223,rfl,rfl⟩
instance iN152:Struct Tryz.prog 223 [(0,1),(1,1)] ([Value.int IntKind.i64 0,Value.int IntKind.i64 0]):=⟨_,_,_,ah Tryz.type223,Tryz.underlying223,rfl,by simp only [Jm,Jq,ah Tryz.type23,ah Tryz.type3];rfl,rfl⟩
instance iN153:Fld Tryz.prog 223 0 0:=⟨_,_,_,Tryz.underlying223,rfl,rfl,ah Tryz.type3,by decide⟩
instance iN154:Fld Tryz.prog 223 1 1:=⟨_,_,_,Tryz.underlying223,rfl,rfl,ah Tryz.type23,by decide⟩
instance iN155:One Tryz.prog 224:=⟨_,Tryz.underlying224,rfl⟩
instance iN156:Struct Tryz.prog 226 [(0,1),(1,1),(2,1)] ([Value.slice none 0 0,Value.int IntKind.i64 0,Value.slice none 0 0]):=⟨_,_,_,ah Tryz.type226,Tryz.underlying226,rfl,by simp only [Jm,Jq,ah Tryz.type219,ah Tryz.type3,ah Tryz.type91];rfl,rfl⟩
instance iN157:Fld Tryz.prog 226 0 0:=⟨_,_,_,Tryz.underlying226,rfl,rfl,ah Tryz.type219,by decide⟩
instance iN158:Fld Tryz.prog 226 1 1:=⟨_,_,_,Tryz.underlying226,rfl,rfl,ah Tryz.type3,by decide⟩
instance iN159:Fld Tryz.prog 226 2 2:=⟨_,_,_,Tryz.underlying226,rfl,rfl,ah Tryz.type91,by decide⟩
instance iN160:Size Tryz.prog 228 8:=⟨_,ah Tryz.type228,rfl⟩
instance iN161:Agg Tryz.prog 228 8:=⟨_,_,Tryz.underlying228,rfl,ah Tryz.type228,rfl⟩
instance iN162:ZeroC Tryz.prog 228 ([Value.int IntKind.u8 0,Value.int IntKind.i64 0,Value.string { data:= #[] },Value.int IntKind.i64 0,Value.int IntKind.i64 0,Value.int IntKind.i64 0,Value.int IntKind.i64 0,Value.int IntKind.i64 0]):=⟨_,_,ah Tryz.type228,rfl,rfl⟩
instance iN163:Elem Tryz.prog 228 8 72:=⟨_,_,ah Tryz.type228,rfl,rfl,rfl,rfl,by decide⟩
instance iN164:Struct Tryz.prog 228 [(0,1),(1,1),(2,1),(3,4),(7,1)] ([Value.int IntKind.u8 0,Value.int IntKind.i64 0,Value.string { data:= #[] },Value.int IntKind.i64 0,Value.int IntKind.i64 0,Value.int IntKind.i64 0,Value.int IntKind.i64 0,Value.int IntKind.i64 0]):=⟨_,_,_,ah Tryz.type228,Tryz.underlying228,rfl,by simp only [Jm,Jq,ah Tryz.type2,ah Tryz.type3,ah Tryz.type5,ah Tryz.type61,ah Tryz.type9];rfl,rfl⟩
instance iN165:Fld Tryz.prog 228 0 0:=⟨_,_,_,Tryz.underlying228,rfl,rfl,ah Tryz.type5,by decide⟩
instance iN166:Fld Tryz.prog 228 1 1:=⟨_,_,_,Tryz.underlying228,rfl,rfl,ah Tryz.type2,by decide⟩
instance iN167:Fld Tryz.prog 228 2 2:=⟨_,_,_,Tryz.underlying228,rfl,rfl,ah Tryz.type9,by decide⟩
instance iN168:Fld Tryz.prog 228 3 3:=⟨_,_,_,Tryz.underlying228,rfl,rfl,ah Tryz.type61,by decide⟩
instance iN169:Fld Tryz.prog 228 4 7:=⟨_,_,_,Tryz.underlying228,rfl,rfl,ah Tryz.type3,by decide⟩
instance iN170:Und Tryz.prog 252 (TypeDesc.slice 5):=⟨Tryz.underlying252⟩
instance iN171:Agg Tryz.prog 258 3:=⟨_,_,Tryz.underlying258,rfl,ah Tryz.type258,rfl⟩
instance iN172:Fld Tryz.prog 258 2 2:=⟨_,_,_,Tryz.underlying258,rfl,rfl,ah Tryz.type9,by decide⟩
instance iN173:Und Tryz.prog 259 (TypeDesc.map 5 260):=⟨Tryz.underlying259⟩
instance iN174:Zero Tryz.prog 260 (Value.nilFunc):=⟨_,ah Tryz.type260,rfl⟩
instance iN175:Und Tryz.prog 263 (TypeDesc.array 8 9):=⟨Tryz.underlying263⟩
instance iN176:Agg Tryz.prog 263 8:=⟨_,_,Tryz.underlying263,rfl,ah Tryz.type263,rfl⟩
instance iN177:Struct Tryz.prog 269 [(0,1)] ([Value.string { data:= #[] }]):=⟨_,_,_,ah Tryz.type269,Tryz.underlying269,rfl,by simp only [Jm,Jq,ah Tryz.type9];rfl,rfl⟩
instance iN178:Fld Tryz.prog 269 0 0:=⟨_,_,_,Tryz.underlying269,rfl,rfl,ah Tryz.type9,by decide⟩
instance iN179:Size Tryz.prog 270 1:=⟨_,ah Tryz.type270,rfl⟩
instance iN180:One Tryz.prog 270:=⟨_,Tryz.underlying270,rfl⟩
instance iN181:Und Tryz.prog 271 (TypeDesc.array 5 270):=⟨Tryz.underlying271⟩
instance iN182:Size Tryz.prog 271 5:=⟨_,ah Tryz.type271,rfl⟩
instance iN183:Agg Tryz.prog 271 5:=⟨_,_,Tryz.underlying271,rfl,ah Tryz.type271,rfl⟩
instance iN184:ZeroC Tryz.prog 271 ([Value.nilFunc,Value.nilFunc,Value.nilFunc,Value.nilFunc,Value.nilFunc]):=⟨_,_,ah Tryz.type271,rfl,rfl⟩
instance iN185:One Tryz.prog 300:=⟨_,Tryz.underlying300,rfl⟩
instance iN186:Und Tryz.prog 309 (TypeDesc.slice 9):=⟨Tryz.underlying309⟩
instance iN187:Und Tryz.prog 310 (TypeDesc.slice 2):=⟨Tryz.underlying310⟩
instance iN188:Und Tryz.prog 316 (TypeDesc.slice 320):=⟨Tryz.underlying316⟩
instance iN189:Size Tryz.prog 320 3:=⟨_,ah Tryz.type320,rfl⟩
instance iN190:Agg Tryz.prog 320 3:=⟨_,_,Tryz.underlying320,rfl,ah Tryz.type320,rfl⟩
instance iN191:ZeroC Tryz.prog 320 ([Value.int IntKind.i64 0,Value.int IntKind.i64 0,Value.bool false]):=⟨_,_,ah Tryz.type320,rfl,rfl⟩
instance iN192:Elem Tryz.prog 320 3 24:=⟨_,_,ah Tryz.type320,rfl,rfl,rfl,rfl,by decide⟩
instance iN193:Struct Tryz.prog 320 [(0,1),(1,1),(2,1)] ([Value.int IntKind.i64 0,Value.int IntKind.i64 0,Value.bool false]):=⟨_,_,_,ah Tryz.type320,Tryz.underlying320,rfl,by simp only [Jm,Jq,ah Tryz.type3,ah Tryz.type4];rfl,rfl⟩
instance iN194:Fld Tryz.prog 320 0 0:=⟨_,_,_,Tryz.underlying320,rfl,rfl,ah Tryz.type3,by decide⟩
instance iN195:Fld Tryz.prog 320 1 1:=⟨_,_,_,Tryz.underlying320,rfl,rfl,ah Tryz.type3,by decide⟩
instance iN196:Fld Tryz.prog 320 2 2:=⟨_,_,_,Tryz.underlying320,rfl,rfl,ah Tryz.type4,by decide⟩
instance iN197:Und Tryz.prog 343 (TypeDesc.array 2 3):=⟨Tryz.underlying343⟩
instance iN198:Size Tryz.prog 345 5:=⟨_,ah Tryz.type345,rfl⟩
instance iN199:Agg Tryz.prog 345 5:=⟨_,_,Tryz.underlying345,rfl,ah Tryz.type345,rfl⟩
instance iN200:ZeroC Tryz.prog 345 ([Value.int IntKind.i64 0,Value.int IntKind.i64 0,Value.int IntKind.i64 0,Value.int IntKind.i64 0,Value.bool false]):=⟨_,_,ah Tryz.type345,rfl,rfl⟩
instance iN201:Struct Tryz.prog 345 [(0,2),(2,2),(4,1)] ([Value.int IntKind.i64 0,Value.int IntKind.i64 0,Value.int IntKind.i64 0,Value.int IntKind.i64 0,Value.bool false]):=⟨_,_,_,ah Tryz.type345,Tryz.underlying345,rfl,by simp only [Jm,Jq,ah Tryz.type343,ah Tryz.type4];rfl,rfl⟩
instance iN202:Fld Tryz.prog 345 0 0:=⟨_,_,_,Tryz.underlying345,rfl,rfl,ah Tryz.type343,by decide⟩
instance iN203:Fld Tryz.prog 345 1 2:=⟨_,_,_,Tryz.underlying345,rfl,rfl,ah Tryz.type343,by decide⟩
instance iN204:Fld Tryz.prog 345 2 4:=⟨_,_,_,Tryz.underlying345,rfl,rfl,ah Tryz.type4,by decide⟩
instance iN205:Und Tryz.prog 375 (TypeDesc.array 50 9):=⟨Tryz.underlying375⟩
instance iN206:Size Tryz.prog 375 50:=⟨_,ah Tryz.type375,rfl⟩
instance iN207:Agg Tryz.prog 375 50:=⟨_,_,Tryz.underlying375,rfl,ah Tryz.type375,rfl⟩
instance iN208:ZeroC Tryz.prog 375 ([Value.string { data:= #[] },Value.string { data:= #[] },Value.string { data:= #[] },Value.string { data:= #[] },Value.string { data:= #[] },Value.string { data:= #[] },Value.string { data:= #[] },Value.string { data:= #[] },Value.string { data:= #[] },Value.string { data:= #[] },Value.string { data:= #[] },Value.string { data:= #[] },Value.string { data:= #[] },Value.string { data:= #[] },Value.string { data:= #[] },Value.string { data:= #[] },Value.string { data:= #[] },Value.string { data:= #[] },Value.string { data:= #[] },Value.string { data:= #[] },Value.string { data:= #[] },Value.string { data:= #[] },Value.string { data:= #[] },Value.string { data:= #[] },Value.string { data:= #[] },Value.string { data:= #[] },Value.string { data:= #[] },Value.string { data:= #[] },Value.string { data:= #[] },Value.string { data:= #[] },Value.string { data:= #[] },Value.string { data:= #[] },Value.string { data:= #[] },Value.string { data:= #[] },Value.string { data:= #[] },Value.string { data:= #[] },Value.string { data:= #[] },Value.string { data:= #[] },Value.string { data:= #[] },Value.string { data:= #[] },Value.string { data:= #[] },Value.string { data:= #[] },Value.string { data:= #[] },Value.string { data:= #[] },Value.string { data:= #[] },Value.string { data:= #[] },Value.string { data:= #[] },Value.string { data:= #[] },Value.string { data:= #[] },Value.string { data:= #[] }]):=⟨_,_,ah Tryz.type375,rfl,rfl⟩
instance iN209:Callable Tryz.prog 8:=⟨fun args w=>Tryz.call8 args w⟩
instance iN210:Callable Tryz.prog 9:=⟨fun args w=>Tryz.call9 args w⟩
instance iN211:Callable Tryz.prog 10:=⟨fun args w=>Tryz.call10 args w⟩
instance iN212:Callable Tryz.prog 11:=⟨fun args w=>Tryz.call11 args w⟩
instance iN213:Callable Tryz.prog 12:=⟨fun args w=>Tryz.call12 args w⟩
instance iN214:Callable Tryz.prog 13:=⟨fun args w=>Tryz.call13 args w⟩
instance iN215:Callable Tryz.prog 14:=⟨fun args w=>Tryz.call14 args w⟩
instance iN216:Callable Tryz.prog 15:=⟨fun args w=>Tryz.call15 args w⟩
instance iN217:Callable Tryz.prog 16:=⟨fun args w=>Tryz.call16 args w⟩
instance iN218:Callable Tryz.prog 17:=⟨fun args w=>Tryz.call17 args w⟩
instance iN219:Callable Tryz.prog 18:=⟨fun args w=>Tryz.call18 args w⟩
instance iN220:Callable Tryz.prog 23:=⟨fun args w=>Tryz.call23 args w⟩
instance iN221:Callable Tryz.prog 29:=⟨fun args w=>Tryz.call29 args w⟩
instance iN222:Callable Tryz.prog 32:=⟨fun args w=>Tryz.call32 args w⟩
instance iN223:Callable Tryz.prog 33:=⟨fun args w=>Tryz.call33 args w⟩
instance iN224:Callable Tryz.prog 34:=⟨fun args w=>Tryz.call34 args w⟩
instance iN225:Callable Tryz.prog 35:=⟨fun args w=>Tryz.call35 args w⟩
instance iN226:Callable Tryz.prog 36:=⟨fun args w=>Tryz.call36 args w⟩
instance iN227:Callable Tryz.prog 37:=⟨fun args w=>Tryz.call37 args w⟩
instance iN228:Callable Tryz.prog 38:=⟨fun args w=>Tryz.call38 args w⟩
instance iN229:Callable Tryz.prog 39:=⟨fun args w=>Tryz.call39 args w⟩
instance iN230:Callable Tryz.prog 40:=⟨fun args w=>Tryz.call40 args w⟩
instance iN231:Callable Tryz.prog 41:=⟨fun args w=>Tryz.call41 args w⟩
instance iN232:Callable Tryz.prog 42:=⟨fun args w=>Tryz.call42 args w⟩
instance iN233:Callable Tryz.prog 43:=⟨fun args w=>Tryz.call43 args w⟩
instance iN234:Callable Tryz.prog 44:=⟨fun args w=>Tryz.call44 args w⟩
instance iN235:Callable Tryz.prog 45:=⟨fun args w=>Tryz.call45 args w⟩
instance iN236:Callable Tryz.prog 46:=⟨fun args w=>Tryz.call46 args w⟩
instance iN237:Callable Tryz.prog 55:=⟨fun args w=>Tryz.call55 args w⟩
instance iN238:Callable Tryz.prog 68:=⟨fun args w=>Tryz.call68 args w⟩
instance iN239:Callable Tryz.prog 74:=⟨fun args w=>Tryz.call74 args w⟩
instance iN240:Callable Tryz.prog 77:=⟨fun args w=>Tryz.call77 args w⟩
instance iN241:Callable Tryz.prog 78:=⟨fun args w=>Tryz.call78 args w⟩
instance iN242:Callable Tryz.prog 79:=⟨fun args w=>Tryz.call79 args w⟩
instance iN243:Callable Tryz.prog 80:=⟨fun args w=>Tryz.call80 args w⟩
instance iN244:Callable Tryz.prog 81:=⟨fun args w=>Tryz.call81 args w⟩
instance iN245:Callable Tryz.prog 82:=⟨fun args w=>Tryz.call82 args w⟩
instance iN246:Callable Tryz.prog 83:=⟨fun args w=>Tryz.call83 args w⟩
instance iN247:Callable Tryz.prog 84:=⟨fun args w=>Tryz.call84 args w⟩
instance iN248:Callable Tryz.prog 87:=⟨fun args w=>Tryz.call87 args w⟩
instance iN249:Callable Tryz.prog 88:=⟨fun args w=>Tryz.call88 args w⟩
instance iN250:Callable Tryz.prog 89:=⟨fun args w=>Tryz.call89 args w⟩
instance iN251:Callable Tryz.prog 90:=⟨fun args w=>Tryz.call90 args w⟩
instance iN252:Callable Tryz.prog 91:=⟨fun args w=>Tryz.call91 args w⟩
instance iN253:Callable Tryz.prog 92:=⟨fun args w=>Tryz.call92 args w⟩
instance iN254:Callable Tryz.prog 93:=⟨fun args w=>Tryz.call93 args w⟩
instance iN255:Callable Tryz.prog 101:=⟨fun args w=>Tryz.call101 args w⟩
instance iN256:Callable Tryz.prog 102:=⟨fun args w=>Tryz.call102 args w⟩
instance iN257:Callable Tryz.prog 115:=⟨fun args w=>Tryz.call115 args w⟩
instance iN258:Callable Tryz.prog 116:=⟨fun args w=>Tryz.call116 args w⟩
instance iN259:Callable Tryz.prog 117:=⟨fun args w=>Tryz.call117 args w⟩
instance iN260:Callable Tryz.prog 118:=⟨fun args w=>Tryz.call118 args w⟩
instance iN261:Callable Tryz.prog 120:=⟨fun args w=>Tryz.call120 args w⟩
instance iN262:Callable Tryz.prog 121:=⟨fun args w=>Tryz.call121 args w⟩
instance iN263:Callable Tryz.prog 133:=⟨fun args w=>Tryz.call133 args w⟩
instance iN264:Callable Tryz.prog 134:=⟨fun args w=>Tryz.call134 args w⟩
instance iN265:Callable Tryz.prog 135:=⟨fun args w=>Tryz.call135 args w⟩
instance iN266:Callable Tryz.prog 136:=⟨fun args w=>Tryz.call136 args w⟩
instance iN267:Callable Tryz.prog 137:=⟨fun args w=>Tryz.call137 args w⟩
instance iN268:Callable Tryz.prog 138:=⟨fun args w=>Tryz.call138 args w⟩
instance iN269:Callable Tryz.prog 139:=⟨fun args w=>Tryz.call139 args w⟩
instance iN270:Callable Tryz.prog 140:=⟨fun args w=>Tryz.call140 args w⟩
instance iN271:Callable Tryz.prog 141:=⟨fun args w=>Tryz.call141 args w⟩
instance iN272:Callable Tryz.prog 142:=⟨fun args w=>Tryz.call142 args w⟩
instance iN273:Callable Tryz.prog 143:=⟨fun args w=>Tryz.call143 args w⟩
instance iN274:Callable Tryz.prog 144:=⟨fun args w=>Tryz.call144 args w⟩
instance iN275:Callable Tryz.prog 145:=⟨fun args w=>Tryz.call145 args w⟩
instance iN276:Callable Tryz.prog 146:=⟨fun args w=>Tryz.call146 args w⟩
instance iN277:Callable Tryz.prog 147:=⟨fun args w=>Tryz.call147 args w⟩
instance iN278:Callable Tryz.prog 148:=⟨fun args w=>Tryz.call148 args w⟩
instance iN279:Callable Tryz.prog 149:=⟨fun args w=>Tryz.call149 args w⟩
instance iN280:Callable Tryz.prog 150:=⟨fun args w=>Tryz.call150 args w⟩
instance iN281:Callable Tryz.prog 151:=⟨fun args w=>Tryz.call151 args w⟩
instance iN282:Callable Tryz.prog 152:=⟨fun args w=>Tryz.call152 args w⟩
instance iN283:Callable Tryz.prog 153:=⟨fun args w=>Tryz.call153 args w⟩
instance iN284:Callable Tryz.prog 160:=⟨fun args w=>Tryz.call160 args w⟩
instance iN285:Callable Tryz.prog 178:=⟨fun args w=>Tryz.call178 args w⟩
instance iN286:Callable Tryz.prog 179:=⟨fun args w=>Tryz.call179 args w⟩
instance iN287:Callable Tryz.prog 180:=⟨fun args w=>Tryz.call180 args w⟩
instance iN288:Callable Tryz.prog 181:=⟨fun args w=>Tryz.call181 args w⟩
instance iN289:Callable Tryz.prog 182:=⟨fun args w=>Tryz.call182 args w⟩
instance iN290:Callable Tryz.prog 183:=⟨fun args w=>Tryz.call183 args w⟩
instance iN291:Callable Tryz.prog 184:=⟨fun args w=>Tryz.call184 args w⟩
instance iN292:Callable Tryz.prog 187:=⟨fun args w=>Tryz.call187 args w⟩
instance iN293:Callable Tryz.prog 188:=⟨fun args w=>Tryz.call188 args w⟩
instance iN294:Callable Tryz.prog 189:=⟨fun args w=>Tryz.call189 args w⟩
instance iN295:Callable Tryz.prog 190:=⟨fun args w=>Tryz.call190 args w⟩
instance iN296:Callable Tryz.prog 191:=⟨fun args w=>Tryz.call191 args w⟩
instance iN297:Callable Tryz.prog 192:=⟨fun args w=>Tryz.call192 args w⟩
instance iN298:Callable Tryz.prog 193:=⟨fun args w=>Tryz.call193 args w⟩
instance iN299:Callable Tryz.prog 194:=⟨fun args w=>Tryz.call194 args w⟩
instance iN300:Callable Tryz.prog 195:=⟨fun args w=>Tryz.call195 args w⟩
instance iN301:Callable Tryz.prog 196:=⟨fun args w=>Tryz.call196 args w⟩
instance iN302:Callable Tryz.prog 197:=⟨fun args w=>Tryz.call197 args w⟩
instance iN303:Callable Tryz.prog 231:=⟨fun args w=>Tryz.call231 args w⟩
instance iN304:Callable Tryz.prog 232:=⟨fun args w=>Tryz.call232 args w⟩
instance iN305:Callable Tryz.prog 233:=⟨fun args w=>Tryz.call233 args w⟩
instance iN306:Callable Tryz.prog 234:=⟨fun args w=>Tryz.call234 args w⟩
instance iN307:Callable Tryz.prog 235:=⟨fun args w=>Tryz.call235 args w⟩
instance iN308:Callable Tryz.prog 236:=⟨fun args w=>Tryz.call236 args w⟩
instance iN309:Callable Tryz.prog 237:=⟨fun args w=>Tryz.call237 args w⟩
instance iN310:Callable Tryz.prog 238:=⟨fun args w=>Tryz.call238 args w⟩
instance iN311:Callable Tryz.prog 239:=⟨fun args w=>Tryz.call239 args w⟩
instance iN312:Callable Tryz.prog 240:=⟨fun args w=>Tryz.call240 args w⟩
instance iN313:Callable Tryz.prog 241:=⟨fun args w=>Tryz.call241 args w⟩
instance iN314:Callable Tryz.prog 242:=⟨fun args w=>Tryz.call242 args w⟩
instance iN315:Callable Tryz.prog 243:=⟨fun args w=>Tryz.call243 args w⟩
instance iN316:Callable Tryz.prog 244:=⟨fun args w=>Tryz.call244 args w⟩
instance iN317:Callable Tryz.prog 245:=⟨fun args w=>Tryz.call245 args w⟩
instance iN318:Callable Tryz.prog 246:=⟨fun args w=>Tryz.call246 args w⟩
instance iN319:Callable Tryz.prog 247:=⟨fun args w=>Tryz.call247 args w⟩
instance iN320:Callable Tryz.prog 248:=⟨fun args w=>Tryz.call248 args w⟩
instance iN321:Callable Tryz.prog 249:=⟨fun args w=>Tryz.call249 args w⟩
instance iN322:Callable Tryz.prog 250:=⟨fun args w=>Tryz.call250 args w⟩
instance iN323:Callable Tryz.prog 251:=⟨fun args w=>Tryz.call251 args w⟩
instance iN324:Callable Tryz.prog 252:=⟨fun args w=>Tryz.call252 args w⟩
instance iN325:Callable Tryz.prog 253:=⟨fun args w=>Tryz.call253 args w⟩
instance iN326:Callable Tryz.prog 272:=⟨fun args w=>Tryz.call272 args w⟩
instance iN327:Callable Tryz.prog 273:=⟨fun args w=>Tryz.call273 args w⟩
instance iN328:Callable Tryz.prog 274:=⟨fun args w=>Tryz.call274 args w⟩
instance iN329:Callable Tryz.prog 275:=⟨fun args w=>Tryz.call275 args w⟩
instance iN330:Callable Tryz.prog 277:=⟨fun args w=>Tryz.call277 args w⟩
instance iN331:Callable Tryz.prog 278:=⟨fun args w=>Tryz.call278 args w⟩
instance iN332:Callable Tryz.prog 279:=⟨fun args w=>Tryz.call279 args w⟩
instance iN333:Callable Tryz.prog 280:=⟨fun args w=>Tryz.call280 args w⟩
instance iN334:Callable Tryz.prog 281:=⟨fun args w=>Tryz.call281 args w⟩
instance iN335:Callable Tryz.prog 293:=⟨fun args w=>Tryz.call293 args w⟩
instance iN336:Callable Tryz.prog 294:=⟨fun args w=>Tryz.call294 args w⟩
instance iN337:Callable Tryz.prog 298:=⟨fun args w=>Tryz.call298 args w⟩
instance iN338:Callable Tryz.prog 299:=⟨fun args w=>Tryz.call299 args w⟩
instance iN339:Callable Tryz.prog 311:=⟨fun args w=>Tryz.call311 args w⟩
instance iN340:Callable Tryz.prog 312:=⟨fun args w=>Tryz.call312 args w⟩
instance iN341:Callable Tryz.prog 313:=⟨fun args w=>Tryz.call313 args w⟩
instance iN342:Callable Tryz.prog 324:=⟨fun args w=>Tryz.call324 args w⟩
instance iN343:Callable Tryz.prog 325:=⟨fun args w=>Tryz.call325 args w⟩
instance iN344:Callable Tryz.prog 333:=⟨fun args w=>Tryz.call333 args w⟩
instance iN345:Callable Tryz.prog 334:=⟨fun args w=>Tryz.call334 args w⟩
end Go.SL
