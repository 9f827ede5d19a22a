/-
  Lemmas and walks, put together: Ty.
-/
import Derived.Test.YtpoafcnhplbkmaaGreatDoorKs02
set_option linter.unusedSimpArgs false
set_option linter.unusedVariables false
set_option maxRecDepth 20000
namespace Go.SL
open Go Go.Proofs
theorem aj {P:Program} {t:Nat} {i:TypeInfo} (h:P.toTables.types[t]? =some i):P.info? t=some i:=by
 have hl:=(RQ.1 h).1;simp only [Tables.info?,hl,if_true];exact h
instance iN5:Und Tryz.prog 2 (TypeDesc.int IntKind.i64):=⟨Tryz.underlying2⟩
instance iN6:Size Tryz.prog 2 1:=⟨_,aj Tryz.type2,rfl⟩
instance iN7:One Tryz.prog 2:=⟨_,Tryz.underlying2,rfl⟩
instance iN8:Elem Tryz.prog 2 1 8:=⟨_,_,aj Tryz.type2,rfl,rfl,rfl,rfl,by decide⟩
instance iN9:Und Tryz.prog 3 (TypeDesc.int IntKind.i64):=⟨Tryz.underlying3⟩
instance iN10:Size Tryz.prog 3 1:=⟨_,aj Tryz.type3,rfl⟩
instance iN11:One Tryz.prog 3:=⟨_,Tryz.underlying3,rfl⟩
instance iN12:Zero Tryz.prog 3 (Value.int IntKind.i64 0):=⟨_,aj Tryz.type3,rfl⟩
instance iN13:ZeroC Tryz.prog 3 ([Value.int IntKind.i64 0]):=⟨_,_,aj Tryz.type3,rfl,rfl⟩
instance iN14:Elem Tryz.prog 3 1 8:=⟨_,_,aj Tryz.type3,rfl,rfl,rfl,rfl,by decide⟩
instance iN15:Und Tryz.prog 4 (TypeDesc.bool):=⟨Tryz.underlying4⟩
instance iN16:Size Tryz.prog 4 1:=⟨_,aj Tryz.type4,rfl⟩
instance iN17:One Tryz.prog 4:=⟨_,Tryz.underlying4,rfl⟩
instance iN18:ZeroC Tryz.prog 4 ([Value.bool false]):=⟨_,_,aj Tryz.type4,rfl,rfl⟩
instance iN19:Elem Tryz.prog 4 1 1:=⟨_,_,aj Tryz.type4,rfl,rfl,rfl,rfl,by decide⟩
instance iN20:Und Tryz.prog 5 (TypeDesc.int IntKind.u8):=⟨Tryz.underlying5⟩
instance iN21:Size Tryz.prog 5 1:=⟨_,aj Tryz.type5,rfl⟩
instance iN22:One Tryz.prog 5:=⟨_,Tryz.underlying5,rfl⟩
instance iN23:Elem Tryz.prog 5 1 1:=⟨_,_,aj Tryz.type5,rfl,rfl,rfl,rfl,by decide⟩
instance iN24:Und Tryz.prog 9 (TypeDesc.string):=⟨Tryz.underlying9⟩
instance iN25:Size Tryz.prog 9 1:=⟨_,aj Tryz.type9,rfl⟩
instance iN26:One Tryz.prog 9:=⟨_,Tryz.underlying9,rfl⟩
instance iN27:Elem Tryz.prog 9 1 16:=⟨_,_,aj Tryz.type9,rfl,rfl,rfl,rfl,by decide⟩
instance iN28:Und Tryz.prog 20 (TypeDesc.interface #[]):=⟨Tryz.underlying20⟩
instance iN29:Und Tryz.prog 22 (TypeDesc.slice 28):=⟨Tryz.underlying22⟩
instance iN30:One Tryz.prog 22:=⟨_,Tryz.underlying22,rfl⟩
instance iN31:Size Tryz.prog 23 1:=⟨_,aj Tryz.type23,rfl⟩
instance iN32:One Tryz.prog 23:=⟨_,Tryz.underlying23,rfl⟩
instance iN33:ZeroC Tryz.prog 23 ([Value.int IntKind.i64 0]):=⟨_,_,aj Tryz.type23,rfl,rfl⟩
instance iN34:Size Tryz.prog 28 2:=⟨_,aj Tryz.type28,rfl⟩
instance iN35:Agg Tryz.prog 28 2:=⟨_,_,Tryz.underlying28,rfl,aj Tryz.type28,rfl⟩
instance iN36:ZeroC Tryz.prog 28 ([Value.int IntKind.i64 0,Value.int IntKind.i64 0]):=⟨_,_,aj Tryz.type28,rfl,rfl⟩
instance iN37:Elem Tryz.prog 28 2 16:=⟨_,_,aj Tryz.type28,rfl,rfl,rfl,rfl,by decide⟩
instance iN38:Struct Tryz.prog 28 [(0,1),(1,1)] ([Value.int IntKind.i64 0,Value.int IntKind.i64 0]):=⟨_,_,_,aj Tryz.type28,Tryz.underlying28,rfl,by simp only [Se,Sk,aj Tryz.type3];rfl,rfl⟩
instance iN39:Fld Tryz.prog 28 0 0:=⟨_,_,_,Tryz.underlying28,rfl,rfl,aj Tryz.type3,by decide⟩
instance iN40:Fld Tryz.prog 28 1 1:=⟨_,_,_,Tryz.underlying28,rfl,rfl,aj Tryz.type3,by decide⟩
instance iN41:Und Tryz.prog 30 (TypeDesc.pointer 85):=⟨Tryz.underlying30⟩
instance iN42:One Tryz.prog 30:=⟨_,Tryz.underlying30,rfl⟩
instance iN43:Und Tryz.prog 33 (TypeDesc.slice 87):=⟨Tryz.underlying33⟩
instance iN44:Und Tryz.prog 39 (TypeDesc.slice 104):=⟨Tryz.underlying39⟩
instance iN45:Und Tryz.prog 40 (TypeDesc.pointer 126):=⟨Tryz.underlying40⟩
instance iN46:One Tryz.prog 40:=⟨_,Tryz.underlying40,rfl⟩
instance iN47:Size Tryz.prog 42 2:=⟨_,aj Tryz.type42,rfl⟩
instance iN48:Agg Tryz.prog 42 2:=⟨_,_,Tryz.underlying42,rfl,aj Tryz.type42,rfl⟩
instance iN49:ZeroC Tryz.prog 42 ([Value.pointer none,Value.pointer none]):=⟨_,_,aj Tryz.type42,rfl,rfl⟩
instance iN50:Struct Tryz.prog 42 [(0,1),(1,1)] ([Value.pointer none,Value.pointer none]):=⟨_,_,_,aj Tryz.type42,Tryz.underlying42,rfl,by simp only [Se,Sk,aj Tryz.type30,aj Tryz.type40];rfl,rfl⟩
instance iN51:Fld Tryz.prog 42 0 0:=⟨_,_,_,Tryz.underlying42,rfl,rfl,aj Tryz.type30,by decide⟩
instance iN52:Fld Tryz.prog 42 1 1:=⟨_,_,_,Tryz.underlying42,rfl,rfl,aj Tryz.type40,by decide⟩
instance iN53:Und Tryz.prog 49 (TypeDesc.int IntKind.u64):=⟨Tryz.underlying49⟩
instance iN54:One Tryz.prog 49:=⟨_,Tryz.underlying49,rfl⟩
instance iN55:Size Tryz.prog 61 4:=⟨_,aj Tryz.type61,rfl⟩
instance iN56:Agg Tryz.prog 61 4:=⟨_,_,Tryz.underlying61,rfl,aj Tryz.type61,rfl⟩
instance iN57:ZeroC Tryz.prog 61 ([Value.int IntKind.i64 0,Value.int IntKind.i64 0,Value.int IntKind.i64 0,Value.int IntKind.i64 0]):=⟨_,_,aj Tryz.type61,rfl,rfl⟩
instance iN58:Struct Tryz.prog 61 [(0,1),(1,1),(2,1),(3,1)] ([Value.int IntKind.i64 0,Value.int IntKind.i64 0,Value.int IntKind.i64 0,Value.int IntKind.i64 0]):=⟨_,_,_,aj Tryz.type61,Tryz.underlying61,rfl,by simp only [Se,Sk,aj Tryz.type3];rfl,rfl⟩
instance iN59:Fld Tryz.prog 61 0 0:=⟨_,_,_,Tryz.underlying61,rfl,rfl,aj Tryz.type3,by decide⟩
instance iN60:Fld Tryz.prog 61 1 1:=⟨_,_,_,Tryz.underlying61,rfl,rfl,aj Tryz.type3,by decide⟩
instance iN61:Fld Tryz.prog 61 2 2:=⟨_,_,_,Tryz.underlying61,rfl,rfl,aj Tryz.type3,by decide⟩
instance iN62:Fld Tryz.prog 61 3 3:=⟨_,_,_,Tryz.underlying61,rfl,rfl,aj Tryz.type3,by decide⟩
instance iN63:Und Tryz.prog 63 (TypeDesc.map 28 3):=⟨Tryz.underlying63⟩
instance iN64:Size Tryz.prog 63 1:=⟨_,aj Tryz.type63,rfl⟩
instance iN65:One Tryz.prog 63:=⟨_,Tryz.underlying63,rfl⟩
instance iN66:Und Tryz.prog 64 (TypeDesc.slice 68):=⟨Tryz.underlying64⟩
instance iN67:Size Tryz.prog 64 1:=⟨_,aj Tryz.type64,rfl⟩
instance iN68:One Tryz.prog 64:=⟨_,Tryz.underlying64,rfl⟩
instance iN69:ZeroC Tryz.prog 64 ([Value.slice none 0 0]):=⟨_,_,aj Tryz.type64,rfl,rfl⟩
instance iN70:Size Tryz.prog 66 3:=⟨_,aj Tryz.type66,rfl⟩
instance iN71:Agg Tryz.prog 66 3:=⟨_,_,Tryz.underlying66,rfl,aj Tryz.type66,rfl⟩
instance iN72:ZeroC Tryz.prog 66 ([Value.slice none 0 0,Value.map none,Value.slice none 0 0]):=⟨_,_,aj Tryz.type66,rfl,rfl⟩
instance iN73:Struct Tryz.prog 66 [(0,1),(1,1),(2,1)] ([Value.slice none 0 0,Value.map none,Value.slice none 0 0]):=⟨_,_,_,aj Tryz.type66,Tryz.underlying66,rfl,by simp only [Se,Sk,aj Tryz.type22,aj Tryz.type63,aj Tryz.type64];rfl,rfl⟩
instance iN74:Fld Tryz.prog 66 0 0:=⟨_,_,_,Tryz.underlying66,rfl,rfl,aj Tryz.type22,by decide⟩
instance iN75:Fld Tryz.prog 66 1 1:=⟨_,_,_,Tryz.underlying66,rfl,rfl,aj Tryz.type63,by decide⟩
instance iN76:Fld Tryz.prog 66 2 2:=⟨_,_,_,Tryz.underlying66,rfl,rfl,aj Tryz.type64,by decide⟩
instance iN77:Und Tryz.prog 68 (TypeDesc.slice 3):=⟨Tryz.underlying68⟩
instance iN78:Size Tryz.prog 68 1:=⟨_,aj Tryz.type68,rfl⟩
instance iN79:One Tryz.prog 68:=⟨_,Tryz.underlying68,rfl⟩
instance iN80:ZeroC Tryz.prog 68 ([Value.slice none 0 0]):=⟨_,_,aj Tryz.type68,rfl,rfl⟩
instance iN81:Elem Tryz.prog 68 1 24:=⟨_,_,aj Tryz.type68,rfl,rfl,rfl,rfl,by decide⟩
instance iN82:Und Tryz.prog 72 (TypeDesc.slice 4):=⟨Tryz.underlying72⟩
instance iN83:Size Tryz.prog 72 1:=⟨_,aj Tryz.type72,rfl⟩
instance iN84:One Tryz.prog 72:=⟨_,Tryz.underlying72,rfl⟩
instance iN85:ZeroC Tryz.prog 72 ([Value.slice none 0 0]):=⟨_,_,aj Tryz.type72,rfl,rfl⟩
instance iN86:Elem Tryz.prog 72 1 24:=⟨_,_,aj Tryz.type72,rfl,rfl,rfl,rfl,by decide⟩
instance iN87:Und Tryz.prog 74 (TypeDesc.map 3 3):=⟨Tryz.underlying74⟩
instance iN88:Und Tryz.prog 83 (TypeDesc.map 28 100):=⟨Tryz.underlying83⟩
instance iN89:One Tryz.prog 83:=⟨_,Tryz.underlying83,rfl⟩
instance iN90:Struct Tryz.prog 85 [(0,1)] ([Value.map none]):=⟨_,_,_,aj Tryz.type85,Tryz.underlying85,rfl,by simp only [Se,Sk,aj Tryz.type83];rfl,rfl⟩
instance iN91:Fld Tryz.prog 85 0 0:=⟨_,_,_,Tryz.underlying85,rfl,rfl,aj Tryz.type83,by decide⟩
instance iN92:Size Tryz.prog 87 3:=⟨_,aj Tryz.type87,rfl⟩
instance iN93:Agg Tryz.prog 87 3:=⟨_,_,Tryz.underlying87,rfl,aj Tryz.type87,rfl⟩
instance iN94:ZeroC Tryz.prog 87 ([Value.int IntKind.i64 0,Value.int IntKind.i64 0,Value.string { data:= #[] }]):=⟨_,_,aj Tryz.type87,rfl,rfl⟩
instance iN95:Elem Tryz.prog 87 3 32:=⟨_,_,aj Tryz.type87,rfl,rfl,rfl,rfl,by decide⟩
instance iN96:Struct Tryz.prog 87 [(0,2),(2,1)] ([Value.int IntKind.i64 0,Value.int IntKind.i64 0,Value.string { data:= #[] }]):=⟨_,_,_,aj Tryz.type87,Tryz.underlying87,rfl,by simp only [Se,Sk,aj Tryz.type28,aj Tryz.type9];rfl,rfl⟩
instance iN97:Fld Tryz.prog 87 0 0:=⟨_,_,_,Tryz.underlying87,rfl,rfl,aj Tryz.type28,by decide⟩
instance iN98:Fld Tryz.prog 87 1 2:=⟨_,_,_,Tryz.underlying87,rfl,rfl,aj Tryz.type9,by decide⟩
instance iN99:Size Tryz.prog 90 3:=⟨_,aj Tryz.type90,rfl⟩
instance iN100:Agg Tryz.prog 90 3:=⟨_,_,Tryz.underlying90,rfl,aj Tryz.type90,rfl⟩
instance iN101:ZeroC Tryz.prog 90 ([Value.int IntKind.u8 0,Value.int IntKind.i64 0,Value.string { data:= #[] }]):=⟨_,_,aj Tryz.type90,rfl,rfl⟩
instance iN102:Struct Tryz.prog 90 [(0,1),(1,1),(2,1)] ([Value.int IntKind.u8 0,Value.int IntKind.i64 0,Value.string { data:= #[] }]):=⟨_,_,_,aj Tryz.type90,Tryz.underlying90,rfl,by simp only [Se,Sk,aj Tryz.type2,aj Tryz.type5,aj Tryz.type9];rfl,rfl⟩
instance iN103:Fld Tryz.prog 90 0 0:=⟨_,_,_,Tryz.underlying90,rfl,rfl,aj Tryz.type5,by decide⟩
instance iN104:Fld Tryz.prog 90 1 1:=⟨_,_,_,Tryz.underlying90,rfl,rfl,aj Tryz.type2,by decide⟩
instance iN105:Fld Tryz.prog 90 2 2:=⟨_,_,_,Tryz.underlying90,rfl,rfl,aj Tryz.type9,by decide⟩
instance iN106:Und Tryz.prog 91 (TypeDesc.slice 123):=⟨Tryz.underlying91⟩
instance iN107:Size Tryz.prog 91 1:=⟨_,aj Tryz.type91,rfl⟩
instance iN108:One Tryz.prog 91:=⟨_,Tryz.underlying91,rfl⟩
instance iN109:ZeroC Tryz.prog 91 ([Value.slice none 0 0]):=⟨_,_,aj Tryz.type91,rfl,rfl⟩
instance iN110:Size Tryz.prog 93 5:=⟨_,aj Tryz.type93,rfl⟩
instance iN111:Agg Tryz.prog 93 5:=⟨_,_,Tryz.underlying93,rfl,aj Tryz.type93,rfl⟩
instance iN112:ZeroC Tryz.prog 93 ([Value.bool false,Value.int IntKind.u8 0,Value.int IntKind.i64 0,Value.string { data:= #[] },Value.slice none 0 0]):=⟨_,_,aj Tryz.type93,rfl,rfl⟩
instance iN113:Struct Tryz.prog 93 [(0,1),(1,3),(4,1)] ([Value.bool false,Value.int IntKind.u8 0,Value.int IntKind.i64 0,Value.string { data:= #[] },Value.slice none 0 0]):=⟨_,_,_,aj Tryz.type93,Tryz.underlying93,rfl,by simp only [Se,Sk,aj Tryz.type4,aj Tryz.type90,aj Tryz.type91];rfl,rfl⟩
instance iN114:Fld Tryz.prog 93 0 0:=⟨_,_,_,Tryz.underlying93,rfl,rfl,aj Tryz.type4,by decide⟩
instance iN115:Fld Tryz.prog 93 2 4:=⟨_,_,_,Tryz.underlying93,rfl,rfl,aj Tryz.type91,by decide⟩
instance iN116:Und Tryz.prog 96 (TypeDesc.slice 121):=⟨Tryz.underlying96⟩
instance iN117:Size Tryz.prog 96 1:=⟨_,aj Tryz.type96,rfl⟩
instance iN118:One Tryz.prog 96:=⟨_,Tryz.underlying96,rfl⟩
instance iN119:ZeroC Tryz.prog 96 ([Value.slice none 0 0]):=⟨_,_,aj Tryz.type96,rfl,rfl⟩
instance iN120:Size Tryz.prog 100 2:=⟨_,aj Tryz.type100,rfl⟩
instance iN121:Zero Tryz.prog 100 (Value.agg #[Value.slice none 0 0,Value.slice none 0 0]):=⟨_,aj Tryz.type100,rfl⟩
instance iN122:ZeroC Tryz.prog 100 ([Value.slice none 0 0,Value.slice none 0 0]):=⟨_,_,aj Tryz.type100,rfl,rfl⟩
instance iN123:Struct Tryz.prog 100 [(0,1),(1,1)] ([Value.slice none 0 0,Value.slice none 0 0]):=⟨_,_,_,aj Tryz.type100,Tryz.underlying100,rfl,by simp only [Se,Sk,aj Tryz.type91,aj Tryz.type96];rfl,rfl⟩
instance iN124:Fld Tryz.prog 100 0 0:=⟨_,_,_,Tryz.underlying100,rfl,rfl,aj Tryz.type91,by decide⟩
instance iN125:Size Tryz.prog 104 3:=⟨_,aj Tryz.type104,rfl⟩
instance iN126:Agg Tryz.prog 104 3:=⟨_,_,Tryz.underlying104,rfl,aj Tryz.type104,rfl⟩
instance iN127:Fld Tryz.prog 104 0 0:=⟨_,_,_,Tryz.underlying104,rfl,rfl,aj Tryz.type3,by decide⟩
instance iN128:Fld Tryz.prog 104 1 1:=⟨_,_,_,Tryz.underlying104,rfl,rfl,aj Tryz.type3,by decide⟩
instance iN129:Fld Tryz.prog 104 2 2:=⟨_,_,_,Tryz.underlying104,rfl,rfl,aj Tryz.type9,by decide⟩
instance iN130:Und Tryz.prog 108 (TypeDesc.slice 72):=⟨Tryz.underlying108⟩
instance iN131:Und Tryz.prog 111 (TypeDesc.slice 114):=⟨Tryz.underlying111⟩
instance iN132:Und Tryz.prog 114 (TypeDesc.array 2 28):=⟨Tryz.underlying114⟩
instance iN133:Size Tryz.prog 114 4:=⟨_,aj Tryz.type114,rfl⟩
instance iN134:Agg Tryz.prog 114 4:=⟨_,_,Tryz.underlying114,rfl,aj Tryz.type114,rfl⟩
instance iN135:ZeroC Tryz.prog 114 ([Value.int IntKind.i64 0,Value.int IntKind.i64 0,Value.int IntKind.i64 0,Value.int IntKind.i64 0]):=⟨_,_,aj Tryz.type114,rfl,rfl⟩
instance iN136:Elem Tryz.prog 114 4 32:=⟨_,_,aj Tryz.type114,rfl,rfl,rfl,rfl,by decide⟩
instance iN137:Size Tryz.prog 121 6:=⟨_,aj Tryz.type121,rfl⟩
instance iN138:Agg Tryz.prog 121 6:=⟨_,_,Tryz.underlying121,rfl,aj Tryz.type121,rfl⟩
instance iN139:ZeroC Tryz.prog 121 ([Value.int IntKind.i64 0,Value.int IntKind.i64 0,Value.int IntKind.i64 0,Value.int IntKind.i64 0,Value.int IntKind.i64 0,Value.int IntKind.u8 0]):=⟨_,_,aj Tryz.type121,rfl,rfl⟩
instance iN140:Elem Tryz.prog 121 6 48:=⟨_,_,aj Tryz.type121,rfl,rfl,rfl,rfl,by decide⟩
instance iN141:Struct Tryz.prog 121 [(0,4),(4,1),(5,1)] ([Value.int IntKind.i64 0,Value.int IntKind.i64 0,Value.int IntKind.i64 0,Value.int IntKind.i64 0,Value.int IntKind.i64 0,Value.int IntKind.u8 0]):=⟨_,_,_,aj Tryz.type121,Tryz.underlying121,rfl,by simp only [Se,Sk,aj Tryz.type3,aj Tryz.type5,aj Tryz.type61];rfl,rfl⟩
instance iN142:Fld Tryz.prog 121 0 0:=⟨_,_,_,Tryz.underlying121,rfl,rfl,aj Tryz.type61,by decide⟩
instance iN143:Fld Tryz.prog 121 1 4:=⟨_,_,_,Tryz.underlying121,rfl,rfl,aj Tryz.type3,by decide⟩
instance iN144:Fld Tryz.prog 121 2 5:=⟨_,_,_,Tryz.underlying121,rfl,rfl,aj Tryz.type5,by decide⟩
instance iN145:Size Tryz.prog 123 11:=⟨_,aj Tryz.type123,rfl⟩
instance iN146:Agg Tryz.prog 123 11:=⟨_,_,Tryz.underlying123,rfl,aj Tryz.type123,rfl⟩
instance iN147:ZeroC Tryz.prog 123 ([Value.int IntKind.u8 0,Value.int IntKind.u8 0,Value.int IntKind.i64 0,Value.string { data:= #[] },Value.int IntKind.i64 0,Value.int IntKind.i64 0,Value.int IntKind.i64 0,Value.int IntKind.i64 0,Value.int IntKind.i64 0,Value.int IntKind.u8 0,Value.int IntKind.i64 0]):=⟨_,_,aj Tryz.type123,rfl,rfl⟩
instance iN148:Elem Tryz.prog 123 11 96:=⟨_,_,aj Tryz.type123,rfl,rfl,rfl,rfl,by decide⟩
instance iN149:Struct Tryz.prog 123 [(0,1),(1,3),(4,4),(8,1),(9,1),(10,1)] ([Value.int IntKind.u8 0,Value.int IntKind.u8 0,Value.int IntKind.i64 0,Value.string { data:= #[] },Value.int IntKind.i64 0,Value.int IntKind.i64 0,Value.int IntKind.i64 0,Value.int IntKind.i64 0,Value.int IntKind.i64 0,Value.int IntKind.u8 0,Value.int IntKind.i64 0]):=⟨_,_,_,aj Tryz.type123,Tryz.underlying123,rfl,by simp only [Se,Sk,aj Tryz.type2,aj Tryz.type3,aj Tryz.type5,aj Tryz.type61,aj Tryz.type90];rfl,rfl⟩
instance iN150:Fld Tryz.prog 123 0 0:=⟨_,_,_,Tryz.underlying123,rfl,rfl,aj Tryz.type5,by decide⟩
instance iN151:Fld Tryz.prog 123 1 1:=⟨_,_,_,Tryz.underlying123,rfl,rfl,aj Tryz.type90,by decide⟩
instance iN152:Fld Tryz.prog 123 2 4:=⟨_,_,_,Tryz.underlying123,rfl,rfl,aj Tryz.type61,by decide⟩
instance iN153:Fld Tryz.prog 123 3 8:=⟨_,_,_,Tryz.underlying123,rfl,rfl,aj Tryz.type2,by decide⟩
instance iN154:Fld Tryz.prog 123 4 9:=⟨_,_,_,Tryz.underlying123,rfl,rfl,aj Tryz.type5,by decide⟩
instance iN155:Fld Tryz.prog 123 5 10:=⟨_,_,_,Tryz.underlying123,rfl,rfl,aj Tryz.type3,by decide⟩
instance iN156:Und Tryz.prog 124 (TypeDesc.slice 172):=⟨Tryz.underlying124⟩
instance iN157:Size Tryz.prog 124 1:=⟨_,aj Tryz.type124,rfl⟩
instance iN158:One Tryz.prog 124:=⟨_,Tryz.underlying124,rfl⟩
instance iN159:Struct Tryz.prog 126 [(0,1)] ([Value.slice none 0 0]):=⟨_,_,_,aj Tryz.type126,Tryz.underlying126,rfl,by simp only [Se,Sk,aj Tryz.type124];rfl,rfl⟩
instance iN160:Fld Tryz.prog 126 0 0:=⟨_,_,_,Tryz.underlying126,rfl,rfl,aj Tryz.type124,by decide⟩
instance iN161:Und Tryz.prog 146 (TypeDesc.slice 3):=⟨Tryz.underlying146⟩
instance iN162:Und Tryz.prog 147 (TypeDesc.pointer 148):=⟨Tryz.underlying147⟩
instance iN163:Und Tryz.prog 148 (TypeDesc.slice 3):=⟨Tryz.underlying148⟩
instance iN164:Size Tryz.prog 148 1:=⟨_,aj Tryz.type148,rfl⟩
instance iN165:One Tryz.prog 148:=⟨_,Tryz.underlying148,rfl⟩
instance iN166:Size Tryz.prog 172 4:=⟨_,aj Tryz.type172,rfl⟩
instance iN167:Agg Tryz.prog 172 4:=⟨_,_,Tryz.underlying172,rfl,aj Tryz.type172,rfl⟩
instance iN168:Elem Tryz.prog 172 4 64:=⟨_,_,aj Tryz.type172,rfl,rfl,rfl,rfl,by decide⟩
instance iN169:Struct Tryz.prog 172 [(0,2),(2,1),(3,1)] ([Value.int IntKind.i64 0,Value.int IntKind.i64 0,Value.slice none 0 0,Value.slice none 0 0]):=⟨_,_,_,aj Tryz.type172,Tryz.underlying172,rfl,by simp only [Se,Sk,aj Tryz.type28,aj Tryz.type91,aj Tryz.type96];rfl,rfl⟩
instance iN170:Fld Tryz.prog 172 0 0:=⟨_,_,_,Tryz.underlying172,rfl,rfl,aj Tryz.type28,by decide⟩
instance iN171:Fld Tryz.prog 172 1 2:=⟨_,_,_,Tryz.underlying172,rfl,rfl,aj Tryz.type91,by decide⟩
instance iN172:Fld Tryz.prog 172 2 3:=⟨_,_,_,Tryz.underlying172,rfl,rfl,aj Tryz.type96,by decide⟩
instance iN173:Size Tryz.prog 189 1:=⟨_,aj Tryz.type189,rfl⟩
instance iN174:One Tryz.prog 189:=⟨_,Tryz.underlying189,rfl⟩
instance iN175:ZeroC Tryz.prog 189 ([Value.nilFunc]):=⟨_,_,aj Tryz.type189,rfl,rfl⟩
instance iN176:Size Tryz.prog 212 1:=⟨_,aj Tryz.type212,rfl⟩
instance iN177:One Tryz.prog 212:=⟨_,Tryz.underlying212,rfl⟩
instance iN178:Elem Tryz.prog 212 1 8:=⟨_,_,aj Tryz.type212,rfl,rfl,rfl,rfl,by decide⟩
instance iN179:Und Tryz.prog 217 (TypeDesc.slice 212):=⟨Tryz.underlying217⟩
instance iN180:Und Tryz.prog 219 (TypeDesc.slice 228):=⟨Tryz.underlying219⟩
instance iN181:Size Tryz.prog 219 1:=⟨_,aj Tryz.type219,rfl⟩
instance iN182:One Tryz.prog 219:=⟨_,Tryz.underlying219,rfl⟩
instance iN183:Und Tryz.prog 223 (TypeDesc.struct #[{ name:= "at",type:=3,offset:=0,embedded:=false,tag:= "",pkgPath:= "louvre/parse",byteOffset:=0 },{ name:= "e",type:=23,offset:=1,embedded:=false,tag:= "",pkgPath:= "louvre/parse",byteOffset:=8 }]):=⟨Tryz.underlying223⟩
instance iN184:Size Tryz.prog 223 2:=⟨_,aj Tryz.type223,rfl⟩
instance iN185:ZeroC Tryz.prog 223 ([Value.int IntKind.i64 0,Value.int IntKind.i64 0]):=⟨_,_,aj Tryz.type223,rfl,rfl⟩
instance iN186:Struct Tryz.prog 223 [(0,1),(1,1)] ([Value.int IntKind.i64 0,Value.int IntKind.i64 0]):=⟨_,_,_,aj Tryz.type223,Tryz.underlying223,rfl,by simp only [Se,Sk,aj Tryz.type23,aj Tryz.type3];rfl,rfl⟩
instance iN187:Fld Tryz.prog 223 0 0:=⟨_,_,_,Tryz.underlying223,rfl,rfl,aj Tryz.type3,by decide⟩
instance iN188:Fld Tryz.prog 223 1 1:=⟨_,_,_,Tryz.underlying223,rfl,rfl,aj Tryz.type23,by decide⟩
instance iN189:One Tryz.prog 224:=⟨_,Tryz.underlying224,rfl⟩
instance iN190:Struct Tryz.prog 226 [(0,1),(1,1),(2,1)] ([Value.slice none 0 0,Value.int IntKind.i64 0,Value.slice none 0 0]):=⟨_,_,_,aj Tryz.type226,Tryz.underlying226,rfl,by simp only [Se,Sk,aj Tryz.type219,aj Tryz.type3,aj Tryz.type91];rfl,rfl⟩
instance iN191:Fld Tryz.prog 226 0 0:=⟨_,_,_,Tryz.underlying226,rfl,rfl,aj Tryz.type219,by decide⟩
instance iN192:Fld Tryz.prog 226 1 1:=⟨_,_,_,Tryz.underlying226,rfl,rfl,aj Tryz.type3,by decide⟩
instance iN193:Fld Tryz.prog 226 2 2:=⟨_,_,_,Tryz.underlying226,rfl,rfl,aj Tryz.type91,by decide⟩
instance iN194:Size Tryz.prog 228 8:=⟨_,aj Tryz.type228,rfl⟩
instance iN195:Agg Tryz.prog 228 8:=⟨_,_,Tryz.underlying228,rfl,aj Tryz.type228,rfl⟩
instance iN196:ZeroC Tryz.prog 228 ([Value.int IntKind.u8 0,Value.int IntKind.i64 0,Value.string { data:= #[] },Value.int IntKind.i64 0,Value.int IntKind.i64 0,Value.int IntKind.i64 0,Value.int IntKind.i64 0,Value.int IntKind.i64 0]):=⟨_,_,aj Tryz.type228,rfl,rfl⟩
instance iN197:Elem Tryz.prog 228 8 72:=⟨_,_,aj Tryz.type228,rfl,rfl,rfl,rfl,by decide⟩
instance iN198:Struct Tryz.prog 228 [(0,1),(1,1),(2,1),(3,4),(7,1)] ([Value.int IntKind.u8 0,Value.int IntKind.i64 0,Value.string { data:= #[] },Value.int IntKind.i64 0,Value.int IntKind.i64 0,Value.int IntKind.i64 0,Value.int IntKind.i64 0,Value.int IntKind.i64 0]):=⟨_,_,_,aj Tryz.type228,Tryz.underlying228,rfl,by simp only [Se,Sk,aj Tryz.type2,aj Tryz.type3,aj Tryz.type5,aj Tryz.type61,aj Tryz.type9];rfl,rfl⟩
instance iN199:Fld Tryz.prog 228 0 0:=⟨_,_,_,Tryz.underlying228,rfl,rfl,aj Tryz.type5,by decide⟩
instance iN200:Fld Tryz.prog 228 1 1:=⟨_,_,_,Tryz.underlying228,rfl,rfl,aj Tryz.type2,by decide⟩
instance iN201:Fld Tryz.prog 228 2 2:=⟨_,_,_,Tryz.underlying228,rfl,rfl,aj Tryz.type9,by decide⟩
instance iN202:Fld Tryz.prog 228 3 3:=⟨_,_,_,Tryz.underlying228,rfl,rfl,aj Tryz.type61,by decide⟩
instance iN203:Fld Tryz.prog 228 4 7:=⟨_,_,_,Tryz.underlying228,rfl,rfl,aj Tryz.type3,by decide⟩
instance iN204:Und Tryz.prog 252 (TypeDesc.slice 5):=⟨Tryz.underlying252⟩
instance iN205:Agg Tryz.prog 258 3:=⟨_,_,Tryz.underlying258,rfl,aj Tryz.type258,rfl⟩
instance iN206:Fld Tryz.prog 258 2 2:=⟨_,_,_,Tryz.underlying258,rfl,rfl,aj Tryz.type9,by decide⟩
instance iN207:Und Tryz.prog 259 (TypeDesc.map 5 260):=⟨Tryz.underlying259⟩
instance iN208:Zero Tryz.prog 260 (Value.nilFunc):=⟨_,aj Tryz.type260,rfl⟩
instance iN209:Und Tryz.prog 263 (TypeDesc.array 8 9):=⟨Tryz.underlying263⟩
instance iN210:Agg Tryz.prog 263 8:=⟨_,_,Tryz.underlying263,rfl,aj Tryz.type263,rfl⟩
instance iN211:Struct Tryz.prog 269 [(0,1)] ([Value.string { data:= #[] }]):=⟨_,_,_,aj Tryz.type269,Tryz.underlying269,rfl,by simp only [Se,Sk,aj Tryz.type9];rfl,rfl⟩
instance iN212:Fld Tryz.prog 269 0 0:=⟨_,_,_,Tryz.underlying269,rfl,rfl,aj Tryz.type9,by decide⟩
instance iN213:Size Tryz.prog 270 1:=⟨_,aj Tryz.type270,rfl⟩
instance iN214:One Tryz.prog 270:=⟨_,Tryz.underlying270,rfl⟩
instance iN215:Und Tryz.prog 271 (TypeDesc.array 5 270):=⟨Tryz.underlying271⟩
instance iN216:Size Tryz.prog 271 5:=⟨_,aj Tryz.type271,rfl⟩
instance iN217:Agg Tryz.prog 271 5:=⟨_,_,Tryz.underlying271,rfl,aj Tryz.type271,rfl⟩
instance iN218:ZeroC Tryz.prog 271 ([Value.nilFunc,Value.nilFunc,Value.nilFunc,Value.nilFunc,Value.nilFunc]):=⟨_,_,aj Tryz.type271,rfl,rfl⟩
instance iN219:Struct Tryz.prog 277 [(0,1),(1,1),(2,1),(3,1),(4,1),(5,1)] ([Value.string { data:= #[] },Value.slice none 0 0,Value.int IntKind.i64 0,Value.slice none 0 0,Value.int IntKind.i64 0,Value.int IntKind.i64 0]):=⟨_,_,_,aj Tryz.type277,Tryz.underlying277,rfl,by simp only [Se,Sk,aj Tryz.type219,aj Tryz.type23,aj Tryz.type3,aj Tryz.type9,aj Tryz.type91];rfl,rfl⟩
instance iN220:Fld Tryz.prog 277 0 0:=⟨_,_,_,Tryz.underlying277,rfl,rfl,aj Tryz.type9,by decide⟩
instance iN221:Fld Tryz.prog 277 1 1:=⟨_,_,_,Tryz.underlying277,rfl,rfl,aj Tryz.type219,by decide⟩
instance iN222:Fld Tryz.prog 277 2 2:=⟨_,_,_,Tryz.underlying277,rfl,rfl,aj Tryz.type3,by decide⟩
instance iN223:Fld Tryz.prog 277 3 3:=⟨_,_,_,Tryz.underlying277,rfl,rfl,aj Tryz.type91,by decide⟩
instance iN224:Fld Tryz.prog 277 4 4:=⟨_,_,_,Tryz.underlying277,rfl,rfl,aj Tryz.type3,by decide⟩
instance iN225:Fld Tryz.prog 277 5 5:=⟨_,_,_,Tryz.underlying277,rfl,rfl,aj Tryz.type23,by decide⟩
instance iN226:One Tryz.prog 300:=⟨_,Tryz.underlying300,rfl⟩
instance iN227:Und Tryz.prog 309 (TypeDesc.slice 9):=⟨Tryz.underlying309⟩
instance iN228:Und Tryz.prog 310 (TypeDesc.slice 2):=⟨Tryz.underlying310⟩
instance iN229:Und Tryz.prog 316 (TypeDesc.slice 320):=⟨Tryz.underlying316⟩
instance iN230:Size Tryz.prog 320 3:=⟨_,aj Tryz.type320,rfl⟩
instance iN231:Agg Tryz.prog 320 3:=⟨_,_,Tryz.underlying320,rfl,aj Tryz.type320,rfl⟩
instance iN232:ZeroC Tryz.prog 320 ([Value.int IntKind.i64 0,Value.int IntKind.i64 0,Value.bool false]):=⟨_,_,aj Tryz.type320,rfl,rfl⟩
instance iN233:Elem Tryz.prog 320 3 24:=⟨_,_,aj Tryz.type320,rfl,rfl,rfl,rfl,by decide⟩
instance iN234:Struct Tryz.prog 320 [(0,1),(1,1),(2,1)] ([Value.int IntKind.i64 0,Value.int IntKind.i64 0,Value.bool false]):=⟨_,_,_,aj Tryz.type320,Tryz.underlying320,rfl,by simp only [Se,Sk,aj Tryz.type3,aj Tryz.type4];rfl,rfl⟩
instance iN235:Fld Tryz.prog 320 0 0:=⟨_,_,_,Tryz.underlying320,rfl,rfl,aj Tryz.type3,by decide⟩
instance iN236:Fld Tryz.prog 320 1 1:=⟨_,_,_,Tryz.underlying320,rfl,rfl,aj Tryz.type3,by decide⟩
instance iN237:Fld Tryz.prog 320 2 2:=⟨_,_,_,Tryz.underlying320,rfl,rfl,aj Tryz.type4,by decide⟩
instance iN238:Size Tryz.prog 324 2:=⟨_,aj Tryz.type324,rfl⟩
instance iN239:Agg Tryz.prog 324 2:=⟨_,_,Tryz.underlying324,rfl,aj Tryz.type324,rfl⟩
instance iN240:ZeroC Tryz.prog 324 ([Value.int IntKind.u64 0,Value.int IntKind.u64 0]):=⟨_,_,aj Tryz.type324,rfl,rfl⟩
instance iN241:Struct Tryz.prog 324 [(0,1),(1,1)] ([Value.int IntKind.u64 0,Value.int IntKind.u64 0]):=⟨_,_,_,aj Tryz.type324,Tryz.underlying324,rfl,by simp only [Se,Sk,aj Tryz.type49];rfl,rfl⟩
instance iN242:Fld Tryz.prog 324 0 0:=⟨_,_,_,Tryz.underlying324,rfl,rfl,aj Tryz.type49,by decide⟩
instance iN243:Fld Tryz.prog 324 1 1:=⟨_,_,_,Tryz.underlying324,rfl,rfl,aj Tryz.type49,by decide⟩
instance iN244:Und Tryz.prog 330 (TypeDesc.slice 334):=⟨Tryz.underlying330⟩
instance iN245:Size Tryz.prog 334 2:=⟨_,aj Tryz.type334,rfl⟩
instance iN246:Elem Tryz.prog 334 2 16:=⟨_,_,aj Tryz.type334,rfl,rfl,rfl,rfl,by decide⟩
instance iN247:Struct Tryz.prog 334 [(0,1),(1,1)] ([Value.int IntKind.i64 0,Value.int IntKind.i64 0]):=⟨_,_,_,aj Tryz.type334,Tryz.underlying334,rfl,by simp only [Se,Sk,aj Tryz.type3];rfl,rfl⟩
instance iN248:Fld Tryz.prog 334 0 0:=⟨_,_,_,Tryz.underlying334,rfl,rfl,aj Tryz.type3,by decide⟩
instance iN249:Fld Tryz.prog 334 1 1:=⟨_,_,_,Tryz.underlying334,rfl,rfl,aj Tryz.type3,by decide⟩
instance iN250:Und Tryz.prog 343 (TypeDesc.array 2 3):=⟨Tryz.underlying343⟩
instance iN251:Size Tryz.prog 345 5:=⟨_,aj Tryz.type345,rfl⟩
instance iN252:Agg Tryz.prog 345 5:=⟨_,_,Tryz.underlying345,rfl,aj Tryz.type345,rfl⟩
instance iN253:ZeroC Tryz.prog 345 ([Value.int IntKind.i64 0,Value.int IntKind.i64 0,Value.int IntKind.i64 0,Value.int IntKind.i64 0,Value.bool false]):=⟨_,_,aj Tryz.type345,rfl,rfl⟩
instance iN254:Struct Tryz.prog 345 [(0,2),(2,2),(4,1)] ([Value.int IntKind.i64 0,Value.int IntKind.i64 0,Value.int IntKind.i64 0,Value.int IntKind.i64 0,Value.bool false]):=⟨_,_,_,aj Tryz.type345,Tryz.underlying345,rfl,by simp only [Se,Sk,aj Tryz.type343,aj Tryz.type4];rfl,rfl⟩
instance iN255:Fld Tryz.prog 345 0 0:=⟨_,_,_,Tryz.underlying345,rfl,rfl,aj Tryz.type343,by decide⟩
instance iN256:Fld Tryz.prog 345 1 2:=⟨_,_,_,Tryz.underlying345,rfl,rfl,aj Tryz.type343,by decide⟩
instance iN257:Fld Tryz.prog 345 2 4:=⟨_,_,_,Tryz.underlying345,rfl,rfl,aj Tryz.type4,by decide⟩
instance iN258:Und Tryz.prog 375 (TypeDesc.array 50 9):=⟨Tryz.underlying375⟩
instance iN259:Size Tryz.prog 375 50:=⟨_,aj Tryz.type375,rfl⟩
instance iN260:Agg Tryz.prog 375 50:=⟨_,_,Tryz.underlying375,rfl,aj Tryz.type375,rfl⟩
instance iN261:ZeroC Tryz.prog 375 ([Value.string { data:= #[] },Value.string { data:= #[] },Value.string { data:= #[] },Value.string { data:= #[] },Value.string { data:= #[] },Value.string { data:= #[] },Value.string { data:= #[] },Value.string { data:= #[] },Value.string { data:= #[] },Value.string { data:= #[] },Value.string { data:= #[] },Value.string { data:= #[] },Value.string { data:= #[] },Value.string { data:= #[] },Value.string { data:= #[] },Value.string { data:= #[] },Value.string { data:= #[] },Value.string { data:= #[] },Value.string { data:= #[] },Value.string { data:= #[] },Value.string { data:= #[] },Value.string { data:= #[] },Value.string { data:= #[] },Value.string { data:= #[] },Value.string { data:= #[] },Value.string { data:= #[] },Value.string { data:= #[] },Value.string { data:= #[] },Value.string { data:= #[] },Value.string { data:= #[] },Value.string { data:= #[] },Value.string { data:= #[] },Value.string { data:= #[] },Value.string { data:= #[] },Value.string { data:= #[] },Value.string { data:= #[] },Value.string { data:= #[] },Value.string { data:= #[] },Value.string { data:= #[] },Value.string { data:= #[] },Value.string { data:= #[] },Value.string { data:= #[] },Value.string { data:= #[] },Value.string { data:= #[] },Value.string { data:= #[] },Value.string { data:= #[] },Value.string { data:= #[] },Value.string { data:= #[] },Value.string { data:= #[] },Value.string { data:= #[] }]):=⟨_,_,aj Tryz.type375,rfl,rfl⟩
instance iN262:Callable Tryz.prog 8:=⟨fun args w=>Tryz.call8 args w⟩
instance iN263:Callable Tryz.prog 9:=⟨fun args w=>Tryz.call9 args w⟩
instance iN264:Callable Tryz.prog 10:=⟨fun args w=>Tryz.call10 args w⟩
instance iN265:Callable Tryz.prog 11:=⟨fun args w=>Tryz.call11 args w⟩
instance iN266:Callable Tryz.prog 12:=⟨fun args w=>Tryz.call12 args w⟩
instance iN267:Callable Tryz.prog 13:=⟨fun args w=>Tryz.call13 args w⟩
instance iN268:Callable Tryz.prog 14:=⟨fun args w=>Tryz.call14 args w⟩
instance iN269:Callable Tryz.prog 15:=⟨fun args w=>Tryz.call15 args w⟩
instance iN270:Callable Tryz.prog 16:=⟨fun args w=>Tryz.call16 args w⟩
instance iN271:Callable Tryz.prog 18:=⟨fun args w=>Tryz.call18 args w⟩
instance iN272:Callable Tryz.prog 19:=⟨fun args w=>Tryz.call19 args w⟩
instance iN273:Callable Tryz.prog 20:=⟨fun args w=>Tryz.call20 args w⟩
instance iN274:Callable Tryz.prog 21:=⟨fun args w=>Tryz.call21 args w⟩
instance iN275:Callable Tryz.prog 22:=⟨fun args w=>Tryz.call22 args w⟩
instance iN276:Callable Tryz.prog 23:=⟨fun args w=>Tryz.call23 args w⟩
instance iN277:Callable Tryz.prog 24:=⟨fun args w=>Tryz.call24 args w⟩
instance iN278:Callable Tryz.prog 25:=⟨fun args w=>Tryz.call25 args w⟩
instance iN279:Callable Tryz.prog 29:=⟨fun args w=>Tryz.call29 args w⟩
instance iN280:Callable Tryz.prog 32:=⟨fun args w=>Tryz.call32 args w⟩
instance iN281:Callable Tryz.prog 33:=⟨fun args w=>Tryz.call33 args w⟩
instance iN282:Callable Tryz.prog 34:=⟨fun args w=>Tryz.call34 args w⟩
instance iN283:Callable Tryz.prog 35:=⟨fun args w=>Tryz.call35 args w⟩
instance iN284:Callable Tryz.prog 36:=⟨fun args w=>Tryz.call36 args w⟩
instance iN285:Callable Tryz.prog 37:=⟨fun args w=>Tryz.call37 args w⟩
instance iN286:Callable Tryz.prog 38:=⟨fun args w=>Tryz.call38 args w⟩
instance iN287:Callable Tryz.prog 39:=⟨fun args w=>Tryz.call39 args w⟩
instance iN288:Callable Tryz.prog 40:=⟨fun args w=>Tryz.call40 args w⟩
instance iN289:Callable Tryz.prog 41:=⟨fun args w=>Tryz.call41 args w⟩
instance iN290:Callable Tryz.prog 42:=⟨fun args w=>Tryz.call42 args w⟩
instance iN291:Callable Tryz.prog 43:=⟨fun args w=>Tryz.call43 args w⟩
instance iN292:Callable Tryz.prog 44:=⟨fun args w=>Tryz.call44 args w⟩
instance iN293:Callable Tryz.prog 45:=⟨fun args w=>Tryz.call45 args w⟩
instance iN294:Callable Tryz.prog 46:=⟨fun args w=>Tryz.call46 args w⟩
instance iN295:Callable Tryz.prog 47:=⟨fun args w=>Tryz.call47 args w⟩
instance iN296:Callable Tryz.prog 48:=⟨fun args w=>Tryz.call48 args w⟩
instance iN297:Callable Tryz.prog 49:=⟨fun args w=>Tryz.call49 args w⟩
instance iN298:Callable Tryz.prog 50:=⟨fun args w=>Tryz.call50 args w⟩
instance iN299:Callable Tryz.prog 51:=⟨fun args w=>Tryz.call51 args w⟩
instance iN300:Callable Tryz.prog 52:=⟨fun args w=>Tryz.call52 args w⟩
instance iN301:Callable Tryz.prog 53:=⟨fun args w=>Tryz.call53 args w⟩
instance iN302:Callable Tryz.prog 54:=⟨fun args w=>Tryz.call54 args w⟩
instance iN303:Callable Tryz.prog 55:=⟨fun args w=>Tryz.call55 args w⟩
instance iN304:Callable Tryz.prog 56:=⟨fun args w=>Tryz.call56 args w⟩
instance iN305:Callable Tryz.prog 57:=⟨fun args w=>Tryz.call57 args w⟩
instance iN306:Callable Tryz.prog 58:=⟨fun args w=>Tryz.call58 args w⟩
instance iN307:Callable Tryz.prog 59:=⟨fun args w=>Tryz.call59 args w⟩
instance iN308:Callable Tryz.prog 60:=⟨fun args w=>Tryz.call60 args w⟩
instance iN309:Callable Tryz.prog 61:=⟨fun args w=>Tryz.call61 args w⟩
instance iN310:Callable Tryz.prog 62:=⟨fun args w=>Tryz.call62 args w⟩
instance iN311:Callable Tryz.prog 63:=⟨fun args w=>Tryz.call63 args w⟩
instance iN312:Callable Tryz.prog 64:=⟨fun args w=>Tryz.call64 args w⟩
instance iN313:Callable Tryz.prog 65:=⟨fun args w=>Tryz.call65 args w⟩
instance iN314:Callable Tryz.prog 66:=⟨fun args w=>Tryz.call66 args w⟩
instance iN315:Callable Tryz.prog 68:=⟨fun args w=>Tryz.call68 args w⟩
instance iN316:Callable Tryz.prog 74:=⟨fun args w=>Tryz.call74 args w⟩
instance iN317:Callable Tryz.prog 77:=⟨fun args w=>Tryz.call77 args w⟩
instance iN318:Callable Tryz.prog 78:=⟨fun args w=>Tryz.call78 args w⟩
instance iN319:Callable Tryz.prog 79:=⟨fun args w=>Tryz.call79 args w⟩
instance iN320:Callable Tryz.prog 80:=⟨fun args w=>Tryz.call80 args w⟩
instance iN321:Callable Tryz.prog 81:=⟨fun args w=>Tryz.call81 args w⟩
instance iN322:Callable Tryz.prog 82:=⟨fun args w=>Tryz.call82 args w⟩
instance iN323:Callable Tryz.prog 83:=⟨fun args w=>Tryz.call83 args w⟩
instance iN324:Callable Tryz.prog 84:=⟨fun args w=>Tryz.call84 args w⟩
instance iN325:Callable Tryz.prog 87:=⟨fun args w=>Tryz.call87 args w⟩
instance iN326:Callable Tryz.prog 88:=⟨fun args w=>Tryz.call88 args w⟩
instance iN327:Callable Tryz.prog 89:=⟨fun args w=>Tryz.call89 args w⟩
instance iN328:Callable Tryz.prog 90:=⟨fun args w=>Tryz.call90 args w⟩
instance iN329:Callable Tryz.prog 91:=⟨fun args w=>Tryz.call91 args w⟩
instance iN330:Callable Tryz.prog 92:=⟨fun args w=>Tryz.call92 args w⟩
instance iN331:Callable Tryz.prog 93:=⟨fun args w=>Tryz.call93 args w⟩
instance iN332:Callable Tryz.prog 94:=⟨fun args w=>Tryz.call94 args w⟩
instance iN333:Callable Tryz.prog 95:=⟨fun args w=>Tryz.call95 args w⟩
instance iN334:Callable Tryz.prog 96:=⟨fun args w=>Tryz.call96 args w⟩
instance iN335:Callable Tryz.prog 97:=⟨fun args w=>Tryz.call97 args w⟩
instance iN336:Callable Tryz.prog 98:=⟨fun args w=>Tryz.call98 args w⟩
instance iN337:Callable Tryz.prog 99:=⟨fun args w=>Tryz.call99 args w⟩
instance iN338:Callable Tryz.prog 100:=⟨fun args w=>Tryz.call100 args w⟩
instance iN339:Callable Tryz.prog 101:=⟨fun args w=>Tryz.call101 args w⟩
instance iN340:Callable Tryz.prog 102:=⟨fun args w=>Tryz.call102 args w⟩
instance iN341:Callable Tryz.prog 103:=⟨fun args w=>Tryz.call103 args w⟩
instance iN342:Callable Tryz.prog 104:=⟨fun args w=>Tryz.call104 args w⟩
instance iN343:Callable Tryz.prog 115:=⟨fun args w=>Tryz.call115 args w⟩
instance iN344:Callable Tryz.prog 116:=⟨fun args w=>Tryz.call116 args w⟩
instance iN345:Callable Tryz.prog 117:=⟨fun args w=>Tryz.call117 args w⟩
instance iN346:Callable Tryz.prog 118:=⟨fun args w=>Tryz.call118 args w⟩
instance iN347:Callable Tryz.prog 120:=⟨fun args w=>Tryz.call120 args w⟩
instance iN348:Callable Tryz.prog 121:=⟨fun args w=>Tryz.call121 args w⟩
instance iN349:Callable Tryz.prog 133:=⟨fun args w=>Tryz.call133 args w⟩
instance iN350:Callable Tryz.prog 134:=⟨fun args w=>Tryz.call134 args w⟩
instance iN351:Callable Tryz.prog 135:=⟨fun args w=>Tryz.call135 args w⟩
instance iN352:Callable Tryz.prog 136:=⟨fun args w=>Tryz.call136 args w⟩
instance iN353:Callable Tryz.prog 137:=⟨fun args w=>Tryz.call137 args w⟩
instance iN354:Callable Tryz.prog 138:=⟨fun args w=>Tryz.call138 args w⟩
instance iN355:Callable Tryz.prog 139:=⟨fun args w=>Tryz.call139 args w⟩
instance iN356:Callable Tryz.prog 140:=⟨fun args w=>Tryz.call140 args w⟩
instance iN357:Callable Tryz.prog 141:=⟨fun args w=>Tryz.call141 args w⟩
instance iN358:Callable Tryz.prog 142:=⟨fun args w=>Tryz.call142 args w⟩
instance iN359:Callable Tryz.prog 143:=⟨fun args w=>Tryz.call143 args w⟩
instance iN360:Callable Tryz.prog 144:=⟨fun args w=>Tryz.call144 args w⟩
instance iN361:Callable Tryz.prog 145:=⟨fun args w=>Tryz.call145 args w⟩
instance iN362:Callable Tryz.prog 146:=⟨fun args w=>Tryz.call146 args w⟩
instance iN363:Callable Tryz.prog 147:=⟨fun args w=>Tryz.call147 args w⟩
instance iN364:Callable Tryz.prog 148:=⟨fun args w=>Tryz.call148 args w⟩
instance iN365:Callable Tryz.prog 149:=⟨fun args w=>Tryz.call149 args w⟩
instance iN366:Callable Tryz.prog 150:=⟨fun args w=>Tryz.call150 args w⟩
instance iN367:Callable Tryz.prog 151:=⟨fun args w=>Tryz.call151 args w⟩
instance iN368:Callable Tryz.prog 152:=⟨fun args w=>Tryz.call152 args w⟩
instance iN369:Callable Tryz.prog 153:=⟨fun args w=>Tryz.call153 args w⟩
instance iN370:Callable Tryz.prog 154:=⟨fun args w=>Tryz.call154 args w⟩
instance iN371:Callable Tryz.prog 155:=⟨fun args w=>Tryz.call155 args w⟩
instance iN372:Callable Tryz.prog 156:=⟨fun args w=>Tryz.call156 args w⟩
instance iN373:Callable Tryz.prog 157:=⟨fun args w=>Tryz.call157 args w⟩
instance iN374:Callable Tryz.prog 158:=⟨fun args w=>Tryz.call158 args w⟩
instance iN375:Callable Tryz.prog 159:=⟨fun args w=>Tryz.call159 args w⟩
instance iN376:Callable Tryz.prog 160:=⟨fun args w=>Tryz.call160 args w⟩
instance iN377:Callable Tryz.prog 178:=⟨fun args w=>Tryz.call178 args w⟩
instance iN378:Callable Tryz.prog 179:=⟨fun args w=>Tryz.call179 args w⟩
instance iN379:Callable Tryz.prog 180:=⟨fun args w=>Tryz.call180 args w⟩
instance iN380:Callable Tryz.prog 181:=⟨fun args w=>Tryz.call181 args w⟩
instance iN381:Callable Tryz.prog 182:=⟨fun args w=>Tryz.call182 args w⟩
instance iN382:Callable Tryz.prog 183:=⟨fun args w=>Tryz.call183 args w⟩
instance iN383:Callable Tryz.prog 184:=⟨fun args w=>Tryz.call184 args w⟩
instance iN384:Callable Tryz.prog 187:=⟨fun args w=>Tryz.call187 args w⟩
instance iN385:Callable Tryz.prog 188:=⟨fun args w=>Tryz.call188 args w⟩
instance iN386:Callable Tryz.prog 189:=⟨fun args w=>Tryz.call189 args w⟩
instance iN387:Callable Tryz.prog 190:=⟨fun args w=>Tryz.call190 args w⟩
instance iN388:Callable Tryz.prog 191:=⟨fun args w=>Tryz.call191 args w⟩
instance iN389:Callable Tryz.prog 192:=⟨fun args w=>Tryz.call192 args w⟩
instance iN390:Callable Tryz.prog 193:=⟨fun args w=>Tryz.call193 args w⟩
instance iN391:Callable Tryz.prog 194:=⟨fun args w=>Tryz.call194 args w⟩
instance iN392:Callable Tryz.prog 195:=⟨fun args w=>Tryz.call195 args w⟩
instance iN393:Callable Tryz.prog 196:=⟨fun args w=>Tryz.call196 args w⟩
instance iN394:Callable Tryz.prog 197:=⟨fun args w=>Tryz.call197 args w⟩
instance iN395:Callable Tryz.prog 198:=⟨fun args w=>Tryz.call198 args w⟩
instance iN396:Callable Tryz.prog 199:=⟨fun args w=>Tryz.call199 args w⟩
instance iN397:Callable Tryz.prog 200:=⟨fun args w=>Tryz.call200 args w⟩
instance iN398:Callable Tryz.prog 201:=⟨fun args w=>Tryz.call201 args w⟩
instance iN399:Callable Tryz.prog 202:=⟨fun args w=>Tryz.call202 args w⟩
instance iN400:Callable Tryz.prog 203:=⟨fun args w=>Tryz.call203 args w⟩
instance iN401:Callable Tryz.prog 204:=⟨fun args w=>Tryz.call204 args w⟩
instance iN402:Callable Tryz.prog 205:=⟨fun args w=>Tryz.call205 args w⟩
instance iN403:Callable Tryz.prog 206:=⟨fun args w=>Tryz.call206 args w⟩
instance iN404:Callable Tryz.prog 207:=⟨fun args w=>Tryz.call207 args w⟩
instance iN405:Callable Tryz.prog 208:=⟨fun args w=>Tryz.call208 args w⟩
instance iN406:Callable Tryz.prog 209:=⟨fun args w=>Tryz.call209 args w⟩
instance iN407:Callable Tryz.prog 210:=⟨fun args w=>Tryz.call210 args w⟩
instance iN408:Callable Tryz.prog 231:=⟨fun args w=>Tryz.call231 args w⟩
instance iN409:Callable Tryz.prog 232:=⟨fun args w=>Tryz.call232 args w⟩
instance iN410:Callable Tryz.prog 233:=⟨fun args w=>Tryz.call233 args w⟩
instance iN411:Callable Tryz.prog 234:=⟨fun args w=>Tryz.call234 args w⟩
instance iN412:Callable Tryz.prog 235:=⟨fun args w=>Tryz.call235 args w⟩
instance iN413:Callable Tryz.prog 236:=⟨fun args w=>Tryz.call236 args w⟩
instance iN414:Callable Tryz.prog 237:=⟨fun args w=>Tryz.call237 args w⟩
instance iN415:Callable Tryz.prog 238:=⟨fun args w=>Tryz.call238 args w⟩
instance iN416:Callable Tryz.prog 239:=⟨fun args w=>Tryz.call239 args w⟩
instance iN417:Callable Tryz.prog 240:=⟨fun args w=>Tryz.call240 args w⟩
instance iN418:Callable Tryz.prog 241:=⟨fun args w=>Tryz.call241 args w⟩
instance iN419:Callable Tryz.prog 242:=⟨fun args w=>Tryz.call242 args w⟩
instance iN420:Callable Tryz.prog 243:=⟨fun args w=>Tryz.call243 args w⟩
instance iN421:Callable Tryz.prog 244:=⟨fun args w=>Tryz.call244 args w⟩
instance iN422:Callable Tryz.prog 245:=⟨fun args w=>Tryz.call245 args w⟩
instance iN423:Callable Tryz.prog 246:=⟨fun args w=>Tryz.call246 args w⟩
instance iN424:Callable Tryz.prog 247:=⟨fun args w=>Tryz.call247 args w⟩
instance iN425:Callable Tryz.prog 248:=⟨fun args w=>Tryz.call248 args w⟩
instance iN426:Callable Tryz.prog 249:=⟨fun args w=>Tryz.call249 args w⟩
instance iN427:Callable Tryz.prog 250:=⟨fun args w=>Tryz.call250 args w⟩
instance iN428:Callable Tryz.prog 251:=⟨fun args w=>Tryz.call251 args w⟩
instance iN429:Callable Tryz.prog 252:=⟨fun args w=>Tryz.call252 args w⟩
instance iN430:Callable Tryz.prog 253:=⟨fun args w=>Tryz.call253 args w⟩
instance iN431:Callable Tryz.prog 254:=⟨fun args w=>Tryz.call254 args w⟩
instance iN432:Callable Tryz.prog 255:=⟨fun args w=>Tryz.call255 args w⟩
instance iN433:Callable Tryz.prog 256:=⟨fun args w=>Tryz.call256 args w⟩
instance iN434:Callable Tryz.prog 257:=⟨fun args w=>Tryz.call257 args w⟩
instance iN435:Callable Tryz.prog 258:=⟨fun args w=>Tryz.call258 args w⟩
instance iN436:Callable Tryz.prog 259:=⟨fun args w=>Tryz.call259 args w⟩
instance iN437:Callable Tryz.prog 260:=⟨fun args w=>Tryz.call260 args w⟩
instance iN438:Callable Tryz.prog 261:=⟨fun args w=>Tryz.call261 args w⟩
instance iN439:Callable Tryz.prog 262:=⟨fun args w=>Tryz.call262 args w⟩
instance iN440:Callable Tryz.prog 263:=⟨fun args w=>Tryz.call263 args w⟩
instance iN441:Callable Tryz.prog 264:=⟨fun args w=>Tryz.call264 args w⟩
instance iN442:Callable Tryz.prog 272:=⟨fun args w=>Tryz.call272 args w⟩
instance iN443:Callable Tryz.prog 273:=⟨fun args w=>Tryz.call273 args w⟩
instance iN444:Callable Tryz.prog 274:=⟨fun args w=>Tryz.call274 args w⟩
instance iN445:Callable Tryz.prog 275:=⟨fun args w=>Tryz.call275 args w⟩
instance iN446:Callable Tryz.prog 277:=⟨fun args w=>Tryz.call277 args w⟩
instance iN447:Callable Tryz.prog 278:=⟨fun args w=>Tryz.call278 args w⟩
instance iN448:Callable Tryz.prog 279:=⟨fun args w=>Tryz.call279 args w⟩
instance iN449:Callable Tryz.prog 280:=⟨fun args w=>Tryz.call280 args w⟩
instance iN450:Callable Tryz.prog 281:=⟨fun args w=>Tryz.call281 args w⟩
instance iN451:Callable Tryz.prog 282:=⟨fun args w=>Tryz.call282 args w⟩
instance iN452:Callable Tryz.prog 283:=⟨fun args w=>Tryz.call283 args w⟩
instance iN453:Callable Tryz.prog 284:=⟨fun args w=>Tryz.call284 args w⟩
instance iN454:Callable Tryz.prog 285:=⟨fun args w=>Tryz.call285 args w⟩
instance iN455:Callable Tryz.prog 286:=⟨fun args w=>Tryz.call286 args w⟩
instance iN456:Callable Tryz.prog 287:=⟨fun args w=>Tryz.call287 args w⟩
instance iN457:Callable Tryz.prog 288:=⟨fun args w=>Tryz.call288 args w⟩
instance iN458:Callable Tryz.prog 289:=⟨fun args w=>Tryz.call289 args w⟩
instance iN459:Callable Tryz.prog 290:=⟨fun args w=>Tryz.call290 args w⟩
instance iN460:Callable Tryz.prog 293:=⟨fun args w=>Tryz.call293 args w⟩
instance iN461:Callable Tryz.prog 294:=⟨fun args w=>Tryz.call294 args w⟩
instance iN462:Callable Tryz.prog 298:=⟨fun args w=>Tryz.call298 args w⟩
instance iN463:Callable Tryz.prog 299:=⟨fun args w=>Tryz.call299 args w⟩
instance iN464:Callable Tryz.prog 300:=⟨fun args w=>Tryz.call300 args w⟩
instance iN465:Callable Tryz.prog 301:=⟨fun args w=>Tryz.call301 args w⟩
instance iN466:Callable Tryz.prog 302:=⟨fun args w=>Tryz.call302 args w⟩
instance iN467:Callable Tryz.prog 303:=⟨fun args w=>Tryz.call303 args w⟩
instance iN468:Callable Tryz.prog 304:=⟨fun args w=>Tryz.call304 args w⟩
instance iN469:Callable Tryz.prog 305:=⟨fun args w=>Tryz.call305 args w⟩
instance iN470:Callable Tryz.prog 306:=⟨fun args w=>Tryz.call306 args w⟩
instance iN471:Callable Tryz.prog 307:=⟨fun args w=>Tryz.call307 args w⟩
instance iN472:Callable Tryz.prog 308:=⟨fun args w=>Tryz.call308 args w⟩
instance iN473:Callable Tryz.prog 309:=⟨fun args w=>Tryz.call309 args w⟩
instance iN474:Callable Tryz.prog 311:=⟨fun args w=>Tryz.call311 args w⟩
instance iN475:Callable Tryz.prog 312:=⟨fun args w=>Tryz.call312 args w⟩
instance iN476:Callable Tryz.prog 313:=⟨fun args w=>Tryz.call313 args w⟩
instance iN477:Callable Tryz.prog 314:=⟨fun args w=>Tryz.call314 args w⟩
instance iN478:Callable Tryz.prog 315:=⟨fun args w=>Tryz.call315 args w⟩
instance iN479:Callable Tryz.prog 317:=⟨fun args w=>Tryz.call317 args w⟩
instance iN480:Callable Tryz.prog 318:=⟨fun args w=>Tryz.call318 args w⟩
instance iN481:Callable Tryz.prog 319:=⟨fun args w=>Tryz.call319 args w⟩
instance iN482:Callable Tryz.prog 320:=⟨fun args w=>Tryz.call320 args w⟩
instance iN483:Callable Tryz.prog 321:=⟨fun args w=>Tryz.call321 args w⟩
instance iN484:Callable Tryz.prog 324:=⟨fun args w=>Tryz.call324 args w⟩
instance iN485:Callable Tryz.prog 325:=⟨fun args w=>Tryz.call325 args w⟩
instance iN486:Callable Tryz.prog 326:=⟨fun args w=>Tryz.call326 args w⟩
instance iN487:Callable Tryz.prog 327:=⟨fun args w=>Tryz.call327 args w⟩
instance iN488:Callable Tryz.prog 328:=⟨fun args w=>Tryz.call328 args w⟩
instance iN489:Callable Tryz.prog 331:=⟨fun args w=>Tryz.call331 args w⟩
instance iN490:Callable Tryz.prog 332:=⟨fun args w=>Tryz.call332 args w⟩
instance iN491:Callable Tryz.prog 333:=⟨fun args w=>Tryz.call333 args w⟩
instance iN492:Callable Tryz.prog 334:=⟨fun args w=>Tryz.call334 args w⟩
instance iN493:Callable Tryz.prog 335:=⟨fun args w=>Tryz.call335 args w⟩
end Go.SL
