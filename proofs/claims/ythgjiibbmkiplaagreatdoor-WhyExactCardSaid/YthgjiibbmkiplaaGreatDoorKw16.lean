/-
  Lemmas and walks, put together: Sl11 Sl8 Ty.
-/
import Derived.Test.YthgjiibbmkiplaaGreatDoorKw03
import Derived.Test.YthgjiibbmkiplaaGreatDoorKw04
import Derived.Test.YthgjiibbmkiplaaGreatDoorKw06
set_option linter.unusedSimpArgs false
set_option linter.unusedVariables false
set_option maxRecDepth 20000
namespace Go.SL
open Go Go.RowKit
section
variable {P:Program} {n:Fr} {w0:World} {Q:bK} {s sb:az} {H:List Blk} {ι:Type} {sI:ι→az} {HI:ι→List Blk} {ok:ι→Prop} {id:Nat}
theorem Reads.of_own_take {w:World} {A:Option Nat} {t sz m cap k:Nat} {xs:List Value} (hm:Mem w0 w H) (hi:In (.own A t sz m cap xs) H) (hk:k≤m):Reads w (sl A k cap) k (xs.take (k*sz)):=by
 obtain ⟨h1,h2,h3,h4⟩:=(hm.on _ hi.mem).1;refine ⟨_,cap,rfl,by omega,h3,fun hpos=> ?_⟩
 cases A with
 |none=>obtain ⟨rfl,_⟩:=h4;omega
 |some g=>exact ⟨g,0,rfl,(Ro.of_own hm hi).take⟩
end
section
variable {P:Program} {n:Fr} {w0:World} {Q:bK} {K:az→Prop} {s:az} {H H1:List Blk} {l rest:List Oper} {k j f:Nat} {ty:TypeId} {p:String} {af:Array Edge}
theorem EC {t T g off m sz n' c:Nat} {x a:Operand} {v:Value} {vs xs:List Value} {R:List Blk} [Size P t m] (ha:ev s a=some (.pointer (some ⟨g,off,none⟩))) (hx:ev s x=some v)
 (hsel:Sel (.own (some g) T sz n' c xs) H R) (hv:v.cells=vs.toArray) (hl:vs.length=m) (h1:vs.all Value.oneCell' =true) (hfit:off+m≤xs.length)
 (hnew:MSub H1 (.own (some g) T sz n' c (xs.take off++vs++xs.drop (off+m))::R)) (h:WG P n w0 l (fun D=>if D k then H1 else H) K rest (k+1) s):
 WG P n w0 l (fun D=>if D k then H1 else H) K (⟨none,.store t a x,ty,p,af,none⟩::rest) k s:=by
 refine Cx (fun D ht a' w hs hm=> ?_) h;have e1:D k=false:=ht.not;have e2:put D k k=true:=by simp [put]
 simp only [e1,X3,if_false] at hm;simp only [e2,if_true];have hm' :=hm.sel hsel;obtain ⟨h2,h3,h4,junk,h5,hb⟩:=(hm'.on _ Xb).1;have h1' : ∀ u∈vs,u.oneCell' =true:=by simpa using h1
 have hr:=f9 (P:=P) (t:=t) (off:=off) hv hl h1' hb (by simp;omega);simp only at hr;have he:(xs++junk).take off++vs++(xs++junk).drop (off+m)=(xs.take off++vs++xs.drop (off+m))++junk:=by
  rw [YP (by omega),ZD hfit];simp
 rw [he] at hr;have hlen:(xs.take off++vs++xs.drop (off+m)).length=xs.length:=by simp;omega
 refine ⟨_,?_,hnew.use (hm'.upd (dP _ _ _) (b' := .own (some g) T sz n' c (xs.take off++vs++xs.drop (off+m)))
  ⟨hlen.trans h2,h3,h4,junk,by rw [Xa,hlen,← Xa];exact h5,setRow_heap _ _ _ _ _ _ hb⟩ fun k hk=> .inl hk)⟩
 simp [execOp,hs.eval a _ ha,hs.eval x _ hx,Instr.storeAt,Instr.sureAddr,hr]
theorem EB {t T g off sz n' c:Nat} {x a:Operand} {v:Value} {xs:List Value} {R:List Blk} [Size P t 1] (ha:ev s a=some (.pointer (some ⟨g,off,none⟩))) (hx:ev s x=some v)
 (hsel:Sel (.own (some g) T sz n' c xs) H R) (hv:v.oneCell' =true) (hfit:off<xs.length)
 (hnew:MSub H1 (.own (some g) T sz n' c (xs.set off v)::R)) (h:WG P n w0 l (fun D=>if D k then H1 else H) K rest (k+1) s):
 WG P n w0 l (fun D=>if D k then H1 else H) K (⟨none,.store t a x,ty,p,af,none⟩::rest) k s:=by
 refine EC (m:=1) ha hx hsel (vs:= [v]) (by cases v<;>first|rfl|cases hv) rfl (by simpa using hv) (by omega) ?_ h;rw [oI _ _ _ hfit];exact hnew
end
theorem oE {P:Program} {w0:World} {s:az} {H:List Blk} {ty:TypeId} {x y:Operand} {a b m:Nat} {ts:Array TypeId} (hx:ev s x=some (.int .i64 (a:Nat))) (hy:ev s y=some (.int .i64 (b:Nat))) (hm:min a b=m):
 VOp P w0 s H (.call { callee:= .builtin .min,args:= #[x,y],argTypes:=ts }) ty (.int .i64 (m:Nat)):=by
 have h:(if ((b:Nat):Int)<((a:Nat):Int) then ((b:Nat):Int) else ((a:Nat):Int))=((m:Nat):Int):=by
  split<;>omega
 rw [← h];exact Aj hx hy
open Go.Proofs
instance:ZeroC Tryz.prog 4 ([Value.bool false]):=⟨_,_,ah Tryz.type4,rfl,rfl⟩
instance:Size Tryz.prog 22 1:=⟨_,ah Tryz.type22,rfl⟩
instance:Size Tryz.prog 23 1:=⟨_,ah Tryz.type23,rfl⟩
instance:Size Tryz.prog 25 1:=⟨_,ah Tryz.type25,rfl⟩
instance:Size Tryz.prog 26 1:=⟨_,ah Tryz.type26,rfl⟩
instance:Zero Tryz.prog 31 (Value.agg #[Value.int IntKind.i64 0,Value.int IntKind.i64 0,Value.int IntKind.i64 0,Value.int IntKind.i64 0]):=⟨_,ah Tryz.type31,rfl⟩
instance:Und Tryz.prog 47 (TypeDesc.slice 98):=⟨Tryz.underlying47⟩
instance:One Tryz.prog 47:=⟨_,Tryz.underlying47,rfl⟩
instance:Size Tryz.prog 49 3:=⟨_,ah Tryz.type49,rfl⟩
instance:Agg Tryz.prog 49 3:=⟨_,_,Tryz.underlying49,rfl,ah Tryz.type49,rfl⟩
instance:ZeroC Tryz.prog 49 ([Value.bool false,Value.slice none 0 0,Value.slice none 0 0]):=⟨_,_,ah Tryz.type49,rfl,rfl⟩
instance:Struct Tryz.prog 49 [(0,1),(1,1),(2,1)] ([Value.bool false,Value.slice none 0 0,Value.slice none 0 0]):=⟨_,_,_,ah Tryz.type49,Tryz.underlying49,rfl,by simp only [XV,X5,ah Tryz.type36,ah Tryz.type4,ah Tryz.type47];rfl,rfl⟩
instance:Fld Tryz.prog 49 0 0:=⟨_,_,_,Tryz.underlying49,rfl,rfl,ah Tryz.type4,by decide⟩
instance:Fld Tryz.prog 49 1 1:=⟨_,_,_,Tryz.underlying49,rfl,rfl,ah Tryz.type36,by decide⟩
instance:Fld Tryz.prog 49 2 2:=⟨_,_,_,Tryz.underlying49,rfl,rfl,ah Tryz.type47,by decide⟩
instance:One Tryz.prog 90:=⟨_,Tryz.underlying90,rfl⟩
instance:Size Tryz.prog 98 3:=⟨_,ah Tryz.type98,rfl⟩
instance:Agg Tryz.prog 98 3:=⟨_,_,Tryz.underlying98,rfl,ah Tryz.type98,rfl⟩
instance:Elem Tryz.prog 98 3 24:=⟨_,_,ah Tryz.type98,rfl,rfl,rfl,rfl,by decide⟩
instance:Struct Tryz.prog 98 [(0,2),(2,1)] ([Value.int IntKind.i64 0,Value.int IntKind.i64 0,Value.int IntKind.i64 0]):=⟨_,_,_,ah Tryz.type98,Tryz.underlying98,rfl,by simp only [XV,X5,ah Tryz.type3,ah Tryz.type34];rfl,rfl⟩
instance:Struct Tryz.prog 119 [(0,1),(1,7),(8,1),(9,1)] ([Value.int IntKind.i64 0,Value.int IntKind.i64 0,Value.slice none 0 0,Value.slice none 0 0,Value.slice none 0 0,Value.slice none 0 0,Value.slice none 0 0,Value.int IntKind.i64 0,Value.pointer none,Value.map none]):=⟨_,_,_,ah Tryz.type119,Tryz.underlying119,rfl,by simp only [XV,X5,ah Tryz.type117,ah Tryz.type28,ah Tryz.type3,ah Tryz.type54];rfl,rfl⟩
instance:Fld Tryz.prog 119 0 0:=⟨_,_,_,Tryz.underlying119,rfl,rfl,ah Tryz.type3,by decide⟩
instance:Fld Tryz.prog 119 1 1:=⟨_,_,_,Tryz.underlying119,rfl,rfl,ah Tryz.type28,by decide⟩
instance:Fld Tryz.prog 119 2 8:=⟨_,_,_,Tryz.underlying119,rfl,rfl,ah Tryz.type54,by decide⟩
instance:Fld Tryz.prog 119 3 9:=⟨_,_,_,Tryz.underlying119,rfl,rfl,ah Tryz.type117,by decide⟩
instance:Und Tryz.prog 123 (TypeDesc.slice 127):=⟨Tryz.underlying123⟩
instance:Size Tryz.prog 127 2:=⟨_,ah Tryz.type127,rfl⟩
instance:Agg Tryz.prog 127 2:=⟨_,_,Tryz.underlying127,rfl,ah Tryz.type127,rfl⟩
instance:ZeroC Tryz.prog 127 ([Value.int IntKind.i64 0,Value.int IntKind.i64 0]):=⟨_,_,ah Tryz.type127,rfl,rfl⟩
instance:Elem Tryz.prog 127 2 16:=⟨_,_,ah Tryz.type127,rfl,rfl,rfl,rfl,by decide⟩
instance:Struct Tryz.prog 127 [(0,1),(1,1)] ([Value.int IntKind.i64 0,Value.int IntKind.i64 0]):=⟨_,_,_,ah Tryz.type127,Tryz.underlying127,rfl,by simp only [XV,X5,ah Tryz.type3];rfl,rfl⟩
instance:Fld Tryz.prog 127 0 0:=⟨_,_,_,Tryz.underlying127,rfl,rfl,ah Tryz.type3,by decide⟩
instance:Fld Tryz.prog 127 1 1:=⟨_,_,_,Tryz.underlying127,rfl,rfl,ah Tryz.type3,by decide⟩
instance:Elem Tryz.prog 147 9 72:=⟨_,_,ah Tryz.type147,rfl,rfl,rfl,rfl,by decide⟩
instance:Elem Tryz.prog 149 11 88:=⟨_,_,ah Tryz.type149,rfl,rfl,rfl,rfl,by decide⟩
instance:Und Tryz.prog 161 (TypeDesc.map 34 3):=⟨Tryz.underlying161⟩
instance:Size Tryz.prog 161 1:=⟨_,ah Tryz.type161,rfl⟩
instance:One Tryz.prog 161:=⟨_,Tryz.underlying161,rfl⟩
instance:ZeroC Tryz.prog 161 ([Value.map none]):=⟨_,_,ah Tryz.type161,rfl,rfl⟩
instance:Callable Tryz.prog 16:=⟨fun args w=>Tryz.call16 args w⟩
instance:Callable Tryz.prog 17:=⟨fun args w=>Tryz.call17 args w⟩
instance:Callable Tryz.prog 18:=⟨fun args w=>Tryz.call18 args w⟩
instance:Callable Tryz.prog 19:=⟨fun args w=>Tryz.call19 args w⟩
instance:Callable Tryz.prog 20:=⟨fun args w=>Tryz.call20 args w⟩
instance:Callable Tryz.prog 23:=⟨fun args w=>Tryz.call23 args w⟩
instance:Callable Tryz.prog 26:=⟨fun args w=>Tryz.call26 args w⟩
instance:Callable Tryz.prog 38:=⟨fun args w=>Tryz.call38 args w⟩
instance:Callable Tryz.prog 39:=⟨fun args w=>Tryz.call39 args w⟩
instance:Callable Tryz.prog 40:=⟨fun args w=>Tryz.call40 args w⟩
instance:Callable Tryz.prog 41:=⟨fun args w=>Tryz.call41 args w⟩
instance:Callable Tryz.prog 42:=⟨fun args w=>Tryz.call42 args w⟩
instance:Callable Tryz.prog 43:=⟨fun args w=>Tryz.call43 args w⟩
instance:Callable Tryz.prog 44:=⟨fun args w=>Tryz.call44 args w⟩
instance:Callable Tryz.prog 45:=⟨fun args w=>Tryz.call45 args w⟩
instance:Callable Tryz.prog 46:=⟨fun args w=>Tryz.call46 args w⟩
instance:Callable Tryz.prog 52:=⟨fun args w=>Tryz.call52 args w⟩
instance:Callable Tryz.prog 53:=⟨fun args w=>Tryz.call53 args w⟩
instance:Callable Tryz.prog 56:=⟨fun args w=>Tryz.call56 args w⟩
instance:Callable Tryz.prog 57:=⟨fun args w=>Tryz.call57 args w⟩
instance:Callable Tryz.prog 61:=⟨fun args w=>Tryz.call61 args w⟩
instance:Callable Tryz.prog 72:=⟨fun args w=>Tryz.call72 args w⟩
instance:Callable Tryz.prog 73:=⟨fun args w=>Tryz.call73 args w⟩
instance:Callable Tryz.prog 74:=⟨fun args w=>Tryz.call74 args w⟩
instance:Callable Tryz.prog 75:=⟨fun args w=>Tryz.call75 args w⟩
instance:Callable Tryz.prog 76:=⟨fun args w=>Tryz.call76 args w⟩
instance:Callable Tryz.prog 77:=⟨fun args w=>Tryz.call77 args w⟩
instance:Callable Tryz.prog 79:=⟨fun args w=>Tryz.call79 args w⟩
instance:Callable Tryz.prog 80:=⟨fun args w=>Tryz.call80 args w⟩
instance:Callable Tryz.prog 81:=⟨fun args w=>Tryz.call81 args w⟩
instance:Callable Tryz.prog 82:=⟨fun args w=>Tryz.call82 args w⟩
instance:Callable Tryz.prog 83:=⟨fun args w=>Tryz.call83 args w⟩
instance:Callable Tryz.prog 84:=⟨fun args w=>Tryz.call84 args w⟩
instance:Callable Tryz.prog 85:=⟨fun args w=>Tryz.call85 args w⟩
instance:Callable Tryz.prog 86:=⟨fun args w=>Tryz.call86 args w⟩
instance:Callable Tryz.prog 87:=⟨fun args w=>Tryz.call87 args w⟩
instance:Callable Tryz.prog 88:=⟨fun args w=>Tryz.call88 args w⟩
instance:Callable Tryz.prog 97:=⟨fun args w=>Tryz.call97 args w⟩
instance:Callable Tryz.prog 98:=⟨fun args w=>Tryz.call98 args w⟩
instance:Callable Tryz.prog 102:=⟨fun args w=>Tryz.call102 args w⟩
instance:Callable Tryz.prog 103:=⟨fun args w=>Tryz.call103 args w⟩
instance:Callable Tryz.prog 106:=⟨fun args w=>Tryz.call106 args w⟩
instance:Callable Tryz.prog 108:=⟨fun args w=>Tryz.call108 args w⟩
instance:Callable Tryz.prog 118:=⟨fun args w=>Tryz.call118 args w⟩
instance:Callable Tryz.prog 121:=⟨fun args w=>Tryz.call121 args w⟩
instance:Callable Tryz.prog 122:=⟨fun args w=>Tryz.call122 args w⟩
instance:Callable Tryz.prog 123:=⟨fun args w=>Tryz.call123 args w⟩
instance:Callable Tryz.prog 135:=⟨fun args w=>Tryz.call135 args w⟩
end Go.SL
