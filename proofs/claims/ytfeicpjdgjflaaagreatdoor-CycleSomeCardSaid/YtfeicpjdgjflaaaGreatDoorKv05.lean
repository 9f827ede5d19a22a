/-
  Lemmas and walks, put together: Md2 Sl7 W10 Sl31 Ty.
-/
import Derived.Test.YtfeicpjdgjflaaaGreatDoorKv03
import Derived.Test.YtfeicpjdgjflaaaGreatDoorKv04
set_option linter.unusedSimpArgs false
set_option linter.unusedVariables false
set_option maxRecDepth 20000
namespace Go.SL
open Go
instance iN5:DecidableEq Rct:=fun a b=>decidable_of_iff (eqR a b=true) xp
theorem KO (a b:Rct):eqR a b=decide (a=b):=by rw [V3,xp];simp
open Go.RowKit
section
variable {α:Type} {enc:α→List Value} {m:Nat}
theorem Pz (h: ∀ a,(enc a).length=m) (L:List α) (i:Nat) (hi:i<L.length) (a:α):(L.flatMap enc).take (i*m)++enc a++(L.flatMap enc).drop (i*m+m)=(L.set i a).flatMap enc:=by
 rw [show i*m+m=(i+1)*m by rw [Xm,XX],jV h,qV h,List.set_eq_take_append_cons_drop,if_pos hi];simp
end
open Go.Proofs
attribute [local irreducible] FnAt FnIn VOp W WA WG WL WQ aS blk thn
theorem Reads.of_row {w0 w:World} {H:List Blk} {g t sz m c:Nat} {xs:List Value} (hm:Mem w0 w H) (hi:In (.own (some g) t sz m c xs) H):Reads w (.slice (some ⟨g,0,none⟩) m c) m xs:=Reads.of_own hm hi
end Go.SL
namespace Go.SL
open Go Go.RowKit
theorem z7 (z:Array Value) (n:Nat) (u:Value) (h:u∈(Builtin.zeroCells z n).toList):u∈z.toList:=by
 rw [Array.mem_toList_iff,Builtin.zeroCells,Array.mem_map] at h;obtain ⟨i,hi,rfl⟩:=h;rw [Array.mem_range] at hi;have hz:0<z.size:=by
  rcases Xc z.size with h|h
  ·rw [h] at hi;simp at hi
  ·exact h
 have hl:i % z.size<z.size:=Y5 _ hz;rw [getElem!_pos z (i % z.size) hl,Array.mem_toList_iff];exact Array.getElem_mem hl
theorem NC {P:Program} {n:Fr} {w0:World} {Q:cd} {s:aC} {H:List Blk} {rest:List Oper} {ty:TypeId} {p:String} {af:Array Edge} {t e k n' c cx g sz:Nat} {x:Operand} {xs:List Value} {R:List Blk} {ops:Array Oper} {z:Value} [ht:Und P t (.slice e)] [hz:Zero P e z]
 (hx:ev s x=some (.slice (some ⟨g,k*sz,none⟩) (n' - k) cx)) (hk:k<n') (hsel:Sel (.own (some g) e sz n' c xs) H R) (hz1: ∀ u∈z.cells.toList,u.oneCell' =true) (hzs:z.cells.size=sz)
 (K:WL P n w0 ops rest Q s (.own (some g) e sz k c (xs.take (k*sz))::R)):
 WL P n w0 ops (⟨none,.call { callee:= .builtin .clear,args:= #[x],argTypes:= #[t] },ty,p,af,none⟩::rest) Q s H:=by
 intro a w hs hm;have hm' :=hm.sel hsel;obtain ⟨i,i1,i2⟩:=hz.out;obtain ⟨b1,b2,b3,junk,b4,b5⟩:=(hm'.on _ Vr).1;have hzl:(Builtin.zeroCells z.cells (n' - k)).toList.length=(n' - k)*sz:=by rw [YL,size_zeroCells,hzs]
 have hkn:k*sz+(n' - k)*sz=n' *sz:=by rw [← Xm];congr 1;omega
 have hst:=run_storeCells_at (P:=P) g (k*sz) e (Builtin.zeroCells z.cells (n' - k)).toList 0 _ w b5 (by simp only [Xa,Vn,hzl];omega) (fun u hu=>hz1 u (z7 _ _ _ hu));simp only [XA,hzl,hkn] at hst;have hn0: ¬ n' - k=0:=by omega
 obtain ⟨m,hm2⟩: ∃ m,n' - k=m+1:=⟨n' - k - 1,by omega⟩;have hrun:(Builtin.clear_ #[t] ty #[.slice (some ⟨g,k*sz,none⟩) (n' - k) cx]).run P w= .ok (.tuple #[]) (w.setRow g ((xs++junk).take (k*sz)++(Builtin.zeroCells z.cells (n' - k)).toList++(xs++junk).drop (n' *sz)).toArray):=by
  rw [hm2] at hst ⊢;simp [Builtin.clear_,run_underlying ht.out,zeroValue,typeInfo,i1,i2,hst]
 refine wpList_plain rfl fun K' hK=> ?_;unfold Oper.wp execOp;simp only [resolve,invoke,builtin,Sem.run_bind,Sem.run_pure,Result.andThen_ok,Xv,VU,Wv,hs.eval x _ hx,hrun,Oper.upon];refine hK _ _ (K _ _ (hs.put_none _) (hm'.upd (fQ _ _ _) (b' := .own (some g) e sz k c (xs.take (k*sz))) ⟨?_,by omega,b3,(Builtin.zeroCells z.cells (n' - k)).toList++(xs++junk).drop (n' *sz),?_,?_⟩ fun k hk=> .inl hk))
 ·rw [VQ,b1];omega
 ·have hle:n' *sz≤c*sz:=Xj _ b2;simp only [Vn,VQ,VS,hzl];rw [Vn] at b4;omega
 ·rw [Xu (by omega)];rw [← VC];exact setRow_heap _ _ _ _ _ _ b5
open Go.Proofs
instance:Zero Tryz.prog 4 (Value.bool false):=⟨_,aj Tryz.type4,rfl⟩
instance:ZeroC Tryz.prog 23 ([Value.slice none 0 0]):=⟨_,_,aj Tryz.type23,rfl,rfl⟩
instance:Zero Tryz.prog 53 (Value.agg #[Value.int IntKind.i64 0,Value.int IntKind.i64 0,Value.int IntKind.i64 0,Value.int IntKind.i64 0]):=⟨_,aj Tryz.type53,rfl⟩
instance:Elem Tryz.prog 53 4 32:=⟨_,_,aj Tryz.type53,rfl,rfl,rfl,rfl,by decide⟩
instance:Und Tryz.prog 77 (TypeDesc.slice 53):=⟨Tryz.underlying77⟩
instance:Und Tryz.prog 176 (TypeDesc.map 35 4):=⟨Tryz.underlying176⟩
instance:Size Tryz.prog 176 1:=⟨_,aj Tryz.type176,rfl⟩
instance:One Tryz.prog 176:=⟨_,Tryz.underlying176,rfl⟩
instance:ZeroC Tryz.prog 176 ([Value.map none]):=⟨_,_,aj Tryz.type176,rfl,rfl⟩
instance:Callable Tryz.prog 20:=⟨fun args w=>Tryz.call20 args w⟩
instance:Callable Tryz.prog 21:=⟨fun args w=>Tryz.call21 args w⟩
instance:Callable Tryz.prog 25:=⟨fun args w=>Tryz.call25 args w⟩
instance:Callable Tryz.prog 37:=⟨fun args w=>Tryz.call37 args w⟩
instance:Callable Tryz.prog 69:=⟨fun args w=>Tryz.call69 args w⟩
instance:Callable Tryz.prog 74:=⟨fun args w=>Tryz.call74 args w⟩
instance:Callable Tryz.prog 75:=⟨fun args w=>Tryz.call75 args w⟩
instance:Callable Tryz.prog 76:=⟨fun args w=>Tryz.call76 args w⟩
instance:Callable Tryz.prog 77:=⟨fun args w=>Tryz.call77 args w⟩
instance:Callable Tryz.prog 78:=⟨fun args w=>Tryz.call78 args w⟩
instance:Callable Tryz.prog 97:=⟨fun args w=>Tryz.call97 args w⟩
instance:Callable Tryz.prog 123:=⟨fun args w=>Tryz.call123 args w⟩
instance:Callable Tryz.prog 124:=⟨fun args w=>Tryz.call124 args w⟩
instance:Callable Tryz.prog 128:=⟨fun args w=>Tryz.call128 args w⟩
instance:Callable Tryz.prog 129:=⟨fun args w=>Tryz.call129 args w⟩
instance:Callable Tryz.prog 130:=⟨fun args w=>Tryz.call130 args w⟩
instance:Callable Tryz.prog 196:=⟨fun args w=>Tryz.call196 args w⟩
end Go.SL
