/-
  Lemmas and walks, put together: W2 W3 A2 D3 W15 S1 W16 S5 A2p S6 S2 W5 S3 S4 W6 W7 W8.
-/
import Derived.Test.YtfeicpjdgjflaaaGreatDoorKv09
set_option linter.unusedSimpArgs false
set_option linter.unusedVariables false
set_option maxRecDepth 20000
set_option maxHeartbeats 16000000
namespace Go.SL
open Go Go.Proofs
attribute [local irreducible] W WL WQ WG VOp thn blk aS FnAt FnIn
theorem ri (b:ByteArray):qz b=(ap b).map (Value.int .u8):=by simp [qz,ap]
theorem xU {α β:Type} (f:α→α) (E:α→β) (xs:List α) (i:Nat) (h:i<xs.length):(((xs.take i).map f++xs.drop i).map E).set i (E (f xs[i]))=((xs.take (i+1)).map f++xs.drop (i+1)).map E:=by
 rw [← List.map_set,List.set_append_right _ _ (by simp;omega)];have e1:xs.drop i=xs[i]::xs.drop (i+1):=Vy h;have e2:xs.take (i+1)=xs.take i++ [xs[i]]:=Vu h;have e3:i - ((xs.take i).map f).length=0:=by simp;omega
 rw [e3,e1,e2];simp only [List.set_cons_zero,Wj,VU,Wv,VC,Vp,Vq]
theorem JE (f:FuncId) [Callable Tryz.prog f] (g:Int→Int) (hf: ∀ c w,aF Tryz.prog f [.int .u8 c] w (.int .u8 (g c))) (a:ByteArray) (ha:a.size≤1000000) (w:World):
 FnAt Tryz.prog 283 [.string a,.func (.func f) #[] #[]] w fun v H=> ∃ gb cap,v= .slice (some ⟨gb,0,none⟩) a.size cap∧H= [.byt gb 5 a.size cap (((ap a).map g).map (Value.int .u8))]:=by
 refine aA Tryz.func283 rfl Tryz.ntmps283 rfl ?_;repeat' (first|apply oG;exact rfl;exact rfl;intro gb cap|refine sT ?_|refine sM fun _=>?_|refine sC ?_ ?_<;>intro hb<;>try omega|fail)
 refine fP (fun i:Nat=> [(5,.slice (some ⟨gb,0,none⟩) a.size cap),(10,.slice (some ⟨gb,0,none⟩) a.size cap),(11,.int .i64 (a.size:Int)),(12,.int .i64 (i:Int)),(1,.func (.func f) #[] #[])])
  (fun i=> [.byt gb 5 a.size cap ((((ap a).take i).map g++(ap a).drop i).map (Value.int .u8))]) (fun i=>i≤a.size) (fun i=>a.size - i) 0 (by omega) ?_ ?_ ?_
 ·exact sB
 ·rw [ri];simp only [WP,Wv,Vq,WH];exact mS
 ·intro i hi;have hl:=az a;by_cases hlt:i<a.size
  ·have hil:i<(ap a).length:=by omega
   have hget:((((ap a).take i).map g++(ap a).drop i).map (Value.int .u8))[0+i*1]? =some (.int .u8 (ap a)[i]):=by
    rw [VG,show 0+i*1=i by omega,VW (by simp;omega)];simp [Xs (Nat.le_of_lt hil),Wz]
   repeat' first|apply ai;exact rfl;apply aa;exact rfl;exact rfl;exact hlt|apply ai;exact rfl;apply lR;exact rfl;exact .hd;exact hget|apply jJ;exact rfl;exact rfl;infer_instance;exact rfl;intro w hm;exact hf _ w|apply oH;exact rfl;exact rfl;exact .hd;exact rfl;simp;omega|apply ai;exact rfl;apply mC;exact rfl;exact rfl;constructor<;>omega|refine sT ?_|refine sM fun _=>?_|refine sC ?_ ?_<;>intro hb<;>try omega|fail
   refine ⟨i+1,by omega,by omega,?_,?_⟩
   ·exact sB
   ·rw [show 0+i*1=i by omega,xU g (Value.int .u8) (ap a) i hil];exact mS
  ·have e:i=a.size:=by omega
   subst e;repeat' (first|refine sT ?_|refine sM fun _=>?_|refine sC ?_ ?_<;>intro hb<;>try omega|fail)
   refine bp (.inl rfl) Tryz.results283 rfl (.refl _) ⟨gb,cap,rfl,?_⟩;rw [Wl (by omega),VY (by omega),VB]
def l4 (c:Int):Int:=if c<32∨126<c then 0 else 32
theorem RJ (c:Int) (w:World):aF Tryz.prog 284 [.int .u8 c] w (.int .u8 (l4 c)):=by
 refine aA Tryz.func284 rfl Tryz.ntmps284 rfl ?_;repeat' (first|refine sT ?_|refine sM fun _=>?_|refine sC ?_ ?_<;>intro hb<;>try omega|fail)
 all_goals ((refine rT1 ?_);((try simp only [← Int.not_lt] at*);simp_all [l4, -Int.not_lt, -Int.not_le]))
theorem MH (c:Int) (w:World):aF Tryz.prog 285 [.int .i32 c] w (.bool (decide (c=0))):=by
 refine aA Tryz.func285 rfl Tryz.ntmps285 rfl ?_;repeat' (first|refine sT ?_|refine sM fun _=>?_|refine sC ?_ ?_<;>intro hb<;>try omega|fail)
 all_goals ((refine rT1 ?_);rfl)
def lu (q:Int→Bool) (l:List Int):Int:=match l.findIdx? q with
 |some i=>(i:Int)
 |none=> -1
theorem GZ {q:Int→Bool} {l:List Int} {i:Nat} (h:i<l.length) (hq:q l[i]=true) (hno: ∀ j (h:j<l.length),j<i→q l[j]=false):lu q l=(i:Int):=by
 have:l.findIdx? q=some i:=by
  rw [V4];exact ⟨h,hq,fun j hj=>by simpa using hno j (by omega) hj⟩
 simp [lu,this]
theorem DP {q:Int→Bool} {l:List Int} (hno: ∀ j (h:j<l.length),q l[j]=false):lu q l= -1:=by
 have:l.findIdx? q=none:=by
  rw [Wm];intro x hx;obtain ⟨j,hj,rfl⟩:=WJ hx;exact hno j hj
 simp [lu,this]
theorem DJ (f:FuncId) [Callable Tryz.prog f] (q:Int→Bool) (hf: ∀ c w,aF Tryz.prog f [.int .i32 c] w (.bool (q c))) (a:ByteArray) (ha:a.size≤1000000) (hasc: ∀ i (h:i<a.size),(a[i]'h).toNat<128) (w:World):
 aF Tryz.prog 334 [.string a,.func (.func f) #[] #[],.bool true] w (.int .i64 (lu q (ap a))):=by
 refine aA Tryz.func334 rfl Tryz.ntmps334 rfl ?_;have hl:=az a;repeat' (first|apply CS;exact rfl;exact rfl;intro gi|refine sT ?_|refine sM fun _=>?_|refine sC ?_ ?_<;>intro hb<;>try omega|fail)
 refine fP (fun i:Nat=> [(0,.string a),(1,.func (.func f) #[] #[]),(2,.bool true),(10,.pointer (some ⟨gi,0,none⟩))])
  (fun i=> [.obj gi (.stringIter a i)]) (fun i=>i≤a.size∧ ∀ j (h:j<(ap a).length),j<i→q (ap a)[j]=false) (fun i=>a.size - i) 0 ⟨by omega,fun j _ h=>by omega⟩ ?_ ?_ ?_
 ·exact sB
 ·exact mS
 ·rintro i ⟨hi,hno⟩;repeat' (first|apply EJ;exact rfl;exact rfl;exact .hd;exact hasc i;all_goals intro hb|apply jJ;exact rfl;exact rfl;infer_instance;exact rfl;intro w hm;exact hf _ w|refine sT ?_|refine sM fun _=>?_|refine sC ?_ ?_<;>intro hb<;>try omega|fail)
  all_goals (try simp only [beq_true] at*)
  ·rename_i hlt;have hq:=hb;refine bp (.inl rfl) Tryz.results334 rfl (MSub.nil _) ?_;have h1:=uf a i hlt;rw [GZ (i:=i) (by omega) (by rw [h1];exact hq) hno]
  ·rename_i hlt;have hq:=hb;refine ⟨i+1,⟨by omega,fun j hj hji=> ?_⟩,by omega,?_,?_⟩
   ·by_cases e:j=i
    ·subst e;rw [uf a j hlt];exact hq
    ·exact hno j hj (by omega)
   ·exact sB
   ·exact mS
  ·have hge:=hb;refine bp (.inl rfl) Tryz.results334 rfl (MSub.nil _) ?_;rw [DP fun j hj=>hno j hj (by omega)]
theorem Er (f:FuncId) [Callable Tryz.prog f] (q:Int→Bool) (hf: ∀ c w,aF Tryz.prog f [.int .i32 c] w (.bool (q c))) (a:ByteArray) (ha:a.size≤1000000) (hasc: ∀ i (h:i<a.size),(a[i]'h).toNat<128) (w:World):
 aF Tryz.prog 282 [.string a,.func (.func f) #[] #[]] w (.int .i64 (lu q (ap a))):=by
 refine aA Tryz.func282 rfl Tryz.ntmps282 rfl ?_;repeat' (first|apply ag;exact rfl;exact rfl;intro w hm;exact DJ f q hf a ha hasc w|refine sT ?_|refine sM fun _=>?_|refine sC ?_ ?_<;>intro hb<;>try omega|fail)
 all_goals ((refine rT1 ?_);rfl)
def l3 (a:ByteArray):ByteArray:=⟨(((ap a).map l4).map fun n=>UInt8.ofNat n.toNat).toArray⟩
theorem qh (a:ByteArray):(l3 a).size=a.size:=by
 have:(l3 a).size=((ap a).map l4).length:=by simp [l3,ByteArray.size]
 rw [this];simp [az]
theorem wy (a:ByteArray):ap (l3 a)=(ap a).map l4:=by
 simp only [ap,l3,Xl];congr 1;funext c;simp only [Function.comp,l4];split<;>simp
theorem GY (q:Int→Bool) (l:List Int):decide (lu q l<0)=l.all fun c=> !q c:=by
 unfold lu
 cases h:l.findIdx? q with
 |none=>
  rw [Wm] at h;rw [V3];simpa using h
 |some i=>
  rw [V4] at h;obtain ⟨h1,h2,_⟩:=h;rw [V3];simp only [decide_eq_true_eq,WK];constructor
  ·intro h;omega
  ·intro h;have:=h _ (VL h1);rw [h2] at this;cases this
theorem F3 (a:ByteArray):decide (lu (fun c=>decide (c=0)) (ap (l3 a))<0)=p9 a:=by
 rw [GY,wy];simp only [ap,List.all_map,p9];congr 1;funext c;have e:(decide (l4 (c.toNat:Int)=0))= !(decide (32≤c.toNat) && decide (c.toNat≤126)):=by
  rw [V3];by_cases h:(c.toNat:Int)<32∨126<(c.toNat:Int)
  ·simp only [l4,if_pos h];simp;omega
  ·simp only [l4,if_neg h];simp;omega
 simp only [Function.comp,e,Bool.not_not]
theorem DE (a:ByteArray): ∀ i (h:i<(l3 a).size),((l3 a)[i]'h).toNat<128:=by
 intro i h;have h1:=uf (l3 a) i h;have h2:((l3 a)[i].toNat:Int)=l4 ((ap a)[i]'(by rw [az,← qh];exact h)):=by
  rw [← h1];simp [wy]
 have h3: ∀ x,l4 x=0∨l4 x=32:=fun x=>by unfold l4;split<;>simp
 rcases h3 ((ap a)[i]'(by rw [az,← qh];exact h)) with h4|h4<;>omega
theorem tN (a:ByteArray) (ha:a.size≤1000000) (w:World):aF Tryz.prog 213 [.string a] w (.bool (p9 a)):=by
 refine aA Tryz.func213 rfl Tryz.ntmps213 rfl ?_;repeat' (first|(with_reducible apply aJ (R:=fun v H=> ∃ gb cap,v= .slice (some ⟨gb,0,none⟩) a.size cap∧H= [.byt gb 5 a.size cap (((ap a).map l4).map (Value.int .u8))]));exact rfl;exact rfl;intro w hm;exact JE 284 l4 RJ a ha w;rintro v H' ⟨gb,cap,rfl,rfl⟩|apply ai;exact rfl;apply uQ;exact rfl;exact .hd;simp [az]|apply ag;exact rfl;exact rfl;intro w hm;exact Er 285 (fun c=>decide (c=0)) MH (l3 a) (by rw [qh];exact ha) (DE a) w|refine sT ?_|refine sM fun _=>?_|refine sC ?_ ?_<;>intro hb<;>try omega|fail)
 all_goals ((refine rT1 ?_);rw [← F3])
theorem GN (a:ByteArray) (w:World):aF Tryz.prog 158 [.string a] w (.int .i64 (kL a)):=by
 refine aA Tryz.func158 rfl Tryz.ntmps158 rfl ?_;repeat' (first|apply ag;exact rfl;exact rfl;intro w hm;exact tN a (by omega) w|refine sT ?_|refine sM fun _=>?_|refine sC ?_ ?_<;>intro hb<;>try omega|fail)
 ·(refine rT1 ?_);have:decide (256<a.size)=true:=by simp;omega
  simp [kL,this]
 all_goals
  (refine rT1 ?_);have h256:decide (256<a.size)=false:=by simp;omega
  simp only [kL,h256,hb,cond_true,cond_false]
theorem HS (v:Vl) (w:World):aF Tryz.prog 335 [.agg (eZ v).toArray] w (.int .i64 (rT v)):=by
 refine aA Tryz.func335 rfl Tryz.ntmps335 rfl ?_;repeat' (first|apply ag;exact rfl;exact rfl;intro w hm;exact GN v.text w|apply ai;exact rfl;exact H8 (b:=⟨0,0,aB⟩) rfl rfl|refine sT ?_|refine sM fun _=>?_|refine sC ?_ ?_<;>intro hb<;>try omega|fail)
 all_goals ((refine rT1 ?_);((try simp only [← Int.not_lt] at*);simp_all [rT,xL,eqV,aB, -Int.not_lt, -Int.not_le,← Int.not_lt]);try (by_cases h:v.num=0<;>simp_all))
theorem Cl (n:Nd) (w:World):aF Tryz.prog 354 [.agg (bu n).toArray] w (.int .i64 (bM n)):=by
 refine aA Tryz.func354 rfl Tryz.ntmps354 rfl ?_;repeat' (first|apply ag;exact rfl;exact rfl;intro w hm;exact HS n.v w|apply ag;exact rfl;exact rfl;intro w hm;exact lh n.rect w|apply ag;exact rfl;exact rfl;intro w hm;exact zR n.fn w|apply tr (T:=132) (fun D=> [.int .u8 n.kind,.int .u8 0,.int .i64 0,.string aB,.int .i64 0,.int .i64 0,.int .i64 0,.int .i64 0,.int .i64 0,.int .u8 (bif D 5 then n.fn else 0),.int .i64 (bif D 7 then n.n else 0)]) (xs' := [.int .u8 n.kind,.int .u8 0,.int .i64 0,.string aB,.int .i64 0,.int .i64 0,.int .i64 0,.int .i64 0,.int .i64 0,.int .u8 n.fn,.int .i64 n.n]);kernel_rfl;kernel_rfl;(first|exact .hd|exact .tl .hd);exact rfl;intro D hD;simp only [hD 5 (by decide),hD 7 (by decide),cond_true]|apply ai;exact rfl;(first|apply uR (b:=⟨n.kind,n.v,aZ,0,0,0⟩);exact rfl;exact rfl|apply uR (b:=⟨n.kind,bX,n.rect,0,0,0⟩);exact rfl;exact rfl|apply uR (b:=⟨n.kind,bX,aZ,0,0,0⟩);exact rfl;exact rfl|apply uR (b:=⟨n.kind,bX,aZ,n.op,0,0⟩);exact rfl;exact rfl|apply uR (b:=⟨n.kind,bX,aZ,0,n.fn,n.n⟩);exact rfl;exact rfl)|refine sT ?_|refine sG ?_|refine sM fun _=>?_|refine sC ?_ ?_<;>intro hb<;>try omega|fail)
 all_goals ((refine rT1 ?_);((try simp only [← Int.not_lt] at*);simp_all [bM,fS,dS,KC,OO, -Int.not_lt, -Int.not_le,← Int.not_lt]))
attribute [local irreducible] WA bg
structure Pc where
 m0:Int
 m1:Int
 v0:Int
 v1:Int
 ok:Bool
def Ct (p:Pc):List Value:= [.int .i64 p.m0,.int .i64 p.m1,.int .i64 p.v0,.int .i64 p.v1,.bool p.ok]
def mI (p:Pc) (c:Int):Pc:=⟨p.m0+1,p.m1,min (26*p.v0+(c - 65)+1) 1025,p.v1,p.ok && decide (p.m1=0)⟩
def iQ (p:Pc) (c:Int):Pc:=⟨p.m0,p.m1+1,p.v0,min (10*p.v1+(c - 48)) 1025,p.ok && (decide (c≠48)||decide (0<p.m1))⟩
structure Pc.Fit (p:Pc) (n:Int):Prop where
 m0:0≤p.m0∧p.m0≤n
 m1:0≤p.m1∧p.m1≤n
 v0:0≤p.v0∧p.v0≤1025
 v1:0≤p.v1∧p.v1≤1025
theorem DC (a b:Int):(if b<a then b else a)=min a b:=by omega
theorem Ng (p:Pc) (c:Int) (n:Int) (hf:p.Fit n) (hn:n≤1000000) (h1:65≤c) (h2:c≤90) (g:Nat) (R:List Blk) (w0:World):
 FnIn Tryz.prog 396 [.pointer (some ⟨g,0,none⟩),.int .u8 c,.bool true] w0 (.box g 478 (Ct p)::R) fun v H=>v= .tuple #[]∧H= .box g 478 (Ct (mI p c))::R:=by
 refine bE Tryz.func396 rfl Tryz.ntmps396 rfl ?_;obtain ⟨a1,a2⟩:=hf.m0;obtain ⟨a3,a4⟩:=hf.m1;obtain ⟨a5,a6⟩:=hf.v0;obtain ⟨a7,a8⟩:=hf.v1;have hwc:IntKind.u8.wrap (c - 65)=c - 65:=gG (by omega) (by omega);have hwc2:IntKind.i64.wrap (c - 65)=c - 65:=I64.wrap ⟨by omega,by omega⟩;repeat' (first|refine xJ (id:=1) (ι:=Bool) (fun _=> [(0,.pointer (some ⟨g,0,none⟩)),(1,.int .u8 c)]) (fun b=> .box g 478 [.int .i64 p.m0,.int .i64 p.m1,.int .i64 p.v0,.int .i64 p.v1,.bool b]::R) (fun b=>b=(p.ok && decide (p.m1=0))) ?_ ?_|refine zZP ?_|refine sM fun _=>?_|refine sC ?_ ?_<;>intro hb<;>try omega|exact cT|fail)
 ·(apply dH;rotate_left 1;exact sB;exact mS);rw [hb];rfl
 ·(apply dH;rotate_left 1;exact sB;exact mS);rw [hb];rfl
 rintro _ rfl;repeat' (first|refine kW (id:=2) 9 (.box g 478 [.int .i64 (p.m0+1),.int .i64 p.m1,.int .i64 p.v0,.int .i64 p.v1,.bool (p.ok && decide (p.m1=0))]::R) (by kernel_rfl) (by kernel_rfl) rfl ?_|refine kW (id:=3) 16 (.box g 478 [.int .i64 (p.m0+1),.int .i64 p.m1,.int .i64 (min (26*p.v0+(c - 65)+1) 1025),.int .i64 p.v1,.bool (p.ok && decide (p.m1=0))]::R) (by kernel_rfl) (by kernel_rfl) rfl ?_|apply fU (f:=60);exact rfl;decide+kernel;exact rfl;apply fj;exact rfl;exact rfl;exact hwc|apply fU (f:=60);exact rfl;decide+kernel;exact rfl;apply dD;exact rfl;exact hwc2|apply vX;exact rfl;exact rfl;exact .hd;exact rfl;exact rfl;(try rw [DC]);exact .refl _|refine zZP ?_|refine sM fun _=>?_|refine sC ?_ ?_<;>intro hb<;>try omega|exact cT|fail)
 exact iO (.inl rfl) rfl (.refl _) ⟨rfl,rfl⟩
theorem Nh (p:Pc) (c:Int) (n:Int) (hf:p.Fit n) (hn:n≤1000000) (h1:48≤c) (h2:c≤57) (g:Nat) (R:List Blk) (w0:World):
 FnIn Tryz.prog 396 [.pointer (some ⟨g,0,none⟩),.int .u8 c,.bool false] w0 (.box g 478 (Ct p)::R) fun v H=>v= .tuple #[]∧H= .box g 478 (Ct (iQ p c))::R:=by
 refine bE Tryz.func396 rfl Tryz.ntmps396 rfl ?_;obtain ⟨a1,a2⟩:=hf.m0;obtain ⟨a3,a4⟩:=hf.m1;obtain ⟨a5,a6⟩:=hf.v0;obtain ⟨a7,a8⟩:=hf.v1;have hwc:IntKind.u8.wrap (c - 48)=c - 48:=gG (by omega) (by omega);have hwc2:IntKind.i64.wrap (c - 48)=c - 48:=I64.wrap ⟨by omega,by omega⟩;repeat' (first|refine xJ (id:=4) (ι:=Bool) (fun _=> [(0,.pointer (some ⟨g,0,none⟩)),(1,.int .u8 c)]) (fun b=> .box g 478 [.int .i64 p.m0,.int .i64 p.m1,.int .i64 p.v0,.int .i64 p.v1,.bool b]::R) (fun b=>b=(p.ok && (decide (c≠48)||decide (0<p.m1)))) ?_ ?_|refine zZP ?_|refine sM fun _=>?_|refine sC ?_ ?_<;>intro hb<;>try omega|exact cT|fail)
 ·(apply dH;rotate_left 1;exact sB;exact mS);rename_i h3;rw [h3,decide_eq_true hb];rfl
 ·(apply dH;rotate_left 1;exact sB;exact mS);rename_i h3;rw [h3,decide_eq_false hb];rfl
 ·(apply dH;rotate_left 1;exact sB;exact mS);rw [hb];rfl
 rintro _ rfl;repeat' (first|refine kW (id:=5) 9 (.box g 478 [.int .i64 p.m0,.int .i64 (p.m1+1),.int .i64 p.v0,.int .i64 p.v1,.bool (p.ok && (decide (c≠48)||decide (0<p.m1)))]::R) (by kernel_rfl) (by kernel_rfl) rfl ?_|refine kW (id:=6) 15 (.box g 478 [.int .i64 p.m0,.int .i64 (p.m1+1),.int .i64 p.v0,.int .i64 (min (10*p.v1+(c - 48)) 1025),.bool (p.ok && (decide (c≠48)||decide (0<p.m1)))]::R) (by kernel_rfl) (by kernel_rfl) rfl ?_|apply fU (f:=60);exact rfl;decide+kernel;exact rfl;apply fj;exact rfl;exact rfl;exact hwc|apply fU (f:=60);exact rfl;decide+kernel;exact rfl;apply dD;exact rfl;exact hwc2|apply vX;exact rfl;exact rfl;exact .hd;exact rfl;exact rfl;(try rw [DC]);exact .refl _|refine zZP ?_|refine sM fun _=>?_|refine sC ?_ ?_<;>intro hb<;>try omega|exact cT|fail)
 exact iO (.inr rfl) rfl (.refl _) ⟨rfl,rfl⟩
def cN (p:Pc) (c:Int):Pc:=if 65≤upC c∧upC c≤90 then mI p (upC c) else if 48≤c∧c≤57 then iQ p c else ⟨p.m0,p.m1,p.v0,p.v1,false⟩
def pc0:Pc:=⟨0,0,0,0,true⟩
theorem I3 {p:Pc} {c:Int} (h1:97≤c) (h2:c≤122):cN p c=mI p (c - 32):=by
 have e:upC c=c - 32:=by rw [upC,if_pos ⟨h1,h2⟩]
 rw [cN,e,if_pos (by omega)]
theorem Me {p:Pc} {c:Int} (h1:65≤c) (h2:c≤90):cN p c=mI p c:=by
 have e:upC c=c:=by rw [upC,if_neg (by omega)]
 rw [cN,e,if_pos (by omega)]
theorem Kg {c:Int} (h: ¬ (97≤c∧c≤122)):upC c=c:=by rw [upC,if_neg h]
theorem yF {p:Pc} {c:Int} (h1:48≤c) (h2:c≤57):cN p c=iQ p c:=by
 rw [cN,Kg (by omega),if_neg (by omega),if_pos ⟨h1,h2⟩]
theorem BO {p:Pc} {c:Int} (h: ¬ (97≤c∧c≤122)) (h2: ¬ (65≤c∧c≤90)) (h3: ¬ (48≤c∧c≤57)):cN p c=⟨p.m0,p.m1,p.v0,p.v1,false⟩:=by
 rw [cN,Kg h,if_neg h2,if_neg h3]
theorem I4 {p:Pc} {n:Int} (h:p.Fit n) (c:Int):(cN p c).Fit (n+1):=by
 obtain ⟨⟨a1,a2⟩,⟨a3,a4⟩,⟨a5,a6⟩,⟨a7,a8⟩⟩:=h;unfold cN;split
 ·exact ⟨⟨by simp only [mI];omega,by simp only [mI];omega⟩,⟨a3,by simp only [mI];omega⟩,⟨by simp only [mI];omega,by simp only [mI];omega⟩,⟨a7,a8⟩⟩
 ·split
  ·exact ⟨⟨a1,by simp only [iQ];omega⟩,⟨by simp only [iQ];omega,by simp only [iQ];omega⟩,⟨a5,a6⟩,⟨by simp only [iQ];omega,by simp only [iQ];omega⟩⟩
  ·exact ⟨⟨a1,by dsimp only;omega⟩,⟨a3,by dsimp only;omega⟩,⟨a5,a6⟩,⟨a7,a8⟩⟩
def wR (l:List Int):Pc:=l.foldl cN pc0
theorem HE (a:ByteArray) (ha:a.size≤100000) (w:World):aF Tryz.prog 376 [.string a] w (.agg (Ct (wR (ap a))).toArray):=by
 refine aA Tryz.func376 rfl Tryz.ntmps376 rfl ?_;have hl:=az a;repeat' (first|refine zZE ?_|refine sM fun _=>?_|refine sC ?_ ?_<;>intro hb<;>try omega|exact cT|fail)
 rename_i g2 g3;refine ay [0,2,3,9] rfl (fun x:Nat × Pc=> [(10,.int .i64 (x.1:Int))]) (fun x=> [.box g3 478 (Ct x.2),.box g2 478 [.int .i64 0,.int .i64 0,.int .i64 0,.int .i64 0,.bool false]]) (fun x=>x.1≤a.size∧x.2.Fit x.1∧wR (ap a)=((ap a).drop x.1).foldl cN x.2) (fun x=>a.size - x.1) (0,pc0) ⟨Vt _,⟨⟨by decide,by decide⟩,⟨by decide,by decide⟩,⟨by decide,by decide⟩,⟨by decide,by decide⟩⟩,rfl⟩ sB mS ?_;rintro ⟨i,p⟩ ⟨hi,hf,hr⟩;dsimp only at hi hf hr ⊢;by_cases hlt:i<a.size
 ·rw [bA hlt,Wy] at hr;have hc:=vQ a i;generalize hcd:bat a i=c at hr hc;have hf2:=I4 hf c;repeat' (first|apply ai (d:=15);exact rfl;exact hcd ▸ bk rfl rfl hlt|apply ai (d:=38);exact rfl;apply fj;exact rfl;exact rfl;exact gG (by omega) (by omega)|apply ak (d:=41);exact rfl;exact rfl;(first|exact FnIn.msub (Ng p _ _ hf (by omega) (by omega) (by omega) _ _ _) (.pick pK (.refl _))|exact FnIn.msub (Nh p _ _ hf (by omega) (by omega) (by omega) _ _ _) (.pick pK (.refl _)));rintro _ _ ⟨rfl,rfl⟩|refine zZH ?_|refine sM fun _=>?_|refine sC ?_ ?_<;>intro hb<;>try omega|exact cT|fail)
  all_goals
   refine ⟨(i+1,cN p c),⟨hlt,by have:=hf2;simpa using this,hr⟩,(by dsimp only;omega),sB,sB,?_⟩;dsimp only
   first
   |rw [I3 (by omega) (by omega)];exact mS;done
   |rw [Me (by omega) (by omega)];exact mS;done
   |rw [yF (by omega) (by omega)];exact mS;done
   |rw [BO (by omega) (by omega) (by omega)];exact mS;done
 ·have e:i=a.size:=by omega
  subst e;rw [VY (by omega),List.foldl_nil] at hr;rw [hr];repeat' (first|refine zZE ?_|refine sM fun _=>?_|refine sC ?_ ?_<;>intro hb<;>try omega|exact cT|fail)
  exact IA (.inl rfl) rfl rfl .hd rfl (MSub.nil _) rfl
def CK (l:List Int):Int × Int × Int:=
 if (wR l).ok=false∨(wR l).m0=0∨(wR l).m1=0 then (0,0,4)
 else if valid (wR l).v0 (wR l).v1 then ((wR l).v0,(wR l).v1,0) else (0,0,3)
theorem Em (a:ByteArray) (ha:a.size≤100000) (w:World):aF Tryz.prog 344 [.string a] w (.tuple #[.agg #[.int .i64 (CK (ap a)).1,.int .i64 (CK (ap a)).2.1],.int .i64 (CK (ap a)).2.2]):=by
 refine aA Tryz.func344 rfl Tryz.ntmps344 rfl ?_;unfold CK;generalize hp:wR (ap a)=p;have hR:=HE a ha;rw [hp] at hR;repeat' (first|apply ag;exact rfl;exact rfl;intro w hm;exact hR w|apply ag;exact rfl;exact rfl;intro w hm;exact nH p.v0 p.v1 w|refine zZE ?_|refine sM fun _=>?_|refine sC ?_ ?_<;>intro hb<;>try omega|exact cT|fail)
 all_goals
  (refine nz ?_);simp_all
def bn (a b:Rf):Bool:=decide (a.row<b.row)||(decide (a.row=b.row) && decide (a.col<b.col))
theorem SI (a b:Rf) (w:World):aF Tryz.prog 121 [.agg (aw a).toArray,.agg (aw b).toArray] w (.bool (bn a b)):=by
 refine aA Tryz.func121 rfl Tryz.ntmps121 rfl ?_;repeat' (first|refine sT ?_|refine sM fun _=>?_|refine sC ?_ ?_<;>intro hb<;>try omega|exact cT|fail)
 all_goals ((refine rT1 ?_);((try simp only [← Int.not_lt] at*);simp_all [bn, -Int.not_lt, -Int.not_le,← Int.not_lt]))
theorem s5 (a:Rf) (w:World):aF Tryz.prog 27 [.agg (aw a).toArray] w (.agg (bz (dU a.col a.row)).toArray):=by
 refine aA Tryz.func27 rfl Tryz.ntmps27 rfl ?_;repeat' (first|refine sT ?_|refine sM fun _=>?_|refine sC ?_ ?_<;>intro hb<;>try omega|exact cT|fail)
 (refine eRC ?_)
 rfl
def kE (r:Rct) (a:Rf):Bool:=decide (r.c1≤a.col) && decide (a.col≤r.c2) && decide (r.r1≤a.row) && decide (a.row≤r.r2)
theorem JV (r:Rct) (a:Rf) (w:World):aF Tryz.prog 39 [.agg (bz r).toArray,.agg (aw a).toArray] w (.bool (kE r a)):=by
 refine aA Tryz.func39 rfl Tryz.ntmps39 rfl ?_;repeat' (first|refine sT ?_|refine sM fun _=>?_|refine sC ?_ ?_<;>intro hb<;>try omega|exact cT|fail)
 all_goals ((refine rT1 ?_);((try simp only [← Int.not_lt] at*);simp_all [kE, -Int.not_lt, -Int.not_le,← Int.not_lt]))
attribute [local irreducible] FnP RW WLI WR WT WX aV bi scp
def nr (a b:Rf):Int:=if bn a b then -1 else if bn b a then 1 else 0
end Go.SL
namespace Go.SL
open Go Go.Proofs
attribute [local irreducible] W WL WQ WG WA VOp thn blk aS FnAt FnIn
theorem kB (c r:Int) (w:World):aF Tryz.prog 53 [.agg #[.int .i64 c,.int .i64 r]] w (.bool (valid c r)):=by
 refine aA Tryz.func53 rfl Tryz.ntmps53 rfl ?_;repeat' (first|refine sT ?_|refine sM fun _=>?_|refine sC ?_ ?_<;>intro hb<;>try omega|fail)
 all_goals ((refine rT1 ?_);((try simp only [← Int.not_lt] at*);simp_all [valid, -Int.not_lt, -Int.not_le,← Int.not_lt]))
theorem IM (r:Rct) (w:World):aF Tryz.prog 311 [.agg (bz r).toArray] w (.agg #[.int .i64 r.c1,.int .i64 r.r1]):=by
 refine aA Tryz.func311 rfl Tryz.ntmps311 rfl ?_;repeat' (first|refine sT ?_|refine sM fun _=>?_|refine sC ?_ ?_<;>intro hb<;>try omega|fail)
 exact IA (.inl rfl) Tryz.results311 rfl pK rfl (MSub.nil _) rfl
theorem Oy (r:Rct) (w:World):aF Tryz.prog 312 [.agg (bz r).toArray] w (.agg #[.int .i64 r.c2,.int .i64 r.r2]):=by
 refine aA Tryz.func312 rfl Tryz.ntmps312 rfl ?_;repeat' (first|refine sT ?_|refine sM fun _=>?_|refine sC ?_ ?_<;>intro hb<;>try omega|fail)
 exact IA (.inl rfl) Tryz.results312 rfl pK rfl (MSub.nil _) rfl
theorem oT (r:Rct) (w:World):aF Tryz.prog 246 [.agg (bz r).toArray] w (.int .i64 (jr r)):=by
 refine aA Tryz.func246 rfl Tryz.ntmps246 rfl ?_;repeat' (first|apply ag;exact rfl;exact rfl;intro w hm;exact IM r w|apply ag;exact rfl;exact rfl;intro w hm;exact Oy r w|apply ag;exact rfl;exact rfl;intro w hm;exact kB r.c1 r.r1 w|apply ag;exact rfl;exact rfl;intro w hm;exact kB r.c2 r.r2 w|refine sT ?_|refine sM fun _=>?_|refine sC ?_ ?_<;>intro hb<;>try omega|fail)
 all_goals ((refine rT1 ?_);((try simp only [← Int.not_lt] at*);simp_all [jr,bW, -Int.not_lt, -Int.not_le,← Int.not_lt]))
theorem TP (r:Rct) (w:World):aF Tryz.prog 408 [.agg (bz r).toArray] w (.bool (OO r)):=by
 refine aA Tryz.func408 rfl Tryz.ntmps408 rfl ?_;repeat' (first|refine sT ?_|refine sM fun _=>?_|refine sC ?_ ?_<;>intro hb<;>try omega|fail)
 all_goals ((refine rT1 ?_);((try simp only [← Int.not_lt] at*);simp_all [OO, -Int.not_lt, -Int.not_le,← Int.not_lt]))
theorem wo (n:Nd) (w:World):aF Tryz.prog 245 [.agg (bu n).toArray] w (.int .i64 (below n)):=by
 refine aA Tryz.func245 rfl Tryz.ntmps245 rfl ?_;repeat' (first|refine sT ?_|refine sM fun _=>?_|refine sC ?_ ?_<;>intro hb<;>try omega|fail)
 all_goals ((refine rT1 ?_);simp_all [below])
theorem FE (b:ByteArray) (hs:b.size≤256) (w:World):aF Tryz.prog 426 [.string b] w (.bool (p9 b)):=by
 refine aA Tryz.func426 rfl Tryz.ntmps426 rfl ?_;have hsz:b.data.toList.length=b.size:=by simp
 repeat' first|refine zZE ?_|refine sM fun _=>?_|refine sC ?_ ?_<;>intro hb<;>try omega|fail
 refine fP (fun i:Nat=> [(0,.string b),(3,.int .i64 (i:Int))]) (fun _=> []) (fun i=>i≤b.size∧p9 b=(b.data.toList.drop i).all fun c=>decide (32≤c.toNat) && decide (c.toNat≤126)) (fun i=>b.size - i) 0 ⟨by omega,rfl⟩ ?_ ?_ ?_
 ·exact sB
 ·exact mS
 ·rintro i ⟨hi,hrec⟩;by_cases hlt:i<b.size
  ·rw [Vy (by omega),XM] at hrec;have hbi:b.data.toList[i]'(by omega)=b[i]'hlt:=by simp [ByteArray.getElem_eq_getElem_data]
   rw [hbi] at hrec;repeat' (first|apply ai;exact rfl;apply v6;exact rfl;exact rfl;exact hlt|apply ai;exact rfl;apply jn;exact rfl;exact rfl;simp only [maxLen];omega|refine zZE ?_|refine sM fun _=>?_|refine sC ?_ ?_<;>intro hb<;>try omega|fail)
   ·(refine rT1 ?_);rw [hrec,decide_eq_false (by omega)]
    rfl
   ·(refine rT1 ?_);rw [hrec,decide_eq_false (p:=b[i].toNat≤126) (by omega),Xd]
    rfl
   ·refine ⟨i+1,⟨by omega,?_⟩,by omega,?_,?_⟩
    ·rw [hrec,decide_eq_true (by omega),decide_eq_true (by omega)]
     rfl
    ·exact sB
    ·exact mS
  ·have e:i=b.size:=by omega
   subst e;repeat' (first|refine zZE ?_|refine sM fun _=>?_|refine sC ?_ ?_<;>intro hb<;>try omega|fail)
   (refine rT1 ?_);rw [hrec,VY (by omega)]
   rfl
theorem FH (b:ByteArray) (w:World):aF Tryz.prog 417 [.string b] w (.int .i64 (kL b)):=by
 refine aA Tryz.func417 rfl Tryz.ntmps417 rfl ?_;repeat' (first|apply ag;exact rfl;exact rfl;intro w hm;exact FE b (by omega) w|refine sT ?_|refine sM fun _=>?_|refine sC ?_ ?_<;>intro hb<;>try omega|fail)
 all_goals ((refine rT1 ?_);(first|rw [kL,decide_eq_true (by omega:256<b.size)]|rw [kL,decide_eq_false (by omega: ¬ 256<b.size)]);simp_all)
theorem BJ (v:Vl) (hn: -9223372036854775808≤v.num) (w:World):aF Tryz.prog 403 [.agg (eZ v).toArray] w (.int .i64 (rT v)):=by
 refine aA Tryz.func403 rfl Tryz.ntmps403 rfl ?_;have h1:(v.num≠ -9223372036854775808)↔ -9223372036854775807≤v.num:=by omega
 have h2:v.num / 2=0↔(v.num=0∨v.num=1):=by omega
 repeat' first|apply ag;exact rfl;exact rfl;intro w hm;exact FH v.text w|refine sT ?_|refine sM fun _=>?_|refine sC ?_ ?_<;>intro hb<;>try omega|fail
 all_goals ((refine rT1 ?_);simp only [rT,xL,h1,h2,aB];(try simp only [← Int.not_lt] at*);simp_all [-Int.not_lt, -Int.not_le,← Int.not_lt])
end Go.SL
namespace Go.Proofs
open Go Go.Shelf Go.RowKit Go.Lib Go.Sort Go.SL
theorem Tryz.lessX (a b:Rf) (W:World):Calls Tryz.prog 121 #[.agg #[.int .i64 a.col,.int .i64 a.row],.agg #[.int .i64 b.col,.int .i64 b.row]] W fun e w' =>e= .returned (.bool (bn a b))∧ ∃ q os',w' =grow (W.drewN q) os' :=by
 go_enter Tryz.func121,Tryz.ntmps121
 go_wp2
 all_goals
  rename_i h
  go_ret
  refine ⟨?_,0,_,by rw [alloc_eq_grow,alloc_eq_grow,grow_grow];rfl⟩
  first
   |congr 2;simp_all [bn];done
   |congr 2;simp only [bn];simp;omega
def Lays (W w' :World):Prop:= ∃ q os',w' =grow (W.drewN q) os'
theorem Lays.refl (W:World):Lays W W:=⟨0,#[],by simp [grow,World.drewN]⟩
theorem Lays.alloc {W X:World} (h:Lays W X) (o:Obj):Lays W (X.alloc o):=by
 obtain ⟨q,os,rfl⟩:=h;refine ⟨q,os.push o,?_⟩;show ({ W with heap:=(W.heap++os).push o,drawn:=W.drawn+q }:World)={ W with heap:=W.heap++os.push o,drawn:=W.drawn+q };rw [Array.append_push]
theorem Lays.grow {W X:World} (h:Lays W X) (q2:Nat) (os2:Array Obj):Lays W (Go.Sort.grow (X.drewN q2) os2):=by
 obtain ⟨q,os,rfl⟩:=h;refine ⟨q+q2,os++os2,?_⟩;show ({ W with heap:=(W.heap++os)++os2,drawn:=W.drawn+q+q2 }:World)={ W with heap:=W.heap++(os++os2),drawn:=W.drawn+(q+q2) };rw [Array.append_assoc,WF]
theorem Tryz.orderX (a b:Rf) (W:World):Calls Tryz.prog 71 #[.agg #[.int .i64 a.col,.int .i64 a.row],.agg #[.int .i64 b.col,.int .i64 b.row]] W fun e w' =>e= .returned (.int .i64 (nr a b))∧ ∃ q os',w' =grow (W.drewN q) os' :=by
 unfold nr;have c1: ∀ q os,(grow (((W.alloc (Obj.cells #[Value.int IntKind.i64 a.col,Value.int IntKind.i64 a.row] 35)).alloc (Obj.cells #[Value.int IntKind.i64 b.col,Value.int IntKind.i64 b.row] 35)).drewN q) os).cell? ⟨W.heap.size,0,none⟩=some (.int .i64 a.col):=fun q os=>by
  refine cell_grown (by show W.heap.size<((W.heap.push _).push _).size;rw [Xh,Xh];omega) ?_ q os;have e: ∀ o1 o2:Obj,((W.alloc o1).alloc o2).heap[W.heap.size]? =some o1:=fun o1 o2=>by
   show ((W.heap.push o1).push o2)[W.heap.size]? =_;rw [Xw,if_neg (by rw [Xh];omega),Xw,if_pos rfl]
  simp only [World.cell?,e]
  rfl
 have c2: ∀ q os,(grow (((W.alloc (Obj.cells #[Value.int IntKind.i64 a.col,Value.int IntKind.i64 a.row] 35)).alloc (Obj.cells #[Value.int IntKind.i64 b.col,Value.int IntKind.i64 b.row] 35)).drewN q) os).cell? ⟨W.heap.size,1,none⟩=some (.int .i64 a.row):=fun q os=>by
  refine cell_grown (by show W.heap.size<((W.heap.push _).push _).size;rw [Xh,Xh];omega) ?_ q os;have e: ∀ o1 o2:Obj,((W.alloc o1).alloc o2).heap[W.heap.size]? =some o1:=fun o1 o2=>by
   show ((W.heap.push o1).push o2)[W.heap.size]? =_;rw [Xw,if_neg (by rw [Xh];omega),Xw,if_pos rfl]
  simp only [World.cell?,e]
  rfl
 have c3: ∀ q os,(grow (((W.alloc (Obj.cells #[Value.int IntKind.i64 a.col,Value.int IntKind.i64 a.row] 35)).alloc (Obj.cells #[Value.int IntKind.i64 b.col,Value.int IntKind.i64 b.row] 35)).drewN q) os).cell? ⟨W.heap.size+1,0,none⟩=some (.int .i64 b.col):=fun q os=>by
  refine cell_grown (by show W.heap.size+1<((W.heap.push _).push _).size;rw [Xh,Xh];omega) ?_ q os;have e: ∀ o1 o2:Obj,((W.alloc o1).alloc o2).heap[W.heap.size+1]? =some o2:=fun o1 o2=>by
   show ((W.heap.push o1).push o2)[W.heap.size+1]? =_;rw [Xw,if_pos (by rw [Xh])]
  simp only [World.cell?,e]
  rfl
 have c4: ∀ q os,(grow (((W.alloc (Obj.cells #[Value.int IntKind.i64 a.col,Value.int IntKind.i64 a.row] 35)).alloc (Obj.cells #[Value.int IntKind.i64 b.col,Value.int IntKind.i64 b.row] 35)).drewN q) os).cell? ⟨W.heap.size+1,1,none⟩=some (.int .i64 b.row):=fun q os=>by
  refine cell_grown (by show W.heap.size+1<((W.heap.push _).push _).size;rw [Xh,Xh];omega) ?_ q os;have e: ∀ o1 o2:Obj,((W.alloc o1).alloc o2).heap[W.heap.size+1]? =some o2:=fun o1 o2=>by
   show ((W.heap.push o1).push o2)[W.heap.size+1]? =_;rw [Xw,if_pos (by rw [Xh])]
  simp only [World.cell?,e]
  rfl
 go_enter Tryz.func71,Tryz.ntmps71
 go_wp2_with (go_at_call 121;refine (Tryz.lessX _ _ _).mono ?_;rintro e w' ⟨rfl,q,os,rfl⟩)
 all_goals
  go_ret
  exact ⟨rfl,by first|exact (((Lays.refl W).alloc _).alloc _).grow _ _|exact ((((Lays.refl W).alloc _).alloc _).grow _ _).grow _ _⟩
end Go.Proofs
namespace Go.SL
open Go Go.Proofs
attribute [local irreducible] W WL WQ WG WA VOp thn blk aS FnAt FnIn
theorem HT {v:Vl} (h:rT v=0) (hk:v.kind=4):1≤v.num∧v.num≤6:=by
 simp only [rT,xL,hk] at h;cases h1:(decide (v.text=aB) && decide (1≤v.num) && decide (v.num≤6))
 ·simp [h1] at h
 ·simp only [VP,decide_eq_true_eq] at h1;exact ⟨h1.1.2,h1.2⟩
theorem JU (v:Vl) (hn: -9223372036854775808≤v.num) (w:World):aF Tryz.prog 407 [.agg (eZ v).toArray] w (.bool (KC v)):=by
 refine aA Tryz.func407 rfl Tryz.ntmps407 rfl ?_;have hE:=HT (v:=v);repeat' (first|apply ag;exact rfl;exact rfl;intro w hm;exact BJ v hn w|refine sT ?_|refine sM fun _=>?_|refine sC ?_ ?_<;>intro hb<;>try omega|fail)
 all_goals ((refine rT1 ?_);unfold KC;(try have hE' :=hE (by assumption) (by assumption));(repeat' split)<;>simp_all<;>first|omega|by_cases h6:v.num=6<;>simp [h6]<;>omega)
theorem PH (a b:Nd):eqN a b=eqN b a:=by
 rw [DV,DV];by_cases h:a=b
 ·subst h;rfl
 ·rw [decide_eq_false h,decide_eq_false fun e=>h e.symm]
theorem jZ {w0:World} {s:aC} {H:List Blk} {ty t' :TypeId} {x y:Operand} {a b:Nd} (hx:ev s x=some (.agg (bu b).toArray)) (hy:ev s y=some (.agg (bu a).toArray)):VOp Tryz.prog w0 s H (.binOp .eql 132 x y t') ty (.bool (eqN a b)):=by
 rw [PH];exact TB hx hy
def fJ (n:Nd):Bool:=fS n && eqN n (dS n)
theorem lg (n:Nd) (hn: -9223372036854775808≤n.v.num) (w:World):aF Tryz.prog 389 [.agg (bu n).toArray] w (.bool (fJ n)):=by
 refine aA Tryz.func389 rfl Tryz.ntmps389 rfl ?_;repeat' (first|apply ag;exact rfl;exact rfl;intro w hm;exact JU n.v hn w|apply dw;exact rfl;exact rfl;intro w hm;exact oT n.rect w|apply dw;exact rfl;exact rfl;intro w hm;exact TP n.rect w|apply tr (T:=132) (fun D=> [.int .u8 n.kind,.int .u8 0,.int .i64 0,.string aB,.int .i64 0,.int .i64 0,.int .i64 0,.int .i64 0,.int .i64 0,.int .u8 (bif D 5 then n.fn else 0),.int .i64 (bif D 7 then n.n else 0)]) (xs' := [.int .u8 n.kind,.int .u8 0,.int .i64 0,.string aB,.int .i64 0,.int .i64 0,.int .i64 0,.int .i64 0,.int .i64 0,.int .u8 n.fn,.int .i64 n.n]);decide+kernel;decide+kernel;(first|exact .hd|exact .tl .hd);exact rfl;intro D hD;simp only [hD 5 (by decide),hD 7 (by decide),cond_true]|apply ai;exact rfl;(first|apply jZ (b:=⟨n.kind,n.v,aZ,0,0,0⟩);exact rfl;exact rfl|apply jZ (b:=⟨n.kind,bX,n.rect,0,0,0⟩);exact rfl;exact rfl|apply jZ (b:=⟨n.kind,bX,aZ,0,0,0⟩);exact rfl;exact rfl|apply jZ (b:=⟨n.kind,bX,aZ,n.op,0,0⟩);exact rfl;exact rfl|apply jZ (b:=⟨n.kind,bX,aZ,0,n.fn,n.n⟩);exact rfl;exact rfl)|apply aY;exact rfl;(first|apply jZ (b:=⟨n.kind,n.v,aZ,0,0,0⟩);exact rfl;exact rfl|apply jZ (b:=⟨n.kind,bX,n.rect,0,0,0⟩);exact rfl;exact rfl|apply jZ (b:=⟨n.kind,bX,aZ,0,0,0⟩);exact rfl;exact rfl|apply jZ (b:=⟨n.kind,bX,aZ,n.op,0,0⟩);exact rfl;exact rfl|apply jZ (b:=⟨n.kind,bX,aZ,0,n.fn,n.n⟩);exact rfl;exact rfl)|refine sT ?_|refine sQ ?_|refine sD ?_|refine sG ?_|refine sM fun _=>?_|refine sC ?_ ?_<;>intro hb<;>try omega|refine sCQ ?_ ?_<;>intro hb<;>try omega|fail)
 all_goals ((refine rT1 ?_);((try simp only [← Int.not_lt] at*);simp_all [fJ,fS,dS,OO, -Int.not_lt, -Int.not_le,← Int.not_lt]))
end Go.SL
namespace Go.Proofs
open Go Go.Shelf Go.RowKit Go.Lib Go.Sort Go.SL
def mz (a b:Int):Int:=if a<b then -1 else if b<a then 1 else 0
def orI (a b c d:Int):Int:=if a≠0 then a else if b≠0 then b else if c≠0 then c else d
def cU (a b:Rct):Int:=orI (mz a.r1 b.r1) (mz a.c1 b.c1) (mz a.r2 b.r2) (mz a.c2 b.c2)
end Go.Proofs
namespace Go.SL
open Go
theorem yE {p:Pc} {c:Int} (h:cz c=true):cN p c=mI p (upC c):=by
 simp only [cz,Xt,VP,decide_eq_true_eq] at h;rw [cN,if_pos];unfold upC;split<;>omega
theorem jk {p:Pc} {c:Int} (h:aL c=true):cN p c=iQ p c:=by
 simp only [aL,VP,decide_eq_true_eq] at h;exact yF h.1 h.2
theorem oX {p:Pc} {c:Int} (h:cz c=false) (h2:aL c=false):(cN p c).ok=false:=by
 simp only [cz,aL,Bool.or_eq_false_iff,Xp,decide_eq_false_iff_not] at h h2;rw [BO (by omega) (by omega) (by omega)]
theorem I5 {p:Pc} (h:p.ok=false) (c:Int):(cN p c).ok=false:=by
 unfold cN;split
 ·simp [mI,h]
 ·split
  ·simp [iQ,h]
  ·rfl
theorem qt: ∀ (l:List Int) {p:Pc},p.ok=false→(l.foldl cN p).ok=false
 | [],_,h=>h
 |c::r,_,h=>qt r (I5 h c)
theorem GR: ∀ (l:List Int) (p:Pc),(∀ c∈l,cz c=true)→p.m1=0→l.foldl cN p=⟨p.m0+l.length,0,bI l p.v0,p.v1,p.ok⟩
 | [],p,_,h=>by obtain ⟨a,b,c,d,e⟩:=p;simp only at h;subst h;simp [bI]
 |c::r,p,hl,h=>by
  rw [Wy,yE (hl c Vr),GR r _ (fun d hd=>hl d (Vv _ hd)) (by simp [mI,h])];simp only [mI,h,bI,decide_true,WO,Vw,Pc.mk.injEq,true_and,and_true];refine ⟨by push_cast;omega,?_⟩;rw [show 26*p.v0+(upC c - 65)+1=26*p.v0+(upC c - 64) by omega]
theorem zm: ∀ (l:List Int) (p:Pc),(∀ c∈l,aL c=true)→0<p.m1→l.foldl cN p=⟨p.m0,p.m1+l.length,p.v0,pH l p.v1,p.ok⟩
 | [],p,_,_=>by obtain ⟨a,b,c,d,e⟩:=p;simp [pH]
 |c::r,p,hl,h=>by
  rw [Wy,jk (hl c Vr),zm r _ (fun d hd=>hl d (Vv _ hd)) (by simp [iQ];omega)];simp only [iQ,h,pH,decide_true,Bool.or_true,WO,Vw,Pc.mk.injEq,true_and,and_true]
  push_cast;omega
theorem sK: ∀ (l:List Int) (p:Pc),(l.all aL=false)→0<p.m1→(l.foldl cN p).ok=false
 | [],_,h,_=>by simp at h
 |c::r,p,h,hm=>by
  rw [Wy];cases hd:aL c
  ·apply qt;cases hl:cz c
   ·exact oX hl hd
   ·rw [yE hl];simp only [mI];rw [decide_eq_false (by omega)];simp
  ·rw [XM,hd,Wp] at h;apply sK r _ h;rw [jk hd];simp only [iQ];omega
theorem o8: ∀ (l:List Int) {v:Int},(∀ c∈l,cz c=true)→0≤v→(l≠ []∨1≤v)→1≤bI l v
 | [],v,_,_,h=>by rcases h with h|h;exact absurd rfl h;exact h
 |c::r,v,hl,h0,_=>by
  have hc:=hl c Vr;simp only [cz,Xt,VP,decide_eq_true_eq] at hc;have hu:65≤upC c:=by unfold upC;split<;>omega
  simp only [bI];exact o8 r (fun d hd=>hl d (Vv _ hd)) (by omega) (.inr (by omega))
theorem FA: ∀ (l:List Int) {v:Int},(∀ c∈l,aL c=true)→1≤v→1≤pH l v
 | [],_,_,h=>h
 |c::r,v,hl,h=>by
  have hc:=hl c Vr;simp only [aL,VP,decide_eq_true_eq] at hc;simp only [pH];exact FA r (fun d hd=>hl d (Vv _ hd)) (by omega)
theorem rH {p:Int→Bool}: ∀ {l:List Int} {c:Int},c∈l.takeWhile p→p c=true
 |d::r,c,h=>by
  rw [List.takeWhile_cons] at h;split at h
  ·rename_i hp;rcases VN.1 h with rfl|h
   ·exact hp
   ·exact rH h
  ·cases h
theorem P8 (l:List Int):CK l=cX l:=by
 unfold CK cX;dsimp only;generalize ha:l.takeWhile cz=a;generalize hd:l.dropWhile cz=d;have hl:l=a++d:=by rw [← ha,← hd,List.takeWhile_append_dropWhile]
 have hal: ∀ c∈a,cz c=true:=fun c hc=>rH (ha ▸ hc);have hp:wR l=d.foldl cN ⟨a.length,0,bI a 0,0,true⟩:=by
  rw [wR,hl,Yb,GR a pc0 hal rfl];simp [pc0]
 rw [hp]
 cases d with
 |nil=>simp
 |cons c r=>
  have hcl:cz c=false:=by
   cases hq:cz c
   ·rfl
   ·exfalso;have hne:l.dropWhile cz≠ []:=by rw [hd];simp
    have:=List.head_dropWhile_not cz hne;simp only [hd,List.head_cons] at this;rw [hq] at this;cases this
  rw [Wy];by_cases ha0:a= []
  ·subst ha0;have:(List.foldl cN (cN ⟨(([]:List Int).length:Int),0,bI [] 0,0,true⟩ c) r).ok=false∨(List.foldl cN (cN ⟨(([]:List Int).length:Int),0,bI [] 0,0,true⟩ c) r).m0=0∨(List.foldl cN (cN ⟨(([]:List Int).length:Int),0,bI [] 0,0,true⟩ c) r).m1=0:=by
    cases hdc:aL c
    ·exact .inl (qt r (oX hcl hdc))
    ·cases hr:r.all aL
     ·left
      apply sK r _ hr;rw [jk hdc];simp [iQ]
     ·right;left
      rw [zm r _ (by simpa using hr) (by rw [jk hdc];simp [iQ])];rw [jk hdc];simp [iQ]
   rw [if_pos this,if_pos (show (([]:List Int)= []∨_) from .inl rfl)]
  ·have hlen:0<(a.length:Int):=by
    have:=XR.2 ha0;omega
   cases hdc:aL c
   ·rw [if_pos (.inl (qt r (oX hcl hdc))),if_pos (.inr (.inr (.inr (by simp [hdc]))))]
   ·rw [jk hdc];by_cases h48:c=48
    ·rw [if_pos (.inl (qt r (by simp [iQ,h48]))),if_pos (.inr (.inr (.inl (by simp [h48]))))]
    ·cases hr:r.all aL
     ·rw [if_pos (.inl (sK r _ hr (by simp [iQ]))),if_pos (.inr (.inr (.inr (by simp [hr]))))]
     ·have hr' : ∀ x∈r,aL x=true:=by simpa using hr
      have hp2:List.foldl cN (iQ ⟨a.length,0,bI a 0,0,true⟩ c) r=⟨a.length,1+r.length,bI a 0,pH (c::r) 0,true⟩:=by
       rw [zm r _ hr' (by simp [iQ])];simp [iQ,h48,pH]
      rw [hp2,if_neg (c:=(a= []∨_)) (by simp [ha0,h48,hdc,hr])];have hd2:=hdc;simp only [aL,VP,decide_eq_true_eq] at hd2;have h1:=o8 a hal (XS 0) (.inl ha0);have h3:1≤pH (c::r) 0:=FA r (v:=min (10*0+(c - 48)) 1025) hr' (by omega);generalize pH (c::r) 0=u at h3 ⊢;split
      ·rename_i h;exfalso;rcases h with h|h|h
       ·cases h
       ·exact absurd h (by show ¬ ((a.length:Int)=0);omega)
       ·exact absurd h (by show ¬ (1+(r.length:Int)=0);omega)
      ·by_cases hb:1024<bI a 0∨1024<u
       ·rw [if_pos hb,if_neg];simp only [valid,VP,decide_eq_true_eq];omega
       ·rw [if_neg hb,if_pos];simp only [valid,VP,decide_eq_true_eq];omega
end Go.SL
namespace Go.Proofs
open Go Go.Shelf Go.RowKit Go.Lib Go.Sort Go.SL
def Tryz.sortRc_ren:Go.Shelf.Ren:=⟨fun|6=>124|15=>111|14=>197|28=>178|29=>179|20=>256|21=>257|22=>258|23=>259|24=>260|25=>261|26=>262|27=>263|46=>323|47=>248|48=>249|49=>324|50=>325|57=>369|n=>n,fun|22=>77|24=>53|25=>224|3=>3|39=>75|0=>0|53=>279|55=>24|4=>4|46=>272|45=>271|50=>105|5=>5|9=>9|66=>352|70=>356|76=>423|77=>424|n=>n,fun|n=>n⟩
theorem Tryz.sortRc:Go.Proofs.SlLaysF0.n6 Tryz.prog Tryz.sortRc_ren:={
 mixed:=by kernel_rfl
 f6:=⟨Tryz.f124.name,by decide,Tryz.func124.trans (congrArg some (by kernel_rfl))⟩
 f14:=⟨Tryz.f197.name,by decide,Tryz.func197.trans (congrArg some (by kernel_rfl))⟩
 f15:=Tryz.func111.trans (congrArg some (by kernel_rfl))
 f20:=⟨Tryz.f256.name,by decide,Tryz.func256.trans (congrArg some (by kernel_rfl))⟩
 f21:=⟨Tryz.f257.name,by decide,Tryz.func257.trans (congrArg some (by kernel_rfl))⟩
 f22:=⟨Tryz.f258.name,by decide,Tryz.func258.trans (congrArg some (by kernel_rfl))⟩
 f23:=⟨Tryz.f259.name,by decide,Tryz.func259.trans (congrArg some (by kernel_rfl))⟩
 f24:=⟨Tryz.f260.name,by decide,Tryz.func260.trans (congrArg some (by kernel_rfl))⟩
 f25:=⟨Tryz.f261.name,by decide,Tryz.func261.trans (congrArg some (by kernel_rfl))⟩
 f26:=⟨Tryz.f262.name,by decide,Tryz.func262.trans (congrArg some (by kernel_rfl))⟩
 f27:=⟨Tryz.f263.name,by decide,Tryz.func263.trans (congrArg some (by kernel_rfl))⟩
 f28:=Tryz.func178.trans (congrArg some (by kernel_rfl))
 f29:=Tryz.func179.trans (congrArg some (by kernel_rfl))
 f46:=⟨Tryz.f323.name,by decide,Tryz.func323.trans (congrArg some (by kernel_rfl))⟩
 f47:=Tryz.func248.trans (congrArg some (by kernel_rfl))
 f48:=Tryz.func249.trans (congrArg some (by kernel_rfl))
 f49:=⟨Tryz.f324.name,by decide,Tryz.func324.trans (congrArg some (by kernel_rfl))⟩
 f50:=⟨Tryz.f325.name,by decide,Tryz.func325.trans (congrArg some (by kernel_rfl))⟩
 f57:=⟨Tryz.f369.name,by decide,Tryz.func369.trans (congrArg some (by kernel_rfl))⟩
 t0:=Tryz.underlying0
 a0:=Tryz.isAgg0
 z0:=Tryz.sizeOf0
 v0:=Tryz.zeroValue0
 t3:=Tryz.underlying3
 a3:=Tryz.isAgg3
 z3:=Tryz.sizeOf3
 v3:=Tryz.zeroValue3
 t4:=Tryz.underlying4
 a4:=Tryz.isAgg4
 z4:=Tryz.sizeOf4
 v4:=Tryz.zeroValue4
 t5:=Tryz.underlying5
 a5:=Tryz.isAgg5
 z5:=Tryz.sizeOf5
 v5:=Tryz.zeroValue5
 t9:=Tryz.underlying9
 a9:=Tryz.isAgg9
 z9:=Tryz.sizeOf9
 v9:=Tryz.zeroValue9
 t22:=Tryz.underlying77
 a22:=Tryz.isAgg77
 z22:=Tryz.sizeOf77
 v22:=Tryz.zeroValue77
 t25:=Tryz.underlying224
 a25:=Tryz.isAgg224
 z25:=Tryz.sizeOf224
 v25:=Tryz.zeroValue224
 t39:=Tryz.underlying75
 a39:=Tryz.isAgg75
 z39:=Tryz.sizeOf75
 v39:=Tryz.zeroValue75
 t45:=Tryz.underlying271
 a45:=Tryz.isAgg271
 z45:=Tryz.sizeOf271
 v45:=Tryz.zeroValue271
 t46:=Tryz.underlying272
 a46:=Tryz.isAgg272
 z46:=Tryz.sizeOf272
 v46:=Tryz.zeroValue272
 t50:=Tryz.underlying105
 a50:=Tryz.isAgg105
 z50:=Tryz.sizeOf105
 v50:=Tryz.zeroValue105
 t53:=Tryz.underlying279
 a53:=Tryz.isAgg279
 z53:=Tryz.sizeOf279
 v53:=Tryz.zeroValue279
 t55:=Tryz.underlying24
 a55:=Tryz.isAgg24
 z55:=Tryz.sizeOf24
 v55:=Tryz.zeroValue24
 t66:=Tryz.underlying352
 a66:=Tryz.isAgg352
 z66:=Tryz.sizeOf352
 v66:=Tryz.zeroValue352
 t70:=Tryz.underlying356
 a70:=Tryz.isAgg356
 z70:=Tryz.sizeOf356
 v70:=Tryz.zeroValue356
 t76:=Tryz.underlying423
 a76:=Tryz.isAgg423
 z76:=Tryz.sizeOf423
 v76:=Tryz.zeroValue423
 t77:=Tryz.underlying424
 a77:=Tryz.isAgg424
 z77:=Tryz.sizeOf424
 v77:=Tryz.zeroValue424 }
end Go.Proofs
namespace Go.SL
open Go Go.Proofs Go.Sort Go.Shelf
def sortRc (L:List Rct):List Rct:=L.mergeSort fun x y=> !(ltOf cU y x)
end Go.SL
namespace Go.Proofs
open Go Go.Shelf Go.RowKit Go.Lib Go.Sort Go.SL
def Tryz.sortRf_ren:Go.Shelf.Ren:=⟨fun|6=>70|15=>111|14=>120|28=>178|29=>179|20=>183|21=>184|22=>185|23=>186|24=>187|25=>188|26=>189|27=>190|46=>252|47=>248|48=>249|49=>253|50=>254|57=>314|n=>n,fun|22=>23|24=>35|25=>143|3=>3|39=>75|0=>0|53=>279|55=>24|4=>4|46=>272|45=>271|50=>105|5=>5|9=>9|66=>352|70=>356|76=>423|77=>424|n=>n,fun|n=>n⟩
theorem Tryz.sortRf:Go.Proofs.SlLaysF0.n6 Tryz.prog Tryz.sortRf_ren:={
 mixed:=by kernel_rfl
 f6:=⟨Tryz.f70.name,by decide,Tryz.func70.trans (congrArg some (by kernel_rfl))⟩
 f14:=⟨Tryz.f120.name,by decide,Tryz.func120.trans (congrArg some (by kernel_rfl))⟩
 f15:=Tryz.func111.trans (congrArg some (by kernel_rfl))
 f20:=⟨Tryz.f183.name,by decide,Tryz.func183.trans (congrArg some (by kernel_rfl))⟩
 f21:=⟨Tryz.f184.name,by decide,Tryz.func184.trans (congrArg some (by kernel_rfl))⟩
 f22:=⟨Tryz.f185.name,by decide,Tryz.func185.trans (congrArg some (by kernel_rfl))⟩
 f23:=⟨Tryz.f186.name,by decide,Tryz.func186.trans (congrArg some (by kernel_rfl))⟩
 f24:=⟨Tryz.f187.name,by decide,Tryz.func187.trans (congrArg some (by kernel_rfl))⟩
 f25:=⟨Tryz.f188.name,by decide,Tryz.func188.trans (congrArg some (by kernel_rfl))⟩
 f26:=⟨Tryz.f189.name,by decide,Tryz.func189.trans (congrArg some (by kernel_rfl))⟩
 f27:=⟨Tryz.f190.name,by decide,Tryz.func190.trans (congrArg some (by kernel_rfl))⟩
 f28:=Tryz.func178.trans (congrArg some (by kernel_rfl))
 f29:=Tryz.func179.trans (congrArg some (by kernel_rfl))
 f46:=⟨Tryz.f252.name,by decide,Tryz.func252.trans (congrArg some (by kernel_rfl))⟩
 f47:=Tryz.func248.trans (congrArg some (by kernel_rfl))
 f48:=Tryz.func249.trans (congrArg some (by kernel_rfl))
 f49:=⟨Tryz.f253.name,by decide,Tryz.func253.trans (congrArg some (by kernel_rfl))⟩
 f50:=⟨Tryz.f254.name,by decide,Tryz.func254.trans (congrArg some (by kernel_rfl))⟩
 f57:=⟨Tryz.f314.name,by decide,Tryz.func314.trans (congrArg some (by kernel_rfl))⟩
 t0:=Tryz.underlying0
 a0:=Tryz.isAgg0
 z0:=Tryz.sizeOf0
 v0:=Tryz.zeroValue0
 t3:=Tryz.underlying3
 a3:=Tryz.isAgg3
 z3:=Tryz.sizeOf3
 v3:=Tryz.zeroValue3
 t4:=Tryz.underlying4
 a4:=Tryz.isAgg4
 z4:=Tryz.sizeOf4
 v4:=Tryz.zeroValue4
 t5:=Tryz.underlying5
 a5:=Tryz.isAgg5
 z5:=Tryz.sizeOf5
 v5:=Tryz.zeroValue5
 t9:=Tryz.underlying9
 a9:=Tryz.isAgg9
 z9:=Tryz.sizeOf9
 v9:=Tryz.zeroValue9
 t22:=Tryz.underlying23
 a22:=Tryz.isAgg23
 z22:=Tryz.sizeOf23
 v22:=Tryz.zeroValue23
 t25:=Tryz.underlying143
 a25:=Tryz.isAgg143
 z25:=Tryz.sizeOf143
 v25:=Tryz.zeroValue143
 t39:=Tryz.underlying75
 a39:=Tryz.isAgg75
 z39:=Tryz.sizeOf75
 v39:=Tryz.zeroValue75
 t45:=Tryz.underlying271
 a45:=Tryz.isAgg271
 z45:=Tryz.sizeOf271
 v45:=Tryz.zeroValue271
 t46:=Tryz.underlying272
 a46:=Tryz.isAgg272
 z46:=Tryz.sizeOf272
 v46:=Tryz.zeroValue272
 t50:=Tryz.underlying105
 a50:=Tryz.isAgg105
 z50:=Tryz.sizeOf105
 v50:=Tryz.zeroValue105
 t53:=Tryz.underlying279
 a53:=Tryz.isAgg279
 z53:=Tryz.sizeOf279
 v53:=Tryz.zeroValue279
 t55:=Tryz.underlying24
 a55:=Tryz.isAgg24
 z55:=Tryz.sizeOf24
 v55:=Tryz.zeroValue24
 t66:=Tryz.underlying352
 a66:=Tryz.isAgg352
 z66:=Tryz.sizeOf352
 v66:=Tryz.zeroValue352
 t70:=Tryz.underlying356
 a70:=Tryz.isAgg356
 z70:=Tryz.sizeOf356
 v70:=Tryz.zeroValue356
 t76:=Tryz.underlying423
 a76:=Tryz.isAgg423
 z76:=Tryz.sizeOf423
 v76:=Tryz.zeroValue423
 t77:=Tryz.underlying424
 a77:=Tryz.isAgg424
 z77:=Tryz.sizeOf424
 v77:=Tryz.zeroValue424 }
theorem jO (x y:Rf):ltOf nr x y=bn x y:=by
 unfold ltOf nr;cases h1:bn x y<;>cases h2:bn y x<;>simp
theorem UO:SWO (ltOf nr):={
 irrefl x:=by rw [jO];simp [bn]
 trans x y z h1 h2:=by rw [jO] at*;simp [bn] at*;omega
 ntrans x y z h1 h2:=by rw [jO] at*;simp [bn] at*;omega }
theorem SP (x y:Rf) (h1:ltOf nr x y=false) (h2:ltOf nr y x=false):x=y:=by
 rw [jO] at h1 h2;obtain ⟨a,b⟩:=x;obtain ⟨c,d⟩:=y;simp [bn] at h1 h2;simp;omega
instance iN8:Inhabited Rf:=⟨⟨0,0⟩⟩
theorem Tryz.sortRf_calls (blk off cap:Nat) (d:Array Rf) (w:World) (hH:HoldsK aw 2 w blk off d) (hblk:blk<w.heap.size) (hsz:d.size<4611686018427387904):
 Calls Tryz.prog 70 #[.slice (some ⟨blk,off,none⟩) d.size cap,.func (.func 71) #[] #[]] w fun e w' =>
  e= .returned (.tuple #[])∧ ∃ n os,w' =sortWorldK aw 2 w blk off n (d.toList.mergeSort fun x y=> !(ltOf nr) y x).toArray os:=by
 have eg: ∀ args w,(callFunc 71 args).run Tryz.prog w= .ok (.enter 71 args) w:=enters_of Tryz.func71 (by kernel_rfl) rfl;exact AnyQ.slices_SortFunc_total Tryz.sortRf 2 (fun w=>by have h:=Tryz.underlying35;show (isAgg 35).run _ w=_;simp [isAgg,run_underlying h]) (fun w=>by obtain ⟨i,h1,h2⟩:=(inferInstance:Size Tryz.prog 35 2).out;show (Go.sizeOf 35).run _ w=_;simp [Go.sizeOf,typeInfo,h1,h2]) aw (fun _=>rfl) (fun x v hv=>by simp [aw] at hv;rcases hv with rfl|rfl<;>rfl) nr UO 71 #[] blk off cap d w eg (fun _ _ _ _ x y=>Tryz.orderX x y _) hH hblk hsz SP
end Go.Proofs
namespace Go.SL
open Go Go.Proofs
attribute [local irreducible] W WL WQ WG WA VOp thn blk aS FnAt FnIn
def JQ (N:Nat) (w0:World) (f:FuncId) (caps:List Value) (Inv:List oE→List Blk→Prop):Prop:=
 ∀ (vs:List oE) (kids:List Nat) (d:Nat) (A:Option Nat) (cap:Nat) (H F:List Blk),Inv vs H→kids.length≤1000→vs.length<N→(∀ k∈kids,k<vs.length)→
  FnIn Tryz.prog f ([.int .i64 (vs.length:Int),sl A kids.length cap,.int .i64 (d:Int)]++caps) w0 (.own A 3 1 kids.length cap (kids.map fun (k:Nat)=> .int .i64 (k:Int))::(H++F))
   fun _ H' => ∃ H1,Inv (vs++ [(kids,d)]) H1∧MSub (H1++F) H'
theorem vE {n:Nd} (h:bM n=0):0≤below n∧below n≤16:=by
 unfold bM at h;split at h
 ·cases h
 ·rename_i hk;split at h
  ·rename_i h7;unfold below;split
   ·omega
   ·split
    ·omega
    ·omega
  ·rename_i h7;have h7' :n.kind=7:=by omega
   have hb:below n=n.n:=by simp [below,h7']
   have hk1:fS n=true:=by
    cases hh:fS n
    ·exact absurd (Or.inl hh) hk
    ·rfl
   simp [fS,h7'] at hk1;split at h
   ·rename_i ha;omega
   ·split at h
    ·omega
    ·rename_i hc;have hm:(fO n.fn).2.1≤16:=by
      unfold fO;(repeat' split)<;>simp
     omega
theorem kZ (st:List Pt) (k:Nat) (h:k≤st.length):(bD st k).length=k:=by simp [bD];omega
theorem jL {st:List Pt} {k:Nat} {p:Pt} (h:p∈bD st k):p∈st:=XK h
theorem LB {w0 w:World} {H:List Blk} {A:Option Nat} {st:List Pt} {cap k:Nat} (hm:Mem w0 w H) (hi:In (.own A 466 3 st.length cap (st.flatMap vF)) H) (h:k≤st.length):
 Reads w (.slice (if cap=st.length - k then A.map fun g=>⟨g,0,none⟩ else (A.map fun g=>(⟨g,0,none⟩:Addr)).map (·.add ((st.length - k)*3))) (st.length - (st.length - k)) (cap - (st.length - k))) (bD st k).length ((bD st k).flatMap vF):=by
 have h1:=(Reads.of_own hm hi).cut (lo:=st.length - k) (hi:=st.length) (sz:=3) (by omega) (VA _);have e1:st.length - (st.length - k)=(bD st k).length:=by rw [kZ st k h];omega
 rw [qV qx,e1] at h1;have e2:((st.drop (st.length - k)).flatMap vF).take ((bD st k).length*3)=(bD st k).flatMap vF:=by
  rw [Wl (by rw [bh qx];exact VA _)];rfl
 rw [e2] at h1;rw [e1];exact h1
theorem uy (top:List Pt) (j:Nat) (h:j<top.length):cL (top.take (j+1))=max (cL (top.take j)) (top[j].depth+1):=by
 unfold cL;rw [Vu h,Yb]
 rfl
theorem nA (top:List Pt) (h: ∀ p∈top,p.depth≤32):cL top≤33:=by
 have: ∀ (l:List Pt) (d:Nat),d≤33→(∀ p∈l,p.depth≤32)→l.foldl (fun d p=>max d (p.depth+1)) d≤33:=by
  intro l
  induction l with
  |nil=>intro d hd _;simpa using hd
  |cons p r ih=>
   intro d hd hp;have:=hp p Vr;exact ih _ (by show max d (p.depth+1)≤33;omega) fun q hq=>hp q (Vv _ hq)
 exact this top 1 (by omega) h
structure WalkSt (L:List Nd) (Inv:List oE→List Blk→Prop) (i:Nat) (st:List Pt) (vs:List oE) (Hv:List Blk):Prop where
 le:i≤L.length
 len:vs.length=i
 inv:Inv vs Hv
 rest:fV L L 0 [] []=fV L (L.drop i) i st vs
 ok: ∀ p∈st,p.root<i∧p.depth≤32
 small:st.length≤i
theorem Lg (L:List Nd) (hne:0<L.length) (hlen:L.length≤256) (tv:Value) (w0:World) (ht:Reads w0 tv L.length (L.flatMap bu)) (f:FuncId) [hf:Callable Tryz.prog f] (caps:List Value) (Inv:List oE→List Blk→Prop) (hV:JQ L.length w0 f caps Inv)
 (H:List Blk) (hI:Inv [] H):FnIn Tryz.prog 301 [tv,.func (.func f) #[] caps.toArray] w0 H fun v H' =>v= .int .i64 (fV L L 0 [] []).1∧Inv (fV L L 0 [] []).2 H' :=by
 have ht' :=ht;obtain ⟨At,ct,rfl,ht1,ht2,ht3⟩:=ht;obtain ⟨gt,ot,rfl,hrt⟩:=ht3 hne;refine bE Tryz.func301 rfl Tryz.ntmps301 rfl ?_;repeat' (first|refine sT ?_|refine sM fun _=>?_|refine sC ?_ ?_<;>intro hb<;>try omega|fail)
 refine aI 466 3 ?_
 refine J7 (fun (i:Nat) s H=> ∃ st vs A cap Hv,s= [(0,.slice (some ⟨gt,ot,none⟩) L.length ct),(1,.func (.func f) #[] caps.toArray),(5,sl A st.length cap),(14,.slice (some ⟨gt,ot,none⟩) L.length ct),(15,.int .i64 (L.length:Int)),(16,.int .i64 (i:Int))]∧
  H= .own A 466 3 st.length cap (st.flatMap vF)::Hv∧WalkSt L Inv i st vs Hv) (fun i=>L.length - i) 0 ?_ ?_
 ·refine ⟨_,_,?_,?_,⟨[],[],none,0,H,rfl,rfl,⟨Vt _,rfl,hI,rfl,by simp,VA _⟩⟩⟩
  ·exact sB
  ·exact mS
 ·rintro i _ _ ⟨st,vs,A,cap,Hv,rfl,rfl,hst⟩;obtain ⟨hle,hvl,hinv,hrest,hok,hsmall⟩:=hst;by_cases hlt:i<L.length
  ·have hrn:=hrt.elem cR i hlt;rw [Vy hlt,fV,kw] at hrest;generalize hn:L[i]=n at hrest hrn;by_cases hfe:bM n=0
   ·obtain ⟨hb0,hb16⟩:=vE hfe;obtain ⟨k,hk⟩:=Yu hb0;rw [if_neg (by simp [hfe]),hk,Yc] at hrest;have hbel: ∀ w,aF Tryz.prog 355 [.agg (bu n).toArray] w (.int .i64 (k:Int)):=fun w=>hk ▸ P2 n w;have hfie: ∀ w,aF Tryz.prog 354 [.agg (bu n).toArray] w (.int .i64 0):=fun w=>hfe ▸ Cl n w;refine vZ .hd fun hr1 hr2 hr3=> ?_;repeat' (first|apply ai;exact rfl;apply aa;exact rfl;exact rfl;exact hlt|apply ai;exact rfl;apply bC;exact rfl;exact hrn;exact rfl|apply ai;exact rfl;apply gQ;exact rfl;exact rfl;simp only [maxLen];omega|apply ag;exact rfl;exact rfl;intro w hm;exact hfie w|apply ag;exact rfl;exact rfl;intro w hm;exact hbel w|apply rS (id:=9);kernel_rfl;kernel_rfl|apply aY;exact rfl;apply rV;exact rfl;exact rfl;omega;omega|apply ai;exact rfl;apply rV;exact rfl;exact rfl;omega;omega|apply aY;exact rfl;apply jY (hi:=st.length);exact rfl;exact ⟨_,rfl⟩;exact rfl;omega;omega|apply dw;exact rfl;exact rfl;intro w hm;exact Sa L n (bD st k) _ _ w (ht'.of_w0 hm) (LB hm pK (by omega)) (fun p hp=>Nat.lt_trans (hok p (jL hp)).1 hlt) (by rw [kZ st k (by omega)];omega)|refine sT ?_|refine sQ ?_|refine sM fun _=>?_|refine sC ?_ ?_<;>intro hb<;>try omega|refine sCQ ?_ ?_<;>intro hb<;>try omega|fail)
    ·refine bp (.inl rfl) Tryz.results301 rfl (.drop .hd (.drop .hd (.refl _))) ?_;rw [hrest,if_pos (Or.inl (by omega))];exact ⟨rfl,hinv⟩
    ·refine bp (.inl rfl) Tryz.results301 rfl (.drop .hd (.drop .hd (.refl _))) ?_;rw [hrest,if_pos (Or.inr hb)];exact ⟨rfl,hinv⟩
    have hkl:k≤st.length:=by omega
    rw [if_neg (by intro h;rcases h with h|h;(· omega);(· rw [hb] at h;cases h))] at hrest;repeat' (first|apply ai;exact rfl;apply rV;exact rfl;exact rfl;omega;omega|apply Nw (hi:=st.length);exact rfl;exact rfl;exact ⟨_,rfl⟩;exact rfl;omega;omega;intro B hB|refine sT ?_|refine sM fun _=>?_|refine sC ?_ ?_<;>intro hb<;>try omega|fail)
    rename_i gn gp;refine aI 3 1 ?_;have htl:=kZ st k hkl
    refine J7 (fun (j:Nat) s H=> ∃ A2 cap2,s= [(0,.slice (some ⟨gt,ot,none⟩) L.length ct),(1,.func (.func f) #[] caps.toArray),(5,sl A st.length cap),(6,.int .i64 (i:Int)),(9,.int .i64 (k:Int)),(10,.pointer (some ⟨gp,0,none⟩)),(11,sl A2 j cap2),
     (14,.slice (some ⟨gt,ot,none⟩) L.length ct),(15,.int .i64 (L.length:Int)),(16,.int .i64 (i:Int)),(54,.slice B (st.length - (st.length - k)) (cap - (st.length - k))),(55,.int .i64 ((st.length - (st.length - k):Nat):Int)),(56,.int .i64 (j:Int))]∧
     H= .own A2 3 1 j cap2 (((bD st k).take j).map fun p=> .int .i64 (p.root:Int)):: .box gp 466 [.int .i64 (i:Int),.int .i64 (cL ((bD st k).take j):Int),.bool (decide (n.kind=3))]:: .own A 466 3 st.length cap (st.flatMap vF)::Hv∧j≤k) (fun j=>k - j) 0 ?_ ?_
    ·refine ⟨_,_,?_,?_,⟨none,0,rfl,rfl,by omega⟩⟩
     ·exact sB
     ·exact mS
    ·rintro j _ _ ⟨A2,cap2,rfl,rfl,hjk⟩;by_cases hj:j<k
     ·refine ba (.tl (.tl .hd)) (by omega) fun gs hA=> ?_;subst hA;obtain rfl:B=some ⟨gs,0+(st.length - k)*3,none⟩:=by rw [hB,if_neg (by omega)];simp [dR]
      have hjt:j<(bD st k).length:=by omega
      have he:((st.flatMap vF).drop (0+(st.length - k)*3+j*3)).take 3=vF (bD st k)[j]:=by
       rw [show 0+(st.length - k)*3+j*3=(st.length - k+j)*3 by rw [Xm];omega,cj qx st _ (by omega)];simp [bD]
      have hd32:(bD st k)[j].depth≤32:=(hok _ (jL (VL hjt))).2;repeat' (first|apply ai;exact rfl;apply aa;exact rfl;exact rfl;omega|apply ai;exact rfl;apply EY;exact rfl;exact pK;exact he;exact rfl|apply ai;exact rfl;apply jn;exact rfl;exact rfl;simp only [maxLen];omega|apply ai;exact rfl;apply H5;exact rfl;exact rfl|apply dB;(iterate 3 exact rfl);(repeat first|exact .hd|apply Sel.tl|apply In.tl);intro w hm;exact hm.cells_own (by (repeat first|exact .hd|apply Sel.tl|apply In.tl));exact rfl;simp [Value.oneCell',sl];omega;simp only [maxLen];omega;intro A' cap' hA'|refine sT ?_|refine sM fun _=>?_|refine sC ?_ ?_<;>intro hb<;>try omega|fail)
      have hk1:((bD st k).take (j+1)).map (fun p=>Value.int .i64 (p.root:Int))=((bD st k).take j).map (fun p=>Value.int .i64 (p.root:Int))++ [.int .i64 ((bD st k)[j].root:Int)]:=by
       rw [Vu hjt,Wj];rfl
      refine ⟨j+1,_,_,?_,?_,?_,⟨A',cap',rfl,rfl,hj⟩⟩
      ·omega
      ·exact sB
      ·rw [hk1,uy _ _ hjt];exact mS
     ·have e:j=k:=by omega
      subst e;have htk:(bD st j).take j=bD st j:=Wl (by omega);rw [htk];have hd33:=nA (bD st j) fun p hp=>(hok p (jL hp)).2;repeat' (first|refine sT ?_|refine sM fun _=>?_|refine sC ?_ ?_<;>intro hb<;>try omega|fail)
      ·refine bp (.inl rfl) Tryz.results301 rfl (.drop .hd (.drop .hd (.drop .hd (.refl _)))) ?_;rw [hrest,if_pos (by omega)];exact ⟨rfl,hinv⟩
      rw [if_neg (by omega)] at hrest;refine EQ (.tl (.tl .hd)) (st.length - j) (by omega) ?_;refine kX 10 rfl (by kernel_rfl) ?_;((with_reducible apply aX (i:=0));exact rfl;exact rfl;(iterate 3 decide+kernel);exact nP;intro _ _;exact vP);((with_reducible apply aX (i:=1));exact rfl;exact rfl;(iterate 3 decide+kernel);exact nP;intro _ _;exact vP);((with_reducible apply aX (i:=2));exact rfl;exact rfl;(iterate 3 decide+kernel);exact nP;intro _ _;exact vP);((with_reducible apply aX (i:=3));exact rfl;exact rfl;(iterate 3 decide+kernel);exact nP;intro _ _;exact vP);((with_reducible apply aX (i:=4));exact rfl;exact rfl;(iterate 3 decide+kernel);exact nP;intro _ _;exact vP);((with_reducible apply aX (i:=5));exact rfl;exact rfl;(iterate 3 decide+kernel);exact nP;intro _ _;exact vP);repeat' (first|apply aM (i:=6);exact rfl;decide+kernel|apply aM (i:=7);exact rfl;decide+kernel|apply aM (i:=8);exact rfl;decide+kernel|apply aM (i:=9);exact rfl;decide+kernel|apply kV;decide+kernel|apply dB;(iterate 3 exact rfl);(repeat first|exact .hd|apply Sel.tl|apply In.tl);intro w hm;exact hm.cells_own (by (repeat first|exact .hd|apply Sel.tl|apply In.tl));exact rfl;simp [Value.oneCell',sl];omega;simp only [maxLen];omega;intro A' cap' hA'|refine sT ?_|refine sM fun _=>?_|refine sC ?_ ?_<;>intro hb<;>try omega|fail)
      have hcont:(st.flatMap vF).take ((st.length - j)*3)++ [.int .i64 (i:Int),.int .i64 (cL (bD st j):Int),.bool (decide (n.kind=3))]=(st.take (st.length - j)++ [(⟨i,cL (bD st j),decide (n.kind=3)⟩:Pt)]).flatMap vF:=by
       rw [jV qx,VF];rfl
      have hvis:=hV vs ((bD st j).map Pt.root) (cL (bD st j)) A2 cap2 Hv [.own A' 466 3 (st.length - j+1) cap' ((st.take (st.length - j)++ [(⟨i,cL (bD st j),decide (n.kind=3)⟩:Pt)]).flatMap vF)] hinv (by rw [VK];omega) (by omega) (by intro q hq;obtain ⟨p,hp,rfl⟩:=VM.1 hq;rw [hvl];exact (hok p (jL hp)).1);simp only [VK,htl,hvl,Xl] at hvis;rw [hcont];(with_reducible apply kq)
      ·exact rfl
      ·exact rfl
      ·infer_instance
      ·exact rfl
      ·refine hvis.msub ?_;refine MSub.pick (T:=_) pK (MSub.snoc pK ?_);exact mS
      rintro v H' ⟨H1,hI1,hM1⟩;repeat' (first|apply ai;exact rfl;apply jn;exact rfl;exact rfl;simp only [maxLen];omega|refine sT ?_|refine sM fun _=>?_|refine sC ?_ ?_<;>intro hb<;>try omega|fail)
      refine ⟨i+1,_,_,?_,?_,?_,⟨st.take (st.length - j)++ [(⟨i,cL (bD st j),decide (n.kind=3)⟩:Pt)],vs++ [((bD st j).map Pt.root,cL (bD st j))],A',cap',H1,rfl,rfl,⟨?_,?_,?_,?_,?_,?_⟩⟩⟩
      ·omega
      ·have e1:(st.take (st.length - j)++ [(⟨i,cL (bD st j),decide (n.kind=3)⟩:Pt)]).length=st.length - j+1:=by simp
       rw [e1];exact sB
      ·have e1:(st.take (st.length - j)++ [(⟨i,cL (bD st j),decide (n.kind=3)⟩:Pt)]).length=st.length - j+1:=by simp
       rw [e1];exact hM1.rot
      ·omega
      ·simp [hvl]
      ·exact hI1
      ·exact hrest
      ·intro p hp;rcases VH.1 hp with hp|hp
       ·exact ⟨Nat.lt_succ_of_lt (hok p (WV hp)).1,(hok p (WV hp)).2⟩
       ·have e:p=⟨i,cL (bD st j),decide (n.kind=3)⟩:=by simpa using hp
        subst e;exact ⟨XH i,by show cL (bD st j)≤32;omega⟩
      ·simp;omega
   ·have hfie: ∀ w,aF Tryz.prog 354 [.agg (bu n).toArray] w (.int .i64 (bM n)):=fun w=>Cl n w;rw [if_pos hfe] at hrest;repeat' (first|apply ai;exact rfl;apply aa;exact rfl;exact rfl;exact hlt|apply ai;exact rfl;apply bC;exact rfl;exact hrn;exact rfl|apply ag;exact rfl;exact rfl;intro w hm;exact hfie w|refine sT ?_|refine sM fun _=>?_|refine sC ?_ ?_<;>intro hb<;>try omega|fail)
    refine bp (.inl rfl) Tryz.results301 rfl (.drop .hd (.drop .hd (.refl _))) ?_;rw [hrest];exact ⟨rfl,hinv⟩
  ·have e:i=L.length:=by omega
   subst e;rw [V8,fV] at hrest;repeat' (first|refine sT ?_|refine sM fun _=>?_|refine sC ?_ ?_<;>intro hb<;>try omega|fail)
   ·refine bp (.inl rfl) Tryz.results301 rfl (.drop .hd (.refl _)) ?_;rw [hrest,if_neg (by omega)];exact ⟨rfl,hinv⟩
   ·refine bp (.inl rfl) Tryz.results301 rfl (.drop .hd (.refl _)) ?_;rw [hrest,if_pos (by omega)];exact ⟨rfl,hinv⟩
end Go.SL
namespace Go.SL
open Go Go.Proofs Go.Sort Go.Shelf
def sortRf (L:List Rf):List Rf:=L.mergeSort fun x y=> !(bn y x)
theorem GV (L:List Rf) (j:Nat) (h:j<L.length*2):(L.flatMap aw)[j]? =some ((flatK aw 2 L.toArray)[j]!):=by
 rw [get_flatK _ _ _ _ (by simpa using h)];have h1:j / 2<L.length:=by omega
 have h2:j % 2<2:=Y5 _ (by omega);have h3:=qW bS L (j / 2) (j % 2) h1 h2;rw [show j / 2*2+j % 2=j by omega] at h3;rw [h3];have h4:L.toArray[j / 2]! =L[j / 2]:=by simp [h1]
 rw [h4,Vo (by rw [bS];exact h2)];congr 1;rw [getElem!_pos _ _ (by rw [bS];exact h2)]
theorem Io (w:World) (g n:Nat) (d:Array Rf) (os:Array Obj):w.grownBy (sortWorldK aw 2 w g 0 n d os) (some g):={
 os:=rfl
 tape:=rfl
 output:=rfl
 size:=by
  show w.heap.size≤((w.heap.modify g _)++os).size;rw [YT,XD];omega
 block k hk hne:=by
  show ((w.heap.modify g _)++os)[k]? =_;rw [Ww (by rw [XD];exact hk),Xy,if_neg (fun e=>hne (by rw [e]))] }
theorem LH (w:World) (g n:Nat) (d:Array Rf) (os:Array Obj) (c:Array Value) (T:TypeId) (fr:Nat × Nat) (h:w.heap[g]? =some (.cells c T fr)):
 (sortWorldK aw 2 w g 0 n d os).heap[g]? =some (.cells (putCells id 0 (flatK aw 2 d) c) T fr):=by
 have hlt:g<w.heap.size:=(V0.1 h).1;show ((w.heap.modify g _)++os)[g]? =_;rw [Ww (by rw [XD];exact hlt),Xy,if_pos rfl,h]
 rfl
theorem L8 (L:List Rf) (xs junk:List Value) (hl:xs.length=L.length*2):putCells id 0 (flatK aw 2 L.toArray) (xs++junk).toArray=(L.flatMap aw++junk).toArray:=by
 have hfl:(L.flatMap aw).length=L.length*2:=bh bS L;apply Yv;intro j;simp only [putCells,YC,V6,size_flatK,Xa,Vt,true_and,VD,WU];by_cases hj:j<L.length*2
 ·rw [VO (by omega),VO (by omega),GV L j hj,Vo (by omega)];simp [hj]
 ·rw [VW (by omega),VW (by omega),hl,hfl];simp [hj]
theorem Fs (L:List Rf) (g cap:Nat) (hL:L.length≤1000000) (R:List Blk) (w0:World):
 FnIn Tryz.prog 70 [sl (some g) L.length cap,.func (.func 71) #[] #[]] w0 (.own (some g) 35 2 L.length cap (L.flatMap aw)::R) fun v H=>v= .tuple #[]∧H= .own (some g) 35 2 L.length cap ((sortRf L).flatMap aw)::R:=by
 intro w hm;obtain ⟨⟨h1,h2,h3,junk,h4,h5⟩,hk⟩:=hm.on _ Vr;have hlt:g<w.heap.size:=(V0.1 h5).1;have hH:HoldsK aw 2 w g 0 L.toArray:=by
  intro j hj;simp only [size_flatK,Xa] at hj;have hc:(L.flatMap aw++junk).toArray[j]? =some (flatK aw 2 L.toArray)[j]! :=by
   rw [V6,VO (by omega),GV L j hj]
  constructor
  ·simp only [World.cell?,VD,h5];exact hc
  ·simp [World.frozen?,h5]
 have hs:=Tryz.sortRf_calls g 0 cap L.toArray w hH hlt (by simp;omega);have hsz:L.toArray.size=L.length:=by simp
 rw [hsz] at hs;refine hs.mono ?_;rintro e w' ⟨rfl,n,os,rfl⟩;have hlen:(sortRf L).length=L.length:=by simp [sortRf]
 have heq:(L.toArray.toList.mergeSort fun x y=> !(ltOf nr) y x)=sortRf L:=by
  simp only [sortRf,jO]
 rw [heq];refine ⟨_,_,rfl,hm.upd (Io _ _ _ _ _) (b' := .own (some g) 35 2 L.length cap ((sortRf L).flatMap aw)) ?_ fun k hk=> .inl hk,rfl,rfl⟩;have hfl:((sortRf L).flatMap aw).length=L.length*2:=by rw [bh bS,hlen]
 refine ⟨hfl,h2,h3,junk,by rw [Vn,hfl,← h1,← Vn];exact h4,?_⟩;rw [LH _ _ _ _ _ _ _ _ h5,L8 (sortRf L) _ _ (by rw [hlen];exact h1)]
theorem Df (L:List Rf) (A:Option Nat) (cap:Nat) (hL:L.length≤1000000) (R:List Blk) (w0:World):
 FnIn Tryz.prog 70 [sl A L.length cap,.func (.func 71) #[] #[]] w0 (.own A 35 2 L.length cap (L.flatMap aw)::R) fun v H=>v= .tuple #[]∧H= .own A 35 2 L.length cap ((sortRf L).flatMap aw)::R:=by
 cases A with
 |some g=>exact Fs L g cap hL R w0
 |none=>
  intro w hm;obtain ⟨⟨h1,h2,h3,h4⟩,_⟩:=hm.on _ Vr;obtain ⟨h5,h6⟩:=h4;have hnil:L= []:=WW.1 h5;subst hnil;subst h6;refine Calls.mono (AnyF.slices_SortFunc_none Tryz.sortRf none 0 _ w) ?_;rintro e w' ⟨rfl,rfl⟩;exact ⟨_,_,rfl,hm,rfl,by simp [sortRf]⟩
attribute [local irreducible] FnAt FnIn VOp W WA WG WL WQ aS blk thn
def kN (L:List Nd) (wide:Bool):Int × List oE:=
 if 256<L.length then (5,[]) else if L.length=0 then (4,[])
 else if (fV L L 0 [] []).1≠0 then fV L L 0 [] []
 else if wide=false∧jS L (L.length - 1)=3 then (4,(fV L L 0 [] []).2) else (0,(fV L L 0 [] []).2)
theorem PW (L:List Nd) (wide:Bool) (tv:Value) (w0:World) (ht:Reads w0 tv L.length (L.flatMap bu)) (f:FuncId) [hf:Callable Tryz.prog f] (caps:List Value) (Inv:List oE→List Blk→Prop) (hV:JQ L.length w0 f caps Inv)
 (H:List Blk) (hI:Inv [] H):FnIn Tryz.prog 230 [tv,.bool wide,.func (.func f) #[] caps.toArray] w0 H fun v H' =>v= .int .i64 (kN L wide).1∧Inv (kN L wide).2 H' :=by
 have ht' :=ht;obtain ⟨At,ct,rfl,ht1,ht2,ht3⟩:=ht;refine bE Tryz.func230 rfl Tryz.ntmps230 rfl ?_;by_cases h256:256<L.length
 ·repeat' first|refine sT ?_|refine sM fun _=>?_|refine sC ?_ ?_<;>intro hb<;>try omega|fail
  refine bp (.inl rfl) Tryz.results230 rfl (.refl _) ?_;rw [kN,if_pos h256];exact ⟨rfl,hI⟩
 by_cases h0:L.length=0
 ·repeat' first|refine sT ?_|refine sM fun _=>?_|refine sC ?_ ?_<;>intro hb<;>try omega|fail
  refine bp (.inl rfl) Tryz.results230 rfl (.refl _) ?_;rw [kN,if_neg h256,if_pos h0];exact ⟨rfl,hI⟩
 obtain ⟨gt,ot,rfl,hrt⟩:=ht3 (by omega);have hw:=Lg L (by omega) (by omega) _ w0 ht' f caps Inv hV H hI;have hrl:=hrt.elem cR (L.length - 1) (by omega);have hk:jS L (L.length - 1)=(L[L.length - 1]'(by omega)).kind:=jR _;simp only [kN,if_neg h256,if_neg h0,hk];generalize fV L L 0 [] []=r at hw;generalize (L[L.length - 1]'(by omega))=nl at hrl;repeat' (first|apply ak;exact rfl;exact rfl;exact hw;rintro v H' ⟨rfl,hI'⟩|apply ai;exact rfl;apply fE;exact rfl;exact rfl;omega;omega|apply ai;exact rfl;apply aa;exact rfl;exact rfl;omega|apply ai;exact rfl;apply eP (off:=0);exact rfl;exact hrl;exact rfl|refine sT ?_|refine sM fun _=>?_|refine sC ?_ ?_<;>intro hb<;>try omega|fail)
 all_goals refine bp (.inl rfl) Tryz.results230 rfl (.refl _) ?_
 all_goals simp_all
theorem xK (N:Nat) (w0:World) (H0:List Blk):JQ N w0 231 [] fun _ H=>H=H0:=by
 rintro vs kids d A cap _ F rfl _ _ _;refine bE Tryz.func231 rfl Tryz.ntmps231 rfl ?_;repeat' (first|refine sT ?_|refine sM fun _=>?_|refine sC ?_ ?_<;>intro hb<;>try omega|fail)
 refine iO (.inr rfl) Tryz.results231 (.drop .hd (.refl _)) ⟨_,rfl,.refl _⟩
def eD (L:List Nd):Int:=(kN L false).1
theorem HH (L:List Nd) (tv:Value) (w:World) (ht:Reads w tv L.length (L.flatMap bu)):aF Tryz.prog 162 [tv] w (.int .i64 (eD L)):=by
 have ht' :=ht;obtain ⟨At,ct,rfl,ht1,ht2,ht3⟩:=ht;refine aA Tryz.func162 rfl Tryz.ntmps162 rfl ?_;have hw:=PW L false _ w ht' 231 [] (fun _ H=>H= []) (xK _ w []) [] rfl;repeat' (first|apply ak;exact rfl;exact rfl;exact hw;rintro v H' ⟨rfl,rfl⟩|refine sT ?_|refine sM fun _=>?_|refine sC ?_ ?_<;>intro hb<;>try omega|fail)
 (refine rT1 ?_)
 rfl
def KD (vs:List oE):Nat:=(vs.getLast?.map (·.2)).getD 0
def nB (L:List Nd):Int × Int:=if eD L≠0 then (0,eD L) else ((KD (kN L false).2:Nat),0)
def ma (ks:List Nat):List Value:=ks.map fun (k:Nat)=> .int .i64 (k:Int)
theorem DH (ks:List Nat):(ma ks).length=ks.length:=by simp [ma]
end Go.SL
