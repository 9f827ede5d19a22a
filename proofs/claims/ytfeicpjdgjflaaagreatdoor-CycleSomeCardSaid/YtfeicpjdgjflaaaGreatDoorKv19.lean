/-
  Lemmas and walks, put together: R3 L1 D7 D9 D10 K1 K2 Fd R5 Gq D11 Q10 Lu Pl2 Gu Lp G2a.
-/
import Derived.Test.YtfeicpjdgjflaaaGreatDoorKv18
set_option linter.unusedSimpArgs false
set_option linter.unusedVariables false
set_option maxRecDepth 20000
set_option maxHeartbeats 16000000
namespace Go.SL
open Go Go.Proofs Go.RowKit
section
variable {P:Program} {n:Fr} {w0:World} {Q:cd} {s:aC} {H:List Blk} {ty:TypeId} {x y:Operand} {k:IntKind} {a b:Int} {t t' :TypeId}
theorem Uw (hx:ev s x=some (.int k a)) (hy:ev s y=some (.int k b)) (h:b≠0):VOp P w0 s H (.binOp .quo t x y t') ty (.int k (k.wrap (a.tdiv b))):=fun ρ w _ _ _ _ hρ _=>by
 simp [execOp,hρ x _ hx,hρ y _ hy,eqGuard,binOp,Op.intDiv,h]
theorem ku {c:Int} (hx:ev s x=some (.int k a)) (hy:ev s y=some (.int k b)) (h:b≠0) (hc:k.wrap (a.tdiv b)=c):VOp P w0 s H (.binOp .quo t x y t') ty (.int k c):=hc ▸ Uw hx hy h
theorem nI {c:Int} (hx:ev s x=some (.int k a)) (hy:ev s y=some (.int k b)) (h:b≠0) (hc:a.tmod b=c):VOp P w0 s H (.binOp .rem t x y t') ty (.int k c):=hc ▸ Kb hx hy h
theorem ji {c:Int} (hx:ev s x=some (.int k a)) (hy:ev s y=some (.int k b)) (hc:k.wrap (a*b)=c):VOp P w0 s H (.binOp .mul t x y t') ty (.int k c):=hc ▸ H4 hx hy
end
attribute [local irreducible] W WL WQ WG WA WX WLI WR WT WC VOp RW thn blk bg scp aS aV bi FnAt FnIn FnP ceP
def iC (v:Int):List Value:= [.int .u64 (v / 18446744073709551616),.int .u64 (v % 18446744073709551616)]
theorem nF {v:Int} (h0:0≤v) (h:v<18446744073709551616):iC v= [.int .u64 0,.int .u64 v]:=by
 unfold iC;rw [Int.ediv_eq_zero_of_lt h0 h,Int.emod_eq_of_lt h0 h]
theorem xd (x y:Int) (hx:0≤x) (hy:0≤y) (h:x+y<340282366920938463463374607431768211456) (w:World):aF Tryz.prog 304 [.agg (iC x).toArray,.agg (iC y).toArray] w (.agg (iC (x+y)).toArray):=by
 refine aA Tryz.func304 rfl Tryz.ntmps304 rfl ?_;obtain ⟨xh,hxh⟩: ∃ z,x / 18446744073709551616=z:=⟨_,rfl⟩;obtain ⟨xl,hxl⟩: ∃ z,x % 18446744073709551616=z:=⟨_,rfl⟩;obtain ⟨yh,hyh⟩: ∃ z,y / 18446744073709551616=z:=⟨_,rfl⟩;obtain ⟨yl,hyl⟩: ∃ z,y % 18446744073709551616=z:=⟨_,rfl⟩;unfold iC;rw [hxh,hxl,hyh,hyl];obtain ⟨l,hlw⟩: ∃ z,IntKind.u64.wrap (xl+yl)=z:=⟨_,rfl⟩;obtain ⟨h1,hhw⟩: ∃ z,IntKind.u64.wrap (xh+yh)=z:=⟨_,rfl⟩;have hl2:=hlw;have hh2:=hhw;rw [IntKind.wrap_u64] at hl2 hh2;have h11:IntKind.u64.wrap (h1+1)=(h1+1) % 18446744073709551616:=IntKind.wrap_u64 _;repeat' (first|apply ai (d:=11);exact rfl;apply fH;exact rfl;exact rfl;exact hlw|apply ai (d:=16);exact rfl;apply fH;exact rfl;exact rfl;exact hhw|apply ai (d:=22);exact rfl;apply fH;exact rfl;exact rfl;exact h11|refine sT ?_|refine sM fun _=>?_|refine sC ?_ ?_<;>intro hb<;>try omega|fail)
 all_goals
  (refine eRC ?_);have e1:(x+y) % 18446744073709551616=l:=by omega
  rw [e1];congr 4;omega
theorem Il (u:Int) (h0:0≤u) (h1:u<18446744073709551616) (w:World):aF Tryz.prog 305 [.int .u64 u,.int .u64 10] w (.agg (iC (10*u)).toArray):=by
 refine aA Tryz.func305 rfl Tryz.ntmps305 rfl ?_;obtain ⟨al,hal⟩: ∃ z,u % 4294967296=z:=⟨_,rfl⟩;obtain ⟨ah,hah⟩: ∃ z,u / 4294967296=z:=⟨_,rfl⟩;have b1:0≤al∧al<4294967296:=by omega
 have b2:0≤ah∧ah<4294967296:=by omega
 have t1:u.tmod 4294967296=al:=by rw [Int.tmod_eq_emod_of_nonneg h0];exact hal
 have t2:IntKind.u64.wrap (u.tdiv 4294967296)=ah:=by rw [YN h0,hah,IntKind.wrap_u64];omega
 have t3:(10:Int).tmod 4294967296=10:=by decide
 have t4:IntKind.u64.wrap ((10:Int).tdiv 4294967296)=0:=by decide
 have m1:IntKind.u64.wrap (ah*0)=0:=by rw [Int.mul_zero];decide
 have m2:IntKind.u64.wrap (al*10)=al*10:=by rw [IntKind.wrap_u64];omega
 have m3:IntKind.u64.wrap (ah*10)=ah*10:=by rw [IntKind.wrap_u64];omega
 have q3:IntKind.u64.wrap ((ah*10).tdiv 4294967296)=ah*10 / 4294967296:=by rw [YN (by omega),IntKind.wrap_u64];omega
 have r3:(ah*10).tmod 4294967296=ah*10 % 4294967296:=Int.tmod_eq_emod_of_nonneg (by omega);have m4:IntKind.u64.wrap (ah*10 % 4294967296*4294967296)=ah*10 % 4294967296*4294967296:=by rw [IntKind.wrap_u64];omega
 have m5:IntKind.u64.wrap (al*0)=0:=by rw [Int.mul_zero];decide
 have q5:IntKind.u64.wrap ((0:Int).tdiv 4294967296)=0:=by decide
 have r5:(0:Int).tmod 4294967296=0:=by decide
 have m6:IntKind.u64.wrap ((0:Int)*4294967296)=0:=by decide
 have e1:iC (al*10)= [.int .u64 0,.int .u64 (al*10)]:=nF (by omega) (by omega);have e2:iC (ah*10*4294967296)= [.int .u64 (ah*10 / 4294967296),.int .u64 (ah*10 % 4294967296*4294967296)]:=by
  have ea:ah*10*4294967296 / 18446744073709551616=ah*10 / 4294967296:=by omega
  have eb:ah*10*4294967296 % 18446744073709551616=ah*10 % 4294967296*4294967296:=by omega
  rw [iC,ea,eb]
 have e3:iC 0= [.int .u64 0,.int .u64 0]:=nF (by omega) (by omega);have p1:=fun w=>xd (al*10) (ah*10*4294967296) (by omega) (by omega) (by omega) w;have p2:=fun w=>xd (al*10+ah*10*4294967296) 0 (by omega) (by omega) (by omega) w;rw [e1,e2] at p1;rw [e3,Int.add_zero] at p2;have e4:al*10+ah*10*4294967296=10*u:=by omega
 rw [e4] at p1 p2;have hb: ∀ c:Int,(4294967296:Int)≠0:=fun _=>by decide
 repeat' first|apply ai (d:=11);exact rfl;apply nI;exact rfl;exact rfl;exact hb 0;exact t1|apply ai (d:=13);exact rfl;apply ku;exact rfl;exact rfl;exact hb 0;exact t2|apply ai (d:=15);exact rfl;apply nI;exact rfl;exact rfl;exact hb 0;exact t3|apply ai (d:=17);exact rfl;apply ku;exact rfl;exact rfl;exact hb 0;exact t4|apply ai (d:=20);exact rfl;apply ji;exact rfl;exact rfl;exact m1|apply ai (d:=23);exact rfl;apply ji;exact rfl;exact rfl;exact m2|apply ai (d:=28);exact rfl;apply ji;exact rfl;exact rfl;exact m3|apply ai (d:=29);exact rfl;apply ku;exact rfl;exact rfl;exact hb 0;exact q3|apply ai (d:=32);exact rfl;apply ji;exact rfl;exact rfl;exact m3|apply ai (d:=33);exact rfl;apply nI;exact rfl;exact rfl;exact hb 0;exact r3|apply ai (d:=34);exact rfl;apply ji;exact rfl;exact rfl;exact m4|apply ai (d:=40);exact rfl;apply ji;exact rfl;exact rfl;exact m5|apply ai (d:=41);exact rfl;apply ku;exact rfl;exact rfl;exact hb 0;exact q5|apply ai (d:=44);exact rfl;apply ji;exact rfl;exact rfl;exact m5|apply ai (d:=45);exact rfl;apply nI;exact rfl;exact rfl;exact hb 0;exact r5|apply ai (d:=46);exact rfl;apply ji;exact rfl;exact rfl;exact m6|apply ag (d:=36);exact rfl;exact rfl;intro w' hm;exact p1 w'|apply ag (d:=48);exact rfl;exact rfl;intro w' hm;exact p2 w'|refine sT ?_|refine sM fun _=>?_|refine sC ?_ ?_<;>intro hb<;>try omega|fail
 (refine eRC ?_)
 rfl
theorem oS (v:Int) (neg:Bool) (h0:0≤v) (h1:v<340282366920938463463374607431768211456) (w:World):aF Tryz.prog 306 [.agg (iC v).toArray,.bool neg] w (.tuple #[.int .i64 (if dx<v then 0 else if neg then -v else v),.bool (decide (v≤dx))]):=by
 refine aA Tryz.func306 rfl Tryz.ntmps306 rfl ?_;have hm:dx=9223372036854775807:=rfl;by_cases hv:v≤dx
 ·rw [if_neg (by omega),decide_eq_true hv,nF h0 (by omega)];have hw:IntKind.i64.wrap v=v:=s8 h0 hv;cases neg
  ·repeat' first|apply ai;exact rfl;apply dD;exact rfl;exact hw|refine sT ?_|refine sM fun _=>?_|refine sC ?_ ?_<;>intro hb<;>try omega|fail
   all_goals first|omega|(refine rT2 ?_);rfl
  ·repeat' first|apply ai;exact rfl;apply dD;exact rfl;exact hw|apply ai;exact rfl;apply SN;exact rfl;exact ⟨by omega,by omega⟩|refine sT ?_|refine sM fun _=>?_|refine sC ?_ ?_<;>intro hb<;>try omega|fail
   all_goals first|omega|(refine rT2 ?_);rfl
 ·rw [if_pos (by omega),decide_eq_false hv];unfold iC;obtain ⟨vh,hvh⟩: ∃ z,v / 18446744073709551616=z:=⟨_,rfl⟩;obtain ⟨vl,hvl⟩: ∃ z,v % 18446744073709551616=z:=⟨_,rfl⟩;rw [hvh,hvl];repeat' (first|refine sT ?_|refine sM fun _=>?_|refine sC ?_ ?_<;>intro hb<;>try omega|fail)
  all_goals first|omega|(refine rT2 ?_);rfl
theorem tK (a:ByteArray) (ha:a.size≤1000000) (i0:Nat) (w:World):aF Tryz.prog 303 [.string a,.int .i64 (i0:Int)] w (.int .i64 ((i0+aK aL ((ap a).drop i0):Nat):Int)):=by
 refine aA Tryz.func303 rfl Tryz.ntmps303 rfl ?_;have hl:=az a;by_cases hbig:a.size≤i0
 ·rw [tH (by omega),XA];repeat' (first|refine zZF ?_|refine sM fun _=>?_|refine sC ?_ ?_<;>intro hb<;>try omega|fail)
  refine ay [0] rfl (fun _:Unit=> [(1,.int .i64 (i0:Int))]) (fun _=> []) (fun _=>True) (fun _=>0) () trivial sB (.refl _) ?_;rintro ⟨⟩ -;repeat' (first|refine zZF ?_|refine sM fun _=>?_|refine sC ?_ ?_<;>intro hb<;>try omega|fail)
  all_goals first|omega|(refine rT1 ?_);rfl
 obtain ⟨X,hX⟩: ∃ X,i0+aK aL ((ap a).drop i0)=X:=⟨_,rfl⟩;rw [hX];repeat' (first|refine zZF ?_|refine sM fun _=>?_|refine sC ?_ ?_<;>intro hb<;>try omega|fail)
 refine ay [0] rfl (fun i:Nat=> [(1,.int .i64 (i:Int))]) (fun _=> []) (fun i=>i≤a.size∧X=i+aK aL ((ap a).drop i)) (fun i=>a.size - i) i0 ⟨by omega,hX.symm⟩ sB (.refl _) ?_;rintro i ⟨hi,hx⟩;by_cases hlt:i<a.size
 ·rw [bA hlt,aK] at hx;have hd:=fZ (bat a i);repeat' (first|apply ai;exact rfl;apply bk (j:=i);exact rfl;exact rfl;exact hlt|refine zZC ?_|refine sM fun _=>?_|refine sC ?_ ?_<;>intro hb<;>try omega|fail)
  all_goals first
   |refine ⟨i+1,⟨hlt,?_⟩,by omega,sB,sB,.nil _⟩;rw [hx,if_pos (hd.2 ⟨by assumption,by assumption⟩)];omega
   |(refine rT1 ?_);rw [hx,if_neg (fun h=>by have:=hd.1 h;omega)];rfl
 ·have e:i=a.size:=by omega
  subst e;rw [tH (by omega),XA] at hx;repeat' (first|refine zZF ?_|refine sM fun _=>?_|refine sC ?_ ?_<;>intro hb<;>try omega|fail)
  all_goals first|omega|(refine rT1 ?_);rw [hx]
structure Pu where
 col:Int
 row:Int
 input:ByteArray
def mT (p:Pu):List Value:= [.int .i64 p.col,.int .i64 p.row,.string p.input]
theorem qZ (p:Pu):(mT p).length=3:=rfl
def DB (i n:Int):Int:=if n<1 then 0 else (i.tmod n+n).tmod n
def Pu.ref (p:Pu):Rf:=⟨1+DB p.col 5,1+DB p.row 7⟩
theorem yR (i:Int) {n:Int} (h:1≤n):0≤DB i n∧DB i n<n:=by
 unfold DB;rw [if_neg (by omega)];have h1:=Yt i (show 0<n by omega);have h2: -n<i.tmod n:=by
  have:=Yt (-i) (show 0<n by omega);rw [Int.neg_tmod] at this;omega
 exact ⟨Int.tmod_nonneg _ (by omega),Yt _ (by omega)⟩
theorem Pu.range (p:Pu):1≤p.ref.col∧p.ref.col≤5∧1≤p.ref.row∧p.ref.row≤7:=by
 have h1:=yR p.col (n:=5) (by decide);have h2:=yR p.row (n:=7) (by decide);simp only [Pu.ref];omega
theorem O1 (i n:Int) (h1:1≤n) (h2:n≤100) (w:World):aF Tryz.prog 101 [.int .i64 i,.int .i64 n] w (.int .i64 (DB i n)):=by
 refine aA Tryz.func101 rfl Tryz.ntmps101 rfl ?_;have h3:=Yt i (show 0<n by omega);have h4: -n<i.tmod n:=by
  have:=Yt (-i) (show 0<n by omega);rw [Int.neg_tmod] at this;omega
 repeat' first|apply ai (d:=9);exact rfl;apply nI (c:=i.tmod n);exact rfl;exact rfl;omega;exact rfl|apply ai (d:=11);exact rfl;apply mC;exact rfl;exact rfl;exact ⟨by omega,by omega⟩|apply ai (d:=13);exact rfl;apply nI (c:=(i.tmod n+n).tmod n);exact rfl;exact rfl;omega;exact rfl|refine zZB ?_|refine sM fun _=>?_|refine sC ?_ ?_<;>intro hb<;>try omega|fail
 all_goals first
  |omega
  |(refine rT1 ?_);rw [DB,if_neg (by omega)]
theorem RA (p:Pu) (w:World):aF Tryz.prog 42 [.agg (mT p).toArray] w (.agg (aw p.ref).toArray):=by
 refine aA Tryz.func42 rfl Tryz.ntmps42 rfl ?_;have h5:=fun w=>O1 p.col 5 (by decide) (by decide) w;have h7:=fun w=>O1 p.row 7 (by decide) (by decide) w;have hr:=p.range;simp only [Pu.ref] at hr;unfold Pu.ref;generalize DB p.col 5=c at h5 hr;generalize DB p.row 7=r at h7 hr;repeat' (first|refine zZB ?_|refine sM fun _=>?_|refine sC ?_ ?_<;>intro hb<;>try omega|fail)
 rename_i g1 g2;refine fa (id:=1) [2,6,9] [] [.box g1 91 (mT p)] (by kernel_rfl) (by kernel_rfl) (by kernel_rfl) mS ?_;repeat' (first|apply xH;(iterate 4 exact rfl);intro w hm;exact h5 w|apply xH;(iterate 4 exact rfl);intro w hm;exact h7 w|refine sT ?_|refine sS ?_|refine sW ?_|refine sJ ?_|refine sWJ ?_|refine sM fun _=>?_|refine sC ?_ ?_<;>intro hb<;>try omega|refine sCW ?_ ?_<;>intro hb<;>try omega|fail)
 all_goals ((refine eRC ?_);rfl)
def cM (p:Rf × Rf):List Value:= [.int .i64 p.1.col,.int .i64 p.1.row,.int .i64 p.2.col,.int .i64 p.2.row]
theorem q9 (p:Rf × Rf):(cM p).length=4:=rfl
def ng (q:Rf→Rf→Bool) (F:List Rf) (a:Rf):List (Rf × Rf):=(F.filter (q a)).map fun b=>(a,b)
def jy (q:Rf→Rf→Bool) (F G:List Rf):List (Rf × Rf):=G.flatMap (ng q F)
theorem LU {q:Rf→Rf→Bool} {F:List Rf} {a:Rf} {k:Nat} (h:k<F.length):ng q (F.take (k+1)) a=if q a F[k] then ng q (F.take k) a++ [(a,F[k])] else ng q (F.take k) a:=by
 rw [Vu h];simp only [ng,X6,Wj,XC,YJ];split<;>simp
theorem Hg {q:Rf→Rf→Bool} {F G:List Rf} {i:Nat} (h:i<G.length):jy q F (G.take (i+1))=jy q F (G.take i)++ng q F G[i]:=by
 rw [Vu h];simp only [jy,VF,VE,VZ,VB]
theorem Fz (q:Rf→Rf→Bool) (F:List Rf) (a:Rf):(ng q F a).length≤F.length:=by
 simp only [ng,VK];exact WD _ _
theorem zD (q:Rf→Rf→Bool) (F:List Rf): ∀ G:List Rf,(jy q F G).length≤G.length*F.length
 | []=>Vt _
 |a::r=>by
  have h1:=Fz q F a;have h2:=zD q F r;have:jy q F (a::r)=ng q F a++jy q F r:=rfl;rw [this,Vn,Vw,Xm,XX];omega
def vG (E:List En):List (Rf × Rf):=jy (fun a b=>gC (bf E a).uses b) (iI (E.map En.m)) (iI (E.map En.m))
theorem pq (es:List (Rf × Value × Nat)):(iI es).length=es.length:=by
 have:=(XQ (es.map fun e=>e.1) (fun x y=> !(bn y x))).length_eq;simp [iI,sortRf]
theorem Qj (gg gm clock:Nat) (E:List En) (hok:MapOk (E.map En.m) clock) (hlen:E.length≤1000) (R:List Blk) (w0:World) (hE: ∀ e∈E,EnOk R e):
 FnIn Tryz.prog 55 [.pointer (some ⟨gg,0,none⟩)] w0 (gB gg gm (E.map En.m) clock++R) fun v H=> ∃ A cap,v=sl A (vG E).length cap∧H= .own A 119 4 (vG E).length cap ((vG E).flatMap cM)::(gB gg gm (E.map En.m) clock++R):=by
 refine bE Tryz.func55 rfl Tryz.ntmps55 rfl ?_;have hF:=fun R=>qB gg gm clock (E.map En.m) hok (by simp;omega) R w0;have hfl:(iI (E.map En.m)).length≤1000:=by rw [pq];simpa using hlen
 have hl2:(E.map En.m).length=(iI (E.map En.m)).length:=(pq _).symm;unfold vG;rw [hl2] at hF;generalize iI (E.map En.m)=F at hF hfl;refine aI 119 4 ?_;repeat' (first|apply ak (f:=22);exact rfl;exact rfl;exact FnIn.msub (hF (.own none 119 4 0 0 []::R)) (by unfold gB;exact mS);rintro _ _ ⟨A0,c0,rfl,rfl⟩|refine zZB ?_|refine sM fun _=>?_|refine sC ?_ ?_<;>intro hb<;>try omega|fail)
 unfold gB
 refine ay [0,4,14,15] rfl (fun x:Nat × Option Nat × Nat=> [(3,sl x.2.1 (jy (fun a b=>gC (bf E a).uses b) F (F.take x.1)).length x.2.2),(16,.int .i64 (x.1:Int))])
  (fun x=> .own x.2.1 119 4 (jy (fun a b=>gC (bf E a).uses b) F (F.take x.1)).length x.2.2 ((jy (fun a b=>gC (bf E a).uses b) F (F.take x.1)).flatMap cM):: .own A0 35 2 F.length c0 (F.flatMap aw):: .box gg 141 [.map (some gm)]:: .obj gm (cJ bJ (E.map En.m) clock)::R)
  (fun x=>x.1≤F.length) (fun x=>F.length - x.1) (0,none,0) (Vt _) ?_ ?_ ?_
 ·exact sB
 ·simp only [jy,WP,VZ,WN];exact mS
 rintro ⟨i,A,cap⟩ hi;dsimp only at hi ⊢;by_cases hlt:i<F.length
 ·have htake:=Hg (q:=fun a b=>gC (bf E a).uses b) (F:=F) hlt;have hel:(jy (fun a b=>gC (bf E a).uses b) F (F.take i)).length≤1000*1000:=by
   have h1:=zD (fun a b=>gC (bf E a).uses b) F (F.take i);rw [VQ] at h1;exact VR h1 (Nat.mul_le_mul (by omega) hfl)
  have hv0:((F.flatMap aw).drop (i*2)).take 2=aw F[i]:=cj bS F i hlt;have hl:=Ji E F[i];have hoke:=qR hE F[i];have hq:ng (fun a b=>gC (bf E a).uses b) F F[i]=ng (fun _ b=>gC (bf E F[i]).uses b) F F[i]:=rfl;rw [hq] at htake;generalize F[i]=a at hv0 hl hoke htake;generalize bf E a=e at hl hoke htake;generalize jy (fun a b=>gC (bf E a).uses b) F (F.take i)=X at htake hel;refine ba (A:=A0) pK (by omega) fun g0 hA0=> ?_;subst hA0;repeat' (first|apply ai;exact rfl;apply aa;exact rfl;exact rfl;exact hlt|apply ai;exact rfl;apply aD (ys:=aw a);exact rfl;exact pK;rw [VD];exact hv0;exact rfl|apply dC;(iterate 3 exact rfl);apply eO;exact rfl|apply lO (id:=8) [] [];kernel_rfl;kernel_rfl;kernel_rfl|apply dC;(iterate 3 exact rfl);apply kv (enc:=bJ) (z:=uK);exact rfl;exact rfl;exact pK;exact hl|apply dC;(iterate 3 exact rfl);apply eu;exact rfl;exact rfl|refine zZI ?_|refine sM fun _=>?_|refine sC ?_ ?_<;>intro hb<;>try omega|refine sCW ?_ ?_<;>intro hb<;>try omega|fail)
  rename_i g6
  refine ay [0,4,6,7,14,15,16,27,28] rfl (fun x:Nat × Option Nat × Nat=> [(3,sl x.2.1 (X++ng (fun _ b=>gC e.uses b) (F.take x.1) a).length x.2.2),(29,.int .i64 (x.1:Int))])
   (fun x=> .box g6 35 (aw a):: .own x.2.1 119 4 (X++ng (fun _ b=>gC e.uses b) (F.take x.1) a).length x.2.2 ((X++ng (fun _ b=>gC e.uses b) (F.take x.1) a).flatMap cM):: .own (some g0) 35 2 F.length c0 (F.flatMap aw):: .box gg 141 [.map (some gm)]:: .obj gm (cJ bJ (E.map En.m) clock)::R)
   (fun x=>x.1≤F.length) (fun x=>F.length - x.1) (0,A,cap) (Vt _) ?_ ?_ ?_
  ·simp only [ng,WP,YJ,Wv,VB];exact sB
  ·simp only [ng,WP,YJ,Wv,VB];exact mS
  rintro ⟨k,A2,cap2⟩ hk;dsimp only at hk ⊢;by_cases hkt:k<F.length
  ·have hrow:=LU (q:=fun _ b=>gC e.uses b) (a:=a) hkt;have hrl:(ng (fun _ b=>gC e.uses b) (F.take k) a).length≤1000:=by
    have:=Fz (fun _ b=>gC e.uses b) (F.take k) a;rw [VQ] at this;omega
   have hv1:((F.flatMap aw).drop (k*2)).take 2=aw F[k]:=cj bS F k hkt;generalize F[k]=b at hv1 hrow;have hcf:=fun (g9:Nat) (w' :World) (H' :List Blk) (hs:MSub R H') (hi:In (.box g9 35 (aw b)) H') (hm:Mem w0 w' H')=>EB 117 [.pointer (some ⟨g9,0,none⟩)] (fun u=>kE u.rect b) e.uses hoke.ul e.uv w' (hoke.uses _ w' (hs.use hm)) (fun u w2 H2 hm2=>PL u b g9 w2 (Ro.next (Ro.of_box hm hi) hm2));have hU:(e.uses.any fun u=>kE u.rect b)=gC e.uses b:=rfl;rw [hU] at hcf;generalize gC e.uses b=yes at hcf hrow;generalize ng (fun _ b=>gC e.uses b) (F.take k) a=Y at hrow hrl;have hXY:(X++Y).length≤1002000:=by rw [Vn];omega
   have hXYs:(X++Y).length+1=(X++(Y++ [(a,b)])).length:=by simp [WF]
   have hXYf:(X++Y).flatMap cM++cM (a,b)=(X++(Y++ [(a,b)])).flatMap cM:=by simp
   repeat' first|apply ai;exact rfl;apply aa;exact rfl;exact rfl;exact hkt|apply ai;exact rfl;apply aD (ys:=aw b);exact rfl;exact pK;rw [VD];exact hv1;exact rfl|apply ag (f:=116);exact rfl;exact rfl;intro w' hm;exact hcf _ w' _ mS pK hm|apply xC;(iterate 6 exact rfl)|apply aG (news:=cM (a,b));(iterate 3 exact rfl);exact pK;exact pK;exact rfl;simp [cM,Value.oneCell'];omega;simp only [maxLen];omega;intro g3 cap3;rw [hXYs,hXYf]|refine zZA ?_|refine sM fun _=>?_|refine sC ?_ ?_<;>intro hb<;>try omega|fail
   ·rw [hb] at hrow;simp only [if_true] at hrow;refine ⟨(k+1,some g3,cap3),hkt,(by dsimp only;omega),?_,?_,?_⟩
    ·dsimp only;rw [hrow];exact sB
    ·exact sB
    ·dsimp only;rw [hrow];exact mS
   ·rw [hb] at hrow;simp only [V2,if_false] at hrow;refine ⟨(k+1,A2,cap2),hkt,(by dsimp only;omega),?_,?_,?_⟩
    ·dsimp only;rw [hrow];exact sB
    ·exact sB
    ·dsimp only;rw [hrow];exact mS
  ·have e2:k=F.length:=by omega
   subst e2;have htake' :=htake;rw [show F.take F.length=F from V1] at*;repeat' (first|refine zZA ?_|refine sM fun _=>?_|refine sC ?_ ?_<;>intro hb<;>try omega|fail)
   refine ⟨(i+1,A2,cap2),hlt,(by dsimp only;omega),?_,?_,?_⟩
   ·dsimp only;rw [htake];exact sB
   ·exact sB
   ·dsimp only;rw [htake];exact mS
 ·have e2:i=F.length:=by omega
  subst e2;rw [V1];repeat' (first|refine zZB ?_|refine sM fun _=>?_|refine sC ?_ ?_<;>intro hb<;>try omega|fail)
  all_goals exact bp eIO rfl rfl mS ⟨A,cap,rfl,rfl⟩
end Go.SL
namespace Go.SL
open Go Go.Proofs
theorem MSub.appL (R H1:List Blk):MSub R (R++H1):=⟨H1,.refl _⟩
theorem MSub.appR (R H1:List Blk):MSub R (H1++R):=⟨H1,VV⟩
theorem MSub.appS (Hc H1:List Blk):MSub (H1++Hc) (Hc++H1):=⟨[],by rw [VB];exact VV⟩
attribute [local irreducible] W WL WQ WG WA WX WLI WR WT WC VOp RW thn blk bg scp aS aV bi FnAt FnIn FnP ceP
attribute [local irreducible] py r9 wK
theorem eJ {w0:World} {s:aC} {H:List Blk} {ty t' :TypeId} {x y:Operand} {a b:Rf} {c:Bool} (h:decide (a≠b)=c) (hx:ev s x=some (.agg (aw a).toArray)) (hy:ev s y=some (.agg (aw b).toArray)):VOp Tryz.prog w0 s H (.binOp .neq 35 x y t') ty (.bool c):=by
 have h1:=NS (w0:=w0) (H:=H) (ty:=ty) (t' :=t') hx hy;rw [qY] at h1;rw [← h];have e:(!decide (a=b))=decide (a≠b):=by simp
 rwa [e] at h1
end Go.SL
namespace Go.SL
open Go Go.Proofs
attribute [local irreducible] W WL WQ WG WA WX WLI WR WT WC VOp RW thn blk bg scp aS aV bi FnAt FnIn FnP ceP
theorem Ez (L M:List Rf) (lv mv:Value) (w:World) (hl:Reads w lv L.length (L.flatMap aw)) (hm:Reads w mv M.length (M.flatMap aw)):
 aF Tryz.prog 15 [lv,mv] w (.bool (decide (L=M))):=by
 obtain ⟨Al,cl,rfl,hl1,hl2,hl3⟩:=hl;obtain ⟨Am,cm,rfl,hm1,hm2,hm3⟩:=hm;refine aA Tryz.func15 rfl Tryz.ntmps15 rfl ?_;by_cases hlen:L.length=M.length
 ·repeat' first|refine zZB ?_|refine sM fun _=>?_|refine sC ?_ ?_<;>intro hb<;>try omega|fail
  refine fP (fun i:Nat=> [(0,.slice Al L.length cl),(1,.slice Am M.length cm),(5,.int .i64 (i:Int))]) (fun _=> []) (fun i=>i≤L.length∧decide (L=M)=decide (L.drop i=M.drop i)) (fun i=>L.length - i) 0 ⟨by omega,rfl⟩ ?_ ?_ ?_
  ·exact sB
  ·exact mS
  ·rintro i ⟨hi,hrec⟩;by_cases hlt:i<L.length
   ·have hlt2:i<M.length:=by omega
    obtain ⟨gl,ol,rfl,hrl⟩:=hl3 (by omega);obtain ⟨gm,om,rfl,hrm⟩:=hm3 (by omega);have he1:=hrl.elem bS i hlt;have he2:=hrm.elem bS i hlt2;rw [xo hlt hlt2,← qY] at hrec;repeat' (first|apply aY;exact rfl;apply aa;exact rfl;exact rfl;(first|exact hlt|exact hlt2)|apply aY;exact rfl;apply bC;exact rfl;(first|exact he1|exact he2);exact rfl|apply aY;exact rfl;apply NS;exact rfl;exact rfl|apply ai;exact rfl;apply jn;exact rfl;exact rfl;simp only [maxLen] at*;omega|refine sT ?_|refine sS ?_|refine sQ ?_|refine sD ?_|refine sM fun _=>?_|refine sC ?_ ?_<;>intro hb<;>try omega|refine sCQ ?_ ?_<;>intro hb<;>try omega|fail)
    ·(refine rT1 ?_);rw [hrec];simp_all
    ·refine ⟨i+1,⟨by omega,?_⟩,by omega,?_,?_⟩
     ·rw [hrec];simp_all
     ·exact sB
     ·exact mS
   ·have e:i=L.length:=by omega
    subst e;repeat' (first|refine zZB ?_|refine sM fun _=>?_|refine sC ?_ ?_<;>intro hb<;>try omega|fail)
    (refine rT1 ?_);rw [hrec,V8,hlen,V8]
    rfl
 ·repeat' first|refine zZB ?_|refine sM fun _=>?_|refine sC ?_ ?_<;>intro hb<;>try omega|fail
  (refine rT1 ?_);rw [decide_eq_false];intro e;exact hlen (congrArg List.length e)
theorem eG {L M:List Rf} (h:L=M) {lv mv:Value} {w:World} (hl:Reads w lv L.length (L.flatMap aw)) (hm:Reads w mv M.length (M.flatMap aw)):aF Tryz.prog 15 [lv,mv] w (.bool true):=by
 have:=Ez L M lv mv w hl hm;rwa [decide_eq_true h] at this
end Go.SL
namespace Go.SL
open Go Go.Proofs Go.ChangeShapes Go.WideShapes Go.ChangeAt Go.RowKit Go.Deep
section
variable {H:Type} {enc:TypeId × Value→H} {P:Program} {w:World} {base:Nat} {spare:Nat→Bool} {held:Bool}
theorem nn {f:Func} {s:ChangeSpec} {apart fresh handsOn again:Bool} {W W' :World} {args:Array Value} {v:Value} {ds gs:List (DataW H)} {before pa pv:List MemPlace}
 (hW:DataW.Whole enc P f.params.toList s.vars apart W args.toList ds gs before)
 (hres: ∀ (b:Nat) (sp:Nat→Bool) (hd:Bool),DataW.TrodAll enc P W' b sp hd f.resultTypes.toList (v.resultList f.resultTypes.size) (s.fn H (ds++gs)).results [])
 (hargs: ∀ sp:Nat→Bool,(∀ p∈before,sp p.block=true)→DataW.TrodAll enc P W' 0 sp true f.params.toList args.toList (s.fn H (ds++gs)).args pa)
 (hvars: ∀ sp:Nat→Bool,(∀ p∈before,sp p.block=true)→DataW.TrodVars enc P W' sp s.vars (s.fn H (ds++gs)).vars pv)
 (hps:before=pa++pv) (hb:Below W.heap.size W W')
 (hok: ∀ (j:Nat) (t:TypeId) (r:Value),f.resultTypes[j]? =some t→(v.resultList f.resultTypes.size)[j]? =some r→Value.okWide P W' .any 0 t r):
 s.post enc P f apart fresh handsOn again W args v W' :=by
 have hold: ∀ p∈before,(fun b=>decide (b<W.heap.size)) p.block=true:=fun p hp=>by simpa using hW.lt p hp
 refine ⟨ds,gs,before,[],pa,pv,hW,hres _ _ _,hargs _ hold,hvars _ hold,hb.frame _,fun _=> ?_⟩;have hlt:=hW.lt;obtain ⟨_,_,_,_,_,hz,hn⟩:=hW;refine ⟨hok,_,_,([]++pa)++pv,⟨[]++pa,pv,trodAll_append (hargs _ (fun _ _=>rfl)) (hres _ _ _),hvars _ (fun _ _=>rfl),rfl,?_,?_⟩,?_⟩
 ·intro b off hp;have hp' :MemPlace.cell b off∈before:=by rw [hps];simpa using hp
  have h1:=hz b off hp';have h2:=hlt _ hp';rw [← h1];exact hb.frozen h2
 ·intro ha;have:=hn ha;rw [hps] at this;simpa using this
 ·intro p hp _;rw [hps];simpa using hp
theorem f9 {t:TypeId} (hl:laidOutB P=true) (hr:P.readableRec t=true) (hrow:t<P.types.size) {W W' :World} {v:Value} {d:DataW H} {ps:List MemPlace} {sp:Nat→Bool}
 (h:DataW.Trod enc P W 0 (fun _=>true) true t v d ps) (hb:Below W.heap.size W W') (hlt: ∀ x∈ps,x.block<W.heap.size) (hs: ∀ x∈ps,sp x.block=true):DataW.Trod enc P W' 0 sp true t v d ps:=
 WideElems.Trod_stays hl hr hrow h (fun x hx=>hb.same (hlt x hx)) hs
end
theorem Eo:ownKnob Tryz.prog.godebug=none:=by kernel_rfl
theorem fA:laidOutB Tryz.prog=true:=by kernel_rfl
section
variable {H:Type} {enc:TypeId × Value→H} {w:World} {base:Nat} {spare:Nat→Bool} {held:Bool}
theorem JF {α:Type} {enc:α→List Value} {m:Nat} (hm: ∀ a,(enc a).length=m) (w:World) (g o:Nat): ∀ (L:List α),(∀ (i:Nat) (a:α),L[i]? =some a→Cells w g (o+i*m) (enc a))→Cells w g o (L.flatMap enc):=by
 intro L h j v hv;by_cases hm0:m=0
 ·have:(L.flatMap enc).length=0:=by rw [bh hm,hm0,Nat.mul_zero]
  rw [VJ (by omega)] at hv;cases hv
 have hlen:(L.flatMap enc).length=L.length*m:=bh hm L;have hj:j<(L.flatMap enc).length:=(VI.1 hv).1;have hi:j / m<L.length:=by rw [Nat.div_lt_iff_lt_mul (by omega)];omega
 have hk:j % m<m:=Y5 _ (by omega);have he:j / m*m+j % m=j:=by rw [Nat.mul_comm];exact Nat.div_add_mod j m
 have h1:=qW hm L (j / m) (j % m) hi hk;rw [he,hv] at h1;have h2:=h (j / m) L[j / m] (Vo hi) (j % m) v h1.symm;rw [show o+j / m*m+j % m=o+j by omega] at h2;exact h2
theorem Mj {α:Type} [Inhabited α] {encA:α→List Value} {ok:α→Prop} {P:Program} {t e m fuel:Nat} {cs:List Value} {x:DataW H × List MemPlace} (ht:P.underlying t=some (.slice e)) (hm:P.cellsOf e=m) (hm0:0<m) (hlenA: ∀ a,(encA a).length=m)
 (helem: ∀ (n:Nat) (cs:List Value) (y:DataW H × List MemPlace),DataW.trod enc P w 0 spare held n e cs=some y→ ∃ a,cs=encA a∧ok a) (h:DataW.trod enc P w 0 spare held fuel t cs=some x):
 ∃ (v:Value) (L:List α),cs= [v]∧Reads w v L.length (L.flatMap encA)∧ ∀ a∈L,ok a:=by
 rcases open_slice ht h with ⟨h0,_⟩|⟨a,len,cap,mm,n,D,Pl,h0,hb,hl,hmx,hmm,_,hx⟩
 ·exact ⟨_,[],h0,⟨none,0,rfl,VA _,Vt _,fun h=>by cases h⟩,fun _ h=>by cases h⟩
 ·have hlm:len≤mm:=by rw [hmm];split<;>omega
  obtain ⟨F,hF⟩:=choose_lt (α:=α) (n:=len) (p:=fun i nd=>w.cells? 0 (a.add (i*m)) m=some (encA nd)∧ok nd) (fun i hi=>by
   obtain ⟨cs',h1,h2⟩:=hx i (by omega);rw [hm] at h1;obtain ⟨nd,rfl,hw⟩:=helem _ _ _ h2;exact ⟨nd,h1,hw⟩)
  have hlen:((List.range len).map F).length=len:=by simp
  refine ⟨_,(List.range len).map F,h0,⟨some a,cap,by rw [hlen],by omega,hmx,fun hpos=> ?_⟩,fun n hn=> ?_⟩
  rotate_left
  ·obtain ⟨i,hi,rfl⟩:=VM.1 hn;exact (hF i (VT.1 hi)).2
  rw [hlen] at hpos;obtain ⟨g,o,spot⟩:=a;have hspot:spot=none:=by
   obtain ⟨_,_,h3⟩:=World.cells?_some (hF 0 (by omega)).1;have h4' :=h3 0 hm0;rw [Vo (by rw [hlenA];exact hm0)] at h4';have h4:=World.cell?_spot h4';simpa [Addr.add] using h4
  subst hspot;have hcell: ∀ (i:Nat) (nd:α),((List.range len).map F)[i]? =some nd→Cells w g (o+i*m) (encA nd):=by
   intro i nd hnd k v hv;have hil:i<len:=by have:=(VI.1 hnd).1;omega
   have hnd' :F i=nd:=by simpa [hil] using hnd
   subst hnd';have hk:k<m:=by have:=(VI.1 hv).1;rwa [hlenA] at this
   obtain ⟨_,_,h3⟩:=World.cells?_some (hF i hil).1;have:=h3 k hk;rw [hv,dR,dR] at this;exact this
  refine ⟨g,o,rfl,?_,JF hlenA w g o _ hcell⟩;obtain ⟨u,hu⟩: ∃ u,(encA (F 0))[0]? =some u:=⟨_,Vo (by rw [hlenA];exact hm0)⟩;have h5:=hcell 0 (F 0) (by simp [hpos]) 0 u hu;simp only [World.cell?] at h5;split at h5
  ·rename_i h6;exact (V0.1 h6).1
  ·cases h5
theorem Da {n:Nat} {c:Value} {x:DataW H × List MemPlace} (h:DataW.trod enc Tryz.prog w base spare held n 3 [c]=some x): ∃ a,c= .int .i64 a∧I64 a:=by
 obtain ⟨a0,q0,_,w0⟩:=DataW.trod_int Tryz.underlying3 h;simp only [List.cons.injEq,and_true] at q0;exact ⟨a0,q0,bounds_i64 w0⟩
theorem TD {n:Nat} {c:Value} {x:DataW H × List MemPlace} (h:DataW.trod enc Tryz.prog w base spare held n 9 [c]=some x): ∃ a,c= .string a:=by
 obtain ⟨a0,q0,_⟩:=DataW.trod_string Tryz.underlying9 h;simp only [List.cons.injEq,and_true] at q0;exact ⟨a0,q0⟩
def okF (a:Rf):Prop:=I64 a.col∧I64 a.row
def UW (p:Pu):Prop:=I64 p.col∧I64 p.row
set_option maxRecDepth 100000 in
theorem N8 {fuel:Nat} {cs:List Value} {x:DataW H × List MemPlace} (h:DataW.trod enc Tryz.prog w base spare held fuel 35 cs=some x): ∃ v:Rf,cs=aw v∧okF v:=by
 obtain ⟨xs,n,_,_,hlen,hxl,hf⟩:=DataW.trod_struct Tryz.underlying35 h;have eS:Tryz.prog.cellsOf 35=2:=by kernel_rfl
 have eI:Tryz.prog.cellsOf 3=1:=by kernel_rfl
 rw [eS] at hlen
 match cs,hlen,xs,hxl with
 | [c0,c1],_,[x0,x1],_=>
  have h0:DataW.trod enc Tryz.prog w base spare held n 3 ((([c0,c1]:List Value).drop 0).take (Tryz.prog.cellsOf 3))=some x0:=hf 0 _ rfl;rw [eI] at h0;obtain ⟨a0,rfl,w0⟩:=Da (c:=c0) h0;have h1:DataW.trod enc Tryz.prog w base spare held n 3 ((([Value.int .i64 a0,c1]:List Value).drop 1).take (Tryz.prog.cellsOf 3))=some x1:=hf 1 _ rfl;rw [eI] at h1;obtain ⟨a1,rfl,w1⟩:=Da (c:=c1) h1;exact ⟨⟨a0,a1⟩,rfl,w0,w1⟩
set_option maxRecDepth 100000 in
theorem N9 {fuel:Nat} {cs:List Value} {x:DataW H × List MemPlace} (h:DataW.trod enc Tryz.prog w base spare held fuel 91 cs=some x): ∃ v:Pu,cs=mT v∧UW v:=by
 obtain ⟨xs,n,_,_,hlen,hxl,hf⟩:=DataW.trod_struct Tryz.underlying91 h;have eS:Tryz.prog.cellsOf 91=3:=by kernel_rfl
 have eI:Tryz.prog.cellsOf 3=1:=by kernel_rfl
 have eT:Tryz.prog.cellsOf 9=1:=by kernel_rfl
 rw [eS] at hlen
 match cs,hlen,xs,hxl with
 | [c0,c1,c2],_,[x0,x1,x2],_=>
  have h0:DataW.trod enc Tryz.prog w base spare held n 3 ((([c0,c1,c2]:List Value).drop 0).take (Tryz.prog.cellsOf 3))=some x0:=hf 0 _ rfl;rw [eI] at h0;obtain ⟨a0,rfl,w0⟩:=Da (c:=c0) h0;have h1:DataW.trod enc Tryz.prog w base spare held n 3 ((([Value.int .i64 a0,c1,c2]:List Value).drop 1).take (Tryz.prog.cellsOf 3))=some x1:=hf 1 _ rfl;rw [eI] at h1;obtain ⟨a1,rfl,w1⟩:=Da (c:=c1) h1;have h2:DataW.trod enc Tryz.prog w base spare held n 9 ((([Value.int .i64 a0,.int .i64 a1,c2]:List Value).drop 2).take (Tryz.prog.cellsOf 9))=some x2:=hf 2 _ rfl;rw [eT] at h2;obtain ⟨a2,rfl⟩:=TD (c:=c2) h2;exact ⟨⟨a0,a1,a2⟩,rfl,w0,w1⟩
instance iN10:Inhabited Pu:=⟨⟨0,0,aB⟩⟩
set_option maxRecDepth 100000 in
theorem BQ {α:Type} [Inhabited α] {encA:α→List Value} {ok:α→Prop} {t e m:Nat} {v:Value} {d:DataW H} {p:List MemPlace} (ht:Tryz.prog.underlying t=some (.slice e)) (hm:Tryz.prog.cellsOf e=m) (hm0:0<m) (hlenA: ∀ a,(encA a).length=m)
 (helem: ∀ (n:Nat) (cs:List Value) (y:DataW H × List MemPlace),DataW.trod enc Tryz.prog w 0 spare held n e cs=some y→ ∃ a,cs=encA a∧ok a)
 (hv:Value.okWide Tryz.prog w .any base t v) (h:DataW.Trod enc Tryz.prog w 0 spare held t v d p): ∃ L:List α,Reads w v L.length (L.flatMap encA)∧ ∀ a∈L,ok a:=by
 obtain ⟨fuel,hf⟩:=h;have hc:v.cells.toList= [v]:=by
  obtain ⟨a,n,c,rfl⟩:=okWide_slice ht hv
  rfl
 rw [hc] at hf;obtain ⟨v',L,q,h1,h2⟩:=Mj ht hm hm0 hlenA helem hf;simp only [List.cons.injEq,and_true] at q;subst q;exact ⟨L,h1,h2⟩
set_option maxRecDepth 100000 in
theorem vk {v:Value} {d:DataW H} {p:List MemPlace} (hv:Value.okWide Tryz.prog w .any base 22 v) (h:DataW.Trod enc Tryz.prog w 0 spare held 22 v d p): ∃ L:List Pu,Reads w v L.length (L.flatMap mT)∧ ∀ a∈L,UW a:=
 BQ Tryz.underlying22 (by kernel_rfl) (by decide) qZ (fun _ _ _ h=>N9 h) hv h
end
attribute [local irreducible] FnAt FnIn FnP RW VOp W WA WC WG WL WLI WQ WR WT WX aS aV bg bi blk ceP scp thn
theorem yQ {D:List Int} {k:Nat} {c:Int} (h:D[k]? =some c):bP (D.take (k+1)) 0=10*bP (D.take k) 0+(c - 48):=by
 obtain ⟨h1,rfl⟩:=VI.1 h;rw [Vu h1,sv]
theorem rG {D:List Int} (hd: ∀ (k:Nat) c,D[k]? =some c→48≤c∧c≤57) (k:Nat):0≤bP (D.take k) 0∧bP (D.take k) 0≤bP D 0:=by
 have h48: ∀ c∈D,48≤c:=fun c hc=>by
  obtain ⟨i,hi,rfl⟩:=WJ hc;exact (hd i _ (Vo hi)).1
 have h1:0≤bP (D.take k) 0:=nV _ (fun c hc=>h48 c (WV hc)) (XS _);refine ⟨h1,?_⟩;conv=>rhs;rw [← Wh k D,tV]
 exact nV _ (fun c hc=>h48 c (XK hc)) h1
theorem LY (a:ByteArray) (ha:a.size≤1000000) (w:World):aF Tryz.prog 238 [.string a] w (.tuple #[.int .i64 (jf (ap a)).1,.int .i64 (jf (ap a)).2]):=by
 refine aA Tryz.func238 rfl Tryz.ntmps238 rfl ?_;have hl:=az a;have hm:dx=9223372036854775807:=rfl;obtain ⟨neg,hneg⟩: ∃ neg,neg=decide ((ap a).head? =some 45):=⟨_,rfl⟩;have hb0:=ui a 45;obtain ⟨fr,hfr⟩: ∃ fr,fr=if neg then 1 else 0:=⟨_,rfl⟩;obtain ⟨n,hn⟩: ∃ n,n=aK aL ((ap a).drop fr):=⟨_,rfl⟩;obtain ⟨e,he⟩: ∃ e,e=if (ap a)[fr+n]? =some 46 then fr+n+1+aK aL ((ap a).drop (fr+n+1)) else fr+n:=⟨_,rfl⟩;have hcase:=MW (ap a) neg hneg fr hfr n hn e he;have hfrl:fr≤a.size:=by
  rw [hfr]
  cases neg with
  |false=>exact Vt _
  |true=>have:=(hb0.1 (of_decide_eq_true hneg.symm)).1;simp only [if_true];omega
 have hnl:fr+n≤a.size:=by
  have:=cH aL ((ap a).drop fr);rw [VS] at this;omega
 have hD1:=tK a ha fr;rw [← hn] at hD1;have hD2:=tK a ha (fr+n+1);have hyes:0<a.size→bat a 0=45→fr=1:=fun h1 h2=>by
  have:neg=true:=by rw [hneg];exact decide_eq_true (hb0.2 ⟨h1,h2⟩)
  rw [hfr,this];rfl
 have hno:(0<a.size→bat a 0≠45)→fr=0:=fun h=>by
  have:neg=false:=by rw [hneg];exact decide_eq_false (fun h' =>h (hb0.1 h').1 (hb0.1 h').2)
  rw [hfr,this];rfl
 have hnegE:decide ((fr:Int)=1)=neg:=by
  rw [hfr];cases neg<;>rfl
 have h46: ∀ j,j<a.size→((ap a)[j]? =some 46↔bat a j=46):=fun j hj=>by rw [iZ hj];simp
 have h46' :a.size≤fr+n→ ¬ (ap a)[fr+n]? =some 46:=fun h=>by rw [VJ (by omega)];simp
 repeat' first|refine CZ (id:=2) (ι:=Unit) (fun _=> [(0,.string a),(4,.int .i64 (fr:Int))]) (fun _=> []) (fun _=>True) ?_ ?_|refine zZF ?_|refine sM fun _=>?_|refine sC ?_ ?_<;>intro hb<;>try omega|exact cT|fail
 ·rw [hyes (by omega) (by assumption)];refine dH (()) ?_ sB mS
  trivial
 ·rw [hno (fun _=>by assumption)];refine dH (()) ?_ sB mS
  trivial
 ·rw [hno (fun h=>by omega)];refine dH (()) ?_ sB mS
  trivial
 rintro ⟨⟩ -;repeat' (first|apply ag (d:=22);exact rfl;exact rfl;intro w' hm;exact hD1 w'|refine CZ (id:=6) (ι:=Unit) (fun _=> [(0,.string a),(4,.int .i64 (fr:Int)),(5,.int .i64 ((fr+n:Nat):Int)),(6,.int .i64 (e:Int))]) (fun _=> []) (fun _=>True) ?_ ?_|apply ai;exact rfl;apply bk (j:=fr+n);exact rfl;exact rfl;omega|apply ag (d:=37);exact rfl;exact rfl;intro w' hm;exact hD2 w'|refine zZC ?_|refine sM fun _=>?_|refine sC ?_ ?_<;>intro hb<;>try omega|exact cT|fail)
 ·rw [he,if_pos ((h46 _ (by omega)).2 (by assumption))];refine dH (()) ?_ sB mS
  trivial
 ·rw [he,if_neg (fun h=>absurd ((h46 _ (by omega)).1 h) (by assumption))];refine dH (()) ?_ sB mS
  trivial
 ·rw [he,if_neg (h46' (by omega))];refine dH (()) ?_ sB mS
  trivial
 rintro ⟨⟩ -;clear hD1 hD2 hyes hno h46 h46' hb0;rcases hcase with ⟨hbad,hd⟩|⟨h0,he1,he2,D,r,hP⟩
 ·repeat' first|refine zZC ?_|refine sM fun _=>?_|refine sC ?_ ?_<;>intro hb<;>try omega|exact cT|fail
  all_goals first
   |(refine rT2 ?_);rw [hd];done
   |omega
 have hD4:=hP.len;have hat: ∀ i,fr≤i→i<fr+n+5→i≠fr+n→ ∃ c,D[if i<fr+n then i - fr else i - fr - 1]? =some c∧48≤c∧c≤57∧(i<a.size→bat a i=c)∧(a.size≤i→c=48):=fun i h1 h2 h3=>by
  by_cases h:i<fr+n
  ·rw [if_pos h];have hk:=hP.at1 (i - fr) (by omega);rw [show fr+(i - fr)=i by omega,iZ (by omega)] at hk;exact ⟨_,hk,(hP.dig hk).1,(hP.dig hk).2,fun _=>rfl,fun h=>by omega⟩
  ·rw [if_neg h];have hk:=hP.at2 (i - fr - 1) (by omega) (by omega);rw [show fr+(i - fr - 1)+1=i by omega] at hk;refine ⟨_,hk,(hP.dig hk).1,(hP.dig hk).2,fun h4=> ?_,fun h4=> ?_⟩
   ·rw [VX,iZ h4];rfl
   ·rw [VX,VJ (by omega)];rfl
 have hge:=rG (fun k c h=>hP.dig (k:=k) h);have hres:=hP.res;have hr:=hP.rnd;repeat' (first|refine zZC ?_|refine sM fun _=>?_|refine sC ?_ ?_<;>intro hb<;>try omega|exact cT|fail)
 all_goals try omega
 rename_i g7;refine ay [0,4,5,7] rfl (fun i:Nat=> [(8,.int .i64 (i:Int))]) (fun i=> [.box g7 411 (iC (bP (D.take (if i≤fr+n then i - fr else i - fr - 1)) 0))]) (fun i=>fr≤i∧i≤fr+n+5∧bP (D.take (if i≤fr+n then i - fr else i - fr - 1)) 0≤10*dx+9) (fun i=>fr+n+5 - i) fr ⟨by omega,by omega,?_⟩ sB ?_ ?_
 ·rw [if_pos (by omega),Nat.sub_self,WP];decide
 ·rw [if_pos (by omega),Nat.sub_self,WP];exact .refl _
 rintro i ⟨h1,h2,h3⟩;obtain ⟨k,hk⟩: ∃ k,(if i≤fr+n then i - fr else i - fr - 1)=k:=⟨_,rfl⟩;rw [hk] at h3 ⊢;have hgk:=hge k;obtain ⟨V,hV⟩: ∃ V,bP (D.take k) 0=V:=⟨_,rfl⟩;rw [hV] at h3 hgk ⊢;by_cases hend:i=fr+n+5
 ·have hVD:V=bP D 0:=by
   rw [← hV,Wl];rw [hD4,← hk,if_neg (by omega)];omega
  have hsi:=fun v neg h h' w=>oS v neg h h' w;subst hend;have hpl: ∀ w,aF Tryz.prog 304 [.agg (iC V).toArray,.agg #[.int .u64 0,.int .u64 1]] w (.agg (iC (V+1)).toArray):=fun w=>by
   have:=xd V 1 hgk.1 (by omega) (by omega) w;rwa [nF (v:=1) (by omega) (by omega)] at this
  have hS0:=fun w=>oS V neg hgk.1 (by omega) w;have hS1:=fun w=>oS (V+1) neg (by omega) (by omega) w;rw [← hVD] at hres;have hrin:fr+n+5<a.size→bat a (fr+n+5)=r:=fun hin=>by
   rw [hr,VX,iZ hin];rfl
  have hrout:a.size≤fr+n+5→r=48:=fun h=>by
   rw [hr,VX,VJ (by omega)];rfl
  clear hr hP hat hge hV hVD;repeat' (first|apply ai (d:=57);exact rfl;apply gQ (b:=5);exact rfl;exact rfl;simp only [maxLen] at*;omega|apply ai (d:=93);exact rfl;apply gQ (b:=5);exact rfl;exact rfl;simp only [maxLen] at*;omega|apply ai (d:=100);exact rfl;apply gQ (b:=5);exact rfl;exact rfl;simp only [maxLen] at*;omega|apply ai (d:=101);exact rfl;apply bk (j:=fr+n+5);exact rfl;exact rfl;omega|rw [hrin (by omega)]|apply ag (f:=304);exact rfl;exact rfl;intro w' hm;exact hpl w'|rw [hnegE]|apply ag (f:=306);exact rfl;exact rfl;(intro w' hm;first|exact hS1 w' |exact hS0 w')|refine zZC ?_|refine sM fun _=>?_|refine sC ?_ ?_<;>intro hb<;>try omega|exact cT|fail)
  all_goals first
   |omega
   | ((refine rT2 ?_)
      rw [hres];by_cases h53:53≤r
      ·rw [if_pos h53];first|omega|rw [if_pos (by omega)];done|have hnb: ¬ dx<V+1:=(by omega);simp only [if_neg hnb];done
      ·rw [if_neg h53,Int.add_zero];first|omega|rw [if_pos (by omega)];done|have hnb: ¬ dx<V:=(by omega);simp only [if_neg hnb];done)
 ·have hlt5:i<fr+n+5:=by omega
  have hgeD:=hgk.2;by_cases hbig:dx<V
  ·have hout:jf (ap a)=(0,3):=by
    rw [hres,if_pos];split<;>omega
   obtain ⟨vh,hvh⟩: ∃ z,V / 18446744073709551616=z:=⟨_,rfl⟩;obtain ⟨vl,hvl⟩: ∃ z,V % 18446744073709551616=z:=⟨_,rfl⟩;have hat' :=hat i h1 hlt5;unfold iC;rw [hvh,hvl];clear hres hP hat hge;repeat' (first|apply ai (d:=57);exact rfl;apply gQ (b:=5);exact rfl;exact rfl;simp only [maxLen] at*;omega|apply ai (d:=72);exact rfl;apply bk (j:=i);exact rfl;exact rfl;omega|apply ai (d:=73);exact rfl;apply fj (c:=bat a i - 48);exact rfl;exact rfl;obtain ⟨c,_,hc1,hc2,hc3,_⟩:=hat' (by omega);rw [hc3 (by omega)];exact gG (by omega) (by omega)|apply ai (d:=74);exact rfl;apply Ia;exact rfl|refine zZC ?_|refine sM fun _=>?_|refine sC ?_ ?_<;>intro hb<;>try omega|exact cT|fail)
   all_goals first
    |omega
    |(refine rT2 ?_);rw [hout];done
  ·have hsm:iC V= [.int .u64 0,.int .u64 V]:=nF hgk.1 (by omega);by_cases hip:i=fr+n
   ·subst hip;rw [hsm];repeat' (first|apply ai (d:=57);exact rfl;apply gQ (b:=5);exact rfl;exact rfl;simp only [maxLen] at*;omega|apply ai (d:=60);exact rfl;apply gQ (b:=1);exact rfl;exact rfl;simp only [maxLen] at*;omega|refine zZC ?_|refine sM fun _=>?_|refine sC ?_ ?_<;>intro hb<;>try omega|exact cT|fail)
    all_goals first
     |omega
     |skip
    have hk2:(if fr+n+1≤fr+n then fr+n+1 - fr else fr+n+1 - fr - 1)=k:=by
     rw [← hk,if_neg (by omega),if_pos (by omega)];omega
    refine ⟨fr+n+1,⟨by omega,by omega,?_⟩,by omega,sB,sB,?_⟩
    ·rw [hk2,hV];exact h3
    ·rw [hk2,hV,hsm];exact mS
   ·obtain ⟨c,hc0,hc1,hc2,hc3,hc4⟩:=hat i h1 hlt5 hip;have hkk:(if i<fr+n then i - fr else i - fr - 1)=k:=by
     rw [← hk];by_cases h:i<fr+n
     ·rw [if_pos h,if_pos (by omega)]
     ·rw [if_neg h,if_neg (by omega)]
    have hk2:(if i+1≤fr+n then i+1 - fr else i+1 - fr - 1)=k+1:=by
     rw [← hkk];by_cases h:i<fr+n
     ·rw [if_pos h,if_pos (by omega)];omega
     ·rw [if_neg h,if_neg (by omega)];omega
    rw [hkk] at hc0;have hnext:=yQ hc0;rw [hV] at hnext;obtain ⟨d,hd⟩: ∃ d,c - 48=d:=⟨_,rfl⟩;rw [hd] at hnext;have hT:=fun w=>Il V hgk.1 (by omega) w;have hP2: ∀ w,aF Tryz.prog 304 [.agg (iC (10*V)).toArray,.agg #[.int .u64 0,.int .u64 d]] w (.agg (iC (10*V+d)).toArray):=fun w=>by
     have:=xd (10*V) d (by omega) (by omega) (by omega) w;rwa [nF (v:=d) (by omega) (by omega)] at this
    have hend2: ∀ (s:aC) (H:List Blk),Sub [(8,.int .i64 ((i+1:Nat):Int))] s→Sub [(0,.string a),(4,.int .i64 (fr:Int)),(5,.int .i64 ((fr+n:Nat):Int)),(7,.pointer (some ⟨g7,0,none⟩))] s→MSub [.box g7 411 (iC (10*V+d))] H→ ∃ i',(fr≤i' ∧i' ≤fr+n+5∧bP (D.take (if i' ≤fr+n then i' - fr else i' - fr - 1)) 0≤10*dx+9)∧fr+n+5 - i' <fr+n+5 - i∧Sub [(8,.int .i64 (i' :Int))] s∧Sub [(0,.string a),(4,.int .i64 (fr:Int)),(5,.int .i64 ((fr+n:Nat):Int)),(7,.pointer (some ⟨g7,0,none⟩))] s∧MSub [.box g7 411 (iC (bP (D.take (if i' ≤fr+n then i' - fr else i' - fr - 1)) 0))] H:=fun s H a1 a2 a3=>by
     refine ⟨i+1,⟨by omega,by omega,?_⟩,by omega,a1,a2,?_⟩
     ·rw [hk2,hnext];omega
     ·rw [hk2,hnext];exact a3
    clear hres hP hat hge hr;rw [hsm];by_cases hin:i<a.size
    ·have hbc:=hc3 hin;repeat' (first|apply ai (d:=57);exact rfl;apply gQ (b:=5);exact rfl;exact rfl;simp only [maxLen] at*;omega|apply ai (d:=60);exact rfl;apply gQ (b:=1);exact rfl;exact rfl;simp only [maxLen] at*;omega|apply ai (d:=72);exact rfl;apply bk (j:=i);exact rfl;exact rfl;exact hin|rw [hbc]|apply ai (d:=73);exact rfl;apply fj (c:=d);exact rfl;exact rfl;rw [hd];exact gG (by omega) (by omega)|apply ai (d:=74);exact rfl;apply dD (c:=d);exact rfl;rw [IntKind.wrap_u64];omega|apply ag (f:=305);exact rfl;exact rfl;intro w' hm;exact hT w'|apply ag (f:=304);exact rfl;exact rfl;intro w' hm;exact hP2 w'|refine zZC ?_|refine sM fun _=>?_|refine sC ?_ ?_<;>intro hb<;>try omega|exact cT|fail)
     all_goals first
      |omega
      |exact hend2 _ _ sB sB mS
    ·have hd0:d=0:=by have:=hc4 (by omega);omega
     subst hd0;repeat' (first|apply ai (d:=57);exact rfl;apply gQ (b:=5);exact rfl;exact rfl;simp only [maxLen] at*;omega|apply ai (d:=60);exact rfl;apply gQ (b:=1);exact rfl;exact rfl;simp only [maxLen] at*;omega|apply ag (f:=305);exact rfl;exact rfl;intro w' hm;exact hT w'|apply ag (f:=304);exact rfl;exact rfl;intro w' hm;exact hP2 w'|refine zZC ?_|refine sM fun _=>?_|refine sC ?_ ?_<;>intro hb<;>try omega|exact cT|fail)
     all_goals first
      |omega
      |exact hend2 _ _ sB sB mS
def En.abs (e:En):Rf × List Nd × List Us:=(e.at_,e.tree,e.uses)
structure GOk (R:List Blk) (E:List En) (clock:Nat) (G:Gr):Prop where
 ok:MapOk (E.map En.m) clock
 en: ∀ e∈E,EnOk R e
 rel: ∀ x,x∈E.map En.abs↔x∈G
 sort:SortG G
theorem KF (E:List En):((E.map En.m).map fun e=>e.1)=E.map En.at_:=by rw [Xl];rfl
theorem PX (E:List En):((E.map En.m).map fun e=>e.2.2)=E.map En.born:=by rw [Xl];rfl
theorem GOk.sub {R R' :List Blk} {E:List En} {clock:Nat} {G:Gr} (h:GOk R E clock G) (hs:MSub R R'):GOk R' E clock G:=⟨h.ok,fun e he=>(h.en e he).sub hs,h.rel,h.sort⟩
theorem GOk.nodup {R:List Blk} {E:List En} {clock:Nat} {G:Gr} (h:GOk R E clock G):(E.map En.at_).Nodup:=KF E ▸ h.ok.keys
theorem GOk.perm {R:List Blk} {E:List En} {clock:Nat} {G:Gr} (h:GOk R E clock G):(E.map En.abs).Perm G:=by
 refine o3 ?_ ?_ h.rel
 ·have:=h.nodup;have e:E.map En.at_=(E.map En.abs).map fun x=>x.1:=by rw [Xl];rfl
  rw [e] at this;exact lm _ this
 ·exact lm (fun e:Rf × List Nd × List Us=>e.1) h.sort.nodup
theorem GOk.len {R:List Blk} {E:List En} {clock:Nat} {G:Gr} (h:GOk R E clock G):E.length=G.length:=by
 have:=h.perm.length_eq;simpa using this
theorem GOk.forms {R:List Blk} {E:List En} {clock:Nat} {G:Gr} (h:GOk R E clock G):iI (E.map En.m)=au G:=by
 have hp:(E.map En.at_).Perm (au G):=by
  have:=h.perm.map fun x=>x.1;rw [Xl] at this;exact this
 rw [iI,KF,wg hp,Az (GJ h.sort)]
theorem GOk.look {R:List Blk} {E:List En} {clock:Nat} {G:Gr} (h:GOk R E clock G) (a:Rf):(fD E a).map (fun e=>(e.tree,e.uses))=mP G a:=by
 cases hf:fD E a with
 |some e=>
  have h1:=Y1 hf;simp only [decide_eq_true_eq] at h1;have h2:(a,e.tree,e.uses)∈G:=by
   rw [← h.rel];refine VM.2 ⟨e,X0 hf,?_⟩;rw [← h1];rfl
  rw [(l6 h.sort).2 h2];rfl
 |none=>
  rw [fD,Yr] at hf;symm;rw [YX,Jj];intro x hx;rw [← h.rel] at hx;obtain ⟨e,he,rfl⟩:=VM.1 hx;have:=hf e he;simpa [En.abs] using this
theorem GOk.uses {R:List Blk} {E:List En} {clock:Nat} {G:Gr} (h:GOk R E clock G) (a:Rf):(bf E a).uses=aU G a:=by
 rw [aU,← h.look a,bf];cases fD E a<;>rfl
theorem GOk.tree {R:List Blk} {E:List En} {clock:Nat} {G:Gr} (h:GOk R E clock G) (a:Rf):(bf E a).tree=iM G a:=by
 rw [iM,← h.look a,bf];cases fD E a<;>rfl
theorem GOk.is {R:List Blk} {E:List En} {clock:Nat} {G:Gr} (h:GOk R E clock G) (a:Rf):(fD E a).isSome=isG G a:=by
 rw [isG,← h.look a];cases fD E a<;>rfl
theorem sA {κ:Type} [DecidableEq κ] {k:κ}: ∀ {es:List (κ × Value × Nat)} {i:Nat},co k es i=none→ ∀ e∈es,e.1≠k
 | [],_,_,e,he=>by cases he
 |x::r,i,h,e,he=>by
  rw [co] at h;split at h
  ·cases h
  ·rename_i hk;rcases VN.1 he with rfl|he
   ·exact fun e=>hk e.symm
   ·exact sA h e he
theorem GOk.del {R:List Blk} {E:List En} {clock:Nat} {G:Gr} (h:GOk R E clock G) (a:Rf): ∃ E',E'.map En.m=Jn a (E.map En.m)∧GOk R E' clock (AP G a):=by
 unfold Jn
 cases hk:co a (E.map En.m) 0 with
 |none=>
  have hno:=sA hk;refine ⟨E,rfl,h.ok,h.en,fun x=> ?_,uX h.sort a⟩;rw [yT,← h.rel];refine ⟨fun hx=>⟨hx,?_⟩,fun hx=>hx.1⟩;obtain ⟨e,he,rfl⟩:=VM.1 hx;exact hno e.m (VM.2 ⟨e,he,rfl⟩)
 |some x=>
  obtain ⟨j,v⟩:=x;obtain ⟨b,_,hj⟩:=n9 hk;rw [WU,VG] at hj;obtain ⟨e0,he0,hm0⟩:=Ws.1 hj;have ha:e0.at_=a:=congrArg Prod.fst hm0;have hsub:(E.eraseIdx j).Sublist E:=List.eraseIdx_sublist E j;have hin: ∀ e,e∈E.eraseIdx j↔e∈E∧e.at_≠a:=by
   intro e;rw [List.mem_eraseIdx_iff_getElem?];obtain ⟨hjl,hj0⟩:=VI.1 he0;constructor
   ·rintro ⟨i,hne,hi⟩;refine ⟨Xz hi,fun hea=>hne ?_⟩;obtain ⟨hil,hi0⟩:=VI.1 hi;have hn:=h.nodup;have:=Yl (xs:=E.map En.at_) (h₀:=by simpa using hil) (h₁:=by simpa using hjl) hn;refine this.1 ?_;simp only [List.getElem_map,hi0,hj0,hea,ha]
   ·rintro ⟨he,hea⟩;obtain ⟨i,hil,hi⟩:=WJ he;refine ⟨i,?_,by rw [Vo hil,hi]⟩;rintro rfl;rw [hj0] at hi;exact hea (hi ▸ ha)
  refine ⟨E.eraseIdx j,o6 _ _ _,?_,fun e he=>h.en e (hsub.subset he),fun x=> ?_,uX h.sort a⟩
  ·have hs2:((E.eraseIdx j).map En.m).Sublist (E.map En.m):=hsub.map _;exact ⟨(hs2.map _).nodup h.ok.born,fun e he=>h.ok.old e (hs2.subset he),(hs2.map _).nodup h.ok.keys⟩
  ·rw [yT,← h.rel];constructor
   ·intro hx;obtain ⟨e,he,rfl⟩:=VM.1 hx;obtain ⟨h1,h2⟩:=(hin e).1 he;exact ⟨VM.2 ⟨e,h1,rfl⟩,h2⟩
   ·rintro ⟨hx,hne⟩;obtain ⟨e,he,rfl⟩:=VM.1 hx;exact VM.2 ⟨e,(hin e).2 ⟨he,hne⟩,rfl⟩
theorem GOk.put {R:List Blk} {E:List En} {clock:Nat} {G:Gr} (h:GOk R E clock G) (n:En) (hn:EnOk R n): ∃ E',E'.map En.m=(lr n.at_ (.agg #[n.tv,n.uv]) clock (E.map En.m)).1∧GOk R E' (lr n.at_ (.agg #[n.tv,n.uv]) clock (E.map En.m)).2 (wV G n.at_ (n.tree,n.uses)):=by
 unfold lr
 cases hk:co n.at_ (E.map En.m) 0 with
 |none=>
  have hno:=sA hk;have hno' :n.at_∉E.map En.at_:=fun hx=>by
   obtain ⟨e,he,hea⟩:=VM.1 hx;exact hno e.m (VM.2 ⟨e,he,rfl⟩) hea
  refine ⟨E++ [{ n with born:=clock }],by simp [En.m,En.tv,En.uv],⟨?_,?_,?_⟩,fun e he=> ?_,fun x=> ?_,uW h.sort _ _⟩
  ·have hb:=h.ok.born;rw [PX] at hb ⊢;rw [Wj,Xq];refine ⟨hb,by simp,fun x hx y hy=> ?_⟩;simp only [VU,Wv,Vx] at hy;subst hy;obtain ⟨e,he,rfl⟩:=VM.1 hx;have:=h.ok.old e.m (VM.2 ⟨e,he,rfl⟩);simp only [En.m] at this;omega
  ·intro e he;rw [Wj] at he;rcases VH.1 he with he|he
   ·have:=h.ok.old e he;simp only;omega
   ·simp only [VU,Wv,Vx] at he;subst he;simp [En.m]
  ·rw [KF,Wj,Xq];refine ⟨h.nodup,by simp,fun x hx y hy e=> ?_⟩;simp only [VU,Wv,Vx] at hy;subst hy;subst e;exact hno' hx
  ·rcases VH.1 he with he|he
   ·exact h.en e he
   ·rw [Vx.1 he];exact ⟨hn.tree,hn.uses,hn.tl,hn.ul⟩
  ·rw [yS,← h.rel,Wj,VH];constructor
   ·rintro (hx|hx)
    ·right
     obtain ⟨e,he,rfl⟩:=VM.1 hx;exact ⟨hx,fun hea=>hno' (VM.2 ⟨e,he,hea⟩)⟩
    ·left
     simpa [En.abs] using hx
   ·rintro (rfl|⟨hx,_⟩)
    ·right;simp [En.abs]
    ·left;exact hx
 |some x=>
  obtain ⟨j,v⟩:=x;obtain ⟨b,_,hj⟩:=n9 hk;rw [WU,VG] at hj;obtain ⟨e0,he0,hm0⟩:=Ws.1 hj;have ha:e0.at_=n.at_:=congrArg Prod.fst hm0;obtain ⟨hjl,hj0⟩:=VI.1 he0;have hget: ∀ i,(E.modify j fun e=>{ n with born:=e.born })[i]? =if j=i then (E[i]?).map (fun e=>{ n with born:=e.born }) else E[i]? :=fun i=>by
   rw [YH];split<;>rename_i hji
   ·rfl
   ·cases E[i]? <;>rfl
  have hin: ∀ e,e∈(E.modify j fun e=>{ n with born:=e.born })↔e={ n with born:=e0.born } ∨(e∈E∧e.at_≠n.at_):=by
   intro e;constructor
   ·intro he;obtain ⟨i,hi⟩:=YA.1 he;rw [hget] at hi;split at hi
    ·rename_i hji;subst hji;rw [he0] at hi
     left
     exact (Option.some.inj hi).symm
    ·rename_i hji
     right
     refine ⟨Xz hi,fun hea=>hji ?_⟩;obtain ⟨hil,hi0⟩:=VI.1 hi;have:=Yl (xs:=E.map En.at_) (h₀:=by simpa using hjl) (h₁:=by simpa using hil) h.nodup;refine this.1 ?_;simp only [List.getElem_map,hi0,hj0,hea,ha]
   ·rintro (rfl|⟨he,hea⟩)
    ·refine YA.2 ⟨j,?_⟩;rw [hget,if_pos rfl,he0];rfl
    ·obtain ⟨i,hil,hi⟩:=WJ he;refine YA.2 ⟨i,?_⟩;rw [hget,if_neg,Vo hil,hi];rintro rfl;rw [hj0] at hi;exact hea (hi ▸ ha)
  have hborn:(E.modify j fun e=>{ n with born:=e.born }).map En.born=E.map En.born:=by
   apply WB;intro i;rw [VG,VG,hget];split
   ·cases E[i]? <;>rfl
   ·rfl
  have hkeys:(E.modify j fun e=>{ n with born:=e.born }).map En.at_=E.map En.at_:=by
   apply WB;intro i;rw [VG,VG,hget];split
   ·rename_i hji;subst hji;rw [he0];simp [ha]
   ·rfl
  refine ⟨E.modify j fun e=>{ n with born:=e.born },?_,⟨?_,?_,?_⟩,fun e he=> ?_,fun x=> ?_,uW h.sort _ _⟩
  ·apply WB;intro i;simp only [YH,VG]
   cases E[i]? with
   |none=>simp
   |some e=>by_cases hji:j=i<;>simp [hji,En.m,En.tv,En.uv]
  ·rw [PX,hborn,← PX];exact h.ok.born
  ·intro e he;obtain ⟨e',he',rfl⟩:=VM.1 he;have:e'.born∈E.map En.born:=by rw [← hborn];exact VM.2 ⟨e',he',rfl⟩
   obtain ⟨e2,he2,hb2⟩:=VM.1 this;have:=h.ok.old e2.m (VM.2 ⟨e2,he2,rfl⟩);simp only [En.m] at this ⊢;omega
  ·rw [KF,hkeys];exact h.nodup
  ·rcases (hin e).1 he with rfl|⟨he,_⟩
   ·exact ⟨hn.tree,hn.uses,hn.tl,hn.ul⟩
   ·exact h.en e he
  ·rw [yS,← h.rel];constructor
   ·intro hx;obtain ⟨e,he,rfl⟩:=VM.1 hx;rcases (hin e).1 he with rfl|⟨he,hea⟩
    ·left;rfl
    ·right;exact ⟨VM.2 ⟨e,he,rfl⟩,hea⟩
   ·rintro (rfl|⟨hx,hne⟩)
    ·exact VM.2 ⟨_,(hin _).2 (.inl rfl),rfl⟩
    ·obtain ⟨e,he,rfl⟩:=VM.1 hx;exact VM.2 ⟨e,(hin e).2 (.inr ⟨he,hne⟩),rfl⟩
theorem jo {o:Option Out} {k:Nat→PS→Option Out} {x:Int × Int} (h:iB o k=some (.error x)) (h1: ∀ y,o=some (.error y)→y.2≠0) (h2: ∀ n p y,k n p=some (.error y)→y.2≠0):x.2≠0:=by
 obtain ⟨r1,hr,⟨e,rfl,he⟩|⟨n,p,rfl,hk⟩⟩:=bU h
 ·cases he;exact h1 _ hr
 ·exact h2 _ _ _ hk
theorem wH {fin:Int} {name:Tk} {fn:Int} {n:Nat} {p:PS} {x:Int × Int} (h:dX fin name fn n p=some (.error x)):x.2≠0:=by
 unfold dX at h;dsimp only at h;split at h
 ·cases h;simp
 ·split at h
  ·cases h;simp
  ·split at h
   ·cases h;simp
   ·cases h
theorem Ov (fin:Int): ∀ (f:Nat) (j:Job) (p:PS) (x:Int × Int),bK fin f j p=some (.error x)→x.2≠0:=by
 intro f
 induction f with
 |zero=>intro j p x h;cases j<;>cases h
 |succ f ih=>
  intro j p x h
  cases j with
  |level k=>
   rw [bK] at h;split at h
   ·exact ih _ _ _ h
   ·exact jo h (ih _ _) fun _ _=>ih _ _
  |loop k=>
   rw [bK] at h;try dsimp only at h
   split at h
   ·exact jo h (ih _ _) fun _ _=>ih _ _
   ·cases h
  |sign=>
   rw [bK] at h;try dsimp only at h
   split at h
   ·exact jo h (ih _ _) fun _ _ _ h=>by cases h
   ·refine jo h (ih _ _) fun _ _ y h=> ?_;split at h
    ·exact jo h (ih _ _) fun _ _ _ h=>by cases h
    ·cases h
  |pct=>
   rw [bK] at h;exact jo h (ih _ _) fun _ _=>ih _ _
  |pctl=>
   rw [bK] at h;try dsimp only at h
   split at h
   ·exact ih _ _ _ h
   ·cases h
  |prim=>
   rw [bK] at h;try dsimp only at h
   split at h
   ·cases h
   ·split at h
    ·cases h
    ·split at h
     ·refine jo h (ih _ _) fun _ _ y h=> ?_;split at h
      ·cases h;simp
      ·cases h
     ·split at h
      ·split at h
       ·cases h;simp
       ·split at h
        ·cases h;simp
        ·split at h
         ·exact wH h
         ·exact jo h (ih _ _) fun _ _ _ h=>wH h
      ·cases h;simp
  |args fn n=>
   rw [bK] at h;try dsimp only at h
   have hgo: ∀ (p:PS) (y:Int × Int),(if (hdT fin p.l).kind=11 then bK fin f (.args fn (n+1)) p.skip else some (.ok (n+1,p)))=some (.error y)→y.2≠0:=by
    intro p y h;split at h
    ·exact ih _ _ _ h
    ·cases h
   split at h
   ·exact jo h (ih _ _) fun _ _ _ h=>hgo _ _ h
   ·split at h
    ·cases h;simp
    ·exact hgo _ _ h
theorem rJ {x:List Tk × Int × Int} {fin:Int}:(bZ x fin).1.length≤x.1.length∧((bZ x fin).2.2=0→eD (bZ x fin).1=0):=by
 have hends:=uZ fin (20*x.1.length+40) (.level 1) ⟨x.1,[]⟩ ⟨by omega,by omega⟩ (by simp only [Job.c];omega);have hgrew:=fun n p hp=>lD fin (20*x.1.length+40) (.level 1) ⟨x.1,[]⟩ n p hp;unfold bZ;split
 ·rename_i h;exact ⟨Vt _,fun h' =>absurd h' h⟩
 ·split
  ·rename_i h;obtain ⟨r,hr,_⟩:=hends;rw [h] at hr;cases hr
  ·rename_i a e h;exact ⟨Vt _,fun h' =>absurd h' (Ov _ _ _ _ _ h)⟩
  ·rename_i n p hp;split
   ·exact ⟨Vt _,fun h' =>by cases h'⟩
   ·split
    ·rename_i hc;exact ⟨Vt _,fun h' =>absurd h' hc⟩
    ·rename_i hc;obtain ⟨⟨m,h1,h2,h3⟩,_,_⟩:=hgrew _ _ hp;simp only [WN,VD] at h3;exact ⟨VR h3 h2,fun _=>by simpa using hc⟩
theorem yK {b:ByteArray} (h:(ofP b).2.2=0) (hf:(ofP b).1.formula=true):eD (ofP b).1.tree=0:=by
 unfold ofP at h hf ⊢;split at hf
 ·cases hf
 ·rename_i h1;rw [if_neg h1] at h ⊢;split at hf
  ·cases hf
  ·rename_i h2;rw [h2] at h;simp only at h ⊢;split at hf
   ·cases hf
   ·rename_i h3;rw [if_neg h3] at h ⊢;have ht:=rJ (x:=bG eB (ap (mh b eqB).1)) (fin:=((mh b eqB).1.size:Int));generalize bZ (bG eB (ap (mh b eqB).1)) ((mh b eqB).1.size:Int)=r at h hf ht ⊢;obtain ⟨t,at_,e⟩:=r;simp only at h hf ht ⊢;split at hf
    ·cases hf
    ·rename_i h4;rw [if_neg h4];exact ht.2 (by simpa using h4)
theorem Dt (b:ByteArray):(ofP b).1.tree.length≤256:=by
 unfold ofP;split
 ·exact Vt _
 ·split
  ·exact Vt _
  ·split
   ·exact Vt _
   ·have ht:=(rJ (x:=bG eB (ap (mh b eqB).1)) (fin:=((mh b eqB).1.size:Int))).1;have hl:=pR eB (ap (mh b eqB).1);generalize bZ (bG eB (ap (mh b eqB).1)) ((mh b eqB).1.size:Int)=r at ht ⊢;obtain ⟨t,at_,e⟩:=r;simp only at ht ⊢;split
    ·exact Vt _
    ·exact VR ht hl
theorem RV (R:List Blk):GOk R [] 0 []:=⟨⟨XN,(fun _ h=>by cases h),XN⟩,(fun _ h=>by cases h),(fun _=>Iff.rfl),BA⟩
def cy (e:En):List Value:= [.int .i64 e.at_.col,.int .i64 e.at_.row,e.tv,e.uv]
theorem zB (e:En):(cy e).length=4:=rfl
def rgB (g:Nat) (A:Option Nat) (cap:Nat) (L:List En):List Blk:= [.box g 113 [sl A L.length cap],.own A 200 4 L.length cap (L.flatMap cy)]
structure RGOk (R:List Blk) (L:List En) (G:Gr):Prop where
 en: ∀ e∈L,EnOk R e
 rel:L.map En.abs=G
theorem RGOk.sub {R R' :List Blk} {L:List En} {G:Gr} (h:RGOk R L G) (hs:MSub R R'):RGOk R' L G:=⟨fun e he=>(h.en e he).sub hs,h.rel⟩
theorem RGOk.len {R:List Blk} {L:List En} {G:Gr} (h:RGOk R L G):L.length=G.length:=by rw [← h.rel,VK]
theorem m8: ∀ (L:List Nd) (i:Nat),∀ u∈eR L i,∃ n∈L,ik n=true∧u.rect=n.rect
 | [],_,u,h=>by cases h
 |n::r,i,u,h=>by
  rw [eR] at h
  cases hr:ik n with
  |false=>
   rw [hr,cond_false] at h;obtain ⟨m,hm,h1,h2⟩:=m8 r (i+1) u h;exact ⟨m,Vv _ hm,h1,h2⟩
  |true=>
   rw [hr,cond_true] at h;rcases VN.1 h with rfl|h
   ·refine ⟨n,Vr,hr,?_⟩;unfold pP
    cases r with
    |nil=>rfl
    |cons m q=>dsimp only;split<;>rfl
   ·obtain ⟨m,hm,h1,h2⟩:=m8 r (i+1) u h;exact ⟨m,Vv _ hm,h1,h2⟩
theorem Lo {L:List Nd} (h:eD L=0): ∀ u∈fp L,bW u.rect=true:=fun u hu=>by
 obtain ⟨n,hn,h1,h2⟩:=m8 L 0 u hu;rw [h2];exact G7 (Eg h n hn) h1
structure EntOk (e:Rf × List Nd × List Us):Prop where
 at_:e.1.valid=true
 tree:eD e.2.1=0
 uses:e.2.2=fp e.2.1
 len:e.2.1.length≤256
theorem EntOk.rect {e:Rf × List Nd × List Us} (h:EntOk e): ∀ u∈e.2.2,bW u.rect=true:=by
 rw [h.uses];exact Lo h.tree
structure GrOk (G:Gr):Prop where
 sort:SortG G
 ent: ∀ e∈G,EntOk e
theorem ze:GrOk []:=⟨BA,fun _ h=>by cases h⟩
theorem GrOk.set {G:Gr} (h:GrOk G) (a:Rf) (b:ByteArray):GrOk (gL G a b).1:=by
 refine ⟨LK h.sort a b,?_⟩;unfold gL;split
 ·exact h.ent
 ·rename_i hv;split
  ·exact h.ent
  ·rename_i he;split
   ·exact fun e he=>h.ent e (yT.1 he).1
   ·rename_i hf;intro e hm;rcases yS.1 hm with rfl|⟨hm,_⟩
    ·exact ⟨by simpa using hv,yK (by simpa using he) (by simpa using hf),rfl,Dt b⟩
    ·exact h.ent e hm
theorem yc (G:Gr) (a:Rf) (b:ByteArray):(gL G a b).1.length≤G.length+1:=by
 unfold gL;split
 ·exact XY _
 ·split
  ·exact XY _
  ·split
   ·exact VR (WD _ _) (XY _)
   ·simp only [wV,Vn,Vw];have:(G.filter fun e=>bn e.1 a).length+(G.filter fun e=>bn a e.1).length≤G.length:=by
     induction G with
     |nil=>simp
     |cons e r ih=>
      simp only [XC,Vw];cases h1:bn e.1 a
      ·cases h2:bn a e.1<;>simp<;>omega
      ·rw [kD h1];simp;omega
    omega
theorem Lh {c r:Int}:valid c r=true↔1≤c∧c≤1024∧1≤r∧r≤1024:=by
 simp only [valid,VP,decide_eq_true_eq];omega
theorem yt {c r:Int}:bW (dU c r)=valid c r:=by
 rw [V3,yu,Lh];simp only [dU];omega
theorem vz {u:Us} {a:Rf} (hu:bW u.rect=true) (ha:a.valid=true):kE u.rect a=lS (dU a.col a.row) u:=by
 rw [V3,Lz,yt];have hv:valid a.col a.row=true:=ha;simp only [kE,VP,decide_eq_true_eq,dU,hu,hv,true_and];omega
theorem uj {us:List Us} {a:Rf} (hu: ∀ u∈us,bW u.rect=true) (ha:a.valid=true):gC us a=bH us (dU a.col a.row):=by
 unfold gC bH;exact CI fun u h=>vz (hu u h) ha
theorem MB {G:Gr} (h:SortG G) {e:Rf × List Nd × List Us} (he:e∈G):mP G e.1=some e.2:=(l6 h).2 he
theorem qG {G:Gr} (h:SortG G) {e:Rf × List Nd × List Us} (he:e∈G):aU G e.1=e.2.2:=by rw [aU,MB h he];rfl
theorem qL {G:Gr} {c:Rf}:c∈au G↔ ∃ e∈G,e.1=c:=by simp [au]
theorem Mx {G:Gr} (h:SortG G) {r:Rct} (hr:bW r=true) {c:Rf} (hc:c∈au G):c∈eU G r↔bH (aU G c) r=true:=by
 obtain ⟨e,he,rfl⟩:=qL.1 hc;rw [eU,if_neg (by rw [FN,hr];simp),qG h he];simp only [VM,Wx];constructor
 ·rintro ⟨f,⟨hf,h1⟩,h2⟩;have:=pd (fun e:Rf × List Nd × List Us=>e.1) h.nodup hf he h2;rw [← this];exact h1
 ·intro h1;exact ⟨e,⟨he,h1⟩,rfl⟩
theorem qN {G:Gr} (h:GrOk G) {d:Rf} (hd:d∈au G):d.valid=true:=by
 obtain ⟨e,he,rfl⟩:=qL.1 hd;exact (h.ent e he).at_
theorem GOk.edges {R:List Blk} {E:List En} {clock:Nat} {G:Gr} (h:GOk R E clock G):vG E=cF G:=by
 unfold vG jy cF;rw [h.forms];have hrow: ∀ a,ng (fun a b=>gC (bf E a).uses b) (au G) a=(G.filter fun f=>gC (aU G a) f.1).map fun f=>(a,f.1):=by
  intro a;rw [ng,au,Ys,Xl,h.uses]
  rfl
 have: ∀ L:Gr,(∀ e∈L,e∈G)→(au L).flatMap (ng (fun a b=>gC (bf E a).uses b) (au G))=L.flatMap fun e=>(G.filter fun f=>gC e.2.2 f.1).map fun f=>(e.1,f.1):=by
  intro L
  induction L with
  |nil=>intro _;rfl
  |cons e r ih=>
   intro hL;have hk:au (e::r)=e.1::au r:=rfl;rw [hk,VE,VE,hrow,qG h.sort (hL e Vr),ih fun f hf=>hL f (Vv _ hf)]
 exact this G fun _ h=>h
theorem zE (G:Gr):(cF G).length≤G.length*G.length:=by
 unfold cF;have: ∀ L:Gr,(L.flatMap fun e=>(G.filter fun f=>gC e.2.2 f.1).map fun f=>(e.1,f.1)).length≤L.length*G.length:=by
  intro L
  induction L with
  |nil=>simp
  |cons a r ih=>
   rw [VE,Vn,VK,Vw,Xm,XX];have:=WD (fun f:Rf × List Nd × List Us=>gC a.2.2 f.1) G;omega
 exact this G
theorem Br {G:Gr} (h:GrOk G) (c:Rf):(aU G c).length≤256:=by
 unfold aU
 cases hl:mP G c with
 |none=>simp
 |some x=>
  have h1:=h.ent _ ((l6 h.sort).1 hl);simp only [Wq,XU];rw [h1.uses];exact VR (gX _ _) h1.len
theorem Ly {G:Gr} (h:GrOk G) (c:Rf):(iM G c).length≤256:=by
 unfold iM
 cases hl:mP G c with
 |none=>simp
 |some x=>
  have h1:=h.ent _ ((l6 h.sort).1 hl);simpa using h1.len
end Go.SL
namespace Go.SL
open Go Go.Proofs
attribute [local irreducible] W WL WQ WG WA WX WLI WR WT WC VOp RW thn blk bg scp aS aV bi FnAt FnP ceP
theorem MSub.mid (A B C:List Blk):MSub (A++C) (A++(B++C)):=⟨B,by
 rw [VC];exact List.Perm.append_left A VV⟩
theorem nk {f:FuncId} {args:List Value} {w0:World} {B H:List Blk} {φ:Value→Option Nat→Nat→Prop} {t sz n:Nat} {cs:List Value}
 (h: ∀ F,FnIn Tryz.prog f args w0 (B++F) fun v H' => ∃ A cap,φ v A cap∧H' = .own A t sz n cap cs::(B++F)) (hs:MSub B H):
 FnIn Tryz.prog f args w0 H fun v H' => ∃ A cap,φ v A cap∧H' = .own A t sz n cap cs::H:=by
 obtain ⟨F,hp⟩:=hs;refine ((h F).msub (MSub.of_perm hp)).re ?_;rintro v H' ⟨A,cap,hv,rfl⟩;exact ⟨_,MSub.of_perm (hp.symm.cons _),A,cap,hv,rfl⟩
section
variable {R:List Blk} {E:List En} {clock:Nat} {G:Gr} (h:GOk R E clock G) (gg gm:Nat) {H:List Blk} (hs:MSub (gB gg gm (E.map En.m) clock++R) H) (w0:World)
include h hs
theorem GOk.uses_any (c:Rf):FnIn Tryz.prog 59 [.pointer (some ⟨gg,0,none⟩),bJ c] w0 H fun v H' => ∃ A cap,v=sl A (aU G c).length cap∧H' = .own A 128 6 (aU G c).length cap ((aU G c).flatMap cw)::H:=by
 refine nk (φ:=fun v A cap=>v=sl A (aU G c).length cap) (fun F=> ?_) hs;have h1:=Sz gg gm clock E c (R++F) w0 (fun e he=>(h.en e he).sub (MSub.appL R F));rw [h.uses] at h1;rw [VC];exact h1
variable (hl:G.length≤900)
include hl
theorem GOk.formulas_any:FnIn Tryz.prog 22 [.pointer (some ⟨gg,0,none⟩)] w0 H fun v H' => ∃ A cap,v=sl A (au G).length cap∧H' = .own A 35 2 (au G).length cap ((au G).flatMap aw)::H:=by
 refine nk (φ:=fun v A cap=>v=sl A (au G).length cap) (fun F=> ?_) hs;have h1:=qB gg gm clock (E.map En.m) h.ok (by rw [VK,h.len];omega) (R++F) w0;rw [h.forms,show (E.map En.m).length=(au G).length by rw [VK,h.len,au,VK]] at h1;rw [VC];exact h1
theorem GOk.edges_any:FnIn Tryz.prog 55 [.pointer (some ⟨gg,0,none⟩)] w0 H fun v H' => ∃ A cap,v=sl A (cF G).length cap∧H' = .own A 119 4 (cF G).length cap ((cF G).flatMap cM)::H:=by
 refine nk (φ:=fun v A cap=>v=sl A (cF G).length cap) (fun F=> ?_) hs;have h1:=Qj gg gm clock E h.ok (by rw [h.len];omega) (R++F) w0 (fun e he=>(h.en e he).sub (MSub.appL R F));rw [h.edges] at h1;rw [VC];exact h1
variable (hG:GrOk G)
include hG
end
end Go.SL
