/-
  Lemmas and walks, put together: A1 C3 A3 A4 B2 Fc B3.
-/
import Derived.Carry
import Derived.Deep.Slices
import Derived.LaidMore
import Derived.Lay
import Derived.OpenShut
import Derived.ProofKit
import Derived.SevenTiedAt
import Derived.Stop.Joined
import Derived.Test.YtpoafcnhplbkmaaGreatDoorCards
import Derived.Test.YtpoafcnhplbkmaaGreatDoorTie
import Derived.Test.YtpoafcnhplbkmaaGreatDoorKs09
set_option linter.unusedSimpArgs false
set_option linter.unusedVariables false
set_option maxRecDepth 20000
set_option maxHeartbeats 16000000
namespace Go.SL
open Go Go.Proofs
attribute [local irreducible] W WL WQ WG WA VOp thn blk bH aV FnAt FnIn
theorem L7 {c:Int} (h1:48≤c) (h2:c≤57):aH c=true:=by simp [aH,h1,h2]
theorem NZ {c:Int} (h:c<48):aH c=false:=by simp [aH];omega
theorem N0 {c:Int} (h:57<c):aH c=false:=by simp [aH];omega
set_option maxRecDepth 10000 in
theorem zn (a:ByteArray) (ha:a.size≤1000000) (w:World):aC Tryz.prog 189 [.string a] w (.int .i64 (aG aH (ap a):Int)):=by
 refine ay Tryz.func189 rfl Tryz.ntmps189 rfl ?_;have hl:=av a;repeat' (first|refine zZE ?_|refine sM fun _=>?_|(refine sC ?_ ?_<;>intro hb<;>try omega)|exact cT|fail)
 refine fR (fun i:Nat=> [(0,.string a),(5,.int .i64 (a.size:Int)),(6,.int .i64 (i:Int))]) (fun _=> []) (fun i=>i≤a.size∧aG aH (ap a)=i+aG aH ((ap a).drop i)) (fun i=>a.size - i) 0 ⟨by omega,by simp⟩ sB mS ?_;rintro i ⟨hi,hr⟩;by_cases hlt:i<a.size
 ·have hs1:=bi hlt;rw [hs1] at hr;simp only [aG] at hr;repeat' (first|refine zZG ?_|refine sM fun _=>?_|(refine sC ?_ ?_<;>intro hb<;>try omega)|exact cT|fail)
  ·(refine rT1 ?_);rw [hr,NZ hb];simp
  ·(refine rT1 ?_);rw [hr,N0 hb];simp
  ·rename_i h1;rw [L7 h1 hb] at hr;exact ⟨i+1,⟨hlt,by rw [hr];simp;omega⟩,by omega,by exact sB,by exact mS⟩
 ·have e:i=a.size:=by omega
  subst e;repeat' (first|refine zZE ?_|refine sM fun _=>?_|(refine sC ?_ ?_<;>intro hb<;>try omega)|exact cT|fail)
  (refine rT1 ?_);rw [hr,RK (by omega)];simp [aG]
def j5 (hi lo:Int) (neg:Bool):Int × Bool:=if hi≠0∨cN<lo then (0,false) else (if neg then -lo else lo,true)
theorem qz {v:Int} (h1:0≤v) (h2:v≤cN):IntKind.i64.wrap v=v:=I64.wrap ⟨by omega,by simpa [cN] using h2⟩
set_option maxRecDepth 10000 in
theorem Iz (hi lo:Int) (neg:Bool) (h0:0≤lo) (w:World):aC Tryz.prog 190 [.int .u64 hi,.int .u64 lo,.bool neg] w (.tuple #[.int .i64 (j5 hi lo neg).1,.bool (j5 hi lo neg).2]):=by
 refine ay Tryz.func190 rfl Tryz.ntmps190 rfl ?_;by_cases hh:hi=0
 ·by_cases hl:lo≤cN
  ·have hw:=qz h0 hl;have hm:cN=9223372036854775807:=rfl;have e:j5 hi lo neg=(if neg then -lo else lo,true):=by rw [j5,if_neg (by omega)]
   rw [e];subst hh;cases neg
   ·repeat' (first|(apply ai;exact rfl;apply cR;exact rfl;exact hw)|refine sT ?_|refine sM fun _=>?_|(refine sC ?_ ?_<;>intro hb<;>try omega)|exact cT|fail)
    all_goals first|(exfalso;omega)|((refine rT2 ?_);rfl)
   ·repeat' (first|(apply ai;exact rfl;apply cR;exact rfl;exact hw)|(apply ai;exact rfl;apply Oz;exact rfl;exact ⟨by omega,by omega⟩)|refine sT ?_|refine sM fun _=>?_|(refine sC ?_ ?_<;>intro hb<;>try omega)|exact cT|fail)
    all_goals first|(exfalso;omega)|((refine rT2 ?_);rfl)
  ·have hm:cN=9223372036854775807:=rfl;have e:j5 hi lo neg=(0,false):=by rw [j5,if_pos (by omega)]
   rw [e];repeat' (first|refine sT ?_|refine sM fun _=>?_|(refine sC ?_ ?_<;>intro hb<;>try omega)|exact cT|fail)
   all_goals first|(exfalso;omega)|((refine rT2 ?_);rfl)
 ·have e:j5 hi lo neg=(0,false):=by rw [j5,if_pos (.inl hh)]
  rw [e];repeat' (first|refine sT ?_|refine sM fun _=>?_|(refine sC ?_ ?_<;>intro hb<;>try omega)|exact cT|fail)
  all_goals first|(exfalso;omega)|((refine rT2 ?_);rfl)
theorem vS (u:Int) (neg:Bool) (h0:0≤u) (h1:u≤cN) (w:World):aC Tryz.prog 190 [.int .u64 0,.int .u64 u,.bool neg] w (.tuple #[.int .i64 (if neg then -u else u),.bool true]):=by
 have h:=Iz 0 u neg h0 w;rwa [j5,if_neg (by omega)] at h
theorem qh: ∀ (l:List Int) (v c:Int),bE (l++ [c]) v=10*bE l v+(c - 48)
 | [],_,_=>rfl
 |d::r,v,c=>by simp only [QV,bE];exact qh r _ c
theorem mh: ∀ (l:List Int) {v:Int},(∀ c∈l,48≤c)→0≤v→v≤bE l v
 | [],_,_,_=>TG _
 |c::r,v,h,h0=>by
  have h1:=h c QY;have:=mh r (v:=10*v+(c - 48)) (fun d hd=>h d (Rh _ hd)) (by omega);simp only [bE];omega
theorem qV (l m:List Int) (v:Int):bE (l++m) v=bE m (bE l v):=by
 induction l generalizing v with
 |nil=>rfl
 |cons c l ih=>simp only [QV,bE,ih]
def iB (l0:List Int):Int × Int:=
 let neg:=decide (l0.head? =some 45);let l:=if neg then l0.tail else l0;let n:=aG aH l;let rest:=l.drop n;let frac:=decide (1<rest.length) && (decide (rest.head? =some 46) && decide (aG aH rest.tail+1=rest.length));let p5:=(if frac then rest.tail else [])++ [48,48,48,48,48]
 if n=0∨(frac=false∧rest≠ []) then (0,4)
 else
  let v:=bE (l.take n++p5.take 4) 0+(if 53≤p5.getD 4 0 then 1 else 0)
  if cN<v then (0,3) else (if neg then -v else v,0)
theorem rj (a:ByteArray) (c:Int):((ap a).head? =some c)↔(0<a.size∧bat a 0=c):=by
 by_cases h:0<a.size
 ·have:=bi h;rw [SP] at this;rw [this];simp [h]
 ·have:ap a= []:=by rw [← TD,av];omega
  rw [this];simp;omega
set_option maxRecDepth 10000 in
theorem tY (a:ByteArray) (ha:a.size≤1000000) (w:World):aC Tryz.prog 143 [.string a] w (.tuple #[.int .i64 (iB (ap a)).1,.int .i64 (iB (ap a)).2]):=by
 refine ay Tryz.func143 rfl Tryz.ntmps143 rfl ?_;have hl:=av a;generalize hneg:decide ((ap a).head? =some 45)=neg;generalize hls:(if neg then (ap a).tail else ap a)=ls;have hb0:=rj a 45;repeat' (first|(refine vn (id:=1) (ι:=Bool) (fun b=> [(0,.string a),(4,.bool b)]) (fun _=> []) (fun b=>neg=b) ?_ ?_)|refine zZE ?_|refine sM fun _=>?_|(refine sC ?_ ?_<;>intro hb<;>try omega)|exact cT|fail)
 ·(apply cX;rotate_left 1;exact sB;exact mS);rw [← hneg,decide_eq_decide,hb0];simp;omega
 ·(apply cX;rotate_left 1;exact sB;exact mS);rw [← hneg,decide_eq_false_iff_not,hb0];omega
 rintro _ rfl;repeat' (first|(refine zR (id:=2) (ι:=ByteArray) (fun b=> [(0,.string b),(4,.bool neg)]) (fun _=> []) (fun b=>ap b=ls∧b.size≤a.size) ?_ ?_)|refine zZE ?_|refine sM fun _=>?_|(refine sC ?_ ?_<;>intro hb<;>try omega)|exact cT|fail)
 ·have h1:0<a.size:=(hb0.1 (of_decide_eq_true (hneg.trans hb))).1;repeat' (first|refine zZE ?_|refine sM fun _=>?_|(refine sC ?_ ?_<;>intro hb<;>try omega)|exact cT|fail)
  (apply cX;rotate_left 1;exact sB;exact mS);rw [← hls,hb,oX,co _ (Rg _)];simp
 ·(apply cX;rotate_left 1;exact sB;exact mS);rw [← hls,hb];simp
 rintro b ⟨hbl,hbs⟩;have hlb:=av b;rw [hbl] at hlb;have hdl:=bY aH ls;generalize hn:aG aH ls=n at hdl;generalize hrest:ls.drop n=rest;generalize hfr:(decide (1<rest.length) && (decide (rest.head? =some 46) && decide (aG aH rest.tail+1=rest.length)))=fr;have hcd:=zn b (by omega);rw [hbl,hn] at hcd;have hb1:=rj (sub b n b.size) 46;have hs1:=co b (lo:=n) (Rg b.size);have hr1:ap (sub b n b.size)=rest:=by rw [oX,hbl,hrest]
 generalize hz:sub b n b.size=z at hb1 hs1 hr1;have hrl:rest.length=z.size:=by rw [← hr1,av]
 have e1:ap (sub z 1 z.size)=rest.tail:=by rw [oX,hr1,List.drop_one]
 rw [hr1] at hb1;have hcd2:=fun h=>zn (sub z 1 z.size) h;repeat' (first|(refine vn (id:=7) (ι:=Bool) (fun x=> [(4,.bool neg),(5,.int .i64 (n:Int)),(6,.string (sub b 0 n)),(7,.string z),(8,.string ax),(50,.bool x)]) (fun _=> []) (fun x=>fr=x) ?_ ?_)|(apply aa;exact rfl;exact rfl;(intro w hm;exact hcd w))|(apply aa;exact rfl;exact rfl;(intro w hm;exact hcd2 (by rw [co _ (Rg _)];omega) w))|(rw [hz])|refine sT ?_|refine sQ ?_|refine sT2 ?_|refine sQ2 ?_|refine sN ?_|refine sNQ ?_|refine sD ?_|refine sM fun _=>?_|(refine sC ?_ ?_<;>intro hb<;>try omega)|(refine sCQ ?_ ?_<;>intro hb<;>try omega)|exact cT|fail)
 ·(apply cX;rotate_left 1;exact sB;exact mS);rename_i h1;rw [e1,← hfr,decide_eq_true (by omega:1<rest.length),decide_eq_true (hb1.2 ⟨by omega,hb⟩)];simp only [Ss,decide_eq_decide];omega
 ·(apply cX;rotate_left 1;exact sB;exact mS);rw [← hfr,decide_eq_false (fun h=>hb (hb1.1 h).2)];simp
 ·(apply cX;rotate_left 1;exact sB;exact mS);rw [← hfr,decide_eq_false (by omega)]
  rfl
 rintro _ rfl;have hf1:fr=true→1≤z.size:=fun h=>by
  rw [← hfr] at h;simp at h;omega
 have hf2:fr=false→((z=ax)↔rest= []):=fun _=>by rw [← LK,hr1]
 have hbl2:b.size≤1000000:=by omega
 refine rN (ι:=ByteArray × ByteArray) (fun x=> [(4,.bool neg),(5,.int .i64 (n:Int)),(6,.string (sub b 0 n)),(7,.string x.1),(8,.string x.2)]) (fun _=> []) (fun x=>ap x.2=(if fr then rest.tail else [])∧((x.1=ax)↔(fr=true∨rest= []))∧x.2.size≤a.size) ?_ ?_
 ·cases fr
  ·repeat' (first|refine zZE ?_|refine sM fun _=>?_|(refine sC ?_ ?_<;>intro hb<;>try omega)|exact cT|fail)
   refine cX ((z,ax)) ?_ sB mS;exact ⟨rfl,by rw [hf2 rfl];simp,QZ _⟩
  ·have h1:=hf1 rfl;repeat' (first|refine zZE ?_|refine sM fun _=>?_|(refine sC ?_ ?_<;>intro hb<;>try omega)|exact cT|fail)
   refine cX ((ax,sub z 1 z.size)) ?_ sB mS;exact ⟨by rw [e1];rfl,by simp [ax],by rw [co _ (Rg _)];omega⟩
 rintro ⟨z',pl⟩ ⟨h1,h2,h3⟩;dsimp only at*;generalize hp5:(if fr then rest.tail else [])++ [48,48,48,48,48]=p5;have hpl:ap (pl++⟨#[48,48,48,48,48]⟩)=p5:=by rw [iH,h1,← hp5];rfl
 have hpz:(pl++⟨#[48,48,48,48,48]⟩:ByteArray).size=pl.size+5:=by rw [TM];rfl
 generalize hqd:(pl++⟨#[48,48,48,48,48]⟩:ByteArray)=q at hpl hpz;have hres:iB (ap a)=if n=0∨(fr=false∧rest≠ []) then (0,4) else if cN<bE (ls.take n++p5.take 4) 0+(if 53≤p5.getD 4 0 then 1 else 0) then (0,3) else (if neg then -(bE (ls.take n++p5.take 4) 0+(if 53≤p5.getD 4 0 then 1 else 0)) else bE (ls.take n++p5.take 4) 0+(if 53≤p5.getD 4 0 then 1 else 0),0):=by
  unfold iB;rw [hneg];dsimp only;rw [hls,hn,hrest,hfr,hp5]
 rw [hres];by_cases herr:n=0∨(fr=false∧rest≠ [])
 ·rw [if_pos herr];repeat' (first|refine zZE ?_|refine sM fun _=>?_|(refine sC ?_ ?_<;>intro hb<;>try omega)|exact cT|fail)
  ·(refine rT2 ?_)
   rfl
  ·(refine rT2 ?_)
   rfl
  ·exfalso;have hz' :z' =ax:=Decidable.not_not.1 hb;have:=h2.1 hz';rcases herr with h|⟨h,h'⟩
   ·omega
   ·rcases this with h4|h4
    ·rw [h] at h4;cases h4
    ·exact h' h4
 ·rw [if_neg herr];generalize hL:ls.take n++p5.take 4=L;have hp5l:p5.length=pl.size+5:=by rw [← hpl,av,hpz]
  have hy:ap (sub b 0 n++sub q 0 4)=L:=by rw [iH,uM,uM,hbl,hpl,hL]
  have hyz:(sub b 0 n++sub q 0 4:ByteArray).size=n+4:=by rw [TM,co _ (by omega),co _ (by omega)];omega
  generalize hyd:(sub b 0 n++sub q 0 4:ByteArray)=y at hy hyz;have hyl:L.length=y.size:=by rw [← hy,av]
  have hdig: ∀ c∈L,48≤c∧c≤57:=by
   have hall: ∀ (l:List Int) (c:Int),c∈l.take (aG aH l)→48≤c∧c≤57:=fun l c hc=>by
    obtain ⟨j,hj,rfl⟩:=Tb hc;simp only [RI] at hj;have h:=kG (p:=aH) l j (l[j]'(by omega)) (by omega) (QU _);simp only [Ub];simpa [aH] using h
   intro c hc;rw [← hL] at hc;rcases Rz.1 hc with hc|hc
   ·rw [← hn] at hc;exact hall ls c hc
   ·have hc:=SF hc;rw [← hp5] at hc;rcases Rz.1 hc with hc|hc
    ·cases hc1:fr
     ·rw [hc1] at hc;cases hc
     ·rw [hc1] at hc;simp only [if_true] at hc;have h7:aG aH rest.tail=rest.tail.length:=by
       rw [hc1] at hfr;simp only [RB,decide_eq_true_eq] at hfr;rw [UF];omega
      have:=hall rest.tail c (by rw [h7,RS];exact hc);exact this
    ·simp at hc;omega
  have hq4:bat q 4=p5.getD 4 0:=by rw [bat,hpl]
  have hm0:cN=9223372036854775807:=rfl;repeat' (first|(apply ai (d:=60);exact rfl;apply kr;exact rfl;exact rfl;exact hqd;(show pl.size+5≤_;omega))|(apply ai (d:=64);exact rfl;apply kr;exact rfl;exact rfl;exact hyd;(rw [co _ (by omega),co _ (by omega)];omega))|(apply mM;exact rfl;exact rfl;intro gb cap)|refine zZE ?_|refine sM fun _=>?_|(refine sC ?_ ?_<;>intro hb<;>try omega)|exact cT|fail)
  ·exfalso;refine herr (.inr ?_);have h4: ¬ (fr=true∨rest= []):=fun h=>hb (h2.2 h);cases hc:fr
   ·exact ⟨rfl,fun h=>h4 (.inr h)⟩
   ·exact absurd (.inl hc) h4
  have hup: ∀ i,i≤L.length→cN<bE (L.take i) 0→cN<bE L 0:=fun i hi h=>by
   have e:L=L.take i++L.drop i:=(Sd i L).symm;rw [e,qV];have h0:0≤bE (L.take i) 0:=mh _ (fun c hc=>(hdig c (SF hc)).1) (TG _);have:=mh (L.drop i) (v:=bE (L.take i) 0) (fun c hc=>(hdig c (TC hc)).1) h0;omega
  refine aw [4,8,65,66] rfl (fun x:Nat × Int × Bool=> [(9,.int .u64 x.2.1),(10,.bool x.2.2),(67,.int .i64 (x.1:Int))]) (fun _=> [.byt gb 5 y.size cap (oN y)]) (fun x=>x.1≤L.length∧0≤x.2.1∧x.2.1<18446744073709551616∧(x.2.2=false→x.2.1=bE (L.take x.1) 0∧x.2.1≤cN)∧(x.2.2=true→cN<bE (L.take x.1) 0)) (fun x=>L.length - x.1) (0,0,false) ⟨QZ _,TG _,by decide,fun _=>⟨rfl,by decide⟩,fun h=>by cases h⟩ sB mS ?_;rintro ⟨i,v,gr⟩ ⟨hi,hv0,hv1,hg0,hg1⟩;dsimp only at hi hv0 hv1 hg0 hg1 ⊢;by_cases hlt:i<L.length
  ·have hiy:i<y.size:=by omega
   have hge:L[i]? =some L[i]:=QU hlt;have hci:=hdig L[i] (RL hlt);have hsn:bE (L.take (i+1)) 0=10*bE (L.take i) 0+(L[i] - 48):=by rw [Ra hlt,qh]
   generalize L[i]=c at hge hci hsn;have hget:(oN y)[0+i*1]? =some (.int .u8 c):=by rw [o9,hy,Rj,show 0+i*1=i by omega,hge];rfl
   have hwc:IntKind.u8.wrap (c - 48)=c - 48:=fI (by omega) (by omega);have hwc2:IntKind.u64.wrap (c - 48)=c - 48:=by simp [IntKind.wrap,IntKind.bits,IntKind.signed];omega
   obtain ⟨v',hadd,hv2,hv3,hv4⟩: ∃ v',IntKind.u64.wrap (IntKind.u64.wrap (10*v)+(c - 48))=v' ∧0≤v' ∧v' <18446744073709551616∧(v≤922337203685477580→v' =10*v+(c - 48)):=by
    refine ⟨_,rfl,?_⟩;simp only [IntKind.wrap,IntKind.bits,IntKind.signed];simp;omega
   have hn0:0≤bE (L.take i) 0:=mh _ (fun c hc=>(hdig c (SF hc)).1) (TG _);cases gr
   ·obtain ⟨hg2,hg3⟩:=hg0 rfl;repeat' (first|(apply ai;exact rfl;apply ag;exact rfl;exact rfl;exact hiy)|(apply ai;exact rfl;apply kE;exact rfl;exact .hd;exact hget)|(apply ai (d:=74);exact rfl;apply EJ;exact rfl;exact rfl)|(apply ai (d:=76);exact rfl;apply eB;exact rfl;exact rfl;exact hwc)|(apply ai (d:=77);exact rfl;apply cR;exact rfl;exact hwc2)|(apply ai (d:=78);exact rfl;apply eP;exact rfl;exact rfl;exact hadd)|refine zZG ?_|refine sM fun _=>?_|(refine sC ?_ ?_<;>intro hb<;>try omega)|exact cT|fail)
    ·refine ⟨(i+1,v',true),?_,(by first|omega|(dsimp only;omega)),sB,sB,mS⟩;exact ⟨hlt,hv2,hv3,(fun h=>by cases h),fun _=>by dsimp only;omega⟩
    ·have h5:=hv4 (by omega);refine ⟨(i+1,v',decide (cN<v')),⟨hlt,hv2,hv3,fun h=> ?_,fun h=> ?_⟩,(by dsimp only;omega),sB,sB,mS⟩
     ·have h6:=of_decide_eq_false h;exact ⟨by dsimp only;omega,by dsimp only;omega⟩
     ·have h6:=of_decide_eq_true h;dsimp only;omega
   ·have hg2:=hg1 rfl;repeat' (first|(apply ai;exact rfl;apply ag;exact rfl;exact rfl;exact hiy)|(apply ai;exact rfl;apply kE;exact rfl;exact .hd;exact hget)|(apply ai (d:=74);exact rfl;apply EJ;exact rfl;exact rfl)|(apply ai (d:=76);exact rfl;apply eB;exact rfl;exact rfl;exact hwc)|(apply ai (d:=77);exact rfl;apply cR;exact rfl;exact hwc2)|(apply ai (d:=78);exact rfl;apply eP;exact rfl;exact rfl;exact hadd)|refine zZG ?_|refine sM fun _=>?_|(refine sC ?_ ?_<;>intro hb<;>try omega)|exact cT|fail)
    all_goals
     refine ⟨(i+1,v',true),?_,(by first|omega|(dsimp only;omega)),sB,sB,mS⟩;exact ⟨hlt,hv2,hv3,(fun h=>by cases h),fun _=>by dsimp only;omega⟩
  ·have e:i=L.length:=by omega
   subst e;rw [Sf (Rg _)] at hg0 hg1;generalize bE L 0=N at hg0 hg1 hup ⊢;have hadd:v≤cN→IntKind.u64.wrap (v+1)=v+1:=fun h=>by simp [IntKind.wrap,IntKind.bits,IntKind.signed];omega
   by_cases h5:53≤p5.getD 4 0
   ·rw [if_pos h5];cases gr
    ·obtain ⟨hg2,hg3⟩:=hg0 rfl;subst hg2;by_cases h6:cN<v+1
     ·rw [if_pos h6];repeat' (first|(apply ai (d:=89);exact rfl;apply eP;exact rfl;exact rfl;exact hadd hg3)|refine zZE ?_|refine sM fun _=>?_|(refine sC ?_ ?_<;>intro hb<;>try omega)|exact cT|fail)
      all_goals first|(exfalso;omega)|((refine rT2 ?_);rfl)
     ·rw [if_neg h6];repeat' (first|(apply ai (d:=89);exact rfl;apply eP;exact rfl;exact rfl;exact hadd hg3)|(apply aa;exact rfl;exact rfl;(intro w' hm;exact (vS (v+1) neg (by omega) (by omega) w')))|refine zZE ?_|refine sM fun _=>?_|(refine sC ?_ ?_<;>intro hb<;>try omega)|exact cT|fail)
      all_goals first|(exfalso;omega)|((refine rT2 ?_);rfl)
    ·rw [if_pos (by have:=hg1 rfl;omega)];obtain ⟨u,hu⟩: ∃ u,IntKind.u64.wrap (v+1)=u:=⟨_,rfl⟩;repeat' (first|(apply ai (d:=89);exact rfl;apply eP;exact rfl;exact rfl;exact hu)|refine zZE ?_|refine sM fun _=>?_|(refine sC ?_ ?_<;>intro hb<;>try omega)|exact cT|fail)
     all_goals first|(exfalso;omega)|((refine rT2 ?_);rfl)
   ·rw [if_neg h5,Int.add_zero];cases gr
    ·obtain ⟨hg2,hg3⟩:=hg0 rfl;subst hg2;rw [if_neg (by omega)];repeat' (first|(apply aa;exact rfl;exact rfl;(intro w' hm;exact (vS v neg (by omega) hg3 w')))|refine zZE ?_|refine sM fun _=>?_|(refine sC ?_ ?_<;>intro hb<;>try omega)|exact cT|fail)
     all_goals first|(exfalso;omega)|((refine rT2 ?_);rfl)
    ·rw [if_pos (hg1 rfl)];repeat' (first|refine zZE ?_|refine sM fun _=>?_|(refine sC ?_ ?_<;>intro hb<;>try omega)|exact cT|fail)
     all_goals first|(exfalso;omega)|((refine rT2 ?_);rfl)
end Go.SL
namespace Go.SL
open Go Go.Proofs
attribute [local irreducible] W WL WQ WG WA WX WLI WR WT VOp thn blk bH scp aV bz bP FnAt FnIn FnP
def uC (g g2 g3:Nat) (k:Int) (R:List Blk):List Blk:= .box g2 224 [.pointer (some ⟨g,0,none⟩)]:: .box g3 3 [.int .i64 k]::R
theorem Jo (f:Nat) (k:Int) (h1:1≤k) (h4:k≤3) (ih:POK f (.level (k+1)) 196 [.int .i64 (k+1)]) (toks:List Tk) (A:Option Nat) (cap:Nat) (fin:Int) (g:Nat) (p:PS) (lv:Value) (B:Option Nat) (cb:Nat) (r:Out) (R:List Blk) (w0:World) (g2 g3:Nat) (hc:toks.length≤cap) (hl:toks.length≤1000) (hat:At toks A cap p lv) (hr:bw fin f (.level (k+1)) p=some r):
 FnP Tryz.prog 247 [.pointer (some ⟨g2,0,none⟩),.pointer (some ⟨g3,0,none⟩)] w0 (pB g lv A cap fin toks B cb p.out++uC g g2 g3 k R) (PR toks A cap fin g (uC g g2 g3 k R) r) (PD (uC g g2 g3 k R) r):=by
 refine xd Tryz.func247 rfl Tryz.ntmps247 rfl ?_;repeat' (first|(refine bL (f:=196) rfl rfl (ih toks A cap fin g p lv B cb r _ w0 hc hl hat hr) ?_ ?_)|(rintro _ _ ⟨rfl,n,p',lv',B',cb',rfl,h2,rfl⟩)|(rintro _ _ ⟨e,rfl,rfl,h3⟩)|refine sT ?_|refine sP ?_|refine sJ ?_|refine sM fun _=>?_|(refine sC ?_ ?_<;>intro hb<;>try omega)|exact cT|fail)
 ·exact fk (by first|exact .inr rfl|exact .inl rfl) rfl rfl h2 (.refl _)
 ·exact da rfl h3
def Ou (f:Nat) (k:Int) (toks:List Tk) (A:Option Nat) (cap:Nat) (fin:Int) (g g2 g3:Nat) (w0:World) (bv:Value):Prop:=
 ∃ (fid:FuncId) (bs caps:List Value),bv= .func (.func fid) bs.toArray caps.toArray∧Callable Tryz.prog fid∧ ∀ (f' :Nat) (p:PS) (lv:Value) (B:Option Nat) (cb:Nat) (r:Out) (R:List Blk),f' ≤f→At toks A cap p lv→bw fin f' (.level (k+1)) p=some r→
  FnP Tryz.prog fid (bs++([]++caps)) w0 (pB g lv A cap fin toks B cb p.out++uC g g2 g3 k R) (PR toks A cap fin g (uC g g2 g3 k R) r) (PD (uC g g2 g3 k R) r)
theorem LC (f:Nat) (k:Int) (h1:1≤k) (h4:k≤4) (ihL:k≤3→ ∀ f' ≤f,POK f' (.level (k+1)) 196 [.int .i64 (k+1)]) (ihS: ∀ f' ≤f,POK f' .sign 246 []):POK (f+1) (.level k) 196 [.int .i64 k]:=by
 intro toks A cap fin g p lv B cb r R w0 hc hl hat hrun;refine xd Tryz.func196 rfl Tryz.ntmps196 rfl ?_;rw [bw,if_neg (by omega)] at hrun;obtain ⟨r1,hr1,hr2⟩:=bI hrun;repeat' (first|(apply ai;exact rfl;apply mV;exact rfl)|(rename_i g2 g3;refine GR (id:=2) [2,3] rfl (ι:=Value) (fun bv=> [(4,bv)]) (fun bv=>Ou f k toks A cap fin g g2 g3 w0 bv) ?_ ?_)|refine cX (_) ?_ sB mS|refine zZD ?_|refine sM fun _=>?_|(refine sC ?_ ?_<;>intro hb<;>try omega)|exact cT|fail)
 ·exact ⟨_,[],_,rfl,inferInstance,fun f' p lv B cb r R hf' hat' hr' =>Jo f' k h1 (by omega) (ihL (by omega) f' hf') toks A cap fin g p lv B cb r R w0 _ _ hc hl hat' hr'⟩
 ·have hk:k=4:=by omega
  subst hk;refine ⟨_,_,[],rfl,inferInstance,fun f' p lv B cb r R hf' hat' hr' => ?_⟩
  cases f' with
  |zero=>cases hr'
  |succ f'' =>
    rw [bw,if_pos (by decide)] at hr';exact ihS f'' (by omega) toks A cap fin g p lv B cb r _ w0 hc hl hat' hr'
 ·rintro bv ⟨fid,bs,caps,rfl,hcl,hbel⟩;repeat' (first|(refine yo (f:=fid) rfl rfl hcl rfl (FnP.msub (hbel f p lv B cb r1 _ (Rg _) hat hr1) (MSub.pick pK (MSub.pick pK (MSub.pick pK (MSub.pick pK (MSub.pick pK (MSub.refl _))))))) ?_ ?_)|(rintro _ _ ⟨rfl,n,p',lv',B',cb',rfl,h2,rfl⟩)|(rintro _ _ ⟨e,rfl,rfl,h3⟩)|refine zZD ?_|refine sM fun _=>?_|(refine sC ?_ ?_<;>intro hb<;>try omega)|exact cT|fail)
  ·rcases hr2 with ⟨e,h,_⟩|⟨n1,p1,h,h5⟩
   ·cases h
   cases h;refine aw [2,3,4] rfl (fun _:Nat × PS × Value × Option Nat × Nat=> []) (fun x=>pB g x.2.2.1 A cap fin toks x.2.2.2.1 x.2.2.2.2 x.2.1.out++uC g g2 g3 k R) (fun x=>x.1≤f∧At toks A cap x.2.1 x.2.2.1∧bw fin x.1 (.loop k) x.2.1=some r) (fun x=>x.1) (f,p',lv',B',cb') ⟨Rg _,h2,h5⟩ sB (.refl _) ?_;rintro ⟨f',q,lq,Bq,cq⟩ ⟨hf',hq1,hq2⟩;dsimp only at hf' hq1 hq2 ⊢
   cases f' with
   |zero=>cases hq2
   |succ f' =>
     rw [bw] at hq2;have hh:=fun w hm=>hq1.head (fin:=fin) (g:=g) (B:=Bq) (cb:=cq) (out:=q.out) (H:=pB g lq A cap fin toks Bq cq q.out++uC g g2 g3 k R) (w0:=w0) (MSub.pick .hd (.pick .hd (.pick .hd (.nil _)))) w hm;obtain ⟨t,ht⟩: ∃ t,hdT fin q.l=t:=⟨_,rfl⟩;rw [ht] at hq2 hh;by_cases hs:t.kind=8∧iC t.num=k
     ·rw [if_pos hs] at hq2;obtain ⟨hs8,hsk⟩:=hs;obtain ⟨r2,hr3,hr4⟩:=bI hq2;repeat' (first|(apply aa (f:=148);exact rfl;exact rfl;exact hh)|(apply aa (f:=248);exact rfl;exact rfl;(intro w' _;exact yY _ w'))|(apply ak (f:=249);exact rfl;exact rfl;exact hq1.skip hc (ht ▸ hs8) (by decide) (MSub.pick pK (MSub.pick pK (MSub.pick pK (MSub.refl _))));rintro _ _ ⟨rfl,lv1,h1',rfl⟩)|(refine yo (f:=fid) rfl rfl hcl rfl (FnP.msub (hbel f' q.skip lv1 Bq cq r2 _ (by omega) (At1.at h1') hr3) (MSub.pick pK (MSub.pick pK (MSub.pick pK (MSub.pick pK (MSub.pick pK (MSub.refl _))))))) ?_ ?_)|(rintro _ _ ⟨rfl,n2,p2,lv2,B2,cb2,rfl,h6,rfl⟩)|(rintro _ _ ⟨e,rfl,rfl,h3⟩)|(apply ak (f:=250);exact rfl;exact rfl;exact FnIn.msub (lz (dY 6 t.num) _ _ _ _ _ _ _ _ _ (At.len h6 hl) _ _) (MSub.pick pK (MSub.pick pK (MSub.pick pK (MSub.refl _))));rintro _ _ ⟨rfl,B3,cb3,rfl⟩)|refine zZD ?_|refine sM fun _=>?_|(refine sC ?_ ?_<;>intro hb<;>try omega)|exact cT|fail)
      ·rcases hr4 with ⟨e,h,_⟩|⟨n3,p3,h,h7⟩
       ·cases h
       ·cases h;refine ⟨(f',p2.put (dY 6 t.num),lv2,B3,cb3),⟨by omega,(h1'.grew h6 (ku _ _ _ _ _ _ hr3)).put _,h7⟩,Tz _,sB,sB,?_⟩;dsimp only [uC,List.cons_append,List.nil_append,pB];exact mS
      ·rcases hr4 with ⟨e',h,h7⟩|⟨n3,p3,h,h7⟩
       ·cases h;exact da h7 (MSub.trans (by unfold uC;exact .drop (.tl (.tl .hd)) (.drop .hd (.drop .hd (.refl _)))) h3)
       ·cases h
     ·rw [if_neg hs] at hq2;cases hq2;repeat' (first|(apply aa (f:=148);exact rfl;exact rfl;exact hh)|(apply aa (f:=248);exact rfl;exact rfl;(intro w' _;exact yY _ w'))|refine zZD ?_|refine sM fun _=>?_|(refine sC ?_ ?_<;>intro hb<;>try omega)|exact cT|fail)
      all_goals first
       |(exfalso;omega)
       | (refine fk (B' := Bq) (cb' := cq) (by first | exact .inr rfl | exact .inl rfl) rfl rfl hq1 ?_
          dsimp only [uC,List.cons_append,List.nil_append,pB];exact mS)
  ·rcases hr2 with ⟨e',h,h5⟩|⟨n1,p1,h,h5⟩
   ·cases h;exact da h5 (MSub.trans (by unfold uC;exact .drop .hd (.drop .hd (.refl _))) h3)
   ·cases h
end Go.SL
namespace Go.SL
open Go Go.Proofs
attribute [local irreducible] W WL WQ WG WA VOp thn blk bH scp aV FnAt FnIn
set_option maxRecDepth 10000 in
theorem Ed (f:FuncId) [Callable Tryz.prog f] (caps:List Value) (g:Int→Int) (a:ByteArray) (ha:a.size≤1000000) (w:World) (hf: ∀ c w' H,0≤c→c<256→Mem w w' H→aC Tryz.prog f ([.int .u8 c]++caps) w' (.int .u8 (g c))):
 FnAt Tryz.prog 179 [.string a,.func (.func f) #[] caps.toArray] w fun v H=> ∃ gb cap,v= .slice (some ⟨gb,0,none⟩) a.size cap∧H= [.byt gb 5 a.size cap (((ap a).map g).map (Value.int .u8))]:=by
 refine ay Tryz.func179 rfl Tryz.ntmps179 rfl ?_;repeat' (first|(apply mM;exact rfl;exact rfl;intro gb cap)|refine sT ?_|refine sM fun _=>?_|(refine sC ?_ ?_<;>intro hb<;>try omega)|fail)
 refine fR (fun i:Nat=> [(5,.slice (some ⟨gb,0,none⟩) a.size cap),(10,.slice (some ⟨gb,0,none⟩) a.size cap),(11,.int .i64 (a.size:Int)),(12,.int .i64 (i:Int)),(1,.func (.func f) #[] caps.toArray)])
  (fun i=> [.byt gb 5 a.size cap ((((ap a).take i).map g++(ap a).drop i).map (Value.int .u8))]) (fun i=>i≤a.size) (fun i=>a.size - i) 0 (by omega) ?_ ?_ ?_
 ·exact sB
 ·rw [o9];simp only [SK,SE,QW,SP];exact mS
 ·intro i hi;have hl:=av a;by_cases hlt:i<a.size
  ·have hil:i<(ap a).length:=by omega
   have hok:=nD a (ap a)[i] (RL hil);have hget:((((ap a).take i).map g++(ap a).drop i).map (Value.int .u8))[0+i*1]? =some (.int .u8 (ap a)[i]):=by
    rw [Rj,show 0+i*1=i by omega,RM (by simp;omega)];simp [Tm (Nat.le_of_lt hil),Sw]
   repeat' (first|(apply ai;exact rfl;apply ag;exact rfl;exact rfl;exact hlt)|(apply ai;exact rfl;apply kE;exact rfl;exact .hd;exact hget)|(apply ko;exact rfl;exact rfl;infer_instance;exact rfl;(intro w' hm;exact hf _ w' _ hok.1 hok.2 hm))|(apply mO;exact rfl;exact rfl;exact .hd;exact rfl;(simp;omega))|(apply ai;exact rfl;apply lh;exact rfl;exact rfl;(constructor<;>omega))|refine sT ?_|refine sM fun _=>?_|(refine sC ?_ ?_<;>intro hb<;>try omega)|fail)
   refine ⟨i+1,by omega,by omega,?_,?_⟩
   ·exact sB
   ·rw [show 0+i*1=i by omega,vE g (Value.int .u8) (ap a) i hil];exact mS
  ·have e:i=a.size:=by omega
   subst e;repeat' (first|refine sT ?_|refine sM fun _=>?_|(refine sC ?_ ?_<;>intro hb<;>try omega)|fail)
   refine bJ (.inl rfl) rfl rfl (.refl _) ⟨gb,cap,rfl,?_⟩;rw [Sf (by omega),RK (by omega),Rc]
set_option maxRecDepth 10000 in
theorem Jh (c:Int) (h0:0≤c) (h1:c<256) (ga gb:Nat) (w:World) (ha:Ro w ga 0 [.int .u8 97]) (hb' :Ro w gb 0 [.int .i64 (-32)]):aC Tryz.prog 272 [.int .u8 c,.pointer (some ⟨ga,0,none⟩),.pointer (some ⟨gb,0,none⟩)] w (.int .u8 (upC c)):=by
 refine ay Tryz.func272 rfl Tryz.ntmps272 rfl ?_;have hwc:IntKind.i64.wrap c=c:=I64.wrap ⟨by omega,by omega⟩;have h122:IntKind.u8.wrap (97+25)=122:=by decide
 repeat' (first|(apply ai;exact rfl;apply aN (off:=0);exact ha;exact rfl;exact rfl)|(apply ai;exact rfl;apply aN (off:=0);exact hb';exact rfl;exact rfl)|(apply ai;exact rfl;apply eP;exact rfl;exact rfl;exact h122)|(apply ai (d:=15);exact rfl;apply cR;exact rfl;exact hwc)|(apply ai (d:=17);exact rfl;apply lh;exact rfl;exact rfl;exact ⟨by omega,by omega⟩)|(apply ai (d:=18);exact rfl;apply cR (c:=c - 32);exact rfl;(rw [show c+ -32=c - 32 by omega];exact fI (by omega) (by omega)))|refine sT ?_|refine sM fun _=>?_|(refine sC ?_ ?_<;>intro hb<;>try omega)|fail)
 all_goals ((refine rT1 ?_);unfold upC;first|rw [if_pos (by omega)]|rw [if_neg (by omega)])
def upB (a:ByteArray):ByteArray:=mkB ((ap a).map upC)
theorem q9 (a:ByteArray):ap (upB a)=(ap a).map upC:=by
 refine oG ?_;intro c hc;obtain ⟨d,hd,rfl⟩:=RG.1 hc;have:=nD a d hd;unfold upC;split<;>omega
set_option maxRecDepth 10000 in
theorem Lj (a:ByteArray) (ha:a.size≤1000000) (w:World):aC Tryz.prog 234 [.string a,.int .u8 97,.int .i64 (-32)] w (.string (upB a)):=by
 refine ay Tryz.func234 rfl Tryz.ntmps234 rfl ?_;repeat' (first|((with_reducible apply aK (R:=fun v H=> ∃ gb cap,v= .slice (some ⟨gb,0,none⟩) a.size cap∧H= [.byt gb 5 a.size cap (((ap a).map upC).map (Value.int .u8))]));exact rfl;exact rfl;(intro w' hm;exact Ed 272 [_,_] upC a ha w' (fun c w2 H2 h0 h1 hm2=>Jh c h0 h1 _ _ w2 ((Ro.of_box hm pK).next hm2) ((Ro.of_box hm pK).next hm2)));(rintro v H' ⟨gb,cap,rfl,rfl⟩))|(apply ai;exact rfl;apply rO;exact rfl;exact .hd;simp [av])|refine sT ?_|refine sM fun _=>?_|(refine sC ?_ ?_<;>intro hb<;>try omega)|fail)
 (refine rT1 ?_)
 rfl
set_option maxRecDepth 10000 in
theorem rH (a:ByteArray) (ha:a.size≤1000000) (w:World):aC Tryz.prog 188 [.string a] w (.string (upB a)):=by
 refine ay Tryz.func188 rfl Tryz.ntmps188 rfl ?_;repeat' (first|(apply aa;exact rfl;exact rfl;(intro w hm;exact Lj a ha w))|refine sT ?_|refine sM fun _=>?_|(refine sC ?_ ?_<;>intro hb<;>try omega)|fail)
 (refine rT1 ?_)
 rfl
def lO:List Int→Option (List Int)
 | []=>some []
 |c::r=>if c≠34 then (lO r).map (c:: ·) else match r with
  | []=>none
  |d::r' =>if d=34 then (lO r').map (34:: ·) else none
def gU (l:List Int):List Int × Int:=
 if l.length<2∨l.head? ≠some 34∨l.getLast? ≠some 34∨l.all (fun c=>bG c)=false then ([],4)
 else match lO ((l.drop 1).dropLast) with
  |none=>([],4)
  |some r=>if 256<r.length then ([],5) else (r,0)
theorem oo (a:ByteArray):oq a=(ap a).all fun c=>bG c:=by
 simp only [oq,ap,List.all_map];congr 1;funext c;simp only [Function.comp,bG];rw [Sc];simp;omega
theorem LD (a:ByteArray) (c:Int) (h:0<a.size):((ap a).getLast? =some c)↔bat a (a.size - 1)=c:=by
 rw [Uj,av,il (by omega)];simp
theorem BQ {a:ByteArray} {i:Nat} (h0:1≤i) (h:i<a.size - 1):(((ap a).drop 1).dropLast).drop (i - 1)=bat a i::(((ap a).drop 1).dropLast).drop i:=by
 have hl:=av a;obtain ⟨j,rfl⟩: ∃ j,i=j+1:=⟨i - 1,by omega⟩;rw [TZ];have hlen:(((ap a).drop 1).dropLast).length=a.size - 2:=by simp;omega
 have hlt:j<(((ap a).drop 1).dropLast).length:=by omega
 rw [Rn hlt];congr 1;have h1:=il (a:=a) (i:=j+1) (by omega);have h2:(((ap a).drop 1).dropLast)[j]? =some (bat a (j+1)):=by
  rw [List.getElem?_dropLast,if_pos (by simp;omega),Sw,Th 1 j,h1]
 rw [QU hlt] at h2;exact Option.some.inj h2
theorem rR {c:Int} {r:List Int} (h:c≠34):lO (c::r)=(lO r).map (c:: ·):=by
 rw [lO.eq_def];simp [h]
theorem Gy (a:ByteArray) (ha:a.size≤1000000) (w:World):aC Tryz.prog 237 [.string a] w (.tuple #[.string (mkB (gU (ap a)).1),.int .i64 (gU (ap a)).2]):=by
 refine ay Tryz.func237 rfl Tryz.ntmps237 rfl ?_;have hl:=av a;have hp:=qP a ha;rw [oo] at hp;have hh:=rj a 34;have hg:=LD a 34;by_cases hbad:(ap a).length<2∨(ap a).head? ≠some 34∨(ap a).getLast? ≠some 34∨(ap a).all (fun c=>bG c)=false
 ·rw [gU,if_pos hbad];repeat' (first|(apply aa;exact rfl;exact rfl;(intro w hm;exact hp w))|refine zZC ?_|refine sM fun _=>?_|(refine sC ?_ ?_<;>intro hb<;>try omega)|fail)
  iterate 4 (focus ((refine rT2 ?_);rfl))
  exfalso;rename_i h1 h2 h3;rcases hbad with h|h|h|h
  ·omega
  ·exact h (hh.2 ⟨by omega,Decidable.not_not.1 h2⟩)
  ·exact h ((hg (by omega)).2 (Decidable.not_not.1 h3))
  ·rw [hb] at h;cases h
 ·have hun:gU (ap a)=match lO (((ap a).drop 1).dropLast) with
   |none=>([],4)
   |some r=>if 256<r.length then ([],5) else (r,0):=by rw [gU,if_neg hbad]
  rw [hun];simp only [not_or,Decidable.not_not,Bool.not_eq_false] at hbad;obtain ⟨b1,b2,b3,b4⟩:=hbad;have b5:=(hh.1 b2).2;have b6:=(hg (by omega)).1 b3;rw [b4] at hp;have hn:(a.size:Int) - 1=((a.size - 1:Nat):Int):=by omega
  generalize hB:((ap a).drop 1).dropLast=B;have hBl:B.length=a.size - 2:=by rw [← hB];simp;omega
  repeat' (first|(apply aa;exact rfl;exact rfl;(intro w hm;exact hp w))|refine zZC ?_|refine sM fun _=>?_|(refine sC ?_ ?_<;>intro hb<;>try omega)|fail)
  all_goals try (exfalso;omega)
  refine aI 5 1 ?_;refine aw [0,4] rfl (fun x:Nat × List Int × Option Nat × Nat=> [(5,sl x.2.2.1 x.2.1.length x.2.2.2),(6,.int .i64 (x.1:Int))]) (fun x=> [.own x.2.2.1 5 1 x.2.1.length x.2.2.2 (x.2.1.map (Value.int .u8))]) (fun x=>1≤x.1∧x.1≤a.size - 1∧x.2.1.length≤x.1∧lO B=(lO (B.drop (x.1 - 1))).map (x.2.1++ ·)) (fun x=>a.size - x.1) (1,[],none,0) ⟨by omega,by omega,by simp,by simp⟩ sB mS ?_;rintro ⟨i,out,A,cap⟩ ⟨i1,i2,i3,i4⟩;dsimp only at i1 i2 i3 i4 ⊢;by_cases hend:i=a.size - 1
  ·have hBd:B.drop (i - 1)= []:=RK (by omega);rw [hBd] at i4;simp only [lO,Sq,Rc] at i4;rw [i4];dsimp only;by_cases hlen:256<out.length
   ·rw [if_pos hlen];repeat' (first|refine zZC ?_|refine sM fun _=>?_|(refine sC ?_ ?_<;>intro hb<;>try omega)|fail)
    all_goals first|(exfalso;omega)|((refine rT2 ?_);rfl)
   ·rw [if_neg hlen];repeat' (first|(apply ai;exact rfl;apply EI;exact rfl;exact pK;exact rfl)|refine zZC ?_|refine sM fun _=>?_|(refine sC ?_ ?_<;>intro hb<;>try omega)|fail)
    all_goals first|(exfalso;omega)|((refine rT2 ?_);rfl)
  ·have hdr:=BQ (a:=a) i1 (by omega);rw [hB] at hdr;rw [hdr] at i4;by_cases hq:bat a i=34
   ·rw [hq] at i4;by_cases h1:i+1=a.size - 1
    ·have hBd:B.drop i= []:=RK (by omega);rw [hBd] at i4;simp only [lO,ne_eq,not_true_eq_false,if_false,UX] at i4;rw [i4];repeat' (first|refine zZC ?_|refine sM fun _=>?_|(refine sC ?_ ?_<;>intro hb<;>try omega)|fail)
     all_goals first|(exfalso;omega)|((refine rT2 ?_);rfl)
    ·have hdr2:=BQ (a:=a) (i:=i+1) (by omega) (by omega);rw [hB,TZ] at hdr2;rw [hdr2] at i4;by_cases h2:bat a (i+1)=34
     ·simp only [lO,ne_eq,not_true_eq_false,if_false,h2,if_true,Ug] at i4;repeat' (first|(apply aD;(iterate 3 exact rfl);exact pK;exact pK;exact rfl;(simp [Value.oneCell']);omega;(simp only [maxLen];omega);intro g8 c8)|(apply ai (d:=63);exact rfl;apply fT (b:=2);exact rfl;exact rfl;(simp only [maxLen];omega))|refine zZC ?_|refine sM fun _=>?_|(refine sC ?_ ?_<;>intro hb<;>try omega)|fail)
      all_goals try (exfalso;omega)
      refine ⟨(i+2,out++ [34],some g8,c8),⟨by dsimp only;omega,by dsimp only;omega,by simp;omega,?_⟩,(by dsimp only;omega),?_,sB,?_⟩
      ·dsimp only;rw [i4,show i+2 - 1=i+1 by omega];congr 1;funext l;simp
      ·simp only [QT,QX];exact sB
      ·simp only [QT,QX,Sh,RP,SE];exact mS
     ·simp only [lO,ne_eq,not_true_eq_false,if_false,h2,UX] at i4;rw [i4];repeat' (first|refine zZC ?_|refine sM fun _=>?_|(refine sC ?_ ?_<;>intro hb<;>try omega)|fail)
      all_goals first|(exfalso;omega)|((refine rT2 ?_);rfl)
   ·rw [rR hq,Ug] at i4;repeat' (first|(apply aD;(iterate 3 exact rfl);exact pK;exact pK;exact rfl;(simp [Value.oneCell']);omega;(simp only [maxLen];omega);intro g8 c8)|refine zZC ?_|refine sM fun _=>?_|(refine sC ?_ ?_<;>intro hb<;>try omega)|fail)
    all_goals try (exfalso;omega)
    refine ⟨(i+1,out++ [bat a i],some g8,c8),⟨by dsimp only;omega,by dsimp only;omega,by simp;omega,?_⟩,(by dsimp only;omega),?_,sB,?_⟩
    ·dsimp only;rw [i4,show i+1 - 1=i by omega];congr 1;funext l;simp
    ·simp only [QT,QX];exact sB
    ·simp only [QT,QX,Sh,RP,SE];exact mS
def cJ:List ByteArray:= [⟨#[]⟩,⟨#[35,68,73,86,47,48,33]⟩,⟨#[35,86,65,76,85,69,33]⟩,⟨#[35,78,85,77,33]⟩,⟨#[35,78,47,65]⟩,⟨#[35,82,69,70,33]⟩,⟨#[35,67,89,67,76,69,33]⟩,⟨#[35,68,69,78,73,69,68]⟩]
def Words (w:World):Prop:=Ro w 0 0 (cJ.map Value.string)
theorem Words.next {w0 w:World} {H:List Blk} (h:Words w0) (hm:Mem w0 w H):Words w:=Ro.next h hm
def ig (c:Int):Vl:=⟨4,if c<1∨7<c then 2 else c,ax⟩
def wN (n:Int):Vl:=if n= -9223372036854775808 then ig 3 else ⟨1,n,ax⟩
def mW (b:Bool):Vl:=⟨2,if b then 1 else 0,ax⟩
def nU:ByteArray:=⟨#[84,82,85,69]⟩
def lT:ByteArray:=⟨#[70,65,76,83,69]⟩
def Au (a:ByteArray):Vl:=if upB a=nU then mW true else if upB a=lT then mW false else ig 2
theorem nJ (c:Int) (w:World):aC Tryz.prog 141 [.int .i64 c] w (.agg (d9 (ig c)).toArray):=by
 refine ay Tryz.func141 rfl Tryz.ntmps141 rfl ?_;repeat' (first|refine sT ?_|refine sM fun _=>?_|(refine sC ?_ ?_<;>intro hb<;>try omega)|exact cT|fail)
 all_goals ((refine eRC ?_);simp only [ig];(first|rw [if_pos (by omega)]|rw [if_neg (by omega)]);rfl)
theorem Om (n:Int) (w:World):aC Tryz.prog 144 [.int .i64 n] w (.agg (d9 (wN n)).toArray):=by
 refine ay Tryz.func144 rfl Tryz.ntmps144 rfl ?_;repeat' (first|(apply aa;exact rfl;exact rfl;(intro w hm;exact nJ 3 w))|refine sT ?_|refine sM fun _=>?_|(refine sC ?_ ?_<;>intro hb<;>try omega)|exact cT|fail)
 all_goals ((refine eRC ?_);simp_all [wN,d9,ig,ax])
theorem Mr (b:Bool) (w:World):aC Tryz.prog 233 [.bool b] w (.agg (d9 (mW b)).toArray):=by
 refine ay Tryz.func233 rfl Tryz.ntmps233 rfl ?_;repeat' (first|refine sT ?_|refine sM fun _=>?_|(refine sC ?_ ?_<;>intro hb<;>try omega)|exact cT|fail)
 all_goals ((refine eRC ?_);simp_all [mW,d9,ax])
theorem Li (v:Vl) (ha:v.text.size≤1000000) (w:World):aC Tryz.prog 187 [.agg (d9 v).toArray] w (.agg (d9 (Au v.text)).toArray):=by
 refine ay Tryz.func187 rfl Tryz.ntmps187 rfl ?_;repeat' (first|(apply aa;exact rfl;exact rfl;(intro w hm;exact rH v.text ha w))|(apply aa;exact rfl;exact rfl;(intro w hm;exact Mr _ w))|(apply aa;exact rfl;exact rfl;(intro w hm;exact nJ 2 w))|refine sT ?_|refine sM fun _=>?_|(refine sC ?_ ?_<;>intro hb<;>try omega)|exact cT|fail)
 all_goals ((refine eRC ?_);simp_all [Au,nU,lT];rfl)
theorem Oj (c:Int) (h1:1≤c) (h2:c≤5) (w:World) (hw:Words w):aC Tryz.prog 243 [.agg (d9 ⟨4,c,ax⟩).toArray] w (.string (cJ.getD c.toNat ax)):=by
 refine ay Tryz.func243 rfl Tryz.ntmps243 rfl ?_;have he:eqV ⟨4,c,ax⟩ (ig 7)=false:=by simp [eqV,ig];omega
 have hv:pX ⟨4,c,ax⟩=0:=by
  have h6:decide (c≤6)=true:=decide_eq_true (by omega);simp [pX,vp,h1,h6]
 have hc:=ED ⟨4,c,ax⟩;rw [hv] at hc;obtain ⟨k,rfl⟩: ∃ k:Nat,c=(k:Int):=⟨c.toNat,by omega⟩;have hcell:(cJ.map Value.string)[k*1]? =some (.string (cJ.getD k ax)):=by
  rcases (by omega:k=1∨k=2∨k=3∨k=4∨k=5) with rfl|rfl|rfl|rfl|rfl<;>rfl
 repeat' (first|(apply cM;exact rfl;exact rfl;(intro w hm;exact nJ 7 w))|(apply cM;exact rfl;exact rfl;(intro w hm;exact hc w))|(apply aZ;exact rfl;exact he ▸ EM (b:=ig 7) rfl rfl)|(apply ai;exact rfl;apply vv (j:=k);exact rfl;exact rfl;omega)|(apply ai;exact rfl;apply aN (o:=0);exact hw;exact rfl;exact hcell)|refine sT ?_|refine sQ ?_|refine sD ?_|refine sM fun _=>?_|(refine sC ?_ ?_<;>intro hb<;>try omega)|(refine sCQ ?_ ?_<;>intro hb<;>try omega)|exact cT|fail)
 (refine rT1 ?_)
 rfl
instance iN496:KLaw Tryz.prog 5 (fun z:Int=>Value.int .u8 z):=Dv
theorem zM {P:Program} {n:Fr} {w0:World} {Q:bS} {s:az} {H:List Blk} {rest:List Oper} {ty:TypeId} {p:String} {af:Array Edge} {κ:Type} [DecidableEq κ] {enc:κ→Value} {t K E g clock:Nat} {m x kx:Operand} {k:κ} {v:Value} {es:List (κ × Value × Nat)} {es' :List (κ × Value × Nat)} {c' :Nat} {R:List Blk} {ops:Array Oper} [ht:Und P t (.map K E)] [hk:KLaw P K enc] (hm:ev s m=some (.map (some g))) (hkx:ev s kx=some (enc k)) (hx:ev s x=some v) (hsel:Sel (.obj g (dw enc es clock)) H R)
 (he:nC k v clock es=(es',c')) (h:WL P n w0 ops rest Q s (.obj g (dw enc es' c')::R)):WL P n w0 ops (⟨none,.insert t m kx x,ty,p,af,none⟩::rest) Q s H:=by
 refine HT hm hkx hx hsel ?_;rw [he];exact h
theorem LF {κ:Type} [DecidableEq κ] {k:κ} {v:Value} {clock:Nat} {es:List (κ × Value × Nat)} (h:cx k es 0=none):nC k v clock es=(es++ [(k,v,clock)],clock+1):=by
 simp [nC,h]
def HG (v:Vl):List (Int × Value × Nat):=
 [(0,.func (.func 185) #[.agg (d9 v).toArray] #[],0),(1,.func (.func 185) #[.agg (d9 v).toArray] #[],1),(2,.func (.func 186) #[.agg (d9 v).toArray] #[],2),(3,.func (.func 187) #[.agg (d9 v).toArray] #[],3),(4,.func (.func 186) #[.agg (d9 v).toArray] #[],4)]
theorem EW (v:Vl) (w:World):FnAt Tryz.prog 184 [.agg (d9 v).toArray] w fun u H=> ∃ g,u= .map (some g)∧H= [.obj g (dw (fun z:Int=>Value.int .u8 z) (HG v) 5)]:=by
 refine ay Tryz.func184 rfl Tryz.ntmps184 rfl ?_;repeat' (first|(apply mQ (enc:=fun z:Int=>Value.int .u8 z);exact rfl;intro g)|(apply ai;exact rfl;apply mV;exact rfl)|(apply zM (enc:=fun z:Int=>Value.int .u8 z);(iterate 3 exact rfl);exact pK;exact LF rfl)|refine sT ?_|refine sM fun _=>?_|(refine sC ?_ ?_<;>intro hb<;>try omega)|exact cT|fail)
 exact bJ (H' := [.obj g (dw (fun z:Int=>Value.int .u8 z) (HG v) 5)]) (.inl rfl) rfl rfl (.pick .hd (.nil _)) ⟨g,rfl,rfl⟩
def jr (v:Vl):Vl:=if pX v=0 then Au v.text else ig 2
theorem DY (v:Vl) (hk:v.kind=3) (ha:v.text.size≤1000000) (w:World):aC Tryz.prog 183 [.agg (d9 v).toArray,.func (.func 184) #[] #[]] w (.agg (d9 (jr v)).toArray):=by
 refine ay Tryz.func183 rfl Tryz.ntmps183 rfl ?_;obtain ⟨k,num,text⟩:=v;dsimp only at hk ha;subst hk;have hv:=ED ⟨3,num,text⟩;have hn:=Li ⟨3,num,text⟩ ha;repeat' (first|refine sT ?_|refine sM fun _=>?_|(refine sC ?_ ?_<;>intro hb<;>try omega)|exact cT|fail)
 rename_i g2 g4;refine vn (id:=1) (ι:=Unit) (fun _=> [(5,.func (.func 187) #[.agg (d9 ⟨3,num,text⟩).toArray] #[]),(6,.bool true),(2,.pointer (some ⟨g2,0,none⟩)),(4,.pointer (some ⟨g4,0,none⟩))]) (fun _=> [.box g2 90 (d9 ⟨3,num,text⟩),.box g4 90 (d9 bK)]) (fun _=>True) ?_ ?_
 ·refine jX 11 rfl (by kernel_rfl) ?_;((with_reducible apply aR (i:=0));exact rfl;exact rfl;(iterate 3 decide+kernel);exact nP;(intro _ _;exact vP));((with_reducible apply aR (i:=3));exact rfl;exact rfl;(iterate 3 decide+kernel);exact nP;(intro _ _;exact vP));repeat' (first|(apply dh (i:=1) (j:=4);exact rfl;exact rfl;decide+kernel)|(apply dh (i:=2) (j:=4);exact rfl;exact rfl;decide+kernel)|(apply aJ (i:=1);exact rfl;decide+kernel)|(apply aJ (i:=2);exact rfl;decide+kernel)|(apply aJ (i:=4);exact rfl;decide+kernel)|(apply aJ (i:=5);exact rfl;decide+kernel)|(apply aR (i:=6);exact rfl;exact rfl;(iterate 3 decide+kernel);exact nP;(intro _ _;exact vP))|(apply aR (i:=7);exact rfl;exact rfl;(iterate 3 decide+kernel);exact nP;(intro _ _;exact vP))|(apply aR (i:=8);exact rfl;exact rfl;(iterate 3 decide+kernel);exact nP;(intro _ _;exact vP))|(apply aR (i:=9);exact rfl;exact rfl;(iterate 3 decide+kernel);exact nP;(intro _ _;exact vP))|(apply aR (i:=10);exact rfl;exact rfl;(iterate 3 decide+kernel);exact nP;(intro _ _;exact vP))|(apply jV;decide+kernel)|(apply kA;exact rfl;exact rfl;infer_instance;exact rfl;exact FnIn.of_at (fun w' _=>EW ⟨3,num,text⟩ w');(rintro _ _ ⟨H1,⟨g5,rfl,rfl⟩,rfl⟩))|(apply ai;exact rfl;apply iy (enc:=fun z:Int=>Value.int .u8 z);exact rfl;exact rfl;exact pK;exact rfl)|refine sT ?_|refine sM fun _=>?_|(refine sC ?_ ?_<;>intro hb<;>try omega)|exact cT|fail)
  all_goals ((apply cX;rotate_left 1;exact sB;exact mS);trivial)
 ·rintro _ -;simp only [jr];generalize pX ⟨3,num,text⟩=e at hv;repeat' (first|(apply aa;exact rfl;exact rfl;(intro w hm;exact hv w))|(apply aa;exact rfl;exact rfl;(intro w hm;exact nJ 2 w))|(apply rM;exact rfl;exact rfl;infer_instance;exact rfl;(intro w' _;exact hn w'))|refine sT ?_|refine sM fun _=>?_|(refine sC ?_ ?_<;>intro hb<;>try omega)|exact cT|fail)
  all_goals
   (refine eRC ?_);simp_all
   rfl
theorem JZ (v:Vl) (hk:v.kind=3) (ha:v.text.size≤1000000) (w:World):aC Tryz.prog 138 [.agg (d9 v).toArray] w (.agg (d9 (jr v)).toArray):=by
 refine ay Tryz.func138 rfl Tryz.ntmps138 rfl ?_;repeat' (first|(apply aa;exact rfl;exact rfl;(intro w hm;exact DY v hk ha w))|refine sT ?_|refine sM fun _=>?_|(refine sC ?_ ?_<;>intro hb<;>try omega)|exact cT|fail)
 (refine eRC ?_)
 rfl
def jG (u:ByteArray):List ByteArray→Int→Int × Int
 | [],_=>(0,4)
 |x::r,i=>if x=u then (i,0) else jG u r (i+1)
def jc (a:ByteArray):Int × Int:=jG (upB a) (cJ.drop 1) 1
theorem Ey {i:Nat} (h:i<8):(cJ.map Value.string)[i]? =some (.string (cJ.getD i ax)):=by
 rcases (by omega:i=0∨i=1∨i=2∨i=3∨i=4∨i=5∨i=6∨i=7) with rfl|rfl|rfl|rfl|rfl|rfl|rfl|rfl<;>rfl
theorem tj {i:Nat} (h:i<8):cJ.drop i=cJ.getD i ax::cJ.drop (i+1):=by
 rcases (by omega:i=0∨i=1∨i=2∨i=3∨i=4∨i=5∨i=6∨i=7) with rfl|rfl|rfl|rfl|rfl|rfl|rfl|rfl<;>rfl
theorem Ot (a:ByteArray) (ha:a.size≤1000000) (w:World) (hw:Words w):aC Tryz.prog 140 [.string a] w (.tuple #[.int .i64 (jc a).1,.int .i64 (jc a).2]):=by
 refine ay Tryz.func140 rfl Tryz.ntmps140 rfl ?_;have hload:(((cJ.map Value.string).drop 0).take 8)=cJ.map Value.string:=rfl;have hU:=rH a ha;generalize hu:upB a=u at hU;repeat' (first|(apply aa;exact rfl;exact rfl;(intro w hm;exact hU w))|(apply ai;exact rfl;apply cD (o:=0) (off:=0);exact hw;exact rfl;exact hload;exact rfl)|refine zZE ?_|refine sM fun _=>?_|(refine sC ?_ ?_<;>intro hb<;>try omega)|exact cT|fail)
 refine aw [0,8] rfl (fun i:Nat=> [(9,.int .i64 (i:Int))]) (fun _=> []) (fun i=>i≤8∧jc a=jG u (cJ.drop (max i 1)) (max i 1:Nat)) (fun i=>8 - i) 0 ⟨by omega,by rw [jc,hu];rfl⟩ sB mS ?_;rintro i ⟨hi,hr⟩;by_cases hlt:i<8
 ·have hx:=Ey hlt;have hd:=tj hlt;generalize cJ.getD i ax=x at hx hd;repeat' (first|(apply ai;exact rfl;apply nR;exact rfl;exact rfl;exact hlt;exact hx)|refine zZG ?_|refine sM fun _=>?_|(refine sC ?_ ?_<;>intro hb<;>try omega)|exact cT|fail)
  ·rename_i h0;rw [show max i 1=i by omega,hd,jG,if_pos hb] at hr;rw [hr];(refine rT2 ?_)
   rfl
  ·rename_i h0;rw [show max i 1=i by omega,hd,jG,if_neg hb] at hr;refine ⟨i+1,?_,(by first|omega|(dsimp only;omega)),sB,sB,mS⟩;refine ⟨hlt,?_⟩;rw [hr,show max (i+1) 1=i+1 by omega]
   rfl
  ·have h0:i=0:=by omega
   subst h0;refine ⟨0+1,?_,(by first|omega|(dsimp only;omega)),sB,sB,mS⟩;exact ⟨by omega,hr⟩
 ·have e:i=8:=by omega
  subst e;rw [hr];repeat' (first|refine zZE ?_|refine sM fun _=>?_|(refine sC ?_ ?_<;>intro hb<;>try omega)|exact cT|fail)
  all_goals first|(exfalso;omega)|((refine rT2 ?_);rfl)
end Go.SL
namespace Go.SL
open Go Go.Proofs
attribute [local irreducible] W WL WQ WG WA WX WLI WR WT VOp thn blk bH scp aV bP FnAt FnIn
def EV:Option (Tk × Nat)→Value
 |some (t,n)=> .tuple #[.agg (bh t).toArray,.int .i64 (n:Int)]
 |none=> .tuple #[.agg (bh dA).toArray,.int .i64 0]
def atT (i:Nat) (o:Option (Tk × Nat)):Option (Tk × Nat):=o.map fun x=>({ x.1 with at_:=(i:Int) },x.2)
def gI (l:List Int):Option (Tk × Nat):=
 let w:=aG aH l;let p:=bZ (l.drop w);let n:=if p=0 then w else w+1+p
 if w=0∨4<p then none
 else if (iB (l.take n)).2≠0 then none else some (⟨1,(iB (l.take n)).1,ax,aS,0⟩,n)
theorem ou {c:Int} {r:List Int} (h:c=46):bZ (c::r)=aG aH r:=by subst h;rfl
theorem nk {c:Int} {r:List Int} (h:c≠46):bZ (c::r)=0:=by
 unfold bZ;split
 ·rename_i heq;injection heq with h1 h2;exact absurd h1 h
 ·rfl
theorem Ja (a:ByteArray) (ha:a.size≤100000) (i:Nat) (hi:i≤a.size) (g:Nat) (w:World) (hr:Ro w g 0 [.string a]):
 aC Tryz.prog 191 [.pointer (some ⟨g,0,none⟩),.int .i64 (i:Int)] w (EV (atT i (gI ((ap a).drop i)))):=by
 refine ay Tryz.func191 rfl Tryz.ntmps191 rfl ?_;have hl:=av a;have hL1:=su a (by omega) i hi 236 aH lG;have hwl:=bY aH ((ap a).drop i);rw [RE] at hwl;generalize hw:aG aH ((ap a).drop i)=n at hL1 hwl;generalize hpd:bZ ((ap a).drop (i+n))=p;have hN:gI ((ap a).drop i)=if n=0∨4<p then none else if (iB (((ap a).drop i).take (if p=0 then n else n+1+p))).2≠0 then none else some (⟨1,(iB (((ap a).drop i).take (if p=0 then n else n+1+p))).1,ax,aS,0⟩,if p=0 then n else n+1+p):=by
  simp only [gI,hw,SV,hpd]
 rw [hN];have hL2:=fun h=>su a (by omega) (i+n+1) h 236 aH lG;have hcut: ∀ m,ap (sub a i (i+m))=((ap a).drop i).take m:=fun m=>by rw [eU,show i+m - i=m by omega]
 have hple:p≤a.size - (i+n) - 1:=by
  rw [← hpd];by_cases h:i+n<a.size
  ·rw [bi h];by_cases h46:bat a (i+n)=46
   ·rw [ou h46];have:=bY aH ((ap a).drop (i+n+1));rw [RE] at this;omega
   ·rw [nk h46];omega
  ·rw [RK (by omega)];simp [bZ]
 have hend: ∀ h:i+n+1<a.size,bat a (i+n)=46→(p=aG aH ((ap a).drop (i+n+1))):=fun h h46=>by
  rw [← hpd,bi (by omega),ou h46]
 have hno: ¬ (i+n+1<a.size∧bat a (i+n)=46∧aH (bat a (i+n+1))=true)→p=0:=fun h=>by
  by_cases h1:i+n<a.size
  ·by_cases h46:bat a (i+n)=46
   ·by_cases h2:i+n+1<a.size
    ·rw [hend h2 h46,bi h2,aG,if_neg fun h3=>h ⟨h2,h46,h3⟩]
    ·rw [← hpd,bi h1,ou h46,RK (by omega)];rfl
   ·rw [← hpd,bi h1,nk h46]
  ·rw [← hpd,RK (by omega)];rfl
 have hyes:i+n+1<a.size→bat a (i+n)=46→aH (bat a (i+n+1))=true→0<p:=fun h h46 h3=>by
  rw [hend h h46,bi h,aG,if_pos h3];omega
 repeat' (first|(apply ai;exact rfl;apply aN (o:=0) (off:=0);exact hr;exact rfl;exact rfl)|(apply aa;exact rfl;exact rfl;(intro w hm;exact hL1 w))|(apply aa;exact rfl;exact rfl;(intro w hm;exact lG _ w))|(refine GR (id:=7) [0,1,4] rfl (ι:=Nat × Nat) (fun x=> [(7,.int .i64 (x.1:Int)),(5,.int .i64 (x.2:Int))]) (fun x=>x.1=p∧x.2=if p=0 then n else n+1+p) ?_ ?_)|(apply aa;exact rfl;exact rfl;(intro w hm;exact hL2 (by omega) w))|refine zZG ?_|refine sM fun _=>?_|(refine sC ?_ ?_<;>intro hb<;>try omega)|exact cT|fail)
 ·(refine lU ?_);rw [if_pos (.inl (by omega))];rfl
 ·rename_i h1 h2 h3;refine cX ((aG aH ((ap a).drop (i+n+1)),n+(1+aG aH ((ap a).drop (i+n+1))))) ?_ sB mS;have h5:=hyes (by omega) h3 hb;have h6:=hend (by omega) h3;rw [← h6];exact ⟨rfl,by rw [if_neg (by omega)];omega⟩
 ·rename_i h1 h2 h3;refine cX ((0,n)) ?_ sB mS;have:=hno fun h=>by rw [hb] at h;cases h.2.2
  exact ⟨this.symm,by rw [if_pos this]⟩
 ·refine cX ((0,n)) ?_ sB mS;have:=hno fun h=>hb h.2.1;exact ⟨this.symm,by rw [if_pos this]⟩
 ·refine cX ((0,n)) ?_ sB mS;have:=hno fun h=>by omega
  exact ⟨this.symm,by rw [if_pos this]⟩
 rintro ⟨p',m⟩ ⟨rfl,hm⟩;have hn0:n≠0:=by omega
 dsimp only at hm ⊢;rw [← hm];by_cases h4:4<p'
 ·rw [if_pos (.inr h4)];repeat' (first|refine zZE ?_|refine sM fun _=>?_|(refine sC ?_ ?_<;>intro hb<;>try omega)|exact cT|fail)
  all_goals first|(exfalso;omega)|((refine lU ?_);rfl)
 ·rw [if_neg (by omega)];have him:i+m≤a.size:=by rw [hm];split<;>omega
  have hP:=tY (sub a i (i+m)) (by rw [co _ him];omega);rw [hcut m] at hP;generalize iB (((ap a).drop i).take m)=q at hP;repeat' (first|(apply ai;exact rfl;apply aN (o:=0) (off:=0);exact hr;exact rfl;exact rfl)|(apply aa;exact rfl;exact rfl;(intro w hm;exact hP w))|refine zZG ?_|refine sM fun _=>?_|(refine sC ?_ ?_<;>intro hb<;>try omega)|exact cT|fail)
  ·(refine lU ?_);rw [if_pos hb];rfl
  ·(refine lU ?_);rw [if_neg hb];rfl
theorem mG (a:ByteArray) (j:Nat):((ap a).drop j).headD 0=bat a j:=by
 rw [bat,List.headD_eq_head?_getD,List.head?_drop,RJ]
theorem Aq (a:ByteArray) (ha:a.size≤100000) (j:Nat) (g:Nat) (w:World) (hr:Ro w g 0 [.string a]):
 aC Tryz.prog 240 [.pointer (some ⟨g,0,none⟩),.int .i64 (j:Int)] w (.int .u8 (bat a j)):=by
 refine ay Tryz.func240 rfl Tryz.ntmps240 rfl ?_;have hl:=av a;repeat' (first|(apply ai;exact rfl;apply aN (o:=0) (off:=0);exact hr;exact rfl;exact rfl)|refine zZG ?_|refine sM fun _=>?_|(refine sC ?_ ?_<;>intro hb<;>try omega)|exact cT|fail)
 ·(refine rT1 ?_)
  rfl
 ·(refine rT1 ?_);have e:bat a j=0:=by rw [bat,RJ,Ry (by omega)];rfl
  rw [e]
def upW (l:List Int):List Int:=(l.take (aG cY l)).map upC
theorem vF (l:List Int):(upW l).length=aG cY l:=by
 have:=bY cY l;simp [upW];omega
theorem Kw {l:List Int} (h:iU l):iU (upW l):=by
 intro c hc;obtain ⟨d,hd,rfl⟩:=RG.1 hc;have:=h d (SF hd);unfold upC;split<;>omega
theorem CZ (a:ByteArray) (ha:a.size≤100000) (i:Nat) (hi:i≤a.size) (g:Nat) (w:World) (hr:Ro w g 0 [.string a]):
 aC Tryz.prog 239 [.pointer (some ⟨g,0,none⟩),.int .i64 (i:Int)] w (.string (mkB (upW ((ap a).drop i)))):=by
 refine ay Tryz.func239 rfl Tryz.ntmps239 rfl ?_;have hl:=av a;have hL:=su a (by omega) i hi 274 cY Jn;have hwl:=bY cY ((ap a).drop i);rw [RE] at hwl;unfold upW;generalize aG cY ((ap a).drop i)=n at hL hwl;have hU:=rH (sub a i (i+n)) (by rw [co _ (by omega)];omega);have e:upB (sub a i (i+n))=mkB ((((ap a).drop i).take n).map upC):=by rw [upB,eU,show i+n - i=n by omega]
 rw [e] at hU;repeat' (first|(apply ai;exact rfl;apply aN (o:=0) (off:=0);exact hr;exact rfl;exact rfl)|(apply aa;exact rfl;exact rfl;(intro w hm;exact hL w))|(apply aa;exact rfl;exact rfl;(intro w hm;exact hU w))|refine zZG ?_|refine sM fun _=>?_|(refine sC ?_ ?_<;>intro hb<;>try omega)|exact cT|fail)
 (refine rT1 ?_)
 rfl
def cL:List Int→Option Nat
 | []=>none
 |c::r=>if c≠34 then (cL r).map (· +1) else match r with
  | []=>some 0
  |d::r' =>if d=34 then (cL r').map (· +2) else some 0
theorem lK {c:Int} {r:List Int} (h:c≠34):cL (c::r)=(cL r).map (· +1):=by rw [cL.eq_def];simp [h]
def nX (l:List Int):Option (Tk × Nat):=
 if l.headD 0≠34 then none
 else match cL (l.drop 1) with
  |none=>none
  |some k=>if (gU (l.take (k+2))).2≠0 then none else some (⟨2,0,mkB (gU (l.take (k+2))).1,aS,0⟩,k+2)
theorem M9 (a:ByteArray) (ha:a.size≤100000) (i:Nat) (hi:i<a.size) (g:Nat) (w:World) (hr:Ro w g 0 [.string a]):
 aC Tryz.prog 192 [.pointer (some ⟨g,0,none⟩),.int .i64 (i:Int)] w (EV (atT i (nX ((ap a).drop i)))):=by
 refine ay Tryz.func192 rfl Tryz.ntmps192 rfl ?_;have hl:=av a;unfold nX;rw [mG,SV];by_cases h34:bat a i=34
 ·rw [if_neg (by omega)];have hcut: ∀ m,ap (sub a i (i+m))=((ap a).drop i).take m:=fun m=>by rw [eU,show i+m - i=m by omega]
  repeat' (first|(apply ai;exact rfl;apply aN (o:=0) (off:=0);exact hr;exact rfl;exact rfl)|refine zZG ?_|refine sM fun _=>?_|(refine sC ?_ ?_<;>intro hb<;>try omega)|exact cT|fail)
  all_goals try (exfalso;omega)
  rename_i g4;generalize hC:cL ((ap a).drop (i+1))=C;refine aw [0,1,4,5] rfl (fun j:Nat=> [(6,.int .i64 (j:Int))]) (fun _=> [.box g4 228 (bh dA)]) (fun j=>i+1≤j∧j≤a.size∧C=(cL ((ap a).drop j)).map (· +(j - (i+1)))) (fun j=>a.size - j) (i+1) ⟨by omega,by omega,by rw [hC];simp⟩ sB mS ?_;rintro j ⟨hj1,hj2,hj3⟩;by_cases hlt:j<a.size
  ·rw [bi hlt] at hj3;by_cases hq:bat a j=34
   ·by_cases hn:j+1<a.size∧bat a (j+1)=34
    ·rw [bi hn.1,hq,hn.2] at hj3;simp only [cL,ne_eq,not_true_eq_false,if_false,if_true,Ug] at hj3;have hn1:=hn.1;repeat' (first|(apply ai;exact rfl;apply aN (o:=0) (off:=0);exact hr;exact rfl;exact rfl)|refine zZG ?_|refine sM fun _=>?_|(refine sC ?_ ?_<;>intro hb<;>try omega)|exact cT|fail)
     all_goals try (exfalso;omega)
     refine ⟨j+2,?_,(by first|omega|(dsimp only;omega)),sB,sB,mS⟩;refine ⟨by omega,by omega,?_⟩;rw [hj3,show j+1+1=j+2 by omega];congr 1;funext k;simp only [Function.comp];omega
    ·have hC0:C=some (j - (i+1)):=by
      rw [hj3,hq];by_cases h1:j+1<a.size
      ·rw [bi h1];have h2:bat a (j+1)≠34:=fun h=>hn ⟨h1,h⟩;simp [cL,h2]
      ·rw [RK (i:=j+1) (by omega)];simp [cL]
     rw [hC0];dsimp only;have hm:j - (i+1)+2=j+1 - i:=by omega
     rw [hm];have hc:=hcut (j+1 - i);rw [show i+(j+1 - i)=j+1 by omega] at hc;have hP:=Gy (sub a i (j+1)) (by rw [co _ (by omega)];omega);rw [hc] at hP;generalize gU (((ap a).drop i).take (j+1 - i))=q at hP;repeat' (first|(apply ai;exact rfl;apply aN (o:=0) (off:=0);exact hr;exact rfl;exact rfl)|(apply aa;exact rfl;exact rfl;(intro w hm;exact hP w))|refine zZG ?_|refine sM fun _=>?_|(refine sC ?_ ?_<;>intro hb<;>try omega)|exact cT|fail)
     all_goals first|(exfalso;omega)|((refine lU ?_);first|(rw [if_pos hb];rfl)|(rw [if_neg hb];rfl))
   ·rw [lK hq,Ug] at hj3;repeat' (first|(apply ai;exact rfl;apply aN (o:=0) (off:=0);exact hr;exact rfl;exact rfl)|refine zZG ?_|refine sM fun _=>?_|(refine sC ?_ ?_<;>intro hb<;>try omega)|exact cT|fail)
    all_goals try (exfalso;omega)
    refine ⟨j+1,?_,(by first|omega|(dsimp only;omega)),sB,sB,mS⟩;refine ⟨by omega,by omega,?_⟩;rw [hj3];congr 1;funext k;simp only [Function.comp];omega
  ·rw [RK (by omega)] at hj3;rw [hj3];dsimp only [cL,Option.map];repeat' (first|(apply ai;exact rfl;apply aN (o:=0) (off:=0);exact hr;exact rfl;exact rfl)|refine zZG ?_|refine sM fun _=>?_|(refine sC ?_ ?_<;>intro hb<;>try omega)|exact cT|fail)
   all_goals try (exfalso;omega)
   (refine lU ?_)
   rfl
 ·rw [if_pos (by omega)];repeat' (first|(apply ai;exact rfl;apply aN (o:=0) (off:=0);exact hr;exact rfl;exact rfl)|refine zZG ?_|refine sM fun _=>?_|(refine sC ?_ ?_<;>intro hb<;>try omega)|exact cT|fail)
  all_goals try (exfalso;omega)
  (refine lU ?_)
  rfl
end Go.SL
namespace Go.SL
open Go Go.Proofs Go.Proofs.YtpoafcnhplbkmaaGreatDoor Go.ChangeShapes Go.WideShapes Go.ChangeAt Go.RowKit Go.Deep
def rK:List (List UInt8):= [[],[35,68,73,86,47,48,33],[35,86,65,76,85,69,33],[35,78,85,77,33],[35,78,47,65],[35,82,69,70,33],[35,67,89,67,76,69,33],[35,68,69,78,73,69,68]]
def wR:List (String × DataW Unit):= [("louvre/val.words",Rows.laid_louvre_val_words)]
theorem Bv:(Rows.laid_louvre_val_words:DataW Unit)= .agg (rK.map fun l=> .lit (.string l)):=rfl
theorem J8:cJ=rK.map fun l=>⟨l.toArray⟩:=rfl
set_option maxRecDepth 100000 in
theorem xM {W:World} (h:laidMetH Tryz.prog wR W):Words W:=by
 rw [MakeChecks.laidMetH_plain _ _ _ (by kernel_rfl)] at h;obtain ⟨ps,⟨g,t,cs,fuel,p,q,hg,ht,hv,hd,_,_⟩,_⟩:=h;obtain rfl:=Option.some.inj ((show Tryz.prog.globalNamed "louvre/val.words" =some 0 by kernel_rfl).symm.trans hg);obtain rfl:=Option.some.inj ((show (Tryz.prog.globals[0]?).map (·.type)=some 263 by kernel_rfl).symm.trans ht);rw [Bv] at hd;obtain ⟨xs,m,_,ex,_,hl,hel⟩:=DataW.trod_array Tryz.underlying263 hd;have cS:Tryz.prog.cellsOf 9=1:=by kernel_rfl
 have hcell: ∀ (j:Nat) (v:Value),(cJ.map Value.string)[j]? =some v→W.cell? ⟨0,0+j,none⟩=some v:=by
  intro j v hjv;have hj:j<8:=by
   have:=(Rm.1 hjv).1;simpa [cJ] using this
  have hE:=hel j hj;rw [cS,RV,QU (by omega)] at hE;obtain ⟨s,e1,e2,_⟩:=DataW.trod_string Tryz.underlying9 hE;have e3:(xs.map (·.1))=rK.map fun l=> .lit (.string l):=(DataW.agg.inj (Prod.mk.inj ex).1).symm;have hwl:rK.length=8:=rfl;have e4:(xs.map (·.1))[j]? =(rK.map fun l=>(DataW.lit (.string l):DataW Unit))[j]? :=by rw [e3]
  obtain ⟨u,hu⟩: ∃ u,rK[j]? =some u:=⟨_,QU (by rw [hwl];exact hj)⟩;rw [Rj,Rj,QU (by omega:j<xs.length),hu,e2] at e4;simp only [Sq,Option.some.injEq,DataW.lit.injEq,Lit.string.injEq] at e4;have hs:s=⟨u.toArray⟩:=by
   obtain ⟨d⟩:=s;subst e4
   rfl
  have hvv:v= .string s:=by
   rw [J8,SZ,Rj,hu] at hjv;simp only [Sq,Option.some.injEq,Function.comp] at hjv;rw [← hjv,hs]
  rw [hvv,Rv,World.var?_cell hg hv j];have:cs.toList[j]? =some (.string s):=by
   have h0:((cs.toList.drop j).take 1)[0]? =some (.string s):=by rw [e1];rfl
   simpa using h0
  simpa using this
 refine ⟨?_,hcell⟩;have h5:=hcell 0 _ rfl;simp only [World.cell?] at h5;split at h5
 ·rename_i h6;exact (RQ.1 h6).1
 ·cases h5
end Go.SL
namespace Go.SL
open Go Go.Proofs
attribute [local irreducible] W WL WQ WG WA WX WLI WR WT VOp thn blk bH scp aV bP FnAt FnIn
theorem Nz {l m:List Int} (hl:iU l) (hm:iU m):mkB l=mkB m↔l=m:=⟨fun h=>by rw [← oG hl,← oG hm,h],fun h=>by rw [h]⟩
theorem pN (a b:ByteArray) (w:World):aC Tryz.prog 182 [.string a,.string b] w (.bool (decide ((ap a).take b.size=ap b))):=by
 refine ay Tryz.func182 rfl Tryz.ntmps182 rfl ?_;have ha:=av a;have hb' :=av b;have e: ∀ h:b.size≤a.size,decide (sub a 0 b.size=b)=decide ((ap a).take b.size=ap b):=fun h=>by
  rw [decide_eq_decide,← uM];exact ⟨fun h=>by rw [h],fun h=>wU h⟩
 repeat' (first|refine zZE ?_|refine sM fun _=>?_|(refine sC ?_ ?_<;>intro hb<;>try omega)|fail)
 ·rw [e (by omega)];(refine rT1 ?_)
  rfl
 ·(refine rT1 ?_);rw [decide_eq_false];intro h;have:=congrArg List.length h;rw [RI] at this;omega
theorem AJ (a b:ByteArray) (w:World):aC Tryz.prog 245 [.string a,.string b] w (.bool (decide ((ap a).take b.size=ap b))):=by
 refine ay Tryz.func245 rfl Tryz.ntmps245 rfl ?_;repeat' (first|(apply aa;exact rfl;exact rfl;(intro w hm;exact pN a b w))|refine sT ?_|refine sM fun _=>?_|(refine sC ?_ ?_<;>intro hb<;>try omega)|fail)
 (refine rT1 ?_)
 rfl
theorem wQ (c:Int) (w:World):aC Tryz.prog 242 [.int .i64 c] w (.bool (decide (1≤c) && decide (c≤5))):=by
 refine ay Tryz.func242 rfl Tryz.ntmps242 rfl ?_;repeat' (first|refine sT ?_|refine sM fun _=>?_|(refine sC ?_ ?_<;>intro hb<;>try omega)|fail)
 all_goals ((refine rT1 ?_);simp_all<;>omega)
theorem AU {k:Nat} (h1:1≤k) (h2:k≤5): ∃ s,eH.drop (k - 1)=s::eH.drop k∧cJ.getD k ax=mkB s∧iU s∧s.length≤10:=by
 rcases (by omega:k=1∨k=2∨k=3∨k=4∨k=5) with rfl|rfl|rfl|rfl|rfl<;>refine ⟨_,rfl,rfl,?_,by decide⟩<;>(intro c hc;simp at hc;omega)
theorem oD (l:List Int):(mkB l).size=l.length:=by simp [mkB,ByteArray.size]
def lI (l:List Int):Option (Tk × Nat):=(kV l eH 1).map fun x=>(⟨4,x.1,ax,aS,0⟩,x.2)
theorem NR (a:ByteArray) (ha:a.size≤100000) (i:Nat) (hi:i≤a.size) (g:Nat) (w:World) (hr:Ro w g 0 [.string a]) (hW:Words w):
 aC Tryz.prog 194 [.pointer (some ⟨g,0,none⟩),.int .i64 (i:Int)] w (EV (atT i (lI ((ap a).drop i)))):=by
 refine ay Tryz.func194 rfl Tryz.ntmps194 rfl ?_;have hl:=av a;unfold lI;generalize hF:kV ((ap a).drop i) eH 1=F;repeat' (first|refine zZE ?_|refine sM fun _=>?_|(refine sC ?_ ?_<;>intro hb<;>try omega)|fail)
 rename_i g4;refine aw [0,1,4,5] rfl (fun k:Nat=> [(6,.int .i64 (k:Int))]) (fun _=> [.box g4 228 (bh dA)]) (fun k=>1≤k∧k≤6∧F=kV ((ap a).drop i) (eH.drop (k - 1)) k) (fun k=>6 - k) 1 ⟨by omega,by omega,hF.symm⟩ sB mS ?_;rintro k ⟨hk1,hk2,hk3⟩;by_cases hk:k≤5
 ·obtain ⟨s,e1,e2,e3,e4⟩:=AU hk1 hk;have e5:ig (k:Int)=⟨4,(k:Int),ax⟩:=by rw [ig,if_neg (by omega)]
  have hFa:=nJ (k:Int);rw [e5] at hFa;have hSh:=fun w' h=>Oj (k:Int) (by omega) (by omega) w' h;rw [Ud,e2] at hSh;rw [e1,kV] at hk3;have hlit:(decide (1≤(k:Int)) && decide ((k:Int)≤5))=true:=by simp;omega
  have hL:=wQ (k:Int);rw [hlit] at hL;have hms:=oD s;have hcut:ap (sub a i (i+s.length))=((ap a).drop i).take s.length:=by rw [eU,show i+s.length - i=s.length by omega]
  have hU:=fun h=>rH (sub a i (i+s.length)) h;have hdec:upB (sub a i (i+s.length))=mkB s↔(((ap a).drop i).take s.length).map upC=s:=by
   rw [upB,hcut,Nz _ e3];rw [← hcut,← q9];exact nD _
  rw [← hms] at hU hdec hk3;repeat' (first|(apply ai;exact rfl;apply aN (o:=0) (off:=0);exact hr;exact rfl;exact rfl)|(apply aa;exact rfl;exact rfl;(intro w hm;exact hL w))|(apply aa;exact rfl;exact rfl;(intro w hm;exact hFa w))|(apply aa;exact rfl;exact rfl;(intro w' hm;exact hSh w' (hW.next hm)))|(apply aa;exact rfl;exact rfl;(intro w hm;exact hU (by rw [co _ (by omega)];omega) w))|refine zZG ?_|refine sM fun _=>?_|(refine sC ?_ ?_<;>intro hb<;>try omega)|fail)
  ·(refine lU ?_);rw [hk3,if_pos (hdec.1 hb)]
   rfl
  ·refine ⟨k+1,?_,(by first|omega|(dsimp only;omega)),sB,sB,mS⟩;refine ⟨by omega,by omega,?_⟩;rw [hk3,if_neg fun h=>hb (hdec.2 h)]
   rfl
  ·refine ⟨k+1,?_,(by first|omega|(dsimp only;omega)),sB,sB,mS⟩;refine ⟨by omega,by omega,?_⟩;rw [hk3,if_neg]
   ·rfl
   ·intro h;have:=congrArg List.length h;rw [RA,RI,RE] at this;omega
 ·have e:k=6:=by omega
  subst e;rw [show eH.drop (6 - 1)= [] from rfl,kV] at hk3;rw [hk3];have hL:=wQ 6;rw [show (decide (1≤(6:Int)) && decide ((6:Int)≤5))=false from rfl] at hL;repeat' (first|(apply aa;exact rfl;exact rfl;(intro w hm;exact hL w))|refine zZE ?_|refine sM fun _=>?_|(refine sC ?_ ?_<;>intro hb<;>try omega)|fail)
  all_goals try (exfalso;omega)
  (refine lU ?_)
  rfl
def Hg:List Value:=fK.map fun x=> .string (mkB x.1)
def Hh:List Value:=fK.map fun x=> .int .i64 x.2
theorem Ad (w:World):FnAt Tryz.prog 244 [] w fun v H=> ∃ g g',v= .tuple #[sl (some g) 13 13,sl (some g') 13 13]∧H= [.own (some g) 9 1 13 13 Hg,.own (some g') 2 1 13 13 Hh]:=by
 refine ay Tryz.func244 rfl Tryz.ntmps244 rfl ?_;repeat' (first|refine sT ?_|refine sM fun _=>?_|(refine sC ?_ ?_<;>intro hb<;>try omega)|fail)
 rename_i g g';refine dB (.inl rfl) rfl rfl rfl (H' := [.own (some g) 9 1 13 13 Hg,.own (some g') 2 1 13 13 Hh]) ?_ ⟨g,g',rfl,rfl⟩;exact mS
theorem Pm {k:Nat} (h:k<13): ∃ s n,fK.drop k=(s,n)::fK.drop (k+1)∧Hg[k]? =some (.string (mkB s))∧Hh[k]? =some (.int .i64 n)∧iU s∧s.length≤2:=by
 rcases (by omega:k=0∨k=1∨k=2∨k=3∨k=4∨k=5∨k=6∨k=7∨k=8∨k=9∨k=10∨k=11∨k=12) with rfl|rfl|rfl|rfl|rfl|rfl|rfl|rfl|rfl|rfl|rfl|rfl|rfl<;>refine ⟨_,_,rfl,rfl,rfl,?_,by decide⟩<;>(intro c hc;simp at hc;omega)
def i9 (l:List Int):Option (Tk × Nat):=
 match opL l fK with
 |some (k,n)=>some (⟨8,k,ax,aS,0⟩,n)
 |none=>if l.headD 0=40 then some (⟨9,0,ax,aS,0⟩,1) else if l.headD 0=41 then some (⟨10,0,ax,aS,0⟩,1) else if l.headD 0=44 then some (⟨11,0,ax,aS,0⟩,1) else none
theorem Ng (a:ByteArray) (ha:a.size≤100000) (i:Nat) (hi:i<a.size) (g:Nat) (w:World) (hr:Ro w g 0 [.string a]):
 aC Tryz.prog 195 [.pointer (some ⟨g,0,none⟩),.int .i64 (i:Int)] w (EV (atT i (i9 ((ap a).drop i)))):=by
 refine ay Tryz.func195 rfl Tryz.ntmps195 rfl ?_;have hl:=av a;unfold i9;rw [mG];generalize hF:opL ((ap a).drop i) fK=F;repeat' (first|(apply aK;exact rfl;exact rfl;(intro w' hm;exact Ad w');(rintro v H' ⟨gs,gn,rfl,rfl⟩))|refine zZE ?_|refine sM fun _=>?_|(refine sC ?_ ?_<;>intro hb<;>try omega)|fail)
 rename_i g4;refine aw [0,1,4,5,7,14,15] rfl (fun k:Nat=> [(16,.int .i64 (k:Int))]) (fun _=> [.box g4 228 (bh dA),.own (some gs) 9 1 13 13 Hg,.own (some gn) 2 1 13 13 Hh]) (fun k=>k≤13∧F=opL ((ap a).drop i) (fK.drop k)) (fun k=>13 - k) 0 ⟨by omega,hF.symm⟩ sB mS ?_;rintro k ⟨hk2,hk3⟩;by_cases hk:k<13
 ·obtain ⟨s,m,e1,e2,e3,e4,e5⟩:=Pm hk;rw [e1,opL] at hk3;have hms:=oD s;have hP:=AJ (sub a i a.size) (mkB s);rw [oX,oG e4,hms] at hP;repeat' (first|(apply ai;exact rfl;apply aN (o:=0) (off:=0);exact hr;exact rfl;exact rfl)|(apply aa;exact rfl;exact rfl;(intro w hm;exact hP w))|(apply ai;exact rfl;apply ag (j:=k);exact rfl;exact rfl;exact hk)|(apply ai;exact rfl;apply aq;exact rfl;exact pK;(rw [show 0+k*1=k by omega];first|exact e2|exact e3))|refine zZG ?_|refine sM fun _=>?_|(refine sC ?_ ?_<;>intro hb<;>try omega)|fail)
  ·(refine lU ?_);rw [hk3,if_pos hb,hms]
   rfl
  ·refine ⟨k+1,?_,(by first|omega|(dsimp only;omega)),sB,sB,mS⟩;exact ⟨hk,by rw [hk3,if_neg hb]⟩
 ·have e:k=13:=by omega
  subst e;rw [show fK.drop 13= [] from rfl,opL] at hk3;subst hk3;repeat' (first|(apply ai;exact rfl;apply aN (o:=0) (off:=0);exact hr;exact rfl;exact rfl)|refine zZG ?_|refine sM fun _=>?_|(refine sC ?_ ?_<;>intro hb<;>try omega)|fail)
  all_goals try (exfalso;omega)
  all_goals
   (refine lU ?_);simp_all;try rfl
end Go.SL
