/-
  Lemmas and walks, put together: A1 D4 D5 A3 D6 A4 B2 Fc.
-/
import Derived.Carry
import Derived.Deep.Slices
import Derived.LaidMore
import Derived.Lay
import Derived.OpenShut
import Derived.ProofKit
import Derived.SevenTiedAt
import Derived.Stop.Joined
import Derived.Test.YtfeicpjdgjflaaaGreatDoorCards
import Derived.Test.YtfeicpjdgjflaaaGreatDoorRows
import Derived.Test.YtfeicpjdgjflaaaGreatDoorTie
import Derived.Test.YtfeicpjdgjflaaaGreatDoorKv10
import Derived.Test.YtfeicpjdgjflaaaGreatDoorKv11
set_option linter.unusedSimpArgs false
set_option linter.unusedVariables false
set_option maxRecDepth 20000
set_option maxHeartbeats 16000000
namespace Go.SL
open Go Go.Proofs
attribute [local irreducible] W WL WQ WG WA VOp thn blk bg aS FnAt FnIn
theorem PN {c:Int} (h1:48≤c) (h2:c≤57):aL c=true:=by simp [aL,h1,h2]
theorem Sj {c:Int} (h:c<48):aL c=false:=by simp [aL];omega
theorem Sk {c:Int} (h:57<c):aL c=false:=by simp [aL];omega
theorem Cv (a:ByteArray) (ha:a.size≤1000000) (w:World):aF Tryz.prog 293 [.string a] w (.int .i64 (aK aL (ap a):Int)):=by
 refine aA Tryz.func293 rfl Tryz.ntmps293 rfl ?_;have hl:=az a;repeat' (first|refine zZE ?_|refine sM fun _=>?_|refine sC ?_ ?_<;>intro hb<;>try omega|exact cT|fail)
 refine fP (fun i:Nat=> [(0,.string a),(5,.int .i64 (a.size:Int)),(6,.int .i64 (i:Int))]) (fun _=> []) (fun i=>i≤a.size∧aK aL (ap a)=i+aK aL ((ap a).drop i)) (fun i=>a.size - i) 0 ⟨by omega,by simp⟩ sB mS ?_;rintro i ⟨hi,hr⟩;by_cases hlt:i<a.size
 ·have hs1:=bA hlt;rw [hs1] at hr;simp only [aK] at hr;repeat' (first|refine zZH ?_|refine sM fun _=>?_|refine sC ?_ ?_<;>intro hb<;>try omega|exact cT|fail)
  ·(refine rT1 ?_);rw [hr,Sj hb];simp
  ·(refine rT1 ?_);rw [hr,Sk hb];simp
  ·rename_i h1;rw [PN h1 hb] at hr;exact ⟨i+1,⟨hlt,by rw [hr];simp;omega⟩,by omega,by exact sB,by exact mS⟩
 ·have e:i=a.size:=by omega
  subst e;repeat' (first|refine zZE ?_|refine sM fun _=>?_|refine sC ?_ ?_<;>intro hb<;>try omega|exact cT|fail)
  (refine rT1 ?_);rw [hr,VY (by omega)];simp [aK]
def lc (hi lo:Int) (neg:Bool):Int × Bool:=if hi≠0∨dx<lo then (0,false) else (if neg then -lo else lo,true)
theorem s8 {v:Int} (h1:0≤v) (h2:v≤dx):IntKind.i64.wrap v=v:=I64.wrap ⟨by omega,by simpa [dx] using h2⟩
theorem LL (hi lo:Int) (neg:Bool) (h0:0≤lo) (w:World):aF Tryz.prog 294 [.int .u64 hi,.int .u64 lo,.bool neg] w (.tuple #[.int .i64 (lc hi lo neg).1,.bool (lc hi lo neg).2]):=by
 refine aA Tryz.func294 rfl Tryz.ntmps294 rfl ?_;by_cases hh:hi=0
 ·by_cases hl:lo≤dx
  ·have hw:=s8 h0 hl;have hm:dx=9223372036854775807:=rfl;have e:lc hi lo neg=(if neg then -lo else lo,true):=by rw [lc,if_neg (by omega)]
   rw [e];subst hh;cases neg
   ·repeat' first|apply ai;exact rfl;apply dD;exact rfl;exact hw|refine sT ?_|refine sM fun _=>?_|refine sC ?_ ?_<;>intro hb<;>try omega|exact cT|fail
    all_goals first|omega|(refine rT2 ?_);rfl
   ·repeat' first|apply ai;exact rfl;apply dD;exact rfl;exact hw|apply ai;exact rfl;apply SN;exact rfl;exact ⟨by omega,by omega⟩|refine sT ?_|refine sM fun _=>?_|refine sC ?_ ?_<;>intro hb<;>try omega|exact cT|fail
    all_goals first|omega|(refine rT2 ?_);rfl
  ·have hm:dx=9223372036854775807:=rfl;have e:lc hi lo neg=(0,false):=by rw [lc,if_pos (by omega)]
   rw [e];repeat' (first|refine sT ?_|refine sM fun _=>?_|refine sC ?_ ?_<;>intro hb<;>try omega|exact cT|fail)
   all_goals first|omega|(refine rT2 ?_);rfl
 ·have e:lc hi lo neg=(0,false):=by rw [lc,if_pos (.inl hh)]
  rw [e];repeat' (first|refine sT ?_|refine sM fun _=>?_|refine sC ?_ ?_<;>intro hb<;>try omega|exact cT|fail)
  all_goals first|omega|(refine rT2 ?_);rfl
theorem x9 (u:Int) (neg:Bool) (h0:0≤u) (h1:u≤dx) (w:World):aF Tryz.prog 294 [.int .u64 0,.int .u64 u,.bool neg] w (.tuple #[.int .i64 (if neg then -u else u),.bool true]):=by
 have h:=LL 0 u neg h0 w;rwa [lc,if_neg (by omega)] at h
theorem sv: ∀ (l:List Int) (v c:Int),bP (l++ [c]) v=10*bP l v+(c - 48)
 | [],_,_=>rfl
 |d::r,v,c=>by simp only [Vp,bP];exact sv r _ c
theorem nV: ∀ (l:List Int) {v:Int},(∀ c∈l,48≤c)→0≤v→v≤bP l v
 | [],_,_,_=>XS _
 |c::r,v,h,h0=>by
  have h1:=h c Vr;have:=nV r (v:=10*v+(c - 48)) (fun d hd=>h d (Vv _ hd)) (by omega);simp only [bP];omega
theorem tV (l m:List Int) (v:Int):bP (l++m) v=bP m (bP l v):=by
 induction l generalizing v with
 |nil=>rfl
 |cons c l ih=>simp only [Vp,bP,ih]
def jf (l0:List Int):Int × Int:=
 let neg:=decide (l0.head? =some 45);let l:=if neg then l0.tail else l0;let n:=aK aL l;let rest:=l.drop n;let frac:=decide (1<rest.length) && (decide (rest.head? =some 46) && decide (aK aL rest.tail+1=rest.length));let p5:=(if frac then rest.tail else [])++ [48,48,48,48,48]
 if n=0∨(frac=false∧rest≠ []) then (0,4)
 else
  let v:=bP (l.take n++p5.take 4) 0+(if 53≤p5.getD 4 0 then 1 else 0)
  if dx<v then (0,3) else (if neg then -v else v,0)
theorem ui (a:ByteArray) (c:Int):((ap a).head? =some c)↔(0<a.size∧bat a 0=c):=by
 by_cases h:0<a.size
 ·have:=bA h;rw [WH] at this;rw [this];simp [h]
 ·have:ap a= []:=by rw [← WW,az];omega
  rw [this];simp;omega
theorem wI (a:ByteArray) (ha:a.size≤1000000) (w:World):aF Tryz.prog 223 [.string a] w (.tuple #[.int .i64 (jf (ap a)).1,.int .i64 (jf (ap a)).2]):=by
 refine aA Tryz.func223 rfl Tryz.ntmps223 rfl ?_;have hl:=az a;generalize hneg:decide ((ap a).head? =some 45)=neg;generalize hls:(if neg then (ap a).tail else ap a)=ls;have hb0:=ui a 45;repeat' (first|refine xJ (id:=1) (ι:=Bool) (fun b=> [(0,.string a),(4,.bool b)]) (fun _=> []) (fun b=>neg=b) ?_ ?_|refine zZE ?_|refine sM fun _=>?_|refine sC ?_ ?_<;>intro hb<;>try omega|exact cT|fail)
 ·(apply dH;rotate_left 1;exact sB;exact mS);rw [← hneg,decide_eq_decide,hb0];simp;omega
 ·(apply dH;rotate_left 1;exact sB;exact mS);rw [← hneg,decide_eq_false_iff_not,hb0];omega
 rintro _ rfl;repeat' (first|refine CZ (id:=2) (ι:=ByteArray) (fun b=> [(0,.string b),(4,.bool neg)]) (fun _=> []) (fun b=>ap b=ls∧b.size≤a.size) ?_ ?_|refine zZE ?_|refine sM fun _=>?_|refine sC ?_ ?_<;>intro hb<;>try omega|exact cT|fail)
 ·have h1:0<a.size:=(hb0.1 (of_decide_eq_true (hneg.trans hb))).1;repeat' (first|refine zZE ?_|refine sM fun _=>?_|refine sC ?_ ?_<;>intro hb<;>try omega|exact cT|fail)
  (apply dH;rotate_left 1;exact sB;exact mS);rw [← hls,hb,qO,cP _ (VA _)];simp
 ·(apply dH;rotate_left 1;exact sB;exact mS);rw [← hls,hb];simp
 rintro b ⟨hbl,hbs⟩;have hlb:=az b;rw [hbl] at hlb;have hdl:=cH aL ls;generalize hn:aK aL ls=n at hdl;generalize hrest:ls.drop n=rest;generalize hfr:(decide (1<rest.length) && (decide (rest.head? =some 46) && decide (aK aL rest.tail+1=rest.length)))=fr;have hcd:=Cv b (by omega);rw [hbl,hn] at hcd;have hb1:=ui (sub b n b.size) 46;have hs1:=cP b (lo:=n) (VA b.size);have hr1:ap (sub b n b.size)=rest:=by rw [qO,hbl,hrest]
 generalize hz:sub b n b.size=z at hb1 hs1 hr1;have hrl:rest.length=z.size:=by rw [← hr1,az]
 have e1:ap (sub z 1 z.size)=rest.tail:=by rw [qO,hr1,List.drop_one]
 rw [hr1] at hb1;have hcd2:=fun h=>Cv (sub z 1 z.size) h;repeat' (first|refine xJ (id:=7) (ι:=Bool) (fun x=> [(4,.bool neg),(5,.int .i64 (n:Int)),(6,.string (sub b 0 n)),(7,.string z),(8,.string aB),(50,.bool x)]) (fun _=> []) (fun x=>fr=x) ?_ ?_|apply ag;exact rfl;exact rfl;intro w hm;exact hcd w|apply ag;exact rfl;exact rfl;intro w hm;exact hcd2 (by rw [cP _ (VA _)];omega) w|rw [hz]|refine sT ?_|refine sQ ?_|refine sT2 ?_|refine sQ2 ?_|refine sN ?_|refine sNQ ?_|refine sD ?_|refine sM fun _=>?_|refine sC ?_ ?_<;>intro hb<;>try omega|refine sCQ ?_ ?_<;>intro hb<;>try omega|exact cT|fail)
 ·(apply dH;rotate_left 1;exact sB;exact mS);rename_i h1;rw [e1,← hfr,decide_eq_true (by omega:1<rest.length),decide_eq_true (hb1.2 ⟨by omega,hb⟩)];simp only [Wp,decide_eq_decide];omega
 ·(apply dH;rotate_left 1;exact sB;exact mS);rw [← hfr,decide_eq_false (fun h=>hb (hb1.1 h).2)];simp
 ·(apply dH;rotate_left 1;exact sB;exact mS);rw [← hfr,decide_eq_false (by omega)]
  rfl
 rintro _ rfl;have hf1:fr=true→1≤z.size:=fun h=>by
  rw [← hfr] at h;simp at h;omega
 have hf2:fr=false→((z=aB)↔rest= []):=fun _=>by rw [← Pn,hr1]
 have hbl2:b.size≤1000000:=by omega
 refine uN (ι:=ByteArray × ByteArray) (fun x=> [(4,.bool neg),(5,.int .i64 (n:Int)),(6,.string (sub b 0 n)),(7,.string x.1),(8,.string x.2)]) (fun _=> []) (fun x=>ap x.2=(if fr then rest.tail else [])∧((x.1=aB)↔(fr=true∨rest= []))∧x.2.size≤a.size) ?_ ?_
 ·cases fr
  ·repeat' first|refine zZE ?_|refine sM fun _=>?_|refine sC ?_ ?_<;>intro hb<;>try omega|exact cT|fail
   refine dH ((z,aB)) ?_ sB mS;exact ⟨rfl,by rw [hf2 rfl];simp,Vt _⟩
  ·have h1:=hf1 rfl;repeat' (first|refine zZE ?_|refine sM fun _=>?_|refine sC ?_ ?_<;>intro hb<;>try omega|exact cT|fail)
   refine dH ((aB,sub z 1 z.size)) ?_ sB mS;exact ⟨by rw [e1];rfl,by simp [aB],by rw [cP _ (VA _)];omega⟩
 rintro ⟨z',pl⟩ ⟨h1,h2,h3⟩;dsimp only at*;generalize hp5:(if fr then rest.tail else [])++ [48,48,48,48,48]=p5;have hpl:ap (pl++⟨#[48,48,48,48,48]⟩)=p5:=by rw [jl,h1,← hp5];rfl
 have hpz:(pl++⟨#[48,48,48,48,48]⟩:ByteArray).size=pl.size+5:=by rw [XW];rfl
 generalize hqd:(pl++⟨#[48,48,48,48,48]⟩:ByteArray)=q at hpl hpz;have hres:jf (ap a)=if n=0∨(fr=false∧rest≠ []) then (0,4) else if dx<bP (ls.take n++p5.take 4) 0+(if 53≤p5.getD 4 0 then 1 else 0) then (0,3) else (if neg then -(bP (ls.take n++p5.take 4) 0+(if 53≤p5.getD 4 0 then 1 else 0)) else bP (ls.take n++p5.take 4) 0+(if 53≤p5.getD 4 0 then 1 else 0),0):=by
  unfold jf;rw [hneg];dsimp only;rw [hls,hn,hrest,hfr,hp5]
 rw [hres];by_cases herr:n=0∨(fr=false∧rest≠ [])
 ·rw [if_pos herr];repeat' (first|refine zZE ?_|refine sM fun _=>?_|refine sC ?_ ?_<;>intro hb<;>try omega|exact cT|fail)
  ·(refine rT2 ?_)
   rfl
  ·(refine rT2 ?_)
   rfl
  ·exfalso;have hz' :z' =aB:=Decidable.not_not.1 hb;have:=h2.1 hz';rcases herr with h|⟨h,h'⟩
   ·omega
   ·rcases this with h4|h4
    ·rw [h] at h4;cases h4
    ·exact h' h4
 ·rw [if_neg herr];generalize hL:ls.take n++p5.take 4=L;have hp5l:p5.length=pl.size+5:=by rw [← hpl,az,hpz]
  have hy:ap (sub b 0 n++sub q 0 4)=L:=by rw [jl,xg,xg,hbl,hpl,hL]
  have hyz:(sub b 0 n++sub q 0 4:ByteArray).size=n+4:=by rw [XW,cP _ (by omega),cP _ (by omega)];omega
  generalize hyd:(sub b 0 n++sub q 0 4:ByteArray)=y at hy hyz;have hyl:L.length=y.size:=by rw [← hy,az]
  have hdig: ∀ c∈L,48≤c∧c≤57:=by
   have hall: ∀ (l:List Int) (c:Int),c∈l.take (aK aL l)→48≤c∧c≤57:=fun l c hc=>by
    obtain ⟨j,hj,rfl⟩:=WJ hc;simp only [VQ] at hj;have h:=lT (p:=aL) l j (l[j]'(by omega)) (by omega) (Vo _);simp only [X9];simpa [aL] using h
   intro c hc;rw [← hL] at hc;rcases VH.1 hc with hc|hc
   ·rw [← hn] at hc;exact hall ls c hc
   ·have hc:=WV hc;rw [← hp5] at hc;rcases VH.1 hc with hc|hc
    ·cases hc1:fr
     ·rw [hc1] at hc;cases hc
     ·rw [hc1] at hc;simp only [if_true] at hc;have h7:aK aL rest.tail=rest.tail.length:=by
       rw [hc1] at hfr;simp only [VP,decide_eq_true_eq] at hfr;rw [YF];omega
      have:=hall rest.tail c (by rw [h7,V1];exact hc);exact this
    ·simp at hc;omega
  have hq4:bat q 4=p5.getD 4 0:=by rw [bat,hpl]
  have hm0:dx=9223372036854775807:=rfl;repeat' (first|apply ai (d:=60);exact rfl;apply lC;exact rfl;exact rfl;exact hqd;show pl.size+5≤_;omega|apply ai (d:=64);exact rfl;apply lC;exact rfl;exact rfl;exact hyd;rw [cP _ (by omega),cP _ (by omega)];omega|apply oG;exact rfl;exact rfl;intro gb cap|refine zZE ?_|refine sM fun _=>?_|refine sC ?_ ?_<;>intro hb<;>try omega|exact cT|fail)
  ·exfalso;refine herr (.inr ?_);have h4: ¬ (fr=true∨rest= []):=fun h=>hb (h2.2 h);cases hc:fr
   ·exact ⟨rfl,fun h=>h4 (.inr h)⟩
   ·exact absurd (.inl hc) h4
  have hup: ∀ i,i≤L.length→dx<bP (L.take i) 0→dx<bP L 0:=fun i hi h=>by
   have e:L=L.take i++L.drop i:=(Wh i L).symm;rw [e,tV];have h0:0≤bP (L.take i) 0:=nV _ (fun c hc=>(hdig c (WV hc)).1) (XS _);have:=nV (L.drop i) (v:=bP (L.take i) 0) (fun c hc=>(hdig c (XK hc)).1) h0;omega
  refine ay [4,8,65,66] rfl (fun x:Nat × Int × Bool=> [(9,.int .u64 x.2.1),(10,.bool x.2.2),(67,.int .i64 (x.1:Int))]) (fun _=> [.byt gb 5 y.size cap (qz y)]) (fun x=>x.1≤L.length∧0≤x.2.1∧x.2.1<18446744073709551616∧(x.2.2=false→x.2.1=bP (L.take x.1) 0∧x.2.1≤dx)∧(x.2.2=true→dx<bP (L.take x.1) 0)) (fun x=>L.length - x.1) (0,0,false) ⟨Vt _,XS _,by decide,fun _=>⟨rfl,by decide⟩,fun h=>by cases h⟩ sB mS ?_;rintro ⟨i,v,gr⟩ ⟨hi,hv0,hv1,hg0,hg1⟩;dsimp only at hi hv0 hv1 hg0 hg1 ⊢;by_cases hlt:i<L.length
  ·have hiy:i<y.size:=by omega
   have hge:L[i]? =some L[i]:=Vo hlt;have hci:=hdig L[i] (VL hlt);have hsn:bP (L.take (i+1)) 0=10*bP (L.take i) 0+(L[i] - 48):=by rw [Vu hlt,sv]
   generalize L[i]=c at hge hci hsn;have hget:(qz y)[0+i*1]? =some (.int .u8 c):=by rw [ri,hy,VG,show 0+i*1=i by omega,hge];rfl
   have hwc:IntKind.u8.wrap (c - 48)=c - 48:=gG (by omega) (by omega);have hwc2:IntKind.u64.wrap (c - 48)=c - 48:=by simp [IntKind.wrap,IntKind.bits,IntKind.signed];omega
   obtain ⟨v',hadd,hv2,hv3,hv4⟩: ∃ v',IntKind.u64.wrap (IntKind.u64.wrap (10*v)+(c - 48))=v' ∧0≤v' ∧v' <18446744073709551616∧(v≤922337203685477580→v' =10*v+(c - 48)):=by
    refine ⟨_,rfl,?_⟩;simp only [IntKind.wrap,IntKind.bits,IntKind.signed];simp;omega
   have hn0:0≤bP (L.take i) 0:=nV _ (fun c hc=>(hdig c (WV hc)).1) (XS _);cases gr
   ·obtain ⟨hg2,hg3⟩:=hg0 rfl;repeat' (first|apply ai;exact rfl;apply aa;exact rfl;exact rfl;exact hiy|apply ai;exact rfl;apply lR;exact rfl;exact .hd;exact hget|apply ai (d:=74);exact rfl;apply H4;exact rfl;exact rfl|apply ai (d:=76);exact rfl;apply fj;exact rfl;exact rfl;exact hwc|apply ai (d:=77);exact rfl;apply dD;exact rfl;exact hwc2|apply ai (d:=78);exact rfl;apply fH;exact rfl;exact rfl;exact hadd|refine zZH ?_|refine sM fun _=>?_|refine sC ?_ ?_<;>intro hb<;>try omega|exact cT|fail)
    ·refine ⟨(i+1,v',true),?_,(by first|omega|dsimp only;omega),sB,sB,mS⟩;exact ⟨hlt,hv2,hv3,(fun h=>by cases h),fun _=>by dsimp only;omega⟩
    ·have h5:=hv4 (by omega);refine ⟨(i+1,v',decide (dx<v')),⟨hlt,hv2,hv3,fun h=> ?_,fun h=> ?_⟩,(by dsimp only;omega),sB,sB,mS⟩
     ·have h6:=of_decide_eq_false h;exact ⟨by dsimp only;omega,by dsimp only;omega⟩
     ·have h6:=of_decide_eq_true h;dsimp only;omega
   ·have hg2:=hg1 rfl;repeat' (first|apply ai;exact rfl;apply aa;exact rfl;exact rfl;exact hiy|apply ai;exact rfl;apply lR;exact rfl;exact .hd;exact hget|apply ai (d:=74);exact rfl;apply H4;exact rfl;exact rfl|apply ai (d:=76);exact rfl;apply fj;exact rfl;exact rfl;exact hwc|apply ai (d:=77);exact rfl;apply dD;exact rfl;exact hwc2|apply ai (d:=78);exact rfl;apply fH;exact rfl;exact rfl;exact hadd|refine zZH ?_|refine sM fun _=>?_|refine sC ?_ ?_<;>intro hb<;>try omega|exact cT|fail)
    all_goals
     refine ⟨(i+1,v',true),?_,(by first|omega|dsimp only;omega),sB,sB,mS⟩;exact ⟨hlt,hv2,hv3,(fun h=>by cases h),fun _=>by dsimp only;omega⟩
  ·have e:i=L.length:=by omega
   subst e;rw [Wl (VA _)] at hg0 hg1;generalize bP L 0=N at hg0 hg1 hup ⊢;have hadd:v≤dx→IntKind.u64.wrap (v+1)=v+1:=fun h=>by simp [IntKind.wrap,IntKind.bits,IntKind.signed];omega
   by_cases h5:53≤p5.getD 4 0
   ·rw [if_pos h5];cases gr
    ·obtain ⟨hg2,hg3⟩:=hg0 rfl;subst hg2;by_cases h6:dx<v+1
     ·rw [if_pos h6];repeat' (first|apply ai (d:=89);exact rfl;apply fH;exact rfl;exact rfl;exact hadd hg3|refine zZE ?_|refine sM fun _=>?_|refine sC ?_ ?_<;>intro hb<;>try omega|exact cT|fail)
      all_goals first|omega|(refine rT2 ?_);rfl
     ·rw [if_neg h6];repeat' (first|apply ai (d:=89);exact rfl;apply fH;exact rfl;exact rfl;exact hadd hg3|apply ag;exact rfl;exact rfl;intro w' hm;exact (x9 (v+1) neg (by omega) (by omega) w')|refine zZE ?_|refine sM fun _=>?_|refine sC ?_ ?_<;>intro hb<;>try omega|exact cT|fail)
      all_goals first|omega|(refine rT2 ?_);rfl
    ·rw [if_pos (by have:=hg1 rfl;omega)];obtain ⟨u,hu⟩: ∃ u,IntKind.u64.wrap (v+1)=u:=⟨_,rfl⟩;repeat' (first|apply ai (d:=89);exact rfl;apply fH;exact rfl;exact rfl;exact hu|refine zZE ?_|refine sM fun _=>?_|refine sC ?_ ?_<;>intro hb<;>try omega|exact cT|fail)
     all_goals first|omega|(refine rT2 ?_);rfl
   ·rw [if_neg h5,Int.add_zero];cases gr
    ·obtain ⟨hg2,hg3⟩:=hg0 rfl;subst hg2;rw [if_neg (by omega)];repeat' (first|apply ag;exact rfl;exact rfl;intro w' hm;exact (x9 v neg (by omega) hg3 w')|refine zZE ?_|refine sM fun _=>?_|refine sC ?_ ?_<;>intro hb<;>try omega|exact cT|fail)
     all_goals first|omega|(refine rT2 ?_);rfl
    ·rw [if_pos (hg1 rfl)];repeat' (first|refine zZE ?_|refine sM fun _=>?_|refine sC ?_ ?_<;>intro hb<;>try omega|exact cT|fail)
     all_goals first|omega|(refine rT2 ?_);rfl
attribute [local irreducible] FnP RW WLI WR WT WX aV bi scp
def bJ (a:Rf):Value:= .agg (aw a).toArray
def gB (gg gm:Nat) (es:List (Rf × Value × Nat)) (clock:Nat):List Blk:= [.box gg 141 [.map (some gm)],.obj gm (cJ bJ es clock)]
def iI (es:List (Rf × Value × Nat)):List Rf:=sortRf (es.map fun e=>e.1)
theorem wg {L M:List Rf} (h:L.Perm M):sortRf L=sortRf M:=by
 have hp: ∀ L:List Rf,(sortRf L).Pairwise fun x y=>(!(bn y x))=true:=fun L=>
  YU (le:=fun x y=> !(bn y x)) (fun a b c h1 h2=>by simp [bn] at*;omega) (fun a b=>by simp [bn];omega) L
 refine List.Perm.eq_of_pairwise (fun a b _ _ h1 h2=> ?_) (hp L) (hp M) (((XQ L _).trans h).trans (XQ M _).symm);exact SP a b (by rw [jO];simpa using h2) (by rw [jO];simpa using h1)
theorem qB (gg gm clock:Nat) (es:List (Rf × Value × Nat)) (hok:MapOk es clock) (hlen:es.length≤1000000) (R:List Blk) (w0:World):
 FnIn Tryz.prog 22 [.pointer (some ⟨gg,0,none⟩)] w0 (gB gg gm es clock++R) fun v H=> ∃ A cap,v=sl A es.length cap∧H= .own A 35 2 es.length cap ((iI es).flatMap aw)::(gB gg gm es clock++R):=by
 refine bE Tryz.func22 rfl Tryz.ntmps22 rfl ?_;refine aI 35 2 ?_;repeat' (first|apply ai;exact rfl;apply eO;exact rfl|apply s9 (enc:=bJ);exact rfl;exact rfl;exact pK;intro gi|refine zZB ?_|refine sM fun _=>?_|refine sC ?_ ?_<;>intro hb<;>try omega|fail)
 refine ay [11] rfl (fun x:List (Rf × Value × Nat) × Option Nat × Nat=> [(3,sl x.2.1 x.1.length x.2.2)]) (fun x=> .obj gi (pF gm clock (x.1.map fun e=>e.2.2)):: .own x.2.1 35 2 x.1.length x.2.2 ((x.1.map fun e=>e.1).flatMap aw)::(gB gg gm es clock++R)) (fun x=>Vis es x.1) (fun x=>es.length - x.1.length) ([],none,0) (Vis.nil es) sB (.refl _) ?_;rintro ⟨vis,A,cap⟩ hv;dsimp only at hv ⊢;have hvl:=hv.len;have hml:(vis.map fun e=>e.1).length=vis.length:=VK _;have hS:=fun R' =>Df (vis.map fun e=>e.1) A cap (by omega) R' w0;rw [hml] at hS;repeat' (first|apply vW (enc:=bJ);exact rfl;exact rfl;exact pK;exact pK;exact hok;intro e he hne|intro hall|apply ai;exact rfl;apply Kd (enc:=bJ);exact rfl;exact pK;exact pK;exact he;exact hok|apply dB;(iterate 3 exact rfl);(repeat first|exact .hd|apply Sel.tl|apply In.tl);intro w hm;exact hm.cells_own (by (repeat first|exact .hd|apply Sel.tl|apply In.tl));exact rfl;simp [Value.oneCell',sl];omega;simp only [maxLen];omega;intro A2 cap2 hA2|apply ak (f:=70);exact rfl;exact rfl;exact FnIn.msub (hS _) (MSub.pick pK (MSub.refl _));rintro _ _ ⟨rfl,rfl⟩|refine zZB ?_|refine sM fun _=>?_|refine sC ?_ ?_<;>intro hb<;>try omega|fail)
 ·refine ⟨(vis++ [e],A2,cap2),hv.step he hne,?_,?_,sB,?_⟩
  ·have:=hv.lt he hne;simp only [Vn,Vs];omega
  ·simp only [Vn,Vs];exact sB
  ·simp only [Wj,VU,Wv,Vn,Vs,VF,VE,VZ,VB];exact mS
 ·have hperm:=hv.perm hok hall;have hl:vis.length=es.length:=hperm.length_eq;have hf:iI es=sortRf (vis.map fun e=>e.1):=wg (hperm.symm.map _);refine bp eIO rfl rfl (H' := .own A 35 2 es.length cap ((iI es).flatMap aw)::(gB gg gm es clock++R)) ?_ ⟨A,cap,by rw [hl],rfl⟩;rw [hf,← hl];exact mS
attribute [local irreducible] WC ceP
theorem lO {P:Program} {n:Fr} {w0:World} {Q:cd} {s:aC} {H:List Blk} {l:List Oper} {id:Nat} (es ps:List Nat) (hm:P.follows .mixedOrders=true) (hB:Region.lexB .any l.toArray=true) (hch:Eh l es ps=true)
 (h:WC P n w0 l H es ps Q l 0 s H):W P n w0 (.region id l.toArray true) Q s H:=fa es ps H hm hB hch (MSub.refl H) h
theorem Cr (L:List Us): ∀ u∈L.flatMap cw,u.oneCell' =true:=by
 intro u hu;obtain ⟨n,_,h⟩:=XB.1 hu;simp only [cw,VN,XJ,or_false] at h;rcases h with rfl|rfl|rfl|rfl|rfl|rfl<;>rfl
theorem Nn (L:List Us) (tv:Value) (w:World) (ht:Reads w tv L.length (L.flatMap cw)) (hlen:L.length≤1000000):
 FnAt Tryz.prog 118 [tv] w fun v H=> ∃ A cap,v=sl A L.length cap∧H= [.own A 128 6 L.length cap (L.flatMap cw)]:=by
 have ht' :=ht;obtain ⟨At,ct,rfl,ht1,ht2,ht3⟩:=ht;refine aA Tryz.func118 rfl Tryz.ntmps118 rfl ?_;have hl:(L.flatMap cw).length=L.length*6:=bh jx L;refine aI 128 6 ?_;repeat' (first|apply ai;exact rfl;apply xR;exact rfl|apply dN;exact rfl;intro gb|apply dA (n' :=0) (c:=0) (A:=some _) (m:=L.length);(iterate 3 exact rfl);exact pK;intro w hm;exact ht'.of_w0 hm;exact hl;exact Cr L;omega;simp only [maxLen];omega;intro A' cap' hA|refine sT ?_|refine sM fun _=>?_|refine sC ?_ ?_<;>intro hb<;>try omega|fail)
 ·have e:L.length=0:=by
   rcases Xc L.length with h|h
   ·exact h
   ·obtain ⟨g,o,rfl,_⟩:=ht3 h;cases hb
  have e' :L= []:=Wo e;subst e';exact bp (.inl rfl) Tryz.results118 rfl (.refl _) ⟨none,0,rfl,rfl⟩
 ·exact bp (.inl rfl) Tryz.results118 rfl (H' := [.own A' 128 6 (0+L.length) cap' ([]++L.flatMap cw)]) mS ⟨A',cap',by rw [VD],by rw [VD];rfl⟩
structure En where
 at_:Rf
 ta:Option Addr
 tc:Nat
 ua:Option Addr
 uc:Nat
 tree:List Nd
 uses:List Us
 born:Nat
def En.tv (e:En):Value:= .slice e.ta e.tree.length e.tc
def En.uv (e:En):Value:= .slice e.ua e.uses.length e.uc
def En.m (e:En):Rf × Value × Nat:=(e.at_,.agg #[e.tv,e.uv],e.born)
abbrev uK:Value:= .agg [Value.slice none 0 0,.slice none 0 0].toArray
def rdIn (R:List Blk) (v:Value) (m:Nat) (xs:List Value):Prop:= ∀ w0 w,Mem w0 w R→Reads w v m xs
theorem rdIn.sub {R R' :List Blk} {v:Value} {m:Nat} {xs:List Value} (h:rdIn R v m xs) (hs:MSub R R'):rdIn R' v m xs:=fun w0 w hm=>h w0 w (hs.use hm)
theorem rdIn.nil (R:List Blk):rdIn R (.slice none 0 0) 0 []:=fun _ _ _=>⟨none,0,rfl,VA _,Vt _,fun h=>by cases h⟩
theorem rdIn.own {R:List Blk} {A:Option Nat} {t sz m c:Nat} {xs:List Value} (hi:In (.own A t sz m c xs) R):rdIn R (sl A m c) m xs:=fun _ _ hm=>Reads.of_own hm hi
structure EnOk (R:List Blk) (e:En):Prop where
 tree:rdIn R e.tv e.tree.length (e.tree.flatMap bu)
 uses:rdIn R e.uv e.uses.length (e.uses.flatMap cw)
 tl:e.tree.length≤1000000
 ul:e.uses.length≤1000000
theorem EnOk.sub {R R' :List Blk} {e:En} (h:EnOk R e) (hs:MSub R R'):EnOk R' e:=⟨h.tree.sub hs,h.uses.sub hs,h.tl,h.ul⟩
def CM (a:Rf):En:=⟨a,none,0,none,0,[],[],0⟩
theorem K0 (R:List Blk) (a:Rf):EnOk R (CM a):=⟨rdIn.nil _,rdIn.nil _,by simp [CM],by simp [CM]⟩
def fD (E:List En) (a:Rf):Option En:=E.find? fun e=>decide (e.at_=a)
def bf (E:List En) (a:Rf):En:=(fD E a).getD (CM a)
theorem MO {E:List En} {a:Rf} {e:En} (h:fD E a=some e):e∈E:=X0 h
theorem qR {R:List Blk} {E:List En} (h: ∀ e∈E,EnOk R e) (a:Rf):EnOk R (bf E a):=by
 unfold bf
 cases hf:fD E a with
 |none=>exact K0 _ _
 |some e=>exact h e (MO hf)
theorem KE (E:List En) (a:Rf): ∀ i:Nat,(co a (E.map En.m) i).map (fun x=>x.2)=(fD E a).map fun e=>e.m.2.1:=by
 induction E with
 |nil=>intro i;rfl
 |cons e r ih=>
  intro i;simp only [VU,co,fD,List.find?_cons];by_cases h:a=e.at_
  ·simp [En.m,h]
  ·have h' : ¬ e.at_=a:=fun x=>h x.symm;simp only [En.m,h,if_false,h',decide_false];exact ih (i+1)
theorem Ji (E:List En) (a:Rf):(match co a (E.map En.m) 0 with|some (_,v)=>v|none=>uK)= .agg #[(bf E a).tv,(bf E a).uv]:=by
 have h:=KE E a 0;unfold bf
 cases hk:co a (E.map En.m) 0 with
 |none=>rw [hk] at h;cases hf:fD E a with
  |none=>rfl
  |some e=>rw [hf] at h;cases h
 |some x=>rw [hk] at h;cases hf:fD E a with
  |none=>rw [hf] at h;cases h
  |some e=>rw [hf] at h;exact Option.some.inj h
theorem Pb (E:List En) (a:Rf):(match co a (E.map En.m) 0 with|some (_,v)=>Value.tuple #[v,.bool true]|none=> .tuple #[uK,.bool false])= .tuple #[.agg #[(bf E a).tv,(bf E a).uv],.bool (fD E a).isSome]:=by
 have h:=KE E a 0;unfold bf
 cases hk:co a (E.map En.m) 0 with
 |none=>rw [hk] at h;cases hf:fD E a with
  |none=>rfl
  |some e=>rw [hf] at h;cases h
 |some x=>rw [hk] at h;cases hf:fD E a with
  |none=>rw [hf] at h;cases h
  |some e=>
   rw [hf] at h;have h1:x.2=e.m.2.1:=Option.some.inj h;simp only [Wq,Option.isSome_some,XU];rw [h1];rfl
instance klaw_key:KLaw Tryz.prog 35 bJ:=klaw_F
instance iN9:FldT Tryz.prog 197 1 120 1:=⟨_,_,Tryz.underlying197,rfl,rfl,rfl⟩
theorem Sz (gg gm clock:Nat) (E:List En) (a:Rf) (R:List Blk) (w0:World) (hE: ∀ e∈E,EnOk R e):
 FnIn Tryz.prog 59 [.pointer (some ⟨gg,0,none⟩),bJ a] w0 (gB gg gm (E.map En.m) clock++R) fun v H=> ∃ A cap,v=sl A (bf E a).uses.length cap∧H= .own A 128 6 (bf E a).uses.length cap ((bf E a).uses.flatMap cw)::(gB gg gm (E.map En.m) clock++R):=by
 refine bE Tryz.func59 rfl Tryz.ntmps59 rfl ?_;have hl:=Ji E a;have hok:=qR hE a;generalize bf E a=e at hl hok;have hcl:=fun (w' :World) (H' :List Blk) (hs:MSub R H') (hm:Mem w0 w' H')=>Nn e.uses e.uv w' (hok.uses _ w' (hs.use hm)) hok.ul;unfold gB;repeat' (first|apply ai;exact rfl;apply eO;exact rfl|apply lO (id:=3) [7] [];kernel_rfl;kernel_rfl;kernel_rfl|apply dC;(iterate 3 exact rfl);apply kv (enc:=bJ) (z:=uK);exact rfl;exact rfl;exact pK;exact hl|apply dC;(iterate 3 exact rfl);apply eu;exact rfl;exact rfl|apply aJ (f:=118);exact rfl;exact rfl;intro w' hm;exact hcl w' _ mS hm;rintro _ _ ⟨A,cap,rfl,rfl⟩|refine zZK ?_|refine sM fun _=>?_|refine sC ?_ ?_<;>intro hb<;>try omega|refine sCW ?_ ?_<;>intro hb<;>try omega|fail)
 all_goals exact bp eIO rfl rfl mS ⟨A,cap,rfl,rfl⟩
end Go.SL
namespace Go.SL
open Go Go.Proofs
attribute [local irreducible] W WL WQ WG WA VOp thn blk bg scp aS FnAt FnIn
theorem Hs (f:FuncId) [Callable Tryz.prog f] (caps:List Value) (g:Int→Int) (a:ByteArray) (ha:a.size≤1000000) (w:World) (hf: ∀ c w' H,0≤c→c<256→Mem w w' H→aF Tryz.prog f ([.int .u8 c]++caps) w' (.int .u8 (g c))):
 FnAt Tryz.prog 283 [.string a,.func (.func f) #[] caps.toArray] w fun v H=> ∃ gb cap,v= .slice (some ⟨gb,0,none⟩) a.size cap∧H= [.byt gb 5 a.size cap (((ap a).map g).map (Value.int .u8))]:=by
 refine aA Tryz.func283 rfl Tryz.ntmps283 rfl ?_;repeat' (first|apply oG;exact rfl;exact rfl;intro gb cap|refine sT ?_|refine sM fun _=>?_|refine sC ?_ ?_<;>intro hb<;>try omega|fail)
 refine fP (fun i:Nat=> [(5,.slice (some ⟨gb,0,none⟩) a.size cap),(10,.slice (some ⟨gb,0,none⟩) a.size cap),(11,.int .i64 (a.size:Int)),(12,.int .i64 (i:Int)),(1,.func (.func f) #[] caps.toArray)])
  (fun i=> [.byt gb 5 a.size cap ((((ap a).take i).map g++(ap a).drop i).map (Value.int .u8))]) (fun i=>i≤a.size) (fun i=>a.size - i) 0 (by omega) ?_ ?_ ?_
 ·exact sB
 ·rw [ri];simp only [WP,Wv,Vq,WH];exact mS
 ·intro i hi;have hl:=az a;by_cases hlt:i<a.size
  ·have hil:i<(ap a).length:=by omega
   have hok:=o9 a (ap a)[i] (VL hil);have hget:((((ap a).take i).map g++(ap a).drop i).map (Value.int .u8))[0+i*1]? =some (.int .u8 (ap a)[i]):=by
    rw [VG,show 0+i*1=i by omega,VW (by simp;omega)];simp [Xs (Nat.le_of_lt hil),Wz]
   repeat' first|apply ai;exact rfl;apply aa;exact rfl;exact rfl;exact hlt|apply ai;exact rfl;apply lR;exact rfl;exact .hd;exact hget|apply jJ;exact rfl;exact rfl;infer_instance;exact rfl;intro w' hm;exact hf _ w' _ hok.1 hok.2 hm|apply oH;exact rfl;exact rfl;exact .hd;exact rfl;simp;omega|apply ai;exact rfl;apply mC;exact rfl;exact rfl;constructor<;>omega|refine sT ?_|refine sM fun _=>?_|refine sC ?_ ?_<;>intro hb<;>try omega|fail
   refine ⟨i+1,by omega,by omega,?_,?_⟩
   ·exact sB
   ·rw [show 0+i*1=i by omega,xU g (Value.int .u8) (ap a) i hil];exact mS
  ·have e:i=a.size:=by omega
   subst e;repeat' (first|refine sT ?_|refine sM fun _=>?_|refine sC ?_ ?_<;>intro hb<;>try omega|fail)
   refine bp (.inl rfl) rfl rfl (.refl _) ⟨gb,cap,rfl,?_⟩;rw [Wl (by omega),VY (by omega),VB]
theorem Mw (c:Int) (h0:0≤c) (h1:c<256) (ga gb:Nat) (w:World) (ha:Ro w ga 0 [.int .u8 97]) (hb' :Ro w gb 0 [.int .i64 (-32)]):aF Tryz.prog 373 [.int .u8 c,.pointer (some ⟨ga,0,none⟩),.pointer (some ⟨gb,0,none⟩)] w (.int .u8 (upC c)):=by
 refine aA Tryz.func373 rfl Tryz.ntmps373 rfl ?_;have hwc:IntKind.i64.wrap c=c:=I64.wrap ⟨by omega,by omega⟩;have h122:IntKind.u8.wrap (97+25)=122:=by decide
 repeat' first|apply ai;exact rfl;apply aR (off:=0);exact ha;exact rfl;exact rfl|apply ai;exact rfl;apply aR (off:=0);exact hb';exact rfl;exact rfl|apply ai;exact rfl;apply fH;exact rfl;exact rfl;exact h122|apply ai (d:=15);exact rfl;apply dD;exact rfl;exact hwc|apply ai (d:=17);exact rfl;apply mC;exact rfl;exact rfl;exact ⟨by omega,by omega⟩|apply ai (d:=18);exact rfl;apply dD (c:=c - 32);exact rfl;rw [show c+ -32=c - 32 by omega];exact gG (by omega) (by omega)|refine sT ?_|refine sM fun _=>?_|refine sC ?_ ?_<;>intro hb<;>try omega|fail
 all_goals ((refine rT1 ?_);unfold upC;first|rw [if_pos (by omega)]|rw [if_neg (by omega)])
def upB (a:ByteArray):ByteArray:=mkB ((ap a).map upC)
theorem ud (a:ByteArray):ap (upB a)=(ap a).map upC:=by
 refine qj ?_;intro c hc;obtain ⟨d,hd,rfl⟩:=VM.1 hc;have:=o9 a d hd;unfold upC;split<;>omega
theorem O0 (a:ByteArray) (ha:a.size≤1000000) (w:World):aF Tryz.prog 337 [.string a,.int .u8 97,.int .i64 (-32)] w (.string (upB a)):=by
 refine aA Tryz.func337 rfl Tryz.ntmps337 rfl ?_;repeat' (first|(with_reducible apply aJ (R:=fun v H=> ∃ gb cap,v= .slice (some ⟨gb,0,none⟩) a.size cap∧H= [.byt gb 5 a.size cap (((ap a).map upC).map (Value.int .u8))]));exact rfl;exact rfl;intro w' hm;exact Hs 373 [_,_] upC a ha w' (fun c w2 H2 h0 h1 hm2=>Mw c h0 h1 _ _ w2 ((Ro.of_box hm pK).next hm2) ((Ro.of_box hm pK).next hm2));rintro v H' ⟨gb,cap,rfl,rfl⟩|apply ai;exact rfl;apply uQ;exact rfl;exact .hd;simp [az]|refine sT ?_|refine sM fun _=>?_|refine sC ?_ ?_<;>intro hb<;>try omega|fail)
 (refine rT1 ?_)
 rfl
theorem uH (a:ByteArray) (ha:a.size≤1000000) (w:World):aF Tryz.prog 292 [.string a] w (.string (upB a)):=by
 refine aA Tryz.func292 rfl Tryz.ntmps292 rfl ?_;repeat' (first|apply ag;exact rfl;exact rfl;intro w hm;exact O0 a ha w|refine sT ?_|refine sM fun _=>?_|refine sC ?_ ?_<;>intro hb<;>try omega|fail)
 (refine rT1 ?_)
 rfl
def m9:List Int→Option (List Int)
 | []=>some []
 |c::r=>if c≠34 then (m9 r).map (c:: ·) else match r with
  | []=>none
  |d::r' =>if d=34 then (m9 r').map (34:: ·) else none
def iL (l:List Int):List Int × Int:=
 if l.length<2∨l.head? ≠some 34∨l.getLast? ≠some 34∨l.all (fun c=>bR c)=false then ([],4)
 else match m9 ((l.drop 1).dropLast) with
  |none=>([],4)
  |some r=>if 256<r.length then ([],5) else (r,0)
theorem p8 (a:ByteArray):p9 a=(ap a).all fun c=>bR c:=by
 simp only [p9,ap,List.all_map];congr 1;funext c;simp only [Function.comp,bR];rw [V3];simp;omega
theorem Pe (a:ByteArray) (c:Int) (h:0<a.size):((ap a).getLast? =some c)↔bat a (a.size - 1)=c:=by
 rw [XG,az,iZ (by omega)];simp
theorem E3 {a:ByteArray} {i:Nat} (h0:1≤i) (h:i<a.size - 1):(((ap a).drop 1).dropLast).drop (i - 1)=bat a i::(((ap a).drop 1).dropLast).drop i:=by
 have hl:=az a;obtain ⟨j,rfl⟩: ∃ j,i=j+1:=⟨i - 1,by omega⟩;rw [X5];have hlen:(((ap a).drop 1).dropLast).length=a.size - 2:=by simp;omega
 have hlt:j<(((ap a).drop 1).dropLast).length:=by omega
 rw [Vy hlt];congr 1;have h1:=iZ (a:=a) (i:=j+1) (by omega);have h2:(((ap a).drop 1).dropLast)[j]? =some (bat a (j+1)):=by
  rw [List.getElem?_dropLast,if_pos (by simp;omega),Wz,Xx 1 j,h1]
 rw [Vo hlt] at h2;exact Option.some.inj h2
theorem uU {c:Int} {r:List Int} (h:c≠34):m9 (c::r)=(m9 r).map (c:: ·):=by
 rw [m9.eq_def];simp [h]
theorem JR (a:ByteArray) (ha:a.size≤1000000) (w:World):aF Tryz.prog 340 [.string a] w (.tuple #[.string (mkB (iL (ap a)).1),.int .i64 (iL (ap a)).2]):=by
 refine aA Tryz.func340 rfl Tryz.ntmps340 rfl ?_;have hl:=az a;have hp:=tN a ha;rw [p8] at hp;have hh:=ui a 34;have hg:=Pe a 34;by_cases hbad:(ap a).length<2∨(ap a).head? ≠some 34∨(ap a).getLast? ≠some 34∨(ap a).all (fun c=>bR c)=false
 ·rw [iL,if_pos hbad];repeat' (first|apply ag;exact rfl;exact rfl;intro w hm;exact hp w|refine zZC ?_|refine sM fun _=>?_|refine sC ?_ ?_<;>intro hb<;>try omega|fail)
  iterate 4 (focus ((refine rT2 ?_);rfl))
  exfalso;rename_i h1 h2 h3;rcases hbad with h|h|h|h
  ·omega
  ·exact h (hh.2 ⟨by omega,Decidable.not_not.1 h2⟩)
  ·exact h ((hg (by omega)).2 (Decidable.not_not.1 h3))
  ·rw [hb] at h;cases h
 ·have hun:iL (ap a)=match m9 (((ap a).drop 1).dropLast) with
   |none=>([],4)
   |some r=>if 256<r.length then ([],5) else (r,0):=by rw [iL,if_neg hbad]
  rw [hun];simp only [not_or,Decidable.not_not,Bool.not_eq_false] at hbad;obtain ⟨b1,b2,b3,b4⟩:=hbad;have b5:=(hh.1 b2).2;have b6:=(hg (by omega)).1 b3;rw [b4] at hp;have hn:(a.size:Int) - 1=((a.size - 1:Nat):Int):=by omega
  generalize hB:((ap a).drop 1).dropLast=B;have hBl:B.length=a.size - 2:=by rw [← hB];simp;omega
  repeat' first|apply ag;exact rfl;exact rfl;intro w hm;exact hp w|refine zZC ?_|refine sM fun _=>?_|refine sC ?_ ?_<;>intro hb<;>try omega|fail
  all_goals try omega
  refine aI 5 1 ?_;refine ay [0,4] rfl (fun x:Nat × List Int × Option Nat × Nat=> [(5,sl x.2.2.1 x.2.1.length x.2.2.2),(6,.int .i64 (x.1:Int))]) (fun x=> [.own x.2.2.1 5 1 x.2.1.length x.2.2.2 (x.2.1.map (Value.int .u8))]) (fun x=>1≤x.1∧x.1≤a.size - 1∧x.2.1.length≤x.1∧m9 B=(m9 (B.drop (x.1 - 1))).map (x.2.1++ ·)) (fun x=>a.size - x.1) (1,[],none,0) ⟨by omega,by omega,by simp,by simp⟩ sB mS ?_;rintro ⟨i,out,A,cap⟩ ⟨i1,i2,i3,i4⟩;dsimp only at i1 i2 i3 i4 ⊢;by_cases hend:i=a.size - 1
  ·have hBd:B.drop (i - 1)= []:=VY (by omega);rw [hBd] at i4;simp only [m9,Wq,VB] at i4;rw [i4];dsimp only;by_cases hlen:256<out.length
   ·rw [if_pos hlen];repeat' (first|refine zZC ?_|refine sM fun _=>?_|refine sC ?_ ?_<;>intro hb<;>try omega|fail)
    all_goals first|omega|(refine rT2 ?_);rfl
   ·rw [if_neg hlen];repeat' (first|apply ai;exact rfl;apply HZ;exact rfl;exact pK;exact rfl|refine zZC ?_|refine sM fun _=>?_|refine sC ?_ ?_<;>intro hb<;>try omega|fail)
    all_goals first|omega|(refine rT2 ?_);rfl
  ·have hdr:=E3 (a:=a) i1 (by omega);rw [hB] at hdr;rw [hdr] at i4;by_cases hq:bat a i=34
   ·rw [hq] at i4;by_cases h1:i+1=a.size - 1
    ·have hBd:B.drop i= []:=VY (by omega);rw [hBd] at i4;simp only [m9,ne_eq,not_true_eq_false,if_false,YX] at i4;rw [i4];repeat' (first|refine zZC ?_|refine sM fun _=>?_|refine sC ?_ ?_<;>intro hb<;>try omega|fail)
     all_goals first|omega|(refine rT2 ?_);rfl
    ·have hdr2:=E3 (a:=a) (i:=i+1) (by omega) (by omega);rw [hB,X5] at hdr2;rw [hdr2] at i4;by_cases h2:bat a (i+1)=34
     ·simp only [m9,ne_eq,not_true_eq_false,if_false,h2,if_true,Yi] at i4;repeat' (first|apply aG;(iterate 3 exact rfl);exact pK;exact pK;exact rfl;simp [Value.oneCell'];omega;simp only [maxLen];omega;intro g8 c8|apply ai (d:=63);exact rfl;apply gQ (b:=2);exact rfl;exact rfl;simp only [maxLen];omega|refine zZC ?_|refine sM fun _=>?_|refine sC ?_ ?_<;>intro hb<;>try omega|fail)
      all_goals try omega
      refine ⟨(i+2,out++ [34],some g8,c8),⟨by dsimp only;omega,by dsimp only;omega,by simp;omega,?_⟩,(by dsimp only;omega),?_,sB,?_⟩
      ·dsimp only;rw [i4,show i+2 - 1=i+1 by omega];congr 1;funext l;simp
      ·simp only [Vn,Vs];exact sB
      ·simp only [Vn,Vs,Wj,VU,Wv];exact mS
     ·simp only [m9,ne_eq,not_true_eq_false,if_false,h2,YX] at i4;rw [i4];repeat' (first|refine zZC ?_|refine sM fun _=>?_|refine sC ?_ ?_<;>intro hb<;>try omega|fail)
      all_goals first|omega|(refine rT2 ?_);rfl
   ·rw [uU hq,Yi] at i4;repeat' (first|apply aG;(iterate 3 exact rfl);exact pK;exact pK;exact rfl;simp [Value.oneCell'];omega;simp only [maxLen];omega;intro g8 c8|refine zZC ?_|refine sM fun _=>?_|refine sC ?_ ?_<;>intro hb<;>try omega|fail)
    all_goals try omega
    refine ⟨(i+1,out++ [bat a i],some g8,c8),⟨by dsimp only;omega,by dsimp only;omega,by simp;omega,?_⟩,(by dsimp only;omega),?_,sB,?_⟩
    ·dsimp only;rw [i4,show i+1 - 1=i by omega];congr 1;funext l;simp
    ·simp only [Vn,Vs];exact sB
    ·simp only [Vn,Vs,Wj,VU,Wv];exact mS
attribute [local irreducible] FnP RW WC WLI WR WT WX aV bi ceP
theorem PL (u:Us) (b:Rf) (g:Nat) (w:World) (hr:Ro w g 0 (aw b)):aF Tryz.prog 117 [.agg (cw u).toArray,.pointer (some ⟨g,0,none⟩)] w (.bool (kE u.rect b)):=by
 refine aA Tryz.func117 rfl Tryz.ntmps117 rfl ?_;have hh:=fun w=>JV u.rect b w;repeat' (first|apply ai;exact rfl;apply bC (o:=0);exact rfl;exact hr;exact rfl|apply ag;exact rfl;exact rfl;intro w hm;exact hh w|refine sT ?_|refine sM fun _=>?_|refine sC ?_ ?_<;>intro hb<;>try omega|fail)
 all_goals exact bp eIO rfl rfl (.nil _) rfl
def Jo (q:Us→Bool) (L:List Us):Int:=match L.findIdx? q with|some i=>(i:Int)|none=> -1
theorem Nl (f:FuncId) [Callable Tryz.prog f] (caps:List Value) (q:Us→Bool) (L:List Us) (hlen:L.length≤1000000) (tv:Value) (w:World) (ht:Reads w tv L.length (L.flatMap cw))
 (hf: ∀ u w' H,Mem w w' H→aF Tryz.prog f ([.agg (cw u).toArray]++caps) w' (.bool (q u))):
 aF Tryz.prog 182 [tv,.func (.func f) #[] caps.toArray] w (.int .i64 (Jo q L)):=by
 obtain ⟨Al,cl,rfl,hl1,hl2,hl3⟩:=ht;refine aA Tryz.func182 rfl Tryz.ntmps182 rfl ?_;repeat' (first|refine sT ?_|refine sM fun _=>?_|refine sC ?_ ?_<;>intro hb<;>try omega|fail)
 refine fP (fun i:Nat=> [(0,.slice Al L.length cl),(1,.func (.func f) #[] caps.toArray),(7,.int .i64 (L.length:Int)),(8,.int .i64 (i:Int))]) (fun _=> []) (fun i=>i≤L.length∧ ∀ j (h:j<L.length),j<i→q L[j]=false) (fun i=>L.length - i) 0 ⟨by omega,fun j _ h=>by omega⟩ sB (.refl _) ?_;rintro i ⟨hi,hno⟩;by_cases hlt:i<L.length
 ·obtain ⟨gl,ol,rfl,hrl⟩:=hl3 (by omega);have he:=hrl.elem jx i hlt;have hq:=fun w' H=>hf L[i] w' H;have hnext:q L[i]=false→ ∀ j (h:j<L.length),j<i+1→q L[j]=false:=fun h0 j h hj=>by
   by_cases e:j=i
   ·subst e;exact h0
   ·exact hno j h (by omega)
  have hres:q L[i]=true→Jo q L=(i:Int):=fun h0=>by
   unfold Jo;rw [V4.2 ⟨hlt,h0,fun j hj=>by rw [hno j (by omega) hj];simp⟩]
  generalize L[i]=u at he hq hnext hres;generalize q u=b at hq hnext hres;repeat' (first|apply jJ;exact rfl;exact rfl;infer_instance;exact rfl;intro w' hm;exact hq w' _ hm|refine zZJ ?_|refine sM fun _=>?_|refine sC ?_ ?_<;>intro hb<;>try omega|fail)
  all_goals first
   |refine bp eIO rfl rfl (.nil _) ?_;rw [hres (by assumption)];done
   |refine ⟨i+1,⟨hlt,hnext (by assumption)⟩,by omega,?_,.nil _⟩;exact sB;done
 ·have e:i=L.length:=by omega
  subst e;have hres:Jo q L= -1:=by
   unfold Jo
   rw [Wm.2 fun x hx=>by
    obtain ⟨j,hj,rfl⟩:=WJ hx;exact hno j hj hj]
  repeat' first|refine sT ?_|refine sM fun _=>?_|refine sC ?_ ?_<;>intro hb<;>try omega|fail
  all_goals (refine bp eIO rfl rfl (.nil _) ?_;rw [hres])
theorem EB (f:FuncId) [Callable Tryz.prog f] (caps:List Value) (q:Us→Bool) (L:List Us) (hlen:L.length≤1000000) (tv:Value) (w:World) (ht:Reads w tv L.length (L.flatMap cw))
 (hf: ∀ u w' H,Mem w w' H→aF Tryz.prog f ([.agg (cw u).toArray]++caps) w' (.bool (q u))):
 aF Tryz.prog 116 [tv,.func (.func f) #[] caps.toArray] w (.bool (L.any q)):=by
 refine aA Tryz.func116 rfl Tryz.ntmps116 rfl ?_;have hI:=fun (w' :World) (H:List Blk) (hm:Mem w w' H)=>Nl f caps q L hlen tv w' (ht.of_w0 hm) (fun u w2 H2 hm2=>hf u w2 _ (hm.call hm2));have hres:decide (0≤Jo q L)=L.any q:=by
  unfold Jo
  cases h:L.findIdx? q with
  |none=>
   rw [Wm] at h;have:L.any q=false:=by rw [List.any_eq_false];exact fun x hx=>by rw [h x hx];simp
   rw [this];rfl
  |some i=>
   obtain ⟨h1,h2,_⟩:=V4.1 h;have:L.any q=true:=Xg.2 ⟨_,VL h1,h2⟩;rw [this];simp
 repeat' first|apply ag (f:=182);exact rfl;exact rfl;intro w' hm;exact hI w' _ hm|refine sT ?_|refine sM fun _=>?_|refine sC ?_ ?_<;>intro hb<;>try omega|fail
 all_goals (refine bp eIO rfl rfl (.nil _) ?_;rw [hres])
end Go.SL
namespace Go.SL
open Go Go.Proofs
attribute [local irreducible] W WL WQ WG WA VOp thn blk bg scp aS FnAt FnIn
def dq:List ByteArray:= [⟨#[]⟩,⟨#[35,68,73,86,47,48,33]⟩,⟨#[35,86,65,76,85,69,33]⟩,⟨#[35,78,85,77,33]⟩,⟨#[35,78,47,65]⟩,⟨#[35,82,69,70,33]⟩,⟨#[35,67,89,67,76,69,33]⟩,⟨#[35,68,69,78,73,69,68]⟩]
def Words (w:World):Prop:=Ro w 0 0 (dq.map Value.string)
theorem Words.next {w0 w:World} {H:List Blk} (h:Words w0) (hm:Mem w0 w H):Words w:=Ro.next h hm
def iV (c:Int):Vl:=⟨4,if c<1∨7<c then 2 else c,aB⟩
def yY (n:Int):Vl:=if n= -9223372036854775808 then iV 3 else ⟨1,n,aB⟩
def oM (b:Bool):Vl:=⟨2,if b then 1 else 0,aB⟩
def pQ:ByteArray:=⟨#[84,82,85,69]⟩
def ny:ByteArray:=⟨#[70,65,76,83,69]⟩
def DA (a:ByteArray):Vl:=if upB a=pQ then oM true else if upB a=ny then oM false else iV 2
theorem pz (c:Int) (w:World):aF Tryz.prog 221 [.int .i64 c] w (.agg (eZ (iV c)).toArray):=by
 refine aA Tryz.func221 rfl Tryz.ntmps221 rfl ?_;repeat' (first|refine sT ?_|refine sM fun _=>?_|refine sC ?_ ?_<;>intro hb<;>try omega|exact cT|fail)
 all_goals ((refine eRC ?_);simp only [iV];(first|rw [if_pos (by omega)]|rw [if_neg (by omega)]);rfl)
theorem SH (n:Int) (w:World):aF Tryz.prog 224 [.int .i64 n] w (.agg (eZ (yY n)).toArray):=by
 refine aA Tryz.func224 rfl Tryz.ntmps224 rfl ?_;repeat' (first|apply ag;exact rfl;exact rfl;intro w hm;exact pz 3 w|refine sT ?_|refine sM fun _=>?_|refine sC ?_ ?_<;>intro hb<;>try omega|exact cT|fail)
 all_goals ((refine eRC ?_);simp_all [yY,eZ,iV,aB])
theorem Qd (b:Bool) (w:World):aF Tryz.prog 336 [.bool b] w (.agg (eZ (oM b)).toArray):=by
 refine aA Tryz.func336 rfl Tryz.ntmps336 rfl ?_;repeat' (first|refine sT ?_|refine sM fun _=>?_|refine sC ?_ ?_<;>intro hb<;>try omega|exact cT|fail)
 all_goals ((refine eRC ?_);simp_all [oM,eZ,aB])
theorem OZ (v:Vl) (ha:v.text.size≤1000000) (w:World):aF Tryz.prog 291 [.agg (eZ v).toArray] w (.agg (eZ (DA v.text)).toArray):=by
 refine aA Tryz.func291 rfl Tryz.ntmps291 rfl ?_;repeat' (first|apply ag;exact rfl;exact rfl;intro w hm;exact uH v.text ha w|apply ag;exact rfl;exact rfl;intro w hm;exact Qd _ w|apply ag;exact rfl;exact rfl;intro w hm;exact pz 2 w|refine sT ?_|refine sM fun _=>?_|refine sC ?_ ?_<;>intro hb<;>try omega|exact cT|fail)
 all_goals ((refine eRC ?_);simp_all [DA,pQ,ny];rfl)
theorem SC (c:Int) (h1:1≤c) (h2:c≤5) (w:World) (hw:Words w):aF Tryz.prog 346 [.agg (eZ ⟨4,c,aB⟩).toArray] w (.string (dq.getD c.toNat aB)):=by
 refine aA Tryz.func346 rfl Tryz.ntmps346 rfl ?_;have he:eqV ⟨4,c,aB⟩ (iV 7)=false:=by simp [eqV,iV];omega
 have hv:rT ⟨4,c,aB⟩=0:=by
  have h6:decide (c≤6)=true:=decide_eq_true (by omega);simp [rT,xL,h1,h6]
 have hc:=HS ⟨4,c,aB⟩;rw [hv] at hc;obtain ⟨k,rfl⟩: ∃ k:Nat,c=(k:Int):=⟨c.toNat,by omega⟩;have hcell:(dq.map Value.string)[k*1]? =some (.string (dq.getD k aB)):=by
  rcases (by omega:k=1∨k=2∨k=3∨k=4∨k=5) with rfl|rfl|rfl|rfl|rfl<;>rfl
 repeat' first|apply dw;exact rfl;exact rfl;intro w hm;exact pz 7 w|apply dw;exact rfl;exact rfl;intro w hm;exact hc w|apply aY;exact rfl;exact he ▸ H8 (b:=iV 7) rfl rfl|apply ai;exact rfl;apply xP (j:=k);exact rfl;exact rfl;omega|apply ai;exact rfl;apply aR (o:=0);exact hw;exact rfl;exact hcell|refine sT ?_|refine sQ ?_|refine sD ?_|refine sM fun _=>?_|refine sC ?_ ?_<;>intro hb<;>try omega|refine sCQ ?_ ?_<;>intro hb<;>try omega|exact cT|fail
 (refine rT1 ?_)
 rfl
instance iN6:KLaw Tryz.prog 5 (fun z:Int=>Value.int .u8 z):=GH
theorem CU {P:Program} {n:Fr} {w0:World} {Q:cd} {s:aC} {H:List Blk} {rest:List Oper} {ty:TypeId} {p:String} {af:Array Edge} {κ:Type} [DecidableEq κ] {enc:κ→Value} {t K E g clock:Nat} {m x kx:Operand} {k:κ} {v:Value} {es:List (κ × Value × Nat)} {es' :List (κ × Value × Nat)} {c' :Nat} {R:List Blk} {ops:Array Oper} [ht:Und P t (.map K E)] [hk:KLaw P K enc] (hm:ev s m=some (.map (some g))) (hkx:ev s kx=some (enc k)) (hx:ev s x=some v) (hsel:Sel (.obj g (cJ enc es clock)) H R)
 (he:lr k v clock es=(es',c')) (h:WL P n w0 ops rest Q s (.obj g (cJ enc es' c')::R)):WL P n w0 ops (⟨none,.insert t m kx x,ty,p,af,none⟩::rest) Q s H:=by
 refine K8 hm hkx hx hsel ?_;rw [he];exact h
theorem Pf {κ:Type} [DecidableEq κ] {k:κ} {v:Value} {clock:Nat} {es:List (κ × Value × Nat)} (h:co k es 0=none):lr k v clock es=(es++ [(k,v,clock)],clock+1):=by
 simp [lr,h]
def KV (v:Vl):List (Int × Value × Nat):=
 [(0,.func (.func 289) #[.agg (eZ v).toArray] #[],0),(1,.func (.func 289) #[.agg (eZ v).toArray] #[],1),(2,.func (.func 290) #[.agg (eZ v).toArray] #[],2),(3,.func (.func 291) #[.agg (eZ v).toArray] #[],3),(4,.func (.func 290) #[.agg (eZ v).toArray] #[],4)]
theorem Ik (v:Vl) (w:World):FnAt Tryz.prog 288 [.agg (eZ v).toArray] w fun u H=> ∃ g,u= .map (some g)∧H= [.obj g (cJ (fun z:Int=>Value.int .u8 z) (KV v) 5)]:=by
 refine aA Tryz.func288 rfl Tryz.ntmps288 rfl ?_;repeat' (first|apply lM (enc:=fun z:Int=>Value.int .u8 z);exact rfl;intro g|apply ai;exact rfl;apply oK;exact rfl|apply CU (enc:=fun z:Int=>Value.int .u8 z);(iterate 3 exact rfl);exact pK;exact Pf rfl|refine sT ?_|refine sM fun _=>?_|refine sC ?_ ?_<;>intro hb<;>try omega|exact cT|fail)
 exact bp (H' := [.obj g (cJ (fun z:Int=>Value.int .u8 z) (KV v) 5)]) (.inl rfl) rfl rfl (.pick .hd (.nil _)) ⟨g,rfl,rfl⟩
def jW (v:Vl):Vl:=if rT v=0 then DA v.text else iV 2
theorem Hk (v:Vl) (hk:v.kind=3) (ha:v.text.size≤1000000) (w:World):aF Tryz.prog 287 [.agg (eZ v).toArray,.func (.func 288) #[] #[]] w (.agg (eZ (jW v)).toArray):=by
 refine aA Tryz.func287 rfl Tryz.ntmps287 rfl ?_;obtain ⟨k,num,text⟩:=v;dsimp only at hk ha;subst hk;have hv:=HS ⟨3,num,text⟩;have hn:=OZ ⟨3,num,text⟩ ha;repeat' (first|refine sT ?_|refine sM fun _=>?_|refine sC ?_ ?_<;>intro hb<;>try omega|exact cT|fail)
 rename_i g2 g4;refine xJ (id:=1) (ι:=Unit) (fun _=> [(5,.func (.func 291) #[.agg (eZ ⟨3,num,text⟩).toArray] #[]),(6,.bool true),(2,.pointer (some ⟨g2,0,none⟩)),(4,.pointer (some ⟨g4,0,none⟩))]) (fun _=> [.box g2 130 (eZ ⟨3,num,text⟩),.box g4 130 (eZ bX)]) (fun _=>True) ?_ ?_
 ·refine kX 11 rfl (by kernel_rfl) ?_;((with_reducible apply aX (i:=0));exact rfl;exact rfl;(iterate 3 decide+kernel);exact nP;intro _ _;exact vP);((with_reducible apply aX (i:=3));exact rfl;exact rfl;(iterate 3 decide+kernel);exact nP;intro _ _;exact vP);repeat' (first|apply dO (i:=1) (j:=4);exact rfl;exact rfl;decide+kernel|apply dO (i:=2) (j:=4);exact rfl;exact rfl;decide+kernel|apply aM (i:=1);exact rfl;decide+kernel|apply aM (i:=2);exact rfl;decide+kernel|apply aM (i:=4);exact rfl;decide+kernel|apply aM (i:=5);exact rfl;decide+kernel|apply aX (i:=6);exact rfl;exact rfl;(iterate 3 decide+kernel);exact nP;intro _ _;exact vP|apply aX (i:=7);exact rfl;exact rfl;(iterate 3 decide+kernel);exact nP;intro _ _;exact vP|apply aX (i:=8);exact rfl;exact rfl;(iterate 3 decide+kernel);exact nP;intro _ _;exact vP|apply aX (i:=9);exact rfl;exact rfl;(iterate 3 decide+kernel);exact nP;intro _ _;exact vP|apply aX (i:=10);exact rfl;exact rfl;(iterate 3 decide+kernel);exact nP;intro _ _;exact vP|apply kV;decide+kernel|apply kq;exact rfl;exact rfl;infer_instance;exact rfl;exact FnIn.of_at (fun w' _=>Ik ⟨3,num,text⟩ w');rintro _ _ ⟨H1,⟨g5,rfl,rfl⟩,rfl⟩|apply ai;exact rfl;apply jc (enc:=fun z:Int=>Value.int .u8 z);exact rfl;exact rfl;exact pK;exact rfl|refine sT ?_|refine sM fun _=>?_|refine sC ?_ ?_<;>intro hb<;>try omega|exact cT|fail)
  all_goals ((apply dH;rotate_left 1;exact sB;exact mS);trivial)
 ·rintro _ -;simp only [jW];generalize rT ⟨3,num,text⟩=e at hv;repeat' (first|apply ag;exact rfl;exact rfl;intro w hm;exact hv w|apply ag;exact rfl;exact rfl;intro w hm;exact pz 2 w|apply uM;exact rfl;exact rfl;infer_instance;exact rfl;intro w' _;exact hn w'|refine sT ?_|refine sM fun _=>?_|refine sC ?_ ?_<;>intro hb<;>try omega|exact cT|fail)
  all_goals
   (refine eRC ?_);simp_all
   rfl
theorem Nj (v:Vl) (hk:v.kind=3) (ha:v.text.size≤1000000) (w:World):aF Tryz.prog 218 [.agg (eZ v).toArray] w (.agg (eZ (jW v)).toArray):=by
 refine aA Tryz.func218 rfl Tryz.ntmps218 rfl ?_;repeat' (first|apply ag;exact rfl;exact rfl;intro w hm;exact Hk v hk ha w|refine sT ?_|refine sM fun _=>?_|refine sC ?_ ?_<;>intro hb<;>try omega|exact cT|fail)
 (refine eRC ?_)
 rfl
def kG (u:ByteArray):List ByteArray→Int→Int × Int
 | [],_=>(0,4)
 |x::r,i=>if x=u then (i,0) else kG u r (i+1)
def jI (a:ByteArray):Int × Int:=kG (upB a) (dq.drop 1) 1
theorem HN {i:Nat} (h:i<8):(dq.map Value.string)[i]? =some (.string (dq.getD i aB)):=by
 rcases (by omega:i=0∨i=1∨i=2∨i=3∨i=4∨i=5∨i=6∨i=7) with rfl|rfl|rfl|rfl|rfl|rfl|rfl|rfl<;>rfl
theorem vV {i:Nat} (h:i<8):dq.drop i=dq.getD i aB::dq.drop (i+1):=by
 rcases (by omega:i=0∨i=1∨i=2∨i=3∨i=4∨i=5∨i=6∨i=7) with rfl|rfl|rfl|rfl|rfl|rfl|rfl|rfl<;>rfl
theorem SJ (a:ByteArray) (ha:a.size≤1000000) (w:World) (hw:Words w):aF Tryz.prog 220 [.string a] w (.tuple #[.int .i64 (jI a).1,.int .i64 (jI a).2]):=by
 refine aA Tryz.func220 rfl Tryz.ntmps220 rfl ?_;have hload:(((dq.map Value.string).drop 0).take 8)=dq.map Value.string:=rfl;have hU:=uH a ha;generalize hu:upB a=u at hU;repeat' (first|apply ag;exact rfl;exact rfl;intro w hm;exact hU w|apply ai;exact rfl;apply cZ (o:=0) (off:=0);exact hw;exact rfl;exact hload;exact rfl|refine zZE ?_|refine sM fun _=>?_|refine sC ?_ ?_<;>intro hb<;>try omega|exact cT|fail)
 refine ay [0,8] rfl (fun i:Nat=> [(9,.int .i64 (i:Int))]) (fun _=> []) (fun i=>i≤8∧jI a=kG u (dq.drop (max i 1)) (max i 1:Nat)) (fun i=>8 - i) 0 ⟨by omega,by rw [jI,hu];rfl⟩ sB mS ?_;rintro i ⟨hi,hr⟩;by_cases hlt:i<8
 ·have hx:=HN hlt;have hd:=vV hlt;generalize dq.getD i aB=x at hx hd;repeat' (first|apply ai;exact rfl;apply pN;exact rfl;exact rfl;exact hlt;exact hx|refine zZH ?_|refine sM fun _=>?_|refine sC ?_ ?_<;>intro hb<;>try omega|exact cT|fail)
  ·rename_i h0;rw [show max i 1=i by omega,hd,kG,if_pos hb] at hr;rw [hr];refine rT2 ?_
   rfl
  ·rename_i h0;rw [show max i 1=i by omega,hd,kG,if_neg hb] at hr;refine ⟨i+1,?_,(by first|omega|dsimp only;omega),sB,sB,mS⟩;refine ⟨hlt,?_⟩;rw [hr,show max (i+1) 1=i+1 by omega]
   rfl
  ·have h0:i=0:=by omega
   subst h0;refine ⟨0+1,?_,(by first|omega|dsimp only;omega),sB,sB,mS⟩;exact ⟨by omega,hr⟩
 ·have e:i=8:=by omega
  subst e;rw [hr];repeat' (first|refine zZE ?_|refine sM fun _=>?_|refine sC ?_ ?_<;>intro hb<;>try omega|exact cT|fail)
  all_goals first|omega|(refine rT2 ?_);rfl
attribute [local irreducible] WLI WR WT WX bi
def Ij:Option (Tk × Nat)→Value
 |some (t,n)=> .tuple #[.agg (bw t).toArray,.int .i64 (n:Int)]
 |none=> .tuple #[.agg (bw dY).toArray,.int .i64 0]
def atT (i:Nat) (o:Option (Tk × Nat)):Option (Tk × Nat):=o.map fun x=>({ x.1 with at_:=(i:Int) },x.2)
def iw (l:List Int):Option (Tk × Nat):=
 let w:=aK aL l;let p:=cI (l.drop w);let n:=if p=0 then w else w+1+p
 if w=0∨4<p then none
 else if (jf (l.take n)).2≠0 then none else some (⟨1,(jf (l.take n)).1,aB,aZ,0⟩,n)
theorem qa {c:Int} {r:List Int} (h:c=46):cI (c::r)=aK aL r:=by subst h;rfl
theorem oW {c:Int} {r:List Int} (h:c≠46):cI (c::r)=0:=by
 unfold cI;split
 ·rename_i heq;injection heq with h1 h2;exact absurd h1 h
 ·rfl
theorem Mp (a:ByteArray) (ha:a.size≤100000) (i:Nat) (hi:i≤a.size) (g:Nat) (w:World) (hr:Ro w g 0 [.string a]):
 aF Tryz.prog 295 [.pointer (some ⟨g,0,none⟩),.int .i64 (i:Int)] w (Ij (atT i (iw ((ap a).drop i)))):=by
 refine aA Tryz.func295 rfl Tryz.ntmps295 rfl ?_;have hl:=az a;have hL1:=vu a (by omega) i hi 339 aL mQ;have hwl:=cH aL ((ap a).drop i);rw [VS] at hwl;generalize hw:aK aL ((ap a).drop i)=n at hL1 hwl;generalize hpd:cI ((ap a).drop (i+n))=p;have hN:iw ((ap a).drop i)=if n=0∨4<p then none else if (jf (((ap a).drop i).take (if p=0 then n else n+1+p))).2≠0 then none else some (⟨1,(jf (((ap a).drop i).take (if p=0 then n else n+1+p))).1,aB,aZ,0⟩,if p=0 then n else n+1+p):=by
  simp only [iw,hw,Xi,hpd]
 rw [hN];have hL2:=fun h=>vu a (by omega) (i+n+1) h 339 aL mQ;have hcut: ∀ m,ap (sub a i (i+m))=((ap a).drop i).take m:=fun m=>by rw [fK,show i+m - i=m by omega]
 have hple:p≤a.size - (i+n) - 1:=by
  rw [← hpd];by_cases h:i+n<a.size
  ·rw [bA h];by_cases h46:bat a (i+n)=46
   ·rw [qa h46];have:=cH aL ((ap a).drop (i+n+1));rw [VS] at this;omega
   ·rw [oW h46];omega
  ·rw [VY (by omega)];simp [cI]
 have hend: ∀ h:i+n+1<a.size,bat a (i+n)=46→(p=aK aL ((ap a).drop (i+n+1))):=fun h h46=>by
  rw [← hpd,bA (by omega),qa h46]
 have hno: ¬ (i+n+1<a.size∧bat a (i+n)=46∧aL (bat a (i+n+1))=true)→p=0:=fun h=>by
  by_cases h1:i+n<a.size
  ·by_cases h46:bat a (i+n)=46
   ·by_cases h2:i+n+1<a.size
    ·rw [hend h2 h46,bA h2,aK,if_neg fun h3=>h ⟨h2,h46,h3⟩]
    ·rw [← hpd,bA h1,qa h46,VY (by omega)];rfl
   ·rw [← hpd,bA h1,oW h46]
  ·rw [← hpd,VY (by omega)];rfl
 have hyes:i+n+1<a.size→bat a (i+n)=46→aL (bat a (i+n+1))=true→0<p:=fun h h46 h3=>by
  rw [hend h h46,bA h,aK,if_pos h3];omega
 repeat' first|apply ai;exact rfl;apply aR (o:=0) (off:=0);exact hr;exact rfl;exact rfl|apply ag;exact rfl;exact rfl;intro w hm;exact hL1 w|apply ag;exact rfl;exact rfl;intro w hm;exact mQ _ w|refine J9 (id:=7) [0,1,4] rfl (ι:=Nat × Nat) (fun x=> [(7,.int .i64 (x.1:Int)),(5,.int .i64 (x.2:Int))]) (fun x=>x.1=p∧x.2=if p=0 then n else n+1+p) ?_ ?_|apply ag;exact rfl;exact rfl;intro w hm;exact hL2 (by omega) w|refine zZH ?_|refine sM fun _=>?_|refine sC ?_ ?_<;>intro hb<;>try omega|exact cT|fail
 ·(refine nz ?_);rw [if_pos (.inl (by omega))];rfl
 ·rename_i h1 h2 h3;refine dH ((aK aL ((ap a).drop (i+n+1)),n+(1+aK aL ((ap a).drop (i+n+1))))) ?_ sB mS;have h5:=hyes (by omega) h3 hb;have h6:=hend (by omega) h3;rw [← h6];exact ⟨rfl,by rw [if_neg (by omega)];omega⟩
 ·rename_i h1 h2 h3;refine dH ((0,n)) ?_ sB mS;have:=hno fun h=>by rw [hb] at h;cases h.2.2
  exact ⟨this.symm,by rw [if_pos this]⟩
 ·refine dH ((0,n)) ?_ sB mS;have:=hno fun h=>hb h.2.1;exact ⟨this.symm,by rw [if_pos this]⟩
 ·refine dH ((0,n)) ?_ sB mS;have:=hno fun h=>by omega
  exact ⟨this.symm,by rw [if_pos this]⟩
 rintro ⟨p',m⟩ ⟨rfl,hm⟩;have hn0:n≠0:=by omega
 dsimp only at hm ⊢;rw [← hm];by_cases h4:4<p'
 ·rw [if_pos (.inr h4)];repeat' (first|refine zZE ?_|refine sM fun _=>?_|refine sC ?_ ?_<;>intro hb<;>try omega|exact cT|fail)
  all_goals first|omega|(refine nz ?_);rfl
 ·rw [if_neg (by omega)];have him:i+m≤a.size:=by rw [hm];split<;>omega
  have hP:=wI (sub a i (i+m)) (by rw [cP _ him];omega);rw [hcut m] at hP;generalize jf (((ap a).drop i).take m)=q at hP;repeat' (first|apply ai;exact rfl;apply aR (o:=0) (off:=0);exact hr;exact rfl;exact rfl|apply ag;exact rfl;exact rfl;intro w hm;exact hP w|refine zZH ?_|refine sM fun _=>?_|refine sC ?_ ?_<;>intro hb<;>try omega|exact cT|fail)
  ·(refine nz ?_);rw [if_pos hb];rfl
  ·(refine nz ?_);rw [if_neg hb];rfl
theorem ow (a:ByteArray) (j:Nat):((ap a).drop j).headD 0=bat a j:=by
 rw [bat,List.headD_eq_head?_getD,List.head?_drop,VX]
theorem Dz (a:ByteArray) (ha:a.size≤100000) (j:Nat) (g:Nat) (w:World) (hr:Ro w g 0 [.string a]):
 aF Tryz.prog 343 [.pointer (some ⟨g,0,none⟩),.int .i64 (j:Int)] w (.int .u8 (bat a j)):=by
 refine aA Tryz.func343 rfl Tryz.ntmps343 rfl ?_;have hl:=az a;repeat' (first|apply ai;exact rfl;apply aR (o:=0) (off:=0);exact hr;exact rfl;exact rfl|refine zZH ?_|refine sM fun _=>?_|refine sC ?_ ?_<;>intro hb<;>try omega|exact cT|fail)
 ·(refine rT1 ?_)
  rfl
 ·(refine rT1 ?_);have e:bat a j=0:=by rw [bat,VX,VJ (by omega)];rfl
  rw [e]
def upW (l:List Int):List Int:=(l.take (aK dI l)).map upC
theorem xV (l:List Int):(upW l).length=aK dI l:=by
 have:=cH dI l;simp [upW];omega
theorem NZ {l:List Int} (h:jA l):jA (upW l):=by
 intro c hc;obtain ⟨d,hd,rfl⟩:=VM.1 hc;have:=h d (WV hd);unfold upC;split<;>omega
theorem F4 (a:ByteArray) (ha:a.size≤100000) (i:Nat) (hi:i≤a.size) (g:Nat) (w:World) (hr:Ro w g 0 [.string a]):
 aF Tryz.prog 342 [.pointer (some ⟨g,0,none⟩),.int .i64 (i:Int)] w (.string (mkB (upW ((ap a).drop i)))):=by
 refine aA Tryz.func342 rfl Tryz.ntmps342 rfl ?_;have hl:=az a;have hL:=vu a (by omega) i hi 375 dI MC;have hwl:=cH dI ((ap a).drop i);rw [VS] at hwl;unfold upW;generalize aK dI ((ap a).drop i)=n at hL hwl;have hU:=uH (sub a i (i+n)) (by rw [cP _ (by omega)];omega);have e:upB (sub a i (i+n))=mkB ((((ap a).drop i).take n).map upC):=by rw [upB,fK,show i+n - i=n by omega]
 rw [e] at hU;repeat' (first|apply ai;exact rfl;apply aR (o:=0) (off:=0);exact hr;exact rfl;exact rfl|apply ag;exact rfl;exact rfl;intro w hm;exact hL w|apply ag;exact rfl;exact rfl;intro w hm;exact hU w|refine zZH ?_|refine sM fun _=>?_|refine sC ?_ ?_<;>intro hb<;>try omega|exact cT|fail)
 (refine rT1 ?_)
 rfl
def du:List Int→Option Nat
 | []=>none
 |c::r=>if c≠34 then (du r).map (· +1) else match r with
  | []=>some 0
  |d::r' =>if d=34 then (du r').map (· +2) else some 0
theorem mV {c:Int} {r:List Int} (h:c≠34):du (c::r)=(du r).map (· +1):=by rw [du.eq_def];simp [h]
def pT (l:List Int):Option (Tk × Nat):=
 if l.headD 0≠34 then none
 else match du (l.drop 1) with
  |none=>none
  |some k=>if (iL (l.take (k+2))).2≠0 then none else some (⟨2,0,mkB (iL (l.take (k+2))).1,aZ,0⟩,k+2)
theorem QV (a:ByteArray) (ha:a.size≤100000) (i:Nat) (hi:i<a.size) (g:Nat) (w:World) (hr:Ro w g 0 [.string a]):
 aF Tryz.prog 296 [.pointer (some ⟨g,0,none⟩),.int .i64 (i:Int)] w (Ij (atT i (pT ((ap a).drop i)))):=by
 refine aA Tryz.func296 rfl Tryz.ntmps296 rfl ?_;have hl:=az a;unfold pT;rw [ow,Xi];by_cases h34:bat a i=34
 ·rw [if_neg (by omega)];have hcut: ∀ m,ap (sub a i (i+m))=((ap a).drop i).take m:=fun m=>by rw [fK,show i+m - i=m by omega]
  repeat' first|apply ai;exact rfl;apply aR (o:=0) (off:=0);exact hr;exact rfl;exact rfl|refine zZH ?_|refine sM fun _=>?_|refine sC ?_ ?_<;>intro hb<;>try omega|exact cT|fail
  all_goals try omega
  rename_i g4;generalize hC:du ((ap a).drop (i+1))=C;refine ay [0,1,4,5] rfl (fun j:Nat=> [(6,.int .i64 (j:Int))]) (fun _=> [.box g4 339 (bw dY)]) (fun j=>i+1≤j∧j≤a.size∧C=(du ((ap a).drop j)).map (· +(j - (i+1)))) (fun j=>a.size - j) (i+1) ⟨by omega,by omega,by rw [hC];simp⟩ sB mS ?_;rintro j ⟨hj1,hj2,hj3⟩;by_cases hlt:j<a.size
  ·rw [bA hlt] at hj3;by_cases hq:bat a j=34
   ·by_cases hn:j+1<a.size∧bat a (j+1)=34
    ·rw [bA hn.1,hq,hn.2] at hj3;simp only [du,ne_eq,not_true_eq_false,if_false,if_true,Yi] at hj3;have hn1:=hn.1;repeat' (first|apply ai;exact rfl;apply aR (o:=0) (off:=0);exact hr;exact rfl;exact rfl|refine zZH ?_|refine sM fun _=>?_|refine sC ?_ ?_<;>intro hb<;>try omega|exact cT|fail)
     all_goals try omega
     refine ⟨j+2,?_,(by first|omega|dsimp only;omega),sB,sB,mS⟩;refine ⟨by omega,by omega,?_⟩;rw [hj3,show j+1+1=j+2 by omega];congr 1;funext k;simp only [Function.comp];omega
    ·have hC0:C=some (j - (i+1)):=by
      rw [hj3,hq];by_cases h1:j+1<a.size
      ·rw [bA h1];have h2:bat a (j+1)≠34:=fun h=>hn ⟨h1,h⟩;simp [du,h2]
      ·rw [VY (i:=j+1) (by omega)];simp [du]
     rw [hC0];dsimp only;have hm:j - (i+1)+2=j+1 - i:=by omega
     rw [hm];have hc:=hcut (j+1 - i);rw [show i+(j+1 - i)=j+1 by omega] at hc;have hP:=JR (sub a i (j+1)) (by rw [cP _ (by omega)];omega);rw [hc] at hP;generalize iL (((ap a).drop i).take (j+1 - i))=q at hP;repeat' (first|apply ai;exact rfl;apply aR (o:=0) (off:=0);exact hr;exact rfl;exact rfl|apply ag;exact rfl;exact rfl;intro w hm;exact hP w|refine zZH ?_|refine sM fun _=>?_|refine sC ?_ ?_<;>intro hb<;>try omega|exact cT|fail)
     all_goals first|omega|((refine nz ?_);first|rw [if_pos hb];rfl|rw [if_neg hb];rfl)
   ·rw [mV hq,Yi] at hj3;repeat' (first|apply ai;exact rfl;apply aR (o:=0) (off:=0);exact hr;exact rfl;exact rfl|refine zZH ?_|refine sM fun _=>?_|refine sC ?_ ?_<;>intro hb<;>try omega|exact cT|fail)
    all_goals try omega
    refine ⟨j+1,?_,(by first|omega|dsimp only;omega),sB,sB,mS⟩;refine ⟨by omega,by omega,?_⟩;rw [hj3];congr 1;funext k;simp only [Function.comp];omega
  ·rw [VY (by omega)] at hj3;rw [hj3];dsimp only [du,Option.map];repeat' (first|apply ai;exact rfl;apply aR (o:=0) (off:=0);exact hr;exact rfl;exact rfl|refine zZH ?_|refine sM fun _=>?_|refine sC ?_ ?_<;>intro hb<;>try omega|exact cT|fail)
   all_goals try omega
   (refine nz ?_)
   rfl
 ·rw [if_pos (by omega)];repeat' (first|apply ai;exact rfl;apply aR (o:=0) (off:=0);exact hr;exact rfl;exact rfl|refine zZH ?_|refine sM fun _=>?_|refine sC ?_ ?_<;>intro hb<;>try omega|exact cT|fail)
  all_goals try omega
  (refine nz ?_)
  rfl
end Go.SL
namespace Go.SL
open Go Go.Proofs Go.Proofs.YtfeicpjdgjflaaaGreatDoor Go.ChangeShapes Go.WideShapes Go.ChangeAt Go.RowKit Go.Deep
def uL:List (List UInt8):= [[],[35,68,73,86,47,48,33],[35,86,65,76,85,69,33],[35,78,85,77,33],[35,78,47,65],[35,82,69,70,33],[35,67,89,67,76,69,33],[35,68,69,78,73,69,68]]
def jQ:List (String × DataW Unit):= [("louvre/val.words",Rows.laid_louvre_val_words)]
theorem EH:(Rows.laid_louvre_val_words:DataW Unit)= .agg (uL.map fun l=> .lit (.string l)):=rfl
theorem Nu:dq=uL.map fun l=>⟨l.toArray⟩:=rfl
set_option maxRecDepth 100000 in
theorem m7 {W:World} (h:laidMetH Tryz.prog jQ W):Words W:=by
 rw [MakeChecks.laidMetH_plain _ _ _ (by kernel_rfl)] at h;obtain ⟨ps,⟨g,t,cs,fuel,p,q,hg,ht,hv,hd,_,_⟩,_⟩:=h;obtain rfl:=Option.some.inj ((show Tryz.prog.globalNamed "louvre/val.words" =some 0 by kernel_rfl).symm.trans hg);obtain rfl:=Option.some.inj ((show (Tryz.prog.globals[0]?).map (·.type)=some 397 by kernel_rfl).symm.trans ht);rw [EH] at hd;obtain ⟨xs,m,_,ex,_,hl,hel⟩:=DataW.trod_array Tryz.underlying397 hd;have cS:Tryz.prog.cellsOf 9=1:=by kernel_rfl
 have hcell: ∀ (j:Nat) (v:Value),(dq.map Value.string)[j]? =some v→W.cell? ⟨0,0+j,none⟩=some v:=by
  intro j v hjv;have hj:j<8:=by
   have:=(VI.1 hjv).1;simpa [dq] using this
  have hE:=hel j hj;rw [cS,Wd,Vo (by omega)] at hE;obtain ⟨s,e1,e2,_⟩:=DataW.trod_string Tryz.underlying9 hE;have e3:(xs.map (·.1))=uL.map fun l=> .lit (.string l):=(DataW.agg.inj (Prod.mk.inj ex).1).symm;have hwl:uL.length=8:=rfl;have e4:(xs.map (·.1))[j]? =(uL.map fun l=>(DataW.lit (.string l):DataW Unit))[j]? :=by rw [e3]
  obtain ⟨u,hu⟩: ∃ u,uL[j]? =some u:=⟨_,Vo (by rw [hwl];exact hj)⟩;rw [VG,VG,Vo (by omega:j<xs.length),hu,e2] at e4;simp only [Wq,Option.some.injEq,DataW.lit.injEq,Lit.string.injEq] at e4;have hs:s=⟨u.toArray⟩:=by
   obtain ⟨d⟩:=s;subst e4
   rfl
  have hvv:v= .string s:=by
   rw [Nu,Xl,VG,hu] at hjv;simp only [Wq,Option.some.injEq,Function.comp] at hjv;rw [← hjv,hs]
  rw [hvv,VD,World.var?_cell hg hv j];have:cs.toList[j]? =some (.string s):=by
   have h0:((cs.toList.drop j).take 1)[0]? =some (.string s):=by rw [e1];rfl
   simpa using h0
  simpa using this
 refine ⟨?_,hcell⟩;have h5:=hcell 0 _ rfl;simp only [World.cell?] at h5;split at h5
 ·rename_i h6;exact (V0.1 h6).1
 ·cases h5
end Go.SL
