/-
  Lemmas and walks, put together: A1 W1 W3 W4 W5 W6 W7 W8 W9.
-/
import Derived.Test.YthefeclkaaocnaaGreatDoorKj08
set_option linter.unusedSimpArgs false
set_option linter.unusedVariables false
set_option maxRecDepth 20000
namespace Go.SL
open Go Go.Proofs
attribute [local irreducible] W WL WQ WG WA VOp thn blk bG bg aQ FnIn
theorem Jr {c:Int} (h1:48≤c) (h2:c≤57):aC c=true:=by simp [aC,h1,h2]
theorem K3 {c:Int} (h:c<48):aC c=false:=by simp [aC];omega
theorem K4 {c:Int} (h:57<c):aC c=false:=by simp [aC];omega
set_option maxRecDepth 10000 in
theorem w5 (a:ByteArray) (ha:a.size≤1000000) (w:World):ax Tryz.prog 241 [.string a] w (.int .i64 (aB aC (ap a):Int)):=by
 refine aq Tryz.func241 rfl Tryz.ntmps241 rfl ?_
 have hl:=av a
 repeat' (first|refine sT ?_|refine sT2 ?_|refine sM fun _=> ?_|(refine sC ?_ ?_<;>intro hb<;>try omega)|exact cT|fail)
 refine fC (fun i:Nat=> [(0,.string a),(5,.int .i64 (a.size:Int)),(6,.int .i64 (i:Int))]) (fun _=> []) (fun i=>i≤a.size∧aB aC (ap a)=i+aB aC ((ap a).drop i)) (fun i=>a.size - i) 0 ⟨by omega,by simp⟩ sB mS ?_
 rintro i ⟨hi,hr⟩
 by_cases hlt:i<a.size
 ·
  have hs1:=aZ hlt
  rw [hs1] at hr
  simp only [aB] at hr
  repeat' (first|refine sT ?_|refine sT2 ?_|refine sN ?_|refine sM fun _=> ?_|(refine sC ?_ ?_<;>intro hb<;>try omega)|exact cT|fail)
  ·
   (refine rT1 ?_)
   rw [hr,K3 hb];simp
  ·
   (refine rT1 ?_)
   rw [hr,K4 hb];simp
  ·
   rename_i h1
   rw [Jr h1 hb] at hr
   exact ⟨i+1,⟨hlt,by rw [hr];simp;omega⟩,by omega,by exact sB,by exact mS⟩
 ·
  have e:i=a.size:=by omega
  subst e
  repeat' (first|refine sT ?_|refine sT2 ?_|refine sM fun _=> ?_|(refine sC ?_ ?_<;>intro hb<;>try omega)|exact cT|fail)
  (refine rT1 ?_)
  rw [hr,N0 (by omega)];simp [aB]
def jr (hi lo:Int) (neg:Bool):Int × Bool:=if hi≠0∨cF<lo then (0,false) else (if neg then -lo else lo,true)
theorem pz {v:Int} (h1:0≤v) (h2:v≤cF):IntKind.i64.wrap v=v:=I64.wrap ⟨by omega,by simpa [cF] using h2⟩
set_option maxRecDepth 10000 in
theorem Fw (hi lo:Int) (neg:Bool) (h0:0≤lo) (w:World):ax Tryz.prog 242 [.int .u64 hi,.int .u64 lo,.bool neg] w (.tuple #[.int .i64 (jr hi lo neg).1,.bool (jr hi lo neg).2]):=by
 refine aq Tryz.func242 rfl Tryz.ntmps242 rfl ?_
 by_cases hh:hi=0
 ·
  by_cases hl:lo≤cF
  ·
   have hw:=pz h0 hl
   have hm:cF=9223372036854775807:=rfl
   have e:jr hi lo neg=(if neg then -lo else lo,true):=by rw [jr,if_neg (by omega)]
   rw [e]
   subst hh
   cases neg
   ·
    repeat' (first|(apply ak;exact rfl;apply bI;exact rfl;exact hw)|refine sT ?_|refine sM fun _=> ?_|(refine sC ?_ ?_<;>intro hb<;>try omega)|exact cT|fail)
    all_goals first|(exfalso;omega)|((refine rT2 ?_);rfl)
   ·
    repeat' (first|(apply ak;exact rfl;apply bI;exact rfl;exact hw)|(apply ak;exact rfl;apply LA;exact rfl;exact ⟨by omega,by omega⟩)|refine sT ?_|refine sM fun _=> ?_|(refine sC ?_ ?_<;>intro hb<;>try omega)|exact cT|fail)
    all_goals first|(exfalso;omega)|((refine rT2 ?_);rfl)
  ·
   have hm:cF=9223372036854775807:=rfl
   have e:jr hi lo neg=(0,false):=by rw [jr,if_pos (by omega)]
   rw [e]
   repeat' (first|refine sT ?_|refine sM fun _=> ?_|(refine sC ?_ ?_<;>intro hb<;>try omega)|exact cT|fail)
   all_goals first|(exfalso;omega)|((refine rT2 ?_);rfl)
 ·
  have e:jr hi lo neg=(0,false):=by rw [jr,if_pos (.inl hh)]
  rw [e]
  repeat' (first|refine sT ?_|refine sM fun _=> ?_|(refine sC ?_ ?_<;>intro hb<;>try omega)|exact cT|fail)
  all_goals first|(exfalso;omega)|((refine rT2 ?_);rfl)
theorem tT (u:Int) (neg:Bool) (h0:0≤u) (h1:u≤cF) (w:World):ax Tryz.prog 242 [.int .u64 0,.int .u64 u,.bool neg] w (.tuple #[.int .i64 (if neg then -u else u),.bool true]):=by
 have h:=Fw 0 u neg h0 w
 rwa [jr,if_neg (by omega)] at h
theorem pd: ∀ (l:List Int) (v c:Int),bk (l++ [c]) v=10*bk l v+(c - 48)
 | [],_,_=>rfl
 |d::r,v,c=>by simp only [NF,bk];exact pd r _ c
theorem lz: ∀ (l:List Int) {v:Int},(∀ c∈l,48≤c)→0≤v→v≤bk l v
 | [],_,_,_=>OW _
 |c::r,v,h,h0=>by
  have h1:=h c NI
  have:=lz r (v:=10*v+(c - 48)) (fun d hd=>h d (NQ _ hd)) (by omega)
  simp only [bk];omega
theorem p7 (l m:List Int) (v:Int):bk (l++m) v=bk m (bk l v):=by
 induction l generalizing v with
 |nil=>rfl
 |cons c l ih=>simp only [NF,bk,ih]
def gC (l0:List Int):Int × Int:=
 let neg:=decide (l0.head? =some 45)
 let l:=if neg then l0.tail else l0
 let n:=aB aC l
 let rest:=l.drop n
 let frac:=decide (1<rest.length) && (decide (rest.head? =some 46) && decide (aB aC rest.tail+1=rest.length))
 let p5:=(if frac then rest.tail else [])++ [48,48,48,48,48]
 if n=0∨(frac=false∧rest≠ []) then (0,4)
 else
  let v:=bk (l.take n++p5.take 4) 0+(if 53≤p5.getD 4 0 then 1 else 0)
  if cF<v then (0,3) else (if neg then -v else v,0)
theorem qc (a:ByteArray) (c:Int):((ap a).head? =some c)↔(0<a.size∧bat a 0=c):=by
 by_cases h:0<a.size
 ·
  have:=aZ h
  rw [O4] at this
  rw [this];simp [h]
 ·
  have:ap a= []:=by rw [← Pk,av];omega
  rw [this];simp;omega
set_option maxRecDepth 10000 in
theorem rM (a:ByteArray) (ha:a.size≤1000000) (w:World):ax Tryz.prog 201 [.string a] w (.tuple #[.int .i64 (gC (ap a)).1,.int .i64 (gC (ap a)).2]):=by
 refine aq Tryz.func201 rfl Tryz.ntmps201 rfl ?_
 have hl:=av a
 generalize hneg:decide ((ap a).head? =some 45)=neg
 generalize hls:(if neg then (ap a).tail else ap a)=ls
 have hb0:=qc a 45
 repeat' (first|(refine tu (id:=1) (ι:=Bool) (fun b=> [(0,.string a),(4,.bool b)]) (fun _=> []) (fun b=>neg=b) ?_ ?_)|refine sT ?_|refine sT2 ?_|refine sM fun _=> ?_|(refine sC ?_ ?_<;>intro hb<;>try omega)|exact cT|fail)
 ·
  (apply bf;rotate_left 1;exact sB;exact mS)
  rw [← hneg,decide_eq_decide,hb0]
  simp;omega
 ·
  (apply bf;rotate_left 1;exact sB;exact mS)
  rw [← hneg,decide_eq_false_iff_not,hb0]
  omega
 rintro _ rfl
 repeat' (first|(refine xz (id:=2) (ι:=ByteArray) (fun b=> [(0,.string b),(4,.bool neg)]) (fun _=> []) (fun b=>ap b=ls∧b.size≤a.size) ?_ ?_)|refine sT ?_|refine sT2 ?_|refine sM fun _=> ?_|(refine sC ?_ ?_<;>intro hb<;>try omega)|exact cT|fail)
 ·
  have h1:0<a.size:=(hb0.1 (of_decide_eq_true (hneg.trans hb))).1
  repeat' (first|refine sT ?_|refine sT2 ?_|refine sM fun _=> ?_|(refine sC ?_ ?_<;>intro hb<;>try omega)|exact cT|fail)
  (apply bf;rotate_left 1;exact sB;exact mS)
  rw [← hls,hb,n8,bW _ (NJ _)]
  simp
 ·
  (apply bf;rotate_left 1;exact sB;exact mS)
  rw [← hls,hb]
  simp
 rintro b ⟨hbl,hbs⟩
 have hlb:=av b
 rw [hbl] at hlb
 have hdl:=bR aC ls
 generalize hn:aB aC ls=n at hdl
 generalize hrest:ls.drop n=rest
 generalize hfr:(decide (1<rest.length) && (decide (rest.head? =some 46) && decide (aB aC rest.tail+1=rest.length)))=fr
 have hcd:=w5 b (by omega)
 rw [hbl,hn] at hcd
 have hb1:=qc (sub b n b.size) 46
 have hs1:=bW b (lo:=n) (NJ b.size)
 have hr1:ap (sub b n b.size)=rest:=by rw [n8,hbl,hrest]
 generalize hz:sub b n b.size=z at hb1 hs1 hr1
 have hrl:rest.length=z.size:=by rw [← hr1,av]
 have e1:ap (sub z 1 z.size)=rest.tail:=by rw [n8,hr1,List.drop_one]
 rw [hr1] at hb1
 have hcd2:=fun h=>w5 (sub z 1 z.size) h
 repeat' (first|(refine tu (id:=7) (ι:=Bool) (fun x=> [(4,.bool neg),(5,.int .i64 (n:Int)),(6,.string (sub b 0 n)),(7,.string z),(8,.string au),(50,.bool x)]) (fun _=> []) (fun x=>fr=x) ?_ ?_)|(apply aa;exact rfl;exact rfl;(intro w hm;exact hcd w))|(apply aa;exact rfl;exact rfl;(intro w hm;exact hcd2 (by rw [bW _ (NJ _)];omega) w))|(rw [hz])|refine sT ?_|refine sQ ?_|refine sT2 ?_|refine sQ2 ?_|refine sN ?_|refine sNQ ?_|refine sD ?_|refine sM fun _=> ?_|(refine sC ?_ ?_<;>intro hb<;>try omega)|(refine sCQ ?_ ?_<;>intro hb<;>try omega)|exact cT|fail)
 ·
  (apply bf;rotate_left 1;exact sB;exact mS)
  rename_i h1
  rw [e1,← hfr,decide_eq_true (by omega:1<rest.length),decide_eq_true (hb1.2 ⟨by omega,hb⟩)]
  simp only [O8,decide_eq_decide]
  omega
 ·
  (apply bf;rotate_left 1;exact sB;exact mS)
  rw [← hfr,decide_eq_false (fun h=>hb (hb1.1 h).2)]
  simp
 ·
  (apply bf;rotate_left 1;exact sB;exact mS)
  rw [← hfr,decide_eq_false (by omega)]
  rfl
 rintro _ rfl
 have hf1:fr=true→1≤z.size:=fun h=>by
  rw [← hfr] at h
  simp at h
  omega
 have hf2:fr=false→((z=au)↔rest= []):=fun _=>by rw [← I1,hr1]
 have hbl2:b.size≤1000000:=by omega
 refine lN (ι:=ByteArray × ByteArray) (fun x=> [(4,.bool neg),(5,.int .i64 (n:Int)),(6,.string (sub b 0 n)),(7,.string x.1),(8,.string x.2)]) (fun _=> []) (fun x=>ap x.2=(if fr then rest.tail else [])∧((x.1=au)↔(fr=true∨rest= []))∧x.2.size≤a.size) ?_ ?_
 ·
  cases fr
  ·
   repeat' (first|refine sT ?_|refine sT2 ?_|refine sM fun _=> ?_|(refine sC ?_ ?_<;>intro hb<;>try omega)|exact cT|fail)
   refine bf ((z,au)) ?_ sB mS
   exact ⟨rfl,by rw [hf2 rfl];simp,NY _⟩
  ·
   have h1:=hf1 rfl
   repeat' (first|refine sT ?_|refine sT2 ?_|refine sM fun _=> ?_|(refine sC ?_ ?_<;>intro hb<;>try omega)|exact cT|fail)
   refine bf ((au,sub z 1 z.size)) ?_ sB mS
   exact ⟨by rw [e1];rfl,by simp [au],by rw [bW _ (NJ _)];omega⟩
 rintro ⟨z',pl⟩ ⟨h1,h2,h3⟩
 dsimp only at*
 generalize hp5:(if fr then rest.tail else [])++ [48,48,48,48,48]=p5
 have hpl:ap (pl++⟨#[48,48,48,48,48]⟩)=p5:=by rw [gJ,h1,← hp5];rfl
 have hpz:(pl++⟨#[48,48,48,48,48]⟩:ByteArray).size=pl.size+5:=by rw [PK];rfl
 generalize hqd:(pl++⟨#[48,48,48,48,48]⟩:ByteArray)=q at hpl hpz
 have hres:gC (ap a)=if n=0∨(fr=false∧rest≠ []) then (0,4) else if cF<bk (ls.take n++p5.take 4) 0+(if 53≤p5.getD 4 0 then 1 else 0) then (0,3) else (if neg then -(bk (ls.take n++p5.take 4) 0+(if 53≤p5.getD 4 0 then 1 else 0)) else bk (ls.take n++p5.take 4) 0+(if 53≤p5.getD 4 0 then 1 else 0),0):=by
  unfold gC
  rw [hneg]
  dsimp only
  rw [hls,hn,hrest,hfr,hp5]
 rw [hres]
 by_cases herr:n=0∨(fr=false∧rest≠ [])
 ·
  rw [if_pos herr]
  repeat' (first|refine sT ?_|refine sT2 ?_|refine sM fun _=> ?_|(refine sC ?_ ?_<;>intro hb<;>try omega)|exact cT|fail)
  ·
   (refine rT2 ?_)
   rfl
  ·
   (refine rT2 ?_)
   rfl
  ·
   exfalso
   have hz' :z' =au:=Decidable.not_not.1 hb
   have:=h2.1 hz'
   rcases herr with h|⟨h,h'⟩
   ·
    omega
   ·
    rcases this with h4|h4
    ·
     rw [h] at h4;cases h4
    ·
     exact h' h4
 ·
  rw [if_neg herr]
  generalize hL:ls.take n++p5.take 4=L
  have hp5l:p5.length=pl.size+5:=by rw [← hpl,av,hpz]
  have hy:ap (sub b 0 n++sub q 0 4)=L:=by rw [gJ,sH,sH,hbl,hpl,hL]
  have hyz:(sub b 0 n++sub q 0 4:ByteArray).size=n+4:=by rw [PK,bW _ (by omega),bW _ (by omega)];omega
  generalize hyd:(sub b 0 n++sub q 0 4:ByteArray)=y at hy hyz
  have hyl:L.length=y.size:=by rw [← hy,av]
  have hdig: ∀ c∈L,48≤c∧c≤57:=by
   have hall: ∀ (l:List Int) (c:Int),c∈l.take (aB aC l)→48≤c∧c≤57:=fun l c hc=>by
    obtain ⟨j,hj,rfl⟩:=PG hc
    simp only [NZ] at hj
    have h:=jP (p:=aC) l j (l[j]'(by omega)) (by omega) (NE _)
    simp only [Qt]
    simpa [aC] using h
   intro c hc
   rw [← hL] at hc
   rcases Ol.1 hc with hc|hc
   ·
    rw [← hn] at hc;exact hall ls c hc
   ·
    have hc:=OO hc
    rw [← hp5] at hc
    rcases Ol.1 hc with hc|hc
    ·
     cases hc1:fr
     ·
      rw [hc1] at hc;cases hc
     ·
      rw [hc1] at hc
      simp only [if_true] at hc
      have h7:aB aC rest.tail=rest.tail.length:=by
       rw [hc1] at hfr
       simp only [NK,decide_eq_true_eq] at hfr
       rw [Qh];omega
      have:=hall rest.tail c (by rw [h7,OX];exact hc)
      exact this
    ·
     simp at hc;omega
  have hq4:bat q 4=p5.getD 4 0:=by rw [bat,hpl]
  have hm0:cF=9223372036854775807:=rfl
  repeat' (first|(apply ak (d:=60);exact rfl;apply jB;exact rfl;exact rfl;exact hqd;(show pl.size+5≤_;omega))|(apply ak (d:=64);exact rfl;apply jB;exact rfl;exact rfl;exact hyd;(rw [bW _ (by omega),bW _ (by omega)];omega))|(apply lK;exact rfl;exact rfl;intro gb cap)|refine sT ?_|refine sT2 ?_|refine sM fun _=> ?_|(refine sC ?_ ?_<;>intro hb<;>try omega)|exact cT|fail)
  ·
   exfalso
   refine herr (.inr ?_)
   have h4: ¬ (fr=true∨rest= []):=fun h=>hb (h2.2 h)
   cases hc:fr
   ·
    exact ⟨rfl,fun h=>h4 (.inr h)⟩
   ·
    exact absurd (.inl hc) h4
  have hup: ∀ i,i≤L.length→cF<bk (L.take i) 0→cF<bk L 0:=fun i hi h=>by
   have e:L=L.take i++L.drop i:=(OE i L).symm
   rw [e,p7]
   have h0:0≤bk (L.take i) 0:=lz _ (fun c hc=>(hdig c (OO hc)).1) (OW _)
   have:=lz (L.drop i) (v:=bk (L.take i) 0) (fun c hc=>(hdig c (Py hc)).1) h0
   omega
  refine ay [4,8,65,66] rfl (fun x:Nat × Int × Bool=> [(9,.int .u64 x.2.1),(10,.bool x.2.2),(67,.int .i64 (x.1:Int))]) (fun _=> [.byt gb 5 y.size cap (nN y)]) (fun x=>x.1≤L.length∧0≤x.2.1∧x.2.1<18446744073709551616∧(x.2.2=false→x.2.1=bk (L.take x.1) 0∧x.2.1≤cF)∧(x.2.2=true→cF<bk (L.take x.1) 0)) (fun x=>L.length - x.1) (0,0,false) ⟨NY _,OW _,by decide,fun _=>⟨rfl,by decide⟩,fun h=>by cases h⟩ sB mS ?_
  rintro ⟨i,v,gr⟩ ⟨hi,hv0,hv1,hg0,hg1⟩
  dsimp only at hi hv0 hv1 hg0 hg1 ⊢
  by_cases hlt:i<L.length
  ·
   have hiy:i<y.size:=by omega
   have hge:L[i]? =some L[i]:=NE hlt
   have hci:=hdig L[i] (OD hlt)
   have hsn:bk (L.take (i+1)) 0=10*bk (L.take i) 0+(L[i] - 48):=by rw [NT hlt,pd]
   generalize L[i]=c at hge hci hsn
   have hget:(nN y)[0+i*1]? =some (.int .u8 c):=by rw [oo,hy,OU,show 0+i*1=i by omega,hge];rfl
   have hwc:IntKind.u8.wrap (c - 48)=c - 48:=eM (by omega) (by omega)
   have hwc2:IntKind.u64.wrap (c - 48)=c - 48:=by simp [IntKind.wrap,IntKind.bits,IntKind.signed];omega
   obtain ⟨v',hadd,hv2,hv3,hv4⟩: ∃ v',IntKind.u64.wrap (IntKind.u64.wrap (10*v)+(c - 48))=v' ∧0≤v' ∧v' <18446744073709551616∧(v≤922337203685477580→v' =10*v+(c - 48)):=by
    refine ⟨_,rfl,?_⟩
    simp only [IntKind.wrap,IntKind.bits,IntKind.signed]
    simp
    omega
   have hn0:0≤bk (L.take i) 0:=lz _ (fun c hc=>(hdig c (OO hc)).1) (OW _)
   cases gr
   ·
    obtain ⟨hg2,hg3⟩:=hg0 rfl
    repeat' (first|(apply ak;exact rfl;apply aj;exact rfl;exact rfl;exact hiy)|(apply ak;exact rfl;apply jM;exact rfl;exact .hd;exact hget)|(apply ak (d:=74);exact rfl;apply BW;exact rfl;exact rfl)|(apply ak (d:=76);exact rfl;apply dG;exact rfl;exact rfl;exact hwc)|(apply ak (d:=77);exact rfl;apply bI;exact rfl;exact hwc2)|(apply ak (d:=78);exact rfl;apply dR;exact rfl;exact rfl;exact hadd)|refine sT ?_|refine sT2 ?_|refine sN ?_|refine sM fun _=> ?_|(refine sC ?_ ?_<;>intro hb<;>try omega)|exact cT|fail)
    ·
     refine ⟨(i+1,v',true),?_,(by first|omega|(dsimp only;omega)),sB,sB,mS⟩
     exact ⟨hlt,hv2,hv3,(fun h=>by cases h),fun _=>by dsimp only;omega⟩
    ·
     have h5:=hv4 (by omega)
     refine ⟨(i+1,v',decide (cF<v')),⟨hlt,hv2,hv3,fun h=> ?_,fun h=> ?_⟩,(by dsimp only;omega),sB,sB,mS⟩
     ·
      have h6:=of_decide_eq_false h
      exact ⟨by dsimp only;omega,by dsimp only;omega⟩
     ·
      have h6:=of_decide_eq_true h
      dsimp only;omega
   ·
    have hg2:=hg1 rfl
    repeat' (first|(apply ak;exact rfl;apply aj;exact rfl;exact rfl;exact hiy)|(apply ak;exact rfl;apply jM;exact rfl;exact .hd;exact hget)|(apply ak (d:=74);exact rfl;apply BW;exact rfl;exact rfl)|(apply ak (d:=76);exact rfl;apply dG;exact rfl;exact rfl;exact hwc)|(apply ak (d:=77);exact rfl;apply bI;exact rfl;exact hwc2)|(apply ak (d:=78);exact rfl;apply dR;exact rfl;exact rfl;exact hadd)|refine sT ?_|refine sT2 ?_|refine sN ?_|refine sM fun _=> ?_|(refine sC ?_ ?_<;>intro hb<;>try omega)|exact cT|fail)
    all_goals
     refine ⟨(i+1,v',true),?_,(by first|omega|(dsimp only;omega)),sB,sB,mS⟩
     exact ⟨hlt,hv2,hv3,(fun h=>by cases h),fun _=>by dsimp only;omega⟩
  ·
   have e:i=L.length:=by omega
   subst e
   rw [N9 (NJ _)] at hg0 hg1
   generalize bk L 0=N at hg0 hg1 hup ⊢
   have hadd:v≤cF→IntKind.u64.wrap (v+1)=v+1:=fun h=>by simp [IntKind.wrap,IntKind.bits,IntKind.signed];omega
   by_cases h5:53≤p5.getD 4 0
   ·
    rw [if_pos h5]
    cases gr
    ·
     obtain ⟨hg2,hg3⟩:=hg0 rfl
     subst hg2
     by_cases h6:cF<v+1
     ·
      rw [if_pos h6]
      repeat' (first|(apply ak (d:=89);exact rfl;apply dR;exact rfl;exact rfl;exact hadd hg3)|refine sT ?_|refine sT2 ?_|refine sM fun _=> ?_|(refine sC ?_ ?_<;>intro hb<;>try omega)|exact cT|fail)
      all_goals first|(exfalso;omega)|((refine rT2 ?_);rfl)
     ·
      rw [if_neg h6]
      repeat' (first|(apply ak (d:=89);exact rfl;apply dR;exact rfl;exact rfl;exact hadd hg3)|(apply aa;exact rfl;exact rfl;(intro w' hm;exact (tT (v+1) neg (by omega) (by omega) w')))|refine sT ?_|refine sT2 ?_|refine sM fun _=> ?_|(refine sC ?_ ?_<;>intro hb<;>try omega)|exact cT|fail)
      all_goals first|(exfalso;omega)|((refine rT2 ?_);rfl)
    ·
     rw [if_pos (by have:=hg1 rfl;omega)]
     obtain ⟨u,hu⟩: ∃ u,IntKind.u64.wrap (v+1)=u:=⟨_,rfl⟩
     repeat' (first|(apply ak (d:=89);exact rfl;apply dR;exact rfl;exact rfl;exact hu)|refine sT ?_|refine sT2 ?_|refine sM fun _=> ?_|(refine sC ?_ ?_<;>intro hb<;>try omega)|exact cT|fail)
     all_goals first|(exfalso;omega)|((refine rT2 ?_);rfl)
   ·
    rw [if_neg h5,Int.add_zero]
    cases gr
    ·
     obtain ⟨hg2,hg3⟩:=hg0 rfl
     subst hg2
     rw [if_neg (by omega)]
     repeat' (first|(apply aa;exact rfl;exact rfl;(intro w' hm;exact (tT v neg (by omega) hg3 w')))|refine sT ?_|refine sT2 ?_|refine sM fun _=> ?_|(refine sC ?_ ?_<;>intro hb<;>try omega)|exact cT|fail)
     all_goals first|(exfalso;omega)|((refine rT2 ?_);rfl)
    ·
     rw [if_pos (hg1 rfl)]
     repeat' (first|refine sT ?_|refine sT2 ?_|refine sM fun _=> ?_|(refine sC ?_ ?_<;>intro hb<;>try omega)|exact cT|fail)
     all_goals first|(exfalso;omega)|((refine rT2 ?_);rfl)
end Go.SL
namespace Go.SL
open Go Go.Proofs
attribute [local irreducible] W WL WQ WG VOp thn blk bg aQ FnIn
set_option maxRecDepth 10000 in
theorem jL (c r:Int) (w:World):ax Tryz.prog 64 [.agg #[.int .i64 c,.int .i64 r]] w (.bool (valid c r)):=by
 refine aq Tryz.func64 rfl Tryz.ntmps64 rfl ?_
 repeat' (first|refine sT ?_|refine sM fun _=> ?_|(refine sC ?_ ?_<;>intro hb<;>try omega)|fail)
 all_goals ((refine rT1 ?_);((try simp only [← Int.not_lt] at*);simp_all [valid, -Int.not_lt, -Int.not_le,← Int.not_lt]))
set_option maxRecDepth 10000 in
theorem Du (r:Rct) (w:World):ax Tryz.prog 142 [.agg (bQ r).toArray] w (.tuple #[.agg #[.int .i64 r.c1,.int .i64 r.r1],.agg #[.int .i64 r.c2,.int .i64 r.r2]]):=by
 refine aq Tryz.func142 rfl Tryz.ntmps142 rfl ?_
 repeat' (first|refine sT ?_|refine sM fun _=> ?_|(refine sC ?_ ?_<;>intro hb<;>try omega)|fail)
 rename_i g1 g2 g3
 refine sr (fun D=> [.box g2 51 [.int .i64 (bif D 10 then r.c1 else 0),.int .i64 (bif D 10 then r.r1 else 0)],.box g3 51 [.int .i64 (bif D 11 then r.c2 else 0),.int .i64 (bif D 11 then r.r2 else 0)],.box g1 33 (bQ r)]) (by kernel_rfl) (by kernel_rfl) (.pick (.tl .hd) (.pick .hd (.refl _))) ?_
 repeat' (first|refine sT ?_|refine sG ?_|refine sM fun _=> ?_|(refine sC ?_ ?_<;>intro hb<;>try omega)|fail)
 refine BR _ _ rfl rfl (fun D=> .tl .hd) rfl rfl rfl (fun _=>NJ _) (fun D ht=> .pick (.tl .hd) (.pick .hd (.refl _))) ?_
 refine xu fun D hD=> ?_
 have h10:=hD 10 (by decide)
 have h11:=hD 11 (by decide)
 simp only [h10,h11,cond_true]
 repeat' (first|refine sT ?_|refine sM fun _=> ?_|(refine sC ?_ ?_<;>intro hb<;>try omega)|fail)
 refine M4 (.inl rfl) Tryz.results142 rfl .hd rfl rfl (.tl .hd) rfl (MSub.nil _) ?_
 rfl
set_option maxRecDepth 10000 in
theorem gR (r:Rct) (w:World):ax Tryz.prog 94 [.agg (bQ r).toArray] w (.int .i64 (dU r)):=by
 refine aq Tryz.func94 rfl Tryz.ntmps94 rfl ?_
 repeat' (first|(apply aa;exact rfl;exact rfl;(intro w hm;exact Du r w))|(apply aa;exact rfl;exact rfl;(intro w hm;exact jL r.c1 r.r1 w))|(apply aa;exact rfl;exact rfl;(intro w hm;exact jL r.c2 r.r2 w))|refine sT ?_|refine sM fun _=> ?_|(refine sC ?_ ?_<;>intro hb<;>try omega)|fail)
 all_goals ((refine rT1 ?_);((try simp only [← Int.not_lt] at*);simp_all [dU,aF, -Int.not_lt, -Int.not_le,← Int.not_lt]))
set_option maxRecDepth 10000 in
theorem IY (fn:Int) (w:World):ax Tryz.prog 347 [.int .u8 fn] w (.bool (da fn)):=by
 refine aq Tryz.func347 rfl Tryz.ntmps347 rfl ?_
 repeat' (first|refine sT ?_|refine sM fun _=> ?_|(refine sC ?_ ?_<;>intro hb<;>try omega)|fail)
 all_goals ((refine rT1 ?_);((try simp only [← Int.not_lt] at*);simp_all [da, -Int.not_lt, -Int.not_le,← Int.not_lt]))
set_option maxRecDepth 10000 in
theorem rr (fn:Int) (w:World):ax Tryz.prog 329 [.int .u8 fn] w (.bool (iq fn)):=by
 refine aq Tryz.func329 rfl Tryz.ntmps329 rfl ?_
 repeat' (first|refine sT ?_|refine sM fun _=> ?_|(refine sC ?_ ?_<;>intro hb<;>try omega)|fail)
 all_goals ((refine rT1 ?_);((try simp only [← Int.not_lt] at*);simp_all [iq, -Int.not_lt, -Int.not_le,← Int.not_lt]))
set_option maxRecDepth 10000 in
theorem JK (n:Nd) (w:World):ax Tryz.prog 308 [.agg (cj n).toArray] w (.int .i64 (below n)):=by
 refine aq Tryz.func308 rfl Tryz.ntmps308 rfl ?_
 repeat' (first|refine sT ?_|refine sM fun _=> ?_|(refine sC ?_ ?_<;>intro hb<;>try omega)|fail)
 all_goals ((refine rT1 ?_);simp_all [below])
set_option maxRecDepth 10000 in
theorem vg (fn:Int) (w:World):ax Tryz.prog 327 [.int .u8 fn] w (.tuple #[.int .i64 (eQ fn).1,.int .i64 (eQ fn).2.1,.int .i64 (eQ fn).2.2]):=by
 refine aq Tryz.func327 rfl Tryz.ntmps327 rfl ?_
 repeat' (first|(apply aa;exact rfl;exact rfl;(intro w hm;exact IY fn w))|refine sT ?_|refine sM fun _=> ?_|(refine sC ?_ ?_<;>intro hb<;>try omega)|fail)
 all_goals ((refine rT3 ?_);simp_all [eQ])
set_option maxRecDepth 10000 in
theorem DV (fn i:Int) (w:World):ax Tryz.prog 328 [.int .u8 fn,.int .i64 i] w (.tuple #[.bool (jK fn i).1,.int .i64 (jK fn i).2]):=by
 refine aq Tryz.func328 rfl Tryz.ntmps328 rfl ?_
 repeat' (first|(apply aa;exact rfl;exact rfl;(intro w hm;exact vg fn w))|(apply aa;exact rfl;exact rfl;(intro w hm;exact rr fn w))|refine sT ?_|refine sM fun _=> ?_|(refine sC ?_ ?_<;>intro hb<;>try omega)|fail)
 all_goals ((refine rT2 ?_);((try simp only [← Int.not_lt] at*);simp_all [jK, -Int.not_lt, -Int.not_le,← Int.not_lt]))
set_option maxHeartbeats 1000000 in
theorem wU (n:Nd) (w:World):ax Tryz.prog 307 [.agg (cj n).toArray] w (.int .i64 (cV n)):=by
 refine aq Tryz.func307 rfl Tryz.ntmps307 rfl ?_
 repeat' (first|(apply aa;exact rfl;exact rfl;(intro w hm;exact BS n.v w))|(apply aa;exact rfl;exact rfl;(intro w hm;exact gR n.rect w))|(apply aa;exact rfl;exact rfl;(intro w hm;exact vg n.fn w))|(apply xy (T:=174) (fun D=> [.int .u8 n.kind,.int .u8 0,.int .i64 0,.string au,.int .i64 0,.int .i64 0,.int .i64 0,.int .i64 0,.int .i64 0,.int .u8 (bif D 5 then n.fn else 0),.int .i64 (bif D 7 then n.n else 0)]) (xs' := [.int .u8 n.kind,.int .u8 0,.int .i64 0,.string au,.int .i64 0,.int .i64 0,.int .i64 0,.int .i64 0,.int .i64 0,.int .u8 n.fn,.int .i64 n.n]);kernel_rfl;kernel_rfl;(first|exact .hd|exact .tl .hd);exact rfl;(intro D hD;simp only [hD 5 (by decide),hD 7 (by decide),cond_true]))|(apply ak;exact rfl;(first|(apply tD (b:=⟨n.kind,n.v,aM,0,0,0⟩);exact rfl;exact rfl)|(apply tD (b:=⟨n.kind,bK,n.rect,0,0,0⟩);exact rfl;exact rfl)|(apply tD (b:=⟨n.kind,bK,aM,0,0,0⟩);exact rfl;exact rfl)|(apply tD (b:=⟨n.kind,bK,aM,n.op,0,0⟩);exact rfl;exact rfl)|(apply tD (b:=⟨n.kind,bK,aM,0,n.fn,n.n⟩);exact rfl;exact rfl)))|refine sT ?_|refine sG ?_|refine sM fun _=> ?_|(refine sC ?_ ?_<;>intro hb<;>try omega)|fail)
 all_goals ((refine rT1 ?_);((try simp only [← Int.not_lt] at*);simp_all [cV,kP,dD,EL,IC, -Int.not_lt, -Int.not_le,← Int.not_lt]))
end Go.SL
namespace Go.SL
open Go Go.Proofs
attribute [local irreducible] W WL WQ WG WA VOp thn blk bg aQ FnIn
theorem iB {L:List Nd} {i:Nat} (h:i<L.length):kQ L i=L[i].kind:=by simp [kQ,h]
set_option maxHeartbeats 1000000 in
theorem KW (L:List Nd) (n:Nd) (ps:List Pt) (tv lv:Value) (w:World) (ht:Reads w tv L.length (L.flatMap cj)) (hp:Reads w lv ps.length (ps.flatMap qR)) (hroot: ∀ p∈ps,p.root<L.length) (hlen:ps.length≤1000000):
  ax Tryz.prog 309 [tv,.agg (cj n).toArray,lv] w (.bool (fk L n 0 ps)):=by
 obtain ⟨At,ct,rfl,ht1,ht2,ht3⟩:=ht
 obtain ⟨Al,cl,rfl,hl1,hl2,hl3⟩:=hp
 refine aq Tryz.func309 rfl Tryz.ntmps309 rfl ?_
 repeat' (first|refine sT ?_|refine sM fun _=> ?_|(refine sC ?_ ?_<;>intro hb<;>try omega)|fail)
 rename_i gn
 refine fC (fun i:Nat=> [(0,.slice At L.length ct),(4,.pointer (some ⟨gn,0,none⟩)),(11,.slice Al ps.length cl),(12,.int .i64 (ps.length:Int)),(13,.int .i64 (i:Int))])
  (fun i=> [.box gn 174 (cj n)]) (fun i=>i≤ps.length∧fk L n 0 ps=fk L n (i:Int) (ps.drop i)) (fun i=>ps.length - i) 0 ⟨by omega,rfl⟩ ?_ ?_ ?_
 ·
  exact sB
 ·
  exact mS
 ·
  rintro i ⟨hi,hrec⟩
  by_cases hlt:i<ps.length
  ·
   obtain ⟨g,o,rfl,hro⟩:=hl3 (by omega)
   have hrp:=hro.elem nH i hlt
   have hr0:=hroot ps[i] (OD hlt)
   obtain ⟨gt,ot,rfl,hrt⟩:=ht3 (by omega)
   have hrn:=hrt.elem fX ps[i].root hr0
   rw [NL hlt,fk,uO,iB hr0] at hrec
   repeat' (first|(apply ak;exact rfl;apply aj;exact rfl;exact rfl;first|exact hlt|exact hr0)|(apply ak;exact rfl;apply aA;exact rfl;exact hrp;exact rfl)|(apply ak;exact rfl;apply cI;exact rfl;exact hrn;exact rfl)|(apply ak;exact rfl;apply dw;exact rfl;exact rfl;(constructor<;>omega))|(apply aa;exact rfl;exact rfl;(intro w hm;exact DV n.fn (i:Int) w))|(apply aa;exact rfl;exact rfl;(intro w hm;exact rr n.fn w))|refine sT ?_|refine sM fun _=> ?_|(refine sC ?_ ?_<;>intro hb<;>try omega)|fail)
   all_goals first
    |((refine rT1 ?_);rw [hrec];simp_all [z7];done)
    |(refine ⟨i+1,⟨by omega,?_⟩,by omega,?_,?_⟩;(focus (rw [hrec,Int.natCast_add];simp [z7, *]));(focus exact sB);(focus exact mS))
  ·
   have e:i=ps.length:=by omega
   subst e
   rw [NW,fk] at hrec
   repeat' (first|refine sT ?_|refine sM fun _=> ?_|(refine sC ?_ ?_<;>intro hb<;>try omega)|fail)
   (refine rT1 ?_)
   rw [hrec]
def DD (N:Nat) (w0:World) (f:FuncId) (caps:List Value) (Inv:List nO→List Blk→Prop):Prop:=
 ∀ (vs:List nO) (kids:List Nat) (d:Nat) (A:Option Nat) (cap:Nat) (H F:List Blk),Inv vs H→kids.length≤1000→vs.length<N→(∀ k∈kids,k<vs.length)→
  FnIn Tryz.prog f ([.int .i64 (vs.length:Int),sl A kids.length cap,.int .i64 (d:Int)]++caps) w0 (.own A 3 1 kids.length cap (kids.map fun (k:Nat)=> .int .i64 (k:Int))::(H++F))
   fun _ H' => ∃ H1,Inv (vs++ [(kids,d)]) H1∧MSub (H1++F) H'
theorem wT {n:Nd} (h:cV n=0):0≤below n∧below n≤16:=by
 unfold cV at h
 split at h
 ·
  cases h
 ·
  rename_i hk
  split at h
  ·
   rename_i h7
   unfold below
   split
   ·
    omega
   ·
    split
    ·
     omega
    ·
     omega
  ·
   rename_i h7
   have h7' :n.kind=7:=by omega
   have hb:below n=n.n:=by simp [below,h7']
   have hk1:kP n=true:=by
    cases hh:kP n
    ·
     exact absurd (Or.inl hh) hk
    ·
     rfl
   simp [kP,h7'] at hk1
   split at h
   ·
    rename_i ha;omega
   ·
    split at h
    ·
     omega
    ·
     rename_i hc
     have hm:(eQ n.fn).2.1≤16:=by
      unfold eQ
      (repeat' split)<;>simp
     omega
theorem jq (st:List Pt) (k:Nat) (h:k≤st.length):(bp st k).length=k:=by simp [bp];omega
theorem ik {st:List Pt} {k:Nat} {p:Pt} (h:p∈bp st k):p∈st:=Py h
theorem Ft {w0 w:World} {H:List Blk} {A:Option Nat} {st:List Pt} {cap k:Nat} (hm:Mem w0 w H) (hi:In (.own A 394 3 st.length cap (st.flatMap qR)) H) (h:k≤st.length):
  Reads w (.slice (if cap=st.length - k then A.map fun g=>⟨g,0,none⟩ else (A.map fun g=>(⟨g,0,none⟩:Addr)).map (·.add ((st.length - k)*3))) (st.length - (st.length - k)) (cap - (st.length - k))) (bp st k).length ((bp st k).flatMap qR):=by
 have h1:=(Reads.of_own hm hi).cut (lo:=st.length - k) (hi:=st.length) (sz:=3) (by omega) (NJ _)
 have e1:st.length - (st.length - k)=(bp st k).length:=by rw [jq st k h];omega
 rw [lH nH,e1] at h1
 have e2:((st.drop (st.length - k)).flatMap qR).take ((bp st k).length*3)=(bp st k).flatMap qR:=by
  rw [N9 (by rw [aI nH];exact NJ _)];rfl
 rw [e2] at h1
 rw [e1]
 exact h1
theorem qi (top:List Pt) (j:Nat) (h:j<top.length):ck (top.take (j+1))=max (ck (top.take j)) (top[j].depth+1):=by
 unfold ck
 rw [NT h,Qu]
 rfl
theorem kU (top:List Pt) (h: ∀ p∈top,p.depth≤32):ck top≤33:=by
 have: ∀ (l:List Pt) (d:Nat),d≤33→(∀ p∈l,p.depth≤32)→l.foldl (fun d p=>max d (p.depth+1)) d≤33:=by
  intro l
  induction l with
  |nil=>intro d hd _;simpa using hd
  |cons p r ih=>
   intro d hd hp
   have:=hp p NI
   exact ih _ (by show max d (p.depth+1)≤33;omega) fun q hq=>hp q (NQ _ hq)
 exact this top 1 (by omega) h
structure WalkSt (L:List Nd) (Inv:List nO→List Blk→Prop) (i:Nat) (st:List Pt) (vs:List nO) (Hv:List Blk):Prop where
 le:i≤L.length
 len:vs.length=i
 inv:Inv vs Hv
 rest:iV L L 0 [] []=iV L (L.drop i) i st vs
 ok: ∀ p∈st,p.root<i∧p.depth≤32
 small:st.length≤i
set_option maxHeartbeats 2000000 in
theorem Fa (L:List Nd) (hne:0<L.length) (hlen:L.length≤256) (tv:Value) (w0:World) (ht:Reads w0 tv L.length (L.flatMap cj)) (f:FuncId) [hf:Callable Tryz.prog f] (caps:List Value) (Inv:List nO→List Blk→Prop) (hV:DD L.length w0 f caps Inv)
  (H:List Blk) (hI:Inv [] H):FnIn Tryz.prog 272 [tv,.func (.func f) #[] caps.toArray] w0 H fun v H' =>v= .int .i64 (iV L L 0 [] []).1∧Inv (iV L L 0 [] []).2 H' :=by
 have ht' :=ht
 obtain ⟨At,ct,rfl,ht1,ht2,ht3⟩:=ht
 obtain ⟨gt,ot,rfl,hrt⟩:=ht3 hne
 refine eC Tryz.func272 rfl Tryz.ntmps272 rfl ?_
 repeat' (first|refine sT ?_|refine sM fun _=> ?_|(refine sC ?_ ?_<;>intro hb<;>try omega)|fail)
 refine aP 394 3 ?_
 refine D0 (fun (i:Nat) s H=> ∃ st vs A cap Hv,s= [(0,.slice (some ⟨gt,ot,none⟩) L.length ct),(1,.func (.func f) #[] caps.toArray),(5,sl A st.length cap),(14,.slice (some ⟨gt,ot,none⟩) L.length ct),(15,.int .i64 (L.length:Int)),(16,.int .i64 (i:Int))]∧
   H= .own A 394 3 st.length cap (st.flatMap qR)::Hv∧WalkSt L Inv i st vs Hv) (fun i=>L.length - i) 0 ?_ ?_
 ·
  refine ⟨_,_,?_,?_,⟨[],[],none,0,H,rfl,rfl,⟨NY _,rfl,hI,rfl,by simp,NJ _⟩⟩⟩
  ·
   exact sB
  ·
   exact mS
 ·
  rintro i _ _ ⟨st,vs,A,cap,Hv,rfl,rfl,hst⟩
  obtain ⟨hle,hvl,hinv,hrest,hok,hsmall⟩:=hst
  by_cases hlt:i<L.length
  ·
   have hrn:=hrt.elem fX i hlt
   rw [NL hlt,iV,mA] at hrest
   generalize hn:L[i]=n at hrest hrn
   by_cases hfe:cV n=0
   ·
    obtain ⟨hb0,hb16⟩:=wT hfe
    obtain ⟨k,hk⟩:=Qb hb0
    rw [if_neg (by simp [hfe]),hk,OZ] at hrest
    have hbel: ∀ w,ax Tryz.prog 308 [.agg (cj n).toArray] w (.int .i64 (k:Int)):=fun w=>hk ▸ JK n w
    have hfie: ∀ w,ax Tryz.prog 307 [.agg (cj n).toArray] w (.int .i64 0):=fun w=>hfe ▸ wU n w
    refine y5 .hd fun hr1 hr2 hr3=> ?_
    repeat' (first|(apply ak;exact rfl;apply aj;exact rfl;exact rfl;exact hlt)|(apply ak;exact rfl;apply aA;exact rfl;exact hrn;exact rfl)|(apply ak;exact rfl;apply dE;exact rfl;exact rfl;(simp only [maxLen];omega))|(apply aa;exact rfl;exact rfl;(intro w hm;exact hfie w))|(apply aa;exact rfl;exact rfl;(intro w hm;exact hbel w))|(apply gN (id:=9);kernel_rfl;kernel_rfl)|(apply aK;exact rfl;apply kJ;exact rfl;exact rfl;omega;omega)|(apply ak;exact rfl;apply kJ;exact rfl;exact rfl;omega;omega)|(apply aK;exact rfl;apply lO (hi:=st.length);exact rfl;exact ⟨_,rfl⟩;exact rfl;omega;omega)|(apply dO;exact rfl;exact rfl;(intro w hm;exact KW L n (bp st k) _ _ w (ht'.of_w0 hm) (Ft hm pK (by omega)) (fun p hp=>Nat.lt_trans (hok p (ik hp)).1 hlt) (by rw [jq st k (by omega)];omega)))|refine sT ?_|refine sQ ?_|refine sM fun _=> ?_|(refine sC ?_ ?_<;>intro hb<;>try omega)|(refine sCQ ?_ ?_<;>intro hb<;>try omega)|fail)
    ·
     refine dF (.inl rfl) Tryz.results272 rfl (.drop .hd (.drop .hd (.refl _))) ?_
     rw [hrest,if_pos (Or.inl (by omega))]
     exact ⟨rfl,hinv⟩
    ·
     refine dF (.inl rfl) Tryz.results272 rfl (.drop .hd (.drop .hd (.refl _))) ?_
     rw [hrest,if_pos (Or.inr hb)]
     exact ⟨rfl,hinv⟩
    have hkl:k≤st.length:=by omega
    rw [if_neg (by intro h;rcases h with h|h;(· omega);(· rw [hb] at h;cases h))] at hrest
    repeat' (first|(apply ak;exact rfl;apply kJ;exact rfl;exact rfl;omega;omega)|(apply GQ (hi:=st.length);exact rfl;exact rfl;exact ⟨_,rfl⟩;exact rfl;omega;omega;(intro B hB))|refine sT ?_|refine sM fun _=> ?_|(refine sC ?_ ?_<;>intro hb<;>try omega)|fail)
    rename_i gn gp
    refine aP 3 1 ?_
    have htl:=jq st k hkl
    refine D0 (fun (j:Nat) s H=> ∃ A2 cap2,s= [(0,.slice (some ⟨gt,ot,none⟩) L.length ct),(1,.func (.func f) #[] caps.toArray),(5,sl A st.length cap),(6,.int .i64 (i:Int)),(9,.int .i64 (k:Int)),(10,.pointer (some ⟨gp,0,none⟩)),(11,sl A2 j cap2),
      (14,.slice (some ⟨gt,ot,none⟩) L.length ct),(15,.int .i64 (L.length:Int)),(16,.int .i64 (i:Int)),(54,.slice B (st.length - (st.length - k)) (cap - (st.length - k))),(55,.int .i64 ((st.length - (st.length - k):Nat):Int)),(56,.int .i64 (j:Int))]∧
      H= .own A2 3 1 j cap2 (((bp st k).take j).map fun p=> .int .i64 (p.root:Int)):: .box gp 394 [.int .i64 (i:Int),.int .i64 (ck ((bp st k).take j):Int),.bool (decide (n.kind=3))]:: .own A 394 3 st.length cap (st.flatMap qR)::Hv∧j≤k) (fun j=>k - j) 0 ?_ ?_
    ·
     refine ⟨_,_,?_,?_,⟨none,0,rfl,rfl,by omega⟩⟩
     ·
      exact sB
     ·
      exact mS
    ·
     rintro j _ _ ⟨A2,cap2,rfl,rfl,hjk⟩
     by_cases hj:j<k
     ·
      refine gx (.tl (.tl .hd)) (by omega) fun gs hA=> ?_
      subst hA
      obtain rfl:B=some ⟨gs,0+(st.length - k)*3,none⟩:=by rw [hB,if_neg (by omega)];simp [cH]
      have hjt:j<(bp st k).length:=by omega
      have he:((st.flatMap qR).drop (0+(st.length - k)*3+j*3)).take 3=qR (bp st k)[j]:=by
       rw [show 0+(st.length - k)*3+j*3=(st.length - k+j)*3 by rw [P6];omega,fw nH st _ (by omega)]
       simp [bp]
      have hd32:(bp st k)[j].depth≤32:=(hok _ (ik (OD hjt))).2
      repeat' (first|(apply ak;exact rfl;apply aj;exact rfl;exact rfl;omega)|(apply ak;exact rfl;apply y9;exact rfl;exact pK;exact he;exact rfl)|(apply ak;exact rfl;apply dg;exact rfl;exact rfl;(simp only [maxLen];omega))|(apply ak;exact rfl;apply BX;exact rfl;exact rfl)|(apply cR;(iterate 3 exact rfl);(repeat first|exact .hd|apply Sel.tl|apply In.tl);(intro w hm;exact hm.cells_own (by (repeat first|exact .hd|apply Sel.tl|apply In.tl)));exact rfl;(simp [Value.oneCell',sl]);omega;(simp only [maxLen];omega);(intro A' cap' hA'))|refine sT ?_|refine sM fun _=> ?_|(refine sC ?_ ?_<;>intro hb<;>try omega)|fail)
      have hk1:((bp st k).take (j+1)).map (fun p=>Value.int .i64 (p.root:Int))=((bp st k).take j).map (fun p=>Value.int .i64 (p.root:Int))++ [.int .i64 ((bp st k)[j].root:Int)]:=by
       rw [NT hjt,Pb];rfl
      refine ⟨j+1,_,_,?_,?_,?_,⟨A',cap',rfl,rfl,hj⟩⟩
      ·
       omega
      ·
       exact sB
      ·
       rw [hk1,qi _ _ hjt]
       exact mS
     ·
      have e:j=k:=by omega
      subst e
      have htk:(bp st j).take j=bp st j:=N9 (by omega)
      rw [htk]
      have hd33:=kU (bp st j) fun p hp=>(hok p (ik hp)).2
      repeat' (first|refine sT ?_|refine sM fun _=> ?_|(refine sC ?_ ?_<;>intro hb<;>try omega)|fail)
      ·
       refine dF (.inl rfl) Tryz.results272 rfl (.drop .hd (.drop .hd (.drop .hd (.refl _)))) ?_
       rw [hrest,if_pos (by omega)]
       exact ⟨rfl,hinv⟩
      rw [if_neg (by omega)] at hrest
      refine G3 (.tl (.tl .hd)) (st.length - j) (by omega) ?_
      refine jp 10 rfl (by kernel_rfl) ?_
      ((with_reducible apply aO (i:=0));exact rfl;exact rfl;decide+kernel;decide+kernel;decide+kernel;exact nP;(intro _ _;exact vP))
      ((with_reducible apply aO (i:=1));exact rfl;exact rfl;decide+kernel;decide+kernel;decide+kernel;exact nP;(intro _ _;exact vP))
      ((with_reducible apply aO (i:=2));exact rfl;exact rfl;decide+kernel;decide+kernel;decide+kernel;exact nP;(intro _ _;exact vP))
      ((with_reducible apply aO (i:=3));exact rfl;exact rfl;decide+kernel;decide+kernel;decide+kernel;exact nP;(intro _ _;exact vP))
      ((with_reducible apply aO (i:=4));exact rfl;exact rfl;decide+kernel;decide+kernel;decide+kernel;exact nP;(intro _ _;exact vP))
      ((with_reducible apply aO (i:=5));exact rfl;exact rfl;decide+kernel;decide+kernel;decide+kernel;exact nP;(intro _ _;exact vP))
      repeat' (first|(apply aD (i:=6);exact rfl;decide+kernel)|(apply aD (i:=7);exact rfl;decide+kernel)|(apply aD (i:=8);exact rfl;decide+kernel)|(apply aD (i:=9);exact rfl;decide+kernel)|(apply jo;decide+kernel)|(apply cR;(iterate 3 exact rfl);(repeat first|exact .hd|apply Sel.tl|apply In.tl);(intro w hm;exact hm.cells_own (by (repeat first|exact .hd|apply Sel.tl|apply In.tl)));exact rfl;(simp [Value.oneCell',sl]);omega;(simp only [maxLen];omega);(intro A' cap' hA'))|refine sT ?_|refine sM fun _=> ?_|(refine sC ?_ ?_<;>intro hb<;>try omega)|fail)
      have hcont:(st.flatMap qR).take ((st.length - j)*3)++ [.int .i64 (i:Int),.int .i64 (ck (bp st j):Int),.bool (decide (n.kind=3))]=(st.take (st.length - j)++ [(⟨i,ck (bp st j),decide (n.kind=3)⟩:Pt)]).flatMap qR:=by
       rw [jF nH,NR];rfl
      have hvis:=hV vs ((bp st j).map Pt.root) (ck (bp st j)) A2 cap2 Hv [.own A' 394 3 (st.length - j+1) cap' ((st.take (st.length - j)++ [(⟨i,ck (bp st j),decide (n.kind=3)⟩:Pt)]).flatMap qR)] hinv (by rw [OV];omega) (by omega) (by intro q hq;obtain ⟨p,hp,rfl⟩:=Pu.1 hq;rw [hvl];exact (hok p (ik hp)).1)
      simp only [OV,htl,hvl,QE] at hvis
      rw [hcont]
      (with_reducible apply lc)
      ·
       exact rfl
      ·
       exact rfl
      ·
       infer_instance
      ·
       exact rfl
      ·
       refine hvis.msub ?_
       refine MSub.pick (T:=_) pK (MSub.snoc pK ?_)
       exact mS
      rintro v H' ⟨H1,hI1,hM1⟩
      repeat' (first|(apply ak;exact rfl;apply dg;exact rfl;exact rfl;(simp only [maxLen];omega))|refine sT ?_|refine sM fun _=> ?_|(refine sC ?_ ?_<;>intro hb<;>try omega)|fail)
      refine ⟨i+1,_,_,?_,?_,?_,⟨st.take (st.length - j)++ [(⟨i,ck (bp st j),decide (n.kind=3)⟩:Pt)],vs++ [((bp st j).map Pt.root,ck (bp st j))],A',cap',H1,rfl,rfl,⟨?_,?_,?_,?_,?_,?_⟩⟩⟩
      ·
       omega
      ·
       have e1:(st.take (st.length - j)++ [(⟨i,ck (bp st j),decide (n.kind=3)⟩:Pt)]).length=st.length - j+1:=by simp
       rw [e1]
       exact sB
      ·
       have e1:(st.take (st.length - j)++ [(⟨i,ck (bp st j),decide (n.kind=3)⟩:Pt)]).length=st.length - j+1:=by simp
       rw [e1]
       exact hM1.rot
      ·
       omega
      ·
       simp [hvl]
      ·
       exact hI1
      ·
       exact hrest
      ·
       intro p hp
       rcases Ol.1 hp with hp|hp
       ·
        exact ⟨Nat.lt_succ_of_lt (hok p (OO hp)).1,(hok p (OO hp)).2⟩
       ·
        have e:p=⟨i,ck (bp st j),decide (n.kind=3)⟩:=by simpa using hp
        subst e
        exact ⟨PQ i,by show ck (bp st j)≤32;omega⟩
      ·
       simp;omega
   ·
    have hfie: ∀ w,ax Tryz.prog 307 [.agg (cj n).toArray] w (.int .i64 (cV n)):=fun w=>wU n w
    rw [if_pos hfe] at hrest
    repeat' (first|(apply ak;exact rfl;apply aj;exact rfl;exact rfl;exact hlt)|(apply ak;exact rfl;apply aA;exact rfl;exact hrn;exact rfl)|(apply aa;exact rfl;exact rfl;(intro w hm;exact hfie w))|refine sT ?_|refine sM fun _=> ?_|(refine sC ?_ ?_<;>intro hb<;>try omega)|fail)
    refine dF (.inl rfl) Tryz.results272 rfl (.drop .hd (.drop .hd (.refl _))) ?_
    rw [hrest]
    exact ⟨rfl,hinv⟩
  ·
   have e:i=L.length:=by omega
   subst e
   rw [NW,iV] at hrest
   repeat' (first|refine sT ?_|refine sM fun _=> ?_|(refine sC ?_ ?_<;>intro hb<;>try omega)|fail)
   ·
    refine dF (.inl rfl) Tryz.results272 rfl (.drop .hd (.refl _)) ?_
    rw [hrest,if_neg (by omega)]
    exact ⟨rfl,hinv⟩
   ·
    refine dF (.inl rfl) Tryz.results272 rfl (.drop .hd (.refl _)) ?_
    rw [hrest,if_pos (by omega)]
    exact ⟨rfl,hinv⟩
def nJ (L:List Nd) (wide:Bool):Int × List nO:=
 if 256<L.length then (5,[]) else if L.length=0 then (4,[])
 else if (iV L L 0 [] []).1≠0 then iV L L 0 [] []
 else if wide=false∧kQ L (L.length - 1)=3 then (4,(iV L L 0 [] []).2) else (0,(iV L L 0 [] []).2)
set_option maxHeartbeats 2000000 in
theorem JE (L:List Nd) (wide:Bool) (tv:Value) (w0:World) (ht:Reads w0 tv L.length (L.flatMap cj)) (f:FuncId) [hf:Callable Tryz.prog f] (caps:List Value) (Inv:List nO→List Blk→Prop) (hV:DD L.length w0 f caps Inv)
  (H:List Blk) (hI:Inv [] H):FnIn Tryz.prog 223 [tv,.bool wide,.func (.func f) #[] caps.toArray] w0 H fun v H' =>v= .int .i64 (nJ L wide).1∧Inv (nJ L wide).2 H' :=by
 have ht' :=ht
 obtain ⟨At,ct,rfl,ht1,ht2,ht3⟩:=ht
 refine eC Tryz.func223 rfl Tryz.ntmps223 rfl ?_
 by_cases h256:256<L.length
 ·
  repeat' (first|refine sT ?_|refine sM fun _=> ?_|(refine sC ?_ ?_<;>intro hb<;>try omega)|fail)
  refine dF (.inl rfl) Tryz.results223 rfl (.refl _) ?_
  rw [nJ,if_pos h256]
  exact ⟨rfl,hI⟩
 by_cases h0:L.length=0
 ·
  repeat' (first|refine sT ?_|refine sM fun _=> ?_|(refine sC ?_ ?_<;>intro hb<;>try omega)|fail)
  refine dF (.inl rfl) Tryz.results223 rfl (.refl _) ?_
  rw [nJ,if_neg h256,if_pos h0]
  exact ⟨rfl,hI⟩
 obtain ⟨gt,ot,rfl,hrt⟩:=ht3 (by omega)
 have hw:=Fa L (by omega) (by omega) _ w0 ht' f caps Inv hV H hI
 have hrl:=hrt.elem fX (L.length - 1) (by omega)
 have hk:kQ L (L.length - 1)=(L[L.length - 1]'(by omega)).kind:=iB _
 simp only [nJ,if_neg h256,if_neg h0,hk]
 generalize iV L L 0 [] []=r at hw
 generalize (L[L.length - 1]'(by omega))=nl at hrl
 repeat' (first|(apply aw;exact rfl;exact rfl;exact hw;(rintro v H' ⟨rfl,hI'⟩))|(apply ak;exact rfl;apply dM;exact rfl;exact rfl;omega;omega)|(apply ak;exact rfl;apply aj;exact rfl;exact rfl;omega)|(apply ak;exact rfl;apply cI (off:=0);exact rfl;exact hrl;exact rfl)|refine sT ?_|refine sM fun _=> ?_|(refine sC ?_ ?_<;>intro hb<;>try omega)|fail)
 all_goals refine dF (.inl rfl) Tryz.results223 rfl (.refl _) ?_
 all_goals simp_all
theorem tz (N:Nat) (w0:World) (H0:List Blk):DD N w0 224 [] fun _ H=>H=H0:=by
 rintro vs kids d A cap _ F rfl _ _ _
 refine eC Tryz.func224 rfl Tryz.ntmps224 rfl ?_
 repeat' (first|refine sT ?_|refine sM fun _=> ?_|(refine sC ?_ ?_<;>intro hb<;>try omega)|fail)
 refine iX (.inr rfl) Tryz.results224 (.drop .hd (.refl _)) ⟨_,rfl,.refl _⟩
def kV (L:List Nd):Int:=(nJ L false).1
theorem JX (L:List Nd) (tv:Value) (w:World) (ht:Reads w tv L.length (L.flatMap cj)):ax Tryz.prog 180 [tv] w (.int .i64 (kV L)):=by
 have ht' :=ht
 obtain ⟨At,ct,rfl,ht1,ht2,ht3⟩:=ht
 refine aq Tryz.func180 rfl Tryz.ntmps180 rfl ?_
 have hw:=JE L false _ w ht' 224 [] (fun _ H=>H= []) (tz _ w []) [] rfl
 repeat' (first|(apply aw;exact rfl;exact rfl;exact hw;(rintro v H' ⟨rfl,rfl⟩))|refine sT ?_|refine sM fun _=> ?_|(refine sC ?_ ?_<;>intro hb<;>try omega)|fail)
 (refine rT1 ?_)
 rfl
def EM (vs:List nO):Nat:=(vs.getLast?.map (·.2)).getD 0
def nI (L:List Nd):Int × Int:=if kV L≠0 then (0,kV L) else ((EM (nJ L false).2:Nat),0)
theorem iT {α:Type} [DecidableEq α] {L M:List α} {i:Nat} (h1:i<L.length) (h2:i<M.length):decide (L.drop i=M.drop i)=(decide (L[i]=M[i]) && decide (L.drop (i+1)=M.drop (i+1))):=by
 rw [NL h1,NL h2]
 simp only [List.cons.injEq,Bool.decide_and]
end Go.SL
