/-
  Lemmas and walks, put together: A1 C2 D5 C3 D9 C4 A3.
-/
import Derived.Test.YtoanpdoacdpgeaaGreatDoorKo09
import Derived.Test.YtoanpdoacdpgeaaGreatDoorKo10
set_option linter.unusedSimpArgs false
set_option linter.unusedVariables false
set_option maxRecDepth 20000
namespace Go.SL
open Go Go.Proofs
attribute [local irreducible] W WL WQ WG WA VOp thn blk bp aR aF FnIn
theorem Mj {c:Int} (h1:48≤c) (h2:c≤57):aG c=true:=by simp [aG,h1,h2]
theorem N8 {c:Int} (h:c<48):aG c=false:=by simp [aG];omega
theorem N9 {c:Int} (h:57<c):aG c=false:=by simp [aG];omega
set_option maxRecDepth 10000 in
theorem zk (a:ByteArray) (ha:a.size≤1000000) (w:World):aA Tryz.prog 219 [.string a] w (.int .i64 (aD aG (ap a):Int)):=by
 refine aq Tryz.func219 rfl Tryz.ntmps219 rfl ?_
 have hl:=au a
 repeat' (first|refine sT ?_|refine sT2 ?_|refine sM fun _=> ?_|(refine sC ?_ ?_<;>intro hb<;>try omega)|exact cT|fail)
 refine fD (fun i:Nat=> [(0,.string a),(5,.int .i64 (a.size:Int)),(6,.int .i64 (i:Int))]) (fun _=> []) (fun i=>i≤a.size∧aD aG (ap a)=i+aD aG ((ap a).drop i)) (fun i=>a.size - i) 0 ⟨by omega,by simp⟩ sB mS ?_
 rintro i ⟨hi,hr⟩
 by_cases hlt:i<a.size
 ·
  have hs1:=bk hlt
  rw [hs1] at hr
  simp only [aD] at hr
  repeat' (first|refine sT ?_|refine sT2 ?_|refine sN ?_|refine sM fun _=> ?_|(refine sC ?_ ?_<;>intro hb<;>try omega)|exact cT|fail)
  ·
   (refine rT1 ?_)
   rw [hr,N8 hb];simp
  ·
   (refine rT1 ?_)
   rw [hr,N9 hb];simp
  ·
   rename_i h1
   rw [Mj h1 hb] at hr
   exact ⟨i+1,⟨hlt,by rw [hr];simp;omega⟩,by omega,by exact sB,by exact mS⟩
 ·
  have e:i=a.size:=by omega
  subst e
  repeat' (first|refine sT ?_|refine sT2 ?_|refine sM fun _=> ?_|(refine sC ?_ ?_<;>intro hb<;>try omega)|exact cT|fail)
  (refine rT1 ?_)
  rw [hr,RE (by omega)];simp [aD]
def jJ (hi lo:Int) (neg:Bool):Int × Bool:=if hi≠0∨cK<lo then (0,false) else (if neg then -lo else lo,true)
theorem qH {v:Int} (h1:0≤v) (h2:v≤cK):IntKind.i64.wrap v=v:=I64.wrap ⟨by omega,by simpa [cK] using h2⟩
set_option maxRecDepth 10000 in
theorem IU (hi lo:Int) (neg:Bool) (h0:0≤lo) (w:World):aA Tryz.prog 220 [.int .u64 hi,.int .u64 lo,.bool neg] w (.tuple #[.int .i64 (jJ hi lo neg).1,.bool (jJ hi lo neg).2]):=by
 refine aq Tryz.func220 rfl Tryz.ntmps220 rfl ?_
 by_cases hh:hi=0
 ·
  by_cases hl:lo≤cK
  ·
   have hw:=qH h0 hl
   have hm:cK=9223372036854775807:=rfl
   have e:jJ hi lo neg=(if neg then -lo else lo,true):=by rw [jJ,if_neg (by omega)]
   rw [e]
   subst hh
   cases neg
   ·
    repeat' (first|(apply ak;exact rfl;apply bU;exact rfl;exact hw)|refine sT ?_|refine sM fun _=> ?_|(refine sC ?_ ?_<;>intro hb<;>try omega)|exact cT|fail)
    all_goals first|(exfalso;omega)|((refine rT2 ?_);rfl)
   ·
    repeat' (first|(apply ak;exact rfl;apply bU;exact rfl;exact hw)|(apply ak;exact rfl;apply OH;exact rfl;exact ⟨by omega,by omega⟩)|refine sT ?_|refine sM fun _=> ?_|(refine sC ?_ ?_<;>intro hb<;>try omega)|exact cT|fail)
    all_goals first|(exfalso;omega)|((refine rT2 ?_);rfl)
  ·
   have hm:cK=9223372036854775807:=rfl
   have e:jJ hi lo neg=(0,false):=by rw [jJ,if_pos (by omega)]
   rw [e]
   repeat' (first|refine sT ?_|refine sM fun _=> ?_|(refine sC ?_ ?_<;>intro hb<;>try omega)|exact cT|fail)
   all_goals first|(exfalso;omega)|((refine rT2 ?_);rfl)
 ·
  have e:jJ hi lo neg=(0,false):=by rw [jJ,if_pos (.inl hh)]
  rw [e]
  repeat' (first|refine sT ?_|refine sM fun _=> ?_|(refine sC ?_ ?_<;>intro hb<;>try omega)|exact cT|fail)
  all_goals first|(exfalso;omega)|((refine rT2 ?_);rfl)
theorem vU (u:Int) (neg:Bool) (h0:0≤u) (h1:u≤cK) (w:World):aA Tryz.prog 220 [.int .u64 0,.int .u64 u,.bool neg] w (.tuple #[.int .i64 (if neg then -u else u),.bool true]):=by
 have h:=IU 0 u neg h0 w
 rwa [jJ,if_neg (by omega)] at h
theorem qq: ∀ (l:List Int) (v c:Int),bD (l++ [c]) v=10*bD l v+(c - 48)
 | [],_,_=>rfl
 |d::r,v,c=>by simp only [QU,bD];exact qq r _ c
theorem lT: ∀ (l:List Int) {v:Int},(∀ c∈l,48≤c)→0≤v→v≤bD l v
 | [],_,_,_=>SQ _
 |c::r,v,h,h0=>by
  have h1:=h c QY
  have:=lT r (v:=10*v+(c - 48)) (fun d hd=>h d (Rq _ hd)) (by omega)
  simp only [bD];omega
theorem rD (l m:List Int) (v:Int):bD (l++m) v=bD m (bD l v):=by
 induction l generalizing v with
 |nil=>rfl
 |cons c l ih=>simp only [QU,bD,ih]
def gQ (l0:List Int):Int × Int:=
 let neg:=decide (l0.head? =some 45)
 let l:=if neg then l0.tail else l0
 let n:=aD aG l
 let rest:=l.drop n
 let frac:=decide (1<rest.length) && (decide (rest.head? =some 46) && decide (aD aG rest.tail+1=rest.length))
 let p5:=(if frac then rest.tail else [])++ [48,48,48,48,48]
 if n=0∨(frac=false∧rest≠ []) then (0,4)
 else
  let v:=bD (l.take n++p5.take 4) 0+(if 53≤p5.getD 4 0 then 1 else 0)
  if cK<v then (0,3) else (if neg then -v else v,0)
theorem rJ (a:ByteArray) (c:Int):((ap a).head? =some c)↔(0<a.size∧bat a 0=c):=by
 by_cases h:0<a.size
 ·
  have:=bk h
  rw [SG] at this
  rw [this];simp [h]
 ·
  have:ap a= []:=by rw [← SR,au];omega
  rw [this];simp;omega
set_option maxRecDepth 10000 in
theorem uu (a:ByteArray) (ha:a.size≤1000000) (w:World):aA Tryz.prog 172 [.string a] w (.tuple #[.int .i64 (gQ (ap a)).1,.int .i64 (gQ (ap a)).2]):=by
 refine aq Tryz.func172 rfl Tryz.ntmps172 rfl ?_
 have hl:=au a
 generalize hneg:decide ((ap a).head? =some 45)=neg
 generalize hls:(if neg then (ap a).tail else ap a)=ls
 have hb0:=rJ a 45
 repeat' (first|(refine sv (id:=1) (ι:=Bool) (fun b=> [(0,.string a),(4,.bool b)]) (fun _=> []) (fun b=>neg=b) ?_ ?_)|refine sT ?_|refine sT2 ?_|refine sM fun _=> ?_|(refine sC ?_ ?_<;>intro hb<;>try omega)|exact cT|fail)
 ·
  (apply cG;rotate_left 1;exact sB;exact mS)
  rw [← hneg,decide_eq_decide,hb0]
  simp;omega
 ·
  (apply cG;rotate_left 1;exact sB;exact mS)
  rw [← hneg,decide_eq_false_iff_not,hb0]
  omega
 rintro _ rfl
 repeat' (first|(refine zK (id:=2) (ι:=ByteArray) (fun b=> [(0,.string b),(4,.bool neg)]) (fun _=> []) (fun b=>ap b=ls∧b.size≤a.size) ?_ ?_)|refine sT ?_|refine sT2 ?_|refine sM fun _=> ?_|(refine sC ?_ ?_<;>intro hb<;>try omega)|exact cT|fail)
 ·
  have h1:0<a.size:=(hb0.1 (of_decide_eq_true (hneg.trans hb))).1
  repeat' (first|refine sT ?_|refine sT2 ?_|refine sM fun _=> ?_|(refine sC ?_ ?_<;>intro hb<;>try omega)|exact cT|fail)
  (apply cG;rotate_left 1;exact sB;exact mS)
  rw [← hls,hb,o7,cw _ (Re _)]
  simp
 ·
  (apply cG;rotate_left 1;exact sB;exact mS)
  rw [← hls,hb]
  simp
 rintro b ⟨hbl,hbs⟩
 have hlb:=au b
 rw [hbl] at hlb
 have hdl:=bY aG ls
 generalize hn:aD aG ls=n at hdl
 generalize hrest:ls.drop n=rest
 generalize hfr:(decide (1<rest.length) && (decide (rest.head? =some 46) && decide (aD aG rest.tail+1=rest.length)))=fr
 have hcd:=zk b (by omega)
 rw [hbl,hn] at hcd
 have hb1:=rJ (sub b n b.size) 46
 have hs1:=cw b (lo:=n) (Re b.size)
 have hr1:ap (sub b n b.size)=rest:=by rw [o7,hbl,hrest]
 generalize hz:sub b n b.size=z at hb1 hs1 hr1
 have hrl:rest.length=z.size:=by rw [← hr1,au]
 have e1:ap (sub z 1 z.size)=rest.tail:=by rw [o7,hr1,List.drop_one]
 rw [hr1] at hb1
 have hcd2:=fun h=>zk (sub z 1 z.size) h
 repeat' (first|(refine sv (id:=7) (ι:=Bool) (fun x=> [(4,.bool neg),(5,.int .i64 (n:Int)),(6,.string (sub b 0 n)),(7,.string z),(8,.string av),(50,.bool x)]) (fun _=> []) (fun x=>fr=x) ?_ ?_)|(apply aa;exact rfl;exact rfl;(intro w hm;exact hcd w))|(apply aa;exact rfl;exact rfl;(intro w hm;exact hcd2 (by rw [cw _ (Re _)];omega) w))|(rw [hz])|refine sT ?_|refine sQ ?_|refine sT2 ?_|refine sQ2 ?_|refine sN ?_|refine sNQ ?_|refine sD ?_|refine sM fun _=> ?_|(refine sC ?_ ?_<;>intro hb<;>try omega)|(refine sCQ ?_ ?_<;>intro hb<;>try omega)|exact cT|fail)
 ·
  (apply cG;rotate_left 1;exact sB;exact mS)
  rename_i h1
  rw [e1,← hfr,decide_eq_true (by omega:1<rest.length),decide_eq_true (hb1.2 ⟨by omega,hb⟩)]
  simp only [RX,decide_eq_decide]
  omega
 ·
  (apply cG;rotate_left 1;exact sB;exact mS)
  rw [← hfr,decide_eq_false (fun h=>hb (hb1.1 h).2)]
  simp
 ·
  (apply cG;rotate_left 1;exact sB;exact mS)
  rw [← hfr,decide_eq_false (by omega)]
  rfl
 rintro _ rfl
 have hf1:fr=true→1≤z.size:=fun h=>by
  rw [← hfr] at h
  simp at h
  omega
 have hf2:fr=false→((z=av)↔rest= []):=fun _=>by rw [← LR,hr1]
 have hbl2:b.size≤1000000:=by omega
 refine qb (ι:=ByteArray × ByteArray) (fun x=> [(4,.bool neg),(5,.int .i64 (n:Int)),(6,.string (sub b 0 n)),(7,.string x.1),(8,.string x.2)]) (fun _=> []) (fun x=>ap x.2=(if fr then rest.tail else [])∧((x.1=av)↔(fr=true∨rest= []))∧x.2.size≤a.size) ?_ ?_
 ·
  cases fr
  ·
   repeat' (first|refine sT ?_|refine sT2 ?_|refine sM fun _=> ?_|(refine sC ?_ ?_<;>intro hb<;>try omega)|exact cT|fail)
   refine cG ((z,av)) ?_ sB mS
   exact ⟨rfl,by rw [hf2 rfl];simp,Rd _⟩
  ·
   have h1:=hf1 rfl
   repeat' (first|refine sT ?_|refine sT2 ?_|refine sM fun _=> ?_|(refine sC ?_ ?_<;>intro hb<;>try omega)|exact cT|fail)
   refine cG ((av,sub z 1 z.size)) ?_ sB mS
   exact ⟨by rw [e1];rfl,by simp [av],by rw [cw _ (Re _)];omega⟩
 rintro ⟨z',pl⟩ ⟨h1,h2,h3⟩
 dsimp only at*
 generalize hp5:(if fr then rest.tail else [])++ [48,48,48,48,48]=p5
 have hpl:ap (pl++⟨#[48,48,48,48,48]⟩)=p5:=by rw [gY,h1,← hp5];rfl
 have hpz:(pl++⟨#[48,48,48,48,48]⟩:ByteArray).size=pl.size+5:=by rw [Tm];rfl
 generalize hqd:(pl++⟨#[48,48,48,48,48]⟩:ByteArray)=q at hpl hpz
 have hres:gQ (ap a)=if n=0∨(fr=false∧rest≠ []) then (0,4) else if cK<bD (ls.take n++p5.take 4) 0+(if 53≤p5.getD 4 0 then 1 else 0) then (0,3) else (if neg then -(bD (ls.take n++p5.take 4) 0+(if 53≤p5.getD 4 0 then 1 else 0)) else bD (ls.take n++p5.take 4) 0+(if 53≤p5.getD 4 0 then 1 else 0),0):=by
  unfold gQ
  rw [hneg]
  dsimp only
  rw [hls,hn,hrest,hfr,hp5]
 rw [hres]
 by_cases herr:n=0∨(fr=false∧rest≠ [])
 ·
  rw [if_pos herr]
  repeat' (first|refine sT ?_|refine sT2 ?_|refine sM fun _=> ?_|(refine sC ?_ ?_<;>intro hb<;>try omega)|exact cT|fail)
  ·
   (refine rT2 ?_)
   rfl
  ·
   (refine rT2 ?_)
   rfl
  ·
   exfalso
   have hz' :z' =av:=Decidable.not_not.1 hb
   have:=h2.1 hz'
   rcases herr with h|⟨h,h'⟩
   ·
    omega
   ·
    rcases this with h4|h4
    ·
     rw [h] at h4;cases h4
    ·
     exact h' h4
 ·
  rw [if_neg herr]
  generalize hL:ls.take n++p5.take 4=L
  have hp5l:p5.length=pl.size+5:=by rw [← hpl,au,hpz]
  have hy:ap (sub b 0 n++sub q 0 4)=L:=by rw [gY,uU,uU,hbl,hpl,hL]
  have hyz:(sub b 0 n++sub q 0 4:ByteArray).size=n+4:=by rw [Tm,cw _ (by omega),cw _ (by omega)];omega
  generalize hyd:(sub b 0 n++sub q 0 4:ByteArray)=y at hy hyz
  have hyl:L.length=y.size:=by rw [← hy,au]
  have hdig: ∀ c∈L,48≤c∧c≤57:=by
   have hall: ∀ (l:List Int) (c:Int),c∈l.take (aD aG l)→48≤c∧c≤57:=fun l c hc=>by
    obtain ⟨j,hj,rfl⟩:=SW hc
    simp only [RF] at hj
    have h:=j9 (p:=aG) l j (l[j]'(by omega)) (by omega) (QV _)
    simp only [List.getElem_take]
    simpa [aG] using h
   intro c hc
   rw [← hL] at hc
   rcases Ru.1 hc with hc|hc
   ·
    rw [← hn] at hc;exact hall ls c hc
   ·
    have hc:=Sy hc
    rw [← hp5] at hc
    rcases Ru.1 hc with hc|hc
    ·
     cases hc1:fr
     ·
      rw [hc1] at hc;cases hc
     ·
      rw [hc1] at hc
      simp only [if_true] at hc
      have h7:aD aG rest.tail=rest.tail.length:=by
       rw [hc1] at hfr
       simp only [Rk,decide_eq_true_eq] at hfr
       rw [TZ];omega
      have:=hall rest.tail c (by rw [h7,RJ];exact hc)
      exact this
    ·
     simp at hc;omega
  have hq4:bat q 4=p5.getD 4 0:=by rw [bat,hpl]
  have hm0:cK=9223372036854775807:=rfl
  repeat' (first|(apply ak (d:=60);exact rfl;apply jV;exact rfl;exact rfl;exact hqd;(show pl.size+5≤_;omega))|(apply ak (d:=64);exact rfl;apply jV;exact rfl;exact rfl;exact hyd;(rw [cw _ (by omega),cw _ (by omega)];omega))|(apply l9;exact rfl;exact rfl;intro gb cap)|refine sT ?_|refine sT2 ?_|refine sM fun _=> ?_|(refine sC ?_ ?_<;>intro hb<;>try omega)|exact cT|fail)
  ·
   exfalso
   refine herr (.inr ?_)
   have h4: ¬ (fr=true∨rest= []):=fun h=>hb (h2.2 h)
   cases hc:fr
   ·
    exact ⟨rfl,fun h=>h4 (.inr h)⟩
   ·
    exact absurd (.inl hc) h4
  have hup: ∀ i,i≤L.length→cK<bD (L.take i) 0→cK<bD L 0:=fun i hi h=>by
   have e:L=L.take i++L.drop i:=(Ss i L).symm
   rw [e,rD]
   have h0:0≤bD (L.take i) 0:=lT _ (fun c hc=>(hdig c (Sy hc)).1) (SQ _)
   have:=lT (L.drop i) (v:=bD (L.take i) 0) (fun c hc=>(hdig c (Th hc)).1) h0
   omega
  refine aw [4,8,65,66] rfl (fun x:Nat × Int × Bool=> [(9,.int .u64 x.2.1),(10,.bool x.2.2),(67,.int .i64 (x.1:Int))]) (fun _=> [.byt gb 5 y.size cap (oI y)]) (fun x=>x.1≤L.length∧0≤x.2.1∧x.2.1<18446744073709551616∧(x.2.2=false→x.2.1=bD (L.take x.1) 0∧x.2.1≤cK)∧(x.2.2=true→cK<bD (L.take x.1) 0)) (fun x=>L.length - x.1) (0,0,false) ⟨Rd _,SQ _,by decide,fun _=>⟨rfl,by decide⟩,fun h=>by cases h⟩ sB mS ?_
  rintro ⟨i,v,gr⟩ ⟨hi,hv0,hv1,hg0,hg1⟩
  dsimp only at hi hv0 hv1 hg0 hg1 ⊢
  by_cases hlt:i<L.length
  ·
   have hiy:i<y.size:=by omega
   have hge:L[i]? =some L[i]:=QV hlt
   have hci:=hdig L[i] (RN hlt)
   have hsn:bD (L.take (i+1)) 0=10*bD (L.take i) 0+(L[i] - 48):=by rw [Ra hlt,qq]
   generalize L[i]=c at hge hci hsn
   have hget:(oI y)[0+i*1]? =some (.int .u8 c):=by rw [pw,hy,RZ,show 0+i*1=i by omega,hge];rfl
   have hwc:IntKind.u8.wrap (c - 48)=c - 48:=wrap_u8 (by omega) (by omega)
   have hwc2:IntKind.u64.wrap (c - 48)=c - 48:=by simp [IntKind.wrap,IntKind.bits,IntKind.signed];omega
   obtain ⟨v',hadd,hv2,hv3,hv4⟩: ∃ v',IntKind.u64.wrap (IntKind.u64.wrap (10*v)+(c - 48))=v' ∧0≤v' ∧v' <18446744073709551616∧(v≤922337203685477580→v' =10*v+(c - 48)):=by
    refine ⟨_,rfl,?_⟩
    simp only [IntKind.wrap,IntKind.bits,IntKind.signed]
    simp
    omega
   have hn0:0≤bD (L.take i) 0:=lT _ (fun c hc=>(hdig c (Sy hc)).1) (SQ _)
   cases gr
   ·
    obtain ⟨hg2,hg3⟩:=hg0 rfl
    repeat' (first|(apply ak;exact rfl;apply aj;exact rfl;exact rfl;exact hiy)|(apply ak;exact rfl;apply j8;exact rfl;exact .hd;exact hget)|(apply ak (d:=74);exact rfl;apply EJ;exact rfl;exact rfl)|(apply ak (d:=76);exact rfl;apply dP;exact rfl;exact rfl;exact hwc)|(apply ak (d:=77);exact rfl;apply bU;exact rfl;exact hwc2)|(apply ak (d:=78);exact rfl;apply eG;exact rfl;exact rfl;exact hadd)|refine sT ?_|refine sT2 ?_|refine sN ?_|refine sM fun _=> ?_|(refine sC ?_ ?_<;>intro hb<;>try omega)|exact cT|fail)
    ·
     refine ⟨(i+1,v',true),?_,(by first|omega|(dsimp only;omega)),sB,sB,mS⟩
     exact ⟨hlt,hv2,hv3,(fun h=>by cases h),fun _=>by dsimp only;omega⟩
    ·
     have h5:=hv4 (by omega)
     refine ⟨(i+1,v',decide (cK<v')),⟨hlt,hv2,hv3,fun h=> ?_,fun h=> ?_⟩,(by dsimp only;omega),sB,sB,mS⟩
     ·
      have h6:=of_decide_eq_false h
      exact ⟨by dsimp only;omega,by dsimp only;omega⟩
     ·
      have h6:=of_decide_eq_true h
      dsimp only;omega
   ·
    have hg2:=hg1 rfl
    repeat' (first|(apply ak;exact rfl;apply aj;exact rfl;exact rfl;exact hiy)|(apply ak;exact rfl;apply j8;exact rfl;exact .hd;exact hget)|(apply ak (d:=74);exact rfl;apply EJ;exact rfl;exact rfl)|(apply ak (d:=76);exact rfl;apply dP;exact rfl;exact rfl;exact hwc)|(apply ak (d:=77);exact rfl;apply bU;exact rfl;exact hwc2)|(apply ak (d:=78);exact rfl;apply eG;exact rfl;exact rfl;exact hadd)|refine sT ?_|refine sT2 ?_|refine sN ?_|refine sM fun _=> ?_|(refine sC ?_ ?_<;>intro hb<;>try omega)|exact cT|fail)
    all_goals
     refine ⟨(i+1,v',true),?_,(by first|omega|(dsimp only;omega)),sB,sB,mS⟩
     exact ⟨hlt,hv2,hv3,(fun h=>by cases h),fun _=>by dsimp only;omega⟩
  ·
   have e:i=L.length:=by omega
   subst e
   rw [Sg (Re _)] at hg0 hg1
   generalize bD L 0=N at hg0 hg1 hup ⊢
   have hadd:v≤cK→IntKind.u64.wrap (v+1)=v+1:=fun h=>by simp [IntKind.wrap,IntKind.bits,IntKind.signed];omega
   by_cases h5:53≤p5.getD 4 0
   ·
    rw [if_pos h5]
    cases gr
    ·
     obtain ⟨hg2,hg3⟩:=hg0 rfl
     subst hg2
     by_cases h6:cK<v+1
     ·
      rw [if_pos h6]
      repeat' (first|(apply ak (d:=89);exact rfl;apply eG;exact rfl;exact rfl;exact hadd hg3)|refine sT ?_|refine sT2 ?_|refine sM fun _=> ?_|(refine sC ?_ ?_<;>intro hb<;>try omega)|exact cT|fail)
      all_goals first|(exfalso;omega)|((refine rT2 ?_);rfl)
     ·
      rw [if_neg h6]
      repeat' (first|(apply ak (d:=89);exact rfl;apply eG;exact rfl;exact rfl;exact hadd hg3)|(apply aa;exact rfl;exact rfl;(intro w' hm;exact (vU (v+1) neg (by omega) (by omega) w')))|refine sT ?_|refine sT2 ?_|refine sM fun _=> ?_|(refine sC ?_ ?_<;>intro hb<;>try omega)|exact cT|fail)
      all_goals first|(exfalso;omega)|((refine rT2 ?_);rfl)
    ·
     rw [if_pos (by have:=hg1 rfl;omega)]
     obtain ⟨u,hu⟩: ∃ u,IntKind.u64.wrap (v+1)=u:=⟨_,rfl⟩
     repeat' (first|(apply ak (d:=89);exact rfl;apply eG;exact rfl;exact rfl;exact hu)|refine sT ?_|refine sT2 ?_|refine sM fun _=> ?_|(refine sC ?_ ?_<;>intro hb<;>try omega)|exact cT|fail)
     all_goals first|(exfalso;omega)|((refine rT2 ?_);rfl)
   ·
    rw [if_neg h5,Up]
    cases gr
    ·
     obtain ⟨hg2,hg3⟩:=hg0 rfl
     subst hg2
     rw [if_neg (by omega)]
     repeat' (first|(apply aa;exact rfl;exact rfl;(intro w' hm;exact (vU v neg (by omega) hg3 w')))|refine sT ?_|refine sT2 ?_|refine sM fun _=> ?_|(refine sC ?_ ?_<;>intro hb<;>try omega)|exact cT|fail)
     all_goals first|(exfalso;omega)|((refine rT2 ?_);rfl)
    ·
     rw [if_pos (hg1 rfl)]
     repeat' (first|refine sT ?_|refine sT2 ?_|refine sM fun _=> ?_|(refine sC ?_ ?_<;>intro hb<;>try omega)|exact cT|fail)
     all_goals first|(exfalso;omega)|((refine rT2 ?_);rfl)
end Go.SL
namespace Go.SL
open Go Go.Proofs
attribute [local irreducible] W WL WQ WG WA WX WLI WR WT VOp thn blk bp scp aR ba bE aF FnIn FnP
def At (toks:List Tk) (A:Option Nat) (cap:Nat) (p:PS) (lv:Value):Prop:= ∃ k,k≤toks.length∧p.l=toks.drop k∧p.out.length≤k∧TkV lv A toks.length cap k
section
variable {toks:List Tk} {A:Option Nat} {cap:Nat} {fin:Int} {g:Nat}
def PR (toks:List Tk) (A:Option Nat) (cap:Nat) (fin:Int) (g:Nat) (R:List Blk) (r:Out) (v:Value) (H:List Blk):Prop:=v= .tuple #[]∧ ∃ n p' lv' B' cb',r= .ok (n,p')∧At toks A cap p' lv' ∧H=pB g lv' A cap fin toks B' cb' p'.out++R
def PD (R:List Blk) (r:Out) (v:Value) (H:List Blk):Prop:= ∃ e,r= .error e∧v=AU e∧MSub R H
def POK (f:Nat) (j:Job) (fid:FuncId) (args:List Value):Prop:=
 ∀ (toks:List Tk) (A:Option Nat) (cap:Nat) (fin:Int) (g:Nat) (p:PS) (lv:Value) (B:Option Nat) (cb:Nat) (r:Out) (R:List Blk) (w0:World),toks.length≤cap→toks.length≤1000→At toks A cap p lv→bz fin f j p=some r→
  FnP Tryz.prog fid (.pointer (some ⟨g,0,none⟩)::args) w0 (pB g lv A cap fin toks B cb p.out++R) (PR toks A cap fin g R r) (PD R r)
theorem bG {o:Option Out} {k:Nat→PS→Option Out} {r:Out} (h:fT o k=some r): ∃ r1,o=some r1∧((∃ e,r1= .error e∧r= .error e)∨(∃ n p',r1= .ok (n,p')∧k n p' =some r)):=by
 unfold fT at h
 split at h
 ·
  rename_i n p'
  exact ⟨_,rfl,.inr ⟨n,p',rfl,h⟩⟩
 ·
  rename_i h1
  cases r with
  |error e=>exact ⟨_,h,.inl ⟨e,rfl,rfl⟩⟩
  |ok x=>obtain ⟨n,p'⟩:=x;exact absurd h (h1 n p')
theorem At.head {p:PS} {lv:Value} (h:At toks A cap p lv) {B:Option Nat} {cb:Nat} {out:List Nd} {H:List Blk} {w0:World} (hH:MSub (pB g lv A cap fin toks B cb out) H) (w:World) (hm:Mem w0 w H):
  aA Tryz.prog 177 [.pointer (some ⟨g,0,none⟩)] w (.agg (bi (hdT fin p.l)).toArray):=by
 obtain ⟨k,h1,h2,h3,h4⟩:=h
 rw [h2]
 exact Lj h4 hH w hm
theorem At.is {p:PS} {lv:Value} (h:At toks A cap p lv) (op:Int) {B:Option Nat} {cb:Nat} {out:List Nd} {H:List Blk} {w0:World} (hH:MSub (pB g lv A cap fin toks B cb out) H) (w:World) (hm:Mem w0 w H):
  aA Tryz.prog 303 [.pointer (some ⟨g,0,none⟩),.int .i64 op] w (.bool (decide ((hdT fin p.l).kind=8∧(hdT fin p.l).num=op))):=by
 obtain ⟨k,h1,h2,h3,h4⟩:=h
 rw [h2]
 exact Pv op h4 hH w hm
def At1 (toks:List Tk) (A:Option Nat) (cap:Nat) (p:PS) (lv:Value):Prop:= ∃ k,k≤toks.length∧p.l=toks.drop k∧p.out.length+1≤k∧TkV lv A toks.length cap k
theorem At.skip {p:PS} {lv:Value} (h:At toks A cap p lv) (hc:toks.length≤cap) {c:Int} (hk:(hdT fin p.l).kind=c) (h0:c≠0) {B:Option Nat} {cb:Nat} {out:List Nd} {H R:List Blk} {w0:World} (hH:MSub (pB g lv A cap fin toks B cb out++R) H):
  FnIn Tryz.prog 275 [.pointer (some ⟨g,0,none⟩)] w0 H fun v H=>v= .tuple #[]∧ ∃ lv',At1 toks A cap p.skip lv' ∧H=pB g lv' A cap fin toks B cb out++R:=by
 obtain ⟨k,h1,h2,h3,h4⟩:=h
 have hpos:=jy hk h0
 rw [h2,RC] at hpos
 refine (Li g lv A cap fin toks k h4 (by omega) hc B cb out R w0).msub hH|>.mono ?_
 rintro v H' ⟨rfl,lv',h5,rfl⟩
 exact ⟨rfl,lv',⟨k+1,by omega,by simp only [PS.skip];rw [h2,TE],by simp only [PS.skip];omega,h5⟩,rfl⟩
theorem At1.at {p:PS} {lv:Value} (h:At1 toks A cap p lv):At toks A cap p lv:=let ⟨k,h1,h2,h3,h4⟩:=h;⟨k,h1,h2,by omega,h4⟩
theorem At1.put {p:PS} {lv:Value} (h:At1 toks A cap p lv) (n:Nd):At toks A cap (p.put n) lv:=let ⟨k,h1,h2,h3,h4⟩:=h;⟨k,h1,h2,by simp only [PS.put,QT,QX];exact h3,h4⟩
theorem At.len {p:PS} {lv:Value} (h:At toks A cap p lv) (hl:toks.length≤1000):p.out.length≤1000000:=let ⟨k,h1,h2,h3,h4⟩:=h;by omega
theorem At1.grew {p p' :PS} {lv lv' :Value} {q:Prop} (h:At1 toks A cap p lv) (h' :At toks A cap p' lv') (hg:Grew p p' q):At1 toks A cap p' lv' :=by
 obtain ⟨k,h1,h2,h3,h4⟩:=h
 obtain ⟨k',g1,g2,g3,g4⟩:=h'
 obtain ⟨⟨m,e1,e2,e3⟩,_,_⟩:=hg
 rw [h2,SH] at e1
 rw [h2,RC] at e2
 have hk:k' =k+m:=by
  have:=congrArg List.length (g2.symm.trans e1)
  rw [RC,RC] at this
  omega
 exact ⟨k',g1,g2,by omega,g4⟩
theorem eX {fn:Func} {fr:Fr} {w0:World} {R H:List Blk} {r:Out} {n:Nat} {p' :PS} {lv' :Value} {B' :Option Nat} {cb' :Nat} {e:Exit} {s:az} (he:e= .ret∨e= .normal) (hf:fn.results= #[]) (hr:r= .ok (n,p')) (hat:At toks A cap p' lv') (hs:MSub (pB g lv' A cap fin toks B' cb' p'.out++R) H):
  ba Tryz.prog fn fr w0 (PR toks A cap fin g R r) (PD R r) e s H:=Qr (gC he hf hs ⟨rfl,n,p',lv',B',cb',hr,hat,rfl⟩)
theorem cY {fn:Func} {fr:Fr} {w0:World} {R H:List Blk} {r:Out} {e:Int × Int} {s:az} {Rok:Value→List Blk→Prop} (hr:r= .error e) (hs:MSub R H):
  ba Tryz.prog fn fr w0 Rok (PD R r) (.panic (jB (AU e))) s H:=OK (.refl _) ⟨e,hr,rfl,hs⟩
set_option maxHeartbeats 1000000 in
theorem Nr (f:Nat) (ihS:POK f .sign 272 []) (ihP:POK f .pct 304 []):POK (f+1) .sign 272 []:=by
 intro toks A cap fin g p lv B cb r R w0 hc hl hat hrun
 refine w8 Tryz.func272 rfl Tryz.ntmps272 rfl ?_
 rw [bz] at hrun
 dsimp only at hrun
 have hi:=fun w hm=>hat.is 2 (fin:=fin) (g:=g) (B:=B) (cb:=cb) (out:=p.out) (H:=pB g lv A cap fin toks B cb p.out++R) (w0:=w0) (MSub.pick .hd (.pick .hd (.pick .hd (.nil _)))) w hm
 by_cases hs:(hdT fin p.l).kind=8∧(hdT fin p.l).num=2
 ·
  rw [if_pos hs] at hrun
  obtain ⟨r1,hr1,hr2⟩:=bG hrun
  rw [decide_eq_true hs] at hi
  repeat' (first|(apply aa (f:=303);exact rfl;exact rfl;exact hi)|(apply ax (f:=275);exact rfl;exact rfl;exact hat.skip hc hs.1 (by decide) (MSub.pick pK (MSub.pick pK (MSub.pick pK (MSub.refl _))));rintro _ _ ⟨rfl,lv1,h1,rfl⟩)|(refine bJ (f:=272) rfl rfl (FnP.msub (ihS toks A cap fin g p.skip _ B cb r1 _ w0 hc hl (At1.at h1) hr1) (MSub.pick pK (MSub.pick pK (MSub.pick pK (MSub.refl _))))) ?_ ?_)|(rintro _ _ ⟨rfl,n,p',lv',B',cb',rfl,h2,rfl⟩)|(rintro _ _ ⟨e,rfl,rfl,h3⟩)|(apply ax (f:=276);exact rfl;exact rfl;exact FnIn.msub (kR (dG 4 0) _ _ _ _ _ _ _ _ _ (At.len h2 hl) _ _) (MSub.pick pK (MSub.pick pK (MSub.pick pK (MSub.refl _))));rintro _ _ ⟨rfl,B2,cb2,rfl⟩)|refine sT ?_|refine sP ?_|refine sM fun _=> ?_|(refine sC ?_ ?_<;>intro hb<;>try omega)|fail)
  ·
   rcases hr2 with ⟨e,h,_⟩|⟨n1,p1,h,h5⟩
   ·
    cases h
   ·
    cases h
    cases h5
    exact eX (p' :=p'.put (dG 4 0)) (.inl rfl) rfl rfl ((h1.grew h2 (jW _ _ _ _ _ _ hr1)).put _) (.refl _)
  ·
   rcases hr2 with ⟨e',h,h5⟩|⟨n1,p1,h,h5⟩
   ·
    cases h
    exact cY h5 h3
   ·
    cases h
 ·
  rw [if_neg hs] at hrun
  rw [decide_eq_false hs] at hi
  obtain ⟨r1,hr1,hr2⟩:=bG hrun
  repeat' (first|(apply aa (f:=303) (d:=3);exact rfl;exact rfl;exact hi)|(refine bJ (f:=304) rfl rfl (FnP.msub (ihP toks A cap fin g p _ B cb r1 _ w0 hc hl hat hr1) (MSub.pick pK (MSub.pick pK (MSub.pick pK (MSub.refl _))))) ?_ ?_)|(rintro _ _ ⟨rfl,n,p',lv',B',cb',rfl,h2,rfl⟩)|(rintro _ _ ⟨e,rfl,rfl,h3⟩)|refine sT ?_|refine sP ?_|refine sM fun _=> ?_|(refine sC ?_ ?_<;>intro hb<;>try omega)|fail)
  ·
   rcases hr2 with ⟨e,h,_⟩|⟨n1,p1,h,h5⟩
   ·
    cases h
   cases h
   have hi2:=fun w hm=>h2.is 5 (fin:=fin) (g:=g) (B:=B') (cb:=cb') (out:=p'.out) (H:=pB g lv' A cap fin toks B' cb' p'.out++R) (w0:=w0) (MSub.pick .hd (.pick .hd (.pick .hd (.nil _)))) w hm
   by_cases hs5:(hdT fin p'.l).kind=8∧(hdT fin p'.l).num=5
   ·
    rw [if_pos hs5] at h5
    rw [decide_eq_true hs5] at hi2
    obtain ⟨r2,hr3,hr4⟩:=bG h5
    repeat' (first|(apply aa (f:=303) (d:=14);exact rfl;exact rfl;exact hi2)|(apply ax (f:=275);exact rfl;exact rfl;exact h2.skip hc hs5.1 (by decide) (MSub.pick pK (MSub.pick pK (MSub.pick pK (MSub.refl _))));rintro _ _ ⟨rfl,lv1,h1,rfl⟩)|(refine bJ (f:=272) rfl rfl (FnP.msub (ihS toks A cap fin g p'.skip _ B' cb' r2 _ w0 hc hl (At1.at h1) hr3) (MSub.pick pK (MSub.pick pK (MSub.pick pK (MSub.refl _))))) ?_ ?_)|(rintro _ _ ⟨rfl,n2,p2,lv2,B2,cb2,rfl,h6,rfl⟩)|(rintro _ _ ⟨e,rfl,rfl,h3⟩)|(apply ax (f:=276);exact rfl;exact rfl;exact FnIn.msub (kR (dG 6 5) _ _ _ _ _ _ _ _ _ (At.len h6 hl) _ _) (MSub.pick pK (MSub.pick pK (MSub.pick pK (MSub.refl _))));rintro _ _ ⟨rfl,B3,cb3,rfl⟩)|refine sT ?_|refine sP ?_|refine sM fun _=> ?_|(refine sC ?_ ?_<;>intro hb<;>try omega)|fail)
    ·
     rcases hr4 with ⟨e,h,_⟩|⟨n3,p3,h,h7⟩
     ·
      cases h
     ·
      cases h
      cases h7
      exact eX (p' :=p2.put (dG 6 5)) (.inr rfl) rfl rfl ((h1.grew h6 (jW _ _ _ _ _ _ hr3)).put _) (.refl _)
    ·
     rcases hr4 with ⟨e',h,h7⟩|⟨n3,p3,h,h7⟩
     ·
      cases h
      exact cY h7 h3
     ·
      cases h
   ·
    rw [if_neg hs5] at h5
    rw [decide_eq_false hs5] at hi2
    cases h5
    repeat' (first|(apply aa (f:=303) (d:=14);exact rfl;exact rfl;exact hi2)|refine sT ?_|refine sP ?_|refine sM fun _=> ?_|(refine sC ?_ ?_<;>intro hb<;>try omega)|fail)
    exact eX (.inr rfl) rfl rfl h2 (.refl _)
  ·
   rcases hr2 with ⟨e',h,h5⟩|⟨n1,p1,h,h5⟩
   ·
    cases h
    exact cY h5 h3
   ·
    cases h
set_option maxHeartbeats 1000000 in
theorem FA (f:Nat) (ihP:POK f .prim 335 []):POK (f+1) .pct 304 []:=by
 intro toks A cap fin g p lv B cb r R w0 hc hl hat hrun
 refine w8 Tryz.func304 rfl Tryz.ntmps304 rfl ?_
 rw [bz] at hrun
 obtain ⟨r1,hr1,hr2⟩:=bG hrun
 repeat' (first|(refine bJ (f:=335) rfl rfl (FnP.msub (ihP toks A cap fin g p _ B cb r1 _ w0 hc hl hat hr1) (MSub.pick pK (MSub.pick pK (MSub.pick pK (MSub.refl _))))) ?_ ?_)|(rintro _ _ ⟨rfl,n,p',lv',B',cb',rfl,h2,rfl⟩)|(rintro _ _ ⟨e,rfl,rfl,h3⟩)|refine sT ?_|refine sP ?_|refine sM fun _=> ?_|(refine sC ?_ ?_<;>intro hb<;>try omega)|fail)
 ·
  rcases hr2 with ⟨e,h,_⟩|⟨n1,p1,h,h5⟩
  ·
   cases h
  cases h
  refine aw [0] rfl (fun _:Nat × PS × Value × Option Nat × Nat=> []) (fun x=>pB g x.2.2.1 A cap fin toks x.2.2.2.1 x.2.2.2.2 x.2.1.out++R) (fun x=>At toks A cap x.2.1 x.2.2.1∧bz fin x.1 .pctl x.2.1=some r) (fun x=>x.1) (f,p',lv',B',cb') ⟨h2,h5⟩ sB (.refl _) ?_
  rintro ⟨f',q,lq,Bq,cq⟩ ⟨hq1,hq2⟩
  dsimp only at hq1 hq2 ⊢
  cases f' with
  |zero=>cases hq2
  |succ f' =>
   rw [bz] at hq2
   have hi:=fun w hm=>hq1.is 13 (fin:=fin) (g:=g) (B:=Bq) (cb:=cq) (out:=q.out) (H:=pB g lq A cap fin toks Bq cq q.out++R) (w0:=w0) (MSub.pick .hd (.pick .hd (.pick .hd (.nil _)))) w hm
   by_cases hs:(hdT fin q.l).kind=8∧(hdT fin q.l).num=13
   ·
    rw [if_pos hs] at hq2
    rw [decide_eq_true hs] at hi
    repeat' (first|(apply aa (f:=303);exact rfl;exact rfl;exact hi)|(apply ax (f:=275);exact rfl;exact rfl;exact hq1.skip hc hs.1 (by decide) (MSub.pick pK (MSub.pick pK (MSub.pick pK (MSub.refl _))));rintro _ _ ⟨rfl,lv1,h1,rfl⟩)|(apply ax (f:=276);exact rfl;exact rfl;exact FnIn.msub (kR (dG 5 0) _ _ _ _ _ _ _ _ _ (At.len hq1 hl) _ _) (MSub.pick pK (MSub.pick pK (MSub.pick pK (MSub.refl _))));rintro _ _ ⟨rfl,B2,cb2,rfl⟩)|refine sT ?_|refine sP ?_|refine sM fun _=> ?_|(refine sC ?_ ?_<;>intro hb<;>try omega)|fail)
    refine ⟨(f',q.skip.put (dG 5 0),lv1,B2,cb2),⟨h1.put _,hq2⟩,TG _,sB,sB,.refl _⟩
   ·
    rw [if_neg hs] at hq2
    rw [decide_eq_false hs] at hi
    cases hq2
    repeat' (first|(apply aa (f:=303);exact rfl;exact rfl;exact hi)|refine sT ?_|refine sP ?_|refine sM fun _=> ?_|(refine sC ?_ ?_<;>intro hb<;>try omega)|fail)
    exact eX (by first|exact .inr rfl|exact .inl rfl) rfl rfl hq1 (.refl _)
 ·
  rcases hr2 with ⟨e',h,h5⟩|⟨n1,p1,h,h5⟩
  ·
   cases h
   exact cY h5 h3
  ·
   cases h
end
end Go.SL
namespace Go.SL
open Go Go.Proofs
attribute [local irreducible] W WL WQ WG WA WX WLI WR WT WC VOp RW thn blk bp scp aR ba bE aF FnIn FnP ceP
theorem eE {P:Program} {n:Fr} {w0:World} {Q:bP} {s:az} {H:List Blk} {l:List Oper} {id:Nat} (es ps:List Nat) (hm:P.follows .mixedOrders=true) (hB:Region.lexB .any l.toArray=true) (hch:Ge l es ps=true)
  (h:WC P n w0 l H es ps Q l 0 s H):W P n w0 (.region id l.toArray true) Q s H:=ia es ps H hm hB hch (MSub.refl H) h
theorem JF (L:List Us): ∀ u∈L.flatMap dI,u.oneCell' =true:=by
 intro u hu
 obtain ⟨n,_,h⟩:=Se.1 hu
 simp only [dI,Rs,SK,or_false] at h
 rcases h with rfl|rfl|rfl|rfl|rfl|rfl<;>rfl
theorem J3 (L:List Us) (tv:Value) (w:World) (ht:Reads w tv L.length (L.flatMap dI)) (hlen:L.length≤1000000):
  aF Tryz.prog 157 [tv] w fun v H=> ∃ A cap,v=sl A L.length cap∧H= [.own A 159 6 L.length cap (L.flatMap dI)]:=by
 have ht' :=ht
 obtain ⟨At,ct,rfl,ht1,ht2,ht3⟩:=ht
 refine aq Tryz.func157 rfl Tryz.ntmps157 rfl ?_
 have hl:(L.flatMap dI).length=L.length*6:=aM xj L
 refine aB 159 6 ?_
 repeat' (first|(apply ak;exact rfl;apply lG;exact rfl)|(apply cZ;exact rfl;intro gb)|(apply bS (n' :=0) (c:=0) (A:=some _) (m:=L.length);(iterate 3 exact rfl);exact pK;(intro w hm;exact ht'.of_w0 hm);exact hl;exact JF L;omega;(simp only [maxLen];omega);intro A' cap' hA)|refine sT ?_|refine sM fun _=> ?_|(refine sC ?_ ?_<;>intro hb<;>try omega)|fail)
 ·
  have e:L.length=0:=by
   rcases Sx L.length with h|h
   ·
    exact h
   ·
    obtain ⟨g,o,rfl,_⟩:=ht3 h
    cases hb
  have e' :L= []:=Sf e
  subst e'
  exact cA (.inl rfl) Tryz.results157 rfl (.refl _) ⟨none,0,rfl,rfl⟩
 ·
  exact cA (.inl rfl) Tryz.results157 rfl (H' := [.own A' 159 6 (0+L.length) cap' ([]++L.flatMap dI)]) mS ⟨A',cap',by rw [Rt],by rw [Rt];rfl⟩
structure En where
 at_:Rf
 ta:Option Addr
 tc:Nat
 ua:Option Addr
 uc:Nat
 tree:List Nd
 uses:List Us
 born:Nat
def En.tv (e:En):Value:= .slice e.ta e.tree.length e.tc
def En.uv (e:En):Value:= .slice e.ua e.uses.length e.uc
def En.m (e:En):Rf × Value × Nat:=(e.at_,.agg #[e.tv,e.uv],e.born)
abbrev J5:Value:= .agg [Value.slice none 0 0,.slice none 0 0].toArray
def rdIn (R:List Blk) (v:Value) (m:Nat) (xs:List Value):Prop:= ∀ w0 w,Mem w0 w R→Reads w v m xs
theorem rdIn.sub {R R' :List Blk} {v:Value} {m:Nat} {xs:List Value} (h:rdIn R v m xs) (hs:MSub R R'):rdIn R' v m xs:=fun w0 w hm=>h w0 w (hs.use hm)
theorem rdIn.nil (R:List Blk):rdIn R (.slice none 0 0) 0 []:=fun _ _ _=>⟨none,0,rfl,Re _,Rd _,fun h=>by cases h⟩
theorem rdIn.own {R:List Blk} {A:Option Nat} {t sz m c:Nat} {xs:List Value} (hi:In (.own A t sz m c xs) R):rdIn R (sl A m c) m xs:=fun _ _ hm=>Reads.of_own hm hi
structure EnOk (R:List Blk) (e:En):Prop where
 tree:rdIn R e.tv e.tree.length (e.tree.flatMap bN)
 uses:rdIn R e.uv e.uses.length (e.uses.flatMap dI)
 tl:e.tree.length≤1000000
 ul:e.uses.length≤1000000
theorem EnOk.sub {R R' :List Blk} {e:En} (h:EnOk R e) (hs:MSub R R'):EnOk R' e:=⟨h.tree.sub hs,h.uses.sub hs,h.tl,h.ul⟩
def zy (a:Rf):En:=⟨a,none,0,none,0,[],[],0⟩
theorem H6 (R:List Blk) (a:Rf):EnOk R (zy a):=⟨rdIn.nil _,rdIn.nil _,by simp [zy],by simp [zy]⟩
def oE (E:List En) (a:Rf):Option En:=E.find? fun e=>decide (e.at_=a)
def kz (E:List En) (a:Rf):En:=(oE E a).getD (zy a)
theorem Jz {E:List En} {a:Rf} {e:En} (h:oE E a=some e):e∈E:=TF h
theorem Jw {R:List Blk} {E:List En} (h: ∀ e∈E,EnOk R e) (a:Rf):EnOk R (kz E a):=by
 unfold kz
 cases hf:oE E a with
 |none=>exact H6 _ _
 |some e=>exact h e (Jz hf)
theorem NM (E:List En) (a:Rf): ∀ i:Nat,(cD a (E.map En.m) i).map (fun x=>x.2)=(oE E a).map fun e=>e.m.2.1:=by
 induction E with
 |nil=>intro i;rfl
 |cons e r ih=>
  intro i
  simp only [RA,cD,oE,List.find?_cons]
  by_cases h:a=e.at_
  ·
   simp [En.m,h]
  ·
   have h' : ¬ e.at_=a:=fun x=>h x.symm
   simp only [En.m,h,if_false,h',decide_false]
   exact ih (i+1)
theorem PN (E:List En) (a:Rf):(match cD a (E.map En.m) 0 with|some (_,v)=>v|none=>J5)= .agg #[(kz E a).tv,(kz E a).uv]:=by
 have h:=NM E a 0
 unfold kz
 cases hk:cD a (E.map En.m) 0 with
 |none=>rw [hk] at h;cases hf:oE E a with
  |none=>rfl
  |some e=>rw [hf] at h;cases h
 |some x=>rw [hk] at h;cases hf:oE E a with
  |none=>rw [hf] at h;cases h
  |some e=>rw [hf] at h;exact Option.some.inj h
instance klaw_key:KLaw Tryz.prog 50 mY:=klaw_F
instance:FldT Tryz.prog 206 1 156 1:=⟨_,_,Tryz.underlying206,rfl,rfl,rfl⟩
set_option maxHeartbeats 1000000 in
theorem Ol (gg gm clock:Nat) (E:List En) (a:Rf) (R:List Blk) (w0:World) (hE: ∀ e∈E,EnOk R e):
  FnIn Tryz.prog 125 [.pointer (some ⟨gg,0,none⟩),mY a] w0 (gB gg gm (E.map En.m) clock++R) fun v H=> ∃ A cap,v=sl A (kz E a).uses.length cap∧H= .own A 159 6 (kz E a).uses.length cap ((kz E a).uses.flatMap dI)::(gB gg gm (E.map En.m) clock++R):=by
 refine eQ Tryz.func125 rfl Tryz.ntmps125 rfl ?_
 have hl:=PN E a
 have hok:=Jw hE a
 generalize kz E a=e at hl hok
 have hcl:=fun (w' :World) (H' :List Blk) (hs:MSub R H') (hm:Mem w0 w' H')=>J3 e.uses e.uv w' (hok.uses _ w' (hs.use hm)) hok.ul
 unfold gB
 repeat' (first|(apply ak;exact rfl;apply iO;exact rfl)|(apply eE (id:=3) [7] [];kernel_rfl;kernel_rfl;kernel_rfl)|(apply dm;(iterate 3 exact rfl);apply vE (enc:=mY) (z:=J5);exact rfl;exact rfl;exact pK;exact hl)|(apply dm;(iterate 3 exact rfl);apply dR;exact rfl;exact rfl)|(apply ay (f:=157);exact rfl;exact rfl;(intro w' hm;exact hcl w' _ mS hm);rintro _ _ ⟨A,cap,rfl,rfl⟩)|refine sT ?_|refine sS ?_|refine sW ?_|refine sM fun _=> ?_|(refine sC ?_ ?_<;>intro hb<;>try omega)|(refine sCW ?_ ?_<;>intro hb<;>try omega)|fail)
 all_goals exact cA eIO rfl rfl mS ⟨A,cap,rfl,rfl⟩
end Go.SL
namespace Go.SL
open Go Go.Proofs
attribute [local irreducible] W WL WQ WG WA WX WLI WR WT VOp thn blk bp scp aR ba bE aF FnIn FnP
def uL (g g2 g3:Nat) (k:Int) (R:List Blk):List Blk:= .box g2 224 [.pointer (some ⟨g,0,none⟩)]:: .box g3 3 [.int .i64 k]::R
theorem Jk (f:Nat) (k:Int) (h1:1≤k) (h4:k≤3) (ih:POK f (.level (k+1)) 226 [.int .i64 (k+1)]) (toks:List Tk) (A:Option Nat) (cap:Nat) (fin:Int) (g:Nat) (p:PS) (lv:Value) (B:Option Nat) (cb:Nat) (r:Out) (R:List Blk) (w0:World) (g2 g3:Nat) (hc:toks.length≤cap) (hl:toks.length≤1000) (hat:At toks A cap p lv) (hr:bz fin f (.level (k+1)) p=some r):
  FnP Tryz.prog 273 [.pointer (some ⟨g2,0,none⟩),.pointer (some ⟨g3,0,none⟩)] w0 (pB g lv A cap fin toks B cb p.out++uL g g2 g3 k R) (PR toks A cap fin g (uL g g2 g3 k R) r) (PD (uL g g2 g3 k R) r):=by
 refine w8 Tryz.func273 rfl Tryz.ntmps273 rfl ?_
 repeat' (first|(refine bJ (f:=226) rfl rfl (ih toks A cap fin g p lv B cb r _ w0 hc hl hat hr) ?_ ?_)|(rintro _ _ ⟨rfl,n,p',lv',B',cb',rfl,h2,rfl⟩)|(rintro _ _ ⟨e,rfl,rfl,h3⟩)|refine sT ?_|refine sP ?_|refine sJ ?_|refine sM fun _=> ?_|(refine sC ?_ ?_<;>intro hb<;>try omega)|exact cT|fail)
 ·
  exact eX (by first|exact .inr rfl|exact .inl rfl) rfl rfl h2 (.refl _)
 ·
  exact cY rfl h3
def OC (f:Nat) (k:Int) (toks:List Tk) (A:Option Nat) (cap:Nat) (fin:Int) (g g2 g3:Nat) (w0:World) (bv:Value):Prop:=
 ∃ (fid:FuncId) (bs caps:List Value),bv= .func (.func fid) bs.toArray caps.toArray∧Callable Tryz.prog fid∧ ∀ (f' :Nat) (p:PS) (lv:Value) (B:Option Nat) (cb:Nat) (r:Out) (R:List Blk),f' ≤f→At toks A cap p lv→bz fin f' (.level (k+1)) p=some r→
  FnP Tryz.prog fid (bs++([]++caps)) w0 (pB g lv A cap fin toks B cb p.out++uL g g2 g3 k R) (PR toks A cap fin g (uL g g2 g3 k R) r) (PD (uL g g2 g3 k R) r)
set_option maxHeartbeats 2000000 in
theorem LL (f:Nat) (k:Int) (h1:1≤k) (h4:k≤4) (ihL:k≤3→ ∀ f' ≤f,POK f' (.level (k+1)) 226 [.int .i64 (k+1)]) (ihS: ∀ f' ≤f,POK f' .sign 272 []):POK (f+1) (.level k) 226 [.int .i64 k]:=by
  intro toks A cap fin g p lv B cb r R w0 hc hl hat hrun
  refine w8 Tryz.func226 rfl Tryz.ntmps226 rfl ?_
  rw [bz,if_neg (by omega)] at hrun
  obtain ⟨r1,hr1,hr2⟩:=bG hrun
  repeat' (first|(apply ak;exact rfl;apply mh;exact rfl)|(rename_i g2 g3;refine GR (id:=2) [2,3] rfl (ι:=Value) (fun bv=> [(4,bv)]) (fun bv=>OC f k toks A cap fin g g2 g3 w0 bv) ?_ ?_)|refine cG (_) ?_ sB mS|refine sT ?_|refine sP ?_|refine sM fun _=> ?_|(refine sC ?_ ?_<;>intro hb<;>try omega)|exact cT|fail)
  · exact ⟨_,[],_,rfl,inferInstance,fun f' p lv B cb r R hf' hat' hr' =>Jk f' k h1 (by omega) (ihL (by omega) f' hf') toks A cap fin g p lv B cb r R w0 _ _ hc hl hat' hr'⟩
  · have hk:k=4:=by omega
    subst hk
    refine ⟨_,_,[],rfl,inferInstance,fun f' p lv B cb r R hf' hat' hr' => ?_⟩
    cases f' with
    |zero=>cases hr'
    |succ f'' =>
      rw [bz,if_pos (by decide)] at hr'
      exact ihS f'' (by omega) toks A cap fin g p lv B cb r _ w0 hc hl hat' hr'
  · rintro bv ⟨fid,bs,caps,rfl,hcl,hbel⟩
    repeat' (first|(refine yq (f:=fid) rfl rfl hcl rfl (FnP.msub (hbel f p lv B cb r1 _ (Re _) hat hr1) (MSub.pick pK (MSub.pick pK (MSub.pick pK (MSub.pick pK (MSub.pick pK (MSub.refl _))))))) ?_ ?_)|(rintro _ _ ⟨rfl,n,p',lv',B',cb',rfl,h2,rfl⟩)|(rintro _ _ ⟨e,rfl,rfl,h3⟩)|refine sT ?_|refine sP ?_|refine sM fun _=> ?_|(refine sC ?_ ?_<;>intro hb<;>try omega)|exact cT|fail)
    · rcases hr2 with ⟨e,h,_⟩|⟨n1,p1,h,h5⟩
      · cases h
      cases h
      refine aw [2,3,4] rfl (fun _:Nat × PS × Value × Option Nat × Nat=> []) (fun x=>pB g x.2.2.1 A cap fin toks x.2.2.2.1 x.2.2.2.2 x.2.1.out++uL g g2 g3 k R) (fun x=>x.1≤f∧At toks A cap x.2.1 x.2.2.1∧bz fin x.1 (.loop k) x.2.1=some r) (fun x=>x.1) (f,p',lv',B',cb') ⟨Re _,h2,h5⟩ sB (.refl _) ?_
      rintro ⟨f',q,lq,Bq,cq⟩ ⟨hf',hq1,hq2⟩
      dsimp only at hf' hq1 hq2 ⊢
      cases f' with
      |zero=>cases hq2
      |succ f' =>
        rw [bz] at hq2
        have hh:=fun w hm=>hq1.head (fin:=fin) (g:=g) (B:=Bq) (cb:=cq) (out:=q.out) (H:=pB g lq A cap fin toks Bq cq q.out++uL g g2 g3 k R) (w0:=w0) (MSub.pick .hd (.pick .hd (.pick .hd (.nil _)))) w hm
        obtain ⟨t,ht⟩: ∃ t,hdT fin q.l=t:=⟨_,rfl⟩
        rw [ht] at hq2 hh
        by_cases hs:t.kind=8∧gR t.num=k
        · rw [if_pos hs] at hq2
          obtain ⟨hs8,hsk⟩:=hs
          obtain ⟨r2,hr3,hr4⟩:=bG hq2
          repeat' (first|(apply aa (f:=177);exact rfl;exact rfl;exact hh)|(apply aa (f:=274);exact rfl;exact rfl;(intro w' _;exact yV _ w'))|(apply ax (f:=275);exact rfl;exact rfl;exact hq1.skip hc (ht ▸ hs8) (by decide) (MSub.pick pK (MSub.pick pK (MSub.pick pK (MSub.refl _))));rintro _ _ ⟨rfl,lv1,h1',rfl⟩)|(refine yq (f:=fid) rfl rfl hcl rfl (FnP.msub (hbel f' q.skip lv1 Bq cq r2 _ (by omega) (At1.at h1') hr3) (MSub.pick pK (MSub.pick pK (MSub.pick pK (MSub.pick pK (MSub.pick pK (MSub.refl _))))))) ?_ ?_)|(rintro _ _ ⟨rfl,n2,p2,lv2,B2,cb2,rfl,h6,rfl⟩)|(rintro _ _ ⟨e,rfl,rfl,h3⟩)|(apply ax (f:=276);exact rfl;exact rfl;exact FnIn.msub (kR (dG 6 t.num) _ _ _ _ _ _ _ _ _ (At.len h6 hl) _ _) (MSub.pick pK (MSub.pick pK (MSub.pick pK (MSub.refl _))));rintro _ _ ⟨rfl,B3,cb3,rfl⟩)|refine sT ?_|refine sP ?_|refine sM fun _=> ?_|(refine sC ?_ ?_<;>intro hb<;>try omega)|exact cT|fail)
          · rcases hr4 with ⟨e,h,_⟩|⟨n3,p3,h,h7⟩
            · cases h
            · cases h
              refine ⟨(f',p2.put (dG 6 t.num),lv2,B3,cb3),⟨by omega,(h1'.grew h6 (jW _ _ _ _ _ _ hr3)).put _,h7⟩,TG _,sB,sB,?_⟩
              dsimp only [uL,List.cons_append,List.nil_append,pB]
              exact mS
          · rcases hr4 with ⟨e',h,h7⟩|⟨n3,p3,h,h7⟩
            · cases h
              exact cY h7 (MSub.trans (by unfold uL;exact .drop (.tl (.tl .hd)) (.drop .hd (.drop .hd (.refl _)))) h3)
            · cases h
        · rw [if_neg hs] at hq2
          cases hq2
          repeat' (first|(apply aa (f:=177);exact rfl;exact rfl;exact hh)|(apply aa (f:=274);exact rfl;exact rfl;(intro w' _;exact yV _ w'))|refine sT ?_|refine sP ?_|refine sM fun _=> ?_|(refine sC ?_ ?_<;>intro hb<;>try omega)|exact cT|fail)
          all_goals first
            |(exfalso;omega)
            | (refine eX (B' := Bq) (cb' := cq) (by first | exact .inr rfl | exact .inl rfl) rfl rfl hq1 ?_
               dsimp only [uL,List.cons_append,List.nil_append,pB]
               exact mS)
    · rcases hr2 with ⟨e',h,h5⟩|⟨n1,p1,h,h5⟩
      · cases h
        exact cY h5 (MSub.trans (by unfold uL;exact .drop .hd (.drop .hd (.refl _))) h3)
      · cases h
end Go.SL
namespace Go.SL
open Go Go.Proofs
theorem MSub.appL (R H1:List Blk):MSub R (R++H1):=⟨H1,.refl _⟩
theorem MSub.appR (R H1:List Blk):MSub R (H1++R):=⟨H1,Sc⟩
theorem MSub.appC (X Hc H1:List Blk):MSub (H1++(Hc++X)) (X++(Hc++H1)):=⟨[],by
 rw [QZ]
 refine List.Perm.trans ?_ (List.Perm.append_left H1 (Sc (l₁:=X) (l₂:=Hc)))
 refine List.Perm.trans (List.Perm.append_left X (Sc (l₁:=Hc) (l₂:=H1))) ?_
 rw [← Rz,← Rz]
 exact (Sc (l₁:=X) (l₂:=H1)).append_right Hc⟩
theorem MSub.appD (X Hc H2:List Blk):MSub (X++(Hc++H2)) (H2++(Hc++X)):=MSub.appC H2 Hc X
theorem MSub.appS (Hc H1:List Blk):MSub (H1++Hc) (Hc++H1):=⟨[],by rw [QZ];exact Sc⟩
theorem MSub.appE (X Hc H2:List Blk):MSub (H2++Hc) (H2++(Hc++X)):=⟨X,by rw [Rz]⟩
section
variable {P:Program} {n:Fr} {w0:World} {Q:bP} {s:az} {H:List Blk} {ty:TypeId}
theorem QN {c:Code} {A:Option Addr} {m cap:Nat} {xs:List Value} {R:List Blk} (h:rdIn R (.slice A m cap) m xs) (hs:MSub R H) (hm:0<m)
  (k: ∀ g o,A=some ⟨g,o,none⟩→(∀ w,Mem w0 w R→Ro w g o xs)→W P n w0 c Q s H):W P n w0 c Q s H:=fun a w hst hmem=>by
 have key: ∀ w',Mem w0 w' R→ ∃ g o,A=some ⟨g,o,none⟩∧Ro w' g o xs:=fun w' hm' =>by
  obtain ⟨A',cap',he,_,_,h3⟩:=h _ w' hm'
  injection he with h4 h5 h6
  subst h4
  exact h3 hm
 obtain ⟨g,o,rfl,_⟩:=key w (hs.use hmem)
 refine k g o rfl (fun w' hm' => ?_) a w hst hmem
 obtain ⟨g',o',he,hr⟩:=key w' hm'
 injection he with he
 injection he with h1 h2
 subst h1;subst h2
 exact hr
theorem vF {x:Operand} {t g o off m:Nat} {xs ys:List Value} {R:List Blk} [Agg P t m] (hx:ev s x=some (.pointer (some ⟨g,o+off,none⟩))) (hc: ∀ w,Mem w0 w R→Ro w g o xs) (hs:MSub R H) (hv:(xs.drop off).take m=ys) (hl:ys.length=m):
  VOp P w0 s H (.load t x) ty (.agg ys.toArray):=fun ρ w _ _ _ _ hρ hm=>by
 subst hv
 have hcc:Cells w g (o+off) ((xs.drop off).take m):=((hc w (hs.use hm)).cells.drop (k:=off)).take (k:=m)
 simp [execOp,hρ x _ hx,Instr.loadAt,Instr.sureAddr,iq (P:=P) hl hcc]
end
attribute [local irreducible] W WL WQ WG WA WX WLI WR WT WC VOp RW thn blk bp scp aR ba bE aF FnIn FnP ceP
end Go.SL
namespace Go.SL
open Go Go.Proofs
attribute [local irreducible] W WL WQ WG WA WX WLI WR WT VOp thn blk bp scp aR ba bE aF FnIn FnP
def Ow (F:Int→PS→Option Out) (fid:FuncId) (args:List Value):Prop:=
 ∀ (toks:List Tk) (A:Option Nat) (cap:Nat) (fin:Int) (g:Nat) (p:PS) (lv:Value) (B:Option Nat) (cb:Nat) (r:Out) (R:List Blk) (w0:World),toks.length≤cap→toks.length≤1000→At toks A cap p lv→F fin p=some r→
  FnP Tryz.prog fid (.pointer (some ⟨g,0,none⟩)::args) w0 (pB g lv A cap fin toks B cb p.out++R) (PR toks A cap fin g R r) (PD R r)
def GM (c:Int) (fin:Int) (p:PS):Option Out:=if (hdT fin p.l).kind≠c then some (.error ((hdT fin p.l).at_,4)) else some (.ok (0,p.skip))
theorem zJ (c:Int) (h0:c≠0):Ow (GM c) 355 [.int .u8 c]:=by
  intro toks A cap fin g p lv B cb r R w0 hc hl hat hrun
  refine w8 Tryz.func355 rfl Tryz.ntmps355 rfl ?_
  have hh:=fun w hm=>hat.head (fin:=fin) (g:=g) (B:=B) (cb:=cb) (out:=p.out) (H:=pB g lv A cap fin toks B cb p.out++R) (w0:=w0) (MSub.pick .hd (.pick .hd (.pick .hd (.nil _)))) w hm
  unfold GM at hrun
  obtain ⟨t,ht⟩: ∃ t,hdT fin p.l=t:=⟨_,rfl⟩
  rw [ht] at hrun hh
  by_cases hk:t.kind≠c
  · rw [if_pos hk] at hrun
    cases hrun
    repeat' (first|(apply aa (f:=177);exact rfl;exact rfl;exact hh)|(refine bJ (f:=178) rfl rfl (jr _ _ _ _ _ (fun _ _=>False)) ?_ ?_)|(exact fun _ _ h=>h.elim)|(rintro _ _ ⟨rfl,rfl⟩)|refine sT ?_|refine sP ?_|refine sM fun _=> ?_|(refine sC ?_ ?_<;>intro hb<;>try omega)|fail)
    all_goals first
      |(exfalso;omega)
      | (refine cY rfl ?_
         dsimp only [List.cons_append,List.nil_append,pB]
         exact mS)
  · rw [if_neg hk] at hrun
    cases hrun
    repeat' (first|(apply aa (f:=177);exact rfl;exact rfl;exact hh)|(apply ax (f:=275);exact rfl;exact rfl;exact hat.skip hc (c:=c) (by rw [ht];omega) h0 (MSub.pick pK (MSub.pick pK (MSub.pick pK (MSub.refl _))));rintro _ _ ⟨rfl,lv1,h1,rfl⟩)|refine sT ?_|refine sP ?_|refine sM fun _=> ?_|(refine sC ?_ ?_<;>intro hb<;>try omega)|fail)
    all_goals first
      |(exfalso;omega)
      | (refine eX (B' := B) (cb' := cb) (by first | exact .inr rfl | exact .inl rfl) rfl rfl (At1.at h1) ?_
         dsimp only [List.cons_append,List.nil_append,pB]
         exact mS)
theorem qK (v:Vl):Ow (fun fin p=>if (hdT fin p.l).kind=0 then none else some (.ok (0,p.skip.put ⟨1,v,aN,0,0,0⟩))) 354 [.agg (dH v).toArray]:=by
 intro toks A cap fin g p lv B cb r R w0 hc hl hat hrun
 refine w8 Tryz.func354 rfl Tryz.ntmps354 rfl ?_
 dsimp only at hrun
 by_cases hk:(hdT fin p.l).kind=0
 ·
  rw [if_pos hk] at hrun;cases hrun
 rw [if_neg hk] at hrun
 cases hrun
 repeat' (first|(apply ax (f:=275);exact rfl;exact rfl;exact hat.skip hc rfl hk (MSub.pick pK (MSub.pick pK (MSub.pick pK (MSub.refl _))));rintro _ _ ⟨rfl,lv1,h1,rfl⟩)|(apply ax (f:=276);exact rfl;exact rfl;exact FnIn.msub (kR ⟨1,v,aN,0,0,0⟩ _ _ _ _ _ _ _ _ _ (At.len hat hl) _ _) (MSub.pick pK (MSub.pick pK (MSub.pick pK (MSub.refl _))));rintro _ _ ⟨rfl,B3,cb3,rfl⟩)|refine sT ?_|refine sP ?_|refine sM fun _=> ?_|(refine sC ?_ ?_<;>intro hb<;>try omega)|fail)
 all_goals
  refine eX (p' :=p.skip.put ⟨1,v,aN,0,0,0⟩) (B' :=B3) (cb' :=cb3) (by first|exact .inr rfl|exact .inl rfl) rfl rfl (h1.put _) ?_
  dsimp only [List.cons_append,List.nil_append,pB]
  exact mS
theorem FX (f:Nat) (ih:POK f (.level 1) 226 [.int .i64 1]):POK f (.level 1) 176 []:=by
 intro toks A cap fin g p lv B cb r R w0 hc hl hat hrun
 refine w8 Tryz.func176 rfl Tryz.ntmps176 rfl ?_
 repeat' (first|(refine bJ (f:=226) rfl rfl (FnP.msub (ih toks A cap fin g p _ B cb r _ w0 hc hl hat hrun) (MSub.pick pK (MSub.pick pK (MSub.pick pK (MSub.refl _))))) ?_ ?_)|(rintro _ _ ⟨rfl,n,p',lv',B',cb',rfl,h2,rfl⟩)|(rintro _ _ ⟨e,rfl,rfl,h3⟩)|refine sT ?_|refine sP ?_|refine sM fun _=> ?_|(refine sC ?_ ?_<;>intro hb<;>try omega)|fail)
 ·
  exact eX (by first|exact .inr rfl|exact .inl rfl) rfl rfl h2 (.refl _)
 ·
  exact cY rfl h3
def Bd (f:Nat) (fn:Int) (n:Nat) (fin:Int) (p:PS):Option Out:=
 if (hdT fin p.l).kind≠6 then fT (bz fin f (.level 1) p) fun _ p=>some (.ok (0,p))
 else if (j0 fn n).1=false∨(j0 fn n).2≠0 then some (.error ((hdT fin p.l).at_,4))
 else some (.ok (0,p.skip.put ⟨3,bI,(hdT fin p.l).rect,0,0,0⟩))
theorem Ce {o:Option Out} {k k' :Nat→PS→Option Out}:fT (fT o k) k' =fT o fun n p=>fT (k n p) k' :=by
 match o with
 |none=>rfl
 |some (.ok (n,p))=>rfl
 |some (.error e)=>rfl
theorem Bc (fin:Int) (f:Nat) (fn:Int) (n:Nat) (p:PS):bz fin (f+1) (.args fn n) p=fT (Bd f fn n fin p) fun _ p=>if (hdT fin p.l).kind=11 then bz fin f (.args fn (n+1)) p.skip else some (.ok (n+1,p)):=by
 rw [bz]
 unfold Bd
 split
 ·
  rw [Ce];rfl
 ·
  split<;>rfl
set_option maxHeartbeats 1000000 in
theorem D7 (f:Nat) (fn:Int) (n:Nat) (ih:POK f (.level 1) 176 []):Ow (Bd f fn n) 371 [.int .u8 fn,.int .i64 n]:=by
  intro toks A cap fin g p lv B cb r R w0 hc hl hat hrun
  refine w8 Tryz.func371 rfl Tryz.ntmps371 rfl ?_
  have hh:=fun w hm=>hat.head (fin:=fin) (g:=g) (B:=B) (cb:=cb) (out:=p.out) (H:=pB g lv A cap fin toks B cb p.out++R) (w0:=w0) (MSub.pick .hd (.pick .hd (.pick .hd (.nil _)))) w hm
  unfold Bd at hrun
  obtain ⟨t,ht⟩: ∃ t,hdT fin p.l=t:=⟨_,rfl⟩
  rw [ht] at hrun hh
  by_cases hk:t.kind≠6
  · rw [if_pos hk] at hrun
    obtain ⟨r1,hr1,hr2⟩:=bG hrun
    repeat' (first|(apply aa (f:=177);exact rfl;exact rfl;exact hh)|(refine bJ (f:=176) rfl rfl (FnP.msub (ih toks A cap fin g p _ B cb r1 _ w0 hc hl hat hr1) (MSub.pick pK (MSub.pick pK (MSub.pick pK (MSub.refl _))))) ?_ ?_)|(rintro _ _ ⟨rfl,n,p',lv',B',cb',rfl,h2,rfl⟩)|(rintro _ _ ⟨e,rfl,rfl,h3⟩)|refine sT ?_|refine sP ?_|refine sM fun _=> ?_|(refine sC ?_ ?_<;>intro hb<;>try omega)|fail)
    · rcases hr2 with ⟨e,h,_⟩|⟨n1,p1,h,h5⟩
      · cases h
      · cases h
        cases h5
        refine eX (B' :=B') (cb' :=cb') (by first|exact .inr rfl|exact .inl rfl) rfl rfl h2 ?_
        simp only [Rj,QU,QW,pB]
        exact mS
    · rcases hr2 with ⟨e',h,h5⟩|⟨n1,p1,h,h5⟩
      · cases h
        exact cY h5 (MSub.trans (.drop .hd (.refl _)) h3)
      · cases h
  · rw [if_neg hk] at hrun
    have hw:=fun w=>GJ fn n w
    obtain ⟨wb,we,hwe⟩: ∃ wb we,j0 fn n=(wb,we):=⟨_,_,rfl⟩
    rw [hwe] at hrun hw
    by_cases hwk:wb=false∨we≠0
    · rw [if_pos hwk] at hrun
      cases hrun
      repeat' (first|(apply aa (f:=177);exact rfl;exact rfl;exact hh)|(apply aa (f:=337);exact rfl;exact rfl;(intro w' _;exact hw w'))|(refine bJ (f:=178) rfl rfl (jr _ _ _ _ _ (fun _ _=>False)) ?_ ?_)|(exact fun _ _ h=>h.elim)|(rintro _ _ ⟨rfl,rfl⟩)|refine sT ?_|refine sP ?_|refine sM fun _=> ?_|(refine sC ?_ ?_<;>intro hb<;>try omega)|fail)
      all_goals first
        |(exfalso;simp_all<;>omega)
        |(exfalso;omega)
        | (refine cY rfl ?_
           simp only [Rj,QU,QW,pB]
           exact mS)
    · rw [if_neg hwk] at hrun
      cases hrun
      repeat' (first|(apply aa (f:=177);exact rfl;exact rfl;exact hh)|(apply aa (f:=337);exact rfl;exact rfl;(intro w' _;exact hw w'))|(apply ax (f:=275);exact rfl;exact rfl;exact hat.skip hc (c:=6) (by rw [ht];omega) (by decide) (MSub.pick pK (MSub.pick pK (MSub.pick pK (MSub.refl _))));rintro _ _ ⟨rfl,lv1,h1,rfl⟩)|(apply ax (f:=276);exact rfl;exact rfl;exact FnIn.msub (kR ⟨3,bI,t.rect,0,0,0⟩ _ _ _ _ _ _ _ _ _ (At.len hat hl) _ _) (MSub.pick pK (MSub.pick pK (MSub.pick pK (MSub.refl _))));rintro _ _ ⟨rfl,B3,cb3,rfl⟩)|refine sT ?_|refine sP ?_|refine sM fun _=> ?_|(refine sC ?_ ?_<;>intro hb<;>try omega)|fail)
      all_goals first
        |(exfalso;simp_all<;>omega)
        |(exfalso;omega)
        | (refine eX (p' := p.skip.put ⟨3, bI, t.rect, 0, 0, 0⟩) (B' := B3) (cb' := cb3) (by first | exact .inr rfl | exact .inl rfl) rfl rfl (h1.put _) ?_
           simp only [Rj,QU,QW,pB]
           exact mS)
end Go.SL
namespace Go.SL
open Go Go.Proofs
attribute [local irreducible] W WL WQ WG WA VOp thn blk bp scp aR aF FnIn
set_option maxRecDepth 10000 in
theorem DY (f:FuncId) [Callable Tryz.prog f] (caps:List Value) (g:Int→Int) (a:ByteArray) (ha:a.size≤1000000) (w:World) (hf: ∀ c w' H,0≤c→c<256→Mem w w' H→aA Tryz.prog f ([.int .u8 c]++caps) w' (.int .u8 (g c))):
  aF Tryz.prog 209 [.string a,.func (.func f) #[] caps.toArray] w fun v H=> ∃ gb cap,v= .slice (some ⟨gb,0,none⟩) a.size cap∧H= [.byt gb 5 a.size cap (((ap a).map g).map (Value.int .u8))]:=by
 refine aq Tryz.func209 rfl Tryz.ntmps209 rfl ?_
 repeat' (first|(apply l9;exact rfl;exact rfl;intro gb cap)|refine sT ?_|refine sM fun _=> ?_|(refine sC ?_ ?_<;>intro hb<;>try omega)|fail)
 refine fD (fun i:Nat=> [(5,.slice (some ⟨gb,0,none⟩) a.size cap),(10,.slice (some ⟨gb,0,none⟩) a.size cap),(11,.int .i64 (a.size:Int)),(12,.int .i64 (i:Int)),(1,.func (.func f) #[] caps.toArray)])
  (fun i=> [.byt gb 5 a.size cap ((((ap a).take i).map g++(ap a).drop i).map (Value.int .u8))]) (fun i=>i≤a.size) (fun i=>a.size - i) 0 (by omega) ?_ ?_ ?_
 ·
  exact sB
 ·
  rw [pw];simp only [Sj,Sq,QW,SG];exact mS
 ·
  intro i hi
  have hl:=au a
  by_cases hlt:i<a.size
  ·
   have hil:i<(ap a).length:=by omega
   have hok:=mM a (ap a)[i] (RN hil)
   have hget:((((ap a).take i).map g++(ap a).drop i).map (Value.int .u8))[0+i*1]? =some (.int .u8 (ap a)[i]):=by
    rw [RZ,show 0+i*1=i by omega,R0 (by simp;omega)]
    simp [Tb (Nat.le_of_lt hil),SF]
   repeat' (first|(apply ak;exact rfl;apply aj;exact rfl;exact rfl;exact hlt)|(apply ak;exact rfl;apply j8;exact rfl;exact .hd;exact hget)|(apply lC;exact rfl;exact rfl;infer_instance;exact rfl;(intro w' hm;exact hf _ w' _ hok.1 hok.2 hm))|(apply ma;exact rfl;exact rfl;exact .hd;exact rfl;(simp;omega))|(apply ak;exact rfl;apply lI;exact rfl;exact rfl;(constructor<;>omega))|refine sT ?_|refine sM fun _=> ?_|(refine sC ?_ ?_<;>intro hb<;>try omega)|fail)
   refine ⟨i+1,by omega,by omega,?_,?_⟩
   ·
    exact sB
   ·
    rw [show 0+i*1=i by omega,vL g (Value.int .u8) (ap a) i hil]
    exact mS
  ·
   have e:i=a.size:=by omega
   subst e
   repeat' (first|refine sT ?_|refine sM fun _=> ?_|(refine sC ?_ ?_<;>intro hb<;>try omega)|fail)
   refine cA (.inl rfl) rfl rfl (.refl _) ⟨gb,cap,rfl,?_⟩
   rw [Sg (by omega),RE (by omega),QZ]
set_option maxRecDepth 10000 in
theorem Jf (c:Int) (h0:0≤c) (h1:c<256) (ga gb:Nat) (w:World) (ha:Ro w ga 0 [.int .u8 97]) (hb' :Ro w gb 0 [.int .i64 (-32)]):aA Tryz.prog 298 [.int .u8 c,.pointer (some ⟨ga,0,none⟩),.pointer (some ⟨gb,0,none⟩)] w (.int .u8 (upC c)):=by
 refine aq Tryz.func298 rfl Tryz.ntmps298 rfl ?_
 have hwc:IntKind.i64.wrap c=c:=I64.wrap ⟨by omega,by omega⟩
 have h122:IntKind.u8.wrap (97+25)=122:=by decide
 repeat' (first|(apply ak;exact rfl;apply aL (off:=0);exact ha;exact rfl;exact rfl)|(apply ak;exact rfl;apply aL (off:=0);exact hb';exact rfl;exact rfl)|(apply ak;exact rfl;apply eG;exact rfl;exact rfl;exact h122)|(apply ak (d:=15);exact rfl;apply bU;exact rfl;exact hwc)|(apply ak (d:=17);exact rfl;apply lI;exact rfl;exact rfl;exact ⟨by omega,by omega⟩)|(apply ak (d:=18);exact rfl;apply bU (c:=c - 32);exact rfl;(rw [show c+ -32=c - 32 by omega];exact wrap_u8 (by omega) (by omega)))|refine sT ?_|refine sM fun _=> ?_|(refine sC ?_ ?_<;>intro hb<;>try omega)|fail)
 all_goals ((refine rT1 ?_);unfold upC;first|rw [if_pos (by omega)]|rw [if_neg (by omega)])
def upB (a:ByteArray):ByteArray:=mkB ((ap a).map upC)
theorem rG (a:ByteArray):ap (upB a)=(ap a).map upC:=by
 refine oh ?_
 intro c hc
 obtain ⟨d,hd,rfl⟩:=RG.1 hc
 have:=mM a d hd
 unfold upC
 split<;>omega
set_option maxRecDepth 10000 in
theorem LF (a:ByteArray) (ha:a.size≤1000000) (w:World):aA Tryz.prog 259 [.string a,.int .u8 97,.int .i64 (-32)] w (.string (upB a)):=by
 refine aq Tryz.func259 rfl Tryz.ntmps259 rfl ?_
 repeat' (first|((with_reducible apply ay (R:=fun v H=> ∃ gb cap,v= .slice (some ⟨gb,0,none⟩) a.size cap∧H= [.byt gb 5 a.size cap (((ap a).map upC).map (Value.int .u8))]));exact rfl;exact rfl;(intro w' hm;exact DY 298 [_,_] upC a ha w' (fun c w2 H2 h0 h1 hm2=>Jf c h0 h1 _ _ w2 ((Ro.of_box hm pK).next hm2) ((Ro.of_box hm pK).next hm2)));(rintro v H' ⟨gb,cap,rfl,rfl⟩))|(apply ak;exact rfl;apply sw;exact rfl;exact .hd;simp [au])|refine sT ?_|refine sM fun _=> ?_|(refine sC ?_ ?_<;>intro hb<;>try omega)|fail)
 (refine rT1 ?_)
 rfl
set_option maxRecDepth 10000 in
theorem si (a:ByteArray) (ha:a.size≤1000000) (w:World):aA Tryz.prog 218 [.string a] w (.string (upB a)):=by
 refine aq Tryz.func218 rfl Tryz.ntmps218 rfl ?_
 repeat' (first|(apply aa;exact rfl;exact rfl;(intro w hm;exact LF a ha w))|refine sT ?_|refine sM fun _=> ?_|(refine sC ?_ ?_<;>intro hb<;>try omega)|fail)
 (refine rT1 ?_)
 rfl
def lh:List Int→Option (List Int)
 | []=>some []
 |c::r=>if c≠34 then (lh r).map (c:: ·) else match r with
  | []=>none
  |d::r' =>if d=34 then (lh r').map (34:: ·) else none
def gy (l:List Int):List Int × Int:=
 if l.length<2∨l.head? ≠some 34∨l.getLast? ≠some 34∨l.all (fun c=>bF c)=false then ([],4)
 else match lh ((l.drop 1).dropLast) with
  |none=>([],4)
  |some r=>if 256<r.length then ([],5) else (r,0)
theorem nN (a:ByteArray):nO a=(ap a).all fun c=>bF c:=by
 simp only [nO,ap,List.all_map]
 congr 1
 funext c
 simp only [Function.comp,bF]
 rw [RQ];simp;omega
theorem LM (a:ByteArray) (c:Int) (h:0<a.size):((ap a).getLast? =some c)↔bat a (a.size - 1)=c:=by
 rw [Tp,au,gL (by omega)]
 simp
theorem BT {a:ByteArray} {i:Nat} (h0:1≤i) (h:i<a.size - 1):(((ap a).drop 1).dropLast).drop (i - 1)=bat a i::(((ap a).drop 1).dropLast).drop i:=by
 have hl:=au a
 obtain ⟨j,rfl⟩: ∃ j,i=j+1:=⟨i - 1,by omega⟩
 rw [ST]
 have hlen:(((ap a).drop 1).dropLast).length=a.size - 2:=by simp;omega
 have hlt:j<(((ap a).drop 1).dropLast).length:=by omega
 rw [Rc hlt]
 congr 1
 have h1:=gL (a:=a) (i:=j+1) (by omega)
 have h2:(((ap a).drop 1).dropLast)[j]? =some (bat a (j+1)):=by
  rw [List.getElem?_dropLast,if_pos (by simp;omega),SF,Tc 1 j,h1]
 rw [QV hlt] at h2
 exact Option.some.inj h2
theorem sF {c:Int} {r:List Int} (h:c≠34):lh (c::r)=(lh r).map (c:: ·):=by
 rw [lh.eq_def];simp [h]
theorem Gm (a:ByteArray) (ha:a.size≤1000000) (w:World):aA Tryz.prog 262 [.string a] w (.tuple #[.string (mkB (gy (ap a)).1),.int .i64 (gy (ap a)).2]):=by
 refine aq Tryz.func262 rfl Tryz.ntmps262 rfl ?_
 have hl:=au a
 have hp:=rv a ha
 rw [nN] at hp
 have hh:=rJ a 34
 have hg:=LM a 34
 by_cases hbad:(ap a).length<2∨(ap a).head? ≠some 34∨(ap a).getLast? ≠some 34∨(ap a).all (fun c=>bF c)=false
 ·
  rw [gy,if_pos hbad]
  repeat' (first|(apply aa;exact rfl;exact rfl;(intro w hm;exact hp w))|refine sT ?_|refine sS ?_|refine sT2 ?_|refine sN ?_|refine sM fun _=> ?_|(refine sC ?_ ?_<;>intro hb<;>try omega)|fail)
  iterate 4 (focus ((refine rT2 ?_);rfl))
  exfalso
  rename_i h1 h2 h3
  rcases hbad with h|h|h|h
  ·
   omega
  ·
   exact h (hh.2 ⟨by omega,Decidable.not_not.1 h2⟩)
  ·
   exact h ((hg (by omega)).2 (Decidable.not_not.1 h3))
  ·
   rw [hb] at h;cases h
 ·
  have hun:gy (ap a)=match lh (((ap a).drop 1).dropLast) with
    |none=>([],4)
    |some r=>if 256<r.length then ([],5) else (r,0):=by rw [gy,if_neg hbad]
  rw [hun]
  simp only [not_or,Decidable.not_not,Bool.not_eq_false] at hbad
  obtain ⟨b1,b2,b3,b4⟩:=hbad
  have b5:=(hh.1 b2).2
  have b6:=(hg (by omega)).1 b3
  rw [b4] at hp
  have hn:(a.size:Int) - 1=((a.size - 1:Nat):Int):=by omega
  generalize hB:((ap a).drop 1).dropLast=B
  have hBl:B.length=a.size - 2:=by rw [← hB];simp;omega
  repeat' (first|(apply aa;exact rfl;exact rfl;(intro w hm;exact hp w))|refine sT ?_|refine sS ?_|refine sT2 ?_|refine sN ?_|refine sM fun _=> ?_|(refine sC ?_ ?_<;>intro hb<;>try omega)|fail)
  all_goals try (exfalso;omega)
  refine aB 5 1 ?_
  refine aw [0,4] rfl (fun x:Nat × List Int × Option Nat × Nat=> [(5,sl x.2.2.1 x.2.1.length x.2.2.2),(6,.int .i64 (x.1:Int))]) (fun x=> [.own x.2.2.1 5 1 x.2.1.length x.2.2.2 (x.2.1.map (Value.int .u8))]) (fun x=>1≤x.1∧x.1≤a.size - 1∧x.2.1.length≤x.1∧lh B=(lh (B.drop (x.1 - 1))).map (x.2.1++ ·)) (fun x=>a.size - x.1) (1,[],none,0) ⟨by omega,by omega,by simp,by simp⟩ sB mS ?_
  rintro ⟨i,out,A,cap⟩ ⟨i1,i2,i3,i4⟩
  dsimp only at i1 i2 i3 i4 ⊢
  by_cases hend:i=a.size - 1
  ·
   have hBd:B.drop (i - 1)= []:=RE (by omega)
   rw [hBd] at i4
   simp only [lh,Sm,QZ] at i4
   rw [i4]
   dsimp only
   by_cases hlen:256<out.length
   ·
    rw [if_pos hlen]
    repeat' (first|refine sT ?_|refine sS ?_|refine sT2 ?_|refine sN ?_|refine sM fun _=> ?_|(refine sC ?_ ?_<;>intro hb<;>try omega)|fail)
    all_goals first|(exfalso;omega)|((refine rT2 ?_);rfl)
   ·
    rw [if_neg hlen]
    repeat' (first|(apply ak;exact rfl;apply EI;exact rfl;exact pK;exact rfl)|refine sT ?_|refine sS ?_|refine sT2 ?_|refine sN ?_|refine sM fun _=> ?_|(refine sC ?_ ?_<;>intro hb<;>try omega)|fail)
    all_goals first|(exfalso;omega)|((refine rT2 ?_);rfl)
  ·
   have hdr:=BT (a:=a) i1 (by omega)
   rw [hB] at hdr
   rw [hdr] at i4
   by_cases hq:bat a i=34
   ·
    rw [hq] at i4
    by_cases h1:i+1=a.size - 1
    ·
     have hBd:B.drop i= []:=RE (by omega)
     rw [hBd] at i4
     simp only [lh,ne_eq,not_true_eq_false,if_false,Un] at i4
     rw [i4]
     repeat' (first|refine sT ?_|refine sS ?_|refine sT2 ?_|refine sN ?_|refine sM fun _=> ?_|(refine sC ?_ ?_<;>intro hb<;>try omega)|fail)
     all_goals first|(exfalso;omega)|((refine rT2 ?_);rfl)
    ·
     have hdr2:=BT (a:=a) (i:=i+1) (by omega) (by omega)
     rw [hB,ST] at hdr2
     rw [hdr2] at i4
     by_cases h2:bat a (i+1)=34
     ·
      simp only [lh,ne_eq,not_true_eq_false,if_false,h2,if_true,TT] at i4
      repeat' (first|(apply aU;(iterate 3 exact rfl);exact pK;exact pK;exact rfl;(simp [Value.oneCell']);omega;(simp only [maxLen];omega);intro g8 c8)|(apply ak (d:=63);exact rfl;apply dO (b:=2);exact rfl;exact rfl;(simp only [maxLen];omega))|refine sT ?_|refine sS ?_|refine sT2 ?_|refine sN ?_|refine sM fun _=> ?_|(refine sC ?_ ?_<;>intro hb<;>try omega)|fail)
      all_goals try (exfalso;omega)
      refine ⟨(i+2,out++ [34],some g8,c8),⟨by dsimp only;omega,by dsimp only;omega,by simp;omega,?_⟩,(by dsimp only;omega),?_,sB,?_⟩
      ·
       dsimp only
       rw [i4,show i+2 - 1=i+1 by omega]
       congr 1
       funext l
       simp
      ·
       simp only [QT,QX]
       exact sB
      ·
       simp only [QT,QX,RM,RA,Sq]
       exact mS
     ·
      simp only [lh,ne_eq,not_true_eq_false,if_false,h2,Un] at i4
      rw [i4]
      repeat' (first|refine sT ?_|refine sS ?_|refine sT2 ?_|refine sN ?_|refine sM fun _=> ?_|(refine sC ?_ ?_<;>intro hb<;>try omega)|fail)
      all_goals first|(exfalso;omega)|((refine rT2 ?_);rfl)
   ·
    rw [sF hq,TT] at i4
    repeat' (first|(apply aU;(iterate 3 exact rfl);exact pK;exact pK;exact rfl;(simp [Value.oneCell']);omega;(simp only [maxLen];omega);intro g8 c8)|refine sT ?_|refine sS ?_|refine sT2 ?_|refine sN ?_|refine sM fun _=> ?_|(refine sC ?_ ?_<;>intro hb<;>try omega)|fail)
    all_goals try (exfalso;omega)
    refine ⟨(i+1,out++ [bat a i],some g8,c8),⟨by dsimp only;omega,by dsimp only;omega,by simp;omega,?_⟩,(by dsimp only;omega),?_,sB,?_⟩
    ·
     dsimp only
     rw [i4,show i+1 - 1=i by omega]
     congr 1
     funext l
     simp
    ·
     simp only [QT,QX]
     exact sB
    ·
     simp only [QT,QX,RM,RA,Sq]
     exact mS
end Go.SL
