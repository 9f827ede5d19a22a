/-
  Lemmas and walks, put together: A1 W1 W3 W4 W5 W6 W7 W9 W10.
-/
import Derived.Test.YthefeclkaaocnaaGreatDoorKl10
set_option linter.unusedSimpArgs false
set_option linter.unusedVariables false
set_option maxRecDepth 20000
namespace Go.SL
open Go Go.Proofs
attribute [local irreducible] W WL WQ WG WA VOp thn blk bS bq aS FnIn
theorem GF {c:Int} (h1:48≤c) (h2:c≤57):aC c=true:=by simp [aC,h1,h2]
theorem I1 {c:Int} (h:c<48):aC c=false:=by simp [aC];omega
theorem I2 {c:Int} (h:57<c):aC c=false:=by simp [aC];omega
set_option maxRecDepth 10000 in
theorem uT (a:ByteArray) (ha:a.size≤1000000) (w:World):ay Tryz.prog 241 [.string a] w (.int .i64 (aB aC (ap a):Int)):=by
 refine aq Tryz.func241 rfl Tryz.ntmps241 rfl ?_
 have hl:=au a
 repeat' (first|refine sT ?_|refine sT2 ?_|refine sM fun _=> ?_|(refine sC ?_ ?_<;>intro hb<;>try omega)|exact cT|fail)
 refine eM (fun i:Nat=> [(0,.string a),(5,.int .i64 (a.size:Int)),(6,.int .i64 (i:Int))]) (fun _=> []) (fun i=>i≤a.size∧aB aC (ap a)=i+aB aC ((ap a).drop i)) (fun i=>a.size - i) 0 ⟨by omega,by simp⟩ sB mS ?_
 rintro i ⟨hi,hr⟩
 by_cases hlt:i<a.size
 ·
  have hs1:=ba hlt
  rw [hs1] at hr
  simp only [aB] at hr
  repeat' (first|refine sT ?_|refine sT2 ?_|refine sN ?_|refine sM fun _=> ?_|(refine sC ?_ ?_<;>intro hb<;>try omega)|exact cT|fail)
  ·
   (refine rT1 ?_)
   rw [hr,I1 hb];simp
  ·
   (refine rT1 ?_)
   rw [hr,I2 hb];simp
  ·
   rename_i h1
   rw [GF h1 hb] at hr
   exact ⟨i+1,⟨hlt,by rw [hr];simp;omega⟩,by omega,by exact sB,by exact mS⟩
 ·
  have e:i=a.size:=by omega
  subst e
  repeat' (first|refine sT ?_|refine sT2 ?_|refine sM fun _=> ?_|(refine sC ?_ ?_<;>intro hb<;>try omega)|exact cT|fail)
  (refine rT1 ?_)
  rw [hr,L6 (by omega)];simp [aB]
def iz (hi lo:Int) (neg:Bool):Int × Bool:=if hi≠0∨cf<lo then (0,false) else (if neg then -lo else lo,true)
theorem mY {v:Int} (h1:0≤v) (h2:v≤cf):IntKind.i64.wrap v=v:=I64.wrap ⟨by omega,by simpa [cf] using h2⟩
set_option maxRecDepth 10000 in
theorem DA (hi lo:Int) (neg:Bool) (h0:0≤lo) (w:World):ay Tryz.prog 242 [.int .u64 hi,.int .u64 lo,.bool neg] w (.tuple #[.int .i64 (iz hi lo neg).1,.bool (iz hi lo neg).2]):=by
 refine aq Tryz.func242 rfl Tryz.ntmps242 rfl ?_
 by_cases hh:hi=0
 ·
  by_cases hl:lo≤cf
  ·
   have hw:=mY h0 hl
   have hm:cf=9223372036854775807:=rfl
   have e:iz hi lo neg=(if neg then -lo else lo,true):=by rw [iz,if_neg (by omega)]
   rw [e]
   subst hh
   cases neg
   ·
    repeat' (first|(apply ak;exact rfl;apply bJ;exact rfl;exact hw)|refine sT ?_|refine sM fun _=> ?_|(refine sC ?_ ?_<;>intro hb<;>try omega)|exact cT|fail)
    all_goals first|(exfalso;omega)|((refine rT2 ?_);rfl)
   ·
    repeat' (first|(apply ak;exact rfl;apply bJ;exact rfl;exact hw)|(apply ak;exact rfl;apply Js;exact rfl;exact ⟨by omega,by omega⟩)|refine sT ?_|refine sM fun _=> ?_|(refine sC ?_ ?_<;>intro hb<;>try omega)|exact cT|fail)
    all_goals first|(exfalso;omega)|((refine rT2 ?_);rfl)
  ·
   have hm:cf=9223372036854775807:=rfl
   have e:iz hi lo neg=(0,false):=by rw [iz,if_pos (by omega)]
   rw [e]
   repeat' (first|refine sT ?_|refine sM fun _=> ?_|(refine sC ?_ ?_<;>intro hb<;>try omega)|exact cT|fail)
   all_goals first|(exfalso;omega)|((refine rT2 ?_);rfl)
 ·
  have e:iz hi lo neg=(0,false):=by rw [iz,if_pos (.inl hh)]
  rw [e]
  repeat' (first|refine sT ?_|refine sM fun _=> ?_|(refine sC ?_ ?_<;>intro hb<;>try omega)|exact cT|fail)
  all_goals first|(exfalso;omega)|((refine rT2 ?_);rfl)
theorem qZ (u:Int) (neg:Bool) (h0:0≤u) (h1:u≤cf) (w:World):ay Tryz.prog 242 [.int .u64 0,.int .u64 u,.bool neg] w (.tuple #[.int .i64 (if neg then -u else u),.bool true]):=by
 have h:=DA 0 u neg h0 w
 rwa [iz,if_neg (by omega)] at h
theorem mN: ∀ (l:List Int) (v c:Int),bn (l++ [c]) v=10*bn l v+(c - 48)
 | [],_,_=>rfl
 |d::r,v,c=>by simp only [LD,bn];exact mN r _ c
theorem jR: ∀ (l:List Int) {v:Int},(∀ c∈l,48≤c)→0≤v→v≤bn l v
 | [],_,_,_=>M7 _
 |c::r,v,h,h0=>by
  have h1:=h c LI
  have:=jR r (v:=10*v+(c - 48)) (fun d hd=>h d (LX _ hd)) (by omega)
  simp only [bn];omega
theorem nH (l m:List Int) (v:Int):bn (l++m) v=bn m (bn l v):=by
 induction l generalizing v with
 |nil=>rfl
 |cons c l ih=>simp only [LD,bn,ih]
def fC (l0:List Int):Int × Int:=
 let neg:=decide (l0.head? =some 45)
 let l:=if neg then l0.tail else l0
 let n:=aB aC l
 let rest:=l.drop n
 let frac:=decide (1<rest.length) && (decide (rest.head? =some 46) && decide (aB aC rest.tail+1=rest.length))
 let p5:=(if frac then rest.tail else [])++ [48,48,48,48,48]
 if n=0∨(frac=false∧rest≠ []) then (0,4)
 else
  let v:=bn (l.take n++p5.take 4) 0+(if 53≤p5.getD 4 0 then 1 else 0)
  if cf<v then (0,3) else (if neg then -v else v,0)
theorem nS (a:ByteArray) (c:Int):((ap a).head? =some c)↔(0<a.size∧bat a 0=c):=by
 by_cases h:0<a.size
 ·
  have:=ba h
  rw [MP] at this
  rw [this];simp [h]
 ·
  have:ap a= []:=by rw [← M5,au];omega
  rw [this];simp;omega
set_option maxRecDepth 10000 in
theorem pQ (a:ByteArray) (ha:a.size≤1000000) (w:World):ay Tryz.prog 201 [.string a] w (.tuple #[.int .i64 (fC (ap a)).1,.int .i64 (fC (ap a)).2]):=by
 refine aq Tryz.func201 rfl Tryz.ntmps201 rfl ?_
 have hl:=au a
 generalize hneg:decide ((ap a).head? =some 45)=neg
 generalize hls:(if neg then (ap a).tail else ap a)=ls
 have hb0:=nS a 45
 repeat' (first|(refine qD (id:=1) (ι:=Bool) (fun b=> [(0,.string a),(4,.bool b)]) (fun _=> []) (fun b=>neg=b) ?_ ?_)|refine sT ?_|refine sT2 ?_|refine sM fun _=> ?_|(refine sC ?_ ?_<;>intro hb<;>try omega)|exact cT|fail)
 ·
  (apply cu;rotate_left 1;exact sB;exact mS)
  rw [← hneg,decide_eq_decide,hb0]
  simp;omega
 ·
  (apply cu;rotate_left 1;exact sB;exact mS)
  rw [← hneg,decide_eq_false_iff_not,hb0]
  omega
 rintro _ rfl
 repeat' (first|(refine vB (id:=2) (ι:=ByteArray) (fun b=> [(0,.string b),(4,.bool neg)]) (fun _=> []) (fun b=>ap b=ls∧b.size≤a.size) ?_ ?_)|refine sT ?_|refine sT2 ?_|refine sM fun _=> ?_|(refine sC ?_ ?_<;>intro hb<;>try omega)|exact cT|fail)
 ·
  have h1:0<a.size:=(hb0.1 (of_decide_eq_true (hneg.trans hb))).1
  repeat' (first|refine sT ?_|refine sT2 ?_|refine sM fun _=> ?_|(refine sC ?_ ?_<;>intro hb<;>try omega)|exact cT|fail)
  (apply cu;rotate_left 1;exact sB;exact mS)
  rw [← hls,hb,lS,bQ _ (LK _)]
  simp
 ·
  (apply cu;rotate_left 1;exact sB;exact mS)
  rw [← hls,hb]
  simp
 rintro b ⟨hbl,hbs⟩
 have hlb:=au b
 rw [hbl] at hlb
 have hdl:=bM aC ls
 generalize hn:aB aC ls=n at hdl
 generalize hrest:ls.drop n=rest
 generalize hfr:(decide (1<rest.length) && (decide (rest.head? =some 46) && decide (aB aC rest.tail+1=rest.length)))=fr
 have hcd:=uT b (by omega)
 rw [hbl,hn] at hcd
 have hb1:=nS (sub b n b.size) 46
 have hs1:=bQ b (lo:=n) (LK b.size)
 have hr1:ap (sub b n b.size)=rest:=by rw [lS,hbl,hrest]
 generalize hz:sub b n b.size=z at hb1 hs1 hr1
 have hrl:rest.length=z.size:=by rw [← hr1,au]
 have e1:ap (sub z 1 z.size)=rest.tail:=by rw [lS,hr1,List.drop_one]
 rw [hr1] at hb1
 have hcd2:=fun h=>uT (sub z 1 z.size) h
 repeat' (first|(refine qD (id:=7) (ι:=Bool) (fun x=> [(4,.bool neg),(5,.int .i64 (n:Int)),(6,.string (sub b 0 n)),(7,.string z),(8,.string av),(50,.bool x)]) (fun _=> []) (fun x=>fr=x) ?_ ?_)|(apply aa;exact rfl;exact rfl;(intro w hm;exact hcd w))|(apply aa;exact rfl;exact rfl;(intro w hm;exact hcd2 (by rw [bQ _ (LK _)];omega) w))|(rw [hz])|refine sT ?_|refine sQ ?_|refine sT2 ?_|refine sQ2 ?_|refine sN ?_|refine sNQ ?_|refine sD ?_|refine sM fun _=> ?_|(refine sC ?_ ?_<;>intro hb<;>try omega)|(refine sCQ ?_ ?_<;>intro hb<;>try omega)|exact cT|fail)
 ·
  (apply cu;rotate_left 1;exact sB;exact mS)
  rename_i h1
  rw [e1,← hfr,decide_eq_true (by omega:1<rest.length),decide_eq_true (hb1.2 ⟨by omega,hb⟩)]
  simp only [Mi,decide_eq_decide]
  omega
 ·
  (apply cu;rotate_left 1;exact sB;exact mS)
  rw [← hfr,decide_eq_false (fun h=>hb (hb1.1 h).2)]
  simp
 ·
  (apply cu;rotate_left 1;exact sB;exact mS)
  rw [← hfr,decide_eq_false (by omega)]
  rfl
 rintro _ rfl
 have hf1:fr=true→1≤z.size:=fun h=>by
  rw [← hfr] at h
  simp at h
  omega
 have hf2:fr=false→((z=av)↔rest= []):=fun _=>by rw [← Ge,hr1]
 have hbl2:b.size≤1000000:=by omega
 refine mC (ι:=ByteArray × ByteArray) (fun x=> [(4,.bool neg),(5,.int .i64 (n:Int)),(6,.string (sub b 0 n)),(7,.string x.1),(8,.string x.2)]) (fun _=> []) (fun x=>ap x.2=(if fr then rest.tail else [])∧((x.1=av)↔(fr=true∨rest= []))∧x.2.size≤a.size) ?_ ?_
 ·
  cases fr
  ·
   repeat' (first|refine sT ?_|refine sT2 ?_|refine sM fun _=> ?_|(refine sC ?_ ?_<;>intro hb<;>try omega)|exact cT|fail)
   refine cu ((z,av)) ?_ sB mS
   exact ⟨rfl,by rw [hf2 rfl];simp,LS _⟩
  ·
   have h1:=hf1 rfl
   repeat' (first|refine sT ?_|refine sT2 ?_|refine sM fun _=> ?_|(refine sC ?_ ?_<;>intro hb<;>try omega)|exact cT|fail)
   refine cu ((av,sub z 1 z.size)) ?_ sB mS
   exact ⟨by rw [e1];rfl,by simp [av],by rw [bQ _ (LK _)];omega⟩
 rintro ⟨z',pl⟩ ⟨h1,h2,h3⟩
 dsimp only at*
 generalize hp5:(if fr then rest.tail else [])++ [48,48,48,48,48]=p5
 have hpl:ap (pl++⟨#[48,48,48,48,48]⟩)=p5:=by rw [fH,h1,← hp5];rfl
 have hpz:(pl++⟨#[48,48,48,48,48]⟩:ByteArray).size=pl.size+5:=by rw [Nq];rfl
 generalize hqd:(pl++⟨#[48,48,48,48,48]⟩:ByteArray)=q at hpl hpz
 have hres:fC (ap a)=if n=0∨(fr=false∧rest≠ []) then (0,4) else if cf<bn (ls.take n++p5.take 4) 0+(if 53≤p5.getD 4 0 then 1 else 0) then (0,3) else (if neg then -(bn (ls.take n++p5.take 4) 0+(if 53≤p5.getD 4 0 then 1 else 0)) else bn (ls.take n++p5.take 4) 0+(if 53≤p5.getD 4 0 then 1 else 0),0):=by
  unfold fC
  rw [hneg]
  dsimp only
  rw [hls,hn,hrest,hfr,hp5]
 rw [hres]
 by_cases herr:n=0∨(fr=false∧rest≠ [])
 ·
  rw [if_pos herr]
  repeat' (first|refine sT ?_|refine sT2 ?_|refine sM fun _=> ?_|(refine sC ?_ ?_<;>intro hb<;>try omega)|exact cT|fail)
  ·
   (refine rT2 ?_)
   rfl
  ·
   (refine rT2 ?_)
   rfl
  ·
   exfalso
   have hz' :z' =av:=Decidable.not_not.1 hb
   have:=h2.1 hz'
   rcases herr with h|⟨h,h'⟩
   ·
    omega
   ·
    rcases this with h4|h4
    ·
     rw [h] at h4;cases h4
    ·
     exact h' h4
 ·
  rw [if_neg herr]
  generalize hL:ls.take n++p5.take 4=L
  have hp5l:p5.length=pl.size+5:=by rw [← hpl,au,hpz]
  have hy:ap (sub b 0 n++sub q 0 4)=L:=by rw [fH,qm,qm,hbl,hpl,hL]
  have hyz:(sub b 0 n++sub q 0 4:ByteArray).size=n+4:=by rw [Nq,bQ _ (by omega),bQ _ (by omega)];omega
  generalize hyd:(sub b 0 n++sub q 0 4:ByteArray)=y at hy hyz
  have hyl:L.length=y.size:=by rw [← hy,au]
  have hdig: ∀ c∈L,48≤c∧c≤57:=by
   have hall: ∀ (l:List Int) (c:Int),c∈l.take (aB aC l)→48≤c∧c≤57:=fun l c hc=>by
    obtain ⟨j,hj,rfl⟩:=Nl hc
    simp only [LP] at hj
    have h:=iQ (p:=aC) l j (l[j]'(by omega)) (by omega) (LF _)
    simp only [N9]
    simpa [aC] using h
   intro c hc
   rw [← hL] at hc
   rcases Mo.1 hc with hc|hc
   ·
    rw [← hn] at hc;exact hall ls c hc
   ·
    have hc:=MH hc
    rw [← hp5] at hc
    rcases Mo.1 hc with hc|hc
    ·
     cases hc1:fr
     ·
      rw [hc1] at hc;cases hc
     ·
      rw [hc1] at hc
      simp only [if_true] at hc
      have h7:aB aC rest.tail=rest.tail.length:=by
       rw [hc1] at hfr
       simp only [LM,decide_eq_true_eq] at hfr
       rw [NU];omega
      have:=hall rest.tail c (by rw [h7,MI];exact hc)
      exact this
    ·
     simp at hc;omega
  have hq4:bat q 4=p5.getD 4 0:=by rw [bat,hpl]
  have hm0:cf=9223372036854775807:=rfl
  repeat' (first|(apply ak (d:=60);exact rfl;apply iI;exact rfl;exact rfl;exact hqd;(show pl.size+5≤_;omega))|(apply ak (d:=64);exact rfl;apply iI;exact rfl;exact rfl;exact hyd;(rw [bQ _ (by omega),bQ _ (by omega)];omega))|(apply j0;exact rfl;exact rfl;intro gb cap)|refine sT ?_|refine sT2 ?_|refine sM fun _=> ?_|(refine sC ?_ ?_<;>intro hb<;>try omega)|exact cT|fail)
  ·
   exfalso
   refine herr (.inr ?_)
   have h4: ¬ (fr=true∨rest= []):=fun h=>hb (h2.2 h)
   cases hc:fr
   ·
    exact ⟨rfl,fun h=>h4 (.inr h)⟩
   ·
    exact absurd (.inl hc) h4
  have hup: ∀ i,i≤L.length→cf<bn (L.take i) 0→cf<bn L 0:=fun i hi h=>by
   have e:L=L.take i++L.drop i:=(MA i L).symm
   rw [e,nH]
   have h0:0≤bn (L.take i) 0:=jR _ (fun c hc=>(hdig c (MH hc)).1) (M7 _)
   have:=jR (L.drop i) (v:=bn (L.take i) 0) (fun c hc=>(hdig c (Nr hc)).1) h0
   omega
  refine ax [4,8,65,66] rfl (fun x:Nat × Int × Bool=> [(9,.int .u64 x.2.1),(10,.bool x.2.2),(67,.int .i64 (x.1:Int))]) (fun _=> [.byt gb 5 y.size cap (lD y)]) (fun x=>x.1≤L.length∧0≤x.2.1∧x.2.1<18446744073709551616∧(x.2.2=false→x.2.1=bn (L.take x.1) 0∧x.2.1≤cf)∧(x.2.2=true→cf<bn (L.take x.1) 0)) (fun x=>L.length - x.1) (0,0,false) ⟨LS _,M7 _,by decide,fun _=>⟨rfl,by decide⟩,fun h=>by cases h⟩ sB mS ?_
  rintro ⟨i,v,gr⟩ ⟨hi,hv0,hv1,hg0,hg1⟩
  dsimp only at hi hv0 hv1 hg0 hg1 ⊢
  by_cases hlt:i<L.length
  ·
   have hiy:i<y.size:=by omega
   have hge:L[i]? =some L[i]:=LF hlt
   have hci:=hdig L[i] (Mw hlt)
   have hsn:bn (L.take (i+1)) 0=10*bn (L.take i) 0+(L[i] - 48):=by rw [LQ hlt,mN]
   generalize L[i]=c at hge hci hsn
   have hget:(lD y)[0+i*1]? =some (.int .u8 c):=by rw [lV,hy,MD,show 0+i*1=i by omega,hge];rfl
   have hwc:IntKind.u8.wrap (c - 48)=c - 48:=dQ (by omega) (by omega)
   have hwc2:IntKind.u64.wrap (c - 48)=c - 48:=by simp [IntKind.wrap,IntKind.bits,IntKind.signed];omega
   obtain ⟨v',hadd,hv2,hv3,hv4⟩: ∃ v',IntKind.u64.wrap (IntKind.u64.wrap (10*v)+(c - 48))=v' ∧0≤v' ∧v' <18446744073709551616∧(v≤922337203685477580→v' =10*v+(c - 48)):=by
    refine ⟨_,rfl,?_⟩
    simp only [IntKind.wrap,IntKind.bits,IntKind.signed]
    simp
    omega
   have hn0:0≤bn (L.take i) 0:=jR _ (fun c hc=>(hdig c (MH hc)).1) (M7 _)
   cases gr
   ·
    obtain ⟨hg2,hg3⟩:=hg0 rfl
    repeat' (first|(apply ak;exact rfl;apply aj;exact rfl;exact rfl;exact hiy)|(apply ak;exact rfl;apply iO;exact rfl;exact .hd;exact hget)|(apply ak (d:=74);exact rfl;apply zU;exact rfl;exact rfl)|(apply ak (d:=76);exact rfl;apply df;exact rfl;exact rfl;exact hwc)|(apply ak (d:=77);exact rfl;apply bJ;exact rfl;exact hwc2)|(apply ak (d:=78);exact rfl;apply dA;exact rfl;exact rfl;exact hadd)|refine sT ?_|refine sT2 ?_|refine sN ?_|refine sM fun _=> ?_|(refine sC ?_ ?_<;>intro hb<;>try omega)|exact cT|fail)
    ·
     refine ⟨(i+1,v',true),?_,(by first|omega|(dsimp only;omega)),sB,sB,mS⟩
     exact ⟨hlt,hv2,hv3,(fun h=>by cases h),fun _=>by dsimp only;omega⟩
    ·
     have h5:=hv4 (by omega)
     refine ⟨(i+1,v',decide (cf<v')),⟨hlt,hv2,hv3,fun h=> ?_,fun h=> ?_⟩,(by dsimp only;omega),sB,sB,mS⟩
     ·
      have h6:=of_decide_eq_false h
      exact ⟨by dsimp only;omega,by dsimp only;omega⟩
     ·
      have h6:=of_decide_eq_true h
      dsimp only;omega
   ·
    have hg2:=hg1 rfl
    repeat' (first|(apply ak;exact rfl;apply aj;exact rfl;exact rfl;exact hiy)|(apply ak;exact rfl;apply iO;exact rfl;exact .hd;exact hget)|(apply ak (d:=74);exact rfl;apply zU;exact rfl;exact rfl)|(apply ak (d:=76);exact rfl;apply df;exact rfl;exact rfl;exact hwc)|(apply ak (d:=77);exact rfl;apply bJ;exact rfl;exact hwc2)|(apply ak (d:=78);exact rfl;apply dA;exact rfl;exact rfl;exact hadd)|refine sT ?_|refine sT2 ?_|refine sN ?_|refine sM fun _=> ?_|(refine sC ?_ ?_<;>intro hb<;>try omega)|exact cT|fail)
    all_goals
     refine ⟨(i+1,v',true),?_,(by first|omega|(dsimp only;omega)),sB,sB,mS⟩
     exact ⟨hlt,hv2,hv3,(fun h=>by cases h),fun _=>by dsimp only;omega⟩
  ·
   have e:i=L.length:=by omega
   subst e
   rw [Mm (LK _)] at hg0 hg1
   generalize bn L 0=N at hg0 hg1 hup ⊢
   have hadd:v≤cf→IntKind.u64.wrap (v+1)=v+1:=fun h=>by simp [IntKind.wrap,IntKind.bits,IntKind.signed];omega
   by_cases h5:53≤p5.getD 4 0
   ·
    rw [if_pos h5]
    cases gr
    ·
     obtain ⟨hg2,hg3⟩:=hg0 rfl
     subst hg2
     by_cases h6:cf<v+1
     ·
      rw [if_pos h6]
      repeat' (first|(apply ak (d:=89);exact rfl;apply dA;exact rfl;exact rfl;exact hadd hg3)|refine sT ?_|refine sT2 ?_|refine sM fun _=> ?_|(refine sC ?_ ?_<;>intro hb<;>try omega)|exact cT|fail)
      all_goals first|(exfalso;omega)|((refine rT2 ?_);rfl)
     ·
      rw [if_neg h6]
      repeat' (first|(apply ak (d:=89);exact rfl;apply dA;exact rfl;exact rfl;exact hadd hg3)|(apply aa;exact rfl;exact rfl;(intro w' hm;exact (qZ (v+1) neg (by omega) (by omega) w')))|refine sT ?_|refine sT2 ?_|refine sM fun _=> ?_|(refine sC ?_ ?_<;>intro hb<;>try omega)|exact cT|fail)
      all_goals first|(exfalso;omega)|((refine rT2 ?_);rfl)
    ·
     rw [if_pos (by have:=hg1 rfl;omega)]
     obtain ⟨u,hu⟩: ∃ u,IntKind.u64.wrap (v+1)=u:=⟨_,rfl⟩
     repeat' (first|(apply ak (d:=89);exact rfl;apply dA;exact rfl;exact rfl;exact hu)|refine sT ?_|refine sT2 ?_|refine sM fun _=> ?_|(refine sC ?_ ?_<;>intro hb<;>try omega)|exact cT|fail)
     all_goals first|(exfalso;omega)|((refine rT2 ?_);rfl)
   ·
    rw [if_neg h5,Int.add_zero]
    cases gr
    ·
     obtain ⟨hg2,hg3⟩:=hg0 rfl
     subst hg2
     rw [if_neg (by omega)]
     repeat' (first|(apply aa;exact rfl;exact rfl;(intro w' hm;exact (qZ v neg (by omega) hg3 w')))|refine sT ?_|refine sT2 ?_|refine sM fun _=> ?_|(refine sC ?_ ?_<;>intro hb<;>try omega)|exact cT|fail)
     all_goals first|(exfalso;omega)|((refine rT2 ?_);rfl)
    ·
     rw [if_pos (hg1 rfl)]
     repeat' (first|refine sT ?_|refine sT2 ?_|refine sM fun _=> ?_|(refine sC ?_ ?_<;>intro hb<;>try omega)|exact cT|fail)
     all_goals first|(exfalso;omega)|((refine rT2 ?_);rfl)
end Go.SL
namespace Go.SL
open Go Go.Proofs
attribute [local irreducible] W WL WQ WG VOp thn blk bq aS FnIn
set_option maxRecDepth 10000 in
theorem jG (c r:Int) (w:World):ay Tryz.prog 64 [.agg #[.int .i64 c,.int .i64 r]] w (.bool (valid c r)):=by
 refine aq Tryz.func64 rfl Tryz.ntmps64 rfl ?_
 repeat' (first|refine sT ?_|refine sM fun _=> ?_|(refine sC ?_ ?_<;>intro hb<;>try omega)|fail)
 all_goals ((refine rT1 ?_);((try simp only [← Int.not_lt] at*);simp_all [valid, -Int.not_lt, -Int.not_le,← Int.not_lt]))
set_option maxRecDepth 10000 in
theorem BA (r:Rct) (w:World):ay Tryz.prog 142 [.agg (bO r).toArray] w (.tuple #[.agg #[.int .i64 r.c1,.int .i64 r.r1],.agg #[.int .i64 r.c2,.int .i64 r.r2]]):=by
 refine aq Tryz.func142 rfl Tryz.ntmps142 rfl ?_
 repeat' (first|refine sT ?_|refine sM fun _=> ?_|(refine sC ?_ ?_<;>intro hb<;>try omega)|fail)
 rename_i g1 g2 g3
 refine qe (fun D=> [.box g2 51 [.int .i64 (bif D 10 then r.c1 else 0),.int .i64 (bif D 10 then r.r1 else 0)],.box g3 51 [.int .i64 (bif D 11 then r.c2 else 0),.int .i64 (bif D 11 then r.r2 else 0)],.box g1 33 (bO r)]) (by kernel_rfl) (by kernel_rfl) (.pick (.tl .hd) (.pick .hd (.refl _))) ?_
 repeat' (first|refine sT ?_|refine sG ?_|refine sM fun _=> ?_|(refine sC ?_ ?_<;>intro hb<;>try omega)|fail)
 refine zP _ _ rfl rfl (fun D=> .tl .hd) rfl rfl rfl (fun _=>LK _) (fun D ht=> .pick (.tl .hd) (.pick .hd (.refl _))) ?_
 refine vq fun D hD=> ?_
 have h10:=hD 10 (by decide)
 have h11:=hD 11 (by decide)
 simp only [h10,h11,cond_true]
 repeat' (first|refine sT ?_|refine sM fun _=> ?_|(refine sC ?_ ?_<;>intro hb<;>try omega)|fail)
 refine K0 (.inl rfl) Tryz.results142 rfl .hd rfl rfl (.tl .hd) rfl (MSub.nil _) ?_
 rfl
set_option maxRecDepth 10000 in
theorem fS (r:Rct) (w:World):ay Tryz.prog 94 [.agg (bO r).toArray] w (.int .i64 (dS r)):=by
 refine aq Tryz.func94 rfl Tryz.ntmps94 rfl ?_
 repeat' (first|(apply aa;exact rfl;exact rfl;(intro w hm;exact BA r w))|(apply aa;exact rfl;exact rfl;(intro w hm;exact jG r.c1 r.r1 w))|(apply aa;exact rfl;exact rfl;(intro w hm;exact jG r.c2 r.r2 w))|refine sT ?_|refine sM fun _=> ?_|(refine sC ?_ ?_<;>intro hb<;>try omega)|fail)
 all_goals ((refine rT1 ?_);((try simp only [← Int.not_lt] at*);simp_all [dS,bi, -Int.not_lt, -Int.not_le,← Int.not_lt]))
set_option maxRecDepth 10000 in
theorem Gb (fn:Int) (w:World):ay Tryz.prog 347 [.int .u8 fn] w (.bool (cO fn)):=by
 refine aq Tryz.func347 rfl Tryz.ntmps347 rfl ?_
 repeat' (first|refine sT ?_|refine sM fun _=> ?_|(refine sC ?_ ?_<;>intro hb<;>try omega)|fail)
 all_goals ((refine rT1 ?_);((try simp only [← Int.not_lt] at*);simp_all [cO, -Int.not_lt, -Int.not_le,← Int.not_lt]))
set_option maxRecDepth 10000 in
theorem pE (fn:Int) (w:World):ay Tryz.prog 329 [.int .u8 fn] w (.bool (gx fn)):=by
 refine aq Tryz.func329 rfl Tryz.ntmps329 rfl ?_
 repeat' (first|refine sT ?_|refine sM fun _=> ?_|(refine sC ?_ ?_<;>intro hb<;>try omega)|fail)
 all_goals ((refine rT1 ?_);((try simp only [← Int.not_lt] at*);simp_all [gx, -Int.not_lt, -Int.not_le,← Int.not_lt]))
set_option maxRecDepth 10000 in
theorem GY (n:Nd) (w:World):ay Tryz.prog 308 [.agg (bY n).toArray] w (.int .i64 (below n)):=by
 refine aq Tryz.func308 rfl Tryz.ntmps308 rfl ?_
 repeat' (first|refine sT ?_|refine sM fun _=> ?_|(refine sC ?_ ?_<;>intro hb<;>try omega)|fail)
 all_goals ((refine rT1 ?_);simp_all [below])
set_option maxRecDepth 10000 in
theorem sK (fn:Int) (w:World):ay Tryz.prog 327 [.int .u8 fn] w (.tuple #[.int .i64 (dW fn).1,.int .i64 (dW fn).2.1,.int .i64 (dW fn).2.2]):=by
 refine aq Tryz.func327 rfl Tryz.ntmps327 rfl ?_
 repeat' (first|(apply aa;exact rfl;exact rfl;(intro w hm;exact Gb fn w))|refine sT ?_|refine sM fun _=> ?_|(refine sC ?_ ?_<;>intro hb<;>try omega)|fail)
 all_goals ((refine rT3 ?_);simp_all [dW])
set_option maxRecDepth 10000 in
theorem Cb (fn i:Int) (w:World):ay Tryz.prog 328 [.int .u8 fn,.int .i64 i] w (.tuple #[.bool (iN fn i).1,.int .i64 (iN fn i).2]):=by
 refine aq Tryz.func328 rfl Tryz.ntmps328 rfl ?_
 repeat' (first|(apply aa;exact rfl;exact rfl;(intro w hm;exact sK fn w))|(apply aa;exact rfl;exact rfl;(intro w hm;exact pE fn w))|refine sT ?_|refine sM fun _=> ?_|(refine sC ?_ ?_<;>intro hb<;>try omega)|fail)
 all_goals ((refine rT2 ?_);((try simp only [← Int.not_lt] at*);simp_all [iN, -Int.not_lt, -Int.not_le,← Int.not_lt]))
set_option maxHeartbeats 1000000 in
theorem uN (n:Nd) (w:World):ay Tryz.prog 307 [.agg (bY n).toArray] w (.int .i64 (cK n)):=by
 refine aq Tryz.func307 rfl Tryz.ntmps307 rfl ?_
 repeat' (first|(apply aa;exact rfl;exact rfl;(intro w hm;exact zQ n.v w))|(apply aa;exact rfl;exact rfl;(intro w hm;exact fS n.rect w))|(apply aa;exact rfl;exact rfl;(intro w hm;exact sK n.fn w))|(apply vz (T:=174) (fun D=> [.int .u8 n.kind,.int .u8 0,.int .i64 0,.string av,.int .i64 0,.int .i64 0,.int .i64 0,.int .i64 0,.int .i64 0,.int .u8 (bif D 5 then n.fn else 0),.int .i64 (bif D 7 then n.n else 0)]) (xs' := [.int .u8 n.kind,.int .u8 0,.int .i64 0,.string av,.int .i64 0,.int .i64 0,.int .i64 0,.int .i64 0,.int .i64 0,.int .u8 n.fn,.int .i64 n.n]);kernel_rfl;kernel_rfl;(first|exact .hd|exact .tl .hd);exact rfl;(intro D hD;simp only [hD 5 (by decide),hD 7 (by decide),cond_true]))|(apply ak;exact rfl;(first|(apply qJ (b:=⟨n.kind,n.v,aL,0,0,0⟩);exact rfl;exact rfl)|(apply qJ (b:=⟨n.kind,bE,n.rect,0,0,0⟩);exact rfl;exact rfl)|(apply qJ (b:=⟨n.kind,bE,aL,0,0,0⟩);exact rfl;exact rfl)|(apply qJ (b:=⟨n.kind,bE,aL,n.op,0,0⟩);exact rfl;exact rfl)|(apply qJ (b:=⟨n.kind,bE,aL,0,n.fn,n.n⟩);exact rfl;exact rfl)))|refine sT ?_|refine sG ?_|refine sM fun _=> ?_|(refine sC ?_ ?_<;>intro hb<;>try omega)|fail)
 all_goals ((refine rT1 ?_);((try simp only [← Int.not_lt] at*);simp_all [cK,jw,db,CL,FW, -Int.not_lt, -Int.not_le,← Int.not_lt]))
end Go.SL
namespace Go.SL
open Go Go.Proofs
attribute [local irreducible] W WL WQ WG WA VOp thn blk bq aS FnIn
theorem gF {L:List Nd} {i:Nat} (h:i<L.length):jx L i=L[i].kind:=by simp [jx,h]
set_option maxHeartbeats 1000000 in
theorem IX (L:List Nd) (n:Nd) (ps:List Pt) (tv lv:Value) (w:World) (ht:Reads w tv L.length (L.flatMap bY)) (hp:Reads w lv ps.length (ps.flatMap o5)) (hroot: ∀ p∈ps,p.root<L.length) (hlen:ps.length≤1000000):
  ay Tryz.prog 309 [tv,.agg (bY n).toArray,lv] w (.bool (eB L n 0 ps)):=by
 obtain ⟨At,ct,rfl,ht1,ht2,ht3⟩:=ht
 obtain ⟨Al,cl,rfl,hl1,hl2,hl3⟩:=hp
 refine aq Tryz.func309 rfl Tryz.ntmps309 rfl ?_
 repeat' (first|refine sT ?_|refine sM fun _=> ?_|(refine sC ?_ ?_<;>intro hb<;>try omega)|fail)
 rename_i gn
 refine eM (fun i:Nat=> [(0,.slice At L.length ct),(4,.pointer (some ⟨gn,0,none⟩)),(11,.slice Al ps.length cl),(12,.int .i64 (ps.length:Int)),(13,.int .i64 (i:Int))])
  (fun i=> [.box gn 174 (bY n)]) (fun i=>i≤ps.length∧eB L n 0 ps=eB L n (i:Int) (ps.drop i)) (fun i=>ps.length - i) 0 ⟨by omega,rfl⟩ ?_ ?_ ?_
 ·
  exact sB
 ·
  exact mS
 ·
  rintro i ⟨hi,hrec⟩
  by_cases hlt:i<ps.length
  ·
   obtain ⟨g,o,rfl,hro⟩:=hl3 (by omega)
   have hrp:=hro.elem lA i hlt
   have hr0:=hroot ps[i] (Mw hlt)
   obtain ⟨gt,ot,rfl,hrt⟩:=ht3 (by omega)
   have hrn:=hrt.elem fp ps[i].root hr0
   rw [LJ hlt,eB,rV,gF hr0] at hrec
   repeat' (first|(apply ak;exact rfl;apply aj;exact rfl;exact rfl;first|exact hlt|exact hr0)|(apply ak;exact rfl;apply aA;exact rfl;exact hrp;exact rfl)|(apply ak;exact rfl;apply dh;exact rfl;exact hrn;exact rfl)|(apply ak;exact rfl;apply dZ;exact rfl;exact rfl;(constructor<;>omega))|(apply aa;exact rfl;exact rfl;(intro w hm;exact Cb n.fn (i:Int) w))|(apply aa;exact rfl;exact rfl;(intro w hm;exact pE n.fn w))|refine sT ?_|refine sM fun _=> ?_|(refine sC ?_ ?_<;>intro hb<;>try omega)|fail)
   all_goals first
    |((refine rT1 ?_);rw [hrec];simp_all [yw];done)
    |(refine ⟨i+1,⟨by omega,?_⟩,by omega,?_,?_⟩;(focus (rw [hrec,Int.natCast_add];simp [yw, *]));(focus exact sB);(focus exact mS))
  ·
   have e:i=ps.length:=by omega
   subst e
   rw [LU,eB] at hrec
   repeat' (first|refine sT ?_|refine sM fun _=> ?_|(refine sC ?_ ?_<;>intro hb<;>try omega)|fail)
   (refine rT1 ?_)
   rw [hrec]
def BK (N:Nat) (w0:World) (f:FuncId) (caps:List Value) (Inv:List lG→List Blk→Prop):Prop:=
 ∀ (vs:List lG) (kids:List Nat) (d:Nat) (A:Option Nat) (cap:Nat) (H F:List Blk),Inv vs H→kids.length≤1000→vs.length<N→(∀ k∈kids,k<vs.length)→
  FnIn Tryz.prog f ([.int .i64 (vs.length:Int),sl A kids.length cap,.int .i64 (d:Int)]++caps) w0 (.own A 3 1 kids.length cap (kids.map fun (k:Nat)=> .int .i64 (k:Int))::(H++F))
   fun _ H' => ∃ H1,Inv (vs++ [(kids,d)]) H1∧MSub (H1++F) H'
theorem uM {n:Nd} (h:cK n=0):0≤below n∧below n≤16:=by
 unfold cK at h
 split at h
 ·
  cases h
 ·
  rename_i hk
  split at h
  ·
   rename_i h7
   unfold below
   split
   ·
    omega
   ·
    split
    ·
     omega
    ·
     omega
  ·
   rename_i h7
   have h7' :n.kind=7:=by omega
   have hb:below n=n.n:=by simp [below,h7']
   have hk1:jw n=true:=by
    cases hh:jw n
    ·
     exact absurd (Or.inl hh) hk
    ·
     rfl
   simp [jw,h7'] at hk1
   split at h
   ·
    rename_i ha;omega
   ·
    split at h
    ·
     omega
    ·
     rename_i hc
     have hm:(dW n.fn).2.1≤16:=by
      unfold dW
      (repeat' split)<;>simp
     omega
theorem iy (st:List Pt) (k:Nat) (h:k≤st.length):(bo st k).length=k:=by simp [bo];omega
theorem gk {st:List Pt} {k:Nat} {p:Pt} (h:p∈bo st k):p∈st:=Nr h
theorem Dw {w0 w:World} {H:List Blk} {A:Option Nat} {st:List Pt} {cap k:Nat} (hm:Mem w0 w H) (hi:In (.own A 394 3 st.length cap (st.flatMap o5)) H) (h:k≤st.length):
  Reads w (.slice (if cap=st.length - k then A.map fun g=>⟨g,0,none⟩ else (A.map fun g=>(⟨g,0,none⟩:Addr)).map (·.add ((st.length - k)*3))) (st.length - (st.length - k)) (cap - (st.length - k))) (bo st k).length ((bo st k).flatMap o5):=by
 have h1:=(Reads.of_own hm hi).cut (lo:=st.length - k) (hi:=st.length) (sz:=3) (by omega) (LK _)
 have e1:st.length - (st.length - k)=(bo st k).length:=by rw [iy st k h];omega
 rw [jW lA,e1] at h1
 have e2:((st.drop (st.length - k)).flatMap o5).take ((bo st k).length*3)=(bo st k).flatMap o5:=by
  rw [Mm (by rw [aD lA];exact LK _)];rfl
 rw [e2] at h1
 rw [e1]
 exact h1
theorem nX (top:List Pt) (j:Nat) (h:j<top.length):bW (top.take (j+1))=max (bW (top.take j)) (top[j].depth+1):=by
 unfold bW
 rw [LQ h,Od]
 rfl
theorem jz (top:List Pt) (h: ∀ p∈top,p.depth≤32):bW top≤33:=by
 have: ∀ (l:List Pt) (d:Nat),d≤33→(∀ p∈l,p.depth≤32)→l.foldl (fun d p=>max d (p.depth+1)) d≤33:=by
  intro l
  induction l with
  |nil=>intro d hd _;simpa using hd
  |cons p r ih=>
   intro d hd hp
   have:=hp p LI
   exact ih _ (by show max d (p.depth+1)≤33;omega) fun q hq=>hp q (LX _ hq)
 exact this top 1 (by omega) h
structure WalkSt (L:List Nd) (Inv:List lG→List Blk→Prop) (i:Nat) (st:List Pt) (vs:List lG) (Hv:List Blk):Prop where
 le:i≤L.length
 len:vs.length=i
 inv:Inv vs Hv
 rest:gV L L 0 [] []=gV L (L.drop i) i st vs
 ok: ∀ p∈st,p.root<i∧p.depth≤32
 small:st.length≤i
set_option maxHeartbeats 2000000 in
theorem Di (L:List Nd) (hne:0<L.length) (hlen:L.length≤256) (tv:Value) (w0:World) (ht:Reads w0 tv L.length (L.flatMap bY)) (f:FuncId) [hf:Callable Tryz.prog f] (caps:List Value) (Inv:List lG→List Blk→Prop) (hV:BK L.length w0 f caps Inv)
  (H:List Blk) (hI:Inv [] H):FnIn Tryz.prog 272 [tv,.func (.func f) #[] caps.toArray] w0 H fun v H' =>v= .int .i64 (gV L L 0 [] []).1∧Inv (gV L L 0 [] []).2 H' :=by
 have ht' :=ht
 obtain ⟨At,ct,rfl,ht1,ht2,ht3⟩:=ht
 obtain ⟨gt,ot,rfl,hrt⟩:=ht3 hne
 refine dM Tryz.func272 rfl Tryz.ntmps272 rfl ?_
 repeat' (first|refine sT ?_|refine sM fun _=> ?_|(refine sC ?_ ?_<;>intro hb<;>try omega)|fail)
 refine aJ 394 3 ?_
 refine Cg (fun (i:Nat) s H=> ∃ st vs A cap Hv,s= [(0,.slice (some ⟨gt,ot,none⟩) L.length ct),(1,.func (.func f) #[] caps.toArray),(5,sl A st.length cap),(14,.slice (some ⟨gt,ot,none⟩) L.length ct),(15,.int .i64 (L.length:Int)),(16,.int .i64 (i:Int))]∧
   H= .own A 394 3 st.length cap (st.flatMap o5)::Hv∧WalkSt L Inv i st vs Hv) (fun i=>L.length - i) 0 ?_ ?_
 ·
  refine ⟨_,_,?_,?_,⟨[],[],none,0,H,rfl,rfl,⟨LS _,rfl,hI,rfl,by simp,LK _⟩⟩⟩
  ·
   exact sB
  ·
   exact mS
 ·
  rintro i _ _ ⟨st,vs,A,cap,Hv,rfl,rfl,hst⟩
  obtain ⟨hle,hvl,hinv,hrest,hok,hsmall⟩:=hst
  by_cases hlt:i<L.length
  ·
   have hrn:=hrt.elem fp i hlt
   rw [LJ hlt,gV,kH] at hrest
   generalize hn:L[i]=n at hrest hrn
   by_cases hfe:cK n=0
   ·
    obtain ⟨hb0,hb16⟩:=uM hfe
    obtain ⟨k,hk⟩:=NL hb0
    rw [if_neg (by simp [hfe]),hk,MY] at hrest
    have hbel: ∀ w,ay Tryz.prog 308 [.agg (bY n).toArray] w (.int .i64 (k:Int)):=fun w=>hk ▸ GY n w
    have hfie: ∀ w,ay Tryz.prog 307 [.agg (bY n).toArray] w (.int .i64 0):=fun w=>hfe ▸ uN n w
    refine tX .hd fun hr1 hr2 hr3=> ?_
    repeat' (first|(apply ak;exact rfl;apply aj;exact rfl;exact rfl;exact hlt)|(apply ak;exact rfl;apply aA;exact rfl;exact hrn;exact rfl)|(apply ak;exact rfl;apply dc;exact rfl;exact rfl;(simp only [maxLen];omega))|(apply aa;exact rfl;exact rfl;(intro w hm;exact hfie w))|(apply aa;exact rfl;exact rfl;(intro w hm;exact hbel w))|(apply fN (id:=9);kernel_rfl;kernel_rfl)|(apply aK;exact rfl;apply jr;exact rfl;exact rfl;omega;omega)|(apply ak;exact rfl;apply jr;exact rfl;exact rfl;omega;omega)|(apply aK;exact rfl;apply j8 (hi:=st.length);exact rfl;exact ⟨_,rfl⟩;exact rfl;omega;omega)|(apply dX;exact rfl;exact rfl;(intro w hm;exact IX L n (bo st k) _ _ w (ht'.of_w0 hm) (Dw hm pK (by omega)) (fun p hp=>Nat.lt_trans (hok p (gk hp)).1 hlt) (by rw [iy st k (by omega)];omega)))|refine sT ?_|refine sQ ?_|refine sM fun _=> ?_|(refine sC ?_ ?_<;>intro hb<;>try omega)|(refine sCQ ?_ ?_<;>intro hb<;>try omega)|fail)
    ·
     refine cQ (.inl rfl) Tryz.results272 rfl (.drop .hd (.drop .hd (.refl _))) ?_
     rw [hrest,if_pos (Or.inl (by omega))]
     exact ⟨rfl,hinv⟩
    ·
     refine cQ (.inl rfl) Tryz.results272 rfl (.drop .hd (.drop .hd (.refl _))) ?_
     rw [hrest,if_pos (Or.inr hb)]
     exact ⟨rfl,hinv⟩
    have hkl:k≤st.length:=by omega
    rw [if_neg (by intro h;rcases h with h|h;(· omega);(· rw [hb] at h;cases h))] at hrest
    repeat' (first|(apply ak;exact rfl;apply jr;exact rfl;exact rfl;omega;omega)|(apply ER (hi:=st.length);exact rfl;exact rfl;exact ⟨_,rfl⟩;exact rfl;omega;omega;(intro B hB))|refine sT ?_|refine sM fun _=> ?_|(refine sC ?_ ?_<;>intro hb<;>try omega)|fail)
    rename_i gn gp
    refine aJ 3 1 ?_
    have htl:=iy st k hkl
    refine Cg (fun (j:Nat) s H=> ∃ A2 cap2,s= [(0,.slice (some ⟨gt,ot,none⟩) L.length ct),(1,.func (.func f) #[] caps.toArray),(5,sl A st.length cap),(6,.int .i64 (i:Int)),(9,.int .i64 (k:Int)),(10,.pointer (some ⟨gp,0,none⟩)),(11,sl A2 j cap2),
      (14,.slice (some ⟨gt,ot,none⟩) L.length ct),(15,.int .i64 (L.length:Int)),(16,.int .i64 (i:Int)),(54,.slice B (st.length - (st.length - k)) (cap - (st.length - k))),(55,.int .i64 ((st.length - (st.length - k):Nat):Int)),(56,.int .i64 (j:Int))]∧
      H= .own A2 3 1 j cap2 (((bo st k).take j).map fun p=> .int .i64 (p.root:Int)):: .box gp 394 [.int .i64 (i:Int),.int .i64 (bW ((bo st k).take j):Int),.bool (decide (n.kind=3))]:: .own A 394 3 st.length cap (st.flatMap o5)::Hv∧j≤k) (fun j=>k - j) 0 ?_ ?_
    ·
     refine ⟨_,_,?_,?_,⟨none,0,rfl,rfl,by omega⟩⟩
     ·
      exact sB
     ·
      exact mS
    ·
     rintro j _ _ ⟨A2,cap2,rfl,rfl,hjk⟩
     by_cases hj:j<k
     ·
      refine dP (.tl (.tl .hd)) (by omega) fun gs hA=> ?_
      subst hA
      obtain rfl:B=some ⟨gs,0+(st.length - k)*3,none⟩:=by rw [hB,if_neg (by omega)];simp [cw]
      have hjt:j<(bo st k).length:=by omega
      have he:((st.flatMap o5).drop (0+(st.length - k)*3+j*3)).take 3=o5 (bo st k)[j]:=by
       rw [show 0+(st.length - k)*3+j*3=(st.length - k+j)*3 by rw [NE];omega,eJ lA st _ (by omega)]
       simp [bo]
      have hd32:(bo st k)[j].depth≤32:=(hok _ (gk (Mw hjt))).2
      repeat' (first|(apply ak;exact rfl;apply aj;exact rfl;exact rfl;omega)|(apply ak;exact rfl;apply xe;exact rfl;exact pK;exact he;exact rfl)|(apply ak;exact rfl;apply dr;exact rfl;exact rfl;(simp only [maxLen];omega))|(apply ak;exact rfl;apply zV;exact rfl;exact rfl)|(apply cI;(iterate 3 exact rfl);(repeat first|exact .hd|apply Sel.tl|apply In.tl);(intro w hm;exact hm.cells_own (by (repeat first|exact .hd|apply Sel.tl|apply In.tl)));exact rfl;(simp [Value.oneCell',sl]);omega;(simp only [maxLen];omega);(intro A' cap' hA'))|refine sT ?_|refine sM fun _=> ?_|(refine sC ?_ ?_<;>intro hb<;>try omega)|fail)
      have hk1:((bo st k).take (j+1)).map (fun p=>Value.int .i64 (p.root:Int))=((bo st k).take j).map (fun p=>Value.int .i64 (p.root:Int))++ [.int .i64 ((bo st k)[j].root:Int)]:=by
       rw [LQ hjt,MT];rfl
      refine ⟨j+1,_,_,?_,?_,?_,⟨A',cap',rfl,rfl,hj⟩⟩
      ·
       omega
      ·
       exact sB
      ·
       rw [hk1,nX _ _ hjt]
       exact mS
     ·
      have e:j=k:=by omega
      subst e
      have htk:(bo st j).take j=bo st j:=Mm (by omega)
      rw [htk]
      have hd33:=jz (bo st j) fun p hp=>(hok p (gk hp)).2
      repeat' (first|refine sT ?_|refine sM fun _=> ?_|(refine sC ?_ ?_<;>intro hb<;>try omega)|fail)
      ·
       refine cQ (.inl rfl) Tryz.results272 rfl (.drop .hd (.drop .hd (.drop .hd (.refl _)))) ?_
       rw [hrest,if_pos (by omega)]
       exact ⟨rfl,hinv⟩
      rw [if_neg (by omega)] at hrest
      refine E0 (.tl (.tl .hd)) (st.length - j) (by omega) ?_
      refine iw 10 rfl (by kernel_rfl) ?_
      ((with_reducible apply aO (i:=0));exact rfl;exact rfl;decide+kernel;decide+kernel;decide+kernel;exact nP;(intro _ _;exact vP))
      ((with_reducible apply aO (i:=1));exact rfl;exact rfl;decide+kernel;decide+kernel;decide+kernel;exact nP;(intro _ _;exact vP))
      ((with_reducible apply aO (i:=2));exact rfl;exact rfl;decide+kernel;decide+kernel;decide+kernel;exact nP;(intro _ _;exact vP))
      ((with_reducible apply aO (i:=3));exact rfl;exact rfl;decide+kernel;decide+kernel;decide+kernel;exact nP;(intro _ _;exact vP))
      ((with_reducible apply aO (i:=4));exact rfl;exact rfl;decide+kernel;decide+kernel;decide+kernel;exact nP;(intro _ _;exact vP))
      ((with_reducible apply aO (i:=5));exact rfl;exact rfl;decide+kernel;decide+kernel;decide+kernel;exact nP;(intro _ _;exact vP))
      repeat' (first|(apply aF (i:=6);exact rfl;decide+kernel)|(apply aF (i:=7);exact rfl;decide+kernel)|(apply aF (i:=8);exact rfl;decide+kernel)|(apply aF (i:=9);exact rfl;decide+kernel)|(apply iq;decide+kernel)|(apply cI;(iterate 3 exact rfl);(repeat first|exact .hd|apply Sel.tl|apply In.tl);(intro w hm;exact hm.cells_own (by (repeat first|exact .hd|apply Sel.tl|apply In.tl)));exact rfl;(simp [Value.oneCell',sl]);omega;(simp only [maxLen];omega);(intro A' cap' hA'))|refine sT ?_|refine sM fun _=> ?_|(refine sC ?_ ?_<;>intro hb<;>try omega)|fail)
      have hcont:(st.flatMap o5).take ((st.length - j)*3)++ [.int .i64 (i:Int),.int .i64 (bW (bo st j):Int),.bool (decide (n.kind=3))]=(st.take (st.length - j)++ [(⟨i,bW (bo st j),decide (n.kind=3)⟩:Pt)]).flatMap o5:=by
       rw [iK lA,LY];rfl
      have hvis:=hV vs ((bo st j).map Pt.root) (bW (bo st j)) A2 cap2 Hv [.own A' 394 3 (st.length - j+1) cap' ((st.take (st.length - j)++ [(⟨i,bW (bo st j),decide (n.kind=3)⟩:Pt)]).flatMap o5)] hinv (by rw [MF];omega) (by omega) (by intro q hq;obtain ⟨p,hp,rfl⟩:=Nk.1 hq;rw [hvl];exact (hok p (gk hp)).1)
      simp only [MF,htl,hvl,Om] at hvis
      rw [hcont]
      (with_reducible apply jE)
      ·
       exact rfl
      ·
       exact rfl
      ·
       infer_instance
      ·
       exact rfl
      ·
       refine hvis.msub ?_
       refine MSub.pick (T:=_) pK (MSub.snoc pK ?_)
       exact mS
      rintro v H' ⟨H1,hI1,hM1⟩
      repeat' (first|(apply ak;exact rfl;apply dr;exact rfl;exact rfl;(simp only [maxLen];omega))|refine sT ?_|refine sM fun _=> ?_|(refine sC ?_ ?_<;>intro hb<;>try omega)|fail)
      refine ⟨i+1,_,_,?_,?_,?_,⟨st.take (st.length - j)++ [(⟨i,bW (bo st j),decide (n.kind=3)⟩:Pt)],vs++ [((bo st j).map Pt.root,bW (bo st j))],A',cap',H1,rfl,rfl,⟨?_,?_,?_,?_,?_,?_⟩⟩⟩
      ·
       omega
      ·
       have e1:(st.take (st.length - j)++ [(⟨i,bW (bo st j),decide (n.kind=3)⟩:Pt)]).length=st.length - j+1:=by simp
       rw [e1]
       exact sB
      ·
       have e1:(st.take (st.length - j)++ [(⟨i,bW (bo st j),decide (n.kind=3)⟩:Pt)]).length=st.length - j+1:=by simp
       rw [e1]
       exact hM1.rot
      ·
       omega
      ·
       simp [hvl]
      ·
       exact hI1
      ·
       exact hrest
      ·
       intro p hp
       rcases Mo.1 hp with hp|hp
       ·
        exact ⟨Nat.lt_succ_of_lt (hok p (MH hp)).1,(hok p (MH hp)).2⟩
       ·
        have e:p=⟨i,bW (bo st j),decide (n.kind=3)⟩:=by simpa using hp
        subst e
        exact ⟨Nw i,by show bW (bo st j)≤32;omega⟩
      ·
       simp;omega
   ·
    have hfie: ∀ w,ay Tryz.prog 307 [.agg (bY n).toArray] w (.int .i64 (cK n)):=fun w=>uN n w
    rw [if_pos hfe] at hrest
    repeat' (first|(apply ak;exact rfl;apply aj;exact rfl;exact rfl;exact hlt)|(apply ak;exact rfl;apply aA;exact rfl;exact hrn;exact rfl)|(apply aa;exact rfl;exact rfl;(intro w hm;exact hfie w))|refine sT ?_|refine sM fun _=> ?_|(refine sC ?_ ?_<;>intro hb<;>try omega)|fail)
    refine cQ (.inl rfl) Tryz.results272 rfl (.drop .hd (.drop .hd (.refl _))) ?_
    rw [hrest]
    exact ⟨rfl,hinv⟩
  ·
   have e:i=L.length:=by omega
   subst e
   rw [LU,gV] at hrest
   repeat' (first|refine sT ?_|refine sM fun _=> ?_|(refine sC ?_ ?_<;>intro hb<;>try omega)|fail)
   ·
    refine cQ (.inl rfl) Tryz.results272 rfl (.drop .hd (.refl _)) ?_
    rw [hrest,if_neg (by omega)]
    exact ⟨rfl,hinv⟩
   ·
    refine cQ (.inl rfl) Tryz.results272 rfl (.drop .hd (.refl _)) ?_
    rw [hrest,if_pos (by omega)]
    exact ⟨rfl,hinv⟩
def lC (L:List Nd) (wide:Bool):Int × List lG:=
 if 256<L.length then (5,[]) else if L.length=0 then (4,[])
 else if (gV L L 0 [] []).1≠0 then gV L L 0 [] []
 else if wide=false∧jx L (L.length - 1)=3 then (4,(gV L L 0 [] []).2) else (0,(gV L L 0 [] []).2)
set_option maxHeartbeats 2000000 in
theorem GS (L:List Nd) (wide:Bool) (tv:Value) (w0:World) (ht:Reads w0 tv L.length (L.flatMap bY)) (f:FuncId) [hf:Callable Tryz.prog f] (caps:List Value) (Inv:List lG→List Blk→Prop) (hV:BK L.length w0 f caps Inv)
  (H:List Blk) (hI:Inv [] H):FnIn Tryz.prog 223 [tv,.bool wide,.func (.func f) #[] caps.toArray] w0 H fun v H' =>v= .int .i64 (lC L wide).1∧Inv (lC L wide).2 H' :=by
 have ht' :=ht
 obtain ⟨At,ct,rfl,ht1,ht2,ht3⟩:=ht
 refine dM Tryz.func223 rfl Tryz.ntmps223 rfl ?_
 by_cases h256:256<L.length
 ·
  repeat' (first|refine sT ?_|refine sM fun _=> ?_|(refine sC ?_ ?_<;>intro hb<;>try omega)|fail)
  refine cQ (.inl rfl) Tryz.results223 rfl (.refl _) ?_
  rw [lC,if_pos h256]
  exact ⟨rfl,hI⟩
 by_cases h0:L.length=0
 ·
  repeat' (first|refine sT ?_|refine sM fun _=> ?_|(refine sC ?_ ?_<;>intro hb<;>try omega)|fail)
  refine cQ (.inl rfl) Tryz.results223 rfl (.refl _) ?_
  rw [lC,if_neg h256,if_pos h0]
  exact ⟨rfl,hI⟩
 obtain ⟨gt,ot,rfl,hrt⟩:=ht3 (by omega)
 have hw:=Di L (by omega) (by omega) _ w0 ht' f caps Inv hV H hI
 have hrl:=hrt.elem fp (L.length - 1) (by omega)
 have hk:jx L (L.length - 1)=(L[L.length - 1]'(by omega)).kind:=gF _
 simp only [lC,if_neg h256,if_neg h0,hk]
 generalize gV L L 0 [] []=r at hw
 generalize (L[L.length - 1]'(by omega))=nl at hrl
 repeat' (first|(apply aw;exact rfl;exact rfl;exact hw;(rintro v H' ⟨rfl,hI'⟩))|(apply ak;exact rfl;apply du;exact rfl;exact rfl;omega;omega)|(apply ak;exact rfl;apply aj;exact rfl;exact rfl;omega)|(apply ak;exact rfl;apply dh (off:=0);exact rfl;exact hrl;exact rfl)|refine sT ?_|refine sM fun _=> ?_|(refine sC ?_ ?_<;>intro hb<;>try omega)|fail)
 all_goals refine cQ (.inl rfl) Tryz.results223 rfl (.refl _) ?_
 all_goals simp_all
theorem qE (N:Nat) (w0:World) (H0:List Blk):BK N w0 224 [] fun _ H=>H=H0:=by
 rintro vs kids d A cap _ F rfl _ _ _
 refine dM Tryz.func224 rfl Tryz.ntmps224 rfl ?_
 repeat' (first|refine sT ?_|refine sM fun _=> ?_|(refine sC ?_ ?_<;>intro hb<;>try omega)|fail)
 refine gX (.inr rfl) Tryz.results224 (.drop .hd (.refl _)) ⟨_,rfl,.refl _⟩
def jB (L:List Nd):Int:=(lC L false).1
theorem Ho (L:List Nd) (tv:Value) (w:World) (ht:Reads w tv L.length (L.flatMap bY)):ay Tryz.prog 180 [tv] w (.int .i64 (jB L)):=by
 have ht' :=ht
 obtain ⟨At,ct,rfl,ht1,ht2,ht3⟩:=ht
 refine aq Tryz.func180 rfl Tryz.ntmps180 rfl ?_
 have hw:=GS L false _ w ht' 224 [] (fun _ H=>H= []) (qE _ w []) [] rfl
 repeat' (first|(apply aw;exact rfl;exact rfl;exact hw;(rintro v H' ⟨rfl,rfl⟩))|refine sT ?_|refine sM fun _=> ?_|(refine sC ?_ ?_<;>intro hb<;>try omega)|fail)
 (refine rT1 ?_)
 rfl
def CM (vs:List lG):Nat:=(vs.getLast?.map (·.2)).getD 0
def lB (L:List Nd):Int × Int:=if jB L≠0 then (0,jB L) else ((CM (lC L false).2:Nat),0)
theorem gR {α:Type} [DecidableEq α] {L M:List α} {i:Nat} (h1:i<L.length) (h2:i<M.length):decide (L.drop i=M.drop i)=(decide (L[i]=M[i]) && decide (L.drop (i+1)=M.drop (i+1))):=by
 rw [LJ h1,LJ h2]
 simp only [List.cons.injEq,Bool.decide_and]
def k1:Nd:=⟨1,⟨1,50000,av⟩,aL,0,0,0⟩
def k2:Nd:=⟨2,bE,⟨1,1,1,1⟩,0,0,0⟩
def k3:Nd:=⟨3,bE,⟨1,1,2,2⟩,0,0,0⟩
def k6:Nd:=⟨6,bE,aL,1,0,0⟩
def j7:Nd:=⟨7,bE,aL,0,46,1⟩
theorem Reads.of_row {w0 w:World} {H:List Blk} {g t sz m c:Nat} {xs:List Value} (hm:Mem w0 w H) (hi:In (.own (some g) t sz m c xs) H):Reads w (.slice (some ⟨g,0,none⟩) m c) m xs:=Reads.of_own hm hi
end Go.SL
