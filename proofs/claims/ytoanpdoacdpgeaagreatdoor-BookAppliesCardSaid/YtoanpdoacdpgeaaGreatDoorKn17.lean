/-
  Lemmas and walks, put together: A1 A3 A4 Fc.
-/
import Derived.Carry
import Derived.Deep.Slices
import Derived.LaidMore
import Derived.Lay
import Derived.OpenShut
import Derived.ProofKit
import Derived.SevenTiedAt
import Derived.Stop.Joined
import Derived.Test.YtoanpdoacdpgeaaGreatDoorCards
import Derived.Test.YtoanpdoacdpgeaaGreatDoorTie
import Derived.Test.YtoanpdoacdpgeaaGreatDoorKn13
set_option linter.unusedSimpArgs false
set_option linter.unusedVariables false
set_option maxRecDepth 20000
namespace Go.SL
open Go Go.Proofs
attribute [local irreducible] W WL WQ WG WA VOp thn blk bE ba aP FnIn
theorem IC {c:Int} (h1:48≤c) (h2:c≤57):aH c=true:=by simp [aH,h1,h2]
theorem Ko {c:Int} (h:c<48):aH c=false:=by simp [aH];omega
theorem Kq {c:Int} (h:57<c):aH c=false:=by simp [aH];omega
set_option maxRecDepth 10000 in
theorem wt (a:ByteArray) (ha:a.size≤1000000) (w:World):ay Tryz.prog 219 [.string a] w (.int .i64 (aF aH (ap a):Int)):=by
 refine aq Tryz.func219 rfl Tryz.ntmps219 rfl ?_
 have hl:=av a
 repeat' (first|refine sT ?_|refine sT2 ?_|refine sM fun _=> ?_|(refine sC ?_ ?_<;>intro hb<;>try omega)|exact cT|fail)
 refine fq (fun i:Nat=> [(0,.string a),(5,.int .i64 (a.size:Int)),(6,.int .i64 (i:Int))]) (fun _=> []) (fun i=>i≤a.size∧aF aH (ap a)=i+aF aH ((ap a).drop i)) (fun i=>a.size - i) 0 ⟨by omega,by simp⟩ sB mS ?_
 rintro i ⟨hi,hr⟩
 by_cases hlt:i<a.size
 ·
  have hs1:=bk hlt
  rw [hs1] at hr
  simp only [aF] at hr
  repeat' (first|refine sT ?_|refine sT2 ?_|refine sN ?_|refine sM fun _=> ?_|(refine sC ?_ ?_<;>intro hb<;>try omega)|exact cT|fail)
  ·
   (refine rT1 ?_)
   rw [hr,Ko hb];simp
  ·
   (refine rT1 ?_)
   rw [hr,Kq hb];simp
  ·
   rename_i h1
   rw [IC h1 hb] at hr
   exact ⟨i+1,⟨hlt,by rw [hr];simp;omega⟩,by omega,by exact sB,by exact mS⟩
 ·
  have e:i=a.size:=by omega
  subst e
  repeat' (first|refine sT ?_|refine sT2 ?_|refine sM fun _=> ?_|(refine sC ?_ ?_<;>intro hb<;>try omega)|exact cT|fail)
  (refine rT1 ?_)
  rw [hr,NC (by omega)];simp [aF]
def iS (hi lo:Int) (neg:Bool):Int × Bool:=if hi≠0∨cC<lo then (0,false) else (if neg then -lo else lo,true)
theorem n9 {v:Int} (h1:0≤v) (h2:v≤cC):IntKind.i64.wrap v=v:=I64.wrap ⟨by omega,by simpa [cC] using h2⟩
set_option maxRecDepth 10000 in
theorem EI (hi lo:Int) (neg:Bool) (h0:0≤lo) (w:World):ay Tryz.prog 220 [.int .u64 hi,.int .u64 lo,.bool neg] w (.tuple #[.int .i64 (iS hi lo neg).1,.bool (iS hi lo neg).2]):=by
 refine aq Tryz.func220 rfl Tryz.ntmps220 rfl ?_
 by_cases hh:hi=0
 ·
  by_cases hl:lo≤cC
  ·
   have hw:=n9 h0 hl
   have hm:cC=9223372036854775807:=rfl
   have e:iS hi lo neg=(if neg then -lo else lo,true):=by rw [iS,if_neg (by omega)]
   rw [e]
   subst hh
   cases neg
   ·
    repeat' (first|(apply ak;exact rfl;apply bP;exact rfl;exact hw)|refine sT ?_|refine sM fun _=> ?_|(refine sC ?_ ?_<;>intro hb<;>try omega)|exact cT|fail)
    all_goals first|(exfalso;omega)|((refine rT2 ?_);rfl)
   ·
    repeat' (first|(apply ak;exact rfl;apply bP;exact rfl;exact hw)|(apply ak;exact rfl;apply KL;exact rfl;exact ⟨by omega,by omega⟩)|refine sT ?_|refine sM fun _=> ?_|(refine sC ?_ ?_<;>intro hb<;>try omega)|exact cT|fail)
    all_goals first|(exfalso;omega)|((refine rT2 ?_);rfl)
  ·
   have hm:cC=9223372036854775807:=rfl
   have e:iS hi lo neg=(0,false):=by rw [iS,if_pos (by omega)]
   rw [e]
   repeat' (first|refine sT ?_|refine sM fun _=> ?_|(refine sC ?_ ?_<;>intro hb<;>try omega)|exact cT|fail)
   all_goals first|(exfalso;omega)|((refine rT2 ?_);rfl)
 ·
  have e:iS hi lo neg=(0,false):=by rw [iS,if_pos (.inl hh)]
  rw [e]
  repeat' (first|refine sT ?_|refine sM fun _=> ?_|(refine sC ?_ ?_<;>intro hb<;>try omega)|exact cT|fail)
  all_goals first|(exfalso;omega)|((refine rT2 ?_);rfl)
theorem sr (u:Int) (neg:Bool) (h0:0≤u) (h1:u≤cC) (w:World):ay Tryz.prog 220 [.int .u64 0,.int .u64 u,.bool neg] w (.tuple #[.int .i64 (if neg then -u else u),.bool true]):=by
 have h:=EI 0 u neg h0 w
 rwa [iS,if_neg (by omega)] at h
theorem nO: ∀ (l:List Int) (v c:Int),bu (l++ [c]) v=10*bu l v+(c - 48)
 | [],_,_=>rfl
 |d::r,v,c=>by simp only [Nf,bu];exact nO r _ c
theorem kv: ∀ (l:List Int) {v:Int},(∀ c∈l,48≤c)→0≤v→v≤bu l v
 | [],_,_,_=>OH _
 |c::r,v,h,h0=>by
  have h1:=h c Nj
  have:=kv r (v:=10*v+(c - 48)) (fun d hd=>h d (Nv _ hd)) (by omega)
  simp only [bu];omega
theorem oV (l m:List Int) (v:Int):bu (l++m) v=bu m (bu l v):=by
 induction l generalizing v with
 |nil=>rfl
 |cons c l ih=>simp only [Nf,bu,ih]
def fU (l0:List Int):Int × Int:=
 let neg:=decide (l0.head? =some 45)
 let l:=if neg then l0.tail else l0
 let n:=aF aH l
 let rest:=l.drop n
 let frac:=decide (1<rest.length) && (decide (rest.head? =some 46) && decide (aF aH rest.tail+1=rest.length))
 let p5:=(if frac then rest.tail else [])++ [48,48,48,48,48]
 if n=0∨(frac=false∧rest≠ []) then (0,4)
 else
  let v:=bu (l.take n++p5.take 4) 0+(if 53≤p5.getD 4 0 then 1 else 0)
  if cC<v then (0,3) else (if neg then -v else v,0)
theorem o4 (a:ByteArray) (c:Int):((ap a).head? =some c)↔(0<a.size∧bat a 0=c):=by
 by_cases h:0<a.size
 ·
  have:=bk h
  rw [OC] at this
  rw [this];simp [h]
 ·
  have:ap a= []:=by rw [← OV,av];omega
  rw [this];simp;omega
set_option maxRecDepth 10000 in
theorem qK (a:ByteArray) (ha:a.size≤1000000) (w:World):ay Tryz.prog 172 [.string a] w (.tuple #[.int .i64 (fU (ap a)).1,.int .i64 (fU (ap a)).2]):=by
 refine aq Tryz.func172 rfl Tryz.ntmps172 rfl ?_
 have hl:=av a
 generalize hneg:decide ((ap a).head? =some 45)=neg
 generalize hls:(if neg then (ap a).tail else ap a)=ls
 have hb0:=o4 a 45
 repeat' (first|(refine nz (id:=1) (ι:=Bool) (fun b=> [(0,.string a),(4,.bool b)]) (fun _=> []) (fun b=>neg=b) ?_ ?_)|refine sT ?_|refine sT2 ?_|refine sM fun _=> ?_|(refine sC ?_ ?_<;>intro hb<;>try omega)|exact cT|fail)
 ·
  (apply cu;rotate_left 1;exact sB;exact mS)
  rw [← hneg,decide_eq_decide,hb0]
  simp;omega
 ·
  (apply cu;rotate_left 1;exact sB;exact mS)
  rw [← hneg,decide_eq_false_iff_not,hb0]
  omega
 rintro _ rfl
 repeat' (first|(refine wQ (id:=2) (ι:=ByteArray) (fun b=> [(0,.string b),(4,.bool neg)]) (fun _=> []) (fun b=>ap b=ls∧b.size≤a.size) ?_ ?_)|refine sT ?_|refine sT2 ?_|refine sM fun _=> ?_|(refine sC ?_ ?_<;>intro hb<;>try omega)|exact cT|fail)
 ·
  have h1:0<a.size:=(hb0.1 (of_decide_eq_true (hneg.trans hb))).1
  repeat' (first|refine sT ?_|refine sT2 ?_|refine sM fun _=> ?_|(refine sC ?_ ?_<;>intro hb<;>try omega)|exact cT|fail)
  (apply cu;rotate_left 1;exact sB;exact mS)
  rw [← hls,hb,mG,bV _ (Ni _)]
  simp
 ·
  (apply cu;rotate_left 1;exact sB;exact mS)
  rw [← hls,hb]
  simp
 rintro b ⟨hbl,hbs⟩
 have hlb:=av b
 rw [hbl] at hlb
 have hdl:=bR aH ls
 generalize hn:aF aH ls=n at hdl
 generalize hrest:ls.drop n=rest
 generalize hfr:(decide (1<rest.length) && (decide (rest.head? =some 46) && decide (aF aH rest.tail+1=rest.length)))=fr
 have hcd:=wt b (by omega)
 rw [hbl,hn] at hcd
 have hb1:=o4 (sub b n b.size) 46
 have hs1:=bV b (lo:=n) (Ni b.size)
 have hr1:ap (sub b n b.size)=rest:=by rw [mG,hbl,hrest]
 generalize hz:sub b n b.size=z at hb1 hs1 hr1
 have hrl:rest.length=z.size:=by rw [← hr1,av]
 have e1:ap (sub z 1 z.size)=rest.tail:=by rw [mG,hr1,List.drop_one]
 rw [hr1] at hb1
 have hcd2:=fun h=>wt (sub z 1 z.size) h
 repeat' (first|(refine nz (id:=7) (ι:=Bool) (fun x=> [(4,.bool neg),(5,.int .i64 (n:Int)),(6,.string (sub b 0 n)),(7,.string z),(8,.string au),(50,.bool x)]) (fun _=> []) (fun x=>fr=x) ?_ ?_)|(apply aa;exact rfl;exact rfl;(intro w hm;exact hcd w))|(apply aa;exact rfl;exact rfl;(intro w hm;exact hcd2 (by rw [bV _ (Ni _)];omega) w))|(rw [hz])|refine sT ?_|refine sQ ?_|refine sT2 ?_|refine sQ2 ?_|refine sN ?_|refine sNQ ?_|refine sD ?_|refine sM fun _=> ?_|(refine sC ?_ ?_<;>intro hb<;>try omega)|(refine sCQ ?_ ?_<;>intro hb<;>try omega)|exact cT|fail)
 ·
  (apply cu;rotate_left 1;exact sB;exact mS)
  rename_i h1
  rw [e1,← hfr,decide_eq_true (by omega:1<rest.length),decide_eq_true (hb1.2 ⟨by omega,hb⟩)]
  simp only [NI,decide_eq_decide]
  omega
 ·
  (apply cu;rotate_left 1;exact sB;exact mS)
  rw [← hfr,decide_eq_false (fun h=>hb (hb1.1 h).2)]
  simp
 ·
  (apply cu;rotate_left 1;exact sB;exact mS)
  rw [← hfr,decide_eq_false (by omega)]
  rfl
 rintro _ rfl
 have hf1:fr=true→1≤z.size:=fun h=>by
  rw [← hfr] at h
  simp at h
  omega
 have hf2:fr=false→((z=au)↔rest= []):=fun _=>by rw [← HT,hr1]
 have hbl2:b.size≤1000000:=by omega
 refine nA (ι:=ByteArray × ByteArray) (fun x=> [(4,.bool neg),(5,.int .i64 (n:Int)),(6,.string (sub b 0 n)),(7,.string x.1),(8,.string x.2)]) (fun _=> []) (fun x=>ap x.2=(if fr then rest.tail else [])∧((x.1=au)↔(fr=true∨rest= []))∧x.2.size≤a.size) ?_ ?_
 ·
  cases fr
  ·
   repeat' (first|refine sT ?_|refine sT2 ?_|refine sM fun _=> ?_|(refine sC ?_ ?_<;>intro hb<;>try omega)|exact cT|fail)
   refine cu ((z,au)) ?_ sB mS
   exact ⟨rfl,by rw [hf2 rfl];simp,Ns _⟩
  ·
   have h1:=hf1 rfl
   repeat' (first|refine sT ?_|refine sT2 ?_|refine sM fun _=> ?_|(refine sC ?_ ?_<;>intro hb<;>try omega)|exact cT|fail)
   refine cu ((au,sub z 1 z.size)) ?_ sB mS
   exact ⟨by rw [e1];rfl,by simp [au],by rw [bV _ (Ni _)];omega⟩
 rintro ⟨z',pl⟩ ⟨h1,h2,h3⟩
 dsimp only at*
 generalize hp5:(if fr then rest.tail else [])++ [48,48,48,48,48]=p5
 have hpl:ap (pl++⟨#[48,48,48,48,48]⟩)=p5:=by rw [f4,h1,← hp5];rfl
 have hpz:(pl++⟨#[48,48,48,48,48]⟩:ByteArray).size=pl.size+5:=by rw [Pd];rfl
 generalize hqd:(pl++⟨#[48,48,48,48,48]⟩:ByteArray)=q at hpl hpz
 have hres:fU (ap a)=if n=0∨(fr=false∧rest≠ []) then (0,4) else if cC<bu (ls.take n++p5.take 4) 0+(if 53≤p5.getD 4 0 then 1 else 0) then (0,3) else (if neg then -(bu (ls.take n++p5.take 4) 0+(if 53≤p5.getD 4 0 then 1 else 0)) else bu (ls.take n++p5.take 4) 0+(if 53≤p5.getD 4 0 then 1 else 0),0):=by
  unfold fU
  rw [hneg]
  dsimp only
  rw [hls,hn,hrest,hfr,hp5]
 rw [hres]
 by_cases herr:n=0∨(fr=false∧rest≠ [])
 ·
  rw [if_pos herr]
  repeat' (first|refine sT ?_|refine sT2 ?_|refine sM fun _=> ?_|(refine sC ?_ ?_<;>intro hb<;>try omega)|exact cT|fail)
  ·
   (refine rT2 ?_)
   rfl
  ·
   (refine rT2 ?_)
   rfl
  ·
   exfalso
   have hz' :z' =au:=Decidable.not_not.1 hb
   have:=h2.1 hz'
   rcases herr with h|⟨h,h'⟩
   ·
    omega
   ·
    rcases this with h4|h4
    ·
     rw [h] at h4;cases h4
    ·
     exact h' h4
 ·
  rw [if_neg herr]
  generalize hL:ls.take n++p5.take 4=L
  have hp5l:p5.length=pl.size+5:=by rw [← hpl,av,hpz]
  have hy:ap (sub b 0 n++sub q 0 4)=L:=by rw [f4,ru,ru,hbl,hpl,hL]
  have hyz:(sub b 0 n++sub q 0 4:ByteArray).size=n+4:=by rw [Pd,bV _ (by omega),bV _ (by omega)];omega
  generalize hyd:(sub b 0 n++sub q 0 4:ByteArray)=y at hy hyz
  have hyl:L.length=y.size:=by rw [← hy,av]
  have hdig: ∀ c∈L,48≤c∧c≤57:=by
   have hall: ∀ (l:List Int) (c:Int),c∈l.take (aF aH l)→48≤c∧c≤57:=fun l c hc=>by
    obtain ⟨j,hj,rfl⟩:=O7 hc
    simp only [Nu] at hj
    have h:=jn (p:=aH) l j (l[j]'(by omega)) (by omega) (Nc _)
    simp only [P1]
    simpa [aH] using h
   intro c hc
   rw [← hL] at hc
   rcases NJ.1 hc with hc|hc
   ·
    rw [← hn] at hc;exact hall ls c hc
   ·
    have hc:=Ot hc
    rw [← hp5] at hc
    rcases NJ.1 hc with hc|hc
    ·
     cases hc1:fr
     ·
      rw [hc1] at hc;cases hc
     ·
      rw [hc1] at hc
      simp only [if_true] at hc
      have h7:aF aH rest.tail=rest.tail.length:=by
       rw [hc1] at hfr
       simp only [Nm,decide_eq_true_eq] at hfr
       rw [PO];omega
      have:=hall rest.tail c (by rw [h7,N0];exact hc)
      exact this
    ·
     simp at hc;omega
  have hq4:bat q 4=p5.getD 4 0:=by rw [bat,hpl]
  have hm0:cC=9223372036854775807:=rfl
  repeat' (first|(apply ak (d:=60);exact rfl;apply jb;exact rfl;exact rfl;exact hqd;(show pl.size+5≤_;omega))|(apply ak (d:=64);exact rfl;apply jb;exact rfl;exact rfl;exact hyd;(rw [bV _ (by omega),bV _ (by omega)];omega))|(apply kE;exact rfl;exact rfl;intro gb cap)|refine sT ?_|refine sT2 ?_|refine sM fun _=> ?_|(refine sC ?_ ?_<;>intro hb<;>try omega)|exact cT|fail)
  ·
   exfalso
   refine herr (.inr ?_)
   have h4: ¬ (fr=true∨rest= []):=fun h=>hb (h2.2 h)
   cases hc:fr
   ·
    exact ⟨rfl,fun h=>h4 (.inr h)⟩
   ·
    exact absurd (.inl hc) h4
  have hup: ∀ i,i≤L.length→cC<bu (L.take i) 0→cC<bu L 0:=fun i hi h=>by
   have e:L=L.take i++L.drop i:=(N8 i L).symm
   rw [e,oV]
   have h0:0≤bu (L.take i) 0:=kv _ (fun c hc=>(hdig c (Ot hc)).1) (OH _)
   have:=kv (L.drop i) (v:=bu (L.take i) 0) (fun c hc=>(hdig c (Pe hc)).1) h0
   omega
  refine ax [4,8,65,66] rfl (fun x:Nat × Int × Bool=> [(9,.int .u64 x.2.1),(10,.bool x.2.2),(67,.int .i64 (x.1:Int))]) (fun _=> [.byt gb 5 y.size cap (ma y)]) (fun x=>x.1≤L.length∧0≤x.2.1∧x.2.1<18446744073709551616∧(x.2.2=false→x.2.1=bu (L.take x.1) 0∧x.2.1≤cC)∧(x.2.2=true→cC<bu (L.take x.1) 0)) (fun x=>L.length - x.1) (0,0,false) ⟨Ns _,OH _,by decide,fun _=>⟨rfl,by decide⟩,fun h=>by cases h⟩ sB mS ?_
  rintro ⟨i,v,gr⟩ ⟨hi,hv0,hv1,hg0,hg1⟩
  dsimp only at hi hv0 hv1 hg0 hg1 ⊢
  by_cases hlt:i<L.length
  ·
   have hiy:i<y.size:=by omega
   have hge:L[i]? =some L[i]:=Nc hlt
   have hci:=hdig L[i] (NW hlt)
   have hsn:bu (L.take (i+1)) 0=10*bu (L.take i) 0+(L[i] - 48):=by rw [Nk hlt,nO]
   generalize L[i]=c at hge hci hsn
   have hget:(ma y)[0+i*1]? =some (.int .u8 c):=by rw [mJ,hy,Om,show 0+i*1=i by omega,hge];rfl
   have hwc:IntKind.u8.wrap (c - 48)=c - 48:=eC (by omega) (by omega)
   have hwc2:IntKind.u64.wrap (c - 48)=c - 48:=by simp [IntKind.wrap,IntKind.bits,IntKind.signed];omega
   obtain ⟨v',hadd,hv2,hv3,hv4⟩: ∃ v',IntKind.u64.wrap (IntKind.u64.wrap (10*v)+(c - 48))=v' ∧0≤v' ∧v' <18446744073709551616∧(v≤922337203685477580→v' =10*v+(c - 48)):=by
    refine ⟨_,rfl,?_⟩
    simp only [IntKind.wrap,IntKind.bits,IntKind.signed]
    simp
    omega
   have hn0:0≤bu (L.take i) 0:=kv _ (fun c hc=>(hdig c (Ot hc)).1) (OH _)
   cases gr
   ·
    obtain ⟨hg2,hg3⟩:=hg0 rfl
    repeat' (first|(apply ak;exact rfl;apply aj;exact rfl;exact rfl;exact hiy)|(apply ak;exact rfl;apply ji;exact rfl;exact .hd;exact hget)|(apply ak (d:=74);exact rfl;apply Bs;exact rfl;exact rfl)|(apply ak (d:=76);exact rfl;apply dw;exact rfl;exact rfl;exact hwc)|(apply ak (d:=77);exact rfl;apply bP;exact rfl;exact hwc2)|(apply ak (d:=78);exact rfl;apply dK;exact rfl;exact rfl;exact hadd)|refine sT ?_|refine sT2 ?_|refine sN ?_|refine sM fun _=> ?_|(refine sC ?_ ?_<;>intro hb<;>try omega)|exact cT|fail)
    ·
     refine ⟨(i+1,v',true),?_,(by first|omega|(dsimp only;omega)),sB,sB,mS⟩
     exact ⟨hlt,hv2,hv3,(fun h=>by cases h),fun _=>by dsimp only;omega⟩
    ·
     have h5:=hv4 (by omega)
     refine ⟨(i+1,v',decide (cC<v')),⟨hlt,hv2,hv3,fun h=> ?_,fun h=> ?_⟩,(by dsimp only;omega),sB,sB,mS⟩
     ·
      have h6:=of_decide_eq_false h
      exact ⟨by dsimp only;omega,by dsimp only;omega⟩
     ·
      have h6:=of_decide_eq_true h
      dsimp only;omega
   ·
    have hg2:=hg1 rfl
    repeat' (first|(apply ak;exact rfl;apply aj;exact rfl;exact rfl;exact hiy)|(apply ak;exact rfl;apply ji;exact rfl;exact .hd;exact hget)|(apply ak (d:=74);exact rfl;apply Bs;exact rfl;exact rfl)|(apply ak (d:=76);exact rfl;apply dw;exact rfl;exact rfl;exact hwc)|(apply ak (d:=77);exact rfl;apply bP;exact rfl;exact hwc2)|(apply ak (d:=78);exact rfl;apply dK;exact rfl;exact rfl;exact hadd)|refine sT ?_|refine sT2 ?_|refine sN ?_|refine sM fun _=> ?_|(refine sC ?_ ?_<;>intro hb<;>try omega)|exact cT|fail)
    all_goals
     refine ⟨(i+1,v',true),?_,(by first|omega|(dsimp only;omega)),sB,sB,mS⟩
     exact ⟨hlt,hv2,hv3,(fun h=>by cases h),fun _=>by dsimp only;omega⟩
  ·
   have e:i=L.length:=by omega
   subst e
   rw [NQ (Ni _)] at hg0 hg1
   generalize bu L 0=N at hg0 hg1 hup ⊢
   have hadd:v≤cC→IntKind.u64.wrap (v+1)=v+1:=fun h=>by simp [IntKind.wrap,IntKind.bits,IntKind.signed];omega
   by_cases h5:53≤p5.getD 4 0
   ·
    rw [if_pos h5]
    cases gr
    ·
     obtain ⟨hg2,hg3⟩:=hg0 rfl
     subst hg2
     by_cases h6:cC<v+1
     ·
      rw [if_pos h6]
      repeat' (first|(apply ak (d:=89);exact rfl;apply dK;exact rfl;exact rfl;exact hadd hg3)|refine sT ?_|refine sT2 ?_|refine sM fun _=> ?_|(refine sC ?_ ?_<;>intro hb<;>try omega)|exact cT|fail)
      all_goals first|(exfalso;omega)|((refine rT2 ?_);rfl)
     ·
      rw [if_neg h6]
      repeat' (first|(apply ak (d:=89);exact rfl;apply dK;exact rfl;exact rfl;exact hadd hg3)|(apply aa;exact rfl;exact rfl;(intro w' hm;exact (sr (v+1) neg (by omega) (by omega) w')))|refine sT ?_|refine sT2 ?_|refine sM fun _=> ?_|(refine sC ?_ ?_<;>intro hb<;>try omega)|exact cT|fail)
      all_goals first|(exfalso;omega)|((refine rT2 ?_);rfl)
    ·
     rw [if_pos (by have:=hg1 rfl;omega)]
     obtain ⟨u,hu⟩: ∃ u,IntKind.u64.wrap (v+1)=u:=⟨_,rfl⟩
     repeat' (first|(apply ak (d:=89);exact rfl;apply dK;exact rfl;exact rfl;exact hu)|refine sT ?_|refine sT2 ?_|refine sM fun _=> ?_|(refine sC ?_ ?_<;>intro hb<;>try omega)|exact cT|fail)
     all_goals first|(exfalso;omega)|((refine rT2 ?_);rfl)
   ·
    rw [if_neg h5,P9]
    cases gr
    ·
     obtain ⟨hg2,hg3⟩:=hg0 rfl
     subst hg2
     rw [if_neg (by omega)]
     repeat' (first|(apply aa;exact rfl;exact rfl;(intro w' hm;exact (sr v neg (by omega) hg3 w')))|refine sT ?_|refine sT2 ?_|refine sM fun _=> ?_|(refine sC ?_ ?_<;>intro hb<;>try omega)|exact cT|fail)
     all_goals first|(exfalso;omega)|((refine rT2 ?_);rfl)
    ·
     rw [if_pos (hg1 rfl)]
     repeat' (first|refine sT ?_|refine sT2 ?_|refine sM fun _=> ?_|(refine sC ?_ ?_<;>intro hb<;>try omega)|exact cT|fail)
     all_goals first|(exfalso;omega)|((refine rT2 ?_);rfl)
end Go.SL
namespace Go.SL
open Go Go.Proofs
attribute [local irreducible] W WL WQ WG WA VOp thn blk bE scp ba aP FnIn
set_option maxRecDepth 10000 in
theorem AB (f:FuncId) [Callable Tryz.prog f] (caps:List Value) (g:Int→Int) (a:ByteArray) (ha:a.size≤1000000) (w:World) (hf: ∀ c w' H,0≤c→c<256→Mem w w' H→ay Tryz.prog f ([.int .u8 c]++caps) w' (.int .u8 (g c))):
  aP Tryz.prog 209 [.string a,.func (.func f) #[] caps.toArray] w fun v H=> ∃ gb cap,v= .slice (some ⟨gb,0,none⟩) a.size cap∧H= [.byt gb 5 a.size cap (((ap a).map g).map (Value.int .u8))]:=by
 refine aq Tryz.func209 rfl Tryz.ntmps209 rfl ?_
 repeat' (first|(apply kE;exact rfl;exact rfl;intro gb cap)|refine sT ?_|refine sM fun _=> ?_|(refine sC ?_ ?_<;>intro hb<;>try omega)|fail)
 refine fq (fun i:Nat=> [(5,.slice (some ⟨gb,0,none⟩) a.size cap),(10,.slice (some ⟨gb,0,none⟩) a.size cap),(11,.int .i64 (a.size:Int)),(12,.int .i64 (i:Int)),(1,.func (.func f) #[] caps.toArray)])
  (fun i=> [.byt gb 5 a.size cap ((((ap a).take i).map g++(ap a).drop i).map (Value.int .u8))]) (fun i=>i≤a.size) (fun i=>a.size - i) 0 (by omega) ?_ ?_ ?_
 ·
  exact sB
 ·
  rw [mJ];simp only [OA,OD,Ng,OC];exact mS
 ·
  intro i hi
  have hl:=av a
  by_cases hlt:i<a.size
  ·
   have hil:i<(ap a).length:=by omega
   have hok:=kU a (ap a)[i] (NW hil)
   have hget:((((ap a).take i).map g++(ap a).drop i).map (Value.int .u8))[0+i*1]? =some (.int .u8 (ap a)[i]):=by
    rw [Om,show 0+i*1=i by omega,Ol (by simp;omega)]
    simp [O1 (Nat.le_of_lt hil),OE]
   repeat' (first|(apply ak;exact rfl;apply aj;exact rfl;exact rfl;exact hlt)|(apply ak;exact rfl;apply ji;exact rfl;exact .hd;exact hget)|(apply bI;exact rfl;exact rfl;infer_instance;exact rfl;(intro w' hm;exact hf _ w' _ hok.1 hok.2 hm))|(apply kF;exact rfl;exact rfl;exact .hd;exact rfl;(simp;omega))|(apply ak;exact rfl;apply da;exact rfl;exact rfl;(constructor<;>omega))|refine sT ?_|refine sM fun _=> ?_|(refine sC ?_ ?_<;>intro hb<;>try omega)|fail)
   refine ⟨i+1,by omega,by omega,?_,?_⟩
   ·
    exact sB
   ·
    rw [show 0+i*1=i by omega,rZ g (Value.int .u8) (ap a) i hil]
    exact mS
  ·
   have e:i=a.size:=by omega
   subst e
   repeat' (first|refine sT ?_|refine sM fun _=> ?_|(refine sC ?_ ?_<;>intro hb<;>try omega)|fail)
   refine cG (.inl rfl) rfl rfl (.refl _) ⟨gb,cap,rfl,?_⟩
   rw [NQ (by omega),NC (by omega),Nl]
set_option maxRecDepth 10000 in
theorem E6 (c:Int) (h0:0≤c) (h1:c<256) (ga gb:Nat) (w:World) (ha:Ro w ga 0 [.int .u8 97]) (hb' :Ro w gb 0 [.int .i64 (-32)]):ay Tryz.prog 298 [.int .u8 c,.pointer (some ⟨ga,0,none⟩),.pointer (some ⟨gb,0,none⟩)] w (.int .u8 (upC c)):=by
 refine aq Tryz.func298 rfl Tryz.ntmps298 rfl ?_
 have hwc:IntKind.i64.wrap c=c:=I64.wrap ⟨by omega,by omega⟩
 have h122:IntKind.u8.wrap (97+25)=122:=by decide
 repeat' (first|(apply ak;exact rfl;apply aL (off:=0);exact ha;exact rfl;exact rfl)|(apply ak;exact rfl;apply aL (off:=0);exact hb';exact rfl;exact rfl)|(apply ak;exact rfl;apply dK;exact rfl;exact rfl;exact h122)|(apply ak (d:=15);exact rfl;apply bP;exact rfl;exact hwc)|(apply ak (d:=17);exact rfl;apply da;exact rfl;exact rfl;exact ⟨by omega,by omega⟩)|(apply ak (d:=18);exact rfl;apply bP (c:=c - 32);exact rfl;(rw [show c+ -32=c - 32 by omega];exact eC (by omega) (by omega)))|refine sT ?_|refine sM fun _=> ?_|(refine sC ?_ ?_<;>intro hb<;>try omega)|fail)
 all_goals ((refine rT1 ?_);unfold upC;first|rw [if_pos (by omega)]|rw [if_neg (by omega)])
def upB (a:ByteArray):ByteArray:=mkB ((ap a).map upC)
theorem oX (a:ByteArray):ap (upB a)=(ap a).map upC:=by
 refine lZ ?_
 intro c hc
 obtain ⟨d,hd,rfl⟩:=OQ.1 hc
 have:=kU a d hd
 unfold upC
 split<;>omega
set_option maxRecDepth 10000 in
theorem HE (a:ByteArray) (ha:a.size≤1000000) (w:World):ay Tryz.prog 259 [.string a,.int .u8 97,.int .i64 (-32)] w (.string (upB a)):=by
 refine aq Tryz.func259 rfl Tryz.ntmps259 rfl ?_
 repeat' (first|((with_reducible apply aC (R:=fun v H=> ∃ gb cap,v= .slice (some ⟨gb,0,none⟩) a.size cap∧H= [.byt gb 5 a.size cap (((ap a).map upC).map (Value.int .u8))]));exact rfl;exact rfl;(intro w' hm;exact AB 298 [_,_] upC a ha w' (fun c w2 H2 h0 h1 hm2=>E6 c h0 h1 _ _ w2 ((Ro.of_box hm pK).next hm2) ((Ro.of_box hm pK).next hm2)));(rintro v H' ⟨gb,cap,rfl,rfl⟩))|(apply ak;exact rfl;apply pO;exact rfl;exact .hd;simp [av])|refine sT ?_|refine sM fun _=> ?_|(refine sC ?_ ?_<;>intro hb<;>try omega)|fail)
 (refine rT1 ?_)
 rfl
set_option maxRecDepth 10000 in
theorem pF (a:ByteArray) (ha:a.size≤1000000) (w:World):ay Tryz.prog 218 [.string a] w (.string (upB a)):=by
 refine aq Tryz.func218 rfl Tryz.ntmps218 rfl ?_
 repeat' (first|(apply aa;exact rfl;exact rfl;(intro w hm;exact HE a ha w))|refine sT ?_|refine sM fun _=> ?_|(refine sC ?_ ?_<;>intro hb<;>try omega)|fail)
 (refine rT1 ?_)
 rfl
def jQ:List Int→Option (List Int)
 | []=>some []
 |c::r=>if c≠34 then (jQ r).map (c:: ·) else match r with
  | []=>none
  |d::r' =>if d=34 then (jQ r').map (34:: ·) else none
def fH (l:List Int):List Int × Int:=
 if l.length<2∨l.head? ≠some 34∨l.getLast? ≠some 34∨l.all (fun c=>bz c)=false then ([],4)
 else match jQ ((l.drop 1).dropLast) with
  |none=>([],4)
  |some r=>if 256<r.length then ([],5) else (r,0)
theorem lN (a:ByteArray):gC a=(ap a).all fun c=>bz c:=by
 simp only [gC,ap,List.all_map]
 congr 1
 funext c
 simp only [Function.comp,bz]
 rw [NL];simp;omega
theorem HM (a:ByteArray) (c:Int) (h:0<a.size):((ap a).getLast? =some c)↔bat a (a.size - 1)=c:=by
 rw [P0,av,fR (by omega)]
 simp
theorem yF {a:ByteArray} {i:Nat} (h0:1≤i) (h:i<a.size - 1):(((ap a).drop 1).dropLast).drop (i - 1)=bat a i::(((ap a).drop 1).dropLast).drop i:=by
 have hl:=av a
 obtain ⟨j,rfl⟩: ∃ j,i=j+1:=⟨i - 1,by omega⟩
 rw [OU]
 have hlen:(((ap a).drop 1).dropLast).length=a.size - 2:=by simp;omega
 have hlt:j<(((ap a).drop 1).dropLast).length:=by omega
 rw [Nn hlt]
 congr 1
 have h1:=fR (a:=a) (i:=j+1) (by omega)
 have h2:(((ap a).drop 1).dropLast)[j]? =some (bat a (j+1)):=by
  rw [List.getElem?_dropLast,if_pos (by simp;omega),OE,O3 1 j,h1]
 rw [Nc hlt] at h2
 exact Option.some.inj h2
theorem pS {c:Int} {r:List Int} (h:c≠34):jQ (c::r)=(jQ r).map (c:: ·):=by
 rw [jQ.eq_def];simp [h]
theorem CY (a:ByteArray) (ha:a.size≤1000000) (w:World):ay Tryz.prog 262 [.string a] w (.tuple #[.string (mkB (fH (ap a)).1),.int .i64 (fH (ap a)).2]):=by
 refine aq Tryz.func262 rfl Tryz.ntmps262 rfl ?_
 have hl:=av a
 have hp:=oR a ha
 rw [lN] at hp
 have hh:=o4 a 34
 have hg:=HM a 34
 by_cases hbad:(ap a).length<2∨(ap a).head? ≠some 34∨(ap a).getLast? ≠some 34∨(ap a).all (fun c=>bz c)=false
 ·
  rw [fH,if_pos hbad]
  repeat' (first|(apply aa;exact rfl;exact rfl;(intro w hm;exact hp w))|refine sT ?_|refine sS ?_|refine sT2 ?_|refine sN ?_|refine sM fun _=> ?_|(refine sC ?_ ?_<;>intro hb<;>try omega)|fail)
  iterate 4 (focus ((refine rT2 ?_);rfl))
  exfalso
  rename_i h1 h2 h3
  rcases hbad with h|h|h|h
  ·
   omega
  ·
   exact h (hh.2 ⟨by omega,Decidable.not_not.1 h2⟩)
  ·
   exact h ((hg (by omega)).2 (Decidable.not_not.1 h3))
  ·
   rw [hb] at h;cases h
 ·
  have hun:fH (ap a)=match jQ (((ap a).drop 1).dropLast) with
    |none=>([],4)
    |some r=>if 256<r.length then ([],5) else (r,0):=by rw [fH,if_neg hbad]
  rw [hun]
  simp only [not_or,Decidable.not_not,Bool.not_eq_false] at hbad
  obtain ⟨b1,b2,b3,b4⟩:=hbad
  have b5:=(hh.1 b2).2
  have b6:=(hg (by omega)).1 b3
  rw [b4] at hp
  have hn:(a.size:Int) - 1=((a.size - 1:Nat):Int):=by omega
  generalize hB:((ap a).drop 1).dropLast=B
  have hBl:B.length=a.size - 2:=by rw [← hB];simp;omega
  repeat' (first|(apply aa;exact rfl;exact rfl;(intro w hm;exact hp w))|refine sT ?_|refine sS ?_|refine sT2 ?_|refine sN ?_|refine sM fun _=> ?_|(refine sC ?_ ?_<;>intro hb<;>try omega)|fail)
  all_goals try (exfalso;omega)
  refine aD 5 1 ?_
  refine ax [0,4] rfl (fun x:Nat × List Int × Option Nat × Nat=> [(5,sl x.2.2.1 x.2.1.length x.2.2.2),(6,.int .i64 (x.1:Int))]) (fun x=> [.own x.2.2.1 5 1 x.2.1.length x.2.2.2 (x.2.1.map (Value.int .u8))]) (fun x=>1≤x.1∧x.1≤a.size - 1∧x.2.1.length≤x.1∧jQ B=(jQ (B.drop (x.1 - 1))).map (x.2.1++ ·)) (fun x=>a.size - x.1) (1,[],none,0) ⟨by omega,by omega,by simp,by simp⟩ sB mS ?_
  rintro ⟨i,out,A,cap⟩ ⟨i1,i2,i3,i4⟩
  dsimp only at i1 i2 i3 i4 ⊢
  by_cases hend:i=a.size - 1
  ·
   have hBd:B.drop (i - 1)= []:=NC (by omega)
   rw [hBd] at i4
   simp only [jQ,Oh,Nl] at i4
   rw [i4]
   dsimp only
   by_cases hlen:256<out.length
   ·
    rw [if_pos hlen]
    repeat' (first|refine sT ?_|refine sS ?_|refine sT2 ?_|refine sN ?_|refine sM fun _=> ?_|(refine sC ?_ ?_<;>intro hb<;>try omega)|fail)
    all_goals first|(exfalso;omega)|((refine rT2 ?_);rfl)
   ·
    rw [if_neg hlen]
    repeat' (first|(apply ak;exact rfl;apply Bp;exact rfl;exact pK;exact rfl)|refine sT ?_|refine sS ?_|refine sT2 ?_|refine sN ?_|refine sM fun _=> ?_|(refine sC ?_ ?_<;>intro hb<;>try omega)|fail)
    all_goals first|(exfalso;omega)|((refine rT2 ?_);rfl)
  ·
   have hdr:=yF (a:=a) i1 (by omega)
   rw [hB] at hdr
   rw [hdr] at i4
   by_cases hq:bat a i=34
   ·
    rw [hq] at i4
    by_cases h1:i+1=a.size - 1
    ·
     have hBd:B.drop i= []:=NC (by omega)
     rw [hBd] at i4
     simp only [jQ,ne_eq,not_true_eq_false,if_false,P6] at i4
     rw [i4]
     repeat' (first|refine sT ?_|refine sS ?_|refine sT2 ?_|refine sN ?_|refine sM fun _=> ?_|(refine sC ?_ ?_<;>intro hb<;>try omega)|fail)
     all_goals first|(exfalso;omega)|((refine rT2 ?_);rfl)
    ·
     have hdr2:=yF (a:=a) (i:=i+1) (by omega) (by omega)
     rw [hB,OU] at hdr2
     rw [hdr2] at i4
     by_cases h2:bat a (i+1)=34
     ·
      simp only [jQ,ne_eq,not_true_eq_false,if_false,h2,if_true,PJ] at i4
      repeat' (first|(apply aG;(iterate 3 exact rfl);exact pK;exact pK;exact rfl;(simp [Value.oneCell']);omega;(simp only [maxLen];omega);intro g8 c8)|(apply ak (d:=63);exact rfl;apply dr (b:=2);exact rfl;exact rfl;(simp only [maxLen];omega))|refine sT ?_|refine sS ?_|refine sT2 ?_|refine sN ?_|refine sM fun _=> ?_|(refine sC ?_ ?_<;>intro hb<;>try omega)|fail)
      all_goals try (exfalso;omega)
      refine ⟨(i+2,out++ [34],some g8,c8),⟨by dsimp only;omega,by dsimp only;omega,by simp;omega,?_⟩,(by dsimp only;omega),?_,sB,?_⟩
      ·
       dsimp only
       rw [i4,show i+2 - 1=i+1 by omega]
       congr 1
       funext l
       simp
      ·
       simp only [Na,Nh]
       exact sB
      ·
       simp only [Na,Nh,Ok,NM,OD]
       exact mS
     ·
      simp only [jQ,ne_eq,not_true_eq_false,if_false,h2,P6] at i4
      rw [i4]
      repeat' (first|refine sT ?_|refine sS ?_|refine sT2 ?_|refine sN ?_|refine sM fun _=> ?_|(refine sC ?_ ?_<;>intro hb<;>try omega)|fail)
      all_goals first|(exfalso;omega)|((refine rT2 ?_);rfl)
   ·
    rw [pS hq,PJ] at i4
    repeat' (first|(apply aG;(iterate 3 exact rfl);exact pK;exact pK;exact rfl;(simp [Value.oneCell']);omega;(simp only [maxLen];omega);intro g8 c8)|refine sT ?_|refine sS ?_|refine sT2 ?_|refine sN ?_|refine sM fun _=> ?_|(refine sC ?_ ?_<;>intro hb<;>try omega)|fail)
    all_goals try (exfalso;omega)
    refine ⟨(i+1,out++ [bat a i],some g8,c8),⟨by dsimp only;omega,by dsimp only;omega,by simp;omega,?_⟩,(by dsimp only;omega),?_,sB,?_⟩
    ·
     dsimp only
     rw [i4,show i+1 - 1=i by omega]
     congr 1
     funext l
     simp
    ·
     simp only [Na,Nh]
     exact sB
    ·
     simp only [Na,Nh,Ok,NM,OD]
     exact mS
def cy:List ByteArray:= [⟨#[]⟩,⟨#[35,68,73,86,47,48,33]⟩,⟨#[35,86,65,76,85,69,33]⟩,⟨#[35,78,85,77,33]⟩,⟨#[35,78,47,65]⟩,⟨#[35,82,69,70,33]⟩,⟨#[35,67,89,67,76,69,33]⟩,⟨#[35,68,69,78,73,69,68]⟩]
def Words (w:World):Prop:=Ro w 0 0 (cy.map Value.string)
theorem Words.next {w0 w:World} {H:List Blk} (h:Words w0) (hm:Mem w0 w H):Words w:=Ro.next h hm
def fM (c:Int):Vl:=⟨4,if c<1∨7<c then 2 else c,au⟩
def tE (n:Int):Vl:=if n= -9223372036854775808 then fM 3 else ⟨1,n,au⟩
def kH (b:Bool):Vl:=⟨2,if b then 1 else 0,au⟩
def lC:ByteArray:=⟨#[84,82,85,69]⟩
def jV:ByteArray:=⟨#[70,65,76,83,69]⟩
def xz (a:ByteArray):Vl:=if upB a=lC then kH true else if upB a=jV then kH false else fM 2
theorem kZ (c:Int) (w:World):ay Tryz.prog 170 [.int .i64 c] w (.agg (di (fM c)).toArray):=by
 refine aq Tryz.func170 rfl Tryz.ntmps170 rfl ?_
 repeat' (first|refine sT ?_|refine sM fun _=> ?_|(refine sC ?_ ?_<;>intro hb<;>try omega)|exact cT|fail)
 all_goals ((refine eRC ?_);simp only [fM];(first|rw [if_pos (by omega)]|rw [if_neg (by omega)]);rfl)
theorem KF (n:Int) (w:World):ay Tryz.prog 173 [.int .i64 n] w (.agg (di (tE n)).toArray):=by
 refine aq Tryz.func173 rfl Tryz.ntmps173 rfl ?_
 repeat' (first|(apply aa;exact rfl;exact rfl;(intro w hm;exact kZ 3 w))|refine sT ?_|refine sM fun _=> ?_|(refine sC ?_ ?_<;>intro hb<;>try omega)|exact cT|fail)
 all_goals ((refine eRC ?_);simp_all [tE,di,fM,au])
theorem I6 (b:Bool) (w:World):ay Tryz.prog 258 [.bool b] w (.agg (di (kH b)).toArray):=by
 refine aq Tryz.func258 rfl Tryz.ntmps258 rfl ?_
 repeat' (first|refine sT ?_|refine sM fun _=> ?_|(refine sC ?_ ?_<;>intro hb<;>try omega)|exact cT|fail)
 all_goals ((refine eRC ?_);simp_all [kH,di,au])
theorem HC (v:Vl) (ha:v.text.size≤1000000) (w:World):ay Tryz.prog 217 [.agg (di v).toArray] w (.agg (di (xz v.text)).toArray):=by
 refine aq Tryz.func217 rfl Tryz.ntmps217 rfl ?_
 repeat' (first|(apply aa;exact rfl;exact rfl;(intro w hm;exact pF v.text ha w))|(apply aa;exact rfl;exact rfl;(intro w hm;exact I6 _ w))|(apply aa;exact rfl;exact rfl;(intro w hm;exact kZ 2 w))|refine sT ?_|refine sM fun _=> ?_|(refine sC ?_ ?_<;>intro hb<;>try omega)|exact cT|fail)
 all_goals ((refine eRC ?_);simp_all [xz,lC,jV];rfl)
theorem KC (c:Int) (h1:1≤c) (h2:c≤5) (w:World) (hw:Words w):ay Tryz.prog 269 [.agg (di ⟨4,c,au⟩).toArray] w (.string (cy.getD c.toNat au)):=by
 refine aq Tryz.func269 rfl Tryz.ntmps269 rfl ?_
 have he:eqV ⟨4,c,au⟩ (fM 7)=false:=by simp [eqV,fM];omega
 have hv:nB ⟨4,c,au⟩=0:=by
  have h6:decide (c≤6)=true:=decide_eq_true (by omega)
  simp [nB,rP,h1,h6]
 have hc:=Bl ⟨4,c,au⟩
 rw [hv] at hc
 obtain ⟨k,rfl⟩: ∃ k:Nat,c=(k:Int):=⟨c.toNat,by omega⟩
 have hcell:(cy.map Value.string)[k*1]? =some (.string (cy.getD k au)):=by
  rcases (by omega:k=1∨k=2∨k=3∨k=4∨k=5) with rfl|rfl|rfl|rfl|rfl<;>rfl
 repeat' (first|(apply eF;exact rfl;exact rfl;(intro w hm;exact kZ 7 w))|(apply eF;exact rfl;exact rfl;(intro w hm;exact hc w))|(apply aS;exact rfl;exact he ▸ Bx (b:=fM 7) rfl rfl)|(apply ak;exact rfl;apply rV (j:=k);exact rfl;exact rfl;omega)|(apply ak;exact rfl;apply aL (o:=0);exact hw;exact rfl;exact hcell)|refine sT ?_|refine sQ ?_|refine sD ?_|refine sM fun _=> ?_|(refine sC ?_ ?_<;>intro hb<;>try omega)|(refine sCQ ?_ ?_<;>intro hb<;>try omega)|exact cT|fail)
 (refine rT1 ?_)
 rfl
instance:KLaw Tryz.prog 5 (fun z:Int=>Value.int .u8 z):=HR
theorem wM {P:Program} {n:Fr} {w0:World} {Q:bQ} {s:az} {H:List Blk} {rest:List Oper} {ty:TypeId} {p:String} {af:Array Edge} {κ:Type} [DecidableEq κ] {enc:κ→Value} {t K E g clock:Nat} {m x kx:Operand} {k:κ} {v:Value} {es:List (κ × Value × Nat)} {es' :List (κ × Value × Nat)} {c' :Nat} {R:List Blk} {ops:Array Oper} [ht:Und P t (.map K E)] [hk:KLaw P K enc] (hm:ev s m=some (.map (some g))) (hkx:ev s kx=some (enc k)) (hx:ev s x=some v) (hsel:Sel (.obj g (mN enc es clock)) H R)
  (he:xD k v clock es=(es',c')) (h:WL P n w0 ops rest Q s (.obj g (mN enc es' c')::R)):WL P n w0 ops (⟨none,.insert t m kx x,ty,p,af,none⟩::rest) Q s H:=by
 refine Ee hm hkx hx hsel ?_
 rw [he];exact h
theorem HP {κ:Type} [DecidableEq κ] {k:κ} {v:Value} {clock:Nat} {es:List (κ × Value × Nat)} (h:lg k es 0=none):xD k v clock es=(es++ [(k,v,clock)],clock+1):=by
 simp [xD,h]
def D0 (v:Vl):List (Int × Value × Nat):=
 [(0,.func (.func 215) #[.agg (di v).toArray] #[],0),(1,.func (.func 215) #[.agg (di v).toArray] #[],1),(2,.func (.func 216) #[.agg (di v).toArray] #[],2),(3,.func (.func 217) #[.agg (di v).toArray] #[],3),(4,.func (.func 216) #[.agg (di v).toArray] #[],4)]
theorem BJ (v:Vl) (w:World):aP Tryz.prog 214 [.agg (di v).toArray] w fun u H=> ∃ g,u= .map (some g)∧H= [.obj g (mN (fun z:Int=>Value.int .u8 z) (D0 v) 5)]:=by
 refine aq Tryz.func214 rfl Tryz.ntmps214 rfl ?_
 repeat' (first|(apply Bg (enc:=fun z:Int=>Value.int .u8 z);exact rfl;intro g)|(apply ak;exact rfl;apply kG;exact rfl)|(apply wM (enc:=fun z:Int=>Value.int .u8 z);(iterate 3 exact rfl);exact pK;exact HP rfl)|refine sT ?_|refine sM fun _=> ?_|(refine sC ?_ ?_<;>intro hb<;>try omega)|exact cT|fail)
 exact cG (H' := [.obj g (mN (fun z:Int=>Value.int .u8 z) (D0 v) 5)]) (.inl rfl) rfl rfl (.pick .hd (.nil _)) ⟨g,rfl,rfl⟩
def gZ (v:Vl):Vl:=if nB v=0 then xz v.text else fM 2
set_option maxHeartbeats 1000000 in
theorem Au (v:Vl) (hk:v.kind=3) (ha:v.text.size≤1000000) (w:World):ay Tryz.prog 213 [.agg (di v).toArray,.func (.func 214) #[] #[]] w (.agg (di (gZ v)).toArray):=by
 refine aq Tryz.func213 rfl Tryz.ntmps213 rfl ?_
 obtain ⟨k,num,text⟩:=v
 dsimp only at hk ha
 subst hk
 have hv:=Bl ⟨3,num,text⟩
 have hn:=HC ⟨3,num,text⟩ ha
 repeat' (first|refine sT ?_|refine sM fun _=> ?_|(refine sC ?_ ?_<;>intro hb<;>try omega)|exact cT|fail)
 rename_i g2 g4
 refine nz (id:=1) (ι:=Unit) (fun _=> [(5,.func (.func 217) #[.agg (di ⟨3,num,text⟩).toArray] #[]),(6,.bool true),(2,.pointer (some ⟨g2,0,none⟩)),(4,.pointer (some ⟨g4,0,none⟩))]) (fun _=> [.box g2 127 (di ⟨3,num,text⟩),.box g4 127 (di bK)]) (fun _=>True) ?_ ?_
 ·
  refine iP 11 rfl (by kernel_rfl) ?_
  ((with_reducible apply aR (i:=0));exact rfl;exact rfl;decide+kernel;decide+kernel;decide+kernel;exact nP;(intro _ _;exact vP))
  ((with_reducible apply aR (i:=3));exact rfl;exact rfl;decide+kernel;decide+kernel;decide+kernel;exact nP;(intro _ _;exact vP))
  repeat' (first|(apply cM (i:=1) (j:=4);exact rfl;exact rfl;decide+kernel)|(apply cM (i:=2) (j:=4);exact rfl;exact rfl;decide+kernel)|(apply aJ (i:=1);exact rfl;decide+kernel)|(apply aJ (i:=2);exact rfl;decide+kernel)|(apply aJ (i:=4);exact rfl;decide+kernel)|(apply aJ (i:=5);exact rfl;decide+kernel)|(apply aR (i:=6);exact rfl;exact rfl;decide+kernel;decide+kernel;decide+kernel;exact nP;(intro _ _;exact vP))|(apply aR (i:=7);exact rfl;exact rfl;decide+kernel;decide+kernel;decide+kernel;exact nP;(intro _ _;exact vP))|(apply aR (i:=8);exact rfl;exact rfl;decide+kernel;decide+kernel;decide+kernel;exact nP;(intro _ _;exact vP))|(apply aR (i:=9);exact rfl;exact rfl;decide+kernel;decide+kernel;decide+kernel;exact nP;(intro _ _;exact vP))|(apply aR (i:=10);exact rfl;exact rfl;decide+kernel;decide+kernel;decide+kernel;exact nP;(intro _ _;exact vP))|(apply iO;decide+kernel)|(apply j0;exact rfl;exact rfl;infer_instance;exact rfl;exact FnIn.of_at (fun w' _=>BJ ⟨3,num,text⟩ w');(rintro _ _ ⟨H1,⟨g5,rfl,rfl⟩,rfl⟩))|(apply ak;exact rfl;apply Bw (enc:=fun z:Int=>Value.int .u8 z);exact rfl;exact rfl;exact pK;exact rfl)|refine sT ?_|refine sM fun _=> ?_|(refine sC ?_ ?_<;>intro hb<;>try omega)|exact cT|fail)
  all_goals ((apply cu;rotate_left 1;exact sB;exact mS);trivial)
 ·
  rintro _ -
  simp only [gZ]
  generalize nB ⟨3,num,text⟩=e at hv
  repeat' (first|(apply aa;exact rfl;exact rfl;(intro w hm;exact hv w))|(apply aa;exact rfl;exact rfl;(intro w hm;exact kZ 2 w))|(apply pM;exact rfl;exact rfl;infer_instance;exact rfl;(intro w' _;exact hn w'))|refine sT ?_|refine sM fun _=> ?_|(refine sC ?_ ?_<;>intro hb<;>try omega)|exact cT|fail)
  all_goals
   (refine eRC ?_)
   simp_all
   rfl
theorem FQ (v:Vl) (hk:v.kind=3) (ha:v.text.size≤1000000) (w:World):ay Tryz.prog 167 [.agg (di v).toArray] w (.agg (di (gZ v)).toArray):=by
 refine aq Tryz.func167 rfl Tryz.ntmps167 rfl ?_
 repeat' (first|(apply aa;exact rfl;exact rfl;(intro w hm;exact Au v hk ha w))|refine sT ?_|refine sM fun _=> ?_|(refine sC ?_ ?_<;>intro hb<;>try omega)|exact cT|fail)
 (refine eRC ?_)
 rfl
def iD (u:ByteArray):List ByteArray→Int→Int × Int
 | [],_=>(0,4)
 |x::r,i=>if x=u then (i,0) else iD u r (i+1)
def gM (a:ByteArray):Int × Int:=iD (upB a) (cy.drop 1) 1
theorem Bd {i:Nat} (h:i<8):(cy.map Value.string)[i]? =some (.string (cy.getD i au)):=by
 rcases (by omega:i=0∨i=1∨i=2∨i=3∨i=4∨i=5∨i=6∨i=7) with rfl|rfl|rfl|rfl|rfl|rfl|rfl|rfl<;>rfl
theorem qf {i:Nat} (h:i<8):cy.drop i=cy.getD i au::cy.drop (i+1):=by
 rcases (by omega:i=0∨i=1∨i=2∨i=3∨i=4∨i=5∨i=6∨i=7) with rfl|rfl|rfl|rfl|rfl|rfl|rfl|rfl<;>rfl
theorem KG (a:ByteArray) (ha:a.size≤1000000) (w:World) (hw:Words w):ay Tryz.prog 169 [.string a] w (.tuple #[.int .i64 (gM a).1,.int .i64 (gM a).2]):=by
 refine aq Tryz.func169 rfl Tryz.ntmps169 rfl ?_
 have hload:(((cy.map Value.string).drop 0).take 8)=cy.map Value.string:=rfl
 have hU:=pF a ha
 generalize hu:upB a=u at hU
 repeat' (first|(apply aa;exact rfl;exact rfl;(intro w hm;exact hU w))|(apply ak;exact rfl;apply eH (o:=0) (off:=0);exact hw;exact rfl;exact hload;exact rfl)|refine sT ?_|refine sT2 ?_|refine sM fun _=> ?_|(refine sC ?_ ?_<;>intro hb<;>try omega)|exact cT|fail)
 refine ax [0,8] rfl (fun i:Nat=> [(9,.int .i64 (i:Int))]) (fun _=> []) (fun i=>i≤8∧gM a=iD u (cy.drop (max i 1)) (max i 1:Nat)) (fun i=>8 - i) 0 ⟨by omega,by rw [gM,hu];rfl⟩ sB mS ?_
 rintro i ⟨hi,hr⟩
 by_cases hlt:i<8
 ·
  have hx:=Bd hlt
  have hd:=qf hlt
  generalize cy.getD i au=x at hx hd
  repeat' (first|(apply ak;exact rfl;apply lz;exact rfl;exact rfl;exact hlt;exact hx)|refine sT ?_|refine sT2 ?_|refine sN ?_|refine sM fun _=> ?_|(refine sC ?_ ?_<;>intro hb<;>try omega)|exact cT|fail)
  ·
   rename_i h0
   rw [show max i 1=i by omega,hd,iD,if_pos hb] at hr
   rw [hr]
   (refine rT2 ?_)
   rfl
  ·
   rename_i h0
   rw [show max i 1=i by omega,hd,iD,if_neg hb] at hr
   refine ⟨i+1,?_,(by first|omega|(dsimp only;omega)),sB,sB,mS⟩
   refine ⟨hlt,?_⟩
   rw [hr,show max (i+1) 1=i+1 by omega]
   rfl
  ·
   have h0:i=0:=by omega
   subst h0
   refine ⟨0+1,?_,(by first|omega|(dsimp only;omega)),sB,sB,mS⟩
   exact ⟨by omega,hr⟩
 ·
  have e:i=8:=by omega
  subst e
  rw [hr]
  repeat' (first|refine sT ?_|refine sT2 ?_|refine sM fun _=> ?_|(refine sC ?_ ?_<;>intro hb<;>try omega)|exact cT|fail)
  all_goals first|(exfalso;omega)|((refine rT2 ?_);rfl)
end Go.SL
namespace Go.SL
open Go Go.Proofs Go.Proofs.YtoanpdoacdpgeaaGreatDoor Go.ChangeShapes Go.WideShapes Go.ChangeAt Go.RowKit Go.Deep
def pJ:List (List UInt8):= [[],[35,68,73,86,47,48,33],[35,86,65,76,85,69,33],[35,78,85,77,33],[35,78,47,65],[35,82,69,70,33],[35,67,89,67,76,69,33],[35,68,69,78,73,69,68]]
def tI:List (String × DataW Unit):= [("louvre/val.words",Rows.laid_louvre_val_words)]
theorem yg:(Rows.laid_louvre_val_words:DataW Unit)= .agg (pJ.map fun l=> .lit (.string l)):=rfl
theorem F5:cy=pJ.map fun l=>⟨l.toArray⟩:=rfl
set_option maxRecDepth 100000 in
theorem uJ {W:World} (h:laidMetH Tryz.prog tI W):Words W:=by
 rw [MakeChecks.laidMetH_plain _ _ _ (by kernel_rfl)] at h
 obtain ⟨ps,⟨g,t,cs,fuel,p,q,hg,ht,hv,hd,_,_⟩,_⟩:=h
 obtain rfl:=Option.some.inj ((show Tryz.prog.globalNamed "louvre/val.words" =some 0 by kernel_rfl).symm.trans hg)
 obtain rfl:=Option.some.inj ((show (Tryz.prog.globals[0]?).map (·.type)=some 266 by kernel_rfl).symm.trans ht)
 rw [yg] at hd
 obtain ⟨xs,m,_,ex,_,hl,hel⟩:=DataW.trod_array Tryz.underlying266 hd
 have cS:Tryz.prog.cellsOf 9=1:=by kernel_rfl
 have hcell: ∀ (j:Nat) (v:Value),(cy.map Value.string)[j]? =some v→W.cell? ⟨0,0+j,none⟩=some v:=by
  intro j v hjv
  have hj:j<8:=by
   have:=(Nw.1 hjv).1
   simpa [cy] using this
  have hE:=hel j hj
  rw [cS,O6,Nc (by omega)] at hE
  obtain ⟨s,e1,e2,_⟩:=DataW.trod_string Tryz.underlying9 hE
  have e3:(xs.map (·.1))=pJ.map fun l=> .lit (.string l):=(DataW.agg.inj (Prod.mk.inj ex).1).symm
  have hwl:pJ.length=8:=rfl
  have e4:(xs.map (·.1))[j]? =(pJ.map fun l=>(DataW.lit (.string l):DataW Unit))[j]? :=by rw [e3]
  obtain ⟨u,hu⟩: ∃ u,pJ[j]? =some u:=⟨_,Nc (by rw [hwl];exact hj)⟩
  rw [Om,Om,Nc (by omega:j<xs.length),hu,e2] at e4
  simp only [Oh,Option.some.injEq,DataW.lit.injEq,Lit.string.injEq] at e4
  have hs:s=⟨u.toArray⟩:=by
   obtain ⟨d⟩:=s
   subst e4
   rfl
  have hvv:v= .string s:=by
   rw [F5,P8,Om,hu] at hjv
   simp only [Oh,Option.some.injEq,Function.comp] at hjv
   rw [← hjv,hs]
  rw [hvv,Ny,World.var?_cell hg hv j]
  have:cs.toList[j]? =some (.string s):=by
   have h0:((cs.toList.drop j).take 1)[0]? =some (.string s):=by rw [e1];rfl
   simpa using h0
  simpa using this
 refine ⟨?_,hcell⟩
 have h5:=hcell 0 _ rfl
 simp only [World.cell?] at h5
 split at h5
 ·
  rename_i h6
  exact (NH.1 h6).1
 ·
  cases h5
end Go.SL
