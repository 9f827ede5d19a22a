/-
  Lemmas and walks, put together: A1 D5 A3 A4 B2 Fc B3.
-/
import Derived.LaidMore
import Derived.Lay
import Derived.SevenTiedAt
import Derived.Stop.Joined
import Derived.Test.YtoanpdoacdpgeaaGreatDoorCards
import Derived.Test.YtoanpdoacdpgeaaGreatDoorTie
import Derived.Test.YtoanpdoacdpgeaaGreatDoorKr09
import Derived.Test.YtoanpdoacdpgeaaGreatDoorKr10
set_option linter.unusedSimpArgs false
set_option linter.unusedVariables false
set_option maxRecDepth 20000
namespace Go.SL
open Go Go.Proofs
attribute [local irreducible] W WL WQ WG WA VOp thn blk bo aN aF FnIn
theorem CL {c:Int} (h1:48≤c) (h2:c≤57):aS c=true:=by simp [aS,h1,h2]
theorem EA {c:Int} (h:c<48):aS c=false:=by simp [aS];omega
theorem EB {c:Int} (h:57<c):aS c=false:=by simp [aS];omega
set_option maxRecDepth 10000 in
theorem rv (a:ByteArray) (ha:a.size≤1000000) (w:World):ay Tryz.prog 219 [.string a] w (.int .i64 (aO aS (ak a):Int)):=by
 refine aq Tryz.func219 rfl Tryz.ntmps219 rfl ?_
 have hl:=au a
 repeat' (first|refine sT ?_|refine sT2 ?_|refine sM fun _=> ?_|(refine sC ?_ ?_<;>intro hb<;>try omega)|exact cT|fail)
 refine fI (fun i:Nat=> [(0,.string a),(5,.int .i64 (a.size:Int)),(6,.int .i64 (i:Int))]) (fun _=> []) (fun i=>i≤a.size∧aO aS (ak a)=i+aO aS ((ak a).drop i)) (fun i=>a.size - i) 0 ⟨by omega,by simp⟩ sB mS ?_
 rintro i ⟨hi,hr⟩
 by_cases hlt:i<a.size
 ·
  have hs1:=bO hlt
  rw [hs1] at hr
  simp only [aO] at hr
  repeat' (first|refine sT ?_|refine sT2 ?_|refine sN ?_|refine sM fun _=> ?_|(refine sC ?_ ?_<;>intro hb<;>try omega)|exact cT|fail)
  ·
   (refine rT1 ?_)
   rw [hr,EA hb];simp
  ·
   (refine rT1 ?_)
   rw [hr,EB hb];simp
  ·
   rename_i h1
   rw [CL h1 hb] at hr
   exact ⟨i+1,⟨hlt,by rw [hr];simp;omega⟩,by omega,by exact sB,by exact mS⟩
 ·
  have e:i=a.size:=by omega
  subst e
  repeat' (first|refine sT ?_|refine sT2 ?_|refine sM fun _=> ?_|(refine sC ?_ ?_<;>intro hb<;>try omega)|exact cT|fail)
  (refine rT1 ?_)
  rw [hr,IG (by omega)];simp [aO]
def fj (hi lo:Int) (neg:Bool):Int × Bool:=if hi≠0∨eP<lo then (0,false) else (if neg then -lo else lo,true)
theorem rG {v:Int} (h1:0≤v) (h2:v≤eP):IntKind.i64.wrap v=v:=I64.wrap ⟨by omega,by simpa [eP] using h2⟩
set_option maxRecDepth 10000 in
theorem zg (hi lo:Int) (neg:Bool) (h0:0≤lo) (w:World):ay Tryz.prog 220 [.int .u64 hi,.int .u64 lo,.bool neg] w (.tuple #[.int .i64 (fj hi lo neg).1,.bool (fj hi lo neg).2]):=by
 refine aq Tryz.func220 rfl Tryz.ntmps220 rfl ?_
 by_cases hh:hi=0
 ·
  by_cases hl:lo≤eP
  ·
   have hw:=rG h0 hl
   have hm:eP=9223372036854775807:=rfl
   have e:fj hi lo neg=(if neg then -lo else lo,true):=by rw [fj,if_neg (by omega)]
   rw [e]
   subst hh
   cases neg
   ·
    repeat' (first|(apply aj;exact rfl;apply cI;exact rfl;exact hw)|refine sT ?_|refine sM fun _=> ?_|(refine sC ?_ ?_<;>intro hb<;>try omega)|exact cT|fail)
    all_goals first|(exfalso;omega)|((refine rT2 ?_);rfl)
   ·
    repeat' (first|(apply aj;exact rfl;apply cI;exact rfl;exact hw)|(apply aj;exact rfl;apply GH;exact rfl;exact ⟨by omega,by omega⟩)|refine sT ?_|refine sM fun _=> ?_|(refine sC ?_ ?_<;>intro hb<;>try omega)|exact cT|fail)
    all_goals first|(exfalso;omega)|((refine rT2 ?_);rfl)
  ·
   have hm:eP=9223372036854775807:=rfl
   have e:fj hi lo neg=(0,false):=by rw [fj,if_pos (by omega)]
   rw [e]
   repeat' (first|refine sT ?_|refine sM fun _=> ?_|(refine sC ?_ ?_<;>intro hb<;>try omega)|exact cT|fail)
   all_goals first|(exfalso;omega)|((refine rT2 ?_);rfl)
 ·
  have e:fj hi lo neg=(0,false):=by rw [fj,if_pos (.inl hh)]
  rw [e]
  repeat' (first|refine sT ?_|refine sM fun _=> ?_|(refine sC ?_ ?_<;>intro hb<;>try omega)|exact cT|fail)
  all_goals first|(exfalso;omega)|((refine rT2 ?_);rfl)
theorem oL (u:Int) (neg:Bool) (h0:0≤u) (h1:u≤eP) (w:World):ay Tryz.prog 220 [.int .u64 0,.int .u64 u,.bool neg] w (.tuple #[.int .i64 (if neg then -u else u),.bool true]):=by
 have h:=zg 0 u neg h0 w
 rwa [fj,if_neg (by omega)] at h
theorem oX: ∀ (l:List Int) (v c:Int),cO (l++ [c]) v=10*cO l v+(c - 48)
 | [],_,_=>rfl
 |d::r,v,c=>by simp only [HW,cO];exact oX r _ c
theorem lu: ∀ (l:List Int) {v:Int},(∀ c∈l,48≤c)→0≤v→v≤cO l v
 | [],_,_,_=>Kd _
 |c::r,v,h,h0=>by
  have h1:=h c H4
  have:=lu r (v:=10*v+(c - 48)) (fun d hd=>h d (H9 _ hd)) (by omega)
  simp only [cO];omega
theorem sA (l m:List Int) (v:Int):cO (l++m) v=cO m (cO l v):=by
 induction l generalizing v with
 |nil=>rfl
 |cons c l ih=>simp only [HW,cO,ih]
def mG (l0:List Int):Int × Int:=
 let neg:=decide (l0.head? =some 45)
 let l:=if neg then l0.tail else l0
 let n:=aO aS l
 let rest:=l.drop n
 let frac:=decide (1<rest.length) && (decide (rest.head? =some 46) && decide (aO aS rest.tail+1=rest.length))
 let p5:=(if frac then rest.tail else [])++ [48,48,48,48,48]
 if n=0∨(frac=false∧rest≠ []) then (0,4)
 else
  let v:=cO (l.take n++p5.take 4) 0+(if 53≤p5.getD 4 0 then 1 else 0)
  if eP<v then (0,3) else (if neg then -v else v,0)
theorem pz (a:ByteArray) (c:Int):((ak a).head? =some c)↔(0<a.size∧bat a 0=c):=by
 by_cases h:0<a.size
 ·
  have:=bO h
  rw [JS] at this
  rw [this];simp [h]
 ·
  have:ak a= []:=by rw [← Jz,au];omega
  rw [this];simp;omega
set_option maxRecDepth 10000 in
theorem m7 (a:ByteArray) (ha:a.size≤1000000) (w:World):ay Tryz.prog 172 [.string a] w (.tuple #[.int .i64 (mG (ak a)).1,.int .i64 (mG (ak a)).2]):=by
 refine aq Tryz.func172 rfl Tryz.ntmps172 rfl ?_
 have hl:=au a
 generalize hneg:decide ((ak a).head? =some 45)=neg
 generalize hls:(if neg then (ak a).tail else ak a)=ls
 have hb0:=pz a 45
 repeat' (first|(refine lX (id:=1) (ι:=Bool) (fun b=> [(0,.string a),(4,.bool b)]) (fun _=> []) (fun b=>neg=b) ?_ ?_)|refine sT ?_|refine sT2 ?_|refine sM fun _=> ?_|(refine sC ?_ ?_<;>intro hb<;>try omega)|exact cT|fail)
 ·
  (apply cH;rotate_left 1;exact sB;exact mS)
  rw [← hneg,decide_eq_decide,hb0]
  simp;omega
 ·
  (apply cH;rotate_left 1;exact sB;exact mS)
  rw [← hneg,decide_eq_false_iff_not,hb0]
  omega
 rintro _ rfl
 repeat' (first|(refine Fv (id:=2) (ι:=ByteArray) (fun b=> [(0,.string b),(4,.bool neg)]) (fun _=> []) (fun b=>ak b=ls∧b.size≤a.size) ?_ ?_)|refine sT ?_|refine sT2 ?_|refine sM fun _=> ?_|(refine sC ?_ ?_<;>intro hb<;>try omega)|exact cT|fail)
 ·
  have h1:0<a.size:=(hb0.1 (of_decide_eq_true (hneg.trans hb))).1
  repeat' (first|refine sT ?_|refine sT2 ?_|refine sM fun _=> ?_|(refine sC ?_ ?_<;>intro hb<;>try omega)|exact cT|fail)
  (apply cH;rotate_left 1;exact sB;exact mS)
  rw [← hls,hb,jN,bY _ (Ih _)]
  simp
 ·
  (apply cH;rotate_left 1;exact sB;exact mS)
  rw [← hls,hb]
  simp
 rintro b ⟨hbl,hbs⟩
 have hlb:=au b
 rw [hbl] at hlb
 have hdl:=cN aS ls
 generalize hn:aO aS ls=n at hdl
 generalize hrest:ls.drop n=rest
 generalize hfr:(decide (1<rest.length) && (decide (rest.head? =some 46) && decide (aO aS rest.tail+1=rest.length)))=fr
 have hcd:=rv b (by omega)
 rw [hbl,hn] at hcd
 have hb1:=pz (sub b n b.size) 46
 have hs1:=bY b (lo:=n) (Ih b.size)
 have hr1:ak (sub b n b.size)=rest:=by rw [jN,hbl,hrest]
 generalize hz:sub b n b.size=z at hb1 hs1 hr1
 have hrl:rest.length=z.size:=by rw [← hr1,au]
 have e1:ak (sub z 1 z.size)=rest.tail:=by rw [jN,hr1,List.drop_one]
 rw [hr1] at hb1
 have hcd2:=fun h=>rv (sub z 1 z.size) h
 repeat' (first|(refine lX (id:=7) (ι:=Bool) (fun x=> [(4,.bool neg),(5,.int .i64 (n:Int)),(6,.string (sub b 0 n)),(7,.string z),(8,.string az),(50,.bool x)]) (fun _=> []) (fun x=>fr=x) ?_ ?_)|(apply ah;exact rfl;exact rfl;(intro w hm;exact hcd w))|(apply ah;exact rfl;exact rfl;(intro w hm;exact hcd2 (by rw [bY _ (Ih _)];omega) w))|(rw [hz])|refine sT ?_|refine sQ ?_|refine sT2 ?_|refine sQ2 ?_|refine sN ?_|refine sNQ ?_|refine sD ?_|refine sM fun _=> ?_|(refine sC ?_ ?_<;>intro hb<;>try omega)|(refine sCQ ?_ ?_<;>intro hb<;>try omega)|exact cT|fail)
 ·
  (apply cH;rotate_left 1;exact sB;exact mS)
  rename_i h1
  rw [e1,← hfr,decide_eq_true (by omega:1<rest.length),decide_eq_true (hb1.2 ⟨by omega,hb⟩)]
  simp only [IR,decide_eq_decide]
  omega
 ·
  (apply cH;rotate_left 1;exact sB;exact mS)
  rw [← hfr,decide_eq_false (fun h=>hb (hb1.1 h).2)]
  simp
 ·
  (apply cH;rotate_left 1;exact sB;exact mS)
  rw [← hfr,decide_eq_false (by omega)]
  rfl
 rintro _ rfl
 have hf1:fr=true→1≤z.size:=fun h=>by
  rw [← hfr] at h
  simp at h
  omega
 have hf2:fr=false→((z=az)↔rest= []):=fun _=>by rw [← Cs,hr1]
 have hbl2:b.size≤1000000:=by omega
 refine lY (ι:=ByteArray × ByteArray) (fun x=> [(4,.bool neg),(5,.int .i64 (n:Int)),(6,.string (sub b 0 n)),(7,.string x.1),(8,.string x.2)]) (fun _=> []) (fun x=>ak x.2=(if fr then rest.tail else [])∧((x.1=az)↔(fr=true∨rest= []))∧x.2.size≤a.size) ?_ ?_
 ·
  cases fr
  ·
   repeat' (first|refine sT ?_|refine sT2 ?_|refine sM fun _=> ?_|(refine sC ?_ ?_<;>intro hb<;>try omega)|exact cT|fail)
   refine cH ((z,az)) ?_ sB mS
   exact ⟨rfl,by rw [hf2 rfl];simp,H5 _⟩
  ·
   have h1:=hf1 rfl
   repeat' (first|refine sT ?_|refine sT2 ?_|refine sM fun _=> ?_|(refine sC ?_ ?_<;>intro hb<;>try omega)|exact cT|fail)
   refine cH ((az,sub z 1 z.size)) ?_ sB mS
   exact ⟨by rw [e1];rfl,by simp [az],by rw [bY _ (Ih _)];omega⟩
 rintro ⟨z',pl⟩ ⟨h1,h2,h3⟩
 dsimp only at*
 generalize hp5:(if fr then rest.tail else [])++ [48,48,48,48,48]=p5
 have hpl:ak (pl++⟨#[48,48,48,48,48]⟩)=p5:=by rw [mX,h1,← hp5];rfl
 have hpz:(pl++⟨#[48,48,48,48,48]⟩:ByteArray).size=pl.size+5:=by rw [ByteArray.size_append];rfl
 generalize hqd:(pl++⟨#[48,48,48,48,48]⟩:ByteArray)=q at hpl hpz
 have hres:mG (ak a)=if n=0∨(fr=false∧rest≠ []) then (0,4) else if eP<cO (ls.take n++p5.take 4) 0+(if 53≤p5.getD 4 0 then 1 else 0) then (0,3) else (if neg then -(cO (ls.take n++p5.take 4) 0+(if 53≤p5.getD 4 0 then 1 else 0)) else cO (ls.take n++p5.take 4) 0+(if 53≤p5.getD 4 0 then 1 else 0),0):=by
  unfold mG
  rw [hneg]
  dsimp only
  rw [hls,hn,hrest,hfr,hp5]
 rw [hres]
 by_cases herr:n=0∨(fr=false∧rest≠ [])
 ·
  rw [if_pos herr]
  repeat' (first|refine sT ?_|refine sT2 ?_|refine sM fun _=> ?_|(refine sC ?_ ?_<;>intro hb<;>try omega)|exact cT|fail)
  ·
   (refine rT2 ?_)
   rfl
  ·
   (refine rT2 ?_)
   rfl
  ·
   exfalso
   have hz' :z' =az:=Decidable.not_not.1 hb
   have:=h2.1 hz'
   rcases herr with h|⟨h,h'⟩
   ·
    omega
   ·
    rcases this with h4|h4
    ·
     rw [h] at h4;cases h4
    ·
     exact h' h4
 ·
  rw [if_neg herr]
  generalize hL:ls.take n++p5.take 4=L
  have hp5l:p5.length=pl.size+5:=by rw [← hpl,au,hpz]
  have hy:ak (sub b 0 n++sub q 0 4)=L:=by rw [mX,sU,sU,hbl,hpl,hL]
  have hyz:(sub b 0 n++sub q 0 4:ByteArray).size=n+4:=by rw [ByteArray.size_append,bY _ (by omega),bY _ (by omega)];omega
  generalize hyd:(sub b 0 n++sub q 0 4:ByteArray)=y at hy hyz
  have hyl:L.length=y.size:=by rw [← hy,au]
  have hdig: ∀ c∈L,48≤c∧c≤57:=by
   have hall: ∀ (l:List Int) (c:Int),c∈l.take (aO aS l)→48≤c∧c≤57:=fun l c hc=>by
    obtain ⟨j,hj,rfl⟩:=JU hc
    simp only [IU] at hj
    have h:=ux (p:=aS) l j (l[j]'(by omega)) (by omega) (HY _)
    simp only [List.getElem_take]
    simpa [aS] using h
   intro c hc
   rw [← hL] at hc
   rcases ID.1 hc with hc|hc
   ·
    rw [← hn] at hc;exact hall ls c hc
   ·
    have hc:=Jw hc
    rw [← hp5] at hc
    rcases ID.1 hc with hc|hc
    ·
     cases hc1:fr
     ·
      rw [hc1] at hc;cases hc
     ·
      rw [hc1] at hc
      simp only [if_true] at hc
      have h7:aO aS rest.tail=rest.tail.length:=by
       rw [hc1] at hfr
       simp only [IB,decide_eq_true_eq] at hfr
       rw [List.length_tail];omega
      have:=hall rest.tail c (by rw [h7,IX];exact hc)
      exact this
    ·
     simp at hc;omega
  have hq4:bat q 4=p5.getD 4 0:=by rw [bat,hpl]
  have hm0:eP=9223372036854775807:=rfl
  repeat' (first|(apply aj (d:=60);exact rfl;apply qI;exact rfl;exact rfl;exact hqd;(show pl.size+5≤_;omega))|(apply aj (d:=64);exact rfl;apply qI;exact rfl;exact rfl;exact hyd;(rw [bY _ (by omega),bY _ (by omega)];omega))|(apply kn;exact rfl;exact rfl;intro gb cap)|refine sT ?_|refine sT2 ?_|refine sM fun _=> ?_|(refine sC ?_ ?_<;>intro hb<;>try omega)|exact cT|fail)
  ·
   exfalso
   refine herr (.inr ?_)
   have h4: ¬ (fr=true∨rest= []):=fun h=>hb (h2.2 h)
   cases hc:fr
   ·
    exact ⟨rfl,fun h=>h4 (.inr h)⟩
   ·
    exact absurd (.inl hc) h4
  have hup: ∀ i,i≤L.length→eP<cO (L.take i) 0→eP<cO L 0:=fun i hi h=>by
   have e:L=L.take i++L.drop i:=(Ja i L).symm
   rw [e,sA]
   have h0:0≤cO (L.take i) 0:=lu _ (fun c hc=>(hdig c (Jw hc)).1) (Kd _)
   have:=lu (L.drop i) (v:=cO (L.take i) 0) (fun c hc=>(hdig c (J7 hc)).1) h0
   omega
  refine ax [4,8,65,66] rfl (fun x:Nat × Int × Bool=> [(9,.int .u64 x.2.1),(10,.bool x.2.2),(67,.int .i64 (x.1:Int))]) (fun _=> [.byt gb 5 y.size cap (jz y)]) (fun x=>x.1≤L.length∧0≤x.2.1∧x.2.1<18446744073709551616∧(x.2.2=false→x.2.1=cO (L.take x.1) 0∧x.2.1≤eP)∧(x.2.2=true→eP<cO (L.take x.1) 0)) (fun x=>L.length - x.1) (0,0,false) ⟨H5 _,Kd _,by decide,fun _=>⟨rfl,by decide⟩,fun h=>by cases h⟩ sB mS ?_
  rintro ⟨i,v,gr⟩ ⟨hi,hv0,hv1,hg0,hg1⟩
  dsimp only at hi hv0 hv1 hg0 hg1 ⊢
  by_cases hlt:i<L.length
  ·
   have hiy:i<y.size:=by omega
   have hge:L[i]? =some L[i]:=HY hlt
   have hci:=hdig L[i] (I7 hlt)
   have hsn:cO (L.take (i+1)) 0=10*cO (L.take i) 0+(L[i] - 48):=by rw [H7 hlt,oX]
   generalize L[i]=c at hge hci hsn
   have hget:(jz y)[0+i*1]? =some (.int .u8 c):=by rw [mJ,hy,II,show 0+i*1=i by omega,hge];rfl
   have hwc:IntKind.u8.wrap (c - 48)=c - 48:=wrap_u8 (by omega) (by omega)
   have hwc2:IntKind.u64.wrap (c - 48)=c - 48:=by simp [IntKind.wrap,IntKind.bits,IntKind.signed];omega
   obtain ⟨v',hadd,hv2,hv3,hv4⟩: ∃ v',IntKind.u64.wrap (IntKind.u64.wrap (10*v)+(c - 48))=v' ∧0≤v' ∧v' <18446744073709551616∧(v≤922337203685477580→v' =10*v+(c - 48)):=by
    refine ⟨_,rfl,?_⟩
    simp only [IntKind.wrap,IntKind.bits,IntKind.signed]
    simp
    omega
   have hn0:0≤cO (L.take i) 0:=lu _ (fun c hc=>(hdig c (Jw hc)).1) (Kd _)
   cases gr
   ·
    obtain ⟨hg2,hg3⟩:=hg0 rfl
    repeat' (first|(apply aj;exact rfl;apply ai;exact rfl;exact rfl;exact hiy)|(apply aj;exact rfl;apply iE;exact rfl;exact .hd;exact hget)|(apply aj (d:=74);exact rfl;apply Bg;exact rfl;exact rfl)|(apply aj (d:=76);exact rfl;apply gP;exact rfl;exact rfl;exact hwc)|(apply aj (d:=77);exact rfl;apply cI;exact rfl;exact hwc2)|(apply aj (d:=78);exact rfl;apply eC;exact rfl;exact rfl;exact hadd)|refine sT ?_|refine sT2 ?_|refine sN ?_|refine sM fun _=> ?_|(refine sC ?_ ?_<;>intro hb<;>try omega)|exact cT|fail)
    ·
     refine ⟨(i+1,v',true),?_,(by first|omega|(dsimp only;omega)),sB,sB,mS⟩
     exact ⟨hlt,hv2,hv3,(fun h=>by cases h),fun _=>by dsimp only;omega⟩
    ·
     have h5:=hv4 (by omega)
     refine ⟨(i+1,v',decide (eP<v')),⟨hlt,hv2,hv3,fun h=> ?_,fun h=> ?_⟩,(by dsimp only;omega),sB,sB,mS⟩
     ·
      have h6:=of_decide_eq_false h
      exact ⟨by dsimp only;omega,by dsimp only;omega⟩
     ·
      have h6:=of_decide_eq_true h
      dsimp only;omega
   ·
    have hg2:=hg1 rfl
    repeat' (first|(apply aj;exact rfl;apply ai;exact rfl;exact rfl;exact hiy)|(apply aj;exact rfl;apply iE;exact rfl;exact .hd;exact hget)|(apply aj (d:=74);exact rfl;apply Bg;exact rfl;exact rfl)|(apply aj (d:=76);exact rfl;apply gP;exact rfl;exact rfl;exact hwc)|(apply aj (d:=77);exact rfl;apply cI;exact rfl;exact hwc2)|(apply aj (d:=78);exact rfl;apply eC;exact rfl;exact rfl;exact hadd)|refine sT ?_|refine sT2 ?_|refine sN ?_|refine sM fun _=> ?_|(refine sC ?_ ?_<;>intro hb<;>try omega)|exact cT|fail)
    all_goals
     refine ⟨(i+1,v',true),?_,(by first|omega|(dsimp only;omega)),sB,sB,mS⟩
     exact ⟨hlt,hv2,hv3,(fun h=>by cases h),fun _=>by dsimp only;omega⟩
  ·
   have e:i=L.length:=by omega
   subst e
   rw [Jg (Ih _)] at hg0 hg1
   generalize cO L 0=N at hg0 hg1 hup ⊢
   have hadd:v≤eP→IntKind.u64.wrap (v+1)=v+1:=fun h=>by simp [IntKind.wrap,IntKind.bits,IntKind.signed];omega
   by_cases h5:53≤p5.getD 4 0
   ·
    rw [if_pos h5]
    cases gr
    ·
     obtain ⟨hg2,hg3⟩:=hg0 rfl
     subst hg2
     by_cases h6:eP<v+1
     ·
      rw [if_pos h6]
      repeat' (first|(apply aj (d:=89);exact rfl;apply eC;exact rfl;exact rfl;exact hadd hg3)|refine sT ?_|refine sT2 ?_|refine sM fun _=> ?_|(refine sC ?_ ?_<;>intro hb<;>try omega)|exact cT|fail)
      all_goals first|(exfalso;omega)|((refine rT2 ?_);rfl)
     ·
      rw [if_neg h6]
      repeat' (first|(apply aj (d:=89);exact rfl;apply eC;exact rfl;exact rfl;exact hadd hg3)|(apply ah;exact rfl;exact rfl;(intro w' hm;exact (oL (v+1) neg (by omega) (by omega) w')))|refine sT ?_|refine sT2 ?_|refine sM fun _=> ?_|(refine sC ?_ ?_<;>intro hb<;>try omega)|exact cT|fail)
      all_goals first|(exfalso;omega)|((refine rT2 ?_);rfl)
    ·
     rw [if_pos (by have:=hg1 rfl;omega)]
     obtain ⟨u,hu⟩: ∃ u,IntKind.u64.wrap (v+1)=u:=⟨_,rfl⟩
     repeat' (first|(apply aj (d:=89);exact rfl;apply eC;exact rfl;exact rfl;exact hu)|refine sT ?_|refine sT2 ?_|refine sM fun _=> ?_|(refine sC ?_ ?_<;>intro hb<;>try omega)|exact cT|fail)
     all_goals first|(exfalso;omega)|((refine rT2 ?_);rfl)
   ·
    rw [if_neg h5,Int.add_zero]
    cases gr
    ·
     obtain ⟨hg2,hg3⟩:=hg0 rfl
     subst hg2
     rw [if_neg (by omega)]
     repeat' (first|(apply ah;exact rfl;exact rfl;(intro w' hm;exact (oL v neg (by omega) hg3 w')))|refine sT ?_|refine sT2 ?_|refine sM fun _=> ?_|(refine sC ?_ ?_<;>intro hb<;>try omega)|exact cT|fail)
     all_goals first|(exfalso;omega)|((refine rT2 ?_);rfl)
    ·
     rw [if_pos (hg1 rfl)]
     repeat' (first|refine sT ?_|refine sT2 ?_|refine sM fun _=> ?_|(refine sC ?_ ?_<;>intro hb<;>try omega)|exact cT|fail)
     all_goals first|(exfalso;omega)|((refine rT2 ?_);rfl)
end Go.SL
namespace Go.SL
open Go Go.Proofs
attribute [local irreducible] W WL WQ WG WA WX WLI WR WT WC VOp RW thn blk bo scp aN bf bi aF FnIn FnP ceP
theorem jc {P:Program} {n:Fr} {w0:World} {Q:aU} {s:ap} {H:List Blk} {l:List Oper} {id:Nat} (es ps:List Nat) (hm:P.follows .mixedOrders=true) (hB:Region.lexB .any l.toArray=true) (hch:xv l es ps=true)
  (h:WC P n w0 l H es ps Q l 0 s H):W P n w0 (.region id l.toArray true) Q s H:=jE es ps H hm hB hch (MSub.refl H) h
theorem zR (L:List Us): ∀ u∈L.flatMap dh,u.oneCell' =true:=by
 intro u hu
 obtain ⟨n,_,h⟩:=I6.1 hu
 simp only [dh,Ie,JM,or_false] at h
 rcases h with rfl|rfl|rfl|rfl|rfl|rfl<;>rfl
theorem Ak (L:List Us) (tv:Value) (w:World) (ht:Reads w tv L.length (L.flatMap dh)) (hlen:L.length≤1000000):
  aF Tryz.prog 157 [tv] w fun v H=> ∃ A cap,v=sl A L.length cap∧H= [.own A 159 6 L.length cap (L.flatMap dh)]:=by
 have ht' :=ht
 obtain ⟨At,ct,rfl,ht1,ht2,ht3⟩:=ht
 refine aq Tryz.func157 rfl Tryz.ntmps157 rfl ?_
 have hl:(L.flatMap dh).length=L.length*6:=aC vw L
 refine aw 159 6 ?_
 repeat' (first|(apply aj;exact rfl;apply gQ;exact rfl)|(apply bW;exact rfl;intro gb)|(apply bp (n' :=0) (c:=0) (A:=some _) (m:=L.length);(iterate 3 exact rfl);exact pK;(intro w hm;exact ht'.of_w0 hm);exact hl;exact zR L;omega;(simp only [maxLen];omega);intro A' cap' hA)|refine sT ?_|refine sM fun _=> ?_|(refine sC ?_ ?_<;>intro hb<;>try omega)|fail)
 ·
  have e:L.length=0:=by
   rcases Jf L.length with h|h
   ·
    exact h
   ·
    obtain ⟨g,o,rfl,_⟩:=ht3 h
    cases hb
  have e' :L= []:=I8 e
  subst e'
  exact bI (.inl rfl) Tryz.results157 rfl (.refl _) ⟨none,0,rfl,rfl⟩
 ·
  exact bI (.inl rfl) Tryz.results157 rfl (H' := [.own A' 159 6 (0+L.length) cap' ([]++L.flatMap dh)]) mS ⟨A',cap',by rw [H8],by rw [H8];rfl⟩
structure En where
 at_:Rf
 ta:Option Addr
 tc:Nat
 ua:Option Addr
 uc:Nat
 tree:List Nd
 uses:List Us
 born:Nat
def En.tv (e:En):Value:= .slice e.ta e.tree.length e.tc
def En.uv (e:En):Value:= .slice e.ua e.uses.length e.uc
def En.m (e:En):Rf × Value × Nat:=(e.at_,.agg #[e.tv,e.uv],e.born)
abbrev Av:Value:= .agg [Value.slice none 0 0,.slice none 0 0].toArray
def rdIn (R:List Blk) (v:Value) (m:Nat) (xs:List Value):Prop:= ∀ w0 w,Mem w0 w R→Reads w v m xs
theorem rdIn.sub {R R' :List Blk} {v:Value} {m:Nat} {xs:List Value} (h:rdIn R v m xs) (hs:MSub R R'):rdIn R' v m xs:=fun w0 w hm=>h w0 w (hs.use hm)
theorem rdIn.nil (R:List Blk):rdIn R (.slice none 0 0) 0 []:=fun _ _ _=>⟨none,0,rfl,Ih _,H5 _,fun h=>by cases h⟩
theorem rdIn.own {R:List Blk} {A:Option Nat} {t sz m c:Nat} {xs:List Value} (hi:In (.own A t sz m c xs) R):rdIn R (sl A m c) m xs:=fun _ _ hm=>Reads.of_own hm hi
structure EnOk (R:List Blk) (e:En):Prop where
 tree:rdIn R e.tv e.tree.length (e.tree.flatMap dD)
 uses:rdIn R e.uv e.uses.length (e.uses.flatMap dh)
 tl:e.tree.length≤1000000
 ul:e.uses.length≤1000000
theorem EnOk.sub {R R' :List Blk} {e:En} (h:EnOk R e) (hs:MSub R R'):EnOk R' e:=⟨h.tree.sub hs,h.uses.sub hs,h.tl,h.ul⟩
def rE (a:Rf):En:=⟨a,none,0,none,0,[],[],0⟩
theorem yI (R:List Blk) (a:Rf):EnOk R (rE a):=⟨rdIn.nil _,rdIn.nil _,by simp [rE],by simp [rE]⟩
def jv (E:List En) (a:Rf):Option En:=E.find? fun e=>decide (e.at_=a)
def fQ (E:List En) (a:Rf):En:=(jv E a).getD (rE a)
theorem zL {E:List En} {a:Rf} {e:En} (h:jv E a=some e):e∈E:=JR h
theorem zI {R:List Blk} {E:List En} (h: ∀ e∈E,EnOk R e) (a:Rf):EnOk R (fQ E a):=by
 unfold fQ
 cases hf:jv E a with
 |none=>exact yI _ _
 |some e=>exact h e (zL hf)
theorem Eb (E:List En) (a:Rf): ∀ i:Nat,(bh a (E.map En.m) i).map (fun x=>x.2)=(jv E a).map fun e=>e.m.2.1:=by
 induction E with
 |nil=>intro i;rfl
 |cons e r ih=>
  intro i
  simp only [Iv,bh,jv,List.find?_cons]
  by_cases h:a=e.at_
  ·
   simp [En.m,h]
  ·
   have h' : ¬ e.at_=a:=fun x=>h x.symm
   simp only [En.m,h,if_false,h',decide_false]
   exact ih (i+1)
theorem F7 (E:List En) (a:Rf):(match bh a (E.map En.m) 0 with|some (_,v)=>v|none=>Av)= .agg #[(fQ E a).tv,(fQ E a).uv]:=by
 have h:=Eb E a 0
 unfold fQ
 cases hk:bh a (E.map En.m) 0 with
 |none=>rw [hk] at h;cases hf:jv E a with
  |none=>rfl
  |some e=>rw [hf] at h;cases h
 |some x=>rw [hk] at h;cases hf:jv E a with
  |none=>rw [hf] at h;cases h
  |some e=>rw [hf] at h;exact Option.some.inj h
instance klaw_key:KLaw Tryz.prog 50 kI:=klaw_F
instance iFx:FldT Tryz.prog 206 1 156 1:=⟨_,_,Tryz.underlying206,rfl,rfl,rfl⟩
set_option maxHeartbeats 1000000 in
theorem EI (gg gm clock:Nat) (E:List En) (a:Rf) (R:List Blk) (w0:World) (hE: ∀ e∈E,EnOk R e):
  FnIn Tryz.prog 125 [.pointer (some ⟨gg,0,none⟩),kI a] w0 (gB gg gm (E.map En.m) clock++R) fun v H=> ∃ A cap,v=sl A (fQ E a).uses.length cap∧H= .own A 159 6 (fQ E a).uses.length cap ((fQ E a).uses.flatMap dh)::(gB gg gm (E.map En.m) clock++R):=by
 refine fc Tryz.func125 rfl Tryz.ntmps125 rfl ?_
 have hl:=F7 E a
 have hok:=zI hE a
 generalize fQ E a=e at hl hok
 have hcl:=fun (w' :World) (H' :List Blk) (hs:MSub R H') (hm:Mem w0 w' H')=>Ak e.uses e.uv w' (hok.uses _ w' (hs.use hm)) hok.ul
 unfold gB
 repeat' (first|(apply aj;exact rfl;apply eB;exact rfl)|(apply jc (id:=3) [7] [];kernel_rfl;kernel_rfl;kernel_rfl)|(apply gG;(iterate 3 exact rfl);apply oD (enc:=kI) (z:=Av);exact rfl;exact rfl;exact pK;exact hl)|(apply gG;(iterate 3 exact rfl);apply f4;exact rfl;exact rfl)|(apply av (f:=157);exact rfl;exact rfl;(intro w' hm;exact hcl w' _ mS hm);rintro _ _ ⟨A,cap,rfl,rfl⟩)|refine sT ?_|refine sS ?_|refine sW ?_|refine sM fun _=> ?_|(refine sC ?_ ?_<;>intro hb<;>try omega)|(refine sCW ?_ ?_<;>intro hb<;>try omega)|fail)
 all_goals exact bI eIO rfl rfl mS ⟨A,cap,rfl,rfl⟩
end Go.SL
namespace Go.SL
open Go Go.Proofs
attribute [local irreducible] W WL WQ WG WA VOp thn blk bo scp aN aF FnIn
set_option maxRecDepth 10000 in
theorem vF (f:FuncId) [Callable Tryz.prog f] (caps:List Value) (g:Int→Int) (a:ByteArray) (ha:a.size≤1000000) (w:World) (hf: ∀ c w' H,0≤c→c<256→Mem w w' H→ay Tryz.prog f ([.int .u8 c]++caps) w' (.int .u8 (g c))):
  aF Tryz.prog 209 [.string a,.func (.func f) #[] caps.toArray] w fun v H=> ∃ gb cap,v= .slice (some ⟨gb,0,none⟩) a.size cap∧H= [.byt gb 5 a.size cap (((ak a).map g).map (Value.int .u8))]:=by
 refine aq Tryz.func209 rfl Tryz.ntmps209 rfl ?_
 repeat' (first|(apply kn;exact rfl;exact rfl;intro gb cap)|refine sT ?_|refine sM fun _=> ?_|(refine sC ?_ ?_<;>intro hb<;>try omega)|fail)
 refine fI (fun i:Nat=> [(5,.slice (some ⟨gb,0,none⟩) a.size cap),(10,.slice (some ⟨gb,0,none⟩) a.size cap),(11,.int .i64 (a.size:Int)),(12,.int .i64 (i:Int)),(1,.func (.func f) #[] caps.toArray)])
  (fun i=> [.byt gb 5 a.size cap ((((ak a).take i).map g++(ak a).drop i).map (Value.int .u8))]) (fun i=>i≤a.size) (fun i=>a.size - i) 0 (by omega) ?_ ?_ ?_
 ·
  exact sB
 ·
  rw [mJ];simp only [JA,I5,HZ,JS];exact mS
 ·
  intro i hi
  have hl:=au a
  by_cases hlt:i<a.size
  ·
   have hil:i<(ak a).length:=by omega
   have hok:=jM a (ak a)[i] (I7 hil)
   have hget:((((ak a).take i).map g++(ak a).drop i).map (Value.int .u8))[0+i*1]? =some (.int .u8 (ak a)[i]):=by
    rw [II,show 0+i*1=i by omega,Jp (by simp;omega)]
    simp [JX (Nat.le_of_lt hil),JZ]
   repeat' (first|(apply aj;exact rfl;apply ai;exact rfl;exact rfl;exact hlt)|(apply aj;exact rfl;apply iE;exact rfl;exact .hd;exact hget)|(apply gN;exact rfl;exact rfl;infer_instance;exact rfl;(intro w' hm;exact hf _ w' _ hok.1 hok.2 hm))|(apply kU;exact rfl;exact rfl;exact .hd;exact rfl;(simp;omega))|(apply aj;exact rfl;apply qJ;exact rfl;exact rfl;(constructor<;>omega))|refine sT ?_|refine sM fun _=> ?_|(refine sC ?_ ?_<;>intro hb<;>try omega)|fail)
   refine ⟨i+1,by omega,by omega,?_,?_⟩
   ·
    exact sB
   ·
    rw [show 0+i*1=i by omega,ug g (Value.int .u8) (ak a) i hil]
    exact mS
  ·
   have e:i=a.size:=by omega
   subst e
   repeat' (first|refine sT ?_|refine sM fun _=> ?_|(refine sC ?_ ?_<;>intro hb<;>try omega)|fail)
   refine bI (.inl rfl) rfl rfl (.refl _) ⟨gb,cap,rfl,?_⟩
   rw [Jg (by omega),IG (by omega),Ig]
set_option maxRecDepth 10000 in
theorem zy (c:Int) (h0:0≤c) (h1:c<256) (ga gb:Nat) (w:World) (ha:Ro w ga 0 [.int .u8 97]) (hb' :Ro w gb 0 [.int .i64 (-32)]):ay Tryz.prog 298 [.int .u8 c,.pointer (some ⟨ga,0,none⟩),.pointer (some ⟨gb,0,none⟩)] w (.int .u8 (upC c)):=by
 refine aq Tryz.func298 rfl Tryz.ntmps298 rfl ?_
 have hwc:IntKind.i64.wrap c=c:=I64.wrap ⟨by omega,by omega⟩
 have h122:IntKind.u8.wrap (97+25)=122:=by decide
 repeat' (first|(apply aj;exact rfl;apply aD (off:=0);exact ha;exact rfl;exact rfl)|(apply aj;exact rfl;apply aD (off:=0);exact hb';exact rfl;exact rfl)|(apply aj;exact rfl;apply eC;exact rfl;exact rfl;exact h122)|(apply aj (d:=15);exact rfl;apply cI;exact rfl;exact hwc)|(apply aj (d:=17);exact rfl;apply qJ;exact rfl;exact rfl;exact ⟨by omega,by omega⟩)|(apply aj (d:=18);exact rfl;apply cI (c:=c - 32);exact rfl;(rw [show c+ -32=c - 32 by omega];exact wrap_u8 (by omega) (by omega)))|refine sT ?_|refine sM fun _=> ?_|(refine sC ?_ ?_<;>intro hb<;>try omega)|fail)
 all_goals ((refine rT1 ?_);unfold upC;first|rw [if_pos (by omega)]|rw [if_neg (by omega)])
def upB (a:ByteArray):ByteArray:=mkB ((ak a).map upC)
theorem Cr (a:ByteArray):ak (upB a)=(ak a).map upC:=by
 refine jq ?_
 intro c hc
 obtain ⟨d,hd,rfl⟩:=Iu.1 hc
 have:=jM a d hd
 unfold upC
 split<;>omega
set_option maxRecDepth 10000 in
theorem B0 (a:ByteArray) (ha:a.size≤1000000) (w:World):ay Tryz.prog 259 [.string a,.int .u8 97,.int .i64 (-32)] w (.string (upB a)):=by
 refine aq Tryz.func259 rfl Tryz.ntmps259 rfl ?_
 repeat' (first|((with_reducible apply av (R:=fun v H=> ∃ gb cap,v= .slice (some ⟨gb,0,none⟩) a.size cap∧H= [.byt gb 5 a.size cap (((ak a).map upC).map (Value.int .u8))]));exact rfl;exact rfl;(intro w' hm;exact vF 298 [_,_] upC a ha w' (fun c w2 H2 h0 h1 hm2=>zy c h0 h1 _ _ w2 ((Ro.of_box hm pK).next hm2) ((Ro.of_box hm pK).next hm2)));(rintro v H' ⟨gb,cap,rfl,rfl⟩))|(apply aj;exact rfl;apply qD;exact rfl;exact .hd;simp [au])|refine sT ?_|refine sM fun _=> ?_|(refine sC ?_ ?_<;>intro hb<;>try omega)|fail)
 (refine rT1 ?_)
 rfl
set_option maxRecDepth 10000 in
theorem lS (a:ByteArray) (ha:a.size≤1000000) (w:World):ay Tryz.prog 218 [.string a] w (.string (upB a)):=by
 refine aq Tryz.func218 rfl Tryz.ntmps218 rfl ?_
 repeat' (first|(apply ah;exact rfl;exact rfl;(intro w hm;exact B0 a ha w))|refine sT ?_|refine sM fun _=> ?_|(refine sC ?_ ?_<;>intro hb<;>try omega)|fail)
 (refine rT1 ?_)
 rfl
def l4:List Int→Option (List Int)
 | []=>some []
 |c::r=>if c≠34 then (l4 r).map (c:: ·) else match r with
  | []=>none
  |d::r' =>if d=34 then (l4 r').map (34:: ·) else none
def eM (l:List Int):List Int × Int:=
 if l.length<2∨l.head? ≠some 34∨l.getLast? ≠some 34∨l.all (fun c=>cw c)=false then ([],4)
 else match l4 ((l.drop 1).dropLast) with
  |none=>([],4)
  |some r=>if 256<r.length then ([],5) else (r,0)
theorem mT (a:ByteArray):l9 a=(ak a).all fun c=>cw c:=by
 simp only [l9,ak,List.all_map]
 congr 1
 funext c
 simp only [Function.comp,cw]
 rw [I4];simp;omega
theorem Cj (a:ByteArray) (c:Int) (h:0<a.size):((ak a).getLast? =some c)↔bat a (a.size - 1)=c:=by
 rw [Kg,au,jU (by omega)]
 simp
theorem uh {a:ByteArray} {i:Nat} (h0:1≤i) (h:i<a.size - 1):(((ak a).drop 1).dropLast).drop (i - 1)=bat a i::(((ak a).drop 1).dropLast).drop i:=by
 have hl:=au a
 obtain ⟨j,rfl⟩: ∃ j,i=j+1:=⟨i - 1,by omega⟩
 rw [JN]
 have hlen:(((ak a).drop 1).dropLast).length=a.size - 2:=by simp;omega
 have hlt:j<(((ak a).drop 1).dropLast).length:=by omega
 rw [H6 hlt]
 congr 1
 have h1:=jU (a:=a) (i:=j+1) (by omega)
 have h2:(((ak a).drop 1).dropLast)[j]? =some (bat a (j+1)):=by
  rw [List.getElem?_dropLast,if_pos (by simp;omega),JZ,JE 1 j,h1]
 rw [HY hlt] at h2
 exact Option.some.inj h2
theorem y9 {c:Int} {r:List Int} (h:c≠34):l4 (c::r)=(l4 r).map (c:: ·):=by
 rw [l4.eq_def];simp [h]
theorem xD (a:ByteArray) (ha:a.size≤1000000) (w:World):ay Tryz.prog 262 [.string a] w (.tuple #[.string (mkB (eM (ak a)).1),.int .i64 (eM (ak a)).2]):=by
 refine aq Tryz.func262 rfl Tryz.ntmps262 rfl ?_
 have hl:=au a
 have hp:=ll a ha
 rw [mT] at hp
 have hh:=pz a 34
 have hg:=Cj a 34
 by_cases hbad:(ak a).length<2∨(ak a).head? ≠some 34∨(ak a).getLast? ≠some 34∨(ak a).all (fun c=>cw c)=false
 ·
  rw [eM,if_pos hbad]
  repeat' (first|(apply ah;exact rfl;exact rfl;(intro w hm;exact hp w))|refine sT ?_|refine sS ?_|refine sT2 ?_|refine sN ?_|refine sM fun _=> ?_|(refine sC ?_ ?_<;>intro hb<;>try omega)|fail)
  iterate 4 (focus ((refine rT2 ?_);rfl))
  exfalso
  rename_i h1 h2 h3
  rcases hbad with h|h|h|h
  ·
   omega
  ·
   exact h (hh.2 ⟨by omega,Decidable.not_not.1 h2⟩)
  ·
   exact h ((hg (by omega)).2 (Decidable.not_not.1 h3))
  ·
   rw [hb] at h;cases h
 ·
  have hun:eM (ak a)=match l4 (((ak a).drop 1).dropLast) with
    |none=>([],4)
    |some r=>if 256<r.length then ([],5) else (r,0):=by rw [eM,if_neg hbad]
  rw [hun]
  simp only [not_or,Decidable.not_not,Bool.not_eq_false] at hbad
  obtain ⟨b1,b2,b3,b4⟩:=hbad
  have b5:=(hh.1 b2).2
  have b6:=(hg (by omega)).1 b3
  rw [b4] at hp
  have hn:(a.size:Int) - 1=((a.size - 1:Nat):Int):=by omega
  generalize hB:((ak a).drop 1).dropLast=B
  have hBl:B.length=a.size - 2:=by rw [← hB];simp;omega
  repeat' (first|(apply ah;exact rfl;exact rfl;(intro w hm;exact hp w))|refine sT ?_|refine sS ?_|refine sT2 ?_|refine sN ?_|refine sM fun _=> ?_|(refine sC ?_ ?_<;>intro hb<;>try omega)|fail)
  all_goals try (exfalso;omega)
  refine aw 5 1 ?_
  refine ax [0,4] rfl (fun x:Nat × List Int × Option Nat × Nat=> [(5,sl x.2.2.1 x.2.1.length x.2.2.2),(6,.int .i64 (x.1:Int))]) (fun x=> [.own x.2.2.1 5 1 x.2.1.length x.2.2.2 (x.2.1.map (Value.int .u8))]) (fun x=>1≤x.1∧x.1≤a.size - 1∧x.2.1.length≤x.1∧l4 B=(l4 (B.drop (x.1 - 1))).map (x.2.1++ ·)) (fun x=>a.size - x.1) (1,[],none,0) ⟨by omega,by omega,by simp,by simp⟩ sB mS ?_
  rintro ⟨i,out,A,cap⟩ ⟨i1,i2,i3,i4⟩
  dsimp only at i1 i2 i3 i4 ⊢
  by_cases hend:i=a.size - 1
  ·
   have hBd:B.drop (i - 1)= []:=IG (by omega)
   rw [hBd] at i4
   simp only [l4,Jk,Ig] at i4
   rw [i4]
   dsimp only
   by_cases hlen:256<out.length
   ·
    rw [if_pos hlen]
    repeat' (first|refine sT ?_|refine sS ?_|refine sT2 ?_|refine sN ?_|refine sM fun _=> ?_|(refine sC ?_ ?_<;>intro hb<;>try omega)|fail)
    all_goals first|(exfalso;omega)|((refine rT2 ?_);rfl)
   ·
    rw [if_neg hlen]
    repeat' (first|(apply aj;exact rfl;apply wz;exact rfl;exact pK;exact rfl)|refine sT ?_|refine sS ?_|refine sT2 ?_|refine sN ?_|refine sM fun _=> ?_|(refine sC ?_ ?_<;>intro hb<;>try omega)|fail)
    all_goals first|(exfalso;omega)|((refine rT2 ?_);rfl)
  ·
   have hdr:=uh (a:=a) i1 (by omega)
   rw [hB] at hdr
   rw [hdr] at i4
   by_cases hq:bat a i=34
   ·
    rw [hq] at i4
    by_cases h1:i+1=a.size - 1
    ·
     have hBd:B.drop i= []:=IG (by omega)
     rw [hBd] at i4
     simp only [l4,ne_eq,not_true_eq_false,if_false,Option.map_none] at i4
     rw [i4]
     repeat' (first|refine sT ?_|refine sS ?_|refine sT2 ?_|refine sN ?_|refine sM fun _=> ?_|(refine sC ?_ ?_<;>intro hb<;>try omega)|fail)
     all_goals first|(exfalso;omega)|((refine rT2 ?_);rfl)
    ·
     have hdr2:=uh (a:=a) (i:=i+1) (by omega) (by omega)
     rw [hB,JN] at hdr2
     rw [hdr2] at i4
     by_cases h2:bat a (i+1)=34
     ·
      simp only [l4,ne_eq,not_true_eq_false,if_false,h2,if_true,Option.map_map] at i4
      repeat' (first|(apply fH;(iterate 3 exact rfl);exact pK;exact pK;exact rfl;(simp [Value.oneCell']);omega;(simp only [maxLen];omega);intro g8 c8)|(apply aj (d:=63);exact rfl;apply iG (b:=2);exact rfl;exact rfl;(simp only [maxLen];omega))|refine sT ?_|refine sS ?_|refine sT2 ?_|refine sN ?_|refine sM fun _=> ?_|(refine sC ?_ ?_<;>intro hb<;>try omega)|fail)
      all_goals try (exfalso;omega)
      refine ⟨(i+2,out++ [34],some g8,c8),⟨by dsimp only;omega,by dsimp only;omega,by simp;omega,?_⟩,(by dsimp only;omega),?_,sB,?_⟩
      ·
       dsimp only
       rw [i4,show i+2 - 1=i+1 by omega]
       congr 1
       funext l
       simp
      ·
       simp only [HV,Ii]
       exact sB
      ·
       simp only [HV,Ii,IQ,Iv,I5]
       exact mS
     ·
      simp only [l4,ne_eq,not_true_eq_false,if_false,h2,Option.map_none] at i4
      rw [i4]
      repeat' (first|refine sT ?_|refine sS ?_|refine sT2 ?_|refine sN ?_|refine sM fun _=> ?_|(refine sC ?_ ?_<;>intro hb<;>try omega)|fail)
      all_goals first|(exfalso;omega)|((refine rT2 ?_);rfl)
   ·
    rw [y9 hq,Option.map_map] at i4
    repeat' (first|(apply fH;(iterate 3 exact rfl);exact pK;exact pK;exact rfl;(simp [Value.oneCell']);omega;(simp only [maxLen];omega);intro g8 c8)|refine sT ?_|refine sS ?_|refine sT2 ?_|refine sN ?_|refine sM fun _=> ?_|(refine sC ?_ ?_<;>intro hb<;>try omega)|fail)
    all_goals try (exfalso;omega)
    refine ⟨(i+1,out++ [bat a i],some g8,c8),⟨by dsimp only;omega,by dsimp only;omega,by simp;omega,?_⟩,(by dsimp only;omega),?_,sB,?_⟩
    ·
     dsimp only
     rw [i4,show i+1 - 1=i by omega]
     congr 1
     funext l
     simp
    ·
     simp only [HV,Ii]
     exact sB
    ·
     simp only [HV,Ii,IQ,Iv,I5]
     exact mS
def cK:List ByteArray:= [⟨#[]⟩,⟨#[35,68,73,86,47,48,33]⟩,⟨#[35,86,65,76,85,69,33]⟩,⟨#[35,78,85,77,33]⟩,⟨#[35,78,47,65]⟩,⟨#[35,82,69,70,33]⟩,⟨#[35,67,89,67,76,69,33]⟩,⟨#[35,68,69,78,73,69,68]⟩]
def Words (w:World):Prop:=Ro w 0 0 (cK.map Value.string)
theorem Words.next {w0 w:World} {H:List Blk} (h:Words w0) (hm:Mem w0 w H):Words w:=Ro.next h hm
def ig (c:Int):Vl:=⟨4,if c<1∨7<c then 2 else c,az⟩
def Cc (n:Int):Vl:=if n= -9223372036854775808 then ig 3 else ⟨1,n,az⟩
def rX (b:Bool):Vl:=⟨2,if b then 1 else 0,az⟩
def x7:ByteArray:=⟨#[84,82,85,69]⟩
def s9:ByteArray:=⟨#[70,65,76,83,69]⟩
def wZ (a:ByteArray):Vl:=if upB a=x7 then rX true else if upB a=s9 then rX false else ig 2
theorem iS (c:Int) (w:World):ay Tryz.prog 170 [.int .i64 c] w (.agg (cL (ig c)).toArray):=by
 refine aq Tryz.func170 rfl Tryz.ntmps170 rfl ?_
 repeat' (first|refine sT ?_|refine sM fun _=> ?_|(refine sC ?_ ?_<;>intro hb<;>try omega)|exact cT|fail)
 all_goals ((refine eRC ?_);simp only [ig];(first|rw [if_pos (by omega)]|rw [if_neg (by omega)]);rfl)
theorem EQ (n:Int) (w:World):ay Tryz.prog 173 [.int .i64 n] w (.agg (cL (Cc n)).toArray):=by
 refine aq Tryz.func173 rfl Tryz.ntmps173 rfl ?_
 repeat' (first|(apply ah;exact rfl;exact rfl;(intro w hm;exact iS 3 w))|refine sT ?_|refine sM fun _=> ?_|(refine sC ?_ ?_<;>intro hb<;>try omega)|exact cT|fail)
 all_goals ((refine eRC ?_);simp_all [Cc,cL,ig,az])
theorem CW (b:Bool) (w:World):ay Tryz.prog 258 [.bool b] w (.agg (cL (rX b)).toArray):=by
 refine aq Tryz.func258 rfl Tryz.ntmps258 rfl ?_
 repeat' (first|refine sT ?_|refine sM fun _=> ?_|(refine sC ?_ ?_<;>intro hb<;>try omega)|exact cT|fail)
 all_goals ((refine eRC ?_);simp_all [rX,cL,az])
theorem BX (v:Vl) (ha:v.text.size≤1000000) (w:World):ay Tryz.prog 217 [.agg (cL v).toArray] w (.agg (cL (wZ v.text)).toArray):=by
 refine aq Tryz.func217 rfl Tryz.ntmps217 rfl ?_
 repeat' (first|(apply ah;exact rfl;exact rfl;(intro w hm;exact lS v.text ha w))|(apply ah;exact rfl;exact rfl;(intro w hm;exact CW _ w))|(apply ah;exact rfl;exact rfl;(intro w hm;exact iS 2 w))|refine sT ?_|refine sM fun _=> ?_|(refine sC ?_ ?_<;>intro hb<;>try omega)|exact cT|fail)
 all_goals ((refine eRC ?_);simp_all [wZ,x7,s9];rfl)
theorem EL (c:Int) (h1:1≤c) (h2:c≤5) (w:World) (hw:Words w):ay Tryz.prog 269 [.agg (cL ⟨4,c,az⟩).toArray] w (.string (cK.getD c.toNat az)):=by
 refine aq Tryz.func269 rfl Tryz.ntmps269 rfl ?_
 have he:eqV ⟨4,c,az⟩ (ig 7)=false:=by simp [eqV,ig];omega
 have hv:ww ⟨4,c,az⟩=0:=by
  have h6:decide (c≤6)=true:=decide_eq_true (by omega)
  simp [ww,A0,h1,h6]
 have hc:=wu ⟨4,c,az⟩
 rw [hv] at hc
 obtain ⟨k,rfl⟩: ∃ k:Nat,c=(k:Int):=⟨c.toNat,by omega⟩
 have hcell:(cK.map Value.string)[k*1]? =some (.string (cK.getD k az)):=by
  rcases (by omega:k=1∨k=2∨k=3∨k=4∨k=5) with rfl|rfl|rfl|rfl|rfl<;>rfl
 repeat' (first|(apply dQ;exact rfl;exact rfl;(intro w hm;exact iS 7 w))|(apply dQ;exact rfl;exact rfl;(intro w hm;exact hc w))|(apply aK;exact rfl;exact he ▸ Bl (b:=ig 7) rfl rfl)|(apply aj;exact rfl;apply oE (j:=k);exact rfl;exact rfl;omega)|(apply aj;exact rfl;apply aD (o:=0);exact hw;exact rfl;exact hcell)|refine sT ?_|refine sQ ?_|refine sD ?_|refine sM fun _=> ?_|(refine sC ?_ ?_<;>intro hb<;>try omega)|(refine sCQ ?_ ?_<;>intro hb<;>try omega)|exact cT|fail)
 (refine rT1 ?_)
 rfl
instance:KLaw Tryz.prog 5 (fun z:Int=>Value.int .u8 z):=Cq
theorem rM {P:Program} {n:Fr} {w0:World} {Q:aU} {s:ap} {H:List Blk} {rest:List Oper} {ty:TypeId} {p:String} {af:Array Edge} {κ:Type} [DecidableEq κ] {enc:κ→Value} {t K E g clock:Nat} {m x kx:Operand} {k:κ} {v:Value} {es:List (κ × Value × Nat)} {es' :List (κ × Value × Nat)} {c' :Nat} {R:List Blk} {ops:Array Oper} [ht:Und P t (.map K E)] [hk:KLaw P K enc] (hm:ev s m=some (.map (some g))) (hkx:ev s kx=some (enc k)) (hx:ev s x=some v) (hsel:Sel (.obj g (cU enc es clock)) H R)
  (he:jp k v clock es=(es',c')) (h:WL P n w0 ops rest Q s (.obj g (cU enc es' c')::R)):WL P n w0 ops (⟨none,.insert t m kx x,ty,p,af,none⟩::rest) Q s H:=by
 refine yO hm hkx hx hsel ?_
 rw [he];exact h
theorem Co {κ:Type} [DecidableEq κ] {k:κ} {v:Value} {clock:Nat} {es:List (κ × Value × Nat)} (h:bh k es 0=none):jp k v clock es=(es++ [(k,v,clock)],clock+1):=by
 simp [jp,h]
def yD (v:Vl):List (Int × Value × Nat):=
 [(0,.func (.func 215) #[.agg (cL v).toArray] #[],0),(1,.func (.func 215) #[.agg (cL v).toArray] #[],1),(2,.func (.func 216) #[.agg (cL v).toArray] #[],2),(3,.func (.func 217) #[.agg (cL v).toArray] #[],3),(4,.func (.func 216) #[.agg (cL v).toArray] #[],4)]
theorem wF (v:Vl) (w:World):aF Tryz.prog 214 [.agg (cL v).toArray] w fun u H=> ∃ g,u= .map (some g)∧H= [.obj g (cU (fun z:Int=>Value.int .u8 z) (yD v) 5)]:=by
 refine aq Tryz.func214 rfl Tryz.ntmps214 rfl ?_
 repeat' (first|(apply kq (enc:=fun z:Int=>Value.int .u8 z);exact rfl;intro g)|(apply aj;exact rfl;apply iB;exact rfl)|(apply rM (enc:=fun z:Int=>Value.int .u8 z);(iterate 3 exact rfl);exact pK;exact Co rfl)|refine sT ?_|refine sM fun _=> ?_|(refine sC ?_ ?_<;>intro hb<;>try omega)|exact cT|fail)
 exact bI (H' := [.obj g (cU (fun z:Int=>Value.int .u8 z) (yD v) 5)]) (.inl rfl) rfl rfl (.pick .hd (.nil _)) ⟨g,rfl,rfl⟩
def fE (v:Vl):Vl:=if ww v=0 then wZ v.text else ig 2
set_option maxHeartbeats 1000000 in
theorem vz (v:Vl) (hk:v.kind=3) (ha:v.text.size≤1000000) (w:World):ay Tryz.prog 213 [.agg (cL v).toArray,.func (.func 214) #[] #[]] w (.agg (cL (fE v)).toArray):=by
 refine aq Tryz.func213 rfl Tryz.ntmps213 rfl ?_
 obtain ⟨k,num,text⟩:=v
 dsimp only at hk ha
 subst hk
 have hv:=wu ⟨3,num,text⟩
 have hn:=BX ⟨3,num,text⟩ ha
 repeat' (first|refine sT ?_|refine sM fun _=> ?_|(refine sC ?_ ?_<;>intro hb<;>try omega)|exact cT|fail)
 rename_i g2 g4
 refine lX (id:=1) (ι:=Unit) (fun _=> [(5,.func (.func 217) #[.agg (cL ⟨3,num,text⟩).toArray] #[]),(6,.bool true),(2,.pointer (some ⟨g2,0,none⟩)),(4,.pointer (some ⟨g4,0,none⟩))]) (fun _=> [.box g2 127 (cL ⟨3,num,text⟩),.box g4 127 (cL bD)]) (fun _=>True) ?_ ?_
 ·
  refine rS 11 rfl (by kernel_rfl) ?_
  ((with_reducible apply bU (i:=0));exact rfl;exact rfl;decide+kernel;decide+kernel;decide+kernel;exact nP;(intro _ _;exact vP))
  ((with_reducible apply bU (i:=3));exact rfl;exact rfl;decide+kernel;decide+kernel;decide+kernel;exact nP;(intro _ _;exact vP))
  repeat' (first|(apply rP (i:=1) (j:=4);exact rfl;exact rfl;decide+kernel)|(apply rP (i:=2) (j:=4);exact rfl;exact rfl;decide+kernel)|(apply dJ (i:=1);exact rfl;decide+kernel)|(apply dJ (i:=2);exact rfl;decide+kernel)|(apply dJ (i:=4);exact rfl;decide+kernel)|(apply dJ (i:=5);exact rfl;decide+kernel)|(apply bU (i:=6);exact rfl;exact rfl;decide+kernel;decide+kernel;decide+kernel;exact nP;(intro _ _;exact vP))|(apply bU (i:=7);exact rfl;exact rfl;decide+kernel;decide+kernel;decide+kernel;exact nP;(intro _ _;exact vP))|(apply bU (i:=8);exact rfl;exact rfl;decide+kernel;decide+kernel;decide+kernel;exact nP;(intro _ _;exact vP))|(apply bU (i:=9);exact rfl;exact rfl;decide+kernel;decide+kernel;decide+kernel;exact nP;(intro _ _;exact vP))|(apply bU (i:=10);exact rfl;exact rfl;decide+kernel;decide+kernel;decide+kernel;exact nP;(intro _ _;exact vP))|(apply rQ;decide+kernel)|(apply i9;exact rfl;exact rfl;infer_instance;exact rfl;exact FnIn.of_at (fun w' _=>wF ⟨3,num,text⟩ w');(rintro _ _ ⟨H1,⟨g5,rfl,rfl⟩,rfl⟩))|(apply aj;exact rfl;apply wB (enc:=fun z:Int=>Value.int .u8 z);exact rfl;exact rfl;exact pK;exact rfl)|refine sT ?_|refine sM fun _=> ?_|(refine sC ?_ ?_<;>intro hb<;>try omega)|exact cT|fail)
  all_goals ((apply cH;rotate_left 1;exact sB;exact mS);trivial)
 ·
  rintro _ -
  simp only [fE]
  generalize ww ⟨3,num,text⟩=e at hv
  repeat' (first|(apply ah;exact rfl;exact rfl;(intro w hm;exact hv w))|(apply ah;exact rfl;exact rfl;(intro w hm;exact iS 2 w))|(apply lV;exact rfl;exact rfl;infer_instance;exact rfl;(intro w' _;exact hn w'))|refine sT ?_|refine sM fun _=> ?_|(refine sC ?_ ?_<;>intro hb<;>try omega)|exact cT|fail)
  all_goals
   (refine eRC ?_)
   simp_all
   rfl
theorem Af (v:Vl) (hk:v.kind=3) (ha:v.text.size≤1000000) (w:World):ay Tryz.prog 167 [.agg (cL v).toArray] w (.agg (cL (fE v)).toArray):=by
 refine aq Tryz.func167 rfl Tryz.ntmps167 rfl ?_
 repeat' (first|(apply ah;exact rfl;exact rfl;(intro w hm;exact vz v hk ha w))|refine sT ?_|refine sM fun _=> ?_|(refine sC ?_ ?_<;>intro hb<;>try omega)|exact cT|fail)
 (refine eRC ?_)
 rfl
def jy (u:ByteArray):List ByteArray→Int→Int × Int
 | [],_=>(0,4)
 |x::r,i=>if x=u then (i,0) else jy u r (i+1)
def m8 (a:ByteArray):Int × Int:=jy (upB a) (cK.drop 1) 1
theorem wm {i:Nat} (h:i<8):(cK.map Value.string)[i]? =some (.string (cK.getD i az)):=by
 rcases (by omega:i=0∨i=1∨i=2∨i=3∨i=4∨i=5∨i=6∨i=7) with rfl|rfl|rfl|rfl|rfl|rfl|rfl|rfl<;>rfl
theorem tM {i:Nat} (h:i<8):cK.drop i=cK.getD i az::cK.drop (i+1):=by
 rcases (by omega:i=0∨i=1∨i=2∨i=3∨i=4∨i=5∨i=6∨i=7) with rfl|rfl|rfl|rfl|rfl|rfl|rfl|rfl<;>rfl
theorem ES (a:ByteArray) (ha:a.size≤1000000) (w:World) (hw:Words w):ay Tryz.prog 169 [.string a] w (.tuple #[.int .i64 (m8 a).1,.int .i64 (m8 a).2]):=by
 refine aq Tryz.func169 rfl Tryz.ntmps169 rfl ?_
 have hload:(((cK.map Value.string).drop 0).take 8)=cK.map Value.string:=rfl
 have hU:=lS a ha
 generalize hu:upB a=u at hU
 repeat' (first|(apply ah;exact rfl;exact rfl;(intro w hm;exact hU w))|(apply aj;exact rfl;apply iC (o:=0) (off:=0);exact hw;exact rfl;exact hload;exact rfl)|refine sT ?_|refine sT2 ?_|refine sM fun _=> ?_|(refine sC ?_ ?_<;>intro hb<;>try omega)|exact cT|fail)
 refine ax [0,8] rfl (fun i:Nat=> [(9,.int .i64 (i:Int))]) (fun _=> []) (fun i=>i≤8∧m8 a=jy u (cK.drop (max i 1)) (max i 1:Nat)) (fun i=>8 - i) 0 ⟨by omega,by rw [m8,hu];rfl⟩ sB mS ?_
 rintro i ⟨hi,hr⟩
 by_cases hlt:i<8
 ·
  have hx:=wm hlt
  have hd:=tM hlt
  generalize cK.getD i az=x at hx hd
  repeat' (first|(apply aj;exact rfl;apply jd;exact rfl;exact rfl;exact hlt;exact hx)|refine sT ?_|refine sT2 ?_|refine sN ?_|refine sM fun _=> ?_|(refine sC ?_ ?_<;>intro hb<;>try omega)|exact cT|fail)
  ·
   rename_i h0
   rw [show max i 1=i by omega,hd,jy,if_pos hb] at hr
   rw [hr]
   (refine rT2 ?_)
   rfl
  ·
   rename_i h0
   rw [show max i 1=i by omega,hd,jy,if_neg hb] at hr
   refine ⟨i+1,?_,(by first|omega|(dsimp only;omega)),sB,sB,mS⟩
   refine ⟨hlt,?_⟩
   rw [hr,show max (i+1) 1=i+1 by omega]
   rfl
  ·
   have h0:i=0:=by omega
   subst h0
   refine ⟨0+1,?_,(by first|omega|(dsimp only;omega)),sB,sB,mS⟩
   exact ⟨by omega,hr⟩
 ·
  have e:i=8:=by omega
  subst e
  rw [hr]
  repeat' (first|refine sT ?_|refine sT2 ?_|refine sM fun _=> ?_|(refine sC ?_ ?_<;>intro hb<;>try omega)|exact cT|fail)
  all_goals first|(exfalso;omega)|((refine rT2 ?_);rfl)
end Go.SL
namespace Go.SL
open Go Go.Proofs
attribute [local irreducible] W WL WQ WG WA WX WLI WR WT VOp thn blk bo scp aN bi aF FnIn
def wE:Option (Tk × Nat)→Value
 |some (t,n)=> .tuple #[.agg (cG t).toArray,.int .i64 (n:Int)]
 |none=> .tuple #[.agg (cG kg).toArray,.int .i64 0]
def atT (i:Nat) (o:Option (Tk × Nat)):Option (Tk × Nat):=o.map fun x=>({ x.1 with at_:=(i:Int) },x.2)
def jL (l:List Int):Option (Tk × Nat):=
 let w:=aO aS l
 let p:=cy (l.drop w)
 let n:=if p=0 then w else w+1+p
 if w=0∨4<p then none
 else if (mG (l.take n)).2≠0 then none else some (⟨1,(mG (l.take n)).1,az,aZ,0⟩,n)
theorem ji {c:Int} {r:List Int} (h:c=46):cy (c::r)=aO aS r:=by subst h;rfl
theorem oS {c:Int} {r:List Int} (h:c≠46):cy (c::r)=0:=by
 unfold cy
 split
 ·
  rename_i heq;injection heq with h1 h2;exact absurd h1 h
 ·
  rfl
set_option maxHeartbeats 1000000 in
theorem zw (a:ByteArray) (ha:a.size≤100000) (i:Nat) (hi:i≤a.size) (g:Nat) (w:World) (hr:Ro w g 0 [.string a]):
  ay Tryz.prog 221 [.pointer (some ⟨g,0,none⟩),.int .i64 (i:Int)] w (wE (atT i (jL ((ak a).drop i)))):=by
 refine aq Tryz.func221 rfl Tryz.ntmps221 rfl ?_
 have hl:=au a
 have hL1:=mo a (by omega) i hi 261 aS gx
 have hwl:=cN aS ((ak a).drop i)
 rw [IY] at hwl
 generalize hw:aO aS ((ak a).drop i)=n at hL1 hwl
 generalize hpd:cy ((ak a).drop (i+n))=p
 have hN:jL ((ak a).drop i)=if n=0∨4<p then none else if (mG (((ak a).drop i).take (if p=0 then n else n+1+p))).2≠0 then none else some (⟨1,(mG (((ak a).drop i).take (if p=0 then n else n+1+p))).1,az,aZ,0⟩,if p=0 then n else n+1+p):=by
  simp only [jL,hw,JG,hpd]
 rw [hN]
 have hL2:=fun h=>mo a (by omega) (i+n+1) h 261 aS gx
 have hcut: ∀ m,ak (sub a i (i+m))=((ak a).drop i).take m:=fun m=>by rw [fO,show i+m - i=m by omega]
 have hple:p≤a.size - (i+n) - 1:=by
  rw [← hpd]
  by_cases h:i+n<a.size
  ·
   rw [bO h]
   by_cases h46:bat a (i+n)=46
   ·
    rw [ji h46]
    have:=cN aS ((ak a).drop (i+n+1))
    rw [IY] at this
    omega
   ·
    rw [oS h46];omega
  ·
   rw [IG (by omega)];simp [cy]
 have hend: ∀ h:i+n+1<a.size,bat a (i+n)=46→(p=aO aS ((ak a).drop (i+n+1))):=fun h h46=>by
  rw [← hpd,bO (by omega),ji h46]
 have hno: ¬ (i+n+1<a.size∧bat a (i+n)=46∧aS (bat a (i+n+1))=true)→p=0:=fun h=>by
  by_cases h1:i+n<a.size
  ·
   by_cases h46:bat a (i+n)=46
   ·
    by_cases h2:i+n+1<a.size
    ·
     rw [hend h2 h46,bO h2,aO,if_neg fun h3=>h ⟨h2,h46,h3⟩]
    ·
     rw [← hpd,bO h1,ji h46,IG (by omega)];rfl
   ·
    rw [← hpd,bO h1,oS h46]
  ·
   rw [← hpd,IG (by omega)];rfl
 have hyes:i+n+1<a.size→bat a (i+n)=46→aS (bat a (i+n+1))=true→0<p:=fun h h46 h3=>by
  rw [hend h h46,bO h,aO,if_pos h3];omega
 repeat' (first|(apply aj;exact rfl;apply aD (o:=0) (off:=0);exact hr;exact rfl;exact rfl)|(apply ah;exact rfl;exact rfl;(intro w hm;exact hL1 w))|(apply ah;exact rfl;exact rfl;(intro w hm;exact gx _ w))|(refine xW (id:=7) [0,1,4] rfl (ι:=Nat × Nat) (fun x=> [(7,.int .i64 (x.1:Int)),(5,.int .i64 (x.2:Int))]) (fun x=>x.1=p∧x.2=if p=0 then n else n+1+p) ?_ ?_)|(apply ah;exact rfl;exact rfl;(intro w hm;exact hL2 (by omega) w))|refine sT ?_|refine sT2 ?_|refine sN ?_|refine sM fun _=> ?_|(refine sC ?_ ?_<;>intro hb<;>try omega)|exact cT|fail)
 ·
  (refine fW ?_)
  rw [if_pos (.inl (by omega))];rfl
 ·
  rename_i h1 h2 h3
  refine cH ((aO aS ((ak a).drop (i+n+1)),n+(1+aO aS ((ak a).drop (i+n+1))))) ?_ sB mS
  have h5:=hyes (by omega) h3 hb
  have h6:=hend (by omega) h3
  rw [← h6]
  exact ⟨rfl,by rw [if_neg (by omega)];omega⟩
 ·
  rename_i h1 h2 h3
  refine cH ((0,n)) ?_ sB mS
  have:=hno fun h=>by rw [hb] at h;cases h.2.2
  exact ⟨this.symm,by rw [if_pos this]⟩
 ·
  refine cH ((0,n)) ?_ sB mS
  have:=hno fun h=>hb h.2.1
  exact ⟨this.symm,by rw [if_pos this]⟩
 ·
  refine cH ((0,n)) ?_ sB mS
  have:=hno fun h=>by omega
  exact ⟨this.symm,by rw [if_pos this]⟩
 rintro ⟨p',m⟩ ⟨rfl,hm⟩
 have hn0:n≠0:=by omega
 dsimp only at hm ⊢
 rw [← hm]
 by_cases h4:4<p'
 ·
  rw [if_pos (.inr h4)]
  repeat' (first|refine sT ?_|refine sT2 ?_|refine sM fun _=> ?_|(refine sC ?_ ?_<;>intro hb<;>try omega)|exact cT|fail)
  all_goals first|(exfalso;omega)|((refine fW ?_);rfl)
 ·
  rw [if_neg (by omega)]
  have him:i+m≤a.size:=by rw [hm];split<;>omega
  have hP:=m7 (sub a i (i+m)) (by rw [bY _ him];omega)
  rw [hcut m] at hP
  generalize mG (((ak a).drop i).take m)=q at hP
  repeat' (first|(apply aj;exact rfl;apply aD (o:=0) (off:=0);exact hr;exact rfl;exact rfl)|(apply ah;exact rfl;exact rfl;(intro w hm;exact hP w))|refine sT ?_|refine sT2 ?_|refine sN ?_|refine sM fun _=> ?_|(refine sC ?_ ?_<;>intro hb<;>try omega)|exact cT|fail)
  ·
   (refine fW ?_)
   rw [if_pos hb];rfl
  ·
   (refine fW ?_)
   rw [if_neg hb];rfl
theorem ic (a:ByteArray) (j:Nat):((ak a).drop j).headD 0=bat a j:=by
 rw [bat,List.headD_eq_head?_getD,List.head?_drop,JD]
theorem sx (a:ByteArray) (ha:a.size≤100000) (j:Nat) (g:Nat) (w:World) (hr:Ro w g 0 [.string a]):
  ay Tryz.prog 265 [.pointer (some ⟨g,0,none⟩),.int .i64 (j:Int)] w (.int .u8 (bat a j)):=by
 refine aq Tryz.func265 rfl Tryz.ntmps265 rfl ?_
 have hl:=au a
 repeat' (first|(apply aj;exact rfl;apply aD (o:=0) (off:=0);exact hr;exact rfl;exact rfl)|refine sT ?_|refine sT2 ?_|refine sN ?_|refine sM fun _=> ?_|(refine sC ?_ ?_<;>intro hb<;>try omega)|exact cT|fail)
 ·
  (refine rT1 ?_)
  rfl
 ·
  (refine rT1 ?_)
  have e:bat a j=0:=by rw [bat,JD,List.getElem?_eq_none (by omega)];rfl
  rw [e]
def upW (l:List Int):List Int:=(l.take (aO cJ l)).map upC
theorem oI (l:List Int):(upW l).length=aO cJ l:=by
 have:=cN cJ l
 simp [upW];omega
theorem Br {l:List Int} (h:ek l):ek (upW l):=by
 intro c hc
 obtain ⟨d,hd,rfl⟩:=Iu.1 hc
 have:=h d (Jw hd)
 unfold upC
 split<;>omega
theorem uF (a:ByteArray) (ha:a.size≤100000) (i:Nat) (hi:i≤a.size) (g:Nat) (w:World) (hr:Ro w g 0 [.string a]):
  ay Tryz.prog 264 [.pointer (some ⟨g,0,none⟩),.int .i64 (i:Int)] w (.string (mkB (upW ((ak a).drop i)))):=by
 refine aq Tryz.func264 rfl Tryz.ntmps264 rfl ?_
 have hl:=au a
 have hL:=mo a (by omega) i hi 300 cJ zA
 have hwl:=cN cJ ((ak a).drop i)
 rw [IY] at hwl
 unfold upW
 generalize aO cJ ((ak a).drop i)=n at hL hwl
 have hU:=lS (sub a i (i+n)) (by rw [bY _ (by omega)];omega)
 have e:upB (sub a i (i+n))=mkB ((((ak a).drop i).take n).map upC):=by rw [upB,fO,show i+n - i=n by omega]
 rw [e] at hU
 repeat' (first|(apply aj;exact rfl;apply aD (o:=0) (off:=0);exact hr;exact rfl;exact rfl)|(apply ah;exact rfl;exact rfl;(intro w hm;exact hL w))|(apply ah;exact rfl;exact rfl;(intro w hm;exact hU w))|refine sT ?_|refine sT2 ?_|refine sN ?_|refine sM fun _=> ?_|(refine sC ?_ ?_<;>intro hb<;>try omega)|exact cT|fail)
 (refine rT1 ?_)
 rfl
def cX:List Int→Option Nat
 | []=>none
 |c::r=>if c≠34 then (cX r).map (· +1) else match r with
  | []=>some 0
  |d::r' =>if d=34 then (cX r').map (· +2) else some 0
theorem ni {c:Int} {r:List Int} (h:c≠34):cX (c::r)=(cX r).map (· +1):=by rw [cX.eq_def];simp [h]
def um (l:List Int):Option (Tk × Nat):=
 if l.headD 0≠34 then none
 else match cX (l.drop 1) with
  |none=>none
  |some k=>if (eM (l.take (k+2))).2≠0 then none else some (⟨2,0,mkB (eM (l.take (k+2))).1,aZ,0⟩,k+2)
set_option maxHeartbeats 1000000 in
theorem DI (a:ByteArray) (ha:a.size≤100000) (i:Nat) (hi:i<a.size) (g:Nat) (w:World) (hr:Ro w g 0 [.string a]):
  ay Tryz.prog 222 [.pointer (some ⟨g,0,none⟩),.int .i64 (i:Int)] w (wE (atT i (um ((ak a).drop i)))):=by
 refine aq Tryz.func222 rfl Tryz.ntmps222 rfl ?_
 have hl:=au a
 unfold um
 rw [ic,JG]
 by_cases h34:bat a i=34
 ·
  rw [if_neg (by omega)]
  have hcut: ∀ m,ak (sub a i (i+m))=((ak a).drop i).take m:=fun m=>by rw [fO,show i+m - i=m by omega]
  repeat' (first|(apply aj;exact rfl;apply aD (o:=0) (off:=0);exact hr;exact rfl;exact rfl)|refine sT ?_|refine sT2 ?_|refine sN ?_|refine sM fun _=> ?_|(refine sC ?_ ?_<;>intro hb<;>try omega)|exact cT|fail)
  all_goals try (exfalso;omega)
  rename_i g4
  generalize hC:cX ((ak a).drop (i+1))=C
  refine ax [0,1,4,5] rfl (fun j:Nat=> [(6,.int .i64 (j:Int))]) (fun _=> [.box g4 228 (cG kg)]) (fun j=>i+1≤j∧j≤a.size∧C=(cX ((ak a).drop j)).map (· +(j - (i+1)))) (fun j=>a.size - j) (i+1) ⟨by omega,by omega,by rw [hC];simp⟩ sB mS ?_
  rintro j ⟨hj1,hj2,hj3⟩
  by_cases hlt:j<a.size
  ·
   rw [bO hlt] at hj3
   by_cases hq:bat a j=34
   ·
    by_cases hn:j+1<a.size∧bat a (j+1)=34
    ·
     rw [bO hn.1,hq,hn.2] at hj3
     simp only [cX,ne_eq,not_true_eq_false,if_false,if_true,Option.map_map] at hj3
     have hn1:=hn.1
     repeat' (first|(apply aj;exact rfl;apply aD (o:=0) (off:=0);exact hr;exact rfl;exact rfl)|refine sT ?_|refine sT2 ?_|refine sN ?_|refine sM fun _=> ?_|(refine sC ?_ ?_<;>intro hb<;>try omega)|exact cT|fail)
     all_goals try (exfalso;omega)
     refine ⟨j+2,?_,(by first|omega|(dsimp only;omega)),sB,sB,mS⟩
     refine ⟨by omega,by omega,?_⟩
     rw [hj3,show j+1+1=j+2 by omega]
     congr 1
     funext k
     simp only [Function.comp]
     omega
    ·
     have hC0:C=some (j - (i+1)):=by
      rw [hj3,hq]
      by_cases h1:j+1<a.size
      ·
       rw [bO h1]
       have h2:bat a (j+1)≠34:=fun h=>hn ⟨h1,h⟩
       simp [cX,h2]
      ·
       rw [IG (i:=j+1) (by omega)]
       simp [cX]
     rw [hC0]
     dsimp only
     have hm:j - (i+1)+2=j+1 - i:=by omega
     rw [hm]
     have hc:=hcut (j+1 - i)
     rw [show i+(j+1 - i)=j+1 by omega] at hc
     have hP:=xD (sub a i (j+1)) (by rw [bY _ (by omega)];omega)
     rw [hc] at hP
     generalize eM (((ak a).drop i).take (j+1 - i))=q at hP
     repeat' (first|(apply aj;exact rfl;apply aD (o:=0) (off:=0);exact hr;exact rfl;exact rfl)|(apply ah;exact rfl;exact rfl;(intro w hm;exact hP w))|refine sT ?_|refine sT2 ?_|refine sN ?_|refine sM fun _=> ?_|(refine sC ?_ ?_<;>intro hb<;>try omega)|exact cT|fail)
     all_goals first|(exfalso;omega)|((refine fW ?_);first|(rw [if_pos hb];rfl)|(rw [if_neg hb];rfl))
   ·
    rw [ni hq,Option.map_map] at hj3
    repeat' (first|(apply aj;exact rfl;apply aD (o:=0) (off:=0);exact hr;exact rfl;exact rfl)|refine sT ?_|refine sT2 ?_|refine sN ?_|refine sM fun _=> ?_|(refine sC ?_ ?_<;>intro hb<;>try omega)|exact cT|fail)
    all_goals try (exfalso;omega)
    refine ⟨j+1,?_,(by first|omega|(dsimp only;omega)),sB,sB,mS⟩
    refine ⟨by omega,by omega,?_⟩
    rw [hj3]
    congr 1
    funext k
    simp only [Function.comp]
    omega
  ·
   rw [IG (by omega)] at hj3
   rw [hj3]
   dsimp only [cX,Option.map]
   repeat' (first|(apply aj;exact rfl;apply aD (o:=0) (off:=0);exact hr;exact rfl;exact rfl)|refine sT ?_|refine sT2 ?_|refine sN ?_|refine sM fun _=> ?_|(refine sC ?_ ?_<;>intro hb<;>try omega)|exact cT|fail)
   all_goals try (exfalso;omega)
   (refine fW ?_)
   rfl
 ·
  rw [if_pos (by omega)]
  repeat' (first|(apply aj;exact rfl;apply aD (o:=0) (off:=0);exact hr;exact rfl;exact rfl)|refine sT ?_|refine sT2 ?_|refine sN ?_|refine sM fun _=> ?_|(refine sC ?_ ?_<;>intro hb<;>try omega)|exact cT|fail)
  all_goals try (exfalso;omega)
  (refine fW ?_)
  rfl
end Go.SL
namespace Go.SL
open Go Go.Proofs Go.Proofs.YtoanpdoacdpgeaaGreatDoor Go.ChangeShapes Go.WideShapes Go.ChangeAt Go.RowKit Go.Deep
def lU:List (List UInt8):= [[],[35,68,73,86,47,48,33],[35,86,65,76,85,69,33],[35,78,85,77,33],[35,78,47,65],[35,82,69,70,33],[35,67,89,67,76,69,33],[35,68,69,78,73,69,68]]
def pu:List (String × DataW Unit):= [("louvre/val.words",Rows.laid_louvre_val_words)]
theorem tL:(Rows.laid_louvre_val_words:DataW Unit)= .agg (lU.map fun l=> .lit (.string l)):=rfl
theorem AC:cK=lU.map fun l=>⟨l.toArray⟩:=rfl
set_option maxRecDepth 100000 in
theorem qd {W:World} (h:laidMetH Tryz.prog pu W):Words W:=by
 rw [MakeChecks.laidMetH_plain _ _ _ (by kernel_rfl)] at h
 obtain ⟨ps,⟨g,t,cs,fuel,p,q,hg,ht,hv,hd,_,_⟩,_⟩:=h
 obtain rfl:=Option.some.inj ((show Tryz.prog.globalNamed "louvre/val.words" =some 0 by kernel_rfl).symm.trans hg)
 obtain rfl:=Option.some.inj ((show (Tryz.prog.globals[0]?).map (·.type)=some 266 by kernel_rfl).symm.trans ht)
 rw [tL] at hd
 obtain ⟨xs,m,_,ex,_,hl,hel⟩:=DataW.trod_array Tryz.underlying266 hd
 have cS:Tryz.prog.cellsOf 9=1:=by kernel_rfl
 have hcell: ∀ (j:Nat) (v:Value),(cK.map Value.string)[j]? =some v→W.cell? ⟨0,0+j,none⟩=some v:=by
  intro j v hjv
  have hj:j<8:=by
   have:=(Iq.1 hjv).1
   simpa [cK] using this
  have hE:=hel j hj
  rw [cS,Jt,HY (by omega)] at hE
  obtain ⟨s,e1,e2,_⟩:=DataW.trod_string Tryz.underlying9 hE
  have e3:(xs.map (·.1))=lU.map fun l=> .lit (.string l):=(DataW.agg.inj (Prod.mk.inj ex).1).symm
  have hwl:lU.length=8:=rfl
  have e4:(xs.map (·.1))[j]? =(lU.map fun l=>(DataW.lit (.string l):DataW Unit))[j]? :=by rw [e3]
  obtain ⟨u,hu⟩: ∃ u,lU[j]? =some u:=⟨_,HY (by rw [hwl];exact hj)⟩
  rw [II,II,HY (by omega:j<xs.length),hu,e2] at e4
  simp only [Jk,Option.some.injEq,DataW.lit.injEq,Lit.string.injEq] at e4
  have hs:s=⟨u.toArray⟩:=by
   obtain ⟨d⟩:=s
   subst e4
   rfl
  have hvv:v= .string s:=by
   rw [AC,JJ,II,hu] at hjv
   simp only [Jk,Option.some.injEq,Function.comp] at hjv
   rw [← hjv,hs]
  rw [hvv,H8,World.var?_cell hg hv j]
  have:cs.toList[j]? =some (.string s):=by
   have h0:((cs.toList.drop j).take 1)[0]? =some (.string s):=by rw [e1];rfl
   simpa using h0
  simpa using this
 refine ⟨?_,hcell⟩
 have h5:=hcell 0 _ rfl
 simp only [World.cell?] at h5
 split at h5
 ·
  rename_i h6
  exact (Io.1 h6).1
 ·
  cases h5
end Go.SL
namespace Go.SL
open Go Go.Proofs
attribute [local irreducible] W WL WQ WG WA WX WLI WR WT VOp thn blk bo scp aN bi aF FnIn
theorem DZ {l m:List Int} (hl:ek l) (hm:ek m):mkB l=mkB m↔l=m:=⟨fun h=>by rw [← jq hl,← jq hm,h],fun h=>by rw [h]⟩
theorem j4 (a b:ByteArray) (w:World):ay Tryz.prog 212 [.string a,.string b] w (.bool (decide ((ak a).take b.size=ak b))):=by
 refine aq Tryz.func212 rfl Tryz.ntmps212 rfl ?_
 have ha:=au a
 have hb' :=au b
 have e: ∀ h:b.size≤a.size,decide (sub a 0 b.size=b)=decide ((ak a).take b.size=ak b):=fun h=>by
  rw [decide_eq_decide,← sU]
  exact ⟨fun h=>by rw [h],fun h=>u6 h⟩
 repeat' (first|refine sT ?_|refine sT2 ?_|refine sM fun _=> ?_|(refine sC ?_ ?_<;>intro hb<;>try omega)|fail)
 ·
  rw [e (by omega)]
  (refine rT1 ?_)
  rfl
 ·
  (refine rT1 ?_)
  rw [decide_eq_false]
  intro h
  have:=congrArg List.length h
  rw [IU] at this
  omega
theorem sZ (a b:ByteArray) (w:World):ay Tryz.prog 271 [.string a,.string b] w (.bool (decide ((ak a).take b.size=ak b))):=by
 refine aq Tryz.func271 rfl Tryz.ntmps271 rfl ?_
 repeat' (first|(apply ah;exact rfl;exact rfl;(intro w hm;exact j4 a b w))|refine sT ?_|refine sM fun _=> ?_|(refine sC ?_ ?_<;>intro hb<;>try omega)|fail)
 (refine rT1 ?_)
 rfl
theorem o7 (c:Int) (w:World):ay Tryz.prog 268 [.int .i64 c] w (.bool (decide (1≤c) && decide (c≤5))):=by
 refine aq Tryz.func268 rfl Tryz.ntmps268 rfl ?_
 repeat' (first|refine sT ?_|refine sM fun _=> ?_|(refine sC ?_ ?_<;>intro hb<;>try omega)|fail)
 all_goals ((refine rT1 ?_);simp_all<;>omega)
theorem tj {k:Nat} (h1:1≤k) (h2:k≤5): ∃ s,fT.drop (k - 1)=s::fT.drop k∧cK.getD k az=mkB s∧ek s∧s.length≤10:=by
 rcases (by omega:k=1∨k=2∨k=3∨k=4∨k=5) with rfl|rfl|rfl|rfl|rfl<;>refine ⟨_,rfl,rfl,?_,by decide⟩<;>(intro c hc;simp at hc;omega)
theorem jl (l:List Int):(mkB l).size=l.length:=by simp [mkB,ByteArray.size]
def vp (l:List Int):Option (Tk × Nat):=(m5 l fT 1).map fun x=>(⟨4,x.1,az,aZ,0⟩,x.2)
set_option maxHeartbeats 1000000 in
theorem Em (a:ByteArray) (ha:a.size≤100000) (i:Nat) (hi:i≤a.size) (g:Nat) (w:World) (hr:Ro w g 0 [.string a]) (hW:Words w):
  ay Tryz.prog 224 [.pointer (some ⟨g,0,none⟩),.int .i64 (i:Int)] w (wE (atT i (vp ((ak a).drop i)))):=by
 refine aq Tryz.func224 rfl Tryz.ntmps224 rfl ?_
 have hl:=au a
 unfold vp
 generalize hF:m5 ((ak a).drop i) fT 1=F
 repeat' (first|refine sT ?_|refine sT2 ?_|refine sM fun _=> ?_|(refine sC ?_ ?_<;>intro hb<;>try omega)|fail)
 rename_i g4
 refine ax [0,1,4,5] rfl (fun k:Nat=> [(6,.int .i64 (k:Int))]) (fun _=> [.box g4 228 (cG kg)]) (fun k=>1≤k∧k≤6∧F=m5 ((ak a).drop i) (fT.drop (k - 1)) k) (fun k=>6 - k) 1 ⟨by omega,by omega,hF.symm⟩ sB mS ?_
 rintro k ⟨hk1,hk2,hk3⟩
 by_cases hk:k≤5
 ·
  obtain ⟨s,e1,e2,e3,e4⟩:=tj hk1 hk
  have e5:ig (k:Int)=⟨4,(k:Int),az⟩:=by rw [ig,if_neg (by omega)]
  have hFa:=iS (k:Int)
  rw [e5] at hFa
  have hSh:=fun w' h=>EL (k:Int) (by omega) (by omega) w' h
  rw [Int.toNat_natCast,e2] at hSh
  rw [e1,m5] at hk3
  have hlit:(decide (1≤(k:Int)) && decide ((k:Int)≤5))=true:=by simp;omega
  have hL:=o7 (k:Int)
  rw [hlit] at hL
  have hms:=jl s
  have hcut:ak (sub a i (i+s.length))=((ak a).drop i).take s.length:=by rw [fO,show i+s.length - i=s.length by omega]
  have hU:=fun h=>lS (sub a i (i+s.length)) h
  have hdec:upB (sub a i (i+s.length))=mkB s↔(((ak a).drop i).take s.length).map upC=s:=by
   rw [upB,hcut,DZ _ e3]
   rw [← hcut,← Cr]
   exact jM _
  rw [← hms] at hU hdec hk3
  repeat' (first|(apply aj;exact rfl;apply aD (o:=0) (off:=0);exact hr;exact rfl;exact rfl)|(apply ah;exact rfl;exact rfl;(intro w hm;exact hL w))|(apply ah;exact rfl;exact rfl;(intro w hm;exact hFa w))|(apply ah;exact rfl;exact rfl;(intro w' hm;exact hSh w' (hW.next hm)))|(apply ah;exact rfl;exact rfl;(intro w hm;exact hU (by rw [bY _ (by omega)];omega) w))|refine sT ?_|refine sT2 ?_|refine sN ?_|refine sM fun _=> ?_|(refine sC ?_ ?_<;>intro hb<;>try omega)|fail)
  ·
   (refine fW ?_)
   rw [hk3,if_pos (hdec.1 hb)]
   rfl
  ·
   refine ⟨k+1,?_,(by first|omega|(dsimp only;omega)),sB,sB,mS⟩
   refine ⟨by omega,by omega,?_⟩
   rw [hk3,if_neg fun h=>hb (hdec.2 h)]
   rfl
  ·
   refine ⟨k+1,?_,(by first|omega|(dsimp only;omega)),sB,sB,mS⟩
   refine ⟨by omega,by omega,?_⟩
   rw [hk3,if_neg]
   ·
    rfl
   ·
    intro h
    have:=congrArg List.length h
    rw [IJ,IU,IY] at this
    omega
 ·
  have e:k=6:=by omega
  subst e
  rw [show fT.drop (6 - 1)= [] from rfl,m5] at hk3
  rw [hk3]
  have hL:=o7 6
  rw [show (decide (1≤(6:Int)) && decide ((6:Int)≤5))=false from rfl] at hL
  repeat' (first|(apply ah;exact rfl;exact rfl;(intro w hm;exact hL w))|refine sT ?_|refine sT2 ?_|refine sM fun _=> ?_|(refine sC ?_ ?_<;>intro hb<;>try omega)|fail)
  all_goals try (exfalso;omega)
  (refine fW ?_)
  rfl
def yf:List Value:=fq.map fun x=> .string (mkB x.1)
def yg:List Value:=fq.map fun x=> .int .i64 x.2
theorem sw (w:World):aF Tryz.prog 270 [] w fun v H=> ∃ g g',v= .tuple #[sl (some g) 13 13,sl (some g') 13 13]∧H= [.own (some g) 9 1 13 13 yf,.own (some g') 2 1 13 13 yg]:=by
 refine aq Tryz.func270 rfl Tryz.ntmps270 rfl ?_
 repeat' (first|refine sT ?_|refine sM fun _=> ?_|(refine sC ?_ ?_<;>intro hb<;>try omega)|fail)
 rename_i g g'
 refine gU (.inl rfl) rfl rfl rfl (H' := [.own (some g) 9 1 13 13 yf,.own (some g') 2 1 13 13 yg]) ?_ ⟨g,g',rfl,rfl⟩
 exact mS
theorem FY {k:Nat} (h:k<13): ∃ s n,fq.drop k=(s,n)::fq.drop (k+1)∧yf[k]? =some (.string (mkB s))∧yg[k]? =some (.int .i64 n)∧ek s∧s.length≤2:=by
 rcases (by omega:k=0∨k=1∨k=2∨k=3∨k=4∨k=5∨k=6∨k=7∨k=8∨k=9∨k=10∨k=11∨k=12) with rfl|rfl|rfl|rfl|rfl|rfl|rfl|rfl|rfl|rfl|rfl|rfl|rfl<;>refine ⟨_,_,rfl,rfl,rfl,?_,by decide⟩<;>(intro c hc;simp at hc;omega)
def ut (l:List Int):Option (Tk × Nat):=
 match opL l fq with
 |some (k,n)=>some (⟨8,k,az,aZ,0⟩,n)
 |none=>if l.headD 0=40 then some (⟨9,0,az,aZ,0⟩,1) else if l.headD 0=41 then some (⟨10,0,az,aZ,0⟩,1) else if l.headD 0=44 then some (⟨11,0,az,aZ,0⟩,1) else none
set_option maxHeartbeats 1000000 in
theorem DL (a:ByteArray) (ha:a.size≤100000) (i:Nat) (hi:i<a.size) (g:Nat) (w:World) (hr:Ro w g 0 [.string a]):
  ay Tryz.prog 225 [.pointer (some ⟨g,0,none⟩),.int .i64 (i:Int)] w (wE (atT i (ut ((ak a).drop i)))):=by
 refine aq Tryz.func225 rfl Tryz.ntmps225 rfl ?_
 have hl:=au a
 unfold ut
 rw [ic]
 generalize hF:opL ((ak a).drop i) fq=F
 repeat' (first|(apply av;exact rfl;exact rfl;(intro w' hm;exact sw w');(rintro v H' ⟨gs,gn,rfl,rfl⟩))|refine sT ?_|refine sT2 ?_|refine sM fun _=> ?_|(refine sC ?_ ?_<;>intro hb<;>try omega)|fail)
 rename_i g4
 refine ax [0,1,4,5,7,14,15] rfl (fun k:Nat=> [(16,.int .i64 (k:Int))]) (fun _=> [.box g4 228 (cG kg),.own (some gs) 9 1 13 13 yf,.own (some gn) 2 1 13 13 yg]) (fun k=>k≤13∧F=opL ((ak a).drop i) (fq.drop k)) (fun k=>13 - k) 0 ⟨by omega,hF.symm⟩ sB mS ?_
 rintro k ⟨hk2,hk3⟩
 by_cases hk:k<13
 ·
  obtain ⟨s,m,e1,e2,e3,e4,e5⟩:=FY hk
  rw [e1,opL] at hk3
  have hms:=jl s
  have hP:=sZ (sub a i a.size) (mkB s)
  rw [jN,jq e4,hms] at hP
  repeat' (first|(apply aj;exact rfl;apply aD (o:=0) (off:=0);exact hr;exact rfl;exact rfl)|(apply ah;exact rfl;exact rfl;(intro w hm;exact hP w))|(apply aj;exact rfl;apply ai (j:=k);exact rfl;exact rfl;exact hk)|(apply aj;exact rfl;apply aP;exact rfl;exact pK;(rw [show 0+k*1=k by omega];first|exact e2|exact e3))|refine sT ?_|refine sT2 ?_|refine sN ?_|refine sM fun _=> ?_|(refine sC ?_ ?_<;>intro hb<;>try omega)|fail)
  ·
   (refine fW ?_)
   rw [hk3,if_pos hb,hms]
   rfl
  ·
   refine ⟨k+1,?_,(by first|omega|(dsimp only;omega)),sB,sB,mS⟩
   exact ⟨hk,by rw [hk3,if_neg hb]⟩
 ·
  have e:k=13:=by omega
  subst e
  rw [show fq.drop 13= [] from rfl,opL] at hk3
  subst hk3
  repeat' (first|(apply aj;exact rfl;apply aD (o:=0) (off:=0);exact hr;exact rfl;exact rfl)|refine sT ?_|refine sT2 ?_|refine sN ?_|refine sM fun _=> ?_|(refine sC ?_ ?_<;>intro hb<;>try omega)|fail)
  all_goals try (exfalso;omega)
  all_goals
   (refine fW ?_)
   simp_all
   try rfl
end Go.SL
