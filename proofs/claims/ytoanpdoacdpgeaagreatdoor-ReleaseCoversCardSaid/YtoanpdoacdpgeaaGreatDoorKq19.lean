/-
  Lemmas and walks, put together: Ro Ic Q4 Na Hl Id.
-/
import Derived.Test.YtoanpdoacdpgeaaGreatDoorKq17
import Derived.Test.YtoanpdoacdpgeaaGreatDoorKq18
set_option linter.unusedSimpArgs false
set_option linter.unusedVariables false
set_option maxRecDepth 20000
namespace Go.SL
open Go Go.Proofs
attribute [local irreducible] W WL WQ WG WA WX WLI WR WT WC WE VOp RW thn blk bE scp aV bo bI aK FnIn FnP ceP
theorem uE {G:Gr} (hG:GrOk G) (d:Rf):(eK G d).length≤1000:=Rt (GY hG d) (by decide)
def kH (k:Int):Bool:=decide (k=3)||decide (k=4)||decide (k=7)||decide (k=8)||decide (k=9)
def Hz (k:Int):Bool:=decide (k=3)||decide (k=4)||decide (k=5)||decide (k=6)||decide (k=7)||decide (k=8)
def qO (k:Int):Ox:=⟨k,0,aL,av,0#64,0#64,0#64,0,0#64,0⟩
def kE (x:Ox):Rct × Bool:=if Hz x.kind then (x.rect,true) else (aL,false)
def mT (x:Ox):Ox:=
 if x.kind<1∨10<x.kind then qO x.kind
 else ⟨x.kind,x.user,(kE x).1,if x.kind=3 then x.input else av,if x.kind=7 then x.rd else 0#64,if x.kind=7 then x.wr else 0#64,if x.kind=7 then x.ow else 0#64,if x.kind=8 then x.fns else 0,if x.kind=8 then x.to else 0#64,if x.kind=9 then x.idx else 0⟩
def opE (x:Ox):Int:=
 if x.kind<1∨10<x.kind∨x≠mT x then 4
 else if x.kind=3∨x.kind=6 then (if x.rect.c1=x.rect.c2∧x.rect.r1=x.rect.r2 then (if gP x.input≠0 then 4 else 0) else 4)
 else if x.kind=8 then (if x.fns<1∨31<x.fns then 4 else 0) else 0
theorem pO (x:Ox) (w:World):ay Tryz.prog 41 [.agg (bO x).toArray] w (.bool (kH x.kind)):=by
 refine aq Tryz.func41 rfl Tryz.ntmps41 rfl ?_
 repeat' (first|refine sT ?_|refine sS ?_|refine sM fun _=> ?_|(refine sC ?_ ?_<;>intro hb<;>try omega)|fail)
 all_goals first
  |(exfalso;omega)
  |((refine rT1 ?_);simp_all [kH];done)
theorem CT (k:Int) (w:World):ay Tryz.prog 41 [.agg (bO (qO k)).toArray] w (.bool (kH k)):=pO (qO k) w
theorem yt (x:Ox) (w:World):ay Tryz.prog 88 [.agg (bO x).toArray] w (.tuple #[.agg (bK (kE x).1).toArray,.bool (kE x).2]):=by
 refine aq Tryz.func88 rfl Tryz.ntmps88 rfl ?_
 by_cases h:Hz x.kind=true
 ·
  rw [kE,if_pos h]
  repeat' (first|refine sT ?_|refine sS ?_|refine sM fun _=> ?_|(refine sC ?_ ?_<;>intro hb<;>try omega)|fail)
  all_goals first
   |(exfalso;omega)
   |((refine eQ ?_);rfl)
   |(exfalso;simp_all [Hz];done)
 ·
  rw [kE,if_neg h]
  repeat' (first|refine sT ?_|refine sS ?_|refine sM fun _=> ?_|(refine sC ?_ ?_<;>intro hb<;>try omega)|fail)
  all_goals first
   |(exfalso;omega)
   |(exfalso;simp_all [Hz];done)
   |((refine eQ ?_);rfl)
set_option maxHeartbeats 4000000 in
theorem L7 (x:Ox) (w:World):ay Tryz.prog 133 [.agg (bO x).toArray] w (.agg (bO (mT x)).toArray):=by
 refine aq Tryz.func133 rfl Tryz.ntmps133 rfl ?_
 have hT:=fun w=>yt x w
 unfold mT
 obtain ⟨⟨t,tb⟩,ht⟩: ∃ t,kE x=t:=⟨_,rfl⟩
 rw [ht] at hT ⊢
 by_cases h8:x.kind=8
 ·
  repeat' (first|(apply aa;exact rfl;exact rfl;(intro w hm;exact hT w))|refine sT ?_|refine sS ?_|refine sM fun _=> ?_|(refine sC ?_ ?_<;>intro hb<;>try omega)|fail)
  all_goals try (exfalso;omega)
  rename_i g1 g2 g3 _ _ _ _
  refine iL (id:=12) [5,7] [] [.box g1 37 (bO x)] (by kernel_rfl) (by kernel_rfl) (by kernel_rfl) mS ?_
  repeat' (first|refine sT ?_|refine sS ?_|refine sW ?_|refine sM fun _=> ?_|(refine sC ?_ ?_<;>intro hb<;>try omega)|(refine sCW ?_ ?_<;>intro hb<;>try omega)|fail)
  all_goals first
   |(exfalso;omega)
   |((refine eRC ?_);rw [if_neg (by omega)];simp_all [bO,av,vS];done)
 ·
  repeat' (first|(apply aa;exact rfl;exact rfl;(intro w hm;exact hT w))|refine sT ?_|refine sS ?_|refine sM fun _=> ?_|(refine sC ?_ ?_<;>intro hb<;>try omega)|fail)
  all_goals first
   |(exfalso;omega)
   |((refine eRC ?_);rw [if_pos (by omega)];simp_all [bO,qO,aL,av,vS];done)
   |((refine eRC ?_);rw [if_neg (by omega)];simp_all [bO,av,vS];done)
set_option maxHeartbeats 4000000 in
theorem vo (x:Ox) (w:World):ay Tryz.prog 90 [.agg (bO x).toArray] w (.int .i64 (opE x)):=by
 refine aq Tryz.func90 rfl Tryz.ntmps90 rfl ?_
 have hP:=fun w=>L7 x w
 have hG:=fun w=>vV x.input w
 unfold opE
 obtain ⟨c,hc⟩: ∃ c,EL x (mT x)=c:=⟨_,rfl⟩
 have hc' :x≠mT x↔c=false:=by
  rw [← hc,← TW,Cr]
 simp only [hc']
 clear hc'
 generalize gP x.input=ge at hG
 generalize mT x=p at hP hc
 repeat' (first|(apply cj (id:=1) [11] [];kernel_rfl;kernel_rfl;kernel_rfl)|(apply da;(iterate 3 exact rfl);apply Mx (b:=p);exact rfl;exact rfl)|(apply aa (f:=133);exact rfl;exact rfl;(intro w' _;exact hP w'))|(apply aa;exact rfl;exact rfl;(intro w hm;exact hG w))|refine sT ?_|refine sS ?_|refine sW ?_|refine sM fun _=> ?_|(refine sC ?_ ?_<;>intro hb<;>try omega)|(refine sCW ?_ ?_<;>intro hb<;>try omega)|fail)
 all_goals first
  |(exfalso;omega)
  |((refine rT1 ?_);simp_all;done)
  |((refine rT1 ?_);simp_all;omega)
end Go.SL
namespace Go.SL
open Go Go.Proofs
attribute [local irreducible] W WL WQ WG WA WX WLI WR WT WC VOp RW thn blk bE scp aV bo bI aK FnIn FnP ceP
set_option maxHeartbeats 2000000 in
theorem qi (f:Nat) (fn:Int) (n:Nat) (h0:1≤fn) (h5:fn≤50) (ih:oH f (.level 1) 195 [.int .i64 1]):Oy (zB f fn n) 365 [.int .u8 fn,.int .i64 n]:=by
  intro x k p B cb r R w0 hk hp hout hrun
  refine dD Tryz.func365 rfl Tryz.ntmps365 rfl ?_
  have hxt:=x.ht
  unfold zB at hrun
  obtain ⟨t,ht⟩: ∃ t,hdT x.fin p.l=t:=⟨_,rfl⟩
  rw [ht] at hrun
  have hd:hdT x.fin (x.toks.drop k)=t:=hp ▸ ht
  have hN:=fun w hm=>Cx.next hd (B:=B) (cb:=cb) (out:=p.out) (at_:=0) (e:=0) (w0:=w0) (H:=x.B k B cb p.out 0 0++R) ⟨R,.refl _⟩ w hm
  by_cases hk2:t.kind≠6
  · rw [if_pos hk2] at hrun
    obtain ⟨r1,hr1,hr2⟩:=bB hrun
    have hrr: ∀ v H,RR x k p.out.length R r1 v H→RR x k p.out.length R r v H:=by
      rintro v H ⟨hv,h⟩
      rcases hr2 with ⟨e,rfl,rfl⟩|⟨n1,p1,rfl,hr2⟩
      · exact ⟨hv,h⟩
      · cases hr2;exact ⟨hv,h⟩
    repeat' (first|(apply aa (f:=197);exact rfl;exact rfl;exact hN)|(apply aw (f:=195);exact rfl;exact rfl;exact FnIn.msub (ih x k p B cb r1 _ w0 hk hp hout hr1) (MSub.pick pK (MSub.pick pK (MSub.pick pK (MSub.refl _))));rintro v1 H1 hR)|refine sT ?_|refine sS ?_|refine sN ?_|refine sM fun _=> ?_|(refine sC ?_ ?_<;>intro hb<;>try omega)|fail)
    all_goals try (exfalso;omega)
    obtain ⟨rfl,hR⟩:=hR
    rcases hr2 with ⟨e,rfl,rfl⟩|⟨n1,p1,rfl,hr2⟩
    · obtain ⟨k1,B1,cb1,o1,j1,j2,j3,j4,rfl⟩:=hR
      refine eX (k' :=k1) (out' :=o1) (B' :=B1) (cb' :=cb1) eIO rfl j1 j2 j3 j4 ?_
      simp only [Cx.B,rB,Re,QR,QU]
      exact mS
    · cases hr2
      obtain ⟨k1,B1,cb1,j1,j2,j3,j4,rfl⟩:=hR
      refine jN (k' :=k1) (p' :=p1) (B' :=B1) (cb' :=cb1) eIO rfl j1 j2 j3 j4 ?_
      simp only [Cx.B,rB,Re,QR,QU]
      exact mS
  rw [if_neg hk2] at hrun
  have hlt:=Cx.lt hd (by omega)
  have hW:=fun w=>uY fn (n:Int) w
  have hwk:=uj (fn:=fn) (by simp [cU,h0,h5]) (n:Int)
  have hwe:((jF fn n).1=false∨(jF fn n).2≠0)↔eZ fn n=false:=by
    rw [hwk]
    dsimp only
    constructor
    · rintro (h|h)
      · exact h
      · have h2:(n:Int)<0∨(bN fn).2≤(n:Int):=Classical.byContradiction fun hn=>h (if_neg hn)
        unfold eZ
        rw [if_pos h2]
    · exact .inl
  clear hwk
  by_cases hwk:(jF fn n).1=false∨(jF fn n).2≠0
  · rw [if_pos hwk] at hrun
    cases hrun
    rw [hwe.1 hwk] at hW
    repeat' (first|(apply aa (f:=197);exact rfl;exact rfl;exact hN)|(apply aa (f:=352);exact rfl;exact rfl;(intro w' _;exact hW w'))|(apply aw (f:=196);exact rfl;exact rfl;exact FnIn.msub (fA x.g x.sa x.A _ x.cap k B _ cb 0 0 _ _ _ _) (MSub.pick pK (.refl _));rintro _ _ ⟨rfl,rfl⟩)|refine sT ?_|refine sS ?_|refine sN ?_|refine sM fun _=> ?_|(refine sC ?_ ?_<;>intro hb<;>try omega)|fail)
    all_goals first
      |(exfalso;omega)
      | (refine eX (x' := (t.at_, 4)) (k' := k) (out' := p.out) (B' := B) (cb' := cb) eIO rfl (by simp) (by omega) (QV _) (QV _) ?_
         simp only [Cx.B,rB,Re,QR,QU]
         exact mS)
  · rw [if_neg hwk] at hrun
    cases hrun
    have hwt:eZ fn n=true:=by
      cases h:eZ fn n with
      |true=>rfl
      |false=>exact absurd (hwe.2 h) hwk
    rw [hwt] at hW
    repeat' (first|(apply aa (f:=197);exact rfl;exact rfl;exact hN)|(apply aa (f:=352);exact rfl;exact rfl;(intro w' _;exact hW w'))|refine sT ?_|refine sS ?_|refine sN ?_|refine sM fun _=> ?_|(refine sC ?_ ?_<;>intro hb<;>try omega)|fail)
    all_goals try (exfalso;omega)
    refine jl 13 rfl (by kernel_rfl) ?_
    ((with_reducible apply aR (i:=0));exact rfl;exact rfl;decide+kernel;decide+kernel;decide+kernel;exact nP;(intro _ _;exact vP))
    ((with_reducible apply aR (i:=1));exact rfl;exact rfl;decide+kernel;decide+kernel;decide+kernel;exact nP;(intro _ _;exact vP))
    ((with_reducible apply aR (i:=2));exact rfl;exact rfl;decide+kernel;decide+kernel;decide+kernel;exact nP;(intro _ _;exact vP))
    ((with_reducible apply aR (i:=3));exact rfl;exact rfl;decide+kernel;decide+kernel;decide+kernel;exact nP;(intro _ _;exact vP))
    ((with_reducible apply aR (i:=5));exact rfl;exact rfl;decide+kernel;decide+kernel;decide+kernel;exact nP;(intro _ _;exact vP))
    repeat' (first|(apply cQ (i:=4) (j:=6);exact rfl;exact rfl;decide+kernel)|(apply cQ (i:=4) (j:=7);exact rfl;exact rfl;decide+kernel)|(apply cQ (i:=4) (j:=8);exact rfl;exact rfl;decide+kernel)|(apply aG (i:=4);exact rfl;decide+kernel)|(apply aG (i:=5);exact rfl;decide+kernel)|(apply aG (i:=6);exact rfl;decide+kernel)|(apply aG (i:=7);exact rfl;decide+kernel)|(apply aG (i:=8);exact rfl;decide+kernel)|(apply aG (i:=9);exact rfl;decide+kernel)|(apply aG (i:=10);exact rfl;decide+kernel)|(apply aG (i:=11);exact rfl;decide+kernel)|(apply aG (i:=12);exact rfl;decide+kernel)|(apply jk;decide+kernel)|(apply aQ;(iterate 3 exact rfl);exact pK;exact pK;exact rfl;(simp [bX,Value.oneCell']);omega;(simp only [maxLen];omega);intro g8 c8)|refine sT ?_|refine sS ?_|refine sN ?_|refine sM fun _=> ?_|(refine sC ?_ ?_<;>intro hb<;>try omega)|fail)
    all_goals first
      |(exfalso;omega)
      | (refine jN (k' := k + 1) (p' := p.skip.put ⟨3, bD, t.rect, 0, 0, 0⟩) (B' := some g8) (cb' := c8) eIO rfl hlt (Cx.skip hp) (Tz k) (by simp only [PS.put, PS.skip, QP, QS]; omega) ?_
         simp only [PS.put,PS.skip,Cx.B,rB,QP,QS,Rm,Rj,RC,QW,Re,QR,QU]
         exact mS)
end Go.SL
namespace Go.SL
open Go
theorem jZ (n:Nd) (i:Nat) (r:List Nd):(jJ n i r).node= -1∨((jJ n i r).node=(i:Int)+1∧ ∃ m∈r,m.kind=7∧46≤m.fn∧(jJ n i r).fn=m.fn):=by
 unfold jJ
 cases r with
 |nil=>exact .inl rfl
 |cons m q=>
  dsimp only
  split
  ·
   rename_i h
   exact .inr ⟨by dsimp only;omega,m,List.mem_cons_self,h.1,h.2,rfl⟩
  ·
   exact .inl rfl
theorem oI: ∀ (L:List Nd) (i:Nat),∀ u∈bL L i,u.node<0∨(i:Int)<u.node
 | [],_,u,h=>by cases h
 |n::r,i,u,h=>by
  have ih:=oI r (i+1) u
  rw [bL] at h
  have h2:u=jJ n i r∨u∈bL r (i+1):=by
   cases hr:fw n with
   |false=>rw [hr,cond_false] at h;exact .inr h
   |true=>rw [hr,cond_true] at h;exact Rd.1 h
  rcases h2 with rfl|h2
  ·
   rcases jZ n i r with h3|⟨h3,_⟩
   ·
    exact .inl (by omega)
   ·
    exact .inr (by omega)
  ·
   rcases ih h2 with h3|h3
   ·
    exact .inl h3
   ·
    exact .inr (by omega)
theorem sn: ∀ (L:List Nd) (i:Nat),∀ u∈bL L i,0≤u.node→ ∃ n∈L,n.kind=7∧46≤n.fn∧u.fn=n.fn
 | [],_,u,h,_=>by cases h
 |n::r,i,u,h,hp=>by
  have ih:=sn r (i+1) u
  rw [bL] at h
  have h2:u=jJ n i r∨u∈bL r (i+1):=by
   cases hr:fw n with
   |false=>rw [hr,cond_false] at h;exact .inr h
   |true=>rw [hr,cond_true] at h;exact Rd.1 h
  rcases h2 with rfl|h2
  ·
   rcases jZ n i r with h3|⟨_,m,h4,h5,h6,h7⟩
   ·
    omega
   ·
    exact ⟨m,Rc _ h4,h5,h6,h7⟩
  ·
   obtain ⟨m,h4,h5⟩:=ih h2 hp
   exact ⟨m,Rc _ h4,h5⟩
theorem oJ: ∀ (L:List Nd) (i:Nat),∀ u∈bL L i,0≤u.node→(bL L i).find? (vO u.node)=some u
 | [],_,u,h,_=>by cases h
 |n::r,i,u,h,hp=>by
  have ih:=oJ r (i+1) u
  have hnd:=oI r (i+1) u
  rw [bL] at h ⊢
  cases hr:fw n with
  |false=>rw [hr,cond_false] at h;rw [cond_false];exact ih h hp
  |true=>
   rw [hr,cond_true] at h
   rw [cond_true,List.find?_cons]
   by_cases hc:vO u.node (jJ n i r)=true
   ·
    rw [hc]
    rcases Rd.1 h with rfl|h
    ·
     rfl
    ·
     exfalso
     simp only [vO,QZ,decide_eq_true_eq] at hc
     have h4:=hnd h
     rcases jZ n i r with h3|⟨h3,_⟩<;>omega
   ·
    rcases Rd.1 h with rfl|h
    ·
     exact absurd (by simp [vO,hp]) hc
    ·
     rw [TW] at hc;rw [hc];exact ih h hp
theorem IB {n:Nd} (h:bP n=0) (k:n.kind=7):n.fn≤50:=by
 unfold bP at h
 split at h
 ·
  cases h
 rw [if_neg (by simp [k])] at h
 split at h
 ·
  rename_i h2;exact absurd h h2
 rename_i h2
 refine Int.not_lt.1 fun hlt=>h2 ?_
 unfold eE cU
 rw [if_neg (by omega),if_neg (by omega),if_neg (by omega),if_neg (by omega),if_neg (by omega),if_neg (by omega),if_neg (by simp;omega)]
 decide
theorem GW {G:Gr} (hG:GrOk G) {c:Rf} {u:Us} (hu:u∈eK G c) (hp:0≤u.node):46≤u.fn∧u.fn≤50∧(eK G c).find? (vO u.node)=some u:=by
 obtain ⟨e,he,h1,h2⟩:=uD hu
 have hk:=hG.ent e he
 rw [← h2,hk.uses] at hu ⊢
 obtain ⟨n,hn,k7,k46,kf⟩:=sn _ _ u hu hp
 have h50:=IB (qH hk.tree n hn) k7
 exact ⟨by omega,by omega,oJ _ _ u hu hp⟩
theorem Du {G:Gr} (hG:GrOk G) {c:Rf} {u:Us} (hu:u∈eK G c):dh u.rect=0:=by
 obtain ⟨e,he,h1,h2⟩:=uD hu
 rw [dh,(hG.ent e he).rect u (by rw [h2];exact hu)];rfl
end Go.SL
namespace Go.SL
open Go Go.Proofs
attribute [local irreducible] W WL WQ WG WA WX WLI WR WT WC WE VOp RW thn blk bE scp aV bo bI aK FnIn FnP ceP
set_option maxHeartbeats 4000000 in
theorem Np (a:Rf) (L:List Rl) (lv:Value) (w:World) (hl:Reads w lv L.length (L.flatMap bu)) (hb:L.length≤1000000) (hpos:0<L.length):ay Tryz.prog 203 [.agg (bh a).toArray,lv] w (.int .i64 (gy L a:Int)):=by
 obtain ⟨Al,cl,rfl,hl1,hl2,hl3⟩:=hl
 refine aq Tryz.func203 rfl Tryz.ntmps203 rfl ?_
 repeat' (first|refine sT ?_|refine sS ?_|refine sN ?_|refine sM fun _=> ?_|(refine sC ?_ ?_<;>intro hb<;>try omega)|fail)
 rename_i g2
 obtain ⟨gl,ol,rfl,hrl⟩:=hl3 (by omega)
 refine ax [1,2] rfl (fun i:Nat=> [(5,.int .i64 (i:Int))]) (fun _=> [.box g2 50 (bh a)]) (fun i=>i<L.length∧gy L a=sV a L (i+1)) (fun i=>i) (L.length - 1) ⟨by omega,by rw [Uc (by omega)];rfl⟩ sB mS ?_
 rintro i ⟨hi,hrec⟩
 rw [sV,QQ hi] at hrec
 simp only [Se,Te] at hrec
 have hIn:=fun w=>Mb L[i].rect a w
 obtain ⟨h0a,_⟩:=Rl.ro (hrl.elem dm i hi)
 obtain ⟨c,hcc⟩: ∃ c,fj L[i].rect a=c:=⟨_,rfl⟩
 simp only [hcc] at hIn hrec
 clear hcc
 generalize L[i].rect=x at h0a hIn
 by_cases hi0:i=0
 ·
  subst hi0
  have e:gy L a=0:=by rw [hrec];cases c<;>rfl
  rw [e]
  repeat' (first|refine sT ?_|refine sS ?_|refine sM fun _=> ?_|(refine sC ?_ ?_<;>intro hb<;>try omega)|fail)
  all_goals first|(exfalso;omega)|((refine rT1 ?_);rfl)
 ·
  cases c
  ·
   rw [if_neg (by decide)] at hrec
   repeat' (first|(apply aS;exact rfl;apply aj (j:=i);exact rfl;exact rfl;exact hi)|(apply dO (f:=45);exact rfl;exact rfl;(intro w' _;exact hIn w'))|refine sT ?_|refine sS ?_|refine sQ ?_|refine sN ?_|refine sNQ ?_|refine sO ?_|refine sOQ ?_|refine sD ?_|refine sM fun _=> ?_|(refine sC ?_ ?_<;>intro hb<;>try omega)|(refine sCQ ?_ ?_<;>intro hb<;>try omega)|fail)
   all_goals first
    |(exfalso;omega)
    |(refine ⟨i - 1,⟨by omega,by rw [Uc (by omega)];exact hrec⟩,by omega,by exact sB,by exact sB,by exact mS⟩;done)
  ·
   rw [if_pos rfl] at hrec
   rw [hrec]
   repeat' (first|(apply aS;exact rfl;apply aj (j:=i);exact rfl;exact rfl;exact hi)|(apply dO (f:=45);exact rfl;exact rfl;(intro w' _;exact hIn w'))|refine sT ?_|refine sS ?_|refine sQ ?_|refine sN ?_|refine sNQ ?_|refine sO ?_|refine sOQ ?_|refine sD ?_|refine sM fun _=> ?_|(refine sC ?_ ?_<;>intro hb<;>try omega)|(refine sCQ ?_ ?_<;>intro hb<;>try omega)|fail)
   all_goals first|(exfalso;omega)|((refine rT1 ?_);rfl)
def tC (a:Rf) (L:List Rl):Int × Int:=if a.valid=false then (0,3) else if (dX 64 L).2≠0 then (0,(dX 64 L).2) else ((gy L a:Int),0)
theorem Gv {L:List Rl} (h: ¬ (dX 64 L).2≠0):0<L.length∧L.length≤64:=by
 unfold dX at h
 split at h
 ·
  exact absurd (by decide) h
 ·
  rename_i h1
  have hn:L≠ []:=fun e=>h1 (.inr (.inr (.inr e)))
  split at h
  ·
   exact absurd (by decide) h
  ·
   exact ⟨Sx.2 hn,by omega⟩
theorem E5 (a:Rf) (L:List Rl) (lv:Value) (w:World) (hl:Reads w lv L.length (L.flatMap bu)):ay Tryz.prog 156 [.agg (bh a).toArray,lv] w (.tuple #[.int .i64 (tC a L).1,.int .i64 (tC a L).2]):=by
 refine aq Tryz.func156 rfl Tryz.ntmps156 rfl ?_
 have h1:=fun w=>jG a.col a.row w
 have h2:=fun (w' :World) (H:List Blk) (hm:Mem w w' H)=>ja 64 L lv w' (hl.of_w0 hm)
 have h3:=fun (hp:0<L.length) (hb:L.length≤64) (w' :World) (H:List Blk) (hm:Mem w w' H)=>Np a L lv w' (hl.of_w0 hm) (by omega) hp
 have hv:a.valid=valid a.col a.row:=rfl
 unfold tC
 rw [hv]
 generalize valid a.col a.row=b at h1
 by_cases hc:(dX 64 L).2≠0
 ·
  rw [if_pos hc]
  cases b
  all_goals
   repeat' (first|(apply aa;exact rfl;exact rfl;(intro w hm;exact h1 w))|(apply aa (f:=60);exact rfl;exact rfl;(intro w' hm;exact h2 w' _ hm))|refine sT ?_|refine sM fun _=> ?_|(refine sC ?_ ?_<;>intro hb<;>try omega)|fail)
  all_goals first|(exfalso;omega)|((refine rT2 ?_);rfl)
 ·
  obtain ⟨hp,hb⟩:=Gv hc
  have h3:=h3 hp hb
  rw [if_neg hc]
  have hc0:(dX 64 L).2=0:=by omega
  rw [hc0] at h2
  cases b
  all_goals
   repeat' (first|(apply aa;exact rfl;exact rfl;(intro w hm;exact h1 w))|(apply aa (f:=60);exact rfl;exact rfl;(intro w' hm;exact h2 w' _ hm))|(apply aa (f:=203);exact rfl;exact rfl;(intro w' hm;exact h3 w' _ hm))|refine sT ?_|refine sM fun _=> ?_|(refine sC ?_ ?_<;>intro hb<;>try omega)|fail)
  all_goals first|(exfalso;omega)|((refine rT2 ?_);rfl)
def atR (a:Rf) (L:List Rl):BitVec 64 × BitVec 64 × BitVec 64:=match L[gy L a]? with|some x=>(x.read,x.write,x.own)|none=>(0#64,0#64,0#64)
def atE (a:Rf) (L:List Rl):(BitVec 64 × BitVec 64 × BitVec 64) × Int:=if (tC a L).2≠0 then ((0#64,0#64,0#64),(tC a L).2) else (atR a L,0)
theorem Mp {a:Rf} {L:List Rl} (h: ¬ (tC a L).2≠0):a.valid=true∧(tC a L).1=gy L a∧ ∃ h:gy L a<L.length,atR a L=((L[gy L a]'h).read,(L[gy L a]'h).write,(L[gy L a]'h).own):=by
 unfold tC at h ⊢
 split at h
 ·
  exact absurd (by decide) h
 ·
  rename_i hv
  split at h
  ·
   rename_i h2;exact absurd h2 h
  ·
   rename_i h2
   have hp:=(Gv h2).1
   have hlt:=KT (a:=a) (L:=L) (Sx.1 hp)
   refine ⟨by simpa using hv,?_,hlt,?_⟩
   ·
    simp only [hv,h2,RT,if_false];rfl
   ·
    unfold atR;rw [QQ hlt]
set_option maxHeartbeats 1000000 in
theorem Oi (a:Rf) (L:List Rl) (lv:Value) (w:World) (hl:Reads w lv L.length (L.flatMap bu)):ay Tryz.prog 124 [.agg (bh a).toArray,lv] w (.tuple #[.agg #[vS (atE a L).1.1,vS (atE a L).1.2.1,vS (atE a L).1.2.2],.int .i64 (atE a L).2]):=by
 refine aq Tryz.func124 rfl Tryz.ntmps124 rfl ?_
 have h1:=fun (w' :World) (H:List Blk) (hm:Mem w w' H)=>E5 a L lv w' (hl.of_w0 hm)
 unfold atE
 by_cases hc:(tC a L).2≠0
 ·
  rw [if_pos hc]
  repeat' (first|(apply aa (f:=156);exact rfl;exact rfl;(intro w' hm;exact h1 w' _ hm))|refine sT ?_|refine sM fun _=> ?_|(refine sC ?_ ?_<;>intro hb<;>try omega)|fail)
  all_goals first
   |(exfalso;omega)
   |((refine eQ ?_);rfl)
 ·
  rw [if_neg hc]
  obtain ⟨_,h2,hlt,h3⟩:=Mp hc
  have hc0:(tC a L).2=0:=by omega
  rw [h2,hc0] at h1
  rw [h3]
  obtain ⟨Al,cl,rfl,hl1,hl2,hl3⟩:=hl
  obtain ⟨gl,ol,rfl,hrl⟩:=hl3 (by omega)
  obtain ⟨_,_,_,_,hrr⟩:=Rl.ro (hrl.elem dm _ hlt)
  generalize L[gy L a]'hlt=x at hrr
  generalize gy L a=i at h1 hlt hrr
  repeat' (first|(apply aa (f:=156);exact rfl;exact rfl;(intro w' hm;exact h1 w' _ hm))|(apply ak (d:=20);exact rfl;apply aj (j:=i);exact rfl;exact rfl;exact hlt)|(apply ak (d:=22);exact rfl;apply aB (xs:= [vS x.read,vS x.write,vS x.own]);exact rfl;exact hrr;exact rfl)|refine sT ?_|refine sN ?_|refine sO ?_|refine sM fun _=> ?_|(refine sC ?_ ?_<;>intro hb<;>try omega)|fail)
  all_goals first
   |(exfalso;omega)
   |((refine eQ ?_);rfl)
def ep (all:BitVec 64):Int→List Ev→Int
 |_,[]=>0
 |last,x::l=>if x.step≤last then 12 else if (kH x.kind && fZ all x.user)=false then 2 else if aD x.rect=false then 3 else if (decide (x.to &&& ~~~all=0#64) && fZ x.to x.user)=false then 2 else ep all x.step l
def DJ (all:BitVec 64) (x:Rv):Bool:=decide (0≤x.call.node) && decide (x.call.node<256) && decide (46≤x.fn) && decide (x.fn≤50) && decide (0≤x.grant) && decide (x.grant<64) && decide (x.to &&& ~~~all=0#64)
def dR (all:BitVec 64):Int→List Rv→Int
 |_,[]=>0
 |last,x::l=>if x.step<last then 12 else if (x.call.at_.valid && aD x.rect)=false then 3 else if DJ all x=false then 2 else dR all x.step l
def rV (u:Int) (L:List Ev) (M:List Rv):Int:=
 if u<0∨64<u∨u=0 then 2 else if ep (cM u).1 (-1) L≠0 then ep (cM u).1 (-1) L else dR (cM u).1 (-1) M
theorem rG {r:Rct}:aD r=false↔dh r≠0:=⟨fun h=>by rw [dh,h];decide,iw⟩
theorem Ev.ro {w:World} {g o:Nat} {r:Ev} (h:Ro w g o (bf r)):Ro w g o [.int .i64 r.step]∧Ro w g (o+1) [.int .i64 r.user]∧Ro w g (o+2) [.int .u8 r.kind]∧Ro w g (o+3) (bK r.rect)∧Ro w g (o+7) [.bool r.done]∧Ro w g (o+8) [vS r.to]:=
 ⟨h.take (k:=1),(h.drop (k:=1)).take (k:=1),(h.drop (k:=2)).take (k:=1),(h.drop (k:=3)).take (k:=4),(h.drop (k:=7)).take (k:=1),h.drop (k:=8)⟩
def kJ (L:List Ev) (i:Nat):Int:=if i=0 then -1 else ((L[i - 1]?).map Ev.step).getD 0
def kI (L:List Rv) (i:Nat):Int:=if i=0 then -1 else ((L[i - 1]?).map Rv.step).getD 0
set_option maxHeartbeats 8000000 in
theorem CJ (u:Int) (L:List Ev) (M:List Rv) (lv mv:Value) (w:World) (hl:Reads w lv L.length (L.flatMap bf)) (hm:Reads w mv M.length (M.flatMap aO)):ay Tryz.prog 62 [.int .i64 u,lv,mv] w (.int .i64 (rV u L M)):=by
 obtain ⟨Al,cl,rfl,hl1,hl2,hl3⟩:=hl
 obtain ⟨Am,cm,rfl,hm1,hm2,hm3⟩:=hm
 refine aq Tryz.func62 rfl Tryz.ntmps62 rfl ?_
 have hA:=fun w=>zM u w
 unfold rV
 have hE:(cM u).2=if u<0∨64<u then 3 else 0:=by unfold cM;split<;>rfl
 obtain ⟨sa,has⟩: ∃ sa,sa=(cM u).1:=⟨_,rfl⟩
 rw [← has,hE] at hA
 rw [← has]
 by_cases h1:u<0∨64<u∨u=0
 ·
  rw [if_pos h1]
  by_cases h2:u<0∨64<u
  ·
   rw [if_pos h2] at hA
   repeat' (first|(apply aa;exact rfl;exact rfl;(intro w hm;exact hA w))|refine sT ?_|refine sM fun _=> ?_|(refine sC ?_ ?_<;>intro hb<;>try omega)|fail)
   all_goals first|(exfalso;omega)|((refine rT1 ?_);rfl)
  ·
   rw [if_neg h2] at hA
   repeat' (first|(apply aa;exact rfl;exact rfl;(intro w hm;exact hA w))|refine sT ?_|refine sM fun _=> ?_|(refine sC ?_ ?_<;>intro hb<;>try omega)|fail)
   all_goals first|(exfalso;omega)|((refine rT1 ?_);rfl)
 rw [if_neg h1]
 rw [if_neg (by omega)] at hA
 repeat' (first|(apply aa;exact rfl;exact rfl;(intro w hm;exact hA w))|refine sT ?_|refine sM fun _=> ?_|(refine sC ?_ ?_<;>intro hb<;>try omega)|fail)
 all_goals try (exfalso;omega)
 obtain ⟨ef,hef⟩: ∃ ef,ep sa (-1) L=ef:=⟨_,rfl⟩
 rw [hef]
 refine ax [0,1,2,7,25,26] rfl (fun i:Nat=> [(9,.int .i64 (kJ L i)),(27,.int .i64 (i:Int))]) (fun _=> []) (fun i=>i≤L.length∧ef=ep sa (kJ L i) (L.drop i)) (fun i=>L.length - i) 0 ⟨QX _,hef.symm⟩ sB mS ?_
 rintro i ⟨hi,hrec⟩
 by_cases hlt:i<L.length
 ·
  obtain ⟨gl,ol,rfl,hrl⟩:=hl3 (by omega)
  have he1:=hrl.elem gC i hlt
  have hnext:kJ L (i+1)=L[i].step:=by unfold kJ;rw [if_neg (by omega),SF,QQ hlt];rfl
  rw [QY hlt,ep] at hrec
  generalize kJ L i=last at hrec
  generalize L[i]=r at hnext he1 hrec
  have hck:=fun w=>fT r.rect w
  have hhs:=fun w=>nT sa r.user w
  have hht:=fun w=>nT r.to r.user w
  have hmu:=fun w=>CT r.kind w
  simp only [rG] at hrec
  generalize dh r.rect=re at hck hrec
  clear has
  generalize kH r.kind=mk at hmu hrec
  generalize fZ sa r.user=hb1 at hhs hrec
  generalize fZ r.to r.user=hb2 at hht hrec
  repeat' (first|(apply ak;exact rfl;apply aB;exact rfl;exact he1;exact rfl)|(apply aa;exact rfl;exact rfl;(intro w hm;exact hmu w))|(apply aa (f:=118);exact rfl;exact rfl;(intro w' _;first|exact hhs w' |exact hht w'))|(apply aa;exact rfl;exact rfl;(intro w hm;exact hck w))|(apply ak;exact rfl;apply dY (b:=sa);exact rfl;exact rfl)|(apply ak;exact rfl;apply gI (b:=0#64);exact rfl;exact rfl)|refine sT ?_|refine sS ?_|refine sN ?_|refine sO ?_|refine sM fun _=> ?_|(refine sC ?_ ?_<;>intro hb<;>try omega)|fail)
  all_goals try (have hnl: ¬ r.step≤last:=by omega)
  all_goals first
   |(exfalso;omega)
   |(refine ⟨i+1,⟨hlt,?_⟩,by omega,by (try simp only [hnext]);exact sB,by (try simp only [hnext]);exact sB,by exact mS⟩;rw [hnext];simp_all;done)
   |((refine rT1 ?_);simp_all;done)
 ·
  have e:i=L.length:=by omega
  subst e
  rw [RE,ep] at hrec
  subst hrec
  rw [if_neg (by decide)]
  obtain ⟨rf,hrf⟩: ∃ rf,dR sa (-1) M=rf:=⟨_,rfl⟩
  rw [hrf]
  repeat' (first|refine sT ?_|refine sM fun _=> ?_|(refine sC ?_ ?_<;>intro hb<;>try omega)|fail)
  refine ax [0,2,7,71,72] rfl (fun i:Nat=> [(9,.int .i64 (kI M i)),(73,.int .i64 (i:Int))]) (fun _=> []) (fun i=>i≤M.length∧rf=dR sa (kI M i) (M.drop i)) (fun i=>M.length - i) 0 ⟨QX _,hrf.symm⟩ sB mS ?_
  rintro i ⟨hi,hrec⟩
  by_cases hlt:i<M.length
  ·
   obtain ⟨gm,om,rfl,hrm⟩:=hm3 (by omega)
   have he1:=hrm.elem cB i hlt
   have hnext:kI M (i+1)=M[i].step:=by unfold kI;rw [if_neg (by omega),SF,QQ hlt];rfl
   rw [QY hlt,dR] at hrec
   generalize kI M i=last at hrec
   generalize M[i]=r at hnext he1 hrec
   have hck:=fun w=>fT r.rect w
   have hV: ∀ w',ay Tryz.prog 71 [.agg (bh r.call.at_).toArray] w' (.bool r.call.at_.valid):=fun w' =>jG r.call.at_.col r.call.at_.row w'
   have hok:DJ sa r=false↔(r.call.node<0∨256≤r.call.node∨r.fn<46∨50<r.fn∨r.grant<0∨64≤r.grant∨r.to &&& ~~~sa≠0#64):=by
    simp only [DJ,Sk,decide_eq_false_iff_not,Int.not_le,Int.not_lt,or_assoc]
   simp only [hok] at hrec
   clear hok
   simp only [Sk,rG] at hrec
   generalize dh r.rect=re at hck hrec
   clear has
   generalize r.call.at_.valid=vd at hV hrec
   by_cases h12:r.step<last
   ·
    rw [if_pos h12] at hrec
    repeat' (first|(apply ak;exact rfl;apply aB;exact rfl;exact he1;exact rfl)|(apply aa;exact rfl;exact rfl;(intro w hm;exact hV w))|(apply aa;exact rfl;exact rfl;(intro w hm;exact hck w))|(apply ak;exact rfl;apply dY (b:=sa);exact rfl;exact rfl)|(apply ak;exact rfl;apply gI (b:=0#64);exact rfl;exact rfl)|refine sT ?_|refine sS ?_|refine sN ?_|refine sO ?_|refine sM fun _=> ?_|(refine sC ?_ ?_<;>intro hb<;>try omega)|fail)
    all_goals first|(exfalso;omega)|((refine rT1 ?_);rw [hrec];done)
   rw [if_neg h12] at hrec
   by_cases h3:vd=false∨re≠0
   ·
    rw [if_pos h3] at hrec
    repeat' (first|(apply ak;exact rfl;apply aB;exact rfl;exact he1;exact rfl)|(apply aa;exact rfl;exact rfl;(intro w hm;exact hV w))|(apply aa;exact rfl;exact rfl;(intro w hm;exact hck w))|(apply ak;exact rfl;apply dY (b:=sa);exact rfl;exact rfl)|(apply ak;exact rfl;apply gI (b:=0#64);exact rfl;exact rfl)|refine sT ?_|refine sS ?_|refine sN ?_|refine sO ?_|refine sM fun _=> ?_|(refine sC ?_ ?_<;>intro hb<;>try omega)|fail)
    all_goals first
     |(exfalso;omega)
     |(exfalso;rcases h3 with h3|h3<;>simp_all;done)
     |((refine rT1 ?_);rw [hrec];done)
   rw [if_neg h3] at hrec
   obtain ⟨h31,h32⟩:=not_or.1 h3
   have h31:vd=true:=by simpa using h31
   have h32:re=0:=by omega
   subst h31;subst h32
   by_cases hD:r.call.node<0∨256≤r.call.node∨r.fn<46∨50<r.fn∨r.grant<0∨64≤r.grant∨r.to &&& ~~~sa≠0#64
   ·
    rw [if_pos hD] at hrec
    repeat' (first|(apply ak;exact rfl;apply aB;exact rfl;exact he1;exact rfl)|(apply aa;exact rfl;exact rfl;(intro w hm;exact hV w))|(apply aa;exact rfl;exact rfl;(intro w hm;exact hck w))|(apply ak;exact rfl;apply dY (b:=sa);exact rfl;exact rfl)|(apply ak;exact rfl;apply gI (b:=0#64);exact rfl;exact rfl)|refine sT ?_|refine sS ?_|refine sN ?_|refine sO ?_|refine sM fun _=> ?_|(refine sC ?_ ?_<;>intro hb<;>try omega)|fail)
    all_goals first
     |(exfalso;omega)
     |((refine rT1 ?_);rw [hrec];done)
     |(exfalso;rcases hD with h|h|h|h|h|h|h<;>first|omega|exact absurd ‹_› h)
   ·
    rw [if_neg hD] at hrec
    repeat' (first|(apply ak;exact rfl;apply aB;exact rfl;exact he1;exact rfl)|(apply aa;exact rfl;exact rfl;(intro w hm;exact hV w))|(apply aa;exact rfl;exact rfl;(intro w hm;exact hck w))|(apply ak;exact rfl;apply dY (b:=sa);exact rfl;exact rfl)|(apply ak;exact rfl;apply gI (b:=0#64);exact rfl;exact rfl)|refine sT ?_|refine sS ?_|refine sN ?_|refine sO ?_|refine sM fun _=> ?_|(refine sC ?_ ?_<;>intro hb<;>try omega)|fail)
    all_goals first
     |(exfalso;omega)
     |(exfalso;exact hD (.inr (.inr (.inr (.inr (.inr (.inr hb)))))))
     |(refine ⟨i+1,⟨hlt,?_⟩,by omega,by (try simp only [hnext]);exact sB,by (try simp only [hnext]);exact sB,by exact mS⟩;rw [hnext,hrec];done)
  ·
   have e:i=M.length:=by omega
   subst e
   rw [RE,dR] at hrec
   subst hrec
   repeat' (first|refine sT ?_|refine sM fun _=> ?_|(refine sC ?_ ?_<;>intro hb<;>try omega)|fail)
   all_goals first|(exfalso;omega)|((refine rT1 ?_);rfl)
end Go.SL
