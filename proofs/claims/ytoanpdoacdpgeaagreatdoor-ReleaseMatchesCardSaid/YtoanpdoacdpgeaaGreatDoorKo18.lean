/-
  Lemmas and walks, put together: W19 W36 Gp G1 Ex Sl29 Rh Rf Ic Ri Gq Sl33 D11 Q10 Sl38 Q14 Lu Pl2 Lp Ro G2 He Jj G2a Q11.
-/
import Derived.Test.YtoanpdoacdpgeaaGreatDoorKo16
import Derived.Test.YtoanpdoacdpgeaaGreatDoorKo17
set_option linter.unusedSimpArgs false
set_option linter.unusedVariables false
set_option maxRecDepth 20000
namespace Go.SL
open Go Go.Proofs
attribute [local irreducible] W WL WQ WG WA VOp thn blk bp aR aF FnIn
theorem Cg {n:Nd} {st l top:List STree} (hs:gA n st= .inr (l,top)):(top.length:Int)=below n∧st=l++top:=by
 unfold gA at hs
 split at hs
 ·
  cases hs
 rename_i hf
 split at hs
 ·
  cases hs
 rename_i hb
 split at hs
 ·
  cases hs
 rename_i hd
 simp only [Sum.inr.injEq,Prod.mk.injEq] at hs
 obtain ⟨rfl,rfl⟩:=hs
 have h0:=(tD (n:=n) (by omega)).1
 refine ⟨?_,(Ss _ _).symm⟩
 simp only [fw,RC]
 omega
theorem EE {n:Nd} {r:List Nd} {st st' :List STree} {h h' :iF} (hw:fq (n::r) st h=(0,st',h')): ∃ l top,gA n st= .inr (l,top)∧fq r (l++ [bC n top]) (h++ [(top,bC n top)])=(0,st',h'):=by
 rw [fq] at hw
 cases hsf:gA n st with
 |inl e=>
  rw [hsf] at hw
  simp only [Prod.mk.injEq] at hw
  obtain ⟨rfl,_⟩:=hw
  exfalso
  unfold gA at hsf
  split at hsf
  ·
   injection hsf with hs
   exact absurd hs (by assumption)
  ·
   split at hsf
   ·
    cases hsf
   ·
    split at hsf<;>cases hsf
 |inr x=>
  obtain ⟨l,top⟩:=x
  rw [hsf] at hw
  exact ⟨l,top,rfl,hw⟩
theorem ui {st:List STree} (hp: ∀ S∈st,0<S.ns.length):st.length≤(bh st).length:=by
 induction st with
 |nil=>exact Rd _
 |cons S r ih=>
  have h1:=hp S QY
  have h2:=ih fun T hT=>hp T (Rq _ hT)
  rw [fL,QT,Rx]
  omega
theorem Cm (o:List Int) (ks:List Nat) (j:Nat) (h:j<ks.length) (v:Int):fW o (ks.take (j+1)) v=(fW o (ks.take j) v).set ks[j] v:=by
 unfold fW
 rw [Ra h,Tu]
 rfl
def iK (l:List Int):List Value:=l.map (Value.int .i64)
theorem AK (l:List Int):(iK l).length=l.length:=by simp [iK]
theorem Jt {l:List Int} {i:Nat} {u:Int} (h:l[i]? =some u):(iK l)[i]? =some (.int .i64 u):=by simp [iK,h]
theorem Js (l:List Int) (i:Nat) (v:Int):(iK l).set i (.int .i64 v)=iK (l.set i v):=by simp [iK,List.map_set]
theorem Jr (l:List Nat): ∀ u∈cU l,u.oneCell' =true:=by
 intro u hu
 obtain ⟨a,_,rfl⟩:=RG.1 hu
 rfl
set_option maxHeartbeats 2000000 in
theorem Gt (L:List Nd) (hlen:L.length≤256) (S:STree) (Hi:iF) (hW:Whole L S Hi) (tv:Value) (w:World) (ht:Reads w tv L.length (L.flatMap bN)):
  aF Tryz.prog 255 [tv] w fun v H=> ∃ A cap,v=sl A L.length cap∧H= [.own A 3 1 L.length cap (iK (kr Hi))]:=by
 have ht' :=ht
 obtain ⟨At,ct,rfl,ht1,ht2,ht3⟩:=ht
 refine aq Tryz.func255 rfl Tryz.ntmps255 rfl ?_
 refine aB 3 1 ?_
 refine aB 3 1 ?_
 repeat' (first|refine sT ?_|refine sM fun _=> ?_|(refine sC ?_ ?_<;>intro hb<;>try omega)|fail)
 refine aw [0] rfl (fun x:Nat × List STree × iF × (Option Nat × Nat) × (Option Nat × Nat)=> [(3,sl x.2.2.2.1.1 x.1 x.2.2.2.1.2),(4,sl x.2.2.2.2.1 x.2.1.length x.2.2.2.2.2),(5,.int .i64 (x.1:Int))])
  (fun x=> [.own x.2.2.2.1.1 3 1 x.1 x.2.2.2.1.2 (iK (kr x.2.2.1)),.own x.2.2.2.2.1 3 1 x.2.1.length x.2.2.2.2.2 (cU (aI 0 x.2.1))])
  (fun x=>x.1≤L.length∧Inv (L.take x.1) x.2.1 x.2.2.1∧ParOk x.2.1 x.2.2.1∧fq (L.drop x.1) x.2.1 x.2.2.1=(0,[S],Hi)) (fun x=>L.length - x.1) (0,[],[],(none,0),(none,0))
  ⟨by omega,Inv.nil,⟨rfl,fun j y hy=>(by simp at hy),fun k hk=>(by simp [aI] at hk)⟩,hW.walk⟩ sB mS ?_
 rintro ⟨i,st,h,⟨A1,c1⟩,⟨A2,c2⟩⟩ ⟨hi,hI,hP,hw⟩
 dsimp only at hi hI hP hw ⊢
 have hhl:h.length=i:=by rw [hI.len,RF];omega
 by_cases hlt:i<L.length
 ·
  rw [Rc hlt] at hw
  obtain ⟨l,top,hs,hw'⟩:=EE hw
  obtain ⟨hbl,hst⟩:=Cg hs
  obtain ⟨_,hlen2,hlo,hlp,htp⟩:=hI.facts hs
  have hP' :=wz hI hP hs
  have hI' :=(hI.step hs).1
  have htk:L.take (i+1)=L.take i++ [L[i]]:=Ra hlt
  rw [← htk] at hI'
  obtain ⟨gt,ot,rfl,hrt⟩:=ht3 (by omega)
  have hrn:=hrt.elem dJ i hlt
  have hbel:=fun w=>hbl ▸ tV L[i] w
  generalize L[i]=n at hrn hbel hs hw' hbl hlo hP' hI'
  have hkids:aI 0 (l++top)=aI 0 l++dw h.length (top,bC n top):=by rw [dC,dw,hlo,Rt]
  have hkl:(dw h.length (top,bC n top)).length=top.length:=lN _ _
  have hpar:=lR h (top,bC n top)
  have hkb: ∀ k∈dw h.length (top,bC n top),k<i:=fun k hk=>by
   rw [dw,hlo] at hk
   have:=(kn htp hk).2
   omega
  have hset:=fun (o:List Int) (j:Nat) (hj:j<(dw h.length (top,bC n top)).length) (v:Int)=>Cm o (dw h.length (top,bC n top)) j hj v
  generalize dw h.length (top,bC n top)=K at hkids hkl hpar hkb hset
  subst hst
  have hll:(l++top).length=l.length+top.length:=QT
  have hrl:(aI 0 l).length=l.length:=lN _ _
  have hsmall:l.length+top.length≤256:=by
   have h1:=ui hlp
   have h2:=ui htp
   omega
  rw [hll]
  repeat' (first|(apply aQ;(iterate 3 exact rfl);(repeat first|exact .hd|apply Sel.tl|apply In.tl);(intro w hm;exact hm.cells_own (by (repeat first|exact .hd|apply Sel.tl|apply In.tl)));exact rfl;(simp [Value.oneCell',sl]);omega;(simp only [maxLen];omega);(intro A' cap' hA'))|(apply aa;exact rfl;exact rfl;(intro w hm;exact hbel w))|refine sT ?_|refine sN ?_|refine sO ?_|refine sM fun _=> ?_|(refine sC ?_ ?_<;>intro hb<;>try omega)|fail)
  rw [ST]
  have e0:iK (kr h)++ [.int .i64 (-1)]=iK (fW (kr h++ [-1]) (K.take 0) (i:Int)):=by simp [iK,fW]
  rw [e0]
  refine aw [0,3,4,5,6] rfl (fun j:Nat=> [(7,.int .i64 ((l.length+j:Nat):Int))]) (fun j=> [.own A' 3 1 (i+1) cap' (iK (fW (kr h++ [-1]) (K.take j) (i:Int))),.own A2 3 1 (l.length+top.length) c2 (cU (aI 0 (l++top)))])
   (fun j=>j≤top.length) (fun j=>top.length - j) 0 (Rd _) sB mS ?_
  rintro j hj
  by_cases hjk:j<top.length
  ·
   refine dN (.tl .hd) (by omega) fun g2 hA2=> ?_
   refine dN .hd (by omega) fun g1 hA1=> ?_
   subst hA2 hA1
   have hKj:=QV (show j<K.length by omega)
   have hkj:=hkb _ (RN (show j<K.length by omega))
   have hs1:=hset (kr h++ [-1]) j (by omega) (i:Int)
   generalize K[j]=kj at hKj hkj hs1
   have hrt2:(cU (aI 0 (l++top)))[0+(l.length+j)*1]? =some (.int .i64 (kj:Int)):=by
    rw [hkids,Rt,SN,cU,RZ,R0 (by omega),show l.length+j - (aI 0 l).length=j by omega,hKj]
    rfl
   have hsl:(fW (kr h++ [-1]) (K.take j) (i:Int)).length=i+1:=by rw [pG];simp [hP.len,hhl]
   have hcell:(iK (fW (kr h++ [-1]) (K.take j) (i:Int))).set (0+kj*1) (.int .i64 (i:Int))=iK (fW (kr h++ [-1]) (K.take (j+1)) (i:Int)):=by
    rw [Rt,SN,Js,hs1]
   repeat' (first|(apply ak;exact rfl;apply aV;exact rfl;exact pK;exact hrt2)|(apply jF;exact rfl;exact rfl;exact pK;exact rfl;(rw [AK];omega);rw [hcell])|refine sT ?_|refine sN ?_|refine sO ?_|refine sM fun _=> ?_|(refine sC ?_ ?_<;>intro hb<;>try omega)|fail)
   refine ⟨j+1,?_,(by first|omega|(dsimp only;omega)),sB,sB,mS⟩
   exact hjk
  ·
   have e:j=top.length:=by omega
   subst e
   rw [Sg (by omega)]
   have htake:(cU (aI 0 (l++top))).take (l.length*1)=cU (aI 0 l):=by
    rw [hkids,SN,cU,← List.map_take,List.take_left' hrl];rfl
   have hl1:(cU (aI 0 l)).length=l.length*1:=by rw [AJ,hrl,SN]
   refine Kr (A:=A2) (.tl .hd) fun q1 q2 q3=> ?_
   repeat' (first|(apply cZ;exact rfl;intro gb)|(apply ak;exact rfl;apply BK (hi:=l.length);exact rfl;exact rfl;omega)|(apply bS (n' :=0) (c:=0) (A:=some _) (m:=l.length) (news:=cU (aI 0 l));(iterate 3 exact rfl);exact pK;(intro w' hm;rw [← htake];exact Reads.of_own_take (A:=A2) hm pK (Nat.le_add_right _ _));exact hl1;exact Jr _;omega;(simp only [maxLen];omega);intro A4 c4 h4)|(apply aQ;(iterate 3 exact rfl);(repeat first|exact .hd|apply Sel.tl|apply In.tl);(intro w hm;exact hm.cells_own (by (repeat first|exact .hd|apply Sel.tl|apply In.tl)));exact rfl;(simp [Value.oneCell',sl]);omega;(simp only [maxLen];omega);(intro A5 c5 h5))|refine sT ?_|refine sN ?_|refine sO ?_|refine sM fun _=> ?_|(refine sC ?_ ?_<;>intro hb<;>try omega)|fail)
   have e1:fW (kr h++ [-1]) K (i:Int)=kr (h++ [(top,bC n top)]):=by rw [hpar,hhl]
   have e2: []++cU (aI 0 l)++ [.int .i64 (i:Int)]=cU (aI 0 (l++ [bC n top])):=by
    rw [dC]
    simp only [aI,cN,cU,RM,QW]
    congr 2
    simp
    omega
   have e3:0+l.length+1=(l++ [bC n top]).length:=by simp
   rw [e1,e2,e3]
   refine ⟨(i+1,l++ [bC n top],h++ [(top,bC n top)],(A',cap'),(A5,c5)),?_,(by first|omega|(dsimp only;omega)),sB,sB,mS⟩
   exact ⟨hlt,hI',hP',hw'⟩
 ·
  have e:i=L.length:=by omega
  subst e
  rw [RK,fq] at hw
  simp only [Prod.mk.injEq] at hw
  obtain ⟨_,_,rfl⟩:=hw
  repeat' (first|refine sT ?_|refine sM fun _=> ?_|(refine sC ?_ ?_<;>intro hb<;>try omega)|fail)
  exact cA (.inl rfl) Tryz.results255 rfl (H' := [.own A1 3 1 L.length c1 (iK (kr h))]) mS ⟨A1,c1,rfl,rfl⟩
end Go.SL
namespace Go.SL
open Go Go.Proofs
attribute [local irreducible] W WL WQ WG WA VOp thn blk bp aR aF FnIn QK
set_option maxHeartbeats 4000000 in
theorem Fg (L:List Nd) (hwf: ∀ n∈L,wfN n) (tv:Value) (w:World) (ht:Reads w tv L.length (L.flatMap bN)):
  aF Tryz.prog 207 [tv] w fun v H=> ∃ A cap,v= .tuple #[sl A (iH L).1.length cap,.int .i64 (iH L).2]∧H= [.own A 159 6 (iH L).1.length cap ((iH L).1.flatMap dI)]:=by
 have ht' :=ht
 obtain ⟨Al,cl,rfl,hl1,hl2,hl3⟩:=ht
 refine aq Tryz.func207 rfl Tryz.ntmps207 rfl ?_
 refine aB 159 6 ?_
 have hck:=fun w0 (hm:Reads w0 (.slice Al L.length cl) L.length (L.flatMap bN))=>CH L hwf _ w0 hm
 unfold iH
 by_cases hc:d9 L=0
 rotate_left
 ·
  generalize d9 L=e at hck hc
  repeat' (first|(apply aa;exact rfl;exact rfl;(intro w' hm;exact hck w' (ht'.of_w0 hm)))|refine sT ?_|refine sM fun _=> ?_|(refine sC ?_ ?_<;>intro hb<;>try omega)|fail)
  refine dS (.inl rfl) Tryz.results207 rfl rfl (H' := [.own none 159 6 0 0 []]) mS ⟨none,0,?_⟩
  rw [if_pos hc]
  exact ⟨rfl,rfl⟩
 rw [if_neg (by omega)]
 obtain ⟨hlen,S,Hi,hW,hk3,hct⟩:=DX hc
 obtain ⟨gl,ol,rfl,hrl⟩:=hl3 hW.pos
 rw [hc] at hck
 have hpar:=fun w0 (hm:Reads w0 (.slice (some ⟨gl,ol,none⟩) L.length cl) L.length (L.flatMap bN))=>Gt L hlen S Hi hW _ w0 hm
 have hul:=yG L
 repeat' (first|(apply aa (f:=254);exact rfl;exact rfl;(intro w' hm;exact hck w' (ht'.of_w0 hm)))|(apply ay (f:=255);exact rfl;exact rfl;(intro w' hm;exact hpar w' (ht'.of_w0 hm));(rintro v H' ⟨Ap,cp,rfl,rfl⟩))|refine sT ?_|refine sM fun _=> ?_|(refine sC ?_ ?_<;>intro hb<;>try omega)|fail)
 have hpos:=hW.pos
 refine dN (A:=Ap) pK hpos fun gp hAp=> ?_
 subst hAp
 refine aw [0,6] rfl (fun x:Nat × List Us × Option Nat × Nat=> [(5,sl x.2.2.1 x.2.1.length x.2.2.2),(7,.int .i64 (x.1:Int))]) (fun x=> [.own x.2.2.1 159 6 x.2.1.length x.2.2.2 (x.2.1.flatMap dI),.own (some gp) 3 1 L.length cp (iK (kr Hi))])
  (fun x=>x.1≤L.length∧ed L=x.2.1++eH (L.drop x.1) x.1) (fun x=>L.length - x.1) (0,[],none,0) ⟨by omega,rfl⟩ sB mS ?_
 rintro ⟨i,pre,A,cap⟩ ⟨hi,hus⟩
 dsimp only at hi hus ⊢
 by_cases hlt:i<L.length
 ·
  have he:=hrl.elem dJ i hlt
  obtain ⟨u,hu,hu1,hu2,hu3⟩:=FF hW hlt
  rw [Rc hlt,eH] at hus
  generalize L[i]=n at he hus
  have hcell:(iK (kr Hi))[0+i*1]? =some (.int .i64 u):=by rw [Rt,SN];exact Jt hu
  by_cases hq:n.kind=2∨n.kind=3
  rotate_left
  ·
   have hrf:jO n=false:=by simp only [jO,Bool.or_eq_false_iff,decide_eq_false_iff_not];omega
   rw [hrf,cond_false] at hus
   repeat' (first|refine sT ?_|refine sN ?_|refine sO ?_|refine sM fun _=> ?_|(refine sC ?_ ?_<;>intro hb<;>try omega)|fail)
   refine ⟨(i+1,pre,A,cap),?_,(by first|omega|(dsimp only;omega)),sB,sB,mS⟩
   exact ⟨hlt,hus⟩
  have hrf:jO n=true:=by simp only [jO,Td,decide_eq_true_eq];exact hq
  rw [hrf,cond_true] at hus
  have hlu:=congrArg List.length hus
  simp only [QT,Rx] at hlu
  have none_use:(∀ m,L[i+1]? =some m→ ¬ Fe m)→pz n i (L.drop (i+1))=⟨n.rect, -1,0⟩:=by
   intro h
   by_cases h1:i+1<L.length
   ·
    rw [Rc h1]
    have:=h _ (QV h1)
    unfold Fe at this
    simp only [pz,if_neg this]
   ·
    rw [RE (by omega)];rfl
  rcases hu1 with hu1|⟨j,hu1,hj⟩
  ·
   subst hu1
   rw [none_use (fun m hm hr=>by have:=hu2 m hm hr;omega)] at hus
   repeat' (first|(apply ak (d:=45);exact rfl;apply aj;exact rfl;exact rfl;exact hlt)|(apply ak (d:=46);exact rfl;apply aV;exact rfl;exact pK;exact hcell)|(apply ak (d:=41);exact rfl;apply dq (off:=4) (ys:=bL n.rect) he;(iterate 3 exact rfl))|(apply aQ;(iterate 3 exact rfl);(repeat first|exact .hd|apply Sel.tl|apply In.tl);(intro w hm;exact hm.cells_own (by (repeat first|exact .hd|apply Sel.tl|apply In.tl)));exact rfl;(simp [Value.oneCell',sl]);omega;(simp only [maxLen];omega);(intro A2 c2 h2))|refine sT ?_|refine sN ?_|refine sO ?_|refine sM fun _=> ?_|(refine sC ?_ ?_<;>intro hb<;>try omega)|fail)
   all_goals
    refine ⟨(i+1,pre++ [⟨n.rect, -1,0⟩],A2,c2),⟨hlt,by rw [hus,List.append_assoc];rfl⟩,(by dsimp only;omega),?_,?_,?_⟩
    ·
     dsimp only
     rw [QT]
     exact sB
    ·
     exact sB
    ·
     dsimp only
     rw [pg,QT]
     exact mS
  ·
   subst hu1
   have hj1:=hrl.elem dJ j hj
   have hjg:=QV hj
   have hu3' :=hu3 j _ rfl hjg
   generalize L[j]=m at hj1 hjg hu3'
   by_cases hrel:Fe m
   ·
    obtain rfl:=hu3' hrel
    have hr2:m.kind=7∧46≤m.fn:=hrel
    have hdr:L.drop (i+1)=m::L.drop (i+1+1):=by
     rw [Rc hj]
     rw [QV hj] at hjg
     rw [Option.some.inj hjg]
    have huo:pz n i (L.drop (i+1))=⟨n.rect,((i+1:Nat):Int),m.fn⟩:=by rw [hdr];simp only [pz,if_pos hr2]
    rw [huo] at hus
    repeat' (first|(apply ak (d:=45);exact rfl;apply aj;exact rfl;exact rfl;exact hlt)|(apply ak (d:=46);exact rfl;apply aV;exact rfl;exact pK;exact hcell)|(apply ak (d:=41);exact rfl;apply dq (off:=4) (ys:=bL n.rect) he;(iterate 3 exact rfl))|(apply aQ;(iterate 3 exact rfl);(repeat first|exact .hd|apply Sel.tl|apply In.tl);(intro w hm;exact hm.cells_own (by (repeat first|exact .hd|apply Sel.tl|apply In.tl)));exact rfl;(simp [Value.oneCell',sl]);omega;(simp only [maxLen];omega);(intro A2 c2 h2))|((with_reducible apply qJ (id:=13) (T:=159) (fun D=> [.int .i64 n.rect.c1,.int .i64 n.rect.r1,.int .i64 n.rect.c2,.int .i64 n.rect.r2,.int .i64 (bif D 7 then ((i+1:Nat):Int) else -1),.int .u8 (bif D 9 then m.fn else 0)]) (xs' := [.int .i64 n.rect.c1,.int .i64 n.rect.r1,.int .i64 n.rect.c2,.int .i64 n.rect.r2,.int .i64 ((i+1:Nat):Int),.int .u8 m.fn]));kernel_rfl;kernel_rfl;exact .hd;exact rfl;(intro D hD;simp only [hD 7 (by decide),hD 9 (by decide),cond_true]))|(apply BB;exact rfl;(intro D ht;first|(apply aj;exact rfl;exact rfl;(first|assumption|omega))|(apply dE;exact rfl;assumption;exact rfl));exact fun _=>rfl)|refine sT ?_|refine sN ?_|refine sO ?_|refine sG ?_|refine sM fun _=> ?_|(refine sC ?_ ?_<;>intro hb<;>try omega)|fail)
    all_goals
     refine ⟨(i+1,pre++ [⟨n.rect,((i+1:Nat):Int),m.fn⟩],A2,c2),⟨hlt,by rw [hus,List.append_assoc];rfl⟩,(by dsimp only;omega),?_,?_,?_⟩
     ·
      dsimp only
      rw [QT]
      exact sB
     ·
      exact sB
     ·
      dsimp only
      rw [pg,QT]
      exact mS
   ·
    have hr2: ¬ (m.kind=7∧46≤m.fn):=hrel
    rw [none_use (fun m' hm hr=>by
     have h1:=hu2 m' hm hr
     have h2:j=i+1:=by omega
     subst h2
     rw [hjg] at hm
     obtain rfl:=Option.some.inj hm
     exact hrel hr)] at hus
    repeat' (first|(apply ak (d:=45);exact rfl;apply aj;exact rfl;exact rfl;exact hlt)|(apply ak (d:=46);exact rfl;apply aV;exact rfl;exact pK;exact hcell)|(apply ak (d:=41);exact rfl;apply dq (off:=4) (ys:=bL n.rect) he;(iterate 3 exact rfl))|(apply aQ;(iterate 3 exact rfl);(repeat first|exact .hd|apply Sel.tl|apply In.tl);(intro w hm;exact hm.cells_own (by (repeat first|exact .hd|apply Sel.tl|apply In.tl)));exact rfl;(simp [Value.oneCell',sl]);omega;(simp only [maxLen];omega);(intro A2 c2 h2))|refine sT ?_|refine sN ?_|refine sO ?_|refine sM fun _=> ?_|(refine sC ?_ ?_<;>intro hb<;>try omega)|fail)
    all_goals
     refine ⟨(i+1,pre++ [⟨n.rect, -1,0⟩],A2,c2),⟨hlt,by rw [hus,List.append_assoc];rfl⟩,(by dsimp only;omega),?_,?_,?_⟩
     ·
      dsimp only
      rw [QT]
      exact sB
     ·
      exact sB
     ·
      dsimp only
      rw [pg,QT]
      exact mS
 ·
  have e:i=L.length:=by omega
  subst e
  rw [RK,eH,QZ] at hus
  rw [hus]
  repeat' (first|refine sT ?_|refine sM fun _=> ?_|(refine sC ?_ ?_<;>intro hb<;>try omega)|fail)
  exact dS (.inl rfl) Tryz.results207 rfl rfl (H' := [.own A 159 6 pre.length cap (pre.flatMap dI)]) mS ⟨A,cap,rfl,rfl⟩
end Go.SL
namespace Go.SL
open Go
abbrev Gr:=List (Rf × List Nd × List Us)
def bW (G:Gr):List Rf:=G.map fun e=>e.1
def SortG (G:Gr):Prop:=G.Pairwise fun x y=>bw x.1 y.1=true
def wN (G:Gr) (a:Rf):Option (List Nd × List Us):=(G.find? fun e=>decide (e.1=a)).map fun e=>e.2
def yf (G:Gr) (a:Rf):Gr:=G.filter fun e=>decide (e.1≠a)
def uJ (G:Gr) (a:Rf) (x:List Nd × List Us):Gr:=G.filter (fun e=>bw e.1 a)++(a,x)::G.filter fun e=>bw a e.1
def gk (G:Gr) (a:Rf):List Us:=((wN G a).map fun x=>x.2).getD []
def jp (G:Gr) (a:Rf) (b:ByteArray):Gr × Int:=
 if a.valid=false then (G,3)
 else if (ofP b).2.2≠0 then (G,(ofP b).2.2)
 else if (ofP b).1.formula=false then (yf G a,0)
 else (uJ G a ((ofP b).1.tree,ed (ofP b).1.tree),0)
theorem lY {a b:Rf}:bw a b=true↔a.row<b.row∨(a.row=b.row∧a.col<b.col):=by simp [bw]
theorem o6 (a:Rf):bw a a=false:=by simp [bw]
theorem uh {a b c:Rf} (h:bw a b=true) (k:bw b c=true):bw a c=true:=by
 rw [lY] at*
 omega
theorem kU {a b:Rf} (h:bw a b=true):bw b a=false:=by
 rw [← T9,lY]
 rw [lY] at h
 omega
theorem Dg {a b:Rf} (h:a≠b):bw a b=true∨bw b a=true:=by
 rw [lY,lY]
 rcases Int.lt_trichotomy a.row b.row with h1|h1|h1
 ·
  exact .inl (.inl h1)
 ·
  rcases Int.lt_trichotomy a.col b.col with h2|h2|h2
  ·
   exact .inl (.inr ⟨h1,h2⟩)
  ·
   refine absurd ?_ h
   obtain ⟨a1,a2⟩:=a
   obtain ⟨b1,b2⟩:=b
   simp only at h1 h2
   subst h1 h2;rfl
  ·
   exact .inr (.inr ⟨h1.symm,h2⟩)
 ·
  exact .inr (.inl h1)
theorem lX {a b:Rf} (h:bw a b=true):a≠b:=by
 rintro rfl
 rw [o6] at h
 cases h
theorem SortG.nodup {G:Gr} (h:SortG G):(bW G).Nodup:=by
 rw [bW,List.Nodup,List.pairwise_map]
 exact h.imp fun h=>lX h
theorem yJ:SortG []:=List.Pairwise.nil
theorem sK {G:Gr} (h:SortG G) (a:Rf):SortG (yf G a):=h.filter _
theorem sH {G:Gr} (h:SortG G) (a:Rf) (x:List Nd × List Us):SortG (uJ G a x):=by
 refine SS.2 ⟨h.filter _,RV.2 ⟨fun e he=> ?_,h.filter _⟩,fun e he f hf=> ?_⟩
 ·
  exact (Uh.1 he).2
 ·
  have h1:=(Uh.1 he).2
  rcases Rs.1 hf with rfl|hf
  ·
   exact h1
  ·
   exact uh h1 (Uh.1 hf).2
theorem IR {G:Gr} (h:SortG G) (a:Rf) (b:ByteArray):SortG (jp G a b).1:=by
 unfold jp
 split
 ·
  exact h
 ·
  split
  ·
   exact h
  ·
   split
   ·
    exact sK h a
   ·
    exact sH h a _
theorem wI {G:Gr} {a:Rf} {x:List Nd × List Us} {e:Rf × List Nd × List Us}:e∈uJ G a x↔e=(a,x)∨(e∈G∧e.1≠a):=by
 simp only [uJ,Ru,Rs,Uh]
 constructor
 ·
  rintro (⟨h1,h2⟩|rfl|⟨h1,h2⟩)
  ·
   exact .inr ⟨h1,lX h2⟩
  ·
   exact .inl rfl
  ·
   exact .inr ⟨h1,(lX h2).symm⟩
 ·
  rintro (rfl|⟨h1,h2⟩)
  ·
   exact .inr (.inl rfl)
  ·
   rcases Dg h2 with h|h
   ·
    exact .inl ⟨h1,h⟩
   ·
    exact .inr (.inr ⟨h1,h⟩)
theorem wJ {G:Gr} {a:Rf} {e:Rf × List Nd × List Us}:e∈yf G a↔e∈G∧e.1≠a:=by simp [yf]
theorem qt {G:Gr} (h:SortG G) {a:Rf} {x:List Nd × List Us}:wN G a=some x↔(a,x)∈G:=by
 constructor
 ·
  intro hl
  obtain ⟨e,he,rfl⟩:=Sn.1 hl
  have h1:=List.find?_some he
  have h2:=TF he
  simp only [decide_eq_true_eq] at h1
  subst h1
  exact h2
 ·
  intro hm
  have hn:=h.nodup
  cases hf:G.find? fun e=>decide (e.1=a) with
  |none=>
   rw [List.find?_eq_none] at hf
   exact absurd (hf _ hm) (by simp)
  |some e=>
   have h1:=List.find?_some hf
   have h2:=TF hf
   simp only [decide_eq_true_eq] at h1
   have:=qw (fun e:Rf × List Nd × List Us=>e.1) hn h2 hm h1
   rw [wN,hf,this];rfl
theorem FL {G:Gr} {a:Rf}:wN G a=none↔ ∀ e∈G,e.1≠a:=by
 rw [wN,Option.map_eq_none_iff,List.find?_eq_none]
 simp
theorem Dk {G:Gr} (h:SortG G):(bW G).Pairwise fun x y=>bw x y=true:=by
 rw [bW,List.pairwise_map];exact h
theorem xU {L:List Rf} (h:L.Pairwise fun x y=>bw x y=true):sortRf L=L:=by
 refine List.mergeSort_of_pairwise ?_
 exact h.imp fun h=>by rw [kU h];rfl
end Go.SL
namespace Go.SL
open Go Go.Proofs
attribute [local irreducible] W WL WQ WG WA WX WLI WR WT WC VOp RW thn blk bp scp aR ba bE aF FnP ceP
structure Gs where
 gg:Nat
 gm:Nat
 E:List En
 clock:Nat
 R1:List Blk
 gr:Nat
 A:Option Nat
 cap:Nat
 Q:List En
 R2:List Blk
end Go.SL
namespace Go.SL
open Go
def inB:ByteArray:=⟨#[61,65,49,43,66,49]⟩
def inC:ByteArray:=⟨#[61,68,83,85,77,40,66,49,58,66,51,41]⟩
def inD:ByteArray:=⟨#[61,73,70,69,82,82,79,82,40,65,51,44,48,41,43,49]⟩
def Pr (c r:Int):Nd:=⟨2,bI,CZ c r,0,0,0⟩
def exG:Gr:= [
 (⟨1,2⟩,[Pr 1 1,Pr 2 1,dG 6 1],[⟨CZ 1 1, -1,0⟩,⟨CZ 2 1, -1,0⟩]),
 (⟨1,3⟩,[⟨3,bI,⟨2,1,2,3⟩,0,0,0⟩,⟨7,bI,aN,0,46,1⟩],[⟨⟨2,1,2,3⟩,1,46⟩]),
 (⟨1,4⟩,[Pr 1 3,⟨1,⟨1,0,av⟩,aN,0,0,0⟩,⟨7,bI,aN,0,25,2⟩,⟨1,⟨1,10000,av⟩,aN,0,0,0⟩,dG 6 1],[⟨CZ 1 3, -1,0⟩])]
end Go.SL
namespace Go.SL
open Go Go.RowKit
section
variable {P:Program} {ops:Array Oper} {es ps:List Nat} {C:World→Prop}
theorem uC {Q:Act→World→Prop} {i:Nat} {oi:Oper} (hi:ops[i]? =some oi) (hsel: ∀ (j:Nat) (o:Oper) cs b,ops[j]? =some o→o.op≠ .select cs b)
  (hnb: ∀ x∈es,∀ y,y∈es∨y∈ps→x≠y→(x=i∨y=i)→uZ ops x y):
  ∀ (f:Nat) (L:Array Bool) (a:Act) (w:World),ClosedL ops L→C w→
   (∀ j oj,ops[j]? =some oj→j≠i→L.getD j true=false→(∀ e∈oj.after,Region.binds .any e=true→e.on≠i)→oi.apart ops oj=true)→
   i∈Region.ready .any ops L→EOp P ops es ps C (AnyE P ops es ps C Q f (L.setIfInBounds i true)) i oi a w→AnyE P ops es ps C Q (f+1) L a w
 |0,L,a,w,hcl,hC,_,hr,hy=>⟨hC,fun h=>(by rw [h] at hr;cases hr),fun j hj=>by
   by_cases hji:j=i
   ·
    subst hji;exact ⟨oi,hi,hy⟩
   ·
    exfalso
    have hne:=ready_mono hj hji
    have hE: ∃ a' w',AnyE P ops es ps C Q 0 (L.setIfInBounds i true) a' w' :=by
     cases hy with
     |pass _ hk=>exact ⟨_,_,hk⟩
     |quiet _ _ _ _ _ hk=>exact ⟨_,_,hk⟩
     |eff _ _ hk=>obtain ⟨v,w',h⟩:=hk.ex;exact ⟨_,_,h⟩
    obtain ⟨a',w',_,h0,_⟩:=hE
    rw [h0] at hne
    cases hne⟩
 |f+1,L,a,w,hcl,hC,hfree,hr,hy=>⟨hC,fun h=>(by rw [h] at hr;cases hr),fun j hj=>by
   by_cases hji:j=i
   ·
    subst hji;exact ⟨oi,hi,hy⟩
   ·
    have hj' :=ready_mono hj hji
    obtain ⟨hjun,oj,hoj,hall⟩:=mem_ready.1 hj
    have hnot: ∀ e∈oj.after,Region.binds .any e=true→e.on≠i:=fun e he hb heq=>by
     have h1:=hall e he hb
     have h0:=(mem_ready.1 hr).1
     rw [heq] at h1
     rcases SY i L.size with h' |h'
     ·
      simp [h'] at h0 h1;rw [h0] at h1;cases h1
     ·
      simp [Ti h'] at h1
    have hap:=hfree j oj hoj hji hjun hnot
    obtain ⟨h1,h2,h3⟩:=Oper.apart_spec hap
    have hsi:=fun cs b=>hsel i oi cs b hi
    have hsj:=fun cs b=>hsel j oj cs b hoj
    have hej: ∀ v,execOp (a.put oi.dst v).eval oj=execOp a.eval oj:=fun v=>execOp_put oj hsj a oi.dst v h1
    have hwj: ∀ v,Region.wanted oj (yielded ops (a.put oi.dst v).tmps)=Region.wanted oj (yielded ops a.tmps):=fun v=>wanted_put oj a oi.dst v h1
    have hcomm: ∀ v u,(a.put oi.dst v).put oj.dst u=(a.put oj.dst u).put oi.dst v:=fun v u=>Act.put_comm a v u h2
    have hset:(L.setIfInBounds i true).setIfInBounds j true=(L.setIfInBounds j true).setIfInBounds i true:=TK _ _ (Ne.symm hji)
    have hfree' : ∀ k ok,ops[k]? =some ok→k≠i→(L.setIfInBounds j true).getD k true=false→
      (∀ e∈ok.after,Region.binds .any e=true→e.on≠i)→oi.apart ops ok=true:=fun k ok hk hki hun hno=>by
     refine hfree k ok hk hki ?_ hno
     by_cases hjk:j=k
     ·
      subst hjk;exact hjun
     ·
      rw [getD_set_ne true hjk] at hun;exact hun
    have ih:=uC (Q:=Q) hi hsel hnb f (L.setIfInBounds j true)
    have hcl' :=hcl.set hj
    have hr' :=ready_mono hr (Ne.symm hji)
    -- what comes of j behind an outcome of i
    have hJ: ∀ v w',AnyE P ops es ps C Q (f+1) (L.setIfInBounds i true) (a.put oi.dst v) w' →EOp P ops es ps C (AnyE P ops es ps C Q f ((L.setIfInBounds j true).setIfInBounds i true)) j oj (a.put oi.dst v) w' :=fun v w' h=>by
     obtain ⟨o,ho,hE⟩:=h.2.2 j hj'
     have e:o=oj:=Option.some.inj (ho.symm.trans hoj)
     subst e
     rw [hset] at hE
     exact hE
    refine ⟨oj,hoj,?_⟩
    have hstill:(∃ v,AnyE P ops es ps C Q (f+1) (L.setIfInBounds i true) (a.put oi.dst v) w∧ ∀ (u:Value) (w2:World) (K' :Act→World→Prop),C w2→(i∈ps→w2=w)→K' ((a.put oj.dst u).put oi.dst v) w2→EOp P ops es ps C K' i oi (a.put oj.dst u) w2)∨
      (Region.wanted oi (yielded ops a.tmps)=true∧i∈es∧NormUp P (fun v w' =>AnyE P ops es ps C Q (f+1) (L.setIfInBounds i true) (a.put oi.dst v) w') ((execOp a.eval oi).run P w)):=by
     cases hy with
     |pass hw hk=>exact .inl ⟨undef,hk,fun u w2 K' _ _ hk' => .pass ((wanted_put oi a oj.dst u h3).trans hw) hk'⟩
     |quiet hw hies v hrun hst hk=>
      refine .inl ⟨v,hk,fun u w2 K' hC2 hps hk' => ?_⟩
      have he:=execOp_put oi hsi a oj.dst u h3
      have hrun2:(execOp a.eval oi).run P w2= .ok (.value v) w2:=by
       rcases hst with h|h
       ·
        rw [hps h];exact hrun
       ·
        exact h w2 hC2
      exact .quiet ((wanted_put oi a oj.dst u h3).trans hw) hies v (by rw [he];exact hrun2) (by rw [he];exact hst) hk'
     |eff hw hies hk=>exact .inr ⟨hw,hies,hk⟩
    rcases hstill with ⟨v,hk,hS⟩|⟨hw,hies,hk⟩
    ·
     cases hJ v w hk with
     |pass hwj' hkj=>exact .pass ((hwj v).symm.trans hwj') (ih _ w hcl' hC hfree' hr' (hS undef w _ hC (fun _=>rfl) (by rw [← hcomm];exact hkj)))
     |quiet hwj' hjes u hrun hst hkj=>
      rw [hej] at hrun hst
      exact .quiet ((hwj v).symm.trans hwj') hjes u hrun hst (ih _ w hcl' hC hfree' hr' (hS u w _ hC (fun _=>rfl) (by rw [← hcomm];exact hkj)))
     |eff hwj' hjes hkj=>
      rw [hej] at hkj
      exact .eff ((hwj v).symm.trans hwj') hjes (hkj.mono fun u w2 hk2=>ih _ w2 hcl' hk2.inC hfree' hr' (hS u w2 _ hk2.inC (fun hps=>(hnb j hjes i (.inr hps) hji (.inr rfl) L hcl hj hr).elim) (by rw [← hcomm];exact hk2)))
    ·
     obtain ⟨v0,w1,h0⟩:=hk.ex
     cases hJ v0 w1 h0 with
     |pass hwj' hkj=>
      have hwa:=(hwj v0).symm.trans hwj'
      refine .pass hwa (ih _ w hcl' hC hfree' hr' (EOp.of_put hap hsi (.eff hw hies hk) fun v w' h=> ?_))
      cases hJ v w' h with
      |pass _ h' =>rw [← hcomm];exact h'
      |quiet hw2 _ _ _ _ _=>rw [hwj,hwa] at hw2;cases hw2
      |eff hw2 _ _=>rw [hwj,hwa] at hw2;cases hw2
     |quiet hwj' hjes u hrun hst hkj=>
      have hwa:=(hwj v0).symm.trans hwj'
      have hst2: ∀ w1,C w1→(execOp a.eval oj).run P w1= .ok (.value u) w1:=by
       rcases hst with h|h
       ·
        exact (hnb i hies j (.inr h) (Ne.symm hji) (.inl rfl) L hcl hr hj).elim
       ·
        rw [hej] at h;exact h
      refine .quiet hwa hjes u (hst2 w hC) (.inr hst2) (ih _ w hcl' hC hfree' hr' (EOp.of_put hap hsi (.eff hw hies hk) fun v w' h=> ?_))
      cases hJ v w' h with
      |pass hw2 _=>rw [hwj,hwa] at hw2;cases hw2
      |eff _ hjes2 _=>exact absurd hjes2 hjes
      |quiet _ _ u' hr2 hst' h' =>
       have hst3:(execOp a.eval oj).run P w= .ok (.value u') w:=by
        rcases hst' with h|h
        ·
         exact (hnb i hies j (.inr h) (Ne.symm hji) (.inl rfl) L hcl hr hj).elim
        ·
         have:=h w hC
         rw [hej] at this;exact this
       rw [hst2 w hC] at hst3
       injection hst3 with h4
       injection h4 with h4
       subst h4
       rw [← hcomm];exact h'
     |eff hwj' hjes hkj=>exact (hnb i hies j (.inl hjes) (Ne.symm hji) (.inl rfl) L hcl hr hj).elim⟩
end
section
variable {P:Program} {n:Fr} {w0:World} {Q:bP} {s:az} {H S:List Blk} {l:List Oper} {ty:TypeId} {p:String} {af:Array Edge} {es:List Nat} {gu:Option (Nat × Bool)} {f:Nat} {L:Array Bool}
def WE (P:Program) (n:Fr) (w0:World) (l:List Oper) (S:List Blk) (es:List Nat) (Q:bP) (f:Nat) (L:Array Bool) (s:az) (H:List Blk):Prop:=
 ∀ a w,St n s a→Mem w0 w H→Mem w0 w S→ClosedL l.toArray L→AnyE P l.toArray es [] (fun w=>Mem w0 w S) (post n w0 Q .normal) f L a w
theorem oP {id:Nat} (es:List Nat) (S:List Blk) (N:Nat) (hN:l.length=N) (hm:P.follows .mixedOrders=true) (hS:MSub S H)
  (h:WE P n w0 l S es Q N (Array.replicate N false) s H):W P n w0 (.region id l.toArray true) Q s H:=by
 intro a w hs hmem
 subst hN
 refine wp_region_any hm (gj (es:=es) (ps:= []) (C:=fun w=>Mem w0 w S) (Q:=post n w0 Q .normal) (fun _ _ h=>h) _ _ _ _ ?_)
 have hcl:ClosedL l.toArray (Array.replicate l.length false):=fun i o _ hi=>by
  rw [RT,TL] at hi
  split at hi<;>cases hi
 have:=h a _ hs hmem.drew (hS.use hmem.drew) hcl
 simpa using this
theorem oM (hr:Region.ready .any l.toArray L= []) (h:Q .normal s H):WE P n w0 l S es Q f L s H:=by
 intro a w hs hm hS hcl
 cases f with
 |zero=>exact ⟨hS,hr,s,H,hs,hm,h⟩
 |succ f=>exact ⟨hS,fun _=>⟨s,H,hs,hm,h⟩,fun i hi=>by rw [hr] at hi;cases hi⟩
theorem fB {i:Nat} {op:Op} {d:Nat} {v:Value} (hi:l[i]? =some ⟨some d,op,ty,p,af,gu⟩) (hn:Nat.blt d n.sz=true) (hg:gok l s gu=some true) (hk:es.contains i=false) (hsel:Region.noSelect l.toArray=true)
  (hr:(Region.ready .any l.toArray L).contains i=true) (hf:Region.free .any l.toArray L i=true) (hv:VOp P w0 s S op ty v) (h:WE P n w0 l S es Q f (L.setIfInBounds i true) ((d,v)::s) H):WE P n w0 l S es Q (f+1) L s H:=by
 intro a w hs hm hS hcl
 have hi' :l.toArray[i]? =some ⟨some d,op,ty,p,af,gu⟩:=by simpa using hi
 have hr' :i∈Region.ready .any l.toArray L:=by simpa using hr
 have hk' :i∉es:=by simpa using hk
 refine uC hi' (Region.noSelect_spec hsel) (fun x hx y hy _ hxy=> ?_) f L a w hcl hS (Region.free_spec hi' hf) hr'
  (.quiet (eW rfl hg hs) hk' v (hv a.eval w (some d) p af gu hs.eval hS) (.inr fun w1 h1=>hv a.eval w1 (some d) p af gu hs.eval h1) (h _ _ (hs.put (Sk ▸ hn) v) hm hS (hcl.set hr')))
 rcases hxy with rfl|rfl
 ·
  exact (hk' hx).elim
 ·
  rcases hy with hy|hy
  ·
   exact (hk' hy).elim
  ·
   cases hy
theorem mf {i:Nat} {op:Op} {dst:Option Tmp} (hi:l[i]? =some ⟨dst,op,ty,p,af,gu⟩) (hg:gok l s gu=some true) (hk:es.contains i=true) (hr:(Region.ready .any l.toArray L).contains i=true)
  (h:WL P n w0 #[] [⟨dst,op,ty,p,af,none⟩] (ceP S (WE P n w0 l S es Q f (L.setIfInBounds i true))) s H) (a:Act) (w:World) (hs:St n s a) (hm:Mem w0 w H) (hcl:ClosedL l.toArray L):
  EOp P l.toArray es [] (fun w=>Mem w0 w S) (AnyE P l.toArray es [] (fun w=>Mem w0 w S) (post n w0 Q .normal) f (L.setIfInBounds i true)) i ⟨dst,op,ty,p,af,gu⟩ a w:=by
 have hr' :i∈Region.ready .any l.toArray L:=by simpa using hr
 refine .eff (eW rfl hg hs) (by simpa using hk) ?_
 have h1:=h a w hs hm
 unfold wpList at h1
 simp only [Region.wanted,if_true] at h1
 replace h1:=h1.elim id fun ⟨_,a0,w1,s',H'',_,_,he,_⟩=>by cases he
 have hexec:execOp a.eval ⟨dst,op,ty,p,af,gu⟩=execOp a.eval ⟨dst,op,ty,p,af,none⟩:=rfl
 rw [hexec]
 have nxt: ∀ (a' :Act) (w' :World),wpList P #[] (post n w0 (ceP S (WE P n w0 l S es Q f (L.setIfInBounds i true)))) [] a' w' →AnyE P l.toArray es [] (fun w=>Mem w0 w S) (post n w0 Q .normal) f (L.setIfInBounds i true) a' w' :=by
  rintro a' w' ⟨s',H',hs',hm',_,hSub,hK⟩
  exact hK a' w' hs' hm' (hSub.use hm') (hcl.set hr')
 unfold Oper.wp at h1
 generalize (execOp a.eval ⟨dst,op,ty,p,af,none⟩).run P w=r at h1 ⊢
 cases r with
 |ok x w' =>
  cases x<;>simp only [Oper.upon] at h1<;>simp only [NormUp]
  case value u=>exact nxt _ _ h1
  case skip=>exact nxt _ _ h1
  case defer dd=>
   obtain ⟨s',H'',hs',_⟩:=h1
   have h2:=congrArg List.length (hs'.defers.trans hs.defers.symm)
   cases dst<;>simp [Act.put] at h2
  case enter f args=>
   refine h1.mono fun e w'' he=> ?_
   cases e with
   |returned v=>exact ⟨v,rfl,nxt _ _ he⟩
   |panicked c=>
    obtain ⟨s',H'',_,_,he',_⟩:=he
    cases he'
   |outgrown=>
    obtain ⟨a0,w1,s',H'',_,_,he',_⟩:=he
    cases he'
  case row f args=>exact Rows.mono h1 fun u w'' he=>nxt _ _ he
 |halt x w' =>
  cases x<;>simp only [Oper.upon] at h1
  all_goals
   obtain ⟨s',H'',_,_,he',_⟩:=h1
   cases he'
theorem cj {i:Nat} {op:Op} {dst:Option Tmp} (hi:l[i]? =some ⟨dst,op,ty,p,af,gu⟩) (hg:gok l s gu=some true) (hk:es.contains i=true) (hr:Region.ready .any l.toArray L= [i])
  (h:WL P n w0 #[] [⟨dst,op,ty,p,af,none⟩] (ceP S (WE P n w0 l S es Q f (L.setIfInBounds i true))) s H):WE P n w0 l S es Q (f+1) L s H:=by
 intro a w hs hm hS hcl
 refine ⟨hS,fun h0=>(by rw [hr] at h0;cases h0),fun j hj=> ?_⟩
 rw [hr] at hj
 have e:j=i:=by simpa using hj
 subst e
 exact ⟨_,by simpa using hi,mf hi hg hk (by rw [hr];simp) h a w hs hm hcl⟩
theorem dX {i j:Nat} {op op' :Op} {dst dst' :Option Tmp} {ty' :TypeId} {p' :String} {af' :Array Edge} {gu' :Option (Nat × Bool)} (hi:l[i]? =some ⟨dst,op,ty,p,af,gu⟩) (hj:l[j]? =some ⟨dst',op',ty',p',af',gu'⟩) (hg:gok l s gu=some true) (hg' :gok l s gu' =some true)
  (hk:es.contains i=true) (hk' :es.contains j=true) (hr:Region.ready .any l.toArray L= [i,j])
  (h:WL P n w0 #[] [⟨dst,op,ty,p,af,none⟩] (ceP S (WE P n w0 l S es Q f (L.setIfInBounds i true))) s H)
  (h' :WL P n w0 #[] [⟨dst',op',ty',p',af',none⟩] (ceP S (WE P n w0 l S es Q f (L.setIfInBounds j true))) s H):WE P n w0 l S es Q (f+1) L s H:=by
 intro a w hs hm hS hcl
 refine ⟨hS,fun h0=>(by rw [hr] at h0;cases h0),fun k hk0=> ?_⟩
 rw [hr] at hk0
 rcases Rs.1 hk0 with e|hk0
 ·
  subst e
  exact ⟨_,by simpa using hi,mf hi hg hk (by rw [hr];simp) h a w hs hm hcl⟩
 ·
  have e:k=j:=by simpa using hk0
  subst e
  exact ⟨_,by simpa using hj,mf hj hg' hk' (by rw [hr];simp) h' a w hs hm hcl⟩
end
end Go.SL
namespace Go.SL
open Go Go.Proofs
attribute [local irreducible] W WL WQ WG WA WX WLI WR WT WC WE VOp RW thn blk bp scp aR ba bE aF FnIn FnP ceP
theorem Qs {L:List Us} {k:Nat} (h:k<L.length):((L.flatMap dI).drop (0+k*6)).take 6=dI L[k]:=by
 rw [Rt];exact dD xj L k h
end Go.SL
namespace Go.SL
open Go Go.Proofs
theorem QO {P:Program} {n:Fr} {w0:World} {Q:bP} {s:az} {H:List Blk} {c:Code} {A:Option Nat} {t sz m cap:Nat} {xs:List Value} (hi:In (.own A t sz m cap xs) H) (h:m≤cap→W P n w0 c Q s H):W P n w0 c Q s H:=fun a w hs hmem=>
 h (hmem.on _ hi.mem).1.2.1 a w hs hmem
theorem I1 (w:World):Reads w (.slice none 0 0) 0 []:=⟨none,0,rfl,Re _,Rd _,fun h=>absurd h (Nat.lt_irrefl 0)⟩
attribute [local irreducible] W WL WQ WG WA WX WLI WR WT WC WE VOp RW thn blk bp scp aR ba bE aF FnIn FnP ceP
end Go.SL
namespace Go.SL
open Go Go.Proofs
attribute [local irreducible] W WL WQ WG WA WX WLI WR WT WC WE VOp RW thn blk bp scp aR ba bE aF FnIn FnP ceP
def ye (k:Int):Bool:=decide (k=3)||decide (k=4)||decide (k=7)||decide (k=8)||decide (k=9)
def zx (k:Int):Ox:=⟨k,0,aN,av,0#64,0#64,0#64,0,0#64,0⟩
theorem Gu (x:Ox) (w:World):aA Tryz.prog 41 [.agg (HS x).toArray] w (.bool (ye x.kind)):=by
 refine aq Tryz.func41 rfl Tryz.ntmps41 rfl ?_
 repeat' (first|refine sT ?_|refine sS ?_|refine sM fun _=> ?_|(refine sC ?_ ?_<;>intro hb<;>try omega)|fail)
 all_goals first
  |(exfalso;omega)
  |((refine rT1 ?_);simp_all [ye];done)
theorem Eg (k:Int) (w:World):aA Tryz.prog 41 [.agg (HS (zx k)).toArray] w (.bool (ye k)):=Gu (zx k) w
theorem yz {P:Program} {w0:World} {s:az} {H:List Blk} {ty t e lo m c sz g:Nat} {x xl:Operand} [ht:Und P t (.slice e)] [hz:Size P e sz] (hx:ev s x=some (.slice (some ⟨g,0,none⟩) m c)) (hxl:ev s xl=some (.int .i64 (lo:Nat))) (h1:lo<m) (h2:m≤c):
  VOp P w0 s H (.slice t x (some xl) none none) ty (.slice (some ⟨g,lo*sz,none⟩) (m - lo) (c - lo)):=by
 have h:=oR (P:=P) (w0:=w0) (s:=s) (H:=H) (ty:=ty) (t:=t) (lo:=lo) (hi:=m) (x:=x) (xl:=some xl) (xh:=none) hx ⟨_,hxl⟩ rfl (by omega) h2
 rw [if_neg (show ¬ c=lo by omega)] at h
 have ha:(⟨g,0,none⟩:Addr).add (lo*sz)=⟨g,lo*sz,none⟩:=by unfold Addr.add;split<;>simp_all
 rw [Sm,ha] at h
 exact h
theorem Iw {P:Program} {w0:World} {s:az} {H:List Blk} {ty t e hi m c sz:Nat} {A:Option Addr} {x xh:Operand} [ht:Und P t (.slice e)] [hz:Size P e sz] (hx:ev s x=some (.slice A m c)) (hxh:ev s xh=some (.int .i64 (hi:Nat))) (h2:hi≤c):
  VOp P w0 s H (.slice t x none (some xh) none) ty (.slice A hi c):=by
 have h:=oR (P:=P) (w0:=w0) (s:=s) (H:=H) (ty:=ty) (t:=t) (lo:=0) (hi:=hi) (x:=x) (xl:=none) (xh:=some xh) hx rfl ⟨_,hxh⟩ (by omega) h2
 have ha:(if c=0 then A else A.map (·.add (0*sz)))=A:=by
  split
  ·
   rfl
  ·
   cases A with
   |none=>rfl
   |some a=>rw [Nat.zero_mul];simp [Addr.add]
 rw [ha] at h
 exact h
end Go.SL
namespace Go.SL
open Go
def En.abs (e:En):Rf × List Nd × List Us:=(e.at_,e.tree,e.uses)
structure GOk (R:List Blk) (E:List En) (clock:Nat) (G:Gr):Prop where
 ok:MapOk (E.map En.m) clock
 en: ∀ e∈E,EnOk R e
 rel: ∀ x,x∈E.map En.abs↔x∈G
 sort:SortG G
theorem HJ (E:List En):((E.map En.m).map fun e=>e.1)=E.map En.at_:=by rw [Tl];rfl
theorem Mp (E:List En):((E.map En.m).map fun e=>e.2.2)=E.map En.born:=by rw [Tl];rfl
theorem GOk.sub {R R' :List Blk} {E:List En} {clock:Nat} {G:Gr} (h:GOk R E clock G) (hs:MSub R R'):GOk R' E clock G:=⟨h.ok,fun e he=>(h.en e he).sub hs,h.rel,h.sort⟩
theorem GOk.nodup {R:List Blk} {E:List En} {clock:Nat} {G:Gr} (h:GOk R E clock G):(E.map En.at_).Nodup:=HJ E ▸ h.ok.keys
theorem GOk.perm {R:List Blk} {E:List En} {clock:Nat} {G:Gr} (h:GOk R E clock G):(E.map En.abs).Perm G:=by
 refine qp ?_ ?_ h.rel
 ·
  have:=h.nodup
  have e:E.map En.at_=(E.map En.abs).map fun x=>x.1:=by rw [Tl];rfl
  rw [e] at this
  exact jP _ this
 ·
  exact jP (fun e:Rf × List Nd × List Us=>e.1) h.sort.nodup
theorem GOk.len {R:List Blk} {E:List En} {clock:Nat} {G:Gr} (h:GOk R E clock G):E.length=G.length:=by
 have:=h.perm.length_eq
 simpa using this
theorem GOk.forms {R:List Blk} {E:List En} {clock:Nat} {G:Gr} (h:GOk R E clock G):wY (E.map En.m)=bW G:=by
 have hp:(E.map En.at_).Perm (bW G):=by
  have:=h.perm.map fun x=>x.1
  rw [Tl] at this
  exact this
 rw [wY,HJ,tR hp,xU (Dk h.sort)]
theorem GOk.look {R:List Blk} {E:List En} {clock:Nat} {G:Gr} (h:GOk R E clock G) (a:Rf):(oE E a).map (fun e=>(e.tree,e.uses))=wN G a:=by
 cases hf:oE E a with
 |some e=>
  have h1:=List.find?_some hf
  simp only [decide_eq_true_eq] at h1
  have h2:(a,e.tree,e.uses)∈G:=by
   rw [← h.rel]
   refine RG.2 ⟨e,TF hf,?_⟩
   rw [← h1];rfl
  rw [(qt h.sort).2 h2];rfl
 |none=>
  rw [oE,List.find?_eq_none] at hf
  symm
  rw [Un,FL]
  intro x hx
  rw [← h.rel] at hx
  obtain ⟨e,he,rfl⟩:=RG.1 hx
  have:=hf e he
  simpa [En.abs] using this
theorem GOk.uses {R:List Blk} {E:List En} {clock:Nat} {G:Gr} (h:GOk R E clock G) (a:Rf):(kz E a).uses=gk G a:=by
 rw [gk,← h.look a,kz]
 cases oE E a<;>rfl
theorem qu {κ:Type} [DecidableEq κ] {k:κ}: ∀ {es:List (κ × Value × Nat)} {i:Nat},cD k es i=none→ ∀ e∈es,e.1≠k
 | [],_,_,e,he=>by cases he
 |x::r,i,h,e,he=>by
  rw [cD] at h
  split at h
  ·
   cases h
  ·
   rename_i hk
   rcases Rs.1 he with rfl|he
   ·
    exact fun e=>hk e.symm
   ·
    exact qu h e he
theorem GOk.del {R:List Blk} {E:List En} {clock:Nat} {G:Gr} (h:GOk R E clock G) (a:Rf): ∃ E',E'.map En.m=FP a (E.map En.m)∧GOk R E' clock (yf G a):=by
 unfold FP
 cases hk:cD a (E.map En.m) 0 with
 |none=>
  have hno:=qu hk
  refine ⟨E,rfl,h.ok,h.en,fun x=> ?_,sK h.sort a⟩
  rw [wJ,← h.rel]
  refine ⟨fun hx=>⟨hx,?_⟩,fun hx=>hx.1⟩
  obtain ⟨e,he,rfl⟩:=RG.1 hx
  exact hno e.m (RG.2 ⟨e,he,rfl⟩)
 |some x=>
  obtain ⟨j,v⟩:=x
  obtain ⟨b,_,hj⟩:=lZ hk
  rw [SX,RZ] at hj
  obtain ⟨e0,he0,hm0⟩:=Sn.1 hj
  have ha:e0.at_=a:=congrArg Prod.fst hm0
  have hsub:(E.eraseIdx j).Sublist E:=List.eraseIdx_sublist E j
  have hin: ∀ e,e∈E.eraseIdx j↔e∈E∧e.at_≠a:=by
   intro e
   rw [List.mem_eraseIdx_iff_getElem?]
   obtain ⟨hjl,hj0⟩:=Rg.1 he0
   constructor
   ·
    rintro ⟨i,hne,hi⟩
    refine ⟨TD hi,fun hea=>hne ?_⟩
    obtain ⟨hil,hi0⟩:=Rg.1 hi
    have hn:=h.nodup
    have:=List.getElem_inj (xs:=E.map En.at_) (h₀:=by simpa using hil) (h₁:=by simpa using hjl) hn
    refine this.1 ?_
    simp only [List.getElem_map,hi0,hj0,hea,ha]
   ·
    rintro ⟨he,hea⟩
    obtain ⟨i,hil,hi⟩:=SW he
    refine ⟨i,?_,by rw [QV hil,hi]⟩
    rintro rfl
    rw [hj0] at hi
    exact hea (hi ▸ ha)
  refine ⟨E.eraseIdx j,mJ _ _ _,?_,fun e he=>h.en e (hsub.subset he),fun x=> ?_,sK h.sort a⟩
  ·
   have hs2:((E.eraseIdx j).map En.m).Sublist (E.map En.m):=hsub.map _
   exact ⟨(hs2.map _).nodup h.ok.born,fun e he=>h.ok.old e (hs2.subset he),(hs2.map _).nodup h.ok.keys⟩
  ·
   rw [wJ,← h.rel]
   constructor
   ·
    intro hx
    obtain ⟨e,he,rfl⟩:=RG.1 hx
    obtain ⟨h1,h2⟩:=(hin e).1 he
    exact ⟨RG.2 ⟨e,h1,rfl⟩,h2⟩
   ·
    rintro ⟨hx,hne⟩
    obtain ⟨e,he,rfl⟩:=RG.1 hx
    exact RG.2 ⟨e,(hin e).2 ⟨he,hne⟩,rfl⟩
theorem GOk.put {R:List Blk} {E:List En} {clock:Nat} {G:Gr} (h:GOk R E clock G) (n:En) (hn:EnOk R n): ∃ E',E'.map En.m=(od n.at_ (.agg #[n.tv,n.uv]) clock (E.map En.m)).1∧GOk R E' (od n.at_ (.agg #[n.tv,n.uv]) clock (E.map En.m)).2 (uJ G n.at_ (n.tree,n.uses)):=by
 unfold od
 cases hk:cD n.at_ (E.map En.m) 0 with
 |none=>
  have hno:=qu hk
  have hno' :n.at_∉E.map En.at_:=fun hx=>by
   obtain ⟨e,he,hea⟩:=RG.1 hx
   exact hno e.m (RG.2 ⟨e,he,rfl⟩) hea
  refine ⟨E++ [{ n with born:=clock }],by simp [En.m,En.tv,En.uv],⟨?_,?_,?_⟩,fun e he=> ?_,fun x=> ?_,sH h.sort _ _⟩
  ·
   have hb:=h.ok.born
   rw [Mp] at hb ⊢
   rw [RM,List.nodup_append]
   refine ⟨hb,by simp,fun x hx y hy=> ?_⟩
   simp only [RA,Sq,Rp] at hy
   subst hy
   obtain ⟨e,he,rfl⟩:=RG.1 hx
   have:=h.ok.old e.m (RG.2 ⟨e,he,rfl⟩)
   simp only [En.m] at this
   omega
  ·
   intro e he
   rw [RM] at he
   rcases Ru.1 he with he|he
   ·
    have:=h.ok.old e he;simp only;omega
   ·
    simp only [RA,Sq,Rp] at he
    subst he
    simp [En.m]
  ·
   rw [HJ,RM,List.nodup_append]
   refine ⟨h.nodup,by simp,fun x hx y hy e=> ?_⟩
   simp only [RA,Sq,Rp] at hy
   subst hy;subst e
   exact hno' hx
  ·
   rcases Ru.1 he with he|he
   ·
    exact h.en e he
   ·
    rw [Rp.1 he]
    exact ⟨hn.tree,hn.uses,hn.tl,hn.ul⟩
  ·
   rw [wI,← h.rel,RM,Ru]
   constructor
   ·
    rintro (hx|hx)
    ·
     right
     obtain ⟨e,he,rfl⟩:=RG.1 hx
     exact ⟨hx,fun hea=>hno' (RG.2 ⟨e,he,hea⟩)⟩
    ·
     left
     simpa [En.abs] using hx
   ·
    rintro (rfl|⟨hx,_⟩)
    ·
     right;simp [En.abs]
    ·
     left;exact hx
 |some x=>
  obtain ⟨j,v⟩:=x
  obtain ⟨b,_,hj⟩:=lZ hk
  rw [SX,RZ] at hj
  obtain ⟨e0,he0,hm0⟩:=Sn.1 hj
  have ha:e0.at_=n.at_:=congrArg Prod.fst hm0
  obtain ⟨hjl,hj0⟩:=Rg.1 he0
  have hget: ∀ i,(E.modify j fun e=>{ n with born:=e.born })[i]? =if j=i then (E[i]?).map (fun e=>{ n with born:=e.born }) else E[i]? :=fun i=>by
   rw [Uc]
   split<;>rename_i hji
   ·
    rfl
   ·
    cases E[i]? <;>rfl
  have hin: ∀ e,e∈(E.modify j fun e=>{ n with born:=e.born })↔e={ n with born:=e0.born } ∨(e∈E∧e.at_≠n.at_):=by
   intro e
   constructor
   ·
    intro he
    obtain ⟨i,hi⟩:=TV.1 he
    rw [hget] at hi
    split at hi
    ·
     rename_i hji
     subst hji
     rw [he0] at hi
     left
     exact (Option.some.inj hi).symm
    ·
     rename_i hji
     right
     refine ⟨TD hi,fun hea=>hji ?_⟩
     obtain ⟨hil,hi0⟩:=Rg.1 hi
     have:=List.getElem_inj (xs:=E.map En.at_) (h₀:=by simpa using hjl) (h₁:=by simpa using hil) h.nodup
     refine this.1 ?_
     simp only [List.getElem_map,hi0,hj0,hea,ha]
   ·
    rintro (rfl|⟨he,hea⟩)
    ·
     refine TV.2 ⟨j,?_⟩
     rw [hget,if_pos rfl,he0];rfl
    ·
     obtain ⟨i,hil,hi⟩:=SW he
     refine TV.2 ⟨i,?_⟩
     rw [hget,if_neg,QV hil,hi]
     rintro rfl
     rw [hj0] at hi
     exact hea (hi ▸ ha)
  have hborn:(E.modify j fun e=>{ n with born:=e.born }).map En.born=E.map En.born:=by
   apply TS
   intro i
   rw [RZ,RZ,hget]
   split
   ·
    cases E[i]? <;>rfl
   ·
    rfl
  have hkeys:(E.modify j fun e=>{ n with born:=e.born }).map En.at_=E.map En.at_:=by
   apply TS
   intro i
   rw [RZ,RZ,hget]
   split
   ·
    rename_i hji
    subst hji
    rw [he0]
    simp [ha]
   ·
    rfl
  refine ⟨E.modify j fun e=>{ n with born:=e.born },?_,⟨?_,?_,?_⟩,fun e he=> ?_,fun x=> ?_,sH h.sort _ _⟩
  ·
   apply TS
   intro i
   simp only [Uc,RZ]
   cases E[i]? with
   |none=>simp
   |some e=>by_cases hji:j=i<;>simp [hji,En.m,En.tv,En.uv]
  ·
   rw [Mp,hborn,← Mp];exact h.ok.born
  ·
   intro e he
   obtain ⟨e',he',rfl⟩:=RG.1 he
   have:e'.born∈E.map En.born:=by rw [← hborn];exact RG.2 ⟨e',he',rfl⟩
   obtain ⟨e2,he2,hb2⟩:=RG.1 this
   have:=h.ok.old e2.m (RG.2 ⟨e2,he2,rfl⟩)
   simp only [En.m] at this ⊢
   omega
  ·
   rw [HJ,hkeys];exact h.nodup
  ·
   rcases (hin e).1 he with rfl|⟨he,_⟩
   ·
    exact ⟨hn.tree,hn.uses,hn.tl,hn.ul⟩
   ·
    exact h.en e he
  ·
   rw [wI,← h.rel]
   constructor
   ·
    intro hx
    obtain ⟨e,he,rfl⟩:=RG.1 hx
    rcases (hin e).1 he with rfl|⟨he,hea⟩
    ·
     left;rfl
    ·
     right;exact ⟨RG.2 ⟨e,he,rfl⟩,hea⟩
   ·
    rintro (rfl|⟨hx,hne⟩)
    ·
     exact RG.2 ⟨_,(hin _).2 (.inl rfl),rfl⟩
    ·
     obtain ⟨e,he,rfl⟩:=RG.1 hx
     exact RG.2 ⟨e,(hin e).2 (.inr ⟨he,hne⟩),rfl⟩
theorem ij {o:Option Out} {k:Nat→PS→Option Out} {x:Int × Int} (h:fT o k=some (.error x)) (h1: ∀ y,o=some (.error y)→y.2≠0) (h2: ∀ n p y,k n p=some (.error y)→y.2≠0):x.2≠0:=by
 obtain ⟨r1,hr,⟨e,rfl,he⟩|⟨n,p,rfl,hk⟩⟩:=bG h
 ·
  cases he;exact h1 _ hr
 ·
  exact h2 _ _ _ hk
theorem ut {fin:Int} {name:Tk} {fn:Int} {n:Nat} {p:PS} {x:Int × Int} (h:dg fin name fn n p=some (.error x)):x.2≠0:=by
 unfold dg at h
 dsimp only at h
 split at h
 ·
  cases h;simp
 ·
  split at h
  ·
   cases h;simp
  ·
   split at h
   ·
    cases h;simp
   ·
    cases h
theorem K4 (fin:Int): ∀ (f:Nat) (j:Job) (p:PS) (x:Int × Int),bz fin f j p=some (.error x)→x.2≠0:=by
 intro f
 induction f with
 |zero=>intro j p x h;cases j<;>cases h
 |succ f ih=>
  intro j p x h
  cases j with
  |level k=>
   rw [bz] at h
   split at h
   ·
    exact ih _ _ _ h
   ·
    exact ij h (ih _ _) fun _ _=>ih _ _
  |loop k=>
   rw [bz] at h
   try dsimp only at h
   split at h
   ·
    exact ij h (ih _ _) fun _ _=>ih _ _
   ·
    cases h
  |sign=>
   rw [bz] at h
   try dsimp only at h
   split at h
   ·
    exact ij h (ih _ _) fun _ _ _ h=>by cases h
   ·
    refine ij h (ih _ _) fun _ _ y h=> ?_
    split at h
    ·
     exact ij h (ih _ _) fun _ _ _ h=>by cases h
    ·
     cases h
  |pct=>
   rw [bz] at h
   exact ij h (ih _ _) fun _ _=>ih _ _
  |pctl=>
   rw [bz] at h
   try dsimp only at h
   split at h
   ·
    exact ih _ _ _ h
   ·
    cases h
  |prim=>
   rw [bz] at h
   try dsimp only at h
   split at h
   ·
    cases h
   ·
    split at h
    ·
     cases h
    ·
     split at h
     ·
      refine ij h (ih _ _) fun _ _ y h=> ?_
      split at h
      ·
       cases h;simp
      ·
       cases h
     ·
      split at h
      ·
       split at h
       ·
        cases h;simp
       ·
        split at h
        ·
         cases h;simp
        ·
         split at h
         ·
          exact ut h
         ·
          exact ij h (ih _ _) fun _ _ _ h=>ut h
      ·
       cases h;simp
  |args fn n=>
   rw [bz] at h
   try dsimp only at h
   have hgo: ∀ (p:PS) (y:Int × Int),(if (hdT fin p.l).kind=11 then bz fin f (.args fn (n+1)) p.skip else some (.ok (n+1,p)))=some (.error y)→y.2≠0:=by
    intro p y h
    split at h
    ·
     exact ih _ _ _ h
    ·
     cases h
   split at h
   ·
    exact ij h (ih _ _) fun _ _ _ h=>hgo _ _ h
   ·
    split at h
    ·
     cases h;simp
    ·
     exact hgo _ _ h
theorem pV {x:List Tk × Int × Int} {fin:Int}:(bK x fin).1.length≤x.1.length∧((bK x fin).2.2=0→d9 (bK x fin).1=0):=by
 have hends:=sV fin (20*x.1.length+40) (.level 1) ⟨x.1,[]⟩ ⟨by omega,by omega⟩ (by simp only [Job.c];omega)
 have hgrew:=fun n p hp=>jW fin (20*x.1.length+40) (.level 1) ⟨x.1,[]⟩ n p hp
 unfold bK
 split
 ·
  rename_i h;exact ⟨Rd _,fun h' =>absurd h' h⟩
 ·
  split
  ·
   rename_i h
   obtain ⟨r,hr,_⟩:=hends
   rw [h] at hr;cases hr
  ·
   rename_i a e h
   exact ⟨Rd _,fun h' =>absurd h' (K4 _ _ _ _ _ h)⟩
  ·
   rename_i n p hp
   split
   ·
    exact ⟨Rd _,fun h' =>by cases h'⟩
   ·
    split
    ·
     rename_i hc;exact ⟨Rd _,fun h' =>absurd h' hc⟩
    ·
     rename_i hc
     obtain ⟨⟨m,h1,h2,h3⟩,_,_⟩:=hgrew _ _ hp
     simp only [SP,Rt] at h3
     exact ⟨RB h3 h2,fun _=>by simpa using hc⟩
theorem wC {b:ByteArray} (h:(ofP b).2.2=0) (hf:(ofP b).1.formula=true):d9 (ofP b).1.tree=0:=by
 unfold ofP at h hf ⊢
 split at hf
 ·
  cases hf
 ·
  rename_i h1
  rw [if_neg h1] at h ⊢
  split at hf
  ·
   cases hf
  ·
   rename_i h2
   rw [h2] at h
   simp only at h ⊢
   split at hf
   ·
    cases hf
   ·
    rename_i h3
    rw [if_neg h3] at h ⊢
    have ht:=pV (x:=bq dx (ap (kC b eqB).1)) (fin:=((kC b eqB).1.size:Int))
    generalize bK (bq dx (ap (kC b eqB).1)) ((kC b eqB).1.size:Int)=r at h hf ht ⊢
    obtain ⟨t,at_,e⟩:=r
    simp only at h hf ht ⊢
    split at hf
    ·
     cases hf
    ·
     rename_i h4
     rw [if_neg h4]
     exact ht.2 (by simpa using h4)
theorem Ay (b:ByteArray):(ofP b).1.tree.length≤256:=by
 unfold ofP
 split
 ·
  exact Rd _
 ·
  split
  ·
   exact Rd _
  ·
   split
   ·
    exact Rd _
   ·
    have ht:=(pV (x:=bq dx (ap (kC b eqB).1)) (fin:=((kC b eqB).1.size:Int))).1
    have hl:=nr dx (ap (kC b eqB).1)
    generalize bK (bq dx (ap (kC b eqB).1)) ((kC b eqB).1.size:Int)=r at ht ⊢
    obtain ⟨t,at_,e⟩:=r
    simp only at ht ⊢
    split
    ·
     exact Rd _
    ·
     exact RB ht hl
end Go.SL
namespace Go.SL
open Go Go.RowKit
section
variable {P:Program} {n:Fr} {w0:World} {Q:bP} {s:az} {H S:List Blk} {l:List Oper} {L:Array Bool} {f:Nat} {ty:TypeId} {p:String} {af:Array Edge} {es:List Nat} {gu:Option (Nat × Bool)}
theorem BD {i j k:Nat} {op op' op2:Op} {dst dst' dst2:Option Tmp} {ty' ty2:TypeId} {p' p2:String} {af' af2:Array Edge} {gu' gu2:Option (Nat × Bool)} (hi:l[i]? =some ⟨dst,op,ty,p,af,gu⟩) (hj:l[j]? =some ⟨dst',op',ty',p',af',gu'⟩) (hl:l[k]? =some ⟨dst2,op2,ty2,p2,af2,gu2⟩)
  (hg:gok l s gu=some true) (hg' :gok l s gu' =some true) (hg2:gok l s gu2=some true)
  (hk:es.contains i=true) (hk' :es.contains j=true) (hk2:es.contains k=true) (hr:Region.ready .any l.toArray L= [i,j,k])
  (h:WL P n w0 #[] [⟨dst,op,ty,p,af,none⟩] (ceP S (WE P n w0 l S es Q f (L.setIfInBounds i true))) s H)
  (h' :WL P n w0 #[] [⟨dst',op',ty',p',af',none⟩] (ceP S (WE P n w0 l S es Q f (L.setIfInBounds j true))) s H)
  (h2:WL P n w0 #[] [⟨dst2,op2,ty2,p2,af2,none⟩] (ceP S (WE P n w0 l S es Q f (L.setIfInBounds k true))) s H):WE P n w0 l S es Q (f+1) L s H:=by
 intro a w hs hm hS hcl
 refine ⟨hS,fun h0=>(by rw [hr] at h0;cases h0),fun x hx=> ?_⟩
 rw [hr] at hx
 rcases Rs.1 hx with e|hx
 ·
  subst e
  exact ⟨_,by simpa using hi,mf hi hg hk (by rw [hr];simp) h a w hs hm hcl⟩
 ·
  rcases Rs.1 hx with e|hx
  ·
   subst e
   exact ⟨_,by simpa using hj,mf hj hg' hk' (by rw [hr];simp) h' a w hs hm hcl⟩
  ·
   have e:x=k:=by simpa using hx
   subst e
   exact ⟨_,by simpa using hl,mf hl hg2 hk2 (by rw [hr];simp) h2 a w hs hm hcl⟩
end
end Go.SL
namespace Go.SL
open Go Go.Proofs
attribute [local irreducible] W WL WQ WG WA WX WLI WR WT WC VOp RW thn blk bp scp aR ba bE aF FnIn FnP ceP
theorem NR (R:List Blk):GOk R [] 0 []:=⟨⟨List.nodup_nil,(fun _ h=>by cases h),List.nodup_nil⟩,(fun _ h=>by cases h),(fun _=>Iff.rfl),yJ⟩
def kB (e:En):List Value:= [.int .i64 e.at_.col,.int .i64 e.at_.row,e.tv,e.uv]
theorem DM (e:En):(kB e).length=4:=rfl
def rgB (g:Nat) (A:Option Nat) (cap:Nat) (L:List En):List Blk:= [.box g 167 [sl A L.length cap],.own A 169 4 L.length cap (L.flatMap kB)]
structure RGOk (R:List Blk) (L:List En) (G:Gr):Prop where
 en: ∀ e∈L,EnOk R e
 rel:L.map En.abs=G
theorem RGOk.len {R:List Blk} {L:List En} {G:Gr} (h:RGOk R L G):L.length=G.length:=by rw [← h.rel,RP]
end Go.SL
namespace Go.SL
open Go Go.RowKit
section
variable {P:Program} {n:Fr} {w0:World} {Q:bP} {s:az} {H S:List Blk} {l:List Oper} {es:List Nat} {f:Nat} {L:Array Bool}
def Bg (P:Program) (n:Fr) (w0:World) (l:List Oper) (S:List Blk) (es:List Nat) (Q:bP) (f:Nat) (L:Array Bool) (s:az) (H:List Blk) (i:Nat):Prop:=
 ∃ o,l[i]? =some o∧ ∀ a w,St n s a→Mem w0 w H→ClosedL l.toArray L→EOp P l.toArray es [] (fun w=>Mem w0 w S) (AnyE P l.toArray es [] (fun w=>Mem w0 w S) (post n w0 Q .normal) f (L.setIfInBounds i true)) i o a w
theorem Ps {i:Nat} {op:Op} {dst:Option Tmp} {ty:TypeId} {p:String} {af:Array Edge} {gu:Option (Nat × Bool)} (hi:l[i]? =some ⟨dst,op,ty,p,af,gu⟩) (hg:gok l s gu=some true) (hk:es.contains i=true) (hr:(Region.ready .any l.toArray L).contains i=true)
  (h:WL P n w0 #[] [⟨dst,op,ty,p,af,none⟩] (ceP S (WE P n w0 l S es Q f (L.setIfInBounds i true))) s H):Bg P n w0 l S es Q f L s H i:=
 ⟨_,hi,fun a w hs hm hcl=>mf hi hg hk hr h a w hs hm hcl⟩
theorem BF {js:List Nat} (hr:Region.ready .any l.toArray L=js) (hne:js≠ []) (h: ∀ j∈js,Bg P n w0 l S es Q f L s H j):WE P n w0 l S es Q (f+1) L s H:=by
 intro a w hs hm hS hcl
 refine ⟨hS,fun h0=>absurd (hr.symm.trans h0) hne,fun k hk=> ?_⟩
 rw [hr] at hk
 obtain ⟨o,ho,hE⟩:=h k hk
 exact ⟨o,by simpa using ho,hE a w hs hm hcl⟩
theorem zI {i j k:Nat} (hr:Region.ready .any l.toArray L= [i,j,k]) (hi:Bg P n w0 l S es Q f L s H i) (hj:Bg P n w0 l S es Q f L s H j) (hk:Bg P n w0 l S es Q f L s H k):WE P n w0 l S es Q (f+1) L s H:=
 BF hr (by simp) fun x hx=>by
  rcases Rs.1 hx with rfl|hx
  ·
   exact hi
  rcases Rs.1 hx with rfl|hx
  ·
   exact hj
  ·
   rw [Rp.1 hx];exact hk
theorem MQ {i j k m:Nat} (hr:Region.ready .any l.toArray L= [i,j,k,m]) (hi:Bg P n w0 l S es Q f L s H i) (hj:Bg P n w0 l S es Q f L s H j) (hk:Bg P n w0 l S es Q f L s H k) (hm:Bg P n w0 l S es Q f L s H m):WE P n w0 l S es Q (f+1) L s H:=
 BF hr (by simp) fun x hx=>by
  rcases Rs.1 hx with rfl|hx
  ·
   exact hi
  rcases Rs.1 hx with rfl|hx
  ·
   exact hj
  rcases Rs.1 hx with rfl|hx
  ·
   exact hk
  ·
   rw [Rp.1 hx];exact hm
end
end Go.SL
namespace Go.SL
open Go Go.Proofs
attribute [local irreducible] W WL WQ WG WA WX WLI WR WT WC VOp RW thn blk bp scp aR ba bE aF FnIn FnP ceP
theorem RGOk.keys {R:List Blk} {L:List En} {G:Gr} (h:RGOk R L G):L.map En.at_=bW G:=by
 rw [bW,← h.rel,Tl];rfl
end Go.SL
namespace Go.SL
open Go
structure EntOk (e:Rf × List Nd × List Us):Prop where
 at_:e.1.valid=true
 tree:d9 e.2.1=0
 uses:e.2.2=ed e.2.1
 len:e.2.1.length≤256
structure GrOk (G:Gr):Prop where
 sort:SortG G
 ent: ∀ e∈G,EntOk e
theorem Dp:GrOk []:=⟨yJ,fun _ h=>by cases h⟩
theorem GrOk.set {G:Gr} (h:GrOk G) (a:Rf) (b:ByteArray):GrOk (jp G a b).1:=by
 refine ⟨IR h.sort a b,?_⟩
 unfold jp
 split
 ·
  exact h.ent
 ·
  rename_i hv
  split
  ·
   exact h.ent
  ·
   rename_i he
   split
   ·
    exact fun e he=>h.ent e (wJ.1 he).1
   ·
    rename_i hf
    intro e hm
    rcases wI.1 hm with rfl|⟨hm,_⟩
    ·
     exact ⟨by simpa using hv,wC (by simpa using he) (by simpa using hf),rfl,Ay b⟩
    ·
     exact h.ent e hm
theorem Ck (G:Gr) (a:Rf) (b:ByteArray):(jp G a b).1.length≤G.length+1:=by
 unfold jp
 split
 ·
  exact Tz _
 ·
  split
  ·
   exact Tz _
  ·
   split
   ·
    exact RB (TW _ _) (Tz _)
   ·
    simp only [uJ,QT,Rx]
    have:(G.filter fun e=>bw e.1 a).length+(G.filter fun e=>bw a e.1).length≤G.length:=by
     induction G with
     |nil=>simp
     |cons e r ih=>
      simp only [Tx,Rx]
      cases h1:bw e.1 a
      ·
       cases h2:bw a e.1<;>simp<;>omega
      ·
       rw [kU h1];simp;omega
    omega
theorem Iv {c r:Int}:valid c r=true↔1≤c∧c≤1024∧1≤r∧r≤1024:=by
 simp only [valid,Rk,decide_eq_true_eq]
 omega
theorem Jg {G:Gr} {c:Rf}:c∈bW G↔ ∃ e∈G,e.1=c:=by simp [bW]
theorem y7 {G:Gr} (h:GrOk G) {d:Rf} (hd:d∈bW G):d.valid=true:=by
 obtain ⟨e,he,rfl⟩:=Jg.1 hd
 exact (h.ent e he).at_
theorem ID {G:Gr} (h:GrOk G) (c:Rf):(gk G c).length≤256:=by
 unfold gk
 cases hl:wN G c with
 |none=>simp
 |some x=>
  have h1:=h.ent _ ((qt h.sort).1 hl)
  simp only [Sm,S5]
  rw [h1.uses]
  exact RB (ic _ _) h1.len
end Go.SL
namespace Go.SL
open Go Go.Proofs
attribute [local irreducible] W WL WQ WG WA WX WLI WR WT WC WE VOp RW thn blk bp scp aR ba bE aF FnIn FnP ceP
theorem qd {G:Gr} (hG:GrOk G) (d:Rf):(gk G d).length≤1000:=RB (ID hG d) (by decide)
end Go.SL
namespace Go.SL
open Go Go.Proofs
attribute [local irreducible] W WL WQ WG WA WX WLI WR WT WC VOp RW thn blk bp scp aR ba bE aF FnP ceP
structure Gp where
 gg:Nat
 gm:Nat
 E:List En
 clock:Nat
 gr:Nat
 A:Option Nat
 cap:Nat
 Q:List En
 R:List Blk
end Go.SL
namespace Go.SL
open Go Go.Proofs
attribute [local irreducible] W WL WQ WG WA WX WLI WR WT WC WE VOp RW thn blk bp scp aR ba bE aF FnIn FnP ceP
def JM (p q:Pz):Int:=if p.rect.r1≠q.rect.r1 then p.rect.r1 - q.rect.r1 else p.rect.c1 - q.rect.c1
def vT (p:Pz):Prop:=0≤p.rect.r1∧p.rect.r1≤100000∧0≤p.rect.c1∧p.rect.c1≤100000
theorem Og (p q:Pz) (hp:vT p) (hq:vT q) (w:World):aA Tryz.prog 185 [.agg (dA p).toArray,.agg (dA q).toArray] w (.int .i64 (JM p q)):=by
 refine aq Tryz.func185 rfl Tryz.ntmps185 rfl ?_
 obtain ⟨h1,h2,h3,h4⟩:=hp
 obtain ⟨h5,h6,h7,h8⟩:=hq
 repeat' (first|refine sT ?_|refine sJ ?_|refine sM fun _=> ?_|(refine sC ?_ ?_<;>intro hb<;>try omega)|fail)
 all_goals first
  |(exfalso;omega)
  |((refine rT1 ?_);rw [JM,if_pos hb];done)
  |((refine rT1 ?_);rw [JM,if_neg (fun h=>h hb)];done)
  |((refine rT1 ?_);rw [JM,if_neg (fun h=>hb h)];done)
structure InZ (L:List Pz):Prop where
 sort:L.Pairwise LK
 small: ∀ p∈L,vT p
 len:L.length≤1000000
theorem InZ.cmp {L:List Pz} (h:InZ L) {i j:Nat} (hij:i≤j) (hj:j<L.length): ∃ z:Int,0≤z∧ ∀ w,aA Tryz.prog 185 [.agg (dA L[j]).toArray,.agg (dA (L[i]'(by omega))).toArray] w (.int .i64 z):=by
 refine ⟨_,?_,fun w=>Og _ _ (h.small _ (RN hj)) (h.small _ (RN _)) w⟩
 by_cases e:i=j
 ·
  subst e;simp [JM]
 ·
  have:=List.pairwise_iff_getElem.1 h.sort i j (by omega) hj (by omega)
  unfold JM
  rcases this with h1|⟨h1,h2⟩
  ·
   rw [if_pos (by omega)];omega
  ·
   rw [if_neg (by omega)];omega
abbrev Oh:Value:= .func (.func 185) #[] #[]
set_option maxHeartbeats 4000000 in
theorem NN (L:List Pz) (hL:InZ L) (lv:Value) (w:World) (hl:Reads w lv L.length (L.flatMap dA)) (a b:Nat) (hb:b≤L.length) (ha:a≤L.length):
  aA Tryz.prog 279 [lv,.int .i64 (a:Int),.int .i64 (b:Int),Oh] w (.tuple #[]):=by
 obtain ⟨Al,cl,rfl,hl1,hl2,hl3⟩:=hl
 refine aq Tryz.func279 rfl Tryz.ntmps279 rfl ?_
 have hlen:=hL.len
 repeat' (first|refine sT ?_|refine sS ?_|refine sN ?_|refine sM fun _=> ?_|(refine sC ?_ ?_<;>intro hb<;>try omega)|fail)
 refine aw [0,1,2,3] rfl (fun i:Nat=> [(8,.int .i64 (i:Int))]) (fun _=> []) (fun i=>a+1≤i∧i≤max b (a+1)) (fun i=>max b (a+1) - i) (a+1) ⟨Re _,by omega⟩ sB mS ?_
 rintro i ⟨hi,hi2⟩
 by_cases hlt:i<b
 ·
  obtain ⟨gl,ol,rfl,hrl⟩:=hl3 (by omega)
  obtain ⟨z,hz,hc⟩:=hL.cmp (i:=i - 1) (j:=i) (by omega) (by omega)
  have h1:=hrl.elem dh i (by omega)
  have h2:=hrl.elem dh (i - 1) (by omega)
  generalize L[i]'(by omega)=p at h1 hc
  generalize L[i - 1]'(by omega)=q at h2 hc
  repeat' (first|refine sT ?_|refine sS ?_|refine sN ?_|refine sM fun _=> ?_|(refine sC ?_ ?_<;>intro hb<;>try omega)|fail)
  all_goals try (exfalso;omega)
  refine aw [0,1,2,3,8] rfl (fun _:Unit=> [(9,.int .i64 (i:Int))]) (fun _=> []) (fun _=>True) (fun _=>0) () trivial sB mS ?_
  rintro _ _
  repeat' (first|(apply ib (id:=4);kernel_rfl;kernel_rfl)|(apply aK (d:=25);exact rfl;apply aj (j:=i);exact rfl;exact rfl;omega)|(apply aK (d:=30);exact rfl;apply aj (j:=i - 1);exact rfl;exact rfl;omega)|(apply aK (d:=26);exact rfl;apply aC (xs:=dA p);exact rfl;exact h1;exact rfl)|(apply aK (d:=31);exact rfl;apply aC (xs:=dA q);exact rfl;exact h2;exact rfl)|(apply iM;exact rfl;exact rfl;infer_instance;exact rfl;(intro w' _;exact hc w'))|refine sT ?_|refine sS ?_|refine sQ ?_|refine sN ?_|refine sNQ ?_|refine sO ?_|refine sOQ ?_|refine sD ?_|refine sM fun _=> ?_|(refine sC ?_ ?_<;>intro hb<;>try omega)|(refine sCQ ?_ ?_<;>intro hb<;>try omega)|fail)
  all_goals first
   |(exfalso;omega)
   |(refine ⟨i+1,⟨by omega,by omega⟩,by omega,by exact sB,by exact sB,by exact mS⟩;done)
 ·
  repeat' (first|refine sT ?_|refine sS ?_|refine sM fun _=> ?_|(refine sC ?_ ?_<;>intro hb<;>try omega)|fail)
  all_goals first
   |(exfalso;omega)
   |(exact gC eIO rfl (MSub.nil _) rfl)
theorem Ej (L M:List Ev) (lv mv:Value) (w:World) (hl:Reads w lv L.length (L.flatMap dK)) (hm:Reads w mv M.length (M.flatMap dK)):
  aA Tryz.prog 56 [lv,mv] w (.bool (decide (L=M))):=by
 obtain ⟨Al,cl,rfl,hl1,hl2,hl3⟩:=hl
 obtain ⟨Am,cm,rfl,hm1,hm2,hm3⟩:=hm
 refine aq Tryz.func56 rfl Tryz.ntmps56 rfl ?_
 by_cases hlen:L.length=M.length
 ·
  repeat' (first|refine sT ?_|refine sS ?_|refine sM fun _=> ?_|(refine sC ?_ ?_<;>intro hb<;>try omega)|fail)
  refine fD (fun i:Nat=> [(0,.slice Al L.length cl),(1,.slice Am M.length cm),(5,.int .i64 (i:Int))]) (fun _=> []) (fun i=>i≤L.length∧decide (L=M)=decide (L.drop i=M.drop i)) (fun i=>L.length - i) 0 ⟨by omega,rfl⟩ ?_ ?_ ?_
  ·
   exact sB
  ·
   exact mS
  ·
   rintro i ⟨hi,hrec⟩
   by_cases hlt:i<L.length
   ·
    have hlt2:i<M.length:=by omega
    obtain ⟨gl,ol,rfl,hrl⟩:=hl3 (by omega)
    obtain ⟨gm,om,rfl,hrm⟩:=hm3 (by omega)
    have he1:=hrl.elem fS i hlt
    have he2:=hrm.elem fS i hlt2
    rw [rN hlt hlt2,← Mf] at hrec
    repeat' (first|(apply aK;exact rfl;apply aj;exact rfl;exact rfl;(first|exact hlt|exact hlt2))|(apply aK;exact rfl;apply aC;exact rfl;(first|exact he1|exact he2);exact rfl)|(apply aK;exact rfl;apply M4;exact rfl;exact rfl)|(apply ak;exact rfl;apply gJ;exact rfl;exact rfl;(simp only [maxLen] at*;omega))|refine sT ?_|refine sS ?_|refine sQ ?_|refine sD ?_|refine sM fun _=> ?_|(refine sC ?_ ?_<;>intro hb<;>try omega)|(refine sCQ ?_ ?_<;>intro hb<;>try omega)|fail)
    all_goals first
     |(exfalso;omega)
     |((refine rT1 ?_);rw [hrec];simp_all;done)
     |(refine ⟨i+1,⟨by omega,?_⟩,by omega,by exact sB,by exact mS⟩;rw [hrec];simp_all;done)
   ·
    have e:i=L.length:=by omega
    subst e
    repeat' (first|refine sT ?_|refine sS ?_|refine sM fun _=> ?_|(refine sC ?_ ?_<;>intro hb<;>try omega)|fail)
    (refine rT1 ?_)
    rw [hrec,RK,hlen,RK]
    rfl
 ·
  repeat' (first|refine sT ?_|refine sS ?_|refine sM fun _=> ?_|(refine sC ?_ ?_<;>intro hb<;>try omega)|fail)
  (refine rT1 ?_)
  rw [decide_eq_false]
  intro e
  exact hlen (congrArg List.length e)
theorem Ei (L M:List Gn) (lv mv:Value) (w:World) (hl:Reads w lv L.length (L.flatMap bX)) (hm:Reads w mv M.length (M.flatMap bX)):
  aA Tryz.prog 55 [lv,mv] w (.bool (decide (L=M))):=by
 obtain ⟨Al,cl,rfl,hl1,hl2,hl3⟩:=hl
 obtain ⟨Am,cm,rfl,hm1,hm2,hm3⟩:=hm
 refine aq Tryz.func55 rfl Tryz.ntmps55 rfl ?_
 by_cases hlen:L.length=M.length
 ·
  repeat' (first|refine sT ?_|refine sS ?_|refine sM fun _=> ?_|(refine sC ?_ ?_<;>intro hb<;>try omega)|fail)
  refine fD (fun i:Nat=> [(0,.slice Al L.length cl),(1,.slice Am M.length cm),(5,.int .i64 (i:Int))]) (fun _=> []) (fun i=>i≤L.length∧decide (L=M)=decide (L.drop i=M.drop i)) (fun i=>L.length - i) 0 ⟨by omega,rfl⟩ ?_ ?_ ?_
  ·
   exact sB
  ·
   exact mS
  ·
   rintro i ⟨hi,hrec⟩
   by_cases hlt:i<L.length
   ·
    have hlt2:i<M.length:=by omega
    obtain ⟨gl,ol,rfl,hrl⟩:=hl3 (by omega)
    obtain ⟨gm,om,rfl,hrm⟩:=hm3 (by omega)
    have he1:=hrl.elem eO i hlt
    have he2:=hrm.elem eO i hlt2
    rw [rN hlt hlt2,← Me] at hrec
    repeat' (first|(apply aK;exact rfl;apply aj;exact rfl;exact rfl;(first|exact hlt|exact hlt2))|(apply aK;exact rfl;apply aC;exact rfl;(first|exact he1|exact he2);exact rfl)|(apply aK;exact rfl;apply M3;exact rfl;exact rfl)|(apply ak;exact rfl;apply gJ;exact rfl;exact rfl;(simp only [maxLen] at*;omega))|refine sT ?_|refine sS ?_|refine sQ ?_|refine sD ?_|refine sM fun _=> ?_|(refine sC ?_ ?_<;>intro hb<;>try omega)|(refine sCQ ?_ ?_<;>intro hb<;>try omega)|fail)
    all_goals first
     |(exfalso;omega)
     |((refine rT1 ?_);rw [hrec];simp_all;done)
     |(refine ⟨i+1,⟨by omega,?_⟩,by omega,by exact sB,by exact mS⟩;rw [hrec];simp_all;done)
   ·
    have e:i=L.length:=by omega
    subst e
    repeat' (first|refine sT ?_|refine sS ?_|refine sM fun _=> ?_|(refine sC ?_ ?_<;>intro hb<;>try omega)|fail)
    (refine rT1 ?_)
    rw [hrec,RK,hlen,RK]
    rfl
 ·
  repeat' (first|refine sT ?_|refine sS ?_|refine sM fun _=> ?_|(refine sC ?_ ?_<;>intro hb<;>try omega)|fail)
  (refine rT1 ?_)
  rw [decide_eq_false]
  intro e
  exact hlen (congrArg List.length e)
end Go.SL
namespace Go.SL
open Go Go.Proofs
attribute [local irreducible] W WL WQ WG WA WX WLI WR WT WC VOp RW thn blk bp scp aR ba bE aF FnP ceP
theorem K9 {f:FuncId} {args:List Value} {w0:World} {B H:List Blk} {φ:Value→Option Nat→Nat→Prop} {t sz n:Nat} {cs:List Value}
  (h: ∀ F,FnIn Tryz.prog f args w0 (B++F) fun v H' => ∃ A cap,φ v A cap∧H' = .own A t sz n cap cs::(B++F)) (hs:MSub B H):
  FnIn Tryz.prog f args w0 H fun v H' => ∃ A cap,φ v A cap∧H' = .own A t sz n cap cs::H:=by
 obtain ⟨F,hp⟩:=hs
 refine ((h F).msub (MSub.of_perm hp)).re ?_
 rintro v H' ⟨A,cap,hv,rfl⟩
 exact ⟨_,MSub.of_perm (hp.symm.cons _),A,cap,hv,rfl⟩
section
variable {R:List Blk} {E:List En} {clock:Nat} {G:Gr} (h:GOk R E clock G) (gg gm:Nat) {H:List Blk} (hs:MSub (gB gg gm (E.map En.m) clock++R) H) (w0:World)
include h hs
theorem GOk.uses_any (c:Rf):FnIn Tryz.prog 125 [.pointer (some ⟨gg,0,none⟩),mY c] w0 H fun v H' => ∃ A cap,v=sl A (gk G c).length cap∧H' = .own A 159 6 (gk G c).length cap ((gk G c).flatMap dI)::H:=by
 refine K9 (φ:=fun v A cap=>v=sl A (gk G c).length cap) (fun F=> ?_) hs
 have h1:=Ol gg gm clock E c (R++F) w0 (fun e he=>(h.en e he).sub (MSub.appL R F))
 rw [h.uses] at h1
 rw [Rz]
 exact h1
variable (hl:G.length≤900)
include hl
theorem GOk.formulas_any:FnIn Tryz.prog 123 [.pointer (some ⟨gg,0,none⟩)] w0 H fun v H' => ∃ A cap,v=sl A (bW G).length cap∧H' = .own A 50 2 (bW G).length cap ((bW G).flatMap aS)::H:=by
 refine K9 (φ:=fun v A cap=>v=sl A (bW G).length cap) (fun F=> ?_) hs
 have h1:=El gg gm clock (E.map En.m) h.ok (by rw [RP,h.len];omega) (R++F) w0
 rw [h.forms,show (E.map En.m).length=(bW G).length by rw [RP,h.len,bW,RP]] at h1
 rw [Rz]
 exact h1
variable (hG:GrOk G)
include hG
end
end Go.SL
namespace Go.SL
open Go Go.Proofs
attribute [local irreducible] W WL WQ WG WA WX WLI WR WT WC VOp RW thn blk bp scp aR ba bE aF FnIn FnP ceP
def eJ (a:Rf) (x:En) (st:List En × Bool) (e:En):List En × Bool:=
 let st1:=if st.2=false∧bw a e.at_=true then (st.1++ [x],true) else st
 (if e.at_≠a then st1.1++ [e] else st1.1,st1.2)
def Ga (x:En) (st:List En × Bool):List En:=if st.2 then st.1 else st.1++ [x]
def xV (a:Rf) (x:En) (d:Bool) (L:List En):List En:=Ga x (L.foldl (eJ a x) ([],d))
theorem w7 (a:Rf) (x:En): ∀ (L:List En) (O:List En),L.foldl (eJ a x) (O,true)=(O++L.filter (fun e=>decide (e.at_≠a)),true)
 | [],O=>by simp
 |e::r,O=>by
  rw [Su]
  have:eJ a x (O,true) e=(if e.at_≠a then O++ [e] else O,true):=by simp [eJ]
  rw [this,w7 a x r,Tx]
  by_cases h:e.at_≠a
  ·
   simp [h]
  ·
   simp [h]
theorem KP (a:Rf) (x:En) (L:List En):(xV a x true L).map En.abs=yf (L.map En.abs) a:=by
 unfold xV
 rw [w7]
 simp only [Ga,if_true,QW,yf,List.filter_map]
 rfl
theorem w5 {a:Rf} {x:En}: ∀ (L:List En) (O:List En),SortG (L.map En.abs)→
  Ga x (L.foldl (eJ a x) (O,false))=O++(L.filter (fun e=>bw e.at_ a)++x::L.filter fun e=>bw a e.at_)
 | [],O,_=>by simp [Ga]
 |e::r,O,hs=>by
  rw [RA] at hs
  obtain ⟨h1,h2⟩:=RV.1 hs
  rw [Su,Tx,Tx]
  cases hl:bw a e.at_ with
  |true=>
   have hne:e.at_≠a:=(lX hl).symm
   have hge:bw e.at_ a=false:=kU hl
   have hst:eJ a x (O,false) e=(O++ [x]++ [e],true):=by simp [eJ,hl,hne]
   have hall: ∀ f∈r,bw a f.at_=true:=fun f hf=>uh hl (h1 f.abs (RG.2 ⟨f,hf,rfl⟩))
   have e1:r.filter (fun f=>decide (f.at_≠a))=r:=List.filter_eq_self.2 fun f hf=>by simpa using (lX (hall f hf)).symm
   have e2:r.filter (fun f=>bw f.at_ a)= []:=List.filter_eq_nil_iff.2 fun f hf=>by rw [kU (hall f hf)];simp
   have e3:r.filter (fun f=>bw a f.at_)=r:=List.filter_eq_self.2 hall
   rw [hst,w7,hge,e1,e2,e3]
   simp [Ga]
  |false=>
   by_cases hne:e.at_=a
   ·
    have hst:eJ a x (O,false) e=(O,false):=by simp [eJ,hne,o6]
    have hle:bw e.at_ a=false:=by rw [hne];exact o6 a
    rw [hst,w5 r O h2,hle]
    simp
   ·
    have hst:eJ a x (O,false) e=(O++ [e],false):=by simp [eJ,hl,hne]
    have hle:bw e.at_ a=true:=by
     rcases Dg hne with h|h
     ·
      exact h
     ·
      rw [hl] at h;cases h
    rw [hst,w5 r _ h2,hle]
    simp
theorem KO {a:Rf} {x:En} (hx:x.at_=a) {L:List En} (hs:SortG (L.map En.abs)):(xV a x false L).map En.abs=uJ (L.map En.abs) a (x.tree,x.uses):=by
 unfold xV
 rw [w5 L [] hs,QW,RM,RA,uJ,List.filter_map,List.filter_map]
 subst hx
 rfl
theorem IM {a:Rf} {x:En} {st:List En × Bool} {e f:En} (h:f∈(eJ a x st e).1):f∈st.1∨f=x∨f=e:=by
 have h1: ∀ q:List En,f∈(if e.at_≠a then q++ [e] else q)→f∈q∨f=e:=by
  intro q hq
  split at hq
  ·
   rcases Ru.1 hq with hq|hq
   ·
    exact .inl hq
   ·
    exact .inr (Rp.1 hq)
  ·
   exact .inl hq
 unfold eJ at h
 dsimp only at h
 rcases h1 _ h with h|h
 ·
  split at h
  ·
   rcases Ru.1 h with h|h
   ·
    exact .inl h
   ·
    exact .inr (.inl (Rp.1 h))
  ·
   exact .inl h
 ·
  exact .inr (.inr h)
theorem wZ {a:Rf} {x:En}: ∀ (L:List En) (st:List En × Bool) {f:En},f∈(L.foldl (eJ a x) st).1→f∈st.1∨f=x∨f∈L
 | [],_,_,h=> .inl h
 |e::r,st,f,h=>by
  rw [Su] at h
  rcases wZ r _ h with h|h|h
  ·
   rcases IM h with h|h|h
   ·
    exact .inl h
   ·
    exact .inr (.inl h)
   ·
    exact .inr (.inr (h ▸ QY))
  ·
   exact .inr (.inl h)
  ·
   exact .inr (.inr (Rq _ h))
theorem KN {a:Rf} {x:En} {d:Bool} {L:List En} {f:En} (h:f∈xV a x d L):f=x∨f∈L:=by
 unfold xV Ga at h
 split at h
 ·
  rcases wZ L _ h with h|h|h
  ·
   cases h
  ·
   exact .inl h
  ·
   exact .inr h
 ·
  rcases Ru.1 h with h|h
  ·
   rcases wZ L _ h with h|h|h
   ·
    cases h
   ·
    exact .inl h
   ·
    exact .inr h
  ·
   exact .inl (Rp.1 h)
theorem Dr {l:List Int} {fin:Int}: ∀ n∈(bK (bq bB l) fin).1,wfN n:=by
 have hnum:=tP l
 generalize bq bB l=x at hnum
 unfold bK
 split
 ·
  exact fun _ h=>by cases h
 ·
  split
  ·
   exact fun _ h=>by cases h
  ·
   exact fun _ h=>by cases h
  ·
   rename_i n p hp
   have hwf:=zU _ _ _ _ _ _ hp (⟨hnum,fun _ h=>by cases h⟩:Wf ⟨x.1,[]⟩)
   split
   ·
    exact fun _ h=>by cases h
   ·
    split
    ·
     exact fun _ h=>by cases h
    ·
     exact hwf.2
theorem PF (b:ByteArray): ∀ n∈(ofP b).1.tree,wfN n:=by
 rw [Ly]
 unfold ofR
 split
 ·
  exact fun _ h=>by cases h
 ·
  split
  ·
   exact fun _ h=>by cases h
  ·
   split
   ·
    exact fun _ h=>by cases h
   ·
    have h:=Dr (l:=ap (sub b 1 b.size)) (fin:=((sub b 1 b.size).size:Int))
    generalize bK (bq bB (ap (sub b 1 b.size))) ((sub b 1 b.size).size:Int)=r at h
    obtain ⟨t,a,e⟩:=r
    dsimp only at h ⊢
    split
    ·
     exact fun _ h=>by cases h
    ·
     exact h
end Go.SL
