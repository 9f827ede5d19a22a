/-
  Lemmas and walks, put together: W19 C6 B4 W36 B5 C7 Lq.
-/
import Derived.Test.YtpoafcnhplbkmaaGreatDoorKs11
import Derived.Test.YtpoafcnhplbkmaaGreatDoorKs12
import Derived.Test.YtpoafcnhplbkmaaGreatDoorKs13
set_option linter.unusedSimpArgs false
set_option linter.unusedVariables false
set_option maxRecDepth 20000
set_option maxHeartbeats 16000000
namespace Go.SL
open Go Go.Proofs
attribute [local irreducible] W WL WQ WG WA VOp thn blk bH aV FnAt FnIn
theorem Cl {n:Nd} {st l top:List STree} (hs:gW n st= .inr (l,top)):(top.length:Int)=below n∧st=l++top:=by
 unfold gW at hs;split at hs
 ·cases hs
 rename_i hf;split at hs
 ·cases hs
 rename_i hb;split at hs
 ·cases hs
 rename_i hd;simp only [Sum.inr.injEq,Prod.mk.injEq] at hs;obtain ⟨rfl,rfl⟩:=hs;have h0:=(sL (n:=n) (by omega)).1;refine ⟨?_,(Sd _ _).symm⟩;simp only [fL,RE];omega
theorem EC {n:Nd} {r:List Nd} {st st' :List STree} {h h' :iW} (hw:fJ (n::r) st h=(0,st',h')): ∃ l top,gW n st= .inr (l,top)∧fJ r (l++ [bD n top]) (h++ [(top,bD n top)])=(0,st',h'):=by
 rw [fJ] at hw
 cases hsf:gW n st with
 |inl e=>
  rw [hsf] at hw;simp only [Prod.mk.injEq] at hw;obtain ⟨rfl,_⟩:=hw;exfalso;unfold gW at hsf;split at hsf
  ·injection hsf with hs;exact absurd hs (by assumption)
  ·split at hsf
   ·cases hsf
   ·split at hsf<;>cases hsf
 |inr x=>
  obtain ⟨l,top⟩:=x;rw [hsf] at hw;exact ⟨l,top,rfl,hw⟩
theorem tR {st:List STree} (hp: ∀ S∈st,0<S.ns.length):st.length≤(ba st).length:=by
 induction st with
 |nil=>exact QZ _
 |cons S r ih=>
  have h1:=hp S QY;have h2:=ih fun T hT=>hp T (Rh _ hT);rw [fZ,QT,Rk];omega
theorem Cu (o:List Int) (ks:List Nat) (j:Nat) (h:j<ks.length) (v:Int):gN o (ks.take (j+1)) v=(gN o (ks.take j) v).set ks[j] v:=by
 unfold gN;rw [Ra h,UQ]
 rfl
def jb (l:List Int):List Value:=l.map (Value.int .i64)
theorem AF (l:List Int):(jb l).length=l.length:=by simp [jb]
theorem Jw {l:List Int} {i:Nat} {u:Int} (h:l[i]? =some u):(jb l)[i]? =some (.int .i64 u):=by simp [jb,h]
theorem Jv (l:List Int) (i:Nat) (v:Int):(jb l).set i (.int .i64 v)=jb (l.set i v):=by simp [jb,List.map_set]
theorem Ju (l:List Nat): ∀ u∈kT l,u.oneCell' =true:=by
 intro u hu;obtain ⟨a,_,rfl⟩:=RG.1 hu
 rfl
theorem Gz (L:List Nd) (hlen:L.length≤256) (S:STree) (Hi:iW) (hW:Whole L S Hi) (tv:Value) (w:World) (ht:Reads w tv L.length (L.flatMap bf)):
 FnAt Tryz.prog 158 [tv] w fun v H=> ∃ A cap,v=sl A L.length cap∧H= [.own A 3 1 L.length cap (jb (kM Hi))]:=by
 have ht' :=ht;obtain ⟨At,ct,rfl,ht1,ht2,ht3⟩:=ht;refine ay Tryz.func158 rfl Tryz.ntmps158 rfl ?_;refine aI 3 1 ?_;refine aI 3 1 ?_;repeat' (first|refine sT ?_|refine sM fun _=>?_|(refine sC ?_ ?_<;>intro hb<;>try omega)|fail)
 refine aw [0] rfl (fun x:Nat × List STree × iW × (Option Nat × Nat) × (Option Nat × Nat)=> [(3,sl x.2.2.2.1.1 x.1 x.2.2.2.1.2),(4,sl x.2.2.2.2.1 x.2.1.length x.2.2.2.2.2),(5,.int .i64 (x.1:Int))])
  (fun x=> [.own x.2.2.2.1.1 3 1 x.1 x.2.2.2.1.2 (jb (kM x.2.2.1)),.own x.2.2.2.2.1 3 1 x.2.1.length x.2.2.2.2.2 (kT (aL 0 x.2.1))])
  (fun x=>x.1≤L.length∧Inv (L.take x.1) x.2.1 x.2.2.1∧ParOk x.2.1 x.2.2.1∧fJ (L.drop x.1) x.2.1 x.2.2.1=(0,[S],Hi)) (fun x=>L.length - x.1) (0,[],[],(none,0),(none,0))
  ⟨by omega,Inv.nil,⟨rfl,fun j y hy=>(by simp at hy),fun k hk=>(by simp [aL] at hk)⟩,hW.walk⟩ sB mS ?_
 rintro ⟨i,st,h,⟨A1,c1⟩,⟨A2,c2⟩⟩ ⟨hi,hI,hP,hw⟩;dsimp only at hi hI hP hw ⊢;have hhl:h.length=i:=by rw [hI.len,RI];omega
 by_cases hlt:i<L.length
 ·rw [Rn hlt] at hw;obtain ⟨l,top,hs,hw'⟩:=EC hw;obtain ⟨hbl,hst⟩:=Cl hs;obtain ⟨_,hlen2,hlo,hlp,htp⟩:=hI.facts hs;have hP' :=wu hI hP hs;have hI' :=(hI.step hs).1;have htk:L.take (i+1)=L.take i++ [L[i]]:=Ra hlt;rw [← htk] at hI';obtain ⟨gt,ot,rfl,hrt⟩:=ht3 (by omega);have hrn:=hrt.elem cu i hlt;have hbel:=fun w=>hbl ▸ tH L[i] w;generalize L[i]=n at hrn hbel hs hw' hbl hlo hP' hI';have hkids:aL 0 (l++top)=aL 0 l++dG h.length (top,bD n top):=by rw [dQ,dG,hlo,Rv]
  have hkl:(dG h.length (top,bD n top)).length=top.length:=l7 _ _;have hpar:=ma h (top,bD n top);have hkb: ∀ k∈dG h.length (top,bD n top),k<i:=fun k hk=>by
   rw [dG,hlo] at hk;have:=(kI htp hk).2;omega
  have hset:=fun (o:List Int) (j:Nat) (hj:j<(dG h.length (top,bD n top)).length) (v:Int)=>Cu o (dG h.length (top,bD n top)) j hj v;generalize dG h.length (top,bD n top)=K at hkids hkl hpar hkb hset;subst hst;have hll:(l++top).length=l.length+top.length:=QT;have hrl:(aL 0 l).length=l.length:=l7 _ _;have hsmall:l.length+top.length≤256:=by
   have h1:=tR hlp;have h2:=tR htp;omega
  rw [hll];repeat' (first|(apply eu;(iterate 3 exact rfl);(repeat first|exact .hd|apply Sel.tl|apply In.tl);(intro w hm;exact hm.cells_own (by (repeat first|exact .hd|apply Sel.tl|apply In.tl)));exact rfl;(simp [Value.oneCell',sl]);omega;(simp only [maxLen];omega);(intro A' cap' hA'))|(apply aa;exact rfl;exact rfl;(intro w hm;exact hbel w))|refine zZJ ?_|refine sM fun _=>?_|(refine sC ?_ ?_<;>intro hb<;>try omega)|fail)
  rw [TZ];have e0:jb (kM h)++ [.int .i64 (-1)]=jb (gN (kM h++ [-1]) (K.take 0) (i:Int)):=by simp [jb,gN]
  rw [e0]
  refine aw [0,3,4,5,6] rfl (fun j:Nat=> [(7,.int .i64 ((l.length+j:Nat):Int))]) (fun j=> [.own A' 3 1 (i+1) cap' (jb (gN (kM h++ [-1]) (K.take j) (i:Int))),.own A2 3 1 (l.length+top.length) c2 (kT (aL 0 (l++top)))])
   (fun j=>j≤top.length) (fun j=>top.length - j) 0 (QZ _) sB mS ?_
  rintro j hj;by_cases hjk:j<top.length
  ·refine bg (.tl .hd) (by omega) fun g2 hA2=> ?_;refine bg .hd (by omega) fun g1 hA1=> ?_;subst hA2 hA1;have hKj:=QU (show j<K.length by omega);have hkj:=hkb _ (RL (show j<K.length by omega));have hs1:=hset (kM h++ [-1]) j (by omega) (i:Int);generalize K[j]=kj at hKj hkj hs1;have hrt2:(kT (aL 0 (l++top)))[0+(l.length+j)*1]? =some (.int .i64 (kj:Int)):=by
    rw [hkids,Rv,RV,kT,Rj,RM (by omega),show l.length+j - (aL 0 l).length=j by omega,hKj]
    rfl
   have hsl:(gN (kM h++ [-1]) (K.take j) (i:Int)).length=i+1:=by rw [pz];simp [hP.len,hhl]
   have hcell:(jb (gN (kM h++ [-1]) (K.take j) (i:Int))).set (0+kj*1) (.int .i64 (i:Int))=jb (gN (kM h++ [-1]) (K.take (j+1)) (i:Int)):=by
    rw [Rv,RV,Jv,hs1]
   repeat' (first|(apply ai;exact rfl;apply aq;exact rfl;exact pK;exact hrt2)|(apply aU;exact rfl;exact rfl;exact pK;exact rfl;(rw [AF];omega);rw [hcell])|refine zZJ ?_|refine sM fun _=>?_|(refine sC ?_ ?_<;>intro hb<;>try omega)|fail)
   refine ⟨j+1,?_,(by first|omega|(dsimp only;omega)),sB,sB,mS⟩;exact hjk
  ·have e:j=top.length:=by omega
   subst e;rw [Sf (by omega)];have htake:(kT (aL 0 (l++top))).take (l.length*1)=kT (aL 0 l):=by
    rw [hkids,RV,kT,← List.map_take,List.take_left' hrl];rfl
   have hl1:(kT (aL 0 l)).length=l.length*1:=by rw [AE,hrl,RV]
   refine tu (A:=A2) (.tl .hd) fun q1 q2 q3=> ?_;repeat' (first|(apply df;exact rfl;intro gb)|(apply ai;exact rfl;apply BL (hi:=l.length);exact rfl;exact rfl;omega)|(apply eJ (n' :=0) (c:=0) (A:=some _) (m:=l.length) (news:=kT (aL 0 l));(iterate 3 exact rfl);exact pK;(intro w' hm;rw [← htake];exact Reads.of_own_take (A:=A2) hm pK (Nat.le_add_right _ _));exact hl1;exact Ju _;omega;(simp only [maxLen];omega);intro A4 c4 h4)|(apply eu;(iterate 3 exact rfl);(repeat first|exact .hd|apply Sel.tl|apply In.tl);(intro w hm;exact hm.cells_own (by (repeat first|exact .hd|apply Sel.tl|apply In.tl)));exact rfl;(simp [Value.oneCell',sl]);omega;(simp only [maxLen];omega);(intro A5 c5 h5))|refine zZJ ?_|refine sM fun _=>?_|(refine sC ?_ ?_<;>intro hb<;>try omega)|fail)
   have e1:gN (kM h++ [-1]) K (i:Int)=kM (h++ [(top,bD n top)]):=by rw [hpar,hhl]
   have e2: []++kT (aL 0 l)++ [.int .i64 (i:Int)]=kT (aL 0 (l++ [bD n top])):=by
    rw [dQ];simp only [aL,cU,kT,Sh,QW];congr 2;simp;omega
   have e3:0+l.length+1=(l++ [bD n top]).length:=by simp
   rw [e1,e2,e3];refine ⟨(i+1,l++ [bD n top],h++ [(top,bD n top)],(A',cap'),(A5,c5)),?_,(by first|omega|(dsimp only;omega)),sB,sB,mS⟩;exact ⟨hlt,hI',hP',hw'⟩
 ·have e:i=L.length:=by omega
  subst e;rw [Sn,fJ] at hw;simp only [Prod.mk.injEq] at hw;obtain ⟨_,_,rfl⟩:=hw;repeat' (first|refine sT ?_|refine sM fun _=>?_|(refine sC ?_ ?_<;>intro hb<;>try omega)|fail)
  exact bJ (.inl rfl) Tryz.results158 rfl (H' := [.own A1 3 1 L.length c1 (jb (kM h))]) mS ⟨A1,c1,rfl,rfl⟩
end Go.SL
namespace Go.SL
open Go Go.Proofs
attribute [local irreducible] W WL WQ WG WA WX WLI WR WT VOp thn blk bH scp aV bz bP FnAt FnIn FnP
theorem yV (fin:Int) (f:Nat) (p:PS) (h:(hdT fin p.l).kind=7):bw fin (f+1) .prim p=xB f (hdT fin p.l) fin p:=by
 rw [bw];dsimp only;rw [if_neg (by omega),if_neg (by omega),if_neg (by omega),if_pos h]
 rfl
theorem FA (f:Nat) (ih: ∀ f' ≤f,POK f' (.level 1) 147 []):POK (f+1) .prim 298 []:=by
 intro toks A cap fin g p lv B cb r R w0 hc hl hat hrun;refine xd Tryz.func298 rfl Tryz.ntmps298 rfl ?_;obtain ⟨t,ht⟩: ∃ t,hdT fin p.l=t:=⟨_,rfl⟩;have hh:=fun w hm=>At.head' (fin:=fin) (g:=g) (B:=B) (cb:=cb) (out:=p.out) (H:=pB g lv A cap fin toks B cb p.out++R) (w0:=w0) hat ht (MSub.pick .hd (.pick .hd (.pick .hd (.nil _)))) w hm;by_cases h7:t.kind=7
 ·rw [yV _ _ _ (by rw [ht];exact h7),ht] at hrun;have hcl:=Oc f t ih toks A cap fin g p lv B cb r;unfold Bb at hcl;rw [if_pos ⟨ht,h7⟩] at hcl;repeat' (first|(apply aa (f:=148);exact rfl;exact rfl;exact hh)|(refine bL (f:=313) rfl rfl (FnP.msub (hcl _ w0 hc hl hat hrun) (MSub.pick pK (MSub.pick pK (MSub.pick pK (MSub.refl _))))) ?_ ?_)|(rintro _ _ ⟨rfl,n,p',lv',B',cb',rfl,h2,rfl⟩)|(rintro _ _ ⟨e,rfl,rfl,h3⟩)|refine zZD ?_|refine sM fun _=>?_|(refine sC ?_ ?_<;>intro hb<;>try omega)|fail)
  ·refine fk (B' :=B') (cb' :=cb') (by first|exact .inr rfl|exact .inl rfl) rfl rfl h2 ?_;simp only [Re,QV,QW,pB];exact mS
  ·exact da rfl (MSub.trans (.drop .hd (.refl _)) h3)
 rw [bw] at hrun;dsimp only at hrun;rw [ht] at hrun;by_cases h14:1≤t.kind∧t.kind≤4
 ·rw [if_pos h14] at hrun;cases hrun;rcases (by omega:t.kind=1∨t.kind=2∨t.kind=3∨t.kind=4) with hk|hk|hk|hk
  ·repeat' (first|(apply aa (f:=148);exact rfl;exact rfl;exact hh)|(refine bL (f:=311) rfl rfl (FnP.msub (qD ⟨1,t.num,ax⟩ toks A cap fin g p _ B cb (.ok (0,p.skip.put (nA t))) _ w0 hc hl hat (by dsimp only;rw [if_neg (by rw [ht];omega)];simp [nA,hk])) (MSub.pick pK (MSub.pick pK (MSub.pick pK (MSub.refl _))))) ?_ ?_)|(rintro _ _ ⟨rfl,n,p',lv',B',cb',h,h2,rfl⟩)|(rintro _ _ ⟨e,h,rfl,h3⟩;cases h)|refine zZD ?_|refine sM fun _=>?_|(refine sC ?_ ?_<;>intro hb<;>try omega)|fail)
   all_goals first
    |(exfalso;omega)
    | (refine fk (B' := B') (cb' := cb') (by first | exact .inr rfl | exact .inl rfl) rfl h h2 ?_
       simp only [Re,QV,QW,pB];exact mS)
  ·repeat' (first|(apply aa (f:=148);exact rfl;exact rfl;exact hh)|(refine bL (f:=311) rfl rfl (FnP.msub (qD ⟨3,0,t.text⟩ toks A cap fin g p _ B cb (.ok (0,p.skip.put (nA t))) _ w0 hc hl hat (by dsimp only;rw [if_neg (by rw [ht];omega)];simp [nA,hk])) (MSub.pick pK (MSub.pick pK (MSub.pick pK (MSub.refl _))))) ?_ ?_)|(rintro _ _ ⟨rfl,n,p',lv',B',cb',h,h2,rfl⟩)|(rintro _ _ ⟨e,h,rfl,h3⟩;cases h)|refine zZD ?_|refine sM fun _=>?_|(refine sC ?_ ?_<;>intro hb<;>try omega)|fail)
   all_goals first
    |(exfalso;omega)
    | (refine fk (B' := B') (cb' := cb') (by first | exact .inr rfl | exact .inl rfl) rfl h h2 ?_
       simp only [Re,QV,QW,pB];exact mS)
  ·repeat' (first|(apply aa (f:=148);exact rfl;exact rfl;exact hh)|(refine bL (f:=311) rfl rfl (FnP.msub (qD ⟨2,t.num,ax⟩ toks A cap fin g p _ B cb (.ok (0,p.skip.put (nA t))) _ w0 hc hl hat (by dsimp only;rw [if_neg (by rw [ht];omega)];simp [nA,hk])) (MSub.pick pK (MSub.pick pK (MSub.pick pK (MSub.refl _))))) ?_ ?_)|(rintro _ _ ⟨rfl,n,p',lv',B',cb',h,h2,rfl⟩)|(rintro _ _ ⟨e,h,rfl,h3⟩;cases h)|refine zZD ?_|refine sM fun _=>?_|(refine sC ?_ ?_<;>intro hb<;>try omega)|fail)
   all_goals first
    |(exfalso;omega)
    | (refine fk (B' := B') (cb' := cb') (by first | exact .inr rfl | exact .inl rfl) rfl h h2 ?_
       simp only [Re,QV,QW,pB];exact mS)
  ·repeat' (first|(apply aa (f:=148);exact rfl;exact rfl;exact hh)|(refine bL (f:=311) rfl rfl (FnP.msub (qD ⟨4,t.num,ax⟩ toks A cap fin g p _ B cb (.ok (0,p.skip.put (nA t))) _ w0 hc hl hat (by dsimp only;rw [if_neg (by rw [ht];omega)];simp [nA,hk])) (MSub.pick pK (MSub.pick pK (MSub.pick pK (MSub.refl _))))) ?_ ?_)|(rintro _ _ ⟨rfl,n,p',lv',B',cb',h,h2,rfl⟩)|(rintro _ _ ⟨e,h,rfl,h3⟩;cases h)|refine zZD ?_|refine sM fun _=>?_|(refine sC ?_ ?_<;>intro hb<;>try omega)|fail)
   all_goals first
    |(exfalso;omega)
    | (refine fk (B' := B') (cb' := cb') (by first | exact .inr rfl | exact .inl rfl) rfl h h2 ?_
       simp only [Re,QV,QW,pB];exact mS)
 rw [if_neg h14] at hrun;by_cases h5:t.kind=5
 ·rw [if_pos h5] at hrun;cases hrun;repeat' (first|(apply aa (f:=148);exact rfl;exact rfl;exact hh)|(apply ak (f:=249);exact rfl;exact rfl;exact hat.skip hc (c:=5) (by rw [ht];exact h5) (by decide) (MSub.pick pK (MSub.pick pK (MSub.pick pK (MSub.refl _))));rintro _ _ ⟨rfl,lv1,h1,rfl⟩)|(apply ak (f:=250);exact rfl;exact rfl;exact FnIn.msub (lz ⟨2,bK,t.rect,0,0,0⟩ _ _ _ _ _ _ _ _ _ (At.len hat hl) _ _) (MSub.pick pK (MSub.pick pK (MSub.pick pK (MSub.refl _))));rintro _ _ ⟨rfl,B3,cb3,rfl⟩)|refine zZD ?_|refine sM fun _=>?_|(refine sC ?_ ?_<;>intro hb<;>try omega)|fail)
  all_goals first
   |(exfalso;omega)
   | (refine fk (p' := p.skip.put ⟨2, bK, t.rect, 0, 0, 0⟩) (B' := B3) (cb' := cb3) (by first | exact .inr rfl | exact .inl rfl) rfl rfl (h1.put _) ?_
      simp only [Re,QV,QW,pB];exact mS)
 rw [if_neg h5] at hrun;by_cases h9:t.kind=9
 ·rw [if_pos h9] at hrun;obtain ⟨r1,hr1,hr2⟩:=bI hrun;repeat' (first|(apply aa (f:=148);exact rfl;exact rfl;exact hh)|(apply ak (f:=249);exact rfl;exact rfl;exact hat.skip hc (c:=9) (by rw [ht];exact h9) (by decide) (MSub.pick pK (MSub.pick pK (MSub.pick pK (MSub.refl _))));rintro _ _ ⟨rfl,lv1,h1,rfl⟩)|(refine bL (f:=147) rfl rfl (FnP.msub (ih f (Rg _) toks A cap fin g p.skip _ B cb r1 _ w0 hc hl (At1.at h1) hr1) (MSub.pick pK (MSub.pick pK (MSub.pick pK (MSub.refl _))))) ?_ ?_)|(rintro _ _ ⟨rfl,n,p',lv',B',cb',rfl,h2,rfl⟩)|(rintro _ _ ⟨e,rfl,rfl,h3⟩)|(rcases hr2 with ⟨e,h,_⟩|⟨n1,p1,h,hw⟩;cases h;cases h;refine bL (f:=312) rfl rfl (FnP.msub (zQ 10 (by decide) toks A cap fin g p' _ B' cb' r _ w0 hc hl h2 hw) (MSub.pick pK (MSub.pick pK (MSub.pick pK (MSub.refl _))))) ?_ ?_)|refine zZD ?_|refine sM fun _=>?_|(refine sC ?_ ?_<;>intro hb<;>try omega)|fail)
  ·refine fk (B' :=B') (cb' :=cb') (by first|exact .inr rfl|exact .inl rfl) rfl rfl h2 ?_;simp only [Re,QV,QW,pB];exact mS
  ·exact da rfl (MSub.trans (.drop .hd (.refl _)) h3)
  ·rcases hr2 with ⟨e',h,h5⟩|⟨n1,p1,h,h5⟩
   ·cases h;exact da h5 (MSub.trans (.drop .hd (.refl _)) h3)
   ·cases h
 rw [if_neg h9,if_neg h7] at hrun;cases hrun;repeat' (first|(apply aa (f:=148);exact rfl;exact rfl;exact hh)|(refine bL (f:=149) rfl rfl (jE _ _ _ _ _ (fun _ _=>False)) ?_ ?_)|(exact fun _ _ h=>h.elim)|(rintro _ _ ⟨rfl,rfl⟩)|refine zZD ?_|refine sM fun _=>?_|(refine sC ?_ ?_<;>intro hb<;>try omega)|fail)
 all_goals first
  |(exfalso;omega)
  | (refine da rfl ?_
     simp only [Re,QV,QW,pB];exact mS)
theorem I1 (f:Nat):(∀ k:Int,1≤k→k≤4→POK f (.level k) 196 [.int .i64 k])∧POK f .sign 246 []∧POK f .pct 278 []∧POK f .prim 298 []∧POK f (.level 1) 147 []:=by
 induction f using Nat.strongRecOn with
 |_ f ih=>
  cases f with
  |zero=>
   refine ⟨fun k _ _=> ?_,?_,?_,?_,?_⟩;all_goals exact fun toks A cap fin g p lv B cb r R w0 hc hl hat h=>by cases h
  |succ f=>
   have hL: ∀ k:Int,1≤k→k≤4→POK (f+1) (.level k) 196 [.int .i64 k]:=fun k h1 h4=>
    LC f k h1 h4 (fun h3 f' hf' =>(ih f' (by omega)).1 (k+1) (by omega) (by omega)) (fun f' hf' =>(ih f' (by omega)).2.1)
   refine ⟨hL,Nf f (ih f (by omega)).2.1 (ih f (by omega)).2.2.1,FD f (ih f (by omega)).2.2.2.1,FA f (fun f' hf' =>(ih f' (by omega)).2.2.2.2),F2 (f+1) (hL 1 (by omega) (by omega))⟩
end Go.SL
namespace Go.SL
open Go Go.Proofs
attribute [local irreducible] W WL WQ WG WA WX WLI WR WT VOp thn blk bH scp aV bP FnAt FnIn
def iI (l:List Int):Option (Tk × Nat):=
 if bT (l.headD 0)=false then none
 else if (l.drop (aG cY l)).headD 0=40 then some (⟨7,0,mkB (upW l),aS,0⟩,aG cY l)
 else if mkB (upW l)=nU then some (⟨3,1,ax,aS,0⟩,aG cY l)
 else if mkB (upW l)=lT then some (⟨3,0,ax,aS,0⟩,aG cY l)
 else if (cy (upW l)).2.2≠0 then none
 else if (l.drop (aG cY l)).headD 0=58∧bT ((l.drop (aG cY l+1)).headD 0)=true∧(cy (upW (l.drop (aG cY l+1)))).2.2=0∧(l.drop (aG cY l+1+aG cY (l.drop (aG cY l+1)))).headD 0≠40 then
  some (⟨if (cy (upW l)).1=(cy (upW (l.drop (aG cY l+1)))).1∧(cy (upW l)).2.1=(cy (upW (l.drop (aG cY l+1)))).2.1 then 5 else 6,0,ax,
   ⟨min (cy (upW l)).1 (cy (upW (l.drop (aG cY l+1)))).1,min (cy (upW l)).2.1 (cy (upW (l.drop (aG cY l+1)))).2.1,max (cy (upW l)).1 (cy (upW (l.drop (aG cY l+1)))).1,max (cy (upW l)).2.1 (cy (upW (l.drop (aG cY l+1)))).2.1⟩,0⟩,aG cY l+1+aG cY (l.drop (aG cY l+1)))
 else some (⟨5,0,ax,kN (cy (upW l)).1 (cy (upW l)).2.1,0⟩,aG cY l)
theorem gP (a b:Int):(if b<a then b else a)=min a b:=by omega
theorem gQ (a b:Int):(if a<b then b else a)=max a b:=by omega
theorem El (l:List Int) (hl:iU l) (hlen:l.length≤100000) (w:World):aC Tryz.prog 241 [.string (mkB l)] w (.tuple #[.agg (aB ⟨(cy l).1,(cy l).2.1⟩).toArray,.int .i64 (cy l).2.2]):=by
 have h:=Be (mkB l) (by rw [oD];exact hlen) w;rw [oG hl,Mp] at h;exact h
theorem ME (a:ByteArray) (ha:a.size≤10000) (i:Nat) (hi:i<a.size) (g:Nat) (w:World) (hr:Ro w g 0 [.string a]):
 aC Tryz.prog 193 [.pointer (some ⟨g,0,none⟩),.int .i64 (i:Int)] w (EV (atT i (iI ((ap a).drop i)))):=by
 refine ay Tryz.func193 rfl Tryz.ntmps193 rfl ?_;have hl:=av a;have hP1:=fun w' h=>CZ a (by omega) i (by omega) g w' h;have hwl:=bY cY ((ap a).drop i);have hul:=vF ((ap a).drop i);have huk:iU (upW ((ap a).drop i)):=Kw fun c hc=>nD a c (TC hc);rw [RE] at hwl;have hW:iI ((ap a).drop i)=iI ((ap a).drop i):=rfl;unfold iI at hW ⊢;clear hW;rw [mG];simp only [SV];generalize hn:aG cY ((ap a).drop i)=n at*;generalize hu:upW ((ap a).drop i)=u at*;rw [mG];have hus:(mkB u).size=n:=by rw [oD,hul]
 have hA1:=El u huk (by omega);generalize hau:cy u=A1 at hA1;obtain ⟨c1,r1,e1⟩:=A1;dsimp only at hA1 ⊢;have hN1:=fun w' h=>Aq a (by omega) (i+n) g w' h;have hN2:=fun w' h=>Aq a (by omega) (i+n+1) g w' h;have hb1l:bat a (i+n)≠0→i+n<a.size:=fun h=>by
  rcases SW (i+n) a.size with h1|h1
  ·exact h1
  ·exfalso;apply h;rw [bat,RJ,Ry (by omega)];rfl
 generalize hb1:bat a (i+n)=b1 at hN1 hb1l;rw [show i+(n+1)=i+n+1 by omega];have hvl:=vF ((ap a).drop (i+n+1));have hvk:iU (upW ((ap a).drop (i+n+1))):=Kw fun c hc=>nD a c (TC hc);have hvr:=bY cY ((ap a).drop (i+n+1));rw [RE] at hvr;have hP2:=fun w' hi h=>CZ a (by omega) (i+n+1) hi g w' h;generalize hm:aG cY ((ap a).drop (i+n+1))=m at*;generalize hv:upW ((ap a).drop (i+n+1))=v at*;rw [mG,mG];have hvs:(mkB v).size=m:=by rw [oD,hvl]
 have hA2:=El v hvk (by omega);generalize hav:cy v=A2 at hA2;obtain ⟨c2,r2,e2⟩:=A2;dsimp only at hA2 ⊢;rw [show i+(n+1+m)=i+n+1+m by omega];have hN3:=fun w' h=>Aq a (by omega) (i+n+1+m) g w' h;generalize hb2:bat a (i+n+1)=b2 at hN2;generalize hb3:bat a (i+n+1+m)=b3 at hN3;repeat' (first|(apply ai;exact rfl;apply aN (o:=0) (off:=0);exact hr;exact rfl;exact rfl)|(apply aa;exact rfl;exact rfl;(intro w hm;exact qX _ w))|(apply ai (d:=28);exact rfl;apply rQ;exact rfl;exact hus)|(apply ai (d:=90);exact rfl;apply rQ;exact rfl;exact hvs)|(apply ai (d:=126);exact rfl;apply rQ;exact rfl;exact hvs)|(apply aa (d:=26);exact rfl;exact rfl;(intro w' hm;exact hP1 w' (hr.next hm)))|(apply aa (d:=77);exact rfl;exact rfl;(intro w' hm;exact hP2 w' (hb1l (by omega)) (hr.next hm)))|(apply aa (d:=34);exact rfl;exact rfl;(intro w' hm;exact hN1 w' (hr.next hm)))|(apply aa (d:=65);exact rfl;exact rfl;(intro w' hm;exact hN1 w' (hr.next hm)))|(apply aa (d:=71);exact rfl;exact rfl;(intro w' hm;exact hN2 w' (hr.next hm)))|(apply aa (d:=92);exact rfl;exact rfl;(intro w' hm;exact hN3 w' (hr.next hm)))|(apply aa;exact rfl;exact rfl;(intro w hm;exact hA1 w))|(apply aa;exact rfl;exact rfl;(intro w hm;exact hA2 w))|(apply ai (d:=99);exact rfl;exact gP _ _ ▸ iX rfl rfl)|(apply ai (d:=104);exact rfl;exact gP _ _ ▸ iX rfl rfl)|(apply ai (d:=109);exact rfl;exact gQ _ _ ▸ iY rfl rfl)|(apply ai (d:=114);exact rfl;exact gQ _ _ ▸ iY rfl rfl)|(apply ai (d:=118);exact rfl;exact Ks (a:=⟨c1,r1⟩) (b:=⟨c2,r2⟩) rfl rfl)|(apply aa;exact rfl;exact rfl;(intro w hm;exact s9 ⟨c1,r1⟩ w))|refine zZG ?_|refine sM fun _=>?_|(refine sC ?_ ?_<;>intro hb<;>try omega)|fail)
 all_goals
  (refine lU ?_);simp_all [nU,lT,EV,atT,bh,aB,aS,ax,kN,eqF,jp,dA]
end Go.SL
namespace Go.SL
open Go Go.Proofs
attribute [local irreducible] W WL WQ WG WA VOp thn blk bH aV FnAt FnIn Mw
theorem Fg (L:List Nd) (hwf: ∀ n∈L,wfN n) (tv:Value) (w:World) (ht:Reads w tv L.length (L.flatMap bf)):
 FnAt Tryz.prog 97 [tv] w fun v H=> ∃ A cap,v= .tuple #[sl A (iZ L).1.length cap,.int .i64 (iZ L).2]∧H= [.own A 121 6 (iZ L).1.length cap ((iZ L).1.flatMap cP)]:=by
 have ht' :=ht;obtain ⟨Al,cl,rfl,hl1,hl2,hl3⟩:=ht;refine ay Tryz.func97 rfl Tryz.ntmps97 rfl ?_;refine aI 121 6 ?_;have hck:=fun w0 (hm:Reads w0 (.slice Al L.length cl) L.length (L.flatMap bf))=>CM L hwf _ w0 hm;unfold iZ;by_cases hc:dM L=0
 rotate_left
 ·generalize dM L=e at hck hc;repeat' (first|(apply aa;exact rfl;exact rfl;(intro w' hm;exact hck w' (ht'.of_w0 hm)))|refine sT ?_|refine sM fun _=>?_|(refine sC ?_ ?_<;>intro hb<;>try omega)|fail)
  refine dB (.inl rfl) Tryz.results97 rfl rfl (H' := [.own none 121 6 0 0 []]) mS ⟨none,0,?_⟩;rw [if_pos hc];exact ⟨rfl,rfl⟩
 rw [if_neg (by omega)];obtain ⟨hlen,S,Hi,hW,hk3,hct⟩:=Ec hc;obtain ⟨gl,ol,rfl,hrl⟩:=hl3 hW.pos;rw [hc] at hck;have hpar:=fun w0 (hm:Reads w0 (.slice (some ⟨gl,ol,none⟩) L.length cl) L.length (L.flatMap bf))=>Gz L hlen S Hi hW _ w0 hm;have hul:=yC L;repeat' (first|(apply aa (f:=157);exact rfl;exact rfl;(intro w' hm;exact hck w' (ht'.of_w0 hm)))|(apply aK (f:=158);exact rfl;exact rfl;(intro w' hm;exact hpar w' (ht'.of_w0 hm));(rintro v H' ⟨Ap,cp,rfl,rfl⟩))|refine sT ?_|refine sM fun _=>?_|(refine sC ?_ ?_<;>intro hb<;>try omega)|fail)
 have hpos:=hW.pos;refine bg (A:=Ap) pK hpos fun gp hAp=> ?_;subst hAp
 refine aw [0,6] rfl (fun x:Nat × List Us × Option Nat × Nat=> [(5,sl x.2.2.1 x.2.1.length x.2.2.2),(7,.int .i64 (x.1:Int))]) (fun x=> [.own x.2.2.1 121 6 x.2.1.length x.2.2.2 (x.2.1.flatMap cP),.own (some gp) 3 1 L.length cp (jb (kM Hi))])
  (fun x=>x.1≤L.length∧eE L=x.2.1++dV (L.drop x.1) x.1) (fun x=>L.length - x.1) (0,[],none,0) ⟨by omega,rfl⟩ sB mS ?_
 rintro ⟨i,pre,A,cap⟩ ⟨hi,hus⟩;dsimp only at hi hus ⊢;by_cases hlt:i<L.length
 ·have he:=hrl.elem cu i hlt;obtain ⟨u,hu,hu1,hu2,hu3⟩:=FH hW hlt;rw [Rn hlt,dV] at hus;generalize L[i]=n at he hus;have hcell:(jb (kM Hi))[0+i*1]? =some (.int .i64 u):=by rw [Rv,RV];exact Jw hu
  by_cases hq:n.kind=2∨n.kind=3
  rotate_left
  ·have hrf:gG n=false:=by simp only [gG,Bool.or_eq_false_iff,decide_eq_false_iff_not];omega
   rw [hrf,cond_false] at hus;repeat' (first|refine zZJ ?_|refine sM fun _=>?_|(refine sC ?_ ?_<;>intro hb<;>try omega)|fail)
   refine ⟨(i+1,pre,A,cap),?_,(by first|omega|(dsimp only;omega)),sB,sB,mS⟩;exact ⟨hlt,hus⟩
  have hrf:gG n=true:=by simp only [gG,TH,decide_eq_true_eq];exact hq
  rw [hrf,cond_true] at hus;have hlu:=congrArg List.length hus;simp only [QT,Rk] at hlu;have none_use:(∀ m,L[i+1]? =some m→ ¬ Fe m)→nT n i (L.drop (i+1))=⟨n.rect, -1,0⟩:=by
   intro h;by_cases h1:i+1<L.length
   ·rw [Rn h1];have:=h _ (QU h1);unfold Fe at this;simp only [nT,if_neg this]
   ·rw [RK (by omega)];rfl
  rcases hu1 with hu1|⟨j,hu1,hj⟩
  ·subst hu1;rw [none_use (fun m hm hr=>by have:=hu2 m hm hr;omega)] at hus;repeat' (first|(apply ai (d:=45);exact rfl;apply ag;exact rfl;exact rfl;exact hlt)|(apply ai (d:=46);exact rfl;apply aq;exact rfl;exact pK;exact hcell)|(apply ai (d:=41);exact rfl;apply cD (off:=4) (ys:=jp n.rect) he;(iterate 3 exact rfl))|(apply eu;(iterate 3 exact rfl);(repeat first|exact .hd|apply Sel.tl|apply In.tl);(intro w hm;exact hm.cells_own (by (repeat first|exact .hd|apply Sel.tl|apply In.tl)));exact rfl;(simp [Value.oneCell',sl]);omega;(simp only [maxLen];omega);(intro A2 c2 h2))|refine zZJ ?_|refine sM fun _=>?_|(refine sC ?_ ?_<;>intro hb<;>try omega)|fail)
   all_goals
    refine ⟨(i+1,pre++ [⟨n.rect, -1,0⟩],A2,c2),⟨hlt,by rw [hus,List.append_assoc];rfl⟩,(by dsimp only;omega),?_,?_,?_⟩
    ·dsimp only;rw [QT];exact sB
    ·exact sB
    ·dsimp only;rw [o3,QT];exact mS
  ·subst hu1;have hj1:=hrl.elem cu j hj;have hjg:=QU hj;have hu3' :=hu3 j _ rfl hjg;generalize L[j]=m at hj1 hjg hu3';by_cases hrel:Fe m
   ·obtain rfl:=hu3' hrel;have hr2:m.kind=7∧46≤m.fn:=hrel;have hdr:L.drop (i+1)=m::L.drop (i+1+1):=by
     rw [Rn hj];rw [QU hj] at hjg;rw [Option.some.inj hjg]
    have huo:nT n i (L.drop (i+1))=⟨n.rect,((i+1:Nat):Int),m.fn⟩:=by rw [hdr];simp only [nT,if_pos hr2]
    rw [huo] at hus;repeat' (first|(apply ai (d:=45);exact rfl;apply ag;exact rfl;exact rfl;exact hlt)|(apply ai (d:=46);exact rfl;apply aq;exact rfl;exact pK;exact hcell)|(apply ai (d:=41);exact rfl;apply cD (off:=4) (ys:=jp n.rect) he;(iterate 3 exact rfl))|(apply eu;(iterate 3 exact rfl);(repeat first|exact .hd|apply Sel.tl|apply In.tl);(intro w hm;exact hm.cells_own (by (repeat first|exact .hd|apply Sel.tl|apply In.tl)));exact rfl;(simp [Value.oneCell',sl]);omega;(simp only [maxLen];omega);(intro A2 c2 h2))|((with_reducible apply qC (id:=13) (T:=121) (fun D=> [.int .i64 n.rect.c1,.int .i64 n.rect.r1,.int .i64 n.rect.c2,.int .i64 n.rect.r2,.int .i64 (bif D 7 then ((i+1:Nat):Int) else -1),.int .u8 (bif D 9 then m.fn else 0)]) (xs' := [.int .i64 n.rect.c1,.int .i64 n.rect.r1,.int .i64 n.rect.c2,.int .i64 n.rect.r2,.int .i64 ((i+1:Nat):Int),.int .u8 m.fn]));kernel_rfl;kernel_rfl;exact .hd;exact rfl;(intro D hD;simp only [hD 7 (by decide),hD 9 (by decide),cond_true]))|(apply BC;exact rfl;(intro D ht;first|(apply ag;exact rfl;exact rfl;(first|assumption|omega))|(apply dS;exact rfl;assumption;exact rfl));exact fun _=>rfl)|refine sT ?_|refine sN ?_|refine sO ?_|refine sG ?_|refine sM fun _=>?_|(refine sC ?_ ?_<;>intro hb<;>try omega)|fail)
    all_goals
     refine ⟨(i+1,pre++ [⟨n.rect,((i+1:Nat):Int),m.fn⟩],A2,c2),⟨hlt,by rw [hus,List.append_assoc];rfl⟩,(by dsimp only;omega),?_,?_,?_⟩
     ·dsimp only;rw [QT];exact sB
     ·exact sB
     ·dsimp only;rw [o3,QT];exact mS
   ·have hr2: ¬ (m.kind=7∧46≤m.fn):=hrel
    rw [none_use (fun m' hm hr=>by
     have h1:=hu2 m' hm hr;have h2:j=i+1:=by omega
     subst h2;rw [hjg] at hm;obtain rfl:=Option.some.inj hm;exact hrel hr)] at hus
    repeat' (first|(apply ai (d:=45);exact rfl;apply ag;exact rfl;exact rfl;exact hlt)|(apply ai (d:=46);exact rfl;apply aq;exact rfl;exact pK;exact hcell)|(apply ai (d:=41);exact rfl;apply cD (off:=4) (ys:=jp n.rect) he;(iterate 3 exact rfl))|(apply eu;(iterate 3 exact rfl);(repeat first|exact .hd|apply Sel.tl|apply In.tl);(intro w hm;exact hm.cells_own (by (repeat first|exact .hd|apply Sel.tl|apply In.tl)));exact rfl;(simp [Value.oneCell',sl]);omega;(simp only [maxLen];omega);(intro A2 c2 h2))|refine zZJ ?_|refine sM fun _=>?_|(refine sC ?_ ?_<;>intro hb<;>try omega)|fail)
    all_goals
     refine ⟨(i+1,pre++ [⟨n.rect, -1,0⟩],A2,c2),⟨hlt,by rw [hus,List.append_assoc];rfl⟩,(by dsimp only;omega),?_,?_,?_⟩
     ·dsimp only;rw [QT];exact sB
     ·exact sB
     ·dsimp only;rw [o3,QT];exact mS
 ·have e:i=L.length:=by omega
  subst e;rw [Sn,dV,Rc] at hus;rw [hus];repeat' (first|refine sT ?_|refine sM fun _=>?_|(refine sC ?_ ?_<;>intro hb<;>try omega)|fail)
  exact dB (.inl rfl) Tryz.results97 rfl rfl (H' := [.own A 121 6 pre.length cap (pre.flatMap cP)]) mS ⟨A,cap,rfl,rfl⟩
end Go.SL
namespace Go.SL
open Go Go.Proofs
attribute [local irreducible] W WL WQ WG WA WX WLI WR WT VOp thn blk bH scp aV bP FnAt FnIn
def n8:List (List Int→Option (Tk × Nat)):= [gI,nX,iI,lI,i9]
def nG (l:List Int):List (List Int→Option (Tk × Nat))→Option (Tk × Nat)
 | []=>none
 |r::rs=>match r l with
  |some x=>some x
  |none=>nG l rs
def dJ (l:List Int):Option (Tk × Nat):=nG l n8
def bk (tk:List Int→Option (Tk × Nat)) (l:List Int):Nat→Nat→Except Nat (List Tk)
 |0,_=> .ok []
 |f+1,i=>
  match l.drop i with
  | []=> .ok []
  |c::_=>
   if c=32 then bk tk l f (i+1)
   else match tk (l.drop i) with
    |none=> .error i
    |some (t,n)=>(bk tk l f (i+n)).map fun r=>{ t with at_:=(i:Int) }::r
def Fits (l:List Int) (o:Option (Tk × Nat)):Prop:= ∀ t n,o=some (t,n)→0<n∧n≤l.length
theorem Fits.none {l:List Int}:Fits l none:=fun _ _ h=>by cases h
theorem Fits.some {l:List Int} {t:Tk} {n:Nat} (h1:0<n) (h2:n≤l.length):Fits l (some (t,n)):=fun _ _ h=>by cases h;exact ⟨h1,h2⟩
theorem mF {l:List Int} {c:Int} (h:l.headD 0=c) (hc:c≠0):0<l.length:=by
 cases l with
 |nil=>exact absurd h.symm hc
 |cons=>simp
theorem FB (l:List Int):bZ l=0∨bZ l+1≤l.length:=by
 unfold bZ;split
 ·right
  rename_i r;have:=bY aH r;simp;omega
 ·left;rfl
theorem tL (l:List Int):Fits l (gI l):=by
 unfold gI;dsimp only;have h1:=bY aH l;have h2:=FB (l.drop (aG aH l));rw [RE] at h2;have h3:(if bZ (l.drop (aG aH l))=0 then aG aH l else aG aH l+1+bZ (l.drop (aG aH l)))≤l.length∧aG aH l≤(if bZ (l.drop (aG aH l))=0 then aG aH l else aG aH l+1+bZ (l.drop (aG aH l))):=by
  split<;>omega
 generalize (if bZ (l.drop (aG aH l))=0 then aG aH l else aG aH l+1+bZ (l.drop (aG aH l)))=m at h3 ⊢;split
 ·exact .none
 ·rename_i h;split
  ·exact .none
  ·exact .some (by omega) (by omega)
theorem o8: ∀ (n:Nat) (l:List Int) (k:Nat),l.length≤n→cL l=some k→k<l.length
 |_,[],_,_,h=>by simp [cL] at h
 |0,c::r,_,hn,_=>by simp at hn
 |n+1,c::r,k,hn,h=>by
  by_cases hc:c=34
  ·subst hc
   cases r with
   |nil=>simp [cL] at h;subst h;simp
   |cons d r' =>
    by_cases hd:d=34
    ·subst hd;simp only [cL,ne_eq,not_true_eq_false,if_false,if_true,Sr] at h;obtain ⟨j,hj,rfl⟩:=h;have:=o8 n r' j (by simp at hn;omega) hj;simp;omega
    ·simp [cL,hd] at h;subst h;simp
  ·rw [lK hc,Sr] at h;obtain ⟨j,hj,rfl⟩:=h;have:=o8 n r j (by simp at hn;omega) hj;simp;omega
theorem Ip (l:List Int):Fits l (nX l):=by
 unfold nX;split
 ·exact .none
 ·rename_i h;have h0:=mF (c:=34) (Decidable.not_not.1 h) (by decide);split
  ·exact .none
  ·rename_i k hk;have:=o8 _ _ k (Rg _) hk;rw [RE] at this;split
   ·exact .none
   ·exact .some (by omega) (by omega)
theorem yn (l:List Int):Fits l (iI l):=by
 have h1:=bY cY l;have h2:=bY cY (l.drop (aG cY l+1));rw [RE] at h2;have hpos:bT (l.headD 0)≠false→0<aG cY l:=fun h=>by
  cases l with
  |nil=>exact absurd rfl h
  |cons c r=>
   have:bT c=true:=by simpa using h
   simp [aG,cY,this]
 unfold iI;split
 ·exact .none
 ·rename_i h;have hp:=hpos h;split
  ·exact .some hp h1
  ·split
   ·exact .some hp h1
   ·split
    ·exact .some hp h1
    ·split
     ·exact .none
     ·split
      ·rename_i hq;have:=mF hq.1 (by decide);rw [RE] at this;exact .some (by omega) (by omega)
      ·exact .some hp h1
theorem xk (l:List Int): ∀ (ns:List (List Int)) (c k:Int) (n:Nat),(∀ s∈ns,s≠ [])→kV l ns c=some (k,n)→0<n∧n≤l.length
 | [],_,_,_,_,h=>by cases h
 |s::r,c,k,n,hs,h=>by
  rw [kV] at h;split at h
  ·rename_i he;cases h;have:=congrArg List.length he;rw [RA,RI] at this;have:=TW.2 (hs s QY);omega
  ·exact xk l r _ k n (fun s hs' =>hs s (Rh _ hs')) h
theorem zg (l:List Int):Fits l (lI l):=by
 intro t n h;unfold lI at h;rw [Sr] at h;obtain ⟨⟨c,m⟩,h1,h2⟩:=h;cases h2;exact xk l eH 1 c _ (by decide) h1
theorem Db (l:List Int): ∀ (ns:List (List Int × Int)) (k:Int) (n:Nat),(∀ s∈ns,s.1≠ [])→opL l ns=some (k,n)→0<n∧n≤l.length
 | [],_,_,_,h=>by cases h
 |(s,c)::r,k,n,hs,h=>by
  rw [opL] at h;split at h
  ·rename_i he;cases h;have:=congrArg List.length he;rw [RI] at this;have:=TW.2 (hs _ QY);dsimp only at this;omega
  ·exact Db l r k n (fun s hs' =>hs s (Rh _ hs')) h
theorem yM (l:List Int):Fits l (i9 l):=by
 unfold i9;split
 ·rename_i k n h;have:=Db l fK k n (by decide) h;exact .some this.1 this.2
 ·split
  ·exact .some (by omega) (mF (by assumption) (by decide))
  ·split
   ·exact .some (by omega) (mF (by assumption) (by decide))
   ·split
    ·exact .some (by omega) (mF (by assumption) (by decide))
    ·exact .none
theorem xe (l:List Int): ∀ rs:List (List Int→Option (Tk × Nat)),(∀ r∈rs,Fits l (r l))→Fits l (nG l rs)
 | [],_=> .none
 |r::rs,h=>by
  unfold nG;split
  ·rename_i x hx;exact hx ▸ h r QY
  ·exact xe l rs fun r hr=>h r (Rh _ hr)
theorem IC (l:List Int): ∀ r∈n8,Fits l (r l):=by
 intro r hr;simp only [n8,RF,TK,or_false] at hr;rcases hr with rfl|rfl|rfl|rfl|rfl
 ·exact tL l
 ·exact Ip l
 ·exact yn l
 ·exact zg l
 ·exact yM l
theorem vK (l:List Int):Fits l (dJ l):=xe l _ (IC l)
theorem qF {tk:List Int→Option (Tk × Nat)} {l:List Int} (ht: ∀ m,Fits m (tk m)): ∀ (b d f i:Nat),d≤b→l.length - i=d→d≤f→bk tk l f i=bk tk l d i:=by
 intro b
 induction b with
 |zero=>
  intro d f i hb hd hf;have:d=0:=by omega
  subst this
  cases f with
  |zero=>rfl
  |succ f=>
   simp only [bk];rw [RK (by omega)]
 |succ b ih=>
  intro d f i hb hd hf
  cases d with
  |zero=>
   cases f with
   |zero=>rfl
   |succ f=>
    simp only [bk];rw [RK (by omega)]
  |succ m=>
   obtain ⟨g,rfl⟩: ∃ g,f=g+1:=⟨f - 1,by omega⟩;simp only [bk];have hi:i<l.length:=by omega
   rw [Rn hi];dsimp only;split
   ·exact ih m g (i+1) (by omega) (by omega) (by omega)
   ·split
    ·rfl
    ·rename_i t n hn;have:=ht _ t n hn;rw [ih (l.length - (i+n)) g (i+n) (by omega) rfl (by omega),ih (l.length - (i+n)) m (i+n) (by omega) rfl (by omega)]
def bq (tk:List Int→Option (Tk × Nat)) (l:List Int):List Tk × Int × Int:=
 if 256<l.length then ([],0,5)
 else match l.findIdx? (fun c=> !bG c) with
  |some i=>([],(i:Int),4)
  |none=>match bk tk l l.length 0 with
   | .ok r=>(r,0,0)
   | .error i=>([],(i:Int),4)
def GY (A:Option Nat) (cap:Nat) (r:List Tk × Int × Int):Value:= .tuple #[sl A r.1.length cap,.int .i64 r.2.1,.int .i64 r.2.2]
def E8:List Nat:= [191,192,193,194,195]
theorem Nk (a:ByteArray) (ha:a.size≤10000) (i:Nat) (hi:i<a.size) (g:Nat) (k:Nat) (hk:k<5):
 ∃ f r,n8.drop k=r::n8.drop (k+1)∧(E8.map fun f=>Value.func (.func f) #[.pointer (some ⟨g,0,none⟩)] #[])[k]? =some (.func (.func f) #[.pointer (some ⟨g,0,none⟩)] #[])∧Callable Tryz.prog f∧
  ∀ w,Ro w g 0 [.string a]→Words w→aC Tryz.prog f [.pointer (some ⟨g,0,none⟩),.int .i64 (i:Int)] w (EV (atT i (r ((ap a).drop i)))):=by
 rcases (by omega:k=0∨k=1∨k=2∨k=3∨k=4) with rfl|rfl|rfl|rfl|rfl
 ·exact ⟨_,_,rfl,rfl,inferInstance,fun w hr _=>Ja a (by omega) i (by omega) g w hr⟩
 ·exact ⟨_,_,rfl,rfl,inferInstance,fun w hr _=>M9 a (by omega) i hi g w hr⟩
 ·exact ⟨_,_,rfl,rfl,inferInstance,fun w hr _=>ME a ha i hi g w hr⟩
 ·exact ⟨_,_,rfl,rfl,inferInstance,fun w hr hW=>NR a (by omega) i (by omega) g w hr hW⟩
 ·exact ⟨_,_,rfl,rfl,inferInstance,fun w hr _=>Ng a (by omega) i hi g w hr⟩
theorem oK {a:ByteArray} {q:Int→Bool} {i:Nat} (h:i<a.size) (hq:q (bat a i)=true) (hno: ∀ j,j<i→q (bat a j)=false):(ap a).findIdx? q=some i:=by
 rw [RU];have hl:=av a;have hg: ∀ j (hj:j<(ap a).length),(ap a)[j]=bat a j:=fun j hj=>by
  have:=il (a:=a) (i:=j) (by omega);rw [QU hj] at this;exact Option.some.inj this
 refine ⟨by omega,by rw [hg];exact hq,fun j hj=> ?_⟩;rw [hg,hno j hj];simp
theorem nr {a:ByteArray} {q:Int→Bool} (hno: ∀ j,j<a.size→q (bat a j)=false):(ap a).findIdx? q=none:=by
 rw [Sy];intro x hx;obtain ⟨j,hj,rfl⟩:=Tb hx;have hl:=av a;have:=il (a:=a) (i:=j) (by omega);rw [QU hj] at this;rw [Option.some.inj this];exact hno j (by omega)
theorem JY (a:ByteArray) (w:World) (hW:Words w):
 FnAt Tryz.prog 145 [.string a] w fun v H=> ∃ A cap,v=GY A cap (bq dJ (ap a))∧H= [.own A 228 8 (bq dJ (ap a)).1.length cap ((bq dJ (ap a)).1.flatMap bh)]:=by
 refine ay Tryz.func145 rfl Tryz.ntmps145 rfl ?_;have hl:=av a;unfold bq;refine aI 228 8 ?_;by_cases hlen:256<(ap a).length
 ·rw [if_pos hlen];repeat' (first|refine zZF ?_|refine sM fun _=>?_|(refine sC ?_ ?_<;>intro hb<;>try omega)|fail)
  all_goals try (exfalso;omega)
  exact qa (.inl rfl) rfl rfl rfl rfl (.refl _) ⟨none,0,rfl,rfl⟩
 ·rw [if_neg hlen];repeat' (first|refine zZF ?_|refine sM fun _=>?_|(refine sC ?_ ?_<;>intro hb<;>try omega)|fail)
  all_goals try (exfalso;omega)
  refine aw [0,2,17] rfl (fun i:Nat=> [(18,.int .i64 (i:Int))]) (fun _=> [.own none 228 8 0 0 []]) (fun i=>i≤a.size∧ ∀ j,j<i→bG (bat a j)=true) (fun i=>a.size - i) 0 ⟨by omega,fun j h=>by omega⟩ sB mS ?_;rintro i ⟨hi,hpl⟩;by_cases hlt:i<a.size
  ·repeat' (first|refine zZC ?_|refine sM fun _=>?_|(refine sC ?_ ?_<;>intro hb<;>try omega)|fail)
   ·have hf:(ap a).findIdx? (fun c=> !bG c)=some i:=by
     refine oK hlt ?_ fun j hj=>by rw [hpl j hj];rfl
     simp only [bG,UT,Tc,decide_eq_false_iff_not];omega
    rw [hf];exact qa (.inl rfl) rfl rfl rfl rfl (.refl _) ⟨none,0,rfl,rfl⟩
   ·have hf:(ap a).findIdx? (fun c=> !bG c)=some i:=by
     refine oK hlt ?_ fun j hj=>by rw [hpl j hj];rfl
     simp only [bG,UT,Tc,decide_eq_false_iff_not];omega
    rw [hf];exact qa (.inl rfl) rfl rfl rfl rfl (.refl _) ⟨none,0,rfl,rfl⟩
   ·refine ⟨i+1,?_,(by first|omega|(dsimp only;omega)),sB,sB,mS⟩;refine ⟨hlt,fun j hj=> ?_⟩;rcases (by omega:j<i∨j=i) with h|rfl
    ·exact hpl j h
    ·rename_i h1;simp only [bG,RB,decide_eq_true_eq];omega
  ·have e:i=a.size:=by omega
   subst e;have hf:(ap a).findIdx? (fun c=> !bG c)=none:=nr fun j hj=>by rw [hpl j hj];rfl
   rw [hf];dsimp only;repeat' (first|(apply ai;exact rfl;apply mV;exact rfl)|(apply uZ;(iterate 6 exact rfl))|refine zZC ?_|refine sM fun _=>?_|(refine sC ?_ ?_<;>intro hb<;>try omega)|fail)
   all_goals try (exfalso;omega)
   rename_i g6 g7;generalize hT:bk dJ (ap a) (ap a).length 0=T
   refine aw [0,6,7] rfl (fun x:Nat × List Tk × Option Nat × Nat=> [(2,sl x.2.2.1 x.2.1.length x.2.2.2),(8,.int .i64 (x.1:Int))]) (fun x=> [.own x.2.2.1 228 8 x.2.1.length x.2.2.2 (x.2.1.flatMap bh),.box g7 271 (E8.map fun f=>Value.func (.func f) #[.pointer (some ⟨g6,0,none⟩)] #[]),.box g6 269 [.string a]])
    (fun x=>x.1≤a.size∧x.2.1.length≤x.1∧T=(bk dJ (ap a) (a.size - x.1) x.1).map (x.2.1++ ·)) (fun x=>a.size - x.1) (0,[],none,0) ⟨by omega,by simp,by rw [← hT,hl];cases bk dJ (ap a) a.size 0<;>rfl⟩ sB mS ?_
   rintro ⟨i,toks,A,cap⟩ ⟨hi2,hi3,hi4⟩;dsimp only at hi2 hi3 hi4 ⊢;by_cases hlt2:i<a.size
   ·obtain ⟨f,hf1⟩: ∃ f,a.size - i=f+1:=⟨a.size - i - 1,by omega⟩;rw [hf1] at hi4;simp only [bk] at hi4;have hdr:=bi hlt2;generalize hld:(ap a).drop i=ld at hi4 hdr;rw [hdr] at hi4;dsimp only at hi4;by_cases h32:bat a i=32
    ·rw [if_pos h32] at hi4;repeat' (first|refine zZC ?_|refine sM fun _=>?_|(refine sC ?_ ?_<;>intro hb<;>try omega)|fail)
     all_goals try (exfalso;omega)
     refine ⟨(i+1,toks,A,cap),?_,(by first|omega|(dsimp only;omega)),sB,sB,mS⟩;exact ⟨hlt2,by dsimp only;omega,by dsimp only;rw [show a.size - (i+1)=f by omega];exact hi4⟩
    ·rw [if_neg h32,← hdr] at hi4;repeat' (first|refine zZC ?_|refine sM fun _=>?_|(refine sC ?_ ?_<;>intro hb<;>try omega)|fail)
     all_goals try (exfalso;omega)
     have hldl:ld.length=a.size - i:=by rw [← hld,RE,hl]
     refine aw [0,2,6,7,8,57] rfl (fun k:Nat=> [(58,.int .i64 (k:Int))]) (fun _=> [.own A 228 8 toks.length cap (toks.flatMap bh),.box g7 271 (E8.map fun f=>Value.func (.func f) #[.pointer (some ⟨g6,0,none⟩)] #[]),.box g6 269 [.string a]]) (fun k=>k≤5∧dJ ld=nG ld (n8.drop k)) (fun k=>5 - k) 0 ⟨by omega,rfl⟩ sB mS ?_;rintro k ⟨hk,hkt⟩;by_cases hk5:k<5
     ·obtain ⟨f2,r,r1,r2,r3,r4⟩:=Nk a (by omega) i hlt2 g6 k hk5;rw [hld] at r4;rw [r1,nG] at hkt
      cases ho:r ld with
      |none=>
       rw [ho] at hkt r4;dsimp only at hkt;repeat' (first|(apply ai;exact rfl;apply nR;exact rfl;exact rfl;exact hk5;exact r2)|(apply rM;exact rfl;exact rfl;exact r3;exact rfl;(intro w' hm;exact r4 w' (Ro.of_box hm pK) (hW.next hm)))|refine zZC ?_|refine sM fun _=>?_|(refine sC ?_ ?_<;>intro hb<;>try omega)|fail)
       all_goals try (exfalso;omega)
       refine ⟨k+1,?_,(by first|omega|(dsimp only;omega)),sB,sB,mS⟩;exact ⟨hk5,hkt⟩
      |some x=>
       obtain ⟨t,m⟩:=x;rw [ho] at hkt r4;dsimp only at hkt;have hfit:=vK ld t m hkt;rw [hkt] at hi4;dsimp only at hi4;have hm0:0<m:=hfit.1;repeat' (first|(apply ai;exact rfl;apply nR;exact rfl;exact rfl;exact hk5;exact r2)|(apply rM;exact rfl;exact rfl;exact r3;exact rfl;(intro w' hm;exact r4 w' (Ro.of_box hm pK) (hW.next hm)))|(apply aD;(iterate 3 exact rfl);exact pK;exact pK;exact rfl;(simp [bh,Value.oneCell']);omega;(simp only [maxLen];omega);intro g8 c8)|refine zZC ?_|refine sM fun _=>?_|(refine sC ?_ ?_<;>intro hb<;>try omega)|fail)
       all_goals try (exfalso;omega)
       refine ⟨(i+m,toks++ [{ t with at_:=(i:Int) }],some g8,c8),⟨by dsimp only;omega,by simp;omega,?_⟩,(by dsimp only;omega),?_,sB,?_⟩
       ·dsimp only;rw [hi4,qF vK f (a.size - (i+m)) f (i+m) (by omega) (by omega) (by omega)];cases bk dJ (ap a) (a.size - (i+m)) (i+m)<;>simp [Except.map]
       ·simp only [QT,QX];exact sB
       ·simp only [QT,QX,Rp,Rl,RN,Rc];exact mS
     ·have e:k=5:=by omega
      subst e;rw [show nG ld (n8.drop 5)=none from rfl] at hkt;rw [hkt] at hi4;dsimp only [Except.map] at hi4;rw [hi4];refine aI 228 8 ?_;repeat' (first|refine zZC ?_|refine sM fun _=>?_|(refine sC ?_ ?_<;>intro hb<;>try omega)|fail)
      all_goals try (exfalso;omega)
      exact qa (.inl rfl) rfl rfl rfl rfl (H' := [.own none 228 8 0 0 []]) mS ⟨none,0,rfl,rfl⟩
   ·have e:i=a.size:=by omega
    subst e;rw [show a.size - a.size=0 by omega] at hi4;simp only [bk,Except.map,Rc] at hi4;rw [hi4];repeat' (first|refine zZC ?_|refine sM fun _=>?_|(refine sC ?_ ?_<;>intro hb<;>try omega)|fail)
    all_goals try (exfalso;omega)
    exact qa (.inl rfl) rfl rfl rfl rfl (H' := [.own A 228 8 toks.length cap (toks.flatMap bh)]) mS ⟨A,cap,rfl,rfl⟩
end Go.SL
namespace Go.SL
open Go Go.Proofs
attribute [local irreducible] W WL WQ WG WA WX WLI WR WT VOp RW thn blk bH scp aV bz bP FnAt FnIn FnP
theorem Ha (p2 p3 p4:Value) (w0:World) (H:List Blk):FnD Tryz.prog 146 [p2,p3,p4] .returning w0 H H:=by
 refine QA Tryz.func146 rfl rfl Tryz.ntmps146 rfl rfl (.inl ⟨rfl,rfl⟩) ?_;repeat' (first|(apply ai;exact rfl;apply MV;exact rfl)|refine sT ?_|refine sM fun _=>?_|(refine sC ?_ ?_<;>intro hb<;>try omega)|fail)
 all_goals exact ⟨by first|exact .inl rfl|exact .inr rfl,.refl _⟩
theorem Hd (g2 g3 g4:Nat) (x2 x3 x4:Value) (e:Int × Int) (w0:World) (R:List Blk):
 FnD Tryz.prog 146 [.pointer (some ⟨g2,0,none⟩),.pointer (some ⟨g3,0,none⟩),.pointer (some ⟨g4,0,none⟩)] (.panicking (jO (AQ e))) w0
  (.box g2 91 [x2]:: .box g3 3 [x3]:: .box g4 23 [x4]::R)
  (.box g2 91 [.slice none 0 0]:: .box g3 3 [.int .i64 e.1]:: .box g4 23 [.int .i64 e.2]::R):=by
 refine QA Tryz.func146 rfl rfl Tryz.ntmps146 rfl rfl (.inr rfl) ?_;repeat' (first|(apply ai;exact rfl;apply MU;exact rfl)|(apply ai;exact rfl;apply zT;exact rfl;exact rfl)|(rename_i g;refine BI (id:=7) [⟨4,g2,91,x2,.slice none 0 0⟩,⟨5,g3,3,x3,.int .i64 e.1⟩,⟨6,g4,23,x4,.int .i64 e.2⟩] (.box g 223 [.int .i64 e.1,.int .i64 e.2]::R) (by kernel_rfl) (by kernel_rfl) rfl mS ?_)|(apply MK;exact rfl;exact rfl;(exact vC))|(refine oO [] [⟨5,g3,3,x3,.int .i64 e.1⟩,⟨6,g4,23,x4,.int .i64 e.2⟩] ⟨4,g2,91,x2,.slice none 0 0⟩ rfl rfl rfl rfl rfl rfl ?_)|(refine oO [⟨4,g2,91,x2,.slice none 0 0⟩] [⟨6,g4,23,x4,.int .i64 e.2⟩] ⟨5,g3,3,x3,.int .i64 e.1⟩ rfl rfl rfl rfl rfl rfl ?_)|(refine oO [⟨4,g2,91,x2,.slice none 0 0⟩,⟨5,g3,3,x3,.int .i64 e.1⟩] [] ⟨6,g4,23,x4,.int .i64 e.2⟩ rfl rfl rfl rfl rfl rfl ?_)|apply zN|refine sT ?_|refine sG ?_|refine sM fun _=>?_|(refine sC ?_ ?_<;>intro hb<;>try omega)|fail)
 refine ⟨.inr rfl,?_⟩;simp only [RP,SE,BoxT.post,QV,QW];exact mS
def bM (x:List Tk × Int × Int) (fin:Int):List Nd × Int × Int:=
 if x.2.2≠0 then ([],x.2.1,x.2.2)
 else match bw fin (20*x.1.length+40) (.level 1) ⟨x.1,[]⟩ with
  |none=>([],0,0)
  |some (.error (a,e))=>([],a,e)
  |some (.ok (_,p))=>
   if (hdT fin p.l).kind≠0 then ([],(hdT fin p.l).at_,4)
   else if dM p.out≠0 then ([],0,dM p.out)
   else (p.out,0,0)
theorem BW {tk:List Int→Option (Tk × Nat)} {l:List Int} (f:Nat): ∀ (i:Nat) (r:List Tk),bk tk l f i= .ok r→r.length≤f:=by
 induction f with
 |zero=>intro i r h;simp only [bk,Except.ok.injEq] at h;subst h;exact Rg _
 |succ f ih=>
  intro i r h;simp only [bk] at h;split at h
  ·cases h;exact QZ _
  ·split at h
   ·exact Ua (ih _ _ h)
   ·split at h
    ·cases h
    ·rename_i t n _
     cases hr:bk tk l f (i+n) with
     |error e=>rw [hr] at h;cases h
     |ok r' =>
      rw [hr] at h;cases h;exact Nat.succ_le_succ (ih _ _ hr)
theorem nV (tk:List Int→Option (Tk × Nat)) (l:List Int):(bq tk l).1.length≤256:=by
 unfold bq;split
 ·exact QZ _
 ·split
  ·exact QZ _
  ·split
   ·rename_i h;have:=BW _ _ _ h;dsimp only;omega
   ·exact QZ _
theorem At.start (toks:List Tk) (A:Option Nat) (cap:Nat):At toks A cap ⟨toks,[]⟩ (sl A toks.length cap):=
 ⟨0,QZ _,rfl,Rg _,A.map fun g=>⟨g,0,none⟩,by simp [sl],fun _=>by simp⟩
def GW (A:Option Nat) (cap:Nat) (r:List Nd × Int × Int):Value:= .tuple #[sl A r.1.length cap,.int .i64 r.2.1,.int .i64 r.2.2]
theorem GD (a:ByteArray) (w:World) (hW:Words w) (r:List Nd × Int × Int) (hr:r=bM (bq dJ (ap a)) (a.size:Int)):
 FnAt Tryz.prog 91 [.string a] w fun v H=> ∃ A cap,v=GW A cap r∧H= [.own A 123 11 r.1.length cap (r.1.flatMap bf)]:=by
 refine NP Tryz.func91 rfl Tryz.ntmps91 rfl ?_;have htl:=nV dJ (ap a);have hT:=fun w' (hm:Σ' H,Mem w w' H)=>JY a w' (hW.next hm.2);obtain ⟨⟨toks,at0,e0⟩,hx⟩: ∃ x,bq dJ (ap a)=x:=⟨_,rfl⟩;rw [hx] at hr htl;simp only [hx,GY] at hT;dsimp only at htl;refine yN 123 11 ?_;refine yN 123 11 ?_;refine KK (fun e a w _ h=>L9 h) ?_;obtain ⟨r1,hr1,_⟩:=rX (a.size:Int) (20*toks.length+40) (.level 1) ⟨toks,[]⟩ ⟨by omega,by omega⟩ (by simp [Job.c]);have hP: ∀ (A:Option Nat) (cap g:Nat) (R:List Blk),toks.length≤cap→FnP Tryz.prog 147 [.pointer (some ⟨g,0,none⟩)] w (pB g (sl A toks.length cap) A cap (a.size:Int) toks none 0 []++R) (PR toks A cap (a.size:Int) g R r1) (PD R r1):=fun A cap g R hc=>
  (I1 (20*toks.length+40)).2.2.2.2 toks A cap (a.size:Int) g ⟨toks,[]⟩ (sl A toks.length cap) none 0 r1 R w hc (by omega) (At.start toks A cap) hr1
 obtain ⟨ff,hff⟩: ∃ ff,20*toks.length+40=ff:=⟨_,rfl⟩;rw [hff] at hr1;repeat' (first|(apply aK (f:=145);exact rfl;exact rfl;exact fun w' hm=>hT w' ⟨_,hm⟩;rintro _ _ ⟨A,cap,rfl,rfl⟩)|(rename_i g2 g3 g4;refine KL (cs:= [_,_,_]) rfl rfl ?_)|(refine KK (fun e a w _ h=>L9 h) ?_)|(refine Pb (fun e a w h=>PL h) ?_)|(rename_i g2 g3 g4;refine BI (id:=3) [⟨2,g2,91,.slice none 0 0,.slice none 0 0⟩,⟨3,g3,3,.int .i64 at0,.int .i64 at0⟩,⟨4,g4,23,.int .i64 e0,.int .i64 e0⟩] [.own none 123 11 0 0 []] (by kernel_rfl) (by kernel_rfl) rfl mS ?_)|(refine oO [] [⟨3,g3,3,.int .i64 at0,.int .i64 at0⟩,⟨4,g4,23,.int .i64 e0,.int .i64 e0⟩] ⟨2,g2,91,.slice none 0 0,.slice none 0 0⟩ rfl rfl rfl rfl rfl rfl ?_)|(refine oO [⟨2,g2,91,.slice none 0 0,.slice none 0 0⟩] [⟨4,g4,23,.int .i64 e0,.int .i64 e0⟩] ⟨3,g3,3,.int .i64 at0,.int .i64 at0⟩ rfl rfl rfl rfl rfl rfl ?_)|(refine oO [⟨2,g2,91,.slice none 0 0,.slice none 0 0⟩,⟨3,g3,3,.int .i64 at0,.int .i64 at0⟩] [] ⟨4,g4,23,.int .i64 e0,.int .i64 e0⟩ rfl rfl rfl rfl rfl rfl ?_)|(refine GL ⟨3,g3,3,.int .i64 at0,.int .i64 at0⟩ (.tail _ (.head _)) (f:=60) (j:=3) rfl (by decide+kernel) rfl rfl rfl ?_)|(refine GL ⟨4,g4,23,.int .i64 e0,.int .i64 e0⟩ (.tail _ (.tail _ (.head _))) (f:=60) (j:=4) rfl (by decide+kernel) rfl rfl rfl ?_)|apply zN|(apply ai;exact rfl;apply mV;exact rfl)|(apply ai;exact rfl;apply eK;exact rfl)|(apply HY (f:=147);exact rfl;exact rfl;infer_instance;exact rfl;rename_i gp;exact FnP.own (A:=A) pK (fun hcap=>FnP.msub (hP A cap _ _ hcap) (MSub.pick pK (MSub.pick pK (MSub.pick pK (MSub.refl _))))))|(rintro _ _ ⟨rfl,n,p',lv',B',cb',rfl,h2,rfl⟩;obtain ⟨u,hu⟩: ∃ u,hdT (a.size:Int) p'.l=u:=⟨_,rfl⟩)|(rintro _ _ ⟨e,rfl,rfl,h3⟩)|(apply aa (f:=148);exact rfl;exact rfl;(intro w' hm';exact At.head' (B:=B') (cb:=cb') (out:=p'.out) (fin:=(a.size:Int)) h2 hu (MSub.pick pK (MSub.pick pK (MSub.pick pK (MSub.nil _)))) w' hm'))|(apply aa (f:=92);exact rfl;exact rfl;(intro w' hm';exact Er p'.out _ w' (Reads.of_own (A:=B') hm' pK)))|(refine bL (f:=149) rfl rfl (jE _ _ _ _ _ (fun _ _=>False)) ?_ ?_)|(exact fun _ _ h=>h.elim)|(rintro _ _ ⟨rfl,rfl⟩)|refine sT ?_|refine sP ?_|refine sG ?_|refine sM fun _=>?_|(refine sC ?_ ?_<;>intro hb<;>try omega)|fail)
 ·have hr' :r=([],at0,e0):=by rw [hr];simp [bM,hb]
  subst hr';simp only [RP,SE,BoxT.post,QV,QW];exact qL (.inl rfl) rfl rfl pK rfl pK rfl pK (H' := [.own none 123 11 0 0 []]) mS ⟨none,0,rfl,rfl⟩
 ·rename_i he0 gp _ u0 hu0 g1;have hr' :r=([],u0.at_,4):=by rw [hr];simp [bM,hff,hr1,hu0,hb,Classical.not_not.1 he0]
  subst hr';refine ⟨_,.box g2 91 [.slice none 0 0]:: .box g3 3 [.int .i64 at0]:: .box g4 23 [.int .i64 e0]:: [.own none 123 11 0 0 []],_,rfl,?_,Hd g2 g3 g4 _ _ _ (u0.at_,4) w _,qL (.inl rfl) rfl rfl pK rfl pK rfl pK (H' := [.own none 123 11 0 0 []]) mS ⟨none,0,rfl,rfl⟩⟩;simp only [Re,QV,QW,pB];exact mS
 ·rename_i he0 gp _ g1 hb1;have hr' :r=([],0,dM p'.out):=by rw [hr];simp [bM,hff,hr1,hu,Classical.not_not.1 hb1,hb,Classical.not_not.1 he0]
  subst hr';exact ⟨.returning,_,_,rfl,.refl _,Ha _ _ _ _ _,qL (.inl rfl) rfl rfl pK rfl pK rfl pK (H' := [.own none 123 11 0 0 []]) mS ⟨none,0,rfl,rfl⟩⟩
 ·rename_i he0 gp _ g1 hb1;have hr' :r=(p'.out,0,0):=by rw [hr];simp [bM,hff,hr1,hu,Classical.not_not.1 hb1,Classical.not_not.1 hb,Classical.not_not.1 he0]
  subst hr';exact ⟨.returning,_,_,rfl,.refl _,Ha _ _ _ _ _,qL (.inl rfl) rfl rfl pK rfl pK rfl pK (H' := [.own B' 123 11 p'.out.length cb' (p'.out.flatMap bf)]) mS ⟨B',cb',rfl,rfl⟩⟩
 ·have hr' :r=([],e.1,e.2):=by rw [hr];simp [bM,hff,hr1,Classical.not_not.1 hb]
  subst hr';refine ⟨_,.box g2 91 [.slice none 0 0]:: .box g3 3 [.int .i64 at0]:: .box g4 23 [.int .i64 e0]:: [.own none 123 11 0 0 []],_,rfl,MSub.trans ?_ h3,Hd g2 g3 g4 _ _ _ e w _,qL (.inl rfl) rfl rfl pK rfl pK rfl pK (H' := [.own none 123 11 0 0 []]) mS ⟨none,0,rfl,rfl⟩⟩;exact mS
end Go.SL
namespace Go.SL
open Go
theorem fC (c:Int):aH c=true↔48≤c∧c≤57:=by simp [aH]
theorem iR (c:Int):bT c=true↔(65≤c∧c≤90)∨(97≤c∧c≤122):=by simp [bT]
theorem NE (c:Int):bT c=false↔ ¬ ((65≤c∧c≤90)∨(97≤c∧c≤122)):=by rw [← iR];simp
theorem Dr (c:Int):bT (upC c)=bT c:=by
 rw [Sc,iR,iR,upC];by_cases h:97≤c∧c≤122
 ·rw [if_pos h];omega
 ·rw [if_neg h]
theorem L8 (c:Int):aH (upC c)=aH c:=by
 rw [Sc,fC,fC,upC];by_cases h:97≤c∧c≤122
 ·rw [if_pos h];omega
 ·rw [if_neg h]
theorem MY (c:Int):upC (upC c)=upC c:=by
 simp only [upC];split
 ·rw [if_neg (by omega)]
 ·rfl
theorem MZ {c:Int} (h:aH c=true):upC c=c:=by
 simp only [aH,RB,decide_eq_true_eq] at h;rw [upC,if_neg (by omega)]
theorem qG: ∀ l:List Int,(l.map upC).takeWhile bT=(l.takeWhile bT).map upC
 | []=>rfl
 |c::r=>by
  simp only [RP,List.takeWhile_cons,Dr];split
  ·rw [qG r];rfl
  ·rfl
theorem ry: ∀ l:List Int,(l.map upC).dropWhile bT=(l.dropWhile bT).map upC
 | []=>rfl
 |c::r=>by
  simp only [RP,List.dropWhile_cons,Dr];split
  ·rw [ry r]
  ·rfl
theorem tP: ∀ (l:List Int) (v:Int),bu (l.map upC) v=bu l v
 | [],_=>rfl
 |c::r,v=>by simp only [RP,bu,MY,tP r]
theorem Mm: ∀ l:List Int,(l.map upC).all aH=l.all aH
 | []=>rfl
 |c::r=>by simp only [RP,Uu,L8,Mm r]
theorem wM: ∀ {l:List Int},l.all aH=true→l.map upC=l
 | [],_=>rfl
 |c::r,h=>by
  simp only [Uu,RB] at h;simp only [RP,MZ h.1,wM h.2]
theorem NJ (l:List Int):((l.map upC).head? =some 48)↔(l.head? =some 48):=by
 cases l with
 |nil=>simp
 |cons c r=>
  simp only [RP,List.head?_cons,Option.some.injEq,upC];split<;>omega
theorem Mq (l:List Int):cy (l.map upC)=cy l:=by
 unfold cy;simp only [qG,ry,List.map_eq_nil_iff,NJ,Mm,tP];split
 ·rfl
 ·rename_i h;have hd:(l.dropWhile bT).all aH=true:=by
   cases hh:(l.dropWhile bT).all aH with
   |true=>rfl
   |false=>exact absurd (.inr (.inr (.inr hh))) h
  rw [wM hd]
theorem rY {p:Int→Bool}: ∀ {l:List Int} {n:Nat},n≤aG p l→aG p (l.take n)=n
 | [],n,h=>by simp [aG] at h;subst h;rfl
 |c::r,0,_=>rfl
 |c::r,n+1,h=>by
  simp only [aG] at h;split at h
  ·rename_i hc;simp only [SA,aG,hc,if_true];rw [rY (by omega)]
  ·omega
theorem qJ {p:Int→Bool}: ∀ {l:List Int} {n:Nat},aG p l≤n→aG p (l.take n)=aG p l
 | [],n,_=>by simp
 |c::r,0,h=>by
  simp only [aG] at h;split at h
  ·omega
  ·rename_i hc;simp [aG,hc]
 |c::r,n+1,h=>by
  simp only [aG] at h ⊢;simp only [SA,aG];split at h
  ·rename_i hc;simp only [hc,if_true];rw [qJ (by omega)]
  ·rename_i hc;simp [hc]
theorem ow {l:List Int} (h:bZ l≠0): ∃ r,l=46::r∧bZ l=aG aH r:=by
 cases l with
 |nil=>exact absurd rfl h
 |cons c r=>
  by_cases hc:c=46
  ·subst hc;exact ⟨r,rfl,rfl⟩
  ·exact absurd (nk hc) h
theorem DX {l:List Int} {w p:Nat} (hw:aG aH l=w) (hp:bZ (l.drop w)=p) (h0:w≠0) (h4:p≤4):
 iB (l.take (if p=0 then w else w+1+p))=if cN<bE (l.take w++(l.drop (w+1)).take p++List.replicate (4 - p) 48) 0 then (0,3) else (bE (l.take w++(l.drop (w+1)).take p++List.replicate (4 - p) 48) 0,0):=by
 have hwl:w≤l.length:=hw ▸ bY aH l;obtain ⟨c,r,rfl⟩: ∃ c r,l=c::r:=by
  cases l with
  |nil=>simp [aG] at hw;omega
  |cons c r=>exact ⟨c,r,rfl⟩
 have hc:aH c=true:=kG (c::r) 0 c (by omega) rfl;have hc45:c≠45:=by simp only [aH,RB,decide_eq_true_eq] at hc;omega
 have hneg: ∀ n,0<n→decide (((c::r).take n).head? =some 45)=false:=by
  intro n hn
  cases n with
  |zero=>omega
  |succ n=>simp [hc45]
 by_cases hp0:p=0
 ·subst hp0;rw [if_pos rfl];unfold iB;have hrun:aG aH ((c::r).take w)=w:=rY (by omega);have hdrop:((c::r).take w).drop w= []:=by rw [UI,RI];omega
  have htt:((c::r).take w).take w=(c::r).take w:=by rw [List.take_take,Nat.min_self]
  simp only [hneg w (by omega),RY,if_false,hrun,hdrop,htt];simp [h0]
 ·rw [if_neg hp0];obtain ⟨q,hq,hq2⟩:=ow (l:=(c::r).drop w) (by omega);have hpq:aG aH q=p:=by omega
  have hpl:p≤q.length:=hpq ▸ bY aH q;have hlen:(c::r).length=w+1+q.length:=by
   have:=congrArg List.length hq;rw [RE] at this;simp only [Rk] at this ⊢;omega
  have hd1:(c::r).drop (w+1)=q:=by
   rw [← SV,hq];rfl
  have hrun:aG aH ((c::r).take (w+1+p))=w:=by rw [qJ (by omega)];exact hw
  have hdrop:((c::r).take (w+1+p)).drop w=46::q.take p:=by
   rw [List.drop_take,hq,show w+1+p - w=p+1 by omega];rfl
  have htt:((c::r).take (w+1+p)).take w=(c::r).take w:=by rw [List.take_take,Tm (by omega)]
  have hrp:aG aH (q.take p)=p:=rY (by omega);have hlp:(q.take p).length=p:=by rw [RI];omega
  unfold iB;simp only [hneg (w+1+p) (by omega),RY,if_false,hrun,hdrop,htt,List.tail_cons,hrp,hd1];have hfrac:(decide (1<(46::q.take p).length) && (decide ((46::q.take p).head? =some 46) && decide (p+1=(46::q.take p).length)))=true:=by
   simp only [Rk,hlp,List.head?_cons,decide_true,Ss,SD];simp;omega
  simp only [hfrac,if_true];have h5:(q.take p++ [48,48,48,48,48]).getD 4 0=48:=by
   rw [RJ,RM (by omega),hlp];rcases (by omega:p=1∨p=2∨p=3∨p=4) with rfl|rfl|rfl|rfl<;>rfl
  have h6:(q.take p++ [48,48,48,48,48]).take 4=q.take p++List.replicate (4 - p) 48:=by
   rw [List.take_append,hlp,Sf (by omega)];rcases (by omega:p=1∨p=2∨p=3∨p=4) with rfl|rfl|rfl|rfl<;>rfl
  rw [if_neg (by simp [h0])];simp only [h5,h6];rw [if_neg (show ¬ (53:Int)≤48 by decide),Int.add_zero,Rx]
theorem wC (l:List Int):gI l=(lC l).map fun x=>(⟨1,x.1,ax,aS,0⟩,x.2):=by
 unfold gI lC;dsimp only;split
 ·rfl
 ·rename_i h;have h0:aG aH l≠0:=fun e=>h (.inl e);have h4:bZ (l.drop (aG aH l))≤4:=by
   rcases SW 4 (bZ (l.drop (aG aH l))) with h4|h4
   ·exact absurd (.inr h4) h
   ·exact h4
  rw [DX rfl rfl h0 h4];split
  ·rfl
  ·rfl
theorem BR (m:List Int):lO (34::34::m)=(lO m).map (34:: ·):=by
 rw [lO.eq_def];simp
theorem Ch: ∀ (n:Nat) (l:List Int),l.length≤n→lj l=(cL l).bind fun k=>(lO (l.take k)).map fun t=>(t,k+1):=by
 intro n
 induction n with
 |zero=>intro l h;have:l= []:=Sl (by omega);subst this;rfl
 |succ n ih=>
  intro l h
  cases l with
  |nil=>rfl
  |cons c r=>
   simp only [Rk] at h;by_cases hc:c=34
   ·subst hc
    cases r with
    |nil=>rfl
    |cons d r' =>
     simp only [Rk] at h;by_cases hd:d=34
     ·subst hd;rw [lj.eq_def,cL.eq_def];simp only [ne_eq,not_true,if_false,if_true];rw [ih r' (by omega)]
      cases hk:cL r' with
      |none=>rfl
      |some k=>
       simp only [Sq,Option.bind_some];rw [SA,SA,BR];cases lO (r'.take k)<;>rfl
     ·rw [lj.eq_def,cL.eq_def];simp [hd,lO]
   ·rw [lj.eq_def,lK hc];simp only [ne_eq,hc,not_false_eq_true,if_true];rw [ih r (by omega)]
    cases hk:cL r with
    |none=>rfl
    |some k=>
     simp only [Sq,Option.bind_some];rw [SA,rR hc];cases lO (r.take k)<;>rfl
theorem JN: ∀ (n:Nat) (l:List Int) (k:Nat),l.length≤n→cL l=some k→l[k]? =some 34∧ ∃ t,lO (l.take k)=some t∧t.length≤k:=by
 intro n
 induction n with
 |zero=>intro l k h hk;have:l= []:=Sl (by omega);subst this;cases hk
 |succ n ih=>
  intro l k h hk
  cases l with
  |nil=>cases hk
  |cons c r=>
   simp only [Rk] at h;by_cases hc:c=34
   ·subst hc
    cases r with
    |nil=>cases hk;exact ⟨rfl,[],rfl,Rg _⟩
    |cons d r' =>
     simp only [Rk] at h;by_cases hd:d=34
     ·subst hd;rw [cL.eq_def] at hk;simp only [ne_eq,not_true,if_false,if_true] at hk
      cases hk' :cL r' with
      |none=>rw [hk'] at hk;cases hk
      |some j=>
       rw [hk'] at hk;cases hk;obtain ⟨h1,t,h2,h3⟩:=ih r' j (by omega) hk';refine ⟨h1,34::t,?_,by simp only [Rk];omega⟩;rw [SA,SA,BR,h2];rfl
     ·rw [cL.eq_def] at hk;simp [hd] at hk;subst hk;exact ⟨rfl,[],rfl,Rg _⟩
   ·rw [lK hc] at hk
    cases hk' :cL r with
    |none=>rw [hk'] at hk;cases hk
    |some j=>
     rw [hk'] at hk;cases hk;obtain ⟨h1,t,h2,h3⟩:=ih r j (by omega) hk';refine ⟨h1,c::t,?_,by simp only [Rk];omega⟩;rw [SA,rR hc,h2];rfl
theorem KE {r:List Int} (hp:(34::r).all (fun c=>bG c)=true) (hl:r.length≤256):nX (34::r)=(lj r).map fun x=>(⟨2,0,mkB x.1,aS,0⟩,x.2+1):=by
 unfold nX;rw [Ch r.length r (Rg _)];simp only [SU,ne_eq,not_true,if_false,UJ,SP]
 cases hk:cL r with
 |none=>rfl
 |some k=>
  obtain ⟨h1,t,h2,h3⟩:=JN r.length r k (Rg _) hk;obtain ⟨hkl,h1⟩:=Rm.1 h1;have e1:(34::r).take (k+2)=34::r.take (k+1):=rfl;have e2:r.take (k+1)=r.take k++ [34]:=by rw [Ra hkl,h1]
  have hall:(34::r.take (k+1)).all (fun c=>bG c)=true:=by
   rw [← e1];rw [SI] at hp ⊢;exact fun x hx=>hp x (SF hx)
  have e3:gU (34::r.take (k+1))=(t,0):=by
   unfold gU;rw [hall];rw [if_neg (by rw [e2];simp [List.getLast?_cons])];have:((34::r.take (k+1)).drop 1).dropLast=r.take k:=by rw [UJ,SP,e2,List.dropLast_concat]
   rw [this,h2];simp only;rw [if_neg (by omega)]
  simp only [e1,e3,Option.bind_some,h2,Sq];simp
theorem Kx (l:List Int):upW l=(l.take (aG cY l)).map upC:=rfl
theorem QI (l:List Int):cy (upW l)=cy (l.take (aG cY l)):=by rw [Kx,Mq]
def jQ (l:List Int):Option (Tk × Nat):=match lI l with
 |some x=>some x
 |none=>i9 l
theorem xj {l:List Int} (h:l.headD 0≠35): ∀ (ns:List (List Int)) (k:Int),(∀ s∈ns,s.head? =some 35)→kV l ns k=none
 | [],_,_=>rfl
 |s::r,k,hs=>by
  have h1:=hs s QY;rw [kV,if_neg,xj h r _ fun s hs' =>hs s (Rh _ hs')];intro e
  cases s with
  |nil=>cases h1
  |cons a s=>
   cases h1
   cases l with
   |nil=>cases e
   |cons c l=>
    simp only [Rk,SA,RP,List.cons.injEq] at e;simp only [SU] at h;have:=e.1;simp only [upC] at this;split at this<;>omega
theorem nH {l:List Int} (h:l.headD 0≠35):lI l=none:=by
 unfold lI;rw [xj h eH 1 (by decide)]
 rfl
def qQ:List Int:= [60,62,43,45,42,47,94,38,61,37]
theorem wy {l:List Int} (h:l.headD 0∉qQ): ∀ ns:List (List Int × Int),(∀ s∈ns,∃ c,s.1.head? =some c∧c∈qQ)→opL l ns=none
 | [],_=>rfl
 |(s,k)::r,hs=>by
  obtain ⟨a,h1,h2⟩:=hs (s,k) QY;rw [opL,if_neg,wy h r fun s hs' =>hs s (Rh _ hs')];intro e
  cases s with
  |nil=>cases h1
  |cons b s=>
   cases h1
   cases l with
   |nil=>cases e
   |cons c l=>
    simp only [Rk,SA,List.cons.injEq] at e;simp only [SU] at h;exact h (e.1 ▸ h2)
theorem p8 {l:List Int} (h:l.headD 0∉qQ) (h1:l.headD 0≠40) (h2:l.headD 0≠41) (h3:l.headD 0≠44):i9 l=none:=by
 unfold i9;rw [wy h fK (by decide)];simp only [h1,h2,h3,if_false]
theorem Aj {l:List Int} (h:aH (l.headD 0)=false):gI l=none:=by
 unfold gI;have:aG aH l=0:=by
  cases l with
  |nil=>rfl
  |cons c r=>simp only [SU] at h;simp [aG,h]
 simp [this]
theorem vL {l:List Int} (h:l.headD 0≠34):nX l=none:=by
 unfold nX;rw [if_pos h]
theorem pU {l:List Int} (h:bT (l.headD 0)=false):iI l=none:=by
 unfold iI;rw [if_pos h]
def bC (l:List Int):Option (Tk × Nat):=
 if aH (l.headD 0) then (lC l).map fun x=>(⟨1,x.1,ax,aS,0⟩,x.2)
 else if l.headD 0=34 then (lj l.tail).map fun x=>(⟨2,0,mkB x.1,aS,0⟩,x.2+1)
 else if bT (l.headD 0) then iI l
 else jQ l
theorem tK (c:Int):c∈qQ↔c=60∨c=62∨c=43∨c=45∨c=42∨c=47∨c=94∨c=38∨c=61∨c=37:=by simp [qQ]
theorem Io {l:List Int} (hp:l.all (fun c=>bG c)=true) (hl:l.length≤256):dJ l=bC l:=by
 have hF:dJ l=match gI l with
  |some x=>some x
  |none=>match nX l with
   |some x=>some x
   |none=>match iI l with
    |some x=>some x
    |none=>jQ l:=by
  unfold dJ n8 nG jQ;cases gI l<;>simp only [nG];cases nX l<;>simp only;cases iI l<;>simp only;cases lI l<;>simp only;cases i9 l<;>rfl
 rw [hF];unfold bC;by_cases h1:aH (l.headD 0)=true
 ·have h1' :=(fC _).1 h1;rw [if_pos h1,← wC,vL (by omega),pU ((NE _).2 (by omega)),jQ,nH (by omega),p8 (by rw [tK];omega) (by omega) (by omega) (by omega)];cases gI l<;>rfl
 ·rw [if_neg h1];have h1' :aH (l.headD 0)=false:=by simpa using h1
  rw [Aj h1'];by_cases h2:l.headD 0=34
  ·rw [if_pos h2]
   cases l with
   |nil=>cases h2
   |cons c r=>
    simp only [SU] at h2;subst h2;rw [KE hp (by simp only [Rk] at hl;omega),List.tail_cons,pU (by rw [SU];decide),jQ,nH (by rw [SU];decide),p8 (by rw [SU];decide) (by rw [SU];decide) (by rw [SU];decide) (by rw [SU];decide)];cases lj r<;>rfl
  ·rw [if_neg h2,vL h2];by_cases h3:bT (l.headD 0)=true
   ·have h3' :=(iR _).1 h3;rw [if_pos h3,jQ,nH (by omega),p8 (by rw [tK];omega) (by omega) (by omega) (by omega)];cases iI l<;>rfl
   ·rw [if_neg h3,pU (by simpa using h3)]
theorem ET {l:List Int} (hp:l.all (fun c=>bG c)=true) (hl:l.length≤256): ∀ f i,bk dJ l f i=bk bC l f i:=by
 intro f
 induction f with
 |zero=>intro i;rfl
 |succ f ih=>
  intro i;simp only [bk];have h1:(l.drop i).all (fun c=>bG c)=true:=by
   rw [SI] at hp ⊢;exact fun x hx=>hp x (TC hx)
  rw [Io h1 (by rw [RE];omega)];simp only [ih]
theorem ES (l:List Int):bq dJ l=bq bC l:=by
 unfold bq;split
 ·rfl
 ·rename_i hl
  cases h:l.findIdx? (fun c=> !bG c) with
  |some i=>rfl
  |none=>
   simp only;rw [ET _ (by omega)];rw [Sy] at h;rw [SI];intro x hx;have:=h x hx;simpa using this
end Go.SL
