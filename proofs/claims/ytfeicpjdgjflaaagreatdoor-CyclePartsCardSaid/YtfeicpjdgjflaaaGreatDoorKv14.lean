/-
  Lemmas and walks, put together: C6 W36 Cc Cf Cd.
-/
import Derived.Test.YtfeicpjdgjflaaaGreatDoorKv12
import Derived.Test.YtfeicpjdgjflaaaGreatDoorKv13
set_option linter.unusedSimpArgs false
set_option linter.unusedVariables false
set_option maxRecDepth 20000
set_option maxHeartbeats 16000000
namespace Go.SL
open Go Go.Proofs
attribute [local irreducible] W WL WQ WG WA WX WLI WR WT VOp thn blk bg scp aS aV bi FnAt FnIn FnP
theorem BN (fin:Int) (f:Nat) (p:PS) (h:(hdT fin p.l).kind=7):bK fin (f+1) .prim p=zP f (hdT fin p.l) fin p:=by
 rw [bK];dsimp only;rw [if_neg (by omega),if_neg (by omega),if_neg (by omega),if_pos h]
 rfl
theorem I0 (f:Nat) (ih: ∀ f' ≤f,POK f' (.level 1) 227 []):POK (f+1) .prim 400 []:=by
 intro toks A cap fin g p lv B cb r R w0 hc hl hat hrun;refine zp Tryz.func400 rfl Tryz.ntmps400 rfl ?_;obtain ⟨t,ht⟩: ∃ t,hdT fin p.l=t:=⟨_,rfl⟩;have hh:=fun w hm=>At.head' (fin:=fin) (g:=g) (B:=B) (cb:=cb) (out:=p.out) (H:=pB g lv A cap fin toks B cb p.out++R) (w0:=w0) hat ht (MSub.pick .hd (.pick .hd (.pick .hd (.nil _)))) w hm;by_cases h7:t.kind=7
 ·rw [BN _ _ _ (by rw [ht];exact h7),ht] at hrun;have hcl:=Ss f t ih toks A cap fin g p lv B cb r;unfold Ei at hcl;rw [if_pos ⟨ht,h7⟩] at hcl;repeat' (first|apply ag (f:=228);exact rfl;exact rfl;exact hh|refine bY (f:=414) rfl rfl (FnP.msub (hcl _ w0 hc hl hat hrun) (MSub.pick pK (MSub.pick pK (MSub.pick pK (MSub.refl _))))) ?_ ?_|rintro _ _ ⟨rfl,n,p',lv',B',cb',rfl,h2,rfl⟩|rintro _ _ ⟨e,rfl,rfl,h3⟩|refine zZD ?_|refine sM fun _=>?_|refine sC ?_ ?_<;>intro hb<;>try omega|fail)
  ·refine fT (B' :=B') (cb' :=cb') (by first|exact .inr rfl|exact .inl rfl) rfl rfl h2 ?_;simp only [Vz,Vp,Vq,pB];exact mS
  ·exact dL rfl (MSub.trans (.drop .hd (.refl _)) h3)
 rw [bK] at hrun;dsimp only at hrun;rw [ht] at hrun;by_cases h14:1≤t.kind∧t.kind≤4
 ·rw [if_pos h14] at hrun;cases hrun;rcases (by omega:t.kind=1∨t.kind=2∨t.kind=3∨t.kind=4) with hk|hk|hk|hk
  ·repeat' first|apply ag (f:=228);exact rfl;exact rfl;exact hh|refine bY (f:=412) rfl rfl (FnP.msub (tu ⟨1,t.num,aB⟩ toks A cap fin g p _ B cb (.ok (0,p.skip.put (o7 t))) _ w0 hc hl hat (by dsimp only;rw [if_neg (by rw [ht];omega)];simp [o7,hk])) (MSub.pick pK (MSub.pick pK (MSub.pick pK (MSub.refl _))))) ?_ ?_|rintro _ _ ⟨rfl,n,p',lv',B',cb',h,h2,rfl⟩|(rintro _ _ ⟨e,h,rfl,h3⟩;cases h)|refine zZD ?_|refine sM fun _=>?_|refine sC ?_ ?_<;>intro hb<;>try omega|fail
   all_goals first
    |omega
    | (refine fT (B' := B') (cb' := cb') (by first | exact .inr rfl | exact .inl rfl) rfl h h2 ?_
       simp only [Vz,Vp,Vq,pB];exact mS)
  ·repeat' first|apply ag (f:=228);exact rfl;exact rfl;exact hh|refine bY (f:=412) rfl rfl (FnP.msub (tu ⟨3,0,t.text⟩ toks A cap fin g p _ B cb (.ok (0,p.skip.put (o7 t))) _ w0 hc hl hat (by dsimp only;rw [if_neg (by rw [ht];omega)];simp [o7,hk])) (MSub.pick pK (MSub.pick pK (MSub.pick pK (MSub.refl _))))) ?_ ?_|rintro _ _ ⟨rfl,n,p',lv',B',cb',h,h2,rfl⟩|(rintro _ _ ⟨e,h,rfl,h3⟩;cases h)|refine zZD ?_|refine sM fun _=>?_|refine sC ?_ ?_<;>intro hb<;>try omega|fail
   all_goals first
    |omega
    | (refine fT (B' := B') (cb' := cb') (by first | exact .inr rfl | exact .inl rfl) rfl h h2 ?_
       simp only [Vz,Vp,Vq,pB];exact mS)
  ·repeat' first|apply ag (f:=228);exact rfl;exact rfl;exact hh|refine bY (f:=412) rfl rfl (FnP.msub (tu ⟨2,t.num,aB⟩ toks A cap fin g p _ B cb (.ok (0,p.skip.put (o7 t))) _ w0 hc hl hat (by dsimp only;rw [if_neg (by rw [ht];omega)];simp [o7,hk])) (MSub.pick pK (MSub.pick pK (MSub.pick pK (MSub.refl _))))) ?_ ?_|rintro _ _ ⟨rfl,n,p',lv',B',cb',h,h2,rfl⟩|(rintro _ _ ⟨e,h,rfl,h3⟩;cases h)|refine zZD ?_|refine sM fun _=>?_|refine sC ?_ ?_<;>intro hb<;>try omega|fail
   all_goals first
    |omega
    | (refine fT (B' := B') (cb' := cb') (by first | exact .inr rfl | exact .inl rfl) rfl h h2 ?_
       simp only [Vz,Vp,Vq,pB];exact mS)
  ·repeat' first|apply ag (f:=228);exact rfl;exact rfl;exact hh|refine bY (f:=412) rfl rfl (FnP.msub (tu ⟨4,t.num,aB⟩ toks A cap fin g p _ B cb (.ok (0,p.skip.put (o7 t))) _ w0 hc hl hat (by dsimp only;rw [if_neg (by rw [ht];omega)];simp [o7,hk])) (MSub.pick pK (MSub.pick pK (MSub.pick pK (MSub.refl _))))) ?_ ?_|rintro _ _ ⟨rfl,n,p',lv',B',cb',h,h2,rfl⟩|(rintro _ _ ⟨e,h,rfl,h3⟩;cases h)|refine zZD ?_|refine sM fun _=>?_|refine sC ?_ ?_<;>intro hb<;>try omega|fail
   all_goals first
    |omega
    | (refine fT (B' := B') (cb' := cb') (by first | exact .inr rfl | exact .inl rfl) rfl h h2 ?_
       simp only [Vz,Vp,Vq,pB];exact mS)
 rw [if_neg h14] at hrun;by_cases h5:t.kind=5
 ·rw [if_pos h5] at hrun;cases hrun;repeat' (first|apply ag (f:=228);exact rfl;exact rfl;exact hh|apply ak (f:=352);exact rfl;exact rfl;exact hat.skip hc (c:=5) (by rw [ht];exact h5) (by decide) (MSub.pick pK (MSub.pick pK (MSub.pick pK (MSub.refl _))));rintro _ _ ⟨rfl,lv1,h1,rfl⟩|apply ak (f:=353);exact rfl;exact rfl;exact FnIn.msub (mJ ⟨2,bX,t.rect,0,0,0⟩ _ _ _ _ _ _ _ _ _ (At.len hat hl) _ _) (MSub.pick pK (MSub.pick pK (MSub.pick pK (MSub.refl _))));rintro _ _ ⟨rfl,B3,cb3,rfl⟩|refine zZD ?_|refine sM fun _=>?_|refine sC ?_ ?_<;>intro hb<;>try omega|fail)
  all_goals first
   |omega
   | (refine fT (p' := p.skip.put ⟨2, bX, t.rect, 0, 0, 0⟩) (B' := B3) (cb' := cb3) (by first | exact .inr rfl | exact .inl rfl) rfl rfl (h1.put _) ?_
      simp only [Vz,Vp,Vq,pB];exact mS)
 rw [if_neg h5] at hrun;by_cases h9:t.kind=9
 ·rw [if_pos h9] at hrun;obtain ⟨r1,hr1,hr2⟩:=bU hrun;repeat' (first|apply ag (f:=228);exact rfl;exact rfl;exact hh|apply ak (f:=352);exact rfl;exact rfl;exact hat.skip hc (c:=9) (by rw [ht];exact h9) (by decide) (MSub.pick pK (MSub.pick pK (MSub.pick pK (MSub.refl _))));rintro _ _ ⟨rfl,lv1,h1,rfl⟩|refine bY (f:=227) rfl rfl (FnP.msub (ih f (VA _) toks A cap fin g p.skip _ B cb r1 _ w0 hc hl (At1.at h1) hr1) (MSub.pick pK (MSub.pick pK (MSub.pick pK (MSub.refl _))))) ?_ ?_|rintro _ _ ⟨rfl,n,p',lv',B',cb',rfl,h2,rfl⟩|rintro _ _ ⟨e,rfl,rfl,h3⟩|(rcases hr2 with ⟨e,h,_⟩|⟨n1,p1,h,hw⟩;cases h;cases h;refine bY (f:=413) rfl rfl (FnP.msub (CY 10 (by decide) toks A cap fin g p' _ B' cb' r _ w0 hc hl h2 hw) (MSub.pick pK (MSub.pick pK (MSub.pick pK (MSub.refl _))))) ?_ ?_)|refine zZD ?_|refine sM fun _=>?_|refine sC ?_ ?_<;>intro hb<;>try omega|fail)
  ·refine fT (B' :=B') (cb' :=cb') (by first|exact .inr rfl|exact .inl rfl) rfl rfl h2 ?_;simp only [Vz,Vp,Vq,pB];exact mS
  ·exact dL rfl (MSub.trans (.drop .hd (.refl _)) h3)
  ·rcases hr2 with ⟨e',h,h5⟩|⟨n1,p1,h,h5⟩
   ·cases h;exact dL h5 (MSub.trans (.drop .hd (.refl _)) h3)
   ·cases h
 rw [if_neg h9,if_neg h7] at hrun;cases hrun;repeat' (first|apply ag (f:=228);exact rfl;exact rfl;exact hh|refine bY (f:=229) rfl rfl (kC _ _ _ _ _ (fun _ _=>False)) ?_ ?_|exact fun _ _ h=>h.elim|rintro _ _ ⟨rfl,rfl⟩|refine zZD ?_|refine sM fun _=>?_|refine sC ?_ ?_<;>intro hb<;>try omega|fail)
 all_goals first
  |omega
  | (refine dL rfl ?_
     simp only [Vz,Vp,Vq,pB];exact mS)
theorem Mf (f:Nat):(∀ k:Int,1≤k→k≤4→POK f (.level k) 300 [.int .i64 k])∧POK f .sign 349 []∧POK f .pct 379 []∧POK f .prim 400 []∧POK f (.level 1) 227 []:=by
 induction f using Nat.strongRecOn with
 |_ f ih=>
  cases f with
  |zero=>
   refine ⟨fun k _ _=> ?_,?_,?_,?_,?_⟩;all_goals exact fun toks A cap fin g p lv B cb r R w0 hc hl hat h=>by cases h
  |succ f=>
   have hL: ∀ k:Int,1≤k→k≤4→POK (f+1) (.level k) 300 [.int .i64 k]:=fun k h1 h4=>
    Pd f k h1 h4 (fun h3 f' hf' =>(ih f' (by omega)).1 (k+1) (by omega) (by omega)) (fun f' hf' =>(ih f' (by omega)).2.1)
   refine ⟨hL,QZ f (ih f (by omega)).2.1 (ih f (by omega)).2.2.1,I2 f (ih f (by omega)).2.2.2.1,I0 f (fun f' hf' =>(ih f' (by omega)).2.2.2.2),Jr (f+1) (hL 1 (by omega) (by omega))⟩
end Go.SL
namespace Go.SL
open Go Go.Proofs
attribute [local irreducible] W WL WQ WG WA VOp thn blk bg aS FnAt FnIn Qi
theorem ID (L:List Nd) (hwf: ∀ n∈L,wfN n) (tv:Value) (w:World) (ht:Reads w tv L.length (L.flatMap bu)):
 FnAt Tryz.prog 103 [tv] w fun v H=> ∃ A cap,v= .tuple #[sl A (jF L).1.length cap,.int .i64 (jF L).2]∧H= [.own A 128 6 (jF L).1.length cap ((jF L).1.flatMap cw)]:=by
 have ht' :=ht;obtain ⟨Al,cl,rfl,hl1,hl2,hl3⟩:=ht;refine aA Tryz.func103 rfl Tryz.ntmps103 rfl ?_;refine aI 128 6 ?_;have hck:=fun w0 (hm:Reads w0 (.slice Al L.length cl) L.length (L.flatMap bu))=>FL L hwf _ w0 hm;unfold jF;by_cases hc:eD L=0
 rotate_left
 ·generalize eD L=e at hck hc;repeat' (first|apply ag;exact rfl;exact rfl;intro w' hm;exact hck w' (ht'.of_w0 hm)|refine sT ?_|refine sM fun _=>?_|refine sC ?_ ?_<;>intro hb<;>try omega|fail)
  refine dm (.inl rfl) Tryz.results103 rfl rfl (H' := [.own none 128 6 0 0 []]) mS ⟨none,0,?_⟩;rw [if_pos hc];exact ⟨rfl,rfl⟩
 rw [if_neg (by omega)];obtain ⟨hlen,S,Hi,hW,hk3,hct⟩:=Hr hc;obtain ⟨gl,ol,rfl,hrl⟩:=hl3 hW.pos;rw [hc] at hck;have hpar:=fun w0 (hm:Reads w0 (.slice (some ⟨gl,ol,none⟩) L.length cl) L.length (L.flatMap bu))=>JT L hlen S Hi hW _ w0 hm;have hul:=Bs L;repeat' (first|apply ag (f:=166);exact rfl;exact rfl;intro w' hm;exact hck w' (ht'.of_w0 hm)|apply aJ (f:=167);exact rfl;exact rfl;intro w' hm;exact hpar w' (ht'.of_w0 hm);rintro v H' ⟨Ap,cp,rfl,rfl⟩|refine sT ?_|refine sM fun _=>?_|refine sC ?_ ?_<;>intro hb<;>try omega|fail)
 have hpos:=hW.pos;refine ba (A:=Ap) pK hpos fun gp hAp=> ?_;subst hAp
 refine ay [0,6] rfl (fun x:Nat × List Us × Option Nat × Nat=> [(5,sl x.2.2.1 x.2.1.length x.2.2.2),(7,.int .i64 (x.1:Int))]) (fun x=> [.own x.2.2.1 128 6 x.2.1.length x.2.2.2 (x.2.1.flatMap cw),.own (some gp) 3 1 L.length cp (jH (lZ Hi))])
  (fun x=>x.1≤L.length∧fp L=x.2.1++eR (L.drop x.1) x.1) (fun x=>L.length - x.1) (0,[],none,0) ⟨by omega,rfl⟩ sB mS ?_
 rintro ⟨i,pre,A,cap⟩ ⟨hi,hus⟩;dsimp only at hi hus ⊢;by_cases hlt:i<L.length
 ·have he:=hrl.elem cR i hlt;obtain ⟨u,hu,hu1,hu2,hu3⟩:=I6 hW hlt;rw [Vy hlt,eR] at hus;generalize L[i]=n at he hus;have hcell:(jH (lZ Hi))[0+i*1]? =some (.int .i64 u):=by rw [VD,Wd];exact MM hu
  by_cases hq:n.kind=2∨n.kind=3
  rotate_left
  ·have hrf:ik n=false:=by simp only [ik,Bool.or_eq_false_iff,decide_eq_false_iff_not];omega
   rw [hrf,cond_false] at hus;repeat' (first|refine zZJ ?_|refine sM fun _=>?_|refine sC ?_ ?_<;>intro hb<;>try omega|fail)
   refine ⟨(i+1,pre,A,cap),?_,(by first|omega|dsimp only;omega),sB,sB,mS⟩;exact ⟨hlt,hus⟩
  have hrf:ik n=true:=by simp only [ik,Xt,decide_eq_true_eq];exact hq
  rw [hrf,cond_true] at hus;have hlu:=congrArg List.length hus;simp only [Vn,Vw] at hlu;have none_use:(∀ m,L[i+1]? =some m→ ¬ IB m)→pP n i (L.drop (i+1))=⟨n.rect, -1,0⟩:=by
   intro h;by_cases h1:i+1<L.length
   ·rw [Vy h1];have:=h _ (Vo h1);unfold IB at this;simp only [pP,if_neg this]
   ·rw [VY (by omega)];rfl
  rcases hu1 with hu1|⟨j,hu1,hj⟩
  ·subst hu1;rw [none_use (fun m hm hr=>by have:=hu2 m hm hr;omega)] at hus;repeat' (first|apply ai (d:=45);exact rfl;apply aa;exact rfl;exact rfl;exact hlt|apply ai (d:=46);exact rfl;apply aq;exact rfl;exact pK;exact hcell|apply ai (d:=41);exact rfl;apply cZ (off:=4) (ys:=bz n.rect) he;(iterate 3 exact rfl)|apply dB;(iterate 3 exact rfl);(repeat first|exact .hd|apply Sel.tl|apply In.tl);intro w hm;exact hm.cells_own (by (repeat first|exact .hd|apply Sel.tl|apply In.tl));exact rfl;simp [Value.oneCell',sl];omega;simp only [maxLen];omega;intro A2 c2 h2|refine zZJ ?_|refine sM fun _=>?_|refine sC ?_ ?_<;>intro hb<;>try omega|fail)
   all_goals
    refine ⟨(i+1,pre++ [⟨n.rect, -1,0⟩],A2,c2),⟨hlt,by rw [hus,List.append_assoc];rfl⟩,(by dsimp only;omega),?_,?_,?_⟩
    ·dsimp only;rw [Vn];exact sB
    ·exact sB
    ·dsimp only;rw [qU,Vn];exact mS
  ·subst hu1;have hj1:=hrl.elem cR j hj;have hjg:=Vo hj;have hu3' :=hu3 j _ rfl hjg;generalize L[j]=m at hj1 hjg hu3';by_cases hrel:IB m
   ·obtain rfl:=hu3' hrel;have hr2:m.kind=7∧46≤m.fn:=hrel;have hdr:L.drop (i+1)=m::L.drop (i+1+1):=by
     rw [Vy hj];rw [Vo hj] at hjg;rw [Option.some.inj hjg]
    have huo:pP n i (L.drop (i+1))=⟨n.rect,((i+1:Nat):Int),m.fn⟩:=by rw [hdr];simp only [pP,if_pos hr2]
    rw [huo] at hus;repeat' (first|apply ai (d:=45);exact rfl;apply aa;exact rfl;exact rfl;exact hlt|apply ai (d:=46);exact rfl;apply aq;exact rfl;exact pK;exact hcell|apply ai (d:=41);exact rfl;apply cZ (off:=4) (ys:=bz n.rect) he;(iterate 3 exact rfl)|apply dB;(iterate 3 exact rfl);(repeat first|exact .hd|apply Sel.tl|apply In.tl);intro w hm;exact hm.cells_own (by (repeat first|exact .hd|apply Sel.tl|apply In.tl));exact rfl;simp [Value.oneCell',sl];omega;simp only [maxLen];omega;intro A2 c2 h2|(with_reducible apply tr (id:=13) (T:=128) (fun D=> [.int .i64 n.rect.c1,.int .i64 n.rect.r1,.int .i64 n.rect.c2,.int .i64 n.rect.r2,.int .i64 (bif D 7 then ((i+1:Nat):Int) else -1),.int .u8 (bif D 9 then m.fn else 0)]) (xs' := [.int .i64 n.rect.c1,.int .i64 n.rect.r1,.int .i64 n.rect.c2,.int .i64 n.rect.r2,.int .i64 ((i+1:Nat):Int),.int .u8 m.fn]));kernel_rfl;kernel_rfl;exact .hd;exact rfl;intro D hD;simp only [hD 7 (by decide),hD 9 (by decide),cond_true]|apply EM;exact rfl;(intro D ht;first|apply aa;exact rfl;exact rfl;(first|assumption|omega)|apply eP;exact rfl;assumption;exact rfl);exact fun _=>rfl|refine sT ?_|refine sN ?_|refine sO ?_|refine sG ?_|refine sM fun _=>?_|refine sC ?_ ?_<;>intro hb<;>try omega|fail)
    all_goals
     refine ⟨(i+1,pre++ [⟨n.rect,((i+1:Nat):Int),m.fn⟩],A2,c2),⟨hlt,by rw [hus,List.append_assoc];rfl⟩,(by dsimp only;omega),?_,?_,?_⟩
     ·dsimp only;rw [Vn];exact sB
     ·exact sB
     ·dsimp only;rw [qU,Vn];exact mS
   ·have hr2: ¬ (m.kind=7∧46≤m.fn):=hrel
    rw [none_use (fun m' hm hr=>by
     have h1:=hu2 m' hm hr;have h2:j=i+1:=by omega
     subst h2;rw [hjg] at hm;obtain rfl:=Option.some.inj hm;exact hrel hr)] at hus
    repeat' first|apply ai (d:=45);exact rfl;apply aa;exact rfl;exact rfl;exact hlt|apply ai (d:=46);exact rfl;apply aq;exact rfl;exact pK;exact hcell|apply ai (d:=41);exact rfl;apply cZ (off:=4) (ys:=bz n.rect) he;(iterate 3 exact rfl)|apply dB;(iterate 3 exact rfl);(repeat first|exact .hd|apply Sel.tl|apply In.tl);intro w hm;exact hm.cells_own (by (repeat first|exact .hd|apply Sel.tl|apply In.tl));exact rfl;simp [Value.oneCell',sl];omega;simp only [maxLen];omega;intro A2 c2 h2|refine zZJ ?_|refine sM fun _=>?_|refine sC ?_ ?_<;>intro hb<;>try omega|fail
    all_goals
     refine ⟨(i+1,pre++ [⟨n.rect, -1,0⟩],A2,c2),⟨hlt,by rw [hus,List.append_assoc];rfl⟩,(by dsimp only;omega),?_,?_,?_⟩
     ·dsimp only;rw [Vn];exact sB
     ·exact sB
     ·dsimp only;rw [qU,Vn];exact mS
 ·have e:i=L.length:=by omega
  subst e;rw [V8,eR,VB] at hus;rw [hus];repeat' (first|refine sT ?_|refine sM fun _=>?_|refine sC ?_ ?_<;>intro hb<;>try omega|fail)
  exact dm (.inl rfl) Tryz.results103 rfl rfl (H' := [.own A 128 6 pre.length cap (pre.flatMap cw)]) mS ⟨A,cap,rfl,rfl⟩
def qp (X:Nx) (D:List Nat) (i:Nat):Bool:= !decide (i∈D) && (ax X i).all fun k=>decide (k∈D)
def kR (X:Nx) (D:List Nat):Option Nat:=(List.range X.length).find? (qp X D)
def fW (X:Nx):Nat→List Nat→List Nat
 |0,D=>D
 |n+1,D=>match kR X D with
  |none=>D
  |some i=>fW X n (D++ [i])
def cV (X:Nx):List Nat:=fW X X.length []
theorem fL {X:Nx} {D:List Nat} {i:Nat}:qp X D i=true↔i∉D∧ ∀ k∈ax X i,k∈D:=by
 simp [qp]
theorem o5 {X:Nx} {D:List Nat} {i:Nat}:kR X D=some i↔i<X.length∧qp X D i=true∧ ∀ j,j<i→qp X D j=false:=by
 unfold kR;rw [YR];constructor
 ·rintro ⟨h1,h2,h3⟩;exact ⟨VT.1 h2,h1,fun j hj=>by simpa using h3 j hj⟩
 ·rintro ⟨h1,h2,h3⟩;exact ⟨h2,VT.2 h1,fun j hj=>by simpa using h3 j hj⟩
theorem yP {X:Nx} {D:List Nat}:kR X D=none↔ ∀ i,i<X.length→qp X D i=false:=by
 unfold kR;rw [Yr];simp only [VT,Bool.not_eq_true]
theorem Oc {X:Nx} {D:List Nat} (h:kR X D=none): ∀ m,fW X m D=D
 |0=>rfl
 |m+1=>by rw [fW,h]
theorem LA {X:Nx} {D:List Nat} {i:Nat} (h:kR X D=some i) (hl:D.length<X.length):fW X (X.length - D.length) D=fW X (X.length - (D++ [i]).length) (D++ [i]):=by
 rw [Vn,Vs,show X.length - D.length=X.length - (D.length+1)+1 by omega,fW,h]
def eH (X:Nx) (i:Nat):List Nat:=(List.range X.length).flatMap fun j=>((ax X j).filter fun k=>decide (k=i)).map fun _=>j
theorem wD {X:Nx} {i j:Nat} (hj:j<X.length):(eH X i).count j=(ax X j).count i:=by
 unfold eH;rw [List.count_flatMap];have h1: ∀ m:Nat,((((ax X m).filter fun k=>decide (k=i)).map fun _=>m)).count j=if m=j then (ax X j).count i else 0:=fun m=>by
  by_cases e:m=j
  ·subst e;rw [if_pos rfl,List.count_eq_length.2 (fun x hx=>by obtain ⟨y,_,rfl⟩:=VM.1 hx;rfl),VK,← List.countP_eq_length_filter,List.count];exact List.countP_congr fun x _=>by simp
  ·rw [if_neg e,List.count_eq_zero];intro hm;obtain ⟨y,_,h2⟩:=VM.1 hm;exact e h2
 have h2:(List.count j∘fun m=>((ax X m).filter fun k=>decide (k=i)).map fun _=>m)=fun m=>if m=j then (ax X j).count i else 0:=funext h1;rw [h2];have h3: ∀ (l:List Nat),l.Nodup→j∈l→(l.map fun m=>if m=j then (ax X j).count i else 0).sum=(ax X j).count i:=by
  intro l
  induction l with
  |nil=>intro _ h;cases h
  |cons a l ih=>
   intro hn hm;rw [Xe] at hn;rw [VU,List.sum_cons];by_cases e:a=j
   ·subst e;rw [if_pos rfl];have h0: ∀ l:List Nat,a∉l→(l.map fun m=>if m=a then (ax X a).count i else 0).sum=0:=by
     intro l
     induction l with
     |nil=>intro _;rfl
     |cons b l ih=>
      intro hb;rw [VN,not_or] at hb;rw [VU,List.sum_cons,if_neg (fun e=>hb.1 e.symm),ih hb.2]
    rw [h0 l hn.1];rfl
   ·rw [if_neg e,VD];rcases VN.1 hm with h4|h4
    ·exact absurd h4.symm e
    ·exact ih hn.2 h4
 exact h3 _ Yk (VT.2 hj)
theorem vB {X:Nx} {i j:Nat}:j∈eH X i↔j<X.length∧i∈ax X j:=by
 unfold eH;rw [XB];constructor
 ·rintro ⟨m,hm,h⟩;obtain ⟨k,hk,rfl⟩:=VM.1 h;rw [Wx,decide_eq_true_eq] at hk;exact ⟨VT.1 hm,hk.2 ▸ hk.1⟩
 ·rintro ⟨h1,h2⟩;exact ⟨j,VT.2 h1,VM.2 ⟨i,Wx.2 ⟨h2,by simp⟩,rfl⟩⟩
structure HpI (X:Nx) (D h lf:List Nat):Prop where
 dn:D.Nodup
 dl: ∀ i∈D,i<X.length
 dc: ∀ i∈D,∀ k∈ax X i,k∈D
 ll:lf.length=X.length
 lv: ∀ i,i<X.length→(lf[i]?).getD 0=(ax X i).countP fun k=> !decide (k∈D)
 hn:h.Nodup
 hm: ∀ i,i∈h↔(i<X.length∧qp X D i=true)
theorem dV: ∀ (l m:List Nat),l.Nodup→(∀ x∈l,x∈m)→l.length≤m.length
 | [],_,_,_=>Vt _
 |a::l,m,hn,hs=>by
  rw [Xe] at hn;have ha:=hs a (Vr ..);have h1:=dV l (m.erase a) hn.2 fun x hx=>(List.mem_erase_of_ne (fun (e:x=a)=>hn.1 (e ▸ hx))).2 (hs x (Vv _ hx));rw [List.length_erase_of_mem ha] at h1;have:=List.length_pos_of_mem ha;rw [Vw];omega
theorem HpI.len {X:Nx} {D h lf:List Nat} (H:HpI X D h lf):D.length≤X.length:=by
 have h1:=dV D (List.range X.length) H.dn (fun x hx=>VT.2 (H.dl x hx));rwa [We] at h1
theorem HpI.len_lt {X:Nx} {D h lf:List Nat} (H:HpI X D h lf) {i:Nat} (hi:i∈h):D.length<X.length:=by
 obtain ⟨h1,h2⟩:=(H.hm i).1 hi;have h3:=(fL.1 h2).1;have h4:(i::D).Nodup:=Xe.2 ⟨h3,H.dn⟩
 have h5:=dV (i::D) (List.range X.length) h4 (fun x hx=>VT.2 (by
  rcases VN.1 hx with rfl|hx
  ·exact h1
  ·exact H.dl x hx))
 rw [We,Vw] at h5;omega
theorem HpI.next {X:Nx} {D h lf:List Nat} (H:HpI X D h lf) {i:Nat} (hi:i∈h) (hmin: ∀ j∈h,i≤j):kR X D=some i:=by
 obtain ⟨h1,h2⟩:=(H.hm i).1 hi;refine o5.2 ⟨h1,h2,fun j hj=> ?_⟩
 cases hf:qp X D j with
 |false=>rfl
 |true=>
  have:=hmin j ((H.hm j).2 ⟨by omega,hf⟩);omega
theorem HpI.stop {X:Nx} {D lf:List Nat} (H:HpI X D [] lf):kR X D=none:=yP.2 fun i hi=>by
 cases hf:qp X D i with
 |false=>rfl
 |true=>cases (H.hm i).2 ⟨hi,hf⟩
structure HpJ (X:Nx) (D:List Nat) (i:Nat) (h lf P:List Nat):Prop where
 ll:lf.length=X.length
 lv: ∀ m,m<X.length→(lf[m]?).getD 0+P.count m=(ax X m).countP fun k=> !decide (k∈D)
 hn:h.Nodup
 hm: ∀ m,m∈h↔(m<X.length∧m∉D∧m≠i∧(lf[m]?).getD 0=0)
theorem mU {l:List Nat} {D:List Nat}:(l.countP fun k=> !decide (k∈D))=0↔ ∀ k∈l,k∈D:=by
 rw [List.countP_eq_zero];simp
theorem HpI.begin {X:Nx} {D h lf:List Nat} (H:HpI X D h lf) {i:Nat} {h' :List Nat} (hp:h.Perm (i::h')):HpJ X D i h' lf []:=by
 have hn:=hp.nodup_iff.1 H.hn;rw [Xe] at hn;refine ⟨H.ll,fun m hm=> ?_,hn.2,fun m=> ?_⟩
 ·rw [List.count_nil,XA];exact H.lv m hm
 ·have h1:=H.hm m;rw [hp.mem_iff,VN,fL] at h1;constructor
  ·intro h2;obtain ⟨h3,h4,h5⟩:=h1.1 (.inr h2);refine ⟨h3,h4,fun e=>hn.1 (e ▸ h2),?_⟩;rw [H.lv m h3];exact mU.2 h5
  ·rintro ⟨h2,h3,h4,h5⟩;rw [H.lv m h2] at h5;exact (h1.2 ⟨h2,h3,mU.1 h5⟩).resolve_left h4
theorem HpI.no_self {X:Nx} {D h lf:List Nat} (H:HpI X D h lf) {i:Nat} (hi:i∈h) {k:Nat} (hk:i∈ax X k):k∉D∧k≠i:=by
 have h2:=fL.1 ((H.hm i).1 hi).2;refine ⟨fun hd=>h2.1 (H.dc k hd i hk),fun e=> ?_⟩;subst e;exact h2.1 (h2.2 _ hk)
theorem HpJ.step {X:Nx} {D h0 lf0:List Nat} (H:HpI X D h0 lf0) {i:Nat} (hi:i∈h0) {h lf P R:List Nat} {k:Nat} (J:HpJ X D i h lf P) (hF:eH X i=P++k::R):
 k<X.length∧1≤(lf[k]?).getD 0∧((lf[k]?).getD 0 - 1≠0→HpJ X D i h (lf.set k ((lf[k]?).getD 0 - 1)) (P++ [k]))∧((lf[k]?).getD 0 - 1=0→ ∀ h' :List Nat,h'.Perm (k::h)→HpJ X D i h' (lf.set k ((lf[k]?).getD 0 - 1)) (P++ [k])):=by
 have hkm:k∈eH X i:=by rw [hF];simp
 obtain ⟨hkl,hks⟩:=vB.1 hkm;have hid:=(fL.1 ((H.hm i).1 hi).2).1;obtain ⟨hkd,hki⟩:=H.no_self hi hks;have hc:P.count k+1≤(ax X k).countP fun m=> !decide (m∈D):=by
  have h1:=wD (X:=X) (i:=i) hkl;rw [hF,List.count_append,List.count_cons_self] at h1;have h2:(ax X k).count i≤(ax X k).countP fun m=> !decide (m∈D):=by
   rw [List.count];exact List.countP_mono_left fun x _ hx=>by
    have:x=i:=by simpa using hx
    subst this;simp [hid]
  omega
 have hlk:=J.lv k hkl;have h1:1≤(lf[k]?).getD 0:=by omega
 have hset: ∀ m,((lf.set k ((lf[k]?).getD 0 - 1))[m]?).getD 0=if k=m then (lf[k]?).getD 0 - 1 else (lf[m]?).getD 0:=fun m=>by
  rw [kF];by_cases e:k=m
  ·rw [if_pos ⟨e,by rw [J.ll];exact hkl⟩,if_pos e]
  ·rw [if_neg (fun hh=>e hh.1),if_neg e]
 have hlv: ∀ m,m<X.length→((lf.set k ((lf[k]?).getD 0 - 1))[m]?).getD 0+(P++ [k]).count m=(ax X m).countP fun k=> !decide (k∈D):=fun m hm=>by
  rw [hset,List.count_append];by_cases e:k=m
  ·subst e;rw [if_pos rfl,List.count_singleton_self];omega
  ·rw [if_neg e,List.count_eq_zero.2 (fun hh=>e (Vx.1 hh).symm),XA];exact J.lv m hm
 refine ⟨hkl,h1,fun hne=>⟨by rw [Wr];exact J.ll,hlv,J.hn,fun m=> ?_⟩,fun he h' hp=>⟨by rw [Wr];exact J.ll,hlv,?_,fun m=> ?_⟩⟩
 ·rw [J.hm,hset];by_cases e:k=m
  ·subst e;rw [if_pos rfl];exact ⟨fun hh=>absurd hh.2.2.2 (by omega),fun hh=>absurd hh.2.2.2 hne⟩
  ·rw [if_neg e]
 ·rw [hp.nodup_iff,Xe];exact ⟨fun hm=>by have:=((J.hm k).1 hm).2.2.2;omega,J.hn⟩
 ·rw [hp.mem_iff,VN,J.hm,hset];by_cases e:k=m
  ·subst e;rw [if_pos rfl];exact ⟨fun _=>⟨hkl,hkd,hki,he⟩,fun _=> .inl rfl⟩
  ·rw [if_neg e];exact ⟨fun hh=>hh.resolve_left fun e' =>e e'.symm,.inr⟩
theorem HpJ.fin {X:Nx} {D h0 lf0:List Nat} (H:HpI X D h0 lf0) {i:Nat} (hi:i∈h0) {h lf:List Nat} (J:HpJ X D i h lf (eH X i)):HpI X (D++ [i]) h lf:=by
 have hf:=(H.hm i).1 hi;have hf2:=fL.1 hf.2;have hlv: ∀ m,m<X.length→(lf[m]?).getD 0=(ax X m).countP fun k=> !decide (k∈D++ [i]):=fun m hm=>by
  have h1:=J.lv m hm;rw [wD hm] at h1;have h2: ∀ l:List Nat,(l.countP fun k=> !decide (k∈D))=(l.countP fun k=> !decide (k∈D++ [i]))+l.count i:=by
   intro l
   induction l with
   |nil=>rfl
   |cons a l ih=>
    rw [YV,YV,List.count_cons,ih];by_cases ea:a=i
    ·subst ea;simp [hf2.1];omega
    ·by_cases ed:a∈D
     ·simp [ed,ea]
     ·simp [ed,ea];omega
  have:=h2 (ax X m);omega
 refine ⟨?_,?_,?_,J.ll,hlv,J.hn,fun m=> ?_⟩
 ·exact Xq.2 ⟨H.dn,by simp,fun a ha b hb e=>hf2.1 (by rw [← Vx.1 hb,← e];exact ha)⟩
 ·intro m hm;rcases VH.1 hm with hm|hm
  ·exact H.dl m hm
  ·rw [Vx.1 hm];exact hf.1
 ·intro m hm k hk;rcases VH.1 hm with hm|hm
  ·exact V5 _ (H.dc m hm k hk)
  ·rw [Vx.1 hm] at hk;exact V5 _ (hf2.2 k hk)
 ·rw [J.hm,fL];constructor
  ·rintro ⟨h1,h2,h3,h4⟩;rw [hlv m h1] at h4;exact ⟨h1,fun hh=>(VH.1 hh).elim h2 fun e=>h3 (Vx.1 e),mU.1 h4⟩
  ·rintro ⟨h1,h2,h3⟩;refine ⟨h1,fun hh=>h2 (V5 _ hh),fun e=>h2 (V9 _ (Vx.2 e)),?_⟩;rw [hlv m h1];exact mU.2 h3
theorem wJ {α:Type} {p q:α→Bool}: ∀ {l:List α},(∀ x∈l,p x=true→q x=true)→(∃ a∈l,q a=true∧p a=false)→l.countP p<l.countP q
 | [],_,h=>by obtain ⟨a,h,_⟩:=h;cases h
 |b::l,h,⟨a,ha,h1,h2⟩=>by
  have hm:=List.countP_mono_left fun x hx=>h x (Vv _ hx);rw [YV,YV];rcases VN.1 ha with rfl|ha
  ·simp only [h1,h2,if_true,V2,if_false];omega
  ·have ih:=wJ (fun x hx=>h x (Vv _ hx)) ⟨a,ha,h1,h2⟩;have hb:=h b (Vr ..);split<;>split<;>simp_all<;>omega
open Classical in
theorem Mt {X:Nx} (hX: ∀ i,∀ k∈ax X i,k<X.length) (hac: ∀ v,v<X.length→ ¬ onC X v) {D:List Nat}: ∀ (m v:Nat),((List.range X.length).countP fun u=>decide (Rch X v u))≤m→v<X.length→v∉D→ ∃ i,kR X D=some i:=by
 intro m
 induction m with
 |zero=>
  intro v hm hv _;have:0<(List.range X.length).countP fun u=>decide (Rch X v u):=List.countP_pos_iff.2 ⟨v,VT.2 hv,by simp;exact .refl v⟩;omega
 |succ m ih=>
  intro v hm hv hd;by_cases hf:qp X D v=true
  ·cases hn:kR X D with
   |some i=>exact ⟨i,rfl⟩
   |none=>rw [yP.1 hn v hv] at hf;cases hf
  ·have: ∃ k∈ax X v,k∉D:=by
    by_cases h2: ∀ k∈ax X v,k∈D
    ·exact absurd (fL.2 ⟨hd,h2⟩) hf
    ·simp only [Classical.not_forall] at h2;obtain ⟨k,hk,hkd⟩:=h2;exact ⟨k,hk,hkd⟩
   obtain ⟨k,hk,hkd⟩:=this;have hlt:((List.range X.length).countP fun u=>decide (Rch X k u))<(List.range X.length).countP fun u=>decide (Rch X v u):=
    wJ (fun x _ hx=>by simp only [decide_eq_true_eq] at hx ⊢;exact .step hk hx) ⟨v,VT.2 hv,by simp;exact .refl v,by simp;exact fun r=>hac v hv ⟨k,hk,r⟩⟩
   exact ih k (by omega) (hX v k hk) hkd
structure WkI (Y:Nx) (p:Nat→Prop) (M:Nat→Bool) (todo dn:List Nat):Prop where
 ok: ∀ v,M v=true→p v
 cl: ∀ v∈dn,∀ u∈ax Y v,M u=true
 al: ∀ v,M v=true→v∈dn∨v∈todo
structure WkJ (Y:Nx) (p:Nat→Prop) (M:Nat→Bool) (v:Nat) (todo dn L:List Nat):Prop where
 ok: ∀ v,M v=true→p v
 cl: ∀ v∈dn,∀ u∈ax Y v,M u=true
 al: ∀ x,M x=true→x=v∨x∈dn∨x∈todo
 in_: ∀ u∈L,M u=true
theorem WkI.pop {Y:Nx} {p:Nat→Prop} {M:Nat→Bool} {v:Nat} {todo dn:List Nat} (h:WkI Y p M (v::todo) dn):WkJ Y p M v todo dn []:=
 ⟨h.ok,h.cl,fun x hx=>by
  rcases h.al x hx with h1|h1
  ·exact .inr (.inl h1)
  ·rcases VN.1 h1 with rfl|h1
   ·exact .inl rfl
   ·exact .inr (.inr h1),fun u hu=>by cases hu⟩
theorem WkJ.old {Y:Nx} {p:Nat→Prop} {M:Nat→Bool} {v:Nat} {todo dn L:List Nat} (h:WkJ Y p M v todo dn L) {u:Nat} (hu:M u=true):WkJ Y p M v todo dn (L++ [u]):=
 ⟨h.ok,h.cl,h.al,fun x hx=>(VH.1 hx).elim (h.in_ x) fun hx=>by rw [Vx.1 hx];exact hu⟩
theorem WkJ.new {Y:Nx} {p:Nat→Prop} {M:Nat→Bool} {v:Nat} {todo dn L:List Nat} (h:WkJ Y p M v todo dn L) {u:Nat} (hp:p u):WkJ Y p (fun x=>if x=u then true else M x) v (todo++ [u]) dn (L++ [u]):=by
 have hm: ∀ x,M x=true→(if x=u then true else M x)=true:=fun x hx=>by split<;>simp_all
 refine ⟨fun x hx=> ?_,fun x hx y hy=>hm y (h.cl x hx y hy),fun x hx=> ?_,fun x hx=> ?_⟩
 ·by_cases e:x=u
  ·rw [e];exact hp
  ·exact h.ok x (by simpa [e] using hx)
 ·by_cases e:x=u
  ·rw [e];exact .inr (.inr (by simp))
  ·rcases h.al x (by simpa [e] using hx) with h1|h1|h1
   ·exact .inl h1
   ·exact .inr (.inl h1)
   ·exact .inr (.inr (by simp [h1]))
 ·rcases VH.1 hx with hx|hx
  ·exact hm x (h.in_ x hx)
  ·rw [Vx.1 hx];simp
theorem WkJ.fin {Y:Nx} {p:Nat→Prop} {M:Nat→Bool} {v:Nat} {todo dn:List Nat} (h:WkJ Y p M v todo dn (ax Y v)):WkI Y p M todo (v::dn):=
 ⟨h.ok,fun x hx u hu=>by
  rcases VN.1 hx with rfl|hx
  ·exact h.in_ u hu
  ·exact h.cl x hx u hu,fun x hx=>by
  rcases h.al x hx with rfl|h1|h1
  ·exact .inl (by simp)
  ·exact .inl (by simp [h1])
  ·exact .inr h1⟩
theorem WkI.done {Y:Nx} {p:Nat→Prop} {M:Nat→Bool} {dn:List Nat} (h:WkI Y p M [] dn) {v u:Nat} (r:Rch Y v u) (hv:M v=true):M u=true:=
 Rch.closed (C:=fun v=>M v=true) (fun v hv u hu=>h.cl v ((h.al v hv).resolve_right (by simp)) u hu) r hv
theorem WkI.reach {X:Nx} {i:Nat} {M:Nat→Bool} {dn:List Nat} (h:WkI X (fun v=> ∃ k∈ax X i,Rch X k v) M [] dn) (hi:i∈dn) (v:Nat):M v=true↔ ∃ k∈ax X i,Rch X k v:=
 ⟨h.ok v,fun ⟨k,hk,r⟩=>h.done r (h.cl i hi k hk)⟩
def jB (X:Nx):Nx:=(List.range X.length).map (eH X)
theorem lX (X:Nx):(jB X).length=X.length:=by simp [jB]
theorem pW {X:Nx} {i:Nat} (h:i<X.length):ax (jB X) i=eH X i:=by simp [ax,jB,h]
theorem oN {X:Nx} {i k:Nat} (h:k∈ax X i):i<X.length:=by
 by_cases hi:i<X.length
 ·exact hi
 ·rw [ax,VJ (by omega)] at h;cases h
theorem Dh {X:Nx} {i j:Nat}:j∈ax (jB X) i↔i<X.length∧i∈ax X j:=by
 constructor
 ·intro h;have hi:=oN h;rw [lX] at hi;rw [pW hi,vB] at h;exact ⟨hi,h.2⟩
 ·rintro ⟨hi,h⟩;rw [pW hi,vB];exact ⟨oN h,h⟩
theorem TI {X:Nx} (hX: ∀ i,∀ k∈ax X i,k<X.length) {v u:Nat} (r:Rch X v u):Rch (jB X) u v:=by
 induction r with
 |refl k=>exact .refl k
 |step h _ ih=>exact ih.trans (Rch.one (Dh.2 ⟨hX _ _ h,h⟩))
def fM (X:Nx) (v:Nat):Prop:= ∃ u,onC X u∧Rch X v u
theorem WkI.circ {X:Nx} (hX: ∀ i,∀ k∈ax X i,k<X.length) {M:Nat→Bool} {dn:List Nat} (h:WkI (jB X) (fM X) M [] dn) (hb: ∀ u,onC X u→M u=true) (v:Nat):M v=true↔fM X v:=
 ⟨h.ok v,fun ⟨u,hu,r⟩=>h.done (TI hX r) (hb u hu)⟩
theorem M3 {X:Nx} {v j:Nat} (h:fM X v) (hj:j∈ax (jB X) v):fM X j:=by
 obtain ⟨u,hu,r⟩:=h;exact ⟨u,hu,.step (Dh.1 hj).2 r⟩
def tP (r:Nat→Nat→Bool) (n:Nat) (lf:Nat→Bool):Option Nat:=(List.range n).find? fun i=>lf i && (List.range n).all fun k=> !(lf k && r i k)
def mF (r:Nat→Nat→Bool) (n:Nat):Nat→(Nat→Bool)→List Nat
 |0,_=> []
 |m+1,lf=>match tP r n lf with
  |none=> []
  |some i=>i::mF r n m fun j=>if j=i then false else lf j
theorem yD {r:Nat→Nat→Bool} {n i:Nat} {lf:Nat→Bool}:tP r n lf=some i↔i<n∧(lf i=true∧ ∀ k,k<n→lf k=true→r i k=false)∧ ∀ j,j<i→ ¬ (lf j=true∧ ∀ k,k<n→lf k=true→r j k=false):=by
 have hp: ∀ i,(lf i && (List.range n).all fun k=> !(lf k && r i k))=true↔(lf i=true∧ ∀ k,k<n→lf k=true→r i k=false):=fun i=>by
  rw [VP,WK];refine and_congr_right fun _=>⟨fun h k hk hl=> ?_,fun h k hk=> ?_⟩
  ·have:=h k (VT.2 hk);rw [hl] at this;simpa using this
  ·cases hl:lf k with
   |false=>simp
   |true=>rw [h k (VT.1 hk) hl];simp
 unfold tP;rw [YR];constructor
 ·rintro ⟨h1,h2,h3⟩;exact ⟨VT.1 h2,(hp i).1 h1,fun j hj hh=>by have:=h3 j hj;rw [(hp j).2 hh] at this;cases this⟩
 ·rintro ⟨h1,h2,h3⟩;refine ⟨(hp i).2 h2,VT.2 h1,fun j hj=> ?_⟩
  cases hc:(lf j && (List.range n).all fun k=> !(lf k && r j k)) with
  |false=>rfl
  |true=>exact absurd ((hp j).1 hc) (h3 j hj)
structure SubN (r:Nat→Nat→Bool) (n:Nat) (l:List Nat) (X:Nx):Prop where
 len:X.length=l.length
 asc:l.Pairwise (· < ·)
 lt: ∀ i∈l,i<n
 ok: ∀ p,∀ q∈ax X p,q<l.length
 rel: ∀ p q (hp:p<l.length) (hq:q<l.length),r l[p] l[q]=true↔ ∃ k∈ax X p,Rch X k q
 acy: ∀ p,p<l.length→ ¬ onC X p
def iT (l D:List Nat) (i:Nat):Bool:=(List.range l.length).any fun p=>decide ((l[p]?).getD 0=i) && !decide (p∈D)
theorem iy {l D:List Nat} {i:Nat}:iT l D i=true↔ ∃ p,∃ h:p<l.length,l[p]=i∧p∉D:=by
 unfold iT;rw [Xg];constructor
 ·rintro ⟨p,hp,h⟩;have hp:=VT.1 hp;rw [VP,decide_eq_true_eq,Vo hp] at h;exact ⟨p,hp,h.1,by simpa using h.2⟩
 ·rintro ⟨p,hp,h1,h2⟩;refine ⟨p,VT.2 hp,?_⟩;rw [Vo hp];simp [h1,h2]
section
variable {r:Nat→Nat→Bool} {n:Nat} {l:List Nat} {X:Nx} (S:SubN r n l X)
include S
theorem SubN.inj {p q:Nat} (hp:p<l.length) (hq:q<l.length) (h:l[p]=l[q]):p=q:=by
 have h1:=XF.1 S.asc;rcases YQ p q with h2|h2|h2
 ·have:=h1 p q hp hq h2;omega
 ·exact h2
 ·have:=h1 q p hq hp h2;omega
theorem SubN.mono {p q:Nat} (hp:p<l.length) (hq:q<l.length) (h:l[p]<l[q]):p<q:=by
 have h1:=XF.1 S.asc;rcases YQ p q with h2|h2|h2
 ·exact h2
 ·subst h2;omega
 ·have:=h1 q p hq hp h2;omega
theorem SubN.free {D:List Nat} (hD: ∀ i∈D,∀ k∈ax X i,k∈D) {p:Nat} (hp:p<l.length):qp X D p=true↔(iT l D l[p]=true∧ ∀ k,k<n→iT l D k=true→r l[p] k=false):=by
 rw [fL];constructor
 ·rintro ⟨h1,h2⟩;refine ⟨iy.2 ⟨p,hp,rfl,h1⟩,fun k _ hk=> ?_⟩;obtain ⟨q,hq,rfl,hqd⟩:=iy.1 hk
  cases hr:r l[p] l[q] with
  |false=>rfl
  |true=>
   obtain ⟨k,hk1,hk2⟩:=(S.rel p q hp hq).1 hr;exact absurd (hk2.closed (C:=fun v=>v∈D) hD (h2 k hk1)) hqd
 ·rintro ⟨h1,h2⟩;obtain ⟨p',hp',e,hd⟩:=iy.1 h1;have:=S.inj hp' hp e;subst this;refine ⟨hd,fun k hk=>Classical.byContradiction fun hn=> ?_⟩;have hkl:=S.ok p' k hk;have h3:=h2 l[k] (S.lt _ (VL hkl)) (iy.2 ⟨k,hkl,rfl,hn⟩);rw [(S.rel p' k hp hkl).2 ⟨k,hk,.refl k⟩] at h3;cases h3
theorem SubN.pick {D:List Nat} (hD: ∀ i∈D,∀ k∈ax X i,k∈D) {p:Nat} (h:kR X D=some p): ∃ hp:p<l.length,tP r n (iT l D)=some l[p]:=by
 obtain ⟨h1,h2,h3⟩:=o5.1 h;have hp:p<l.length:=by rw [← S.len];exact h1
 refine ⟨hp,yD.2 ⟨S.lt _ (VL hp),(S.free hD hp).1 h2,fun j hj hh=> ?_⟩⟩;obtain ⟨q,hq,rfl,_⟩:=iy.1 hh.1;have h4:=h3 q (S.mono hq hp hj);rw [(S.free hD hq).2 hh] at h4;cases h4
theorem SubN.left {D:List Nat} {p:Nat} (hp:p<l.length):(fun j=>if j=l[p] then false else iT l D j)=iT l (D++ [p]):=by
 funext j;rw [V3,iy];by_cases e:j=l[p]
 ·rw [if_pos e];refine ⟨fun h=>(by cases h),?_⟩;rintro ⟨q,hq,h1,h2⟩;have:=S.inj hq hp (h1.trans e);subst this;exact absurd (V9 _ (Vx.2 rfl)) h2
 ·rw [if_neg e,iy];constructor
  ·rintro ⟨q,hq,h1,h2⟩;refine ⟨q,hq,h1,fun hm=>(VH.1 hm).elim h2 fun h3=> ?_⟩;have h3:=Vx.1 h3;subst h3;exact e h1.symm
  ·rintro ⟨q,hq,h1,h2⟩;exact ⟨q,hq,h1,fun hm=>h2 (V5 _ hm)⟩
theorem SubN.fin: ∀ (m:Nat) (D:List Nat),(∀ i∈D,∀ k∈ax X i,k∈D)→D.Nodup→(∀ i∈D,i<l.length)→D.length+m=l.length→
 (fW X m D).map (fun p=>(l[p]?).getD 0)=D.map (fun p=>(l[p]?).getD 0)++mF r n m (iT l D)∧(fW X m D).Perm (List.range l.length):=by
 intro m
 induction m with
 |zero=>
  intro D hD hn hl hm;refine ⟨by rw [fW,mF,VB],?_⟩;rw [fW];refine (YM hn Yk).2 fun x=>⟨fun hx=>VT.2 (hl x hx),fun hx=> ?_⟩;refine Classical.byContradiction fun hxn=> ?_;have h1:=dV (x::D) (List.range l.length) (Xe.2 ⟨hxn,hn⟩) fun y hy=>by
   rcases VN.1 hy with rfl|hy
   ·exact hx
   ·exact VT.2 (hl y hy)
  rw [We,Vw] at h1;omega
 |succ m ih=>
  intro D hD hn hl hm;have hex: ∃ v,v<X.length∧v∉D:=by
   refine Classical.byContradiction fun hne=> ?_;have h1:=dV (List.range X.length) D Yk fun x hx=>Classical.byContradiction fun hxd=>hne ⟨x,VT.1 hx,hxd⟩;rw [We,S.len] at h1;omega
  obtain ⟨v,hv,hvd⟩:=hex;obtain ⟨p,hp⟩:=Mt (fun i k hk=>by rw [S.len];exact S.ok i k hk) (fun w hw=>S.acy w (by rw [← S.len];exact hw)) _ v (VA _) hv hvd;obtain ⟨hpl,hpick⟩:=S.pick hD hp;have hf:=fL.1 (o5.1 hp).2.1;have hD' : ∀ i∈D++ [p],∀ k∈ax X i,k∈D++ [p]:=fun i hi k hk=>by
   rcases VH.1 hi with hi|hi
   ·exact V5 _ (hD i hi k hk)
   ·rw [Vx.1 hi] at hk;exact V5 _ (hf.2 k hk)
  have hn' :(D++ [p]).Nodup:=Xq.2 ⟨hn,by simp,fun a ha b hb e=>hf.1 (by rw [← Vx.1 hb,← e];exact ha)⟩;have hl' : ∀ i∈D++ [p],i<l.length:=fun i hi=>by
   rcases VH.1 hi with hi|hi
   ·exact hl i hi
   ·rw [Vx.1 hi];exact hpl
  obtain ⟨h1,h2⟩:=ih (D++ [p]) hD' hn' hl' (by rw [Vn,Vs];omega);rw [fW,hp];dsimp only;refine ⟨?_,h2⟩;rw [h1,mF,hpick];dsimp only;rw [S.left hpl,Wj,VC];simp [Vo hpl]
theorem SubN.topo:(cV X).map (fun p=>(l[p]?).getD 0)=mF r n l.length (iT l [])∧(cV X).Perm (List.range l.length):=by
 have h:=S.fin l.length [] (fun _ h=>by cases h) XN (fun _ h=>by cases h) (by simp);unfold cV;rw [S.len];simpa using h
end
end Go.SL
