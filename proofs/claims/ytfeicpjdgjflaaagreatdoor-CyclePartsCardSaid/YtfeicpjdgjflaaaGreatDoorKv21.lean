/-
  Lemmas and walks, put together: Ck Q2 R6 Q4 Q3.
-/
import Derived.Test.YtfeicpjdgjflaaaGreatDoorKv18
set_option linter.unusedSimpArgs false
set_option linter.unusedVariables false
set_option maxRecDepth 20000
set_option maxHeartbeats 16000000
namespace Go.SL
open Go
theorem Gj {X:Nx} {i k:Nat} (h: ¬ fM X i) (hk:k∈ax X i): ¬ fM X k:=fun hc=>h (Sq hk hc)
theorem CB {X:Nx} {i:Nat} (h:pathN X i i):fM X i:=⟨i,h,.refl i⟩
def cG (r:Nat→Nat→Bool) (l:List Nat):Nx:=(List.range l.length).map fun p=>(List.range l.length).filter fun q=>r ((l[p]?).getD 0) ((l[q]?).getD 0)
theorem rj {r:Nat→Nat→Bool} {l:List Nat} {p q:Nat}:q∈ax (cG r l) p↔ ∃ (hp:p<l.length) (hq:q<l.length),r l[p] l[q]=true:=by
 constructor
 ·intro h;have hp:=oN h;rw [cG,VK,We] at hp;simp [ax,cG,hp] at h;obtain ⟨hq,h⟩:=h;rw [Vo hq,XU] at h;exact ⟨hp,hq,h⟩
 ·rintro ⟨hp,hq,h⟩;simp [ax,cG,hp,hq,h]
theorem Nb {X:Nx} {r:Nat→Nat→Bool} {n:Nat} {l:List Nat} (hr: ∀ i k,r i k=true↔pathN X i k) (ha:l.Pairwise (· < ·)) (hl: ∀ i∈l,i<n) (hc: ∀ i∈l,¬ fM X i):SubN r n l (cG r l):=by
 have hgo: ∀ {k q:Nat},Rch (cG r l) k q→ ∀ (hk:k<l.length) (hq:q<l.length),Rch X l[k] l[q]:=by
  intro k q h
  induction h with
  |refl k=>intro _ _;exact .refl _
  |step h _ ih=>
   intro hk hq;obtain ⟨_,hm,h⟩:=rj.1 h;exact ((hr _ _).1 h).rch.trans (ih hm hq)
 have hrel: ∀ p q (hp:p<l.length) (hq:q<l.length),r l[p] l[q]=true↔ ∃ k∈ax (cG r l) p,Rch (cG r l) k q:=by
  intro p q hp hq;constructor
  ·intro h;exact ⟨q,rj.2 ⟨hp,hq,h⟩,.refl q⟩
  ·rintro ⟨k,hk,h⟩;obtain ⟨_,hkl,h1⟩:=rj.1 hk;exact (hr _ _).2 (((hr _ _).1 h1).trans (hgo h hkl hq))
 exact ⟨by simp [cG],ha,hl,fun p q h=>(rj.1 h).2.1,hrel,fun p hp h=>hc _ (VL hp) (CB ((hr _ _).1 ((hrel p p hp hp).2 h)))⟩
def iU (l:List Nat) (k:Nat):Nat:=(l.findIdx? fun b=>decide (b=k)).getD 0
theorem ug {l:List Nat} (hn:l.Pairwise (· < ·)) {i:Nat} (h:i<l.length):iU l l[i]=i:=by
 unfold iU
 rw [V4.2 ⟨h,by simp,fun j hj=>by
  have:=XF.1 hn j i (by omega) h hj;simpa using (by omega:l[j]'(by omega)≠l[i])⟩]
 rfl
def df (X:Nx) (l:List Nat):Nx:=(List.range l.length).map fun p=>(ax X ((l[p]?).getD 0)).map (iU l)
theorem nT {X:Nx} {l:List Nat} (ha:l.Pairwise (· < ·)) (hcl: ∀ i∈l,∀ k∈ax X i,k∈l) {p q:Nat}:q∈ax (df X l) p↔ ∃ (hp:p<l.length) (hq:q<l.length),l[q]∈ax X l[p]:=by
 constructor
 ·intro h;have hp:=oN h;rw [df,VK,We] at hp;simp [ax,df,hp] at h;obtain ⟨k,hk,rfl⟩:=h;obtain ⟨q,hq,rfl⟩:=WM.1 (hcl _ (VL hp) k hk);rw [ug ha hq];exact ⟨hp,hq,hk⟩
 ·rintro ⟨hp,hq,h⟩;have:q∈(ax X l[p]).map (iU l):=VM.2 ⟨l[q],h,ug ha hq⟩;simpa [ax,df,hp] using this
theorem Mh {X:Nx} {r:Nat→Nat→Bool} {n:Nat} {l:List Nat} (hr: ∀ i k,r i k=true↔pathN X i k) (ha:l.Pairwise (· < ·)) (hl: ∀ i∈l,i<n) (hc: ∀ i∈l,¬ fM X i) (hcl: ∀ i∈l,∀ k∈ax X i,k∈l):SubN r n l (df X l):=by
 have hgo: ∀ {k q:Nat},Rch (df X l) k q→ ∀ (hk:k<l.length) (hq:q<l.length),Rch X l[k] l[q]:=by
  intro k q h
  induction h with
  |refl k=>intro _ _;exact .refl _
  |step h _ ih=>
   intro hk hq;obtain ⟨_,hm,h⟩:=(nT ha hcl).1 h;exact .step h (ih hm hq)
 have hback: ∀ {a b:Nat},Rch X a b→ ∀ (p q:Nat) (hp:p<l.length) (hq:q<l.length),l[p]=a→l[q]=b→Rch (df X l) p q:=by
  intro a b h
  induction h with
  |refl k=>
   intro p q hp hq h1 h2;have e:p=q:=by
    rw [← ug ha hp,← ug ha hq,h1,h2]
   rw [e];exact .refl q
  |step h _ ih=>
   intro p q hp hq h1 h2;obtain ⟨m,hm,rfl⟩:=WM.1 (hcl _ (VL hp) _ (h1 ▸ h));exact .step ((nT ha hcl).2 ⟨hp,hm,h1 ▸ h⟩) (ih m q hm hq rfl h2)
 have hrel: ∀ p q (hp:p<l.length) (hq:q<l.length),r l[p] l[q]=true↔ ∃ k∈ax (df X l) p,Rch (df X l) k q:=by
  intro p q hp hq;rw [hr];constructor
  ·rintro ⟨m,hm,h⟩;obtain ⟨k,hk,rfl⟩:=WM.1 (hcl _ (VL hp) m hm);exact ⟨k,(nT ha hcl).2 ⟨hp,hk,hm⟩,hback h k q hk hq rfl rfl⟩
  ·rintro ⟨k,hk,h⟩;obtain ⟨_,hkl,h1⟩:=(nT ha hcl).1 hk;exact ⟨l[k],h1,hgo h hkl hq⟩
 exact ⟨by simp [df],ha,hl,fun p q h=>((nT ha hcl).1 h).2.1,hrel,fun p hp h=>hc _ (VL hp) (CB ((hr _ _).1 ((hrel p p hp hp).2 h)))⟩
open Go.Proofs
attribute [local irreducible] FnAt FnIn FnP RW VOp W WA WC WG WL WLI WQ WR WT WX aS aV bg bi blk ceP scp thn
structure Cx where
 g:Nat
 sa:ByteArray
 A:Option Nat
 cap:Nat
 toks:List Tk
 hsa:sa.size≤256
 ht:toks.length≤256
 hc:Chain toks
def Cx.fin (x:Cx):Int:=(x.sa.size:Int)
def Cx.B (x:Cx) (k:Nat) (B:Option Nat) (cb:Nat) (out:List Nd) (at_ e:Int):List Blk:=rB x.g x.sa x.A x.cap x.toks k B cb out at_ e
def RR (x:Cx) (j m:Nat) (R:List Blk) (r:Out) (v:Value) (H:List Blk):Prop:=v= .tuple #[]∧match r with
 | .ok (_,p')=> ∃ k' B' cb',k' ≤x.toks.length∧p'.l=x.toks.drop k' ∧j≤k' ∧p'.out.length+j≤m+k' ∧H=x.B k' B' cb' p'.out 0 0++R
 | .error e=> ∃ k' B' cb' out',e.2≠0∧k' ≤x.toks.length+1∧j≤k' ∧out'.length+j≤m+k' ∧H=x.B k' B' cb' out' e.1 e.2++R
def SW (F:Int→PS→Option Out) (fid:FuncId) (args:List Value):Prop:=
 ∀ (x:Cx) (k:Nat) (p:PS) (B:Option Nat) (cb:Nat) (r:Out) (R:List Blk) (w0:World),k≤x.toks.length→p.l=x.toks.drop k→p.out.length≤k→F x.fin p=some r→
  FnIn Tryz.prog fid (.pointer (some ⟨x.g,0,none⟩)::args) w0 (x.B k B cb p.out 0 0++R) (RR x k p.out.length R r)
def rp (f:Nat) (j:Job) (fid:FuncId) (args:List Value):Prop:=SW (fun fin p=>bK fin f j p) fid args
theorem Cx.lt {x:Cx} {k:Nat} {t:Tk} (hd:hdT x.fin (x.toks.drop k)=t) (h:t.kind≠0):k<x.toks.length:=by
 rcases WY k x.toks.length with h1|h1
 ·exact h1
 ·rw [xj h1] at hd;subst hd;exact absurd rfl h
theorem Cx.skip {x:Cx} {k:Nat} {p:PS} (h:p.l=x.toks.drop k):p.skip.l=x.toks.drop (k+1):=by
 simp only [PS.skip];rw [h,Yj]
theorem Cx.next {x:Cx} {k:Nat} {t:Tk} (hd:hdT x.fin (x.toks.drop k)=t) {B:Option Nat} {cb:Nat} {out:List Nd} {at_ e:Int} {H:List Blk} {w0:World} (hH:MSub (x.B k B cb out at_ e) H) (w:World) (hm:Mem w0 w H):
 aF Tryz.prog 243 [.pointer (some ⟨x.g,0,none⟩)] w (.agg (bw t).toArray):=yx (VR x.hsa (by decide)) (VR x.ht (by decide)) hd hH w hm
theorem Cx.op {x:Cx} {k:Nat} {t:Tk} (hd:hdT x.fin (x.toks.drop k)=t) (q:Int) {B:Option Nat} {cb:Nat} {out:List Nd} {at_ e:Int} {H:List Blk} {w0:World} (hH:MSub (x.B k B cb out at_ e) H) (w:World) (hm:Mem w0 w H):
 aF Tryz.prog 309 [.pointer (some ⟨x.g,0,none⟩),.int .i64 q] w (.bool (decide (t.kind=8∧jh t.num=q))):=TK q (VR x.hsa (by decide)) (VR x.ht (by decide)) hd hH w hm
theorem JG (q:Int):(jh q=6)↔(q=5):=by
 unfold jh;repeat' split
 all_goals omega
theorem PZ (q:Int):(jh q=7)↔(q=13):=by
 unfold jh;repeat' split
 all_goals omega
theorem lU {fn:Func} {fr:Fr} {w0:World} {R H:List Blk} {x:Cx} {j m n k' :Nat} {p' :PS} {B' :Option Nat} {cb' :Nat} {e:Exit} {s:aC} (he:e= .ret∨e= .normal) (hf:fn.results= #[]) (h1:k' ≤x.toks.length) (h2:p'.l=x.toks.drop k') (h3:j≤k') (h4:p'.out.length+j≤m+k') (hs:MSub (x.B k' B' cb' p'.out 0 0++R) H):
 aS Tryz.prog fn fr w0 (RR x j m R (.ok (n,p'))) e s H:=iO he hf hs ⟨rfl,k',B',cb',h1,h2,h3,h4,rfl⟩
theorem gS {fn:Func} {fr:Fr} {w0:World} {R H:List Blk} {x:Cx} {j m k' :Nat} {x' :Int × Int} {out' :List Nd} {B' :Option Nat} {cb' :Nat} {e:Exit} {s:aC} (he:e= .ret∨e= .normal) (hf:fn.results= #[]) (h0:x'.2≠0) (h1:k' ≤x.toks.length+1) (h3:j≤k') (h4:out'.length+j≤m+k') (hs:MSub (x.B k' B' cb' out' x'.1 x'.2++R) H):
 aS Tryz.prog fn fr w0 (RR x j m R (.error x')) e s H:=iO he hf hs ⟨rfl,k',B',cb',out',h0,h1,h3,h4,rfl⟩
theorem OD (f:Nat) (ihS:rp f .sign 308 []) (ihP:rp f .pct 363 []):rp (f+1) .sign 308 []:=by
 intro x k p B cb r R w0 hk hp hout hrun;refine bE Tryz.func308 rfl Tryz.ntmps308 rfl ?_;have hxt:=x.ht;dsimp only at hrun;rw [bK] at hrun;dsimp only at hrun;obtain ⟨t,ht⟩: ∃ t,hdT x.fin p.l=t:=⟨_,rfl⟩;rw [ht] at hrun;have hd:hdT x.fin (x.toks.drop k)=t:=hp ▸ ht;have hN:=fun w hm=>Cx.next hd (B:=B) (cb:=cb) (out:=p.out) (at_:=0) (e:=0) (w0:=w0) (H:=x.B k B cb p.out 0 0++R) ⟨R,.refl _⟩ w hm;by_cases hk2:t.kind=8∧t.num=2
 ·rw [if_pos hk2] at hrun;have hlt:=Cx.lt hd (by omega);obtain ⟨r1,hr1,⟨e,rfl,rfl⟩|⟨n1,p1,rfl,hr2⟩⟩:=bU hrun
  ·repeat' first|apply ag (f:=243);exact rfl;exact rfl;exact hN|apply ak (f:=308);exact rfl;exact rfl;exact FnIn.msub (ihS x (k+1) p.skip B cb _ _ w0 hlt (Cx.skip hp) (X7 hout) hr1) (MSub.pick pK (MSub.pick pK (MSub.pick pK (MSub.refl _))));rintro _ _ ⟨rfl,k1,B1,cb1,o1,h1,h2,h3,h4,rfl⟩;replace h4:o1.length+(k+1)≤p.out.length+k1:=h4|apply aG;(iterate 3 exact rfl);exact pK;exact pK;exact rfl;simp [bu,Value.oneCell'];omega;simp only [maxLen];omega;intro g8 c8|refine zZA ?_|refine sM fun _=>?_|refine sC ?_ ?_<;>intro hb<;>try omega|fail
   all_goals first
    |omega
    | (refine gS (k' := k1) (out' := o1 ++ [eW 4 0]) (B' := some g8) (cb' := c8) eIO rfl h1 h2 (by omega) (by rw [Vn, Vs]; omega) ?_
       simp only [Cx.B,rB,Vn,Vs,VF,VE,VZ,VB,Vp,Vq];exact mS)
  ·cases hr2;repeat' (first|apply ag (f:=243);exact rfl;exact rfl;exact hN|apply ak (f:=308);exact rfl;exact rfl;exact FnIn.msub (ihS x (k+1) p.skip B cb _ _ w0 hlt (Cx.skip hp) (X7 hout) hr1) (MSub.pick pK (MSub.pick pK (MSub.pick pK (MSub.refl _))));rintro _ _ ⟨rfl,k1,B1,cb1,h1,h2,h3,h4,rfl⟩;replace h4:p1.out.length+(k+1)≤p.out.length+k1:=h4|apply aG;(iterate 3 exact rfl);exact pK;exact pK;exact rfl;simp [bu,Value.oneCell'];omega;simp only [maxLen];omega;intro g8 c8|refine zZA ?_|refine sM fun _=>?_|refine sC ?_ ?_<;>intro hb<;>try omega|fail)
   all_goals first
    |omega
    | (refine lU (k' := k1) (p' := p1.put (eW 4 0)) (B' := some g8) (cb' := c8) eIO rfl h1 h2 (by omega) (by simp only [PS.put, Vn, Vs]; omega) ?_
       simp only [PS.put,Cx.B,rB,Vn,Vs,VF,VE,VZ,VB,Vp,Vq];exact mS)
 rw [if_neg hk2] at hrun;obtain ⟨r1,hr1,⟨e,rfl,rfl⟩|⟨n1,p1,rfl,hr2⟩⟩:=bU hrun
 ·repeat' first|apply ag (f:=243);exact rfl;exact rfl;exact hN|apply ak (f:=363);exact rfl;exact rfl;exact FnIn.msub (ihP x k p B cb _ _ w0 hk hp hout hr1) (MSub.pick pK (MSub.pick pK (MSub.pick pK (MSub.refl _))));rintro _ _ ⟨rfl,k1,B1,cb1,o1,h1,h2,h3,h4,rfl⟩|refine zZA ?_|refine sM fun _=>?_|refine sC ?_ ?_<;>intro hb<;>try omega|fail
  all_goals first
   |omega
   |exact absurd (by assumption) h1
   | (refine gS (k' := k1) (out' := o1) (B' := B1) (cb' := cb1) eIO rfl h1 h2 h3 h4 ?_
      simp only [Cx.B,rB,Vp,Vq];exact mS)
 ·obtain ⟨u,hu⟩: ∃ u,hdT x.fin p1.l=u:=⟨_,rfl⟩;rw [hu] at hr2;by_cases hk3:u.kind=8∧u.num=5
  ·rw [if_pos hk3] at hr2;obtain ⟨r2,hr3,⟨e,rfl,rfl⟩|⟨n2,p2,rfl,hr4⟩⟩:=bU hr2
   ·repeat' first|apply ag (f:=243);exact rfl;exact rfl;exact hN|apply ak (f:=363);exact rfl;exact rfl;exact FnIn.msub (ihP x k p B cb _ _ w0 hk hp hout hr1) (MSub.pick pK (MSub.pick pK (MSub.pick pK (MSub.refl _))));rintro _ _ ⟨rfl,k1,B1,cb1,h1,h2,h3,h4,rfl⟩;have hd1:hdT x.fin (x.toks.drop k1)=u:=h2 ▸ hu;have hlt1:=Cx.lt hd1 (by omega)|apply ag (f:=309);exact rfl;exact rfl;exact fun w hm=>Cx.op hd1 6 (B:=B1) (cb:=cb1) (out:=p1.out) (at_:=0) (e:=0) (MSub.pick pK (MSub.pick pK (MSub.pick pK (MSub.nil _)))) w hm|apply ak (f:=308);exact rfl;exact rfl;exact FnIn.msub (ihS x (k1+1) p1.skip B1 cb1 _ _ w0 hlt1 (Cx.skip h2) (by simp only [PS.skip];omega) hr3) (MSub.pick pK (MSub.pick pK (MSub.pick pK (MSub.refl _))));rintro _ _ ⟨rfl,k2,B2,cb2,o2,j1,j2,j3,j4,rfl⟩;replace j4:o2.length+(k1+1)≤p1.out.length+k2:=j4|apply aG;(iterate 3 exact rfl);exact pK;exact pK;exact rfl;simp [bu,Value.oneCell'];omega;simp only [maxLen];omega;intro g8 c8|refine zZA ?_|refine sM fun _=>?_|refine sC ?_ ?_<;>intro hb<;>try omega|fail
    all_goals first
     |omega
     |exfalso;simp_all [JG];done
     | (refine gS (k' := k2) (out' := o2 ++ [eW 6 5]) (B' := some g8) (cb' := c8) eIO rfl j1 j2 (by omega) (by rw [Vn, Vs]; omega) ?_
        simp only [Cx.B,rB,Vn,Vs,VF,VE,VZ,VB,Vp,Vq];exact mS)
   ·cases hr4;repeat' (first|apply ag (f:=243);exact rfl;exact rfl;exact hN|apply ak (f:=363);exact rfl;exact rfl;exact FnIn.msub (ihP x k p B cb _ _ w0 hk hp hout hr1) (MSub.pick pK (MSub.pick pK (MSub.pick pK (MSub.refl _))));rintro _ _ ⟨rfl,k1,B1,cb1,h1,h2,h3,h4,rfl⟩;have hd1:hdT x.fin (x.toks.drop k1)=u:=h2 ▸ hu;have hlt1:=Cx.lt hd1 (by omega)|apply ag (f:=309);exact rfl;exact rfl;exact fun w hm=>Cx.op hd1 6 (B:=B1) (cb:=cb1) (out:=p1.out) (at_:=0) (e:=0) (MSub.pick pK (MSub.pick pK (MSub.pick pK (MSub.nil _)))) w hm|apply ak (f:=308);exact rfl;exact rfl;exact FnIn.msub (ihS x (k1+1) p1.skip B1 cb1 _ _ w0 hlt1 (Cx.skip h2) (by simp only [PS.skip];omega) hr3) (MSub.pick pK (MSub.pick pK (MSub.pick pK (MSub.refl _))));rintro _ _ ⟨rfl,k2,B2,cb2,j1,j2,j3,j4,rfl⟩;replace j4:p2.out.length+(k1+1)≤p1.out.length+k2:=j4|apply aG;(iterate 3 exact rfl);exact pK;exact pK;exact rfl;simp [bu,Value.oneCell'];omega;simp only [maxLen];omega;intro g8 c8|refine zZA ?_|refine sM fun _=>?_|refine sC ?_ ?_<;>intro hb<;>try omega|fail)
    all_goals first
     |omega
     |exfalso;simp_all [JG];done
     | (refine lU (k' := k2) (p' := p2.put (eW 6 5)) (B' := some g8) (cb' := c8) eIO rfl j1 j2 (by omega) (by simp only [PS.put, Vn, Vs]; omega) ?_
        simp only [PS.put,Cx.B,rB,Vn,Vs,VF,VE,VZ,VB,Vp,Vq];exact mS)
  ·rw [if_neg hk3] at hr2;cases hr2;repeat' (first|apply ag (f:=243);exact rfl;exact rfl;exact hN|apply ak (f:=363);exact rfl;exact rfl;exact FnIn.msub (ihP x k p B cb _ _ w0 hk hp hout hr1) (MSub.pick pK (MSub.pick pK (MSub.pick pK (MSub.refl _))));rintro _ _ ⟨rfl,k1,B1,cb1,h1,h2,h3,h4,rfl⟩;have hd1:hdT x.fin (x.toks.drop k1)=u:=h2 ▸ hu|apply ag (f:=309);exact rfl;exact rfl;exact fun w hm=>Cx.op hd1 6 (B:=B1) (cb:=cb1) (out:=p1.out) (at_:=0) (e:=0) (MSub.pick pK (MSub.pick pK (MSub.pick pK (MSub.nil _)))) w hm|refine zZA ?_|refine sM fun _=>?_|refine sC ?_ ?_<;>intro hb<;>try omega|fail)
   all_goals first
    |omega
    |exfalso;simp_all [JG];done
    | (refine lU (k' := k1) (p' := p1) (B' := B1) (cb' := cb1) eIO rfl h1 h2 h3 h4 ?_
       simp only [Cx.B,rB,Vp,Vq];exact mS)
theorem j6 (p:Int→Bool): ∀ l:List Int,l.takeWhile p=l.take (aK p l)∧l.dropWhile p=l.drop (aK p l)
 | []=>⟨rfl,rfl⟩
 |c::r=>by
  simp only [List.takeWhile_cons,List.dropWhile_cons,aK];split
  ·exact ⟨by rw [(j6 p r).1];rfl,by rw [(j6 p r).2];rfl⟩
  ·exact ⟨rfl,rfl⟩
theorem Dk (a:ByteArray) (ha:a.size≤1000000) (h0:0<a.size) (hlet: ∀ c∈ap a,cz c=true) (w:World):aF Tryz.prog 416 [.string a] w (.tuple #[.int .i64 (if 1024<bI (ap a) 0 then 0 else bI (ap a) 0),.int .i64 (if 1024<bI (ap a) 0 then 3 else 0)]):=by
 refine aA Tryz.func416 rfl Tryz.ntmps416 rfl ?_;have hl:=az a;have hpos:=o8 (ap a) hlet (XS 0) (.inl (fun h=>by rw [h] at hl;simp at hl;omega));obtain ⟨X,hX⟩: ∃ X,bI (ap a) 0=X:=⟨_,rfl⟩;rw [hX] at hpos ⊢;repeat' (first|refine zZF ?_|refine sM fun _=>?_|refine sC ?_ ?_<;>intro hb<;>try omega|fail)
 refine ay [0] rfl (fun x:Nat × Int=> [(5,.int .i64 (x.1:Int)),(4,.int .i64 x.2)]) (fun _=> []) (fun x=>x.1≤a.size∧0≤x.2∧x.2≤1025∧X=bI ((ap a).drop x.1) x.2) (fun x=>a.size - x.1) (0,0) ⟨by simp,by simp,by simp,hX.symm⟩ sB (.refl _) ?_;rintro ⟨i,v⟩ ⟨hi,hv0,hv1,hx⟩;dsimp only at hi hv0 hv1 hx ⊢;by_cases hlt:i<a.size
 ·have hc:=hlet (bat a i) (Xz (iZ hlt));have hok:=vQ a i;rw [bA hlt,bI] at hx;have hN:=fun w=>sm (bat a i) hok.1 hok.2 w;have hN1:Gz (bat a i)=upC (bat a i) - 64:=by rw [Gz,if_pos hc]
  have hN2:1≤upC (bat a i) - 64∧upC (bat a i) - 64≤26:=by
   have:=(jv _).1 hc;unfold upC;split<;>omega
  rw [hN1] at hN;obtain ⟨d,hd⟩: ∃ d,upC (bat a i) - 64=d:=⟨_,rfl⟩;rw [hd] at hx hN hN2;repeat' (first|apply ai (d:=14);exact rfl;apply bk (j:=i);exact rfl;exact rfl;exact hlt|apply ai (d:=21);exact rfl;apply bk (j:=i);exact rfl;exact rfl;exact hlt|apply ag (f:=415);exact rfl;exact rfl;intro w' hm;exact hN w'|apply ai (d:=18);exact rfl;apply Bk;exact rfl;exact rfl;exact ⟨by omega,by omega⟩|apply ai (d:=23);exact rfl;apply mC;exact rfl;exact rfl;exact ⟨by omega,by omega⟩|refine zZC ?_|refine sM fun _=>?_|refine sC ?_ ?_<;>intro hb<;>try omega|fail)
  all_goals first
   |omega
   |rw [DC];exact ⟨(i+1,min (26*v+d) 1025),⟨hlt,by dsimp only;omega,by dsimp only;omega,hx⟩,by dsimp only;omega,sB,sB,.nil _⟩
 ·have e:i=a.size:=by omega
  subst e;rw [VY (by omega),bI] at hx;subst hx;repeat' (first|refine zZF ?_|refine sM fun _=>?_|refine sC ?_ ?_<;>intro hb<;>try omega|fail)
  all_goals first
   |omega
   |((refine rT2 ?_);first|rw [if_pos (by omega),if_pos (by omega)]|rw [if_neg (by omega),if_neg (by omega)])
theorem Nf (l:List Int):cX l=if l.take (aK cz l)= []∨l.drop (aK cz l)= []∨(l.drop (aK cz l)).head? =some 48∨(l.drop (aK cz l)).all aL=false then (0,0,4)
 else if 1024<bI (l.take (aK cz l)) 0∨1024<pH (l.drop (aK cz l)) 0 then (0,0,3) else (bI (l.take (aK cz l)) 0,pH (l.drop (aK cz l)) 0,0):=by
 unfold cX;rw [(j6 cz l).1,(j6 cz l).2]
theorem Gy {c:Int}:(0<Gz c)↔cz c=true:=by
 unfold Gz upC
 cases h:cz c with
 |false=>simp
 |true=>
  have:=(jv c).1 h;simp only [if_true,iff_true];by_cases h2:97≤c∧c≤122
  ·rw [if_pos h2];omega
  ·rw [if_neg h2];omega
theorem IR (a:ByteArray) (ha:a.size≤100000) (w:World):aF Tryz.prog 402 [.string a] w (.tuple #[.agg (aw ⟨(cX (ap a)).1,(cX (ap a)).2.1⟩).toArray,.int .i64 (cX (ap a)).2.2]):=by
 refine aA Tryz.func402 rfl Tryz.ntmps402 rfl ?_;have hl:=az a;have hA:=Nf (ap a);obtain ⟨A,hAr⟩: ∃ A,aK cz (ap a)=A:=⟨_,rfl⟩;have hAle:A≤a.size:=by have:=cH cz (ap a);omega
 rw [hAr] at hA;repeat' (first|refine zZF ?_|refine sM fun _=>?_|refine sC ?_ ?_<;>intro hb<;>try omega|fail)
 rename_i g2;refine ay [0,2] rfl (fun i:Nat=> [(4,.int .i64 (i:Int))]) (fun _=> [.box g2 35 [.int .i64 0,.int .i64 0]]) (fun i=>i≤a.size∧A=i+aK cz ((ap a).drop i)) (fun i=>a.size - i) 0 ⟨by omega,by rw [WH,VD,hAr]⟩ sB (.refl _) ?_;rintro i ⟨hi,hx⟩;by_cases hlt:i<a.size∧cz (bat a i)=true
 ·have hok:=vQ a i;have hN:=fun w=>sm (bat a i) hok.1 hok.2 w;have hp:=Gy.2 hlt.2;rw [bA hlt.1,aK,if_pos hlt.2] at hx;repeat' (first|apply ai (d:=16);exact rfl;apply bk (j:=i);exact rfl;exact rfl;omega|apply ag (f:=415);exact rfl;exact rfl;intro w' hm;exact hN w'|refine zZC ?_|refine sM fun _=>?_|refine sC ?_ ?_<;>intro hb<;>try omega|fail)
  all_goals first
   |omega
   |exact ⟨i+1,⟨by omega,by omega⟩,by omega,sB,sB,.refl _⟩
 have hAi:A=i:=by
  rw [hx];by_cases h:i<a.size
  ·rw [bA h,aK,if_neg (fun h2=>hlt ⟨h,h2⟩)];rfl
  ·rw [tH (by omega)];rfl
 subst hAi;have hexit:A<a.size→Gz (bat a A)≤0:=fun h=>by
  have: ¬ 0<Gz (bat a A):=fun h2=>hlt ⟨h,Gy.1 h2⟩;omega
 have hN:=fun w=>sm (bat a A) (vQ a A).1 (vQ a A).2 w;have htk:(ap a).take A= []↔A=0:=by
  rw [List.take_eq_nil_iff];constructor
  ·rintro (h|h)
   ·exact h
   ·rw [h] at hl;simp at hl;omega
  ·exact .inl
 have hdr:(ap a).drop A= []↔A=a.size:=by rw [YI];omega
 have hhd:A<a.size→(((ap a).drop A).head? =some 48↔bat a A=48):=fun h=>by rw [bA h];simp
 by_cases hbad:A=0∨A=a.size∨bat a A=48
 ·have hres:cX (ap a)=(0,0,4):=by
   rw [hA,if_pos];rcases hbad with h|h|h
   ·exact .inl (htk.2 h)
   ·exact .inr (.inl (hdr.2 h))
   ·by_cases hA2:A<a.size
    ·exact .inr (.inr (.inl ((hhd hA2).2 h)))
    ·exact .inr (.inl (hdr.2 (by omega)))
  rw [hres];repeat' (first|apply ai (d:=16);exact rfl;apply bk (j:=A);exact rfl;exact rfl;omega|apply ai (d:=33);exact rfl;apply bk (j:=A);exact rfl;exact rfl;omega|apply ag (f:=415);exact rfl;exact rfl;intro w' hm;exact hN w'|refine zZC ?_|refine sM fun _=>?_|refine sC ?_ ?_<;>intro hb<;>try omega|fail)
  all_goals first
   |omega
   |(refine nz ?_);rfl
 have hA1:0<A:=by omega
 have hA2:A<a.size:=by omega
 have hn48:bat a A≠48:=fun h=>hbad (.inr (.inr h));simp only [htk,hdr,hhd hA2,show ¬ A=0 by omega,show ¬ A=a.size by omega,hn48,false_or] at hA;repeat' (first|apply ai (d:=16);exact rfl;apply bk (j:=A);exact rfl;exact rfl;omega|apply ai (d:=33);exact rfl;apply bk (j:=A);exact rfl;exact rfl;omega|apply ag (f:=415);exact rfl;exact rfl;intro w' hm;exact hN w'|refine zZC ?_|refine sM fun _=>?_|refine sC ?_ ?_<;>intro hb<;>try omega|fail)
 all_goals try omega
 refine ay [0,2,4] rfl (fun x:Nat × Int=> [(6,.int .i64 (x.1:Int)),(5,.int .i64 x.2)]) (fun _=> [.box g2 35 [.int .i64 0,.int .i64 0]]) (fun x=>A≤x.1∧x.1≤a.size∧0≤x.2∧x.2≤1025∧pH ((ap a).drop A) 0=pH ((ap a).drop x.1) x.2∧((ap a).drop A).all aL=((ap a).drop x.1).all aL) (fun x=>a.size - x.1) (A,0) ⟨by simp,by dsimp only;omega,by simp,by simp,rfl,rfl⟩ sB (.refl _) ?_;rintro ⟨i,v⟩ ⟨hi0,hi,hv0,hv1,hr,hall⟩;dsimp only at hi0 hi hv0 hv1 hr hall ⊢;by_cases hlt2:i<a.size
 ·have hok:=vQ a i;rw [bA hlt2] at hr hall;rw [pH] at hr;rw [XM] at hall;have hd:=fZ (bat a i);by_cases hdg:aL (bat a i)=true
  ·obtain ⟨hd1,hd2⟩:=hd.1 hdg;rw [hdg,Wp] at hall;obtain ⟨d,hdd⟩: ∃ d,bat a i - 48=d:=⟨_,rfl⟩;rw [hdd] at hr;repeat' (first|apply ai (d:=46);exact rfl;apply bk (j:=i);exact rfl;exact rfl;exact hlt2|apply ai (d:=51);exact rfl;apply bk (j:=i);exact rfl;exact rfl;exact hlt2|apply ai (d:=59);exact rfl;apply bk (j:=i);exact rfl;exact rfl;exact hlt2|apply ai (d:=56);exact rfl;apply Bk;exact rfl;exact rfl;exact ⟨by omega,by omega⟩|apply ai (d:=60);exact rfl;apply fj (c:=d);exact rfl;exact rfl;rw [hdd];exact gG (by omega) (by omega)|apply ai (d:=61);exact rfl;apply dD (c:=d);exact rfl;exact I64.wrap ⟨by omega,by omega⟩|apply ai (d:=62);exact rfl;apply mC;exact rfl;exact rfl;exact ⟨by omega,by omega⟩|refine zZC ?_|refine sM fun _=>?_|refine sC ?_ ?_<;>intro hb<;>try omega|fail)
   all_goals first
    |omega
    |rw [DC];exact ⟨(i+1,min (10*v+d) 1025),⟨by dsimp only;omega,hlt2,by dsimp only;omega,by dsimp only;omega,hr,hall⟩,by dsimp only;omega,sB,sB,.refl _⟩
  ·have hdf:aL (bat a i)=false:=by simpa using hdg
   rw [hdf,WI] at hall;rw [if_pos hall] at hA;have hno: ¬ (48≤bat a i∧bat a i≤57):=fun h=>hdg (hd.2 h);rw [hA];repeat' (first|apply ai (d:=46);exact rfl;apply bk (j:=i);exact rfl;exact rfl;exact hlt2|apply ai (d:=51);exact rfl;apply bk (j:=i);exact rfl;exact rfl;exact hlt2|apply ai (d:=59);exact rfl;apply bk (j:=i);exact rfl;exact rfl;exact hlt2|apply ai (d:=56);exact rfl;apply Bk;exact rfl;exact rfl;exact ⟨by omega,by omega⟩|refine zZC ?_|refine sM fun _=>?_|refine sC ?_ ?_<;>intro hb<;>try omega|fail)
   all_goals first
    |omega
    |(refine nz ?_);rfl
 ·have e2:i=a.size:=by omega
  subst e2;have e3:(ap a).drop a.size= []:=VY (by omega);rw [e3,List.all_nil] at hall;rw [e3,pH] at hr;rw [hall,hr] at hA;simp only [Bool.true_eq_false,if_false] at hA;have hsub:ap (sub a 0 A)=(ap a).take A:=xg a A
  have hC:=fun w=>Dk (sub a 0 A) (by rw [cP a hAle];omega) (by rw [cP a hAle];omega) (fun c hc=>by
   rw [hsub] at hc;obtain ⟨k,hk⟩:=YA.1 hc;have hkl:k<A:=by
    have:=(VI.1 hk).1;rw [VQ] at this;omega
   rw [Xn hkl] at hk;exact lT (ap a) k c (by omega) hk) w
  rw [hsub] at hC;generalize bI ((ap a).take A) 0=L at hC hA;rw [hA];repeat' (first|apply ai (d:=67);exact rfl;apply HV (hi:=A);exact rfl;exact rfl;exact hAle|apply ag (f:=416);exact rfl;exact rfl;intro w' hm;exact hC w'|refine zZC ?_|refine sM fun _=>?_|refine sC ?_ ?_<;>intro hb<;>try omega|fail)
  all_goals
   (refine nz ?_);by_cases h1:1024<L<;>by_cases h2:1024<v<;>first|exfalso;simp only [h1,if_true,if_false] at*;omega|simp only [h1,h2,if_true,if_false,or_true,true_or,or_self];rfl
theorem tM (f:Nat) (fn:Int) (n:Nat) (h0:1≤fn) (h5:fn≤50) (ih:rp f (.level 1) 241 [.int .i64 1]):SW (El f fn n) 421 [.int .u8 fn,.int .i64 n]:=by
 intro x k p B cb r R w0 hk hp hout hrun;refine bE Tryz.func421 rfl Tryz.ntmps421 rfl ?_;have hxt:=x.ht;unfold El at hrun;obtain ⟨t,ht⟩: ∃ t,hdT x.fin p.l=t:=⟨_,rfl⟩;rw [ht] at hrun;have hd:hdT x.fin (x.toks.drop k)=t:=hp ▸ ht;have hN:=fun w hm=>Cx.next hd (B:=B) (cb:=cb) (out:=p.out) (at_:=0) (e:=0) (w0:=w0) (H:=x.B k B cb p.out 0 0++R) ⟨R,.refl _⟩ w hm;by_cases hk2:t.kind≠6
 ·rw [if_pos hk2] at hrun;obtain ⟨r1,hr1,hr2⟩:=bU hrun;have hrr: ∀ v H,RR x k p.out.length R r1 v H→RR x k p.out.length R r v H:=by
   rintro v H ⟨hv,h⟩;rcases hr2 with ⟨e,rfl,rfl⟩|⟨n1,p1,rfl,hr2⟩
   ·exact ⟨hv,h⟩
   ·cases hr2;exact ⟨hv,h⟩
  repeat' first|apply ag (f:=243);exact rfl;exact rfl;exact hN|apply ak (f:=241);exact rfl;exact rfl;exact FnIn.msub (ih x k p B cb r1 _ w0 hk hp hout hr1) (MSub.pick pK (MSub.pick pK (MSub.pick pK (MSub.refl _))));rintro v1 H1 hR|refine zZA ?_|refine sM fun _=>?_|refine sC ?_ ?_<;>intro hb<;>try omega|fail
  all_goals try omega
  obtain ⟨rfl,hR⟩:=hR;rcases hr2 with ⟨e,rfl,rfl⟩|⟨n1,p1,rfl,hr2⟩
  ·obtain ⟨k1,B1,cb1,o1,j1,j2,j3,j4,rfl⟩:=hR;refine gS (k' :=k1) (out' :=o1) (B' :=B1) (cb' :=cb1) eIO rfl j1 j2 j3 j4 ?_;simp only [Cx.B,rB,Vz,Vp,Vq];exact mS
  ·cases hr2;obtain ⟨k1,B1,cb1,j1,j2,j3,j4,rfl⟩:=hR;refine lU (k' :=k1) (p' :=p1) (B' :=B1) (cb' :=cb1) eIO rfl j1 j2 j3 j4 ?_;simp only [Cx.B,rB,Vz,Vp,Vq];exact mS
 rw [if_neg hk2] at hrun;have hlt:=Cx.lt hd (by omega);have hW:=fun w=>ym fn (n:Int) w;have hwk:=xE (fn:=fn) (by simp [dF,h0,h5]) (n:Int);have hwe:((lN fn n).1=false∨(lN fn n).2≠0)↔gT fn n=false:=by
  rw [hwk];dsimp only;constructor
  ·rintro (h|h)
   ·exact h
   ·have h2:(n:Int)<0∨(cg fn).2≤(n:Int):=Classical.byContradiction fun hn=>h (if_neg hn);unfold gT;rw [if_pos h2]
  ·exact .inl
 clear hwk;by_cases hwk:(lN fn n).1=false∨(lN fn n).2≠0
 ·rw [if_pos hwk] at hrun;cases hrun;rw [hwe.1 hwk] at hW;repeat' (first|apply ag (f:=243);exact rfl;exact rfl;exact hN|apply ag (f:=409);exact rfl;exact rfl;intro w' _;exact hW w'|apply ak (f:=242);exact rfl;exact rfl;exact FnIn.msub (il x.g x.sa x.A _ x.cap k B _ cb 0 0 _ _ _ _) (MSub.pick pK (.refl _));rintro _ _ ⟨rfl,rfl⟩|refine zZA ?_|refine sM fun _=>?_|refine sC ?_ ?_<;>intro hb<;>try omega|fail)
  all_goals first
   |omega
   | (refine gS (x' := (t.at_, 4)) (k' := k) (out' := p.out) (B' := B) (cb' := cb) eIO rfl (by simp) (by omega) (VA _) (VA _) ?_
      simp only [Cx.B,rB,Vz,Vp,Vq];exact mS)
 ·rw [if_neg hwk] at hrun;cases hrun;have hwt:gT fn n=true:=by
   cases h:gT fn n with
   |true=>rfl
   |false=>exact absurd (hwe.2 h) hwk
  rw [hwt] at hW;repeat' (first|apply ag (f:=243);exact rfl;exact rfl;exact hN|apply ag (f:=409);exact rfl;exact rfl;intro w' _;exact hW w'|refine zZA ?_|refine sM fun _=>?_|refine sC ?_ ?_<;>intro hb<;>try omega|fail)
  all_goals try omega
  refine kX 13 rfl (by kernel_rfl) ?_;((with_reducible apply aX (i:=0));exact rfl;exact rfl;(iterate 3 decide+kernel);exact nP;intro _ _;exact vP);((with_reducible apply aX (i:=1));exact rfl;exact rfl;(iterate 3 decide+kernel);exact nP;intro _ _;exact vP);((with_reducible apply aX (i:=2));exact rfl;exact rfl;(iterate 3 decide+kernel);exact nP;intro _ _;exact vP);((with_reducible apply aX (i:=3));exact rfl;exact rfl;(iterate 3 decide+kernel);exact nP;intro _ _;exact vP);((with_reducible apply aX (i:=5));exact rfl;exact rfl;(iterate 3 decide+kernel);exact nP;intro _ _;exact vP);repeat' (first|apply dO (i:=4) (j:=6);exact rfl;exact rfl;decide+kernel|apply dO (i:=4) (j:=7);exact rfl;exact rfl;decide+kernel|apply dO (i:=4) (j:=8);exact rfl;exact rfl;decide+kernel|apply aM (i:=4);exact rfl;decide+kernel|apply aM (i:=5);exact rfl;decide+kernel|apply aM (i:=6);exact rfl;decide+kernel|apply aM (i:=7);exact rfl;decide+kernel|apply aM (i:=8);exact rfl;decide+kernel|apply aM (i:=9);exact rfl;decide+kernel|apply aM (i:=10);exact rfl;decide+kernel|apply aM (i:=11);exact rfl;decide+kernel|apply aM (i:=12);exact rfl;decide+kernel|apply kV;decide+kernel|apply aG;(iterate 3 exact rfl);exact pK;exact pK;exact rfl;simp [bu,Value.oneCell'];omega;simp only [maxLen];omega;intro g8 c8|refine zZA ?_|refine sM fun _=>?_|refine sC ?_ ?_<;>intro hb<;>try omega|fail)
  all_goals first
   |omega
   | (refine lU (k' := k + 1) (p' := p.skip.put ⟨3, bX, t.rect, 0, 0, 0⟩) (B' := some g8) (cb' := c8) eIO rfl hlt (Cx.skip hp) (XY k) (by simp only [PS.put, PS.skip, Vn, Vs]; omega) ?_
      simp only [PS.put,PS.skip,Cx.B,rB,Vn,Vs,VF,VE,VZ,VB,Vz,Vp,Vq];exact mS)
theorem FW (f:Nat) (ihP:rp f .prim 388 []):rp (f+1) .pct 363 []:=by
 intro x k p B cb r R w0 hk hp hout hrun;refine bE Tryz.func363 rfl Tryz.ntmps363 rfl ?_;have hxt:=x.ht;dsimp only at hrun;rw [bK] at hrun;obtain ⟨r1,hr1,⟨e,rfl,rfl⟩|⟨n1,p1,rfl,hr2⟩⟩:=bU hrun
 ·repeat' first|apply ak (f:=388);exact rfl;exact rfl;exact FnIn.msub (ihP x k p B cb _ _ w0 hk hp hout hr1) (MSub.pick pK (MSub.pick pK (MSub.pick pK (MSub.refl _))));rintro _ _ ⟨rfl,k1,B1,cb1,o1,h1,h2,h3,h4,rfl⟩|refine zZA ?_|refine sM fun _=>?_|refine sC ?_ ?_<;>intro hb<;>try omega|fail
  refine ay [0] rfl (fun _:Unit=> []) (fun _=>x.B k1 B1 cb1 o1 e.1 e.2++R) (fun _=>True) (fun _=>0) () trivial sB (MSub.refl _) ?_;rintro ⟨⟩ _;repeat' (first|refine zZA ?_|refine sM fun _=>?_|refine sC ?_ ?_<;>intro hb<;>try omega|fail)
  all_goals first
   |omega
   |exact absurd (by assumption) h1
   |exact gS eIO rfl h1 h2 h3 h4 (MSub.refl _)
 ·repeat' first|apply ak (f:=388);exact rfl;exact rfl;exact FnIn.msub (ihP x k p B cb _ _ w0 hk hp hout hr1) (MSub.pick pK (MSub.pick pK (MSub.pick pK (MSub.refl _))));rintro _ _ ⟨rfl,k1,B1,cb1,h1,h2,h3,h4,rfl⟩|refine zZA ?_|refine sM fun _=>?_|refine sC ?_ ?_<;>intro hb<;>try omega|fail
  refine ay [0] rfl (fun _:Nat × PS × Nat × Option Nat × Nat=> []) (fun y=>x.B y.2.2.1 y.2.2.2.1 y.2.2.2.2 y.2.1.out 0 0++R) (fun y=>y.2.2.1≤x.toks.length∧y.2.1.l=x.toks.drop y.2.2.1∧k≤y.2.2.1∧y.2.1.out.length+k≤p.out.length+y.2.2.1∧bK x.fin y.1 .pctl y.2.1=some r) (fun y=>y.1) (f,p1,k1,B1,cb1) ⟨h1,h2,h3,h4,hr2⟩ sB (MSub.refl _) ?_;clear hr1 hr2 h1 h2 h3 h4;rintro ⟨f',q,k2,B2,cb2⟩ ⟨h1,h2,h3,h4,hr2⟩;dsimp only at h1 h2 h3 h4 hr2 ⊢
  cases f' with
  |zero=>cases hr2
  |succ f' =>
    rw [bK] at hr2;try dsimp only at hr2
    obtain ⟨u,hu⟩: ∃ u,hdT x.fin q.l=u:=⟨_,rfl⟩;rw [hu] at hr2;have hd1:hdT x.fin (x.toks.drop k2)=u:=h2 ▸ hu;by_cases hk3:u.kind=8∧u.num=13
    ·rw [if_pos hk3] at hr2;have hlt1:=Cx.lt hd1 (by omega);repeat' (first|apply ag (f:=309);exact rfl;exact rfl;exact fun w hm=>Cx.op hd1 7 (B:=B2) (cb:=cb2) (out:=q.out) (at_:=0) (e:=0) (MSub.pick pK (MSub.pick pK (MSub.pick pK (MSub.nil _)))) w hm|apply aG;(iterate 3 exact rfl);exact pK;exact pK;exact rfl;simp [bu,Value.oneCell'];omega;simp only [maxLen];omega;intro g8 c8|refine zZA ?_|refine sM fun _=>?_|refine sC ?_ ?_<;>intro hb<;>try omega|fail)
     all_goals first
      |omega
      |exfalso;simp_all [PZ];done
      | (refine ⟨(f', q.skip.put (eW 5 0), k2 + 1, some g8, c8), ⟨hlt1, Cx.skip h2, by dsimp only; omega, by simp only [PS.put, PS.skip, List.length_append, List.length_singleton]; omega, hr2⟩, Nat.lt_succ_self _, sB, sB, ?_⟩
         simp only [PS.put,PS.skip,Cx.B,rB,Vn,Vs,VF,VE,VZ,VB,Vp,Vq];exact mS)
    ·rw [if_neg hk3] at hr2;cases hr2;repeat' (first|apply ag (f:=309);exact rfl;exact rfl;exact fun w hm=>Cx.op hd1 7 (B:=B2) (cb:=cb2) (out:=q.out) (at_:=0) (e:=0) (MSub.pick pK (MSub.pick pK (MSub.pick pK (MSub.nil _)))) w hm|refine zZA ?_|refine sM fun _=>?_|refine sC ?_ ?_<;>intro hb<;>try omega|fail)
     all_goals first
      |omega
      |exfalso;simp_all [PZ];done
      |exact lU eIO rfl h1 h2 h3 h4 (MSub.refl _)
structure Lv where
 f:Nat
 k:Nat
 B:Option Nat
 cb:Nat
 out:List Nd
 a:Int
 e:Int
def Lv.H (y:Lv) (x:Cx) (R:List Blk):List Blk:=x.B y.k y.B y.cb y.out y.a y.e++R
def Lv.ok (y:Lv) (x:Cx) (j:Nat→PS→Option Out) (k m:Nat) (r:Out) (f:Nat):Prop:=y.f≤f∧k≤y.k∧y.out.length+k≤m+y.k∧
 ((y.a=0∧y.e=0∧y.k≤x.toks.length∧j y.f ⟨x.toks.drop y.k,y.out⟩=some r)∨(y.e≠0∧y.k≤x.toks.length+1∧r= .error (y.a,y.e)))
def Lv.m (y:Lv):Nat:=if y.e=0 then y.f+1 else 0
theorem Gv {x:Cx} {R H:List Blk} {v:Value} {f k m k0 m0:Nat} {r r1:Out} {j:Nat→PS→Option Out} (hr2:(∃ e,r1= .error e∧r= .error e)∨(∃ n p',r1= .ok (n,p')∧j f p' =some r)) (hR:RR x k0 m0 R r1 v H) (hk:k≤k0) (hm:m0+k≤m+k0): ∃ f2 k2 B2 cb2 o2 a2 e2,(Lv.mk f2 k2 B2 cb2 o2 a2 e2).ok x j k m r f∧H=x.B k2 B2 cb2 o2 a2 e2++R:=by
 obtain ⟨_,hR⟩:=hR;rcases hr2 with ⟨e,rfl,rfl⟩|⟨n1,p1,rfl,hr2⟩
 ·obtain ⟨k1,B1,cb1,o1,h1,h2,h3,h4,rfl⟩:=hR;exact ⟨f,k1,B1,cb1,o1,e.1,e.2,⟨Nat.le_refl _,by dsimp only;omega,by dsimp only;omega,.inr ⟨h1,h2,rfl⟩⟩,rfl⟩
 ·obtain ⟨k1,B1,cb1,h1,h2,h3,h4,rfl⟩:=hR;refine ⟨f,k1,B1,cb1,p1.out,0,0,⟨Nat.le_refl _,by dsimp only;omega,by dsimp only;omega,.inl ⟨rfl,rfl,h1,?_⟩⟩,rfl⟩;dsimp only;rw [← h2];exact hr2
theorem L5 (f:Nat) (q:Int) (h1q:1≤q) (h5q:q≤5) (ihL:q≤4→ ∀ f' ≤f,rp f' (.level (q+1)) 241 [.int .i64 (q+1)]) (ihS:rp f .sign 308 []):rp (f+1) (.level q) 241 [.int .i64 q]:=by
 intro x k p B cb r R w0 hk hp hout hrun;refine bE Tryz.func241 rfl Tryz.ntmps241 rfl ?_;have hxt:=x.ht;dsimp only at hrun;rw [bK] at hrun;by_cases hq5:q=5
 ·rw [if_pos hq5] at hrun;subst hq5;repeat' (first|apply ak (f:=308);exact rfl;exact rfl;exact FnIn.msub (ihS x k p B cb _ _ w0 hk hp hout hrun) (MSub.pick pK (MSub.pick pK (MSub.pick pK (MSub.refl _))));rintro _ _ ⟨rfl,hR⟩|refine zZA ?_|refine sM fun _=>?_|refine sC ?_ ?_<;>intro hb<;>try omega|fail)
  all_goals exact iO eIO rfl (MSub.refl _) ⟨rfl,hR⟩
 rw [if_neg hq5] at hrun;have ihL:=ihL (by omega);obtain ⟨r1,hr1,hr2⟩:=bU hrun;repeat' (first|apply ai (d:=11);exact rfl;apply mC;exact rfl;exact rfl;exact ⟨by omega,by omega⟩|apply ak (f:=241);exact rfl;exact rfl;exact FnIn.msub (ihL f (VA _) x k p B cb r1 _ w0 hk hp hout hr1) (MSub.pick pK (MSub.pick pK (MSub.pick pK (MSub.refl _))));rintro v1 H1 hR|refine zZA ?_|refine sM fun _=>?_|refine sC ?_ ?_<;>intro hb<;>try omega|fail)
 all_goals try omega
 obtain ⟨f0,k0,B0,cb0,o0,a0,e0,hy0,rfl⟩:=Gv (j:=fun f p=>bK x.fin f (.loop q) p) hr2 hR (VA k) (VA _);clear hr1 hr2 hR hrun;refine ay [0,1] rfl (fun _:Lv=> []) (fun y=>y.H x R) (fun y=>y.ok x (fun f p=>bK x.fin f (.loop q) p) k p.out.length r f) Lv.m ⟨f0,k0,B0,cb0,o0,a0,e0⟩ hy0 sB (MSub.refl _) ?_;rintro ⟨f',k1,B1,cb1,o1,a,e⟩ ⟨hf',h3,h4,hor⟩;dsimp only at hf' h3 h4 hor;simp only [Lv.H];rcases hor with ⟨rfl,rfl,h1,hr2⟩|⟨h1,h2,rfl⟩
 ·cases f' with
  |zero=>cases hr2
  |succ f' =>
   rw [bK] at hr2;try dsimp only at hr2
   obtain ⟨u,hd1⟩: ∃ u,hdT x.fin (x.toks.drop k1)=u:=⟨_,rfl⟩;rw [hd1] at hr2;by_cases hk3:u.kind=8∧jh u.num=q
   ·rw [if_pos hk3] at hr2;have hlt1:=Cx.lt hd1 (by omega);obtain ⟨r2,hr3,hr4⟩:=bU hr2;repeat' (first|apply ag (f:=309);exact rfl;exact rfl;exact fun w hm=>Cx.op hd1 q (B:=B1) (cb:=cb1) (out:=o1) (at_:=0) (e:=0) (MSub.pick pK (MSub.pick pK (MSub.pick pK (MSub.nil _)))) w hm|apply ag (f:=243);exact rfl;exact rfl;exact fun w hm=>Cx.next hd1 (B:=B1) (cb:=cb1) (out:=o1) (at_:=0) (e:=0) (MSub.pick pK (MSub.pick pK (MSub.pick pK (MSub.nil _)))) w hm|apply ai;exact rfl;apply eu;exact rfl;exact rfl|apply ai (d:=35);exact rfl;apply mC;exact rfl;exact rfl;exact ⟨by omega,by omega⟩|apply ak (f:=241);exact rfl;exact rfl;exact FnIn.msub (ihL f' (by omega) x (k1+1) ⟨x.toks.drop (k1+1),o1⟩ B1 cb1 r2 _ w0 hlt1 rfl (by dsimp only;omega) (by rw [← List.tail_drop];exact hr3)) (MSub.pick pK (MSub.pick pK (MSub.pick pK (MSub.refl _))));rintro v1 H1 hR;obtain ⟨f2,k2,B2,cb2,o2,a2,e2,⟨hy1,hy2,hy3,hy4⟩,rfl⟩:=Gv (k:=k+1) (m:=p.out.length) (j:=fun f p=>bK x.fin f (.loop q) (p.put (eW 6 u.num))) hr4 hR (by omega) (by dsimp only;omega);dsimp only at hy1 hy2 hy3 hy4;have hkb:k2≤257:=by { rcases hy4 with ⟨_,_,h,_⟩|⟨_,h,_⟩<;>omega }|apply aG;(iterate 3 exact rfl);exact pK;exact pK;exact rfl;simp [bu,Value.oneCell'];omega;simp only [maxLen];omega;intro g8 c8|refine zZA ?_|refine sM fun _=>?_|refine sC ?_ ?_<;>intro hb<;>try omega|fail)
    all_goals first
     |omega
     |exfalso;simp_all;done
     |skip
    refine ⟨⟨f2,k2,some g8,c8,o2++ [eW 6 u.num],a2,e2⟩,⟨by dsimp only;omega,by dsimp only;omega,by simp only [List.length_append,List.length_singleton];omega,hy4⟩,(by simp only [Lv.m,if_true];split<;>omega),sB,sB,?_⟩;simp only [Lv.H,Cx.B,rB,Vn,Vs,VF,VE,VZ,VB,Vp,Vq];exact mS
   ·rw [if_neg hk3] at hr2;cases hr2;repeat' (first|apply ag (f:=309);exact rfl;exact rfl;exact fun w hm=>Cx.op hd1 q (B:=B1) (cb:=cb1) (out:=o1) (at_:=0) (e:=0) (MSub.pick pK (MSub.pick pK (MSub.pick pK (MSub.nil _)))) w hm|refine zZA ?_|refine sM fun _=>?_|refine sC ?_ ?_<;>intro hb<;>try omega|fail)
    all_goals first
     |omega
     |exfalso;simp_all;done
     |exact lU (p' :=⟨x.toks.drop k1,o1⟩) eIO rfl h1 rfl h3 h4 (MSub.refl _)
 ·repeat' first|refine zZA ?_|refine sM fun _=>?_|refine sC ?_ ?_<;>intro hb<;>try omega|fail
  all_goals first
   |omega
   |exact absurd (by assumption) h1
   |exact gS (x' :=(a,e)) eIO rfl h1 h2 h3 h4 (MSub.refl _)
end Go.SL
