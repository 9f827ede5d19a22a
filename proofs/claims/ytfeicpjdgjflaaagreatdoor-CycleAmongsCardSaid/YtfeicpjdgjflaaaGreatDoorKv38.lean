/-
  Lemmas and walks, put together: Q15.
-/
import Derived.Test.YtfeicpjdgjflaaaGreatDoorKv26
import Derived.Test.YtfeicpjdgjflaaaGreatDoorKv37
set_option linter.unusedSimpArgs false
set_option linter.unusedVariables false
set_option maxRecDepth 20000
set_option maxHeartbeats 16000000
namespace Go.SL
open Go Go.Proofs
attribute [local irreducible] W WL WQ WG WA WX WLI WR WT WC VOp RW thn blk bg scp aS aV bi FnAt FnIn FnP ceP
def qE (a b:En):Bool:=bH a.uses (dU b.at_.col b.at_.row)
def rl (a:En) (F:List En):List (Rf × Rf):=(F.filter (qE a)).map fun b=>(a.at_,b.at_)
def gD (F:List En) (L:List En):List (Rf × Rf):=L.flatMap fun a=>rl a F
theorem LS {a:En} {F:List En} {k:Nat} (h:k<F.length):rl a (F.take (k+1))=if qE a F[k] then rl a (F.take k)++ [(a.at_,F[k].at_)] else rl a (F.take k):=by
 unfold rl;rw [Vu h,X6,Wj,XC];split<;>simp
theorem Hf {F L:List En} {i:Nat} (h:i<L.length):gD F (L.take (i+1))=gD F (L.take i)++rl L[i] F:=by
 unfold gD;rw [Vu h,VF];simp
theorem Fy (a:En) (F:List En):(rl a F).length≤F.length:=by
 unfold rl;rw [VK];exact WD _ _
theorem zC (F:List En): ∀ L:List En,(gD F L).length≤L.length*F.length
 | []=>by simp [gD]
 |a::r=>by
  have h1:=zC F r;have h2:=Fy a F;simp only [gD,VE,Vn,Vw] at h1 ⊢;rw [Xm,XX];omega
theorem RGOk.edges {R:List Blk} {L:List En} {G:Gr} (h:RGOk R L G) (hG:GrOk G):gD L L=cF G:=by
 have hq: ∀ e∈L,∀ f∈L,qE e f=gC e.uses f.at_:=fun e he f hf=>by
  have h1:e.abs∈G:=by rw [← h.rel];exact VM.2 ⟨e,he,rfl⟩
  have h2:f.abs∈G:=by rw [← h.rel];exact VM.2 ⟨f,hf,rfl⟩
  exact (uj (hG.ent _ h1).rect (hG.ent _ h2).at_).symm
 unfold gD cF;rw [← h.rel,List.flatMap_map];have: ∀ M:List En,(∀ e∈M,e∈L)→M.flatMap (fun a=>rl a L)=M.flatMap fun a=>((L.map En.abs).filter fun f=>gC a.abs.2.2 f.1).map fun f=>(a.abs.1,f.1):=by
  intro M
  induction M with
  |nil=>intro _;rfl
  |cons e r ih=>
   intro hM;rw [VE,VE,ih fun f hf=>hM f (Vv _ hf)];congr 1;unfold rl;rw [Ys,Xl,YS (hq e (hM e Vr))]
   rfl
 exact this L fun _ h=>h
theorem L6 (g:Nat) (A:Option Nat) (cap:Nat) (L:List En) (R:List Blk) (w0:World) (hE: ∀ e∈L,EnOk R e) (hlen:L.length≤900):
 FnIn Tryz.prog 58 [.pointer (some ⟨g,0,none⟩)] w0 (rgB g A cap L++R) fun v H=> ∃ A' cap',v=sl A' (gD L L).length cap' ∧H= .own A' 119 4 (gD L L).length cap' ((gD L L).flatMap cM)::(rgB g A cap L++R):=by
 refine bE Tryz.func58 rfl Tryz.ntmps58 rfl ?_;refine aI 119 4 ?_;unfold rgB;repeat' (first|refine zZB ?_|refine sM fun _=>?_|refine sC ?_ ?_<;>intro hb<;>try omega|fail)
 refine ay [0] rfl (fun y:Nat × Option Nat × Nat=> [(3,sl y.2.1 (gD L (L.take y.1)).length y.2.2),(4,.int .i64 (y.1:Int))]) (fun y=> .own y.2.1 119 4 (gD L (L.take y.1)).length y.2.2 ((gD L (L.take y.1)).flatMap cM):: .box g 113 [sl A L.length cap]:: .own A 200 4 L.length cap (L.flatMap cy)::R) (fun y=>y.1≤L.length) (fun y=>L.length - y.1) (0,none,0) (Vt _) sB (by simp only [Vz,Vp,Vq,gD,WP,VZ,WN];exact mS) ?_;rintro ⟨i,A3,c3⟩ hi;dsimp only at hi ⊢;by_cases hlt:i<L.length
 ·refine ba (A:=A) pK (by omega) fun gl hA=> ?_;subst hA;have hel:=zC L (L.take i);have hml:(L.take i).length*L.length≤900*900:=Nat.mul_le_mul (by rw [VQ];omega) hlen;have hnx:=Hf (F:=L) hlt;generalize hO:gD L (L.take i)=O at hel hnx;have hOl:O.length≤810000:=VR hel hml;have hoke:=hE L[i] (VL hlt);have hc:=lI hlt;have ha:=qw hlt;generalize L[i]=e at hc ha hnx hoke;have hT:=fun (f:En) (H' :List Blk) (hs:MSub R H') (w' :World) (hm:Mem w0 w' H')=>wq e (dU f.at_.col f.at_.row) w' (hoke.uses _ w' (hs.use hm)) (by have:=hoke.ul;omega);repeat' (first|refine zZA ?_|refine sM fun _=>?_|refine sC ?_ ?_<;>intro hb<;>try omega|fail)
  all_goals try omega
  refine ay [0,4] rfl (fun y:Nat × Option Nat × Nat=> [(3,sl y.2.1 (O++rl e (L.take y.1)).length y.2.2),(5,.int .i64 (y.1:Int))]) (fun y=> .own y.2.1 119 4 (O++rl e (L.take y.1)).length y.2.2 ((O++rl e (L.take y.1)).flatMap cM):: .box g 113 [sl (some gl) L.length cap]:: .own (some gl) 200 4 L.length cap (L.flatMap cy)::R) (fun y=>y.1≤L.length) (fun y=>L.length - y.1) (0,A3,c3) (Vt _) (by simp only [rl,WP,YJ,Wv,VB];exact sB) (by simp only [rl,WP,YJ,Wv,VB];exact mS) ?_;rintro ⟨j,A4,c4⟩ hj;dsimp only at hj ⊢;by_cases hlt2:j<L.length
  ·have hrl:=Fy e (L.take j);rw [VQ] at hrl;have hnx2:=LS (a:=e) hlt2;have hc2:=lI hlt2;generalize L[j]=f at hc2 hnx2;have hT:=hT f;have hOn:=fun w=>ij f.at_ w;generalize hU:rl e (L.take j)=U at hrl hnx2;have hql:(O++U).length≤811000:=by rw [Vn];omega
   cases ht:qE e f with
   |true=>
     rw [ht,if_pos rfl] at hnx2;rw [show bH e.uses (dU f.at_.col f.at_.row)=true from ht] at hT;repeat' (first|apply rS (id:=8);kernel_rfl;kernel_rfl|apply aY (d:=33);exact rfl;apply aa (j:=i);exact rfl;exact rfl;exact hlt|apply aY (d:=40);exact rfl;apply aa (j:=j);exact rfl;exact rfl;exact hlt2|apply aY (d:=34);exact rfl;apply aD (ys:=cy e);exact rfl;exact pK;exact ha;exact rfl|apply aY (d:=42);exact rfl;apply aD (ys:=aw f.at_);exact rfl;exact pK;exact hc2;exact rfl|apply dw;exact rfl;exact rfl;intro w hm;exact hOn w|apply dw (f:=105);exact rfl;exact rfl;exact fun w' hm=>hT _ mS w' hm|refine zZR ?_|refine sM fun _=>?_|refine sC ?_ ?_<;>intro hb<;>try omega|refine sCQ ?_ ?_<;>intro hb<;>try omega|fail)
     all_goals try omega
     refine fa (id:=9) [18,19] [] [.box g 113 [sl (some gl) L.length cap],.own (some gl) 200 4 L.length cap (L.flatMap cy)] (by kernel_rfl) (by kernel_rfl) (by kernel_rfl) mS ?_;repeat' (first|apply dC (d:=51);(iterate 3 exact rfl);apply aa (j:=i);exact rfl;exact rfl;exact hlt|apply dC (d:=59);(iterate 3 exact rfl);apply aa (j:=j);exact rfl;exact rfl;exact hlt2|apply dC (d:=53);(iterate 3 exact rfl);apply aD (ys:=aw e.at_);exact rfl;exact pK;exact hc;exact rfl|apply dC (d:=61);(iterate 3 exact rfl);apply aD (ys:=aw f.at_);exact rfl;exact pK;exact hc2;exact rfl|apply dC (d:=62);(iterate 3 exact rfl);apply Ln;(iterate 5 exact rfl)|apply aG (news:=cM (e.at_,f.at_));(iterate 3 exact rfl);exact pK;exact pK;exact rfl;simp [cM,Value.oneCell'];omega;simp only [maxLen];omega;intro g8 c8|refine zZI ?_|refine sM fun _=>?_|refine sC ?_ ?_<;>intro hb<;>try omega|refine sCW ?_ ?_<;>intro hb<;>try omega|fail)
     all_goals first
      |omega
      | (refine ⟨(j + 1, some g8, c8), hlt2, (by dsimp only; omega), (by dsimp only; rw [hnx2, ← List.append_assoc, @List.length_append _ (O ++ U), List.length_singleton]; exact sB), sB, ?_⟩
         dsimp only;rw [hnx2,← VC,@Vn _ (O++U),Vs,VF (xs:=O++U),VE,VZ,VB];exact mS)
   |false=>
     rw [ht,if_neg (by simp)] at hnx2;rw [show bH e.uses (dU f.at_.col f.at_.row)=false from ht] at hT;repeat' (first|apply aY (d:=33);exact rfl;apply aa (j:=i);exact rfl;exact rfl;exact hlt|apply aY (d:=40);exact rfl;apply aa (j:=j);exact rfl;exact rfl;exact hlt2|apply aY (d:=34);exact rfl;apply aD (ys:=cy e);exact rfl;exact pK;exact ha;exact rfl|apply aY (d:=42);exact rfl;apply aD (ys:=aw f.at_);exact rfl;exact pK;exact hc2;exact rfl|apply dw;exact rfl;exact rfl;intro w hm;exact hOn w|apply dw (f:=105);exact rfl;exact rfl;exact fun w' hm=>hT _ mS w' hm|refine zZG ?_|refine sM fun _=>?_|refine sC ?_ ?_<;>intro hb<;>try omega|refine sCQ ?_ ?_<;>intro hb<;>try omega|fail)
     all_goals first
      |omega
      | (refine ⟨(j + 1, A4, c4), hlt2, (by dsimp only; omega), (by dsimp only; rw [hnx2]; exact sB), sB, ?_⟩
         dsimp only;rw [hnx2];exact mS)
  ·have e2:j=L.length:=by omega
   subst e2;rw [V1];repeat' (first|refine zZA ?_|refine sM fun _=>?_|refine sC ?_ ?_<;>intro hb<;>try omega|fail)
   all_goals first
    |omega
    | (refine ⟨(i + 1, A4, c4), hlt, (by dsimp only; omega), (by dsimp only; rw [hnx]; exact sB), sB, ?_⟩
       dsimp only;rw [hnx];exact mS)
 ·have e2:i=L.length:=by omega
  subst e2;rw [V1];repeat' (first|refine zZA ?_|refine sM fun _=>?_|refine sC ?_ ?_<;>intro hb<;>try omega|fail)
  all_goals first
   |omega
   |exact bp eIO rfl rfl (H' := .own A3 119 4 (gD L L).length c3 ((gD L L).flatMap cM)::(rgB g A cap L++R)) (by unfold rgB;simp only [Vz,Vp,Vq];exact mS) ⟨A3,c3,rfl,rfl⟩
end Go.SL
