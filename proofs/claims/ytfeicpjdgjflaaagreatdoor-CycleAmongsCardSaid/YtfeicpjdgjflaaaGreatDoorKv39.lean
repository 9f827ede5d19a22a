/-
  Lemmas and walks, put together: Zy Rt Ze Q14 Q13 G2 Ru Sm Zr.
-/
import Derived.Test.YtfeicpjdgjflaaaGreatDoorKv38
set_option linter.unusedSimpArgs false
set_option linter.unusedVariables false
set_option maxRecDepth 20000
set_option maxHeartbeats 16000000
namespace Go.SL
open Go Go.Proofs
attribute [local irreducible] W WL WQ WG WA WX WLI WR WT WC WE VOp RW thn blk bg scp aS aV bi FnAt FnIn FnP ceP
theorem Ko (L:List Rf): ∀ u∈L.flatMap aw,u.oneCell' =true:=fun u hu=>by
 obtain ⟨a,_,h⟩:=XB.1 hu;simp only [aw,VN,XJ,or_false] at h;rcases h with rfl|rfl<;>rfl
theorem wM (L:List Rf) (tv:Value) (w:World) (ht:Reads w tv L.length (L.flatMap aw)) (hl:L.length≤1000000):
 FnAt Tryz.prog 12 [tv] w fun v H=> ∃ A cap,v=sl A L.length cap∧H= [.own A 35 2 L.length cap (L.flatMap aw)]:=by
 refine aA Tryz.func12 rfl Tryz.ntmps12 rfl ?_;refine aI 35 2 ?_;repeat' (first|apply dA (n' :=0) (c:=0) (A:=none) (m:=L.length);(iterate 3 exact rfl);exact pK;intro w hm;exact ht.of_w0 hm;exact bh bS L;exact encFs_one L;omega;simp only [maxLen];omega;intro A' cap' hA|refine sT ?_|refine sM fun _=>?_|refine sC ?_ ?_<;>intro hb<;>try omega|fail)
 repeat' first|apply dA (n' :=0) (c:=0) (A:=none) (m:=L.length);(iterate 3 exact rfl);exact pK;intro w hm;exact ht.of_w0 hm;exact bh bS L;exact Ko L;omega;simp only [maxLen];omega;intro A' cap' hA|refine sT ?_|refine sM fun _=>?_|refine sC ?_ ?_<;>intro hb<;>try omega|fail
 ·exact bp (.inl rfl) Tryz.results12 rfl (H' := [.own A' 35 2 (0+L.length) cap' ([]++L.flatMap aw)]) mS ⟨A',cap',by rw [VD],by rw [VD];rfl⟩
open Go.Shelf Go.Sort
def gA (n:Nat):List Nat→(Nat→Nat→Bool)→Nat→List Blk
 | [],_,_=> []
 |A::As,M,j=>ig n A (M j)::gA n As M (j+1)
theorem sx {n:Nat}: ∀ (As:List Nat) {M M' :Nat→Nat→Bool} (j:Nat),(∀ i k,j≤i→i<j+As.length→k<n→M i k=M' i k)→gA n As M j=gA n As M' j
 | [],_,_,_,_=>rfl
 |A::As,M,M',j,h=>by
  rw [gA,gA,sx As (j+1) fun i k h1 h2=>h i k (by omega) (by rw [Vw];omega),ig,ig,aO fun k hk=>h j k (VA _) (by rw [Vw];omega) hk]
theorem BS {n:Nat} (A:Nat): ∀ (As:List Nat) (M:Nat→Nat→Bool) (j:Nat),gA n (As++ [A]) M j=gA n As M j++ [ig n A (M (j+As.length))]
 | [],M,j=>rfl
 |B::As,M,j=>by
  rw [Vp,gA,gA,BS A As M (j+1),Vp,Vw,show j+1+As.length=j+(As.length+1) by omega]
theorem vq {n:Nat}: ∀ (As:List Nat) (M:Nat→Nat→Bool) (j b:Nat) (h:b<As.length),ig n As[b] (M (j+b))∈gA n As M j
 |A::As,M,j,0,_=>Vr
 |A::As,M,j,b+1,h=>by
  have h1:=vq (n:=n) As M (j+1) b (by rw [Vw] at h;omega);rw [show j+1+b=j+(b+1) by omega] at h1;exact Vv _ h1
theorem yV {n:Nat}: ∀ (As:List Nat) (M:Nat→Nat→Bool) (j i:Nat) (h:i<As.length),∃ Rs,(∀ M',(∀ a,a≠j+i→M' a=M a)→(gA n As M' j).Perm (ig n As[i] (M' (j+i))::Rs))∧ ∀ b (hb:b<As.length),b≠i→ig n As[b] (M (j+b))∈Rs
 |A::As,M,j,0,_=>⟨gA n As M (j+1),fun M' h=>by
  have e:gA n As M' (j+1)=gA n As M (j+1):=sx As (j+1) fun a k h1 _ _=>by rw [h a (by omega)]
  rw [gA,e];exact List.Perm.refl _,fun b hb h0=>by
  match b,hb,h0 with
  |b+1,hb,_=>
   have h1:=vq (n:=n) As M (j+1) b (by rw [Vw] at hb;omega);rw [show j+1+b=j+(b+1) by omega] at h1;exact h1⟩
 |A::As,M,j,i+1,h=>by
  obtain ⟨Rs,hR,hM⟩:=yV As M (j+1) i (by rw [Vw] at h;omega);refine ⟨ig n A (M j)::Rs,fun M' hM=> ?_,fun b hb h0=> ?_⟩
  ·have h1:=hR M' fun a ha=>hM a (by omega);rw [gA,hM j (by omega)];rw [show j+1+i=j+(i+1) by omega] at h1;exact (h1.cons _).trans (List.Perm.swap _ _ _)
  ·match b,hb,h0 with
   |0,_,_=>exact Vr
   |b+1,hb,h0=>
    have h1:=hM b (by rw [Vw] at hb;omega) (by omega);rw [show j+1+b=j+(b+1) by omega] at h1;exact Vv _ h1
theorem O5 {n:Nat} (As:List Nat) (M:Nat→Nat→Bool) {i:Nat} (h:i<As.length):ig n As[i] (M i)∈gA n As M 0:=by
 have:=vq (n:=n) As M 0 i h;rwa [VD] at this
theorem vv (l:List Nat) (i:Nat):iT l [] i=decide (i∈l):=by
 rw [V3,iy,decide_eq_true_eq];constructor
 ·rintro ⟨p,h,rfl,_⟩;exact VL h
 ·intro h;obtain ⟨p,hp,rfl⟩:=WM.1 h;exact ⟨p,hp,rfl,XJ⟩
theorem SomeOk.steps {G:Gr} {l:List Nat} (h:SomeOk G l): ∃ lf:Nat→Nat→Bool,lf 0=iT l []∧ ∀ t,t<l.length→tP (aQ G G.length) G.length (lf t)=some (atN (dP G l) t)∧lf (t+1)=fun j=>if j=atN (dP G l) t then false else lf t j:=by
 refine ⟨fun t=>iT l ((cV (cG (aQ G G.length) l)).take t),by simp,fun t ht=> ?_⟩;have htl:t<(cV (cG (aQ G G.length) l)).length:=by rw [h.topo_len];exact ht
 obtain ⟨hp,hpk⟩:=h.sub.pick_at htl;have ha:atN (dP G l) t=l[(cV (cG (aQ G G.length) l))[t]]:=by
  unfold atN;rw [← h.eq,VG,Vo htl];simp [hp]
 rw [ha];refine ⟨hpk,?_⟩;show iT l ((cV (cG (aQ G G.length) l)).take (t+1))=_;rw [Vu htl];exact (h.sub.left hp).symm
theorem SomeOk.count {G:Gr} {l:List Nat} (h:SomeOk G l):mq G.length (iT l [])=l.length:=by
 rw [show iT l []=fC l from funext fun i=>vv l i];exact Hm h.nodup h.lt
theorem Py {G:Gr} {i:Nat} (h:i<G.length):iT (frC G) [] i= !ck G i:=by
 rw [vv];unfold frC;rw [V3,decide_eq_true_eq,Wx,VT];exact ⟨fun h=>h.2,fun h2=>⟨h,h2⟩⟩
end Go.SL
namespace Go.SL
open Go Go.Proofs
attribute [local irreducible] W WL WQ WG WA WX WLI WR WT WC VOp RW thn blk bg scp aS aV bi FnAt FnIn FnP ceP
theorem RGOk.keys {R:List Blk} {L:List En} {G:Gr} (h:RGOk R L G):L.map En.at_=au G:=by
 rw [au,← h.rel,Xl];rfl
theorem Dn (g:Nat) (A:Option Nat) (cap:Nat) (L:List En) (R:List Blk) (w0:World) (hlen:L.length≤1000):
 FnIn Tryz.prog 56 [.pointer (some ⟨g,0,none⟩)] w0 (rgB g A cap L++R) fun v H=> ∃ A' cap',v=sl A' (L.map En.at_).length cap' ∧H= .own A' 35 2 (L.map En.at_).length cap' ((L.map En.at_).flatMap aw)::(rgB g A cap L++R):=by
 refine bE Tryz.func56 rfl Tryz.ntmps56 rfl ?_;refine aI 35 2 ?_;unfold rgB;rw [VK];repeat' (first|refine zZB ?_|refine sM fun _=>?_|refine sC ?_ ?_<;>intro hb<;>try omega|fail)
 refine ay [0] rfl (fun y:Nat × Option Nat × Nat=> [(3,sl y.2.1 y.1 y.2.2),(4,.int .i64 (y.1:Int))]) (fun y=> .own y.2.1 35 2 y.1 y.2.2 (((L.take y.1).map En.at_).flatMap aw):: .box g 113 [sl A L.length cap]:: .own A 200 4 L.length cap (L.flatMap cy)::R) (fun y=>y.1≤L.length) (fun y=>L.length - y.1) (0,none,0) (Vt _) sB (by simp only [Vz,Vp,Vq,WP,Wv,VZ];exact mS) ?_;rintro ⟨i,A3,c3⟩ hi;dsimp only at hi ⊢;by_cases hlt:i<L.length
 ·refine ba (A:=A) pK (by omega) fun gl hA=> ?_;subst hA;have hc:=lI hlt;have hnx:(L.take (i+1)).map En.at_=(L.take i).map En.at_++ [L[i].at_]:=by rw [Vu hlt,Wj];rfl
  generalize L[i]=e at hc hnx;repeat' (first|apply ai;exact rfl;apply aa (j:=i);exact rfl;exact rfl;exact hlt|apply ai;exact rfl;apply aD (ys:=aw e.at_);exact rfl;exact pK;exact hc;exact rfl|apply aG;(iterate 3 exact rfl);exact pK;exact pK;exact rfl;simp [aw,Value.oneCell'];omega;simp only [maxLen];omega;intro g8 c8|refine zZA ?_|refine sM fun _=>?_|refine sC ?_ ?_<;>intro hb<;>try omega|fail)
  all_goals first
   |omega
   | (refine ⟨(i + 1, some g8, c8), hlt, (by dsimp only; omega), sB, sB, ?_⟩
      dsimp only;rw [hnx];simp only [VF,VE,VZ,VB,Vz,Vp,Vq];exact mS)
 ·have e2:i=L.length:=by omega
  subst e2;rw [V1];repeat' (first|refine zZA ?_|refine sM fun _=>?_|refine sC ?_ ?_<;>intro hb<;>try omega|fail)
  all_goals first
   |omega
   |exact bp eIO rfl rfl (H' := .own A3 35 2 L.length c3 ((L.map En.at_).flatMap aw)::(rgB g A cap L++R)) (by unfold rgB;simp only [Vz,Vp,Vq];exact mS) ⟨A3,c3,rfl,rfl⟩
theorem wE (L:List En) (a:Rf):(AK L a= -1∧fD L a=none)∨ ∃ (i:Nat) (h:i<L.length),AK L a=(i:Int)∧fD L a=some L[i]:=by
 unfold AK fD
 cases hf:L.findIdx? (fun e=>decide (e.at_=a)) with
 |none=>
  left
  refine ⟨rfl,?_⟩;rw [Wm] at hf;rw [Yr];exact fun e he=>by simpa using hf e he
 |some i=>
  right
  obtain ⟨h,h1,h2⟩:=V4.1 hf;exact ⟨i,h,rfl,List.find?_eq_some_iff_getElem.2 ⟨h1,i,h,rfl,fun j hj=>by simpa using h2 j hj⟩⟩
theorem MS {L:List En} {i:Nat} {e:En} (h:((L.flatMap cy).drop (0+i*4)).take 4=cy e):(L.flatMap cy)[0+i*4+3]? =some e.uv:=by
 have:=congrArg (fun l=>l[3]?) h;rw [Xn (by decide),Wz] at this;exact this
theorem MT {L:List En} {i:Nat} {e:En} (h:((L.flatMap cy).drop (0+i*4)).take 4=cy e):(L.flatMap cy)[0+i*4+2]? =some e.tv:=by
 have:=congrArg (fun l=>l[2]?) h;rw [Xn (by decide),Wz] at this;exact this
theorem OB (g:Nat) (A:Option Nat) (cap:Nat) (L:List En) (a:Rf) (R:List Blk) (w0:World) (hE: ∀ e∈L,EnOk R e) (hlen:L.length≤1000):
 FnIn Tryz.prog 60 [.pointer (some ⟨g,0,none⟩),bJ a] w0 (rgB g A cap L++R) fun v H=> ∃ A' cap',v=sl A' (bf L a).uses.length cap' ∧H= .own A' 128 6 (bf L a).uses.length cap' ((bf L a).uses.flatMap cw)::(rgB g A cap L++R):=by
 refine bE Tryz.func60 rfl Tryz.ntmps60 rfl ?_;have hI:=fun (H' :List Blk) (hs:MSub (rgB g A cap L) H') (w' :World) (hm:Mem w0 w' H')=>ve g _ cap L a w' (RGm.of hs hm) (by omega);refine aI 128 6 ?_;rcases wE L a with ⟨hidx,hf⟩|⟨i,hlt,hidx,hf⟩
 ·rw [hidx] at hI;have hfd:(bf L a).uses= []:=by rw [bf,hf];rfl
  rw [hfd];unfold rgB;repeat' (first|apply ag (f:=54);exact rfl;exact rfl;exact fun w' hm=>hI _ (by unfold rgB;exact mS) w' hm|refine zZB ?_|refine sM fun _=>?_|refine sC ?_ ?_<;>intro hb<;>try omega|fail)
  all_goals first
   |omega
   |exact bp eIO rfl rfl (H' := .own none 128 6 0 0 []::(rgB g A cap L++R)) (by unfold rgB;simp only [Vz,Vp,Vq];exact mS) ⟨none,0,rfl,rfl⟩
 ·have hfd:bf L a=L[i]:=by rw [bf,hf];rfl
  rw [hidx] at hI;rw [hfd];have hoke:=hE L[i] (VL hlt);have ha:=qw hlt;generalize L[i]=e at hoke ha;refine ba (A:=A) (by unfold rgB;exact pK) (by omega) fun gl hA=> ?_;subst hA;unfold rgB;repeat' (first|apply ag (f:=54);exact rfl;exact rfl;exact fun w' hm=>hI _ (by unfold rgB;exact mS) w' hm|refine zZB ?_|refine sM fun _=>?_|refine sC ?_ ?_<;>intro hb<;>try omega|fail)
  all_goals try omega
  rename_i g3;refine aI 0 0 ?_;refine aI 0 0 ?_
  refine xI (id:=3) (fun|0=>some fun g=> .slice (some ⟨g.2,0,none⟩) 0 0|11=>some fun g=>sl g.1 e.uses.length g.2|_=>none)
   (fun (D:gN) (q:Nat→Gh)=>(bif D 11 then Blk.own (q 11).1 128 6 e.uses.length (q 11).2 (e.uses.flatMap cw) else bif D 0 then .own (some (q 0).2) 128 6 0 0 [] else TY):: .box g3 35 (aw a):: .box g 113 [sl (some gl) L.length cap]:: .own (some gl) 200 4 L.length cap (L.flatMap cy)::R) ?_ ?_ ?_ ?_
  ·kernel_rfl
  ·kernel_rfl
  ·intro γ;exact mS
  intro γ;refine xx rfl rfl rfl (fun D ht=> ?_) ?_
  ·have n10:D 0=false:=ht.not;have n11:D 11=false:=ht.late (j:=11) (f:=60) (by decide+kernel);simp only [gat,put,upd,Nat.reduceEqDiff,Nat.reduceAdd,reduceIte,n10,n11,cond_true,cond_false,Vq,Vp,WO,Xd,Wp,WI];(with_reducible apply dN);exact rfl;intro gs;refine rQ ⟨rfl,(none,gs),rfl,?_⟩;simp only [gat,put,upd,Nat.reduceEqDiff,Nat.reduceAdd,reduceIte,n10,n11,cond_true,cond_false,Vq,Vp,WO,Xd,Wp,WI];exact mS
  repeat' first|apply xy (f:=54);(iterate 3 exact rfl);decide+kernel;exact rfl;intro D ht w hm;exact hI _ (by unfold rgB;exact MSub.drop .hd (MSub.drop .hd mS)) w hm;exact fun _=>rfl|apply CO (d:=21);(iterate 3 exact rfl);intro D ht;apply aa (j:=i);exact rfl;exact rfl;exact hlt;exact fun _=>rfl|apply CO (d:=23);(iterate 3 exact rfl);intro D ht;apply aq;exact rfl;exact pK;exact MS ha;exact fun _=>rfl|refine zZN ?_|refine sM fun _=>?_|refine sC ?_ ?_<;>intro hb<;>try omega|refine sCX ?_ ?_<;>intro hb<;>try omega|fail
  refine xx rfl rfl rfl (fun D ht=> ?_) ?_
  ·have n11:D 11=false:=ht.not;have n10:D 0=true:=ht.early (i:=0) (f:=60) (by decide+kernel);simp only [gat,put,upd,Nat.reduceEqDiff,Nat.reduceAdd,reduceIte,n10,n11,cond_true,cond_false,Vq,Vp,WO,Xd,Wp,WI];(with_reducible apply dA (n' :=0) (c:=0) (A:=some (γ 0).2) (m:=e.uses.length));(iterate 3 exact rfl);exact pK;intro w hm;exact hoke.uses _ w (MSub.use mS hm);exact bh jx _;exact Cr _;have:=hoke.ul;omega;have:=hoke.ul;simp only [maxLen];omega;intro A6 c6 h6;rw [VD,Vq];refine rQ ⟨rfl,(A6,c6),rfl,?_⟩;simp only [gat,put,upd,Nat.reduceEqDiff,Nat.reduceAdd,reduceIte,n10,n11,cond_true,cond_false,Vq,Vp,WO,Xd,Wp,WI];exact mS
  repeat' first|refine zZN ?_|refine sM fun _=>?_|refine sC ?_ ?_<;>intro hb<;>try omega|refine sCX ?_ ?_<;>intro hb<;>try omega|fail
  intro D hD;have n10:=hD 0 (by decide);have n11:=hD 11 (by decide);simp only [gat,put,upd,Nat.reduceEqDiff,Nat.reduceAdd,reduceIte,n10,n11,cond_true,cond_false,Vq,Vp,WO,Xd,Wp,WI];repeat' (first|refine zZB ?_|refine sM fun _=>?_|refine sC ?_ ?_<;>intro hb<;>try omega|fail)
  all_goals exact bp eIO rfl rfl (H' := .own (γ 11).1 128 6 e.uses.length (γ 11).2 (e.uses.flatMap cw)::(rgB g (some gl) cap L++R)) (by unfold rgB;simp only [Vz,Vp,Vq];exact mS) ⟨(γ 11).1,(γ 11).2,rfl,rfl⟩
theorem OC (g:Nat) (A:Option Nat) (cap:Nat) (L:List En) (a:Rf) (R:List Blk) (w0:World) (hE: ∀ e∈L,EnOk R e) (hlen:L.length≤1000):
 FnIn Tryz.prog 62 [.pointer (some ⟨g,0,none⟩),bJ a] w0 (rgB g A cap L++R) fun v H=> ∃ A' cap',v= .tuple #[sl A' (bf L a).tree.length cap',.bool (fD L a).isSome]∧H= .own A' 132 11 (bf L a).tree.length cap' ((bf L a).tree.flatMap bu)::(rgB g A cap L++R):=by
 refine bE Tryz.func62 rfl Tryz.ntmps62 rfl ?_;have hI:=fun (H' :List Blk) (hs:MSub (rgB g A cap L) H') (w' :World) (hm:Mem w0 w' H')=>ve g _ cap L a w' (RGm.of hs hm) (by omega);refine aI 132 11 ?_;rcases wE L a with ⟨hidx,hf⟩|⟨i,hlt,hidx,hf⟩
 ·rw [hidx] at hI;have hfd:(bf L a).tree= []:=by rw [bf,hf];rfl
  rw [hfd,hf];unfold rgB;repeat' (first|apply ag (f:=54);exact rfl;exact rfl;exact fun w' hm=>hI _ (by unfold rgB;exact mS) w' hm|refine zZB ?_|refine sM fun _=>?_|refine sC ?_ ?_<;>intro hb<;>try omega|fail)
  all_goals first
   |omega
   |exact dm eIO rfl rfl rfl (H' := .own none 132 11 0 0 []::(rgB g A cap L++R)) (by unfold rgB;simp only [Vz,Vp,Vq];exact mS) ⟨none,0,rfl,rfl⟩
 ·have hfd:bf L a=L[i]:=by rw [bf,hf];rfl
  rw [hidx] at hI;rw [hfd,hf];have hoke:=hE L[i] (VL hlt);have ha:=qw hlt;generalize L[i]=e at hoke ha;refine ba (A:=A) (by unfold rgB;exact pK) (by omega) fun gl hA=> ?_;subst hA;unfold rgB;repeat' (first|apply ag (f:=54);exact rfl;exact rfl;exact fun w' hm=>hI _ (by unfold rgB;exact mS) w' hm|refine zZB ?_|refine sM fun _=>?_|refine sC ?_ ?_<;>intro hb<;>try omega|fail)
  all_goals try omega
  rename_i g3;refine aI 0 0 ?_;refine aI 0 0 ?_
  refine xI (id:=3) (fun|0=>some fun g=> .slice (some ⟨g.2,0,none⟩) 0 0|11=>some fun g=>sl g.1 e.tree.length g.2|_=>none)
   (fun (D:gN) (q:Nat→Gh)=>(bif D 11 then Blk.own (q 11).1 132 11 e.tree.length (q 11).2 (e.tree.flatMap bu) else bif D 0 then .own (some (q 0).2) 132 11 0 0 [] else TY):: .box g3 35 (aw a):: .box g 113 [sl (some gl) L.length cap]:: .own (some gl) 200 4 L.length cap (L.flatMap cy)::R) ?_ ?_ ?_ ?_
  ·kernel_rfl
  ·kernel_rfl
  ·intro γ;exact mS
  intro γ;refine xx rfl rfl rfl (fun D ht=> ?_) ?_
  ·have n10:D 0=false:=ht.not;have n11:D 11=false:=ht.late (j:=11) (f:=60) (by decide+kernel);simp only [gat,put,upd,Nat.reduceEqDiff,Nat.reduceAdd,reduceIte,n10,n11,cond_true,cond_false,Vq,Vp,WO,Xd,Wp,WI];(with_reducible apply dN);exact rfl;intro gs;refine rQ ⟨rfl,(none,gs),rfl,?_⟩;simp only [gat,put,upd,Nat.reduceEqDiff,Nat.reduceAdd,reduceIte,n10,n11,cond_true,cond_false,Vq,Vp,WO,Xd,Wp,WI];exact mS
  repeat' first|apply xy (f:=54);(iterate 3 exact rfl);decide+kernel;exact rfl;intro D ht w hm;exact hI _ (by unfold rgB;exact MSub.drop .hd (MSub.drop .hd mS)) w hm;exact fun _=>rfl|apply CO (d:=22);(iterate 3 exact rfl);intro D ht;apply aa (j:=i);exact rfl;exact rfl;exact hlt;exact fun _=>rfl|apply CO (d:=24);(iterate 3 exact rfl);intro D ht;apply aq;exact rfl;exact pK;exact MT ha;exact fun _=>rfl|refine zZN ?_|refine sM fun _=>?_|refine sC ?_ ?_<;>intro hb<;>try omega|refine sCX ?_ ?_<;>intro hb<;>try omega|fail
  refine xx rfl rfl rfl (fun D ht=> ?_) ?_
  ·have n11:D 11=false:=ht.not;have n10:D 0=true:=ht.early (i:=0) (f:=60) (by decide+kernel);simp only [gat,put,upd,Nat.reduceEqDiff,Nat.reduceAdd,reduceIte,n10,n11,cond_true,cond_false,Vq,Vp,WO,Xd,Wp,WI];(with_reducible apply dA (n' :=0) (c:=0) (A:=some (γ 0).2) (m:=e.tree.length));(iterate 3 exact rfl);exact pK;intro w hm;exact hoke.tree _ w (MSub.use mS hm);exact bh cR _;exact Cu _;have:=hoke.tl;omega;have:=hoke.tl;simp only [maxLen];omega;intro A6 c6 h6;rw [VD,Vq];refine rQ ⟨rfl,(A6,c6),rfl,?_⟩;simp only [gat,put,upd,Nat.reduceEqDiff,Nat.reduceAdd,reduceIte,n10,n11,cond_true,cond_false,Vq,Vp,WO,Xd,Wp,WI];exact mS
  repeat' first|refine zZN ?_|refine sM fun _=>?_|refine sC ?_ ?_<;>intro hb<;>try omega|refine sCX ?_ ?_<;>intro hb<;>try omega|fail
  intro D hD;have n10:=hD 0 (by decide);have n11:=hD 11 (by decide);simp only [gat,put,upd,Nat.reduceEqDiff,Nat.reduceAdd,reduceIte,n10,n11,cond_true,cond_false,Vq,Vp,WO,Xd,Wp,WI];repeat' (first|refine zZB ?_|refine sM fun _=>?_|refine sC ?_ ?_<;>intro hb<;>try omega|fail)
  all_goals exact dm eIO rfl rfl rfl (H' := .own (γ 11).1 132 11 e.tree.length (γ 11).2 (e.tree.flatMap bu)::(rgB g (some gl) cap L++R)) (by unfold rgB;simp only [Vz,Vp,Vq];exact mS) ⟨(γ 11).1,(γ 11).2,rfl,rfl⟩
end Go.SL
namespace Go.SL
open Go Go.Proofs
attribute [local irreducible] W WL WQ WG WA WX WLI WR WT WC VOp RW thn blk bg scp aS aV bi FnAt FnP ceP
theorem RGOk.look {R:List Blk} {Q:List En} {G:Gr} (h:RGOk R Q G) (c:Rf):(fD Q c).map (fun e=>(e.tree,e.uses))=mP G c:=by
 rw [mP,← h.rel,fD,List.find?_map,Yi]
 rfl
theorem RGOk.fuses {R:List Blk} {Q:List En} {G:Gr} (h:RGOk R Q G) (c:Rf):(bf Q c).uses=aU G c:=by
 rw [aU,← h.look c,bf];cases fD Q c<;>rfl
theorem RGOk.ftree {R:List Blk} {Q:List En} {G:Gr} (h:RGOk R Q G) (c:Rf):(bf Q c).tree=iM G c:=by
 rw [iM,← h.look c,bf];cases fD Q c<;>rfl
theorem RGOk.fis {R:List Blk} {Q:List En} {G:Gr} (h:RGOk R Q G) (c:Rf):(fD Q c).isSome=isG G c:=by
 rw [isG,← h.look c];cases fD Q c<;>rfl
section
variable {R:List Blk} {Q:List En} {G:Gr} (h:RGOk R Q G) (hl:G.length≤900) (gr:Nat) (Ar:Option Nat) (cr:Nat) {H:List Blk} (hs:MSub (rgB gr Ar cr Q++R) H) (w0:World)
include h hl hs
theorem RGOk.uses_any (c:Rf):FnIn Tryz.prog 60 [.pointer (some ⟨gr,0,none⟩),bJ c] w0 H fun v H' => ∃ A cap,v=sl A (aU G c).length cap∧H' = .own A 128 6 (aU G c).length cap ((aU G c).flatMap cw)::H:=by
 refine nk (φ:=fun v A cap=>v=sl A (aU G c).length cap) (fun F=> ?_) hs;have h1:=OB gr Ar cr Q c (R++F) w0 (fun e he=>(h.en e he).sub (MSub.appL R F)) (by rw [h.len];omega);rw [h.fuses] at h1;rw [VC];exact h1
theorem RGOk.tree_any (c:Rf):FnIn Tryz.prog 62 [.pointer (some ⟨gr,0,none⟩),bJ c] w0 H fun v H' => ∃ A cap,v= .tuple #[sl A (iM G c).length cap,.bool (isG G c)]∧H' = .own A 132 11 (iM G c).length cap ((iM G c).flatMap bu)::H:=by
 refine nk (φ:=fun v A cap=>v= .tuple #[sl A (iM G c).length cap,.bool (isG G c)]) (fun F=> ?_) hs;have h1:=OC gr Ar cr Q c (R++F) w0 (fun e he=>(h.en e he).sub (MSub.appL R F)) (by rw [h.len];omega);rw [h.ftree,h.fis] at h1;rw [VC];exact h1
theorem RGOk.formulas_any:FnIn Tryz.prog 56 [.pointer (some ⟨gr,0,none⟩)] w0 H fun v H' => ∃ A cap,v=sl A (au G).length cap∧H' = .own A 35 2 (au G).length cap ((au G).flatMap aw)::H:=by
 refine nk (φ:=fun v A cap=>v=sl A (au G).length cap) (fun F=> ?_) hs;have h1:=Dn gr Ar cr Q (R++F) w0 (by rw [h.len];omega);rw [h.keys] at h1;rw [VC];exact h1
variable (hG:GrOk G)
include hG
theorem RGOk.edges_any:FnIn Tryz.prog 58 [.pointer (some ⟨gr,0,none⟩)] w0 H fun v H' => ∃ A cap,v=sl A (cF G).length cap∧H' = .own A 119 4 (cF G).length cap ((cF G).flatMap cM)::H:=by
 refine nk (φ:=fun v A cap=>v=sl A (cF G).length cap) (fun F=> ?_) hs;have h1:=L6 gr Ar cr Q (R++F) w0 (fun e he=>(h.en e he).sub (MSub.appL R F)) (by rw [h.len];omega);rw [h.edges hG] at h1;rw [VC];exact h1
end
theorem Gp.subB (x:Gp):MSub (rgB x.gr x.A x.cap x.Q++x.R) x.H:=MSub.appR _ _
section
variable (x:Gp) (G:Gr) (h:x.ok G) {H:List Blk} (hs:MSub x.H H) (w0:World)
include h hs
theorem Gp.treeA (c:Rf):FnIn Tryz.prog 61 [x.pa,bJ c] w0 H fun v H' => ∃ A cap,v= .tuple #[sl A (iM G c).length cap,.bool (isG G c)]∧H' = .own A 132 11 (iM G c).length cap ((iM G c).flatMap bu)::H:=h.a.tree_any x.gg x.gm (MSub.trans x.subA hs) w0 c
variable (hl:G.length≤900)
include hl
theorem Gp.usesB (c:Rf):FnIn Tryz.prog 60 [x.pb,bJ c] w0 H fun v H' => ∃ A cap,v=sl A (aU G c).length cap∧H' = .own A 128 6 (aU G c).length cap ((aU G c).flatMap cw)::H:=h.b.uses_any hl x.gr x.A x.cap (MSub.trans x.subB hs) w0 c
theorem Gp.treeB (c:Rf):FnIn Tryz.prog 62 [x.pb,bJ c] w0 H fun v H' => ∃ A cap,v= .tuple #[sl A (iM G c).length cap,.bool (isG G c)]∧H' = .own A 132 11 (iM G c).length cap ((iM G c).flatMap bu)::H:=h.b.tree_any hl x.gr x.A x.cap (MSub.trans x.subB hs) w0 c
theorem Gp.formulasB:FnIn Tryz.prog 56 [x.pb] w0 H fun v H' => ∃ A cap,v=sl A (au G).length cap∧H' = .own A 35 2 (au G).length cap ((au G).flatMap aw)::H:=h.b.formulas_any hl x.gr x.A x.cap (MSub.trans x.subB hs) w0
theorem Gp.edgesB:FnIn Tryz.prog 58 [x.pb] w0 H fun v H' => ∃ A cap,v=sl A (cF G).length cap∧H' = .own A 119 4 (cF G).length cap ((cF G).flatMap cM)::H:=h.b.edges_any hl x.gr x.A x.cap (MSub.trans x.subB hs) w0 h.g
end
attribute [local irreducible] FnIn WE
def jd (n A:Nat):Value:= .slice (some ⟨A,0,none⟩) n n
def yB (f:Nat→Bool) (k:Nat):Nat→Bool:=fun j=>decide (j<k) && f j
theorem Ma (f:Nat→Bool) (n k:Nat):aH n (fun j=>if j=k then f k else yB f k j)=aH n (yB f (k+1)):=aO fun j _=>by
 unfold yB;by_cases e:j=k
 ·subst e;simp
 ·rw [if_neg e];congr 1;rw [decide_eq_decide];omega
theorem L9 (f:Nat→Bool) (n:Nat):aH n (fun _=>false)=aH n (yB f 0):=aO fun j _=>by simp [yB]
theorem Mb (f:Nat→Bool) (n:Nat):aH n (yB f n)=aH n f:=aO fun j h=>by simp [yB,h]
theorem QW {R:List Blk} {L:List En} {G:Gr} (h:RGOk R L G) (hG:GrOk G) {i k:Nat} (hi:i<L.length) (hk:k<L.length):kJ G i k=bH L[i].uses (dU L[k].at_.col L[k].at_.row):=by
 have hki: ∀ j (hj:j<L.length),(au G)[j]? =some L[j].at_:=fun j hj=>by
  rw [← h.keys,VG,Vo hj];rfl
 have hu:aU G L[i].at_=L[i].uses:=by
  have hm:L[i].abs∈G:=by rw [← h.rel];exact VM.2 ⟨L[i],VL hi,rfl⟩
  exact qG hG.sort hm
 unfold kJ;rw [hki i hi,hki k hk];simp only;rw [hu]
def rm (G:Gr) (v a:Nat):Nat→Nat→Bool:=fun i k=>if i<a then aQ G (v+1) i k else aQ G v i k
def pZ (G:Gr) (v i k:Nat):Nat→Bool:=fun j=>if j<k then aQ G (v+1) i j else aQ G v i j
theorem P6 (G:Gr) (v k:Nat):aQ G (v+1) v k=aQ G v v k:=by
 rw [aQ];cases aQ G v v k<;>simp
theorem O3 (G:Gr) (v a k:Nat):rm G v a v k=aQ G v v k:=by
 unfold rm;split
 ·exact P6 G v k
 ·rfl
theorem LQ {G:Gr} {v i n k:Nat} (h:aQ G v i v=true):aH n (fun j=>if j=k then (aQ G v i k||aQ G v v k) else pZ G v i k j)=aH n (pZ G v i (k+1)):=aO fun j _=>by
 unfold pZ;by_cases e:j=k
 ·subst e;rw [if_pos rfl,if_pos (by omega),aQ,h,Wp]
 ·rw [if_neg e];by_cases h1:j<k
  ·rw [if_pos h1,if_pos (by omega)]
  ·rw [if_neg h1,if_neg (by omega)]
theorem Ox {G:Gr} {v i k:Nat} (h:aQ G v i v=true):pZ G v i k v=true:=by
 unfold pZ;split
 ·rw [aQ,h,Y3]
 ·exact h
theorem Kn (G:Gr) (v i k:Nat):pZ G v i k k=aQ G v i k:=by unfold pZ;rw [if_neg (by omega)]
theorem LP (G:Gr) (v i n:Nat):aH n (pZ G v i 0)=aH n (aQ G v i):=aO fun j _=>by unfold pZ;rw [if_neg (by omega)]
theorem LR (G:Gr) (v i n:Nat):aH n (pZ G v i n)=aH n (aQ G (v+1) i):=aO fun j h=>by unfold pZ;rw [if_pos h]
theorem Un (g:Nat) (A:Option Nat) (cap:Nat) (L:List En) (G:Gr) (R:List Blk) (w0:World) (hR:RGOk R L G) (hG:GrOk G) (hlen:L.length≤1000):
 FnIn Tryz.prog 44 [.pointer (some ⟨g,0,none⟩)] w0 (rgB g A cap L++R) fun v H=> ∃ A' c' As,(0<L.length→ ∃ g',A' =some g')∧As.length=L.length∧v=sl A' L.length c' ∧H= .own A' 95 1 L.length c' (As.map (jd L.length))::(gA L.length As (aQ G L.length) 0++(rgB g A cap L++R)):=by
 refine bE Tryz.func44 rfl Tryz.ntmps44 rfl ?_;have htch:=fun i k hi hk=>QW (i:=i) (k:=k) hR hG hi hk;refine aI 95 1 ?_;unfold rgB;simp only [Vz,Vp,Vq];generalize hn:L.length=n at hlen;repeat' (first|refine zZB ?_|refine sM fun _=>?_|refine sC ?_ ?_<;>intro hb<;>try omega|fail)
 refine ay [0] rfl (fun y:Nat × List Nat × List Blk × Option Nat × Nat=> [(3,sl y.2.2.2.1 y.2.1.length y.2.2.2.2),(4,.int .i64 (y.1:Int))]) (fun y=> .own y.2.2.2.1 95 1 y.2.1.length y.2.2.2.2 (y.2.1.map (jd n)):: .box g 113 [sl A n cap]:: .own A 200 4 n cap (L.flatMap cy)::y.2.2.1) (fun y=>y.1≤n∧y.2.1.length=y.1∧(gA n y.2.1 (kJ G) 0++R).Perm y.2.2.1) (fun y=>n - y.1) (0,[],R,none,0) ⟨Vt _,rfl,List.Perm.refl _⟩ sB mS ?_;rintro ⟨i,As,Z,A3,c3⟩ ⟨hi,hAl,hZ⟩;dsimp only at hi hAl hZ ⊢;have hRZ:MSub R Z:=MSub.trans (MSub.appR R _) (MSub.of_perm hZ.symm);by_cases hlt:i<n
 ·refine ba (A:=A) pK (by omega) fun gl hA=> ?_;subst hA;repeat' (first|apply dK (c:=n);(iterate 3 exact rfl);omega;simp only [maxLen];omega;intro g9|refine zZA ?_|refine sM fun _=>?_|refine sC ?_ ?_<;>intro hb<;>try omega|fail)
  all_goals try omega
  refine kI (.own (some g9) 4 1 n n (aH n (yB (kJ G i) 0)):: .own A3 95 1 As.length c3 (As.map (jd n)):: .box g 113 [sl (some gl) n cap]:: .own (some gl) 200 4 n cap (L.flatMap cy)::Z) (by rw [← L9,← jX];exact mS) ?_;refine ay [0,3,4,5] rfl (fun k:Nat=> [(6,.int .i64 (k:Int))]) (fun k=> .own (some g9) 4 1 n n (aH n (yB (kJ G i) k)):: .own A3 95 1 As.length c3 (As.map (jd n)):: .box g 113 [sl (some gl) n cap]:: .own (some gl) 200 4 n cap (L.flatMap cy)::Z) (fun k=>k≤n) (fun k=>n - k) 0 (Vt _) sB mS ?_;rintro k hk;by_cases hlk:k<n
  ·have hli:i<L.length:=by omega
   have hlk' :k<L.length:=by omega
   have htc:=htch i k hli hlk';have hai:=qw hli;have hck:=lI hlk';have hoke:=hR.en L[i] (VL hli);have hT:=fun (r:Rct) (H' :List Blk) (hs:MSub R H') (w' :World) (hm:Mem w0 w' H')=>wq L[i] r w' (hoke.uses _ w' (hs.use hm)) (by have:=hoke.ul;omega);have hTk:=hT (dU L[k].at_.col L[k].at_.row);rw [← htc] at hTk;generalize L[i]=e at hai hoke hTk;generalize L[k]=d at hck hTk;have hset:=fk (n:=n) (f:=yB (kJ G i) k) (k:=k) (v:=kJ G i k);rw [Ma] at hset;generalize hty:kJ G i k=ty at hTk hset;repeat' (first|refine zZA ?_|refine sM fun _=>?_|refine sC ?_ ?_<;>intro hb<;>try omega|fail)
   all_goals try omega
   refine kW (id:=9) 20 (.own (some g9) 4 1 n n (aH n (yB (kJ G i) (k+1))):: .own A3 95 1 As.length c3 (As.map (jd n)):: .box g 113 [sl (some gl) n cap]:: .own (some gl) 200 4 n cap (L.flatMap cy)::Z) (by kernel_rfl) (by kernel_rfl) rfl ?_;repeat' (first|apply fU (f:=60) (d:=41);exact rfl;decide+kernel;exact rfl;apply aa (j:=i);exact rfl;exact rfl;exact hlt|apply fU (f:=60) (d:=42);exact rfl;decide+kernel;exact rfl;apply aD (ys:=cy e);exact rfl;exact pK;exact hai;exact rfl|apply fU (f:=60) (d:=48);exact rfl;decide+kernel;exact rfl;apply aa (j:=k);exact rfl;exact rfl;exact hlk|apply fU (f:=60) (d:=50);exact rfl;decide+kernel;exact rfl;apply aD (ys:=aw d.at_);exact rfl;exact pK;exact hck;exact rfl|apply fU (f:=60) (d:=53);exact rfl;decide+kernel;exact rfl;apply aa (j:=k);exact rfl;exact rfl;exact hlk|apply Bg (f' :=106) (f:=60);exact rfl;decide+kernel;exact rfl;exact rfl;intro w' hm;exact ij _ w'|apply Bg (f' :=105) (f:=60);exact rfl;decide+kernel;exact rfl;exact rfl;intro w' hm;exact hTk _ (MSub.trans hRZ mS) w' hm|apply kr (g:=g9);exact rfl;exact rfl;exact pK;exact rfl;rw [eM];omega;rw [hset];exact MSub.refl _|refine zZO ?_|refine sM fun _=>?_|refine sC ?_ ?_<;>intro hb<;>try omega|fail)
   repeat' first|refine zZA ?_|refine sM fun _=>?_|refine sC ?_ ?_<;>intro hb<;>try omega|fail
   all_goals first
    |omega
    |refine ⟨k+1,hlk,by omega,by exact sB,by exact sB,by exact mS⟩;done
  ·have hk2:k=n:=by omega
   subst hk2;rw [Mb];have hAn:(As++ [g9]).length=As.length+1:=by simp
   repeat' first|apply dB;(iterate 3 exact rfl);(repeat first|exact .hd|apply Sel.tl|apply In.tl);intro w hm;exact hm.cells_own (by (repeat first|exact .hd|apply Sel.tl|apply In.tl));exact rfl;simp [Value.oneCell',sl];omega;simp only [maxLen];omega;intro A2 cap2 hA2|refine zZA ?_|refine sM fun _=>?_|refine sC ?_ ?_<;>intro hb<;>try omega|fail
   all_goals first
    |omega
    | (refine ⟨(i + 1, As ++ [g9], ig k g9 (kJ G i) :: Z, A2, cap2), ⟨hlt, by dsimp only; omega, ?_⟩, by dsimp only; omega, ?_, by exact sB, ?_⟩
       ·dsimp only;rw [BS,hAl,VD,VC];exact XI.trans (hZ.cons _)
       ·dsimp only;rw [hAn];exact sB
       ·dsimp only;rw [hAn,List.map_append];exact mS)
 ·have hi2:i=n:=by omega
  subst hi2;repeat' (first|refine zZA ?_|refine sM fun _=>?_|refine sC ?_ ?_<;>intro hb<;>try omega|fail)
  all_goals try omega
  rw [hAl];refine ay [0,3] rfl (fun y:Nat × List Blk=> [(7,.int .i64 (y.1:Int))]) (fun y=> .own A3 95 1 i c3 (As.map (jd i)):: .box g 113 [sl A i cap]:: .own A 200 4 i cap (L.flatMap cy)::y.2) (fun y=>y.1≤i∧(gA i As (aQ G y.1) 0++R).Perm y.2) (fun y=>i - y.1) (0,Z) ⟨Vt _,hZ⟩ sB mS ?_;clear hZ hRZ;rintro ⟨v,Z⟩ ⟨hv,hZ⟩;dsimp only at hv hZ ⊢;by_cases hlv:v<i
  ·repeat' first|refine zZA ?_|refine sM fun _=>?_|refine sC ?_ ?_<;>intro hb<;>try omega|fail
   all_goals try omega
   refine ay [0,3,7] rfl (fun y:Nat × List Blk=> [(8,.int .i64 (y.1:Int))]) (fun y=> .own A3 95 1 i c3 (As.map (jd i)):: .box g 113 [sl A i cap]:: .own A 200 4 i cap (L.flatMap cy)::y.2) (fun y=>y.1≤i∧(gA i As (rm G v y.1) 0++R).Perm y.2) (fun y=>i - y.1) (0,Z) ⟨Vt _,by rw [show rm G v 0=aQ G v from funext fun a=>funext fun b=>by simp [rm]];exact hZ⟩ sB mS ?_;clear hZ;rintro ⟨a,Z⟩ ⟨ha,hZ⟩;dsimp only at ha hZ ⊢;by_cases hla:a<i
   ·refine ba (A:=A3) pK (by omega) fun g3 hA=> ?_;subst hA;have haA:a<As.length:=by omega
    have hvA:v<As.length:=by omega
    obtain ⟨Rs,hRs,hRm⟩:=yV (n:=i) As (rm G v a) 0 a haA;rw [VD] at hRs;have hZ2:Z.Perm (ig i As[a] (rm G v a a)::(Rs++R)):=hZ.symm.trans ((hRs _ fun _ _=>rfl).append_right R);have hra:(As.map (jd i))[0+a*1]? =some (jd i As[a]):=by rw [VD,Wd,VG,Vo haA];rfl
    have hrv:(As.map (jd i))[0+v*1]? =some (jd i As[v]):=by rw [VD,Wd,VG,Vo hvA];rfl
    have hmid:rm G v a a=aQ G v a:=by funext k;unfold rm;rw [if_neg (by omega)]
    rw [hmid] at hZ2;have hvr:v≠a→ig i As[v] (rm G v a v)∈Rs++R:=fun hne=>by
     have h1:=hRm v hvA hne;rw [VD] at h1;exact V5 _ h1
    have hnew:(gA i As (rm G v (a+1)) 0++R).Perm (ig i As[a] (aQ G (v+1) a)::(Rs++R)):=by
     have h1:=(hRs (rm G v (a+1)) fun b hb=>by funext k;unfold rm;by_cases h:b<a<;>simp [h,show b<a+1↔b<a by omega]).append_right R;rwa [show rm G v (a+1) a=aQ G (v+1) a from by funext k;unfold rm;rw [if_pos (by omega)]] at h1
    refine kI (ig i As[a] (aQ G v a):: .own (some g3) 95 1 i c3 (As.map (jd i)):: .box g 113 [sl A i cap]:: .own A 200 4 i cap (L.flatMap cy)::(Rs++R)) (MSub.trans (by exact mS:MSub _ (.own (some g3) 95 1 i c3 (As.map (jd i)):: .box g 113 [sl A i cap]:: .own A 200 4 i cap (L.flatMap cy)::ig i As[a] (aQ G v a)::(Rs++R))) (MSub.of_perm (((hZ2.cons _).cons _).cons _))) ?_;clear hZ hZ2 hRs hRm hmid;generalize Rs++R=Z2 at hvr hnew
    cases hva:aQ G v a v with
    |false=>
      have hsame:aH i (aQ G v a)=aH i (aQ G (v+1) a):=aO fun k _=>by rw [aQ,hva,WI,Bool.or_false]
      have hcv:=bV (f:=aQ G v a) hlv;rw [hva] at hcv;unfold ig;repeat' (first|refine zZA ?_|refine sM fun _=>?_|refine sC ?_ ?_<;>intro hb<;>try omega|fail)
      all_goals try omega
      refine ay [0,3,7,8] rfl (fun _:Unit=> [(9,.int .i64 0)]) (fun _=> .own (some As[a]) 4 1 i i (aH i (aQ G v a)):: .own (some g3) 95 1 i c3 (As.map (jd i)):: .box g 113 [sl A i cap]:: .own A 200 4 i cap (L.flatMap cy)::Z2) (fun _=>True) (fun _=>0) () trivial sB mS ?_;rintro ⟨⟩ _;repeat' (first|apply ai (d:=77);exact rfl;apply aa (j:=a);exact rfl;exact rfl;omega|apply ai (d:=78);exact rfl;apply aq;exact rfl;exact pK;exact hra|apply ai (d:=80);exact rfl;apply aa (j:=v);exact rfl;exact rfl;exact hlv|apply ai (d:=81);exact rfl;apply aq;exact rfl;exact pK;exact hcv|refine zZA ?_|refine sM fun _=>?_|refine sC ?_ ?_<;>intro hb<;>try omega|fail)
      all_goals first
       |omega
       | (refine ⟨(a + 1, .own (some As[a]) 4 1 i i (aH i (aQ G v a)) :: Z2), ⟨hla, ?_⟩, by dsimp only; omega, by exact sB, by exact sB, by exact mS⟩
          dsimp only;rw [hsame];exact hnew)
    |true=>
      unfold ig;rw [← LP];repeat' (first|refine zZA ?_|refine sM fun _=>?_|refine sC ?_ ?_<;>intro hb<;>try omega|fail)
      all_goals try omega
      refine ay [0,3,7,8] rfl (fun k:Nat=> [(9,.int .i64 (k:Int))]) (fun k=> .own (some As[a]) 4 1 i i (aH i (pZ G v a k)):: .own (some g3) 95 1 i c3 (As.map (jd i)):: .box g 113 [sl A i cap]:: .own A 200 4 i cap (L.flatMap cy)::Z2) (fun k=>k≤i) (fun k=>i - k) 0 (Vt _) sB mS ?_;rintro k hk;by_cases hlk:k<i
      ·have hcv:=bV (f:=pZ G v a k) hlv;rw [Ox hva] at hcv;have hck:=bV (f:=pZ G v a k) hlk;rw [Kn] at hck;have hset:=fk (n:=i) (f:=pZ G v a k) (k:=k) (v:=aQ G v a k||aQ G v v k);rw [LQ hva] at hset;obtain ⟨fv,hfv,hin⟩: ∃ fv:Nat→Bool,fv k=aQ G v v k∧In (.own (some As[v]) 4 1 i i (aH i fv)) (.own (some As[a]) 4 1 i i (aH i (pZ G v a k)):: .own (some g3) 95 1 i c3 (As.map (jd i)):: .box g 113 [sl A i cap]:: .own A 200 4 i cap (L.flatMap cy)::Z2):=by
        by_cases e:v=a
        ·subst e;exact ⟨_,Kn G v v k,.hd⟩
        ·exact ⟨_,O3 G v a k,.tl (.tl (.tl (.tl (In.of_mem (hvr e)))))⟩
       have hfg:=bV (f:=fv) hlk;rw [hfv] at hfg;generalize aQ G v v k=q at hfg hset;generalize aQ G v a k=p at hck hset;repeat' (first|apply ai (d:=77);exact rfl;apply aa (j:=a);exact rfl;exact rfl;omega|apply ai (d:=78);exact rfl;apply aq;exact rfl;exact pK;exact hra|apply ai (d:=80);exact rfl;apply aa (j:=v);exact rfl;exact rfl;exact hlv|apply ai (d:=81);exact rfl;apply aq;exact rfl;exact pK;exact hcv|refine zZA ?_|refine sM fun _=>?_|refine sC ?_ ?_<;>intro hb<;>try omega|fail)
       all_goals try omega
       refine kW (id:=20) 22 (.own (some As[a]) 4 1 i i (aH i (pZ G v a (k+1))):: .own (some g3) 95 1 i c3 (As.map (jd i)):: .box g 113 [sl A i cap]:: .own A 200 4 i cap (L.flatMap cy)::Z2) (by kernel_rfl) (by kernel_rfl) rfl ?_;cases p
       ·rw [Bool.false_or] at hset;repeat' (first|apply fU (f:=60) (d:=87);exact rfl;decide+kernel;exact rfl;apply aa (j:=a);exact rfl;exact rfl;omega|apply fU (f:=60) (d:=88);exact rfl;decide+kernel;exact rfl;apply aq;exact rfl;exact pK;exact hra|apply fU (f:=60) (d:=92);exact rfl;decide+kernel;exact rfl;apply aa (j:=a);exact rfl;exact rfl;omega|apply fU (f:=60) (d:=93);exact rfl;decide+kernel;exact rfl;apply aq;exact rfl;exact pK;exact hra|apply fU (f:=60) (d:=95);exact rfl;decide+kernel;exact rfl;apply aa (j:=k);exact rfl;exact rfl;exact hlk|apply fU (f:=60) (d:=96);exact rfl;decide+kernel;exact rfl;apply aq;exact rfl;exact pK;exact hck|apply xF (f:=60);(iterate 3 exact rfl);decide+kernel;exact rfl;apply NK;exact rfl|apply xF (f:=60) (d:=100);(iterate 3 exact rfl);decide+kernel;exact rfl;apply aa (j:=v);exact rfl;exact rfl;omega|apply xF (f:=60) (d:=101);(iterate 3 exact rfl);decide+kernel;exact rfl;apply aq;exact rfl;exact pK;exact hrv|apply xF (f:=60) (d:=103);(iterate 3 exact rfl);decide+kernel;exact rfl;apply aa (j:=k);exact rfl;exact rfl;exact hlk|apply xF (f:=60) (d:=104);(iterate 3 exact rfl);decide+kernel;exact rfl;apply aq;exact rfl;exact hin;exact hfg|apply fU (f:=60) (d:=106);exact rfl;decide+kernel;exact rfl;apply aa (j:=k);exact rfl;exact rfl;exact hlk|apply kr (g:=As[a]);exact rfl;exact rfl;exact pK;exact rfl;rw [eM];omega;rw [hset];exact MSub.refl _|refine zZO ?_|refine sM fun _=>?_|refine sC ?_ ?_<;>intro hb<;>try omega|fail)
        repeat' first|refine zZA ?_|refine sM fun _=>?_|refine sC ?_ ?_<;>intro hb<;>try omega|fail
        all_goals first
         |omega
         |refine ⟨k+1,hlk,by omega,by exact sB,by exact sB,by exact mS⟩;done
       ·rw [Y3] at hset;repeat' (first|apply fU (f:=60) (d:=87);exact rfl;decide+kernel;exact rfl;apply aa (j:=a);exact rfl;exact rfl;omega|apply fU (f:=60) (d:=88);exact rfl;decide+kernel;exact rfl;apply aq;exact rfl;exact pK;exact hra|apply fU (f:=60) (d:=92);exact rfl;decide+kernel;exact rfl;apply aa (j:=a);exact rfl;exact rfl;omega|apply fU (f:=60) (d:=93);exact rfl;decide+kernel;exact rfl;apply aq;exact rfl;exact pK;exact hra|apply fU (f:=60) (d:=95);exact rfl;decide+kernel;exact rfl;apply aa (j:=k);exact rfl;exact rfl;exact hlk|apply fU (f:=60) (d:=96);exact rfl;decide+kernel;exact rfl;apply aq;exact rfl;exact pK;exact hck|apply Qz;(iterate 5 exact rfl)|apply fU (f:=60) (d:=106);exact rfl;decide+kernel;exact rfl;apply aa (j:=k);exact rfl;exact rfl;exact hlk|apply kr (g:=As[a]);exact rfl;exact rfl;exact pK;exact rfl;rw [eM];omega;rw [hset];exact MSub.refl _|refine zZO ?_|refine sM fun _=>?_|refine sC ?_ ?_<;>intro hb<;>try omega|fail)
        repeat' first|refine zZA ?_|refine sM fun _=>?_|refine sC ?_ ?_<;>intro hb<;>try omega|fail
        all_goals first
         |omega
         |refine ⟨k+1,hlk,by omega,by exact sB,by exact sB,by exact mS⟩;done
      ·have hk2:k=i:=by omega
       subst hk2;rw [LR];repeat' (first|refine zZA ?_|refine sM fun _=>?_|refine sC ?_ ?_<;>intro hb<;>try omega|fail)
       all_goals first
        |omega
        |refine ⟨(a+1,.own (some As[a]) 4 1 k k (aH k (aQ G (v+1) a))::Z2),⟨hla,hnew⟩,by dsimp only;omega,by exact sB,by exact sB,by exact mS⟩;done
   ·have ha2:a=i:=by omega
    subst ha2;rw [sx As 0 (M' :=aQ G (v+1)) fun b k _ h1 _=>by unfold rm;rw [if_pos (by omega)]] at hZ;repeat' (first|refine zZA ?_|refine sM fun _=>?_|refine sC ?_ ?_<;>intro hb<;>try omega|fail)
    all_goals first
     |omega
     |refine ⟨(v+1,Z),⟨hlv,hZ⟩,by dsimp only;omega,by exact sB,by exact sB,by exact mS⟩;done
  ·have hv2:v=i:=by omega
   subst hv2;have hfin: ∀ (b1 b2 b3:Blk),MSub (b1::(gA v As (aQ G v) 0++(b2::b3::R))) (b1::b2::b3::Z):=fun b1 b2 b3=>by
    have h1:(b1::b2::b3::Z).Perm (b1::(gA v As (aQ G v) 0++(b2::b3::R))):=by
     refine List.Perm.cons b1 (((hZ.symm.cons b3).cons b2).trans ?_);exact ((XI (a:=b3) (l₁:=gA v As (aQ G v) 0) (l₂:=R)).symm.cons b2).trans XI.symm
    first|exact MSub.of_perm h1|exact MSub.of_perm h1.symm
   rcases Xc v with h0|h0
   ·repeat' first|refine zZA ?_|refine sM fun _=>?_|refine sC ?_ ?_<;>intro hb<;>try omega|fail
    all_goals first
     |omega
     |exact bp eIO rfl rfl (hfin _ _ _) ⟨A3,c3,As,fun h=>absurd h (by omega),hAl,rfl,rfl⟩
   ·refine ba (A:=A3) pK h0 fun g3 hA=> ?_;subst hA;repeat' (first|refine zZA ?_|refine sM fun _=>?_|refine sC ?_ ?_<;>intro hb<;>try omega|fail)
    all_goals first
     |omega
     |exact bp eIO rfl rfl (hfin _ _ _) ⟨some g3,c3,As,fun _=>⟨g3,rfl⟩,hAl,rfl,rfl⟩
theorem KZ (g:Nat) (A:Option Nat) (cap:Nat) (L:List En) (G:Gr) (R:List Blk) (w0:World) (hR:RGOk R L G) (hG:GrOk G) (hlen:L.length≤1000):
 FnIn Tryz.prog 44 [.pointer (some ⟨g,0,none⟩)] w0 (rgB g A cap L++R) fun v H=> ∃ A' c' As,(0<L.length→ ∃ g',A' =some g')∧As.length=L.length∧v=sl A' L.length c' ∧H= .own A' 95 1 L.length c' (As.map (jd L.length))::(rgB g A cap L++(R++gA L.length As (aQ G L.length) 0)):=by
 refine (Un g A cap L G R w0 hR hG hlen).re ?_;rintro v H ⟨A',c',As,h1,h2,rfl,rfl⟩;refine ⟨_,?_,A',c',As,h1,h2,rfl,rfl⟩;have h:(.own A' 95 1 L.length c' (As.map (jd L.length))::(rgB g A cap L++(R++gA L.length As (aQ G L.length) 0))).Perm (.own A' 95 1 L.length c' (As.map (jd L.length))::(gA L.length As (aQ G L.length) 0++(rgB g A cap L++R))):=by
  refine List.Perm.cons _ ?_;rw [← VC];exact VV
 first|exact MSub.of_perm h|exact MSub.of_perm h.symm
end Go.SL
namespace Go.SL
open Go Go.Proofs
attribute [local irreducible] W WL WQ WG WA WX WLI WR WT WC VOp RW thn blk bg scp aS aV bi FnAt FnIn FnP ceP
theorem OK {xs:List Value} {L:List Rf} {i:Nat} (h:i<L.length) (hx:xs.length=i*2):
 ∃ ys:List Value,ys.length=(i+1)*2∧(xs++(L.drop i).flatMap aw).take (0+i*2)++aw ⟨0,0⟩++(xs++(L.drop i).flatMap aw).drop (0+i*2+2)=ys++(L.drop (i+1)).flatMap aw:=by
 refine ⟨xs++aw ⟨0,0⟩,by simp [aw,hx];omega,?_⟩;rw [Vy h,VE];have e1:(xs++(aw L[i]++(L.drop (i+1)).flatMap aw)).take (0+i*2)=xs:=by
  rw [VD,← hx,YZ]
  rfl
 have e2:(xs++(aw L[i]++(L.drop (i+1)).flatMap aw)).drop (0+i*2+2)=(L.drop (i+1)).flatMap aw:=by
  rw [← VC,List.drop_left'];simp [aw,hx]
 rw [e1,e2]
theorem SE (x:Gp) (G:Gr) (h:x.ok G) (hl:G.length≤900) {H:List Blk} (hH:MSub x.H H) (w0:World):
 FnIn Tryz.prog 17 [.agg #[x.pa,x.pb]] w0 H fun v H' =>v= .bool true∧H' =H:=by
 refine bE Tryz.func17 rfl Tryz.ntmps17 rfl ?_;have hF:=fun (H:List Blk) (hs:MSub x.H H)=>x.formulas G h hs w0 hl;have hE:=fun (H:List Blk) (hs:MSub x.H H)=>x.edges G h hs w0 hl;have hF2:=fun (H:List Blk) (hs:MSub x.H H)=>x.formulasB G h hs w0 hl;have hE2:=fun (H:List Blk) (hs:MSub x.H H)=>x.edgesB G h hs w0 hl;have hU:=fun (c:Rf) (H:List Blk) (hs:MSub x.H H)=>x.usesA G h hs w0 c;have hU2:=fun (c:Rf) (H:List Blk) (hs:MSub x.H H)=>x.usesB G h hs w0 hl c;have hT:=fun (c:Rf) (H:List Blk) (hs:MSub x.H H)=>x.treeA G h hs w0 c;have hT2:=fun (c:Rf) (H:List Blk) (hs:MSub x.H H)=>x.treeB G h hs w0 hl c;have hul:=fun c=>Br h.g c;have htl:=fun c=>Ly h.g c;have hkl:(au G).length≤900:=by rw [au,VK];exact hl
 have hel:(cF G).length≤1000000:=by
  refine VR (zE G) ?_;exact VR (Nat.mul_le_mul hl hl) (by decide)
 generalize au G=K at hF hF2 hkl;generalize cF G=P at hE hE2 hel;repeat' (first|refine zZB ?_|refine sM fun _=>?_|refine sC ?_ ?_<;>intro hb<;>try omega|fail)
 rename_i g1;refine fa (id:=1) [2,5] [] [.box g1 28 [x.pa,x.pb]] (by kernel_rfl) (by kernel_rfl) (by kernel_rfl) (MSub.pick .hd (MSub.nil _)) ?_;repeat' (first|apply ak (f:=22);exact rfl;exact rfl;exact hF _ (MSub.trans hH mS);rintro _ _ ⟨A1,c1,rfl,rfl⟩|apply ak (f:=55);exact rfl;exact rfl;exact hE _ (MSub.trans hH mS);rintro _ _ ⟨A2,c2,rfl,rfl⟩|refine zZK ?_|refine sM fun _=>?_|refine sC ?_ ?_<;>intro hb<;>try omega|refine sCW ?_ ?_<;>intro hb<;>try omega|fail)
 all_goals try omega
 repeat' first|apply ak (f:=56);exact rfl;exact rfl;exact hF2 _ (MSub.trans hH mS);rintro _ _ ⟨A3,c3,rfl,rfl⟩|apply ak (f:=58);exact rfl;exact rfl;exact hE2 _ (MSub.trans hH mS);rintro _ _ ⟨A4,c4,rfl,rfl⟩|apply ag (f:=15);exact rfl;exact rfl;intro w' hm;exact eG rfl (Reads.of_own hm pK) (Reads.of_own hm pK)|apply ag (f:=57);exact rfl;exact rfl;intro w' hm;exact AZ rfl (Reads.of_own hm pK) (Reads.of_own hm pK)|refine zZB ?_|refine sM fun _=>?_|refine sC ?_ ?_<;>intro hb<;>try omega|fail
 all_goals try omega
 refine ay [1,3,4] rfl (fun y:Nat × List Value=> [(5,.int .i64 (y.1:Int))]) (fun y=> .own A2 119 4 P.length c2 y.2:: .own A1 35 2 K.length c1 (K.flatMap aw):: .box g1 28 [x.pa,x.pb]::H) (fun y=>y.1≤P.length∧y.2.length=P.length*4) (fun y=>P.length - y.1) (0,P.flatMap cM) ⟨Vt _,bh q9 _⟩ sB mS ?_;rintro ⟨i,xs⟩ ⟨hi,hxs⟩;dsimp only at hi hxs ⊢;refine vZ (A:=A2) .hd fun q1 q2 q3=> ?_;by_cases hlt:i<P.length
 ·refine ba (A:=A2) .hd (by omega) fun gp hA=> ?_;subst hA;repeat' (first|apply ai;exact rfl;apply aa;exact rfl;exact rfl;exact hlt|apply ai;exact rfl;apply Bm;(iterate 3 exact rfl)|apply lL (vs:=aw ⟨0,0⟩);exact rfl;exact rfl;exact pK;exact rfl;exact rfl;decide;omega|refine zZA ?_|refine sM fun _=>?_|refine sC ?_ ?_<;>intro hb<;>try omega|fail)
  refine ⟨(i+1,xs.take (0+i*4)++aw ⟨0,0⟩++xs.drop (0+i*4+2)),?_,(by first|omega|dsimp only;omega),sB,sB,mS⟩;refine ⟨hlt,?_⟩;simp only [Vn,VQ,VS,show (aw ⟨0,0⟩).length=2 from rfl];omega
 ·repeat' first|refine zZA ?_|refine sM fun _=>?_|refine sC ?_ ?_<;>intro hb<;>try omega|fail
  refine ay [1,3] rfl (fun y:Nat × List Value=> [(6,.int .i64 (y.1:Int))]) (fun y=> .own A1 35 2 K.length c1 (y.2++(K.drop y.1).flatMap aw):: .box g1 28 [x.pa,x.pb]::H) (fun y=>y.1≤K.length∧y.2.length=y.1*2) (fun y=>K.length - y.1) (0,[]) ⟨Vt _,rfl⟩ sB mS ?_;rintro ⟨i,xs⟩ ⟨hi,hxs⟩;dsimp only at hi hxs ⊢;by_cases hlt:i<K.length
  ·refine vZ (A:=A1) .hd fun q1 q2 q3=> ?_;refine ba (A:=A1) .hd (by omega) fun gk hA=> ?_;subst hA;obtain ⟨ys,hys,hover⟩:=OK hlt hxs;have hread:((xs++(K.drop i).flatMap aw).drop (0+i*2)).take 2=aw K[i]:=by
    rw [VD,← hxs,List.drop_left',Vy hlt,VE,YZ]
    ·rfl
    ·rfl
   generalize K[i]=c at hread;have hsz:(xs++(K.drop i).flatMap aw).length=K.length*2:=q1;repeat' (first|apply ai;exact rfl;apply aa;exact rfl;exact rfl;exact hlt|apply ai;exact rfl;apply aD;exact rfl;exact pK;exact hread;exact rfl|apply lL (vs:=aw ⟨0,0⟩);exact rfl;exact rfl;exact pK;exact rfl;exact rfl;decide;rw [hsz];omega|refine zZA ?_|refine sM fun _=>?_|refine sC ?_ ?_<;>intro hb<;>try omega|fail)
   rename_i g7;rw [hover];have u1:=hU c;have u2:=hU2 c;have u3:=hul c;have t1:=hT c;have t2:=hT2 c;have t3:=htl c;generalize aU G c=U at u1 u2 u3;generalize iM G c=T at t1 t2 t3;generalize isG G c=b at t1 t2;refine fa (id:=13) [3,7] [] [.box g7 35 (aw c),.box g1 28 [x.pa,x.pb]] (by kernel_rfl) (by kernel_rfl) (by kernel_rfl) mS ?_;repeat' (first|apply ak (f:=59);exact rfl;exact rfl;exact u1 _ (MSub.trans hH mS);rintro _ _ ⟨A5,c5,rfl,rfl⟩|apply ak (f:=60);exact rfl;exact rfl;exact u2 _ (MSub.trans hH mS);rintro _ _ ⟨A6,c6,rfl,rfl⟩|apply ak (f:=61);exact rfl;exact rfl;exact t1 _ (MSub.trans hH mS);rintro _ _ ⟨A7,c7,rfl,rfl⟩|apply ak (f:=62);exact rfl;exact rfl;exact t2 _ (MSub.trans hH mS);rintro _ _ ⟨A8,c8,rfl,rfl⟩|apply ag (f:=63);exact rfl;exact rfl;intro w' hm;exact Eu rfl (Reads.of_own hm pK) (Reads.of_own hm pK)|apply ag (f:=64);exact rfl;exact rfl;intro w' hm;exact Ew rfl (Reads.of_own hm pK) (Reads.of_own hm pK)|apply ai;exact rfl;apply jK;exact rfl;exact rfl|refine zZK ?_|refine sM fun _=>?_|refine sC ?_ ?_<;>intro hb<;>try omega|refine sCW ?_ ?_<;>intro hb<;>try omega|fail)
   all_goals first|omega|exfalso;simp at hb;done|skip
   refine ay [1,3,6,8,10] rfl (fun y:Nat × List Value=> [(14,.int .i64 (y.1:Int))]) (fun y=> .own A5 128 6 U.length c5 y.2:: .own A7 132 11 T.length c7 (T.flatMap bu):: .own (some gk) 35 2 K.length c1 (ys++(K.drop (i+1)).flatMap aw):: .box g1 28 [x.pa,x.pb]::H) (fun y=>y.1≤U.length∧y.2.length=U.length*6) (fun y=>U.length - y.1) (0,U.flatMap cw) ⟨Vt _,bh jx _⟩ sB mS ?_;rintro ⟨k,us⟩ ⟨hk,hus⟩;dsimp only at hk hus ⊢;by_cases hku:k<U.length
   ·refine ba (A:=A5) .hd (by omega) fun gu hA=> ?_;subst hA;repeat' (first|apply ai;exact rfl;apply aa;exact rfl;exact rfl;exact hku|apply aW;exact rfl;exact rfl;exact pK;exact rfl;omega|refine zZA ?_|refine sM fun _=>?_|refine sC ?_ ?_<;>intro hb<;>try omega|fail)
    refine ⟨(k+1,us.set (0+k*6) (.int .i64 0)),?_,(by first|omega|dsimp only;omega),sB,sB,mS⟩;exact ⟨hku,by simpa using hus⟩
   ·repeat' first|refine zZA ?_|refine sM fun _=>?_|refine sC ?_ ?_<;>intro hb<;>try omega|fail
    refine ay [1,3,6,10] rfl (fun y:Nat × List Value=> [(15,.int .i64 (y.1:Int))]) (fun y=> .own A7 132 11 T.length c7 y.2:: .own (some gk) 35 2 K.length c1 (ys++(K.drop (i+1)).flatMap aw):: .box g1 28 [x.pa,x.pb]::H) (fun y=>y.1≤T.length∧y.2.length=T.length*11) (fun y=>T.length - y.1) (0,T.flatMap bu) ⟨Vt _,bh cR _⟩ sB mS ?_;rintro ⟨k,us⟩ ⟨hk,hus⟩;dsimp only at hk hus ⊢;by_cases hku:k<T.length
    ·refine ba (A:=A7) .hd (by omega) fun gu hA=> ?_;subst hA;repeat' (first|apply ai;exact rfl;apply aa;exact rfl;exact rfl;exact hku|apply aW;exact rfl;exact rfl;exact pK;exact rfl;omega|refine zZA ?_|refine sM fun _=>?_|refine sC ?_ ?_<;>intro hb<;>try omega|fail)
     refine ⟨(k+1,us.set (0+k*11) (.int .u8 0)),?_,(by first|omega|dsimp only;omega),sB,sB,mS⟩;exact ⟨hku,by simpa using hus⟩
    ·repeat' first|refine zZA ?_|refine sM fun _=>?_|refine sC ?_ ?_<;>intro hb<;>try omega|fail
     refine ⟨(i+1,ys),?_,(by first|omega|dsimp only;omega),sB,sB,mS⟩;exact ⟨hlt,hys⟩
  ·repeat' first|refine zZA ?_|refine sM fun _=>?_|refine sC ?_ ?_<;>intro hb<;>try omega|fail
   all_goals exact bp eIO rfl rfl (H' :=H) mS ⟨rfl,rfl⟩
open Go.RowKit
attribute [local irreducible] WE
def uw (M:Nat→Nat→Bool) (i:Nat):Nat→Bool:=fun j=>decide (j<i) && M j j
theorem JB (M:Nat→Nat→Bool) (i n:Nat):aH n (fun j=>if j=i then M i i else uw M i j)=aH n (uw M (i+1)):=aO fun j _=>by
 unfold uw;by_cases e:j=i
 ·subst e;simp
 ·rw [if_neg e];congr 1;rw [decide_eq_decide];omega
theorem Jz (M:Nat→Nat→Bool) (n:Nat):aH n (fun _=>false)=aH n (uw M 0):=aO fun j _=>by simp [uw]
theorem JC (M:Nat→Nat→Bool) (n:Nat):aH n (uw M n)=aH n fun j=>M j j:=aO fun j h=>by simp [uw,h]
def px (n:Nat) (M:Nat→Nat→Bool) (i k:Nat):Nat→Bool:=fun j=>if j<i then (M j j||(List.range n).any fun a=>M j a && M a a) else if j=i then (M j j||(List.range k).any fun a=>M j a && M a a) else M j j
theorem Sr (n:Nat) (M:Nat→Nat→Bool) (i k:Nat):px n M i k i=(M i i||(List.range k).any fun a=>M i a && M a a):=by unfold px;rw [if_neg (W0 _),if_pos rfl]
theorem M5 (n:Nat) (M:Nat→Nat→Bool) (i k:Nat):aH n (fun j=>if j=i then (px n M i k i||(M i k && M k k)) else px n M i k j)=aH n (px n M i (k+1)):=aO fun j _=>by
 rw [Sr];unfold px;by_cases e:j=i
 ·subst e;rw [if_pos rfl,if_neg (W0 _),if_pos rfl,XP,List.any_append];simp [Bool.or_assoc]
 ·rw [if_neg e];by_cases h1:j<i
  ·rw [if_pos h1,if_pos h1]
  ·rw [if_neg h1,if_neg h1,if_neg e,if_neg e]
theorem M6 (n:Nat) (M:Nat→Nat→Bool) (i:Nat):aH n (px n M i n)=aH n (px n M (i+1) 0):=aO fun j _=>by
 unfold px;by_cases h1:j<i
 ·rw [if_pos h1,if_pos (by omega)]
 ·rw [if_neg h1];by_cases h2:j=i
  ·rw [if_pos h2,if_pos (by omega)]
  ·rw [if_neg h2,if_neg (by omega)];split<;>simp
theorem M4 (n:Nat) (M:Nat→Nat→Bool):aH n (fun j=>M j j)=aH n (px n M 0 0):=aO fun j _=>by
 unfold px;rw [if_neg (Xr _)];split<;>simp
theorem M7 (n:Nat) (M:Nat→Nat→Bool):aH n (px n M n 0)=aH n fun j=>(M j j||(List.range n).any fun a=>M j a && M a a):=aO fun j h=>by unfold px;rw [if_pos h]
structure MatIn (F:List Blk) (n:Nat) (A:Option Nat) (c:Nat) (As:List Nat) (M:Nat→Nat→Bool):Prop where
 len:As.length=n
 out:Blk.own A 95 1 n c (As.map (jd n))∈F
 row: ∀ i (h:i<As.length),ig n As[i] (M i)∈F
theorem MatIn.cell {F:List Blk} {n:Nat} {A:Option Nat} {c:Nat} {As:List Nat} {M:Nat→Nat→Bool} (h:MatIn F n A c As M) {i:Nat} (hi:i<n): ∃ g,(As.map (jd n))[0+i*1]? =some (.slice (some ⟨g,0,none⟩) n n)∧Blk.own (some g) 4 1 n n (aH n (M i))∈F:=by
 have hl:i<As.length:=by rw [h.len];exact hi
 refine ⟨As[i],?_,h.row i hl⟩;rw [VD,Wd,VG,Vo hl]
 rfl
theorem LW (n:Nat) (hn:n≤1000) (A:Option Nat) (c:Nat) (As:List Nat) (M:Nat→Nat→Bool) (F:List Blk) (hM:MatIn F n A c As M) (w0:World):
 FnIn Tryz.prog 107 [sl A n c] w0 F fun v H=> ∃ g,v= .slice (some ⟨g,0,none⟩) n n∧H=ig n g (fun i=>M i i)::F:=by
 refine bE Tryz.func107 rfl Tryz.ntmps107 rfl ?_;repeat' (first|apply dK (c:=n);(iterate 3 exact rfl);omega;simp only [maxLen];omega;intro go;(try simp only [jX])|refine zZB ?_|refine sM fun _=>?_|refine sC ?_ ?_<;>intro hb<;>try omega|fail)
 all_goals try omega
 refine ay [0,3] rfl (fun i:Nat=> [(4,.int .i64 (i:Int))]) (fun i=> .own (some go) 4 1 n n (aH n (uw M i))::F) (fun i=>i≤n) (fun i=>n - i) 0 (Vt _) sB (by rw [← Jz];exact mS) ?_;rintro i hi;by_cases hlt:i<n
 ·refine ba (A:=A) (.tl (In.of_mem hM.out)) (by omega) fun ga hA=> ?_;subst hA;obtain ⟨gi,hc,hr⟩:=hM.cell hlt;have hb1:=bV (f:=M i) hlt;have hst:=fk (n:=n) (f:=uw M i) (k:=i) (v:=M i i);rw [JB] at hst;have ho:=hM.out;repeat' (first|apply ai (d:=18);exact rfl;apply aa (j:=i);exact rfl;exact rfl;exact hlt|apply ai (d:=19);exact rfl;apply aq;exact rfl;exact .tl (In.of_mem ho);exact hc|apply ai (d:=21);exact rfl;apply aa (j:=i);exact rfl;exact rfl;exact hlt|apply ai (d:=22);exact rfl;apply aq;exact rfl;exact .tl (In.of_mem hr);exact hb1|apply ai (d:=23);exact rfl;apply aa (j:=i);exact rfl;exact rfl;exact hlt|apply aW (g:=go);exact rfl;exact rfl;exact pK;exact rfl;rw [eM];omega;rw [hst]|refine zZA ?_|refine sM fun _=>?_|refine sC ?_ ?_<;>intro hb<;>try omega|fail)
  all_goals first
   |omega
   |refine ⟨i+1,hlt,by omega,by exact sB,by exact sB,by exact mS⟩;done
 ·have e:i=n:=by omega
  subst e;rw [JC];repeat' (first|refine zZA ?_|refine sM fun _=>?_|refine sC ?_ ?_<;>intro hb<;>try omega|fail)
  all_goals first
   |omega
   |exact bp eIO rfl rfl (MSub.refl _) ⟨go,rfl,rfl⟩
theorem FR (n:Nat) (hn:n≤1000) (A:Option Nat) (c:Nat) (As:List Nat) (M:Nat→Nat→Bool) (F:List Blk) (hM:MatIn F n A c As M) (w0:World):
 FnIn Tryz.prog 45 [sl A n c] w0 F fun v H=> ∃ g,v= .slice (some ⟨g,0,none⟩) n n∧H=ig n g (fun j=>(M j j||(List.range n).any fun a=>M j a && M a a))::F:=by
 refine bE Tryz.func45 rfl Tryz.ntmps45 rfl ?_;repeat' (first|apply ak (f:=107);exact rfl;exact rfl;exact LW n hn A c As M F hM w0;rintro _ _ ⟨go,rfl,rfl⟩;simp only [ig]|refine zZB ?_|refine sM fun _=>?_|refine sC ?_ ?_<;>intro hb<;>try omega|fail)
 all_goals try omega
 refine ay [0,3] rfl (fun i:Nat=> [(4,.int .i64 (i:Int))]) (fun i=> .own (some go) 4 1 n n (aH n (px n M i 0))::F) (fun i=>i≤n) (fun i=>n - i) 0 (Vt _) sB (by rw [← M4];exact mS) ?_;rintro i hi;by_cases hlt:i<n
 ·obtain ⟨gi,hc,hr⟩:=hM.cell hlt;have ho:=hM.out;repeat' (first|refine zZA ?_|refine sM fun _=>?_|refine sC ?_ ?_<;>intro hb<;>try omega|fail)
  all_goals try omega
  refine ay [0,3,4] rfl (fun k:Nat=> [(5,.int .i64 (k:Int))]) (fun k=> .own (some go) 4 1 n n (aH n (px n M i k))::F) (fun k=>k≤n) (fun k=>n - k) 0 (Vt _) sB mS ?_;rintro k hk;by_cases hlk:k<n
  ·refine ba (A:=A) (.tl (In.of_mem ho)) (by omega) fun ga hA=> ?_;subst hA;obtain ⟨gk,hck,hrk⟩:=hM.cell hlk;have hb0:=bV (f:=px n M i k) hlt;have hb1:=bV (f:=M i) hlk;have hb2:=bV (f:=M k) hlk;have hst:=fk (n:=n) (f:=px n M i k) (k:=i) (v:=px n M i k i||(M i k && M k k));rw [M5] at hst;generalize px n M i k i=pp at hb0 hst;generalize M i k=qq at hb1 hst;generalize M k k=rr at hb2 hst;cases pp<;>cases qq;all_goals simp only [Y3,Bool.false_or,Wp,WI] at hst
   all_goals (
    repeat' first|apply ai (d:=24);exact rfl;apply aa (j:=i);exact rfl;exact rfl;exact hlt|apply ai (d:=25);exact rfl;apply aq;exact rfl;exact pK;exact hb0|apply ai (d:=29);exact rfl;apply aa (j:=i);exact rfl;exact rfl;exact hlt|apply ai (d:=30);exact rfl;apply aq;exact rfl;exact .tl (In.of_mem ho);exact hc|apply ai (d:=32);exact rfl;apply aa (j:=k);exact rfl;exact rfl;exact hlk|apply ai (d:=33);exact rfl;apply aq;exact rfl;exact .tl (In.of_mem hr);exact hb1|apply ai (d:=37);exact rfl;apply aa (j:=k);exact rfl;exact rfl;exact hlk|apply ai (d:=38);exact rfl;apply aq;exact rfl;exact .tl (In.of_mem ho);exact hck|apply ai (d:=40);exact rfl;apply aa (j:=k);exact rfl;exact rfl;exact hlk|apply ai (d:=41);exact rfl;apply aq;exact rfl;exact .tl (In.of_mem hrk);exact hb2|apply ai (d:=44);exact rfl;apply aa (j:=i);exact rfl;exact rfl;exact hlt|apply aW (g:=go);exact rfl;exact rfl;exact pK;exact rfl;rw [eM];omega;rw [hst]|refine zZA ?_|refine sM fun _=>?_|refine sC ?_ ?_<;>intro hb<;>try omega|fail
    all_goals first
     |omega
     |refine ⟨k+1,hlk,by omega,by exact sB,by exact sB,by exact mS⟩;done
    )
  ·have e:k=n:=by omega
   subst e;rw [M6];repeat' (first|refine zZA ?_|refine sM fun _=>?_|refine sC ?_ ?_<;>intro hb<;>try omega|fail)
   all_goals first
    |omega
    |refine ⟨i+1,hlt,by omega,by exact sB,by exact sB,by exact mS⟩;done
 ·have e:i=n:=by omega
  subst e;rw [M7];repeat' (first|refine zZA ?_|refine sM fun _=>?_|refine sC ?_ ?_<;>intro hb<;>try omega|fail)
  all_goals first
   |omega
   |exact bp eIO rfl rfl (MSub.refl _) ⟨go,rfl,rfl⟩
end Go.SL
