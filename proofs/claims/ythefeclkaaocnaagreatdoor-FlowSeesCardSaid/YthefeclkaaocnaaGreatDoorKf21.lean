/-
  Lemmas and walks, put together: W18 W19 W20 W21 W22 Tr5 W36 W37 R2 R3.
-/
import Derived.Laws.Bits64
import Derived.Test.YthefeclkaaocnaaGreatDoorKf20
set_option linter.unusedSimpArgs false
set_option linter.unusedVariables false
set_option maxRecDepth 20000
namespace Go.SL
open Go Go.Proofs
attribute [local irreducible] W WL WQ WG WA VOp thn blk bF ba FnAt FnIn
theorem zZ {L:List Nd} {n:Nd} {i:Nat} {st:List Pt} {e:Int} (h:jI L n i st= .inl e):e≠0:=by
 unfold jI at h
 split at h
 ·
  injection h with h;subst h;assumption
 ·
  split at h
  ·
   injection h with h;omega
  ·
   split at h
   ·
    injection h with h;omega
   ·
    cases h
theorem u4 {L:List Nd} {n:Nd} {i:Nat} {st st' :List Pt} {ks:List Nat} {d:Nat} (h:jI L n i st= .inr (st',ks,d)): ∃ a,(∀ p∈a,p∈st)∧a.length≤st.length∧st' =a++ [⟨i,d,decide (n.kind=3)⟩]∧d≤32:=by
 unfold jI at h
 split at h
 ·
  cases h
 ·
  split at h
  ·
   cases h
  ·
   split at h
   ·
    cases h
   ·
    simp only [Sum.inr.injEq,Prod.mk.injEq] at h
    obtain ⟨rfl,rfl,rfl⟩:=h
    exact ⟨_,fun p hp=>U1 hp,by simp,rfl,by omega⟩
theorem DH {L:List Nd} {i:Nat} (hi:i<L.length) {st st' :List Pt} {ks:List Nat} {d:Nat} (ho:TopsOk L i st) (h:jI L L[i] i st= .inr (st',ks,d)):TopsOk L (i+1) st' :=by
 obtain ⟨a,h1,h2,rfl,h3⟩:=u4 h
 refine ⟨fun p hp=> ?_,by have:=ho.small;simp;omega⟩
 rcases Ub.1 hp with hp|hp
 ·
  obtain ⟨q1,q2,q3⟩:=ho.ok p (h1 p hp)
  exact ⟨by omega,q2,q3⟩
 ·
  rw [TX.1 hp]
  exact ⟨V3 i,h3,by rw [jp hi]⟩
def dg (L:List Nd):List Nd→Nat→List Pt→List Pt × Int
 | [],_,st=>(st,0)
 |n::r,i,st=>match jI L n i st with
  | .inl e=>([],e)
  | .inr x=>dg L r (i+1) x.1
def EV (st:List Pt):Nat:=(st.getLast?.map Pt.depth).getD 0
theorem yc (L:List Nd): ∀ (r:List Nd) (i:Nat) (st:List Pt) (vs:List mU),JG vs=EV st→
  (fH L r i st vs).1=(if (dg L r i st).2≠0 then (dg L r i st).2 else if (dg L r i st).1.length=1 then 0 else 4)∧((dg L r i st).2=0→JG (fH L r i st vs).2=EV (dg L r i st).1)
 | [],i,st,vs,h=>by
  refine ⟨?_,fun _=>h⟩
  by_cases h1:st.length=1<;>simp [fH,dg,h1]
 |n::r,i,st,vs,h=>by
  rw [fH,dg]
  cases hs:jI L n i st with
  |inl e=>have:=zZ hs;simp [this]
  |inr x=>
   obtain ⟨st',ks,d⟩:=x
   obtain ⟨a,_,_,rfl,_⟩:=u4 hs
   dsimp only
   exact yc L r (i+1) _ _ (by simp [JG,EV])
theorem Em (L:List Nd):l4 L=(if 256<L.length then (0,5) else if (dg L L 0 []).2≠0 then (0,(dg L L 0 []).2) else if (dg L L 0 []).1.length≠1∨jq L (L.length - 1)=3 then (0,4) else (((EV (dg L L 0 []).1:Nat):Int),0):Int × Int):=by
 obtain ⟨h1,h2⟩:=yc L L 0 [] [] rfl
 have h0:L.length=0→(dg L L 0 []).2=0∧(dg L L 0 []).1.length=0:=fun c=>by
  have:L= []:=US c
  subst this
  simp [dg]
 unfold l4 dI jV
 generalize fH L L 0 [] []=wk at h1 h2
 generalize dg L L 0 []=j at h0 h1 h2
 generalize jq L (L.length - 1)=k
 obtain ⟨w1,w2⟩:=wk
 obtain ⟨j1,j2⟩:=j
 dsimp only at h0 h1 h2 ⊢
 by_cases c1:256<L.length
 ·
  simp [c1]
 by_cases c2:L.length=0
 ·
  obtain ⟨a1,a2⟩:=h0 c2
  simp only [if_neg c1,if_pos c2]
  simp [a1,a2]
 simp only [if_neg c1,if_neg c2]
 clear c1 c2 h0
 by_cases c3:j2=0
 ·
  have h2' :=h2 c3
  by_cases c4:j1.length=1
  ·
   by_cases c5:k=3<;>simp_all
  ·
   simp_all
 ·
  simp_all
theorem NP (L:List Nd) (hlen:L.length≤256) (hwf: ∀ n∈L,wfN n) (tv:Value) (w:World) (ht:Reads w tv L.length (L.flatMap bR)):
  FnAt Tryz.prog 302 [tv] w fun v H=> ∃ A cap,v= .tuple #[sl A (dg L L 0 []).1.length cap,.int .i64 (dg L L 0 []).2]∧H= [.own A 387 2 (dg L L 0 []).1.length cap ((dg L L 0 []).1.flatMap rM)]:=by
 have ht' :=ht
 obtain ⟨At,ct,rfl,ht1,ht2,ht3⟩:=ht
 refine ax Tryz.func302 rfl Tryz.ntmps302 rfl ?_
 refine aW 387 2 ?_
 refine aW 387 2 ?_
 generalize hR:dg L L 0 []=R
 repeat' (first|refine sT ?_|refine sM fun _=> ?_|(refine sC ?_ ?_<;>intro hb<;>try omega)|fail)
 refine ay [0] rfl (fun x:Nat × List Pt × Option Nat × Nat=> [(4,sl x.2.2.1 x.2.1.length x.2.2.2),(5,.int .i64 (x.1:Int))]) (fun x=> [.own x.2.2.1 387 2 x.2.1.length x.2.2.2 (x.2.1.flatMap rM),.own none 387 2 0 0 []]) (fun x=>x.1≤L.length∧TopsOk L x.1 x.2.1∧R=dg L (L.drop x.1) x.1 x.2.1) (fun x=>L.length - x.1) (0,[],none,0) ⟨by omega,⟨fun p hp=>by simp at hp,TW _⟩,hR.symm⟩ sB mS ?_
 rintro ⟨i,st,A,cap⟩ ⟨hi,hok,hrec⟩
 dsimp only at hi hok hrec ⊢
 by_cases hlt:i<L.length
 ·
  rw [TN hlt,dg] at hrec
  have hnode:=fun (w' :World) (H:List Blk) (hm:Mem w w' H) (hr:Reads w' (sl A st.length cap) st.length (st.flatMap rM))=>HB L i hlt hlen (hwf _ (UA hlt)) st hok _ _ w' (ht'.of_w0 hm) hr
  have hto:=fun {st' ks d}=>DH (st' :=st') (ks:=ks) (d:=d) hlt hok
  unfold xY at hnode
  generalize hs:jI L L[i] i st=s at hrec hnode hto
  cases s with
  |inl e=>
   have he:=zZ hs
   dsimp only at hrec hnode
   subst hrec
   repeat' (first|(apply aF;exact rfl;exact rfl;(intro w' hm;exact hnode w' _ hm (Reads.of_own hm pK));(rintro v H' ⟨A',cap',rfl,rfl⟩))|refine sT ?_|refine sM fun _=> ?_|(refine sC ?_ ?_<;>intro hb<;>try omega)|fail)
   ·
    exact dc (.inl rfl) Tryz.results302 rfl rfl (H' := [.own none 387 2 0 0 []]) mS ⟨none,0,rfl,rfl⟩
  |inr x=>
   obtain ⟨st',ks,d⟩:=x
   dsimp only at hrec hnode
   repeat' (first|(apply aF;exact rfl;exact rfl;(intro w' hm;exact hnode w' _ hm (Reads.of_own hm pK));(rintro v H' ⟨A',cap',rfl,rfl⟩))|refine sT ?_|refine sN ?_|refine sM fun _=> ?_|(refine sC ?_ ?_<;>intro hb<;>try omega)|fail)
   refine ⟨(i+1,st',A',cap'),?_,(by first|omega|(dsimp only;omega)),sB,sB,mS⟩
   exact ⟨hlt,hto rfl,hrec⟩
 ·
  have e:i=L.length:=by omega
  subst e
  rw [UB,dg] at hrec
  subst hrec
  repeat' (first|refine sT ?_|refine sM fun _=> ?_|(refine sC ?_ ?_<;>intro hb<;>try omega)|fail)
  exact dc (.inl rfl) Tryz.results302 rfl rfl (H' := [.own A 387 2 st.length cap (st.flatMap rM)]) mS ⟨A,cap,rfl,rfl⟩
theorem K3 {st:List Pt} (h:st.length=1): ∃ p,st= [p]∧EV st=p.depth:=by
 match st,h with
 | [p],_=>exact ⟨p,rfl,rfl⟩
theorem vk (L:List Nd) (hwf: ∀ n∈L,wfN n) (tv:Value) (w:World) (ht:Reads w tv L.length (L.flatMap bR)):aD Tryz.prog 259 [tv] w (.tuple #[.int .i64 (l4 L).1,.int .i64 (l4 L).2]):=by
 have ht' :=ht
 obtain ⟨At,ct,rfl,ht1,ht2,ht3⟩:=ht
 refine ax Tryz.func259 rfl Tryz.ntmps259 rfl ?_
 have hd:=Em L
 generalize hde:l4 L=de at hd
 by_cases h256:256<L.length
 ·
  rw [if_pos h256] at hd
  subst hd
  repeat' (first|refine sT ?_|refine sM fun _=> ?_|(refine sC ?_ ?_<;>intro hb<;>try omega)|fail)
  (refine rT2 ?_)
  rfl
 have hj:=fun (w' :World) (H:List Blk) (hm:Mem w w' H)=>NP L (by omega) hwf _ w' (ht'.of_w0 hm)
 rw [if_neg h256] at hd
 have h0:L.length=0→(dg L L 0 []).1.length=0:=fun c=>by
  have:L= []:=US c
  subst this
  simp [dg]
 generalize dg L L 0 []=j at hj hd h0
 obtain ⟨st,e⟩:=j
 dsimp only at hj hd h0
 by_cases he:e=0
 ·
  rw [if_neg (by simp [he])] at hd
  by_cases hl:st.length=1
  ·
   obtain ⟨p,rfl,hp⟩:=K3 hl
   obtain ⟨gt,ot,rfl,hrt⟩:=ht3 (by omega)
   have hrl:=hrt.elem dF (L.length - 1) (by omega)
   have hk:jq L (L.length - 1)=(L[L.length - 1]'(by omega)).kind:=jp _
   rw [hk,hp] at hd
   generalize (L[L.length - 1]'(by omega))=nl at hrl hd
   subst he
   repeat' (first|(apply aF;exact rfl;exact rfl;(intro w' hm;exact hj w' _ hm);(rintro v H' ⟨A',cap',rfl,rfl⟩))|refine sT ?_|refine sN ?_|refine sO ?_|refine sM fun _=> ?_|(refine sC ?_ ?_<;>intro hb<;>try omega)|fail)
   ·
    rw [if_pos (.inr hb)] at hd
    subst hd
    (refine rT2 ?_)
    rfl
   ·
    rw [if_neg (by simp;omega)] at hd
    subst hd
    refine OV .hd (by simp) fun ga hA=> ?_
    subst hA
    repeat' (first|(apply ak;exact rfl;apply aj (j:=0);exact rfl;exact rfl;exact Nat.one_pos)|(apply ak;exact rfl;apply bG;exact rfl;exact pK;exact rfl)|refine sT ?_|refine sM fun _=> ?_|(refine sC ?_ ?_<;>intro hb<;>try omega)|fail)
    (refine rT2 ?_)
    rfl
  ·
   rw [if_pos (.inl hl)] at hd
   subst hd he
   repeat' (first|(apply aF;exact rfl;exact rfl;(intro w' hm;exact hj w' _ hm);(rintro v H' ⟨A',cap',rfl,rfl⟩))|refine sT ?_|refine sN ?_|refine sO ?_|refine sM fun _=> ?_|(refine sC ?_ ?_<;>intro hb<;>try omega)|fail)
   (refine rT2 ?_)
   rfl
 ·
  rw [if_pos he] at hd
  subst hd
  repeat' (first|(apply aF;exact rfl;exact rfl;(intro w' hm;exact hj w' _ hm);(rintro v H' ⟨A',cap',rfl,rfl⟩))|refine sT ?_|refine sM fun _=> ?_|(refine sC ?_ ?_<;>intro hb<;>try omega)|fail)
  (refine rT2 ?_)
  rfl
theorem Ep (L:List Nd) (hwf: ∀ n∈L,wfN n) (tv:Value) (w:World) (ht:Reads w tv L.length (L.flatMap bR)):aD Tryz.prog 215 [tv] w (.int .i64 (dI L)):=by
 refine ax Tryz.func215 rfl Tryz.ntmps215 rfl ?_
 have hd:(l4 L).2=dI L:=by
  unfold l4
  split
  ·
   rfl
  ·
   rename_i h;simp at h;simp [h]
 repeat' (first|(apply aa;exact rfl;exact rfl;(intro w' hm;exact vk L hwf tv w' (ht.of_w0 hm)))|refine sT ?_|refine sM fun _=> ?_|(refine sC ?_ ?_<;>intro hb<;>try omega)|fail)
 (refine rT1 ?_)
 rw [hd]
theorem DR {n:Nd} {st l top:List STree} (hs:gU n st= .inr (l,top)):(top.length:Int)=below n∧st=l++top:=by
 unfold gU at hs
 split at hs
 ·
  cases hs
 rename_i hf
 split at hs
 ·
  cases hs
 rename_i hb
 split at hs
 ·
  cases hs
 rename_i hd
 simp only [Sum.inr.injEq,Prod.mk.injEq] at hs
 obtain ⟨rfl,rfl⟩:=hs
 have h0:=(uK (n:=n) (by omega)).1
 refine ⟨?_,(UF _ _).symm⟩
 simp only [fO,Ug]
 omega
theorem Gd {n:Nd} {r:List Nd} {st st' :List STree} {h h' :iV} (hw:fM (n::r) st h=(0,st',h')): ∃ l top,gU n st= .inr (l,top)∧fM r (l++ [bP n top]) (h++ [(top,bP n top)])=(0,st',h'):=by
 rw [fM] at hw
 cases hsf:gU n st with
 |inl e=>
  rw [hsf] at hw
  simp only [Prod.mk.injEq] at hw
  obtain ⟨rfl,_⟩:=hw
  exfalso
  unfold gU at hsf
  split at hsf
  ·
   injection hsf with hs
   exact absurd hs (by assumption)
  ·
   split at hsf
   ·
    cases hsf
   ·
    split at hsf<;>cases hsf
 |inr x=>
  obtain ⟨l,top⟩:=x
  rw [hsf] at hw
  exact ⟨l,top,rfl,hw⟩
theorem vB {st:List STree} (hp: ∀ S∈st,0<S.ns.length):st.length≤(bo st).length:=by
 induction st with
 |nil=>exact TW _
 |cons S r ih=>
  have h1:=hp S TI
  have h2:=ih fun T hT=>hp T (TM _ hT)
  rw [gy,TG,TZ]
  omega
theorem DY (o:List Int) (ks:List Nat) (j:Nat) (h:j<ks.length) (v:Int):gM o (ks.take (j+1)) v=(gM o (ks.take j) v).set ks[j] v:=by
 unfold gM
 rw [TP h,U8]
 rfl
def i9 (l:List Int):List Value:=l.map (Value.int .i64)
theorem Cr (l:List Int):(i9 l).length=l.length:=by simp [i9]
theorem K8 {l:List Int} {i:Nat} {u:Int} (h:l[i]? =some u):(i9 l)[i]? =some (.int .i64 u):=by simp [i9,h]
theorem K7 (l:List Int) (i:Nat) (v:Int):(i9 l).set i (.int .i64 v)=i9 (l.set i v):=by simp [i9,List.map_set]
theorem K6 (l:List Nat): ∀ u∈fq l,u.oneCell' =true:=by
 intro u hu
 obtain ⟨a,_,rfl⟩:=Ul.1 hu
 rfl
set_option maxHeartbeats 2000000 in
theorem IP (L:List Nd) (hlen:L.length≤256) (S:STree) (Hi:iV) (hW:Whole L S Hi) (tv:Value) (w:World) (ht:Reads w tv L.length (L.flatMap bR)):
  FnAt Tryz.prog 216 [tv] w fun v H=> ∃ A cap,v=sl A L.length cap∧H= [.own A 3 1 L.length cap (i9 (kT Hi))]:=by
 have ht' :=ht
 obtain ⟨At,ct,rfl,ht1,ht2,ht3⟩:=ht
 refine ax Tryz.func216 rfl Tryz.ntmps216 rfl ?_
 refine aW 3 1 ?_
 refine aW 3 1 ?_
 repeat' (first|refine sT ?_|refine sM fun _=> ?_|(refine sC ?_ ?_<;>intro hb<;>try omega)|fail)
 refine ay [0] rfl (fun x:Nat × List STree × iV × (Option Nat × Nat) × (Option Nat × Nat)=> [(3,sl x.2.2.2.1.1 x.1 x.2.2.2.1.2),(4,sl x.2.2.2.2.1 x.2.1.length x.2.2.2.2.2),(5,.int .i64 (x.1:Int))])
  (fun x=> [.own x.2.2.2.1.1 3 1 x.1 x.2.2.2.1.2 (i9 (kT x.2.2.1)),.own x.2.2.2.2.1 3 1 x.2.1.length x.2.2.2.2.2 (fq (aM 0 x.2.1))])
  (fun x=>x.1≤L.length∧Inv (L.take x.1) x.2.1 x.2.2.1∧ParOk x.2.1 x.2.2.1∧fM (L.drop x.1) x.2.1 x.2.2.1=(0,[S],Hi)) (fun x=>L.length - x.1) (0,[],[],(none,0),(none,0))
  ⟨by omega,Inv.nil,⟨rfl,fun j y hy=>(by simp at hy),fun k hk=>(by simp [aM] at hk)⟩,hW.walk⟩ sB mS ?_
 rintro ⟨i,st,h,⟨A1,c1⟩,⟨A2,c2⟩⟩ ⟨hi,hI,hP,hw⟩
 dsimp only at hi hI hP hw ⊢
 have hhl:h.length=i:=by rw [hI.len,Ue];omega
 by_cases hlt:i<L.length
 ·
  rw [TN hlt] at hw
  obtain ⟨l,top,hs,hw'⟩:=Gd hw
  obtain ⟨hbl,hst⟩:=DR hs
  obtain ⟨_,hlen2,hlo,hlp,htp⟩:=hI.facts hs
  have hP' :=xU hI hP hs
  have hI' :=(hI.step hs).1
  have htk:L.take (i+1)=L.take i++ [L[i]]:=TP hlt
  rw [← htk] at hI'
  obtain ⟨gt,ot,rfl,hrt⟩:=ht3 (by omega)
  have hrn:=hrt.elem dF i hlt
  have hbel:=fun w=>hbl ▸ vn L[i] w
  generalize L[i]=n at hrn hbel hs hw' hbl hlo hP' hI'
  have hkids:aM 0 (l++top)=aM 0 l++dE h.length (top,bP n top):=by rw [dN,dE,hlo,Uc]
  have hkl:(dE h.length (top,bP n top)).length=top.length:=mB _ _
  have hpar:=mE h (top,bP n top)
  have hkb: ∀ k∈dE h.length (top,bP n top),k<i:=fun k hk=>by
   rw [dE,hlo] at hk
   have:=(kQ htp hk).2
   omega
  have hset:=fun (o:List Int) (j:Nat) (hj:j<(dE h.length (top,bP n top)).length) (v:Int)=>DY o (dE h.length (top,bP n top)) j hj v
  generalize dE h.length (top,bP n top)=K at hkids hkl hpar hkb hset
  subst hst
  have hll:(l++top).length=l.length+top.length:=TG
  have hrl:(aM 0 l).length=l.length:=mB _ _
  have hsmall:l.length+top.length≤256:=by
   have h1:=vB hlp
   have h2:=vB htp
   omega
  rw [hll]
  repeat' (first|(apply bi;(iterate 3 exact rfl);(repeat first|exact .hd|apply Sel.tl|apply In.tl);(intro w hm;exact hm.cells_own (by (repeat first|exact .hd|apply Sel.tl|apply In.tl)));exact rfl;(simp [Value.oneCell',sl]);omega;(simp only [maxLen];omega);(intro A' cap' hA'))|(apply aa;exact rfl;exact rfl;(intro w hm;exact hbel w))|refine sT ?_|refine sN ?_|refine sO ?_|refine sM fun _=> ?_|(refine sC ?_ ?_<;>intro hb<;>try omega)|fail)
  rw [VJ]
  have e0:i9 (kT h)++ [.int .i64 (-1)]=i9 (gM (kT h++ [-1]) (K.take 0) (i:Int)):=by simp [i9,gM]
  rw [e0]
  refine ay [0,3,4,5,6] rfl (fun j:Nat=> [(7,.int .i64 ((l.length+j:Nat):Int))]) (fun j=> [.own A' 3 1 (i+1) cap' (i9 (gM (kT h++ [-1]) (K.take j) (i:Int))),.own A2 3 1 (l.length+top.length) c2 (fq (aM 0 (l++top)))])
   (fun j=>j≤top.length) (fun j=>top.length - j) 0 (TW _) sB mS ?_
  rintro j hj
  by_cases hjk:j<top.length
  ·
   refine bK (.tl .hd) (by omega) fun g2 hA2=> ?_
   refine bK .hd (by omega) fun g1 hA1=> ?_
   subst hA2 hA1
   have hKj:=TJ (show j<K.length by omega)
   have hkj:=hkb _ (UA (show j<K.length by omega))
   have hs1:=hset (kT h++ [-1]) j (by omega) (i:Int)
   generalize K[j]=kj at hKj hkj hs1
   have hrt2:(fq (aM 0 (l++top)))[0+(l.length+j)*1]? =some (.int .i64 (kj:Int)):=by
    rw [hkids,Uc,Va,fq,Uq,Uj (by omega),show l.length+j - (aM 0 l).length=j by omega,hKj]
    rfl
   have hsl:(gM (kT h++ [-1]) (K.take j) (i:Int)).length=i+1:=by rw [qI];simp [hP.len,hhl]
   have hcell:(i9 (gM (kT h++ [-1]) (K.take j) (i:Int))).set (0+kj*1) (.int .i64 (i:Int))=i9 (gM (kT h++ [-1]) (K.take (j+1)) (i:Int)):=by
    rw [Uc,Va,K7,hs1]
   repeat' (first|(apply ak;exact rfl;apply bG;exact rfl;exact pK;exact hrt2)|(apply jZ;exact rfl;exact rfl;exact pK;exact rfl;(rw [Cr];omega);rw [hcell])|refine sT ?_|refine sN ?_|refine sO ?_|refine sM fun _=> ?_|(refine sC ?_ ?_<;>intro hb<;>try omega)|fail)
   refine ⟨j+1,?_,(by first|omega|(dsimp only;omega)),sB,sB,mS⟩
   exact hjk
  ·
   have e:j=top.length:=by omega
   subst e
   rw [UE (by omega)]
   have htake:(fq (aM 0 (l++top))).take (l.length*1)=fq (aM 0 l):=by
    rw [hkids,Va,fq,← List.map_take,List.take_left' hrl];rfl
   have hl1:(fq (aM 0 l)).length=l.length*1:=by rw [Cq,hrl,Va]
   refine I5 (A:=A2) (.tl .hd) fun q1 q2 q3=> ?_
   repeat' (first|(apply fT;exact rfl;intro gb)|(apply ak;exact rfl;apply rZ (hi:=l.length);exact rfl;exact rfl;omega)|(apply eF (n' :=0) (c:=0) (A:=some _) (m:=l.length) (news:=fq (aM 0 l));(iterate 3 exact rfl);exact pK;(intro w' hm;rw [← htake];exact Reads.of_own_take (A:=A2) hm pK (Nat.le_add_right _ _));exact hl1;exact K6 _;omega;(simp only [maxLen];omega);intro A4 c4 h4)|(apply bi;(iterate 3 exact rfl);(repeat first|exact .hd|apply Sel.tl|apply In.tl);(intro w hm;exact hm.cells_own (by (repeat first|exact .hd|apply Sel.tl|apply In.tl)));exact rfl;(simp [Value.oneCell',sl]);omega;(simp only [maxLen];omega);(intro A5 c5 h5))|refine sT ?_|refine sN ?_|refine sO ?_|refine sM fun _=> ?_|(refine sC ?_ ?_<;>intro hb<;>try omega)|fail)
   have e1:gM (kT h++ [-1]) K (i:Int)=kT (h++ [(top,bP n top)]):=by rw [hpar,hhl]
   have e2: []++fq (aM 0 l)++ [.int .i64 (i:Int)]=fq (aM 0 (l++ [bP n top])):=by
    rw [dN]
    simp only [aM,df,fq,UG,TL]
    congr 2
    simp
    omega
   have e3:0+l.length+1=(l++ [bP n top]).length:=by simp
   rw [e1,e2,e3]
   refine ⟨(i+1,l++ [bP n top],h++ [(top,bP n top)],(A',cap'),(A5,c5)),?_,(by first|omega|(dsimp only;omega)),sB,sB,mS⟩
   exact ⟨hlt,hI',hP',hw'⟩
 ·
  have e:i=L.length:=by omega
  subst e
  rw [UB,fM] at hw
  simp only [Prod.mk.injEq] at hw
  obtain ⟨_,_,rfl⟩:=hw
  repeat' (first|refine sT ?_|refine sM fun _=> ?_|(refine sC ?_ ?_<;>intro hb<;>try omega)|fail)
  exact cA (.inl rfl) Tryz.results216 rfl (H' := [.own A1 3 1 L.length c1 (i9 (kT h))]) mS ⟨A1,c1,rfl,rfl⟩
end Go.SL
namespace Go.SL
open Go
theorem Kt {n:Nd} {st l top:List STree} (hs:gU n st= .inr (l,top)):bE n=0∧(top.length:Int)=below n:=by
 unfold gU at hs
 split at hs
 ·
  cases hs
 rename_i hf
 split at hs
 ·
  cases hs
 rename_i hb
 split at hs
 ·
  cases hs
 simp only [Sum.inr.injEq,Prod.mk.injEq] at hs
 obtain ⟨rfl,rfl⟩:=hs
 have hlk:(fO st (below n).toNat).length=min st.length (below n).toNat:=by simp [fO];omega
 have hb0:(0:Int)≤below n:=by
  have hk:fD n=true:=by
   cases hk:fD n
   ·
    exfalso
    apply hf
    intro h0
    simp [bE,hk] at h0
   ·
    rfl
  unfold below
  by_cases h7:n.kind=7
  ·
   simp [fD,h7] at hk
   simp [h7];exact hk
  ·
   (repeat' split)<;>omega
 have hle: ¬ (st.length:Int)<below n:=fun h=>hb (Or.inl h)
 exact ⟨by omega,by omega⟩
def QL (h:iV):Prop:= ∀ (j:Nat) (y:List STree × STree),h[j]? =some y→ ∃ n,(y.1.length:Int)=below n∧y.2=bP n y.1∧bE n=0
theorem Whole.lens {L:List Nd} {S:STree} {h:iV} (hW:Whole L S h):QL h:=by
 refine pZ (fun _ h=>QL h) (fun dn n st h l top hI hP hs=> ?_) L [] [] [] [S] h ?_ ?_ hW.walk
 ·
  intro j y hy
  by_cases hj:j<h.length
  ·
   rw [Uh hj] at hy
   exact hP j y hy
  ·
   rw [Uj (by omega)] at hy
   obtain ⟨h1,h2⟩:=Kt hs
   have e:y=(top,bP n top):=by
    cases hq:j - h.length with
    |zero=>rw [hq] at hy;exact (Option.some.inj hy).symm
    |succ k=>rw [hq] at hy;simp at hy
   subst e
   exact ⟨n,h2,rfl,h1⟩
 ·
  exact Inv.nil
 ·
  intro j y hy
  simp at hy
def G5 (m:Nd):Prop:=m.kind=7∧46≤m.fn
theorem PE {m:Nd} (hf:bE m=0) (hr:G5 m):below m=1:=by
 obtain ⟨h7,h46⟩:=hr
 unfold bE at hf
 split at hf
 ·
  cases hf
 rw [if_neg (show ¬ m.kind≠7 by omega)] at hf
 split at hf
 ·
  rename_i h;exact absurd hf h
 rename_i ha
 split at hf
 ·
  cases hf
 rename_i hn
 have h50:m.fn≤50:=by
  by_cases h:m.fn≤50
  ·
   exact h
  ·
   exfalso
   apply ha
   have hk:cU m.fn=false:=by
    unfold cU
    rw [decide_eq_true (show 1≤m.fn by omega),decide_eq_false h]
    rfl
   unfold fp
   rw [hk,if_neg (by omega),if_neg (by omega),if_neg (by omega),if_neg (by omega),if_neg (by omega),if_neg (by omega)]
   decide
 have har:fp m.fn=(1,1,0):=by
  have:m.fn=46∨m.fn=47∨m.fn=48∨m.fn=49∨m.fn=50:=by omega
  rcases this with h|h|h|h|h<;>rw [h]<;>decide+kernel
 rw [har] at hn
 dsimp only at hn
 unfold below
 rw [if_neg (by omega),if_neg (by omega),if_pos h7]
 omega
theorem HV {L:List Nd} {S:STree} {h:iV} (hW:Whole L S h) {i:Nat} (hi:i<L.length):
  ∃ u:Int,(kT h)[i]? =some u∧(u= -1∨ ∃ j:Nat,u=(j:Int)∧j<L.length)∧(∀ m,L[i+1]? =some m→G5 m→u=((i+1:Nat):Int))∧(∀ (j:Nat) m,u=(j:Int)→L[j]? =some m→G5 m→j=i+1):=by
 have hHl:=hW.inv.len
 have key: ∀ j m,L[j]? =some m→G5 m→ ∃ y,h[j]? =some y∧0<j∧dE j y= [j - 1]:=by
  intro j m hm hr
  have hj:j<L.length:=(TV.1 hm).1
  obtain ⟨y,hy⟩: ∃ y,h[j]? =some y:=⟨_,TJ (by omega)⟩
  obtain ⟨n,hn,e2,hgt,hgT,hTl,hseg⟩:=hW.inv.node j y hy
  obtain ⟨n',hl',e2',hf'⟩:=hW.lens j y hy
  have hnn:n' =n:=by
   rw [e2] at e2'
   have:=congrArg (fun T:STree=>T.ns.getLast?) e2'
   simpa [bP] using this.symm
  subst hnn
  rw [hm] at hn
  obtain rfl:=Option.some.inj hn
  rw [PE hf' hr] at hl'
  obtain ⟨T,hT⟩: ∃ T,y.1= [T]:=by
   match hq:y.1,hl' with
   | [T],_=>exact ⟨T,rfl⟩
   | [],h=>simp at h
   |_::_::_,h=>simp at h;omega
  have hlen:y.2.ns.length=T.ns.length+1:=by rw [e2,df,hT];simp [bo]
  have hTp:0<T.ns.length:=(hgt T (by rw [hT];simp)).pos
  refine ⟨y,hy,by omega,?_⟩
  unfold dE lo
  rw [hT]
  simp only [aM,List.cons.injEq,and_true]
  omega
 have hpk:=hW.parOk
 have hup: ∃ u:Int,(kT h)[i]? =some u∧(u= -1∨ ∃ j:Nat,u=(j:Int)∧j<L.length∧ ∃ y,h[j]? =some y∧i∈dE j y):=by
  rcases hW.inv.up i (by omega) with hr|⟨j,y,hy,hk⟩
  ·
   exact ⟨-1,hpk.root i hr,.inl rfl⟩
  ·
   have hj:j<h.length:=(TV.1 hy).1
   exact ⟨(j:Int),hpk.kid j y hy i hk,.inr ⟨j,rfl,by omega,y,hy,hk⟩⟩
 obtain ⟨u,hu,hcase⟩:=hup
 refine ⟨u,hu,?_,?_,?_⟩
 ·
  rcases hcase with h|⟨j,h1,h2,_⟩
  ·
   exact .inl h
  ·
   exact .inr ⟨j,h1,h2⟩
 ·
  intro m hm hr
  obtain ⟨y,hy,_,hk⟩:=key (i+1) m hm hr
  have:=hpk.kid (i+1) y hy i (by rw [hk];simp)
  rw [hu] at this
  exact Option.some.inj this
 ·
  intro j m hj hm hr
  rcases hcase with h|⟨j',h1,h2,y',hy',hk'⟩
  ·
   omega
  ·
   obtain rfl:j=j' :=by omega
   obtain ⟨y,hy,hp,hk⟩:=key j m hm hr
   rw [hy'] at hy
   obtain rfl:=Option.some.inj hy
   rw [hk] at hk'
   have:=TX.1 hk'
   omega
end Go.SL
namespace Go.SL
open Go Go.Proofs
attribute [local irreducible] W WL WQ WG WA VOp thn blk bF ba FnAt FnIn Sr
set_option maxHeartbeats 4000000 in
theorem G7 (L:List Nd) (hwf: ∀ n∈L,wfN n) (tv:Value) (w:World) (ht:Reads w tv L.length (L.flatMap bR)):
  FnAt Tryz.prog 168 [tv] w fun v H=> ∃ A cap,v= .tuple #[sl A (iX L).1.length cap,.int .i64 (iX L).2]∧H= [.own A 100 6 (iX L).1.length cap ((iX L).1.flatMap cV)]:=by
 have ht' :=ht
 obtain ⟨Al,cl,rfl,hl1,hl2,hl3⟩:=ht
 refine ax Tryz.func168 rfl Tryz.ntmps168 rfl ?_
 refine aW 100 6 ?_
 have hck:=fun w0 (hm:Reads w0 (.slice Al L.length cl) L.length (L.flatMap bR))=>Ep L hwf _ w0 hm
 unfold iX
 by_cases hc:dI L=0
 rotate_left
 ·
  generalize dI L=e at hck hc
  repeat' (first|(apply aa;exact rfl;exact rfl;(intro w' hm;exact hck w' (ht'.of_w0 hm)))|refine sT ?_|refine sM fun _=> ?_|(refine sC ?_ ?_<;>intro hb<;>try omega)|fail)
  refine dc (.inl rfl) Tryz.results168 rfl rfl (H' := [.own none 100 6 0 0 []]) mS ⟨none,0,?_⟩
  rw [if_pos hc]
  exact ⟨rfl,rfl⟩
 rw [if_neg (by omega)]
 obtain ⟨hlen,S,Hi,hW,hk3,hct⟩:=FI hc
 obtain ⟨gl,ol,rfl,hrl⟩:=hl3 hW.pos
 rw [hc] at hck
 have hpar:=fun w0 (hm:Reads w0 (.slice (some ⟨gl,ol,none⟩) L.length cl) L.length (L.flatMap bR))=>IP L hlen S Hi hW _ w0 hm
 have hul:=zS L
 repeat' (first|(apply aa (f:=215);exact rfl;exact rfl;(intro w' hm;exact hck w' (ht'.of_w0 hm)))|(apply aF (f:=216);exact rfl;exact rfl;(intro w' hm;exact hpar w' (ht'.of_w0 hm));(rintro v H' ⟨Ap,cp,rfl,rfl⟩))|refine sT ?_|refine sM fun _=> ?_|(refine sC ?_ ?_<;>intro hb<;>try omega)|fail)
 have hpos:=hW.pos
 refine bK (A:=Ap) pK hpos fun gp hAp=> ?_
 subst hAp
 refine ay [0,6] rfl (fun x:Nat × List Us × Option Nat × Nat=> [(5,sl x.2.2.1 x.2.1.length x.2.2.2),(7,.int .i64 (x.1:Int))]) (fun x=> [.own x.2.2.1 100 6 x.2.1.length x.2.2.2 (x.2.1.flatMap cV),.own (some gp) 3 1 L.length cp (i9 (kT Hi))])
  (fun x=>x.1≤L.length∧eu L=x.2.1++bZ (L.drop x.1) x.1) (fun x=>L.length - x.1) (0,[],none,0) ⟨by omega,rfl⟩ sB mS ?_
 rintro ⟨i,pre,A,cap⟩ ⟨hi,hus⟩
 dsimp only at hi hus ⊢
 by_cases hlt:i<L.length
 ·
  have he:=hrl.elem dF i hlt
  obtain ⟨u,hu,hu1,hu2,hu3⟩:=HV hW hlt
  rw [TN hlt,bZ] at hus
  generalize L[i]=n at he hus
  have hcell:(i9 (kT Hi))[0+i*1]? =some (.int .i64 u):=by rw [Uc,Va];exact K8 hu
  by_cases hq:n.kind=2∨n.kind=3
  rotate_left
  ·
   have hrf:eP n=false:=by simp only [eP,Bool.or_eq_false_iff,decide_eq_false_iff_not];omega
   rw [hrf,cond_false] at hus
   repeat' (first|refine sT ?_|refine sN ?_|refine sO ?_|refine sM fun _=> ?_|(refine sC ?_ ?_<;>intro hb<;>try omega)|fail)
   refine ⟨(i+1,pre,A,cap),?_,(by first|omega|(dsimp only;omega)),sB,sB,mS⟩
   exact ⟨hlt,hus⟩
  have hrf:eP n=true:=by simp only [eP,Vo,decide_eq_true_eq];exact hq
  rw [hrf,cond_true] at hus
  have hlu:=congrArg List.length hus
  simp only [TG,TZ] at hlu
  have none_use:(∀ m,L[i+1]? =some m→ ¬ G5 m)→iY n i (L.drop (i+1))=⟨n.rect, -1,0⟩:=by
   intro h
   by_cases h1:i+1<L.length
   ·
    rw [TN h1]
    have:=h _ (TJ h1)
    unfold G5 at this
    simp only [iY,if_neg this]
   ·
    rw [Uk (by omega)];rfl
  rcases hu1 with hu1|⟨j,hu1,hj⟩
  ·
   subst hu1
   rw [none_use (fun m hm hr=>by have:=hu2 m hm hr;omega)] at hus
   repeat' (first|(apply ak (d:=45);exact rfl;apply aj;exact rfl;exact rfl;exact hlt)|(apply ak (d:=46);exact rfl;apply bG;exact rfl;exact pK;exact hcell)|(apply ak (d:=41);exact rfl;apply dC (off:=4) (ys:=aN n.rect) he;(iterate 3 exact rfl))|(apply bi;(iterate 3 exact rfl);(repeat first|exact .hd|apply Sel.tl|apply In.tl);(intro w hm;exact hm.cells_own (by (repeat first|exact .hd|apply Sel.tl|apply In.tl)));exact rfl;(simp [Value.oneCell',sl]);omega;(simp only [maxLen];omega);(intro A2 c2 h2))|refine sT ?_|refine sN ?_|refine sO ?_|refine sM fun _=> ?_|(refine sC ?_ ?_<;>intro hb<;>try omega)|fail)
   all_goals
    refine ⟨(i+1,pre++ [⟨n.rect, -1,0⟩],A2,c2),⟨hlt,by rw [hus,List.append_assoc];rfl⟩,(by dsimp only;omega),?_,?_,?_⟩
    ·
     dsimp only
     rw [TG]
     exact sB
    ·
     exact sB
    ·
     dsimp only
     rw [qo,TG]
     exact mS
  ·
   subst hu1
   have hj1:=hrl.elem dF j hj
   have hjg:=TJ hj
   have hu3' :=hu3 j _ rfl hjg
   generalize L[j]=m at hj1 hjg hu3'
   by_cases hrel:G5 m
   ·
    obtain rfl:=hu3' hrel
    have hr2:m.kind=7∧46≤m.fn:=hrel
    have hdr:L.drop (i+1)=m::L.drop (i+1+1):=by
     rw [TN hj]
     rw [TJ hj] at hjg
     rw [Option.some.inj hjg]
    have huo:iY n i (L.drop (i+1))=⟨n.rect,((i+1:Nat):Int),m.fn⟩:=by rw [hdr];simp only [iY,if_pos hr2]
    rw [huo] at hus
    repeat' (first|(apply ak (d:=45);exact rfl;apply aj;exact rfl;exact rfl;exact hlt)|(apply ak (d:=46);exact rfl;apply bG;exact rfl;exact pK;exact hcell)|(apply ak (d:=41);exact rfl;apply dC (off:=4) (ys:=aN n.rect) he;(iterate 3 exact rfl))|(apply bi;(iterate 3 exact rfl);(repeat first|exact .hd|apply Sel.tl|apply In.tl);(intro w hm;exact hm.cells_own (by (repeat first|exact .hd|apply Sel.tl|apply In.tl)));exact rfl;(simp [Value.oneCell',sl]);omega;(simp only [maxLen];omega);(intro A2 c2 h2))|((with_reducible apply rX (id:=13) (T:=100) (fun D=> [.int .i64 n.rect.c1,.int .i64 n.rect.r1,.int .i64 n.rect.c2,.int .i64 n.rect.r2,.int .i64 (bif D 7 then ((i+1:Nat):Int) else -1),.int .u8 (bif D 9 then m.fn else 0)]) (xs' := [.int .i64 n.rect.c1,.int .i64 n.rect.r1,.int .i64 n.rect.c2,.int .i64 n.rect.r2,.int .i64 ((i+1:Nat):Int),.int .u8 m.fn]));kernel_rfl;kernel_rfl;exact .hd;exact rfl;(intro D hD;simp only [hD 7 (by decide),hD 9 (by decide),cond_true]))|(apply Dm;exact rfl;(intro D ht;first|(apply aj;exact rfl;exact rfl;(first|assumption|omega))|(apply eH;exact rfl;assumption;exact rfl));exact fun _=>rfl)|refine sT ?_|refine sN ?_|refine sO ?_|refine sG ?_|refine sM fun _=> ?_|(refine sC ?_ ?_<;>intro hb<;>try omega)|fail)
    all_goals
     refine ⟨(i+1,pre++ [⟨n.rect,((i+1:Nat):Int),m.fn⟩],A2,c2),⟨hlt,by rw [hus,List.append_assoc];rfl⟩,(by dsimp only;omega),?_,?_,?_⟩
     ·
      dsimp only
      rw [TG]
      exact sB
     ·
      exact sB
     ·
      dsimp only
      rw [qo,TG]
      exact mS
   ·
    have hr2: ¬ (m.kind=7∧46≤m.fn):=hrel
    rw [none_use (fun m' hm hr=>by
     have h1:=hu2 m' hm hr
     have h2:j=i+1:=by omega
     subst h2
     rw [hjg] at hm
     obtain rfl:=Option.some.inj hm
     exact hrel hr)] at hus
    repeat' (first|(apply ak (d:=45);exact rfl;apply aj;exact rfl;exact rfl;exact hlt)|(apply ak (d:=46);exact rfl;apply bG;exact rfl;exact pK;exact hcell)|(apply ak (d:=41);exact rfl;apply dC (off:=4) (ys:=aN n.rect) he;(iterate 3 exact rfl))|(apply bi;(iterate 3 exact rfl);(repeat first|exact .hd|apply Sel.tl|apply In.tl);(intro w hm;exact hm.cells_own (by (repeat first|exact .hd|apply Sel.tl|apply In.tl)));exact rfl;(simp [Value.oneCell',sl]);omega;(simp only [maxLen];omega);(intro A2 c2 h2))|refine sT ?_|refine sN ?_|refine sO ?_|refine sM fun _=> ?_|(refine sC ?_ ?_<;>intro hb<;>try omega)|fail)
    all_goals
     refine ⟨(i+1,pre++ [⟨n.rect, -1,0⟩],A2,c2),⟨hlt,by rw [hus,List.append_assoc];rfl⟩,(by dsimp only;omega),?_,?_,?_⟩
     ·
      dsimp only
      rw [TG]
      exact sB
     ·
      exact sB
     ·
      dsimp only
      rw [qo,TG]
      exact mS
 ·
  have e:i=L.length:=by omega
  subst e
  rw [UB,bZ,TR] at hus
  rw [hus]
  repeat' (first|refine sT ?_|refine sM fun _=> ?_|(refine sC ?_ ?_<;>intro hb<;>try omega)|fail)
  exact dc (.inl rfl) Tryz.results168 rfl rfl (H' := [.own A 100 6 pre.length cap (pre.flatMap cV)]) mS ⟨A,cap,rfl,rfl⟩
end Go.SL
namespace Go.SL
open Go Go.Proofs
attribute [local irreducible] W WL WQ WG WA WX WLI WR WT WC VOp RW thn blk bF scp ba aZ bC FnAt FnIn FnP ceP
theorem Ef (b:Bool) (w:World):aD Tryz.prog 250 [.bool b] w (.agg (dV (nk b)).toArray):=by
 refine ax Tryz.func250 rfl Tryz.ntmps250 rfl ?_
 repeat' (first|refine sT ?_|refine sM fun _=> ?_|(refine sC ?_ ?_<;>intro hb<;>try omega)|fail)
 all_goals ((refine eRC ?_);simp_all [nk,dV,az])
theorem ry (c:Int) (w:World):aD Tryz.prog 252 [.int .i64 c] w (.agg (dV (gY c)).toArray):=by
 refine ax Tryz.func252 rfl Tryz.ntmps252 rfl ?_
 repeat' (first|refine sT ?_|refine sM fun _=> ?_|(refine sC ?_ ?_<;>intro hb<;>try omega)|fail)
 all_goals ((refine eRC ?_);simp only [gY];(first|rw [if_pos (by omega)]|rw [if_neg (by omega)]);rfl)
theorem HC (n:Int) (h: -9223372036854775808≤n) (w:World):aD Tryz.prog 254 [.int .i64 n] w (.agg (dV (x6 n)).toArray):=by
 refine ax Tryz.func254 rfl Tryz.ntmps254 rfl ?_
 have hf: ∀ w,aD Tryz.prog 252 [.int .i64 3] w (.agg #[.int .u8 4,.int .i64 3,.string az]):=fun w=>ry 3 w
 repeat' (first|(apply aa;exact rfl;exact rfl;(intro w hm;exact hf w))|refine sT ?_|refine sM fun _=> ?_|(refine sC ?_ ?_<;>intro hb<;>try omega)|fail)
 ·
  (refine eRC ?_)
  rw [x6,if_pos (by omega)];rfl
 ·
  (refine eRC ?_)
  rw [x6,if_neg (by omega)];rfl
def P5 (c:Int):ByteArray:=if 1≤c∧c≤7 then cR.getD c.toNat az else az
theorem Ay (c:Int) (w:World):aD Tryz.prog 294 [.int .i64 c] w (.string (P5 c)):=by
 refine ax Tryz.func294 rfl Tryz.ntmps294 rfl ?_
 repeat' (first|refine sT ?_|refine sS ?_|refine sM fun _=> ?_|(refine sC ?_ ?_<;>intro hb<;>try omega)|fail)
 all_goals first
  |((refine rT1 ?_);subst_vars;rfl)
  |((refine rT1 ?_);rw [P5,if_neg (by omega)];rfl)
theorem HG (a:ByteArray) (ha:a.size≤1000000) (w:World):aD Tryz.prog 251 [.string a] w (.tuple #[.int .i64 (jb a).1,.int .i64 (jb a).2]):=by
  refine ax Tryz.func251 rfl Tryz.ntmps251 rfl ?_
  have hU:=fun w=>lB a ha w
  unfold jb
  generalize upB a=u at hU
  obtain ⟨X,hX⟩: ∃ X,jM u (cR.drop 1) 1=X:=⟨_,rfl⟩
  rw [hX]
  repeat' (first|refine sT ?_|refine sS ?_|refine sM fun _=> ?_|(refine sC ?_ ?_<;>intro hb<;>try omega)|fail)
  refine ay [0,2,3] rfl (fun i:Nat=> [(4,.int .i64 ((i:Int)+1))]) (fun _=> []) (fun i=>i≤7∧X=jM u (cR.drop (i+1)) ((i:Int)+1)) (fun i=>7 - i) 0 ⟨by omega,hX.symm⟩ sB (.refl _) ?_
  rintro i ⟨hi,hc⟩
  by_cases hlt:i<7
  · rw [uU (by omega),jM] at hc
    have hN: ∀ w,aD Tryz.prog 294 [.int .i64 ((i:Int)+1)] w (.string (cR.getD (i+1) az)):=fun w=>by
      have:=Ay ((i:Int)+1) w
      rw [P5,if_pos (by omega)] at this
      exact this
    generalize cR.getD (i+1) az=x at hN hc
    repeat' (first|(apply aa (f:=294);exact rfl;exact rfl;(intro w' hm;exact hN w'))|(apply aa;exact rfl;exact rfl;(intro w hm;exact hU w))|refine sT ?_|refine sS ?_|refine sJ ?_|refine sM fun _=> ?_|(refine sC ?_ ?_<;>intro hb<;>try omega)|fail)
    all_goals first
      |(refine dc eIO rfl rfl rfl (.nil _) ?_;rw [hc,if_pos (by assumption)];done)
      | (refine ⟨i + 1, ⟨by omega, ?_⟩, by omega, ?_, ?_, .nil _⟩
         · rw [hc,if_neg (by assumption)];rfl
         · exact sB
         · exact sB)
  · have e:i=7:=by omega
    subst e
    repeat' (first|refine sT ?_|refine sS ?_|refine sM fun _=> ?_|(refine sC ?_ ?_<;>intro hb<;>try omega)|fail)
    all_goals (refine dc eIO rfl rfl rfl (.nil _) ?_;rw [hc];rfl)
theorem Hz (c:Int) (h1:1≤c) (h2:c≤5) (w:World):aD Tryz.prog 339 [.agg (dV ⟨4,c,az⟩).toArray] w (.string (cR.getD c.toNat az)):=by
 refine ax Tryz.func339 rfl Tryz.ntmps339 rfl ?_
 have he:decide ((⟨4,c,az⟩:Vl)=gY 7)=false:=by rw [← JO];simp [eqV,gY];omega
 have hv:ra ⟨4,c,az⟩=0:=by
  have h6:decide (c≤6)=true:=decide_eq_true (by omega)
  simp [ra,wY,h1,h6]
 have hc:=fun w=>Aj ⟨4,c,az⟩ (by dsimp only;omega) w
 rw [hv] at hc
 have hN:=fun w=>Ay c w
 rw [show P5 c=cR.getD c.toNat az from if_pos ⟨h1,by omega⟩] at hN
 repeat' (first|(apply (eW (id:=1) [1] []);kernel_rfl;kernel_rfl;kernel_rfl)|(apply aa;exact rfl;exact rfl;(intro w hm;exact ry 7 w))|(apply eG;(iterate 3 exact rfl);apply Kf (a:=⟨4,c,az⟩) (b:=gY 7) he;exact rfl;exact rfl)|(apply aa;exact rfl;exact rfl;(intro w hm;exact hc w))|(apply aa;exact rfl;exact rfl;(intro w hm;exact hN w))|refine sT ?_|refine sW ?_|refine sM fun _=> ?_|(refine sC ?_ ?_<;>intro hb<;>try omega)|(refine sCW ?_ ?_<;>intro hb<;>try omega)|fail)
 all_goals ((refine rT1 ?_);rfl)
end Go.SL
namespace Go.SL
open Go Go.Proofs Go.RowKit
section
variable {P:Program} {n:Fr} {w0:World} {Q:ck} {s:aB} {H:List Blk} {ty:TypeId} {x y:Operand} {k:IntKind} {a b:Int} {t t' :TypeId}
theorem SD (hx:ev s x=some (.int k a)) (hy:ev s y=some (.int k b)) (h:b≠0):VOp P w0 s H (.binOp .quo t x y t') ty (.int k (k.wrap (a.tdiv b))):=fun ρ w _ _ _ _ hρ _=>by
 simp [execOp,hρ x _ hx,hρ y _ hy,eqGuard,binOp,Op.intDiv,h]
theorem oF {c:Int} (hx:ev s x=some (.int k a)) (hy:ev s y=some (.int k b)) (h:b≠0) (hc:k.wrap (a.tdiv b)=c):VOp P w0 s H (.binOp .quo t x y t') ty (.int k c):=hc ▸ SD hx hy h
theorem mg {c:Int} (hx:ev s x=some (.int k a)) (hy:ev s y=some (.int k b)) (h:b≠0) (hc:a.tmod b=c):VOp P w0 s H (.binOp .rem t x y t') ty (.int k c):=hc ▸ SC hx hy h
theorem iD {c:Int} (hx:ev s x=some (.int k a)) (hy:ev s y=some (.int k b)) (hc:k.wrap (a*b)=c):VOp P w0 s H (.binOp .mul t x y t') ty (.int k c):=hc ▸ Gj hx hy
end
attribute [local irreducible] W WL WQ WG WA WX WLI WR WT WC VOp RW thn blk bF scp ba aZ bC FnAt FnIn FnP ceP
def gJ (v:Int):List Value:= [.int .u64 (v / 18446744073709551616),.int .u64 (v % 18446744073709551616)]
theorem mf {v:Int} (h0:0≤v) (h:v<18446744073709551616):gJ v= [.int .u64 0,.int .u64 v]:=by
 unfold gJ
 rw [Int.ediv_eq_zero_of_lt h0 h,Int.emod_eq_of_lt h0 h]
theorem wD (x y:Int) (hx:0≤x) (hy:0≤y) (h:x+y<340282366920938463463374607431768211456) (w:World):aD Tryz.prog 296 [.agg (gJ x).toArray,.agg (gJ y).toArray] w (.agg (gJ (x+y)).toArray):=by
 refine ax Tryz.func296 rfl Tryz.ntmps296 rfl ?_
 obtain ⟨xh,hxh⟩: ∃ z,x / 18446744073709551616=z:=⟨_,rfl⟩
 obtain ⟨xl,hxl⟩: ∃ z,x % 18446744073709551616=z:=⟨_,rfl⟩
 obtain ⟨yh,hyh⟩: ∃ z,y / 18446744073709551616=z:=⟨_,rfl⟩
 obtain ⟨yl,hyl⟩: ∃ z,y % 18446744073709551616=z:=⟨_,rfl⟩
 unfold gJ
 rw [hxh,hxl,hyh,hyl]
 obtain ⟨l,hlw⟩: ∃ z,IntKind.u64.wrap (xl+yl)=z:=⟨_,rfl⟩
 obtain ⟨h1,hhw⟩: ∃ z,IntKind.u64.wrap (xh+yh)=z:=⟨_,rfl⟩
 have hl2:=hlw
 have hh2:=hhw
 rw [IntKind.wrap_u64] at hl2 hh2
 have h11:IntKind.u64.wrap (h1+1)=(h1+1) % 18446744073709551616:=IntKind.wrap_u64 _
 repeat' (first|(apply ak (d:=11);exact rfl;apply eY;exact rfl;exact rfl;exact hlw)|(apply ak (d:=16);exact rfl;apply eY;exact rfl;exact rfl;exact hhw)|(apply ak (d:=22);exact rfl;apply eY;exact rfl;exact rfl;exact h11)|refine sT ?_|refine sM fun _=> ?_|(refine sC ?_ ?_<;>intro hb<;>try omega)|fail)
 all_goals
  (refine eRC ?_)
  have e1:(x+y) % 18446744073709551616=l:=by omega
  rw [e1]
  congr 4
  omega
set_option maxHeartbeats 1000000 in
theorem GJ (u:Int) (h0:0≤u) (h1:u<18446744073709551616) (w:World):aD Tryz.prog 297 [.int .u64 u,.int .u64 10] w (.agg (gJ (10*u)).toArray):=by
 refine ax Tryz.func297 rfl Tryz.ntmps297 rfl ?_
 obtain ⟨al,hal⟩: ∃ z,u % 4294967296=z:=⟨_,rfl⟩
 obtain ⟨ah,hah⟩: ∃ z,u / 4294967296=z:=⟨_,rfl⟩
 have b1:0≤al∧al<4294967296:=by omega
 have b2:0≤ah∧ah<4294967296:=by omega
 have t1:u.tmod 4294967296=al:=by rw [VZ h0];exact hal
 have t2:IntKind.u64.wrap (u.tdiv 4294967296)=ah:=by rw [Wt h0,hah,IntKind.wrap_u64];omega
 have t3:(10:Int).tmod 4294967296=10:=by decide
 have t4:IntKind.u64.wrap ((10:Int).tdiv 4294967296)=0:=by decide
 have m1:IntKind.u64.wrap (ah*0)=0:=by rw [Int.mul_zero];decide
 have m2:IntKind.u64.wrap (al*10)=al*10:=by rw [IntKind.wrap_u64];omega
 have m3:IntKind.u64.wrap (ah*10)=ah*10:=by rw [IntKind.wrap_u64];omega
 have q3:IntKind.u64.wrap ((ah*10).tdiv 4294967296)=ah*10 / 4294967296:=by rw [Wt (by omega),IntKind.wrap_u64];omega
 have r3:(ah*10).tmod 4294967296=ah*10 % 4294967296:=VZ (by omega)
 have m4:IntKind.u64.wrap (ah*10 % 4294967296*4294967296)=ah*10 % 4294967296*4294967296:=by rw [IntKind.wrap_u64];omega
 have m5:IntKind.u64.wrap (al*0)=0:=by rw [Int.mul_zero];decide
 have q5:IntKind.u64.wrap ((0:Int).tdiv 4294967296)=0:=by decide
 have r5:(0:Int).tmod 4294967296=0:=by decide
 have m6:IntKind.u64.wrap ((0:Int)*4294967296)=0:=by decide
 have e1:gJ (al*10)= [.int .u64 0,.int .u64 (al*10)]:=mf (by omega) (by omega)
 have e2:gJ (ah*10*4294967296)= [.int .u64 (ah*10 / 4294967296),.int .u64 (ah*10 % 4294967296*4294967296)]:=by
  have ea:ah*10*4294967296 / 18446744073709551616=ah*10 / 4294967296:=by omega
  have eb:ah*10*4294967296 % 18446744073709551616=ah*10 % 4294967296*4294967296:=by omega
  rw [gJ,ea,eb]
 have e3:gJ 0= [.int .u64 0,.int .u64 0]:=mf (by omega) (by omega)
 have p1:=fun w=>wD (al*10) (ah*10*4294967296) (by omega) (by omega) (by omega) w
 have p2:=fun w=>wD (al*10+ah*10*4294967296) 0 (by omega) (by omega) (by omega) w
 rw [e1,e2] at p1
 rw [e3,Int.add_zero] at p2
 have e4:al*10+ah*10*4294967296=10*u:=by omega
 rw [e4] at p1 p2
 have hb: ∀ c:Int,(4294967296:Int)≠0:=fun _=>by decide
 repeat' (first|(apply ak (d:=11);exact rfl;apply mg;exact rfl;exact rfl;exact hb 0;exact t1)|(apply ak (d:=13);exact rfl;apply oF;exact rfl;exact rfl;exact hb 0;exact t2)|(apply ak (d:=15);exact rfl;apply mg;exact rfl;exact rfl;exact hb 0;exact t3)|(apply ak (d:=17);exact rfl;apply oF;exact rfl;exact rfl;exact hb 0;exact t4)|(apply ak (d:=20);exact rfl;apply iD;exact rfl;exact rfl;exact m1)|(apply ak (d:=23);exact rfl;apply iD;exact rfl;exact rfl;exact m2)|(apply ak (d:=28);exact rfl;apply iD;exact rfl;exact rfl;exact m3)|(apply ak (d:=29);exact rfl;apply oF;exact rfl;exact rfl;exact hb 0;exact q3)|(apply ak (d:=32);exact rfl;apply iD;exact rfl;exact rfl;exact m3)|(apply ak (d:=33);exact rfl;apply mg;exact rfl;exact rfl;exact hb 0;exact r3)|(apply ak (d:=34);exact rfl;apply iD;exact rfl;exact rfl;exact m4)|(apply ak (d:=40);exact rfl;apply iD;exact rfl;exact rfl;exact m5)|(apply ak (d:=41);exact rfl;apply oF;exact rfl;exact rfl;exact hb 0;exact q5)|(apply ak (d:=44);exact rfl;apply iD;exact rfl;exact rfl;exact m5)|(apply ak (d:=45);exact rfl;apply mg;exact rfl;exact rfl;exact hb 0;exact r5)|(apply ak (d:=46);exact rfl;apply iD;exact rfl;exact rfl;exact m6)|(apply aa (d:=36);exact rfl;exact rfl;(intro w' hm;exact p1 w'))|(apply aa (d:=48);exact rfl;exact rfl;(intro w' hm;exact p2 w'))|refine sT ?_|refine sM fun _=> ?_|(refine sC ?_ ?_<;>intro hb<;>try omega)|fail)
 (refine eRC ?_)
 rfl
theorem ny (v:Int) (neg:Bool) (h0:0≤v) (h1:v<340282366920938463463374607431768211456) (w:World):aD Tryz.prog 298 [.agg (gJ v).toArray,.bool neg] w (.tuple #[.int .i64 (if cZ<v then 0 else if neg then -v else v),.bool (decide (v≤cZ))]):=by
 refine ax Tryz.func298 rfl Tryz.ntmps298 rfl ?_
 have hm:cZ=9223372036854775807:=rfl
 by_cases hv:v≤cZ
 ·
  rw [if_neg (by omega),decide_eq_true hv,mf h0 (by omega)]
  have hw:IntKind.i64.wrap v=v:=rP h0 hv
  cases neg
  ·
   repeat' (first|(apply ak;exact rfl;apply bB;exact rfl;exact hw)|refine sT ?_|refine sM fun _=> ?_|(refine sC ?_ ?_<;>intro hb<;>try omega)|fail)
   all_goals first|(exfalso;omega)|((refine rT2 ?_);rfl)
  ·
   repeat' (first|(apply ak;exact rfl;apply bB;exact rfl;exact hw)|(apply ak;exact rfl;apply Qz;exact rfl;exact ⟨by omega,by omega⟩)|refine sT ?_|refine sM fun _=> ?_|(refine sC ?_ ?_<;>intro hb<;>try omega)|fail)
   all_goals first|(exfalso;omega)|((refine rT2 ?_);rfl)
 ·
  rw [if_pos (by omega),decide_eq_false hv]
  unfold gJ
  obtain ⟨vh,hvh⟩: ∃ z,v / 18446744073709551616=z:=⟨_,rfl⟩
  obtain ⟨vl,hvl⟩: ∃ z,v % 18446744073709551616=z:=⟨_,rfl⟩
  rw [hvh,hvl]
  repeat' (first|refine sT ?_|refine sM fun _=> ?_|(refine sC ?_ ?_<;>intro hb<;>try omega)|fail)
  all_goals first|(exfalso;omega)|((refine rT2 ?_);rfl)
theorem sL (a:ByteArray) (ha:a.size≤1000000) (i0:Nat) (w:World):aD Tryz.prog 295 [.string a,.int .i64 (i0:Int)] w (.int .i64 ((i0+aG aJ ((ap a).drop i0):Nat):Int)):=by
 refine ax Tryz.func295 rfl Tryz.ntmps295 rfl ?_
 have hl:=aw a
 by_cases hbig:a.size≤i0
 ·
  rw [sx (by omega),Vi]
  repeat' (first|refine sT ?_|refine sS ?_|refine sT2 ?_|refine sM fun _=> ?_|(refine sC ?_ ?_<;>intro hb<;>try omega)|fail)
  refine ay [0] rfl (fun _:Unit=> [(1,.int .i64 (i0:Int))]) (fun _=> []) (fun _=>True) (fun _=>0) () trivial sB (.refl _) ?_
  rintro ⟨⟩ -
  repeat' (first|refine sT ?_|refine sS ?_|refine sT2 ?_|refine sM fun _=> ?_|(refine sC ?_ ?_<;>intro hb<;>try omega)|fail)
  all_goals first|(exfalso;omega)|((refine rT1 ?_);rfl)
 obtain ⟨X,hX⟩: ∃ X,i0+aG aJ ((ap a).drop i0)=X:=⟨_,rfl⟩
 rw [hX]
 repeat' (first|refine sT ?_|refine sS ?_|refine sT2 ?_|refine sM fun _=> ?_|(refine sC ?_ ?_<;>intro hb<;>try omega)|fail)
 refine ay [0] rfl (fun i:Nat=> [(1,.int .i64 (i:Int))]) (fun _=> []) (fun i=>i≤a.size∧X=i+aG aJ ((ap a).drop i)) (fun i=>a.size - i) i0 ⟨by omega,hX.symm⟩ sB (.refl _) ?_
 rintro i ⟨hi,hx⟩
 by_cases hlt:i<a.size
 ·
  rw [bz hlt,aG] at hx
  have hd:=fI (bat a i)
  repeat' (first|(apply ak;exact rfl;apply bh (j:=i);exact rfl;exact rfl;exact hlt)|refine sT ?_|refine sS ?_|refine sT2 ?_|refine sN ?_|refine sM fun _=> ?_|(refine sC ?_ ?_<;>intro hb<;>try omega)|fail)
  all_goals first
   |(refine ⟨i+1,⟨hlt,?_⟩,by omega,sB,sB,.nil _⟩;rw [hx,if_pos (hd.2 ⟨by assumption,by assumption⟩)];omega)
   |((refine rT1 ?_);rw [hx,if_neg (fun h=>by have:=hd.1 h;omega)];rfl)
 ·
  have e:i=a.size:=by omega
  subst e
  rw [sx (by omega),Vi] at hx
  repeat' (first|refine sT ?_|refine sS ?_|refine sT2 ?_|refine sM fun _=> ?_|(refine sC ?_ ?_<;>intro hb<;>try omega)|fail)
  all_goals first|(exfalso;omega)|((refine rT1 ?_);rw [hx])
end Go.SL
