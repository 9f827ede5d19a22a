/-
  Lemmas and walks, put together: W18 W19 W20 W21 W22 Tr5 W36 W37 R2.
-/
import Derived.Test.YtlnecnbfmnfigaaGreatDoorKu22
set_option linter.unusedSimpArgs false
set_option linter.unusedVariables false
set_option maxRecDepth 20000
namespace Go.SL
open Go Go.Proofs
attribute [local irreducible] W WL WQ WG WA VOp thn blk bZ bA FnAt FnIn
theorem xT {L:List Nd} {n:Nd} {i:Nat} {st:List Pt} {e:Int} (h:js L n i st= .inl e):e≠0:=by
 unfold js at h
 split at h
 ·
  injection h with h;subst h;assumption
 ·
  split at h
  ·
   injection h with h;omega
  ·
   split at h
   ·
    injection h with h;omega
   ·
    cases h
theorem sH {L:List Nd} {n:Nd} {i:Nat} {st st' :List Pt} {ks:List Nat} {d:Nat} (h:js L n i st= .inr (st',ks,d)): ∃ a,(∀ p∈a,p∈st)∧a.length≤st.length∧st' =a++ [⟨i,d,decide (n.kind=3)⟩]∧d≤32:=by
 unfold js at h
 split at h
 ·
  cases h
 ·
  split at h
  ·
   cases h
  ·
   split at h
   ·
    cases h
   ·
    simp only [Sum.inr.injEq,Prod.mk.injEq] at h
    obtain ⟨rfl,rfl,rfl⟩:=h
    exact ⟨_,fun p hp=>P2 hp,by simp,rfl,by omega⟩
theorem Bo {L:List Nd} {i:Nat} (hi:i<L.length) {st st' :List Pt} {ks:List Nat} {d:Nat} (ho:TopsOk L i st) (h:js L L[i] i st= .inr (st',ks,d)):TopsOk L (i+1) st' :=by
 obtain ⟨a,h1,h2,rfl,h3⟩:=sH h
 refine ⟨fun p hp=> ?_,by have:=ho.small;simp;omega⟩
 rcases Pz.1 hp with hp|hp
 ·
  obtain ⟨q1,q2,q3⟩:=ho.ok p (h1 p hp)
  exact ⟨by omega,q2,q3⟩
 ·
  rw [Pv.1 hp]
  exact ⟨RY i,h3,by rw [i9 hi]⟩
def cX (L:List Nd):List Nd→Nat→List Pt→List Pt × Int
 | [],_,st=>(st,0)
 |n::r,i,st=>match js L n i st with
  | .inl e=>([],e)
  | .inr x=>cX L r (i+1) x.1
def CF (st:List Pt):Nat:=(st.getLast?.map Pt.depth).getD 0
theorem v8 (L:List Nd): ∀ (r:List Nd) (i:Nat) (st:List Pt) (vs:List mh),F7 vs=CF st→
  (eQ L r i st vs).1=(if (cX L r i st).2≠0 then (cX L r i st).2 else if (cX L r i st).1.length=1 then 0 else 4)∧((cX L r i st).2=0→F7 (eQ L r i st vs).2=CF (cX L r i st).1)
 | [],i,st,vs,h=>by
  refine ⟨?_,fun _=>h⟩
  by_cases h1:st.length=1<;>simp [eQ,cX,h1]
 |n::r,i,st,vs,h=>by
  rw [eQ,cX]
  cases hs:js L n i st with
  |inl e=>have:=xT hs;simp [this]
  |inr x=>
   obtain ⟨st',ks,d⟩:=x
   obtain ⟨a,_,_,rfl,_⟩:=sH hs
   dsimp only
   exact v8 L r (i+1) _ _ (by simp [F7,CF])
theorem BR (L:List Nd):lK L=(if 256<L.length then (0,5) else if (cX L L 0 []).2≠0 then (0,(cX L L 0 []).2) else if (cX L L 0 []).1.length≠1∨ja L (L.length - 1)=3 then (0,4) else (((CF (cX L L 0 []).1:Nat):Int),0):Int × Int):=by
 obtain ⟨h1,h2⟩:=v8 L L 0 [] [] rfl
 have h0:L.length=0→(cX L L 0 []).2=0∧(cX L L 0 []).1.length=0:=fun c=>by
  have:L= []:=Qk c
  subst this
  simp [cX]
 unfold lK dB jH
 generalize eQ L L 0 [] []=wk at h1 h2
 generalize cX L L 0 []=j at h0 h1 h2
 generalize ja L (L.length - 1)=k
 obtain ⟨w1,w2⟩:=wk
 obtain ⟨j1,j2⟩:=j
 dsimp only at h0 h1 h2 ⊢
 by_cases c1:256<L.length
 ·
  simp [c1]
 by_cases c2:L.length=0
 ·
  obtain ⟨a1,a2⟩:=h0 c2
  simp only [if_neg c1,if_pos c2]
  simp [a1,a2]
 simp only [if_neg c1,if_neg c2]
 clear c1 c2 h0
 by_cases c3:j2=0
 ·
  have h2' :=h2 c3
  by_cases c4:j1.length=1
  ·
   by_cases c5:k=3<;>simp_all
  ·
   simp_all
 ·
  simp_all
theorem Kc (L:List Nd) (hlen:L.length≤256) (hwf: ∀ n∈L,wfN n) (tv:Value) (w:World) (ht:Reads w tv L.length (L.flatMap bg)):
  FnAt Tryz.prog 260 [tv] w fun v H=> ∃ A cap,v= .tuple #[sl A (cX L L 0 []).1.length cap,.int .i64 (cX L L 0 []).2]∧H= [.own A 352 2 (cX L L 0 []).1.length cap ((cX L L 0 []).1.flatMap pZ)]:=by
 have ht' :=ht
 obtain ⟨At,ct,rfl,ht1,ht2,ht3⟩:=ht
 refine aA Tryz.func260 rfl Tryz.ntmps260 rfl ?_
 refine aK 352 2 ?_
 refine aK 352 2 ?_
 generalize hR:cX L L 0 []=R
 repeat' (first|refine sT ?_|refine sM fun _=> ?_|(refine sC ?_ ?_<;>intro hb<;>try omega)|fail)
 refine ax [0] rfl (fun x:Nat × List Pt × Option Nat × Nat=> [(4,sl x.2.2.1 x.2.1.length x.2.2.2),(5,.int .i64 (x.1:Int))]) (fun x=> [.own x.2.2.1 352 2 x.2.1.length x.2.2.2 (x.2.1.flatMap pZ),.own none 352 2 0 0 []]) (fun x=>x.1≤L.length∧TopsOk L x.1 x.2.1∧R=cX L (L.drop x.1) x.1 x.2.1) (fun x=>L.length - x.1) (0,[],none,0) ⟨by omega,⟨fun p hp=>by simp at hp,Pb _⟩,hR.symm⟩ sB mS ?_
 rintro ⟨i,st,A,cap⟩ ⟨hi,hok,hrec⟩
 dsimp only at hi hok hrec ⊢
 by_cases hlt:i<L.length
 ·
  rw [Pf hlt,cX] at hrec
  have hnode:=fun (w' :World) (H:List Blk) (hm:Mem w w' H) (hr:Reads w' (sl A st.length cap) st.length (st.flatMap pZ))=>Es L i hlt hlen (hwf _ (PG hlt)) st hok _ _ w' (ht'.of_w0 hm) hr
  have hto:=fun {st' ks d}=>Bo (st' :=st') (ks:=ks) (d:=d) hlt hok
  unfold vO at hnode
  generalize hs:js L L[i] i st=s at hrec hnode hto
  cases s with
  |inl e=>
   have he:=xT hs
   dsimp only at hrec hnode
   subst hrec
   repeat' (first|(apply aS;exact rfl;exact rfl;(intro w' hm;exact hnode w' _ hm (Reads.of_own hm pK));(rintro v H' ⟨A',cap',rfl,rfl⟩))|refine sT ?_|refine sM fun _=> ?_|(refine sC ?_ ?_<;>intro hb<;>try omega)|fail)
   ·
    exact cN (.inl rfl) Tryz.results260 rfl rfl (H' := [.own none 352 2 0 0 []]) mS ⟨none,0,rfl,rfl⟩
  |inr x=>
   obtain ⟨st',ks,d⟩:=x
   dsimp only at hrec hnode
   repeat' (first|(apply aS;exact rfl;exact rfl;(intro w' hm;exact hnode w' _ hm (Reads.of_own hm pK));(rintro v H' ⟨A',cap',rfl,rfl⟩))|refine sT ?_|refine sN ?_|refine sM fun _=> ?_|(refine sC ?_ ?_<;>intro hb<;>try omega)|fail)
   refine ⟨(i+1,st',A',cap'),?_,(by first|omega|(dsimp only;omega)),sB,sB,mS⟩
   exact ⟨hlt,hto rfl,hrec⟩
 ·
  have e:i=L.length:=by omega
  subst e
  rw [PT,cX] at hrec
  subst hrec
  repeat' (first|refine sT ?_|refine sM fun _=> ?_|(refine sC ?_ ?_<;>intro hb<;>try omega)|fail)
  exact cN (.inl rfl) Tryz.results260 rfl rfl (H' := [.own A 352 2 st.length cap (st.flatMap pZ)]) mS ⟨A,cap,rfl,rfl⟩
theorem HW {st:List Pt} (h:st.length=1): ∃ p,st= [p]∧CF st=p.depth:=by
 match st,h with
 | [p],_=>exact ⟨p,rfl,rfl⟩
theorem sU (L:List Nd) (hwf: ∀ n∈L,wfN n) (tv:Value) (w:World) (ht:Reads w tv L.length (L.flatMap bg)):aF Tryz.prog 218 [tv] w (.tuple #[.int .i64 (lK L).1,.int .i64 (lK L).2]):=by
 have ht' :=ht
 obtain ⟨At,ct,rfl,ht1,ht2,ht3⟩:=ht
 refine aA Tryz.func218 rfl Tryz.ntmps218 rfl ?_
 have hd:=BR L
 generalize hde:lK L=de at hd
 by_cases h256:256<L.length
 ·
  rw [if_pos h256] at hd
  subst hd
  repeat' (first|refine sT ?_|refine sM fun _=> ?_|(refine sC ?_ ?_<;>intro hb<;>try omega)|fail)
  (refine rT2 ?_)
  rfl
 have hj:=fun (w' :World) (H:List Blk) (hm:Mem w w' H)=>Kc L (by omega) hwf _ w' (ht'.of_w0 hm)
 rw [if_neg h256] at hd
 have h0:L.length=0→(cX L L 0 []).1.length=0:=fun c=>by
  have:L= []:=Qk c
  subst this
  simp [cX]
 generalize cX L L 0 []=j at hj hd h0
 obtain ⟨st,e⟩:=j
 dsimp only at hj hd h0
 by_cases he:e=0
 ·
  rw [if_neg (by simp [he])] at hd
  by_cases hl:st.length=1
  ·
   obtain ⟨p,rfl,hp⟩:=HW hl
   obtain ⟨gt,ot,rfl,hrt⟩:=ht3 (by omega)
   have hrl:=hrt.elem cE (L.length - 1) (by omega)
   have hk:ja L (L.length - 1)=(L[L.length - 1]'(by omega)).kind:=i9 _
   rw [hk,hp] at hd
   generalize (L[L.length - 1]'(by omega))=nl at hrl hd
   subst he
   repeat' (first|(apply aS;exact rfl;exact rfl;(intro w' hm;exact hj w' _ hm);(rintro v H' ⟨A',cap',rfl,rfl⟩))|refine sT ?_|refine sN ?_|refine sO ?_|refine sM fun _=> ?_|(refine sC ?_ ?_<;>intro hb<;>try omega)|fail)
   ·
    rw [if_pos (.inr hb)] at hd
    subst hd
    (refine rT2 ?_)
    rfl
   ·
    rw [if_neg (by simp;omega)] at hd
    subst hd
    refine FB .hd (by simp) fun ga hA=> ?_
    subst hA
    repeat' (first|(apply aj;exact rfl;apply ag (j:=0);exact rfl;exact rfl;exact Nat.one_pos)|(apply aj;exact rfl;apply aC;exact rfl;exact pK;exact rfl)|refine sT ?_|refine sM fun _=> ?_|(refine sC ?_ ?_<;>intro hb<;>try omega)|fail)
    (refine rT2 ?_)
    rfl
  ·
   rw [if_pos (.inl hl)] at hd
   subst hd he
   repeat' (first|(apply aS;exact rfl;exact rfl;(intro w' hm;exact hj w' _ hm);(rintro v H' ⟨A',cap',rfl,rfl⟩))|refine sT ?_|refine sN ?_|refine sO ?_|refine sM fun _=> ?_|(refine sC ?_ ?_<;>intro hb<;>try omega)|fail)
   (refine rT2 ?_)
   rfl
 ·
  rw [if_pos he] at hd
  subst hd
  repeat' (first|(apply aS;exact rfl;exact rfl;(intro w' hm;exact hj w' _ hm);(rintro v H' ⟨A',cap',rfl,rfl⟩))|refine sT ?_|refine sM fun _=> ?_|(refine sC ?_ ?_<;>intro hb<;>try omega)|fail)
  (refine rT2 ?_)
  rfl
theorem BT (L:List Nd) (hwf: ∀ n∈L,wfN n) (tv:Value) (w:World) (ht:Reads w tv L.length (L.flatMap bg)):aF Tryz.prog 157 [tv] w (.int .i64 (dB L)):=by
 refine aA Tryz.func157 rfl Tryz.ntmps157 rfl ?_
 have hd:(lK L).2=dB L:=by
  unfold lK
  split
  ·
   rfl
  ·
   rename_i h;simp at h;simp [h]
 repeat' (first|(apply aa;exact rfl;exact rfl;(intro w' hm;exact sU L hwf tv w' (ht.of_w0 hm)))|refine sT ?_|refine sM fun _=> ?_|(refine sC ?_ ?_<;>intro hb<;>try omega)|fail)
 (refine rT1 ?_)
 rw [hd]
theorem Bw {n:Nd} {st l top:List STree} (hs:gz n st= .inr (l,top)):(top.length:Int)=below n∧st=l++top:=by
 unfold gz at hs
 split at hs
 ·
  cases hs
 rename_i hf
 split at hs
 ·
  cases hs
 rename_i hb
 split at hs
 ·
  cases hs
 rename_i hd
 simp only [Sum.inr.injEq,Prod.mk.injEq] at hs
 obtain ⟨rfl,rfl⟩:=hs
 have h0:=(rX (n:=n) (by omega)).1
 refine ⟨?_,(PP _ _).symm⟩
 simp only [fp,Pp]
 omega
theorem DA {n:Nd} {r:List Nd} {st st' :List STree} {h h' :iE} (hw:fg (n::r) st h=(0,st',h')): ∃ l top,gz n st= .inr (l,top)∧fg r (l++ [bI n top]) (h++ [(top,bI n top)])=(0,st',h'):=by
 rw [fg] at hw
 cases hsf:gz n st with
 |inl e=>
  rw [hsf] at hw
  simp only [Prod.mk.injEq] at hw
  obtain ⟨rfl,_⟩:=hw
  exfalso
  unfold gz at hsf
  split at hsf
  ·
   injection hsf with hs
   exact absurd hs (by assumption)
  ·
   split at hsf
   ·
    cases hsf
   ·
    split at hsf<;>cases hsf
 |inr x=>
  obtain ⟨l,top⟩:=x
  rw [hsf] at hw
  exact ⟨l,top,rfl,hw⟩
theorem tj {st:List STree} (hp: ∀ S∈st,0<S.ns.length):st.length≤(bi st).length:=by
 induction st with
 |nil=>exact Pb _
 |cons S r ih=>
  have h1:=hp S O7
  have h2:=ih fun T hT=>hp T (O9 _ hT)
  rw [fH,O2,Pe]
  omega
theorem BC (o:List Int) (ks:List Nat) (j:Nat) (h:j<ks.length) (v:Int):fY o (ks.take (j+1)) v=(fY o (ks.take j) v).set ks[j] v:=by
 unfold fY
 rw [Po h,RN]
 rfl
def iM (l:List Int):List Value:=l.map (Value.int .i64)
theorem zS (l:List Int):(iM l).length=l.length:=by simp [iM]
theorem H5 {l:List Int} {i:Nat} {u:Int} (h:l[i]? =some u):(iM l)[i]? =some (.int .i64 u):=by simp [iM,h]
theorem H4 (l:List Int) (i:Nat) (v:Int):(iM l).set i (.int .i64 v)=iM (l.set i v):=by simp [iM,List.map_set]
theorem HZ (l:List Nat): ∀ u∈kK l,u.oneCell' =true:=by
 intro u hu
 obtain ⟨a,_,rfl⟩:=Py.1 hu
 rfl
set_option maxHeartbeats 2000000 in
theorem Fu (L:List Nd) (hlen:L.length≤256) (S:STree) (Hi:iE) (hW:Whole L S Hi) (tv:Value) (w:World) (ht:Reads w tv L.length (L.flatMap bg)):
  FnAt Tryz.prog 158 [tv] w fun v H=> ∃ A cap,v=sl A L.length cap∧H= [.own A 3 1 L.length cap (iM (kD Hi))]:=by
 have ht' :=ht
 obtain ⟨At,ct,rfl,ht1,ht2,ht3⟩:=ht
 refine aA Tryz.func158 rfl Tryz.ntmps158 rfl ?_
 refine aK 3 1 ?_
 refine aK 3 1 ?_
 repeat' (first|refine sT ?_|refine sT2 ?_|refine sM fun _=> ?_|(refine sC ?_ ?_<;>intro hb<;>try omega)|fail)
 refine ax [0] rfl (fun x:Nat × List STree × iE × (Option Nat × Nat) × (Option Nat × Nat)=> [(3,sl x.2.2.2.1.1 x.1 x.2.2.2.1.2),(4,sl x.2.2.2.2.1 x.2.1.length x.2.2.2.2.2),(5,.int .i64 (x.1:Int))])
  (fun x=> [.own x.2.2.2.1.1 3 1 x.1 x.2.2.2.1.2 (iM (kD x.2.2.1)),.own x.2.2.2.2.1 3 1 x.2.1.length x.2.2.2.2.2 (kK (aM 0 x.2.1))])
  (fun x=>x.1≤L.length∧Inv (L.take x.1) x.2.1 x.2.2.1∧ParOk x.2.1 x.2.2.1∧fg (L.drop x.1) x.2.1 x.2.2.1=(0,[S],Hi)) (fun x=>L.length - x.1) (0,[],[],(none,0),(none,0))
  ⟨by omega,Inv.nil,⟨rfl,fun j y hy=>(by simp at hy),fun k hk=>(by simp [aM] at hk)⟩,hW.walk⟩ sB mS ?_
 rintro ⟨i,st,h,⟨A1,c1⟩,⟨A2,c2⟩⟩ ⟨hi,hI,hP,hw⟩
 dsimp only at hi hI hP hw ⊢
 have hhl:h.length=i:=by rw [hI.len,Pr];omega
 by_cases hlt:i<L.length
 ·
  rw [Pf hlt] at hw
  obtain ⟨l,top,hs,hw'⟩:=DA hw
  obtain ⟨hbl,hst⟩:=Bw hs
  obtain ⟨_,hlen2,hlo,hlp,htp⟩:=hI.facts hs
  have hP' :=vK hI hP hs
  have hI' :=(hI.step hs).1
  have htk:L.take (i+1)=L.take i++ [L[i]]:=Po hlt
  rw [← htk] at hI'
  obtain ⟨gt,ot,rfl,hrt⟩:=ht3 (by omega)
  have hrn:=hrt.elem cE i hlt
  have hbel:=fun w=>hbl ▸ sV L[i] w
  generalize L[i]=n at hrn hbel hs hw' hbl hlo hP' hI'
  have hkids:aM 0 (l++top)=aM 0 l++dx h.length (top,bI n top):=by rw [dD,dx,hlo,Pn]
  have hkl:(dx h.length (top,bI n top)).length=top.length:=lT _ _
  have hpar:=lV h (top,bI n top)
  have hkb: ∀ k∈dx h.length (top,bI n top),k<i:=fun k hk=>by
   rw [dx,hlo] at hk
   have:=(kA htp hk).2
   omega
  have hset:=fun (o:List Int) (j:Nat) (hj:j<(dx h.length (top,bI n top)).length) (v:Int)=>BC o (dx h.length (top,bI n top)) j hj v
  generalize dx h.length (top,bI n top)=K at hkids hkl hpar hkb hset
  subst hst
  have hll:(l++top).length=l.length+top.length:=O2
  have hrl:(aM 0 l).length=l.length:=lT _ _
  have hsmall:l.length+top.length≤256:=by
   have h1:=tj hlp
   have h2:=tj htp
   omega
  rw [hll]
  repeat' (first|(apply bU;(iterate 3 exact rfl);(repeat first|exact .hd|apply Sel.tl|apply In.tl);(intro w hm;exact hm.cells_own (by (repeat first|exact .hd|apply Sel.tl|apply In.tl)));exact rfl;(simp [Value.oneCell',sl]);omega;(simp only [maxLen];omega);(intro A' cap' hA'))|(apply aa;exact rfl;exact rfl;(intro w hm;exact hbel w))|refine sT ?_|refine sT2 ?_|refine sN ?_|refine sO ?_|refine sM fun _=> ?_|(refine sC ?_ ?_<;>intro hb<;>try omega)|fail)
  rw [Sd]
  have e0:iM (kD h)++ [.int .i64 (-1)]=iM (fY (kD h++ [-1]) (K.take 0) (i:Int)):=by simp [iM,fY]
  rw [e0]
  refine ax [0,3,4,5,6] rfl (fun j:Nat=> [(7,.int .i64 ((l.length+j:Nat):Int))]) (fun j=> [.own A' 3 1 (i+1) cap' (iM (fY (kD h++ [-1]) (K.take j) (i:Int))),.own A2 3 1 (l.length+top.length) c2 (kK (aM 0 (l++top)))])
   (fun j=>j≤top.length) (fun j=>top.length - j) 0 (Pb _) sB mS ?_
  rintro j hj
  by_cases hjk:j<top.length
  ·
   refine bW (.tl .hd) (by omega) fun g2 hA2=> ?_
   refine bW .hd (by omega) fun g1 hA1=> ?_
   subst hA2 hA1
   have hKj:=O5 (show j<K.length by omega)
   have hkj:=hkb _ (PG (show j<K.length by omega))
   have hs1:=hset (kD h++ [-1]) j (by omega) (i:Int)
   generalize K[j]=kj at hKj hkj hs1
   have hrt2:(kK (aM 0 (l++top)))[0+(l.length+j)*1]? =some (.int .i64 (kj:Int)):=by
    rw [hkids,Pn,QD,kK,Pw,PQ (by omega),show l.length+j - (aM 0 l).length=j by omega,hKj]
    rfl
   have hsl:(fY (kD h++ [-1]) (K.take j) (i:Int)).length=i+1:=by rw [oZ];simp [hP.len,hhl]
   have hcell:(iM (fY (kD h++ [-1]) (K.take j) (i:Int))).set (0+kj*1) (.int .i64 (i:Int))=iM (fY (kD h++ [-1]) (K.take (j+1)) (i:Int)):=by
    rw [Pn,QD,H4,hs1]
   repeat' (first|(apply aj;exact rfl;apply aC;exact rfl;exact pK;exact hrt2)|(apply dW;exact rfl;exact rfl;exact pK;exact rfl;(rw [zS];omega);rw [hcell])|refine sT ?_|refine sT2 ?_|refine sN ?_|refine sO ?_|refine sM fun _=> ?_|(refine sC ?_ ?_<;>intro hb<;>try omega)|fail)
   refine ⟨j+1,?_,(by first|omega|(dsimp only;omega)),sB,sB,mS⟩
   exact hjk
  ·
   have e:j=top.length:=by omega
   subst e
   rw [PM (by omega)]
   have htake:(kK (aM 0 (l++top))).take (l.length*1)=kK (aM 0 l):=by
    rw [hkids,QD,kK,← List.map_take,SM hrl];rfl
   have hl1:(kK (aM 0 l)).length=l.length*1:=by rw [zR,hrl,QD]
   refine xI (A:=A2) (.tl .hd) fun q1 q2 q3=> ?_
   repeat' (first|(apply cG;exact rfl;intro gb)|(apply aj;exact rfl;apply Bd (hi:=l.length);exact rfl;exact rfl;omega)|(apply cB (n' :=0) (c:=0) (A:=some _) (m:=l.length) (news:=kK (aM 0 l));(iterate 3 exact rfl);exact pK;(intro w' hm;rw [← htake];exact Reads.of_own_take (A:=A2) hm pK (Nat.le_add_right _ _));exact hl1;exact HZ _;omega;(simp only [maxLen];omega);intro A4 c4 h4)|(apply bU;(iterate 3 exact rfl);(repeat first|exact .hd|apply Sel.tl|apply In.tl);(intro w hm;exact hm.cells_own (by (repeat first|exact .hd|apply Sel.tl|apply In.tl)));exact rfl;(simp [Value.oneCell',sl]);omega;(simp only [maxLen];omega);(intro A5 c5 h5))|refine sT ?_|refine sT2 ?_|refine sN ?_|refine sO ?_|refine sM fun _=> ?_|(refine sC ?_ ?_<;>intro hb<;>try omega)|fail)
   have e1:fY (kD h++ [-1]) K (i:Int)=kD (h++ [(top,bI n top)]):=by rw [hpar,hhl]
   have e2: []++kK (aM 0 l)++ [.int .i64 (i:Int)]=kK (aM 0 (l++ [bI n top])):=by
    rw [dD]
    simp only [aM,cV,kK,P4,O4]
    congr 2
    simp
    omega
   have e3:0+l.length+1=(l++ [bI n top]).length:=by simp
   rw [e1,e2,e3]
   refine ⟨(i+1,l++ [bI n top],h++ [(top,bI n top)],(A',cap'),(A5,c5)),?_,(by first|omega|(dsimp only;omega)),sB,sB,mS⟩
   exact ⟨hlt,hI',hP',hw'⟩
 ·
  have e:i=L.length:=by omega
  subst e
  rw [PT,fg] at hw
  simp only [Prod.mk.injEq] at hw
  obtain ⟨_,_,rfl⟩:=hw
  repeat' (first|refine sT ?_|refine sT2 ?_|refine sM fun _=> ?_|(refine sC ?_ ?_<;>intro hb<;>try omega)|fail)
  exact bK (.inl rfl) Tryz.results158 rfl (H' := [.own A1 3 1 L.length c1 (iM (kD h))]) mS ⟨A1,c1,rfl,rfl⟩
end Go.SL
namespace Go.SL
open Go
theorem G8 {n:Nd} {st l top:List STree} (hs:gz n st= .inr (l,top)):bF n=0∧(top.length:Int)=below n:=by
 unfold gz at hs
 split at hs
 ·
  cases hs
 rename_i hf
 split at hs
 ·
  cases hs
 rename_i hb
 split at hs
 ·
  cases hs
 simp only [Sum.inr.injEq,Prod.mk.injEq] at hs
 obtain ⟨rfl,rfl⟩:=hs
 have hlk:(fp st (below n).toNat).length=min st.length (below n).toNat:=by simp [fp];omega
 have hb0:(0:Int)≤below n:=by
  have hk:eL n=true:=by
   cases hk:eL n
   ·
    exfalso
    apply hf
    intro h0
    simp [bF,hk] at h0
   ·
    rfl
  unfold below
  by_cases h7:n.kind=7
  ·
   simp [eL,h7] at hk
   simp [h7];exact hk
  ·
   (repeat' split)<;>omega
 have hle: ¬ (st.length:Int)<below n:=fun h=>hb (Or.inl h)
 exact ⟨by omega,by omega⟩
def MS (h:iE):Prop:= ∀ (j:Nat) (y:List STree × STree),h[j]? =some y→ ∃ n,(y.1.length:Int)=below n∧y.2=bI n y.1∧bF n=0
theorem Whole.lens {L:List Nd} {S:STree} {h:iE} (hW:Whole L S h):MS h:=by
 refine oC (fun _ h=>MS h) (fun dn n st h l top hI hP hs=> ?_) L [] [] [] [S] h ?_ ?_ hW.walk
 ·
  intro j y hy
  by_cases hj:j<h.length
  ·
   rw [PJ hj] at hy
   exact hP j y hy
  ·
   rw [PQ (by omega)] at hy
   obtain ⟨h1,h2⟩:=G8 hs
   have e:y=(top,bI n top):=by
    cases hq:j - h.length with
    |zero=>rw [hq] at hy;exact (Option.some.inj hy).symm
    |succ k=>rw [hq] at hy;simp at hy
   subst e
   exact ⟨n,h2,rfl,h1⟩
 ·
  exact Inv.nil
 ·
  intro j y hy
  simp at hy
def Ek (m:Nd):Prop:=m.kind=7∧46≤m.fn
theorem LK {m:Nd} (hf:bF m=0) (hr:Ek m):below m=1:=by
 obtain ⟨h7,h46⟩:=hr
 unfold bF at hf
 split at hf
 ·
  cases hf
 rw [if_neg (show ¬ m.kind≠7 by omega)] at hf
 split at hf
 ·
  rename_i h;exact absurd hf h
 rename_i ha
 split at hf
 ·
  cases hf
 rename_i hn
 have h50:m.fn≤50:=by
  by_cases h:m.fn≤50
  ·
   exact h
  ·
   exfalso
   apply ha
   have hk:cW m.fn=false:=by
    unfold cW
    rw [decide_eq_true (show 1≤m.fn by omega),decide_eq_false h]
    rfl
   unfold eG
   rw [hk,if_neg (by omega),if_neg (by omega),if_neg (by omega),if_neg (by omega),if_neg (by omega),if_neg (by omega)]
   decide
 have har:eG m.fn=(1,1,0):=by
  have:m.fn=46∨m.fn=47∨m.fn=48∨m.fn=49∨m.fn=50:=by omega
  rcases this with h|h|h|h|h<;>rw [h]<;>decide+kernel
 rw [har] at hn
 dsimp only at hn
 unfold below
 rw [if_neg (by omega),if_neg (by omega),if_pos h7]
 omega
theorem EK {L:List Nd} {S:STree} {h:iE} (hW:Whole L S h) {i:Nat} (hi:i<L.length):
  ∃ u:Int,(kD h)[i]? =some u∧(u= -1∨ ∃ j:Nat,u=(j:Int)∧j<L.length)∧(∀ m,L[i+1]? =some m→Ek m→u=((i+1:Nat):Int))∧(∀ (j:Nat) m,u=(j:Int)→L[j]? =some m→Ek m→j=i+1):=by
 have hHl:=hW.inv.len
 have key: ∀ j m,L[j]? =some m→Ek m→ ∃ y,h[j]? =some y∧0<j∧dx j y= [j - 1]:=by
  intro j m hm hr
  have hj:j<L.length:=(Pk.1 hm).1
  obtain ⟨y,hy⟩: ∃ y,h[j]? =some y:=⟨_,O5 (by omega)⟩
  obtain ⟨n,hn,e2,hgt,hgT,hTl,hseg⟩:=hW.inv.node j y hy
  obtain ⟨n',hl',e2',hf'⟩:=hW.lens j y hy
  have hnn:n' =n:=by
   rw [e2] at e2'
   have:=congrArg (fun T:STree=>T.ns.getLast?) e2'
   simpa [bI] using this.symm
  subst hnn
  rw [hm] at hn
  obtain rfl:=Option.some.inj hn
  rw [LK hf' hr] at hl'
  obtain ⟨T,hT⟩: ∃ T,y.1= [T]:=by
   match hq:y.1,hl' with
   | [T],_=>exact ⟨T,rfl⟩
   | [],h=>simp at h
   |_::_::_,h=>simp at h;omega
  have hlen:y.2.ns.length=T.ns.length+1:=by rw [e2,cV,hT];simp [bi]
  have hTp:0<T.ns.length:=(hgt T (by rw [hT];simp)).pos
  refine ⟨y,hy,by omega,?_⟩
  unfold dx lo
  rw [hT]
  simp only [aM,List.cons.injEq,and_true]
  omega
 have hpk:=hW.parOk
 have hup: ∃ u:Int,(kD h)[i]? =some u∧(u= -1∨ ∃ j:Nat,u=(j:Int)∧j<L.length∧ ∃ y,h[j]? =some y∧i∈dx j y):=by
  rcases hW.inv.up i (by omega) with hr|⟨j,y,hy,hk⟩
  ·
   exact ⟨-1,hpk.root i hr,.inl rfl⟩
  ·
   have hj:j<h.length:=(Pk.1 hy).1
   exact ⟨(j:Int),hpk.kid j y hy i hk,.inr ⟨j,rfl,by omega,y,hy,hk⟩⟩
 obtain ⟨u,hu,hcase⟩:=hup
 refine ⟨u,hu,?_,?_,?_⟩
 ·
  rcases hcase with h|⟨j,h1,h2,_⟩
  ·
   exact .inl h
  ·
   exact .inr ⟨j,h1,h2⟩
 ·
  intro m hm hr
  obtain ⟨y,hy,_,hk⟩:=key (i+1) m hm hr
  have:=hpk.kid (i+1) y hy i (by rw [hk];simp)
  rw [hu] at this
  exact Option.some.inj this
 ·
  intro j m hj hm hr
  rcases hcase with h|⟨j',h1,h2,y',hy',hk'⟩
  ·
   omega
  ·
   obtain rfl:j=j' :=by omega
   obtain ⟨y,hy,hp,hk⟩:=key j m hm hr
   rw [hy'] at hy
   obtain rfl:=Option.some.inj hy
   rw [hk] at hk'
   have:=Pv.1 hk'
   omega
end Go.SL
namespace Go.SL
open Go Go.Proofs
attribute [local irreducible] W WL WQ WG WA VOp thn blk bZ bA FnAt FnIn MD
set_option maxHeartbeats 4000000 in
theorem Em (L:List Nd) (hwf: ∀ n∈L,wfN n) (tv:Value) (w:World) (ht:Reads w tv L.length (L.flatMap bg)):
  FnAt Tryz.prog 115 [tv] w fun v H=> ∃ A cap,v= .tuple #[sl A (iH L).1.length cap,.int .i64 (iH L).2]∧H= [.own A 89 6 (iH L).1.length cap ((iH L).1.flatMap bQ)]:=by
 have ht' :=ht
 obtain ⟨Al,cl,rfl,hl1,hl2,hl3⟩:=ht
 refine aA Tryz.func115 rfl Tryz.ntmps115 rfl ?_
 refine aK 89 6 ?_
 have hck:=fun w0 (hm:Reads w0 (.slice Al L.length cl) L.length (L.flatMap bg))=>BT L hwf _ w0 hm
 unfold iH
 by_cases hc:dB L=0
 rotate_left
 ·
  generalize dB L=e at hck hc
  repeat' (first|(apply aa;exact rfl;exact rfl;(intro w' hm;exact hck w' (ht'.of_w0 hm)))|refine sT ?_|refine sM fun _=> ?_|(refine sC ?_ ?_<;>intro hb<;>try omega)|fail)
  refine cN (.inl rfl) Tryz.results115 rfl rfl (H' := [.own none 89 6 0 0 []]) mS ⟨none,0,?_⟩
  rw [if_pos hc]
  exact ⟨rfl,rfl⟩
 rw [if_neg (by omega)]
 obtain ⟨hlen,S,Hi,hW,hk3,hct⟩:=Di hc
 obtain ⟨gl,ol,rfl,hrl⟩:=hl3 hW.pos
 rw [hc] at hck
 have hpar:=fun w0 (hm:Reads w0 (.slice (some ⟨gl,ol,none⟩) L.length cl) L.length (L.flatMap bg))=>Fu L hlen S Hi hW _ w0 hm
 have hul:=xP L
 repeat' (first|(apply aa (f:=157);exact rfl;exact rfl;(intro w' hm;exact hck w' (ht'.of_w0 hm)))|(apply aS (f:=158);exact rfl;exact rfl;(intro w' hm;exact hpar w' (ht'.of_w0 hm));(rintro v H' ⟨Ap,cp,rfl,rfl⟩))|refine sT ?_|refine sM fun _=> ?_|(refine sC ?_ ?_<;>intro hb<;>try omega)|fail)
 have hpos:=hW.pos
 refine bW (A:=Ap) pK hpos fun gp hAp=> ?_
 subst hAp
 refine ax [0,6] rfl (fun x:Nat × List Us × Option Nat × Nat=> [(5,sl x.2.2.1 x.2.1.length x.2.2.2),(7,.int .i64 (x.1:Int))]) (fun x=> [.own x.2.2.1 89 6 x.2.1.length x.2.2.2 (x.2.1.flatMap bQ),.own (some gp) 3 1 L.length cp (iM (kD Hi))])
  (fun x=>x.1≤L.length∧dY L=x.2.1++dI (L.drop x.1) x.1) (fun x=>L.length - x.1) (0,[],none,0) ⟨by omega,rfl⟩ sB mS ?_
 rintro ⟨i,pre,A,cap⟩ ⟨hi,hus⟩
 dsimp only at hi hus ⊢
 by_cases hlt:i<L.length
 ·
  have he:=hrl.elem cE i hlt
  obtain ⟨u,hu,hu1,hu2,hu3⟩:=EK hW hlt
  rw [Pf hlt,dI] at hus
  generalize L[i]=n at he hus
  have hcell:(iM (kD Hi))[0+i*1]? =some (.int .i64 u):=by rw [Pn,QD];exact H5 hu
  by_cases hq:n.kind=2∨n.kind=3
  rotate_left
  ·
   have hrf:fQ n=false:=by simp only [fQ,Bool.or_eq_false_iff,decide_eq_false_iff_not];omega
   rw [hrf,cond_false] at hus
   repeat' (first|refine sT ?_|refine sN ?_|refine sO ?_|refine sM fun _=> ?_|(refine sC ?_ ?_<;>intro hb<;>try omega)|fail)
   refine ⟨(i+1,pre,A,cap),?_,(by first|omega|(dsimp only;omega)),sB,sB,mS⟩
   exact ⟨hlt,hus⟩
  have hrf:fQ n=true:=by simp only [fQ,QU,decide_eq_true_eq];exact hq
  rw [hrf,cond_true] at hus
  have hlu:=congrArg List.length hus
  simp only [O2,Pe] at hlu
  have none_use:(∀ m,L[i+1]? =some m→ ¬ Ek m)→nA n i (L.drop (i+1))=⟨n.rect, -1,0⟩:=by
   intro h
   by_cases h1:i+1<L.length
   ·
    rw [Pf h1]
    have:=h _ (O5 h1)
    unfold Ek at this
    simp only [nA,if_neg this]
   ·
    rw [PA (by omega)];rfl
  rcases hu1 with hu1|⟨j,hu1,hj⟩
  ·
   subst hu1
   rw [none_use (fun m hm hr=>by have:=hu2 m hm hr;omega)] at hus
   repeat' (first|(apply aj (d:=45);exact rfl;apply ag;exact rfl;exact rfl;exact hlt)|(apply aj (d:=46);exact rfl;apply aC;exact rfl;exact pK;exact hcell)|(apply aj (d:=41);exact rfl;apply cI (off:=4) (ys:=aH n.rect) he;(iterate 3 exact rfl))|(apply bU;(iterate 3 exact rfl);(repeat first|exact .hd|apply Sel.tl|apply In.tl);(intro w hm;exact hm.cells_own (by (repeat first|exact .hd|apply Sel.tl|apply In.tl)));exact rfl;(simp [Value.oneCell',sl]);omega;(simp only [maxLen];omega);(intro A2 c2 h2))|refine sT ?_|refine sN ?_|refine sO ?_|refine sM fun _=> ?_|(refine sC ?_ ?_<;>intro hb<;>try omega)|fail)
   all_goals
    refine ⟨(i+1,pre++ [⟨n.rect, -1,0⟩],A2,c2),⟨hlt,by rw [hus,List.append_assoc];rfl⟩,(by dsimp only;omega),?_,?_,?_⟩
    ·
     dsimp only
     rw [O2]
     exact sB
    ·
     exact sB
    ·
     dsimp only
     rw [oK,O2]
     exact mS
  ·
   subst hu1
   have hj1:=hrl.elem cE j hj
   have hjg:=O5 hj
   have hu3' :=hu3 j _ rfl hjg
   generalize L[j]=m at hj1 hjg hu3'
   by_cases hrel:Ek m
   ·
    obtain rfl:=hu3' hrel
    have hr2:m.kind=7∧46≤m.fn:=hrel
    have hdr:L.drop (i+1)=m::L.drop (i+1+1):=by
     rw [Pf hj]
     rw [O5 hj] at hjg
     rw [Option.some.inj hjg]
    have huo:nA n i (L.drop (i+1))=⟨n.rect,((i+1:Nat):Int),m.fn⟩:=by rw [hdr];simp only [nA,if_pos hr2]
    rw [huo] at hus
    repeat' (first|(apply aj (d:=45);exact rfl;apply ag;exact rfl;exact rfl;exact hlt)|(apply aj (d:=46);exact rfl;apply aC;exact rfl;exact pK;exact hcell)|(apply aj (d:=41);exact rfl;apply cI (off:=4) (ys:=aH n.rect) he;(iterate 3 exact rfl))|(apply bU;(iterate 3 exact rfl);(repeat first|exact .hd|apply Sel.tl|apply In.tl);(intro w hm;exact hm.cells_own (by (repeat first|exact .hd|apply Sel.tl|apply In.tl)));exact rfl;(simp [Value.oneCell',sl]);omega;(simp only [maxLen];omega);(intro A2 c2 h2))|((with_reducible apply qd (id:=13) (T:=89) (fun D=> [.int .i64 n.rect.c1,.int .i64 n.rect.r1,.int .i64 n.rect.c2,.int .i64 n.rect.r2,.int .i64 (bif D 7 then ((i+1:Nat):Int) else -1),.int .u8 (bif D 9 then m.fn else 0)]) (xs' := [.int .i64 n.rect.c1,.int .i64 n.rect.r1,.int .i64 n.rect.c2,.int .i64 n.rect.r2,.int .i64 ((i+1:Nat):Int),.int .u8 m.fn]));kernel_rfl;kernel_rfl;exact .hd;exact rfl;(intro D hD;simp only [hD 7 (by decide),hD 9 (by decide),cond_true]))|(apply AV;exact rfl;(intro D ht;first|(apply ag;exact rfl;exact rfl;(first|assumption|omega))|(apply dG;exact rfl;assumption;exact rfl));exact fun _=>rfl)|refine sT ?_|refine sN ?_|refine sO ?_|refine sG ?_|refine sM fun _=> ?_|(refine sC ?_ ?_<;>intro hb<;>try omega)|fail)
    all_goals
     refine ⟨(i+1,pre++ [⟨n.rect,((i+1:Nat):Int),m.fn⟩],A2,c2),⟨hlt,by rw [hus,List.append_assoc];rfl⟩,(by dsimp only;omega),?_,?_,?_⟩
     ·
      dsimp only
      rw [O2]
      exact sB
     ·
      exact sB
     ·
      dsimp only
      rw [oK,O2]
      exact mS
   ·
    have hr2: ¬ (m.kind=7∧46≤m.fn):=hrel
    rw [none_use (fun m' hm hr=>by
     have h1:=hu2 m' hm hr
     have h2:j=i+1:=by omega
     subst h2
     rw [hjg] at hm
     obtain rfl:=Option.some.inj hm
     exact hrel hr)] at hus
    repeat' (first|(apply aj (d:=45);exact rfl;apply ag;exact rfl;exact rfl;exact hlt)|(apply aj (d:=46);exact rfl;apply aC;exact rfl;exact pK;exact hcell)|(apply aj (d:=41);exact rfl;apply cI (off:=4) (ys:=aH n.rect) he;(iterate 3 exact rfl))|(apply bU;(iterate 3 exact rfl);(repeat first|exact .hd|apply Sel.tl|apply In.tl);(intro w hm;exact hm.cells_own (by (repeat first|exact .hd|apply Sel.tl|apply In.tl)));exact rfl;(simp [Value.oneCell',sl]);omega;(simp only [maxLen];omega);(intro A2 c2 h2))|refine sT ?_|refine sN ?_|refine sO ?_|refine sM fun _=> ?_|(refine sC ?_ ?_<;>intro hb<;>try omega)|fail)
    all_goals
     refine ⟨(i+1,pre++ [⟨n.rect, -1,0⟩],A2,c2),⟨hlt,by rw [hus,List.append_assoc];rfl⟩,(by dsimp only;omega),?_,?_,?_⟩
     ·
      dsimp only
      rw [O2]
      exact sB
     ·
      exact sB
     ·
      dsimp only
      rw [oK,O2]
      exact mS
 ·
  have e:i=L.length:=by omega
  subst e
  rw [PT,dI,Pa] at hus
  rw [hus]
  repeat' (first|refine sT ?_|refine sM fun _=> ?_|(refine sC ?_ ?_<;>intro hb<;>try omega)|fail)
  exact cN (.inl rfl) Tryz.results115 rfl rfl (H' := [.own A 89 6 pre.length cap (pre.flatMap bQ)]) mS ⟨A,cap,rfl,rfl⟩
end Go.SL
namespace Go.SL
open Go Go.Proofs
attribute [local irreducible] W WL WQ WG WA WX VOp thn blk bZ bA FnAt FnIn MD
theorem Eu (a b:Rct) (w:World):aF Tryz.prog 128 [.agg (aH a).toArray,.agg (aH b).toArray] w (.tuple #[.agg (aH (nU a b).1).toArray,.bool (nU a b).2]):=by
 refine aA Tryz.func128 rfl Tryz.ntmps128 rfl ?_
 have h1:=fun w=>kB a w
 have h2:=fun w=>kB b w
 have h3:=fun w=>kB (mZ a b) w
 unfold nU
 have hall: [a,b,mZ a b].all bh=(bh a && (bh b && bh (mZ a b))):=by simp
 rw [hall]
 unfold iL at h1 h2 h3
 generalize bh a=q1 at*
 generalize bh b=q2 at*
 generalize bh (mZ a b)=q3 at*
 cases q1<;>cases q2<;>cases q3
 all_goals
  dsimp only [cond_true,cond_false] at h1 h2 h3
  repeat' (first|(apply aa;exact rfl;exact rfl;(intro w hm;exact h1 w))|(apply aa;exact rfl;exact rfl;(intro w hm;exact h2 w))|(apply aa;exact rfl;exact rfl;(intro w hm;exact h3 w))|refine sT ?_|refine sM fun _=> ?_|(refine sC ?_ ?_<;>intro hb<;>try omega)|fail)
  refine x5 (.inl rfl) Tryz.results128 rfl pK rfl rfl (MSub.nil _) ?_
  rfl
end Go.SL
namespace Go.SL
open Go Go.Proofs
attribute [local irreducible] W WL WQ WG WA WX WLI WR WT WC VOp RW thn blk bZ scp bA bV ck FnAt FnIn FnP ceP
theorem BK (b:Bool) (w:World):aF Tryz.prog 209 [.bool b] w (.agg (dN (mE b)).toArray):=by
 refine aA Tryz.func209 rfl Tryz.ntmps209 rfl ?_
 repeat' (first|refine sT ?_|refine sM fun _=> ?_|(refine sC ?_ ?_<;>intro hb<;>try omega)|fail)
 all_goals ((refine eRC ?_);simp_all [mE,dN,ay])
theorem pO (c:Int) (w:World):aF Tryz.prog 211 [.int .i64 c] w (.agg (dN (gF c)).toArray):=by
 refine aA Tryz.func211 rfl Tryz.ntmps211 rfl ?_
 repeat' (first|refine sT ?_|refine sM fun _=> ?_|(refine sC ?_ ?_<;>intro hb<;>try omega)|fail)
 all_goals ((refine eRC ?_);simp only [gF];(first|rw [if_pos (by omega)]|rw [if_neg (by omega)]);rfl)
theorem Ev (n:Int) (h: -9223372036854775808≤n) (w:World):aF Tryz.prog 213 [.int .i64 n] w (.agg (dN (vX n)).toArray):=by
 refine aA Tryz.func213 rfl Tryz.ntmps213 rfl ?_
 have hf: ∀ w,aF Tryz.prog 211 [.int .i64 3] w (.agg #[.int .u8 4,.int .i64 3,.string ay]):=fun w=>pO 3 w
 repeat' (first|(apply aa;exact rfl;exact rfl;(intro w hm;exact hf w))|refine sT ?_|refine sM fun _=> ?_|(refine sC ?_ ?_<;>intro hb<;>try omega)|fail)
 ·
  (refine eRC ?_)
  rw [vX,if_pos (by omega)];rfl
 ·
  (refine eRC ?_)
  rw [vX,if_neg (by omega)];rfl
def Mc (c:Int):ByteArray:=if 1≤c∧c≤7 then cM.getD c.toNat ay else ay
theorem x7 (c:Int) (w:World):aF Tryz.prog 252 [.int .i64 c] w (.string (Mc c)):=by
 refine aA Tryz.func252 rfl Tryz.ntmps252 rfl ?_
 repeat' (first|refine sT ?_|refine sS ?_|refine sM fun _=> ?_|(refine sC ?_ ?_<;>intro hb<;>try omega)|fail)
 all_goals first
  |((refine rT1 ?_);subst_vars;rfl)
  |((refine rT1 ?_);rw [Mc,if_neg (by omega)];rfl)
theorem Ez (a:ByteArray) (ha:a.size≤1000000) (w:World):aF Tryz.prog 210 [.string a] w (.tuple #[.int .i64 (iN a).1,.int .i64 (iN a).2]):=by
  refine aA Tryz.func210 rfl Tryz.ntmps210 rfl ?_
  have hU:=fun w=>lf a ha w
  unfold iN
  generalize upB a=u at hU
  obtain ⟨X,hX⟩: ∃ X,jB u (cM.drop 1) 1=X:=⟨_,rfl⟩
  rw [hX]
  repeat' (first|refine sT ?_|refine sS ?_|refine sM fun _=> ?_|(refine sC ?_ ?_<;>intro hb<;>try omega)|fail)
  refine ax [0,2,3] rfl (fun i:Nat=> [(4,.int .i64 ((i:Int)+1))]) (fun _=> []) (fun i=>i≤7∧X=jB u (cM.drop (i+1)) ((i:Int)+1)) (fun i=>7 - i) 0 ⟨by omega,hX.symm⟩ sB (.refl _) ?_
  rintro i ⟨hi,hc⟩
  by_cases hlt:i<7
  · rw [sr (by omega),jB] at hc
    have hN: ∀ w,aF Tryz.prog 252 [.int .i64 ((i:Int)+1)] w (.string (cM.getD (i+1) ay)):=fun w=>by
      have:=x7 ((i:Int)+1) w
      rw [Mc,if_pos (by omega)] at this
      exact this
    generalize cM.getD (i+1) ay=x at hN hc
    repeat' (first|(apply aa (f:=252);exact rfl;exact rfl;(intro w' hm;exact hN w'))|(apply aa;exact rfl;exact rfl;(intro w hm;exact hU w))|refine sT ?_|refine sS ?_|refine sJ ?_|refine sM fun _=> ?_|(refine sC ?_ ?_<;>intro hb<;>try omega)|fail)
    all_goals first
      |(refine cN eIO rfl rfl rfl (.nil _) ?_;rw [hc,if_pos (by assumption)];done)
      | (refine ⟨i + 1, ⟨by omega, ?_⟩, by omega, ?_, ?_, .nil _⟩
         · rw [hc,if_neg (by assumption)];rfl
         · exact sB
         · exact sB)
  · have e:i=7:=by omega
    subst e
    repeat' (first|refine sT ?_|refine sS ?_|refine sM fun _=> ?_|(refine sC ?_ ?_<;>intro hb<;>try omega)|fail)
    all_goals (refine cN eIO rfl rfl rfl (.nil _) ?_;rw [hc];rfl)
theorem Er (c:Int) (h1:1≤c) (h2:c≤5) (w:World):aF Tryz.prog 321 [.agg (dN ⟨4,c,ay⟩).toArray] w (.string (cM.getD c.toNat ay)):=by
 refine aA Tryz.func321 rfl Tryz.ntmps321 rfl ?_
 have he:decide ((⟨4,c,ay⟩:Vl)=gF 7)=false:=by rw [← Gb];simp [eqV,gF];omega
 have hv:pH ⟨4,c,ay⟩=0:=by
  have h6:decide (c≤6)=true:=decide_eq_true (by omega)
  simp [pH,uE,h1,h6]
 have hc:=fun w=>x6 ⟨4,c,ay⟩ (by dsimp only;omega) w
 rw [hv] at hc
 have hN:=fun w=>x7 c w
 rw [show Mc c=cM.getD c.toNat ay from if_pos ⟨h1,by omega⟩] at hN
 repeat' (first|(apply (kg (id:=1) [1] []);kernel_rfl;kernel_rfl;kernel_rfl)|(apply aa;exact rfl;exact rfl;(intro w hm;exact pO 7 w))|(apply ep;(iterate 3 exact rfl);apply GM (a:=⟨4,c,ay⟩) (b:=gF 7) he;exact rfl;exact rfl)|(apply aa;exact rfl;exact rfl;(intro w hm;exact hc w))|(apply aa;exact rfl;exact rfl;(intro w hm;exact hN w))|refine sT ?_|refine sW ?_|refine sT2 ?_|refine sW2 ?_|refine sM fun _=> ?_|(refine sC ?_ ?_<;>intro hb<;>try omega)|(refine sCW ?_ ?_<;>intro hb<;>try omega)|fail)
 all_goals ((refine rT1 ?_);rfl)
end Go.SL
