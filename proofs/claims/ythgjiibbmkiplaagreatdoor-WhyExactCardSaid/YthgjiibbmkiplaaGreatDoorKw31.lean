/-
  Lemmas and walks, put together: Te Tg Th Wf Wd Wb Wj We.
-/
import Derived.Test.YthgjiibbmkiplaaGreatDoorKw26
import Derived.Test.YthgjiibbmkiplaaGreatDoorKw29
import Derived.Test.YthgjiibbmkiplaaGreatDoorKw30
set_option linter.unusedSimpArgs false
set_option linter.unusedVariables false
set_option maxRecDepth 20000
set_option maxHeartbeats 16000000
namespace Go.SL
open Go
theorem o5 {x:BitVec 64} {n:Nat} (h:n<64):gD x (n:Int)=x.getLsbD n:=by
 unfold gD;rw [decide_eq_true (show (0:Int)≤(n:Int) by omega),decide_eq_true (show (n:Int)<64 by omega)];simp
def aZ (L:List Rl) (u:Int) (r:Rct):List Rct:=if dX r L≠0 then [] else ((bW r L []).filter fun p=> !gD (byN (fun x=>x.read) L p) u).map fun p=>p.rect
theorem w5 {L:List Rl} {u:Int} {r:Rct} (hL:(eV 64 L).2=0) (hr:aA r=true):aZ L u r=((bW r L []).filter fun p=> !gD (byN (fun x=>x.read) L p) u).map fun p=>p.rect:=by
 unfold aZ;rw [if_neg];unfold dX;rw [if_neg (by rw [hr];decide),hL];decide
theorem Jc {L:List Rl} (N:List Gn) (hL:(eV 64 L).2=0) {u:Nat} (hu:u<64):HidW (dV L N) u (aZ L (u:Int)):=by
 have hA:=BU hL;have hrd: ∀ {a:Rf},a.valid=true→(dV L N).rd a=rL (fun x=>x.read) L a:=fun ha=>(UT hL ha).1;have hby: ∀ {r:Rct} {p:Pz} {a:Rf},aA r=true→p∈bW r L []→aI p.rect a=true→byN (fun x=>x.read) L p=rL (fun x=>x.read) L a:=fun hr hp ha=>by
  unfold byN rL;rw [((s6 hr hA hp).2 _ ha).2]
 have hun: ∀ r,aA r=true→ ∀ p∈aZ L (u:Int) r,aA p=true∧ ∀ a,aI p a=true→aI r a=true∧((dV L N).rd a).getLsbD u=false:=fun r hr p hp=>by
  rw [w5 hL hr] at hp;obtain ⟨q,hq,rfl⟩:=Xu.1 hp;obtain ⟨hq,hb⟩:=XM.1 hq;refine ⟨(s6 hr hA hq).1,fun a ha=>⟨((s6 hr hA hq).2 a ha).1,?_⟩⟩;rw [o5 hu,Y4,hby hr hq ha] at hb;rw [hrd (qq (s6 hr hA hq).1 ha)];exact hb
 have hcov: ∀ r,aA r=true→ ∀ a,aI r a=true→((dV L N).rd a).getLsbD u=false→ ∃ p∈aZ L (u:Int) r,aI p a=true:=fun r hr a ha hn=>by
  obtain ⟨p,hp,h1⟩:=LW (L:=L) hr hA ha;refine ⟨p.rect,?_,h1⟩;rw [w5 hL hr];refine Xu.2 ⟨p,XM.2 ⟨hp,?_⟩,rfl⟩;rw [o5 hu,hby hr hp h1,← hrd (qq hr ha),hn];rfl
 refine ⟨fun r hr=> ?_,hun,hcov⟩;have ho:(dV L N).ov r=(ovE r L).1.1:=rfl;rw [ho,RN hL hr hu];constructor
 ·intro h;refine YM.2 fun p hp=> ?_;obtain ⟨h1,h2⟩:=hun r hr p hp;obtain ⟨h3,h4⟩:=h2 _ (nM h1);rw [hrd (qq h1 (nM h1)),h _ h3] at h4;cases h4
 ·intro h a ha
  cases hb:(rL (fun x=>x.read) L a).getLsbD u with
  |true=>rfl
  |false=>
   obtain ⟨p,hp,_⟩:=hcov r hr a ha (by rw [hrd (qq hr ha)];exact hb);rw [h] at hp;cases hp
section
variable (G:Gr) (w:Lw) (u:Nat) (hid:Rct→List Rct)
def WF (S:List Rf) (r:Rct):List Rf:=(ap G).foldl (fun S f=>if aI r f=true∧f∉S then S++ [f] else S) S
def Vz (S:List Rf) (c:Rf):List Rf:=(cG G w u c).foldl (WF G) S
def EE:Nat→Nat→List Rf→List Rf
 |0,_,S=>S
 |n+1,i,S=>match S[i]? with
  |none=>S
  |some c=>EE n (i+1) (Vz G w u S c)
def zX (c:Rf):List Rf:=EE G w u (G.length+2) 0 [c]
def iC (c:Rf):List Rf:=sortRf (zX G w u c)
noncomputable def mQ (f:Rf):Bool:=(ck G f).any fun l=>decide (0<(hid l).length)
noncomputable def cX (r:Rct):Bool:=decide (0<(hid r).length)||(ap G).any fun f=>mQ G hid f && aI r f
noncomputable def iZ (c:Rf):List Cl:=(iC G w u c).flatMap fun a=>((aG G a).filter fun x=>(w.to x).getLsbD u && cX G hid x.rect).map fun x=>⟨a,x.node⟩
end
theorem iA {α:Type} [DecidableEq α]: ∀ (l m:List α),l.Nodup→(∀ x∈l,x∈m)→l.length≤m.length
 | [],_,_,_=>Xn _
 |a::l,m,hn,hs=>by
  rw [Y9] at hn;have ha:=hs a Xb;have h:=iA l (m.erase a) hn.2 fun x hx=>(List.mem_erase_of_ne (fun (e:x=a)=>hn.1 (e ▸ hx))).2 (hs x (Xp _ hx));rw [List.length_erase_of_mem ha] at h;have:=List.length_pos_of_mem ha;rw [Xs];omega
section
variable {G:Gr} {w:Lw} {u:Nat} {hid:Rct→List Rct}
def og (S:List Rf) (r:Rct) (K:List Rf):List Rf:=K.foldl (fun S f=>if aI r f=true∧f∉S then S++ [f] else S) S
theorem kJ {S:List Rf} {r:Rct} {K:List Rf} {f:Rf}:og S r (K++ [f])=if aI r f=true∧f∉og S r K then og S r K++ [f] else og S r K:=by
 unfold og;rw [YG];rfl
theorem Qo {S:List Rf} {r:Rct}:og S r []=S:=rfl
theorem Qm {S:List Rf} {r:Rct} {K:List Rf}: ∀ x∈S,x∈og S r K:=by
 induction K using dh with
 |h0=>exact fun _ h=>h
 |h1 K f ih=>
  intro x hx;rw [kJ];split
  ·exact Xw _ (ih x hx)
  ·exact ih x hx
theorem HA {S:List Rf} {r:Rct} {K:List Rf}: ∀ x∈og S r K,x∈S∨(x∈K∧aI r x=true):=by
 induction K using dh with
 |h0=>exact fun _ h=> .inl h
 |h1 K f ih=>
  intro x hx;rw [kJ] at hx;split at hx
  ·rename_i h;rcases Xr.1 hx with hx|hx
   ·rcases ih x hx with h2|h2
    ·exact .inl h2
    ·exact .inr ⟨Xw _ h2.1,h2.2⟩
   ·rw [Xl.1 hx];exact .inr ⟨XB _ Xb,h.1⟩
  ·rcases ih x hx with h2|h2
   ·exact .inl h2
   ·exact .inr ⟨Xw _ h2.1,h2.2⟩
theorem Qq {S:List Rf} {r:Rct} {K:List Rf}: ∀ f∈K,aI r f=true→f∈og S r K:=by
 induction K using dh with
 |h0=>exact fun _ h=>(by cases h)
 |h1 K f ih=>
  intro x hx hr;rw [kJ];rcases Xr.1 hx with hx|hx
  ·split
   ·exact Xw _ (ih x hx hr)
   ·exact ih x hx hr
  ·have e:=Xl.1 hx;subst e;by_cases hm:x∈og S r K
   ·rw [if_neg (fun h=>h.2 hm)];exact hm
   ·rw [if_pos ⟨hr,hm⟩];exact XB _ Xb
theorem zo {S:List Rf} {r:Rct} {K:List Rf} (hS:S.Nodup):(og S r K).Nodup:=by
 induction K using dh with
 |h0=>exact hS
 |h1 K f ih=>
  rw [kJ];split
  ·rename_i h;rw [YK];exact ⟨ih,Yv _ _,fun a ha b hb e=>h.2 (by rw [Xl.1 hb] at e;exact e ▸ ha)⟩
  ·exact ih
theorem Qn {S:List Rf} {r:Rct} {K:List Rf}: ∃ T,og S r K=S++T:=by
 induction K using dh with
 |h0=>exact ⟨[],by rw [Qo,Xm]⟩
 |h1 K f ih=>
  obtain ⟨T,hT⟩:=ih;rw [kJ];split
  ·exact ⟨T++ [f],by rw [hT,XE]⟩
  ·exact ⟨T,hT⟩
def tT (G:Gr) (S:List Rf) (L:List Rct):List Rf:=L.foldl (WF G) S
theorem mV {S:List Rf} {L:List Rct} {r:Rct}:tT G S (L++ [r])=og (tT G S L) r (ap G):=by unfold tT;rw [YG];rfl
theorem Qk {S:List Rf} {L:List Rct}: ∃ T,tT G S L=S++T:=by
 induction L using dh with
 |h0=>exact ⟨[],(Xm S).symm⟩
 |h1 L r ih=>
  obtain ⟨T,hT⟩:=ih;obtain ⟨T2,hT2⟩:=Qn (S:=tT G S L) (r:=r) (K:=ap G);exact ⟨T++T2,by rw [mV,hT2,hT,XE]⟩
theorem zn {S:List Rf} {L:List Rct} (hS:S.Nodup):(tT G S L).Nodup:=by
 induction L using dh with
 |h0=>exact hS
 |h1 L r ih=>rw [mV];exact zo ih
theorem Hz {S:List Rf} {L:List Rct}: ∀ x∈tT G S L,x∈S∨x∈ap G:=by
 induction L using dh with
 |h0=>exact fun _ h=> .inl h
 |h1 L r ih=>
  intro x hx;rw [mV] at hx;rcases HA x hx with h|h
  ·exact ih x h
  ·exact .inr h.1
theorem Ql {S:List Rf} {L:List Rct}: ∀ r∈L,∀ f∈ap G,aI r f=true→f∈tT G S L:=by
 induction L using dh with
 |h0=>exact fun _ h=>(by cases h)
 |h1 L r ih=>
  intro q hq f hf hh;rw [mV];rcases Xr.1 hq with hq|hq
  ·exact Qm _ (ih q hq f hf hh)
  ·rw [Xl.1 hq] at hh;exact Qq f hf hh
structure WyI (G:Gr) (w:Lw) (u:Nat) (c:Rf) (i:Nat) (S:List Rf):Prop where
 nd:S.Nodup
 sub: ∀ x∈S,x=c∨x∈ap G
 here:c∈S
 le:i≤S.length
 done: ∀ j (h:j<S.length),j<i→ ∀ r∈cG G w u S[j],∀ f∈ap G,aI r f=true→f∈S
 fin:EE G w u (G.length+2 - i) i S=zX G w u c
theorem WyI.start {c:Rf}:WyI G w u c 0 [c]:=⟨Yv _ _,fun x hx=> .inl (Xl.1 hx),Xb,Xn _,fun j _ h=>absurd h (YY _),rfl⟩
theorem WyI.len {c:Rf} {i:Nat} {S:List Rf} (h:WyI G w u c i S):S.length≤G.length+1:=by
 have h1:=iA S (c::ap G) h.nd fun x hx=>by
  rcases h.sub x hx with rfl|h2
  ·exact Xb
  ·exact Xp _ h2
 rwa [Xs,show (ap G).length=G.length by rw [ap,Xq]] at h1
theorem WyI.step {c:Rf} {i:Nat} {S:List Rf} (h:WyI G w u c i S) (hi:i<S.length):WyI G w u c (i+1) (tT G S (cG G w u S[i])):=by
 obtain ⟨T,hT⟩:=Qk (G:=G) (S:=S) (L:=cG G w u S[i]);have hl:=h.len;have hget: ∀ j (hj:j<S.length) (hj2:j<(tT G S (cG G w u S[i])).length),(tT G S (cG G w u S[i]))[j]=S[j]:=fun j hj hj2=>by
  simp only [hT];exact ZQ hj
 have hlen:S.length≤(tT G S (cG G w u S[i])).length:=by rw [hT,Xa];omega
 refine ⟨zn h.nd,fun x hx=> ?_,?_,by omega,fun j hj hji r hr f hf hh=> ?_,?_⟩
 ·rcases Hz x hx with h2|h2
  ·exact h.sub x h2
  ·exact .inr h2
 ·rw [hT];exact Xw _ h.here
 ·rw [hget j (by omega)] at hr;by_cases e:j=i
  ·subst e;exact Ql r hr f hf hh
  ·rw [hT];exact Xw _ (h.done j (by omega) (by omega) r hr f hf hh)
 ·rw [← h.fin,show G.length+2 - i=(G.length+2 - (i+1))+1 by omega,EE,Xf hi]
  rfl
theorem WyI.end_ {c:Rf} {S:List Rf} (h:WyI G w u c S.length S):S=zX G w u c:=by
 have hl:=h.len;rw [← h.fin,show G.length+2 - S.length=(G.length+1 - S.length)+1 by omega,EE,Yx (Xy _)]
theorem rP {r:Rct} (h:hid r≠ []):cX G hid r=true:=by
 unfold cX;rw [decide_eq_true (Yr.2 h)];rfl
noncomputable def da (G:Gr) (hid:Rct→List Rct) (c:Rf):List Rct:=nn ((ck G c).flatMap hid)
theorem kV (hG:GrOk G) {c:Rf} {r:Rct} (h:r∈dl G c):aA r=true:=by
 obtain ⟨x,_,y,hy,rfl⟩:=eP.1 h;exact iE hG hy
theorem eE {c:Rf} (hv:c.valid=true) {l:Rct}:l∈ck G c↔l∈dl G c:=by
 unfold ck;rw [if_pos (by unfold bS;simp [hv])]
end
structure Rsn where
 sees:Bool
 path:List Rf
 cuts:List Cl
section
variable (G:Gr) (w:Lw) (u:Nat) (hid:Rct→List Rct)
noncomputable def cZ (c:Rf):Rsn:=if (gA G w c).getLsbD u=true then ⟨true,[],iZ G w u hid c⟩ else ⟨false,gV G w u hid (gH G w u hid (ap G)) c,[]⟩
noncomputable def tQ (c:Rf) (r:Rsn):Int:=
 if r.sees=true then (if 0<r.path.length then 4 else if (gA G w c).getLsbD u=false then 6 else if r.cuts≠iZ G w u hid c then 6 else 0)
 else if r.path= [] then 4 else if r.path.head? ≠some c then 4 else if 0<r.cuts.length then 4 else if fI G w u r.path=false then 6 else 0
end
def Mm (L:List Rl) (u:Int) (r:Rct):List Rct:=if dX r L≠0 then [] else ((CX r L []).filter fun p=> !gD (byN (fun x=>x.read) L p) u).map fun p=>p.rect
theorem w6:aZ=Mm:=by funext L u r;unfold aZ Mm;rw [Ba]
theorem LB {L M:List Rf} (hp:L.Perm M) (hs:M.Pairwise fun a b=>bE b a=false):sortRf L=M:=by
 rw [jI hp];unfold sortRf;refine List.mergeSort_of_pairwise (hs.imp fun h=> ?_);rw [h];rfl
def N8 (l:List Rct):List Rct:=((fS (tE (l.flatMap fun p=> [p.r1,p.r2+1]))).foldl (l8 l) ⟨[],0,[]⟩).out
theorem Lt:nn=N8:=by funext l;unfold nn N8 dJ;rw [E6]
section
variable {G:Gr} {w:Lw} {u:Nat} {hid:Rct→List Rct}
theorem PW {c:Rf} {M:List Rf} (hM:iC G w u c=M) (h: ∀ a∈M,∀ x∈aG G a,(w.to x).getLsbD u=true→hid x.rect≠ []):iZ G w u hid c=M.flatMap fun a=>((aG G a).filter fun x=>(w.to x).getLsbD u).map fun x=>⟨a,x.node⟩:=by
 unfold iZ;rw [hM];have hf: ∀ a∈M,((aG G a).filter fun x=>(w.to x).getLsbD u && cX G hid x.rect)=(aG G a).filter fun x=>(w.to x).getLsbD u:=fun a ha=>by
  refine List.filter_congr fun x hx=> ?_
  cases ht:(w.to x).getLsbD u with
  |false=>rfl
  |true=>rw [rP (h a ha x hx ht)];rfl
 have: ∀ (K:List Rf),(∀ a∈K,a∈M)→(K.flatMap fun a=>((aG G a).filter fun x=>(w.to x).getLsbD u && cX G hid x.rect).map fun x=>(⟨a,x.node⟩:Cl))=K.flatMap fun a=>((aG G a).filter fun x=>(w.to x).getLsbD u).map fun x=>⟨a,x.node⟩:=by
  intro K
  induction K with
  |nil=>exact fun _=>rfl
  |cons a K ih=>
   intro hK;rw [Xx,Xx,hf a (hK a Xb),ih fun b hb=>hK b (Xp _ hb)]
 exact this M fun _ h=>h
end
theorem V0:(gA exG (dV bkR bkN) ⟨1,2⟩).getLsbD 1=false:=by rw [nQ];decide+kernel
theorem VZ:(gA exG (dV bkR bkN) ⟨1,4⟩).getLsbD 1=true:=by rw [nQ];decide+kernel
theorem VY:(gA exG (dV bkR bkN) ⟨1,4⟩).getLsbD 2=false:=by rw [nQ];decide+kernel
theorem VV:cZ exG (dV bkR bkN) 1 (aZ bkR 1) ⟨1,2⟩=⟨false,[⟨1,2⟩,⟨2,1⟩],[]⟩:=by
 unfold cZ;rw [if_neg (by rw [V0];decide),w6,rI];rw [show gV exG (lwC bkR bkN) 1 (Mm bkR 1) (gH exG (lwC bkR bkN) 1 (Mm bkR 1) (ap exG)) ⟨1,2⟩= [⟨1,2⟩,⟨2,1⟩] by decide+kernel]
theorem Sj:iC exG (dV bkR bkN) 1 ⟨1,4⟩= [⟨1,3⟩,⟨1,4⟩]:=by
 unfold iC;rw [rI,show zX exG (lwC bkR bkN) 1 ⟨1,4⟩= [⟨1,4⟩,⟨1,3⟩] by decide+kernel];exact LB (.swap _ _ _) (by decide+kernel)
theorem VU:cZ exG (dV bkR bkN) 1 (aZ bkR 1) ⟨1,4⟩=⟨true,[],[⟨⟨1,3⟩,1⟩]⟩:=by
 unfold cZ;rw [if_pos VZ,PW Sj,rI]
 ·rw [show ([⟨1,3⟩,⟨1,4⟩]:List Rf).flatMap (fun a=>((aG exG a).filter fun x=>((lwC bkR bkN).to x).getLsbD 1).map fun x=>(⟨a,x.node⟩:Cl))= [⟨⟨1,3⟩,1⟩] by decide+kernel]
 ·rw [w6,rI];decide+kernel
theorem VT:cZ exG (dV bkR bkN) 2 (aZ bkR 2) ⟨1,4⟩=⟨false,[⟨1,4⟩,⟨1,3⟩,⟨2,1⟩],[]⟩:=by
 unfold cZ;rw [if_neg (by rw [VY];decide),w6,rI];rw [show gV exG (lwC bkR bkN) 2 (Mm bkR 2) (gH exG (lwC bkR bkN) 2 (Mm bkR 2) (ap exG)) ⟨1,4⟩= [⟨1,4⟩,⟨1,3⟩,⟨2,1⟩] by decide+kernel]
theorem UK:da exG (aZ bkR 1) ⟨1,4⟩= [⟨2,1,2,3⟩]:=by
 unfold da;rw [WJ,Lt,w6];decide+kernel
theorem VX:tQ exG (dV bkR bkN) 1 (aZ bkR 1) ⟨1,2⟩ ⟨false,[⟨1,2⟩,⟨2,2⟩],[]⟩=6:=by
 unfold tQ;rw [if_neg (by decide),if_neg (by simp),if_neg (by simp),if_neg (by simp),if_pos];rw [rI];decide+kernel
theorem VW:tQ exG (dV bkR bkN) 1 (aZ bkR 1) ⟨1,2⟩ ⟨false,[],[]⟩=4:=rfl
open Go.Proofs
attribute [local irreducible] FnAt FnIn FnP RW VOp W WA WC WE WG WL WLI WQ WR WT WX aX aY bA blk bw ceP scp thn
def dE (x:(Rf × Nat) × Nat):Rf × Value × Nat:=(x.1.1,.int .i64 (x.1.2:Int),x.2)
def dM (O:List (Rf × Nat)):List (Rf × Value × Nat):=O.zipIdx.map dE
theorem Dv (O:List (Rf × Nat)) (i:Nat):(dM O)[i]? =O[i]?.map fun c=>(c.1,.int .i64 (c.2:Int),i):=by
 unfold dM;rw [XN,List.getElem?_zipIdx,Zq];cases O[i]? <;>simp [dE]
theorem KE (O:List (Rf × Nat)):(dM O).map (fun e=>e.1)=O.map fun c=>c.1:=by
 apply Yw;intro i;rw [XN,Dv,Zq,XN];cases O[i]? <;>rfl
theorem KG (O:List (Rf × Nat)):(dM O).map (fun e=>e.2.2)=List.range O.length:=by
 apply Yw;intro i;rw [XN,Dv,Zq];by_cases h:i<O.length
 ·rw [Xf h,Xf (by simpa using h)];simp
 ·rw [Yx (by omega),Yx (by simpa using h)];rfl
theorem TF {O:List (Rf × Nat)} (h:(O.map fun c=>c.1).Nodup):MapOk (dM O) O.length:=by
 refine ⟨by rw [KG];exact List.nodup_range,fun e he=> ?_,by rw [KE];exact h⟩;have:e.2.2∈(dM O).map fun e=>e.2.2:=Xu.2 ⟨e,he,rfl⟩;rw [KG] at this;exact ZN.1 this
theorem Jr {O:List (Rf × Nat)} {e:Rf × Value × Nat} (h:e∈dM O): ∃ c d k,(c,d)∈O∧e=(c,.int .i64 (d:Int),k):=by
 obtain ⟨i,hi⟩:=Zm.1 h;rw [Dv] at hi;obtain ⟨c,hc,rfl⟩:=YS.1 hi;exact ⟨c.1,c.2,i,YW hc,rfl⟩
theorem PV {O:List (Rf × Nat)} {c:Rf × Nat} (h:c∈O): ∃ k,(c.1,Value.int .i64 (c.2:Int),k)∈dM O:=by
 obtain ⟨i,hi⟩:=Zm.1 h;exact ⟨i,YW (i:=i) (by rw [Dv,hi];rfl)⟩
theorem PU {O:List (Rf × Nat)} {c:Rf} {d:Nat} (h:c∉O.map fun x=>x.1):gK c (.int .i64 (d:Int)) O.length (dM O)=(dM (O++ [(c,d)]),(O++ [(c,d)]).length):=by
 unfold gK;rw [uL (by rw [KE];exact h)];have e:dM (O++ [(c,d)])=dM O++ [(c,.int .i64 (d:Int),O.length)]:=by
  unfold dM;rw [List.zipIdx_append,XI];simp [dE]
 rw [e,Xa]
 rfl
theorem KF (a:Rf): ∀ (O:List (Rf × Nat)) (n i:Nat),(bH a ((O.zipIdx n).map dE) i).map (fun x=>x.2)=(dOf O a).map fun d=> .int .i64 (d:Int)
 | [],_,_=>rfl
 |c::O,n,i=>by
  rw [ZY,XD,bH];unfold dOf;rw [Z9];by_cases h:a=c.1
  ·have h2:a=(dE (c,n)).1:=h;rw [if_pos h2,show decide (c.1=a)=true from decide_eq_true h.symm]
   rfl
  ·have h2: ¬ a=(dE (c,n)).1:=h;rw [if_neg h2,show decide (c.1=a)=false from decide_eq_false (fun e=>h e.symm)];exact KF a O (n+1) (i+1)
theorem Sw (O:List (Rf × Nat)) (a:Rf) (z:Value):(match bH a (dM O) 0 with|some (_,v)=>Value.tuple #[v,.bool true]|none=> .tuple #[z,.bool false])=match dOf O a with|some d=> .tuple #[.int .i64 (d:Int),.bool true]|none=> .tuple #[z,.bool false]:=by
 have h:=KF a O 0 0;change (bH a (dM O) 0).map (fun x=>x.2)=_ at h
 cases hk:bH a (dM O) 0 with
 |none=>
  rw [hk] at h
  cases hd:dOf O a with
  |none=>rfl
  |some d=>rw [hd] at h;cases h
 |some p=>
  rw [hk] at h
  cases hd:dOf O a with
  |none=>rw [hd] at h;cases h
  |some d=>
   rw [hd] at h;have h2:p.2= .int .i64 (d:Int):=Option.some.inj h;obtain ⟨j,v⟩:=p;simp only at h2;subst h2
   rfl
section
variable {G:Gr} {w:Lw} {u:Nat} {hid:Rct→List Rct}
theorem Jp (K:List Rf) (f:Rf):iL G w u hid (K++ [f])=iL G w u hid K++if (rdU w u f && (jx G w u hid f).isSome)=true then [(f,1)] else []:=by
 unfold iL;rw [YX,XI,YA];congr 1;split<;>rfl
theorem I2 (K:List Rf) (f:Rf):jM G w u hid (K++ [f])=jM G w u hid K++if (rdU w u f && !(jx G w u hid f).isSome)=true then [f] else []:=by
 unfold jM;rw [YX,YA];congr 1
theorem ME {K:List Rf} {f:Rf} (h:f∈(iL G w u hid K).map fun c=>c.1):f∈K:=by
 obtain ⟨c,hc,rfl⟩:=Xu.1 h;unfold iL at hc;obtain ⟨g,hg,rfl⟩:=Xu.1 hc;exact (XM.1 hg).1
theorem Mb {K:List Rf}:(jM G w u hid K).length≤K.length:=XS _ _
theorem FO {K:List Rf} (hK:K.Nodup) {i:Nat} (h:i<K.length):K[i]∉K.take i:=fun hm=>by
 have h1:K.take (i+1)=K.take i++ [K[i]]:=Xk h;have h3:=hK.sublist (List.take_sublist (i+1) K);rw [h1,YK] at h3;exact h3.2.2 _ hm _ Xb rfl
theorem DsI.olen {K:List Rf} {O:List (Rf × Nat)} {left:List Rf} {far:Nat} (h:DsI G w u hid K O left far):O.length≤K.length:=by
 have h1:=iA (O.map fun c=>c.1) K h.od fun x hx=>by
  obtain ⟨c,hc,rfl⟩:=Xu.1 hx;exact (h.key c hc).1
 rwa [Xq] at h1
theorem tI {p:Rf→Bool} {L:List Rf} {i:Nat} (h:i<L.length):(L.take (i+1)).filter p=(L.take i).filter p++if p L[i]=true then [L[i]] else []:=by
 rw [Xk h,YX,YA];congr 1
end
abbrev lkB (gx u:Nat) (b:Bk) (x:Bv) (gg:Nat) (dv:Value):Blk:= .box gx 119 [.int .i64 (u:Int),.int .i64 b.users,.slice x.ae b.ents.length x.ce,.slice x.ar b.rules.length x.cr,.slice x.ag b.grants.length x.cg,.slice x.al b.log.length x.cl,.slice x.as_ b.rels.length x.cs,.int .i64 b.step,.pointer (some ⟨gg,0,none⟩),dv]
abbrev lwB (b:Bk):Lw:=dV b.rules b.grants
theorem DI {L:List Rl} (h:(eV 64 L).2=0):L≠ []∧L.length≤64:=by
 unfold eV at h;split at h
 ·cases h
 split at h
 ·cases h
 split at h
 ·cases h
 exact ⟨fun e=>by simp_all,by omega⟩
section
variable {u:Nat} {b:Bk} {x:Bv} {gg:Nat} {G:Gr} {B F0:List Blk} {w0:World} (D:Lkd u b x gg G B F0 w0) (gx:Nat) (dv:Value) {F:List Blk} (hF:MSub F0 F)
include D hF
theorem yf (a:Rf):FnIn Tryz.prog 81 [.pointer (some ⟨gx,0,none⟩),aC a] w0 (lkB gx u b x gg dv::F) fun v H' =>v= .bool (rdU (lwB b) u a)∧H' =lkB gx u b x gg dv::F:=by
 refine bI Tryz.func81 rfl Tryz.ntmps81 rfl ?_;have h1:=fun (w' :World) (H:List Blk) (hs:MSub F H) (hm:Mem w0 w' H)=>KN a b.rules _ w' (D.rl w' ((hF.trans hs).use hm));have h2:rdU (lwB b) u a=gD (atE a b.rules).1.1 (u:Int):=(o5 D.hu).symm;rw [h2];have hh:=fun s w=>jc s (u:Int) w;generalize (atE a b.rules).2=e at h1;generalize (atE a b.rules).1.1=s1 at h1 ⊢;generalize (atE a b.rules).1.2.1=s2 at h1;generalize (atE a b.rules).1.2.2=s3 at h1;repeat' (first|refine zZB ?_|refine sM fun _=>?_|refine sC ?_ ?_<;>intro hb<;>try omega|fail)
 rename_i g3;refine fw (id:=1) [6,10,11] [.box g3 34 (aq a),lkB gx u b x gg dv] 13 rfl rfl mS ?_;repeat' (first|apply ba (i:=0);(iterate 4 exact rfl);(iterate 3 decide+kernel);exact vC|apply ba (i:=1);(iterate 4 exact rfl);(iterate 3 decide+kernel);exact vC|apply ba (i:=2);(iterate 4 exact rfl);(iterate 3 decide+kernel);exact vC|apply ba (i:=3);(iterate 4 exact rfl);(iterate 3 decide+kernel);exact vC|apply ba (i:=4);(iterate 4 exact rfl);(iterate 3 decide+kernel);exact vC|apply ba (i:=5);(iterate 4 exact rfl);(iterate 3 decide+kernel);exact vC|apply ba (i:=7);(iterate 4 exact rfl);(iterate 3 decide+kernel);exact vC|apply ba (i:=8);(iterate 4 exact rfl);(iterate 3 decide+kernel);exact vC|apply ba (i:=9);(iterate 4 exact rfl);(iterate 3 decide+kernel);exact vC|apply ba (i:=12);(iterate 4 exact rfl);(iterate 3 decide+kernel);apply eY;exact rfl|apply cF (i:=6) (j:=10);(iterate 6 exact rfl);decide+kernel|apply bk (i:=6);(iterate 3 exact rfl);decide+kernel|apply bk (i:=10);(iterate 3 exact rfl);decide+kernel|apply bk (i:=11);(iterate 3 exact rfl);decide+kernel|apply fu;decide+kernel|apply rW;(focus (exact mS;done))|apply aa (f:=96);exact rfl;exact rfl;intro w' hm;exact h1 w' _ mS hm|apply df (f:=65);exact rfl;exact rfl;intro w' hm;exact hh _ w'|refine zZL ?_|refine sM fun _=>?_|refine sC ?_ ?_<;>intro hb<;>try omega|refine sCQ ?_ ?_<;>intro hb<;>try omega|fail)
 all_goals exact bo eIO rfl rfl (H' :=lkB gx u b x gg dv::F) mS ⟨rfl,rfl⟩
theorem vu (y:Us):FnIn Tryz.prog 79 [.pointer (some ⟨gx,0,none⟩),.agg (bP y).toArray] w0 (lkB gx u b x gg dv::F) fun v H' =>v= .bool (((lwB b).to y).getLsbD u)∧H' =lkB gx u b x gg dv::F:=by
 refine bI Tryz.func79 rfl Tryz.ntmps79 rfl ?_;have h1:=fun (w' :World) (H:List Blk) (hs:MSub F H) (hm:Mem w0 w' H)=>QA y.fn y.rect b.rules b.grants _ _ w' (D.rl w' ((hF.trans hs).use hm)) (D.gn w' ((hF.trans hs).use hm)) D.lN;have h2:((lwB b).to y).getLsbD u=if y.node<0 then false else gD (eB y.fn y.rect b.rules b.grants).1 (u:Int):=by
  rw [o5 D.hu];show (if y.node<0 then 0#64 else (eB y.fn y.rect b.rules b.grants).1).getLsbD u=_;split
  ·exact BitVec.getLsbD_zero
  ·rfl
 rw [h2];have hh:=fun s w=>jc s (u:Int) w;generalize (eB y.fn y.rect b.rules b.grants).1=s1 at h1 ⊢;generalize (eB y.fn y.rect b.rules b.grants).2.1=ps at h1;generalize (eB y.fn y.rect b.rules b.grants).2.2=e at h1;repeat' (first|rename_i g3;refine bT (id:=3) [14] [] [.box g3 159 (bP y),lkB gx u b x gg dv] (by kernel_rfl) (by kernel_rfl) (by kernel_rfl) mS ?_|apply aw (f:=120);exact rfl;exact rfl;intro w' hm;exact h1 w' _ mS hm;rintro _ _ ⟨A2,cap2,rfl,rfl⟩|apply aa (f:=65);exact rfl;exact rfl;intro w' hm;exact hh _ w'|refine zZX ?_|refine sM fun _=>?_|refine sC ?_ ?_<;>intro hb<;>try omega|refine sCQ ?_ ?_<;>intro hb<;>try omega|refine sCW ?_ ?_<;>intro hb<;>try omega|fail)
 all_goals first
  |omega
  |rw [if_pos hb];exact bo eIO rfl rfl (H' :=lkB gx u b x gg dv::F) mS ⟨rfl,rfl⟩
  |rw [if_neg (by omega)];exact bo eIO rfl rfl (H' :=lkB gx u b x gg dv::F) mS ⟨rfl,rfl⟩
theorem s9 (a:Rf):FnIn Tryz.prog 85 [.pointer (some ⟨gx,0,none⟩),aC a] w0 (lkB gx u b x gg dv::F) fun v H' => ∃ A c,v=sl A (cG G (lwB b) u a).length c∧H' = .own A 31 4 (cG G (lwB b) u a).length c ((cG G (lwB b) u a).flatMap ay)::lkB gx u b x gg dv::F:=by
 refine bI Tryz.func85 rfl Tryz.ntmps85 rfl ?_;have hUs:=fun H (hs:MSub F H)=>D.rd.us a H ((D.sub.trans hF).trans hs);have hUl:=fL D.rd.g a;have hrl:=fun (y:Us) (H:List Blk) (hs:MSub F H)=>vu D gx dv (hF.trans hs) y;unfold cG;generalize (lwB b).to=to_ at hrl ⊢;generalize aG G a=U at hUs hUl ⊢;refine aF 31 4 ?_;repeat' (first|rename_i g3;refine bT (id:=2) [5] [] [.box g3 34 (aq a),lkB gx u b x gg dv] (by kernel_rfl) (by kernel_rfl) (by kernel_rfl) mS ?_|apply aj (f:=78);exact rfl;exact rfl;exact hUs _ mS;rintro _ _ ⟨Au,cu,rfl,rfl⟩|refine zZM ?_|refine sM fun _=>?_|refine sC ?_ ?_<;>intro hb<;>try omega|refine sCW ?_ ?_<;>intro hb<;>try omega|fail)
 all_goals try omega
 refine ax [0,13,14] rfl (fun y:Nat × List Us × (Option Nat × Nat)=> [(5,sl y.2.2.1 y.2.1.length y.2.2.2),(15,.int .i64 (y.1:Int))]) (fun y=> .own y.2.2.1 31 4 y.2.1.length y.2.2.2 ((y.2.1.map fun z=>z.rect).flatMap ay):: .own Au 159 6 U.length cu (U.flatMap bP)::lkB gx u b x gg dv::F) (fun y=>y.1≤U.length∧y.2.1=(U.take y.1).filter (fun z=> !(to_ z).getLsbD u)) (fun y=>U.length - y.1) (0,[],(none,0)) ⟨Xn _,rfl⟩ sB mS ?_;rintro ⟨i,V,A7,c7⟩ ⟨hi,hV⟩;dsimp only at hi hV ⊢;have hVl:V.length≤1000:=by
  rw [hV];exact XU (XS _ _) (by rw [XA];omega)
 by_cases hlt:i<U.length
 ·refine aU (A:=Au) pK (by omega) fun gu hA=> ?_;subst hA;have hread:((U.flatMap bP).drop (0+i*6)).take 6=bP U[i]:=by rw [Xv];exact aM lp U i hlt
  have hs:(U.take (i+1)).filter (fun z=> !(to_ z).getLsbD u)=(U.take i).filter (fun z=> !(to_ z).getLsbD u)++if (to_ U[i]).getLsbD u=true then [] else [U[i]]:=by
   rw [Xk hlt,YX];congr 1;rw [YA];cases (to_ U[i]).getLsbD u<;>rfl
  rw [← hV] at hs;have hrl:=hrl U[i];generalize U[i]=z at hread hs hrl;generalize (to_ z).getLsbD u=bz at hs hrl;repeat' (first|apply ak;exact rfl;apply ai (j:=i);exact rfl;exact rfl;exact hlt|apply ak;exact rfl;apply au (ys:=bP z);exact rfl;exact pK;exact hread;exact rfl|apply aj (f:=79);exact rfl;exact rfl;refine FnIn.msub (hrl _ ?_) (MSub.pick pK (MSub.refl _));(focus (exact mS;done));rintro _ _ ⟨rfl,rfl⟩|apply aN (d:=27) (A:=A7) (m:=1);(iterate 3 exact rfl);exact pK;intro w hm;exact hm.cells_own pK;exact rfl;simp [Value.oneCell',sl];omega;simp only [maxLen];omega;intro B7 b7 hB7|refine zZA ?_|refine sM fun _=>?_|refine sC ?_ ?_<;>intro hb<;>try omega|fail)
  all_goals first
   |omega
   |(refine ⟨(i+1,V++ [z],(B7,b7)),⟨hlt,by rw [hs,if_neg (by simp_all)]⟩,by dsimp only;omega,?_,by exact sB,?_⟩<;>(dsimp only;simp only [List.length_append,List.length_singleton,List.map_append,List.flatMap_append,List.map_cons,List.map_nil,List.flatMap_cons,List.flatMap_nil,List.append_nil])<;>first|exact sB;done|exact mS;done)
   |refine ⟨(i+1,V,(A7,c7)),⟨hlt,by rw [hs,if_pos (by simp_all),List.append_nil]⟩,by dsimp only;omega,by exact sB,by exact sB,by exact mS⟩;done
 ·have e:i=U.length:=by omega
  subst e;rw [XF] at hV;repeat' (first|refine zZB ?_|refine sM fun _=>?_|refine sC ?_ ?_<;>intro hb<;>try omega|fail)
  all_goals first
   |omega
   |subst hV;exact bo eIO rfl rfl (H' := .own A7 31 4 ((U.filter (fun z=> !(to_ z).getLsbD u)).map fun z=>z.rect).length c7 (((U.filter (fun z=> !(to_ z).getLsbD u)).map fun z=>z.rect).flatMap ay)::lkB gx u b x gg dv::F) (by rw [Xq];exact mS) ⟨A7,c7,by rw [Xq],rfl⟩
theorem kY (r:Rct) (hr:aA r=true):FnIn Tryz.prog 53 [.pointer (some ⟨gx,0,none⟩),.agg (ay r).toArray] w0 (lkB gx u b x gg dv::F) fun v H' => ∃ A c,v=sl A (aZ b.rules (u:Int) r).length c∧H' = .own A 31 4 (aZ b.rules (u:Int) r).length c ((aZ b.rules (u:Int) r).flatMap ay)::lkB gx u b x gg dv::F:=by
 obtain ⟨ae,ar,ag,al,as_,ce,cr,cg,cl,cs⟩:=x;refine bI Tryz.func53 rfl Tryz.ntmps53 rfl ?_;have hP:=fun (w' :World) (H:List Blk) (hs:MSub F H) (hm:Mem w0 w' H)=>Qv r b.rules _ w' (D.rl w' ((hF.trans hs).use hm));have hh:=fun s w=>jc s (u:Int) w;have hz:dX r b.rules=0:=by
  unfold dX;rw [if_neg (by rw [hr];decide)];exact D.oL
 obtain ⟨hne,hlen⟩:=DI D.oL;have hpl:=qe (r:=r) hlen;have hpa: ∀ p∈bW r b.rules [],p.a<b.rules.length:=fun p hp=>by
  have h1:p.a∈(bW r b.rules []).map (·.a):=Xu.2 ⟨p,hp,rfl⟩;obtain ⟨y,x,_,h2⟩:=wX.1 h1;rw [h2];exact zW hne
 rw [w5 D.oL hr];unfold FA at hP;rw [hz,if_neg (by decide)] at hP;have hLr:=fun (w' :World) (H:List Blk) (hs:MSub F H) (hm:Mem w0 w' H)=>D.rl w' ((hF.trans hs).use hm);generalize bW r b.rules []=PZ at hP hpl hpa ⊢;refine aF 31 4 ?_;repeat' (first|rename_i g3;refine bT (id:=1) [6] [] [.box g3 31 (ay r),lkB gx u b ⟨ae,ar,ag,al,as_,ce,cr,cg,cl,cs⟩ gg dv] (by kernel_rfl) (by kernel_rfl) (by kernel_rfl) mS ?_|apply aw (f:=103);exact rfl;exact rfl;intro w' hm;exact hP w' _ mS hm;rintro _ _ ⟨A1,c1,A2,c2,rfl,rfl⟩|refine zZM ?_|refine sM fun _=>?_|refine sC ?_ ?_<;>intro hb<;>try omega|refine sCW ?_ ?_<;>intro hb<;>try omega|fail)
 all_goals try omega
 refine ax [0,6,22,23] rfl (fun y:Nat × List Pz × (Option Nat × Nat)=> [(8,sl y.2.2.1 y.2.1.length y.2.2.2),(24,.int .i64 (y.1:Int))]) (fun y=> .own y.2.2.1 31 4 y.2.1.length y.2.2.2 ((y.2.1.map fun z=>z.rect).flatMap ay):: .own A1 31 4 PZ.length c1 (PZ.flatMap mN):: .own A2 3 1 PZ.length c2 (PZ.map vPz)::lkB gx u b ⟨ae,ar,ag,al,as_,ce,cr,cg,cl,cs⟩ gg dv::F) (fun y=>y.1≤PZ.length∧y.2.1=(PZ.take y.1).filter (fun p=> !gD (byN (fun z=>z.read) b.rules p) (u:Int))) (fun y=>PZ.length - y.1) (0,[],(none,0)) ⟨Xn _,rfl⟩ sB mS ?_;rintro ⟨i,V,A7,c7⟩ ⟨hi,hV⟩;dsimp only at hi hV ⊢;have hVl:V.length≤1000000:=by
  rw [hV];exact XU (XS _ _) (by rw [XA];omega)
 by_cases hlt:i<PZ.length
 ·refine aU (A:=A1) pK (by omega) fun gp hA=> ?_;subst hA;refine aU (A:=A2) pK (by omega) fun gq hA=> ?_;subst hA;have hread:((PZ.flatMap mN).drop (0+i*4)).take 4=mN PZ[i]:=by rw [Xv];exact aM (enc:=mN) (m:=4) (fun _=>rfl) PZ i hlt
  have hrd2:(PZ.map vPz)[0+i*1]? =some (vPz PZ[i]):=by rw [Xv,YT,XN,Xf hlt];rfl
  have hpi:=hpa _ (XO hlt);have hby:byN (fun z=>z.read) b.rules PZ[i]=(b.rules[PZ[i].a]'hpi).read:=by unfold byN;rw [Xf hpi];rfl
  have hs:(PZ.take (i+1)).filter (fun p=> !gD (byN (fun z=>z.read) b.rules p) (u:Int))=(PZ.take i).filter (fun p=> !gD (byN (fun z=>z.read) b.rules p) (u:Int))++if gD (byN (fun z=>z.read) b.rules PZ[i]) (u:Int)=true then [] else [PZ[i]]:=by
   rw [Xk hlt,YX];congr 1;rw [YA];cases gD (byN (fun z=>z.read) b.rules PZ[i]) (u:Int)<;>rfl
  rw [← hV,hby] at hs;clear hby;generalize PZ[i]=p at hread hrd2 hpi hs;have hcr:(b.rules.flatMap bQ)[p.a*7+4]? =some (vS (b.rules[p.a]'hpi).read):=jw dw b.rules p.a 4 hpi (by decide);generalize (b.rules[p.a]'hpi).read=rd at hs hcr;have hh:=hh rd;generalize gD rd (u:Int)=bz at hs hh;refine J3 (fun w' hm=>hLr w' _ mS hm) (by omega) fun gr orr cr2 hlv=> ?_;cases hlv;have hcl:=fun (w' :World) (H:List Blk) (hs:MSub F H) (hm:Mem w0 w' H)=>pJ (hLr w' H hs hm) (by omega);repeat' (first|apply ak (d:=27);exact rfl;apply ai (j:=i);exact rfl;exact rfl;exact hlt|apply ak (d:=28);exact rfl;apply au (ys:=mN p);exact rfl;exact pK;exact hread;exact rfl|apply aQ (d:=36);exact rfl;apply ai (j:=i);exact rfl;exact rfl;exact hlt|apply aQ (d:=37);exact rfl;apply bB;exact rfl;exact pK;exact hrd2|apply aQ (d:=38);exact rfl;apply ai (j:=p.a);exact rfl;exact rfl;exact hpi|apply aQ (d:=41);exact rfl;apply Lb (off:=p.a*7+4);intro w' hm;exact hcl w' _ mS hm;exact rfl;exact hcr|apply df (f:=65);exact rfl;exact rfl;intro w' hm;exact hh w'|apply aN (d:=51) (A:=A7) (m:=1);(iterate 3 exact rfl);exact pK;intro w hm;exact hm.cells_own pK;exact rfl;(first|exact BD p|simp [Value.oneCell',sl]);omega;simp only [maxLen];omega;intro B7 b7 hB7|refine zZF ?_|refine sM fun _=>?_|refine sC ?_ ?_<;>intro hb<;>try omega|refine sCQ ?_ ?_<;>intro hb<;>try omega|fail)
  all_goals first
   |omega
   |(refine ⟨(i+1,V++ [p],(B7,b7)),⟨hlt,by rw [hs,if_neg (by simp_all)]⟩,by dsimp only;omega,?_,by exact sB,?_⟩<;>(dsimp only;simp only [List.length_append,List.length_singleton,List.map_append,List.flatMap_append,List.map_cons,List.map_nil,List.flatMap_cons,List.flatMap_nil,List.append_nil])<;>first|exact sB;done|exact mS;done)
   |refine ⟨(i+1,V,(A7,c7)),⟨hlt,by rw [hs,if_pos (by simp_all),List.append_nil]⟩,by dsimp only;omega,by exact sB,by exact sB,by exact mS⟩;done
 ·have e:i=PZ.length:=by omega
  subst e;rw [XF] at hV;repeat' (first|refine zZB ?_|refine sM fun _=>?_|refine sC ?_ ?_<;>intro hb<;>try omega|fail)
  all_goals first
   |omega
   |subst hV;exact bo eIO rfl rfl (H' := .own A7 31 4 ((PZ.filter (fun p=> !gD (byN (fun z=>z.read) b.rules p) (u:Int))).map fun z=>z.rect).length c7 (((PZ.filter (fun p=> !gD (byN (fun z=>z.read) b.rules p) (u:Int))).map fun z=>z.rect).flatMap ay)::lkB gx u b ⟨ae,ar,ag,al,as_,ce,cr,cg,cl,cs⟩ gg dv::F) (by rw [Xq];exact mS) ⟨A7,c7,by rw [Xq],rfl⟩
end
end Go.SL
namespace Go.SL
open Go Go.Proofs
def PJ (a b:Rn):Bool:=decide (a.1=b.1) && decide (a.2=b.2)
theorem PI (a b:Rn):PJ a b=decide (a=b):=by
 unfold PJ;rw [XY,Xo,decide_eq_true_eq,decide_eq_true_eq,decide_eq_true_eq,Prod.ext_iff]
theorem Oq (w:World) (d:Nat) (a b:Rn):(Op.equalIn (d+3) 127 (.agg (cO a).toArray) (.agg (cO b).toArray)).run Tryz.prog w= .ok (PJ a b) w:=by
 rw [run_equalIn_agg w (d+2) 127 _ _ (by rw [Program.fieldsOf,Tryz.underlying127]) Tryz.stoodInHeld127];simp only [Program.fieldsOf,Tryz.underlying127];simp [Op.eqFields,cO,part,go_sem,DE,JA,PJ];by_cases h1:a.1=b.1<;>by_cases h2:a.2=b.2<;>simp [h1,h2]
section
variable {w0:World} {s:az} {H:List Blk} {ty t' :TypeId} {x y:Operand}
theorem QZ {a b:Rn} (hx:ev s x=some (.agg (cO a).toArray)) (hy:ev s y=some (.agg (cO b).toArray)):VOp Tryz.prog w0 s H (.binOp .neq 127 x y t') ty (.bool (!PJ a b)):=fun ρ w _ _ _ _ hρ _=>by
 have h:=Oq w 9997 a b;simp only [Nat.reduceAdd] at h;simp only [execOp,hρ x _ hx,hρ y _ hy,Sem.run_bind,run_eqGuard_agg w _ _ _ _ _ _ Tryz.eqGuardType127,Result.andThen_ok,run_neq_struct,h,Sem.run_pure]
end
attribute [local irreducible] W WL WQ WG WA WX WLI WR WT WC WE VOp RW thn blk bA scp aY aX bw FnAt FnIn FnP ceP
theorem JR (L M:List Cl) (lv mv:Value) (w:World) (hl:Reads w lv L.length (L.flatMap dr)) (hm:Reads w mv M.length (M.flatMap dr)):
 aL Tryz.prog 44 [lv,mv] w (.bool (decide (L=M))):=by
 obtain ⟨Al,cl,rfl,hl1,hl2,hl3⟩:=hl;obtain ⟨Am,cm,rfl,hm1,hm2,hm3⟩:=hm;refine aB Tryz.func44 rfl Tryz.ntmps44 rfl ?_;by_cases hlen:L.length=M.length
 ·repeat' first|refine zZB ?_|refine sM fun _=>?_|refine sC ?_ ?_<;>intro hb<;>try omega|fail
  refine ax [0,1,12] rfl (fun i:Nat=> [(13,.int .i64 (i:Int))]) (fun _=> []) (fun i=>i≤L.length∧decide (L=M)=decide (L.drop i=M.drop i)) (fun i=>L.length - i) 0 ⟨by omega,rfl⟩ ?_ ?_ ?_
  ·exact sB
  ·exact mS
  ·rintro i ⟨hi,hrec⟩;by_cases hlt:i<L.length
   ·have hlt2:i<M.length:=by omega
    obtain ⟨gl,ol,rfl,hrl⟩:=hl3 (by omega);obtain ⟨gm,om,rfl,hrm⟩:=hm3 (by omega);have he1:=hrl.elem qy i hlt;have he2:=hrm.elem qy i hlt2;rw [qx hlt hlt2,← GF] at hrec;repeat' (first|apply aQ;exact rfl;apply ai;exact rfl;exact rfl;(first|exact hlt|exact hlt2)|apply aQ;exact rfl;apply aP;exact rfl;(first|exact he1|exact he2);exact rfl|apply aQ;exact rfl;apply J6;exact rfl;exact rfl|apply ak;exact rfl;apply gZ;exact rfl;exact rfl;simp only [maxLen] at*;omega|refine zZL ?_|refine sM fun _=>?_|refine sC ?_ ?_<;>intro hb<;>try omega|refine sCQ ?_ ?_<;>intro hb<;>try omega|fail)
    all_goals first
     |omega
     |(refine rT1 ?_);rw [hrec];simp_all;done
     |refine ⟨i+1,⟨by omega,?_⟩,by omega,by exact sB,by exact sB,by exact mS⟩;rw [hrec];simp_all;done
   ·have e:i=L.length:=by omega
    subst e;repeat' (first|refine zZB ?_|refine sM fun _=>?_|refine sC ?_ ?_<;>intro hb<;>try omega|fail)
    (refine rT1 ?_);rw [hrec,X0,hlen,X0]
    rfl
 ·repeat' first|refine zZB ?_|refine sM fun _=>?_|refine sC ?_ ?_<;>intro hb<;>try omega|fail
  (refine rT1 ?_);rw [decide_eq_false];intro e;exact hlen (congrArg List.length e)
theorem zt (L M:List Rn) (lv mv:Value) (w:World) (hl:Reads w lv L.length (L.flatMap cO)) (hm:Reads w mv M.length (M.flatMap cO)):
 aL Tryz.prog 57 [lv,mv] w (.bool (decide (L=M))):=by
 obtain ⟨Al,cl,rfl,hl1,hl2,hl3⟩:=hl;obtain ⟨Am,cm,rfl,hm1,hm2,hm3⟩:=hm;refine aB Tryz.func57 rfl Tryz.ntmps57 rfl ?_;by_cases hlen:L.length=M.length
 ·repeat' first|refine zZB ?_|refine sM fun _=>?_|refine sC ?_ ?_<;>intro hb<;>try omega|fail
  refine ax [0,1,12] rfl (fun i:Nat=> [(13,.int .i64 (i:Int))]) (fun _=> []) (fun i=>i≤L.length∧decide (L=M)=decide (L.drop i=M.drop i)) (fun i=>L.length - i) 0 ⟨by omega,rfl⟩ ?_ ?_ ?_
  ·exact sB
  ·exact mS
  ·rintro i ⟨hi,hrec⟩;by_cases hlt:i<L.length
   ·have hlt2:i<M.length:=by omega
    obtain ⟨gl,ol,rfl,hrl⟩:=hl3 (by omega);obtain ⟨gm,om,rfl,hrm⟩:=hm3 (by omega);have he1:=hrl.elem kE i hlt;have he2:=hrm.elem kE i hlt2;rw [qx hlt hlt2,← PI] at hrec;repeat' (first|apply aQ;exact rfl;apply ai;exact rfl;exact rfl;(first|exact hlt|exact hlt2)|apply aQ;exact rfl;apply aP;exact rfl;(first|exact he1|exact he2);exact rfl|apply aQ;exact rfl;apply QZ;exact rfl;exact rfl|apply ak;exact rfl;apply gZ;exact rfl;exact rfl;simp only [maxLen] at*;omega|refine zZL ?_|refine sM fun _=>?_|refine sC ?_ ?_<;>intro hb<;>try omega|refine sCQ ?_ ?_<;>intro hb<;>try omega|fail)
    all_goals first
     |omega
     |(refine rT1 ?_);rw [hrec];simp_all;done
     |refine ⟨i+1,⟨by omega,?_⟩,by omega,by exact sB,by exact sB,by exact mS⟩;rw [hrec];simp_all;done
   ·have e:i=L.length:=by omega
    subst e;repeat' (first|refine zZB ?_|refine sM fun _=>?_|refine sC ?_ ?_<;>intro hb<;>try omega|fail)
    (refine rT1 ?_);rw [hrec,X0,hlen,X0]
    rfl
 ·repeat' first|refine zZB ?_|refine sM fun _=>?_|refine sC ?_ ?_<;>intro hb<;>try omega|fail
  (refine rT1 ?_);rw [decide_eq_false];intro e;exact hlen (congrArg List.length e)
theorem HG (L M:List Cl) (lv mv:Value) (w:World) (hl:Reads w lv L.length (L.flatMap dr)) (hm:Reads w mv M.length (M.flatMap dr)):
 aL Tryz.prog 43 [lv,mv] w (.bool (decide (L=M))):=by
 obtain ⟨Al,cl,rfl,hl1,hl2,hl3⟩:=hl;obtain ⟨Am,cm,rfl,hm1,hm2,hm3⟩:=hm;refine aB Tryz.func43 rfl Tryz.ntmps43 rfl ?_;by_cases hlen:L.length=M.length
 ·repeat' first|refine zZB ?_|refine sM fun _=>?_|refine sC ?_ ?_<;>intro hb<;>try omega|fail
  refine gI (fun i:Nat=> [(0,.slice Al L.length cl),(1,.slice Am M.length cm),(5,.int .i64 (i:Int))]) (fun _=> []) (fun i=>i≤L.length∧decide (L=M)=decide (L.drop i=M.drop i)) (fun i=>L.length - i) 0 ⟨by omega,rfl⟩ ?_ ?_ ?_
  ·exact sB
  ·exact mS
  ·rintro i ⟨hi,hrec⟩;by_cases hlt:i<L.length
   ·have hlt2:i<M.length:=by omega
    obtain ⟨gl,ol,rfl,hrl⟩:=hl3 (by omega);obtain ⟨gm,om,rfl,hrm⟩:=hm3 (by omega);have he1:=hrl.elem qy i hlt;have he2:=hrm.elem qy i hlt2;rw [qx hlt hlt2,← GF] at hrec;repeat' (first|apply aQ;exact rfl;apply ai;exact rfl;exact rfl;(first|exact hlt|exact hlt2)|apply aQ;exact rfl;apply aP;exact rfl;(first|exact he1|exact he2);exact rfl|apply aQ;exact rfl;apply J6;exact rfl;exact rfl|apply ak;exact rfl;apply gZ;exact rfl;exact rfl;simp only [maxLen] at*;omega|refine zZL ?_|refine sM fun _=>?_|refine sC ?_ ?_<;>intro hb<;>try omega|refine sCQ ?_ ?_<;>intro hb<;>try omega|fail)
    all_goals first
     |omega
     |(refine rT1 ?_);rw [hrec];simp_all;done
     |refine ⟨i+1,⟨by omega,?_⟩,by omega,by exact sB,by exact mS⟩;rw [hrec];simp_all;done
   ·have e:i=L.length:=by omega
    subst e;repeat' (first|refine zZB ?_|refine sM fun _=>?_|refine sC ?_ ?_<;>intro hb<;>try omega|fail)
    (refine rT1 ?_);rw [hrec,X0,hlen,X0]
    rfl
 ·repeat' first|refine zZB ?_|refine sM fun _=>?_|refine sC ?_ ?_<;>intro hb<;>try omega|fail
  (refine rT1 ?_);rw [decide_eq_false];intro e;exact hlen (congrArg List.length e)
def iY (r:Rsn) (pv cv:Value):List Value:= [.bool r.sees,pv,cv]
def vU (r s:Rsn):Bool:=decide (r.sees=s.sees) && (decide (r.path=s.path) && decide (r.cuts=s.cuts))
theorem fW (r s:Rsn) (pr cr ps cs:Value) (w:World) (h1:Reads w pr r.path.length (r.path.flatMap aq)) (h2:Reads w cr r.cuts.length (r.cuts.flatMap dr)) (h3:Reads w ps s.path.length (s.path.flatMap aq)) (h4:Reads w cs s.cuts.length (s.cuts.flatMap dr)):
 aL Tryz.prog 18 [.agg (iY r pr cr).toArray,.agg (iY s ps cs).toArray] w (.bool (vU r s)):=by
 have k1:=fun (w' :World) (H:List Blk) (hm:Mem w w' H)=>tY r.path s.path pr ps w' (h1.of_w0 hm) (h3.of_w0 hm);have k2:=fun (w' :World) (H:List Blk) (hm:Mem w w' H)=>HG r.cuts s.cuts cr cs w' (h2.of_w0 hm) (h4.of_w0 hm);obtain ⟨A1,c1,rfl, -⟩:=h1;obtain ⟨A2,c2,rfl, -⟩:=h2;obtain ⟨A3,c3,rfl, -⟩:=h3;obtain ⟨A4,c4,rfl, -⟩:=h4;unfold vU;generalize decide (r.path=s.path)=b1 at k1 ⊢;generalize decide (r.cuts=s.cuts)=b2 at k2 ⊢;refine aB Tryz.func18 rfl Tryz.ntmps18 rfl ?_;simp only [iY];generalize r.sees=s1;generalize s.sees=s2;repeat' (first|apply aa (f:=13);exact rfl;exact rfl;intro w' hm;exact k1 w' _ hm|apply df (f:=13);exact rfl;exact rfl;intro w' hm;exact k1 w' _ hm|apply aa (f:=43);exact rfl;exact rfl;intro w' hm;exact k2 w' _ hm|apply df (f:=43);exact rfl;exact rfl;intro w' hm;exact k2 w' _ hm|refine zZL ?_|refine sM fun _=>?_|refine sC ?_ ?_<;>intro hb<;>try omega|refine sCQ ?_ ?_<;>intro hb<;>try omega|fail)
 all_goals first
  |omega
  |(refine rT1 ?_);simp_all;done
theorem O7 {G:Gr} {L:List Rl} {N:List Gn} (hL:(eV 64 L).2=0) (hN:(lA 64 N).2=0) {c:Rf} (hc:c.valid=true):jS G L N c=(gA G (dV L N) c,0):=by
 have h:stE c.valid L N=0:=by
  unfold stE;rw [if_neg (by rw [hc];decide),if_neg (by rw [hL];decide),hN]
 unfold jS;rw [if_neg (by rw [h];decide)]
theorem JN (f:FuncId) [Callable Tryz.prog f] (caps:List Value) (q:Rct→Bool) (L:List Rct) (A:Option Nat) (cap:Nat) (hlen:L.length≤1000000) (w0:World) (H:List Blk) (hin:In (.own A 31 4 L.length cap (L.flatMap ay)) H)
 (hf: ∀ u∈L,FnIn Tryz.prog f ([.agg (ay u).toArray]++caps) w0 H fun v H' =>v= .bool (q u)∧H' =H):
 FnIn Tryz.prog 108 [sl A L.length cap,.func (.func f) #[] caps.toArray] w0 H fun v H' =>v= .int .i64 (tG q L)∧H' =H:=by
 refine bI Tryz.func108 rfl Tryz.ntmps108 rfl ?_;repeat' (first|refine sT ?_|refine sM fun _=>?_|refine sC ?_ ?_<;>intro hb<;>try omega|fail)
 refine gI (fun i:Nat=> [(0,sl A L.length cap),(1,.func (.func f) #[] caps.toArray),(7,.int .i64 (L.length:Int)),(8,.int .i64 (i:Int))]) (fun _=>H) (fun i=>i≤L.length∧ ∀ j (h:j<L.length),j<i→q L[j]=false) (fun i=>L.length - i) 0 ⟨by omega,fun j _ h=>by omega⟩ sB (.refl _) ?_;rintro i ⟨hi,hno⟩;by_cases hlt:i<L.length
 ·refine aU (A:=A) hin (by omega) fun go hA=> ?_;subst hA;have hread:((L.flatMap ay).drop (0+i*4)).take 4=ay L[i]:=by rw [Xv];exact aM bM L i hlt
  have hq:=hf L[i] (XO hlt);have hnext:q L[i]=false→ ∀ j (h:j<L.length),j<i+1→q L[j]=false:=fun h0 j h hj=>by
   by_cases e:j=i
   ·subst e;exact h0
   ·exact hno j h (by omega)
  have hres:q L[i]=true→tG q L=(i:Int):=fun h0=>by
   unfold tG;rw [YI.2 ⟨hlt,h0,fun j hj=>by rw [hno j (by omega) hj];simp⟩]
  generalize L[i]=u at hread hq hnext hres;generalize q u=b at hq hnext hres;repeat' (first|apply ak;exact rfl;apply ai (j:=i);exact rfl;exact rfl;exact hlt|apply ak;exact rfl;apply au (ys:=ay u);exact rfl;exact hin;exact hread;exact rfl|apply fK;exact rfl;exact rfl;infer_instance;exact rfl;exact hq;rintro _ _ ⟨rfl,rfl⟩|refine sT ?_|refine sN ?_|refine sM fun _=>?_|refine sC ?_ ?_<;>intro hb<;>try omega|fail)
  all_goals first
   |refine bo eIO rfl rfl (.refl _) ⟨?_,rfl⟩;rw [hres (by assumption)];done
   |refine ⟨i+1,⟨hlt,hnext (by assumption)⟩,by omega,?_,.refl _⟩;exact sB;done
 ·have e:i=L.length:=by omega
  subst e;have hres:tG q L= -1:=by
   unfold tG
   rw [YZ.2 fun x hx=>by
    obtain ⟨j,hj,rfl⟩:=YN hx;exact hno j hj hj]
  repeat' first|refine sT ?_|refine sM fun _=>?_|refine sC ?_ ?_<;>intro hb<;>try omega|fail
  all_goals (refine bo eIO rfl rfl (.refl _) ⟨?_,rfl⟩;rw [hres])
theorem rj (f:FuncId) [Callable Tryz.prog f] (caps:List Value) (q:Rct→Bool) (L:List Rct) (A:Option Nat) (cap:Nat) (hlen:L.length≤1000000) (w0:World) (H:List Blk) (hin:In (.own A 31 4 L.length cap (L.flatMap ay)) H)
 (hf: ∀ u∈L,FnIn Tryz.prog f ([.agg (ay u).toArray]++caps) w0 H fun v H' =>v= .bool (q u)∧H' =H):
 FnIn Tryz.prog 61 [sl A L.length cap,.func (.func f) #[] caps.toArray] w0 H fun v H' =>v= .bool (L.any q)∧H' =H:=by
 refine bI Tryz.func61 rfl Tryz.ntmps61 rfl ?_;have hI:=JN f caps q L A cap hlen w0 H hin hf;have hres:decide (0≤tG q L)=L.any q:=by
  unfold tG
  cases h:L.findIdx? q with
  |none=>
   rw [YZ] at h;have:L.any q=false:=by rw [Y3];exact fun x hx=>by rw [h x hx];simp
   rw [this];rfl
  |some i=>
   obtain ⟨h1,h2,_⟩:=YI.1 h;have:L.any q=true:=XQ.2 ⟨_,XO h1,h2⟩;rw [this];simp
 repeat' first|apply aj (f:=108);exact rfl;exact rfl;exact hI;rintro _ _ ⟨rfl,rfl⟩|refine sT ?_|refine sM fun _=>?_|refine sC ?_ ?_<;>intro hb<;>try omega|fail
 all_goals (refine bo eIO rfl rfl (.refl _) ⟨?_,rfl⟩;rw [hres])
noncomputable def dpV (G:Gr) (hid:Rct→List Rct) (f:Rf):Value:= .bool (mQ G hid f)
section
variable {u:Nat} {b:Bk} {x:Bv} {gg:Nat} {G:Gr} {B F0:List Blk} {w0:World} (D:Lkd u b x gg G B F0 w0) (gx:Nat) (dv:Value) {F:List Blk} (hF:MSub F0 F)
include D hF
theorem Mk (r:Rct) (hr:aA r=true) (gl:Nat):FnIn Tryz.prog 121 [.agg (ay r).toArray,.pointer (some ⟨gl,0,none⟩)] w0 (lkB gx u b x gg dv:: .box gl 90 [.pointer (some ⟨gx,0,none⟩)]::F) fun v H' =>v= .bool (decide (0<(aZ b.rules (u:Int) r).length))∧H' =lkB gx u b x gg dv:: .box gl 90 [.pointer (some ⟨gx,0,none⟩)]::F:=by
 refine bI Tryz.func121 rfl Tryz.ntmps121 rfl ?_;have hhd:=fun (H:List Blk) (hs:MSub F H)=>kY D gx dv (hF.trans hs) r hr;generalize aZ b.rules (u:Int) r=P at hhd ⊢;have hpos:decide (0<P.length)=decide ((P.length:Int)>0):=by
  rw [XY,decide_eq_true_eq,decide_eq_true_eq];omega
 rw [hpos];repeat' (first|apply aj (f:=53);exact rfl;exact rfl;refine FnIn.msub (hhd _ ?_) (MSub.pick pK (MSub.refl _));(focus (exact mS;done));rintro _ _ ⟨Ap,cp,rfl,rfl⟩|refine zZB ?_|refine sM fun _=>?_|refine sC ?_ ?_<;>intro hb<;>try omega|fail)
 all_goals first
  |omega
  |refine bo eIO rfl rfl (H' :=lkB gx u b x gg dv:: .box gl 90 [.pointer (some ⟨gx,0,none⟩)]::F) mS ⟨rfl,rfl⟩;done
theorem wU (a:Rf) (hv:a.valid=true):FnIn Tryz.prog 40 [.pointer (some ⟨gx,0,none⟩),aC a] w0 (lkB gx u b x gg dv::F) fun v H' =>v= .bool ((gA G (lwB b) a).getLsbD u)∧H' =lkB gx u b x gg dv::F:=by
 obtain ⟨ae,ar,ag,al,as_,ce,cr,cg,cl,cs⟩:=x;refine bI Tryz.func40 rfl Tryz.ntmps40 rfl ?_;have hlb:=O7 (G:=G) D.oL D.oN hv;have hL:=fun (H:List Blk) (hs:MSub F H)=>pP (B:=B) (F:=H) (w0:=w0) hlb D.rd ((D.sub.trans hF).trans hs) ar ag cr cg (fun w' hm=>D.rl w' ((hF.trans hs).use hm)) (fun w' hm=>D.gn w' ((hF.trans hs).use hm)) D.lN;rw [← o5 D.hu];generalize gA G (lwB b) a=lab at hL ⊢;have hh:=fun w=>jc lab (u:Int) w;repeat' (first|rename_i g3;refine bT (id:=1) [15] [] [.box g3 34 (aq a),lkB gx u b ⟨ae,ar,ag,al,as_,ce,cr,cg,cl,cs⟩ gg dv] (by kernel_rfl) (by kernel_rfl) (by kernel_rfl) mS ?_|apply aj (f:=22);exact rfl;exact rfl;exact hL _ mS;rintro _ _ ⟨rfl,rfl⟩|apply aa (f:=65);exact rfl;exact rfl;intro w' hm;exact hh w'|refine zZX ?_|refine sM fun _=>?_|refine sC ?_ ?_<;>intro hb<;>try omega|refine sCQ ?_ ?_<;>intro hb<;>try omega|refine sCW ?_ ?_<;>intro hb<;>try omega|fail)
 all_goals first
  |omega
  |refine bo eIO rfl rfl (H' :=lkB gx u b ⟨ae,ar,ag,al,as_,ce,cr,cg,cl,cs⟩ gg dv::F) mS ⟨rfl,rfl⟩;done
end
end Go.SL
namespace Go.SL
open Go Go.Proofs
section
variable {P:Program} {n:Fr} {w0:World} {s:az} {H:List Blk} {fn:Func} {R:Value→List Blk→Prop} {e:Exit} {t u T U T' U' g h m:Nat} {xs:List Value} {v:Value}
theorem VG (he:e= .ret∨e= .normal) (hr:fn.results= #[.cell t T,.cell u U]) [Agg P T m] [One P U] (ht:look s t=some (.pointer (some ⟨g,0,none⟩))) (hi:In (.box g T' xs) H) (hl:Nat.beq xs.length m=true) (hu:look s u=some (.pointer (some ⟨h,0,none⟩))) (hi' :In (.box h U' [v]) H) {H' :List Blk} (hs:MSub H' H) (hR:R (.tuple #[.agg xs.toArray,v]) H'):aY P fn n w0 R e s H:=
 ⟨he,_,H',hs,fun a w hst hm=>by
  have h1:=mg (P:=P) (T:=T) hst hm ht hi hl;have h2:=kA (P:=P) (T:=U) hst hm hu hi';simp only [results,hr];simp only [Zz,XV,X5,Sem.run_bind,Sem.run_map] at h1 h2 ⊢;simp only [h1,h2,Result.andThen_ok,Sem.run_pure]
  rfl,hR⟩
end
attribute [local irreducible] W WL WQ WG WA WX WLI WR WT WC WE VOp RW thn blk bA scp aY aX bw FnAt FnIn FnP ceP
def Qe (a c:Rf):Int:=if a.row≠c.row then a.row - c.row else a.col - c.col
theorem EI {a:Rf} (h:a.valid=true):1≤a.col∧a.col≤1024∧1≤a.row∧a.row≤1024:=by
 unfold Rf.valid valid at h;simp only [Xo,decide_eq_true_eq] at h;omega
theorem SG (a c:Rf):decide (Qe a c<0)=bE a c:=by
 unfold Qe bE;rw [XY];simp only [decide_eq_true_eq,Zn,Xo];split<;>omega
theorem MR (a c:Rf) (ha:a.valid=true) (hc:c.valid=true) (w:World):aL Tryz.prog 118 [aC a,aC c] w (.int .i64 (Qe a c)):=by
 have h1:=EI ha;have h2:=EI hc;refine aB Tryz.func118 rfl Tryz.ntmps118 rfl ?_;unfold Qe;obtain ⟨a1,a2⟩:=a;obtain ⟨c1,c2⟩:=c;simp only at h1 h2 ⊢;clear ha hc;simp only [aC,aq];repeat' (first|refine sT ?_|refine sJ ?_|refine sM fun _=>?_|refine sC ?_ ?_<;>intro hb<;>try omega|fail)
 all_goals first
  |omega
  |rw [if_pos (by assumption)];refine rT1 ?_;rfl
  |rw [if_neg (by omega)];refine rT1 ?_;rfl
def zF:Rf:=⟨0,0⟩
theorem Bl (a:Rf) (ha:a.valid=true) (o:Option Rf) (ho: ∀ c,o=some c→c.valid=true) (gi gf:Nat) (F:List Blk) (w0:World):
 FnIn Tryz.prog 122 [aC a,.pointer (some ⟨gi,0,none⟩),.pointer (some ⟨gf,0,none⟩)] w0 (.box gi 4 [.bool o.isSome]:: .box gf 34 (aq (o.getD zF))::F) fun v H' =>v= .tuple #[]∧H' = .box gi 4 [.bool true]:: .box gf 34 (aq (tB a o))::F:=by
 refine bI Tryz.func122 rfl Tryz.ntmps122 rfl ?_
 cases o with
 |none=>
   show W _ _ _ _ _ _ (.box gi 4 [.bool false]:: .box gf 34 (aq zF)::F);repeat' (first|refine zZB ?_|refine sM fun _=>?_|refine sC ?_ ?_<;>intro hb<;>try omega|fail)
   all_goals first
    |omega
    |exact fJ eIO rfl (H' := .box gi 4 [.bool true]:: .box gf 34 (aq a)::F) mS ⟨rfl,rfl⟩
 |some c=>
   have hb4:=fun w' =>MR a c ha (ho c rfl) w';have hlt:=SG a c;show W _ _ _ _ _ _ (.box gi 4 [.bool true]:: .box gf 34 (aq c)::F);simp only [tB];generalize Qe a c=k at hb4 hlt;generalize bE a c=lt at hlt;repeat' (first|apply aa (f:=118);exact rfl;exact rfl;intro w' hm;exact hb4 w'|refine zZB ?_|refine sM fun _=>?_|refine sC ?_ ?_<;>intro hb<;>try omega|fail)
   all_goals first
    |omega
    | (have e : lt = true := by rw [← hlt]; exact decide_eq_true hb
       subst e;exact fJ eIO rfl (H' := .box gi 4 [.bool true]:: .box gf 34 (aq a)::F) mS ⟨rfl,rfl⟩)
    | (have e : lt = false := by rw [← hlt]; exact decide_eq_false (by omega)
       subst e;exact fJ eIO rfl (H' := .box gi 4 [.bool true]:: .box gf 34 (aq c)::F) mS ⟨rfl,rfl⟩)
def FU (gi gf:Nat) (o:Option Rf):List Blk:= [.box gi 4 [.bool o.isSome],.box gf 34 (aq (o.getD zF))]
theorem FY (f:FuncId) [Callable Tryz.prog f] (caps:List Value) (Ls:List Rf→Prop) (w0:World) (F:List Blk)
 (hE: ∀ gi gf,FnIn Tryz.prog f ([.func (.func 122) #[] #[.pointer (some ⟨gi,0,none⟩),.pointer (some ⟨gf,0,none⟩)]]++caps) w0 (FU gi gf none++F) fun _ H' => ∃ L,Ls L∧H' =FU gi gf (bR L)++F):
 FnIn Tryz.prog 83 [.func (.func f) #[] caps.toArray] w0 F fun v H' => ∃ L,Ls L∧v= .tuple #[aC ((bR L).getD zF),.bool (bR L).isSome]∧H' =F:=by
 refine bI Tryz.func83 rfl Tryz.ntmps83 rfl ?_;repeat' (first|apply fK;exact rfl;exact rfl;infer_instance;exact rfl;exact FnIn.msub (hE _ _) (MSub.pick pK (MSub.pick pK (MSub.refl _)));rintro _ _ ⟨L,hL,rfl⟩|refine zZB ?_|refine sM fun _=>?_|refine sC ?_ ?_<;>intro hb<;>try omega|fail)
 all_goals try omega
 rename_i gf gi v9;show W _ _ _ _ _ _ (.box gi 4 [.bool (bR L).isSome]:: .box gf 34 (aq ((bR L).getD zF))::_);generalize hfa:(bR L).getD zF=fa;generalize hfb:(bR L).isSome=fb;refine fw (id:=2) [0,1,2,3] [] 4 rfl rfl mS ?_;repeat' (first|apply cF (i:=0) (j:=1);(iterate 6 exact rfl);decide+kernel|apply cF (i:=1) (j:=2);(iterate 6 exact rfl);decide+kernel|apply cF (i:=0) (j:=3);(iterate 6 exact rfl);decide+kernel|apply cF (i:=2) (j:=3);(iterate 6 exact rfl);decide+kernel|apply bk (i:=0);(iterate 3 exact rfl);decide+kernel|apply bk (i:=1);(iterate 3 exact rfl);decide+kernel|apply bk (i:=2);(iterate 3 exact rfl);decide+kernel|apply bk (i:=3);(iterate 3 exact rfl);decide+kernel|apply fu;decide+kernel|apply rW;(focus (exact mS;done))|refine zZB ?_|refine sM fun _=>?_|refine sC ?_ ?_<;>intro hb<;>try omega|fail)
 all_goals
  (exact VG eIO rfl rfl pK rfl rfl pK (xs:=aq fa) (v:= .bool fb) (H' :=F) mS ⟨L,hL,by rw [hfa,hfb];rfl,rfl⟩)
section
variable {u:Nat} {b:Bk} {x:Bv} {gg:Nat} {G:Gr} {B F0:List Blk} {w0:World} (D:Lkd u b x gg G B F0 w0) (gx:Nat) (dv:Value) {F:List Blk} (hF:MSub F0 F)
include D hF
theorem OQ {a:Rf}: ∀ r∈cG G (lwB b) u a,aA r=true:=fun r hr=>by
 have _:=hF;obtain ⟨y,hy,_,rfl⟩:=eu.1 hr;exact iE D.rd.g hy
theorem oS {a:Rf}:(cG G (lwB b) u a).length≤1000:=by
 have _:=hF;unfold cG;rw [Xq];exact XU (XS _ _) (fL D.rd.g a)
theorem R4 {r:Rct} (hr:aA r=true):(aZ b.rules (u:Int) r).length≤1000000:=by
 have _:=hF;rw [w5 D.oL hr,Xq];exact XU (XS _ _) (qe (DI D.oL).2)
theorem Sr (a:Rf) (gl ga gi gf:Nat):FnIn Tryz.prog 123 [.func (.func 122) #[] #[.pointer (some ⟨gi,0,none⟩),.pointer (some ⟨gf,0,none⟩)],.pointer (some ⟨gl,0,none⟩),.pointer (some ⟨ga,0,none⟩)] w0 (FU gi gf none++(.box gl 90 [.pointer (some ⟨gx,0,none⟩)]:: .box ga 34 (aq a)::lkB gx u b x gg dv::F)) fun _ H' => ∃ L,L=GJ G (lwB b) u (aZ b.rules (u:Int)) a∧H' =FU gi gf (bR L)++(.box gl 90 [.pointer (some ⟨gx,0,none⟩)]:: .box ga 34 (aq a)::lkB gx u b x gg dv::F):=by
 refine bI Tryz.func123 rfl Tryz.ntmps123 rfl ?_;have hop:=fun (H:List Blk) (hs:MSub F H)=>s9 D gx dv (hF.trans hs) a;have hhd:=fun (r:Rct) (hr:aA r=true) (H:List Blk) (hs:MSub F H)=>kY D gx dv (hF.trans hs) r hr;have hok:=OQ D hF (a:=a);have hol:=oS D hF (a:=a);have hHl:=fun (r:Rct) (hr:aA r=true)=>R4 D hF hr;have hun:=(Jc b.grants D.oL D.hu).un;unfold GJ;generalize cG G (lwB b) u a=R at hop hok hol ⊢;generalize aZ b.rules (u:Int)=hid at hhd hHl hun ⊢;simp only [FU,Xc,Xd];show W _ _ _ _ _ _ (.box gi 4 [.bool false]:: .box gf 34 (aq zF)::_);repeat' (first|apply aj (f:=85);exact rfl;exact rfl;refine FnIn.msub (hop _ ?_) (MSub.pick pK (MSub.refl _));(focus (exact mS;done));rintro _ _ ⟨Ao,co,rfl,rfl⟩|refine zZB ?_|refine sM fun _=>?_|refine sC ?_ ?_<;>intro hb<;>try omega|fail)
 all_goals try omega
 refine ax [0,1,2,10,11] rfl (fun y:Nat × List Rf=> [(12,.int .i64 (y.1:Int))]) (fun y=> .box gi 4 [.bool (bR y.2).isSome]:: .box gf 34 (aq ((bR y.2).getD zF)):: .own Ao 31 4 R.length co (R.flatMap ay):: .box gl 90 [.pointer (some ⟨gx,0,none⟩)]:: .box ga 34 (aq a)::lkB gx u b x gg dv::F) (fun y=>y.1≤R.length∧y.2=(R.take y.1).flatMap (fun r=>(hid r).map jO)∧ ∀ c∈y.2,c.valid=true) (fun y=>R.length - y.1) (0,[]) ⟨Xn _,rfl,fun _ h=>by cases h⟩ sB mS ?_;rintro ⟨i,L⟩ ⟨hi,hL,hv⟩;dsimp only at hi hL hv ⊢;by_cases hlt:i<R.length
 ·refine aU (A:=Ao) pK (by omega) fun go hA=> ?_;subst hA;have hread:((R.flatMap ay).drop (0+i*4)).take 4=ay R[i]:=by rw [Xv];exact aM bM R i hlt
  have hri:=hok _ (XO hlt);have hhd:=hhd _ hri;have hHl:=hHl _ hri;have hun:=hun _ hri;have hs:(R.take (i+1)).flatMap (fun r=>(hid r).map jO)=L++(hid R[i]).map jO:=by
   rw [Xk hlt,Xz,ZT,← hL]
  generalize R[i]=r at hread hhd hHl hun hs;generalize hid r=P at hhd hHl hun hs;repeat' (first|apply ak (d:=14);exact rfl;apply ai (j:=i);exact rfl;exact rfl;exact hlt|apply ak (d:=15);exact rfl;apply au (ys:=ay r);exact rfl;exact pK;exact hread;exact rfl|apply aj (f:=53);exact rfl;exact rfl;refine FnIn.msub (hhd _ ?_) (MSub.pick pK (MSub.refl _));(focus (exact mS;done));rintro _ _ ⟨Ap,cp,rfl,rfl⟩|refine zZA ?_|refine sM fun _=>?_|refine sC ?_ ?_<;>intro hb<;>try omega|fail)
  all_goals try omega
  refine ax [0,1,2,10,11,12,18,19] rfl (fun y:Nat × List Rf=> [(20,.int .i64 (y.1:Int))]) (fun y=> .box gi 4 [.bool (bR y.2).isSome]:: .box gf 34 (aq ((bR y.2).getD zF)):: .own Ap 31 4 P.length cp (P.flatMap ay):: .own (some go) 31 4 R.length co (R.flatMap ay):: .box gl 90 [.pointer (some ⟨gx,0,none⟩)]:: .box ga 34 (aq a)::lkB gx u b x gg dv::F) (fun y=>y.1≤P.length∧y.2=L++(P.take y.1).map jO∧ ∀ c∈y.2,c.valid=true) (fun y=>P.length - y.1) (0,L) ⟨Xn _,by rw [YF,XR,Xm],hv⟩ sB mS ?_;rintro ⟨j,M⟩ ⟨hj,hM,hvM⟩;dsimp only at hj hM hvM ⊢;by_cases hltj:j<P.length
  ·refine aU (A:=Ap) pK (by omega) fun gp hA=> ?_;subst hA;have hreadp:((P.flatMap ay).drop (0+j*4)).take 4=ay P[j]:=by rw [Xv];exact aM bM P j hltj
   have hpo:=(hun _ (XO hltj)).1;have hcv:(jO P[j]).valid=true:=EH hpo (nM hpo);have hsj:L++(P.take (j+1)).map jO=M++ [jO P[j]]:=by
    rw [Xk hltj,XI,← XE,← hM];rfl
   generalize P[j]=p at hreadp hpo hcv hsj;have hl1:=fun F=>Bl (jO p) hcv (bR M) (fun c hc=>hvM c ((jt M).mem c hc)) gi gf F w0;have hsn:=oX M (jO p);repeat' (first|apply ak (d:=22);exact rfl;apply ai (j:=j);exact rfl;exact rfl;exact hltj|apply ak (d:=23);exact rfl;apply au (ys:=ay p);exact rfl;exact pK;exact hreadp;exact rfl|apply fK;exact rfl;exact rfl;infer_instance;exact rfl;exact FnIn.msub (hl1 _) (MSub.pick pK (MSub.pick pK (MSub.refl _)));rintro _ _ ⟨rfl,rfl⟩|refine zZA ?_|refine sM fun _=>?_|refine sC ?_ ?_<;>intro hb<;>try omega|fail)
   all_goals first
    |omega
    | (refine ⟨(j + 1, M ++ [jO p]), ⟨hltj, hsj.symm, fun c hc => ?_⟩, by dsimp only; omega, by exact sB, by exact sB, ?_⟩
       ·rcases Xr.1 hc with hc|hc
        ·exact hvM c hc
        ·rw [Xl.1 hc];exact hcv
       ·dsimp only;rw [hsn];exact mS)
  ·have e:j=P.length:=by omega
   subst e;rw [XF] at hM;rw [← hM] at hs;repeat' (first|refine zZA ?_|refine sM fun _=>?_|refine sC ?_ ?_<;>intro hb<;>try omega|fail)
   all_goals first
    |omega
    |refine ⟨(i+1,M),⟨hlt,hs.symm,hvM⟩,by dsimp only;omega,by exact sB,by exact sB,by exact mS⟩;done
 ·have e:i=R.length:=by omega
  subst e;rw [XF] at hL;repeat' (first|refine zZB ?_|refine sM fun _=>?_|refine sC ?_ ?_<;>intro hb<;>try omega|fail)
  all_goals first
   |omega
   |exact fJ eIO rfl (H' := .box gi 4 [.bool (bR L).isSome]:: .box gf 34 (aq ((bR L).getD zF)):: .box gl 90 [.pointer (some ⟨gx,0,none⟩)]:: .box ga 34 (aq a)::lkB gx u b x gg dv::F) mS ⟨L,hL,rfl⟩
theorem PL (a:Rf):FnIn Tryz.prog 86 [.pointer (some ⟨gx,0,none⟩),aC a] w0 (lkB gx u b x gg dv::F) fun v H' =>v= .tuple #[aC ((jx G (lwB b) u (aZ b.rules (u:Int)) a).getD zF),.bool (jx G (lwB b) u (aZ b.rules (u:Int)) a).isSome]∧H' =lkB gx u b x gg dv::F:=by
 refine bI Tryz.func86 rfl Tryz.ntmps86 rfl ?_;have hl:=fun (gl ga:Nat) (H:List Blk) (hs:MSub F H)=>FY 123 [.pointer (some ⟨gl,0,none⟩),.pointer (some ⟨ga,0,none⟩)] (fun L=>L=GJ G (lwB b) u (aZ b.rules (u:Int)) a) w0 (.box gl 90 [.pointer (some ⟨gx,0,none⟩)]:: .box ga 34 (aq a)::lkB gx u b x gg dv::H) (fun gi gf=>Sr D gx dv (hF.trans hs) a gl ga gi gf);unfold jx;repeat' (first|apply aj (f:=83);exact rfl;exact rfl;refine FnIn.msub (hl _ _ _ ?_) (MSub.pick pK (MSub.pick pK (MSub.pick pK (MSub.refl _))));(focus (exact mS;done));rintro _ _ ⟨L,rfl,rfl,rfl⟩|refine zZB ?_|refine sM fun _=>?_|refine sC ?_ ?_<;>intro hb<;>try omega|fail)
 all_goals first
  |omega
  |exact vq eIO rfl rfl pK rfl rfl (H' :=lkB gx u b x gg dv::F) mS ⟨rfl,rfl⟩
end
end Go.SL
