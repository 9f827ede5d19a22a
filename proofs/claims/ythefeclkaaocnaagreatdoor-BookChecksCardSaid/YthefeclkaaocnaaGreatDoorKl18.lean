/-
  Lemmas and walks, put together: Tr2 W18.
-/
import Derived.Test.YthefeclkaaocnaaGreatDoorKl17
set_option linter.unusedSimpArgs false
set_option linter.unusedVariables false
set_option maxRecDepth 20000
namespace Go.SL
open Go
structure RootOk (st:List STree) (h:BN):Prop where
 root: ∀ a S b,st=a++S::b→ ∃ top,h[(uK a).length+S.ns.length - 1]? =some (top,S)
 kid: ∀ j y,h[j]? =some y→ ∀ a S b,y.1=a++S::b→ ∃ top,h[lo j y+(uK a).length+S.ns.length - 1]? =some (top,S)
def J2 (o:List Int) (ks:List Nat) (v:Int):List Int:=ks.foldl (fun o k=>o.set k v) o
def IC (o:List Int) (x:(List STree × STree) × Nat):List Int:=J2 (o++ [-1]) (rN x.2 x.1) (x.2:Int)
def J8 (h:BN):List Int:=h.zipIdx.foldl IC []
structure ParOk (st:List STree) (h:BN):Prop where
 len:(J8 h).length=h.length
 kid: ∀ j y,h[j]? =some y→ ∀ k∈rN j y,(J8 h)[k]? =some (j:Int)
 root: ∀ k∈jN 0 st,(J8 h)[k]? =some (-1)
structure Whole (L:List Nd) (S:STree) (h:BN):Prop where
 walk:Jq L [] []=(0,[S],h)
 ns:S.ns=L
 good:Good S
 inv:Inv L [S] h
 rootOk:RootOk [S] h
 parOk:ParOk [S] h
 pos:0<L.length
 last: ∃ top,h[L.length - 1]? =some (top,S)
end Go.SL
namespace Go.SL
open Go Go.Proofs
attribute [local irreducible] W WL WQ WG WA VOp thn blk bS bq aS FnIn
theorem ui {L:List Nd} {n:Nd} {i:Nat} {st:List Pt} {e:Int} (h:kH L n i st= .inl e):e≠0:=by
 unfold kH at h
 split at h
 ·
  injection h with h;subst h;assumption
 ·
  split at h
  ·
   injection h with h;omega
  ·
   split at h
   ·
    injection h with h;omega
   ·
    cases h
theorem pz {L:List Nd} {n:Nd} {i:Nat} {st st' :List Pt} {ks:List Nat} {d:Nat} (h:kH L n i st= .inr (st',ks,d)): ∃ a,(∀ p∈a,p∈st)∧a.length≤st.length∧st' =a++ [⟨i,d,decide (n.kind=3)⟩]∧d≤32:=by
 unfold kH at h
 split at h
 ·
  cases h
 ·
  split at h
  ·
   cases h
  ·
   split at h
   ·
    cases h
   ·
    simp only [Sum.inr.injEq,Prod.mk.injEq] at h
    obtain ⟨rfl,rfl,rfl⟩:=h
    exact ⟨_,fun p hp=>MH hp,by simp,rfl,by omega⟩
theorem xu {L:List Nd} {i:Nat} (hi:i<L.length) {st st' :List Pt} {ks:List Nat} {d:Nat} (ho:TopsOk L i st) (h:kH L L[i] i st= .inr (st',ks,d)):TopsOk L (i+1) st' :=by
 obtain ⟨a,h1,h2,rfl,h3⟩:=pz h
 refine ⟨fun p hp=> ?_,by have:=ho.small;simp;omega⟩
 rcases Mo.1 hp with hp|hp
 ·
  obtain ⟨q1,q2,q3⟩:=ho.ok p (h1 p hp)
  exact ⟨by omega,q2,q3⟩
 ·
  rw [Mv.1 hp]
  exact ⟨Nw i,h3,by rw [gF hi]⟩
def cA (L:List Nd):List Nd→Nat→List Pt→List Pt × Int
 | [],_,st=>(st,0)
 |n::r,i,st=>match kH L n i st with
  | .inl e=>([],e)
  | .inr x=>cA L r (i+1) x.1
def yE (st:List Pt):Nat:=(st.getLast?.map Pt.depth).getD 0
theorem rO (L:List Nd): ∀ (r:List Nd) (i:Nat) (st:List Pt) (vs:List lG),CM vs=yE st→
  (gV L r i st vs).1=(if (cA L r i st).2≠0 then (cA L r i st).2 else if (cA L r i st).1.length=1 then 0 else 4)∧((cA L r i st).2=0→CM (gV L r i st vs).2=yE (cA L r i st).1)
 | [],i,st,vs,h=>by
  refine ⟨?_,fun _=>h⟩
  by_cases h1:st.length=1<;>simp [gV,cA,h1]
 |n::r,i,st,vs,h=>by
  rw [gV,cA]
  cases hs:kH L n i st with
  |inl e=>have:=ui hs;simp [this]
  |inr x=>
   obtain ⟨st',ks,d⟩:=x
   obtain ⟨a,_,_,rfl,_⟩:=pz hs
   dsimp only
   exact rO L r (i+1) _ _ (by simp [CM,yE])
theorem xS (L:List Nd):lB L=(if 256<L.length then (0,5) else if (cA L L 0 []).2≠0 then (0,(cA L L 0 []).2) else if (cA L L 0 []).1.length≠1∨jx L (L.length - 1)=3 then (0,4) else (((yE (cA L L 0 []).1:Nat):Int),0):Int × Int):=by
 obtain ⟨h1,h2⟩:=rO L L 0 [] [] rfl
 have h0:L.length=0→(cA L L 0 []).2=0∧(cA L L 0 []).1.length=0:=fun c=>by
  have:L= []:=Me c
  subst this
  simp [cA]
 unfold lB jB lC
 generalize gV L L 0 [] []=wk at h1 h2
 generalize cA L L 0 []=j at h0 h1 h2
 generalize jx L (L.length - 1)=k
 obtain ⟨w1,w2⟩:=wk
 obtain ⟨j1,j2⟩:=j
 dsimp only at h0 h1 h2 ⊢
 by_cases c1:256<L.length
 ·
  simp [c1]
 by_cases c2:L.length=0
 ·
  obtain ⟨a1,a2⟩:=h0 c2
  simp only [if_neg c1,if_pos c2]
  simp [a1,a2]
 simp only [if_neg c1,if_neg c2]
 clear c1 c2 h0
 by_cases c3:j2=0
 ·
  have h2' :=h2 c3
  by_cases c4:j1.length=1
  ·
   by_cases c5:k=3<;>simp_all
  ·
   simp_all
 ·
  simp_all
theorem Gd (L:List Nd) (hlen:L.length≤256) (hwf: ∀ n∈L,wfN n) (tv:Value) (w:World) (ht:Reads w tv L.length (L.flatMap bY)):
  aS Tryz.prog 302 [tv] w fun v H=> ∃ A cap,v= .tuple #[sl A (cA L L 0 []).1.length cap,.int .i64 (cA L L 0 []).2]∧H= [.own A 387 2 (cA L L 0 []).1.length cap ((cA L L 0 []).1.flatMap mU)]:=by
 have ht' :=ht
 obtain ⟨At,ct,rfl,ht1,ht2,ht3⟩:=ht
 refine aq Tryz.func302 rfl Tryz.ntmps302 rfl ?_
 refine aJ 387 2 ?_
 refine aJ 387 2 ?_
 generalize hR:cA L L 0 []=R
 repeat' (first|refine sT ?_|refine sM fun _=> ?_|(refine sC ?_ ?_<;>intro hb<;>try omega)|fail)
 refine ax [0] rfl (fun x:Nat × List Pt × Option Nat × Nat=> [(4,sl x.2.2.1 x.2.1.length x.2.2.2),(5,.int .i64 (x.1:Int))]) (fun x=> [.own x.2.2.1 387 2 x.2.1.length x.2.2.2 (x.2.1.flatMap mU),.own none 387 2 0 0 []]) (fun x=>x.1≤L.length∧TopsOk L x.1 x.2.1∧R=cA L (L.drop x.1) x.1 x.2.1) (fun x=>L.length - x.1) (0,[],none,0) ⟨by omega,⟨fun p hp=>by simp at hp,LS _⟩,hR.symm⟩ sB mS ?_
 rintro ⟨i,st,A,cap⟩ ⟨hi,hok,hrec⟩
 dsimp only at hi hok hrec ⊢
 by_cases hlt:i<L.length
 ·
  rw [LJ hlt,cA] at hrec
  have hnode:=fun (w' :World) (H:List Blk) (hm:Mem w w' H) (hr:Reads w' (sl A st.length cap) st.length (st.flatMap mU))=>AF L i hlt hlen (hwf _ (Mw hlt)) st hok _ _ w' (ht'.of_w0 hm) hr
  have hto:=fun {st' ks d}=>xu (st' :=st') (ks:=ks) (d:=d) hlt hok
  unfold rE at hnode
  generalize hs:kH L L[i] i st=s at hrec hnode hto
  cases s with
  |inl e=>
   have he:=ui hs
   dsimp only at hrec hnode
   subst hrec
   repeat' (first|(apply aG;exact rfl;exact rfl;(intro w' hm;exact hnode w' _ hm (Reads.of_own hm pK));(rintro v H' ⟨A',cap',rfl,rfl⟩))|refine sT ?_|refine sM fun _=> ?_|(refine sC ?_ ?_<;>intro hb<;>try omega)|fail)
   ·
    exact ic (.inl rfl) Tryz.results302 rfl rfl (H' := [.own none 387 2 0 0 []]) mS ⟨none,0,rfl,rfl⟩
  |inr x=>
   obtain ⟨st',ks,d⟩:=x
   dsimp only at hrec hnode
   repeat' (first|(apply aG;exact rfl;exact rfl;(intro w' hm;exact hnode w' _ hm (Reads.of_own hm pK));(rintro v H' ⟨A',cap',rfl,rfl⟩))|refine sT ?_|refine sN ?_|refine sM fun _=> ?_|(refine sC ?_ ?_<;>intro hb<;>try omega)|fail)
   refine ⟨(i+1,st',A',cap'),?_,(by first|omega|(dsimp only;omega)),sB,sB,mS⟩
   exact ⟨hlt,hto rfl,hrec⟩
 ·
  have e:i=L.length:=by omega
  subst e
  rw [LU,cA] at hrec
  subst hrec
  repeat' (first|refine sT ?_|refine sM fun _=> ?_|(refine sC ?_ ?_<;>intro hb<;>try omega)|fail)
  exact ic (.inl rfl) Tryz.results302 rfl rfl (H' := [.own A 387 2 st.length cap (st.flatMap mU)]) mS ⟨A,cap,rfl,rfl⟩
theorem D9 {st:List Pt} (h:st.length=1): ∃ p,st= [p]∧yE st=p.depth:=by
 match st,h with
 | [p],_=>exact ⟨p,rfl,rfl⟩
theorem xT (L:List Nd) (hwf: ∀ n∈L,wfN n) (tv:Value) (w:World) (ht:Reads w tv L.length (L.flatMap bY)):ay Tryz.prog 259 [tv] w (.tuple #[.int .i64 (lB L).1,.int .i64 (lB L).2]):=by
 have ht' :=ht
 obtain ⟨At,ct,rfl,ht1,ht2,ht3⟩:=ht
 refine aq Tryz.func259 rfl Tryz.ntmps259 rfl ?_
 have hd:=xS L
 generalize hde:lB L=de at hd
 by_cases h256:256<L.length
 ·
  rw [if_pos h256] at hd
  subst hd
  repeat' (first|refine sT ?_|refine sM fun _=> ?_|(refine sC ?_ ?_<;>intro hb<;>try omega)|fail)
  (refine rT2 ?_)
  rfl
 have hj:=fun (w' :World) (H:List Blk) (hm:Mem w w' H)=>Gd L (by omega) hwf _ w' (ht'.of_w0 hm)
 rw [if_neg h256] at hd
 have h0:L.length=0→(cA L L 0 []).1.length=0:=fun c=>by
  have:L= []:=Me c
  subst this
  simp [cA]
 generalize cA L L 0 []=j at hj hd h0
 obtain ⟨st,e⟩:=j
 dsimp only at hj hd h0
 by_cases he:e=0
 ·
  rw [if_neg (by simp [he])] at hd
  by_cases hl:st.length=1
  ·
   obtain ⟨p,rfl,hp⟩:=D9 hl
   obtain ⟨gt,ot,rfl,hrt⟩:=ht3 (by omega)
   have hrl:=hrt.elem fp (L.length - 1) (by omega)
   have hk:jx L (L.length - 1)=(L[L.length - 1]'(by omega)).kind:=gF _
   rw [hk,hp] at hd
   generalize (L[L.length - 1]'(by omega))=nl at hrl hd
   subst he
   repeat' (first|(apply aG;exact rfl;exact rfl;(intro w' hm;exact hj w' _ hm);(rintro v H' ⟨A',cap',rfl,rfl⟩))|refine sT ?_|refine sN ?_|refine sO ?_|refine sM fun _=> ?_|(refine sC ?_ ?_<;>intro hb<;>try omega)|fail)
   ·
    rw [if_pos (.inr hb)] at hd
    subst hd
    (refine rT2 ?_)
    rfl
   ·
    rw [if_neg (by simp;omega)] at hd
    subst hd
    refine Ca .hd (by simp) fun ga hA=> ?_
    subst hA
    repeat' (first|(apply ak;exact rfl;apply aj (j:=0);exact rfl;exact rfl;exact Nat.one_pos)|(apply ak;exact rfl;apply bU;exact rfl;exact pK;exact rfl)|refine sT ?_|refine sM fun _=> ?_|(refine sC ?_ ?_<;>intro hb<;>try omega)|fail)
    (refine rT2 ?_)
    rfl
  ·
   rw [if_pos (.inl hl)] at hd
   subst hd he
   repeat' (first|(apply aG;exact rfl;exact rfl;(intro w' hm;exact hj w' _ hm);(rintro v H' ⟨A',cap',rfl,rfl⟩))|refine sT ?_|refine sN ?_|refine sO ?_|refine sM fun _=> ?_|(refine sC ?_ ?_<;>intro hb<;>try omega)|fail)
   (refine rT2 ?_)
   rfl
 ·
  rw [if_pos he] at hd
  subst hd
  repeat' (first|(apply aG;exact rfl;exact rfl;(intro w' hm;exact hj w' _ hm);(rintro v H' ⟨A',cap',rfl,rfl⟩))|refine sT ?_|refine sM fun _=> ?_|(refine sC ?_ ?_<;>intro hb<;>try omega)|fail)
  (refine rT2 ?_)
  rfl
end Go.SL
