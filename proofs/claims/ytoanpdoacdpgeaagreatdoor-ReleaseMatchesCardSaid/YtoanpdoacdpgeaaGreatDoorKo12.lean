/-
  Lemmas and walks, put together: Tr Tr2 Pg Tr5 Hc.
-/
import Derived.Deep.RegionHeld3
import Derived.Ground.SlgmProg
import Derived.Shelf.SortM.Plain
import Derived.Shelf.SortM.SortNone
import Derived.Test.YtoanpdoacdpgeaaGreatDoorKo10
set_option linter.unusedSimpArgs false
set_option linter.unusedVariables false
set_option maxRecDepth 20000
namespace Go.SL
open Go
structure STree where
 ns:List Nd
 d:Nat
def STree.kind (S:STree):Int:=((S.ns.getLast?).map Nd.kind).getD 0
def Qy (n:Nd) (i:Int) (k:Int):Bool:= !(decide (k=3) && !Da n i) && !(decide (n.kind=7) && iR n.fn && decide (k≠2) && decide (k≠3))
def rM (n:Nd):Int→List STree→Bool
 |_,[]=>true
 |i,S::r=>Qy n i S.kind && rM n (i+1) r
def fw (st:List STree) (k:Nat):List STree:=st.drop (st.length - k)
def qD (top:List STree):Nat:=top.foldl (fun d S=>max d (S.d+1)) 1
def bh (st:List STree):List Nd:=st.flatMap STree.ns
def bC (n:Nd) (top:List STree):STree:=⟨bh top++ [n],qD top⟩
def gA (n:Nd) (st:List STree):Int ⊕ (List STree × List STree):=
 if bQ n≠0 then .inl (bQ n)
 else if (st.length:Int)<below n∨rM n 0 (fw st (below n).toNat)=false then .inl 4
 else if 32<qD (fw st (below n).toNat) then .inl 9
 else .inr (st.take (st.length - (below n).toNat),fw st (below n).toNat)
abbrev iF:=List (List STree × STree)
def fq:List Nd→List STree→iF→Int × List STree × iF
 | [],st,h=>(if st.length=1 then 0 else 4,st,h)
 |n::r,st,h=>match gA n st with
  | .inl e=>(e,st,h)
  | .inr (lo,top)=>fq r (lo++ [bC n top]) (h++ [(top,bC n top)])
theorem cd (a b:List STree):bh (a++b)=bh a++bh b:=Rn
theorem l5 (S:STree):bh [S]=S.ns:=by simp [bh]
theorem fL (S:STree) (r:List STree):bh (S::r)=S.ns++bh r:=Rm
theorem cN (n:Nd) (top:List STree):(bC n top).ns.length=(bh top).length+1:=by simp [bC]
theorem FI (n:Nd) (top:List STree):(bC n top).kind=n.kind:=by simp [bC,STree.kind]
inductive Good:STree→Prop
 |mk (n:Nd) (top:List STree) (hg: ∀ S∈top,Good S) (hf:bQ n=0) (hb:(top.length:Int)=Go.SL.below n) (hfit:rM n 0 top=true) (hd:qD top≤32):Good (bC n top)
theorem Good.pos {S:STree} (h:Good S):0<S.ns.length:=by
 cases h with
 |mk n top _ _ _ _ _=>rw [cN];omega
def aI:Nat→List STree→List Nat
 |_,[]=> []
 |o,S::r=>(o+S.ns.length - 1)::aI (o+S.ns.length) r
def lo (i:Nat) (x:List STree × STree):Nat:=i+1 - x.2.ns.length
def dw (i:Nat) (x:List STree × STree):List Nat:=aI (lo i x) x.1
theorem lN (o:Nat) (l:List STree):(aI o l).length=l.length:=by
 induction l generalizing o with
 |nil=>rfl
 |cons S r ih=>simp [aI,ih]
theorem dC (o:Nat) (a b:List STree):aI o (a++b)=aI o a++aI (o+(bh a).length) b:=by
 induction a generalizing o with
 |nil=>simp [aI,bh]
 |cons S r ih=>simp [aI,ih,fL,SA]
theorem yY {o k:Nat} {l:List STree} (h:k∈aI o l): ∃ a S b,l=a++S::b∧k=o+(bh a).length+S.ns.length - 1:=by
 induction l generalizing o with
 |nil=>cases h
 |cons S r ih=>
  rcases Rs.1 h with rfl|h
  ·
   exact ⟨[],S,r,rfl,by simp [bh]⟩
  ·
   obtain ⟨a,T,b,rfl,rfl⟩:=ih h
   exact ⟨S::a,T,b,rfl,by simp [fL,SA]⟩
theorem kn {o k:Nat} {l:List STree} (hp: ∀ S∈l,0<S.ns.length) (h:k∈aI o l):o≤k∧k<o+(bh l).length:=by
 obtain ⟨a,S,b,rfl,rfl⟩:=yY h
 have:=hp S (by simp)
 simp only [cd,fL,QT]
 omega
structure Inv (dn:List Nd) (st:List STree) (h:iF):Prop where
 flat:bh st=dn
 good: ∀ S∈st,Good S
 len:h.length=dn.length
 node: ∀ i x,h[i]? =some x→ ∃ n,dn[i]? =some n∧x.2=bC n x.1∧(∀ T∈x.1,Good T)∧Good x.2∧x.2.ns.length≤i+1∧(dn.take (i+1)).drop (lo i x)=x.2.ns
 deep: ∀ x∈h,∃ S∈st,x.2.d≤S.d
 cut: ∀ a b,st=a++b→ ∀ j x,h[j]? =some x→(bh a).length≤j→(bh a).length≤lo j x
 lam: ∀ i j x y,h[i]? =some x→h[j]? =some y→j≤i→lo i x≤j→lo i x≤lo j y
 mid: ∀ i j x y,h[i]? =some x→h[j]? =some y→ ∀ k∈dw j y,k<i→i<j→k<lo i x
 up: ∀ k<h.length,k∈aI 0 st∨ ∃ j y,h[j]? =some y∧k∈dw j y
 apart: ∀ j y,h[j]? =some y→ ∀ k∈dw j y,k∉aI 0 st
 one: ∀ i j x y,h[i]? =some x→h[j]? =some y→ ∀ k,k∈dw i x→k∈dw j y→i=j
theorem Inv.nil:Inv [] [] []:={
 flat:=rfl
 good:=fun _ h=>by cases h
 len:=rfl
 node:=fun i x h=>by simp at h
 deep:=fun _ h=>by cases h
 cut:=fun a b _ j x h=>by simp at h
 lam:=fun i j x y h=>by simp at h
 mid:=fun i j x y h=>by simp at h
 up:=fun k h=>by simp at h
 apart:=fun j y h=>by simp at h
 one:=fun i j x y h=>by simp at h }
theorem JI (top:List STree): ∀ S∈top,S.d+1≤qD top:=by
 have: ∀ (l:List STree) (d:Nat),d≤l.foldl (fun d S=>max d (S.d+1)) d∧ ∀ S∈l,S.d+1≤l.foldl (fun d S=>max d (S.d+1)) d:=by
  intro l
  induction l with
  |nil=>intro d;exact ⟨Re _,fun _ h=>by cases h⟩
  |cons T r ih=>
   intro d
   obtain ⟨h1,h2⟩:=ih (max d (T.d+1))
   refine ⟨?_,fun S hS=> ?_⟩
   ·
    rw [Su];omega
   ·
    rw [Su]
    rcases Rs.1 hS with rfl|hS
    ·
     omega
    ·
     exact h2 S hS
 exact (this top 1).2
theorem dF {α:Type} {l:List α} {a x:α} {i:Nat} (h:(l++ [a])[i]? =some x):(i<l.length∧l[i]? =some x)∨(i=l.length∧x=a):=by
 rcases Nat.lt_trichotomy i l.length with h1|h1|h1
 ·
  rw [RH h1] at h
  exact .inl ⟨h1,h⟩
 ·
  subst h1
  simp at h
  exact .inr ⟨rfl,h.symm⟩
 ·
  rw [SB (by simp;omega)] at h
  cases h
theorem Inv.step {dn:List Nd} {st:List STree} {h:iF} (hI:Inv dn st h) {n:Nd} {l top:List STree} (hs:gA n st= .inr (l,top)):
  Inv (dn++ [n]) (l++ [bC n top]) (h++ [(top,bC n top)])∧st=l++top:=by
 unfold gA at hs
 split at hs
 ·
  cases hs
 rename_i hf
 split at hs
 ·
  cases hs
 rename_i hb
 split at hs
 ·
  cases hs
 rename_i hd
 simp only [Sum.inr.injEq,Prod.mk.injEq] at hs
 obtain ⟨rfl,rfl⟩:=hs
 have hst:st.take (st.length - (below n).toNat)++fw st (below n).toNat=st:=Ss _ _
 have hlk:(fw st (below n).toNat).length=min st.length (below n).toNat:=by simp [fw];omega
 generalize st.take (st.length - (below n).toNat)=l at hst ⊢
 generalize fw st (below n).toNat=top at hst hb hd hlk ⊢
 subst hst
 have hb1:(0:Int)≤below n∧rM n 0 top=true∧below n≤((l++top).length:Int):=by
  refine ⟨?_,?_,?_⟩
  ·
   have hk:f9 n=true:=by
    cases hk:f9 n
    ·
     exfalso
     apply hf
     intro h0
     simp [bQ,hk] at h0
    ·
     rfl
   unfold below
   by_cases h7:n.kind=7
   ·
    simp [f9,h7] at hk
    simp [h7];exact hk
   ·
    (repeat' split)<;>omega
  ·
   cases hh:rM n 0 top
   ·
    exact absurd (Or.inr hh) hb
   ·
    rfl
  ·
   omega
 obtain ⟨hb0,hfit,hble⟩:=hb1
 have hbl:(top.length:Int)=below n:=by omega
 have hgt: ∀ S∈top,Good S:=fun S hS=>hI.good S (SI _ hS)
 have hgl: ∀ S∈l,Good S:=fun S hS=>hI.good S (SD _ hS)
 have hG:Good (bC n top):= .mk n top hgt (by omega) hbl hfit (by omega)
 have hflat:bh l++bh top=dn:=by rw [← cd];exact hI.flat
 have hlen:h.length=(bh l).length+(bh top).length:=by rw [hI.len,← hflat,QT]
 have hlo:lo h.length (top,bC n top)=(bh l).length:=by simp only [lo,cN];omega
 have hkids:dw h.length (top,bC n top)=aI (0+(bh l).length) top:=by rw [dw,hlo,Rt]
 have hroots:aI 0 (l++top)=aI 0 l++dw h.length (top,bC n top):=by rw [dC,hkids]
 have hroots' :aI 0 (l++ [bC n top])=aI 0 l++ [h.length]:=by
  rw [dC]
  simp only [aI,cN]
  congr 2
  omega
 have hposl: ∀ S∈l,0<S.ns.length:=fun S hS=>(hgl S hS).pos
 have hpost: ∀ S∈top,0<S.ns.length:=fun S hS=>(hgt S hS).pos
 have hkb: ∀ k∈dw h.length (top,bC n top),(bh l).length≤k∧k<h.length:=fun k hk=>by
  rw [hkids] at hk
  have:=kn hpost hk
  omega
 have hkj: ∀ j y,h[j]? =some y→ ∀ k∈dw j y,k<j:=fun j y hy k hk=>by
  obtain ⟨m,_,e2,e3,_,e5,_⟩:=hI.node j y hy
  have h1:=kn (fun T hT=>(e3 T hT).pos) hk
  have h2:y.2.ns.length=(bh y.1).length+1:=by rw [e2,cN]
  simp only [lo] at h1
  omega
 refine ⟨⟨?_,?_,?_,?_,?_,?_,?_,?_,?_,?_,?_⟩,rfl⟩
 ·
  rw [cd,l5]
  show bh l++(bh top++ [n])=dn++ [n]
  rw [← Rz,hflat]
 ·
  intro S hS
  rcases Ru.1 hS with hS|hS
  ·
   exact hgl S hS
  ·
   rw [Rp.1 hS];exact hG
 ·
  simp [hI.len]
 ·
  intro i x hx
  rcases dF hx with ⟨hi,hx⟩|⟨rfl,rfl⟩
  ·
   obtain ⟨m,e1,e2,e3,e4,e5,e6⟩:=hI.node i x hx
   refine ⟨m,?_,e2,e3,e4,e5,?_⟩
   ·
    rw [RH (by rw [← hI.len];exact hi)];exact e1
   ·
    rw [Tf (by rw [← hI.len];exact hi)];exact e6
  ·
   refine ⟨n,by rw [hI.len];simp,rfl,hgt,hG,by simp only [cN];omega,?_⟩
   rw [hlo,hI.len,Sg (by simp),← hflat,Rz,List.drop_left]
   rfl
 ·
  intro x hx
  rcases Ru.1 hx with hx|hx
  ·
   obtain ⟨S,hS,hd1⟩:=hI.deep x hx
   rcases Ru.1 hS with hS|hS
   ·
    exact ⟨S,SD _ hS,hd1⟩
   ·
    refine ⟨bC n top,SI _ (Rp.2 rfl),?_⟩
    have:=JI top S hS
    simp only [bC];omega
  ·
   rw [Rp.1 hx]
   exact ⟨bC n top,SI _ (Rp.2 rfl),Re _⟩
 ·
  intro a b hab j x hx hj
  -- the cut lies in l,or behind all
  rcases List.append_eq_append_iff.1 hab with ⟨c,hc1,hc2⟩|⟨c,hc1,hc2⟩
  ·
   -- a=l++c,[node]=c++b
   cases c with
   |nil=>
    rw [QZ] at hc1
    subst hc1
    rcases dF hx with ⟨hi,hx⟩|⟨rfl,rfl⟩
    ·
     exact hI.cut a top rfl j x hx hj
    ·
     rw [hlo];exact Re _
   |cons T c' =>
    have hT:T=bC n top∧c' ++b= []:=by
     simp only [QU,List.cons.injEq] at hc2
     exact ⟨hc2.1.symm,hc2.2.symm⟩
    obtain ⟨rfl,hcb⟩:=hT
    have hc' :c' = []:=(List.append_eq_nil_iff.1 hcb).1
    subst hc'
    exfalso
    have hj' :j<h.length+1:=by
     have:=(Rg.1 hx).1
     simpa using this
    rw [hc1,cd,l5,QT,cN] at hj
    omega
  ·
   -- l=a++c
   subst hc1
   rcases dF hx with ⟨hi,hx⟩|⟨rfl,rfl⟩
   ·
    exact hI.cut a (c++top) (by simp) j x hx hj
   ·
    rw [hlo,cd,QT];omega
 ·
  intro i j x y hx hy hji hle
  rcases dF hx with ⟨hi,hx⟩|⟨rfl,rfl⟩
  ·
   rcases dF hy with ⟨hj,hy⟩|⟨rfl,rfl⟩
   ·
    exact hI.lam i j x y hx hy hji hle
   ·
    omega
  ·
   rcases dF hy with ⟨hj,hy⟩|⟨rfl,rfl⟩
   ·
    rw [hlo] at hle ⊢
    exact hI.cut l top rfl j y hy hle
   ·
    exact Re _
 ·
  intro i j x y hx hy k hk hki hij
  rcases dF hy with ⟨hj,hy⟩|⟨rfl,rfl⟩
  ·
   rcases dF hx with ⟨hi,hx⟩|⟨rfl,rfl⟩
   ·
    exact hI.mid i j x y hx hy k hk hki hij
   ·
    omega
  ·
   rcases dF hx with ⟨hi,hx'⟩|⟨rfl,rfl⟩
   ·
    rw [hkids] at hk
    obtain ⟨a,S,b,hab,rfl⟩:=yY hk
    have hS:=hpost S (by simp [hab])
    have:=hI.cut (l++a++ [S]) b (by simp [hab]) i x hx'
    simp only [cd,l5,QT] at this
    omega
   ·
    omega
 ·
  intro k hk
  rw [QT,QX] at hk
  by_cases hkh:k=h.length
  ·
   left;rw [hroots',hkh];simp
  ·
   rcases hI.up k (by omega) with h1|⟨j,y,h1,h2⟩
   ·
    rw [hroots] at h1
    rcases Ru.1 h1 with h1|h1
    ·
     left;rw [hroots'];exact SD _ h1
    ·
     right
     exact ⟨h.length,(top,bC n top),by simp,h1⟩
   ·
    right
    refine ⟨j,y,?_,h2⟩
    rw [RH (Rg.1 h1).1];exact h1
 ·
  intro j y hy k hk
  rw [hroots']
  intro hm
  rcases dF hy with ⟨hj,hy⟩|⟨rfl,rfl⟩
  ·
   rcases Ru.1 hm with hm|hm
   ·
    exact hI.apart j y hy k hk (by rw [hroots];exact SD _ hm)
   ·
    have h1:=Rp.1 hm
    have h2:=hkj j y hy k hk
    omega
  ·
   have h1:=hkb k hk
   rcases Ru.1 hm with hm|hm
   ·
    have:=kn hposl hm
    omega
   ·
    have:=Rp.1 hm
    omega
 ·
  intro i j x y hx hy k hkx hky
  rcases dF hx with ⟨hi,hx⟩|⟨rfl,rfl⟩
  ·
   rcases dF hy with ⟨hj,hy⟩|⟨rfl,rfl⟩
   ·
    exact hI.one i j x y hx hy k hkx hky
   ·
    exfalso
    exact hI.apart i x hx k hkx (by rw [hroots];exact SI _ hky)
  ·
   rcases dF hy with ⟨hj,hy⟩|⟨rfl,rfl⟩
   ·
    exfalso
    exact hI.apart j y hy k hky (by rw [hroots];exact SI _ hkx)
   ·
    rfl
theorem yu: ∀ (r dn:List Nd) (st:List STree) (h:iF) (st' :List STree) (h' :iF),Inv dn st h→fq r st h=(0,st',h')→Inv (dn++r) st' h' ∧st'.length=1
 | [],dn,st,h,st',h',hI,hw=>by
  simp only [fq,Prod.mk.injEq] at hw
  obtain ⟨h1,rfl,rfl⟩:=hw
  refine ⟨by simpa using hI,?_⟩
  split at h1
  ·
   assumption
  ·
   cases h1
 |n::r,dn,st,h,st',h',hI,hw=>by
  rw [fq] at hw
  cases hs:gA n st with
  |inl e=>
   rw [hs] at hw
   simp only [Prod.mk.injEq] at hw
   obtain ⟨rfl,_⟩:=hw
   exfalso
   unfold gA at hs
   split at hs
   ·
    injection hs with hs
    exact absurd hs (by assumption)
   ·
    split at hs
    ·
     cases hs
    ·
     split at hs<;>cases hs
  |inr x=>
   obtain ⟨l,top⟩:=x
   rw [hs] at hw
   have:=yu r _ _ _ _ _ (hI.step hs).1 hw
   simpa using this
theorem Ir {L:List Nd} {st:List STree} {h:iF} (hw:fq L [] []=(0,st,h)): ∃ S,st= [S]∧S.ns=L∧Good S∧Inv L [S] h:=by
 obtain ⟨hI,h1⟩:=yu L [] [] [] st h Inv.nil hw
 match st,h1 with
 | [S],_=>
  rw [QW] at hI
  exact ⟨S,rfl,by rw [← hI.flat,l5],hI.good S (by simp),hI⟩
def bA:Nat→List STree→List Pt
 |_,[]=> []
 |o,S::r=>⟨o+S.ns.length - 1,S.d,decide (S.kind=3)⟩::bA (o+S.ns.length) r
theorem kq (o:Nat) (l:List STree):(bA o l).length=l.length:=by
 induction l generalizing o with
 |nil=>rfl
 |cons S r ih=>simp [bA,ih]
theorem wu (o:Nat) (a b:List STree):bA o (a++b)=bA o a++bA (o+(bh a).length) b:=by
 induction a generalizing o with
 |nil=>simp [bA,bh]
 |cons S r ih=>simp [bA,ih,fL,SA]
theorem Aj (o:Nat) (l:List STree) (m:Nat):(bA o l).drop m=bA (o+(bh (l.take m)).length) (l.drop m):=by
 induction l generalizing o m with
 |nil=>simp [bA]
 |cons S r ih=>cases m with
  |zero=>simp [bh]
  |succ m=>simp [bA,ih,fL,SA]
theorem Ai (o:Nat) (l:List STree) (m:Nat):(bA o l).take m=bA o (l.take m):=by
 induction l generalizing o m with
 |nil=>simp [bA]
 |cons S r ih=>cases m with
  |zero=>simp [bA]
  |succ m=>simp [bA,ih]
theorem x7 (o:Nat) (l:List STree):(bA o l).map Pt.root=aI o l:=by
 induction l generalizing o with
 |nil=>rfl
 |cons S r ih=>simp [bA,aI,ih]
theorem x8 (o:Nat) (l:List STree):cf (bA o l)=qD l:=by
 have: ∀ (l:List STree) (o d:Nat),(bA o l).foldl (fun d p=>max d (p.depth+1)) d=l.foldl (fun d S=>max d (S.d+1)) d:=by
  intro l
  induction l with
  |nil=>intro o d;rfl
  |cons S r ih=>intro o d;rw [bA,Su,Su,ih]
 exact this l o 1
theorem Dj {L:List Nd} {o:Nat} {a b:List STree} {S:STree} (hS:0<S.ns.length) (hL:(L.drop o).take (bh (a++S::b)).length=bh (a++S::b)):iX L (o+(bh a).length+S.ns.length - 1)=S.kind:=by
 have h1:(bh (a++S::b))[(bh a).length+(S.ns.length - 1)]? =S.ns[S.ns.length - 1]? :=by
  rw [cd,R0 (by omega),Ul,fL,RH (by omega)]
 rw [← hL,List.getElem?_take] at h1
 rw [if_pos (by rw [cd,fL];simp;omega),SF] at h1
 rw [iX,STree.kind,Tp,← h1]
 congr 3
 omega
theorem Dx {L:List Nd} (n:Nd) {o:Nat}: ∀ (b a:List STree) (i:Int),(∀ S∈b,0<S.ns.length)→(L.drop o).take (bh (a++b)).length=bh (a++b)→dU L n i (bA (o+(bh a).length) b)=rM n i b
 | [],a,i,_,_=>rfl
 |S::r,a,i,hp,hL=>by
  have h1:=Dj (hp S QY) hL
  have h2:=Dx n r (a++ [S]) (i+1) (fun T hT=>hp T (Rq _ hT)) (by simpa using hL)
  rw [cd,l5,QT,← SA] at h2
  rw [bA,dU,rM,h2]
  congr 1
  simp only [tC,Qy,h1]
def j5 (h:iF):List mV:=h.zipIdx.map fun x=>(dw x.2 x.1,x.1.2.d)
theorem xQ (h:iF) (x:List STree × STree):j5 (h++ [x])=j5 h++ [(dw h.length x,x.2.d)]:=by
 simp [j5,List.zipIdx_append]
theorem BH {L:List Nd}: ∀ (r dn:List Nd) (st:List STree) (h:iF),dn++r=L→Inv dn st h→fC L r dn.length (bA 0 st) (j5 h)=((fq r st h).1,j5 (fq r st h).2.2)
 | [],dn,st,h,hL,hI=>by simp [fC,fq,kq]
 |n::r,dn,st,h,hL,hI=>by
  have hlast: ∀ k,bo (bA 0 st) k=bA (bh (st.take (st.length - k))).length (fw st k):=fun k=>by
   unfold bo fw
   rw [kq,Aj,Rt]
  have hfits: ∀ k,dU L n 0 (bo (bA 0 st) k)=rM n 0 (fw st k):=fun k=>by
   rw [hlast]
   have:=Dx (L:=L) n (o:=0) (fw st k) (st.take (st.length - k)) 0 (fun S hS=>(hI.good S (Th hS)).pos) (by
    rw [show st.take (st.length - k)++fw st k=st from Ss _ _,hI.flat,SG,← hL,List.take_left])
   rwa [Rt] at this
  have hdep: ∀ k,cf (bo (bA 0 st) k)=qD (fw st k):=fun k=>by rw [hlast,x8]
  rw [fC,fq]
  have hs:kI L n dn.length (bA 0 st)=match gA n st with
   | .inl e=> .inl e
   | .inr (l,top)=> .inr (bA 0 (l++ [bC n top]),dw h.length (top,bC n top),(bC n top).d):=by
   unfold kI gA
   rw [kq,hfits,hdep]
   by_cases c1:bQ n≠0
   ·
    rw [if_pos c1,if_pos c1]
   rw [if_neg c1,if_neg c1]
   by_cases c2:(st.length:Int)<below n∨rM n 0 (fw st (below n).toNat)=false
   ·
    rw [if_pos c2,if_pos c2]
   rw [if_neg c2,if_neg c2]
   by_cases c3:32<qD (fw st (below n).toNat)
   ·
    rw [if_pos c3,if_pos c3]
   rw [if_neg c3,if_neg c3]
   have hfl:bh (st.take (st.length - (below n).toNat))++bh (fw st (below n).toNat)=dn:=by
    rw [← cd,show st.take (st.length - (below n).toNat)++fw st (below n).toNat=st from Ss _ _]
    exact hI.flat
   have hlen:dn.length=(bh (st.take (st.length - (below n).toNat))).length+(bh (fw st (below n).toNat)).length:=by rw [← hfl,QT]
   have e1:=Ai 0 st (st.length - (below n).toNat)
   have e2:(bo (bA 0 st) (below n).toNat).map Pt.root=dw h.length (fw st (below n).toNat,bC n (fw st (below n).toNat)):=by
    rw [hlast,x7,dw]
    congr 1
    simp only [lo,cN,hI.len]
    omega
   dsimp only
   rw [e1,e2,wu]
   simp only [bA,cN,FI]
   congr 4
   have e3:0+(bh (st.take (st.length - (below n).toNat))).length+((bh (fw st (below n).toNat)).length+1) - 1=dn.length:=by omega
   rw [e3]
   rfl
  rw [hs]
  cases hsf:gA n st with
  |inl e=>rfl
  |inr x=>
   obtain ⟨l,top⟩:=x
   dsimp only
   have h1:=BH r (dn++ [n]) (l++ [bC n top]) (h++ [(top,bC n top)]) (by simpa using hL) (hI.step hsf).1
   rw [xQ,QT,QX] at h1
   exact h1
theorem BG (L:List Nd):fC L L 0 [] []=((fq L [] []).1,j5 (fq L [] []).2.2):=by
 have:=BH (L:=L) L [] [] [] rfl Inv.nil
 exact this
theorem oN (P:List STree→iF→Prop) (hs: ∀ dn n st h l top,Inv dn st h→P st h→gA n st= .inr (l,top)→P (l++ [bC n top]) (h++ [(top,bC n top)])):
  ∀ (r dn:List Nd) (st:List STree) (h:iF) (st' :List STree) (h' :iF),Inv dn st h→P st h→fq r st h=(0,st',h')→P st' h'
 | [],dn,st,h,st',h',hI,hP,hw=>by
  simp only [fq,Prod.mk.injEq] at hw
  obtain ⟨_,rfl,rfl⟩:=hw
  exact hP
 |n::r,dn,st,h,st',h',hI,hP,hw=>by
  rw [fq] at hw
  cases hsf:gA n st with
  |inl e=>
   rw [hsf] at hw
   simp only [Prod.mk.injEq] at hw
   obtain ⟨rfl,_⟩:=hw
   exfalso
   unfold gA at hsf
   split at hsf
   ·
    injection hsf with hs
    exact absurd hs (by assumption)
   ·
    split at hsf
    ·
     cases hsf
    ·
     split at hsf<;>cases hsf
  |inr x=>
   obtain ⟨l,top⟩:=x
   rw [hsf] at hw
   exact oN P hs r _ _ _ _ _ (hI.step hsf).1 (hs _ _ _ _ _ _ hI hP hsf) hw
structure RootOk (st:List STree) (h:iF):Prop where
 root: ∀ a S b,st=a++S::b→ ∃ top,h[(bh a).length+S.ns.length - 1]? =some (top,S)
 kid: ∀ j y,h[j]? =some y→ ∀ a S b,y.1=a++S::b→ ∃ top,h[lo j y+(bh a).length+S.ns.length - 1]? =some (top,S)
theorem wX {α:Type} {l:List α} {a x:α} {i:Nat} (h:l[i]? =some x):(l++ [a])[i]? =some x:=by
 rw [RH (Rg.1 h).1];exact h
theorem Inv.facts {dn:List Nd} {st:List STree} {h:iF} (hI:Inv dn st h) {n:Nd} {l top:List STree} (hs:gA n st= .inr (l,top)):
  st=l++top∧(bh l).length+(bh top).length=h.length∧lo h.length (top,bC n top)=(bh l).length∧(∀ S∈l,0<S.ns.length)∧(∀ S∈top,0<S.ns.length):=by
 obtain ⟨hI',rfl⟩:=hI.step hs
 have h1:(bh l).length+(bh top).length=h.length:=by rw [hI.len,← hI.flat,cd,QT]
 refine ⟨rfl,h1,by simp only [lo,cN];omega,fun S hS=>(hI.good S (SD _ hS)).pos,fun S hS=>(hI.good S (SI _ hS)).pos⟩
theorem Cv {dn:List Nd} {n:Nd} {st:List STree} {h:iF} {l top:List STree} (hI:Inv dn st h) (hP:RootOk st h) (hs:gA n st= .inr (l,top)):RootOk (l++ [bC n top]) (h++ [(top,bC n top)]):=by
 obtain ⟨rfl,hlen,hlo,hl,ht⟩:=hI.facts hs
 refine ⟨fun a S b hab=> ?_,fun j y hy a S b hab=> ?_⟩
 ·
  rcases List.append_eq_append_iff.1 hab with ⟨c,hc1,hc2⟩|⟨c,hc1,hc2⟩
  ·
   cases c with
   |nil=>
    simp only [QW,List.cons.injEq] at hc2
    obtain ⟨rfl,_⟩:=hc2
    rw [QZ] at hc1
    subst hc1
    refine ⟨top,?_⟩
    rw [cN,show (bh a).length+((bh top).length+1) - 1=h.length by omega]
    simp
   |cons T c' =>
    exfalso
    have:=congrArg List.length hc2
    simp at this
  ·
   subst hc1
   cases c with
   |nil=>
    simp only [QW,List.cons.injEq] at hc2
    obtain ⟨rfl,_⟩:=hc2
    refine ⟨top,?_⟩
    rw [QZ] at hlen
    rw [cN,show (bh a).length+((bh top).length+1) - 1=h.length by omega]
    simp
   |cons T c' =>
    simp only [QU,List.cons.injEq] at hc2
    obtain ⟨rfl,_⟩:=hc2
    obtain ⟨t,h1⟩:=hP.root a S (c' ++top) (by simp)
    exact ⟨t,wX h1⟩
 ·
  rcases dF hy with ⟨hj,hy⟩|⟨rfl,rfl⟩
  ·
   obtain ⟨t,h1⟩:=hP.kid j y hy a S b hab
   exact ⟨t,wX h1⟩
  ·
   dsimp only at hab
   subst hab
   obtain ⟨t,h1⟩:=hP.root (l++a) S b (by simp)
   refine ⟨t,wX ?_⟩
   rw [hlo]
   rw [cd,QT] at h1
   exact h1
def fW (o:List Int) (ks:List Nat) (v:Int):List Int:=ks.foldl (fun o k=>o.set k v) o
theorem pG (o:List Int) (ks:List Nat) (v:Int):(fW o ks v).length=o.length:=by
 unfold fW
 induction ks generalizing o with
 |nil=>rfl
 |cons k r ih=>rw [Su,ih,Uo]
theorem qf (o:List Int) (ks:List Nat) (v:Int) (k:Nat) (hk:k<o.length):(fW o ks v)[k]? =if k∈ks then some v else o[k]? :=by
 unfold fW
 induction ks generalizing o with
 |nil=>simp
 |cons j r ih=>
  rw [Su,ih (o.set j v) (by simpa using hk),List.getElem?_set]
  by_cases h1:k∈r
  ·
   simp [h1]
  ·
   by_cases h2:j=k
   ·
    subst h2;simp [hk]
   ·
    simp [h1,h2]
    exact fun e=>absurd e.symm h2
def Hw (o:List Int) (x:(List STree × STree) × Nat):List Int:=fW (o++ [-1]) (dw x.2 x.1) (x.2:Int)
def kr (h:iF):List Int:=h.zipIdx.foldl Hw []
theorem lR (h:iF) (x:List STree × STree):kr (h++ [x])=fW (kr h++ [-1]) (dw h.length x) (h.length:Int):=by
 simp [kr,List.zipIdx_append,Hw]
structure ParOk (st:List STree) (h:iF):Prop where
 len:(kr h).length=h.length
 kid: ∀ j y,h[j]? =some y→ ∀ k∈dw j y,(kr h)[k]? =some (j:Int)
 root: ∀ k∈aI 0 st,(kr h)[k]? =some (-1)
theorem wz {dn:List Nd} {n:Nd} {st:List STree} {h:iF} {l top:List STree} (hI:Inv dn st h) (hP:ParOk st h) (hs:gA n st= .inr (l,top)):ParOk (l++ [bC n top]) (h++ [(top,bC n top)]):=by
 have hI' :=(hI.step hs).1
 obtain ⟨rfl,hlen,hlo,hl,ht⟩:=hI.facts hs
 have hL:(kr h++ [-1]).length=h.length+1:=by simp [hP.len]
 have hkn: ∀ k∈dw h.length (top,bC n top),(bh l).length≤k∧k<h.length:=fun k hk=>by
  rw [dw,hlo] at hk
  have:=kn ht hk
  omega
 have hkr: ∀ k,k∈dw h.length (top,bC n top)↔k∈aI (0+(bh l).length) top:=fun k=>by rw [dw,hlo,Rt]
 refine ⟨by rw [lR,pG,hL];simp,fun j y hy k hk=> ?_,fun k hk=> ?_⟩
 ·
  have hkj:k<(h++ [(top,bC n top)]).length:=by
   obtain ⟨m,_,e2,e3,_,e5,_⟩:=hI'.node j y hy
   have h1:=kn (fun T hT=>(e3 T hT).pos) hk
   have h2:y.2.ns.length=(bh y.1).length+1:=by rw [e2,cN]
   have h3:=(Rg.1 hy).1
   simp only [lo] at h1
   omega
  rw [lR,qf _ _ _ _ (by rw [hL];simpa using hkj)]
  rcases dF hy with ⟨hj,hy'⟩|⟨rfl,rfl⟩
  ·
   rw [if_neg]
   ·
    have h1:=hP.kid j y hy' k hk
    rw [RH (Rg.1 h1).1]
    exact h1
   ·
    intro hm
    have:=hI'.one j h.length y (top,bC n top) hy (by simp) k hk hm
    omega
  ·
   rw [if_pos hk]
 ·
  rw [dC] at hk
  rcases Ru.1 hk with hk|hk
  ·
   have h1:=kn hl hk
   rw [lR,qf _ _ _ _ (by rw [hL];omega),if_neg]
   ·
    have h2:=hP.root k (by rw [dC];exact SD _ hk)
    rw [RH (Rg.1 h2).1]
    exact h2
   ·
    intro hm
    have:=hkn k hm
    omega
  ·
   simp only [aI,cN,Rp] at hk
   have hkh:k=h.length:=by omega
   subst hkh
   rw [lR,qf _ _ _ _ (by rw [hL];omega),if_neg]
   ·
    rw [R0 (by rw [hP.len];exact Re _),hP.len]
    simp
   ·
    intro hm
    have:=hkn _ hm
    omega
structure Whole (L:List Nd) (S:STree) (h:iF):Prop where
 walk:fq L [] []=(0,[S],h)
 ns:S.ns=L
 good:Good S
 inv:Inv L [S] h
 rootOk:RootOk [S] h
 parOk:ParOk [S] h
 pos:0<L.length
 last: ∃ top,h[L.length - 1]? =some (top,S)
theorem Kn {L:List Nd} {st:List STree} {h:iF} (hw:fq L [] []=(0,st,h)): ∃ S,st= [S]∧Whole L S h:=by
 obtain ⟨S,rfl,h1,h2,h3⟩:=Ir hw
 have h4:=oN RootOk (fun dn n st h l top=>Cv) L [] [] [] _ _ Inv.nil ⟨fun a S b hab=>(by simp at hab),fun j y hy=>(by simp at hy)⟩ hw
 have h5:=oN ParOk (fun dn n st h l top=>wz) L [] [] [] _ _ Inv.nil ⟨rfl,fun j y hy=>(by simp at hy),fun k hk=>(by simp [aI] at hk)⟩ hw
 refine ⟨S,rfl,hw,h1,h2,h3,h4,h5,by rw [← h1];exact h2.pos,?_⟩
 obtain ⟨top,h6⟩:=h4.root [] S [] rfl
 rw [h1] at h6
 simp only [bh,Ry,SP,Rt] at h6
 exact ⟨top,h6⟩
theorem DX {L:List Nd} (h:d9 L=0):L.length≤256∧ ∃ S H,Whole L S H∧S.kind≠3∧kD L false=(0,j5 H):=by
 have hsm:L.length≤256∧0<L.length∧(fC L L 0 [] []).1=0∧iX L (L.length - 1)≠3∧kD L false=(0,(fC L L 0 [] []).2):=by
  unfold d9 at h
  unfold kD at h ⊢
  split at h
  ·
   cases h
  rename_i h1
  split at h
  ·
   cases h
  rename_i h2
  split at h
  ·
   rename_i h3
   exact absurd h h3
  rename_i h3
  split at h
  ·
   cases h
  rename_i h4
  rw [if_neg h1,if_neg h2,if_neg h3,if_neg h4]
  exact ⟨by omega,by omega,by omega,fun e=>h4 ⟨rfl,e⟩,rfl⟩
 obtain ⟨h1,h2,h3,h4,h5⟩:=hsm
 rw [BG] at h3 h5
 dsimp only at h3 h5
 have hw:fq L [] []=(0,(fq L [] []).2.1,(fq L [] []).2.2):=by rw [← h3]
 obtain ⟨S,e,hW⟩:=Kn hw
 refine ⟨h1,S,_,hW,?_,h5⟩
 rw [STree.kind,hW.ns,Tp]
 exact h4
structure Rl where
 rect:Rct
 read:BitVec 64
 write:BitVec 64
 own:BitVec 64
def bM (r:Rl):List Value:= [.int .i64 r.rect.c1,.int .i64 r.rect.r1,.int .i64 r.rect.c2,.int .i64 r.rect.r2,vS r.read,vS r.write,vS r.own]
theorem bV (r:Rl):(bM r).length=7:=rfl
structure Gn where
 rect:Rct
 fns:Int
 to:BitVec 64
 by_:Int
 rev:Bool
def bX (g:Gn):List Value:= [.int .i64 g.rect.c1,.int .i64 g.rect.r1,.int .i64 g.rect.c2,.int .i64 g.rect.r2,.int .u8 g.fns,vS g.to,.int .i64 g.by_,.bool g.rev]
theorem eO (g:Gn):(bX g).length=8:=rfl
def Ju (x:Int):List Int→List Int
 | []=> [x]
 |y::l=>if x≤y then x::y::l else y::Ju x l
def uV (l:List Int):List Int:=l.foldr Ju []
def jC (l:List Int):List Int:=l.mergeSort fun x y=>decide (x≤y)
theorem tu (x:Int): ∀ l:List Int,(Ju x l).Perm (x::l)
 | []=> .refl _
 |y::l=>by
  rw [Ju];split
  ·
   exact .refl _
  ·
   exact ((tu x l).cons y).trans (.swap x y l)
theorem uj (x:Int): ∀ {l:List Int},l.Pairwise (· ≤ ·)→(Ju x l).Pairwise (· ≤ ·)
 | [],_=>Tv _ _
 |y::l,h=>by
  have h1:=RV.1 h
  rw [Ju];split
  ·
   rename_i hxy
   refine RV.2 ⟨fun z hz=> ?_,h⟩
   rcases Rs.1 hz with rfl|hz
   ·
    exact hxy
   ·
    exact Int.le_trans hxy (h1.1 z hz)
  ·
   refine RV.2 ⟨fun z hz=> ?_,uj x h1.2⟩
   rcases Rs.1 ((tu x l).mem_iff.1 hz) with rfl|hz
   ·
    omega
   ·
    exact h1.1 z hz
theorem rI: ∀ l:List Int,(uV l).Perm l
 | []=> .refl _
 |x::l=>(tu x _).trans ((rI l).cons x)
theorem oo: ∀ l:List Int,(uV l).Pairwise (· ≤ ·)
 | []=> .nil
 |x::l=>uj x (oo l)
theorem iQ (l:List Int):(jC l).Perm l:=List.mergeSort_perm _ _
theorem qR (l:List Int):(jC l).Pairwise (· ≤ ·):=by
 have h:=List.pairwise_mergeSort (le:=fun x y:Int=>decide (x≤y)) (fun a b c h1 h2=>by simp only [decide_eq_true_eq] at*;omega) (fun a b=>by simp only [Td,decide_eq_true_eq];omega) l
 exact h.imp fun h=>by simpa using h
theorem pF: ∀ {l m:List Int},l.Pairwise (· ≤ ·)→m.Pairwise (· ≤ ·)→l.Perm m→l=m
 | [],m,_,_,h=>(List.nil_perm.1 h).symm
 |a::l,[],_,_,h=>absurd h.length_eq (by simp)
 |a::l,b::m,h1,h2,h=>by
  have k1:=RV.1 h1
  have k2:=RV.1 h2
  have hab:a=b:=by
   have ha:a∈b::m:=h.mem_iff.1 QY
   have hb:b∈a::l:=h.mem_iff.2 QY
   rcases Rs.1 ha with e|ha
   ·
    exact e
   ·
    rcases Rs.1 hb with e|hb
    ·
     exact e.symm
    ·
     have:=k2.1 a ha
     have:=k1.1 b hb
     omega
  subst hab
  rw [pF k1.2 k2.2 ((List.perm_cons a).1 h)]
theorem KL (l:List Int):jC l=uV l:=pF (qR l) (oo l) ((iQ l).trans (rI l).symm)
def gI:List Int→List Int
 | []=> []
 |a::l=>if l.head? =some a then gI l else a::gI l
theorem zm (x:Int): ∀ l:List Int,gI (l++ [x])=if l.getLast? =some x then gI l else gI l++ [x]
 | []=>by simp [gI]
 | [a]=>by
  by_cases h:x=a
  ·
   subst h;simp [gI]
  ·
   have h2: ¬ a=x:=fun e=>h e.symm
   simp [gI,h,h2]
 |a::b::l=>by
  have ih:=zm x (b::l)
  have h0: ∀ l,gI (a::l)=if l.head? =some a then gI l else a::gI l:=fun _=>rfl
  have hh:(b::l++ [x]).head? =(b::l).head? :=rfl
  rw [List.getLast?_cons_cons,QU,h0,h0,hh,ih]
  by_cases h1:(b::l).head? =some a
  ·
   simp only [h1,if_true]
  ·
   simp only [h1,if_false];split<;>rfl
theorem zl {L:List Int} {j:Nat} (h:j<L.length) (h0:0<j):gI (L.take (j+1))=if L[j]=L[j - 1] then gI (L.take j) else gI (L.take j)++ [L[j]]:=by
 have h1:L.take (j+1)=L.take j++ [L[j]]:=by rw [Ra h]
 have h2:(L.take j).getLast? =some L[j - 1]:=by
  rw [Tp,RF,Tb (by omega),Te (by omega),QV (by omega)]
 rw [h1,zm,h2]
 simp only [Option.some.injEq,eq_comm]
theorem DW {L:List Int} (h:L.length≤1):gI L=L:=by
 match L,h with
 | [],_=>rfl
 | [a],_=>rfl
theorem nV {x:Int}: ∀ {l:List Int},x∈gI l↔x∈l
 | []=>Iff.rfl
 |a::l=>by
  rw [gI]
  split
  ·
   rename_i h
   rw [nV (l:=l),Rs]
   exact ⟨.inr,fun h2=>h2.elim (fun e=>by subst e;exact List.mem_of_mem_head? h) id⟩
  ·
   rw [Rs,Rs,nV (l:=l)]
theorem xx: ∀ l:List Int,(gI l).length≤l.length
 | []=>Re _
 |a::l=>by
  have:=xx l
  rw [gI]
  split<;>simp only [Rx]<;>omega
theorem uw: ∀ {l:List Int},l.Pairwise (· ≤ ·)→(gI l).Pairwise (· < ·)
 | [],_=> .nil
 |a::l,h=>by
  have h1:=RV.1 h
  have ih:=uw h1.2
  rw [gI]
  split
  ·
   exact ih
  ·
   rename_i hh
   refine RV.2 ⟨fun y hy=> ?_,ih⟩
   have hyl:=nV.1 hy
   have h2:=h1.1 y hyl
   by_cases e:a=y
   ·
    subst e
    cases l with
    |nil=>cases hyl
    |cons b l=>
     have h3:=h1.1 b QY
     have h4:=RV.1 h1.2
     rcases Rs.1 hyl with e|hm
     ·
      subst e;exact absurd rfl hh
     ·
      have h5:=h4.1 a hm
      have h6:b=a:=by omega
      subst h6;exact absurd rfl hh
   ·
    omega
def dZ:List Int→Int→List (Int × Int)
 | [],_=> []
 | [x],h=> [(x,h)]
 |x::y::l,h=>(x,y - 1)::dZ (y::l) h
theorem kQ (x h:Int): ∀ l:List Int,dZ (l++ [x]) h=dZ l (x - 1)++ [(x,h)]
 | []=>rfl
 | [a]=>rfl
 |a::b::l=>by
  have ih:=kQ x h (b::l)
  show (a,b - 1)::dZ (b::l++ [x]) h=_
  rw [ih];rfl
theorem mH (h:Int): ∀ l:List Int,(dZ l h).length=l.length
 | []=>rfl
 | [a]=>rfl
 |a::b::l=>by
  have ih:=mH h (b::l)
  show (dZ (b::l) h).length+1=_
  rw [ih];rfl
theorem CU (l:List Int) (h h' :Int) (hl:l≠ []): ∃ f a,dZ l h=f++ [(a,h)]∧dZ l h' =f++ [(a,h')]:=by
 have e:=S0 hl
 refine ⟨dZ l.dropLast (l.getLast hl - 1),l.getLast hl,?_,?_⟩
 ·
  conv=>lhs;rw [← e]
  rw [kQ]
 ·
  conv=>lhs;rw [← e]
  rw [kQ]
def dz (lo:Int) (ps:List (Int × Int)):List Int:=lo::ps.flatMap fun p=> [p.1,p.2+1]
def xu (lo hi:Int) (ps:List (Int × Int)):List Int:=(gI (jC (dz lo ps))).filter fun x=>decide (lo≤x) && decide (x≤hi)
def cJ (lo hi:Int) (ps:List (Int × Int)):List (Int × Int):=dZ (xu lo hi ps) hi
theorem gX {lo hi x:Int} {ps:List (Int × Int)}:x∈xu lo hi ps↔(x=lo∨ ∃ p∈ps,x=p.1∨x=p.2+1)∧lo≤x∧x≤hi:=by
 rw [xu,Uh,nV,(iQ _).mem_iff,dz,Rs,Se]
 simp
theorem mQ (lo hi:Int) (ps:List (Int × Int)):(xu lo hi ps).Pairwise (· < ·):=(uw (qR _)).filter _
theorem ux (lo:Int) (ps:List (Int × Int)):(dz lo ps).length=1+2*ps.length:=by
 unfold dz
 induction ps with
 |nil=>rfl
 |cons p ps ih=>simp only [Rm,Rx,QT,SP] at ih ⊢;omega
theorem jd (lo hi:Int) (ps:List (Int × Int)):(cJ lo hi ps).length≤1+2*ps.length:=by
 rw [cJ,mH,xu]
 refine RB (TW _ _) (RB (xx _) ?_)
 rw [(iQ _).length_eq,ux];exact Re _
theorem oZ: ∀ {l:List Int} {h:Int},l.Pairwise (· < ·)→(∀ x∈l,x≤h)→ ∀ {p:Int × Int},p∈dZ l h→p.1∈l∧p.1≤p.2∧p.2≤h∧ ∀ x∈l,¬ (p.1<x∧x≤p.2)
 | [],h,_,_,p,hp=>by cases hp
 | [a],h,_,hx,p,hp=>by
  rw [Rp.1 hp]
  have:=hx a (by simp)
  exact ⟨by simp,this,SQ _,fun x hx=>by rw [Rp.1 hx];simp only;omega⟩
 |a::b::l,h,hs,hx,p,hp=>by
  have h1:=RV.1 hs
  have hab:=h1.1 b QY
  rcases Rs.1 hp with rfl|hp
  ·
   refine ⟨QY,by simp only;omega,by have:=hx b (by simp);simp only;omega,fun x hm=> ?_⟩
   simp only
   rcases Rs.1 hm with rfl|hm
   ·
    omega
   ·
    rcases Rs.1 hm with rfl|hm
    ·
     omega
    ·
     have:=(RV.1 h1.2).1 x hm;omega
  ·
   obtain ⟨k1,k2,k3,k4⟩:=oZ h1.2 (fun x hm=>hx x (Rq _ hm)) hp
   refine ⟨Rq _ k1,k2,k3,fun x hm=> ?_⟩
   rcases Rs.1 hm with rfl|hm
   ·
    have:=h1.1 p.1 k1;omega
   ·
    exact k4 x hm
theorem ry: ∀ {l:List Int} {h:Int},l.Pairwise (· < ·)→(∀ x∈l,x≤h)→(dZ l h).Pairwise fun p q=>p.2<q.1
 | [],_,_,_=> .nil
 | [a],_,_,_=>Tv _ _
 |a::b::l,h,hs,hx=>by
  have h1:=RV.1 hs
  refine RV.2 ⟨fun q hq=> ?_,ry h1.2 fun x hm=>hx x (Rq _ hm)⟩
  have hq1:=(oZ h1.2 (fun x hm=>hx x (Rq _ hm)) hq).1
  simp only
  rcases Rs.1 hq1 with e|hm
  ·
   omega
  ·
   have:=(RV.1 h1.2).1 _ hm;omega
theorem tY: ∀ {l:List Int} {h v:Int},(∃ x∈l,x≤v)→v≤h→ ∃ p∈dZ l h,p.1≤v∧v≤p.2
 | [],h,v,⟨x,hx,_⟩,_=>by cases hx
 | [a],h,v,⟨x,hx,h1⟩,h2=>by rw [Rp.1 hx] at h1;exact ⟨(a,h),Rp.2 rfl,h1,h2⟩
 |a::b::l,h,v,⟨x,hx,h1⟩,h2=>by
  by_cases hb: ∃ x∈b::l,x≤v
  ·
   obtain ⟨p,hp,h3⟩:=tY (h:=h) hb h2
   exact ⟨p,Rq _ hp,h3⟩
  ·
   rcases Rs.1 hx with rfl|hx
   ·
    refine ⟨(x,b - 1),QY,h1,?_⟩
    have: ¬ b≤v:=fun e=>hb ⟨b,QY,e⟩
    simp only;omega
   ·
    exact absurd ⟨x,hx,h1⟩ hb
theorem fp {lo hi:Int} {ps:List (Int × Int)} {p:Int × Int} (hp:p∈cJ lo hi ps):lo≤p.1∧p.1≤p.2∧p.2≤hi:=by
 obtain ⟨h1,h2,h3,_⟩:=oZ (mQ lo hi ps) (fun x hx=>(gX.1 hx).2.2) hp
 exact ⟨(gX.1 h1).2.1,h2,h3⟩
theorem r9 (lo hi:Int) (ps:List (Int × Int)):(cJ lo hi ps).Pairwise fun p q=>p.2<q.1:=ry (mQ lo hi ps) fun x hx=>(gX.1 hx).2.2
theorem uz {lo hi v:Int} {ps:List (Int × Int)} (h1:lo≤v) (h2:v≤hi): ∃ p∈cJ lo hi ps,p.1≤v∧v≤p.2:=
 tY ⟨lo,gX.2 ⟨.inl rfl,SQ _,by omega⟩,h1⟩ h2
theorem zq {lo hi:Int} {ps:List (Int × Int)} {p q:Int × Int} (hp:p∈cJ lo hi ps) (hq:q∈ps) (h1:q.1≤p.2) (h2:p.1≤q.2):q.1≤p.1∧p.2≤q.2:=by
 obtain ⟨k1,k2,k3,k4⟩:=oZ (mQ lo hi ps) (fun x hx=>(gX.1 hx).2.2) hp
 have k5:=(gX.1 k1).2.1
 constructor
 ·
  refine Int.not_lt.1 fun hlt=>k4 q.1 (gX.2 ⟨.inr ⟨q,hq,.inl rfl⟩,by omega,by omega⟩) ⟨hlt,h1⟩
 ·
  refine Int.not_lt.1 fun hlt=>k4 (q.2+1) (gX.2 ⟨.inr ⟨q,hq,.inr rfl⟩,by omega,by omega⟩) ⟨by omega,by omega⟩
structure Pz where
 rect:Rct
 a:Nat
 b:Nat
def dA (p:Pz):List Value:= [.int .i64 p.rect.c1,.int .i64 p.rect.r1,.int .i64 p.rect.c2,.int .i64 p.rect.r2,.int .i64 (p.a:Int),.int .i64 (p.b:Int)]
theorem dh (p:Pz):(dA p).length=6:=rfl
def jQ (a b:Rct):Bool:=(eL a b).2 && decide ((eL a b).1=a)
def m8 (r:Rct) (L:List Rl):Nat→Nat
 |0=>0
 |n+1=>if jQ r ((L[n]?.map (·.rect)).getD aN)=true then n else m8 r L n
def iN (r:Rct) (L:List Rl):Nat:=m8 r L L.length
theorem yt (r:Rct) (L:List Rl): ∀ n,m8 r L n≤n - 1
 |0=>Re _
 |n+1=>by
  rw [m8];split
  ·
   exact Re _
  ·
   have:=yt r L n;omega
def aZ (r:Rct) (L:List Rl):List (Int × Int):=L.flatMap fun x=>if (eL x.rect r).2=true then [((eL x.rect r).1.c1,(eL x.rect r).1.c2)] else []
def aX (r:Rct) (L:List Rl):List (Int × Int):=L.flatMap fun x=>if (eL x.rect r).2=true then [((eL x.rect r).1.r1,(eL x.rect r).1.r2)] else []
def nT (A B:List Rl) (y x:Int × Int):Pz:=⟨⟨x.1,y.1,x.2,y.2⟩,iN ⟨x.1,y.1,x.2,y.2⟩ A,iN ⟨x.1,y.1,x.2,y.2⟩ B⟩
def ky (l:List Pz) (p:Pz):List Pz:=match l.getLast? with
 |some q=>if q.a=p.a∧q.b=p.b then l.dropLast++ [⟨⟨q.rect.c1,q.rect.r1,p.rect.c2,q.rect.r2⟩,q.a,q.b⟩] else l++ [p]
 |none=> [p]
def kg (A B:List Rl) (y:Int × Int) (xs:List (Int × Int)):List Pz:=xs.foldl (fun l x=>ky l (nT A B y x)) []
theorem lM {A B:List Rl} {y:Int × Int} {xs:List (Int × Int)} {x:Int × Int}:kg A B y (xs++ [x])=ky (kg A B y xs) (nT A B y x):=by
 unfold kg;rw [Tu];rfl
def dY (r:Rct) (A B:List Rl):List Pz:=(cJ r.r1 r.r2 (aX r A++aX r B)).flatMap fun y=>kg A B y (cJ r.c1 r.c2 (aZ r A++aZ r B))
def jU (l:List (BitVec 64)):BitVec 64:=l.foldl (· &&& ·) (BitVec.allOnes 64)
def yd (f:Rl→BitVec 64) (r:Rct) (L:List Rl):BitVec 64:=jU ((dY r L []).map fun p=>(L[p.a]?.map f).getD 0#64)
theorem zu {l:List (BitVec 64)} {x:BitVec 64}:jU (l++ [x])=jU l &&& x:=by unfold jU;rw [Tu];rfl
theorem IP {n:Nd} {st l top:List STree} (hs:gA n st= .inr (l,top)):bQ n=0∧(top.length:Int)=below n:=by
 unfold gA at hs
 split at hs
 ·
  cases hs
 rename_i hf
 split at hs
 ·
  cases hs
 rename_i hb
 split at hs
 ·
  cases hs
 simp only [Sum.inr.injEq,Prod.mk.injEq] at hs
 obtain ⟨rfl,rfl⟩:=hs
 have hlk:(fw st (below n).toNat).length=min st.length (below n).toNat:=by simp [fw];omega
 have hb0:(0:Int)≤below n:=by
  have hk:f9 n=true:=by
   cases hk:f9 n
   ·
    exfalso
    apply hf
    intro h0
    simp [bQ,hk] at h0
   ·
    rfl
  unfold below
  by_cases h7:n.kind=7
  ·
   simp [f9,h7] at hk
   simp [h7];exact hk
  ·
   (repeat' split)<;>omega
 have hle: ¬ (st.length:Int)<below n:=fun h=>hb (Or.inl h)
 exact ⟨by omega,by omega⟩
def OT (h:iF):Prop:= ∀ (j:Nat) (y:List STree × STree),h[j]? =some y→ ∃ n,(y.1.length:Int)=below n∧y.2=bC n y.1∧bQ n=0
theorem Whole.lens {L:List Nd} {S:STree} {h:iF} (hW:Whole L S h):OT h:=by
 refine oN (fun _ h=>OT h) (fun dn n st h l top hI hP hs=> ?_) L [] [] [] [S] h ?_ ?_ hW.walk
 ·
  intro j y hy
  by_cases hj:j<h.length
  ·
   rw [RH hj] at hy
   exact hP j y hy
  ·
   rw [R0 (by omega)] at hy
   obtain ⟨h1,h2⟩:=IP hs
   have e:y=(top,bC n top):=by
    cases hq:j - h.length with
    |zero=>rw [hq] at hy;exact (Option.some.inj hy).symm
    |succ k=>rw [hq] at hy;simp at hy
   subst e
   exact ⟨n,h2,rfl,h1⟩
 ·
  exact Inv.nil
 ·
  intro j y hy
  simp at hy
def Fe (m:Nd):Prop:=m.kind=7∧46≤m.fn
theorem Ny {m:Nd} (hf:bQ m=0) (hr:Fe m):below m=1:=by
 obtain ⟨h7,h46⟩:=hr
 unfold bQ at hf
 split at hf
 ·
  cases hf
 rw [if_neg (show ¬ m.kind≠7 by omega)] at hf
 split at hf
 ·
  rename_i h;exact absurd hf h
 rename_i ha
 split at hf
 ·
  cases hf
 rename_i hn
 have h50:m.fn≤50:=by
  by_cases h:m.fn≤50
  ·
   exact h
  ·
   exfalso
   apply ha
   have hk:cO m.fn=false:=by
    unfold cO
    rw [decide_eq_true (show 1≤m.fn by omega),decide_eq_false h]
    rfl
   unfold eR
   rw [hk,if_neg (by omega),if_neg (by omega),if_neg (by omega),if_neg (by omega),if_neg (by omega),if_neg (by omega)]
   decide
 have har:eR m.fn=(1,1,0):=by
  have:m.fn=46∨m.fn=47∨m.fn=48∨m.fn=49∨m.fn=50:=by omega
  rcases this with h|h|h|h|h<;>rw [h]<;>decide+kernel
 rw [har] at hn
 dsimp only at hn
 unfold below
 rw [if_neg (by omega),if_neg (by omega),if_pos h7]
 omega
theorem FF {L:List Nd} {S:STree} {h:iF} (hW:Whole L S h) {i:Nat} (hi:i<L.length):
  ∃ u:Int,(kr h)[i]? =some u∧(u= -1∨ ∃ j:Nat,u=(j:Int)∧j<L.length)∧(∀ m,L[i+1]? =some m→Fe m→u=((i+1:Nat):Int))∧(∀ (j:Nat) m,u=(j:Int)→L[j]? =some m→Fe m→j=i+1):=by
 have hHl:=hW.inv.len
 have key: ∀ j m,L[j]? =some m→Fe m→ ∃ y,h[j]? =some y∧0<j∧dw j y= [j - 1]:=by
  intro j m hm hr
  have hj:j<L.length:=(Rg.1 hm).1
  obtain ⟨y,hy⟩: ∃ y,h[j]? =some y:=⟨_,QV (by omega)⟩
  obtain ⟨n,hn,e2,hgt,hgT,hTl,hseg⟩:=hW.inv.node j y hy
  obtain ⟨n',hl',e2',hf'⟩:=hW.lens j y hy
  have hnn:n' =n:=by
   rw [e2] at e2'
   have:=congrArg (fun T:STree=>T.ns.getLast?) e2'
   simpa [bC] using this.symm
  subst hnn
  rw [hm] at hn
  obtain rfl:=Option.some.inj hn
  rw [Ny hf' hr] at hl'
  obtain ⟨T,hT⟩: ∃ T,y.1= [T]:=by
   match hq:y.1,hl' with
   | [T],_=>exact ⟨T,rfl⟩
   | [],h=>simp at h
   |_::_::_,h=>simp at h;omega
  have hlen:y.2.ns.length=T.ns.length+1:=by rw [e2,cN,hT];simp [bh]
  have hTp:0<T.ns.length:=(hgt T (by rw [hT];simp)).pos
  refine ⟨y,hy,by omega,?_⟩
  unfold dw lo
  rw [hT]
  simp only [aI,List.cons.injEq,and_true]
  omega
 have hpk:=hW.parOk
 have hup: ∃ u:Int,(kr h)[i]? =some u∧(u= -1∨ ∃ j:Nat,u=(j:Int)∧j<L.length∧ ∃ y,h[j]? =some y∧i∈dw j y):=by
  rcases hW.inv.up i (by omega) with hr|⟨j,y,hy,hk⟩
  ·
   exact ⟨-1,hpk.root i hr,.inl rfl⟩
  ·
   have hj:j<h.length:=(Rg.1 hy).1
   exact ⟨(j:Int),hpk.kid j y hy i hk,.inr ⟨j,rfl,by omega,y,hy,hk⟩⟩
 obtain ⟨u,hu,hcase⟩:=hup
 refine ⟨u,hu,?_,?_,?_⟩
 ·
  rcases hcase with h|⟨j,h1,h2,_⟩
  ·
   exact .inl h
  ·
   exact .inr ⟨j,h1,h2⟩
 ·
  intro m hm hr
  obtain ⟨y,hy,_,hk⟩:=key (i+1) m hm hr
  have:=hpk.kid (i+1) y hy i (by rw [hk];simp)
  rw [hu] at this
  exact Option.some.inj this
 ·
  intro j m hj hm hr
  rcases hcase with h|⟨j',h1,h2,y',hy',hk'⟩
  ·
   omega
  ·
   obtain rfl:j=j' :=by omega
   obtain ⟨y,hy,hp,hk⟩:=key j m hm hr
   rw [hy'] at hy
   obtain rfl:=Option.some.inj hy
   rw [hk] at hk'
   have:=Rp.1 hk'
   omega
end Go.SL
namespace Go.Proofs
open Go Go.Shelf Go.RowKit Go.Lib Go.Sort Go.SL
def Tryz.sortIn_ren:Go.Shelf.Ren:=⟨fun|5=>230|8=>202|7=>278|19=>252|20=>253|10=>308|11=>309|12=>310|13=>311|14=>312|15=>313|16=>314|17=>315|18=>316|30=>339|31=>293|32=>294|33=>340|34=>341|35=>342|40=>358|n=>n,fun|23=>75|25=>3|3=>3|32=>196|22=>75|0=>0|44=>310|46=>33|4=>4|36=>303|35=>302|41=>307|5=>5|9=>9|53=>340|57=>344|63=>370|64=>367|n=>n,fun|n=>n⟩
theorem Tryz.sortIn:Go.Proofs.SlLaysM.n5 Tryz.prog Tryz.sortIn_ren:={
 mixed:=by kernel_rfl
 f5:=⟨Tryz.f230.name,by decide,Tryz.func230.trans (congrArg some (by kernel_rfl))⟩
 f7:=⟨Tryz.f278.name,by decide,Tryz.func278.trans (congrArg some (by kernel_rfl))⟩
 f8:=Tryz.func202.trans (congrArg some (by kernel_rfl))
 f10:=⟨Tryz.f308.name,by decide,Tryz.func308.trans (congrArg some (by kernel_rfl))⟩
 f11:=⟨Tryz.f309.name,by decide,Tryz.func309.trans (congrArg some (by kernel_rfl))⟩
 f12:=⟨Tryz.f310.name,by decide,Tryz.func310.trans (congrArg some (by kernel_rfl))⟩
 f13:=⟨Tryz.f311.name,by decide,Tryz.func311.trans (congrArg some (by kernel_rfl))⟩
 f14:=⟨Tryz.f312.name,by decide,Tryz.func312.trans (congrArg some (by kernel_rfl))⟩
 f15:=⟨Tryz.f313.name,by decide,Tryz.func313.trans (congrArg some (by kernel_rfl))⟩
 f16:=⟨Tryz.f314.name,by decide,Tryz.func314.trans (congrArg some (by kernel_rfl))⟩
 f17:=⟨Tryz.f315.name,by decide,Tryz.func315.trans (congrArg some (by kernel_rfl))⟩
 f18:=⟨Tryz.f316.name,by decide,Tryz.func316.trans (congrArg some (by kernel_rfl))⟩
 f19:=Tryz.func252.trans (congrArg some (by kernel_rfl))
 f20:=Tryz.func253.trans (congrArg some (by kernel_rfl))
 f30:=⟨Tryz.f339.name,by decide,Tryz.func339.trans (congrArg some (by kernel_rfl))⟩
 f31:=Tryz.func293.trans (congrArg some (by kernel_rfl))
 f32:=Tryz.func294.trans (congrArg some (by kernel_rfl))
 f33:=⟨Tryz.f340.name,by decide,Tryz.func340.trans (congrArg some (by kernel_rfl))⟩
 f34:=⟨Tryz.f341.name,by decide,Tryz.func341.trans (congrArg some (by kernel_rfl))⟩
 f35:=⟨Tryz.f342.name,by decide,Tryz.func342.trans (congrArg some (by kernel_rfl))⟩
 f40:=⟨Tryz.f358.name,by decide,Tryz.func358.trans (congrArg some (by kernel_rfl))⟩
 t0:=Tryz.underlying0
 a0:=Tryz.isAgg0
 z0:=Tryz.sizeOf0
 v0:=Tryz.zeroValue0
 t3:=Tryz.underlying3
 a3:=Tryz.isAgg3
 z3:=Tryz.sizeOf3
 v3:=Tryz.zeroValue3
 t4:=Tryz.underlying4
 a4:=Tryz.isAgg4
 z4:=Tryz.sizeOf4
 v4:=Tryz.zeroValue4
 t5:=Tryz.underlying5
 a5:=Tryz.isAgg5
 z5:=Tryz.sizeOf5
 v5:=Tryz.zeroValue5
 t9:=Tryz.underlying9
 a9:=Tryz.isAgg9
 z9:=Tryz.sizeOf9
 v9:=Tryz.zeroValue9
 t22:=Tryz.underlying75
 a22:=Tryz.isAgg75
 z22:=Tryz.sizeOf75
 v22:=Tryz.zeroValue75
 t23:=Tryz.underlying75
 a23:=Tryz.isAgg75
 z23:=Tryz.sizeOf75
 v23:=Tryz.zeroValue75
 t25:=Tryz.underlying3
 a25:=Tryz.isAgg3
 z25:=Tryz.sizeOf3
 v25:=Tryz.zeroValue3
 t32:=Tryz.underlying196
 a32:=Tryz.isAgg196
 z32:=Tryz.sizeOf196
 v32:=Tryz.zeroValue196
 t35:=Tryz.underlying302
 a35:=Tryz.isAgg302
 z35:=Tryz.sizeOf302
 v35:=Tryz.zeroValue302
 t36:=Tryz.underlying303
 a36:=Tryz.isAgg303
 z36:=Tryz.sizeOf303
 v36:=Tryz.zeroValue303
 t41:=Tryz.underlying307
 a41:=Tryz.isAgg307
 z41:=Tryz.sizeOf307
 v41:=Tryz.zeroValue307
 t44:=Tryz.underlying310
 a44:=Tryz.isAgg310
 z44:=Tryz.sizeOf310
 v44:=Tryz.zeroValue310
 t46:=Tryz.underlying33
 a46:=Tryz.isAgg33
 z46:=Tryz.sizeOf33
 v46:=Tryz.zeroValue33
 t53:=Tryz.underlying340
 a53:=Tryz.isAgg340
 z53:=Tryz.sizeOf340
 v53:=Tryz.zeroValue340
 t57:=Tryz.underlying344
 a57:=Tryz.isAgg344
 z57:=Tryz.sizeOf344
 v57:=Tryz.zeroValue344
 t63:=Tryz.underlying370
 a63:=Tryz.isAgg370
 z63:=Tryz.sizeOf370
 v63:=Tryz.zeroValue370
 t64:=Tryz.underlying367
 a64:=Tryz.isAgg367
 z64:=Tryz.sizeOf367
 v64:=Tryz.zeroValue367 }
end Go.Proofs
namespace Go.SL
open Go Go.Proofs Go.Sort Go.Shelf
theorem Cj {α:Type} [Inhabited α] {enc:α→Value} (w:World) (g n:Nat) (d:Array α) (os:Array Obj):w.grownBy (grow (putRow enc (Sort.ahead w n) g 0 d) os) (some g):={
 os:=rfl
 tape:=rfl
 output:=rfl
 size:=by
  show w.heap.size≤((w.heap.modify g _)++os).size
  rw [Array.size_append,TC]
  omega
 block k hk hne:=by
  show ((w.heap.modify g _)++os)[k]? =_
  rw [Sz (by rw [TC];exact hk),Tn,if_neg (fun e=>hne (by rw [e]))] }
theorem E5 {α:Type} [Inhabited α] {enc:α→Value} (w:World) (g n:Nat) (d:Array α) (os:Array Obj) (c:Array Value) (T:TypeId) (fr:Nat × Nat) (h:w.heap[g]? =some (.cells c T fr)):
  (grow (putRow enc (Sort.ahead w n) g 0 d) os).heap[g]? =some (.cells (putCells enc 0 d c) T fr):=by
 have hlt:g<w.heap.size:=(RI.1 h).1
 show ((w.heap.modify g _)++os)[g]? =_
 rw [Sz (by rw [TC];exact hlt),Tn,if_pos rfl,h]
 rfl
theorem Fw (L:List Int) (xs junk:List Value) (hl:xs.length=L.length):putCells du 0 L.toArray (xs++junk).toArray=(L.map du++junk).toArray:=by
 apply Array.ext_getElem?
 intro j
 simp only [putCells,Array.getElem?_mapIdx,Sd,Tt,Rd,true_and,Rt,SX]
 by_cases hj:j<L.length
 ·
  rw [RH (by omega),RH (by rw [RP];omega),RZ,QV (by omega),QV hj]
  simp [hj]
 ·
  rw [R0 (by omega),R0 (by rw [RP];omega),hl,RP]
  simp [hj]
set_option maxHeartbeats 1000000 in
theorem Ch (L:List Int) (A:Option Nat) (cap:Nat) (hL:L.length≤1000000) (R:List Blk) (w0:World):
  FnIn Tryz.prog 230 [sl A L.length cap] w0 (.own A 3 1 L.length cap (L.map du)::R) fun v H=>v= .tuple #[]∧H= .own A 3 1 L.length cap ((jC L).map du)::R:=by
 have hl:(jC L).length=L.length:=(iQ L).length_eq
 cases A with
 |none=>
  intro w hm
  obtain ⟨⟨h1,h2,h3,h4⟩,_⟩:=hm.on _ QY
  obtain ⟨h5,h6⟩:=h4
  have hnil:L= []:=SR.1 h5
  subst hnil
  subst h6
  have he:jC []= []:=SR.1 hl
  refine Calls.mono (AnyM.slices_Sort_int_none Tryz.sortIn none 0 w) ?_
  rintro e w' ⟨rfl,rfl⟩
  exact ⟨_,_,rfl,hm,rfl,by rw [he]⟩
 |some g=>
  intro w hm
  obtain ⟨⟨h1,h2,h3,junk,h4,h5⟩,hkk⟩:=hm.on _ QY
  have hlt:g<w.heap.size:=(RI.1 h5).1
  have hH:Holds du w g 0 L.toArray:=by
   intro j hj
   simp only [Tt] at hj
   have hc:(L.map du++junk).toArray[j]? =some (du L.toArray[j]!):=by
    rw [Sd,RH (by rw [RP];exact hj),RZ,QV hj]
    simp [hj]
   constructor
   ·
    simp only [World.cell?,Rt,h5]
    exact hc
   ·
    simp [World.frozen?,h5]
  have hs:=AnyM.slices_Sort_int Tryz.sortIn g 0 cap L w hH hlt (by omega)
  refine hs.mono ?_
  rintro e w' ⟨rfl,n,os,rfl⟩
  refine ⟨_,_,rfl,hm.upd (Cj _ _ _ _ _) (b' := .own (some g) 3 1 L.length cap ((jC L).map du)) ?_ fun k hk=> .inl hk,rfl,rfl⟩
  refine ⟨by rw [RP,hl,SN],h2,h3,junk,by rw [QT,RP,hl,← SN L.length,← h1,← QT];exact h4,?_⟩
  have h6:=E5 (enc:=du) w g n (jC L).toArray os _ _ _ h5
  rw [Fw (jC L) _ _ (by rw [hl,h1,SN])] at h6
  exact h6
end Go.SL
