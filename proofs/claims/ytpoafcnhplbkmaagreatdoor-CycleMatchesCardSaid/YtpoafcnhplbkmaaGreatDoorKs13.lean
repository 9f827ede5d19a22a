/-
  Lemmas and walks, put together: Tr Tr2 Tr5 Ca Cb Ce Cc Cf.
-/
import Derived.Test.YtpoafcnhplbkmaaGreatDoorKs10
set_option linter.unusedSimpArgs false
set_option linter.unusedVariables false
set_option maxRecDepth 20000
namespace Go.SL
open Go
structure STree where
 ns:List Nd
 d:Nat
def STree.kind (S:STree):Int:=((S.ns.getLast?).map Nd.kind).getD 0
def QB (n:Nd) (i:Int) (k:Int):Bool:= !(decide (k=3) && !Dl n i) && !(decide (n.kind=7) && jf n.fn && decide (k≠2) && decide (k≠3))
def rp (n:Nd):Int→List STree→Bool
 |_,[]=>true
 |i,S::r=>QB n i S.kind && rp n (i+1) r
def fL (st:List STree) (k:Nat):List STree:=st.drop (st.length - k)
def qu (top:List STree):Nat:=top.foldl (fun d S=>max d (S.d+1)) 1
def ba (st:List STree):List Nd:=st.flatMap STree.ns
def bD (n:Nd) (top:List STree):STree:=⟨ba top++ [n],qu top⟩
def gW (n:Nd) (st:List STree):Int ⊕ (List STree × List STree):=
 if bB n≠0 then .inl (bB n)
 else if (st.length:Int)<below n∨rp n 0 (fL st (below n).toNat)=false then .inl 4
 else if 32<qu (fL st (below n).toNat) then .inl 9
 else .inr (st.take (st.length - (below n).toNat),fL st (below n).toNat)
abbrev iW:=List (List STree × STree)
def fJ:List Nd→List STree→iW→Int × List STree × iW
 | [],st,h=>(if st.length=1 then 0 else 4,st,h)
 |n::r,st,h=>match gW n st with
  | .inl e=>(e,st,h)
  | .inr (lo,top)=>fJ r (lo++ [bD n top]) (h++ [(top,bD n top)])
theorem cd (a b:List STree):ba (a++b)=ba a++ba b:=Rp
theorem mI (S:STree):ba [S]=S.ns:=by simp [ba]
theorem fZ (S:STree) (r:List STree):ba (S::r)=S.ns++ba r:=Rl
theorem cU (n:Nd) (top:List STree):(bD n top).ns.length=(ba top).length+1:=by simp [bD]
theorem FL (n:Nd) (top:List STree):(bD n top).kind=n.kind:=by simp [bD,STree.kind]
inductive Good:STree→Prop
 |mk (n:Nd) (top:List STree) (hg: ∀ S∈top,Good S) (hf:bB n=0) (hb:(top.length:Int)=Go.SL.below n) (hfit:rp n 0 top=true) (hd:qu top≤32):Good (bD n top)
theorem Good.pos {S:STree} (h:Good S):0<S.ns.length:=by
 cases h with
 |mk n top _ _ _ _ _=>rw [cU];omega
def aL:Nat→List STree→List Nat
 |_,[]=> []
 |o,S::r=>(o+S.ns.length - 1)::aL (o+S.ns.length) r
def lo (i:Nat) (x:List STree × STree):Nat:=i+1 - x.2.ns.length
def dG (i:Nat) (x:List STree × STree):List Nat:=aL (lo i x) x.1
theorem l7 (o:Nat) (l:List STree):(aL o l).length=l.length:=by
 induction l generalizing o with
 |nil=>rfl
 |cons S r ih=>simp [aL,ih]
theorem dQ (o:Nat) (a b:List STree):aL o (a++b)=aL o a++aL (o+(ba a).length) b:=by
 induction a generalizing o with
 |nil=>simp [aL,ba]
 |cons S r ih=>simp [aL,ih,fZ,SC]
theorem yZ {o k:Nat} {l:List STree} (h:k∈aL o l): ∃ a S b,l=a++S::b∧k=o+(ba a).length+S.ns.length - 1:=by
 induction l generalizing o with
 |nil=>cases h
 |cons S r ih=>
  rcases RF.1 h with rfl|h
  ·exact ⟨[],S,r,rfl,by simp [ba]⟩
  ·obtain ⟨a,T,b,rfl,rfl⟩:=ih h;exact ⟨S::a,T,b,rfl,by simp [fZ,SC]⟩
theorem kI {o k:Nat} {l:List STree} (hp: ∀ S∈l,0<S.ns.length) (h:k∈aL o l):o≤k∧k<o+(ba l).length:=by
 obtain ⟨a,S,b,rfl,rfl⟩:=yZ h;have:=hp S (by simp);simp only [cd,fZ,QT];omega
structure Inv (dn:List Nd) (st:List STree) (h:iW):Prop where
 flat:ba st=dn
 good: ∀ S∈st,Good S
 len:h.length=dn.length
 node: ∀ i x,h[i]? =some x→ ∃ n,dn[i]? =some n∧x.2=bD n x.1∧(∀ T∈x.1,Good T)∧Good x.2∧x.2.ns.length≤i+1∧(dn.take (i+1)).drop (lo i x)=x.2.ns
 deep: ∀ x∈h,∃ S∈st,x.2.d≤S.d
 cut: ∀ a b,st=a++b→ ∀ j x,h[j]? =some x→(ba a).length≤j→(ba a).length≤lo j x
 lam: ∀ i j x y,h[i]? =some x→h[j]? =some y→j≤i→lo i x≤j→lo i x≤lo j y
 mid: ∀ i j x y,h[i]? =some x→h[j]? =some y→ ∀ k∈dG j y,k<i→i<j→k<lo i x
 up: ∀ k<h.length,k∈aL 0 st∨ ∃ j y,h[j]? =some y∧k∈dG j y
 apart: ∀ j y,h[j]? =some y→ ∀ k∈dG j y,k∉aL 0 st
 one: ∀ i j x y,h[i]? =some x→h[j]? =some y→ ∀ k,k∈dG i x→k∈dG j y→i=j
theorem Inv.nil:Inv [] [] []:={
 flat:=rfl
 good:=fun _ h=>by cases h
 len:=rfl
 node:=fun i x h=>by simp at h
 deep:=fun _ h=>by cases h
 cut:=fun a b _ j x h=>by simp at h
 lam:=fun i j x y h=>by simp at h
 mid:=fun i j x y h=>by simp at h
 up:=fun k h=>by simp at h
 apart:=fun j y h=>by simp at h
 one:=fun i j x y h=>by simp at h }
theorem JI (top:List STree): ∀ S∈top,S.d+1≤qu top:=by
 have: ∀ (l:List STree) (d:Nat),d≤l.foldl (fun d S=>max d (S.d+1)) d∧ ∀ S∈l,S.d+1≤l.foldl (fun d S=>max d (S.d+1)) d:=by
  intro l
  induction l with
  |nil=>intro d;exact ⟨Rg _,fun _ h=>by cases h⟩
  |cons T r ih=>
   intro d;obtain ⟨h1,h2⟩:=ih (max d (T.d+1));refine ⟨?_,fun S hS=> ?_⟩
   ·rw [SB];omega
   ·rw [SB];rcases RF.1 hS with rfl|hS
    ·omega
    ·exact h2 S hS
 exact (this top 1).2
theorem dX {α:Type} {l:List α} {a x:α} {i:Nat} (h:(l++ [a])[i]? =some x):(i<l.length∧l[i]? =some x)∨(i=l.length∧x=a):=by
 rcases UO i l.length with h1|h1|h1
 ·rw [RC h1] at h;exact .inl ⟨h1,h⟩
 ·subst h1;simp at h;exact .inr ⟨rfl,h.symm⟩
 ·rw [Ry (by simp;omega)] at h;cases h
theorem Inv.step {dn:List Nd} {st:List STree} {h:iW} (hI:Inv dn st h) {n:Nd} {l top:List STree} (hs:gW n st= .inr (l,top)):
 Inv (dn++ [n]) (l++ [bD n top]) (h++ [(top,bD n top)])∧st=l++top:=by
 unfold gW at hs;split at hs
 ·cases hs
 rename_i hf;split at hs
 ·cases hs
 rename_i hb;split at hs
 ·cases hs
 rename_i hd;simp only [Sum.inr.injEq,Prod.mk.injEq] at hs;obtain ⟨rfl,rfl⟩:=hs;have hst:st.take (st.length - (below n).toNat)++fL st (below n).toNat=st:=Sd _ _;have hlk:(fL st (below n).toNat).length=min st.length (below n).toNat:=by simp [fL];omega
 generalize st.take (st.length - (below n).toNat)=l at hst ⊢;generalize fL st (below n).toNat=top at hst hb hd hlk ⊢;subst hst;have hb1:(0:Int)≤below n∧rp n 0 top=true∧below n≤((l++top).length:Int):=by
  refine ⟨?_,?_,?_⟩
  ·have hk:fj n=true:=by
    cases hk:fj n
    ·exfalso;apply hf;intro h0;simp [bB,hk] at h0
    ·rfl
   unfold below;by_cases h7:n.kind=7
   ·simp [fj,h7] at hk;simp [h7];exact hk
   ·(repeat' split)<;>omega
  ·cases hh:rp n 0 top
   ·exact absurd (Or.inr hh) hb
   ·rfl
  ·omega
 obtain ⟨hb0,hfit,hble⟩:=hb1;have hbl:(top.length:Int)=below n:=by omega
 have hgt: ∀ S∈top,Good S:=fun S hS=>hI.good S (Sj _ hS);have hgl: ∀ S∈l,Good S:=fun S hS=>hI.good S (Si _ hS);have hG:Good (bD n top):= .mk n top hgt (by omega) hbl hfit (by omega);have hflat:ba l++ba top=dn:=by rw [← cd];exact hI.flat
 have hlen:h.length=(ba l).length+(ba top).length:=by rw [hI.len,← hflat,QT]
 have hlo:lo h.length (top,bD n top)=(ba l).length:=by simp only [lo,cU];omega
 have hkids:dG h.length (top,bD n top)=aL (0+(ba l).length) top:=by rw [dG,hlo,Rv]
 have hroots:aL 0 (l++top)=aL 0 l++dG h.length (top,bD n top):=by rw [dQ,hkids]
 have hroots' :aL 0 (l++ [bD n top])=aL 0 l++ [h.length]:=by
  rw [dQ];simp only [aL,cU];congr 2;omega
 have hposl: ∀ S∈l,0<S.ns.length:=fun S hS=>(hgl S hS).pos;have hpost: ∀ S∈top,0<S.ns.length:=fun S hS=>(hgt S hS).pos;have hkb: ∀ k∈dG h.length (top,bD n top),(ba l).length≤k∧k<h.length:=fun k hk=>by
  rw [hkids] at hk;have:=kI hpost hk;omega
 have hkj: ∀ j y,h[j]? =some y→ ∀ k∈dG j y,k<j:=fun j y hy k hk=>by
  obtain ⟨m,_,e2,e3,_,e5,_⟩:=hI.node j y hy;have h1:=kI (fun T hT=>(e3 T hT).pos) hk;have h2:y.2.ns.length=(ba y.1).length+1:=by rw [e2,cU]
  simp only [lo] at h1;omega
 refine ⟨⟨?_,?_,?_,?_,?_,?_,?_,?_,?_,?_,?_⟩,rfl⟩
 ·rw [cd,mI];show ba l++(ba top++ [n])=dn++ [n];rw [← Rx,hflat]
 ·intro S hS;rcases Rz.1 hS with hS|hS
  ·exact hgl S hS
  ·rw [Rd.1 hS];exact hG
 ·simp [hI.len]
 ·intro i x hx;rcases dX hx with ⟨hi,hx⟩|⟨rfl,rfl⟩
  ·obtain ⟨m,e1,e2,e3,e4,e5,e6⟩:=hI.node i x hx;refine ⟨m,?_,e2,e3,e4,e5,?_⟩
   ·rw [RC (by rw [← hI.len];exact hi)];exact e1
   ·rw [TA (by rw [← hI.len];exact hi)];exact e6
  ·refine ⟨n,by rw [hI.len];simp,rfl,hgt,hG,by simp only [cU];omega,?_⟩;rw [hlo,hI.len,Sf (by simp),← hflat,Rx,List.drop_left]
   rfl
 ·intro x hx;rcases Rz.1 hx with hx|hx
  ·obtain ⟨S,hS,hd1⟩:=hI.deep x hx;rcases Rz.1 hS with hS|hS
   ·exact ⟨S,Si _ hS,hd1⟩
   ·refine ⟨bD n top,Sj _ (Rd.2 rfl),?_⟩;have:=JI top S hS;simp only [bD];omega
  ·rw [Rd.1 hx];exact ⟨bD n top,Sj _ (Rd.2 rfl),Rg _⟩
 ·intro a b hab j x hx hj
  -- the cut lies in l,or behind all
  rcases List.append_eq_append_iff.1 hab with ⟨c,hc1,hc2⟩|⟨c,hc1,hc2⟩
  ·-- a=l++c,[node]=c++b
   cases c with
   |nil=>
    rw [Rc] at hc1;subst hc1;rcases dX hx with ⟨hi,hx⟩|⟨rfl,rfl⟩
    ·exact hI.cut a top rfl j x hx hj
    ·rw [hlo];exact Rg _
   |cons T c' =>
    have hT:T=bD n top∧c' ++b= []:=by
     simp only [QV,List.cons.injEq] at hc2;exact ⟨hc2.1.symm,hc2.2.symm⟩
    obtain ⟨rfl,hcb⟩:=hT;have hc' :c' = []:=(List.append_eq_nil_iff.1 hcb).1;subst hc';exfalso;have hj' :j<h.length+1:=by
     have:=(Rm.1 hx).1;simpa using this
    rw [hc1,cd,mI,QT,cU] at hj;omega
  ·-- l=a++c
   subst hc1;rcases dX hx with ⟨hi,hx⟩|⟨rfl,rfl⟩
   ·exact hI.cut a (c++top) (by simp) j x hx hj
   ·rw [hlo,cd,QT];omega
 ·intro i j x y hx hy hji hle;rcases dX hx with ⟨hi,hx⟩|⟨rfl,rfl⟩
  ·rcases dX hy with ⟨hj,hy⟩|⟨rfl,rfl⟩
   ·exact hI.lam i j x y hx hy hji hle
   ·omega
  ·rcases dX hy with ⟨hj,hy⟩|⟨rfl,rfl⟩
   ·rw [hlo] at hle ⊢;exact hI.cut l top rfl j y hy hle
   ·exact Rg _
 ·intro i j x y hx hy k hk hki hij;rcases dX hy with ⟨hj,hy⟩|⟨rfl,rfl⟩
  ·rcases dX hx with ⟨hi,hx⟩|⟨rfl,rfl⟩
   ·exact hI.mid i j x y hx hy k hk hki hij
   ·omega
  ·rcases dX hx with ⟨hi,hx'⟩|⟨rfl,rfl⟩
   ·rw [hkids] at hk;obtain ⟨a,S,b,hab,rfl⟩:=yZ hk;have hS:=hpost S (by simp [hab]);have:=hI.cut (l++a++ [S]) b (by simp [hab]) i x hx';simp only [cd,mI,QT] at this;omega
   ·omega
 ·intro k hk;rw [QT,QX] at hk;by_cases hkh:k=h.length
  ·left;rw [hroots',hkh];simp
  ·rcases hI.up k (by omega) with h1|⟨j,y,h1,h2⟩
   ·rw [hroots] at h1;rcases Rz.1 h1 with h1|h1
    ·left;rw [hroots'];exact Si _ h1
    ·right
     exact ⟨h.length,(top,bD n top),by simp,h1⟩
   ·right
    refine ⟨j,y,?_,h2⟩;rw [RC (Rm.1 h1).1];exact h1
 ·intro j y hy k hk;rw [hroots'];intro hm;rcases dX hy with ⟨hj,hy⟩|⟨rfl,rfl⟩
  ·rcases Rz.1 hm with hm|hm
   ·exact hI.apart j y hy k hk (by rw [hroots];exact Si _ hm)
   ·have h1:=Rd.1 hm;have h2:=hkj j y hy k hk;omega
  ·have h1:=hkb k hk;rcases Rz.1 hm with hm|hm
   ·have:=kI hposl hm;omega
   ·have:=Rd.1 hm;omega
 ·intro i j x y hx hy k hkx hky;rcases dX hx with ⟨hi,hx⟩|⟨rfl,rfl⟩
  ·rcases dX hy with ⟨hj,hy⟩|⟨rfl,rfl⟩
   ·exact hI.one i j x y hx hy k hkx hky
   ·exfalso;exact hI.apart i x hx k hkx (by rw [hroots];exact Sj _ hky)
  ·rcases dX hy with ⟨hj,hy⟩|⟨rfl,rfl⟩
   ·exfalso;exact hI.apart j y hy k hky (by rw [hroots];exact Sj _ hkx)
   ·rfl
theorem yq: ∀ (r dn:List Nd) (st:List STree) (h:iW) (st' :List STree) (h' :iW),Inv dn st h→fJ r st h=(0,st',h')→Inv (dn++r) st' h' ∧st'.length=1
 | [],dn,st,h,st',h',hI,hw=>by
  simp only [fJ,Prod.mk.injEq] at hw;obtain ⟨h1,rfl,rfl⟩:=hw;refine ⟨by simpa using hI,?_⟩;split at h1
  ·assumption
  ·cases h1
 |n::r,dn,st,h,st',h',hI,hw=>by
  rw [fJ] at hw
  cases hs:gW n st with
  |inl e=>
   rw [hs] at hw;simp only [Prod.mk.injEq] at hw;obtain ⟨rfl,_⟩:=hw;exfalso;unfold gW at hs;split at hs
   ·injection hs with hs;exact absurd hs (by assumption)
   ·split at hs
    ·cases hs
    ·split at hs<;>cases hs
  |inr x=>
   obtain ⟨l,top⟩:=x;rw [hs] at hw;have:=yq r _ _ _ _ _ (hI.step hs).1 hw;simpa using this
theorem H4 {L:List Nd} {st:List STree} {h:iW} (hw:fJ L [] []=(0,st,h)): ∃ S,st= [S]∧S.ns=L∧Good S∧Inv L [S] h:=by
 obtain ⟨hI,h1⟩:=yq L [] [] [] st h Inv.nil hw
 match st,h1 with
 | [S],_=>
  rw [QW] at hI;exact ⟨S,rfl,by rw [← hI.flat,mI],hI.good S (by simp),hI⟩
def bA:Nat→List STree→List Pt
 |_,[]=> []
 |o,S::r=>⟨o+S.ns.length - 1,S.d,decide (S.kind=3)⟩::bA (o+S.ns.length) r
theorem kL (o:Nat) (l:List STree):(bA o l).length=l.length:=by
 induction l generalizing o with
 |nil=>rfl
 |cons S r ih=>simp [bA,ih]
theorem wm (o:Nat) (a b:List STree):bA o (a++b)=bA o a++bA (o+(ba a).length) b:=by
 induction a generalizing o with
 |nil=>simp [bA,ba]
 |cons S r ih=>simp [bA,ih,fZ,SC]
theorem Ab (o:Nat) (l:List STree) (m:Nat):(bA o l).drop m=bA (o+(ba (l.take m)).length) (l.drop m):=by
 induction l generalizing o m with
 |nil=>simp [bA]
 |cons S r ih=>cases m with
  |zero=>simp [ba]
  |succ m=>simp [bA,ih,fZ,SC]
theorem Aa (o:Nat) (l:List STree) (m:Nat):(bA o l).take m=bA o (l.take m):=by
 induction l generalizing o m with
 |nil=>simp [bA]
 |cons S r ih=>cases m with
  |zero=>simp [bA]
  |succ m=>simp [bA,ih]
theorem x6 (o:Nat) (l:List STree):(bA o l).map Pt.root=aL o l:=by
 induction l generalizing o with
 |nil=>rfl
 |cons S r ih=>simp [bA,aL,ih]
theorem x7 (o:Nat) (l:List STree):cg (bA o l)=qu l:=by
 have: ∀ (l:List STree) (o d:Nat),(bA o l).foldl (fun d p=>max d (p.depth+1)) d=l.foldl (fun d S=>max d (S.d+1)) d:=by
  intro l
  induction l with
  |nil=>intro o d;rfl
  |cons S r ih=>intro o d;rw [bA,SB,SB,ih]
 exact this l o 1
theorem Dw {L:List Nd} {o:Nat} {a b:List STree} {S:STree} (hS:0<S.ns.length) (hL:(L.drop o).take (ba (a++S::b)).length=ba (a++S::b)):jm L (o+(ba a).length+S.ns.length - 1)=S.kind:=by
 have h1:(ba (a++S::b))[(ba a).length+(S.ns.length - 1)]? =S.ns[S.ns.length - 1]? :=by
  rw [cd,RM (by omega),Nat.add_sub_cancel_left,fZ,RC (by omega)]
 rw [← hL,Uo] at h1;rw [if_pos (by rw [cd,fZ];simp;omega),Sw] at h1;rw [jm,STree.kind,Uj,← h1];congr 3;omega
theorem DI {L:List Nd} (n:Nd) {o:Nat}: ∀ (b a:List STree) (i:Int),(∀ S∈b,0<S.ns.length)→(L.drop o).take (ba (a++b)).length=ba (a++b)→eG L n i (bA (o+(ba a).length) b)=rp n i b
 | [],a,i,_,_=>rfl
 |S::r,a,i,hp,hL=>by
  have h1:=Dw (hp S QY) hL;have h2:=DI n r (a++ [S]) (i+1) (fun T hT=>hp T (Rh _ hT)) (by simpa using hL);rw [cd,mI,QT,← SC] at h2;rw [bA,eG,rp,h2];congr 1;simp only [sK,QB,h1]
def kC (h:iW):List mK:=h.zipIdx.map fun x=>(dG x.2 x.1,x.1.2.d)
theorem xQ (h:iW) (x:List STree × STree):kC (h++ [x])=kC h++ [(dG h.length x,x.2.d)]:=by
 simp [kC,List.zipIdx_append]
theorem BG {L:List Nd}: ∀ (r dn:List Nd) (st:List STree) (h:iW),dn++r=L→Inv dn st h→fu L r dn.length (bA 0 st) (kC h)=((fJ r st h).1,kC (fJ r st h).2.2)
 | [],dn,st,h,hL,hI=>by simp [fu,fJ,kL]
 |n::r,dn,st,h,hL,hI=>by
  have hlast: ∀ k,bn (bA 0 st) k=bA (ba (st.take (st.length - k))).length (fL st k):=fun k=>by
   unfold bn fL;rw [kL,Ab,Rv]
  have hfits: ∀ k,eG L n 0 (bn (bA 0 st) k)=rp n 0 (fL st k):=fun k=>by
   rw [hlast]
   have:=DI (L:=L) n (o:=0) (fL st k) (st.take (st.length - k)) 0 (fun S hS=>(hI.good S (TC hS)).pos) (by
    rw [show st.take (st.length - k)++fL st k=st from Sd _ _,hI.flat,SP,← hL,TQ])
   rwa [Rv] at this
  have hdep: ∀ k,cg (bn (bA 0 st) k)=qu (fL st k):=fun k=>by rw [hlast,x7]
  rw [fu,fJ];have hs:jC L n dn.length (bA 0 st)=match gW n st with
   | .inl e=> .inl e
   | .inr (l,top)=> .inr (bA 0 (l++ [bD n top]),dG h.length (top,bD n top),(bD n top).d):=by
   unfold jC gW;rw [kL,hfits,hdep];by_cases c1:bB n≠0
   ·rw [if_pos c1,if_pos c1]
   rw [if_neg c1,if_neg c1];by_cases c2:(st.length:Int)<below n∨rp n 0 (fL st (below n).toNat)=false
   ·rw [if_pos c2,if_pos c2]
   rw [if_neg c2,if_neg c2];by_cases c3:32<qu (fL st (below n).toNat)
   ·rw [if_pos c3,if_pos c3]
   rw [if_neg c3,if_neg c3];have hfl:ba (st.take (st.length - (below n).toNat))++ba (fL st (below n).toNat)=dn:=by
    rw [← cd,show st.take (st.length - (below n).toNat)++fL st (below n).toNat=st from Sd _ _];exact hI.flat
   have hlen:dn.length=(ba (st.take (st.length - (below n).toNat))).length+(ba (fL st (below n).toNat)).length:=by rw [← hfl,QT]
   have e1:=Aa 0 st (st.length - (below n).toNat);have e2:(bn (bA 0 st) (below n).toNat).map Pt.root=dG h.length (fL st (below n).toNat,bD n (fL st (below n).toNat)):=by
    rw [hlast,x6,dG];congr 1;simp only [lo,cU,hI.len];omega
   dsimp only;rw [e1,e2,wm];simp only [bA,cU,FL];congr 4;have e3:0+(ba (st.take (st.length - (below n).toNat))).length+((ba (fL st (below n).toNat)).length+1) - 1=dn.length:=by omega
   rw [e3]
   rfl
  rw [hs]
  cases hsf:gW n st with
  |inl e=>rfl
  |inr x=>
   obtain ⟨l,top⟩:=x;dsimp only;have h1:=BG r (dn++ [n]) (l++ [bD n top]) (h++ [(top,bD n top)]) (by simpa using hL) (hI.step hsf).1;rw [xQ,QT,QX] at h1;exact h1
theorem BF (L:List Nd):fu L L 0 [] []=((fJ L [] []).1,kC (fJ L [] []).2.2):=by
 have:=BG (L:=L) L [] [] [] rfl Inv.nil;exact this
theorem oQ (P:List STree→iW→Prop) (hs: ∀ dn n st h l top,Inv dn st h→P st h→gW n st= .inr (l,top)→P (l++ [bD n top]) (h++ [(top,bD n top)])):
 ∀ (r dn:List Nd) (st:List STree) (h:iW) (st' :List STree) (h' :iW),Inv dn st h→P st h→fJ r st h=(0,st',h')→P st' h'
 | [],dn,st,h,st',h',hI,hP,hw=>by
  simp only [fJ,Prod.mk.injEq] at hw;obtain ⟨_,rfl,rfl⟩:=hw;exact hP
 |n::r,dn,st,h,st',h',hI,hP,hw=>by
  rw [fJ] at hw
  cases hsf:gW n st with
  |inl e=>
   rw [hsf] at hw;simp only [Prod.mk.injEq] at hw;obtain ⟨rfl,_⟩:=hw;exfalso;unfold gW at hsf;split at hsf
   ·injection hsf with hs;exact absurd hs (by assumption)
   ·split at hsf
    ·cases hsf
    ·split at hsf<;>cases hsf
  |inr x=>
   obtain ⟨l,top⟩:=x;rw [hsf] at hw;exact oQ P hs r _ _ _ _ _ (hI.step hsf).1 (hs _ _ _ _ _ _ hI hP hsf) hw
structure RootOk (st:List STree) (h:iW):Prop where
 root: ∀ a S b,st=a++S::b→ ∃ top,h[(ba a).length+S.ns.length - 1]? =some (top,S)
 kid: ∀ j y,h[j]? =some y→ ∀ a S b,y.1=a++S::b→ ∃ top,h[lo j y+(ba a).length+S.ns.length - 1]? =some (top,S)
theorem wX {α:Type} {l:List α} {a x:α} {i:Nat} (h:l[i]? =some x):(l++ [a])[i]? =some x:=by
 rw [RC (Rm.1 h).1];exact h
theorem Inv.facts {dn:List Nd} {st:List STree} {h:iW} (hI:Inv dn st h) {n:Nd} {l top:List STree} (hs:gW n st= .inr (l,top)):
 st=l++top∧(ba l).length+(ba top).length=h.length∧lo h.length (top,bD n top)=(ba l).length∧(∀ S∈l,0<S.ns.length)∧(∀ S∈top,0<S.ns.length):=by
 obtain ⟨hI',rfl⟩:=hI.step hs;have h1:(ba l).length+(ba top).length=h.length:=by rw [hI.len,← hI.flat,cd,QT]
 refine ⟨rfl,h1,by simp only [lo,cU];omega,fun S hS=>(hI.good S (Si _ hS)).pos,fun S hS=>(hI.good S (Sj _ hS)).pos⟩
theorem CC {dn:List Nd} {n:Nd} {st:List STree} {h:iW} {l top:List STree} (hI:Inv dn st h) (hP:RootOk st h) (hs:gW n st= .inr (l,top)):RootOk (l++ [bD n top]) (h++ [(top,bD n top)]):=by
 obtain ⟨rfl,hlen,hlo,hl,ht⟩:=hI.facts hs;refine ⟨fun a S b hab=> ?_,fun j y hy a S b hab=> ?_⟩
 ·rcases List.append_eq_append_iff.1 hab with ⟨c,hc1,hc2⟩|⟨c,hc1,hc2⟩
  ·cases c with
   |nil=>
    simp only [QW,List.cons.injEq] at hc2;obtain ⟨rfl,_⟩:=hc2;rw [Rc] at hc1;subst hc1;refine ⟨top,?_⟩;rw [cU,show (ba a).length+((ba top).length+1) - 1=h.length by omega];simp
   |cons T c' =>
    exfalso;have:=congrArg List.length hc2;simp at this
  ·subst hc1
   cases c with
   |nil=>
    simp only [QW,List.cons.injEq] at hc2;obtain ⟨rfl,_⟩:=hc2;refine ⟨top,?_⟩;rw [Rc] at hlen;rw [cU,show (ba a).length+((ba top).length+1) - 1=h.length by omega];simp
   |cons T c' =>
    simp only [QV,List.cons.injEq] at hc2;obtain ⟨rfl,_⟩:=hc2;obtain ⟨t,h1⟩:=hP.root a S (c' ++top) (by simp);exact ⟨t,wX h1⟩
 ·rcases dX hy with ⟨hj,hy⟩|⟨rfl,rfl⟩
  ·obtain ⟨t,h1⟩:=hP.kid j y hy a S b hab;exact ⟨t,wX h1⟩
  ·dsimp only at hab;subst hab;obtain ⟨t,h1⟩:=hP.root (l++a) S b (by simp);refine ⟨t,wX ?_⟩;rw [hlo];rw [cd,QT] at h1;exact h1
def gN (o:List Int) (ks:List Nat) (v:Int):List Int:=ks.foldl (fun o k=>o.set k v) o
theorem pz (o:List Int) (ks:List Nat) (v:Int):(gN o ks v).length=o.length:=by
 unfold gN
 induction ks generalizing o with
 |nil=>rfl
 |cons k r ih=>rw [SB,ih,Su]
theorem p9 (o:List Int) (ks:List Nat) (v:Int) (k:Nat) (hk:k<o.length):(gN o ks v)[k]? =if k∈ks then some v else o[k]? :=by
 unfold gN
 induction ks generalizing o with
 |nil=>simp
 |cons j r ih=>
  rw [SB,ih (o.set j v) (by simpa using hk),Uc];by_cases h1:k∈r
  ·simp [h1]
  ·by_cases h2:j=k
   ·subst h2;simp [hk]
   ·simp [h1,h2];exact fun e=>absurd e.symm h2
def Hf (o:List Int) (x:(List STree × STree) × Nat):List Int:=gN (o++ [-1]) (dG x.2 x.1) (x.2:Int)
def kM (h:iW):List Int:=h.zipIdx.foldl Hf []
theorem ma (h:iW) (x:List STree × STree):kM (h++ [x])=gN (kM h++ [-1]) (dG h.length x) (h.length:Int):=by
 simp [kM,List.zipIdx_append,Hf]
structure ParOk (st:List STree) (h:iW):Prop where
 len:(kM h).length=h.length
 kid: ∀ j y,h[j]? =some y→ ∀ k∈dG j y,(kM h)[k]? =some (j:Int)
 root: ∀ k∈aL 0 st,(kM h)[k]? =some (-1)
theorem wu {dn:List Nd} {n:Nd} {st:List STree} {h:iW} {l top:List STree} (hI:Inv dn st h) (hP:ParOk st h) (hs:gW n st= .inr (l,top)):ParOk (l++ [bD n top]) (h++ [(top,bD n top)]):=by
 have hI' :=(hI.step hs).1;obtain ⟨rfl,hlen,hlo,hl,ht⟩:=hI.facts hs;have hL:(kM h++ [-1]).length=h.length+1:=by simp [hP.len]
 have hkn: ∀ k∈dG h.length (top,bD n top),(ba l).length≤k∧k<h.length:=fun k hk=>by
  rw [dG,hlo] at hk;have:=kI ht hk;omega
 have hkr: ∀ k,k∈dG h.length (top,bD n top)↔k∈aL (0+(ba l).length) top:=fun k=>by rw [dG,hlo,Rv]
 refine ⟨by rw [ma,pz,hL];simp,fun j y hy k hk=> ?_,fun k hk=> ?_⟩
 ·have hkj:k<(h++ [(top,bD n top)]).length:=by
   obtain ⟨m,_,e2,e3,_,e5,_⟩:=hI'.node j y hy;have h1:=kI (fun T hT=>(e3 T hT).pos) hk;have h2:y.2.ns.length=(ba y.1).length+1:=by rw [e2,cU]
   have h3:=(Rm.1 hy).1;simp only [lo] at h1;omega
  rw [ma,p9 _ _ _ _ (by rw [hL];simpa using hkj)];rcases dX hy with ⟨hj,hy'⟩|⟨rfl,rfl⟩
  ·rw [if_neg]
   ·have h1:=hP.kid j y hy' k hk;rw [RC (Rm.1 h1).1];exact h1
   ·intro hm;have:=hI'.one j h.length y (top,bD n top) hy (by simp) k hk hm;omega
  ·rw [if_pos hk]
 ·rw [dQ] at hk;rcases Rz.1 hk with hk|hk
  ·have h1:=kI hl hk;rw [ma,p9 _ _ _ _ (by rw [hL];omega),if_neg]
   ·have h2:=hP.root k (by rw [dQ];exact Si _ hk);rw [RC (Rm.1 h2).1];exact h2
   ·intro hm;have:=hkn k hm;omega
  ·simp only [aL,cU,Rd] at hk;have hkh:k=h.length:=by omega
   subst hkh;rw [ma,p9 _ _ _ _ (by rw [hL];omega),if_neg]
   ·rw [RM (by rw [hP.len];exact Rg _),hP.len];simp
   ·intro hm;have:=hkn _ hm;omega
structure Whole (L:List Nd) (S:STree) (h:iW):Prop where
 walk:fJ L [] []=(0,[S],h)
 ns:S.ns=L
 good:Good S
 inv:Inv L [S] h
 rootOk:RootOk [S] h
 parOk:ParOk [S] h
 pos:0<L.length
 last: ∃ top,h[L.length - 1]? =some (top,S)
theorem Kg {L:List Nd} {st:List STree} {h:iW} (hw:fJ L [] []=(0,st,h)): ∃ S,st= [S]∧Whole L S h:=by
 obtain ⟨S,rfl,h1,h2,h3⟩:=H4 hw;have h4:=oQ RootOk (fun dn n st h l top=>CC) L [] [] [] _ _ Inv.nil ⟨fun a S b hab=>(by simp at hab),fun j y hy=>(by simp at hy)⟩ hw;have h5:=oQ ParOk (fun dn n st h l top=>wu) L [] [] [] _ _ Inv.nil ⟨rfl,fun j y hy=>(by simp at hy),fun k hk=>(by simp [aL] at hk)⟩ hw;refine ⟨S,rfl,hw,h1,h2,h3,h4,h5,by rw [← h1];exact h2.pos,?_⟩;obtain ⟨top,h6⟩:=h4.root [] S [] rfl;rw [h1] at h6;simp only [ba,RN,Ta,Rv] at h6;exact ⟨top,h6⟩
theorem Ec {L:List Nd} (h:dM L=0):L.length≤256∧ ∃ S H,Whole L S H∧S.kind≠3∧jN L false=(0,kC H):=by
 have hsm:L.length≤256∧0<L.length∧(fu L L 0 [] []).1=0∧jm L (L.length - 1)≠3∧jN L false=(0,(fu L L 0 [] []).2):=by
  unfold dM at h;unfold jN at h ⊢;split at h
  ·cases h
  rename_i h1;split at h
  ·cases h
  rename_i h2;split at h
  ·rename_i h3;exact absurd h h3
  rename_i h3;split at h
  ·cases h
  rename_i h4;rw [if_neg h1,if_neg h2,if_neg h3,if_neg h4];exact ⟨by omega,by omega,by omega,fun e=>h4 ⟨rfl,e⟩,rfl⟩
 obtain ⟨h1,h2,h3,h4,h5⟩:=hsm;rw [BF] at h3 h5;dsimp only at h3 h5;have hw:fJ L [] []=(0,(fJ L [] []).2.1,(fJ L [] []).2.2):=by rw [← h3]
 obtain ⟨S,e,hW⟩:=Kg hw;refine ⟨h1,S,_,hW,?_,h5⟩;rw [STree.kind,hW.ns,Uj];exact h4
theorem Ir {n:Nd} {st l top:List STree} (hs:gW n st= .inr (l,top)):bB n=0∧(top.length:Int)=below n:=by
 unfold gW at hs;split at hs
 ·cases hs
 rename_i hf;split at hs
 ·cases hs
 rename_i hb;split at hs
 ·cases hs
 simp only [Sum.inr.injEq,Prod.mk.injEq] at hs;obtain ⟨rfl,rfl⟩:=hs;have hlk:(fL st (below n).toNat).length=min st.length (below n).toNat:=by simp [fL];omega
 have hb0:(0:Int)≤below n:=by
  have hk:fj n=true:=by
   cases hk:fj n
   ·exfalso;apply hf;intro h0;simp [bB,hk] at h0
   ·rfl
  unfold below;by_cases h7:n.kind=7
  ·simp [fj,h7] at hk;simp [h7];exact hk
  ·(repeat' split)<;>omega
 have hle: ¬ (st.length:Int)<below n:=fun h=>hb (Or.inl h);exact ⟨by omega,by omega⟩
def OH (h:iW):Prop:= ∀ (j:Nat) (y:List STree × STree),h[j]? =some y→ ∃ n,(y.1.length:Int)=below n∧y.2=bD n y.1∧bB n=0
theorem Whole.lens {L:List Nd} {S:STree} {h:iW} (hW:Whole L S h):OH h:=by
 refine oQ (fun _ h=>OH h) (fun dn n st h l top hI hP hs=> ?_) L [] [] [] [S] h ?_ ?_ hW.walk
 ·intro j y hy;by_cases hj:j<h.length
  ·rw [RC hj] at hy;exact hP j y hy
  ·rw [RM (by omega)] at hy;obtain ⟨h1,h2⟩:=Ir hs;have e:y=(top,bD n top):=by
    cases hq:j - h.length with
    |zero=>rw [hq] at hy;exact (Option.some.inj hy).symm
    |succ k=>rw [hq] at hy;simp at hy
   subst e;exact ⟨n,h2,rfl,h1⟩
 ·exact Inv.nil
 ·intro j y hy;simp at hy
def Fe (m:Nd):Prop:=m.kind=7∧46≤m.fn
theorem Nl {m:Nd} (hf:bB m=0) (hr:Fe m):below m=1:=by
 obtain ⟨h7,h46⟩:=hr;unfold bB at hf;split at hf
 ·cases hf
 rw [if_neg (show ¬ m.kind≠7 by omega)] at hf;split at hf
 ·rename_i h;exact absurd hf h
 rename_i ha;split at hf
 ·cases hf
 rename_i hn;have h50:m.fn≤50:=by
  by_cases h:m.fn≤50
  ·exact h
  ·exfalso;apply ha;have hk:cV m.fn=false:=by
    unfold cV;rw [decide_eq_true (show 1≤m.fn by omega),decide_eq_false h]
    rfl
   unfold fa;rw [hk,if_neg (by omega),if_neg (by omega),if_neg (by omega),if_neg (by omega),if_neg (by omega),if_neg (by omega)];decide
 have har:fa m.fn=(1,1,0):=by
  have:m.fn=46∨m.fn=47∨m.fn=48∨m.fn=49∨m.fn=50:=by omega
  rcases this with h|h|h|h|h<;>rw [h]<;>decide+kernel
 rw [har] at hn;dsimp only at hn;unfold below;rw [if_neg (by omega),if_neg (by omega),if_pos h7];omega
theorem FH {L:List Nd} {S:STree} {h:iW} (hW:Whole L S h) {i:Nat} (hi:i<L.length):
 ∃ u:Int,(kM h)[i]? =some u∧(u= -1∨ ∃ j:Nat,u=(j:Int)∧j<L.length)∧(∀ m,L[i+1]? =some m→Fe m→u=((i+1:Nat):Int))∧(∀ (j:Nat) m,u=(j:Int)→L[j]? =some m→Fe m→j=i+1):=by
 have hHl:=hW.inv.len;have key: ∀ j m,L[j]? =some m→Fe m→ ∃ y,h[j]? =some y∧0<j∧dG j y= [j - 1]:=by
  intro j m hm hr;have hj:j<L.length:=(Rm.1 hm).1;obtain ⟨y,hy⟩: ∃ y,h[j]? =some y:=⟨_,QU (by omega)⟩;obtain ⟨n,hn,e2,hgt,hgT,hTl,hseg⟩:=hW.inv.node j y hy;obtain ⟨n',hl',e2',hf'⟩:=hW.lens j y hy;have hnn:n' =n:=by
   rw [e2] at e2';have:=congrArg (fun T:STree=>T.ns.getLast?) e2';simpa [bD] using this.symm
  subst hnn;rw [hm] at hn;obtain rfl:=Option.some.inj hn;rw [Nl hf' hr] at hl';obtain ⟨T,hT⟩: ∃ T,y.1= [T]:=by
   match hq:y.1,hl' with
   | [T],_=>exact ⟨T,rfl⟩
   | [],h=>simp at h
   |_::_::_,h=>simp at h;omega
  have hlen:y.2.ns.length=T.ns.length+1:=by rw [e2,cU,hT];simp [ba]
  have hTp:0<T.ns.length:=(hgt T (by rw [hT];simp)).pos;refine ⟨y,hy,by omega,?_⟩;unfold dG lo;rw [hT];simp only [aL,List.cons.injEq,and_true];omega
 have hpk:=hW.parOk;have hup: ∃ u:Int,(kM h)[i]? =some u∧(u= -1∨ ∃ j:Nat,u=(j:Int)∧j<L.length∧ ∃ y,h[j]? =some y∧i∈dG j y):=by
  rcases hW.inv.up i (by omega) with hr|⟨j,y,hy,hk⟩
  ·exact ⟨-1,hpk.root i hr,.inl rfl⟩
  ·have hj:j<h.length:=(Rm.1 hy).1;exact ⟨(j:Int),hpk.kid j y hy i hk,.inr ⟨j,rfl,by omega,y,hy,hk⟩⟩
 obtain ⟨u,hu,hcase⟩:=hup;refine ⟨u,hu,?_,?_,?_⟩
 ·rcases hcase with h|⟨j,h1,h2,_⟩
  ·exact .inl h
  ·exact .inr ⟨j,h1,h2⟩
 ·intro m hm hr;obtain ⟨y,hy,_,hk⟩:=key (i+1) m hm hr;have:=hpk.kid (i+1) y hy i (by rw [hk];simp);rw [hu] at this;exact Option.some.inj this
 ·intro j m hj hm hr;rcases hcase with h|⟨j',h1,h2,y',hy',hk'⟩
  ·omega
  ·obtain rfl:j=j' :=by omega
   obtain ⟨y,hy,hp,hk⟩:=key j m hm hr;rw [hy'] at hy;obtain rfl:=Option.some.inj hy;rw [hk] at hk';have:=Rd.1 hk';omega
abbrev Nx:=List (List Nat)
def au (X:Nx) (i:Nat):List Nat:=(X[i]?).getD []
inductive Rch (X:Nx):Nat→Nat→Prop
 |refl (i:Nat):Rch X i i
 |step {i k j:Nat} (h:k∈au X i) (r:Rch X k j):Rch X i j
theorem Rch.one {X:Nx} {i k:Nat} (h:k∈au X i):Rch X i k:= .step h (.refl k)
theorem Rch.trans {X:Nx} {i k j:Nat} (h:Rch X i k) (r:Rch X k j):Rch X i j:=by
 induction h with
 |refl _=>exact r
 |step h _ ih=>exact .step h (ih r)
structure Tj where
 num:List Nat
 low:List Nat
 on:List Bool
 stk:List Nat
 out:List (List Nat)
 cnt:Nat
def Tj.n (S:Tj) (i:Nat):Nat:=(S.num[i]?).getD 0
def Tj.l (S:Tj) (i:Nat):Nat:=(S.low[i]?).getD 0
def Tj.o (S:Tj) (i:Nat):Bool:=(S.on[i]?).getD false
theorem jF {α:Type} (L:List α) (i j:Nat) (x d:α):((L.set i x)[j]?).getD d=if i=j∧i<L.length then x else (L[j]?).getD d:=by
 rw [Uc];by_cases h:i=j
 ·subst h;by_cases h2:i<L.length
  ·simp [h2]
  ·simp [h2]
 ·simp [h]
structure TjOk (X:Nx) (S:Tj):Prop where
 ln:S.num.length=X.length
 ll:S.low.length=X.length
 lo:S.on.length=X.length
 le: ∀ i,S.n i≤S.cnt
 stk:S.stk.Pairwise fun a b=>S.n a<S.n b
 lt: ∀ v∈S.stk,v<X.length
 vis: ∀ v∈S.stk,S.n v≠0
 on: ∀ v,v<X.length→(S.o v=true↔v∈S.stk)
 cls: ∀ v,S.n v≠0→v∉S.stk→ ∀ u∈au X v,S.n u≠0∧u∉S.stk
 prt: ∀ v,(∃ p∈S.out,v∈p)↔(S.n v≠0∧v∉S.stk)
 scc: ∀ p∈S.out,p≠ []∧p.Pairwise (· < ·)∧ ∀ v∈p,∀ u,u∈p↔(Rch X v u∧Rch X u v)
 dis:S.out.Pairwise fun p q=> ∀ v∈p,v∉q
theorem TjOk.nlt {X:Nx} {S:Tj} (h:TjOk X S) {v:Nat} (hv:S.n v≠0):v<X.length:=by
 by_cases hl:v<S.num.length
 ·rw [← h.ln];exact hl
 ·exact absurd (by unfold Tj.n;rw [Ry (Nat.le_of_not_lt hl)];rfl) hv
structure Entd (X:Nx) (S:Tj) (i:Nat) (S' :Tj) (ex:List Nat):Prop where
 ok:TjOk X S'
 stk:S'.stk=S.stk++ex
 n_old: ∀ v,S.n v≠0→S'.n v=S.n v
 l_old: ∀ v,S.n v≠0→S'.l v=S.l v
 cnt:S.cnt≤S'.cnt
 new:S'.n i≠0
 newer: ∀ v,S.n v=0→S'.n v≠0→S.cnt<S'.n v
 fresh: ∀ v∈ex,S.n v=0
 rc: ∀ v∈ex,Rch X i v
 lw: ∀ v∈ex,S'.l v<S'.n v∧S'.l i≤S'.l v∧ ∃ u∈S'.stk,S'.n u=S'.l v∧Rch X v u
 sc: ∀ v∈ex,∀ u∈au X v,S'.n u≠0∧(u∈S'.stk→S'.l i≤S'.n u)
 alt:i∈ex∨(ex= []∧S'.l i=S'.n i)
structure Lp (X:Nx) (S0:Tj) (i:Nat) (S:Tj) (ex dn:List Nat):Prop where
 ok:TjOk X S
 stk:S.stk=S0.stk++i::ex
 n_old: ∀ v,S0.n v≠0→S.n v=S0.n v
 l_old: ∀ v,S0.n v≠0→S.l v=S0.l v
 cnt:S0.cnt≤S.cnt
 newer: ∀ v,S0.n v=0→S.n v≠0→S0.cnt<S.n v
 fresh: ∀ v∈i::ex,S0.n v=0
 rc: ∀ v∈ex,Rch X i v
 lw: ∀ v∈ex,S.l v<S.n v∧S.l i≤S.l v∧ ∃ u∈S.stk,S.n u=S.l v∧Rch X v u
 sc: ∀ v∈ex,∀ u∈au X v,S.n u≠0∧(u∈S.stk→S.l i≤S.n u)
 li:S.l i≤S.n i∧ ∃ u∈S.stk,S.n u=S.l i∧Rch X i u
 dn: ∀ u∈dn,S.n u≠0∧(u∈S.stk→S.l i≤S.n u)
section
variable {X:Nx} {S0 S:Tj} {i:Nat} {ex dn:List Nat}
theorem Lp.mem (h:Lp X S0 i S ex dn):i∈S.stk:=by rw [h.stk];simp
theorem Lp.ni (h:Lp X S0 i S ex dn):S.n i≠0:=h.ok.vis _ h.mem
theorem Lp.ilt (h:Lp X S0 i S ex dn):i<X.length:=h.ok.lt _ h.mem
theorem Lp.ex_ne (h:Lp X S0 i S ex dn) {v:Nat} (hv:v∈ex):S.n i<S.n v:=by
 have h1:=h.ok.stk;rw [h.stk,SX] at h1;exact (SJ.1 h1.2.1).1 v hv
theorem Lp.old_lt (h:Lp X S0 i S ex dn) {v:Nat} (hv:v∈S0.stk):S.n v<S.n i:=by
 have h1:=h.ok.stk;rw [h.stk,SX] at h1;exact h1.2.2 v hv i (QY ..)
def Tj.start (S:Tj) (i:Nat):Tj:=⟨S.num.set i (S.cnt+1),S.low.set i (S.cnt+1),S.on.set i true,S.stk++ [i],S.out,S.cnt+1⟩
def Tj.setLow (S:Tj) (i x:Nat):Tj:=⟨S.num,S.low.set i x,S.on,S.stk,S.out,S.cnt⟩
theorem Nb (hk:i<S.num.length) (v:Nat):(S.start i).n v=if i=v then S.cnt+1 else S.n v:=by
 unfold Tj.n Tj.start;dsimp only;rw [jF];simp [hk]
theorem Nc (hk:i<S.low.length) (v:Nat):(S.start i).l v=if i=v then S.cnt+1 else S.l v:=by
 unfold Tj.l Tj.start;dsimp only;rw [jF];simp [hk]
theorem GZ (hk:i<S.on.length) (v:Nat):(S.start i).o v=if i=v then true else S.o v:=by
 unfold Tj.o Tj.start;dsimp only;rw [jF];simp [hk]
theorem eF (x v:Nat):(S.setLow i x).n v=S.n v:=rfl
theorem Ct (hk:i<S.low.length) (x v:Nat):(S.setLow i x).l v=if i=v then x else S.l v:=by
 unfold Tj.l Tj.setLow;dsimp only;rw [jF];simp [hk]
theorem TjOk.setLow (h:TjOk X S) (x:Nat):TjOk X (S.setLow i x):=
 ⟨h.ln,by rw [← h.ll];exact Su,h.lo,h.le,h.stk,h.lt,h.vis,h.on,h.cls,h.prt,h.scc,h.dis⟩
theorem Ls (h:TjOk X S) (hi:i<X.length) (h0:S.n i=0):Lp X S i (S.start i) [] []:=by
 have hn:=Nb (S:=S) (i:=i) (by rw [h.ln];exact hi);have hl:=Nc (S:=S) (i:=i) (by rw [h.ll];exact hi);have ho:=GZ (S:=S) (i:=i) (by rw [h.lo];exact hi);have hns:i∉S.stk:=fun hm=>h.vis i hm h0;have hmem: ∀ v,v∈(S.start i).stk↔v∈S.stk∨v=i:=fun v=>by
  show v∈S.stk++ [i]↔_;rw [Rz,Rd]
 refine ⟨⟨?_,?_,?_,?_,?_,?_,?_,?_,?_,?_,h.scc,h.dis⟩,rfl,?_,?_,TP _,?_,?_,?_,?_,?_,?_,?_⟩
 ·show (S.num.set i _).length=_;rw [Su,h.ln]
 ·show (S.low.set i _).length=_;rw [Su,h.ll]
 ·show (S.on.set i _).length=_;rw [Su,h.lo]
 ·intro v;rw [hn];split
  ·exact Rg _
  ·exact Ua (h.le v)
 ·show (S.stk++ [i]).Pairwise _;rw [SX];refine ⟨h.stk.imp_of_mem fun ha hb hab=> ?_,List.pairwise_singleton _ _,fun a ha b hb=> ?_⟩
  ·rename_i a b;rw [hn,hn,if_neg (fun (e:i=a)=>hns (e ▸ ha)),if_neg (fun (e:i=b)=>hns (e ▸ hb))];exact hab
  ·rw [Rd.1 hb,hn,hn,if_neg (fun (e:i=a)=>hns (e ▸ ha)),if_pos rfl];exact Nat.lt_succ_of_le (h.le a)
 ·intro v hv;rcases (hmem v).1 hv with hv|rfl
  ·exact h.lt v hv
  ·exact hi
 ·intro v hv;rw [hn];rcases (hmem v).1 hv with hv|rfl
  ·split
   ·exact Nat.succ_ne_zero _
   ·exact h.vis v hv
  ·rw [if_pos rfl];exact Nat.succ_ne_zero _
 ·intro v hv;rw [ho,hmem];by_cases e:i=v
  ·rw [if_pos e];exact ⟨fun _=> .inr e.symm,fun _=>rfl⟩
  ·rw [if_neg e,h.on v hv];exact ⟨.inl,fun hh=>hh.resolve_right fun e' =>e e'.symm⟩
 ·intro v hv hs u hu;rw [hmem] at hs;have hne: ¬ i=v:=fun e=>hs (.inr e.symm);rw [hn,if_neg hne] at hv;obtain ⟨h1,h2⟩:=h.cls v hv (fun hh=>hs (.inl hh)) u hu;have hui: ¬ i=u:=fun e=>h1 (e ▸ h0);rw [hn,if_neg hui,hmem];exact ⟨h1,fun hh=>hh.elim h2 fun e=>hui e.symm⟩
 ·intro v;show (∃ p∈S.out,v∈p)↔_;rw [h.prt,hn,hmem];by_cases e:i=v
  ·subst e;rw [if_pos rfl];exact ⟨fun hh=>absurd h0 hh.1,fun hh=>absurd (.inr rfl) hh.2⟩
  ·rw [if_neg e];exact ⟨fun hh=>⟨hh.1,fun hm=>hm.elim hh.2 fun e' =>e e'.symm⟩,fun hh=>⟨hh.1,fun hm=>hh.2 (.inl hm)⟩⟩
 ·intro v hv;rw [hn,if_neg (fun (e:i=v)=>hv (e ▸ h0))]
 ·intro v hv;rw [hl,if_neg (fun (e:i=v)=>hv (e ▸ h0))]
 ·intro v hv hv2;rw [hn] at hv2 ⊢;by_cases e:i=v
  ·rw [if_pos e];exact Tz _
  ·rw [if_neg e] at hv2;exact absurd hv hv2
 ·intro v hv;rw [Rd.1 hv];exact h0
 ·intro v hv;cases hv
 ·intro v hv;cases hv
 ·intro v hv;cases hv
 ·rw [hl,hn,if_pos rfl,if_pos rfl];exact ⟨Rg _,i,(hmem i).2 (.inr rfl),by rw [hn,if_pos rfl],.refl i⟩
 ·intro v hv;cases hv
theorem Lt {k:Nat} {S1:Tj} {ex1:List Nat} (h:Lp X S0 i S ex dn) (hk:k∈au X i) (h0:S.n k=0) (e:Entd X S k S1 ex1):
 Lp X S0 i (S1.setLow i (min (S1.l i) (S1.l k))) (ex++ex1) (dn++ [k]):=by
 have hni:=h.ni;have hil:=h.ilt;have hl:=Ct (S:=S1) (i:=i) (by rw [e.ok.ll];exact hil) (min (S1.l i) (S1.l k));have hmin1:min (S1.l i) (S1.l k)≤S.l i:=by rw [e.l_old i hni];exact Nat.min_le_left _ _
 have hmin2:min (S1.l i) (S1.l k)≤S1.l k:=Nat.min_le_right _ _;have hne: ∀ v,S.n v≠0→v∉ex1:=fun v hv hm=>hv (e.fresh v hm);have hstk: ∀ u,u∈S1.stk↔u∈S.stk∨u∈ex1:=fun u=>by rw [e.stk,Rz]
 have n0: ∀ v,S0.n v≠0→S.n v≠0:=fun v hv=>by rw [h.n_old v hv];exact hv
 have hexi: ∀ v∈ex,¬ i=v:=fun v hv e' =>by
  have:=h.ex_ne hv;rw [e'] at this;exact SS _ this
 have hex1i: ∀ v∈ex1,¬ i=v:=fun v hv e' =>hni (e' ▸ e.fresh v hv);have hexn: ∀ v∈ex,S.n v≠0:=fun v hv=>h.ok.vis v (by rw [h.stk];simp [hv]);refine ⟨e.ok.setLow _,?_,?_,?_,RD h.cnt e.cnt,?_,?_,?_,?_,?_,?_,?_⟩
 ·show S1.stk=_;rw [e.stk,h.stk];simp
 ·intro v hv;rw [eF,e.n_old v (n0 v hv),h.n_old v hv]
 ·intro v hv;rw [hl,if_neg,e.l_old v (n0 v hv),h.l_old v hv];intro e';exact hv (e' ▸ h.fresh i (QY ..))
 ·intro v hv hv1;rw [eF] at hv1 ⊢;by_cases hs:S.n v=0
  ·exact Nat.lt_of_le_of_lt h.cnt (e.newer v hs hv1)
  ·rw [e.n_old v hs];exact h.newer v hv hs
 ·intro v hv;rcases RF.1 hv with rfl|hv
  ·exact h.fresh _ (QY ..)
  ·rcases Rz.1 hv with hv|hv
   ·exact h.fresh v (Rh _ hv)
   ·have:=e.fresh v hv;by_cases hz:S0.n v=0
    ·exact hz
    ·exact absurd this (n0 v hz)
 ·intro v hv;rcases Rz.1 hv with hv|hv
  ·exact h.rc v hv
  ·exact .step hk (e.rc v hv)
 ·intro v hv;rw [eF,hl,hl,if_pos rfl];rcases Rz.1 hv with hv|hv
  ·rw [if_neg (hexi v hv),e.l_old v (hexn v hv),e.n_old v (hexn v hv)];obtain ⟨h1,h2,u,h3,h4,h5⟩:=h.lw v hv;exact ⟨h1,RD hmin1 h2,u,(hstk u).2 (.inl h3),by rw [eF,e.n_old u (h.ok.vis u h3)];exact h4,h5⟩
  ·rw [if_neg (hex1i v hv)];obtain ⟨h1,h2,u,h3,h4,h5⟩:=e.lw v hv;exact ⟨h1,RD hmin2 h2,u,h3,h4,h5⟩
 ·intro v hv u hu;rw [eF,hl,if_pos rfl];rcases Rz.1 hv with hv|hv
  ·obtain ⟨h1,h2⟩:=h.sc v hv u hu;rw [e.n_old u h1];exact ⟨h1,fun hm=>RD hmin1 (h2 (((hstk u).1 hm).resolve_right (hne u h1)))⟩
  ·obtain ⟨h1,h2⟩:=e.sc v hv u hu;exact ⟨h1,fun hm=>RD hmin2 (h2 hm)⟩
 ·rw [hl,if_pos rfl,eF,e.n_old i hni];refine ⟨RD hmin1 h.li.1,?_⟩;obtain ⟨u,h3,h4,h5⟩:=h.li.2;by_cases hm:min (S1.l i) (S1.l k)=S.l i
  ·exact ⟨u,(hstk u).2 (.inl h3),by rw [eF,e.n_old u (h.ok.vis u h3),h4,hm],h5⟩
  ·have hm' :min (S1.l i) (S1.l k)=S1.l k:=by
    rw [e.l_old i hni] at hm ⊢;omega
   rcases e.alt with ha|⟨ha1,ha2⟩
   ·obtain ⟨_,_,u,h3,h4,h5⟩:=e.lw k ha;exact ⟨u,h3,by rw [hm'];exact h4,.step hk h5⟩
   ·have h6:=e.newer k h0 e.new;have h7:=h.li.1;have h8:=h.ok.le i;rw [e.l_old i hni,ha2] at hm;omega
 ·intro u hu;rw [eF,hl,if_pos rfl];rcases Rz.1 hu with hu|hu
  ·obtain ⟨h1,h2⟩:=h.dn u hu;rw [e.n_old u h1];exact ⟨h1,fun hm=>RD hmin1 (h2 (((hstk u).1 hm).resolve_right (hne u h1)))⟩
  ·rw [Rd.1 hu];refine ⟨e.new,fun hm=> ?_⟩;rcases e.alt with ha|⟨ha1,ha2⟩
   ·have:=(e.lw k ha).1;omega
   ·omega
theorem Qw {k:Nat} (h:Lp X S0 i S ex dn) (hk:k∈au X i) (hs:k∈S.stk):
 Lp X S0 i (S.setLow i (min (S.l i) (S.n k))) ex (dn++ [k]):=by
 have hni:=h.ni;have hil:=h.ilt;have hl:=Ct (S:=S) (i:=i) (by rw [h.ok.ll];exact hil) (min (S.l i) (S.n k));have hmin1:min (S.l i) (S.n k)≤S.l i:=Nat.min_le_left _ _;have hexi: ∀ v∈ex,¬ i=v:=fun v hv e' =>by
  have:=h.ex_ne hv;rw [e'] at this;exact SS _ this
 refine ⟨h.ok.setLow _,h.stk,h.n_old,?_,h.cnt,h.newer,h.fresh,h.rc,?_,?_,?_,?_⟩
 ·intro v hv;rw [hl,if_neg,h.l_old v hv];intro e';exact hv (e' ▸ h.fresh i (QY ..))
 ·intro v hv;rw [eF,hl,hl,if_pos rfl,if_neg (hexi v hv)];obtain ⟨h1,h2,u,h3,h4,h5⟩:=h.lw v hv;exact ⟨h1,RD hmin1 h2,u,h3,h4,h5⟩
 ·intro v hv u hu;rw [eF,hl,if_pos rfl];obtain ⟨h1,h2⟩:=h.sc v hv u hu;exact ⟨h1,fun hm=>RD hmin1 (h2 hm)⟩
 ·rw [hl,if_pos rfl,eF];refine ⟨RD hmin1 h.li.1,?_⟩;by_cases hm:min (S.l i) (S.n k)=S.l i
  ·obtain ⟨u,h3,h4,h5⟩:=h.li.2;exact ⟨u,h3,by rw [eF,h4,hm],h5⟩
  ·exact ⟨k,hs,by rw [eF];omega,.one hk⟩
 ·intro u hu;rw [eF,hl,if_pos rfl];rcases Rz.1 hu with hu|hu
  ·obtain ⟨h1,h2⟩:=h.dn u hu;exact ⟨h1,fun hm=>RD hmin1 (h2 hm)⟩
  ·rw [Rd.1 hu];exact ⟨h.ok.vis k hs,fun _=>Nat.min_le_right _ _⟩
theorem PF {k:Nat} (h:Lp X S0 i S ex dn) (hv:S.n k≠0) (hs:k∉S.stk):Lp X S0 i S ex (dn++ [k]):=
 ⟨h.ok,h.stk,h.n_old,h.l_old,h.cnt,h.newer,h.fresh,h.rc,h.lw,h.sc,h.li,fun u hu=>by
  rcases Rz.1 hu with hu|hu
  ·exact h.dn u hu
  ·rw [Rd.1 hu];exact ⟨hv,fun hm=>absurd hm hs⟩⟩
theorem NC (h:Lp X S0 i S ex (au X i)) (hne:S.l i≠S.n i):Entd X S0 i S (i::ex):=by
 refine ⟨h.ok,h.stk,h.n_old,h.l_old,h.cnt,h.ni,h.newer,h.fresh,?_,?_,?_,.inl (QY ..)⟩
 ·intro v hv;rcases RF.1 hv with rfl|hv
  ·exact .refl _
  ·exact h.rc v hv
 ·intro v hv;rcases RF.1 hv with rfl|hv
  ·obtain ⟨h1,u,h2,h3,h4⟩:=h.li;exact ⟨by omega,Rg _,u,h2,h3,h4⟩
  ·exact h.lw v hv
 ·intro v hv u hu;rcases RF.1 hv with rfl|hv
  ·exact h.dn u hu
  ·exact h.sc v hv u hu
theorem Hm (h:Lp X S0 i S ex dn) (he:S.l i=S.n i): ∀ (m v:Nat),S.n v≤m→v∈i::ex→Rch X v i
 |m,v,hm,hv=>by
  rcases RF.1 hv with rfl|hv
  ·exact .refl _
  ·obtain ⟨h1,h2,u,h3,h4,h5⟩:=h.lw v hv;have hu:u∈i::ex:=by
    rw [h.stk] at h3;rcases Rz.1 h3 with h6|h6
    ·have:=h.old_lt h6;omega
    ·exact h6
   match m,hm with
   |0,hm=>omega
   |m+1,hm=>exact h5.trans (Hm h he m u (by omega) hu)
theorem Rch.closed {C:Nat→Prop} (hc: ∀ v,C v→ ∀ u∈au X v,C u) {v u:Nat} (r:Rch X v u) (hv:C v):C u:=by
 induction r with
 |refl _=>exact hv
 |step h _ ih=>exact ih (hc _ hv _ h)
def Tj.pop (S S0:Tj) (on' :List Bool) (part:List Nat):Tj:=⟨S.num,S.low,on',S0.stk,S.out++ [part],S.cnt⟩
theorem PE (h:Lp X S0 i S ex (au X i)) (he:S.l i=S.n i) {on' :List Bool} {part:List Nat} (hol:on'.length=X.length) (ho: ∀ v,v<X.length→((on'[v]?).getD false=true↔(S.o v=true∧v∉i::ex)))
 (hp:part.Perm (i::ex)) (hps:part.Pairwise (· ≤ ·)):Entd X S0 i (S.pop S0 on' part) []:=by
 have hmp: ∀ v,v∈part↔v∈i::ex:=fun v=>hp.mem_iff;have hst: ∀ v,v∈S.stk↔v∈S0.stk∨v∈i::ex:=fun v=>by rw [h.stk,Rz]
 have hdj: ∀ v∈S0.stk,v∉i::ex:=fun v hv hm=>by
  have h1:=h.old_lt hv;rcases RF.1 hm with rfl|hm
  ·exact SS _ h1
  ·have:=h.ex_ne hm;omega
 have hsuc: ∀ v∈i::ex,∀ u∈au X v,S.n u≠0∧u∉S0.stk:=fun v hv u hu=>by
  have h1:S.n u≠0∧(u∈S.stk→S.l i≤S.n u):=by
   rcases RF.1 hv with rfl|hv
   ·exact h.dn u hu
   ·exact h.sc v hv u hu
  refine ⟨h1.1,fun hm=> ?_⟩;have h2:=h1.2 ((hst u).2 (.inl hm));have h3:=h.old_lt hm;omega
 have hcl: ∀ v,(S.n v≠0∧v∉S0.stk)→ ∀ u∈au X v,S.n u≠0∧u∉S0.stk:=fun v hv u hu=>by
  by_cases hm:v∈i::ex
  ·exact hsuc v hm u hu
  ·obtain ⟨h1,h2⟩:=h.ok.cls v hv.1 (fun hh=>((hst v).1 hh).elim hv.2 hm) u hu;exact ⟨h1,fun hh=>h2 ((hst u).2 (.inl hh))⟩
 have hcs: ∀ v,(S.n v≠0∧v∉S.stk)→ ∀ u∈au X v,S.n u≠0∧u∉S.stk:=fun v hv=>h.ok.cls v hv.1 hv.2;have hvis: ∀ v∈i::ex,S.n v≠0:=fun v hv=>h.ok.vis v ((hst v).2 (.inr hv));have hnd:part.Pairwise (· < ·):=by
  have h1:(i::ex).Nodup:=by
   have h2:=h.ok.stk;rw [h.stk,SX] at h2;exact h2.2.1.imp fun hab e=>by rw [e] at hab;exact SS _ hab
  have h3:part.Nodup:=hp.nodup_iff.2 h1;exact (UB.2 ⟨hps,h3⟩).imp fun ⟨h4,h5⟩=>UL h4 h5
 refine ⟨⟨h.ok.ln,h.ok.ll,hol,h.ok.le,?_,?_,?_,?_,?_,?_,?_,?_⟩,(Rc _).symm,h.n_old,h.l_old,h.cnt,h.ni,h.newer,?_,?_,?_,?_,.inr ⟨rfl,he⟩⟩
 ·have h2:=h.ok.stk;rw [h.stk,SX] at h2;exact h2.1
 ·exact fun v hv=>h.ok.lt v ((hst v).2 (.inl hv))
 ·exact fun v hv=>h.ok.vis v ((hst v).2 (.inl hv))
 ·intro v hv;show (on'[v]?).getD false=true↔v∈S0.stk;rw [ho v hv,h.ok.on v hv,hst];exact ⟨fun hh=>hh.1.resolve_right hh.2,fun hh=>⟨.inl hh,hdj v hh⟩⟩
 ·exact fun v hv hs u hu=>hcl v ⟨hv,hs⟩ u hu
 ·intro v;show (∃ p∈S.out++ [part],v∈p)↔(S.n v≠0∧v∉S0.stk);constructor
  ·rintro ⟨p,hpm,hv⟩;rcases Rz.1 hpm with hpm|hpm
   ·obtain ⟨h1,h2⟩:=(h.ok.prt v).1 ⟨p,hpm,hv⟩;exact ⟨h1,fun hh=>h2 ((hst v).2 (.inl hh))⟩
   ·rw [Rd.1 hpm] at hv;have hv:=(hmp v).1 hv;exact ⟨hvis v hv,fun hh=>hdj v hh hv⟩
  ·rintro ⟨h1,h2⟩;by_cases hm:v∈i::ex
   ·exact ⟨part,Sj _ (Rd.2 rfl),(hmp v).2 hm⟩
   ·obtain ⟨p,hpm,hv⟩:=(h.ok.prt v).2 ⟨h1,fun hh=>((hst v).1 hh).elim h2 hm⟩;exact ⟨p,Si _ hpm,hv⟩
 ·intro p hpm;rcases Rz.1 hpm with hpm|hpm
  ·exact h.ok.scc p hpm
  ·rw [Rd.1 hpm];refine ⟨fun e=> ?_,hnd,fun v hv u=> ?_⟩
   ·have:=(hmp i).2 (QY ..);rw [e] at this;cases this
   ·have hv:=(hmp v).1 hv;have hfrom: ∀ x∈i::ex,Rch X i x:=fun x hx=>by
     rcases RF.1 hx with rfl|hx
     ·exact .refl _
     ·exact h.rc x hx
    have hback: ∀ x∈i::ex,Rch X x i:=fun x hx=>Hm h he _ x (Rg _) hx;rw [hmp];constructor
    ·exact fun hu=>⟨(hback v hv).trans (hfrom u hu),(hback u hu).trans (hfrom v hv)⟩
    ·rintro ⟨h1,h2⟩;have h3:=h1.closed hcl ⟨hvis v hv,fun hh=>hdj v hh hv⟩;by_cases hm:u∈i::ex
     ·exact hm
     ·have h4:=h2.closed hcs ⟨h3.1,fun hh=>((hst u).1 hh).elim h3.2 hm⟩;exact absurd ((hst v).2 (.inr hv)) h4.2
 ·show (S.out++ [part]).Pairwise _;rw [SX];refine ⟨h.ok.dis,List.pairwise_singleton _ _,fun p hpm q hq v hv hvq=> ?_⟩;rw [Rd.1 hq] at hvq;have h1:=(h.ok.prt v).1 ⟨p,hpm,hv⟩;exact h1.2 ((hst v).2 (.inr ((hmp v).1 hvq)))
 ·intro v hv;cases hv
 ·intro v hv;cases hv
 ·intro v hv;cases hv
 ·intro v hv;cases hv
theorem F7 {S1:Tj} (h:Entd X S i S1 ex) (h0:S.stk= []):ex= []:=by
 have hs:S1.stk=ex:=by rw [h.stk,h0];rfl
 have hno: ∀ (m v:Nat),S1.n v≤m→v∉ex:=by
  intro m
  induction m with
  |zero=>exact fun v hm hv=>by have:=(h.lw v hv).1;omega
  |succ m ih=>
   intro v hm hv;obtain ⟨h1,_,u,h3,h4,_⟩:=h.lw v hv;exact ih u (by omega) (hs ▸ h3)
 rcases h.alt with ha|ha
 ·exact absurd ha (hno _ i (Rg _))
 ·exact ha.1
end
def onC (X:Nx) (v:Nat):Prop:= ∃ k∈au X v,Rch X k v
def eZ (X:Nx) (p:List Nat):List Nat:=if 1<p.length∨(p[0]?).getD 0∈au X ((p[0]?).getD 0) then p else []
theorem FK: ∀ {p:List Nat} {v:Nat},¬ 1<p.length→v∈p→p= [v]
 | [],_,_,hv=>by cases hv
 | [a],_,_,hv=>by rw [Rd.1 hv]
 |a::b::l,_,hl,_=>absurd (by simp only [Rk];omega) hl
structure TjEnd (X:Nx) (O:List (List Nat)):Prop where
 prt: ∀ v,v<X.length→ ∃ p∈O,v∈p
 lt: ∀ p∈O,∀ v∈p,v<X.length
 scc: ∀ p∈O,p≠ []∧p.Pairwise (· < ·)∧ ∀ v∈p,∀ u,u∈p↔(Rch X v u∧Rch X u v)
 dis:O.Pairwise fun p q=> ∀ v∈p,v∉q
theorem TjOk.fin {X:Nx} {S:Tj} (h:TjOk X S) (h0:S.stk= []) (hv: ∀ v,v<X.length→S.n v≠0):TjEnd X S.out:=
 ⟨fun v hl=>(h.prt v).2 ⟨hv v hl,by rw [h0];exact TK⟩,fun p hp v hm=>h.nlt ((h.prt v).1 ⟨p,hp,hm⟩).1,h.scc,h.dis⟩
theorem L6 {p q:List Nat} (h: ∀ v∈p,v∉q): ∀ v∈q,v∉p:=fun v hq hp=>h v hp hq
theorem TjEnd.perm {X:Nx} {O P:List (List Nat)} (h:TjEnd X O) (hp:P.Perm O):TjEnd X P:=
 ⟨fun v hl=>by obtain ⟨p,h1,h2⟩:=h.prt v hl;exact ⟨p,hp.mem_iff.2 h1,h2⟩,fun p hm=>h.lt p (hp.mem_iff.1 hm),fun p hm=>h.scc p (hp.mem_iff.1 hm),(hp.pairwise_iff fun h=>L6 h).2 h.dis⟩
theorem TjEnd.loop {X:Nx} {O:List (List Nat)} (h:TjEnd X O) {v:Nat}:v∈O.flatMap (eZ X)↔v<X.length∧onC X v:=by
 rw [TX];constructor
 ·rintro ⟨p,hp,hv⟩;unfold eZ at hv;split at hv
  ·rename_i hc;obtain ⟨hne,hs,hm⟩:=h.scc p hp;refine ⟨h.lt p hp v hv,?_⟩;have h2:1<p.length∨((p[0]?).getD 0=v∧v∈au X v):=by
    by_cases hl:1<p.length
    ·exact .inl hl
    ·have hc:=hc.resolve_left hl;have h1:p= [v]:=FK hl hv;rw [h1] at hc;exact .inr ⟨by rw [h1];rfl,hc⟩
   rcases h2 with hl|⟨_,h2⟩
   ·obtain ⟨u,hu,hne⟩: ∃ u∈p,u≠v:=by
     match p,hl,hs with
     |a::b::_,_,hs=>
      have hab:a<b:=(SJ.1 hs).1 b (QY ..);by_cases e:a=v
      ·exact ⟨b,by simp,by omega⟩
      ·exact ⟨a,by simp,e⟩
    obtain ⟨h1,h2⟩:=(hm v hv u).1 hu
    cases h1 with
    |refl _=>exact absurd rfl hne
    |step hk r=>exact ⟨_,hk,r.trans h2⟩
   ·exact ⟨v,h2,.refl v⟩
  ·cases hv
 ·rintro ⟨hl,k,hk,r⟩;obtain ⟨p,hp,hv⟩:=h.prt v hl;obtain ⟨hne,hs,hm⟩:=h.scc p hp;have hkp:k∈p:=(hm v hv k).2 ⟨.one hk,r⟩;refine ⟨p,hp,?_⟩;unfold eZ;rw [if_pos]
  ·exact hv
  by_cases hl:1<p.length
  ·exact .inl hl
  ·have h1:p= [v]:=FK hl hv;rw [h1] at hkp ⊢;rw [Rd.1 hkp] at hk;exact .inr hk
theorem y7 {X:Nx} {p:List Nat} {v:Nat} (h:v∈eZ X p):v∈p:=by
 unfold eZ at h;split at h
 ·exact h
 ·cases h
theorem TjEnd.nodup {X:Nx} {O:List (List Nat)} (h:TjEnd X O):(O.flatMap (eZ X)).Nodup:=by
 have hs: ∀ p∈O,p.Nodup:=fun p hp=>(h.scc p hp).2.1.imp fun hab e=>by rw [e] at hab;exact SS _ hab
 have hd:=h.dis;clear h
 induction O with
 |nil=>exact TY
 |cons p O ih=>
  rw [Rl];rw [SJ] at hd;refine TS.2 ⟨?_,ih (fun q hq=>hs q (Rh _ hq)) hd.2,fun a ha b hb e=> ?_⟩
  ·unfold eZ;split
   ·exact hs p (QY ..)
   ·exact TY
  ·obtain ⟨q,hq,hbq⟩:=TX.1 hb;rw [← e] at hbq;exact hd.1 q hq a (y7 ha) (y7 hbq)
def l5 (f:Nat→Nat) (i j k:Nat):Nat:=if k=i then f j else if k=j then f i else f k
def HpF (f:Nat→Nat) (n:Nat):Prop:= ∀ i,0<i→i<n→f ((i - 1) / 2)≤f i
structure UpH (f:Nat→Nat) (n j:Nat):Prop where
 a: ∀ i,0<i→i<n→i≠j→f ((i - 1) / 2)≤f i
 b:0<j→ ∀ i,0<i→i<n→(i - 1) / 2=j→f ((j - 1) / 2)≤f i
structure DnH (f:Nat→Nat) (n i:Nat):Prop where
 a: ∀ c,0<c→c<n→(c - 1) / 2≠i→f ((c - 1) / 2)≤f c
 b:0<i→ ∀ c,0<c→c<n→(c - 1) / 2=i→f ((i - 1) / 2)≤f c
theorem UpH.done {f:Nat→Nat} {n j:Nat} (h:UpH f n j) (he:j=0∨f ((j - 1) / 2)≤f j):HpF f n:=fun i h0 hn=>by
 by_cases hij:i=j
 ·subst hij;omega
 ·exact h.a i h0 hn hij
theorem UpH.step {f:Nat→Nat} {n j:Nat} (h:UpH f n j) (hj:0<j) (hjn:j<n) (hl:f j<f ((j - 1) / 2)):UpH (l5 f ((j - 1) / 2) j) n ((j - 1) / 2):=by
 have hp:(j - 1) / 2<j:=by omega
 generalize hpe:(j - 1) / 2=p at*;refine ⟨fun i h0 hn hip=> ?_,fun h0p i h0 hn hi=> ?_⟩
 ·have ha:=h.a i h0 hn;have hb:=h.b hj i h0 hn;have hq:(i - 1) / 2<i:=by omega
  unfold l5;by_cases hij:i=j
  ·subst hij;rw [hpe,if_pos rfl,if_neg (by omega),if_pos rfl];omega
  ·have ha' :=ha hij;rw [if_neg hip,if_neg hij];by_cases hqp:(i - 1) / 2=p
   ·rw [if_pos hqp];rw [hqp] at ha';omega
   ·rw [if_neg hqp];by_cases hqj:(i - 1) / 2=j
    ·rw [if_pos hqj];rw [hpe] at hb;exact hb hqj
    ·rw [if_neg hqj];exact ha'
 ·have hap:=h.a p h0p (by omega) (by omega);unfold l5;rw [if_neg (by omega),if_neg (by omega),if_neg (by omega)];by_cases hij:i=j
  ·rw [if_pos hij];exact hap
  ·rw [if_neg hij];have:=h.a i h0 hn hij;rw [hi] at this;omega
theorem DnH.done {f:Nat→Nat} {n i:Nat} (h:DnH f n i) (he: ∀ c,0<c→c<n→(c - 1) / 2=i→f i≤f c):HpF f n:=fun c h0 hn=>by
 by_cases hc:(c - 1) / 2=i
 ·rw [hc];exact he c h0 hn hc
 ·exact h.a c h0 hn hc
theorem DnH.step {f:Nat→Nat} {n i j:Nat} (h:DnH f n i) (hj:0<j) (hjn:j<n) (hp:(j - 1) / 2=i) (hmin: ∀ c,0<c→c<n→(c - 1) / 2=i→f j≤f c) (hl:f j<f i):DnH (l5 f i j) n j:=by
 have hij:i<j:=by omega
 refine ⟨fun c h0 hn hcj=> ?_,fun _ c h0 hn hc=> ?_⟩
 ·have hq:(c - 1) / 2<c:=by omega
  unfold l5;by_cases hc:c=j
  ·subst hc;rw [hp,if_pos rfl,if_neg (by omega),if_pos rfl];omega
  ·by_cases hqi:(c - 1) / 2=i
   ·rw [if_pos hqi,if_neg (by omega),if_neg hc];exact hmin c h0 hn hqi
   ·rw [if_neg hqi,if_neg hcj];by_cases hci:c=i
    ·rw [if_pos hci];subst hci;exact h.b h0 j hj hjn hp
    ·rw [if_neg hci,if_neg hc];exact h.a c h0 hn hqi
 ·unfold l5;rw [hp,if_pos rfl,if_neg (by omega),if_neg (by omega)];have:=h.a c h0 hn (by omega);rwa [hc] at this
theorem HpF.min {f:Nat→Nat} {n:Nat} (h:HpF f n): ∀ i,i<n→f 0≤f i:=by
 intro i
 induction i using Nat.strongRecOn with
 |_ i ih=>
  intro hn;by_cases h0:i=0
  ·subst h0;exact Rg _
  ·exact RD (ih ((i - 1) / 2) (by omega) (by omega)) (h i (by omega) hn)
theorem HpF.push {f g:Nat→Nat} {n:Nat} (h:HpF f n) (hg: ∀ i,i<n→g i=f i):UpH g (n+1) n:=
 ⟨fun i h0 hn hne=>by rw [hg _ (by omega),hg _ (by omega)];exact h i h0 (by omega),fun _ i h0 hn hi=>by omega⟩
theorem HpF.pop {f g:Nat→Nat} {n:Nat} (h:HpF f (n+1)) (hg: ∀ i,0<i→i<n→g i=f i):DnH g n 0:=
 ⟨fun c h0 hn hne=>by rw [hg _ (by omega) (by omega),hg _ (by omega) hn];exact h c h0 (by omega),fun h0=>absurd h0 (SS 0)⟩
def atN (L:List Nat) (i:Nat):Nat:=(L[i]?).getD 0
def swapN (L:List Nat) (i j:Nat):List Nat:=(L.set i (atN L j)).set j (atN L i)
theorem rS (L:List Nat) (i j:Nat):(swapN L i j).length=L.length:=by simp [swapN]
theorem vM {L:List Nat} {i j:Nat} (hi:i<L.length) (hj:j<L.length) (k:Nat):atN (swapN L i j) k=l5 (atN L) i j k:=by
 unfold swapN l5;unfold atN;rw [jF,jF,Su];by_cases h1:j=k
 ·subst h1;by_cases h2:j=i
  ·subst h2;simp [hj]
  ·rw [if_pos ⟨rfl,hj⟩,if_neg h2,if_pos rfl]
 ·rw [if_neg (fun h=>h1 h.1)];by_cases h2:i=k
  ·subst h2;rw [if_pos ⟨rfl,hi⟩,if_pos rfl]
  ·rw [if_neg (fun h=>h2 h.1),if_neg (fun h=>h2 h.symm),if_neg (fun h=>h1 h.symm)]
theorem zp {L:List Nat} {i:Nat} (h:i<L.length) (x a:Nat):(L.set i x).count a+(if atN L i=a then 1 else 0)=L.count a+(if x=a then 1 else 0):=by
 induction L generalizing i with
 |nil=>cases h
 |cons b l ih=>
  cases i with
  |zero=>
   simp only [List.set_cons_zero,atN,Up,TJ,List.count_cons];by_cases h1:b=a<;>by_cases h2:x=a<;>simp [h1,h2]
  |succ i=>
   have:=ih (i:=i) (by simpa using h);simp only [UM,List.count_cons];simp only [atN,Uq] at this ⊢;by_cases h3:(l[i]?).getD 0=a<;>by_cases h4:x=a<;>by_cases h1:b=a<;>simp [h1,h3,h4] at this ⊢ <;>omega
theorem p7 {L:List Nat} {i j:Nat} (hi:i<L.length) (hj:j<L.length):(swapN L i j).Perm L:=by
 rw [List.perm_iff_count];intro a;have h1:=zp hi (atN L j) a;have h2:=zp (L:=L.set i (atN L j)) (i:=j) (by simpa using hj) (atN L i) a;have h3:atN (L.set i (atN L j)) j=atN L j:=by
  unfold atN;rw [jF];split<;>rfl
 rw [h3] at h2;unfold swapN;omega
def oI (X:Nx) (D:List Nat) (i:Nat):Bool:= !decide (i∈D) && (au X i).all fun k=>decide (k∈D)
def jR (X:Nx) (D:List Nat):Option Nat:=(List.range X.length).find? (oI X D)
def fw (X:Nx):Nat→List Nat→List Nat
 |0,D=>D
 |n+1,D=>match jR X D with
  |none=>D
  |some i=>fw X n (D++ [i])
def cI (X:Nx):List Nat:=fw X X.length []
theorem eV {X:Nx} {D:List Nat} {i:Nat}:oI X D i=true↔i∉D∧ ∀ k∈au X i,k∈D:=by
 simp [oI]
theorem ny {X:Nx} {D:List Nat} {i:Nat}:jR X D=some i↔i<X.length∧oI X D i=true∧ ∀ j,j<i→oI X D j=false:=by
 unfold jR;rw [UR];constructor
 ·rintro ⟨h1,h2,h3⟩;exact ⟨RH.1 h2,h1,fun j hj=>by simpa using h3 j hj⟩
 ·rintro ⟨h1,h2,h3⟩;exact ⟨h2,RH.2 h1,fun j hj=>by simpa using h3 j hj⟩
theorem wF {X:Nx} {D:List Nat}:jR X D=none↔ ∀ i,i<X.length→oI X D i=false:=by
 unfold jR;rw [Ur];simp only [RH,Bool.not_eq_true]
theorem KD {X:Nx} {D:List Nat} (h:jR X D=none): ∀ m,fw X m D=D
 |0=>rfl
 |m+1=>by rw [fw,h]
theorem Il {X:Nx} {D:List Nat} {i:Nat} (h:jR X D=some i) (hl:D.length<X.length):fw X (X.length - D.length) D=fw X (X.length - (D++ [i]).length) (D++ [i]):=by
 rw [QT,QX,show X.length - D.length=X.length - (D.length+1)+1 by omega,fw,h]
def dP (X:Nx) (i:Nat):List Nat:=(List.range X.length).flatMap fun j=>((au X j).filter fun k=>decide (k=i)).map fun _=>j
theorem tS {X:Nx} {i j:Nat} (hj:j<X.length):(dP X i).count j=(au X j).count i:=by
 unfold dP;rw [List.count_flatMap];have h1: ∀ m:Nat,((((au X m).filter fun k=>decide (k=i)).map fun _=>m)).count j=if m=j then (au X j).count i else 0:=fun m=>by
  by_cases e:m=j
  ·subst e;rw [if_pos rfl,List.count_eq_length.2 (fun x hx=>by obtain ⟨y,_,rfl⟩:=RG.1 hx;rfl),RA,← List.countP_eq_length_filter,List.count];exact List.countP_congr fun x _=>by simp
  ·rw [if_neg e,List.count_eq_zero];intro hm;obtain ⟨y,_,h2⟩:=RG.1 hm;exact e h2
 have h2:(List.count j∘fun m=>((au X m).filter fun k=>decide (k=i)).map fun _=>m)=fun m=>if m=j then (au X j).count i else 0:=funext h1;rw [h2];have h3: ∀ (l:List Nat),l.Nodup→j∈l→(l.map fun m=>if m=j then (au X j).count i else 0).sum=(au X j).count i:=by
  intro l
  induction l with
  |nil=>intro _ h;cases h
  |cons a l ih=>
   intro hn hm;rw [Te] at hn;rw [RP,List.sum_cons];by_cases e:a=j
   ·subst e;rw [if_pos rfl];have h0: ∀ l:List Nat,a∉l→(l.map fun m=>if m=a then (au X a).count i else 0).sum=0:=by
     intro l
     induction l with
     |nil=>intro _;rfl
     |cons b l ih=>
      intro hb;rw [RF,not_or] at hb;rw [RP,List.sum_cons,if_neg (fun e=>hb.1 e.symm),ih hb.2]
    rw [h0 l hn.1];rfl
   ·rw [if_neg e,Rv];rcases RF.1 hm with h4|h4
    ·exact absurd h4.symm e
    ·exact ih hn.2 h4
 exact h3 _ UE (RH.2 hj)
theorem sw {X:Nx} {i j:Nat}:j∈dP X i↔j<X.length∧i∈au X j:=by
 unfold dP;rw [TX];constructor
 ·rintro ⟨m,hm,h⟩;obtain ⟨k,hk,rfl⟩:=RG.1 h;rw [ST,decide_eq_true_eq] at hk;exact ⟨RH.1 hm,hk.2 ▸ hk.1⟩
 ·rintro ⟨h1,h2⟩;exact ⟨j,RH.2 h1,RG.2 ⟨i,ST.2 ⟨h2,by simp⟩,rfl⟩⟩
structure HpI (X:Nx) (D h lf:List Nat):Prop where
 dn:D.Nodup
 dl: ∀ i∈D,i<X.length
 dc: ∀ i∈D,∀ k∈au X i,k∈D
 ll:lf.length=X.length
 lv: ∀ i,i<X.length→(lf[i]?).getD 0=(au X i).countP fun k=> !decide (k∈D)
 hn:h.Nodup
 hm: ∀ i,i∈h↔(i<X.length∧oI X D i=true)
theorem dR: ∀ (l m:List Nat),l.Nodup→(∀ x∈l,x∈m)→l.length≤m.length
 | [],_,_,_=>QZ _
 |a::l,m,hn,hs=>by
  rw [Te] at hn;have ha:=hs a (QY ..);have h1:=dR l (m.erase a) hn.2 fun x hx=>(List.mem_erase_of_ne (fun (e:x=a)=>hn.1 (e ▸ hx))).2 (hs x (Rh _ hx));rw [List.length_erase_of_mem ha] at h1;have:=List.length_pos_of_mem ha;rw [Rk];omega
theorem HpI.len {X:Nx} {D h lf:List Nat} (H:HpI X D h lf):D.length≤X.length:=by
 have h1:=dR D (List.range X.length) H.dn (fun x hx=>RH.2 (H.dl x hx));rwa [Sg] at h1
theorem HpI.len_lt {X:Nx} {D h lf:List Nat} (H:HpI X D h lf) {i:Nat} (hi:i∈h):D.length<X.length:=by
 obtain ⟨h1,h2⟩:=(H.hm i).1 hi;have h3:=(eV.1 h2).1;have h4:(i::D).Nodup:=Te.2 ⟨h3,H.dn⟩
 have h5:=dR (i::D) (List.range X.length) h4 (fun x hx=>RH.2 (by
  rcases RF.1 hx with rfl|hx
  ·exact h1
  ·exact H.dl x hx))
 rw [Sg,Rk] at h5;omega
theorem HpI.next {X:Nx} {D h lf:List Nat} (H:HpI X D h lf) {i:Nat} (hi:i∈h) (hmin: ∀ j∈h,i≤j):jR X D=some i:=by
 obtain ⟨h1,h2⟩:=(H.hm i).1 hi;refine ny.2 ⟨h1,h2,fun j hj=> ?_⟩
 cases hf:oI X D j with
 |false=>rfl
 |true=>
  have:=hmin j ((H.hm j).2 ⟨by omega,hf⟩);omega
theorem HpI.stop {X:Nx} {D lf:List Nat} (H:HpI X D [] lf):jR X D=none:=wF.2 fun i hi=>by
 cases hf:oI X D i with
 |false=>rfl
 |true=>cases (H.hm i).2 ⟨hi,hf⟩
structure HpJ (X:Nx) (D:List Nat) (i:Nat) (h lf P:List Nat):Prop where
 ll:lf.length=X.length
 lv: ∀ m,m<X.length→(lf[m]?).getD 0+P.count m=(au X m).countP fun k=> !decide (k∈D)
 hn:h.Nodup
 hm: ∀ m,m∈h↔(m<X.length∧m∉D∧m≠i∧(lf[m]?).getD 0=0)
theorem lJ {l:List Nat} {D:List Nat}:(l.countP fun k=> !decide (k∈D))=0↔ ∀ k∈l,k∈D:=by
 rw [List.countP_eq_zero];simp
theorem HpI.begin {X:Nx} {D h lf:List Nat} (H:HpI X D h lf) {i:Nat} {h' :List Nat} (hp:h.Perm (i::h')):HpJ X D i h' lf []:=by
 have hn:=hp.nodup_iff.1 H.hn;rw [Te] at hn;refine ⟨H.ll,fun m hm=> ?_,hn.2,fun m=> ?_⟩
 ·rw [List.count_nil,Tw];exact H.lv m hm
 ·have h1:=H.hm m;rw [hp.mem_iff,RF,eV] at h1;constructor
  ·intro h2;obtain ⟨h3,h4,h5⟩:=h1.1 (.inr h2);refine ⟨h3,h4,fun e=>hn.1 (e ▸ h2),?_⟩;rw [H.lv m h3];exact lJ.2 h5
  ·rintro ⟨h2,h3,h4,h5⟩;rw [H.lv m h2] at h5;exact (h1.2 ⟨h2,h3,lJ.1 h5⟩).resolve_left h4
theorem HpI.no_self {X:Nx} {D h lf:List Nat} (H:HpI X D h lf) {i:Nat} (hi:i∈h) {k:Nat} (hk:i∈au X k):k∉D∧k≠i:=by
 have h2:=eV.1 ((H.hm i).1 hi).2;refine ⟨fun hd=>h2.1 (H.dc k hd i hk),fun e=> ?_⟩;subst e;exact h2.1 (h2.2 _ hk)
theorem HpJ.step {X:Nx} {D h0 lf0:List Nat} (H:HpI X D h0 lf0) {i:Nat} (hi:i∈h0) {h lf P R:List Nat} {k:Nat} (J:HpJ X D i h lf P) (hF:dP X i=P++k::R):
 k<X.length∧1≤(lf[k]?).getD 0∧((lf[k]?).getD 0 - 1≠0→HpJ X D i h (lf.set k ((lf[k]?).getD 0 - 1)) (P++ [k]))∧((lf[k]?).getD 0 - 1=0→ ∀ h' :List Nat,h'.Perm (k::h)→HpJ X D i h' (lf.set k ((lf[k]?).getD 0 - 1)) (P++ [k])):=by
 have hkm:k∈dP X i:=by rw [hF];simp
 obtain ⟨hkl,hks⟩:=sw.1 hkm;have hid:=(eV.1 ((H.hm i).1 hi).2).1;obtain ⟨hkd,hki⟩:=H.no_self hi hks;have hc:P.count k+1≤(au X k).countP fun m=> !decide (m∈D):=by
  have h1:=tS (X:=X) (i:=i) hkl;rw [hF,List.count_append,List.count_cons_self] at h1;have h2:(au X k).count i≤(au X k).countP fun m=> !decide (m∈D):=by
   rw [List.count];exact List.countP_mono_left fun x _ hx=>by
    have:x=i:=by simpa using hx
    subst this;simp [hid]
  omega
 have hlk:=J.lv k hkl;have h1:1≤(lf[k]?).getD 0:=by omega
 have hset: ∀ m,((lf.set k ((lf[k]?).getD 0 - 1))[m]?).getD 0=if k=m then (lf[k]?).getD 0 - 1 else (lf[m]?).getD 0:=fun m=>by
  rw [jF];by_cases e:k=m
  ·rw [if_pos ⟨e,by rw [J.ll];exact hkl⟩,if_pos e]
  ·rw [if_neg (fun hh=>e hh.1),if_neg e]
 have hlv: ∀ m,m<X.length→((lf.set k ((lf[k]?).getD 0 - 1))[m]?).getD 0+(P++ [k]).count m=(au X m).countP fun k=> !decide (k∈D):=fun m hm=>by
  rw [hset,List.count_append];by_cases e:k=m
  ·subst e;rw [if_pos rfl,List.count_singleton_self];omega
  ·rw [if_neg e,List.count_eq_zero.2 (fun hh=>e (Rd.1 hh).symm),Tw];exact J.lv m hm
 refine ⟨hkl,h1,fun hne=>⟨by rw [Su];exact J.ll,hlv,J.hn,fun m=> ?_⟩,fun he h' hp=>⟨by rw [Su];exact J.ll,hlv,?_,fun m=> ?_⟩⟩
 ·rw [J.hm,hset];by_cases e:k=m
  ·subst e;rw [if_pos rfl];exact ⟨fun hh=>absurd hh.2.2.2 (by omega),fun hh=>absurd hh.2.2.2 hne⟩
  ·rw [if_neg e]
 ·rw [hp.nodup_iff,Te];exact ⟨fun hm=>by have:=((J.hm k).1 hm).2.2.2;omega,J.hn⟩
 ·rw [hp.mem_iff,RF,J.hm,hset];by_cases e:k=m
  ·subst e;rw [if_pos rfl];exact ⟨fun _=>⟨hkl,hkd,hki,he⟩,fun _=> .inl rfl⟩
  ·rw [if_neg e];exact ⟨fun hh=>hh.resolve_left fun e' =>e e'.symm,.inr⟩
theorem HpJ.fin {X:Nx} {D h0 lf0:List Nat} (H:HpI X D h0 lf0) {i:Nat} (hi:i∈h0) {h lf:List Nat} (J:HpJ X D i h lf (dP X i)):HpI X (D++ [i]) h lf:=by
 have hf:=(H.hm i).1 hi;have hf2:=eV.1 hf.2;have hlv: ∀ m,m<X.length→(lf[m]?).getD 0=(au X m).countP fun k=> !decide (k∈D++ [i]):=fun m hm=>by
  have h1:=J.lv m hm;rw [tS hm] at h1;have h2: ∀ l:List Nat,(l.countP fun k=> !decide (k∈D))=(l.countP fun k=> !decide (k∈D++ [i]))+l.count i:=by
   intro l
   induction l with
   |nil=>rfl
   |cons a l ih=>
    rw [UW,UW,List.count_cons,ih];by_cases ea:a=i
    ·subst ea;simp [hf2.1];omega
    ·by_cases ed:a∈D
     ·simp [ed,ea]
     ·simp [ed,ea];omega
  have:=h2 (au X m);omega
 refine ⟨?_,?_,?_,J.ll,hlv,J.hn,fun m=> ?_⟩
 ·exact TS.2 ⟨H.dn,by simp,fun a ha b hb e=>hf2.1 (by rw [← Rd.1 hb,← e];exact ha)⟩
 ·intro m hm;rcases Rz.1 hm with hm|hm
  ·exact H.dl m hm
  ·rw [Rd.1 hm];exact hf.1
 ·intro m hm k hk;rcases Rz.1 hm with hm|hm
  ·exact Si _ (H.dc m hm k hk)
  ·rw [Rd.1 hm] at hk;exact Si _ (hf2.2 k hk)
 ·rw [J.hm,eV];constructor
  ·rintro ⟨h1,h2,h3,h4⟩;rw [hlv m h1] at h4;exact ⟨h1,fun hh=>(Rz.1 hh).elim h2 fun e=>h3 (Rd.1 e),lJ.1 h4⟩
  ·rintro ⟨h1,h2,h3⟩;refine ⟨h1,fun hh=>h2 (Si _ hh),fun e=>h2 (Sj _ (Rd.2 e)),?_⟩;rw [hlv m h1];exact lJ.2 h3
theorem tZ {α:Type} {p q:α→Bool}: ∀ {l:List α},(∀ x∈l,p x=true→q x=true)→(∃ a∈l,q a=true∧p a=false)→l.countP p<l.countP q
 | [],_,h=>by obtain ⟨a,h,_⟩:=h;cases h
 |b::l,h,⟨a,ha,h1,h2⟩=>by
  have hm:=List.countP_mono_left fun x hx=>h x (Rh _ hx);rw [UW,UW];rcases RF.1 ha with rfl|ha
  ·simp only [h1,h2,if_true,RY,if_false];omega
  ·have ih:=tZ (fun x hx=>h x (Rh _ hx)) ⟨a,ha,h1,h2⟩;have hb:=h b (QY ..);split<;>split<;>simp_all<;>omega
open Classical in
theorem Je {X:Nx} (hX: ∀ i,∀ k∈au X i,k<X.length) (hac: ∀ v,v<X.length→ ¬ onC X v) {D:List Nat}: ∀ (m v:Nat),((List.range X.length).countP fun u=>decide (Rch X v u))≤m→v<X.length→v∉D→ ∃ i,jR X D=some i:=by
 intro m
 induction m with
 |zero=>
  intro v hm hv _;have:0<(List.range X.length).countP fun u=>decide (Rch X v u):=List.countP_pos_iff.2 ⟨v,RH.2 hv,by simp;exact .refl v⟩;omega
 |succ m ih=>
  intro v hm hv hd;by_cases hf:oI X D v=true
  ·cases hn:jR X D with
   |some i=>exact ⟨i,rfl⟩
   |none=>rw [wF.1 hn v hv] at hf;cases hf
  ·have: ∃ k∈au X v,k∉D:=by
    by_cases h2: ∀ k∈au X v,k∈D
    ·exact absurd (eV.2 ⟨hd,h2⟩) hf
    ·simp only [Classical.not_forall] at h2;obtain ⟨k,hk,hkd⟩:=h2;exact ⟨k,hk,hkd⟩
   obtain ⟨k,hk,hkd⟩:=this;have hlt:((List.range X.length).countP fun u=>decide (Rch X k u))<(List.range X.length).countP fun u=>decide (Rch X v u):=
    tZ (fun x _ hx=>by simp only [decide_eq_true_eq] at hx ⊢;exact .step hk hx) ⟨v,RH.2 hv,by simp;exact .refl v,by simp;exact fun r=>hac v hv ⟨k,hk,r⟩⟩
   exact ih k (by omega) (hX v k hk) hkd
structure WkI (Y:Nx) (p:Nat→Prop) (M:Nat→Bool) (todo dn:List Nat):Prop where
 ok: ∀ v,M v=true→p v
 cl: ∀ v∈dn,∀ u∈au Y v,M u=true
 al: ∀ v,M v=true→v∈dn∨v∈todo
structure WkJ (Y:Nx) (p:Nat→Prop) (M:Nat→Bool) (v:Nat) (todo dn L:List Nat):Prop where
 ok: ∀ v,M v=true→p v
 cl: ∀ v∈dn,∀ u∈au Y v,M u=true
 al: ∀ x,M x=true→x=v∨x∈dn∨x∈todo
 in_: ∀ u∈L,M u=true
theorem WkI.pop {Y:Nx} {p:Nat→Prop} {M:Nat→Bool} {v:Nat} {todo dn:List Nat} (h:WkI Y p M (v::todo) dn):WkJ Y p M v todo dn []:=
 ⟨h.ok,h.cl,fun x hx=>by
  rcases h.al x hx with h1|h1
  ·exact .inr (.inl h1)
  ·rcases RF.1 h1 with rfl|h1
   ·exact .inl rfl
   ·exact .inr (.inr h1),fun u hu=>by cases hu⟩
theorem WkJ.old {Y:Nx} {p:Nat→Prop} {M:Nat→Bool} {v:Nat} {todo dn L:List Nat} (h:WkJ Y p M v todo dn L) {u:Nat} (hu:M u=true):WkJ Y p M v todo dn (L++ [u]):=
 ⟨h.ok,h.cl,h.al,fun x hx=>(Rz.1 hx).elim (h.in_ x) fun hx=>by rw [Rd.1 hx];exact hu⟩
theorem WkJ.new {Y:Nx} {p:Nat→Prop} {M:Nat→Bool} {v:Nat} {todo dn L:List Nat} (h:WkJ Y p M v todo dn L) {u:Nat} (hp:p u):WkJ Y p (fun x=>if x=u then true else M x) v (todo++ [u]) dn (L++ [u]):=by
 have hm: ∀ x,M x=true→(if x=u then true else M x)=true:=fun x hx=>by split<;>simp_all
 refine ⟨fun x hx=> ?_,fun x hx y hy=>hm y (h.cl x hx y hy),fun x hx=> ?_,fun x hx=> ?_⟩
 ·by_cases e:x=u
  ·rw [e];exact hp
  ·exact h.ok x (by simpa [e] using hx)
 ·by_cases e:x=u
  ·rw [e];exact .inr (.inr (by simp))
  ·rcases h.al x (by simpa [e] using hx) with h1|h1|h1
   ·exact .inl h1
   ·exact .inr (.inl h1)
   ·exact .inr (.inr (by simp [h1]))
 ·rcases Rz.1 hx with hx|hx
  ·exact hm x (h.in_ x hx)
  ·rw [Rd.1 hx];simp
theorem WkJ.fin {Y:Nx} {p:Nat→Prop} {M:Nat→Bool} {v:Nat} {todo dn:List Nat} (h:WkJ Y p M v todo dn (au Y v)):WkI Y p M todo (v::dn):=
 ⟨h.ok,fun x hx u hu=>by
  rcases RF.1 hx with rfl|hx
  ·exact h.in_ u hu
  ·exact h.cl x hx u hu,fun x hx=>by
  rcases h.al x hx with rfl|h1|h1
  ·exact .inl (by simp)
  ·exact .inl (by simp [h1])
  ·exact .inr h1⟩
theorem WkI.done {Y:Nx} {p:Nat→Prop} {M:Nat→Bool} {dn:List Nat} (h:WkI Y p M [] dn) {v u:Nat} (r:Rch Y v u) (hv:M v=true):M u=true:=
 Rch.closed (C:=fun v=>M v=true) (fun v hv u hu=>h.cl v ((h.al v hv).resolve_right (by simp)) u hu) r hv
theorem WkI.reach {X:Nx} {i:Nat} {M:Nat→Bool} {dn:List Nat} (h:WkI X (fun v=> ∃ k∈au X i,Rch X k v) M [] dn) (hi:i∈dn) (v:Nat):M v=true↔ ∃ k∈au X i,Rch X k v:=
 ⟨h.ok v,fun ⟨k,hk,r⟩=>h.done r (h.cl i hi k hk)⟩
def iV (X:Nx):Nx:=(List.range X.length).map (dP X)
theorem kJ (X:Nx):(iV X).length=X.length:=by simp [iV]
theorem nZ {X:Nx} {i:Nat} (h:i<X.length):au (iV X) i=dP X i:=by simp [au,iV,h]
theorem mX {X:Nx} {i k:Nat} (h:k∈au X i):i<X.length:=by
 by_cases hi:i<X.length
 ·exact hi
 ·rw [au,Ry (by omega)] at h;cases h
theorem zZ {X:Nx} {i j:Nat}:j∈au (iV X) i↔i<X.length∧i∈au X j:=by
 constructor
 ·intro h;have hi:=mX h;rw [kJ] at hi;rw [nZ hi,sw] at h;exact ⟨hi,h.2⟩
 ·rintro ⟨hi,h⟩;rw [nZ hi,sw];exact ⟨mX h,h⟩
theorem Pd {X:Nx} (hX: ∀ i,∀ k∈au X i,k<X.length) {v u:Nat} (r:Rch X v u):Rch (iV X) u v:=by
 induction r with
 |refl k=>exact .refl k
 |step h _ ih=>exact ih.trans (Rch.one (zZ.2 ⟨hX _ _ h,h⟩))
def eX (X:Nx) (v:Nat):Prop:= ∃ u,onC X u∧Rch X v u
theorem WkI.circ {X:Nx} (hX: ∀ i,∀ k∈au X i,k<X.length) {M:Nat→Bool} {dn:List Nat} (h:WkI (iV X) (eX X) M [] dn) (hb: ∀ u,onC X u→M u=true) (v:Nat):M v=true↔eX X v:=
 ⟨h.ok v,fun ⟨u,hu,r⟩=>h.done (Pd hX r) (hb u hu)⟩
theorem JO {X:Nx} {v j:Nat} (h:eX X v) (hj:j∈au (iV X) v):eX X j:=by
 obtain ⟨u,hu,r⟩:=h;exact ⟨u,hu,.step (zZ.1 hj).2 r⟩
end Go.SL
