/-
  Lemmas and walks, put together: W34 W29 Tr Tr2 Tr5 W19 Ca Cb Ce.
-/
import Derived.Test.YtfeicpjdgjflaaaGreatDoorKv10
import Derived.Test.YtfeicpjdgjflaaaGreatDoorKv11
set_option linter.unusedSimpArgs false
set_option linter.unusedVariables false
set_option maxRecDepth 20000
set_option maxHeartbeats 16000000
namespace Go.SL
open Go Go.Proofs
attribute [local irreducible] W WL WQ WG WA VOp thn blk bg aS FnAt FnIn Qi
theorem tq (L:List Nd): ∀ (r:List Nd) (i:Nat) (st:List Pt) (vs:List oE),(fV L r i st vs).1=0→ ∀ n∈r,bM n=0
 | [],_,_,_=>fun _ _ h=>by cases h
 |n::r,i,st,vs=>by
  intro h;rw [fV] at h;have hn:bM n=0:=by
   by_cases hf:bM n=0
   ·exact hf
   ·unfold kw at h;rw [if_pos hf] at h;exact h
  cases hs:kw L n i st with
  |inl e=>
   rw [hs] at h;dsimp only at h;unfold kw at hs;rw [if_neg (by omega)] at hs;split at hs
   ·injection hs with hs;omega
   ·split at hs
    ·injection hs with hs;omega
    ·cases hs
  |inr y=>
   obtain ⟨st',kids,d⟩:=y;rw [hs] at h;intro m hm;rcases VN.1 hm with rfl|hm
   ·exact hn
   ·exact tq L r _ _ _ h m hm
theorem Eg {L:List Nd} (h:eD L=0): ∀ n∈L,bM n=0:=by
 refine tq L L 0 [] [] ?_;unfold eD kN at h;split at h
 ·cases h
 split at h
 ·cases h
 split at h
 ·rename_i h3;exact absurd h h3
 ·rename_i h3;omega
theorem G7 {n:Nd} (h:bM n=0) (hr:ik n=true):bW n.rect=true:=by
 unfold bM at h;split at h
 ·cases h
 rename_i hk;have hk1:fS n=true:=by
  cases hh:fS n
  ·exact absurd (Or.inl hh) hk
  ·rfl
 simp only [ik,Xt,decide_eq_true_eq] at hr;unfold fS at hk1;rw [if_neg (by omega),if_pos hr] at hk1;simp only [VP,decide_eq_true_eq] at hk1;have h1:=hk1.1;unfold jr at h1;cases hq:bW n.rect
 ·rw [hq] at h1;cases h1
 ·rfl
theorem FN {r:Rct}:jr r≠0↔bW r=false:=by unfold jr;cases bW r<;>simp
theorem CI {α:Type} {f g:α→Bool}: ∀ {L:List α},(∀ x∈L,f x=g x)→L.any f=L.any g
 | [],_=>rfl
 |x::r,h=>by rw [List.any_cons,List.any_cons,h x Vr,CI fun y hy=>h y (Vv _ hy)]
end Go.SL
namespace Go.SL
open Go Go.Proofs
attribute [local irreducible] W WL WQ WG WA VOp thn blk bg aS FnAt FnIn WLI WR WT bi wK py r9
theorem NW (A:Option Addr) (m c:Nat) (w:World):FnAt Tryz.prog 163 [.slice A m c] w fun v H=> ∃ g,v= .func (.func 232) #[] #[.pointer (some ⟨g,0,none⟩)]∧H= [.box g 122 [.slice A m c]]:=by
 refine aA Tryz.func163 rfl Tryz.ntmps163 rfl ?_;repeat' (first|refine sT ?_|refine sM fun _=>?_|refine sC ?_ ?_<;>intro hb<;>try omega|fail)
 refine bp (.inl rfl) Tryz.results163 rfl (MSub.refl _) ?_;exact ⟨_,rfl,rfl⟩
def jF (L:List Nd):List Us × Int:=if eD L≠0 then ([],eD L) else (fp L,0)
theorem gX: ∀ (L:List Nd) (i:Nat),(eR L i).length≤L.length
 | [],_=>VA _
 |n::r,i=>by
  have:=gX r (i+1);unfold eR;cases ik n<;>simp<;>omega
theorem Bs (L:List Nd):(fp L).length≤L.length:=gX L 0
theorem qU {α:Type} (f:α→List Value) (xs:List α) (x:α):(xs++ [x]).flatMap f=xs.flatMap f++f x:=by simp
theorem SA (L:List Nd) (tv:Value) (w:World) (ht:Reads w tv L.length (L.flatMap bu)) (hlen:L.length≤1000000):
 FnAt Tryz.prog 100 [tv] w fun v H=> ∃ A cap,v= .tuple #[sl A (jF L).1.length cap,.int .i64 (jF L).2]∧H= [.own A 128 6 (jF L).1.length cap ((jF L).1.flatMap cw)]:=by
 have ht' :=ht;obtain ⟨Al,cl,rfl,hl1,hl2,hl3⟩:=ht;refine wF Tryz.func100 rfl Tryz.ntmps100 (by rfl) ?_;have hck:=fun w0 (hm:Reads w0 (.slice Al L.length cl) L.length (L.flatMap bu))=>HH L _ w0 hm;unfold jF;generalize eD L=e at hck;refine s6 ?_;refine aI 128 6 ?_;repeat' (first|apply ag;exact rfl;exact rfl;intro w' hm;exact hck w' (ht'.of_w0 hm)|apply aJ;exact rfl;exact rfl;intro w' hm;exact NW _ _ _ w';rintro v H' ⟨gu,rfl,rfl⟩|refine zZL ?_|refine sM fun _=>?_|refine sC ?_ ?_<;>intro hb<;>try omega|refine sCR ?_ ?_<;>intro hb<;>try omega|fail)
 ·refine KS ?_;refine dm (.inl rfl) Tryz.results100 rfl rfl (H' := [.own none 128 6 0 0 []]) mS ⟨none,0,?_⟩;rw [if_pos hb];exact ⟨rfl,rfl⟩
 rename_i gb;rw [if_neg hb];have hul:=Bs L
 refine xz (ps:= [14]) (us:=fp L) (encs:=fun u=> [.agg (cw u).toArray]) (Hc:= [.box gu 122 [.slice Al L.length cl]]) (HU0:= [.box gb 120 [.slice none 0 0],.own none 128 6 0 0 []]) rfl (fun _=>rfl) rfl (NV L _ w ht' hlen gu)
  (fun pre HU=> ∃ A cap,HU= [.box gb 120 [sl A pre.length cap],.own A 128 6 pre.length cap (pre.flatMap cw)]) (fun _=>False) ?_ ⟨none,0,rfl⟩ ?_ ?_ ?_
 ·exact mS
 ·rintro l pre u post hus _ ⟨A,cap,rfl⟩ F F';have hlu:=congrArg List.length hus;simp only [Vn,Vw] at hlu;change WR _ _ _ l _ _ ((14,Value.agg (cw u).toArray)::_) (.box gb 120 [sl A pre.length cap]:: .own A 128 6 pre.length cap (pre.flatMap cw)::F);repeat' (first|refine zZL ?_|refine sM fun _=>?_|refine sC ?_ ?_<;>intro hb<;>try omega|refine sCR ?_ ?_<;>intro hb<;>try omega|fail)
  rename_i g6;refine zQ ⟨[.box g6 128 (cw u),.box gb 120 [sl A pre.length cap],.own A 128 6 pre.length cap (pre.flatMap cw)],MSub.refl _,?_⟩;change WR _ _ _ l _ _ _ (.box g6 128 (cw u):: .box gb 120 [sl A pre.length cap]:: .own A 128 6 pre.length cap (pre.flatMap cw)::F');repeat' (first|apply dB;(iterate 3 exact rfl);(repeat first|exact .hd|apply Sel.tl|apply In.tl);intro w hm;exact hm.cells_own (by (repeat first|exact .hd|apply Sel.tl|apply In.tl));exact rfl;simp [Value.oneCell',sl];omega;simp only [maxLen];omega;intro A' cap' hA'|refine zZL ?_|refine sM fun _=>?_|refine sC ?_ ?_<;>intro hb<;>try omega|refine sCR ?_ ?_<;>intro hb<;>try omega|fail)
  refine qK [.box gb 120 [sl A' (pre.length+1) cap'],.own A' 128 6 (pre.length+1) cap' (pre.flatMap cw++cw u)] ?_ ⟨A',cap',?_⟩
  ·change MSub (_::_::F') _;exact mS
  ·rw [qU,Vn]
   rfl
 ·rintro D _ ⟨A,cap,rfl⟩;change bi _ _ _ _ _ (kM D:: .box gb 120 [sl A (fp L).length cap]:: .own A 128 6 (fp L).length cap ((fp L).flatMap cw)::_);repeat' (first|refine zZL ?_|refine sM fun _=>?_|refine sC ?_ ?_<;>intro hb<;>try omega|refine sCR ?_ ?_<;>intro hb<;>try omega|fail)
  refine zw .hd ?_;refine dm (.inl rfl) Tryz.results100 rfl rfl (H' := [.own A 128 6 (fp L).length cap ((fp L).flatMap cw)]) mS ⟨A,cap,rfl,rfl⟩
 ·rintro D HU h;exact h.elim
def rel (u:Us):Bool:=decide (0≤u.node)
structure STree where
 ns:List Nd
 d:Nat
def STree.kind (S:STree):Int:=((S.ns.getLast?).map Nd.kind).getD 0
def U2 (n:Nd) (i:Int) (k:Int):Bool:= !(decide (k=3) && !Gt n i) && !(decide (n.kind=7) && jM n.fn && decide (k≠2) && decide (k≠3))
def uo (n:Nd):Int→List STree→Bool
 |_,[]=>true
 |i,S::r=>U2 n i S.kind && uo n (i+1) r
def gJ (st:List STree) (k:Nat):List STree:=st.drop (st.length - k)
def sU (top:List STree):Nat:=top.foldl (fun d S=>max d (S.d+1)) 1
def bq (st:List STree):List Nd:=st.flatMap STree.ns
def bO (n:Nd) (top:List STree):STree:=⟨bq top++ [n],sU top⟩
def iN (n:Nd) (st:List STree):Int ⊕ (List STree × List STree):=
 if bM n≠0 then .inl (bM n)
 else if (st.length:Int)<below n∨uo n 0 (gJ st (below n).toNat)=false then .inl 4
 else if 32<sU (gJ st (below n).toNat) then .inl 9
 else .inr (st.take (st.length - (below n).toNat),gJ st (below n).toNat)
abbrev jC:=List (List STree × STree)
def gH:List Nd→List STree→jC→Int × List STree × jC
 | [],st,h=>(if st.length=1 then 0 else 4,st,h)
 |n::r,st,h=>match iN n st with
  | .inl e=>(e,st,h)
  | .inr (lo,top)=>gH r (lo++ [bO n top]) (h++ [(top,bO n top)])
theorem cK (a b:List STree):bq (a++b)=bq a++bq b:=VF
theorem oC (S:STree):bq [S]=S.ns:=by simp [bq]
theorem gV (S:STree) (r:List STree):bq (S::r)=S.ns++bq r:=VE
theorem dE (n:Nd) (top:List STree):(bO n top).ns.length=(bq top).length+1:=by simp [bO]
theorem Ja (n:Nd) (top:List STree):(bO n top).kind=n.kind:=by simp [bO,STree.kind]
inductive Good:STree→Prop
 |mk (n:Nd) (top:List STree) (hg: ∀ S∈top,Good S) (hf:bM n=0) (hb:(top.length:Int)=Go.SL.below n) (hfit:uo n 0 top=true) (hd:sU top≤32):Good (bO n top)
theorem Good.pos {S:STree} (h:Good S):0<S.ns.length:=by
 cases h with
 |mk n top _ _ _ _ _=>rw [dE];omega
def aN:Nat→List STree→List Nat
 |_,[]=> []
 |o,S::r=>(o+S.ns.length - 1)::aN (o+S.ns.length) r
def lo (i:Nat) (x:List STree × STree):Nat:=i+1 - x.2.ns.length
def ee (i:Nat) (x:List STree × STree):List Nat:=aN (lo i x) x.1
theorem nN (o:Nat) (l:List STree):(aN o l).length=l.length:=by
 induction l generalizing o with
 |nil=>rfl
 |cons S r ih=>simp [aN,ih]
theorem eK (o:Nat) (a b:List STree):aN o (a++b)=aN o a++aN (o+(bq a).length) b:=by
 induction a generalizing o with
 |nil=>simp [aN,bq]
 |cons S r ih=>simp [aN,ih,gV,WF]
theorem BR {o k:Nat} {l:List STree} (h:k∈aN o l): ∃ a S b,l=a++S::b∧k=o+(bq a).length+S.ns.length - 1:=by
 induction l generalizing o with
 |nil=>cases h
 |cons S r ih=>
  rcases VN.1 h with rfl|h
  ·exact ⟨[],S,r,rfl,by simp [bq]⟩
  ·obtain ⟨a,T,b,rfl,rfl⟩:=ih h;exact ⟨S::a,T,b,rfl,by simp [gV,WF]⟩
theorem lV {o k:Nat} {l:List STree} (hp: ∀ S∈l,0<S.ns.length) (h:k∈aN o l):o≤k∧k<o+(bq l).length:=by
 obtain ⟨a,S,b,rfl,rfl⟩:=BR h;have:=hp S (by simp);simp only [cK,gV,Vn];omega
structure Inv (dn:List Nd) (st:List STree) (h:jC):Prop where
 flat:bq st=dn
 good: ∀ S∈st,Good S
 len:h.length=dn.length
 node: ∀ i x,h[i]? =some x→ ∃ n,dn[i]? =some n∧x.2=bO n x.1∧(∀ T∈x.1,Good T)∧Good x.2∧x.2.ns.length≤i+1∧(dn.take (i+1)).drop (lo i x)=x.2.ns
 deep: ∀ x∈h,∃ S∈st,x.2.d≤S.d
 cut: ∀ a b,st=a++b→ ∀ j x,h[j]? =some x→(bq a).length≤j→(bq a).length≤lo j x
 lam: ∀ i j x y,h[i]? =some x→h[j]? =some y→j≤i→lo i x≤j→lo i x≤lo j y
 mid: ∀ i j x y,h[i]? =some x→h[j]? =some y→ ∀ k∈ee j y,k<i→i<j→k<lo i x
 up: ∀ k<h.length,k∈aN 0 st∨ ∃ j y,h[j]? =some y∧k∈ee j y
 apart: ∀ j y,h[j]? =some y→ ∀ k∈ee j y,k∉aN 0 st
 one: ∀ i j x y,h[i]? =some x→h[j]? =some y→ ∀ k,k∈ee i x→k∈ee j y→i=j
theorem Inv.nil:Inv [] [] []:={
 flat:=rfl
 good:=fun _ h=>by cases h
 len:=rfl
 node:=fun i x h=>by simp at h
 deep:=fun _ h=>by cases h
 cut:=fun a b _ j x h=>by simp at h
 lam:=fun i j x y h=>by simp at h
 mid:=fun i j x y h=>by simp at h
 up:=fun k h=>by simp at h
 apart:=fun j y h=>by simp at h
 one:=fun i j x y h=>by simp at h }
theorem MV (top:List STree): ∀ S∈top,S.d+1≤sU top:=by
 have: ∀ (l:List STree) (d:Nat),d≤l.foldl (fun d S=>max d (S.d+1)) d∧ ∀ S∈l,S.d+1≤l.foldl (fun d S=>max d (S.d+1)) d:=by
  intro l
  induction l with
  |nil=>intro d;exact ⟨VA _,fun _ h=>by cases h⟩
  |cons T r ih=>
   intro d;obtain ⟨h1,h2⟩:=ih (max d (T.d+1));refine ⟨?_,fun S hS=> ?_⟩
   ·rw [Wy];omega
   ·rw [Wy];rcases VN.1 hS with rfl|hS
    ·omega
    ·exact h2 S hS
 exact (this top 1).2
theorem eV {α:Type} {l:List α} {a x:α} {i:Nat} (h:(l++ [a])[i]? =some x):(i<l.length∧l[i]? =some x)∨(i=l.length∧x=a):=by
 rcases YQ i l.length with h1|h1|h1
 ·rw [VO h1] at h;exact .inl ⟨h1,h⟩
 ·subst h1;simp at h;exact .inr ⟨rfl,h.symm⟩
 ·rw [VJ (by simp;omega)] at h;cases h
theorem Inv.step {dn:List Nd} {st:List STree} {h:jC} (hI:Inv dn st h) {n:Nd} {l top:List STree} (hs:iN n st= .inr (l,top)):
 Inv (dn++ [n]) (l++ [bO n top]) (h++ [(top,bO n top)])∧st=l++top:=by
 unfold iN at hs;split at hs
 ·cases hs
 rename_i hf;split at hs
 ·cases hs
 rename_i hb;split at hs
 ·cases hs
 rename_i hd;simp only [Sum.inr.injEq,Prod.mk.injEq] at hs;obtain ⟨rfl,rfl⟩:=hs;have hst:st.take (st.length - (below n).toNat)++gJ st (below n).toNat=st:=Wh _ _;have hlk:(gJ st (below n).toNat).length=min st.length (below n).toNat:=by simp [gJ];omega
 generalize st.take (st.length - (below n).toNat)=l at hst ⊢;generalize gJ st (below n).toNat=top at hst hb hd hlk ⊢;subst hst;have hb1:(0:Int)≤below n∧uo n 0 top=true∧below n≤((l++top).length:Int):=by
  refine ⟨?_,?_,?_⟩
  ·have hk:fS n=true:=by
    cases hk:fS n
    ·exfalso;apply hf;intro h0;simp [bM,hk] at h0
    ·rfl
   unfold below;by_cases h7:n.kind=7
   ·simp [fS,h7] at hk;simp [h7];exact hk
   ·(repeat' split)<;>omega
  ·cases hh:uo n 0 top
   ·exact absurd (Or.inr hh) hb
   ·rfl
  ·omega
 obtain ⟨hb0,hfit,hble⟩:=hb1;have hbl:(top.length:Int)=below n:=by omega
 have hgt: ∀ S∈top,Good S:=fun S hS=>hI.good S (V9 _ hS);have hgl: ∀ S∈l,Good S:=fun S hS=>hI.good S (V5 _ hS);have hG:Good (bO n top):= .mk n top hgt (by omega) hbl hfit (by omega);have hflat:bq l++bq top=dn:=by rw [← cK];exact hI.flat
 have hlen:h.length=(bq l).length+(bq top).length:=by rw [hI.len,← hflat,Vn]
 have hlo:lo h.length (top,bO n top)=(bq l).length:=by simp only [lo,dE];omega
 have hkids:ee h.length (top,bO n top)=aN (0+(bq l).length) top:=by rw [ee,hlo,VD]
 have hroots:aN 0 (l++top)=aN 0 l++ee h.length (top,bO n top):=by rw [eK,hkids]
 have hroots' :aN 0 (l++ [bO n top])=aN 0 l++ [h.length]:=by
  rw [eK];simp only [aN,dE];congr 2;omega
 have hposl: ∀ S∈l,0<S.ns.length:=fun S hS=>(hgl S hS).pos;have hpost: ∀ S∈top,0<S.ns.length:=fun S hS=>(hgt S hS).pos;have hkb: ∀ k∈ee h.length (top,bO n top),(bq l).length≤k∧k<h.length:=fun k hk=>by
  rw [hkids] at hk;have:=lV hpost hk;omega
 have hkj: ∀ j y,h[j]? =some y→ ∀ k∈ee j y,k<j:=fun j y hy k hk=>by
  obtain ⟨m,_,e2,e3,_,e5,_⟩:=hI.node j y hy;have h1:=lV (fun T hT=>(e3 T hT).pos) hk;have h2:y.2.ns.length=(bq y.1).length+1:=by rw [e2,dE]
  simp only [lo] at h1;omega
 refine ⟨⟨?_,?_,?_,?_,?_,?_,?_,?_,?_,?_,?_⟩,rfl⟩
 ·rw [cK,oC];show bq l++(bq top++ [n])=dn++ [n];rw [← VC,hflat]
 ·intro S hS;rcases VH.1 hS with hS|hS
  ·exact hgl S hS
  ·rw [Vx.1 hS];exact hG
 ·simp [hI.len]
 ·intro i x hx;rcases eV hx with ⟨hi,hx⟩|⟨rfl,rfl⟩
  ·obtain ⟨m,e1,e2,e3,e4,e5,e6⟩:=hI.node i x hx;refine ⟨m,?_,e2,e3,e4,e5,?_⟩
   ·rw [VO (by rw [← hI.len];exact hi)];exact e1
   ·rw [Xu (by rw [← hI.len];exact hi)];exact e6
  ·refine ⟨n,by rw [hI.len];simp,rfl,hgt,hG,by simp only [dE];omega,?_⟩;rw [hlo,hI.len,Wl (by simp),← hflat,VC,List.drop_left]
   rfl
 ·intro x hx;rcases VH.1 hx with hx|hx
  ·obtain ⟨S,hS,hd1⟩:=hI.deep x hx;rcases VH.1 hS with hS|hS
   ·exact ⟨S,V5 _ hS,hd1⟩
   ·refine ⟨bO n top,V9 _ (Vx.2 rfl),?_⟩;have:=MV top S hS;simp only [bO];omega
  ·rw [Vx.1 hx];exact ⟨bO n top,V9 _ (Vx.2 rfl),VA _⟩
 ·intro a b hab j x hx hj
  -- the cut lies in l,or behind all
  rcases List.append_eq_append_iff.1 hab with ⟨c,hc1,hc2⟩|⟨c,hc1,hc2⟩
  ·-- a=l++c,[node]=c++b
   cases c with
   |nil=>
    rw [VB] at hc1;subst hc1;rcases eV hx with ⟨hi,hx⟩|⟨rfl,rfl⟩
    ·exact hI.cut a top rfl j x hx hj
    ·rw [hlo];exact VA _
   |cons T c' =>
    have hT:T=bO n top∧c' ++b= []:=by
     simp only [Vp,List.cons.injEq] at hc2;exact ⟨hc2.1.symm,hc2.2.symm⟩
    obtain ⟨rfl,hcb⟩:=hT;have hc' :c' = []:=(List.append_eq_nil_iff.1 hcb).1;subst hc';exfalso;have hj' :j<h.length+1:=by
     have:=(VI.1 hx).1;simpa using this
    rw [hc1,cK,oC,Vn,dE] at hj;omega
  ·-- l=a++c
   subst hc1;rcases eV hx with ⟨hi,hx⟩|⟨rfl,rfl⟩
   ·exact hI.cut a (c++top) (by simp) j x hx hj
   ·rw [hlo,cK,Vn];omega
 ·intro i j x y hx hy hji hle;rcases eV hx with ⟨hi,hx⟩|⟨rfl,rfl⟩
  ·rcases eV hy with ⟨hj,hy⟩|⟨rfl,rfl⟩
   ·exact hI.lam i j x y hx hy hji hle
   ·omega
  ·rcases eV hy with ⟨hj,hy⟩|⟨rfl,rfl⟩
   ·rw [hlo] at hle ⊢;exact hI.cut l top rfl j y hy hle
   ·exact VA _
 ·intro i j x y hx hy k hk hki hij;rcases eV hy with ⟨hj,hy⟩|⟨rfl,rfl⟩
  ·rcases eV hx with ⟨hi,hx⟩|⟨rfl,rfl⟩
   ·exact hI.mid i j x y hx hy k hk hki hij
   ·omega
  ·rcases eV hx with ⟨hi,hx'⟩|⟨rfl,rfl⟩
   ·rw [hkids] at hk;obtain ⟨a,S,b,hab,rfl⟩:=BR hk;have hS:=hpost S (by simp [hab]);have:=hI.cut (l++a++ [S]) b (by simp [hab]) i x hx';simp only [cK,oC,Vn] at this;omega
   ·omega
 ·intro k hk;rw [Vn,Vs] at hk;by_cases hkh:k=h.length
  ·left;rw [hroots',hkh];simp
  ·rcases hI.up k (by omega) with h1|⟨j,y,h1,h2⟩
   ·rw [hroots] at h1;rcases VH.1 h1 with h1|h1
    ·left;rw [hroots'];exact V5 _ h1
    ·right
     exact ⟨h.length,(top,bO n top),by simp,h1⟩
   ·right
    refine ⟨j,y,?_,h2⟩;rw [VO (VI.1 h1).1];exact h1
 ·intro j y hy k hk;rw [hroots'];intro hm;rcases eV hy with ⟨hj,hy⟩|⟨rfl,rfl⟩
  ·rcases VH.1 hm with hm|hm
   ·exact hI.apart j y hy k hk (by rw [hroots];exact V5 _ hm)
   ·have h1:=Vx.1 hm;have h2:=hkj j y hy k hk;omega
  ·have h1:=hkb k hk;rcases VH.1 hm with hm|hm
   ·have:=lV hposl hm;omega
   ·have:=Vx.1 hm;omega
 ·intro i j x y hx hy k hkx hky;rcases eV hx with ⟨hi,hx⟩|⟨rfl,rfl⟩
  ·rcases eV hy with ⟨hj,hy⟩|⟨rfl,rfl⟩
   ·exact hI.one i j x y hx hy k hkx hky
   ·exfalso;exact hI.apart i x hx k hkx (by rw [hroots];exact V9 _ hky)
  ·rcases eV hy with ⟨hj,hy⟩|⟨rfl,rfl⟩
   ·exfalso;exact hI.apart j y hy k hky (by rw [hroots];exact V9 _ hkx)
   ·rfl
theorem Bh: ∀ (r dn:List Nd) (st:List STree) (h:jC) (st' :List STree) (h' :jC),Inv dn st h→gH r st h=(0,st',h')→Inv (dn++r) st' h' ∧st'.length=1
 | [],dn,st,h,st',h',hI,hw=>by
  simp only [gH,Prod.mk.injEq] at hw;obtain ⟨h1,rfl,rfl⟩:=hw;refine ⟨by simpa using hI,?_⟩;split at h1
  ·assumption
  ·cases h1
 |n::r,dn,st,h,st',h',hI,hw=>by
  rw [gH] at hw
  cases hs:iN n st with
  |inl e=>
   rw [hs] at hw;simp only [Prod.mk.injEq] at hw;obtain ⟨rfl,_⟩:=hw;exfalso;unfold iN at hs;split at hs
   ·injection hs with hs;exact absurd hs (by assumption)
   ·split at hs
    ·cases hs
    ·split at hs<;>cases hs
  |inr x=>
   obtain ⟨l,top⟩:=x;rw [hs] at hw;have:=Bh r _ _ _ _ _ (hI.step hs).1 hw;simpa using this
theorem Lf {L:List Nd} {st:List STree} {h:jC} (hw:gH L [] []=(0,st,h)): ∃ S,st= [S]∧S.ns=L∧Good S∧Inv L [S] h:=by
 obtain ⟨hI,h1⟩:=Bh L [] [] [] st h Inv.nil hw
 match st,h1 with
 | [S],_=>
  rw [Vq] at hI;exact ⟨S,rfl,by rw [← hI.flat,oC],hI.good S (by simp),hI⟩
def bL:Nat→List STree→List Pt
 |_,[]=> []
 |o,S::r=>⟨o+S.ns.length - 1,S.d,decide (S.kind=3)⟩::bL (o+S.ns.length) r
theorem lY (o:Nat) (l:List STree):(bL o l).length=l.length:=by
 induction l generalizing o with
 |nil=>rfl
 |cons S r ih=>simp [bL,ih]
theorem yA (o:Nat) (a b:List STree):bL o (a++b)=bL o a++bL (o+(bq a).length) b:=by
 induction a generalizing o with
 |nil=>simp [bL,bq]
 |cons S r ih=>simp [bL,ih,gV,WF]
theorem Dq (o:Nat) (l:List STree) (m:Nat):(bL o l).drop m=bL (o+(bq (l.take m)).length) (l.drop m):=by
 induction l generalizing o m with
 |nil=>simp [bL]
 |cons S r ih=>cases m with
  |zero=>simp [bq]
  |succ m=>simp [bL,ih,gV,WF]
theorem Dp (o:Nat) (l:List STree) (m:Nat):(bL o l).take m=bL o (l.take m):=by
 induction l generalizing o m with
 |nil=>simp [bL]
 |cons S r ih=>cases m with
  |zero=>simp [bL]
  |succ m=>simp [bL,ih]
theorem AE (o:Nat) (l:List STree):(bL o l).map Pt.root=aN o l:=by
 induction l generalizing o with
 |nil=>rfl
 |cons S r ih=>simp [bL,aN,ih]
theorem AF (o:Nat) (l:List STree):cL (bL o l)=sU l:=by
 have: ∀ (l:List STree) (o d:Nat),(bL o l).foldl (fun d p=>max d (p.depth+1)) d=l.foldl (fun d S=>max d (S.d+1)) d:=by
  intro l
  induction l with
  |nil=>intro o d;rfl
  |cons S r ih=>intro o d;rw [bL,Wy,Wy,ih]
 exact this l o 1
theorem GI {L:List Nd} {o:Nat} {a b:List STree} {S:STree} (hS:0<S.ns.length) (hL:(L.drop o).take (bq (a++S::b)).length=bq (a++S::b)):jS L (o+(bq a).length+S.ns.length - 1)=S.kind:=by
 have h1:(bq (a++S::b))[(bq a).length+(S.ns.length - 1)]? =S.ns[S.ns.length - 1]? :=by
  rw [cK,VW (by omega),Nat.add_sub_cancel_left,gV,VO (by omega)]
 rw [← hL,Yo] at h1;rw [if_pos (by rw [cK,gV];simp;omega),Wz] at h1;rw [jS,STree.kind,XG,← h1];congr 3;omega
theorem GW {L:List Nd} (n:Nd) {o:Nat}: ∀ (b a:List STree) (i:Int),(∀ S∈b,0<S.ns.length)→(L.drop o).take (bq (a++b)).length=bq (a++b)→fu L n i (bL (o+(bq a).length) b)=uo n i b
 | [],a,i,_,_=>rfl
 |S::r,a,i,hp,hL=>by
  have h1:=GI (hp S Vr) hL;have h2:=GW n r (a++ [S]) (i+1) (fun T hT=>hp T (Vv _ hT)) (by simpa using hL);rw [cK,oC,Vn,← WF] at h2;rw [bL,fu,uo,h2];congr 1;simp only [vD,U2,h1]
def lQ (h:jC):List oE:=h.zipIdx.map fun x=>(ee x.2 x.1,x.1.2.d)
theorem Ag (h:jC) (x:List STree × STree):lQ (h++ [x])=lQ h++ [(ee h.length x,x.2.d)]:=by
 simp [lQ,List.zipIdx_append]
theorem EP {L:List Nd}: ∀ (r dn:List Nd) (st:List STree) (h:jC),dn++r=L→Inv dn st h→fV L r dn.length (bL 0 st) (lQ h)=((gH r st h).1,lQ (gH r st h).2.2)
 | [],dn,st,h,hL,hI=>by simp [fV,gH,lY]
 |n::r,dn,st,h,hL,hI=>by
  have hlast: ∀ k,bD (bL 0 st) k=bL (bq (st.take (st.length - k))).length (gJ st k):=fun k=>by
   unfold bD gJ;rw [lY,Dq,VD]
  have hfits: ∀ k,fu L n 0 (bD (bL 0 st) k)=uo n 0 (gJ st k):=fun k=>by
   rw [hlast]
   have:=GW (L:=L) n (o:=0) (gJ st k) (st.take (st.length - k)) 0 (fun S hS=>(hI.good S (XK hS)).pos) (by
    rw [show st.take (st.length - k)++gJ st k=st from Wh _ _,hI.flat,WH,← hL,XZ])
   rwa [VD] at this
  have hdep: ∀ k,cL (bD (bL 0 st) k)=sU (gJ st k):=fun k=>by rw [hlast,AF]
  rw [fV,gH];have hs:kw L n dn.length (bL 0 st)=match iN n st with
   | .inl e=> .inl e
   | .inr (l,top)=> .inr (bL 0 (l++ [bO n top]),ee h.length (top,bO n top),(bO n top).d):=by
   unfold kw iN;rw [lY,hfits,hdep];by_cases c1:bM n≠0
   ·rw [if_pos c1,if_pos c1]
   rw [if_neg c1,if_neg c1];by_cases c2:(st.length:Int)<below n∨uo n 0 (gJ st (below n).toNat)=false
   ·rw [if_pos c2,if_pos c2]
   rw [if_neg c2,if_neg c2];by_cases c3:32<sU (gJ st (below n).toNat)
   ·rw [if_pos c3,if_pos c3]
   rw [if_neg c3,if_neg c3];have hfl:bq (st.take (st.length - (below n).toNat))++bq (gJ st (below n).toNat)=dn:=by
    rw [← cK,show st.take (st.length - (below n).toNat)++gJ st (below n).toNat=st from Wh _ _];exact hI.flat
   have hlen:dn.length=(bq (st.take (st.length - (below n).toNat))).length+(bq (gJ st (below n).toNat)).length:=by rw [← hfl,Vn]
   have e1:=Dp 0 st (st.length - (below n).toNat);have e2:(bD (bL 0 st) (below n).toNat).map Pt.root=ee h.length (gJ st (below n).toNat,bO n (gJ st (below n).toNat)):=by
    rw [hlast,AE,ee];congr 1;simp only [lo,dE,hI.len];omega
   dsimp only;rw [e1,e2,yA];simp only [bL,dE,Ja];congr 4;have e3:0+(bq (st.take (st.length - (below n).toNat))).length+((bq (gJ st (below n).toNat)).length+1) - 1=dn.length:=by omega
   rw [e3]
   rfl
  rw [hs]
  cases hsf:iN n st with
  |inl e=>rfl
  |inr x=>
   obtain ⟨l,top⟩:=x;dsimp only;have h1:=EP r (dn++ [n]) (l++ [bO n top]) (h++ [(top,bO n top)]) (by simpa using hL) (hI.step hsf).1;rw [Ag,Vn,Vs] at h1;exact h1
theorem EO (L:List Nd):fV L L 0 [] []=((gH L [] []).1,lQ (gH L [] []).2.2):=by
 have:=EP (L:=L) L [] [] [] rfl Inv.nil;exact this
theorem qF (P:List STree→jC→Prop) (hs: ∀ dn n st h l top,Inv dn st h→P st h→iN n st= .inr (l,top)→P (l++ [bO n top]) (h++ [(top,bO n top)])):
 ∀ (r dn:List Nd) (st:List STree) (h:jC) (st' :List STree) (h' :jC),Inv dn st h→P st h→gH r st h=(0,st',h')→P st' h'
 | [],dn,st,h,st',h',hI,hP,hw=>by
  simp only [gH,Prod.mk.injEq] at hw;obtain ⟨_,rfl,rfl⟩:=hw;exact hP
 |n::r,dn,st,h,st',h',hI,hP,hw=>by
  rw [gH] at hw
  cases hsf:iN n st with
  |inl e=>
   rw [hsf] at hw;simp only [Prod.mk.injEq] at hw;obtain ⟨rfl,_⟩:=hw;exfalso;unfold iN at hsf;split at hsf
   ·injection hsf with hs;exact absurd hs (by assumption)
   ·split at hsf
    ·cases hsf
    ·split at hsf<;>cases hsf
  |inr x=>
   obtain ⟨l,top⟩:=x;rw [hsf] at hw;exact qF P hs r _ _ _ _ _ (hI.step hsf).1 (hs _ _ _ _ _ _ hI hP hsf) hw
structure RootOk (st:List STree) (h:jC):Prop where
 root: ∀ a S b,st=a++S::b→ ∃ top,h[(bq a).length+S.ns.length - 1]? =some (top,S)
 kid: ∀ j y,h[j]? =some y→ ∀ a S b,y.1=a++S::b→ ∃ top,h[lo j y+(bq a).length+S.ns.length - 1]? =some (top,S)
theorem zf {α:Type} {l:List α} {a x:α} {i:Nat} (h:l[i]? =some x):(l++ [a])[i]? =some x:=by
 rw [VO (VI.1 h).1];exact h
theorem Inv.facts {dn:List Nd} {st:List STree} {h:jC} (hI:Inv dn st h) {n:Nd} {l top:List STree} (hs:iN n st= .inr (l,top)):
 st=l++top∧(bq l).length+(bq top).length=h.length∧lo h.length (top,bO n top)=(bq l).length∧(∀ S∈l,0<S.ns.length)∧(∀ S∈top,0<S.ns.length):=by
 obtain ⟨hI',rfl⟩:=hI.step hs;have h1:(bq l).length+(bq top).length=h.length:=by rw [hI.len,← hI.flat,cK,Vn]
 refine ⟨rfl,h1,by simp only [lo,dE];omega,fun S hS=>(hI.good S (V5 _ hS)).pos,fun S hS=>(hI.good S (V9 _ hS)).pos⟩
theorem FB {dn:List Nd} {n:Nd} {st:List STree} {h:jC} {l top:List STree} (hI:Inv dn st h) (hP:RootOk st h) (hs:iN n st= .inr (l,top)):RootOk (l++ [bO n top]) (h++ [(top,bO n top)]):=by
 obtain ⟨rfl,hlen,hlo,hl,ht⟩:=hI.facts hs;refine ⟨fun a S b hab=> ?_,fun j y hy a S b hab=> ?_⟩
 ·rcases List.append_eq_append_iff.1 hab with ⟨c,hc1,hc2⟩|⟨c,hc1,hc2⟩
  ·cases c with
   |nil=>
    simp only [Vq,List.cons.injEq] at hc2;obtain ⟨rfl,_⟩:=hc2;rw [VB] at hc1;subst hc1;refine ⟨top,?_⟩;rw [dE,show (bq a).length+((bq top).length+1) - 1=h.length by omega];simp
   |cons T c' =>
    exfalso;have:=congrArg List.length hc2;simp at this
  ·subst hc1
   cases c with
   |nil=>
    simp only [Vq,List.cons.injEq] at hc2;obtain ⟨rfl,_⟩:=hc2;refine ⟨top,?_⟩;rw [VB] at hlen;rw [dE,show (bq a).length+((bq top).length+1) - 1=h.length by omega];simp
   |cons T c' =>
    simp only [Vp,List.cons.injEq] at hc2;obtain ⟨rfl,_⟩:=hc2;obtain ⟨t,h1⟩:=hP.root a S (c' ++top) (by simp);exact ⟨t,zf h1⟩
 ·rcases eV hy with ⟨hj,hy⟩|⟨rfl,rfl⟩
  ·obtain ⟨t,h1⟩:=hP.kid j y hy a S b hab;exact ⟨t,zf h1⟩
  ·dsimp only at hab;subst hab;obtain ⟨t,h1⟩:=hP.root (l++a) S b (by simp);refine ⟨t,zf ?_⟩;rw [hlo];rw [cK,Vn] at h1;exact h1
def iE (o:List Int) (ks:List Nat) (v:Int):List Int:=ks.foldl (fun o k=>o.set k v) o
theorem rz (o:List Int) (ks:List Nat) (v:Int):(iE o ks v).length=o.length:=by
 unfold iE
 induction ks generalizing o with
 |nil=>rfl
 |cons k r ih=>rw [Wy,ih,Wr]
theorem rZ (o:List Int) (ks:List Nat) (v:Int) (k:Nat) (hk:k<o.length):(iE o ks v)[k]? =if k∈ks then some v else o[k]? :=by
 unfold iE
 induction ks generalizing o with
 |nil=>simp
 |cons j r ih=>
  rw [Wy,ih (o.set j v) (by simpa using hk),Ya];by_cases h1:k∈r
  ·simp [h1]
  ·by_cases h2:j=k
   ·subst h2;simp [hk]
   ·simp [h1,h2];exact fun e=>absurd e.symm h2
def Ku (o:List Int) (x:(List STree × STree) × Nat):List Int:=iE (o++ [-1]) (ee x.2 x.1) (x.2:Int)
def lZ (h:jC):List Int:=h.zipIdx.foldl Ku []
theorem nS (h:jC) (x:List STree × STree):lZ (h++ [x])=iE (lZ h++ [-1]) (ee h.length x) (h.length:Int):=by
 simp [lZ,List.zipIdx_append,Ku]
structure ParOk (st:List STree) (h:jC):Prop where
 len:(lZ h).length=h.length
 kid: ∀ j y,h[j]? =some y→ ∀ k∈ee j y,(lZ h)[k]? =some (j:Int)
 root: ∀ k∈aN 0 st,(lZ h)[k]? =some (-1)
theorem yG {dn:List Nd} {n:Nd} {st:List STree} {h:jC} {l top:List STree} (hI:Inv dn st h) (hP:ParOk st h) (hs:iN n st= .inr (l,top)):ParOk (l++ [bO n top]) (h++ [(top,bO n top)]):=by
 have hI' :=(hI.step hs).1;obtain ⟨rfl,hlen,hlo,hl,ht⟩:=hI.facts hs;have hL:(lZ h++ [-1]).length=h.length+1:=by simp [hP.len]
 have hkn: ∀ k∈ee h.length (top,bO n top),(bq l).length≤k∧k<h.length:=fun k hk=>by
  rw [ee,hlo] at hk;have:=lV ht hk;omega
 have hkr: ∀ k,k∈ee h.length (top,bO n top)↔k∈aN (0+(bq l).length) top:=fun k=>by rw [ee,hlo,VD]
 refine ⟨by rw [nS,rz,hL];simp,fun j y hy k hk=> ?_,fun k hk=> ?_⟩
 ·have hkj:k<(h++ [(top,bO n top)]).length:=by
   obtain ⟨m,_,e2,e3,_,e5,_⟩:=hI'.node j y hy;have h1:=lV (fun T hT=>(e3 T hT).pos) hk;have h2:y.2.ns.length=(bq y.1).length+1:=by rw [e2,dE]
   have h3:=(VI.1 hy).1;simp only [lo] at h1;omega
  rw [nS,rZ _ _ _ _ (by rw [hL];simpa using hkj)];rcases eV hy with ⟨hj,hy'⟩|⟨rfl,rfl⟩
  ·rw [if_neg]
   ·have h1:=hP.kid j y hy' k hk;rw [VO (VI.1 h1).1];exact h1
   ·intro hm;have:=hI'.one j h.length y (top,bO n top) hy (by simp) k hk hm;omega
  ·rw [if_pos hk]
 ·rw [eK] at hk;rcases VH.1 hk with hk|hk
  ·have h1:=lV hl hk;rw [nS,rZ _ _ _ _ (by rw [hL];omega),if_neg]
   ·have h2:=hP.root k (by rw [eK];exact V5 _ hk);rw [VO (VI.1 h2).1];exact h2
   ·intro hm;have:=hkn k hm;omega
  ·simp only [aN,dE,Vx] at hk;have hkh:k=h.length:=by omega
   subst hkh;rw [nS,rZ _ _ _ _ (by rw [hL];omega),if_neg]
   ·rw [VW (by rw [hP.len];exact VA _),hP.len];simp
   ·intro hm;have:=hkn _ hm;omega
structure Whole (L:List Nd) (S:STree) (h:jC):Prop where
 walk:gH L [] []=(0,[S],h)
 ns:S.ns=L
 good:Good S
 inv:Inv L [S] h
 rootOk:RootOk [S] h
 parOk:ParOk [S] h
 pos:0<L.length
 last: ∃ top,h[L.length - 1]? =some (top,S)
theorem NF {L:List Nd} {st:List STree} {h:jC} (hw:gH L [] []=(0,st,h)): ∃ S,st= [S]∧Whole L S h:=by
 obtain ⟨S,rfl,h1,h2,h3⟩:=Lf hw;have h4:=qF RootOk (fun dn n st h l top=>FB) L [] [] [] _ _ Inv.nil ⟨fun a S b hab=>(by simp at hab),fun j y hy=>(by simp at hy)⟩ hw;have h5:=qF ParOk (fun dn n st h l top=>yG) L [] [] [] _ _ Inv.nil ⟨rfl,fun j y hy=>(by simp at hy),fun k hk=>(by simp [aN] at hk)⟩ hw;refine ⟨S,rfl,hw,h1,h2,h3,h4,h5,by rw [← h1];exact h2.pos,?_⟩;obtain ⟨top,h6⟩:=h4.root [] S [] rfl;rw [h1] at h6;simp only [bq,VZ,WN,VD] at h6;exact ⟨top,h6⟩
theorem Hr {L:List Nd} (h:eD L=0):L.length≤256∧ ∃ S H,Whole L S H∧S.kind≠3∧kN L false=(0,lQ H):=by
 have hsm:L.length≤256∧0<L.length∧(fV L L 0 [] []).1=0∧jS L (L.length - 1)≠3∧kN L false=(0,(fV L L 0 [] []).2):=by
  unfold eD at h;unfold kN at h ⊢;split at h
  ·cases h
  rename_i h1;split at h
  ·cases h
  rename_i h2;split at h
  ·rename_i h3;exact absurd h h3
  rename_i h3;split at h
  ·cases h
  rename_i h4;rw [if_neg h1,if_neg h2,if_neg h3,if_neg h4];exact ⟨by omega,by omega,by omega,fun e=>h4 ⟨rfl,e⟩,rfl⟩
 obtain ⟨h1,h2,h3,h4,h5⟩:=hsm;rw [EO] at h3 h5;dsimp only at h3 h5;have hw:gH L [] []=(0,(gH L [] []).2.1,(gH L [] []).2.2):=by rw [← h3]
 obtain ⟨S,e,hW⟩:=NF hw;refine ⟨h1,S,_,hW,?_,h5⟩;rw [STree.kind,hW.ns,XG];exact h4
theorem LG {n:Nd} {st l top:List STree} (hs:iN n st= .inr (l,top)):bM n=0∧(top.length:Int)=below n:=by
 unfold iN at hs;split at hs
 ·cases hs
 rename_i hf;split at hs
 ·cases hs
 rename_i hb;split at hs
 ·cases hs
 simp only [Sum.inr.injEq,Prod.mk.injEq] at hs;obtain ⟨rfl,rfl⟩:=hs;have hlk:(gJ st (below n).toNat).length=min st.length (below n).toNat:=by simp [gJ];omega
 have hb0:(0:Int)≤below n:=by
  have hk:fS n=true:=by
   cases hk:fS n
   ·exfalso;apply hf;intro h0;simp [bM,hk] at h0
   ·rfl
  unfold below;by_cases h7:n.kind=7
  ·simp [fS,h7] at hk;simp [h7];exact hk
  ·(repeat' split)<;>omega
 have hle: ¬ (st.length:Int)<below n:=fun h=>hb (Or.inl h);exact ⟨by omega,by omega⟩
def SY (h:jC):Prop:= ∀ (j:Nat) (y:List STree × STree),h[j]? =some y→ ∃ n,(y.1.length:Int)=below n∧y.2=bO n y.1∧bM n=0
theorem Whole.lens {L:List Nd} {S:STree} {h:jC} (hW:Whole L S h):SY h:=by
 refine qF (fun _ h=>SY h) (fun dn n st h l top hI hP hs=> ?_) L [] [] [] [S] h ?_ ?_ hW.walk
 ·intro j y hy;by_cases hj:j<h.length
  ·rw [VO hj] at hy;exact hP j y hy
  ·rw [VW (by omega)] at hy;obtain ⟨h1,h2⟩:=LG hs;have e:y=(top,bO n top):=by
    cases hq:j - h.length with
    |zero=>rw [hq] at hy;exact (Option.some.inj hy).symm
    |succ k=>rw [hq] at hy;simp at hy
   subst e;exact ⟨n,h2,rfl,h1⟩
 ·exact Inv.nil
 ·intro j y hy;simp at hy
def IB (m:Nd):Prop:=m.kind=7∧46≤m.fn
theorem Rv {m:Nd} (hf:bM m=0) (hr:IB m):below m=1:=by
 obtain ⟨h7,h46⟩:=hr;unfold bM at hf;split at hf
 ·cases hf
 rw [if_neg (show ¬ m.kind≠7 by omega)] at hf;split at hf
 ·rename_i h;exact absurd hf h
 rename_i ha;split at hf
 ·cases hf
 rename_i hn;have h50:m.fn≤50:=by
  by_cases h:m.fn≤50
  ·exact h
  ·exfalso;apply ha;have hk:dF m.fn=false:=by
    unfold dF;rw [decide_eq_true (show 1≤m.fn by omega),decide_eq_false h]
    rfl
   unfold fO;rw [hk,if_neg (by omega),if_neg (by omega),if_neg (by omega),if_neg (by omega),if_neg (by omega),if_neg (by omega)];decide
 have har:fO m.fn=(1,1,0):=by
  have:m.fn=46∨m.fn=47∨m.fn=48∨m.fn=49∨m.fn=50:=by omega
  rcases this with h|h|h|h|h<;>rw [h]<;>decide+kernel
 rw [har] at hn;dsimp only at hn;unfold below;rw [if_neg (by omega),if_neg (by omega),if_pos h7];omega
theorem I6 {L:List Nd} {S:STree} {h:jC} (hW:Whole L S h) {i:Nat} (hi:i<L.length):
 ∃ u:Int,(lZ h)[i]? =some u∧(u= -1∨ ∃ j:Nat,u=(j:Int)∧j<L.length)∧(∀ m,L[i+1]? =some m→IB m→u=((i+1:Nat):Int))∧(∀ (j:Nat) m,u=(j:Int)→L[j]? =some m→IB m→j=i+1):=by
 have hHl:=hW.inv.len;have key: ∀ j m,L[j]? =some m→IB m→ ∃ y,h[j]? =some y∧0<j∧ee j y= [j - 1]:=by
  intro j m hm hr;have hj:j<L.length:=(VI.1 hm).1;obtain ⟨y,hy⟩: ∃ y,h[j]? =some y:=⟨_,Vo (by omega)⟩;obtain ⟨n,hn,e2,hgt,hgT,hTl,hseg⟩:=hW.inv.node j y hy;obtain ⟨n',hl',e2',hf'⟩:=hW.lens j y hy;have hnn:n' =n:=by
   rw [e2] at e2';have:=congrArg (fun T:STree=>T.ns.getLast?) e2';simpa [bO] using this.symm
  subst hnn;rw [hm] at hn;obtain rfl:=Option.some.inj hn;rw [Rv hf' hr] at hl';obtain ⟨T,hT⟩: ∃ T,y.1= [T]:=by
   match hq:y.1,hl' with
   | [T],_=>exact ⟨T,rfl⟩
   | [],h=>simp at h
   |_::_::_,h=>simp at h;omega
  have hlen:y.2.ns.length=T.ns.length+1:=by rw [e2,dE,hT];simp [bq]
  have hTp:0<T.ns.length:=(hgt T (by rw [hT];simp)).pos;refine ⟨y,hy,by omega,?_⟩;unfold ee lo;rw [hT];simp only [aN,List.cons.injEq,and_true];omega
 have hpk:=hW.parOk;have hup: ∃ u:Int,(lZ h)[i]? =some u∧(u= -1∨ ∃ j:Nat,u=(j:Int)∧j<L.length∧ ∃ y,h[j]? =some y∧i∈ee j y):=by
  rcases hW.inv.up i (by omega) with hr|⟨j,y,hy,hk⟩
  ·exact ⟨-1,hpk.root i hr,.inl rfl⟩
  ·have hj:j<h.length:=(VI.1 hy).1;exact ⟨(j:Int),hpk.kid j y hy i hk,.inr ⟨j,rfl,by omega,y,hy,hk⟩⟩
 obtain ⟨u,hu,hcase⟩:=hup;refine ⟨u,hu,?_,?_,?_⟩
 ·rcases hcase with h|⟨j,h1,h2,_⟩
  ·exact .inl h
  ·exact .inr ⟨j,h1,h2⟩
 ·intro m hm hr;obtain ⟨y,hy,_,hk⟩:=key (i+1) m hm hr;have:=hpk.kid (i+1) y hy i (by rw [hk];simp);rw [hu] at this;exact Option.some.inj this
 ·intro j m hj hm hr;rcases hcase with h|⟨j',h1,h2,y',hy',hk'⟩
  ·omega
  ·obtain rfl:j=j' :=by omega
   obtain ⟨y,hy,hp,hk⟩:=key j m hm hr;rw [hy'] at hy;obtain rfl:=Option.some.inj hy;rw [hk] at hk';have:=Vx.1 hk';omega
end Go.SL
namespace Go.SL
open Go Go.Proofs
attribute [local irreducible] W WL WQ WG WA VOp thn blk bg aS FnAt FnIn
theorem Fj {n:Nd} {st l top:List STree} (hs:iN n st= .inr (l,top)):(top.length:Int)=below n∧st=l++top:=by
 unfold iN at hs;split at hs
 ·cases hs
 rename_i hf;split at hs
 ·cases hs
 rename_i hb;split at hs
 ·cases hs
 rename_i hd;simp only [Sum.inr.injEq,Prod.mk.injEq] at hs;obtain ⟨rfl,rfl⟩:=hs;have h0:=(vE (n:=n) (by omega)).1;refine ⟨?_,(Wh _ _).symm⟩;simp only [gJ,VS];omega
theorem HR {n:Nd} {r:List Nd} {st st' :List STree} {h h' :jC} (hw:gH (n::r) st h=(0,st',h')): ∃ l top,iN n st= .inr (l,top)∧gH r (l++ [bO n top]) (h++ [(top,bO n top)])=(0,st',h'):=by
 rw [gH] at hw
 cases hsf:iN n st with
 |inl e=>
  rw [hsf] at hw;simp only [Prod.mk.injEq] at hw;obtain ⟨rfl,_⟩:=hw;exfalso;unfold iN at hsf;split at hsf
  ·injection hsf with hs;exact absurd hs (by assumption)
  ·split at hsf
   ·cases hsf
   ·split at hsf<;>cases hsf
 |inr x=>
  obtain ⟨l,top⟩:=x;rw [hsf] at hw;exact ⟨l,top,rfl,hw⟩
theorem wC {st:List STree} (hp: ∀ S∈st,0<S.ns.length):st.length≤(bq st).length:=by
 induction st with
 |nil=>exact Vt _
 |cons S r ih=>
  have h1:=hp S Vr;have h2:=ih fun T hT=>hp T (Vv _ hT);rw [gV,Vn,Vw];omega
theorem Fu (o:List Int) (ks:List Nat) (j:Nat) (h:j<ks.length) (v:Int):iE o (ks.take (j+1)) v=(iE o (ks.take j) v).set ks[j] v:=by
 unfold iE;rw [Vu h,Yb]
 rfl
def jH (l:List Int):List Value:=l.map (Value.int .i64)
theorem DI (l:List Int):(jH l).length=l.length:=by simp [jH]
theorem MM {l:List Int} {i:Nat} {u:Int} (h:l[i]? =some u):(jH l)[i]? =some (.int .i64 u):=by simp [jH,h]
theorem ML (l:List Int) (i:Nat) (v:Int):(jH l).set i (.int .i64 v)=jH (l.set i v):=by simp [jH,List.map_set]
theorem MK (l:List Nat): ∀ u∈ma l,u.oneCell' =true:=by
 intro u hu;obtain ⟨a,_,rfl⟩:=VM.1 hu
 rfl
theorem JT (L:List Nd) (hlen:L.length≤256) (S:STree) (Hi:jC) (hW:Whole L S Hi) (tv:Value) (w:World) (ht:Reads w tv L.length (L.flatMap bu)):
 FnAt Tryz.prog 167 [tv] w fun v H=> ∃ A cap,v=sl A L.length cap∧H= [.own A 3 1 L.length cap (jH (lZ Hi))]:=by
 have ht' :=ht;obtain ⟨At,ct,rfl,ht1,ht2,ht3⟩:=ht;refine aA Tryz.func167 rfl Tryz.ntmps167 rfl ?_;refine aI 3 1 ?_;refine aI 3 1 ?_;repeat' (first|refine sT ?_|refine sM fun _=>?_|refine sC ?_ ?_<;>intro hb<;>try omega|fail)
 refine ay [0] rfl (fun x:Nat × List STree × jC × (Option Nat × Nat) × (Option Nat × Nat)=> [(3,sl x.2.2.2.1.1 x.1 x.2.2.2.1.2),(4,sl x.2.2.2.2.1 x.2.1.length x.2.2.2.2.2),(5,.int .i64 (x.1:Int))])
  (fun x=> [.own x.2.2.2.1.1 3 1 x.1 x.2.2.2.1.2 (jH (lZ x.2.2.1)),.own x.2.2.2.2.1 3 1 x.2.1.length x.2.2.2.2.2 (ma (aN 0 x.2.1))])
  (fun x=>x.1≤L.length∧Inv (L.take x.1) x.2.1 x.2.2.1∧ParOk x.2.1 x.2.2.1∧gH (L.drop x.1) x.2.1 x.2.2.1=(0,[S],Hi)) (fun x=>L.length - x.1) (0,[],[],(none,0),(none,0))
  ⟨by omega,Inv.nil,⟨rfl,fun j y hy=>(by simp at hy),fun k hk=>(by simp [aN] at hk)⟩,hW.walk⟩ sB mS ?_
 rintro ⟨i,st,h,⟨A1,c1⟩,⟨A2,c2⟩⟩ ⟨hi,hI,hP,hw⟩;dsimp only at hi hI hP hw ⊢;have hhl:h.length=i:=by rw [hI.len,VQ];omega
 by_cases hlt:i<L.length
 ·rw [Vy hlt] at hw;obtain ⟨l,top,hs,hw'⟩:=HR hw;obtain ⟨hbl,hst⟩:=Fj hs;obtain ⟨_,hlen2,hlo,hlp,htp⟩:=hI.facts hs;have hP' :=yG hI hP hs;have hI' :=(hI.step hs).1;have htk:L.take (i+1)=L.take i++ [L[i]]:=Vu hlt;rw [← htk] at hI';obtain ⟨gt,ot,rfl,hrt⟩:=ht3 (by omega);have hrn:=hrt.elem cR i hlt;have hbel:=fun w=>hbl ▸ wo L[i] w;generalize L[i]=n at hrn hbel hs hw' hbl hlo hP' hI';have hkids:aN 0 (l++top)=aN 0 l++ee h.length (top,bO n top):=by rw [eK,ee,hlo,VD]
  have hkl:(ee h.length (top,bO n top)).length=top.length:=nN _ _;have hpar:=nS h (top,bO n top);have hkb: ∀ k∈ee h.length (top,bO n top),k<i:=fun k hk=>by
   rw [ee,hlo] at hk;have:=(lV htp hk).2;omega
  have hset:=fun (o:List Int) (j:Nat) (hj:j<(ee h.length (top,bO n top)).length) (v:Int)=>Fu o (ee h.length (top,bO n top)) j hj v;generalize ee h.length (top,bO n top)=K at hkids hkl hpar hkb hset;subst hst;have hll:(l++top).length=l.length+top.length:=Vn;have hrl:(aN 0 l).length=l.length:=nN _ _;have hsmall:l.length+top.length≤256:=by
   have h1:=wC hlp;have h2:=wC htp;omega
  rw [hll];repeat' (first|apply dB;(iterate 3 exact rfl);(repeat first|exact .hd|apply Sel.tl|apply In.tl);intro w hm;exact hm.cells_own (by (repeat first|exact .hd|apply Sel.tl|apply In.tl));exact rfl;simp [Value.oneCell',sl];omega;simp only [maxLen];omega;intro A' cap' hA'|apply ag;exact rfl;exact rfl;intro w hm;exact hbel w|refine zZJ ?_|refine sM fun _=>?_|refine sC ?_ ?_<;>intro hb<;>try omega|fail)
  rw [X5];have e0:jH (lZ h)++ [.int .i64 (-1)]=jH (iE (lZ h++ [-1]) (K.take 0) (i:Int)):=by simp [jH,iE]
  rw [e0]
  refine ay [0,3,4,5,6] rfl (fun j:Nat=> [(7,.int .i64 ((l.length+j:Nat):Int))]) (fun j=> [.own A' 3 1 (i+1) cap' (jH (iE (lZ h++ [-1]) (K.take j) (i:Int))),.own A2 3 1 (l.length+top.length) c2 (ma (aN 0 (l++top)))])
   (fun j=>j≤top.length) (fun j=>top.length - j) 0 (Vt _) sB mS ?_
  rintro j hj;by_cases hjk:j<top.length
  ·refine ba (.tl .hd) (by omega) fun g2 hA2=> ?_;refine ba .hd (by omega) fun g1 hA1=> ?_;subst hA2 hA1;have hKj:=Vo (show j<K.length by omega);have hkj:=hkb _ (VL (show j<K.length by omega));have hs1:=hset (lZ h++ [-1]) j (by omega) (i:Int);generalize K[j]=kj at hKj hkj hs1;have hrt2:(ma (aN 0 (l++top)))[0+(l.length+j)*1]? =some (.int .i64 (kj:Int)):=by
    rw [hkids,VD,Wd,ma,VG,VW (by omega),show l.length+j - (aN 0 l).length=j by omega,hKj]
    rfl
   have hsl:(iE (lZ h++ [-1]) (K.take j) (i:Int)).length=i+1:=by rw [rz];simp [hP.len,hhl]
   have hcell:(jH (iE (lZ h++ [-1]) (K.take j) (i:Int))).set (0+kj*1) (.int .i64 (i:Int))=jH (iE (lZ h++ [-1]) (K.take (j+1)) (i:Int)):=by
    rw [VD,Wd,ML,hs1]
   repeat' first|apply ai;exact rfl;apply aq;exact rfl;exact pK;exact hrt2|apply aW;exact rfl;exact rfl;exact pK;exact rfl;rw [DI];omega;rw [hcell]|refine zZJ ?_|refine sM fun _=>?_|refine sC ?_ ?_<;>intro hb<;>try omega|fail
   refine ⟨j+1,?_,(by first|omega|dsimp only;omega),sB,sB,mS⟩;exact hjk
  ·have e:j=top.length:=by omega
   subst e;rw [Wl (by omega)];have htake:(ma (aN 0 (l++top))).take (l.length*1)=ma (aN 0 l):=by
    rw [hkids,Wd,ma,← List.map_take,YZ hrl];rfl
   have hl1:(ma (aN 0 l)).length=l.length*1:=by rw [DH,hrl,Wd]
   refine vZ (A:=A2) (.tl .hd) fun q1 q2 q3=> ?_;repeat' (first|apply dN;exact rfl;intro gb|apply ai;exact rfl;apply EU (hi:=l.length);exact rfl;exact rfl;omega|apply dA (n' :=0) (c:=0) (A:=some _) (m:=l.length) (news:=ma (aN 0 l));(iterate 3 exact rfl);exact pK;intro w' hm;rw [← htake];exact Reads.of_own_take (A:=A2) hm pK (Nat.le_add_right _ _);exact hl1;exact MK _;omega;simp only [maxLen];omega;intro A4 c4 h4|apply dB;(iterate 3 exact rfl);(repeat first|exact .hd|apply Sel.tl|apply In.tl);intro w hm;exact hm.cells_own (by (repeat first|exact .hd|apply Sel.tl|apply In.tl));exact rfl;simp [Value.oneCell',sl];omega;simp only [maxLen];omega;intro A5 c5 h5|refine zZJ ?_|refine sM fun _=>?_|refine sC ?_ ?_<;>intro hb<;>try omega|fail)
   have e1:iE (lZ h++ [-1]) K (i:Int)=lZ (h++ [(top,bO n top)]):=by rw [hpar,hhl]
   have e2: []++ma (aN 0 l)++ [.int .i64 (i:Int)]=ma (aN 0 (l++ [bO n top])):=by
    rw [eK];simp only [aN,dE,ma,Wj,Vq];congr 2;simp;omega
   have e3:0+l.length+1=(l++ [bO n top]).length:=by simp
   rw [e1,e2,e3];refine ⟨(i+1,l++ [bO n top],h++ [(top,bO n top)],(A',cap'),(A5,c5)),?_,(by first|omega|dsimp only;omega),sB,sB,mS⟩;exact ⟨hlt,hI',hP',hw'⟩
 ·have e:i=L.length:=by omega
  subst e;rw [V8,gH] at hw;simp only [Prod.mk.injEq] at hw;obtain ⟨_,_,rfl⟩:=hw;repeat' (first|refine sT ?_|refine sM fun _=>?_|refine sC ?_ ?_<;>intro hb<;>try omega|fail)
  exact bp (.inl rfl) Tryz.results167 rfl (H' := [.own A1 3 1 L.length c1 (jH (lZ h))]) mS ⟨A1,c1,rfl,rfl⟩
abbrev Nx:=List (List Nat)
def ax (X:Nx) (i:Nat):List Nat:=(X[i]?).getD []
inductive Rch (X:Nx):Nat→Nat→Prop
 |refl (i:Nat):Rch X i i
 |step {i k j:Nat} (h:k∈ax X i) (r:Rch X k j):Rch X i j
theorem Rch.one {X:Nx} {i k:Nat} (h:k∈ax X i):Rch X i k:= .step h (.refl k)
theorem Rch.trans {X:Nx} {i k j:Nat} (h:Rch X i k) (r:Rch X k j):Rch X i j:=by
 induction h with
 |refl _=>exact r
 |step h _ ih=>exact .step h (ih r)
structure Tj where
 num:List Nat
 low:List Nat
 on:List Bool
 stk:List Nat
 out:List (List Nat)
 cnt:Nat
def Tj.n (S:Tj) (i:Nat):Nat:=(S.num[i]?).getD 0
def Tj.l (S:Tj) (i:Nat):Nat:=(S.low[i]?).getD 0
def Tj.o (S:Tj) (i:Nat):Bool:=(S.on[i]?).getD false
theorem kF {α:Type} (L:List α) (i j:Nat) (x d:α):((L.set i x)[j]?).getD d=if i=j∧i<L.length then x else (L[j]?).getD d:=by
 rw [Ya];by_cases h:i=j
 ·subst h;by_cases h2:i<L.length
  ·simp [h2]
  ·simp [h2]
 ·simp [h]
structure TjOk (X:Nx) (S:Tj):Prop where
 ln:S.num.length=X.length
 ll:S.low.length=X.length
 lo:S.on.length=X.length
 le: ∀ i,S.n i≤S.cnt
 stk:S.stk.Pairwise fun a b=>S.n a<S.n b
 lt: ∀ v∈S.stk,v<X.length
 vis: ∀ v∈S.stk,S.n v≠0
 on: ∀ v,v<X.length→(S.o v=true↔v∈S.stk)
 cls: ∀ v,S.n v≠0→v∉S.stk→ ∀ u∈ax X v,S.n u≠0∧u∉S.stk
 prt: ∀ v,(∃ p∈S.out,v∈p)↔(S.n v≠0∧v∉S.stk)
 scc: ∀ p∈S.out,p≠ []∧p.Pairwise (· < ·)∧ ∀ v∈p,∀ u,u∈p↔(Rch X v u∧Rch X u v)
 dis:S.out.Pairwise fun p q=> ∀ v∈p,v∉q
theorem TjOk.nlt {X:Nx} {S:Tj} (h:TjOk X S) {v:Nat} (hv:S.n v≠0):v<X.length:=by
 by_cases hl:v<S.num.length
 ·rw [← h.ln];exact hl
 ·exact absurd (by unfold Tj.n;rw [VJ (Nat.le_of_not_lt hl)];rfl) hv
structure Entd (X:Nx) (S:Tj) (i:Nat) (S' :Tj) (ex:List Nat):Prop where
 ok:TjOk X S'
 stk:S'.stk=S.stk++ex
 n_old: ∀ v,S.n v≠0→S'.n v=S.n v
 l_old: ∀ v,S.n v≠0→S'.l v=S.l v
 cnt:S.cnt≤S'.cnt
 new:S'.n i≠0
 newer: ∀ v,S.n v=0→S'.n v≠0→S.cnt<S'.n v
 fresh: ∀ v∈ex,S.n v=0
 rc: ∀ v∈ex,Rch X i v
 lw: ∀ v∈ex,S'.l v<S'.n v∧S'.l i≤S'.l v∧ ∃ u∈S'.stk,S'.n u=S'.l v∧Rch X v u
 sc: ∀ v∈ex,∀ u∈ax X v,S'.n u≠0∧(u∈S'.stk→S'.l i≤S'.n u)
 alt:i∈ex∨(ex= []∧S'.l i=S'.n i)
structure Lp (X:Nx) (S0:Tj) (i:Nat) (S:Tj) (ex dn:List Nat):Prop where
 ok:TjOk X S
 stk:S.stk=S0.stk++i::ex
 n_old: ∀ v,S0.n v≠0→S.n v=S0.n v
 l_old: ∀ v,S0.n v≠0→S.l v=S0.l v
 cnt:S0.cnt≤S.cnt
 newer: ∀ v,S0.n v=0→S.n v≠0→S0.cnt<S.n v
 fresh: ∀ v∈i::ex,S0.n v=0
 rc: ∀ v∈ex,Rch X i v
 lw: ∀ v∈ex,S.l v<S.n v∧S.l i≤S.l v∧ ∃ u∈S.stk,S.n u=S.l v∧Rch X v u
 sc: ∀ v∈ex,∀ u∈ax X v,S.n u≠0∧(u∈S.stk→S.l i≤S.n u)
 li:S.l i≤S.n i∧ ∃ u∈S.stk,S.n u=S.l i∧Rch X i u
 dn: ∀ u∈dn,S.n u≠0∧(u∈S.stk→S.l i≤S.n u)
section
variable {X:Nx} {S0 S:Tj} {i:Nat} {ex dn:List Nat}
theorem Lp.mem (h:Lp X S0 i S ex dn):i∈S.stk:=by rw [h.stk];simp
theorem Lp.ni (h:Lp X S0 i S ex dn):S.n i≠0:=h.ok.vis _ h.mem
theorem Lp.ilt (h:Lp X S0 i S ex dn):i<X.length:=h.ok.lt _ h.mem
theorem Lp.ex_ne (h:Lp X S0 i S ex dn) {v:Nat} (hv:v∈ex):S.n i<S.n v:=by
 have h1:=h.ok.stk;rw [h.stk,Xk] at h1;exact (Wt.1 h1.2.1).1 v hv
theorem Lp.old_lt (h:Lp X S0 i S ex dn) {v:Nat} (hv:v∈S0.stk):S.n v<S.n i:=by
 have h1:=h.ok.stk;rw [h.stk,Xk] at h1;exact h1.2.2 v hv i (Vr ..)
def Tj.start (S:Tj) (i:Nat):Tj:=⟨S.num.set i (S.cnt+1),S.low.set i (S.cnt+1),S.on.set i true,S.stk++ [i],S.out,S.cnt+1⟩
def Tj.setLow (S:Tj) (i x:Nat):Tj:=⟨S.num,S.low.set i x,S.on,S.stk,S.out,S.cnt⟩
theorem QX (hk:i<S.num.length) (v:Nat):(S.start i).n v=if i=v then S.cnt+1 else S.n v:=by
 unfold Tj.n Tj.start;dsimp only;rw [kF];simp [hk]
theorem QY (hk:i<S.low.length) (v:Nat):(S.start i).l v=if i=v then S.cnt+1 else S.l v:=by
 unfold Tj.l Tj.start;dsimp only;rw [kF];simp [hk]
theorem Kj (hk:i<S.on.length) (v:Nat):(S.start i).o v=if i=v then true else S.o v:=by
 unfold Tj.o Tj.start;dsimp only;rw [kF];simp [hk]
theorem fq (x v:Nat):(S.setLow i x).n v=S.n v:=rfl
theorem Ft (hk:i<S.low.length) (x v:Nat):(S.setLow i x).l v=if i=v then x else S.l v:=by
 unfold Tj.l Tj.setLow;dsimp only;rw [kF];simp [hk]
theorem TjOk.setLow (h:TjOk X S) (x:Nat):TjOk X (S.setLow i x):=
 ⟨h.ln,by rw [← h.ll];exact Wr,h.lo,h.le,h.stk,h.lt,h.vis,h.on,h.cls,h.prt,h.scc,h.dis⟩
theorem O7 (h:TjOk X S) (hi:i<X.length) (h0:S.n i=0):Lp X S i (S.start i) [] []:=by
 have hn:=QX (S:=S) (i:=i) (by rw [h.ln];exact hi);have hl:=QY (S:=S) (i:=i) (by rw [h.ll];exact hi);have ho:=Kj (S:=S) (i:=i) (by rw [h.lo];exact hi);have hns:i∉S.stk:=fun hm=>h.vis i hm h0;have hmem: ∀ v,v∈(S.start i).stk↔v∈S.stk∨v=i:=fun v=>by
  show v∈S.stk++ [i]↔_;rw [VH,Vx]
 refine ⟨⟨?_,?_,?_,?_,?_,?_,?_,?_,?_,?_,h.scc,h.dis⟩,rfl,?_,?_,XY _,?_,?_,?_,?_,?_,?_,?_⟩
 ·show (S.num.set i _).length=_;rw [Wr,h.ln]
 ·show (S.low.set i _).length=_;rw [Wr,h.ll]
 ·show (S.on.set i _).length=_;rw [Wr,h.lo]
 ·intro v;rw [hn];split
  ·exact VA _
  ·exact X7 (h.le v)
 ·show (S.stk++ [i]).Pairwise _;rw [Xk];refine ⟨h.stk.imp_of_mem fun ha hb hab=> ?_,List.pairwise_singleton _ _,fun a ha b hb=> ?_⟩
  ·rename_i a b;rw [hn,hn,if_neg (fun (e:i=a)=>hns (e ▸ ha)),if_neg (fun (e:i=b)=>hns (e ▸ hb))];exact hab
  ·rw [Vx.1 hb,hn,hn,if_neg (fun (e:i=a)=>hns (e ▸ ha)),if_pos rfl];exact Nat.lt_succ_of_le (h.le a)
 ·intro v hv;rcases (hmem v).1 hv with hv|rfl
  ·exact h.lt v hv
  ·exact hi
 ·intro v hv;rw [hn];rcases (hmem v).1 hv with hv|rfl
  ·split
   ·exact Nat.succ_ne_zero _
   ·exact h.vis v hv
  ·rw [if_pos rfl];exact Nat.succ_ne_zero _
 ·intro v hv;rw [ho,hmem];by_cases e:i=v
  ·rw [if_pos e];exact ⟨fun _=> .inr e.symm,fun _=>rfl⟩
  ·rw [if_neg e,h.on v hv];exact ⟨.inl,fun hh=>hh.resolve_right fun e' =>e e'.symm⟩
 ·intro v hv hs u hu;rw [hmem] at hs;have hne: ¬ i=v:=fun e=>hs (.inr e.symm);rw [hn,if_neg hne] at hv;obtain ⟨h1,h2⟩:=h.cls v hv (fun hh=>hs (.inl hh)) u hu;have hui: ¬ i=u:=fun e=>h1 (e ▸ h0);rw [hn,if_neg hui,hmem];exact ⟨h1,fun hh=>hh.elim h2 fun e=>hui e.symm⟩
 ·intro v;show (∃ p∈S.out,v∈p)↔_;rw [h.prt,hn,hmem];by_cases e:i=v
  ·subst e;rw [if_pos rfl];exact ⟨fun hh=>absurd h0 hh.1,fun hh=>absurd (.inr rfl) hh.2⟩
  ·rw [if_neg e];exact ⟨fun hh=>⟨hh.1,fun hm=>hm.elim hh.2 fun e' =>e e'.symm⟩,fun hh=>⟨hh.1,fun hm=>hh.2 (.inl hm)⟩⟩
 ·intro v hv;rw [hn,if_neg (fun (e:i=v)=>hv (e ▸ h0))]
 ·intro v hv;rw [hl,if_neg (fun (e:i=v)=>hv (e ▸ h0))]
 ·intro v hv hv2;rw [hn] at hv2 ⊢;by_cases e:i=v
  ·rw [if_pos e];exact XH _
  ·rw [if_neg e] at hv2;exact absurd hv hv2
 ·intro v hv;rw [Vx.1 hv];exact h0
 ·intro v hv;cases hv
 ·intro v hv;cases hv
 ·intro v hv;cases hv
 ·rw [hl,hn,if_pos rfl,if_pos rfl];exact ⟨VA _,i,(hmem i).2 (.inr rfl),by rw [hn,if_pos rfl],.refl i⟩
 ·intro v hv;cases hv
theorem O8 {k:Nat} {S1:Tj} {ex1:List Nat} (h:Lp X S0 i S ex dn) (hk:k∈ax X i) (h0:S.n k=0) (e:Entd X S k S1 ex1):
 Lp X S0 i (S1.setLow i (min (S1.l i) (S1.l k))) (ex++ex1) (dn++ [k]):=by
 have hni:=h.ni;have hil:=h.ilt;have hl:=Ft (S:=S1) (i:=i) (by rw [e.ok.ll];exact hil) (min (S1.l i) (S1.l k));have hmin1:min (S1.l i) (S1.l k)≤S.l i:=by rw [e.l_old i hni];exact Nat.min_le_left _ _
 have hmin2:min (S1.l i) (S1.l k)≤S1.l k:=Nat.min_le_right _ _;have hne: ∀ v,S.n v≠0→v∉ex1:=fun v hv hm=>hv (e.fresh v hm);have hstk: ∀ u,u∈S1.stk↔u∈S.stk∨u∈ex1:=fun u=>by rw [e.stk,VH]
 have n0: ∀ v,S0.n v≠0→S.n v≠0:=fun v hv=>by rw [h.n_old v hv];exact hv
 have hexi: ∀ v∈ex,¬ i=v:=fun v hv e' =>by
  have:=h.ex_ne hv;rw [e'] at this;exact W0 _ this
 have hex1i: ∀ v∈ex1,¬ i=v:=fun v hv e' =>hni (e' ▸ e.fresh v hv);have hexn: ∀ v∈ex,S.n v≠0:=fun v hv=>h.ok.vis v (by rw [h.stk];simp [hv]);refine ⟨e.ok.setLow _,?_,?_,?_,VR h.cnt e.cnt,?_,?_,?_,?_,?_,?_,?_⟩
 ·show S1.stk=_;rw [e.stk,h.stk];simp
 ·intro v hv;rw [fq,e.n_old v (n0 v hv),h.n_old v hv]
 ·intro v hv;rw [hl,if_neg,e.l_old v (n0 v hv),h.l_old v hv];intro e';exact hv (e' ▸ h.fresh i (Vr ..))
 ·intro v hv hv1;rw [fq] at hv1 ⊢;by_cases hs:S.n v=0
  ·exact Nat.lt_of_le_of_lt h.cnt (e.newer v hs hv1)
  ·rw [e.n_old v hs];exact h.newer v hv hs
 ·intro v hv;rcases VN.1 hv with rfl|hv
  ·exact h.fresh _ (Vr ..)
  ·rcases VH.1 hv with hv|hv
   ·exact h.fresh v (Vv _ hv)
   ·have:=e.fresh v hv;by_cases hz:S0.n v=0
    ·exact hz
    ·exact absurd this (n0 v hz)
 ·intro v hv;rcases VH.1 hv with hv|hv
  ·exact h.rc v hv
  ·exact .step hk (e.rc v hv)
 ·intro v hv;rw [fq,hl,hl,if_pos rfl];rcases VH.1 hv with hv|hv
  ·rw [if_neg (hexi v hv),e.l_old v (hexn v hv),e.n_old v (hexn v hv)];obtain ⟨h1,h2,u,h3,h4,h5⟩:=h.lw v hv;exact ⟨h1,VR hmin1 h2,u,(hstk u).2 (.inl h3),by rw [fq,e.n_old u (h.ok.vis u h3)];exact h4,h5⟩
  ·rw [if_neg (hex1i v hv)];obtain ⟨h1,h2,u,h3,h4,h5⟩:=e.lw v hv;exact ⟨h1,VR hmin2 h2,u,h3,h4,h5⟩
 ·intro v hv u hu;rw [fq,hl,if_pos rfl];rcases VH.1 hv with hv|hv
  ·obtain ⟨h1,h2⟩:=h.sc v hv u hu;rw [e.n_old u h1];exact ⟨h1,fun hm=>VR hmin1 (h2 (((hstk u).1 hm).resolve_right (hne u h1)))⟩
  ·obtain ⟨h1,h2⟩:=e.sc v hv u hu;exact ⟨h1,fun hm=>VR hmin2 (h2 hm)⟩
 ·rw [hl,if_pos rfl,fq,e.n_old i hni];refine ⟨VR hmin1 h.li.1,?_⟩;obtain ⟨u,h3,h4,h5⟩:=h.li.2;by_cases hm:min (S1.l i) (S1.l k)=S.l i
  ·exact ⟨u,(hstk u).2 (.inl h3),by rw [fq,e.n_old u (h.ok.vis u h3),h4,hm],h5⟩
  ·have hm' :min (S1.l i) (S1.l k)=S1.l k:=by
    rw [e.l_old i hni] at hm ⊢;omega
   rcases e.alt with ha|⟨ha1,ha2⟩
   ·obtain ⟨_,_,u,h3,h4,h5⟩:=e.lw k ha;exact ⟨u,h3,by rw [hm'];exact h4,.step hk h5⟩
   ·have h6:=e.newer k h0 e.new;have h7:=h.li.1;have h8:=h.ok.le i;rw [e.l_old i hni,ha2] at hm;omega
 ·intro u hu;rw [fq,hl,if_pos rfl];rcases VH.1 hu with hu|hu
  ·obtain ⟨h1,h2⟩:=h.dn u hu;rw [e.n_old u h1];exact ⟨h1,fun hm=>VR hmin1 (h2 (((hstk u).1 hm).resolve_right (hne u h1)))⟩
  ·rw [Vx.1 hu];refine ⟨e.new,fun hm=> ?_⟩;rcases e.alt with ha|⟨ha1,ha2⟩
   ·have:=(e.lw k ha).1;omega
   ·omega
theorem UX {k:Nat} (h:Lp X S0 i S ex dn) (hk:k∈ax X i) (hs:k∈S.stk):
 Lp X S0 i (S.setLow i (min (S.l i) (S.n k))) ex (dn++ [k]):=by
 have hni:=h.ni;have hil:=h.ilt;have hl:=Ft (S:=S) (i:=i) (by rw [h.ok.ll];exact hil) (min (S.l i) (S.n k));have hmin1:min (S.l i) (S.n k)≤S.l i:=Nat.min_le_left _ _;have hexi: ∀ v∈ex,¬ i=v:=fun v hv e' =>by
  have:=h.ex_ne hv;rw [e'] at this;exact W0 _ this
 refine ⟨h.ok.setLow _,h.stk,h.n_old,?_,h.cnt,h.newer,h.fresh,h.rc,?_,?_,?_,?_⟩
 ·intro v hv;rw [hl,if_neg,h.l_old v hv];intro e';exact hv (e' ▸ h.fresh i (Vr ..))
 ·intro v hv;rw [fq,hl,hl,if_pos rfl,if_neg (hexi v hv)];obtain ⟨h1,h2,u,h3,h4,h5⟩:=h.lw v hv;exact ⟨h1,VR hmin1 h2,u,h3,h4,h5⟩
 ·intro v hv u hu;rw [fq,hl,if_pos rfl];obtain ⟨h1,h2⟩:=h.sc v hv u hu;exact ⟨h1,fun hm=>VR hmin1 (h2 hm)⟩
 ·rw [hl,if_pos rfl,fq];refine ⟨VR hmin1 h.li.1,?_⟩;by_cases hm:min (S.l i) (S.n k)=S.l i
  ·obtain ⟨u,h3,h4,h5⟩:=h.li.2;exact ⟨u,h3,by rw [fq,h4,hm],h5⟩
  ·exact ⟨k,hs,by rw [fq];omega,.one hk⟩
 ·intro u hu;rw [fq,hl,if_pos rfl];rcases VH.1 hu with hu|hu
  ·obtain ⟨h1,h2⟩:=h.dn u hu;exact ⟨h1,fun hm=>VR hmin1 (h2 hm)⟩
  ·rw [Vx.1 hu];exact ⟨h.ok.vis k hs,fun _=>Nat.min_le_right _ _⟩
theorem Ub {k:Nat} (h:Lp X S0 i S ex dn) (hv:S.n k≠0) (hs:k∉S.stk):Lp X S0 i S ex (dn++ [k]):=
 ⟨h.ok,h.stk,h.n_old,h.l_old,h.cnt,h.newer,h.fresh,h.rc,h.lw,h.sc,h.li,fun u hu=>by
  rcases VH.1 hu with hu|hu
  ·exact h.dn u hu
  ·rw [Vx.1 hu];exact ⟨hv,fun hm=>absurd hm hs⟩⟩
theorem RL (h:Lp X S0 i S ex (ax X i)) (hne:S.l i≠S.n i):Entd X S0 i S (i::ex):=by
 refine ⟨h.ok,h.stk,h.n_old,h.l_old,h.cnt,h.ni,h.newer,h.fresh,?_,?_,?_,.inl (Vr ..)⟩
 ·intro v hv;rcases VN.1 hv with rfl|hv
  ·exact .refl _
  ·exact h.rc v hv
 ·intro v hv;rcases VN.1 hv with rfl|hv
  ·obtain ⟨h1,u,h2,h3,h4⟩:=h.li;exact ⟨by omega,VA _,u,h2,h3,h4⟩
  ·exact h.lw v hv
 ·intro v hv u hu;rcases VN.1 hv with rfl|hv
  ·exact h.dn u hu
  ·exact h.sc v hv u hu
theorem KA (h:Lp X S0 i S ex dn) (he:S.l i=S.n i): ∀ (m v:Nat),S.n v≤m→v∈i::ex→Rch X v i
 |m,v,hm,hv=>by
  rcases VN.1 hv with rfl|hv
  ·exact .refl _
  ·obtain ⟨h1,h2,u,h3,h4,h5⟩:=h.lw v hv;have hu:u∈i::ex:=by
    rw [h.stk] at h3;rcases VH.1 h3 with h6|h6
    ·have:=h.old_lt h6;omega
    ·exact h6
   match m,hm with
   |0,hm=>omega
   |m+1,hm=>exact h5.trans (KA h he m u (by omega) hu)
theorem Rch.closed {C:Nat→Prop} (hc: ∀ v,C v→ ∀ u∈ax X v,C u) {v u:Nat} (r:Rch X v u) (hv:C v):C u:=by
 induction r with
 |refl _=>exact hv
 |step h _ ih=>exact ih (hc _ hv _ h)
def Tj.pop (S S0:Tj) (on' :List Bool) (part:List Nat):Tj:=⟨S.num,S.low,on',S0.stk,S.out++ [part],S.cnt⟩
theorem Ua (h:Lp X S0 i S ex (ax X i)) (he:S.l i=S.n i) {on' :List Bool} {part:List Nat} (hol:on'.length=X.length) (ho: ∀ v,v<X.length→((on'[v]?).getD false=true↔(S.o v=true∧v∉i::ex)))
 (hp:part.Perm (i::ex)) (hps:part.Pairwise (· ≤ ·)):Entd X S0 i (S.pop S0 on' part) []:=by
 have hmp: ∀ v,v∈part↔v∈i::ex:=fun v=>hp.mem_iff;have hst: ∀ v,v∈S.stk↔v∈S0.stk∨v∈i::ex:=fun v=>by rw [h.stk,VH]
 have hdj: ∀ v∈S0.stk,v∉i::ex:=fun v hv hm=>by
  have h1:=h.old_lt hv;rcases VN.1 hm with rfl|hm
  ·exact W0 _ h1
  ·have:=h.ex_ne hm;omega
 have hsuc: ∀ v∈i::ex,∀ u∈ax X v,S.n u≠0∧u∉S0.stk:=fun v hv u hu=>by
  have h1:S.n u≠0∧(u∈S.stk→S.l i≤S.n u):=by
   rcases VN.1 hv with rfl|hv
   ·exact h.dn u hu
   ·exact h.sc v hv u hu
  refine ⟨h1.1,fun hm=> ?_⟩;have h2:=h1.2 ((hst u).2 (.inl hm));have h3:=h.old_lt hm;omega
 have hcl: ∀ v,(S.n v≠0∧v∉S0.stk)→ ∀ u∈ax X v,S.n u≠0∧u∉S0.stk:=fun v hv u hu=>by
  by_cases hm:v∈i::ex
  ·exact hsuc v hm u hu
  ·obtain ⟨h1,h2⟩:=h.ok.cls v hv.1 (fun hh=>((hst v).1 hh).elim hv.2 hm) u hu;exact ⟨h1,fun hh=>h2 ((hst u).2 (.inl hh))⟩
 have hcs: ∀ v,(S.n v≠0∧v∉S.stk)→ ∀ u∈ax X v,S.n u≠0∧u∉S.stk:=fun v hv=>h.ok.cls v hv.1 hv.2;have hvis: ∀ v∈i::ex,S.n v≠0:=fun v hv=>h.ok.vis v ((hst v).2 (.inr hv));have hnd:part.Pairwise (· < ·):=by
  have h1:(i::ex).Nodup:=by
   have h2:=h.ok.stk;rw [h.stk,Xk] at h2;exact h2.2.1.imp fun hab e=>by rw [e] at hab;exact W0 _ hab
  have h3:part.Nodup:=hp.nodup_iff.2 h1;exact (Yz.2 ⟨hps,h3⟩).imp fun ⟨h4,h5⟩=>YO h4 h5
 refine ⟨⟨h.ok.ln,h.ok.ll,hol,h.ok.le,?_,?_,?_,?_,?_,?_,?_,?_⟩,(VB _).symm,h.n_old,h.l_old,h.cnt,h.ni,h.newer,?_,?_,?_,?_,.inr ⟨rfl,he⟩⟩
 ·have h2:=h.ok.stk;rw [h.stk,Xk] at h2;exact h2.1
 ·exact fun v hv=>h.ok.lt v ((hst v).2 (.inl hv))
 ·exact fun v hv=>h.ok.vis v ((hst v).2 (.inl hv))
 ·intro v hv;show (on'[v]?).getD false=true↔v∈S0.stk;rw [ho v hv,h.ok.on v hv,hst];exact ⟨fun hh=>hh.1.resolve_right hh.2,fun hh=>⟨.inl hh,hdj v hh⟩⟩
 ·exact fun v hv hs u hu=>hcl v ⟨hv,hs⟩ u hu
 ·intro v;show (∃ p∈S.out++ [part],v∈p)↔(S.n v≠0∧v∉S0.stk);constructor
  ·rintro ⟨p,hpm,hv⟩;rcases VH.1 hpm with hpm|hpm
   ·obtain ⟨h1,h2⟩:=(h.ok.prt v).1 ⟨p,hpm,hv⟩;exact ⟨h1,fun hh=>h2 ((hst v).2 (.inl hh))⟩
   ·rw [Vx.1 hpm] at hv;have hv:=(hmp v).1 hv;exact ⟨hvis v hv,fun hh=>hdj v hh hv⟩
  ·rintro ⟨h1,h2⟩;by_cases hm:v∈i::ex
   ·exact ⟨part,V9 _ (Vx.2 rfl),(hmp v).2 hm⟩
   ·obtain ⟨p,hpm,hv⟩:=(h.ok.prt v).2 ⟨h1,fun hh=>((hst v).1 hh).elim h2 hm⟩;exact ⟨p,V5 _ hpm,hv⟩
 ·intro p hpm;rcases VH.1 hpm with hpm|hpm
  ·exact h.ok.scc p hpm
  ·rw [Vx.1 hpm];refine ⟨fun e=> ?_,hnd,fun v hv u=> ?_⟩
   ·have:=(hmp i).2 (Vr ..);rw [e] at this;cases this
   ·have hv:=(hmp v).1 hv;have hfrom: ∀ x∈i::ex,Rch X i x:=fun x hx=>by
     rcases VN.1 hx with rfl|hx
     ·exact .refl _
     ·exact h.rc x hx
    have hback: ∀ x∈i::ex,Rch X x i:=fun x hx=>KA h he _ x (VA _) hx;rw [hmp];constructor
    ·exact fun hu=>⟨(hback v hv).trans (hfrom u hu),(hback u hu).trans (hfrom v hv)⟩
    ·rintro ⟨h1,h2⟩;have h3:=h1.closed hcl ⟨hvis v hv,fun hh=>hdj v hh hv⟩;by_cases hm:u∈i::ex
     ·exact hm
     ·have h4:=h2.closed hcs ⟨h3.1,fun hh=>((hst u).1 hh).elim h3.2 hm⟩;exact absurd ((hst v).2 (.inr hv)) h4.2
 ·show (S.out++ [part]).Pairwise _;rw [Xk];refine ⟨h.ok.dis,List.pairwise_singleton _ _,fun p hpm q hq v hv hvq=> ?_⟩;rw [Vx.1 hq] at hvq;have h1:=(h.ok.prt v).1 ⟨p,hpm,hv⟩;exact h1.2 ((hst v).2 (.inr ((hmp v).1 hvq)))
 ·intro v hv;cases hv
 ·intro v hv;cases hv
 ·intro v hv;cases hv
 ·intro v hv;cases hv
theorem Jw {S1:Tj} (h:Entd X S i S1 ex) (h0:S.stk= []):ex= []:=by
 have hs:S1.stk=ex:=by rw [h.stk,h0];rfl
 have hno: ∀ (m v:Nat),S1.n v≤m→v∉ex:=by
  intro m
  induction m with
  |zero=>exact fun v hm hv=>by have:=(h.lw v hv).1;omega
  |succ m ih=>
   intro v hm hv;obtain ⟨h1,_,u,h3,h4,_⟩:=h.lw v hv;exact ih u (by omega) (hs ▸ h3)
 rcases h.alt with ha|ha
 ·exact absurd ha (hno _ i (VA _))
 ·exact ha.1
end
def onC (X:Nx) (v:Nat):Prop:= ∃ k∈ax X v,Rch X k v
def fN (X:Nx) (p:List Nat):List Nat:=if 1<p.length∨(p[0]?).getD 0∈ax X ((p[0]?).getD 0) then p else []
theorem I9: ∀ {p:List Nat} {v:Nat},¬ 1<p.length→v∈p→p= [v]
 | [],_,_,hv=>by cases hv
 | [a],_,_,hv=>by rw [Vx.1 hv]
 |a::b::l,_,hl,_=>absurd (by simp only [Vw];omega) hl
structure TjEnd (X:Nx) (O:List (List Nat)):Prop where
 prt: ∀ v,v<X.length→ ∃ p∈O,v∈p
 lt: ∀ p∈O,∀ v∈p,v<X.length
 scc: ∀ p∈O,p≠ []∧p.Pairwise (· < ·)∧ ∀ v∈p,∀ u,u∈p↔(Rch X v u∧Rch X u v)
 dis:O.Pairwise fun p q=> ∀ v∈p,v∉q
theorem TjOk.fin {X:Nx} {S:Tj} (h:TjOk X S) (h0:S.stk= []) (hv: ∀ v,v<X.length→S.n v≠0):TjEnd X S.out:=
 ⟨fun v hl=>(h.prt v).2 ⟨hv v hl,by rw [h0];exact XJ⟩,fun p hp v hm=>h.nlt ((h.prt v).1 ⟨p,hp,hm⟩).1,h.scc,h.dis⟩
theorem PM {p q:List Nat} (h: ∀ v∈p,v∉q): ∀ v∈q,v∉p:=fun v hq hp=>h v hp hq
theorem TjEnd.perm {X:Nx} {O P:List (List Nat)} (h:TjEnd X O) (hp:P.Perm O):TjEnd X P:=
 ⟨fun v hl=>by obtain ⟨p,h1,h2⟩:=h.prt v hl;exact ⟨p,hp.mem_iff.2 h1,h2⟩,fun p hm=>h.lt p (hp.mem_iff.1 hm),fun p hm=>h.scc p (hp.mem_iff.1 hm),(hp.pairwise_iff fun h=>PM h).2 h.dis⟩
theorem TjEnd.loop {X:Nx} {O:List (List Nat)} (h:TjEnd X O) {v:Nat}:v∈O.flatMap (fN X)↔v<X.length∧onC X v:=by
 rw [XB];constructor
 ·rintro ⟨p,hp,hv⟩;unfold fN at hv;split at hv
  ·rename_i hc;obtain ⟨hne,hs,hm⟩:=h.scc p hp;refine ⟨h.lt p hp v hv,?_⟩;have h2:1<p.length∨((p[0]?).getD 0=v∧v∈ax X v):=by
    by_cases hl:1<p.length
    ·exact .inl hl
    ·have hc:=hc.resolve_left hl;have h1:p= [v]:=I9 hl hv;rw [h1] at hc;exact .inr ⟨by rw [h1];rfl,hc⟩
   rcases h2 with hl|⟨_,h2⟩
   ·obtain ⟨u,hu,hne⟩: ∃ u∈p,u≠v:=by
     match p,hl,hs with
     |a::b::_,_,hs=>
      have hab:a<b:=(Wt.1 hs).1 b (Vr ..);by_cases e:a=v
      ·exact ⟨b,by simp,by omega⟩
      ·exact ⟨a,by simp,e⟩
    obtain ⟨h1,h2⟩:=(hm v hv u).1 hu
    cases h1 with
    |refl _=>exact absurd rfl hne
    |step hk r=>exact ⟨_,hk,r.trans h2⟩
   ·exact ⟨v,h2,.refl v⟩
  ·cases hv
 ·rintro ⟨hl,k,hk,r⟩;obtain ⟨p,hp,hv⟩:=h.prt v hl;obtain ⟨hne,hs,hm⟩:=h.scc p hp;have hkp:k∈p:=(hm v hv k).2 ⟨.one hk,r⟩;refine ⟨p,hp,?_⟩;unfold fN;rw [if_pos]
  ·exact hv
  by_cases hl:1<p.length
  ·exact .inl hl
  ·have h1:p= [v]:=I9 hl hv;rw [h1] at hkp ⊢;rw [Vx.1 hkp] at hk;exact .inr hk
theorem BU {X:Nx} {p:List Nat} {v:Nat} (h:v∈fN X p):v∈p:=by
 unfold fN at h;split at h
 ·exact h
 ·cases h
theorem TjEnd.nodup {X:Nx} {O:List (List Nat)} (h:TjEnd X O):(O.flatMap (fN X)).Nodup:=by
 have hs: ∀ p∈O,p.Nodup:=fun p hp=>(h.scc p hp).2.1.imp fun hab e=>by rw [e] at hab;exact W0 _ hab
 have hd:=h.dis;clear h
 induction O with
 |nil=>exact XN
 |cons p O ih=>
  rw [VE];rw [Wt] at hd;refine Xq.2 ⟨?_,ih (fun q hq=>hs q (Vv _ hq)) hd.2,fun a ha b hb e=> ?_⟩
  ·unfold fN;split
   ·exact hs p (Vr ..)
   ·exact XN
  ·obtain ⟨q,hq,hbq⟩:=XB.1 hb;rw [← e] at hbq;exact hd.1 q hq a (BU ha) (BU hbq)
def nK (f:Nat→Nat) (i j k:Nat):Nat:=if k=i then f j else if k=j then f i else f k
def HpF (f:Nat→Nat) (n:Nat):Prop:= ∀ i,0<i→i<n→f ((i - 1) / 2)≤f i
structure UpH (f:Nat→Nat) (n j:Nat):Prop where
 a: ∀ i,0<i→i<n→i≠j→f ((i - 1) / 2)≤f i
 b:0<j→ ∀ i,0<i→i<n→(i - 1) / 2=j→f ((j - 1) / 2)≤f i
structure DnH (f:Nat→Nat) (n i:Nat):Prop where
 a: ∀ c,0<c→c<n→(c - 1) / 2≠i→f ((c - 1) / 2)≤f c
 b:0<i→ ∀ c,0<c→c<n→(c - 1) / 2=i→f ((i - 1) / 2)≤f c
theorem UpH.done {f:Nat→Nat} {n j:Nat} (h:UpH f n j) (he:j=0∨f ((j - 1) / 2)≤f j):HpF f n:=fun i h0 hn=>by
 by_cases hij:i=j
 ·subst hij;omega
 ·exact h.a i h0 hn hij
theorem UpH.step {f:Nat→Nat} {n j:Nat} (h:UpH f n j) (hj:0<j) (hjn:j<n) (hl:f j<f ((j - 1) / 2)):UpH (nK f ((j - 1) / 2) j) n ((j - 1) / 2):=by
 have hp:(j - 1) / 2<j:=by omega
 generalize hpe:(j - 1) / 2=p at*;refine ⟨fun i h0 hn hip=> ?_,fun h0p i h0 hn hi=> ?_⟩
 ·have ha:=h.a i h0 hn;have hb:=h.b hj i h0 hn;have hq:(i - 1) / 2<i:=by omega
  unfold nK;by_cases hij:i=j
  ·subst hij;rw [hpe,if_pos rfl,if_neg (by omega),if_pos rfl];omega
  ·have ha' :=ha hij;rw [if_neg hip,if_neg hij];by_cases hqp:(i - 1) / 2=p
   ·rw [if_pos hqp];rw [hqp] at ha';omega
   ·rw [if_neg hqp];by_cases hqj:(i - 1) / 2=j
    ·rw [if_pos hqj];rw [hpe] at hb;exact hb hqj
    ·rw [if_neg hqj];exact ha'
 ·have hap:=h.a p h0p (by omega) (by omega);unfold nK;rw [if_neg (by omega),if_neg (by omega),if_neg (by omega)];by_cases hij:i=j
  ·rw [if_pos hij];exact hap
  ·rw [if_neg hij];have:=h.a i h0 hn hij;rw [hi] at this;omega
theorem DnH.done {f:Nat→Nat} {n i:Nat} (h:DnH f n i) (he: ∀ c,0<c→c<n→(c - 1) / 2=i→f i≤f c):HpF f n:=fun c h0 hn=>by
 by_cases hc:(c - 1) / 2=i
 ·rw [hc];exact he c h0 hn hc
 ·exact h.a c h0 hn hc
theorem DnH.step {f:Nat→Nat} {n i j:Nat} (h:DnH f n i) (hj:0<j) (hjn:j<n) (hp:(j - 1) / 2=i) (hmin: ∀ c,0<c→c<n→(c - 1) / 2=i→f j≤f c) (hl:f j<f i):DnH (nK f i j) n j:=by
 have hij:i<j:=by omega
 refine ⟨fun c h0 hn hcj=> ?_,fun _ c h0 hn hc=> ?_⟩
 ·have hq:(c - 1) / 2<c:=by omega
  unfold nK;by_cases hc:c=j
  ·subst hc;rw [hp,if_pos rfl,if_neg (by omega),if_pos rfl];omega
  ·by_cases hqi:(c - 1) / 2=i
   ·rw [if_pos hqi,if_neg (by omega),if_neg hc];exact hmin c h0 hn hqi
   ·rw [if_neg hqi,if_neg hcj];by_cases hci:c=i
    ·rw [if_pos hci];subst hci;exact h.b h0 j hj hjn hp
    ·rw [if_neg hci,if_neg hc];exact h.a c h0 hn hqi
 ·unfold nK;rw [hp,if_pos rfl,if_neg (by omega),if_neg (by omega)];have:=h.a c h0 hn (by omega);rwa [hc] at this
theorem HpF.min {f:Nat→Nat} {n:Nat} (h:HpF f n): ∀ i,i<n→f 0≤f i:=by
 intro i
 induction i using Nat.strongRecOn with
 |_ i ih=>
  intro hn;by_cases h0:i=0
  ·subst h0;exact VA _
  ·exact VR (ih ((i - 1) / 2) (by omega) (by omega)) (h i (by omega) hn)
theorem HpF.push {f g:Nat→Nat} {n:Nat} (h:HpF f n) (hg: ∀ i,i<n→g i=f i):UpH g (n+1) n:=
 ⟨fun i h0 hn hne=>by rw [hg _ (by omega),hg _ (by omega)];exact h i h0 (by omega),fun _ i h0 hn hi=>by omega⟩
theorem HpF.pop {f g:Nat→Nat} {n:Nat} (h:HpF f (n+1)) (hg: ∀ i,0<i→i<n→g i=f i):DnH g n 0:=
 ⟨fun c h0 hn hne=>by rw [hg _ (by omega) (by omega),hg _ (by omega) hn];exact h c h0 (by omega),fun h0=>absurd h0 (W0 0)⟩
def atN (L:List Nat) (i:Nat):Nat:=(L[i]?).getD 0
def swapN (L:List Nat) (i j:Nat):List Nat:=(L.set i (atN L j)).set j (atN L i)
theorem uV (L:List Nat) (i j:Nat):(swapN L i j).length=L.length:=by simp [swapN]
theorem x6 {L:List Nat} {i j:Nat} (hi:i<L.length) (hj:j<L.length) (k:Nat):atN (swapN L i j) k=nK (atN L) i j k:=by
 unfold swapN nK;unfold atN;rw [kF,kF,Wr];by_cases h1:j=k
 ·subst h1;by_cases h2:j=i
  ·subst h2;simp [hj]
  ·rw [if_pos ⟨rfl,hj⟩,if_neg h2,if_pos rfl]
 ·rw [if_neg (fun h=>h1 h.1)];by_cases h2:i=k
  ·subst h2;rw [if_pos ⟨rfl,hi⟩,if_pos rfl]
  ·rw [if_neg (fun h=>h2 h.1),if_neg (fun h=>h2 h.symm),if_neg (fun h=>h1 h.symm)]
theorem Cw {L:List Nat} {i:Nat} (h:i<L.length) (x a:Nat):(L.set i x).count a+(if atN L i=a then 1 else 0)=L.count a+(if x=a then 1 else 0):=by
 induction L generalizing i with
 |nil=>cases h
 |cons b l ih=>
  cases i with
  |zero=>
   simp only [List.set_cons_zero,atN,Yp,XU,List.count_cons];by_cases h1:b=a<;>by_cases h2:x=a<;>simp [h1,h2]
  |succ i=>
   have:=ih (i:=i) (by simpa using h);simp only [YP,List.count_cons];simp only [atN,Yq] at this ⊢;by_cases h3:(l[i]?).getD 0=a<;>by_cases h4:x=a<;>by_cases h1:b=a<;>simp [h1,h3,h4] at this ⊢ <;>omega
theorem rW {L:List Nat} {i j:Nat} (hi:i<L.length) (hj:j<L.length):(swapN L i j).Perm L:=by
 rw [List.perm_iff_count];intro a;have h1:=Cw hi (atN L j) a;have h2:=Cw (L:=L.set i (atN L j)) (i:=j) (by simpa using hj) (atN L i) a;have h3:atN (L.set i (atN L j)) j=atN L j:=by
  unfold atN;rw [kF];split<;>rfl
 rw [h3] at h2;unfold swapN;omega
end Go.SL
