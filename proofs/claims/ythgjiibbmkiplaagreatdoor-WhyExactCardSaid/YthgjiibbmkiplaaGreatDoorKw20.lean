/-
  Lemmas and walks, put together: Tc Fd Hv Za Rn Td.
-/
import Derived.Test.YthgjiibbmkiplaaGreatDoorKw18
import Derived.Test.YthgjiibbmkiplaaGreatDoorKw19
set_option linter.unusedSimpArgs false
set_option linter.unusedVariables false
set_option maxRecDepth 20000
namespace Go.SL
open Go
def tB (a:Rf):Option Rf→Rf
 |none=>a
 |some b=>if bE a b=true then a else b
def bR (L:List Rf):Option Rf:=L.foldl (fun o a=>some (tB a o)) none
theorem oX (L:List Rf) (a:Rf):bR (L++ [a])=some (tB a (bR L)):=by unfold bR;rw [YG];rfl
structure LeastI (L:List Rf) (o:Option Rf):Prop where
 no:o=none→L= []
 mem: ∀ b,o=some b→b∈L
 low: ∀ b,o=some b→ ∀ a∈L,bE a b=false
theorem jt (L:List Rf):LeastI L (bR L):=by
 induction L using dh with
 |h0=>exact ⟨fun _=>rfl,fun b h=>(by cases h),fun b h=>(by cases h)⟩
 |h1 L a ih=>
  rw [oX]
  cases ho:bR L with
  |none=>
   have hL:=ih.no ho;subst hL;refine ⟨fun h=>(by cases h),fun b h=> ?_,fun b h x hx=> ?_⟩
   ·cases h;simp [tB]
   ·cases h;rw [Xd,Xl] at hx;subst hx;exact uI _
  |some c=>
   have hc:=ih.low c ho
   cases hlt:bE a c with
   |true=>
    rw [show tB a (some c)=a by simp [tB,hlt]];refine ⟨fun h=>(by cases h),fun b h=> ?_,fun b h x hx=> ?_⟩
    ·cases h;simp
    ·cases h;rcases Xr.1 hx with hx|hx
     ·cases hxa:bE x a with
      |false=>rfl
      |true=>
       have h1:=vF hxa hlt;rw [hc x hx] at h1;cases h1
     ·rw [Xl.1 hx];exact uI _
   |false=>
    rw [show tB a (some c)=c by simp [tB,hlt]];refine ⟨fun h=>(by cases h),fun b h=> ?_,fun b h x hx=> ?_⟩
    ·cases h;exact Xw _ (ih.mem _ ho)
    ·cases h;rcases Xr.1 hx with hx|hx
     ·exact hc x hx
     ·rw [Xl.1 hx];exact hlt
theorem Mf {L:List Rf} {o:Option Rf} (h:LeastI L o):bR L=o:=by
 have h' :=jt L
 cases o with
 |none=>rw [h.no rfl];rfl
 |some b=>
  have hb:=h.mem b rfl
  cases ho:bR L with
  |none=>rw [h'.no ho] at hb;cases hb
  |some c=>
   have h1:=h.low b rfl c (h'.mem c ho);have h2:=h'.low c ho b hb;by_cases e:b=c
   ·rw [e]
   ·rcases FX e with h3|h3
    ·rw [h2] at h3;cases h3
    ·rw [h1] at h3;cases h3
theorem FZ {L M:List Rf} (h: ∀ a,a∈L↔a∈M):bR L=bR M:=by
 have hM:=jt M;refine Mf ⟨fun e=> ?_,fun b hb=>(h b).2 (hM.mem b hb),fun b hb a ha=>hM.low b hb a ((h a).1 ha)⟩;have h1:=hM.no e;refine YM.2 fun a ha=> ?_;have h2:=(h a).1 ha;rw [h1] at h2;cases h2
structure HidW (w:Lw) (u:Nat) (hid:Rct→List Rct):Prop where
 ov: ∀ r,aA r=true→((w.ov r).getLsbD u=true↔hid r= [])
 un: ∀ r,aA r=true→ ∀ p∈hid r,aA p=true∧ ∀ a,aI p a=true→aI r a=true∧(w.rd a).getLsbD u=false
 cov: ∀ r,aA r=true→ ∀ a,aI r a=true→(w.rd a).getLsbD u=false→ ∃ p∈hid r,aI p a=true
section
variable (G:Gr) (w:Lw) (u:Nat) (hid:Rct→List Rct)
def rdU (a:Rf):Bool:=(w.rd a).getLsbD u
def cG (c:Rf):List Rct:=((aG G c).filter fun x=> !(w.to x).getLsbD u).map fun x=>x.rect
def jO (p:Rct):Rf:=⟨p.c1,p.r1⟩
def GJ (c:Rf):List Rf:=(cG G w u c).flatMap fun r=>(hid r).map jO
def jx (c:Rf):Option Rf:=bR (GJ G w u hid c)
def gL (O:List (Rf × Nat)) (far:Nat) (f:Rf):Bool:=(cG G w u f).any fun r=>O.any fun c=>decide (c.2=far) && aI r c.1
def qW:Nat→List (Rf × Nat)→List Rf→Nat→List (Rf × Nat)
 |0,O,_,_=>O
 |n+1,O,left,far=>if left.filter (gL G w u O far)= [] then O else qW n (O++(left.filter (gL G w u O far)).map fun f=>(f,far+1)) (left.filter fun f=> !gL G w u O far f) (far+1)
def iL (K:List Rf):List (Rf × Nat):=(K.filter fun f=>rdU w u f && (jx G w u hid f).isSome).map fun f=>(f,1)
def jM (K:List Rf):List Rf:=K.filter fun f=>rdU w u f && !(jx G w u hid f).isSome
def gH (K:List Rf):List (Rf × Nat):=qW G w u (K.length+1) (iL G w u hid K) (jM G w u hid K) 1
end
section
variable {G:Gr} {w:Lw} {u:Nat} {hid:Rct→List Rct}
theorem eu {c:Rf} {r:Rct}:r∈cG G w u c↔ ∃ x∈aG G c,(w.to x).getLsbD u=false∧x.rect=r:=by
 unfold cG;rw [Xu];constructor
 ·rintro ⟨x,hx,rfl⟩;obtain ⟨h1,h2⟩:=XM.1 hx;exact ⟨x,h1,by simpa using h2,rfl⟩
 ·rintro ⟨x,hx,h1,rfl⟩;exact ⟨x,XM.2 ⟨hx,by simpa using h1⟩,rfl⟩
structure DsI (G:Gr) (w:Lw) (u:Nat) (hid:Rct→List Rct) (K:List Rf) (O:List (Rf × Nat)) (left:List Rf) (far:Nat):Prop where
 one:1≤far
 key: ∀ c∈O,c.1∈K∧rdU w u c.1=true∧1≤c.2∧c.2≤far
 fst: ∀ c∈O,c.2=1→(jx G w u hid c.1).isSome=true
 nxt: ∀ c∈O,∀ k,c.2=k+2→jx G w u hid c.1=none∧gL G w u O (k+1) c.1=true∧ ∀ j,j<k+1→gL G w u O j c.1=false
 lf: ∀ f∈left,f∈K∧rdU w u f=true∧jx G w u hid f=none∧ ∀ j,j<far→gL G w u O j f=false
 all: ∀ f∈K,rdU w u f=true→f∈left∨ ∃ d,(f,d)∈O
 dj: ∀ f∈left,∀ d,(f,d)∉O
 nd:left.Nodup
 od:(O.map fun c=>c.1).Nodup
theorem lh {O:List (Rf × Nat)} {far:Nat} {f:Rf}:gL G w u O far f=true↔ ∃ r∈cG G w u f,∃ c∈O,c.2=far∧aI r c.1=true:=by
 unfold gL;simp only [XQ,Xo,decide_eq_true_eq]
theorem pg {O:List (Rf × Nat)} {far j:Nat} {f:Rf} {F:List Rf} (hj:j≤far):gL G w u (O++F.map fun f=>(f,far+1)) j f=gL G w u O j f:=by
 rw [XY,lh,lh];constructor
 ·rintro ⟨r,hr,c,hc,h1,h2⟩;rcases Xr.1 hc with hc|hc
  ·exact ⟨r,hr,c,hc,h1,h2⟩
  ·obtain ⟨g,_,rfl⟩:=Xu.1 hc;simp only at h1;omega
 ·rintro ⟨r,hr,c,hc,h1,h2⟩;exact ⟨r,hr,c,Xw _ hc,h1,h2⟩
theorem DsI.start (K:List Rf) (hK:K.Nodup):DsI G w u hid K (iL G w u hid K) (jM G w u hid K) 1:=by
 have hm: ∀ c,c∈iL G w u hid K↔c.1∈K∧rdU w u c.1=true∧(jx G w u hid c.1).isSome=true∧c.2=1:=fun c=>by
  unfold iL;rw [Xu];constructor
  ·rintro ⟨f,hf,rfl⟩;obtain ⟨h1,h2⟩:=XM.1 hf;rw [Xo] at h2;exact ⟨h1,h2.1,h2.2,rfl⟩
  ·rintro ⟨h1,h2,h3,h4⟩;exact ⟨c.1,XM.2 ⟨h1,by rw [h2,h3];rfl⟩,by rw [← h4]⟩
 have hl: ∀ f,f∈jM G w u hid K↔f∈K∧rdU w u f=true∧jx G w u hid f=none:=fun f=>by
  unfold jM;rw [XM,Xo,Y4,Option.isSome_eq_false_iff,Option.isNone_iff_eq_none]
 refine ⟨Xy _,fun c hc=> ?_,fun c hc _=>((hm c).1 hc).2.2.1,fun c hc k hk=> ?_,fun f hf=> ?_,fun f hf hr=> ?_,fun f hf d hd=> ?_,hK.filter _,?_⟩
 ·obtain ⟨h1,h2,_,h4⟩:=(hm c).1 hc;exact ⟨h1,h2,by omega,by omega⟩
 ·have:=((hm c).1 hc).2.2.2;omega
 ·obtain ⟨h1,h2,h3⟩:=(hl f).1 hf;refine ⟨h1,h2,h3,fun j hj=> ?_⟩;rw [← ZE,lh];rintro ⟨r,_,c,hc,h4,_⟩;have:=((hm c).1 hc).2.2.2;omega
 ·cases he:jx G w u hid f with
  |none=>exact .inl ((hl f).2 ⟨hf,hr,he⟩)
  |some e=>exact .inr ⟨1,(hm (f,1)).2 ⟨hf,hr,by simp only [he];rfl,rfl⟩⟩
 ·have h1:=((hm (f,d)).1 hd).2.2.1;rw [((hl f).1 hf).2.2] at h1;cases h1
 ·unfold iL;rw [YL];have e:((fun c:Rf × Nat=>c.1)∘fun f:Rf=>(f,1))=id:=rfl;rw [e,List.map_id];exact hK.filter _
theorem DsI.step {K:List Rf} {O:List (Rf × Nat)} {left:List Rf} {far:Nat} (h:DsI G w u hid K O left far):DsI G w u hid K (O++(left.filter (gL G w u O far)).map fun f=>(f,far+1)) (left.filter fun f=> !gL G w u O far f) (far+1):=by
 have ho:=h.one;have hn: ∀ c,c∈(left.filter (gL G w u O far)).map (fun f=>(f,far+1))↔c.1∈left∧gL G w u O far c.1=true∧c.2=far+1:=fun c=>by
  rw [Xu];constructor
  ·rintro ⟨f,hf,rfl⟩;obtain ⟨h1,h2⟩:=XM.1 hf;exact ⟨h1,h2,rfl⟩
  ·rintro ⟨h1,h2,h3⟩;exact ⟨c.1,XM.2 ⟨h1,h2⟩,by rw [← h3]⟩
 refine ⟨by omega,fun c hc=> ?_,fun c hc h1=> ?_,fun c hc k hk=> ?_,fun f hf=> ?_,fun f hf hr=> ?_,fun f hf d hd=> ?_,h.nd.filter _,?_⟩
 ·rcases Xr.1 hc with hc|hc
  ·obtain ⟨h1,h2,h3,h4⟩:=h.key c hc;exact ⟨h1,h2,h3,by omega⟩
  ·obtain ⟨h1,h2,h3⟩:=(hn c).1 hc;obtain ⟨h4,h5,_⟩:=h.lf c.1 h1;exact ⟨h4,h5,by omega,by omega⟩
 ·rcases Xr.1 hc with hc|hc
  ·exact h.fst c hc h1
  ·have:=((hn c).1 hc).2.2;omega
 ·rcases Xr.1 hc with hc|hc
  ·obtain ⟨h1,h2,h3⟩:=h.nxt c hc k hk;have h4:=(h.key c hc).2.2.2;refine ⟨h1,by rw [pg (by omega)];exact h2,fun j hj=>by rw [pg (by omega)];exact h3 j hj⟩
  ·obtain ⟨h1,h2,h3⟩:=(hn c).1 hc;obtain ⟨_,_,h5,h6⟩:=h.lf c.1 h1;have e:k+1=far:=by omega
   rw [e];exact ⟨h5,by rw [pg (Xy _)];exact h2,fun j hj=>by rw [pg (by omega)];exact h6 j hj⟩
 ·obtain ⟨h1,h2⟩:=XM.1 hf;obtain ⟨h3,h4,h5,h6⟩:=h.lf f h1;refine ⟨h3,h4,h5,fun j hj=> ?_⟩;rw [pg (by omega)];rcases Y1 j far with h7|h7
  ·exact h6 j h7
  ·rw [show j=far by omega];simpa using h2
 ·rcases h.all f hf hr with h1|⟨d,h1⟩
  ·cases hb:gL G w u O far f with
   |true=>exact .inr ⟨far+1,XB _ ((hn (f,far+1)).2 ⟨h1,hb,rfl⟩)⟩
   |false=>exact .inl (XM.2 ⟨h1,by rw [hb];rfl⟩)
  ·exact .inr ⟨d,Xw _ h1⟩
 ·obtain ⟨h1,h2⟩:=XM.1 hf;rcases Xr.1 hd with hd|hd
  ·exact h.dj f h1 d hd
  ·have h3:=((hn (f,d)).1 hd).2.1;rw [h3] at h2;cases h2
 ·rw [XI,YL];have e:((fun c:Rf × Nat=>c.1)∘fun f:Rf=>(f,far+1))=id:=rfl;rw [e,List.map_id,YK];refine ⟨h.od,h.nd.filter _,fun a ha b hb e2=> ?_⟩;subst e2;obtain ⟨c,hc,rfl⟩:=Xu.1 ha;exact h.dj c.1 (XM.1 hb).1 c.2 hc
theorem GK {K:List Rf}: ∀ (n:Nat) {O:List (Rf × Nat)} {left:List Rf} {far:Nat},DsI G w u hid K O left far→left.length<n→ ∃ left' far',DsI G w u hid K (qW G w u n O left far) left' far' ∧left'.filter (gL G w u (qW G w u n O left far) far')= []
 |0,_,_,_,_,hn=>absurd hn (YY _)
 |n+1,O,left,far,h,hn=>by
  rw [qW];split
  ·rename_i he;exact ⟨left,far,h,he⟩
  ·rename_i he;refine GK n h.step ?_;have h1:0<(left.filter (gL G w u O far)).length:=Yr.2 he;have h2:(left.filter (gL G w u O far)).length+(left.filter fun f=> !gL G w u O far f).length=left.length:=by
    clear hn h he h1
    induction left with
    |nil=>rfl
    |cons a l ih=>
     simp only [YA,Xs];cases gL G w u O far a<;>simp<;>omega
   omega
end
open Go.ChangeAt Go.ChangeShapes Go.Deep Go.Proofs Go.RowKit Go.WideShapes
section
variable {H:Type} {enc:TypeId × Value→H} {w:World} {base:Nat} {spare:Nat→Bool} {held:Bool}
theorem zf {α:Type} {enc:α→List Value} {m:Nat} (hm: ∀ a,(enc a).length=m) (w:World) (g o:Nat): ∀ (L:List α),(∀ (i:Nat) (a:α),L[i]? =some a→Cells w g (o+i*m) (enc a))→Cells w g o (L.flatMap enc):=by
 intro L h j v hv;by_cases hm0:m=0
 ·have:(L.flatMap enc).length=0:=by rw [aR hm,hm0,Nat.mul_zero]
  rw [Yx (by omega)] at hv;cases hv
 have hlen:(L.flatMap enc).length=L.length*m:=aR hm L;have hj:j<(L.flatMap enc).length:=(XJ.1 hv).1;have hi:j / m<L.length:=by rw [Nat.div_lt_iff_lt_mul (by omega)];omega
 have hk:j % m<m:=Nat.mod_lt _ (by omega);have he:j / m*m+j % m=j:=by rw [Nat.mul_comm];exact Nat.div_add_mod j m
 have h1:=jw hm L (j / m) (j % m) hi hk;rw [he,hv] at h1;have h2:=h (j / m) L[j / m] (Xf hi) (j % m) v h1.symm;rw [show o+j / m*m+j % m=o+j by omega] at h2;exact h2
theorem mi {α:Type} [Inhabited α] {encA:α→List Value} {ok:α→Prop} {P:Program} {t e m fuel:Nat} {cs:List Value} {x:DataW H × List MemPlace} (ht:P.underlying t=some (.slice e)) (hm:P.cellsOf e=m) (hm0:0<m) (hlenA: ∀ a,(encA a).length=m)
 (helem: ∀ (n:Nat) (cs:List Value) (y:DataW H × List MemPlace),DataW.trod enc P w 0 spare held n e cs=some y→ ∃ a,cs=encA a∧ok a) (h:DataW.trod enc P w 0 spare held fuel t cs=some x):
 ∃ (v:Value) (L:List α),cs= [v]∧Reads w v L.length (L.flatMap encA)∧ ∀ a∈L,ok a:=by
 rcases open_slice ht h with ⟨h0,_⟩|⟨a,len,cap,mm,n,D,Pl,h0,hb,hl,hmx,hmm,_,hx⟩
 ·exact ⟨_,[],h0,⟨none,0,rfl,Xy _,Xn _,fun h=>by cases h⟩,fun _ h=>by cases h⟩
 ·have hlm:len≤mm:=by rw [hmm];split<;>omega
  obtain ⟨F,hF⟩:=choose_lt (α:=α) (n:=len) (p:=fun i nd=>w.cells? 0 (a.add (i*m)) m=some (encA nd)∧ok nd) (fun i hi=>by
   obtain ⟨cs',h1,h2⟩:=hx i (by omega);rw [hm] at h1;obtain ⟨nd,rfl,hw⟩:=helem _ _ _ h2;exact ⟨nd,h1,hw⟩)
  have hlen:((List.range len).map F).length=len:=by simp
  refine ⟨_,(List.range len).map F,h0,⟨some a,cap,by rw [hlen],by omega,hmx,fun hpos=> ?_⟩,fun n hn=> ?_⟩
  rotate_left
  ·obtain ⟨i,hi,rfl⟩:=Xu.1 hn;exact (hF i (ZN.1 hi)).2
  rw [hlen] at hpos;obtain ⟨g,o,spot⟩:=a;have hspot:spot=none:=by
   obtain ⟨_,_,h3⟩:=World.cells?_some (hF 0 (by omega)).1;have h4' :=h3 0 hm0;rw [Xf (by rw [hlenA];exact hm0)] at h4';have h4:=World.cell?_spot h4';simpa [Addr.add] using h4
  subst hspot;have hcell: ∀ (i:Nat) (nd:α),((List.range len).map F)[i]? =some nd→Cells w g (o+i*m) (encA nd):=by
   intro i nd hnd k v hv;have hil:i<len:=by have:=(XJ.1 hnd).1;omega
   have hnd' :F i=nd:=by simpa [hil] using hnd
   subst hnd';have hk:k<m:=by have:=(XJ.1 hv).1;rwa [hlenA] at this
   obtain ⟨_,_,h3⟩:=World.cells?_some (hF i hil).1;have:=h3 k hk;rw [hv,cH,cH] at this;exact this
  refine ⟨g,o,rfl,?_,zf hlenA w g o _ hcell⟩;obtain ⟨u,hu⟩: ∃ u,(encA (F 0))[0]? =some u:=⟨_,Xf (by rw [hlenA];exact hm0)⟩;have h5:=hcell 0 (F 0) (by simp [hpos]) 0 u hu;simp only [World.cell?] at h5;split at h5
  ·rename_i h6;exact (XK.1 h6).1
  ·cases h5
theorem iT {n:Nat} {c:Value} {x:DataW H × List MemPlace} (h:DataW.trod enc Tryz.prog w base spare held n 3 [c]=some x): ∃ a,c= .int .i64 a∧I64 a:=by
 obtain ⟨a0,q0,_,w0⟩:=DataW.trod_int Tryz.underlying3 h;simp only [List.cons.injEq,and_true] at q0;exact ⟨a0,q0,bounds_i64 w0⟩
def okF (a:Rf):Prop:=I64 a.col∧I64 a.row
def okR (r:Rct):Prop:=I64 r.c1∧I64 r.r1∧I64 r.c2∧I64 r.r2
set_option maxRecDepth 100000 in
theorem sw {fuel:Nat} {cs:List Value} {x:DataW H × List MemPlace} (h:DataW.trod enc Tryz.prog w base spare held fuel 34 cs=some x): ∃ v:Rf,cs=aq v∧okF v:=by
 obtain ⟨xs,n,_,_,hlen,hxl,hf⟩:=DataW.trod_struct Tryz.underlying34 h;have eS:Tryz.prog.cellsOf 34=2:=by kernel_rfl
 have eI:Tryz.prog.cellsOf 3=1:=by kernel_rfl
 rw [eS] at hlen
 match cs,hlen,xs,hxl with
 | [c0,c1],_,[x0,x1],_=>
  have h0:DataW.trod enc Tryz.prog w base spare held n 3 ((([c0,c1]:List Value).drop 0).take (Tryz.prog.cellsOf 3))=some x0:=hf 0 _ rfl;rw [eI] at h0;obtain ⟨a0,rfl,w0⟩:=iT (c:=c0) h0;have h1:DataW.trod enc Tryz.prog w base spare held n 3 ((([Value.int .i64 a0,c1]:List Value).drop 1).take (Tryz.prog.cellsOf 3))=some x1:=hf 1 _ rfl;rw [eI] at h1;obtain ⟨a1,rfl,w1⟩:=iT (c:=c1) h1;exact ⟨⟨a0,a1⟩,rfl,w0,w1⟩
set_option maxRecDepth 100000 in
theorem p7 {fuel:Nat} {cs:List Value} {x:DataW H × List MemPlace} (h:DataW.trod enc Tryz.prog w base spare held fuel 31 cs=some x): ∃ v:Rct,cs=ay v∧okR v:=by
 obtain ⟨xs,n,_,_,hlen,hxl,hf⟩:=DataW.trod_struct Tryz.underlying31 h;have eS:Tryz.prog.cellsOf 31=4:=by kernel_rfl
 have eI:Tryz.prog.cellsOf 3=1:=by kernel_rfl
 rw [eS] at hlen
 match cs,hlen,xs,hxl with
 | [c0,c1,c2,c3],_,[x0,x1,x2,x3],_=>
  have h0:DataW.trod enc Tryz.prog w base spare held n 3 ((([c0,c1,c2,c3]:List Value).drop 0).take (Tryz.prog.cellsOf 3))=some x0:=hf 0 _ rfl;rw [eI] at h0;obtain ⟨a0,rfl,w0⟩:=iT (c:=c0) h0;have h1:DataW.trod enc Tryz.prog w base spare held n 3 ((([Value.int .i64 a0,c1,c2,c3]:List Value).drop 1).take (Tryz.prog.cellsOf 3))=some x1:=hf 1 _ rfl;rw [eI] at h1;obtain ⟨a1,rfl,w1⟩:=iT (c:=c1) h1;have h2:DataW.trod enc Tryz.prog w base spare held n 3 ((([Value.int .i64 a0,.int .i64 a1,c2,c3]:List Value).drop 2).take (Tryz.prog.cellsOf 3))=some x2:=hf 2 _ rfl;rw [eI] at h2;obtain ⟨a2,rfl,w2⟩:=iT (c:=c2) h2;have h3:DataW.trod enc Tryz.prog w base spare held n 3 ((([Value.int .i64 a0,.int .i64 a1,.int .i64 a2,c3]:List Value).drop 3).take (Tryz.prog.cellsOf 3))=some x3:=hf 3 _ rfl;rw [eI] at h3;obtain ⟨a3,rfl,w3⟩:=iT (c:=c3) h3;exact ⟨⟨a0,a1,a2,a3⟩,rfl,w0,w1,w2,w3⟩
instance iN9:Inhabited Et:=⟨⟨⟨0,0⟩,aS⟩⟩
set_option maxRecDepth 100000 in
theorem oR {v:Value} {d:DataW H} {p:List MemPlace} (hv:Value.okWide Tryz.prog w .any base 34 v) (h:DataW.Trod enc Tryz.prog w 0 spare held 34 v d p): ∃ r:Rf,v= .agg (aq r).toArray∧okF r:=by
 obtain ⟨fuel,hf⟩:=h;obtain ⟨cs,rfl,_⟩:=okWide_struct Tryz.underlying34 hv;obtain ⟨r,e,hr⟩:=sw hf;exact ⟨r,by rw [← e];simp [Value.cells],hr⟩
end
attribute [local irreducible] FnAt FnIn FnP RW VOp W WA WC WE WG WL WLI WQ WR WT WX aX aY bA blk bw ceP gF jl mU scp thn
theorem Jm (L:List Gn): ∀ u∈L.flatMap cD,u.oneCell' =true:=fun u hu=>by
 obtain ⟨a,_,h⟩:=XL.1 hu;simp only [cD,Xt,YQ,or_false] at h;rcases h with rfl|rfl|rfl|rfl|rfl|rfl|rfl|rfl<;>rfl
end Go.SL
namespace Go.SL
open Go Go.Proofs Go.Sort Go.Shelf
attribute [local irreducible] W WL WQ WG WA WX WLI WR WT WC WE VOp RW thn blk bA scp aY aX bw FnAt FnIn FnP ceP
theorem Lb {P:Program} {w0:World} {s:az} {H:List Blk} {ty:TypeId} {x:Operand} {t g o off:Nat} {xs:List Value} {v:Value} [One P t] (hc: ∀ w,Mem w0 w H→Cells w g o xs) (hx:ev s x=some (.pointer (some ⟨g,o+off,none⟩))) (hv:xs[off]? =some v):
 VOp P w0 s H (.load t x) ty v:=by
 unfold VOp;intro ρ w _ _ _ _ hρ hm;have hc:w.cell? ⟨g,o+off,none⟩=some v:=hc w hm off v hv;simp [execOp,hρ x _ hx,Instr.loadAt,Instr.sureAddr,gj (P:=P) hc]
def xN (G:Gr) (c:Rf):List Rct:=(c::JB G c).flatMap fun x=>(aG G x).map fun u=>u.rect
def Kr (L M:List Rct):Bool:=decide (L.Pairwise fun x y=>ltOf cj x y=true) && (L.all fun r=>decide (r∈M)) && M.all fun r=>decide (r∈L)
theorem Me {G:Gr} {c:Rf} {L:List Rct} (h:Kr L (xN G c)=true):dl G c=L:=by
 unfold Kr at h;simp only [Xo,decide_eq_true_eq,Yt] at h;refine Gx (oW G c) h.1.1 fun r=> ?_;have hm:r∈dl G c↔r∈xN G c:=by
  unfold dl xN;rw [mo,(jJ _).mem_iff,zh]
 rw [hm];exact ⟨h.2 r,h.1.2 r⟩
theorem VE:gM exG ⟨1,4⟩= [⟨1,3⟩]:=by rw [zh];decide+kernel
theorem VD:dl exG ⟨1,4⟩= [⟨2,1,2,3⟩,⟨1,3,1,3⟩]:=Me (by decide+kernel)
theorem FL {d:Nat} (h:1≤d):d=1∨ ∃ k,d=k+2:=by
 rcases Nat.lt_or_eq_of_le h with h|h
 ·exact .inr ⟨d - 2,by omega⟩
 ·exact .inl h.symm
theorem iE {G:Gr} (hG:GrOk G) {c:Rf} {x:Us} (hx:x∈aG G c):aA x.rect=true:=by
 by_cases hc:c∈ap G
 ·obtain ⟨e,he,h2⟩:=iH.1 hc;rw [← h2,um hG.sort he] at hx;exact (hG.ent e he).rect x hx
 ·rw [kO hc] at hx;cases hx
theorem EH {p:Rct} {a:Rf} (hp:aA p=true) (h:aI p a=true):a.valid=true:=by
 have h1:=aV.1 hp;have h2:=aJ.1 h;unfold Rf.valid valid;simp only [Xo,decide_eq_true_eq];omega
theorem nM {p:Rct} (hp:aA p=true):aI p (jO p)=true:=by
 have h1:=aV.1 hp;exact aJ.2 (by simp only [jO];omega)
section
variable {G:Gr} {w:Lw} {u:Nat} {hid:Rct→List Rct}
structure DistOk (G:Gr) (w:Lw) (u:Nat) (hid:Rct→List Rct) (K:List Rf) (O:List (Rf × Nat)):Prop where
 key: ∀ c∈O,c.1∈K∧rdU w u c.1=true∧1≤c.2
 fst: ∀ c∈O,c.2=1→(jx G w u hid c.1).isSome=true
 nxt: ∀ c∈O,∀ k,c.2=k+2→jx G w u hid c.1=none∧gL G w u O (k+1) c.1=true∧ ∀ j,j<k+1→gL G w u O j c.1=false
 all: ∀ f∈K,rdU w u f=true→(∃ d,(f,d)∈O)∨(jx G w u hid f=none∧ ∀ r∈cG G w u f,∀ c∈O,aI r c.1=false)
 od:(O.map fun c=>c.1).Nodup
theorem pw {K:List Rf} (hK:K.Nodup):DistOk G w u hid K (gH G w u hid K):=by
 have h0:=DsI.start (G:=G) (w:=w) (u:=u) (hid:=hid) K hK;have hl:(jM G w u hid K).length<K.length+1:=Nat.lt_succ_of_le (XS _ _);obtain ⟨left,far,h,he⟩:=GK (K.length+1) h0 hl;refine ⟨fun c hc=> ?_,h.fst,h.nxt,fun f hf hr=> ?_,h.od⟩
 ·obtain ⟨h1,h2,h3,_⟩:=h.key c hc;exact ⟨h1,h2,h3⟩
 ·rcases h.all f hf hr with h1|h1
  ·refine .inr ⟨(h.lf f h1).2.2.1,fun r hr c hc=> ?_⟩;rw [← ZE];intro h2;have h3:=(h.key c hc).2.2.2;have h4:gL G w u (gH G w u hid K) c.2 f=true:=lh.2 ⟨r,hr,c,hc,rfl,h2⟩;rcases Nat.lt_or_eq_of_le h3 with h5|h5
   ·have h6:=(h.lf f h1).2.2.2 c.2 h5;rw [show qW G w u (K.length+1) (iL G w u hid K) (jM G w u hid K) 1=gH G w u hid K from rfl] at h6;rw [h4] at h6;cases h6
   ·have h6:f∈left.filter (gL G w u (gH G w u hid K) far):=XM.2 ⟨h1,by rw [← h5];exact h4⟩;rw [show gH G w u hid K=qW G w u (K.length+1) (iL G w u hid K) (jM G w u hid K) 1 from rfl,he] at h6;cases h6
  ·exact .inl h1
theorem GH {c:Rf} (h:(jx G w u hid c).isSome=true): ∃ e,jx G w u hid c=some e∧ ∃ r∈cG G w u c,∃ p∈hid r,e=jO p:=by
 obtain ⟨e,he⟩:=Option.isSome_iff_exists.1 h;have h1:=(jt (GJ G w u hid c)).mem e he;unfold GJ at h1;obtain ⟨r,hr,h2⟩:=XL.1 h1;obtain ⟨p,hp,rfl⟩:=Xu.1 h2;exact ⟨_,he,r,hr,p,hp,rfl⟩
theorem GI {c:Rf} (h:jx G w u hid c=none) {r:Rct} (hr:r∈cG G w u c):hid r= []:=by
 have h1:=(jt (GJ G w u hid c)).no h;refine YM.2 fun p hp=> ?_;have h2:jO p∈GJ G w u hid c:=XL.2 ⟨r,hr,Xu.2 ⟨p,hp,rfl⟩⟩;rw [h1] at h2;cases h2
theorem fj (hG:GrOk G) (hw:HidW w u hid) {c:Rf} (h:seesP G w u c):rdU w u c=true∧ ∀ r∈cG G w u c,aA r=true∧hid r= []∧ ∀ f∈ap G,aI r f=true→seesP G w u f:=by
 obtain ⟨h1,h2⟩:=h.out;refine ⟨h1,fun r hr=> ?_⟩;obtain ⟨x,hx,h3,rfl⟩:=eu.1 hr;have hok:=iE hG hx;rcases h2 x hx with h4|⟨h4,h5⟩
 ·rw [h3] at h4;cases h4
 ·exact ⟨hok,(hw.ov _ hok).1 h4,h5⟩
theorem DistOk.hides (hG:GrOk G) (hw:HidW w u hid) {O:List (Rf × Nat)} (h:DistOk G w u hid (ap G) O): ∀ d c,(c,d)∈O→ ¬ seesP G w u c:=fun d=>by
 induction d using Nat.strongRecOn with
 |ind d ih=>
  intro c hc hs;obtain ⟨h1,h2⟩:=fj hG hw hs;have hk:=(h.key _ hc).2.2;simp only at hk;rcases FL hk with rfl|⟨k,rfl⟩
  ·obtain ⟨e,_,r,hr,p,hp,_⟩:=GH (h.fst _ hc rfl);rw [(h2 r hr).2.1] at hp;cases hp
  ·obtain ⟨r,hr,c2,hc2,h3,h4⟩:=lh.1 (h.nxt _ hc k rfl).2.1;exact ih (k+1) (by omega) c2.1 (by rw [← h3];exact hc2) ((h2 r hr).2.2 c2.1 (h.key c2 hc2).1 h4)
theorem DistOk.sees (hG:GrOk G) (hw:HidW w u hid) {O:List (Rf × Nat)} (h:DistOk G w u hid (ap G) O) {c:Rf}:seesP G w u c↔rdU w u c=true∧ ∀ d,(c,d)∉O:=by
 refine ⟨fun hs=>⟨(fj hG hw hs).1,fun d hd=>h.hides hG hw d c hd hs⟩,fun hs=>⟨fun a=>rdU w u a=true∧ ∀ d,(a,d)∉O,hs,fun a ha=>⟨ha.1,fun x hx=> ?_⟩⟩⟩
 cases ht:(w.to x).getLsbD u with
 |true=>exact .inl rfl
 |false=>
  have hak:a∈ap G:=Classical.byContradiction fun hn=>by rw [kO hn] at hx;cases hx
  have hr:x.rect∈cG G w u a:=eu.2 ⟨x,hx,ht,rfl⟩;have hok:=iE hG hx;rcases h.all a hak ha.1 with ⟨d,hd⟩|⟨he,hn⟩
  ·exact absurd hd (ha.2 d)
  ·have hh:=GI he hr;refine .inr ⟨(hw.ov _ hok).2 hh,fun f hf hrf=>⟨?_,fun d hd=> ?_⟩⟩
   ·cases hrd:rdU w u f with
    |true=>rfl
    |false=>
     obtain ⟨p,hp,_⟩:=hw.cov _ hok f hrf hrd;rw [hh] at hp;cases hp
   ·have h1:=hn _ hr (f,d) hd;rw [hrf] at h1;cases h1
variable (G w u hid) in
def uF (O:List (Rf × Nat)) (c:Rf) (k:Nat):Option Rf:=bR ((cG G w u c).flatMap fun r=>(O.filter fun x=>decide (x.2=k) && aI r x.1).map fun x=>x.1)
variable (G w u hid) in
def eD (O:List (Rf × Nat)):Nat→Rf→List Rf
 |0,_=> []
 |1,c=> [(jx G w u hid c).getD ⟨0,0⟩]
 |k+2,c=>(uF G w u O c (k+1)).getD ⟨0,0⟩::eD O (k+1) ((uF G w u O c (k+1)).getD ⟨0,0⟩)
def dOf (O:List (Rf × Nat)) (c:Rf):Option Nat:=(O.find? fun x=>decide (x.1=c)).map fun x=>x.2
variable (G w u hid) in
def gV (O:List (Rf × Nat)) (c:Rf):List Rf:=if rdU w u c=false then [c] else match dOf O c with
 |none=> []
 |some d=>c::eD G w u hid O d c
variable (G w u) in
def fI:List Rf→Bool
 | []=>true
 | [a]=>a.valid && !rdU w u a
 |a::b::l=>a.valid && (rdU w u a && (cG G w u a).any fun r=>aI r b) && fI (b::l)
theorem px {O:List (Rf × Nat)} (hn:(O.map fun c=>c.1).Nodup) {c:Rf} {d:Nat}:dOf O c=some d↔(c,d)∈O:=by
 unfold dOf;constructor
 ·intro h;obtain ⟨x,hx,h2⟩:=YS.1 h;have h3:=Z8 hx;have h4:=Zk hx;rw [decide_eq_true_eq] at h3;rw [← h3,← h2];exact h4
 ·intro h
  induction O with
  |nil=>cases h
  |cons a l ih=>
   rw [XD,Y9] at hn;rw [Z9];rcases Xt.1 h with e|e
   ·rw [← e];simp
   ·have hne:decide (a.1=c)=false:=decide_eq_false fun e2=>hn.1 (by rw [e2];exact Xu.2 ⟨(c,d),e,rfl⟩);rw [hne];exact ih hn.2 e
theorem GL {O:List (Rf × Nat)} {c:Rf}:dOf O c=none↔ ∀ d,(c,d)∉O:=by
 unfold dOf;rw [Option.map_eq_none_iff,ZS];constructor
 ·intro h d hd;exact h (c,d) hd (by simp)
 ·intro h x hx e;rw [decide_eq_true_eq] at e;exact h x.2 (by rw [← e];exact hx)
theorem tj {O:List (Rf × Nat)} {c:Rf} {k:Nat} (h:gL G w u O k c=true): ∃ b,uF G w u O c k=some b∧(b,k)∈O∧ ∃ r∈cG G w u c,aI r b=true:=by
 obtain ⟨r,hr,x,hx,h1,h2⟩:=lh.1 h;have hm:x.1∈(cG G w u c).flatMap fun r=>(O.filter fun x=>decide (x.2=k) && aI r x.1).map fun x=>x.1:=
  XL.2 ⟨r,hr,Xu.2 ⟨x,XM.2 ⟨hx,by rw [h2,X8];exact decide_eq_true h1⟩,rfl⟩⟩
 have hl:=jt ((cG G w u c).flatMap fun r=>(O.filter fun x=>decide (x.2=k) && aI r x.1).map fun x=>x.1)
 cases hb:uF G w u O c k with
 |none=>rw [hl.no hb] at hm;cases hm
 |some b=>
  obtain ⟨r2,hr2,h3⟩:=XL.1 (hl.mem b hb);obtain ⟨y,hy,rfl⟩:=Xu.1 h3;obtain ⟨h4,h5⟩:=XM.1 hy;rw [Xo,decide_eq_true_eq] at h5;exact ⟨_,rfl,by rw [← h5.1];exact h4,r2,hr2,h5.2⟩
theorem DistOk.way (hG:GrOk G) (hw:HidW w u hid) {O:List (Rf × Nat)} (h:DistOk G w u hid (ap G) O): ∀ d c,(c,d)∈O→fI G w u (c::eD G w u hid O d c)=true
 |0,c,hc=>by have:=(h.key _ hc).2.2;simp only at this;omega
 |1,c,hc=>by
  obtain ⟨h1,h2,_⟩:=h.key _ hc;obtain ⟨e,he,r,hr,p,hp,rfl⟩:=GH (h.fst _ hc rfl);obtain ⟨x,hx,_,rfl⟩:=eu.1 hr;obtain ⟨h3,h4⟩:=hw.un _ (iE hG hx) p hp;obtain ⟨h5,h6⟩:=h4 _ (nM h3);rw [eD,he,Ze,fI,fI,ez hG h1,h2,EH h3 (nM h3),show rdU w u (jO p)=false from h6];rw [show ((cG G w u c).any fun r=>aI r (jO p))=true from XQ.2 ⟨_,hr,h5⟩]
  rfl
 |k+2,c,hc=>by
  obtain ⟨h1,h2,_⟩:=h.key _ hc;obtain ⟨b,hb,h3,r,hr,h4⟩:=tj (h.nxt _ hc k rfl).2.1;have ih:=DistOk.way hG hw h (k+1) b h3;rw [eD,hb,Ze,fI,ez hG h1,h2,ih,show ((cG G w u c).any fun r=>aI r b)=true from XQ.2 ⟨r,hr,h4⟩]
  rfl
end
end Go.SL
