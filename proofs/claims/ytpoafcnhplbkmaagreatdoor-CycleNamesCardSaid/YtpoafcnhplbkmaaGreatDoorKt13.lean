/-
  Lemmas and walks, put together: Gq D11 Q10 Lu Pl2 G2 Gu G2a D8 Cj Zd D12 Ex L3 Sl29 Rq Ro Rt Ri Rf Ru.
-/
import Derived.Test.YtpoafcnhplbkmaaGreatDoorKt12
set_option linter.unusedSimpArgs false
set_option linter.unusedVariables false
set_option maxRecDepth 20000
set_option maxHeartbeats 16000000
namespace Go.SL
open Go
def En.abs (e:En):Rf × List Nd × List Us:=(e.at_,e.tree,e.uses)
structure GOk (R:List Blk) (E:List En) (clock:Nat) (G:Gr):Prop where
 ok:MapOk (E.map En.m) clock
 en: ∀ e∈E,EnOk R e
 rel: ∀ x,x∈E.map En.abs↔x∈G
 sort:SortG G
theorem yM (E:List En):((E.map En.m).map fun e=>e.1)=E.map En.at_:=by rw [JM];rfl
theorem Dr (E:List En):((E.map En.m).map fun e=>e.2.2)=E.map En.born:=by rw [JM];rfl
theorem GOk.sub {R R' :List Blk} {E:List En} {clock:Nat} {G:Gr} (h:GOk R E clock G) (hs:MSub R R'):GOk R' E clock G:=⟨h.ok,fun e he=>(h.en e he).sub hs,h.rel,h.sort⟩
theorem GOk.nodup {R:List Blk} {E:List En} {clock:Nat} {G:Gr} (h:GOk R E clock G):(E.map En.at_).Nodup:=yM E ▸ h.ok.keys
theorem GOk.perm {R:List Blk} {E:List En} {clock:Nat} {G:Gr} (h:GOk R E clock G):(E.map En.abs).Perm G:=by
 refine kK ?_ ?_ h.rel
 ·have:=h.nodup;have e:E.map En.at_=(E.map En.abs).map fun x=>x.1:=by rw [JM];rfl
  rw [e] at this;exact fC _ this
 ·exact fC (fun e:Rf × List Nd × List Us=>e.1) h.sort.nodup
theorem GOk.len {R:List Blk} {E:List En} {clock:Nat} {G:Gr} (h:GOk R E clock G):E.length=G.length:=by
 have:=h.perm.length_eq;simpa using this
theorem GOk.forms {R:List Blk} {E:List En} {clock:Nat} {G:Gr} (h:GOk R E clock G):fj (E.map En.m)=aw G:=by
 have hp:(E.map En.at_).Perm (aw G):=by
  have:=h.perm.map fun x=>x.1;rw [JM] at this;exact this
 rw [fj,yM,mU hp,qf (vp h.sort)]
theorem GOk.look {R:List Blk} {E:List En} {clock:Nat} {G:Gr} (h:GOk R E clock G) (a:Rf):(jG E a).map (fun e=>(e.tree,e.uses))=pq G a:=by
 cases hf:jG E a with
 |some e=>
  have h1:=List.find?_some hf;simp only [decide_eq_true_eq] at h1;have h2:(a,e.tree,e.uses)∈G:=by
   rw [← h.rel];refine IM.2 ⟨e,Kq hf,?_⟩;rw [← h1];rfl
  rw [(kM h.sort).2 h2];rfl
 |none=>
  rw [jG,KX] at hf;symm;rw [Option.map_none,xz];intro x hx;rw [← h.rel] at hx;obtain ⟨e,he,rfl⟩:=IM.1 hx;have:=hf e he;simpa [En.abs] using this
theorem GOk.uses {R:List Blk} {E:List En} {clock:Nat} {G:Gr} (h:GOk R E clock G) (a:Rf):(cn E a).uses=gV G a:=by
 rw [gV,← h.look a,cn];cases jG E a<;>rfl
theorem kN {κ:Type} [DecidableEq κ] {k:κ}: ∀ {es:List (κ × Value × Nat)} {i:Nat},bn k es i=none→ ∀ e∈es,e.1≠k
 | [],_,_,e,he=>by cases he
 |x::r,i,h,e,he=>by
  rw [bn] at h;split at h
  ·cases h
  ·rename_i hk;rcases IP.1 he with rfl|he
   ·exact fun e=>hk e.symm
   ·exact kN h e he
theorem GOk.del {R:List Blk} {E:List En} {clock:Nat} {G:Gr} (h:GOk R E clock G) (a:Rf): ∃ E',E'.map En.m=xD a (E.map En.m)∧GOk R E' clock (Dh G a):=by
 unfold xD
 cases hk:bn a (E.map En.m) 0 with
 |none=>
  have hno:=kN hk;refine ⟨E,rfl,h.ok,h.en,fun x=> ?_,l6 h.sort a⟩;rw [pd,← h.rel];refine ⟨fun hx=>⟨hx,?_⟩,fun hx=>hx.1⟩;obtain ⟨e,he,rfl⟩:=IM.1 hx;exact hno e.m (IM.2 ⟨e,he,rfl⟩)
 |some x=>
  obtain ⟨j,v⟩:=x;obtain ⟨b,_,hj⟩:=jU hk;rw [JJ,Iy] at hj;obtain ⟨e0,he0,hm0⟩:=J0.1 hj;have ha:e0.at_=a:=congrArg Prod.fst hm0;have hsub:(E.eraseIdx j).Sublist E:=List.eraseIdx_sublist E j;have hin: ∀ e,e∈E.eraseIdx j↔e∈E∧e.at_≠a:=by
   intro e;rw [List.mem_eraseIdx_iff_getElem?];obtain ⟨hjl,hj0⟩:=IQ.1 he0;constructor
   ·rintro ⟨i,hne,hi⟩;refine ⟨List.mem_of_getElem? hi,fun hea=>hne ?_⟩;obtain ⟨hil,hi0⟩:=IQ.1 hi;have hn:=h.nodup;have:=KL (xs:=E.map En.at_) (h₀:=by simpa using hil) (h₁:=by simpa using hjl) hn;refine this.1 ?_;simp only [List.getElem_map,hi0,hj0,hea,ha]
   ·rintro ⟨he,hea⟩;obtain ⟨i,hil,hi⟩:=JZ he;refine ⟨i,?_,by rw [Ir hil,hi]⟩;rintro rfl;rw [hj0] at hi;exact hea (hi ▸ ha)
  refine ⟨E.eraseIdx j,jd _ _ _,?_,fun e he=>h.en e (hsub.subset he),fun x=> ?_,l6 h.sort a⟩
  ·have hs2:((E.eraseIdx j).map En.m).Sublist (E.map En.m):=hsub.map _;exact ⟨(hs2.map _).nodup h.ok.born,fun e he=>h.ok.old e (hs2.subset he),(hs2.map _).nodup h.ok.keys⟩
  ·rw [pd,← h.rel];constructor
   ·intro hx;obtain ⟨e,he,rfl⟩:=IM.1 hx;obtain ⟨h1,h2⟩:=(hin e).1 he;exact ⟨IM.2 ⟨e,h1,rfl⟩,h2⟩
   ·rintro ⟨hx,hne⟩;obtain ⟨e,he,rfl⟩:=IM.1 hx;exact IM.2 ⟨e,(hin e).2 ⟨he,hne⟩,rfl⟩
theorem GOk.put {R:List Blk} {E:List En} {clock:Nat} {G:Gr} (h:GOk R E clock G) (n:En) (hn:EnOk R n): ∃ E',E'.map En.m=(je n.at_ (.agg #[n.tv,n.uv]) clock (E.map En.m)).1∧GOk R E' (je n.at_ (.agg #[n.tv,n.uv]) clock (E.map En.m)).2 (Aq G n.at_ (n.tree,n.uses)):=by
 unfold je
 cases hk:bn n.at_ (E.map En.m) 0 with
 |none=>
  have hno:=kN hk;have hno' :n.at_∉E.map En.at_:=fun hx=>by
   obtain ⟨e,he,hea⟩:=IM.1 hx;exact hno e.m (IM.2 ⟨e,he,rfl⟩) hea
  refine ⟨E++ [{ n with born:=clock }],by simp [En.m,En.tv,En.uv],⟨?_,?_,?_⟩,fun e he=> ?_,fun x=> ?_,l5 h.sort _ _⟩
  ·have hb:=h.ok.born;rw [Dr] at hb ⊢;rw [Jn,J8];refine ⟨hb,by simp,fun x hx y hy=> ?_⟩;simp only [Ja,Jz,Iz] at hy;subst hy;obtain ⟨e,he,rfl⟩:=IM.1 hx;have:=h.ok.old e.m (IM.2 ⟨e,he,rfl⟩);simp only [En.m] at this;omega
  ·intro e he;rw [Jn] at he;rcases IL.1 he with he|he
   ·have:=h.ok.old e he;simp only;omega
   ·simp only [Ja,Jz,Iz] at he;subst he;simp [En.m]
  ·rw [yM,Jn,J8];refine ⟨h.nodup,by simp,fun x hx y hy e=> ?_⟩;simp only [Ja,Jz,Iz] at hy;subst hy;subst e;exact hno' hx
  ·rcases IL.1 he with he|he
   ·exact h.en e he
   ·rw [Iz.1 he];exact ⟨hn.tree,hn.uses,hn.tl,hn.ul⟩
  ·rw [o9,← h.rel,Jn,IL];constructor
   ·rintro (hx|hx)
    ·right
     obtain ⟨e,he,rfl⟩:=IM.1 hx;exact ⟨hx,fun hea=>hno' (IM.2 ⟨e,he,hea⟩)⟩
    ·left
     simpa [En.abs] using hx
   ·rintro (rfl|⟨hx,_⟩)
    ·right;simp [En.abs]
    ·left;exact hx
 |some x=>
  obtain ⟨j,v⟩:=x;obtain ⟨b,_,hj⟩:=jU hk;rw [JJ,Iy] at hj;obtain ⟨e0,he0,hm0⟩:=J0.1 hj;have ha:e0.at_=n.at_:=congrArg Prod.fst hm0;obtain ⟨hjl,hj0⟩:=IQ.1 he0;have hget: ∀ i,(E.modify j fun e=>{ n with born:=e.born })[i]? =if j=i then (E[i]?).map (fun e=>{ n with born:=e.born }) else E[i]? :=fun i=>by
   rw [List.getElem?_modify];split<;>rename_i hji
   ·rfl
   ·cases E[i]? <;>rfl
  have hin: ∀ e,e∈(E.modify j fun e=>{ n with born:=e.born })↔e={ n with born:=e0.born } ∨(e∈E∧e.at_≠n.at_):=by
   intro e;constructor
   ·intro he;obtain ⟨i,hi⟩:=K8.1 he;rw [hget] at hi;split at hi
    ·rename_i hji;subst hji;rw [he0] at hi
     left
     exact (Option.some.inj hi).symm
    ·rename_i hji
     right
     refine ⟨List.mem_of_getElem? hi,fun hea=>hji ?_⟩;obtain ⟨hil,hi0⟩:=IQ.1 hi;have:=KL (xs:=E.map En.at_) (h₀:=by simpa using hjl) (h₁:=by simpa using hil) h.nodup;refine this.1 ?_;simp only [List.getElem_map,hi0,hj0,hea,ha]
   ·rintro (rfl|⟨he,hea⟩)
    ·refine K8.2 ⟨j,?_⟩;rw [hget,if_pos rfl,he0];rfl
    ·obtain ⟨i,hil,hi⟩:=JZ he;refine K8.2 ⟨i,?_⟩;rw [hget,if_neg,Ir hil,hi];rintro rfl;rw [hj0] at hi;exact hea (hi ▸ ha)
  have hborn:(E.modify j fun e=>{ n with born:=e.born }).map En.born=E.map En.born:=by
   apply Js;intro i;rw [Iy,Iy,hget];split
   ·cases E[i]? <;>rfl
   ·rfl
  have hkeys:(E.modify j fun e=>{ n with born:=e.born }).map En.at_=E.map En.at_:=by
   apply Js;intro i;rw [Iy,Iy,hget];split
   ·rename_i hji;subst hji;rw [he0];simp [ha]
   ·rfl
  refine ⟨E.modify j fun e=>{ n with born:=e.born },?_,⟨?_,?_,?_⟩,fun e he=> ?_,fun x=> ?_,l5 h.sort _ _⟩
  ·apply Js;intro i;simp only [List.getElem?_modify,Iy]
   cases E[i]? with
   |none=>simp
   |some e=>by_cases hji:j=i<;>simp [hji,En.m,En.tv,En.uv]
  ·rw [Dr,hborn,← Dr];exact h.ok.born
  ·intro e he;obtain ⟨e',he',rfl⟩:=IM.1 he;have:e'.born∈E.map En.born:=by rw [← hborn];exact IM.2 ⟨e',he',rfl⟩
   obtain ⟨e2,he2,hb2⟩:=IM.1 this;have:=h.ok.old e2.m (IM.2 ⟨e2,he2,rfl⟩);simp only [En.m] at this ⊢;omega
  ·rw [yM,hkeys];exact h.nodup
  ·rcases (hin e).1 he with rfl|⟨he,_⟩
   ·exact ⟨hn.tree,hn.uses,hn.tl,hn.ul⟩
   ·exact h.en e he
  ·rw [o9,← h.rel];constructor
   ·intro hx;obtain ⟨e,he,rfl⟩:=IM.1 hx;rcases (hin e).1 he with rfl|⟨he,hea⟩
    ·left;rfl
    ·right;exact ⟨IM.2 ⟨e,he,rfl⟩,hea⟩
   ·rintro (rfl|⟨hx,hne⟩)
    ·exact IM.2 ⟨_,(hin _).2 (.inl rfl),rfl⟩
    ·obtain ⟨e,he,rfl⟩:=IM.1 hx;exact IM.2 ⟨e,(hin e).2 (.inr ⟨he,hne⟩),rfl⟩
theorem dY {o:Option Out} {k:Nat→PS→Option Out} {x:Int × Int} (h:dB o k=some (.error x)) (h1: ∀ y,o=some (.error y)→y.2≠0) (h2: ∀ n p y,k n p=some (.error y)→y.2≠0):x.2≠0:=by
 obtain ⟨r1,hr,⟨e,rfl,he⟩|⟨n,p,rfl,hk⟩⟩:=cj h
 ·cases he;exact h1 _ hr
 ·exact h2 _ _ _ hk
theorem m9 {fin:Int} {name:Tk} {fn:Int} {n:Nat} {p:PS} {x:Int × Int} (h:cG fin name fn n p=some (.error x)):x.2≠0:=by
 unfold cG at h;dsimp only at h;split at h
 ·cases h;simp
 ·split at h
  ·cases h;simp
  ·split at h
   ·cases h;simp
   ·cases h
theorem Ch (fin:Int): ∀ (f:Nat) (j:Job) (p:PS) (x:Int × Int),aU fin f j p=some (.error x)→x.2≠0:=by
 intro f
 induction f with
 |zero=>intro j p x h;cases j<;>cases h
 |succ f ih=>
  intro j p x h
  cases j with
  |level k=>
   rw [aU] at h;split at h
   ·exact ih _ _ _ h
   ·exact dY h (ih _ _) fun _ _=>ih _ _
  |loop k=>
   rw [aU] at h;try dsimp only at h
   split at h
   ·exact dY h (ih _ _) fun _ _=>ih _ _
   ·cases h
  |sign=>
   rw [aU] at h;try dsimp only at h
   split at h
   ·exact dY h (ih _ _) fun _ _ _ h=>by cases h
   ·refine dY h (ih _ _) fun _ _ y h=> ?_;split at h
    ·exact dY h (ih _ _) fun _ _ _ h=>by cases h
    ·cases h
  |pct=>
   rw [aU] at h;exact dY h (ih _ _) fun _ _=>ih _ _
  |pctl=>
   rw [aU] at h;try dsimp only at h
   split at h
   ·exact ih _ _ _ h
   ·cases h
  |prim=>
   rw [aU] at h;try dsimp only at h
   split at h
   ·cases h
   ·split at h
    ·cases h
    ·split at h
     ·refine dY h (ih _ _) fun _ _ y h=> ?_;split at h
      ·cases h;simp
      ·cases h
     ·split at h
      ·split at h
       ·cases h;simp
       ·split at h
        ·cases h;simp
        ·split at h
         ·exact m9 h
         ·exact dY h (ih _ _) fun _ _ _ h=>m9 h
      ·cases h;simp
  |args fn n=>
   rw [aU] at h;try dsimp only at h
   have hgo: ∀ (p:PS) (y:Int × Int),(if (hdT fin p.l).kind=11 then aU fin f (.args fn (n+1)) p.skip else some (.ok (n+1,p)))=some (.error y)→y.2≠0:=by
    intro p y h;split at h
    ·exact ih _ _ _ h
    ·cases h
   split at h
   ·exact dY h (ih _ _) fun _ _ _ h=>hgo _ _ h
   ·split at h
    ·cases h;simp
    ·exact hgo _ _ h
theorem kA {x:List Tk × Int × Int} {fin:Int}:(bW x fin).1.length≤x.1.length∧((bW x fin).2.2=0→eR (bW x fin).1=0):=by
 have hends:=qN fin (20*x.1.length+40) (.level 1) ⟨x.1,[]⟩ ⟨by omega,by omega⟩ (by simp only [Job.c];omega);have hgrew:=fun n p hp=>fL fin (20*x.1.length+40) (.level 1) ⟨x.1,[]⟩ n p hp;unfold bW;split
 ·rename_i h;exact ⟨Iw _,fun h' =>absurd h' h⟩
 ·split
  ·rename_i h;obtain ⟨r,hr,_⟩:=hends;rw [h] at hr;cases hr
  ·rename_i a e h;exact ⟨Iw _,fun h' =>absurd h' (Ch _ _ _ _ _ h)⟩
  ·rename_i n p hp;split
   ·exact ⟨Iw _,fun h' =>by cases h'⟩
   ·split
    ·rename_i hc;exact ⟨Iw _,fun h' =>absurd h' hc⟩
    ·rename_i hc;obtain ⟨⟨m,h1,h2,h3⟩,_,_⟩:=hgrew _ _ hp;simp only [Km,IG] at h3;exact ⟨Je h3 h2,fun _=>by simpa using hc⟩
theorem uW {b:ByteArray} (h:(ofP b).2.2=0) (hf:(ofP b).1.formula=true):eR (ofP b).1.tree=0:=by
 unfold ofP at h hf ⊢;split at hf
 ·cases hf
 ·rename_i h1;rw [if_neg h1] at h ⊢;split at hf
  ·cases hf
  ·rename_i h2;rw [h2] at h;simp only at h ⊢;split at hf
   ·cases hf
   ·rename_i h3;rw [if_neg h3] at h ⊢;have ht:=kA (x:=cW cy (aq (iD b eqB).1)) (fin:=((iD b eqB).1.size:Int));generalize bW (cW cy (aq (iD b eqB).1)) ((iD b eqB).1.size:Int)=r at h hf ht ⊢;obtain ⟨t,at_,e⟩:=r;simp only at h hf ht ⊢;split at hf
    ·cases hf
    ·rename_i h4;rw [if_neg h4];exact ht.2 (by simpa using h4)
theorem yI (b:ByteArray):(ofP b).1.tree.length≤256:=by
 unfold ofP;split
 ·exact Iw _
 ·split
  ·exact Iw _
  ·split
   ·exact Iw _
   ·have ht:=(kA (x:=cW cy (aq (iD b eqB).1)) (fin:=((iD b eqB).1.size:Int))).1;have hl:=mT cy (aq (iD b eqB).1);generalize bW (cW cy (aq (iD b eqB).1)) ((iD b eqB).1.size:Int)=r at ht ⊢;obtain ⟨t,at_,e⟩:=r;simp only at ht ⊢;split
    ·exact Iw _
    ·exact Je ht hl
end Go.SL
namespace Go.SL
open Go Go.Proofs
attribute [local irreducible] W WL WQ WG WA WX WLI WR WT WC VOp RW thn blk aW scp aJ aS bg FnAt FnIn FnP ceP
theorem EC (R:List Blk):GOk R [] 0 []:=⟨⟨Kh,(fun _ h=>by cases h),Kh⟩,(fun _ h=>by cases h),(fun _=>Iff.rfl),qK⟩
def Ic (e:En):List Value:= [.int .i64 e.at_.col,.int .i64 e.at_.row,e.tv,e.uv]
def rgB (g:Nat) (A:Option Nat) (cap:Nat) (L:List En):List Blk:= [.box g 126 [sl A L.length cap],.own A 172 4 L.length cap (L.flatMap Ic)]
structure RGOk (R:List Blk) (L:List En) (G:Gr):Prop where
 en: ∀ e∈L,EnOk R e
 rel:L.map En.abs=G
end Go.SL
namespace Go.SL
open Go
theorem gL: ∀ (L:List Nd) (i:Nat),∀ u∈cH L i,∃ n∈L,fw n=true∧u.rect=n.rect
 | [],_,u,h=>by cases h
 |n::r,i,u,h=>by
  rw [cH] at h
  cases hr:fw n with
  |false=>
   rw [hr,cond_false] at h;obtain ⟨m,hm,h1,h2⟩:=gL r (i+1) u h;exact ⟨m,IB _ hm,h1,h2⟩
  |true=>
   rw [hr,cond_true] at h;rcases IP.1 h with rfl|h
   ·refine ⟨n,Iu,hr,?_⟩;unfold oF
    cases r with
    |nil=>rfl
    |cons m q=>dsimp only;split<;>rfl
   ·obtain ⟨m,hm,h1,h2⟩:=gL r (i+1) u h;exact ⟨m,IB _ hm,h1,h2⟩
theorem zr {L:List Nd} (h:eR L=0): ∀ u∈cU L,dC u.rect=true:=fun u hu=>by
 obtain ⟨n,hn,h1,h2⟩:=gL L 0 u hu;rw [h2];exact vL (tB h n hn) h1
structure EntOk (e:Rf × List Nd × List Us):Prop where
 at_:e.1.valid=true
 tree:eR e.2.1=0
 uses:e.2.2=cU e.2.1
 len:e.2.1.length≤256
theorem EntOk.rect {e:Rf × List Nd × List Us} (h:EntOk e): ∀ u∈e.2.2,dC u.rect=true:=by
 rw [h.uses];exact zr h.tree
structure GrOk (G:Gr):Prop where
 sort:SortG G
 ent: ∀ e∈G,EntOk e
theorem CV:GrOk []:=⟨qK,fun _ h=>by cases h⟩
theorem GrOk.set {G:Gr} (h:GrOk G) (a:Rf) (b:ByteArray):GrOk (fu G a b).1:=by
 refine ⟨zE h.sort a b,?_⟩;unfold fu;split
 ·exact h.ent
 ·rename_i hv;split
  ·exact h.ent
  ·rename_i he;split
   ·exact fun e he=>h.ent e (pd.1 he).1
   ·rename_i hf;intro e hm;rcases o9.1 hm with rfl|⟨hm,_⟩
    ·exact ⟨by simpa using hv,uW (by simpa using he) (by simpa using hf),rfl,yI b⟩
    ·exact h.ent e hm
theorem zk {c r:Int}:valid c r=true↔1≤c∧c≤1024∧1≤r∧r≤1024:=by
 simp only [valid,IX,decide_eq_true_eq];omega
theorem uL {c r:Int}:dC (j9 c r)=valid c r:=by
 rw [Jp,oS,zk];simp only [j9];omega
theorem Aw {u:Us} {a:Rf} (hu:dC u.rect=true) (ha:a.valid=true):vw u.rect a=uo (j9 a.col a.row) u:=by
 rw [Jp,zx,uL];have hv:valid a.col a.row=true:=ha;simp only [vw,IX,decide_eq_true_eq,j9,hu,hv,true_and];omega
theorem sZ {us:List Us} {a:Rf} (hu: ∀ u∈us,dC u.rect=true) (ha:a.valid=true):dN us a=gW us (j9 a.col a.row):=by
 unfold dN gW;exact ry fun u h=>Aw (hu u h) ha
theorem Ab {G:Gr} (h:SortG G) {e:Rf × List Nd × List Us} (he:e∈G):pq G e.1=some e.2:=(kM h).2 he
theorem zt {G:Gr} (h:SortG G) {e:Rf × List Nd × List Us} (he:e∈G):gV G e.1=e.2.2:=by rw [gV,Ab h he];rfl
theorem z8 {G:Gr} {c:Rf}:c∈aw G↔ ∃ e∈G,e.1=c:=by simp [aw]
theorem Ag {G:Gr} (h:GrOk G) {d:Rf} (hd:d∈aw G):d.valid=true:=by
 obtain ⟨e,he,rfl⟩:=z8.1 hd;exact (h.ent e he).at_
end Go.SL
namespace Go.SL
open Go Go.Proofs
attribute [local irreducible] W WL WQ WG WA WX WLI WR WT WC VOp RW thn blk aW scp aJ aS bg FnAt FnP ceP
structure Gp where
 gg:Nat
 gm:Nat
 E:List En
 clock:Nat
 gr:Nat
 A:Option Nat
 cap:Nat
 Q:List En
 R:List Blk
end Go.SL
namespace Go.SL
open Go
theorem GOk.edges {R:List Blk} {E:List En} {clock:Nat} {G:Gr} (h:GOk R E clock G):mE E=cR G:=by
 unfold mE eB cR;rw [h.forms];have hrow: ∀ a,gM (fun a b=>dN (cn E a).uses b) (aw G) a=(G.filter fun f=>dN (gV G a) f.1).map fun f=>(a,f.1):=by
  intro a;rw [gM,aw,List.filter_map,JM,h.uses]
  rfl
 have: ∀ L:Gr,(∀ e∈L,e∈G)→(aw L).flatMap (gM (fun a b=>dN (cn E a).uses b) (aw G))=L.flatMap fun e=>(G.filter fun f=>dN e.2.2 f.1).map fun f=>(e.1,f.1):=by
  intro L
  induction L with
  |nil=>intro _;rfl
  |cons e r ih=>
   intro hL;have hk:aw (e::r)=e.1::aw r:=rfl;rw [hk,I8,I8,hrow,zt h.sort (hL e Iu),ih fun f hf=>hL f (IB _ hf)]
 exact this G fun _ h=>h
end Go.SL
namespace Go.SL
open Go Go.Proofs
attribute [local irreducible] W WL WQ WG WA WX WLI WR WT WC VOp RW thn blk aW scp aJ aS bg FnAt FnP ceP
theorem Cm {f:FuncId} {args:List Value} {w0:World} {B H:List Blk} {φ:Value→Option Nat→Nat→Prop} {t sz n:Nat} {cs:List Value}
 (h: ∀ F,FnIn Tryz.prog f args w0 (B++F) fun v H' => ∃ A cap,φ v A cap∧H' = .own A t sz n cap cs::(B++F)) (hs:MSub B H):
 FnIn Tryz.prog f args w0 H fun v H' => ∃ A cap,φ v A cap∧H' = .own A t sz n cap cs::H:=by
 obtain ⟨F,hp⟩:=hs;refine ((h F).msub (MSub.of_perm hp)).re ?_;rintro v H' ⟨A,cap,hv,rfl⟩;exact ⟨_,MSub.of_perm (hp.symm.cons _),A,cap,hv,rfl⟩
section
variable {R:List Blk} {E:List En} {clock:Nat} {G:Gr} (h:GOk R E clock G) (gg gm:Nat) {H:List Blk} (hs:MSub (gB gg gm (E.map En.m) clock++R) H) (w0:World)
include h hs
variable (hl:G.length≤900)
include hl
theorem GOk.formulas_any:FnIn Tryz.prog 29 [.pointer (some ⟨gg,0,none⟩)] w0 H fun v H' => ∃ A cap,v=sl A (aw G).length cap∧H' = .own A 28 2 (aw G).length cap ((aw G).flatMap az)::H:=by
 refine Cm (φ:=fun v A cap=>v=sl A (aw G).length cap) (fun F=> ?_) hs;have h1:=nu gg gm clock (E.map En.m) h.ok (by rw [II,h.len];omega) (R++F) w0;rw [h.forms,show (E.map En.m).length=(aw G).length by rw [II,h.len,aw,II]] at h1;rw [I1];exact h1
theorem GOk.edges_any:FnIn Tryz.prog 55 [.pointer (some ⟨gg,0,none⟩)] w0 H fun v H' => ∃ A cap,v=sl A (cR G).length cap∧H' = .own A 114 4 (cR G).length cap ((cR G).flatMap eF)::H:=by
 refine Cm (φ:=fun v A cap=>v=sl A (cR G).length cap) (fun F=> ?_) hs;have h1:=Dx gg gm clock E h.ok (by rw [h.len];omega) (R++F) w0 (fun e he=>(h.en e he).sub (MSub.appL R F));rw [h.edges] at h1;rw [I1];exact h1
variable (hG:GrOk G)
include hG
end
end Go.SL
namespace Go.SL
open Go Go.Proofs
attribute [local irreducible] W WL WQ WG WA WX WLI WR WT WC VOp RW thn blk aW scp aJ aS bg FnAt FnIn FnP ceP
theorem y4 (gg gm clock:Nat) (E:List En) (G:Gr) (a:Rf) (b:ByteArray) (R F:List Blk) (w0:World) (hG:GOk R E clock G) (hW:Words w0):
 FnIn Tryz.prog 15 [.pointer (some ⟨gg,0,none⟩),dE a,.string b] w0 (gB gg gm (E.map En.m) clock++(R++F)) fun v H=>v= .int .i64 (fu G a b).2∧ ∃ E' clock' R',H=gB gg gm (E'.map En.m) clock' ++(R' ++F)∧MSub R R' ∧GOk R' E' clock' (fu G a b).1:=by
 refine cd Tryz.func15 rfl Tryz.ntmps15 rfl ?_;have hV:=fun (w' :World) (H' :List Blk) (hm:Mem w0 w' H')=>(jq a.col a.row w' :aC Tryz.prog 44 [dE a] w' (.bool (valid a.col a.row)));have hO:=fun (w' :World) (H' :List Blk) (hm:Mem w0 w' H')=>FE b w' (hW.next hm);unfold gB;unfold fu;by_cases hv:a.valid=false
 ·rw [if_pos hv];have hv' :valid a.col a.row=false:=hv;rw [hv'] at hV;repeat' (first|(apply ag (f:=44);exact rfl;exact rfl;(intro w' hm;exact hV w' _ hm))|refine zZG ?_|refine sM fun _=>?_|(refine sC ?_ ?_<;>intro hb<;>try omega)|(refine sCW ?_ ?_<;>intro hb<;>try omega)|fail)
  all_goals exact bB eIO rfl rfl mS ⟨rfl,E,clock,R,rfl,MSub.refl _,hG⟩
 rw [if_neg hv];have hv' :valid a.col a.row=true:=by
  have:a.valid=valid a.col a.row:=rfl;rw [this] at hv;simpa using hv
 rw [hv'] at hV;have hlen:=yI b;have htree:=uW (b:=b);generalize ofP b=r at hO hlen htree;obtain ⟨⟨fm,v,t⟩,at_,e⟩:=r;simp only [ofV,AL] at hO;dsimp only at hlen htree ⊢;by_cases he:e≠0
 ·rw [if_pos he];repeat' (first|(apply ag (f:=44);exact rfl;exact rfl;(intro w' hm;exact hV w' _ hm))|(apply aH (f:=45);exact rfl;exact rfl;(intro w' hm;exact hO w' _ hm);rintro _ _ ⟨A,cap,rfl,rfl⟩)|refine zZG ?_|refine sM fun _=>?_|(refine sC ?_ ?_<;>intro hb<;>try omega)|(refine sCW ?_ ?_<;>intro hb<;>try omega)|fail)
  all_goals exact bB eIO rfl rfl mS ⟨rfl,E,clock,R,rfl,MSub.refl _,hG⟩
 rw [if_neg he];have he0:e=0:=by omega
 subst he0
 cases fm with
 |false=>
  obtain ⟨E',hE',hG'⟩:=hG.del a;rw [if_pos rfl];repeat' (first|(apply ag (f:=44);exact rfl;exact rfl;(intro w' hm;exact hV w' _ hm))|(apply aH (f:=45);exact rfl;exact rfl;(intro w' hm;exact hO w' _ hm);rintro _ _ ⟨A,cap,rfl,rfl⟩)|refine zZG ?_|refine sM fun _=>?_|(refine sC ?_ ?_<;>intro hb<;>try omega)|(refine sCW ?_ ?_<;>intro hb<;>try omega)|fail)
  rename_i g4 g7;refine nI (id:=9) [5] [] [.box gg 85 [.map (some gm)],.box g4 28 (az a)] (by kernel_rfl) (by kernel_rfl) (by kernel_rfl) mS ?_;repeat' (first|(apply kX;(iterate 3 exact rfl);apply df;exact rfl)|(apply zg (enc:=dE) (t:=83);(iterate 3 exact rfl);exact pK;rw [← hE'])|refine zZG ?_|refine sM fun _=>?_|(refine sC ?_ ?_<;>intro hb<;>try omega)|(refine sCW ?_ ?_<;>intro hb<;>try omega)|fail)
  all_goals exact bB eIO rfl rfl mS ⟨rfl,E',clock,R,rfl,MSub.refl _,hG'⟩
 |true=>
  have hck:=htree rfl rfl;rw [if_neg (by simp)];have hU:=fun (w' :World) (A:Option Nat) (cap:Nat) (H' :List Blk) (hi:In (.own A 123 11 t.length cap (t.flatMap dO)) H') (hm:Mem w0 w' H')=>Fb t (sl A t.length cap) w' (Reads.of_own hm hi) (by omega);have hue:oE t=(cU t,0):=by unfold oE;rw [hck];rfl
  have hul:(cU t).length≤256:=Je (iT t 0) hlen;rw [hue] at hU;repeat' (first|(apply ag (f:=44);exact rfl;exact rfl;(intro w' hm;exact hV w' _ hm))|(apply aH (f:=45);exact rfl;exact rfl;(intro w' hm;exact hO w' _ hm);rintro _ _ ⟨A,cap,rfl,rfl⟩)|(apply aH (f:=46);exact rfl;exact rfl;(intro w' hm;exact hU w' _ _ _ pK hm);rintro _ _ ⟨A2,cap2,rfl,rfl⟩)|refine zZG ?_|refine sM fun _=>?_|(refine sC ?_ ?_<;>intro hb<;>try omega)|(refine sCW ?_ ?_<;>intro hb<;>try omega)|fail)
  rename_i g4 g7;have hGR:=hG.sub (R' := .own A 123 11 t.length cap (t.flatMap dO):: .own A2 121 6 (cU t).length cap2 ((cU t).flatMap fF)::R) mS;obtain ⟨E',hE',hG'⟩:=hGR.put ⟨a,A.map fun g=>⟨g,0,none⟩,cap,A2.map fun g=>⟨g,0,none⟩,cap2,t,cU t,0⟩ ⟨rdIn.own (A:=A) pK,rdIn.own (A:=A2) pK,by dsimp only;omega,by dsimp only;omega⟩;generalize hck2:(je a (.agg #[sl A t.length cap,sl A2 (cU t).length cap2]) clock (E.map En.m))=kp;have hE2:E'.map En.m=kp.1:=hck2 ▸ hE';have hG2:GOk _ E' kp.2 (Aq G a (t,cU t)):=hck2 ▸ hG';refine nI (id:=14) [9] [] [.box gg 85 [.map (some gm)],.box g4 28 (az a),.box g7 93 [.bool true,.int .u8 v.kind,.int .i64 v.num,.string v.text,sl A t.length cap]] (by kernel_rfl) (by kernel_rfl) (by kernel_rfl) mS ?_;repeat' (first|(apply kX;(iterate 3 exact rfl);apply df;exact rfl)|(apply lV (enc:=dE);(iterate 3 exact rfl);exact pK;rw [hck2,← hE2])|refine zZG ?_|refine sM fun _=>?_|(refine sC ?_ ?_<;>intro hb<;>try omega)|(refine sCW ?_ ?_<;>intro hb<;>try omega)|fail)
  all_goals exact bB eIO rfl rfl (H' :=gB gg gm (E'.map En.m) kp.2++((.own A 123 11 t.length cap (t.flatMap dO):: .own A2 121 6 (cU t).length cap2 ((cU t).flatMap fF)::R)++F)) (by unfold gB;simp only [Jh,IE,ID];exact mS) ⟨rfl,E',kp.2,_,rfl,mS,hG2⟩
theorem GQ (gg gm clock:Nat) (E:List En) (G:Gr) (a:Rf) (b:ByteArray) (R:List Blk) (w0:World) (hG:GOk R E clock G) (hW:Words w0):
 FnIn Tryz.prog 15 [.pointer (some ⟨gg,0,none⟩),dE a,.string b] w0 (gB gg gm (E.map En.m) clock++R) fun v H=>v= .int .i64 (fu G a b).2∧ ∃ E' clock' R',H=gB gg gm (E'.map En.m) clock' ++R' ∧MSub R R' ∧GOk R' E' clock' (fu G a b).1:=by
 have h:=y4 gg gm clock E G a b R [] w0 hG hW;simp only [I3] at h;exact h
end Go.SL
namespace Go.SL
open Go
def dR (K:List Rf) (a:Rf):Nat:=(K.findIdx? fun b=>decide (b=a)).getD 0
theorem yO {K:List Rf} (hn:K.Nodup) {i:Nat} (h:i<K.length):dR K K[i]=i:=by
 unfold dR
 rw [Jb.2 ⟨h,by simp,fun j hj=>by
  have hne:K[j]'(by omega)≠K[i]:=fun e=>by
   have:=(KL hn).1 e;omega
  simpa using hne⟩]
 rfl
def dq (K:List Rf) (E:List (Rf × Rf)) (i:Nat):List Nat:=(E.filter fun x=>decide (dR K x.1=i)).map fun x=>dR K x.2
theorem xp (K:List Rf) (E:List (Rf × Rf)) (x:Rf × Rf) (i:Nat):dq K (E++ [x]) i=if dR K x.1=i then dq K E i++ [dR K x.2] else dq K E i:=by
 unfold dq;rw [KA,Jn];by_cases h:dR K x.1=i
 ·rw [if_pos h];simp [h]
 ·rw [if_neg h];simp [h]
theorem s8 {α:Type} (L:List α) (p:α→Bool) (d:α):L.filter p=((List.range L.length).filter fun k=>p ((L[k]?).getD d)).map fun k=>(L[k]?).getD d:=by
 have h:L=(List.range L.length).map fun k=>(L[k]?).getD d:=by
  apply List.ext_getElem
  ·simp
  ·intro i h1 h2;simp [h1]
 conv=>lhs;rw [h]
 rw [List.filter_map]
 rfl
theorem vH {α β:Type} {L:List α} {f:α→List β} {p:β→Bool}:(L.flatMap f).filter p=L.flatMap fun a=>(f a).filter p:=by
 induction L with
 |nil=>rfl
 |cons a l ih=>rw [I8,I8,KA,ih]
theorem vD {α β:Type}: ∀ {L:List α} {f:α→List β} {i:Nat} (h:i<L.length),(∀ j (hj:j<L.length),j≠i→f L[j]= [])→L.flatMap f=f L[i]
 | [],_,_,h,_=>absurd h (J7 _)
 |a::l,f,0,_,hf=>by
  have:l.flatMap f= []:=by
   rw [List.flatMap_eq_nil_iff];intro x hx;obtain ⟨j,hj,rfl⟩:=JE.1 hx;exact hf (j+1) (by simpa using hj) (by omega)
  rw [I8,this,I3];rfl
 |a::l,f,i+1,h,hf=>by
  have h0:f a= []:=hf 0 (by simp) (by omega);have hi:i<l.length:=by simpa using h
  rw [I8,h0,ID];exact vD hi fun j hj hne=>hf (j+1) (by simpa using hj) (by omega)
theorem u7 {G:Gr} (hG:GrOk G) {i:Nat} (hi:i<G.length):dq (aw G) (cR G) i=aj (ay G) i:=by
 have hn:=hG.sort.nodup;have hkl:(aw G).length=G.length:=by rw [aw,II]
 have hk: ∀ j (h:j<G.length),(aw G)[j]'(by omega)=(G[j]).1:=fun j h=>by simp [aw]
 have hidx: ∀ j (h:j<G.length),dR (aw G) (G[j]).1=j:=fun j h=>by rw [← hk j h];exact yO hn (by omega)
 unfold dq cR;rw [vH,vD (i:=i) hi fun j hj hne=> ?_]
 ·have h1:(((G.filter fun f=>dN (G[i]).2.2 f.1).map fun f=>((G[i]).1,f.1)).filter fun x=>decide (dR (aw G) x.1=i))=(G.filter fun f=>dN (G[i]).2.2 f.1).map fun f=>((G[i]).1,f.1):=by
   rw [List.filter_eq_self];intro x hx;obtain ⟨f,_,rfl⟩:=IM.1 hx;exact decide_eq_true (hidx i hi)
  rw [h1,JM];have hr:=s8 G (fun f=>dN (G[i]).2.2 f.1) (G[i]);rw [hr,JM];have hs:aj (ay G) i=(List.range G.length).filter fun k=>l3 G i k:=by simp [aj,ay,hi]
  rw [hs];have hp:((List.range G.length).filter fun k=>dN (G[i]).2.2 ((G[k]?).getD (G[i])).1)=(List.range G.length).filter fun k=>l3 G i k:=by
   apply List.filter_congr;intro k hk';have hkl' :k<G.length:=IJ.1 hk';rw [Ir hkl',KI];have hu:gV G (G[i]).1=(G[i]).2.2:=by
    unfold gV;rw [(kM hG.sort).2 (show ((G[i]).1,(G[i]).2)∈G from IZ hi)];rfl
   have ht:l3 G i k=gW (gV G (G[i]).1) (j9 (G[k]).1.col (G[k]).1.row):=by
    unfold l3;rw [Ir (by omega),Ir (by omega),hk i hi,hk k hkl']
   rw [ht,hu];exact sZ (hG.ent _ (IZ hi)).rect (Ag hG (IM.2 ⟨_,IZ hkl',rfl⟩))
  rw [hp];conv=>rhs;rw [← List.map_id ((List.range G.length).filter fun k=>l3 G i k)]
  apply Jj;intro k hk';have hkl' :k<G.length:=IJ.1 (JC.1 hk').1;simp only [Function.comp,Ir hkl',KI,id];exact hidx k hkl'
 ·rw [List.filter_eq_nil_iff];intro x hx;obtain ⟨f,_,rfl⟩:=IM.1 hx;simp only [decide_eq_true_eq];rw [hidx j hj];exact hne
def gF {κ:Type} (K:List κ) (j:Nat):List (κ × Value × Nat):=(K.zipIdx j).map fun x=>(x.1,.int .i64 ((x.2:Nat):Int),x.2)
def dK {κ:Type} (K:List κ):List (κ × Value × Nat):=gF K 0
theorem ep {κ:Type} (a:κ) (K:List κ) (j:Nat):gF (a::K) j=(a,.int .i64 ((j:Nat):Int),j)::gF K (j+1):=by simp [gF,List.zipIdx_cons]
theorem mY {κ:Type} (a:κ): ∀ (K:List κ) (j:Nat),gF (K++ [a]) j=gF K j++ [(a,.int .i64 ((j+K.length:Nat):Int),j+K.length)]
 | [],j=>rfl
 |b::K,j=>by
  rw [IE,ep,ep,mY a K (j+1),IE,IU,show j+1+K.length=j+(K.length+1) by omega]
theorem fV {κ:Type} [DecidableEq κ] (a:κ): ∀ (K:List κ) (j i:Nat),a∉K→bn a (gF K j) i=none
 | [],_,_,_=>rfl
 |b::K,j,i,h=>by
  rw [ep,bn,if_neg (fun e=>h (by rw [e];exact Iu))];exact fV a K _ _ (fun hs=>h (IB _ hs))
theorem mq {κ:Type} [DecidableEq κ]: ∀ (K:List κ) (p j i:Nat) (h:p<K.length),K.Nodup→bn K[p] (gF K j) i=some (i+p,.int .i64 ((j+p:Nat):Int))
 |b::K,0,j,i,_,_=>by
  rw [ep,bn];exact if_pos rfl
 |b::K,p+1,j,i,h,hn=>by
  rw [JG] at hn;have hp:p<K.length:=KC h;rw [List.getElem_cons_succ,ep,bn,if_neg (fun (e:K[p]=b)=>hn.1 (e ▸ IZ hp)),mq K p (j+1) (i+1) hp hn.2,show i+1+p=i+(p+1) by omega,show j+1+p=j+(p+1) by omega]
theorem yD {κ:Type} [DecidableEq κ] {K:List κ} {a:κ} (h:a∉K):je a (.int .i64 ((K.length:Nat):Int)) K.length (dK K)=(dK (K++ [a]),K.length+1):=by
 unfold je dK;rw [fV a K 0 0 h,mY,IG]
theorem pg {κ:Type} [DecidableEq κ] {K:List κ} (hn:K.Nodup) {p:Nat} (h:p<K.length) (z:Value):(match bn K[p] (dK K) 0 with|some (_,v)=>v|none=>z)= .int .i64 ((p:Nat):Int):=by
 unfold dK;rw [mq K p 0 0 h hn,IG]
theorem ph {κ:Type} [DecidableEq κ] {K:List κ} (hn:K.Nodup) {p:Nat} (h:p<K.length) (z:Value):(match bn K[p] (dK K) 0 with|some (_,v)=>Value.tuple #[v,.bool true]|none=> .tuple #[z,.bool false])= .tuple #[.int .i64 ((p:Nat):Int),.bool true]:=by
 unfold dK;rw [mq K p 0 0 h hn,IG]
theorem m3 {κ:Type} [DecidableEq κ] {K:List κ} {a:κ} (h:a∉K) (z:Value):(match bn a (dK K) 0 with|some (_,v)=>Value.tuple #[v,.bool true]|none=> .tuple #[z,.bool false])= .tuple #[z,.bool false]:=by
 unfold dK;rw [fV a K 0 0 h]
def oR (K:List Rf) (i:Nat):Rf:=(K[i]?).getD ⟨0,0⟩
def cZ (K:List Rf) (l:List Nat):List Rf:=l.map (oR K)
theorem lm {K:List Rf} {i:Nat} (h:i<K.length):oR K i=K[i]:=by simp [oR,h]
theorem lB (K:List Rf) (l:List Nat):(cZ K l).length=l.length:=by simp [cZ]
theorem jT (K:List Rf) (l:List Nat) (i:Nat):cZ K (l++ [i])=cZ K l++ [oR K i]:=by simp [cZ]
theorem dz {n:Nat} (b:Nat→Bool):(List.range (n+1)).filter b=if b n=true then (List.range n).filter b++ [n] else (List.range n).filter b:=by
 rw [Ky,KA,List.filter_cons];split<;>simp
theorem z6 {G:Gr} (hG:GrOk G):(List.range G.length).map (dq (aw G) (cR G))=ay G:=by
 unfold ay;refine Jj fun i hi=> ?_;have hi:=IJ.1 hi;rw [u7 hG hi];unfold aj ay;rw [Iy,IY hi]
 rfl
noncomputable def onB (X:Nx) (v:Nat):Bool:= @decide (onC X v) (Classical.propDecidable _)
noncomputable def lQ (X:Nx) (v:Nat):Bool:= @decide (co X v) (Classical.propDecidable _)
theorem yH {X:Nx} {v:Nat}:onB X v=true↔onC X v:=by unfold onB;exact @decide_eq_true_iff _ (Classical.propDecidable _)
theorem mJ {X:Nx} {v:Nat}:lQ X v=true↔co X v:=by unfold lQ;exact @decide_eq_true_iff _ (Classical.propDecidable _)
noncomputable def CH (X:Nx):List Nat:=(List.range X.length).filter (onB X)
noncomputable def pJ (X:Nx):List Nat:=(List.range X.length).filter fun v=> !lQ X v
theorem CG {X:Nx} {l:List Nat} (ha:l.Pairwise (· < ·)) (hm: ∀ v,v∈l↔v<X.length∧onC X v):l=CH X:=
 xT ha fun v=>by rw [hm,yH]
theorem Fa {G:Gr} {i:Nat}:bh G G.length i i=onB (ay G) i:=by
 rw [Jp,CF,yH]
theorem rA {G:Gr} {i:Nat}:(bh G G.length i i||(List.range G.length).any fun k=>bh G G.length i k && bh G G.length k k)=lQ (ay G) i:=by
 rw [Jp,vY,mJ]
theorem Ay (X:Nx):(pJ X).Pairwise (· < ·):=ma _ _
theorem iB {X:Nx} {i:Nat}:i∈pJ X↔i<X.length∧ ¬ co X i:=by
 unfold pJ;rw [JC,IJ,Bool.not_eq_true',← Bool.not_eq_true,mJ]
theorem xm {G:Gr}:SubN (bh G G.length) G.length (pJ (ay G)) (aZ (ay G) (pJ (ay G))):=
 zT (fun i k=>cM) (Ay _) (fun i hi=>by have:=(iB.1 hi).1;rwa [bi] at this) (fun i hi=>(iB.1 hi).2) fun i hi k hk=>iB.2 ⟨lz i k hk,u5 (iB.1 hi).2 hk⟩
end Go.SL
namespace Go.SL
open Go Go.Proofs
attribute [local irreducible] W WL WQ WG WA WX WLI WR WT WC VOp RW thn blk aW scp aJ aS bg FnAt FnIn FnP ceP
structure Et where
 at_:Rf
 input:ByteArray
def ri (e:Et):List Value:= [.int .i64 e.at_.col,.int .i64 e.at_.row,.string e.input]
theorem mD (e:Et):(ri e).length=3:=rfl
def nN (b:Option Rf) (e:Et):Int:=if e.at_.valid=false then 3 else if (match b with|some p=>bf p e.at_|none=>true)=false then 12 else if e.input=aA then 2 else (ofP e.input).2.2
def iE:Nat→Option Rf→List Et→Int × Int
 |_,_,[]=>(0,0)
 |i,b,e::r=>if nN b e≠0 then ((i:Int),nN b e) else iE (i+1) (some e.at_) r
def j5 (L:List Et):Int × Int:=iE 0 none L
def pV (L:List Et) (i:Nat):Option Rf:=if i=0 then none else (L[i - 1]?).map Et.at_
theorem qj (L:List Et) (tv:Value) (w:World) (ht:Reads w tv L.length (L.flatMap ri)) (hlen:L.length≤1000000) (hW:Words w):
 aC Tryz.prog 43 [tv] w (.tuple #[.int .i64 (j5 L).1,.int .i64 (j5 L).2]):=by
 obtain ⟨Al,cl,rfl,hl1,hl2,hl3⟩:=ht;refine ax Tryz.func43 rfl Tryz.ntmps43 rfl ?_;repeat' (first|refine zZB ?_|refine sM fun _=>?_|(refine sC ?_ ?_<;>intro hb<;>try omega)|fail)
 refine aB [0,2,3,9,10] rfl (fun i:Nat=> [(11,.int .i64 (i:Int))]) (fun _=> []) (fun i=>i≤L.length∧j5 L=iE i (pV L i) (L.drop i)) (fun i=>L.length - i) 0 ⟨by omega,rfl⟩ sB (.refl _) ?_;rintro i ⟨hi,hck⟩;by_cases hlt:i<L.length
 ·obtain ⟨gl,ol,rfl,hrl⟩:=hl3 (by omega);have he:=hrl.elem mD i hlt;have hprev: ∀ h:0<i,Ro w gl (ol+(i - 1)*3) (ri L[i - 1]):=fun h=>hrl.elem mD (i - 1) (by omega);have hbef: ∀ h:0<i,pV L i=some L[i - 1].at_:=fun h=>by unfold pV;rw [if_neg (by omega),Ir (by omega)];rfl
  have hbef0:i=0→pV L i=none:=fun h=>by unfold pV;rw [if_pos h]
  have hnext:pV L (i+1)=some L[i].at_:=by unfold pV;rw [if_neg (by omega),KU,Ir hlt];rfl
  rw [IR hlt,iE,← hnext] at hck;generalize L[i]=e at he hck;have hV: ∀ w',aC Tryz.prog 44 [.agg (az e.at_).toArray] w' (.bool e.at_.valid):=fun w' =>jq e.at_.col e.at_.row w';have hO:=fun (w' :World) (H' :List Blk) (hm:Mem w w' H')=>FE e.input w' (hW.next hm);by_cases h0:0<i
  ·have hp:=hprev h0;rw [hbef h0] at hck;generalize L[i - 1]=b at hp hck;have hL:=fun w' =>Fj b.at_ e.at_ w';unfold nN at hck;simp only at hck;have hofV: ∀ (A:Option Nat) (cap:Nat),ofV A cap (ofP e.input)= .tuple #[.agg (AL (ofP e.input).1 (sl A (ofP e.input).1.tree.length cap)).toArray,.int .i64 (ofP e.input).2.1,.int .i64 (ofP e.input).2.2]:=fun _ _=>rfl;simp only [hofV] at hO;generalize ofP e.input=o at hO hck;obtain ⟨⟨f1,f2,f3⟩,oa,oe⟩:=o;simp only [AL] at hO;simp only at hck;generalize e.at_.valid=vd at hV hck;generalize bf b.at_ e.at_=ls at hL hck;repeat' (first|(apply ai (d:=14);exact rfl;apply aa;exact rfl;exact rfl;exact hlt)|(apply ai (d:=15);exact rfl;apply bZ;exact rfl;exact he;exact rfl)|(apply kX (d:=29);(iterate 3 exact rfl);apply iQ (o:=ol+(i - 1)*3) (off:=0) hp (ys:=az b.at_);(iterate 3 exact rfl))|(apply ag;exact rfl;exact rfl;(intro w hm;exact hV w))|(apply (n9 (id:=6) [11] []);kernel_rfl;kernel_rfl;kernel_rfl)|(apply kX;(iterate 3 exact rfl);apply aa (j:=i - 1);exact rfl;exact rfl;omega)|(apply ag (f:=87);exact rfl;exact rfl;(intro w' hm;exact hL w'))|(apply aH (f:=45);exact rfl;exact rfl;(intro w' hm;exact hO w' _ hm);rintro _ _ ⟨A,cap,rfl,rfl⟩)|refine zZL ?_|refine sM fun _=>?_|(refine sC ?_ ?_<;>intro hb<;>try omega)|(refine sCW ?_ ?_<;>intro hb<;>try omega)|fail)
   all_goals clear hofV
   all_goals first
    |(refine eX eIO rfl rfl rfl (.nil _) ?_;rw [hck];simp_all [aA];done)
    | (refine ⟨i + 1, ⟨hlt, ?_⟩, by omega, ?_, ?_, .nil _⟩
       ·rw [hck];simp_all [aA]
       ·exact sB
       ·exact sB)
  ·have h00:i=0:=by omega
   rw [hbef0 h00] at hck;unfold nN at hck;simp only at hck;have hofV: ∀ (A:Option Nat) (cap:Nat),ofV A cap (ofP e.input)= .tuple #[.agg (AL (ofP e.input).1 (sl A (ofP e.input).1.tree.length cap)).toArray,.int .i64 (ofP e.input).2.1,.int .i64 (ofP e.input).2.2]:=fun _ _=>rfl;simp only [hofV] at hO;generalize ofP e.input=o at hO hck;obtain ⟨⟨f1,f2,f3⟩,oa,oe⟩:=o;simp only [AL] at hO;simp only at hck;generalize e.at_.valid=vd at hV hck;repeat' (first|(apply ai (d:=14);exact rfl;apply aa;exact rfl;exact rfl;exact hlt)|(apply ai (d:=15);exact rfl;apply bZ;exact rfl;exact he;exact rfl)|(apply ag;exact rfl;exact rfl;(intro w hm;exact hV w))|(apply (n9 (id:=6) [11] []);kernel_rfl;kernel_rfl;kernel_rfl)|(apply aH (f:=45);exact rfl;exact rfl;(intro w' hm;exact hO w' _ hm);rintro _ _ ⟨A,cap,rfl,rfl⟩)|refine zZL ?_|refine sM fun _=>?_|(refine sC ?_ ?_<;>intro hb<;>try omega)|(refine sCW ?_ ?_<;>intro hb<;>try omega)|fail)
   all_goals clear hofV
   all_goals first
    |(refine eX eIO rfl rfl rfl (.nil _) ?_;rw [hck];simp_all [aA];done)
    | (refine ⟨i + 1, ⟨hlt, ?_⟩, by omega, ?_, ?_, .nil _⟩
       ·rw [hck];simp_all [aA]
       ·exact sB
       ·exact sB)
 ·have e2:i=L.length:=by omega
  subst e2;rw [JW,iE] at hck;repeat' (first|refine zZB ?_|refine sM fun _=>?_|(refine sC ?_ ?_<;>intro hb<;>try omega)|fail)
  all_goals (refine eX eIO rfl rfl rfl (.nil _) ?_;rw [hck])
def u9:Gr→List Et→Option Gr × Int
 |G,[]=>(some G,0)
 |G,e::r=>if (fu G e.at_ e.input).2≠0 then (none,(fu G e.at_ e.input).2) else u9 (fu G e.at_ e.input).1 r
def Eo (L:List Et):Option Gr × Int:=if (j5 L).2≠0 then (none,(j5 L).2) else u9 [] L
def Io (r:Option Gr × Int) (v:Value) (H:List Blk):Prop:=match r with
 |(none,e)=>v= .tuple #[.pointer none,.int .i64 e]∧H= []
 |(some G,_)=> ∃ gg gm E clock R,v= .tuple #[.pointer (some ⟨gg,0,none⟩),.int .i64 0]∧H=gB gg gm (E.map En.m) clock++R∧GOk R E clock G
theorem GU (L:List Et) (tv:Value) (w:World) (ht:Reads w tv L.length (L.flatMap ri)) (hlen:L.length≤1000000) (hW:Words w):
 FnAt Tryz.prog 13 [tv] w (Io (Eo L)):=by
 have hC:=fun (w' :World) (H:List Blk) (hm:Mem w w' H)=>qj L tv w' (ht.of_w0 hm) hlen (hW.next hm);obtain ⟨Al,cl,rfl,hl1,hl2,hl3⟩:=ht;refine ax Tryz.func13 rfl Tryz.ntmps13 rfl ?_;unfold Eo;generalize j5 L=c at hC;obtain ⟨ci,ce⟩:=c;dsimp only at hC ⊢;by_cases hce:ce≠0
 ·rw [if_pos hce];repeat' (first|(apply ag (f:=43);exact rfl;exact rfl;(intro w' hm;exact hC w' _ hm))|refine zZB ?_|refine sM fun _=>?_|(refine sC ?_ ?_<;>intro hb<;>try omega)|fail)
  all_goals exact eX eIO rfl rfl rfl (.nil _) ⟨rfl,rfl⟩
 rw [if_neg hce];have hce0:ce=0:=by omega
 subst hce0;repeat' (first|(apply ag (f:=43);exact rfl;exact rfl;(intro w' hm;exact hC w' _ hm))|(apply iK (enc:=dE);exact rfl;intro gm)|refine zZB ?_|refine sM fun _=>?_|(refine sC ?_ ?_<;>intro hb<;>try omega)|fail)
 rename_i gg;refine aB [6,21,22] rfl (fun x:Nat × List En × Nat × Gr × List Blk=> [(23,.int .i64 (x.1:Int))]) (fun x=>gB gg gm (x.2.1.map En.m) x.2.2.1++x.2.2.2.2) (fun x=>x.1≤L.length∧GOk x.2.2.2.2 x.2.1 x.2.2.1 x.2.2.2.1∧u9 [] L=u9 x.2.2.2.1 (L.drop x.1)) (fun x=>L.length - x.1) (0,[],0,[],[]) ⟨by simp,EC [],rfl⟩ sB (by unfold gB;exact mS) ?_;rintro ⟨i,E,clock,G,R⟩ ⟨hi,hG,hnew⟩;dsimp only at hi hG hnew ⊢;by_cases hlt:i<L.length
 ·obtain ⟨gl,ol,rfl,hrl⟩:=hl3 (by omega);have he:=hrl.elem mD i hlt;rw [IR hlt,u9] at hnew;generalize L[i]=e at he hnew;have hS:=GQ gg gm clock E G e.at_ e.input R w hG hW;generalize fu G e.at_ e.input=sg at hS hnew;obtain ⟨G',se⟩:=sg;dsimp only at hS hnew;repeat' (first|(apply ai (d:=25);exact rfl;apply aa;exact rfl;exact rfl;exact hlt)|(apply ai (d:=26);exact rfl;apply bZ;exact rfl;exact he;exact rfl)|(apply ap (f:=15);exact rfl;exact rfl;exact FnIn.msub hS (by unfold gB;exact mS);rintro _ _ ⟨rfl,E',clock',R',rfl,hsub,hG'⟩)|refine zZA ?_|refine sM fun _=>?_|(refine sC ?_ ?_<;>intro hb<;>try omega)|fail)
  ·rw [hnew,if_pos (by assumption)];exact eX eIO rfl rfl rfl (.nil _) ⟨rfl,rfl⟩
  ·rw [if_neg (by assumption)] at hnew;refine ⟨(i+1,E',clock',G',R'),⟨hlt,hG',hnew⟩,(by dsimp only;omega),sB,sB,?_⟩;unfold gB;exact mS
 ·have e2:i=L.length:=by omega
  subst e2;rw [JW,u9] at hnew;rw [hnew];repeat' (first|refine zZB ?_|refine sM fun _=>?_|(refine sC ?_ ?_<;>intro hb<;>try omega)|fail)
  all_goals exact eX eIO rfl rfl rfl (MSub.refl _) ⟨gg,gm,E,clock,R,rfl,rfl,hG⟩
end Go.SL
namespace Go.SL
open Go
def inA:ByteArray:=⟨#[53]⟩
def inB:ByteArray:=⟨#[61,65,49,43,66,49]⟩
def inC:ByteArray:=⟨#[61,68,83,85,77,40,66,49,58,66,51,41]⟩
def inD:ByteArray:=⟨#[61,73,70,69,82,82,79,82,40,65,51,44,48,41,43,49]⟩
def exL:List Et:= [⟨⟨1,1⟩,inA⟩,⟨⟨1,2⟩,inB⟩,⟨⟨1,3⟩,inC⟩,⟨⟨1,4⟩,inD⟩]
def Gg (c r:Int):Nd:=⟨2,bD,j9 c r,0,0,0⟩
def exG:Gr:= [
 (⟨1,2⟩,[Gg 1 1,Gg 2 1,dD 6 1],[⟨j9 1 1, -1,0⟩,⟨j9 2 1, -1,0⟩]),
 (⟨1,3⟩,[⟨3,bD,⟨2,1,2,3⟩,0,0,0⟩,⟨7,bD,bp,0,46,1⟩],[⟨⟨2,1,2,3⟩,1,46⟩]),
 (⟨1,4⟩,[Gg 1 3,⟨1,⟨1,0,aA⟩,bp,0,0,0⟩,⟨7,bD,bp,0,25,2⟩,⟨1,⟨1,10000,aA⟩,bp,0,0,0⟩,dD 6 1],[⟨j9 1 3, -1,0⟩])]
theorem C0:Eo exL=(some exG,0):=by decide+kernel
theorem jg:GrOk exG:=by
 have h: ∀ (L:List Et) (G:Gr),GrOk G→ ∀ G',u9 G L=(some G',0)→GrOk G' :=by
  intro L
  induction L with
  |nil=>intro G hG G' h;cases h;exact hG
  |cons e r ih=>
   intro G hG G' h;rw [u9] at h;split at h
   ·cases h
   ·exact ih _ (hG.set _ _) G' h
 have h2:=C0;unfold Eo at h2;split at h2
 ·cases h2
 ·exact h exL [] CV exG h2
end Go.SL
namespace Go.SL
open Go Go.Proofs
attribute [local irreducible] W WL WQ WG WA WX WLI WR WT WC VOp RW thn blk aW scp aJ aS bg FnAt FnIn FnP ceP
theorem GOk.set_to {R:List Blk} {E:List En} {clock:Nat} {G:Gr} (h:GOk R E clock G) (gg gm:Nat) (F:List Blk) {H:List Blk} (hs:MSub (F++(gB gg gm (E.map En.m) clock++R)) H) {w0:World} (hW:Words w0) {c:Rf} {i:ByteArray} {G' :Gr} {e:Int} (he:fu G c i=(G',e)):
 FnIn Tryz.prog 15 [.pointer (some ⟨gg,0,none⟩),dE c,.string i] w0 H fun v H' =>v= .int .i64 e∧ ∃ E' clock' R',H' =F++(gB gg gm (E'.map En.m) clock' ++R')∧GOk R' E' clock' G' :=by
 have h1:=y4 gg gm clock E G c i R F w0 h hW;rw [he] at h1;have hp: ∀ (A B:List Blk),(A++(B++F)).Perm (F++(A++B)):=fun A B=>by
  rw [← I1];exact I2
 refine (h1.msub (MSub.trans (MSub.of_perm (hp _ _).symm) hs)).re ?_;rintro v H' ⟨hv,E',clock',R',rfl,_,hG⟩;exact ⟨_,MSub.of_perm (hp _ _),hv,E',clock',R',rfl,hG⟩
theorem pY (w:World):FnAt Tryz.prog 14 [] w fun v H=> ∃ g,v= .slice (some ⟨g,0,none⟩) 4 4∧H= [.own (some g) 87 3 4 4 (exL.flatMap ri)]:=by
 refine ax Tryz.func14 rfl Tryz.ntmps14 rfl ?_;repeat' (first|refine zZB ?_|refine sM fun _=>?_|(refine sC ?_ ?_<;>intro hb<;>try omega)|fail)
 all_goals exact bB eIO rfl rfl (MSub.refl _) ⟨_,rfl,rfl⟩
end Go.SL
namespace Go.SL
open Go Go.RowKit
section
variable {P:Program} {ops:Array Oper} {es ps:List Nat} {C:World→Prop}
theorem ny {Q:Act→World→Prop} {i:Nat} {oi:Oper} (hi:ops[i]? =some oi) (hsel: ∀ (j:Nat) (o:Oper) cs b,ops[j]? =some o→o.op≠ .select cs b)
 (hnb: ∀ x∈es,∀ y,y∈es∨y∈ps→x≠y→(x=i∨y=i)→nS ops x y):
 ∀ (f:Nat) (L:Array Bool) (a:Act) (w:World),ClosedL ops L→C w→
  (∀ j oj,ops[j]? =some oj→j≠i→L.getD j true=false→(∀ e∈oj.after,Region.binds .any e=true→e.on≠i)→oi.apart ops oj=true)→
  i∈Region.ready .any ops L→EOp P ops es ps C (AnyE P ops es ps C Q f (L.setIfInBounds i true)) i oi a w→AnyE P ops es ps C Q (f+1) L a w
 |0,L,a,w,hcl,hC,_,hr,hy=>⟨hC,fun h=>(by rw [h] at hr;cases hr),fun j hj=>by
   by_cases hji:j=i
   ·subst hji;exact ⟨oi,hi,hy⟩
   ·exfalso;have hne:=ready_mono hj hji;have hE: ∃ a' w',AnyE P ops es ps C Q 0 (L.setIfInBounds i true) a' w' :=by
     cases hy with
     |pass _ hk=>exact ⟨_,_,hk⟩
     |quiet _ _ _ _ _ hk=>exact ⟨_,_,hk⟩
     |eff _ _ hk=>obtain ⟨v,w',h⟩:=hk.ex;exact ⟨_,_,h⟩
    obtain ⟨a',w',_,h0,_⟩:=hE;rw [h0] at hne;cases hne⟩
 |f+1,L,a,w,hcl,hC,hfree,hr,hy=>⟨hC,fun h=>(by rw [h] at hr;cases hr),fun j hj=>by
   by_cases hji:j=i
   ·subst hji;exact ⟨oi,hi,hy⟩
   ·have hj' :=ready_mono hj hji;obtain ⟨hjun,oj,hoj,hall⟩:=mem_ready.1 hj;have hnot: ∀ e∈oj.after,Region.binds .any e=true→e.on≠i:=fun e he hb heq=>by
     have h1:=hall e he hb;have h0:=(mem_ready.1 hr).1;rw [heq] at h1;rcases Kv i L.size with h' |h'
     ·simp [h'] at h0 h1;rw [h0] at h1;cases h1
     ·simp [Kj h'] at h1
    have hap:=hfree j oj hoj hji hjun hnot;obtain ⟨h1,h2,h3⟩:=Oper.apart_spec hap;have hsi:=fun cs b=>hsel i oi cs b hi;have hsj:=fun cs b=>hsel j oj cs b hoj;have hej: ∀ v,execOp (a.put oi.dst v).eval oj=execOp a.eval oj:=fun v=>execOp_put oj hsj a oi.dst v h1;have hwj: ∀ v,Region.wanted oj (yielded ops (a.put oi.dst v).tmps)=Region.wanted oj (yielded ops a.tmps):=fun v=>wanted_put oj a oi.dst v h1;have hcomm: ∀ v u,(a.put oi.dst v).put oj.dst u=(a.put oj.dst u).put oi.dst v:=fun v u=>Act.put_comm a v u h2;have hset:(L.setIfInBounds i true).setIfInBounds j true=(L.setIfInBounds j true).setIfInBounds i true:=K0 _ _ (Ne.symm hji)
    have hfree' : ∀ k ok,ops[k]? =some ok→k≠i→(L.setIfInBounds j true).getD k true=false→
     (∀ e∈ok.after,Region.binds .any e=true→e.on≠i)→oi.apart ops ok=true:=fun k ok hk hki hun hno=>by
     refine hfree k ok hk hki ?_ hno;by_cases hjk:j=k
     ·subst hjk;exact hjun
     ·rw [getD_set_ne true hjk] at hun;exact hun
    have ih:=ny (Q:=Q) hi hsel hnb f (L.setIfInBounds j true);have hcl' :=hcl.set hj;have hr' :=ready_mono hr (Ne.symm hji)
    -- what comes of j behind an outcome of i
    have hJ: ∀ v w',AnyE P ops es ps C Q (f+1) (L.setIfInBounds i true) (a.put oi.dst v) w' →EOp P ops es ps C (AnyE P ops es ps C Q f ((L.setIfInBounds j true).setIfInBounds i true)) j oj (a.put oi.dst v) w' :=fun v w' h=>by
     obtain ⟨o,ho,hE⟩:=h.2.2 j hj';have e:o=oj:=Option.some.inj (ho.symm.trans hoj);subst e;rw [hset] at hE;exact hE
    refine ⟨oj,hoj,?_⟩
    have hstill:(∃ v,AnyE P ops es ps C Q (f+1) (L.setIfInBounds i true) (a.put oi.dst v) w∧ ∀ (u:Value) (w2:World) (K' :Act→World→Prop),C w2→(i∈ps→w2=w)→K' ((a.put oj.dst u).put oi.dst v) w2→EOp P ops es ps C K' i oi (a.put oj.dst u) w2)∨
     (Region.wanted oi (yielded ops a.tmps)=true∧i∈es∧NormUp P (fun v w' =>AnyE P ops es ps C Q (f+1) (L.setIfInBounds i true) (a.put oi.dst v) w') ((execOp a.eval oi).run P w)):=by
     cases hy with
     |pass hw hk=>exact .inl ⟨undef,hk,fun u w2 K' _ _ hk' => .pass ((wanted_put oi a oj.dst u h3).trans hw) hk'⟩
     |quiet hw hies v hrun hst hk=>
      refine .inl ⟨v,hk,fun u w2 K' hC2 hps hk' => ?_⟩;have he:=execOp_put oi hsi a oj.dst u h3;have hrun2:(execOp a.eval oi).run P w2= .ok (.value v) w2:=by
       rcases hst with h|h
       ·rw [hps h];exact hrun
       ·exact h w2 hC2
      exact .quiet ((wanted_put oi a oj.dst u h3).trans hw) hies v (by rw [he];exact hrun2) (by rw [he];exact hst) hk'
     |eff hw hies hk=>exact .inr ⟨hw,hies,hk⟩
    rcases hstill with ⟨v,hk,hS⟩|⟨hw,hies,hk⟩
    ·cases hJ v w hk with
     |pass hwj' hkj=>exact .pass ((hwj v).symm.trans hwj') (ih _ w hcl' hC hfree' hr' (hS undef w _ hC (fun _=>rfl) (by rw [← hcomm];exact hkj)))
     |quiet hwj' hjes u hrun hst hkj=>
      rw [hej] at hrun hst;exact .quiet ((hwj v).symm.trans hwj') hjes u hrun hst (ih _ w hcl' hC hfree' hr' (hS u w _ hC (fun _=>rfl) (by rw [← hcomm];exact hkj)))
     |eff hwj' hjes hkj=>
      rw [hej] at hkj;exact .eff ((hwj v).symm.trans hwj') hjes (hkj.mono fun u w2 hk2=>ih _ w2 hcl' hk2.inC hfree' hr' (hS u w2 _ hk2.inC (fun hps=>(hnb j hjes i (.inr hps) hji (.inr rfl) L hcl hj hr).elim) (by rw [← hcomm];exact hk2)))
    ·obtain ⟨v0,w1,h0⟩:=hk.ex
     cases hJ v0 w1 h0 with
     |pass hwj' hkj=>
      have hwa:=(hwj v0).symm.trans hwj';refine .pass hwa (ih _ w hcl' hC hfree' hr' (EOp.of_put hap hsi (.eff hw hies hk) fun v w' h=> ?_))
      cases hJ v w' h with
      |pass _ h' =>rw [← hcomm];exact h'
      |quiet hw2 _ _ _ _ _=>rw [hwj,hwa] at hw2;cases hw2
      |eff hw2 _ _=>rw [hwj,hwa] at hw2;cases hw2
     |quiet hwj' hjes u hrun hst hkj=>
      have hwa:=(hwj v0).symm.trans hwj';have hst2: ∀ w1,C w1→(execOp a.eval oj).run P w1= .ok (.value u) w1:=by
       rcases hst with h|h
       ·exact (hnb i hies j (.inr h) (Ne.symm hji) (.inl rfl) L hcl hr hj).elim
       ·rw [hej] at h;exact h
      refine .quiet hwa hjes u (hst2 w hC) (.inr hst2) (ih _ w hcl' hC hfree' hr' (EOp.of_put hap hsi (.eff hw hies hk) fun v w' h=> ?_))
      cases hJ v w' h with
      |pass hw2 _=>rw [hwj,hwa] at hw2;cases hw2
      |eff _ hjes2 _=>exact absurd hjes2 hjes
      |quiet _ _ u' hr2 hst' h' =>
       have hst3:(execOp a.eval oj).run P w= .ok (.value u') w:=by
        rcases hst' with h|h
        ·exact (hnb i hies j (.inr h) (Ne.symm hji) (.inl rfl) L hcl hr hj).elim
        ·have:=h w hC;rw [hej] at this;exact this
       rw [hst2 w hC] at hst3;injection hst3 with h4;injection h4 with h4;subst h4;rw [← hcomm];exact h'
     |eff hwj' hjes hkj=>exact (hnb i hies j (.inl hjes) (Ne.symm hji) (.inl rfl) L hcl hr hj).elim⟩
end
section
variable {P:Program} {n:Fr} {w0:World} {Q:aO} {s:au} {H S:List Blk} {l:List Oper} {ty:TypeId} {p:String} {af:Array Edge} {es:List Nat} {gu:Option (Nat × Bool)} {f:Nat} {L:Array Bool}
def WE (P:Program) (n:Fr) (w0:World) (l:List Oper) (S:List Blk) (es:List Nat) (Q:aO) (f:Nat) (L:Array Bool) (s:au) (H:List Blk):Prop:=
 ∀ a w,St n s a→Mem w0 w H→Mem w0 w S→ClosedL l.toArray L→AnyE P l.toArray es [] (fun w=>Mem w0 w S) (post n w0 Q .normal) f L a w
theorem iO {id:Nat} (es:List Nat) (S:List Blk) (N:Nat) (hN:l.length=N) (hm:P.follows .mixedOrders=true) (hS:MSub S H)
 (h:WE P n w0 l S es Q N (Array.replicate N false) s H):W P n w0 (.region id l.toArray true) Q s H:=by
 intro a w hs hmem;subst hN;refine wp_region_any hm (dG (es:=es) (ps:= []) (C:=fun w=>Mem w0 w S) (Q:=post n w0 Q .normal) (fun _ _ h=>h) _ _ _ _ ?_);have hcl:ClosedL l.toArray (Array.replicate l.length false):=fun i o _ hi=>by
  rw [I4,K3] at hi;split at hi<;>cases hi
 have:=h a _ hs hmem.drew (hS.use hmem.drew) hcl;simpa using this
theorem iM (hr:Region.ready .any l.toArray L= []) (h:Q .normal s H):WE P n w0 l S es Q f L s H:=by
 intro a w hs hm hS hcl
 cases f with
 |zero=>exact ⟨hS,hr,s,H,hs,hm,h⟩
 |succ f=>exact ⟨hS,fun _=>⟨s,H,hs,hm,h⟩,fun i hi=>by rw [hr] at hi;cases hi⟩
theorem aP {i:Nat} {op:Op} {d:Nat} {v:Value} (hi:l[i]? =some ⟨some d,op,ty,p,af,gu⟩) (hn:Nat.blt d n.sz=true) (hg:gok l s gu=some true) (hk:es.contains i=false) (hsel:Region.noSelect l.toArray=true)
 (hr:(Region.ready .any l.toArray L).contains i=true) (hf:Region.free .any l.toArray L i=true) (hv:VOp P w0 s S op ty v) (h:WE P n w0 l S es Q f (L.setIfInBounds i true) ((d,v)::s) H):WE P n w0 l S es Q (f+1) L s H:=by
 intro a w hs hm hS hcl;have hi' :l.toArray[i]? =some ⟨some d,op,ty,p,af,gu⟩:=by simpa using hi
 have hr' :i∈Region.ready .any l.toArray L:=by simpa using hr
 have hk' :i∉es:=by simpa using hk
 refine ny hi' (Region.noSelect_spec hsel) (fun x hx y hy _ hxy=> ?_) f L a w hcl hS (Region.free_spec hi' hf) hr'
  (.quiet (fZ rfl hg hs) hk' v (hv a.eval w (some d) p af gu hs.eval hS) (.inr fun w1 h1=>hv a.eval w1 (some d) p af gu hs.eval h1) (h _ _ (hs.put (Jf ▸ hn) v) hm hS (hcl.set hr')))
 rcases hxy with rfl|rfl
 ·exact (hk' hx).elim
 ·rcases hy with hy|hy
  ·exact (hk' hy).elim
  ·cases hy
theorem rO {i:Nat} {op:Op} {dst:Option Tmp} (hi:l[i]? =some ⟨dst,op,ty,p,af,gu⟩) (hg:gok l s gu=some true) (hk:es.contains i=true) (hr:(Region.ready .any l.toArray L).contains i=true)
 (h:WL P n w0 #[] [⟨dst,op,ty,p,af,none⟩] (ceP S (WE P n w0 l S es Q f (L.setIfInBounds i true))) s H) (a:Act) (w:World) (hs:St n s a) (hm:Mem w0 w H) (hcl:ClosedL l.toArray L):
 EOp P l.toArray es [] (fun w=>Mem w0 w S) (AnyE P l.toArray es [] (fun w=>Mem w0 w S) (post n w0 Q .normal) f (L.setIfInBounds i true)) i ⟨dst,op,ty,p,af,gu⟩ a w:=by
 have hr' :i∈Region.ready .any l.toArray L:=by simpa using hr
 refine .eff (fZ rfl hg hs) (by simpa using hk) ?_;have h1:=h a w hs hm;unfold wpList at h1;simp only [Region.wanted,if_true] at h1;replace h1:=h1.elim id fun ⟨_,a0,w1,s',H'',_,_,he,_⟩=>by cases he
 have hexec:execOp a.eval ⟨dst,op,ty,p,af,gu⟩=execOp a.eval ⟨dst,op,ty,p,af,none⟩:=rfl;rw [hexec];have nxt: ∀ (a' :Act) (w' :World),wpList P #[] (post n w0 (ceP S (WE P n w0 l S es Q f (L.setIfInBounds i true)))) [] a' w' →AnyE P l.toArray es [] (fun w=>Mem w0 w S) (post n w0 Q .normal) f (L.setIfInBounds i true) a' w' :=by
  rintro a' w' ⟨s',H',hs',hm',_,hSub,hK⟩;exact hK a' w' hs' hm' (hSub.use hm') (hcl.set hr')
 unfold Oper.wp at h1;generalize (execOp a.eval ⟨dst,op,ty,p,af,none⟩).run P w=r at h1 ⊢
 cases r with
 |ok x w' =>
  cases x<;>simp only [Oper.upon] at h1<;>simp only [NormUp]
  case value u=>exact nxt _ _ h1
  case skip=>exact nxt _ _ h1
  case defer dd=>
   obtain ⟨s',H'',hs',_⟩:=h1;have h2:=congrArg List.length (hs'.defers.trans hs.defers.symm);cases dst<;>simp [Act.put] at h2
  case enter f args=>
   refine h1.mono fun e w'' he=> ?_
   cases e with
   |returned v=>exact ⟨v,rfl,nxt _ _ he⟩
   |panicked c=>
    obtain ⟨s',H'',_,_,he',_⟩:=he;cases he'
   |outgrown=>
    obtain ⟨a0,w1,s',H'',_,_,he',_⟩:=he;cases he'
  case row f args=>exact Rows.mono h1 fun u w'' he=>nxt _ _ he
 |halt x w' =>
  cases x<;>simp only [Oper.upon] at h1
  all_goals
   obtain ⟨s',H'',_,_,he',_⟩:=h1;cases he'
theorem bG {i:Nat} {op:Op} {dst:Option Tmp} (hi:l[i]? =some ⟨dst,op,ty,p,af,gu⟩) (hg:gok l s gu=some true) (hk:es.contains i=true) (hr:Region.ready .any l.toArray L= [i])
 (h:WL P n w0 #[] [⟨dst,op,ty,p,af,none⟩] (ceP S (WE P n w0 l S es Q f (L.setIfInBounds i true))) s H):WE P n w0 l S es Q (f+1) L s H:=by
 intro a w hs hm hS hcl;refine ⟨hS,fun h0=>(by rw [hr] at h0;cases h0),fun j hj=> ?_⟩;rw [hr] at hj;have e:j=i:=by simpa using hj
 subst e;exact ⟨_,by simpa using hi,rO hi hg hk (by rw [hr];simp) h a w hs hm hcl⟩
theorem n8 {i j:Nat} {op op' :Op} {dst dst' :Option Tmp} {ty' :TypeId} {p' :String} {af' :Array Edge} {gu' :Option (Nat × Bool)} (hi:l[i]? =some ⟨dst,op,ty,p,af,gu⟩) (hj:l[j]? =some ⟨dst',op',ty',p',af',gu'⟩) (hg:gok l s gu=some true) (hg' :gok l s gu' =some true)
 (hk:es.contains i=true) (hk' :es.contains j=true) (hr:Region.ready .any l.toArray L= [i,j])
 (h:WL P n w0 #[] [⟨dst,op,ty,p,af,none⟩] (ceP S (WE P n w0 l S es Q f (L.setIfInBounds i true))) s H)
 (h' :WL P n w0 #[] [⟨dst',op',ty',p',af',none⟩] (ceP S (WE P n w0 l S es Q f (L.setIfInBounds j true))) s H):WE P n w0 l S es Q (f+1) L s H:=by
 intro a w hs hm hS hcl;refine ⟨hS,fun h0=>(by rw [hr] at h0;cases h0),fun k hk0=> ?_⟩;rw [hr] at hk0;rcases IP.1 hk0 with e|hk0
 ·subst e;exact ⟨_,by simpa using hi,rO hi hg hk (by rw [hr];simp) h a w hs hm hcl⟩
 ·have e:k=j:=by simpa using hk0
  subst e;exact ⟨_,by simpa using hj,rO hj hg' hk' (by rw [hr];simp) h' a w hs hm hcl⟩
end
end Go.SL
namespace Go.SL
open Go Go.Proofs
attribute [local irreducible] W WL WQ WG WA WX WLI WR WT WC WE VOp RW thn blk aW scp aJ aS bg FnAt FnIn FnP ceP
theorem In.of_mem {b:Blk}: ∀ {H:List Blk},b∈H→In b H
 | [],h=>by cases h
 |a::H,h=>by
  by_cases e:b=a
  ·subst e;exact .hd
  ·exact .tl (In.of_mem (by rcases IP.1 h with h|h;exact absurd h e;exact h))
structure Rdr (gg:Nat) (G:Gr) (B:List Blk) (w0:World):Prop where
 g:GrOk G
 l:G.length≤900
 ur: ∀ r H,MSub B H→FnIn Tryz.prog 31 [.pointer (some ⟨gg,0,none⟩),.agg (qm r).toArray] w0 H fun v H' => ∃ A cap,v=sl A (wT G r).length cap∧H' = .own A 28 2 (wT G r).length cap ((wT G r).flatMap az)::H
 fm: ∀ H,MSub B H→FnIn Tryz.prog 29 [.pointer (some ⟨gg,0,none⟩)] w0 H fun v H' => ∃ A cap,v=sl A (aw G).length cap∧H' = .own A 28 2 (aw G).length cap ((aw G).flatMap az)::H
 us: ∀ d H,MSub B H→FnIn Tryz.prog 59 [.pointer (some ⟨gg,0,none⟩),dE d] w0 H fun v H' => ∃ A cap,v=sl A (gV G d).length cap∧H' = .own A 121 6 (gV G d).length cap ((gV G d).flatMap fF)::H
end Go.SL
namespace Go.SL
open Go Go.Proofs Go.Sort Go.Shelf
attribute [local irreducible] W WL WQ WG WA WX WLI WR WT WC WE VOp RW thn blk aW scp aJ aS bg FnAt FnIn FnP ceP
def aL (n:Nat) (f:Nat→Bool):List Value:=(List.range n).map fun k=> .bool (f k)
theorem iG (n:Nat) (f:Nat→Bool):(aL n f).length=n:=by simp [aL]
theorem eU {n:Nat} {f:Nat→Bool} {k:Nat} (h:k<n):(aL n f)[0+k*1]? =some (.bool (f k)):=by
 unfold aL;rw [IG,Jd,Iy,IY h];rfl
theorem iF {n:Nat} {f:Nat→Bool} {k:Nat} {v:Bool}:(aL n f).set (0+k*1) (.bool v)=aL n (fun j=>if j=k then v else f j):=by
 rw [IG,Jd];apply Js;intro j;unfold aL;by_cases hj:j<n
 ·by_cases e:k=j
  ·subst e;rw [List.getElem?_set_self (by simpa using hj),Iy,IY hj];simp
  ·rw [List.getElem?_set_ne e,Iy,Iy,IY hj];have e2: ¬ j=k:=fun h=>e h.symm;simp [e2]
 ·rw [IC (by simp;omega),IC (by simp;omega)]
theorem bY {n:Nat} {f g:Nat→Bool} (h: ∀ k,k<n→f k=g k):aL n f=aL n g:=by
 unfold aL;exact Jj fun k hk=>by rw [h k (IJ.1 hk)]
def oP (n A:Nat) (f:Nat→Bool):Blk:= .own (some A) 4 1 n n (aL n f)
end Go.SL
namespace Go.SL
open Go Go.Proofs
attribute [local irreducible] W WL WQ WG WA WX WLI WR WT WC WE VOp RW thn blk aW scp aJ aS bg FnAt FnIn FnP ceP
theorem zm {P:Program} {w0:World} {s:au} {H:List Blk} {ty t e lo m c sz g:Nat} {x xl:Operand} [ht:Und P t (.slice e)] [hz:Size P e sz] (hx:ev s x=some (.slice (some ⟨g,0,none⟩) m c)) (hxl:ev s xl=some (.int .i64 (lo:Nat))) (h1:lo<m) (h2:m≤c):
 VOp P w0 s H (.slice t x (some xl) none none) ty (.slice (some ⟨g,lo*sz,none⟩) (m - lo) (c - lo)):=by
 have h:=jO (P:=P) (w0:=w0) (s:=s) (H:=H) (ty:=ty) (t:=t) (lo:=lo) (hi:=m) (x:=x) (xl:=some xl) (xh:=none) hx ⟨_,hxl⟩ rfl (by omega) h2;rw [if_neg (show ¬ c=lo by omega)] at h;have ha:(⟨g,0,none⟩:Addr).add (lo*sz)=⟨g,lo*sz,none⟩:=by unfold Addr.add;split<;>simp_all
 rw [JB,ha] at h;exact h
theorem qD {P:Program} {w0:World} {s:au} {H:List Blk} {ty t e hi m c sz:Nat} {A:Option Addr} {x xh:Operand} [ht:Und P t (.slice e)] [hz:Size P e sz] (hx:ev s x=some (.slice A m c)) (hxh:ev s xh=some (.int .i64 (hi:Nat))) (h2:hi≤c):
 VOp P w0 s H (.slice t x none (some xh) none) ty (.slice A hi c):=by
 have h:=jO (P:=P) (w0:=w0) (s:=s) (H:=H) (ty:=ty) (t:=t) (lo:=0) (hi:=hi) (x:=x) (xl:=none) (xh:=some xh) hx rfl ⟨_,hxh⟩ (by omega) h2;have ha:(if c=0 then A else A.map (·.add (0*sz)))=A:=by
  split
  ·rfl
  ·cases A with
   |none=>rfl
   |some a=>rw [KS];simp [Addr.add]
 rw [ha] at h;exact h
end Go.SL
namespace Go.SL
open Go Go.Proofs
theorem G6 {P:Program} {n:Fr} {w0:World} {Q:aO} {s:au} {H:List Blk} {c:Code} {A:Option Nat} {t sz m cap:Nat} {xs:List Value} (hi:In (.own A t sz m cap xs) H) (h:m≤cap→W P n w0 c Q s H):W P n w0 c Q s H:=fun a w hs hmem=>
 h (hmem.on _ hi.mem).1.2.1 a w hs hmem
attribute [local irreducible] W WL WQ WG WA WX WLI WR WT WC WE VOp RW thn blk aW scp aJ aS bg FnAt FnIn FnP ceP
theorem Qu.pop_v (q:Qu) (sz:Nat):Value.slice (if q.c - q.k=1 then some ⟨q.g,q.off,none⟩ else (some (⟨q.g,q.off,none⟩:Addr)).map (·.add (1*sz))) (q.n - q.k - 1) (q.c - q.k - 1)=(q.pop sz).v:=by
 simp only [Qu.v,Qu.pop];rw [Nat.sub_sub,Nat.sub_sub];split
 ·rfl
 ·have h:(⟨q.g,q.off,none⟩:Addr).add (1*sz)=⟨q.g,q.off+1*sz,none⟩:=by unfold Addr.add;split<;>simp_all
  rw [JB,h]
theorem Fs {P:Program} {w0:World} {s:au} {H:List Blk} {ty t e sz:Nat} {x:Operand} [ht:Und P t (.slice e)] [hz:Size P e sz] (q:Qu) (hx:ev s x=some q.v) (h1:1≤q.n - q.k) (h2:q.n≤q.c):
 VOp P w0 s H (.slice t x (some (.const (.int .i64 1))) none none) ty (q.pop sz).v:=by
 rw [← Qu.pop_v];exact jO (lo:=1) (hi:=q.n - q.k) hx ⟨_,rfl⟩ rfl h1 (by omega)
theorem Qu.ok.head {α:Type} {q:Qu} {enc:α→List Value} {sz:Nat} {a:α} {L:List α} (h:q.ok enc sz (a::L)) (he:(enc a).length=sz) (hc:q.n≤q.c):(q.ys.drop (q.off+0*sz)).take sz=enc a:=by
 have hl:=h.len;rw [IU] at hl;rw [h.off (by omega),KS,KG,h.cells,I8,← he,Kg]
end Go.SL
namespace Go.SL
open Go Go.Proofs
attribute [local irreducible] W WL WQ WG WA WX WLI WR WT WC WE VOp RW thn blk aW scp aJ aS bg FnAt FnIn FnP ceP
theorem kT (n:Nat):((List.range (n*1)).map fun i=> [Value.bool false][i % [Value.bool false].length]!)=aL n fun _=>false:=by
 simp [aL,Nat.mod_one]
end Go.SL
