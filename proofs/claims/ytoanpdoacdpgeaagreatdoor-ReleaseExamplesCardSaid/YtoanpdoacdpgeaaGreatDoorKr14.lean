/-
  Lemmas and walks, put together: Gq D11 Q10 Lu Pl2 Lp Ro G2 G2a D8 D12 K2 Q15 Nb.
-/
import Derived.Test.YtoanpdoacdpgeaaGreatDoorKr13
set_option linter.unusedSimpArgs false
set_option linter.unusedVariables false
set_option maxRecDepth 20000
namespace Go.SL
open Go
def En.abs (e:En):Rf × List Nd × List Us:=(e.at_,e.tree,e.uses)
structure GOk (R:List Blk) (E:List En) (clock:Nat) (G:Gr):Prop where
 ok:MapOk (E.map En.m) clock
 en: ∀ e∈E,EnOk R e
 rel: ∀ x,x∈E.map En.abs↔x∈G
 sort:SortG G
theorem yu (E:List En):((E.map En.m).map fun e=>e.1)=E.map En.at_:=by rw [JJ];rfl
theorem CS (E:List En):((E.map En.m).map fun e=>e.2.2)=E.map En.born:=by rw [JJ];rfl
theorem GOk.sub {R R' :List Blk} {E:List En} {clock:Nat} {G:Gr} (h:GOk R E clock G) (hs:MSub R R'):GOk R' E clock G:=⟨h.ok,fun e he=>(h.en e he).sub hs,h.rel,h.sort⟩
theorem GOk.nodup {R:List Blk} {E:List En} {clock:Nat} {G:Gr} (h:GOk R E clock G):(E.map En.at_).Nodup:=yu E ▸ h.ok.keys
theorem GOk.perm {R:List Blk} {E:List En} {clock:Nat} {G:Gr} (h:GOk R E clock G):(E.map En.abs).Perm G:=by
 refine kG ?_ ?_ h.rel
 ·
  have:=h.nodup
  have e:E.map En.at_=(E.map En.abs).map fun x=>x.1:=by rw [JJ];rfl
  rw [e] at this
  exact fu _ this
 ·
  exact fu (fun e:Rf × List Nd × List Us=>e.1) h.sort.nodup
theorem GOk.len {R:List Blk} {E:List En} {clock:Nat} {G:Gr} (h:GOk R E clock G):E.length=G.length:=by
 have:=h.perm.length_eq
 simpa using this
theorem GOk.forms {R:List Blk} {E:List En} {clock:Nat} {G:Gr} (h:GOk R E clock G):pE (E.map En.m)=ba G:=by
 have hp:(E.map En.at_).Perm (ba G):=by
  have:=h.perm.map fun x=>x.1
  rw [JJ] at this
  exact this
 rw [pE,yu,mQ hp,qj (uZ h.sort)]
theorem GOk.look {R:List Blk} {E:List En} {clock:Nat} {G:Gr} (h:GOk R E clock G) (a:Rf):(jv E a).map (fun e=>(e.tree,e.uses))=o5 G a:=by
 cases hf:jv E a with
 |some e=>
  have h1:=List.find?_some hf
  simp only [decide_eq_true_eq] at h1
  have h2:(a,e.tree,e.uses)∈G:=by
   rw [← h.rel]
   refine Iu.2 ⟨e,JR hf,?_⟩
   rw [← h1];rfl
  rw [(o4 h.sort).2 h2];rfl
 |none=>
  rw [jv,List.find?_eq_none] at hf
  symm
  rw [Option.map_none,w8]
  intro x hx
  rw [← h.rel] at hx
  obtain ⟨e,he,rfl⟩:=Iu.1 hx
  have:=hf e he
  simpa [En.abs] using this
theorem GOk.uses {R:List Blk} {E:List En} {clock:Nat} {G:Gr} (h:GOk R E clock G) (a:Rf):(fQ E a).uses=eL G a:=by
 rw [eL,← h.look a,fQ]
 cases jv E a<;>rfl
theorem kH {κ:Type} [DecidableEq κ] {k:κ}: ∀ {es:List (κ × Value × Nat)} {i:Nat},bh k es i=none→ ∀ e∈es,e.1≠k
 | [],_,_,e,he=>by cases he
 |x::r,i,h,e,he=>by
  rw [bh] at h
  split at h
  ·
   cases h
  ·
   rename_i hk
   rcases Ie.1 he with rfl|he
   ·
    exact fun e=>hk e.symm
   ·
    exact kH h e he
theorem GOk.del {R:List Blk} {E:List En} {clock:Nat} {G:Gr} (h:GOk R E clock G) (a:Rf): ∃ E',E'.map En.m=xb a (E.map En.m)∧GOk R E' clock (CM G a):=by
 unfold xb
 cases hk:bh a (E.map En.m) 0 with
 |none=>
  have hno:=kH hk
  refine ⟨E,rfl,h.ok,h.en,fun x=> ?_,l6 h.sort a⟩
  rw [oZ,← h.rel]
  refine ⟨fun hx=>⟨hx,?_⟩,fun hx=>hx.1⟩
  obtain ⟨e,he,rfl⟩:=Iu.1 hx
  exact hno e.m (Iu.2 ⟨e,he,rfl⟩)
 |some x=>
  obtain ⟨j,v⟩:=x
  obtain ⟨b,_,hj⟩:=ia hk
  rw [Jo,II] at hj
  obtain ⟨e0,he0,hm0⟩:=JB.1 hj
  have ha:e0.at_=a:=congrArg Prod.fst hm0
  have hsub:(E.eraseIdx j).Sublist E:=List.eraseIdx_sublist E j
  have hin: ∀ e,e∈E.eraseIdx j↔e∈E∧e.at_≠a:=by
   intro e
   rw [List.mem_eraseIdx_iff_getElem?]
   obtain ⟨hjl,hj0⟩:=Iq.1 he0
   constructor
   ·
    rintro ⟨i,hne,hi⟩
    refine ⟨List.mem_of_getElem? hi,fun hea=>hne ?_⟩
    obtain ⟨hil,hi0⟩:=Iq.1 hi
    have hn:=h.nodup
    have:=List.getElem_inj (xs:=E.map En.at_) (h₀:=by simpa using hil) (h₁:=by simpa using hjl) hn
    refine this.1 ?_
    simp only [List.getElem_map,hi0,hj0,hea,ha]
   ·
    rintro ⟨he,hea⟩
    obtain ⟨i,hil,hi⟩:=JU he
    refine ⟨i,?_,by rw [HY hil,hi]⟩
    rintro rfl
    rw [hj0] at hi
    exact hea (hi ▸ ha)
  refine ⟨E.eraseIdx j,iP _ _ _,?_,fun e he=>h.en e (hsub.subset he),fun x=> ?_,l6 h.sort a⟩
  ·
   have hs2:((E.eraseIdx j).map En.m).Sublist (E.map En.m):=hsub.map _
   exact ⟨(hs2.map _).nodup h.ok.born,fun e he=>h.ok.old e (hs2.subset he),(hs2.map _).nodup h.ok.keys⟩
  ·
   rw [oZ,← h.rel]
   constructor
   ·
    intro hx
    obtain ⟨e,he,rfl⟩:=Iu.1 hx
    obtain ⟨h1,h2⟩:=(hin e).1 he
    exact ⟨Iu.2 ⟨e,h1,rfl⟩,h2⟩
   ·
    rintro ⟨hx,hne⟩
    obtain ⟨e,he,rfl⟩:=Iu.1 hx
    exact Iu.2 ⟨e,(hin e).2 ⟨he,hne⟩,rfl⟩
theorem GOk.put {R:List Blk} {E:List En} {clock:Nat} {G:Gr} (h:GOk R E clock G) (n:En) (hn:EnOk R n): ∃ E',E'.map En.m=(jp n.at_ (.agg #[n.tv,n.uv]) clock (E.map En.m)).1∧GOk R E' (jp n.at_ (.agg #[n.tv,n.uv]) clock (E.map En.m)).2 (xd G n.at_ (n.tree,n.uses)):=by
 unfold jp
 cases hk:bh n.at_ (E.map En.m) 0 with
 |none=>
  have hno:=kH hk
  have hno' :n.at_∉E.map En.at_:=fun hx=>by
   obtain ⟨e,he,hea⟩:=Iu.1 hx
   exact hno e.m (Iu.2 ⟨e,he,rfl⟩) hea
  refine ⟨E++ [{ n with born:=clock }],by simp [En.m,En.tv,En.uv],⟨?_,?_,?_⟩,fun e he=> ?_,fun x=> ?_,l5 h.sort _ _⟩
  ·
   have hb:=h.ok.born
   rw [CS] at hb ⊢
   rw [IQ,List.nodup_append]
   refine ⟨hb,by simp,fun x hx y hy=> ?_⟩
   simp only [Iv,I5,Iz] at hy
   subst hy
   obtain ⟨e,he,rfl⟩:=Iu.1 hx
   have:=h.ok.old e.m (Iu.2 ⟨e,he,rfl⟩)
   simp only [En.m] at this
   omega
  ·
   intro e he
   rw [IQ] at he
   rcases ID.1 he with he|he
   ·
    have:=h.ok.old e he;simp only;omega
   ·
    simp only [Iv,I5,Iz] at he
    subst he
    simp [En.m]
  ·
   rw [yu,IQ,List.nodup_append]
   refine ⟨h.nodup,by simp,fun x hx y hy e=> ?_⟩
   simp only [Iv,I5,Iz] at hy
   subst hy;subst e
   exact hno' hx
  ·
   rcases ID.1 he with he|he
   ·
    exact h.en e he
   ·
    rw [Iz.1 he]
    exact ⟨hn.tree,hn.uses,hn.tl,hn.ul⟩
  ·
   rw [oY,← h.rel,IQ,ID]
   constructor
   ·
    rintro (hx|hx)
    ·
     right
     obtain ⟨e,he,rfl⟩:=Iu.1 hx
     exact ⟨hx,fun hea=>hno' (Iu.2 ⟨e,he,hea⟩)⟩
    ·
     left
     simpa [En.abs] using hx
   ·
    rintro (rfl|⟨hx,_⟩)
    ·
     right;simp [En.abs]
    ·
     left;exact hx
 |some x=>
  obtain ⟨j,v⟩:=x
  obtain ⟨b,_,hj⟩:=ia hk
  rw [Jo,II] at hj
  obtain ⟨e0,he0,hm0⟩:=JB.1 hj
  have ha:e0.at_=n.at_:=congrArg Prod.fst hm0
  obtain ⟨hjl,hj0⟩:=Iq.1 he0
  have hget: ∀ i,(E.modify j fun e=>{ n with born:=e.born })[i]? =if j=i then (E[i]?).map (fun e=>{ n with born:=e.born }) else E[i]? :=fun i=>by
   rw [J8]
   split<;>rename_i hji
   ·
    rfl
   ·
    cases E[i]? <;>rfl
  have hin: ∀ e,e∈(E.modify j fun e=>{ n with born:=e.born })↔e={ n with born:=e0.born } ∨(e∈E∧e.at_≠n.at_):=by
   intro e
   constructor
   ·
    intro he
    obtain ⟨i,hi⟩:=Kn.1 he
    rw [hget] at hi
    split at hi
    ·
     rename_i hji
     subst hji
     rw [he0] at hi
     left
     exact (Option.some.inj hi).symm
    ·
     rename_i hji
     right
     refine ⟨List.mem_of_getElem? hi,fun hea=>hji ?_⟩
     obtain ⟨hil,hi0⟩:=Iq.1 hi
     have:=List.getElem_inj (xs:=E.map En.at_) (h₀:=by simpa using hjl) (h₁:=by simpa using hil) h.nodup
     refine this.1 ?_
     simp only [List.getElem_map,hi0,hj0,hea,ha]
   ·
    rintro (rfl|⟨he,hea⟩)
    ·
     refine Kn.2 ⟨j,?_⟩
     rw [hget,if_pos rfl,he0];rfl
    ·
     obtain ⟨i,hil,hi⟩:=JU he
     refine Kn.2 ⟨i,?_⟩
     rw [hget,if_neg,HY hil,hi]
     rintro rfl
     rw [hj0] at hi
     exact hea (hi ▸ ha)
  have hborn:(E.modify j fun e=>{ n with born:=e.born }).map En.born=E.map En.born:=by
   apply J2
   intro i
   rw [II,II,hget]
   split
   ·
    cases E[i]? <;>rfl
   ·
    rfl
  have hkeys:(E.modify j fun e=>{ n with born:=e.born }).map En.at_=E.map En.at_:=by
   apply J2
   intro i
   rw [II,II,hget]
   split
   ·
    rename_i hji
    subst hji
    rw [he0]
    simp [ha]
   ·
    rfl
  refine ⟨E.modify j fun e=>{ n with born:=e.born },?_,⟨?_,?_,?_⟩,fun e he=> ?_,fun x=> ?_,l5 h.sort _ _⟩
  ·
   apply J2
   intro i
   simp only [J8,II]
   cases E[i]? with
   |none=>simp
   |some e=>by_cases hji:j=i<;>simp [hji,En.m,En.tv,En.uv]
  ·
   rw [CS,hborn,← CS];exact h.ok.born
  ·
   intro e he
   obtain ⟨e',he',rfl⟩:=Iu.1 he
   have:e'.born∈E.map En.born:=by rw [← hborn];exact Iu.2 ⟨e',he',rfl⟩
   obtain ⟨e2,he2,hb2⟩:=Iu.1 this
   have:=h.ok.old e2.m (Iu.2 ⟨e2,he2,rfl⟩)
   simp only [En.m] at this ⊢
   omega
  ·
   rw [yu,hkeys];exact h.nodup
  ·
   rcases (hin e).1 he with rfl|⟨he,_⟩
   ·
    exact ⟨hn.tree,hn.uses,hn.tl,hn.ul⟩
   ·
    exact h.en e he
  ·
   rw [oY,← h.rel]
   constructor
   ·
    intro hx
    obtain ⟨e,he,rfl⟩:=Iu.1 hx
    rcases (hin e).1 he with rfl|⟨he,hea⟩
    ·
     left;rfl
    ·
     right;exact ⟨Iu.2 ⟨e,he,rfl⟩,hea⟩
   ·
    rintro (rfl|⟨hx,hne⟩)
    ·
     exact Iu.2 ⟨_,(hin _).2 (.inl rfl),rfl⟩
    ·
     obtain ⟨e,he,rfl⟩:=Iu.1 hx
     exact Iu.2 ⟨e,(hin e).2 (.inr ⟨he,hne⟩),rfl⟩
theorem dS {o:Option Out} {k:Nat→PS→Option Out} {x:Int × Int} (h:dq o k=some (.error x)) (h1: ∀ y,o=some (.error y)→y.2≠0) (h2: ∀ n p y,k n p=some (.error y)→y.2≠0):x.2≠0:=by
 obtain ⟨r1,hr,⟨e,rfl,he⟩|⟨n,p,rfl,hk⟩⟩:=bX h
 ·
  cases he;exact h1 _ hr
 ·
  exact h2 _ _ _ hk
theorem m6 {fin:Int} {name:Tk} {fn:Int} {n:Nat} {p:PS} {x:Int × Int} (h:cC fin name fn n p=some (.error x)):x.2≠0:=by
 unfold cC at h
 dsimp only at h
 split at h
 ·
  cases h;simp
 ·
  split at h
  ·
   cases h;simp
  ·
   split at h
   ·
    cases h;simp
   ·
    cases h
theorem BG (fin:Int): ∀ (f:Nat) (j:Job) (p:PS) (x:Int × Int),aX fin f j p=some (.error x)→x.2≠0:=by
 intro f
 induction f with
 |zero=>intro j p x h;cases j<;>cases h
 |succ f ih=>
  intro j p x h
  cases j with
  |level k=>
   rw [aX] at h
   split at h
   ·
    exact ih _ _ _ h
   ·
    exact dS h (ih _ _) fun _ _=>ih _ _
  |loop k=>
   rw [aX] at h
   try dsimp only at h
   split at h
   ·
    exact dS h (ih _ _) fun _ _=>ih _ _
   ·
    cases h
  |sign=>
   rw [aX] at h
   try dsimp only at h
   split at h
   ·
    exact dS h (ih _ _) fun _ _ _ h=>by cases h
   ·
    refine dS h (ih _ _) fun _ _ y h=> ?_
    split at h
    ·
     exact dS h (ih _ _) fun _ _ _ h=>by cases h
    ·
     cases h
  |pct=>
   rw [aX] at h
   exact dS h (ih _ _) fun _ _=>ih _ _
  |pctl=>
   rw [aX] at h
   try dsimp only at h
   split at h
   ·
    exact ih _ _ _ h
   ·
    cases h
  |prim=>
   rw [aX] at h
   try dsimp only at h
   split at h
   ·
    cases h
   ·
    split at h
    ·
     cases h
    ·
     split at h
     ·
      refine dS h (ih _ _) fun _ _ y h=> ?_
      split at h
      ·
       cases h;simp
      ·
       cases h
     ·
      split at h
      ·
       split at h
       ·
        cases h;simp
       ·
        split at h
        ·
         cases h;simp
        ·
         split at h
         ·
          exact m6 h
         ·
          exact dS h (ih _ _) fun _ _ _ h=>m6 h
      ·
       cases h;simp
  |args fn n=>
   rw [aX] at h
   try dsimp only at h
   have hgo: ∀ (p:PS) (y:Int × Int),(if (hdT fin p.l).kind=11 then aX fin f (.args fn (n+1)) p.skip else some (.ok (n+1,p)))=some (.error y)→y.2≠0:=by
    intro p y h
    split at h
    ·
     exact ih _ _ _ h
    ·
     cases h
   split at h
   ·
    exact dS h (ih _ _) fun _ _ _ h=>hgo _ _ h
   ·
    split at h
    ·
     cases h;simp
    ·
     exact hgo _ _ h
theorem j5 {x:List Tk × Int × Int} {fin:Int}:(bV x fin).1.length≤x.1.length∧((bV x fin).2.2=0→gL (bV x fin).1=0):=by
 have hends:=qQ fin (20*x.1.length+40) (.level 1) ⟨x.1,[]⟩ ⟨by omega,by omega⟩ (by simp only [Job.c];omega)
 have hgrew:=fun n p hp=>fB fin (20*x.1.length+40) (.level 1) ⟨x.1,[]⟩ n p hp
 unfold bV
 split
 ·
  rename_i h;exact ⟨H5 _,fun h' =>absurd h' h⟩
 ·
  split
  ·
   rename_i h
   obtain ⟨r,hr,_⟩:=hends
   rw [h] at hr;cases hr
  ·
   rename_i a e h
   exact ⟨H5 _,fun h' =>absurd h' (BG _ _ _ _ _ h)⟩
  ·
   rename_i n p hp
   split
   ·
    exact ⟨H5 _,fun h' =>by cases h'⟩
   ·
    split
    ·
     rename_i hc;exact ⟨H5 _,fun h' =>absurd h' hc⟩
    ·
     rename_i hc
     obtain ⟨⟨m,h1,h2,h3⟩,_,_⟩:=hgrew _ _ hp
     simp only [JY,H8] at h3
     exact ⟨IW h3 h2,fun _=>by simpa using hc⟩
theorem uO {b:ByteArray} (h:(ofP b).2.2=0) (hf:(ofP b).1.formula=true):gL (ofP b).1.tree=0:=by
 unfold ofP at h hf ⊢
 split at hf
 ·
  cases hf
 ·
  rename_i h1
  rw [if_neg h1] at h ⊢
  split at hf
  ·
   cases hf
  ·
   rename_i h2
   rw [h2] at h
   simp only at h ⊢
   split at hf
   ·
    cases hf
   ·
    rename_i h3
    rw [if_neg h3] at h ⊢
    have ht:=j5 (x:=cM cj (ak (iy b eqB).1)) (fin:=((iy b eqB).1.size:Int))
    generalize bV (cM cj (ak (iy b eqB).1)) ((iy b eqB).1.size:Int)=r at h hf ht ⊢
    obtain ⟨t,at_,e⟩:=r
    simp only at h hf ht ⊢
    split at hf
    ·
     cases hf
    ·
     rename_i h4
     rw [if_neg h4]
     exact ht.2 (by simpa using h4)
theorem yh (b:ByteArray):(ofP b).1.tree.length≤256:=by
 unfold ofP
 split
 ·
  exact H5 _
 ·
  split
  ·
   exact H5 _
  ·
   split
   ·
    exact H5 _
   ·
    have ht:=(j5 (x:=cM cj (ak (iy b eqB).1)) (fin:=((iy b eqB).1.size:Int))).1
    have hl:=mP cj (ak (iy b eqB).1)
    generalize bV (cM cj (ak (iy b eqB).1)) ((iy b eqB).1.size:Int)=r at ht ⊢
    obtain ⟨t,at_,e⟩:=r
    simp only at ht ⊢
    split
    ·
     exact H5 _
    ·
     exact IW ht hl
end Go.SL
namespace Go.SL
open Go Go.Proofs
attribute [local irreducible] W WL WQ WG WA WX WLI WR WT WC VOp RW thn blk bo scp aN bf bi aF FnIn FnP ceP
theorem Eg (R:List Blk):GOk R [] 0 []:=⟨⟨List.nodup_nil,(fun _ h=>by cases h),List.nodup_nil⟩,(fun _ h=>by cases h),(fun _=>Iff.rfl),qM⟩
def HM (e:En):List Value:= [.int .i64 e.at_.col,.int .i64 e.at_.row,e.tv,e.uv]
def rgB (g:Nat) (A:Option Nat) (cap:Nat) (L:List En):List Blk:= [.box g 167 [sl A L.length cap],.own A 169 4 L.length cap (L.flatMap HM)]
structure RGOk (R:List Blk) (L:List En) (G:Gr):Prop where
 en: ∀ e∈L,EnOk R e
 rel:L.map En.abs=G
end Go.SL
namespace Go.SL
open Go
structure EntOk (e:Rf × List Nd × List Us):Prop where
 at_:e.1.valid=true
 tree:gL e.2.1=0
 uses:e.2.2=cQ e.2.1
 len:e.2.1.length≤256
structure GrOk (G:Gr):Prop where
 sort:SortG G
 ent: ∀ e∈G,EntOk e
theorem Cv:GrOk []:=⟨qM,fun _ h=>by cases h⟩
theorem GrOk.set {G:Gr} (h:GrOk G) (a:Rf) (b:ByteArray):GrOk (iJ G a b).1:=by
 refine ⟨zf h.sort a b,?_⟩
 unfold iJ
 split
 ·
  exact h.ent
 ·
  rename_i hv
  split
  ·
   exact h.ent
  ·
   rename_i he
   split
   ·
    exact fun e he=>h.ent e (oZ.1 he).1
   ·
    rename_i hf
    intro e hm
    rcases oY.1 hm with rfl|⟨hm,_⟩
    ·
     exact ⟨by simpa using hv,uO (by simpa using he) (by simpa using hf),rfl,yh b⟩
    ·
     exact h.ent e hm
theorem Bx (G:Gr) (a:Rf) (b:ByteArray):(iJ G a b).1.length≤G.length+1:=by
 unfold iJ
 split
 ·
  exact Nat.le_succ _
 ·
  split
  ·
   exact Nat.le_succ _
  ·
   split
   ·
    exact IW (J5 _ _) (Nat.le_succ _)
   ·
    simp only [xd,HV,IA]
    have:(G.filter fun e=>aW e.1 a).length+(G.filter fun e=>aW a e.1).length≤G.length:=by
     induction G with
     |nil=>simp
     |cons e r ih=>
      simp only [List.filter_cons,IA]
      cases h1:aW e.1 a
      ·
       cases h2:aW a e.1<;>simp<;>omega
      ·
       rw [mW h1];simp;omega
    omega
theorem zz {G:Gr} {c:Rf}:c∈ba G↔ ∃ e∈G,e.1=c:=by simp [ba]
theorem zD {G:Gr} (h:GrOk G) {d:Rf} (hd:d∈ba G):d.valid=true:=by
 obtain ⟨e,he,rfl⟩:=zz.1 hd
 exact (h.ent e he).at_
theorem y7 {G:Gr} (h:GrOk G) (c:Rf):(eL G c).length≤256:=by
 unfold eL
 cases hl:o5 G c with
 |none=>simp
 |some x=>
  have h1:=h.ent _ ((o4 h.sort).1 hl)
  simp only [Jk,Kk]
  rw [h1.uses]
  exact IW (fg _ _) h1.len
end Go.SL
namespace Go.SL
open Go Go.Proofs
attribute [local irreducible] W WL WQ WG WA WX WLI WR WT WC WE VOp RW thn blk bo scp aN bf bi aF FnIn FnP ceP
theorem oG {G:Gr} (hG:GrOk G) (d:Rf):(eL G d).length≤1000:=IW (y7 hG d) (by decide)
end Go.SL
namespace Go.SL
open Go Go.Proofs
attribute [local irreducible] W WL WQ WG WA WX WLI WR WT WC VOp RW thn blk bo scp aN bf bi aF FnP ceP
structure Gp where
 gg:Nat
 gm:Nat
 E:List En
 clock:Nat
 gr:Nat
 A:Option Nat
 cap:Nat
 Q:List En
 R:List Blk
theorem BJ {f:FuncId} {args:List Value} {w0:World} {B H:List Blk} {φ:Value→Option Nat→Nat→Prop} {t sz n:Nat} {cs:List Value}
  (h: ∀ F,FnIn Tryz.prog f args w0 (B++F) fun v H' => ∃ A cap,φ v A cap∧H' = .own A t sz n cap cs::(B++F)) (hs:MSub B H):
  FnIn Tryz.prog f args w0 H fun v H' => ∃ A cap,φ v A cap∧H' = .own A t sz n cap cs::H:=by
 obtain ⟨F,hp⟩:=hs
 refine ((h F).msub (MSub.of_perm hp)).re ?_
 rintro v H' ⟨A,cap,hv,rfl⟩
 exact ⟨_,MSub.of_perm (hp.symm.cons _),A,cap,hv,rfl⟩
section
variable {R:List Blk} {E:List En} {clock:Nat} {G:Gr} (h:GOk R E clock G) (gg gm:Nat) {H:List Blk} (hs:MSub (gB gg gm (E.map En.m) clock++R) H) (w0:World)
include h hs
theorem GOk.uses_any (c:Rf):FnIn Tryz.prog 125 [.pointer (some ⟨gg,0,none⟩),kI c] w0 H fun v H' => ∃ A cap,v=sl A (eL G c).length cap∧H' = .own A 159 6 (eL G c).length cap ((eL G c).flatMap dh)::H:=by
 refine BJ (φ:=fun v A cap=>v=sl A (eL G c).length cap) (fun F=> ?_) hs
 have h1:=EI gg gm clock E c (R++F) w0 (fun e he=>(h.en e he).sub (MSub.appL R F))
 rw [h.uses] at h1
 rw [Il]
 exact h1
variable (hl:G.length≤900)
include hl
theorem GOk.formulas_any:FnIn Tryz.prog 123 [.pointer (some ⟨gg,0,none⟩)] w0 H fun v H' => ∃ A cap,v=sl A (ba G).length cap∧H' = .own A 50 2 (ba G).length cap ((ba G).flatMap aQ)::H:=by
 refine BJ (φ:=fun v A cap=>v=sl A (ba G).length cap) (fun F=> ?_) hs
 have h1:=vY gg gm clock (E.map En.m) h.ok (by rw [IJ,h.len];omega) (R++F) w0
 rw [h.forms,show (E.map En.m).length=(ba G).length by rw [IJ,h.len,ba,IJ]] at h1
 rw [Il]
 exact h1
variable (hG:GrOk G)
include hG
end
end Go.SL
namespace Go.SL
open Go Go.Proofs
attribute [local irreducible] W WL WQ WG WA WX WLI WR WT WC VOp RW thn blk bo scp aN bf bi aF FnIn FnP ceP
set_option maxHeartbeats 2000000 in
theorem EM (gg gm clock:Nat) (E:List En) (G:Gr) (a:Rf) (b:ByteArray) (R F:List Blk) (w0:World) (hG:GOk R E clock G) (hW:Words w0):
  FnIn Tryz.prog 153 [.pointer (some ⟨gg,0,none⟩),kI a,.string b] w0 (gB gg gm (E.map En.m) clock++(R++F)) fun v H=>v= .int .i64 (iJ G a b).2∧ ∃ E' clock' R',H=gB gg gm (E'.map En.m) clock' ++(R' ++F)∧MSub R R' ∧GOk R' E' clock' (iJ G a b).1:=by
 refine fc Tryz.func153 rfl Tryz.ntmps153 rfl ?_
 have hV:=fun (w' :World) (H' :List Blk) (hm:Mem w0 w' H')=>(fJ a.col a.row w' :ay Tryz.prog 71 [kI a] w' (.bool (valid a.col a.row)))
 have hO:=fun (w' :World) (H' :List Blk) (hm:Mem w0 w' H')=>Ff b w' (hW.next hm)
 unfold gB
 unfold iJ
 by_cases hv:a.valid=false
 ·
  rw [if_pos hv]
  have hv' :valid a.col a.row=false:=hv
  rw [hv'] at hV
  repeat' (first|(apply ah (f:=71);exact rfl;exact rfl;(intro w' hm;exact hV w' _ hm))|refine sT ?_|refine sS ?_|refine sW ?_|refine sM fun _=> ?_|(refine sC ?_ ?_<;>intro hb<;>try omega)|(refine sCW ?_ ?_<;>intro hb<;>try omega)|fail)
  all_goals exact bI eIO rfl rfl mS ⟨rfl,E,clock,R,rfl,MSub.refl _,hG⟩
 rw [if_neg hv]
 have hv' :valid a.col a.row=true:=by
  have:a.valid=valid a.col a.row:=rfl
  rw [this] at hv
  simpa using hv
 rw [hv'] at hV
 have hlen:=yh b
 have htree:=uO (b:=b)
 generalize ofP b=r at hO hlen htree
 obtain ⟨⟨fm,v,t⟩,at_,e⟩:=r
 simp only [ofV,zT] at hO
 dsimp only at hlen htree ⊢
 by_cases he:e≠0
 ·
  rw [if_pos he]
  repeat' (first|(apply ah (f:=71);exact rfl;exact rfl;(intro w' hm;exact hV w' _ hm))|(apply av (f:=99);exact rfl;exact rfl;(intro w' hm;exact hO w' _ hm);rintro _ _ ⟨A,cap,rfl,rfl⟩)|refine sT ?_|refine sS ?_|refine sW ?_|refine sM fun _=> ?_|(refine sC ?_ ?_<;>intro hb<;>try omega)|(refine sCW ?_ ?_<;>intro hb<;>try omega)|fail)
  all_goals exact bI eIO rfl rfl mS ⟨rfl,E,clock,R,rfl,MSub.refl _,hG⟩
 rw [if_neg he]
 have he0:e=0:=by omega
 subst he0
 cases fm with
 |false=>
  obtain ⟨E',hE',hG'⟩:=hG.del a
  rw [if_pos rfl]
  repeat' (first|(apply ah (f:=71);exact rfl;exact rfl;(intro w' hm;exact hV w' _ hm))|(apply av (f:=99);exact rfl;exact rfl;(intro w' hm;exact hO w' _ hm);rintro _ _ ⟨A,cap,rfl,rfl⟩)|refine sT ?_|refine sS ?_|refine sW ?_|refine sM fun _=> ?_|(refine sC ?_ ?_<;>intro hb<;>try omega)|(refine sCW ?_ ?_<;>intro hb<;>try omega)|fail)
  rename_i g4 g7
  refine jE (id:=9) [5] [] [.box gg 199 [.map (some gm)],.box g4 50 (aQ a)] (by kernel_rfl) (by kernel_rfl) (by kernel_rfl) mS ?_
  repeat' (first|(apply gG;(iterate 3 exact rfl);apply eB;exact rfl)|(apply yQ (enc:=kI) (t:=197);(iterate 3 exact rfl);exact pK;rw [← hE'])|refine sT ?_|refine sS ?_|refine sW ?_|refine sM fun _=> ?_|(refine sC ?_ ?_<;>intro hb<;>try omega)|(refine sCW ?_ ?_<;>intro hb<;>try omega)|fail)
  all_goals exact bI eIO rfl rfl mS ⟨rfl,E',clock,R,rfl,MSub.refl _,hG'⟩
 |true=>
  have hck:=htree rfl rfl
  rw [if_neg (by simp)]
  have hU:=fun (w' :World) (A:Option Nat) (cap:Nat) (H' :List Blk) (hi:In (.own A 293 11 t.length cap (t.flatMap dD)) H') (hm:Mem w0 w' H')=>EJ t (sl A t.length cap) w' (Reads.of_own hm hi) (by omega)
  have hue:oH t=(cQ t,0):=by unfold oH;rw [hck];rfl
  have hul:(cQ t).length≤256:=IW (fg t 0) hlen
  rw [hue] at hU
  repeat' (first|(apply ah (f:=71);exact rfl;exact rfl;(intro w' hm;exact hV w' _ hm))|(apply av (f:=99);exact rfl;exact rfl;(intro w' hm;exact hO w' _ hm);rintro _ _ ⟨A,cap,rfl,rfl⟩)|(apply av (f:=200);exact rfl;exact rfl;(intro w' hm;exact hU w' _ _ _ pK hm);rintro _ _ ⟨A2,cap2,rfl,rfl⟩)|refine sT ?_|refine sS ?_|refine sW ?_|refine sM fun _=> ?_|(refine sC ?_ ?_<;>intro hb<;>try omega)|(refine sCW ?_ ?_<;>intro hb<;>try omega)|fail)
  rename_i g4 g7
  have hGR:=hG.sub (R' := .own A 293 11 t.length cap (t.flatMap dD):: .own A2 159 6 (cQ t).length cap2 ((cQ t).flatMap dh)::R) mS
  obtain ⟨E',hE',hG'⟩:=hGR.put ⟨a,A.map fun g=>⟨g,0,none⟩,cap,A2.map fun g=>⟨g,0,none⟩,cap2,t,cQ t,0⟩ ⟨rdIn.own (A:=A) pK,rdIn.own (A:=A2) pK,by dsimp only;omega,by dsimp only;omega⟩
  generalize hck2:(jp a (.agg #[sl A t.length cap,sl A2 (cQ t).length cap2]) clock (E.map En.m))=kp
  have hE2:E'.map En.m=kp.1:=hck2 ▸ hE'
  have hG2:GOk _ E' kp.2 (xd G a (t,cQ t)):=hck2 ▸ hG'
  refine jE (id:=14) [9] [] [.box gg 199 [.map (some gm)],.box g4 50 (aQ a),.box g7 130 [.bool true,.int .u8 v.kind,.int .i64 v.num,.string v.text,sl A t.length cap]] (by kernel_rfl) (by kernel_rfl) (by kernel_rfl) mS ?_
  repeat' (first|(apply gG;(iterate 3 exact rfl);apply eB;exact rfl)|(apply qw (enc:=kI);(iterate 3 exact rfl);exact pK;rw [hck2,← hE2])|refine sT ?_|refine sS ?_|refine sW ?_|refine sM fun _=> ?_|(refine sC ?_ ?_<;>intro hb<;>try omega)|(refine sCW ?_ ?_<;>intro hb<;>try omega)|fail)
  all_goals exact bI eIO rfl rfl (H' :=gB gg gm (E'.map En.m) kp.2++((.own A 293 11 t.length cap (t.flatMap dD):: .own A2 159 6 (cQ t).length cap2 ((cQ t).flatMap dh)::R)++F)) (by unfold gB;simp only [Ij,HW,HZ];exact mS) ⟨rfl,E',kp.2,_,rfl,mS,hG2⟩
theorem Gj (gg gm clock:Nat) (E:List En) (G:Gr) (a:Rf) (b:ByteArray) (R:List Blk) (w0:World) (hG:GOk R E clock G) (hW:Words w0):
  FnIn Tryz.prog 153 [.pointer (some ⟨gg,0,none⟩),kI a,.string b] w0 (gB gg gm (E.map En.m) clock++R) fun v H=>v= .int .i64 (iJ G a b).2∧ ∃ E' clock' R',H=gB gg gm (E'.map En.m) clock' ++R' ∧MSub R R' ∧GOk R' E' clock' (iJ G a b).1:=by
 have h:=EM gg gm clock E G a b R [] w0 hG hW
 simp only [Ig] at h
 exact h
structure Et where
 at_:Rf
 input:ByteArray
def cW (e:Et):List Value:= [.int .i64 e.at_.col,.int .i64 e.at_.row,.string e.input]
theorem iw (e:Et):(cW e).length=3:=rfl
def lH (b:Option Rf) (e:Et):Int:=if e.at_.valid=false then 3 else if (match b with|some p=>aW p e.at_|none=>true)=false then 12 else if e.input=az then 2 else (ofP e.input).2.2
def eI:Nat→Option Rf→List Et→Int × Int
 |_,_,[]=>(0,0)
 |i,b,e::r=>if lH b e≠0 then ((i:Int),lH b e) else eI (i+1) (some e.at_) r
def dm (L:List Et):Int × Int:=eI 0 none L
def pY (L:List Et) (i:Nat):Option Rf:=if i=0 then none else (L[i - 1]?).map Et.at_
set_option maxHeartbeats 2000000 in
theorem j8 (L:List Et) (tv:Value) (w:World) (ht:Reads w tv L.length (L.flatMap cW)) (hlen:L.length≤1000000) (hW:Words w):
    ay Tryz.prog 59 [tv] w (.tuple #[.int .i64 (dm L).1,.int .i64 (dm L).2]):=by
  obtain ⟨Al,cl,rfl,hl1,hl2,hl3⟩:=ht
  refine aq Tryz.func59 rfl Tryz.ntmps59 rfl ?_
  repeat' (first|refine sT ?_|refine sS ?_|refine sM fun _=> ?_|(refine sC ?_ ?_<;>intro hb<;>try omega)|fail)
  refine ax [0,2,3,9,10] rfl (fun i:Nat=> [(11,.int .i64 (i:Int))]) (fun _=> []) (fun i=>i≤L.length∧dm L=eI i (pY L i) (L.drop i)) (fun i=>L.length - i) 0 ⟨by omega,rfl⟩ sB (.refl _) ?_
  rintro i ⟨hi,hck⟩
  by_cases hlt:i<L.length
  · obtain ⟨gl,ol,rfl,hrl⟩:=hl3 (by omega)
    have he:=hrl.elem iw i hlt
    have hprev: ∀ h:0<i,Ro w gl (ol+(i - 1)*3) (cW L[i - 1]):=fun h=>hrl.elem iw (i - 1) (by omega)
    have hbef: ∀ h:0<i,pY L i=some L[i - 1].at_:=fun h=>by unfold pY;rw [if_neg (by omega),HY (by omega)];rfl
    have hbef0:i=0→pY L i=none:=fun h=>by unfold pY;rw [if_pos h]
    have hnext:pY L (i+1)=some L[i].at_:=by unfold pY;rw [if_neg (by omega),JN,HY hlt];rfl
    rw [H6 hlt,eI,← hnext] at hck
    generalize L[i]=e at he hck
    have hV: ∀ w',ay Tryz.prog 71 [.agg (aQ e.at_).toArray] w' (.bool e.at_.valid):=fun w' =>fJ e.at_.col e.at_.row w'
    have hO:=fun (w' :World) (H' :List Blk) (hm:Mem w w' H')=>Ff e.input w' (hW.next hm)
    by_cases h0:0<i
    · have hp:=hprev h0
      rw [hbef h0] at hck
      generalize L[i - 1]=b at hp hck
      have hL:=fun w' =>ER b.at_ e.at_ w'
      unfold lH at hck
      simp only at hck
      have hofV: ∀ (A:Option Nat) (cap:Nat),ofV A cap (ofP e.input)= .tuple #[.agg (zT (ofP e.input).1 (sl A (ofP e.input).1.tree.length cap)).toArray,.int .i64 (ofP e.input).2.1,.int .i64 (ofP e.input).2.2]:=fun _ _=>rfl
      simp only [hofV] at hO
      generalize ofP e.input=o at hO hck
      obtain ⟨⟨f1,f2,f3⟩,oa,oe⟩:=o
      simp only [zT] at hO
      simp only at hck
      generalize e.at_.valid=vd at hV hck
      generalize aW b.at_ e.at_=ls at hL hck
      repeat' (first|(apply aj (d:=14);exact rfl;apply ai;exact rfl;exact rfl;exact hlt)|(apply aj (d:=15);exact rfl;apply aA;exact rfl;exact he;exact rfl)|(apply gG (d:=29);(iterate 3 exact rfl);apply iC (o:=ol+(i - 1)*3) (off:=0) hp (ys:=aQ b.at_);(iterate 3 exact rfl))|(apply ah;exact rfl;exact rfl;(intro w hm;exact hV w))|(apply (jc (id:=6) [11] []);kernel_rfl;kernel_rfl;kernel_rfl)|(apply gG;(iterate 3 exact rfl);apply ai (j:=i - 1);exact rfl;exact rfl;omega)|(apply ah (f:=46);exact rfl;exact rfl;(intro w' hm;exact hL w'))|(apply av (f:=99);exact rfl;exact rfl;(intro w' hm;exact hO w' _ hm);rintro _ _ ⟨A,cap,rfl,rfl⟩)|refine sT ?_|refine sS ?_|refine sW ?_|refine sN ?_|refine sWN ?_|refine sM fun _=> ?_|(refine sC ?_ ?_<;>intro hb<;>try omega)|(refine sCW ?_ ?_<;>intro hb<;>try omega)|fail)
      all_goals clear hofV
      all_goals first
        |(refine gU eIO rfl rfl rfl (.nil _) ?_;rw [hck];simp_all [az];done)
        | (refine ⟨i + 1, ⟨hlt, ?_⟩, by omega, ?_, ?_, .nil _⟩
           · rw [hck];simp_all [az]
           · exact sB
           · exact sB)
    · have h00:i=0:=by omega
      rw [hbef0 h00] at hck
      unfold lH at hck
      simp only at hck
      have hofV: ∀ (A:Option Nat) (cap:Nat),ofV A cap (ofP e.input)= .tuple #[.agg (zT (ofP e.input).1 (sl A (ofP e.input).1.tree.length cap)).toArray,.int .i64 (ofP e.input).2.1,.int .i64 (ofP e.input).2.2]:=fun _ _=>rfl
      simp only [hofV] at hO
      generalize ofP e.input=o at hO hck
      obtain ⟨⟨f1,f2,f3⟩,oa,oe⟩:=o
      simp only [zT] at hO
      simp only at hck
      generalize e.at_.valid=vd at hV hck
      repeat' (first|(apply aj (d:=14);exact rfl;apply ai;exact rfl;exact rfl;exact hlt)|(apply aj (d:=15);exact rfl;apply aA;exact rfl;exact he;exact rfl)|(apply ah;exact rfl;exact rfl;(intro w hm;exact hV w))|(apply (jc (id:=6) [11] []);kernel_rfl;kernel_rfl;kernel_rfl)|(apply av (f:=99);exact rfl;exact rfl;(intro w' hm;exact hO w' _ hm);rintro _ _ ⟨A,cap,rfl,rfl⟩)|refine sT ?_|refine sS ?_|refine sW ?_|refine sN ?_|refine sWN ?_|refine sM fun _=> ?_|(refine sC ?_ ?_<;>intro hb<;>try omega)|(refine sCW ?_ ?_<;>intro hb<;>try omega)|fail)
      all_goals clear hofV
      all_goals first
        |(refine gU eIO rfl rfl rfl (.nil _) ?_;rw [hck];simp_all [az];done)
        | (refine ⟨i + 1, ⟨hlt, ?_⟩, by omega, ?_, ?_, .nil _⟩
           · rw [hck];simp_all [az]
           · exact sB
           · exact sB)
  · have e2:i=L.length:=by omega
    subst e2
    rw [I3,eI] at hck
    repeat' (first|refine sT ?_|refine sS ?_|refine sM fun _=> ?_|(refine sC ?_ ?_<;>intro hb<;>try omega)|fail)
    all_goals (refine gU eIO rfl rfl rfl (.nil _) ?_;rw [hck])
def uS:Gr→List Et→Option Gr × Int
 |G,[]=>(some G,0)
 |G,e::r=>if (iJ G e.at_ e.input).2≠0 then (none,(iJ G e.at_ e.input).2) else uS (iJ G e.at_ e.input).1 r
def nD (L:List Et):Option Gr × Int:=if (dm L).2≠0 then (none,(dm L).2) else uS [] L
def HQ (r:Option Gr × Int) (v:Value) (H:List Blk):Prop:=match r with
 |(none,e)=>v= .tuple #[.pointer none,.int .i64 e]∧H= []
 |(some G,_)=> ∃ gg gm E clock R,v= .tuple #[.pointer (some ⟨gg,0,none⟩),.int .i64 0]∧H=gB gg gm (E.map En.m) clock++R∧GOk R E clock G
set_option maxHeartbeats 2000000 in
theorem Gl (L:List Et) (tv:Value) (w:World) (ht:Reads w tv L.length (L.flatMap cW)) (hlen:L.length≤1000000) (hW:Words w):
  aF Tryz.prog 122 [tv] w (HQ (nD L)):=by
 have hC:=fun (w' :World) (H:List Blk) (hm:Mem w w' H)=>j8 L tv w' (ht.of_w0 hm) hlen (hW.next hm)
 obtain ⟨Al,cl,rfl,hl1,hl2,hl3⟩:=ht
 refine aq Tryz.func122 rfl Tryz.ntmps122 rfl ?_
 unfold nD
 generalize dm L=c at hC
 obtain ⟨ci,ce⟩:=c
 dsimp only at hC ⊢
 by_cases hce:ce≠0
 ·
  rw [if_pos hce]
  repeat' (first|(apply ah (f:=59);exact rfl;exact rfl;(intro w' hm;exact hC w' _ hm))|refine sT ?_|refine sS ?_|refine sM fun _=> ?_|(refine sC ?_ ?_<;>intro hb<;>try omega)|fail)
  all_goals exact gU eIO rfl rfl rfl (.nil _) ⟨rfl,rfl⟩
 rw [if_neg hce]
 have hce0:ce=0:=by omega
 subst hce0
 repeat' (first|(apply ah (f:=59);exact rfl;exact rfl;(intro w' hm;exact hC w' _ hm))|(apply kq (enc:=kI);exact rfl;intro gm)|refine sT ?_|refine sS ?_|refine sM fun _=> ?_|(refine sC ?_ ?_<;>intro hb<;>try omega)|fail)
 rename_i gg
 refine ax [6,21,22] rfl (fun x:Nat × List En × Nat × Gr × List Blk=> [(23,.int .i64 (x.1:Int))]) (fun x=>gB gg gm (x.2.1.map En.m) x.2.2.1++x.2.2.2.2) (fun x=>x.1≤L.length∧GOk x.2.2.2.2 x.2.1 x.2.2.1 x.2.2.2.1∧uS [] L=uS x.2.2.2.1 (L.drop x.1)) (fun x=>L.length - x.1) (0,[],0,[],[]) ⟨by simp,Eg [],rfl⟩ sB (by unfold gB;exact mS) ?_
 rintro ⟨i,E,clock,G,R⟩ ⟨hi,hG,hnew⟩
 dsimp only at hi hG hnew ⊢
 by_cases hlt:i<L.length
 ·
  obtain ⟨gl,ol,rfl,hrl⟩:=hl3 (by omega)
  have he:=hrl.elem iw i hlt
  rw [H6 hlt,uS] at hnew
  generalize L[i]=e at he hnew
  have hS:=Gj gg gm clock E G e.at_ e.input R w hG hW
  generalize iJ G e.at_ e.input=sg at hS hnew
  obtain ⟨G',se⟩:=sg
  dsimp only at hS hnew
  repeat' (first|(apply aj (d:=25);exact rfl;apply ai;exact rfl;exact rfl;exact hlt)|(apply aj (d:=26);exact rfl;apply aA;exact rfl;exact he;exact rfl)|(apply aB (f:=153);exact rfl;exact rfl;exact FnIn.msub hS (by unfold gB;exact mS);rintro _ _ ⟨rfl,E',clock',R',rfl,hsub,hG'⟩)|refine sT ?_|refine sS ?_|refine sN ?_|refine sM fun _=> ?_|(refine sC ?_ ?_<;>intro hb<;>try omega)|fail)
  ·
   rw [hnew,if_pos (by assumption)]
   exact gU eIO rfl rfl rfl (.nil _) ⟨rfl,rfl⟩
  ·
   rw [if_neg (by assumption)] at hnew
   refine ⟨(i+1,E',clock',G',R'),⟨hlt,hG',hnew⟩,(by dsimp only;omega),sB,sB,?_⟩
   unfold gB
   exact mS
 ·
  have e2:i=L.length:=by omega
  subst e2
  rw [I3,uS] at hnew
  rw [hnew]
  repeat' (first|refine sT ?_|refine sS ?_|refine sM fun _=> ?_|(refine sC ?_ ?_<;>intro hb<;>try omega)|fail)
  all_goals exact gU eIO rfl rfl rfl (MSub.refl _) ⟨gg,gm,E,clock,R,rfl,rfl,hG⟩
theorem pU (L:List Et): ∀ u∈L.flatMap cW,u.oneCell' =true:=by
 intro u hu
 obtain ⟨x,_,hx⟩:=I6.1 hu
 simp only [cW,Ie,JM,or_false] at hx
 rcases hx with rfl|rfl|rfl<;>rfl
theorem p8 (L:List Et) (tv:Value) (w:World) (ht:Reads w tv L.length (L.flatMap cW)) (hlen:L.length≤1000000):
  aF Tryz.prog 35 [tv] w fun v H=> ∃ A cap,v=sl A L.length cap∧H= [.own A 52 3 L.length cap (L.flatMap cW)]:=by
 refine aq Tryz.func35 rfl Tryz.ntmps35 rfl ?_
 have hl:(L.flatMap cW).length=L.length*3:=aC iw L
 refine aw 52 3 ?_
 repeat' (first|(apply bp (n' :=0) (c:=0) (A:=none) (m:=L.length);(iterate 3 exact rfl);exact pK;(intro w hm;exact ht.of_w0 hm);exact hl;exact pU L;omega;(simp only [maxLen];omega);intro A' cap' hA)|refine sT ?_|refine sM fun _=> ?_|(refine sC ?_ ?_<;>intro hb<;>try omega)|fail)
 exact bI (.inl rfl) Tryz.results35 rfl (H' := [.own A' 52 3 (0+L.length) cap' ([]++L.flatMap cW)]) mS ⟨A',cap',by rw [H8],by rw [H8];rfl⟩
def yx (G:Gr) (L:List Et):Gr:=L.foldl (fun G e=>(iJ G e.at_ e.input).1) G
theorem xj {b:Option Rf} {e:Et} (h:lH b e=0):e.at_.valid=true∧(ofP e.input).2.2=0:=by
 have hg: ∀ (c1 c2 c3:Prop) [Decidable c1] [Decidable c2] [Decidable c3] (z:Int),(if c1 then (3:Int) else if c2 then 12 else if c3 then 2 else z)=0→ ¬ c1∧z=0:=by
  intro c1 c2 c3 _ _ _ z hz
  by_cases h1:c1
  ·
   rw [if_pos h1] at hz;cases hz
  ·
   rw [if_neg h1] at hz
   by_cases h2:c2
   ·
    rw [if_pos h2] at hz;cases hz
   ·
    rw [if_neg h2] at hz
    by_cases h3:c3
    ·
     rw [if_pos h3] at hz;cases hz
    ·
     rw [if_neg h3] at hz;exact ⟨h1,hz⟩
 obtain ⟨h1,h2⟩:=hg _ _ _ _ h
 exact ⟨by simpa using h1,h2⟩
theorem lN: ∀ (L:List Et) (i:Nat) (b:Option Rf),(eI i b L).2=0→ ∀ e∈L,e.at_.valid=true∧(ofP e.input).2.2=0
 | [],_,_,_,e,he=>by cases he
 |x::r,i,b,h,e,he=>by
  rw [eI] at h
  split at h
  ·
   rename_i hf
   exact absurd h hf
  ·
   rename_i hf
   rcases Ie.1 he with rfl|he
   ·
    exact xj (Classical.not_not.1 hf)
   ·
    exact lN r _ _ h e he
theorem ym: ∀ (L:List Et) (G:Gr),(∀ e∈L,e.at_.valid=true∧(ofP e.input).2.2=0)→uS G L=(some (yx G L),0)
 | [],G,_=>rfl
 |e::r,G,h=>by
  have he:(iJ G e.at_ e.input).2=0:=by
   obtain ⟨h1,h2⟩:=h e H4
   unfold iJ
   rw [if_neg (by rw [h1];simp),if_neg (by rw [h2];simp)]
   split<;>rfl
  rw [uS,if_neg (by rw [he];simp),ym r _ fun f hf=>h f (H9 _ hf)]
  rfl
theorem yn (L:List Et):nD L=if (dm L).2≠0 then (none,(dm L).2) else (some (yx [] L),0):=by
 unfold nD
 split
 ·
  rfl
 ·
  rename_i h
  exact ym L [] (lN L 0 none (Classical.not_not.1 h))
theorem ve: ∀ (L:List Et) {G:Gr},GrOk G→GrOk (yx G L)
 | [],_,h=>h
 |e::r,_,h=>ve r (h.set e.at_ e.input)
theorem rm: ∀ (L:List Et) (G:Gr),(yx G L).length≤G.length+L.length
 | [],G=>Ih _
 |e::r,G=>by
  have h1:=rm r (iJ G e.at_ e.input).1
  have h2:=Bx G e.at_ e.input
  simp only [IA]
  exact IW h1 (by omega)
end Go.SL
namespace Go.SL
open Go Go.Proofs
attribute [local irreducible] W WL WQ WG WA WX WLI WR WT WC WE VOp RW thn blk bo scp aN bf bi aF FnIn FnP ceP
theorem BV (L:List Et):(∃ e,e≠0∧nD L=(none,e))∨ ∃ G,nD L=(some G,0)∧GrOk G∧G.length≤L.length:=by
 rw [yn]
 split
 ·
  rename_i h;exact .inl ⟨_,h,rfl⟩
 ·
  refine .inr ⟨_,rfl,ve L Cv,?_⟩
  have:=rm L []
  rw [JY] at this
  omega
end Go.SL
