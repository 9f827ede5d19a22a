/-
  Lemmas and walks, put together: Gq D8 D9 D10 D11.
-/
import Derived.Test.YtlnecnbfmnfigaaGreatDoorKu17
set_option linter.unusedSimpArgs false
set_option linter.unusedVariables false
set_option maxRecDepth 20000
namespace Go.SL
open Go
def En.abs (e:En):Rf × List Nd × List Us:=(e.at_,e.tree,e.uses)
structure GOk (R:List Blk) (E:List En) (clock:Nat) (G:Gr):Prop where
 ok:MapOk (E.map En.m) clock
 en: ∀ e∈E,EnOk R e
 rel: ∀ x,x∈E.map En.abs↔x∈G
 sort:SortG G
theorem F9 (E:List En):((E.map En.m).map fun e=>e.1)=E.map En.at_:=by rw [QQ];rfl
theorem Kt (E:List En):((E.map En.m).map fun e=>e.2.2)=E.map En.born:=by rw [QQ];rfl
theorem GOk.sub {R R' :List Blk} {E:List En} {clock:Nat} {G:Gr} (h:GOk R E clock G) (hs:MSub R R'):GOk R' E clock G:=⟨h.ok,fun e he=>(h.en e he).sub hs,h.rel,h.sort⟩
theorem GOk.nodup {R:List Blk} {E:List En} {clock:Nat} {G:Gr} (h:GOk R E clock G):(E.map En.at_).Nodup:=F9 E ▸ h.ok.keys
theorem GOk.perm {R:List Blk} {E:List En} {clock:Nat} {G:Gr} (h:GOk R E clock G):(E.map En.abs).Perm G:=by
 refine iX ?_ ?_ h.rel
 ·
  have:=h.nodup
  have e:E.map En.at_=(E.map En.abs).map fun x=>x.1:=by rw [QQ];rfl
  rw [e] at this
  exact jS _ this
 ·
  exact jS (fun e:Rf × List Nd × List Us=>e.1) h.sort.nodup
theorem GOk.len {R:List Blk} {E:List En} {clock:Nat} {G:Gr} (h:GOk R E clock G):E.length=G.length:=by
 have:=h.perm.length_eq
 simpa using this
theorem GOk.forms {R:List Blk} {E:List En} {clock:Nat} {G:Gr} (h:GOk R E clock G):f7 (E.map En.m)=aq G:=by
 have hp:(E.map En.at_).Perm (aq G):=by
  have:=h.perm.map fun x=>x.1
  rw [QQ] at this
  exact this
 rw [f7,F9,jt hp,lF (nW h.sort)]
theorem GOk.look {R:List Blk} {E:List En} {clock:Nat} {G:Gr} (h:GOk R E clock G) (a:Rf):(dR E a).map (fun e=>(e.tree,e.uses))=kI G a:=by
 cases hf:dR E a with
 |some e=>
  have h1:=Sg hf
  simp only [decide_eq_true_eq] at h1
  have h2:(a,e.tree,e.uses)∈G:=by
   rw [← h.rel]
   refine Py.2 ⟨e,QJ hf,?_⟩
   rw [← h1];rfl
  rw [(mO h.sort).2 h2];rfl
 |none=>
  rw [dR,QV] at hf
  symm
  rw [SI,vZ]
  intro x hx
  rw [← h.rel] at hx
  obtain ⟨e,he,rfl⟩:=Py.1 hx
  have:=hf e he
  simpa [En.abs] using this
theorem GOk.uses {R:List Blk} {E:List En} {clock:Nat} {G:Gr} (h:GOk R E clock G) (a:Rf):(aY E a).uses=aD G a:=by
 rw [aD,← h.look a,aY]
 cases dR E a<;>rfl
theorem GOk.tree {R:List Blk} {E:List En} {clock:Nat} {G:Gr} (h:GOk R E clock G) (a:Rf):(aY E a).tree=gy G a:=by
 rw [gy,← h.look a,aY]
 cases dR E a<;>rfl
theorem GOk.is {R:List Blk} {E:List En} {clock:Nat} {G:Gr} (h:GOk R E clock G) (a:Rf):(dR E a).isSome=isG G a:=by
 rw [isG,← h.look a]
 cases dR E a<;>rfl
theorem pW {κ:Type} [DecidableEq κ] {k:κ}: ∀ {es:List (κ × Value × Nat)} {i:Nat},cA k es i=none→ ∀ e∈es,e.1≠k
 | [],_,_,e,he=>by cases he
 |x::r,i,h,e,he=>by
  rw [cA] at h
  split at h
  ·
   cases h
  ·
   rename_i hk
   rcases PF.1 he with rfl|he
   ·
    exact fun e=>hk e.symm
   ·
    exact pW h e he
theorem GOk.del {R:List Blk} {E:List En} {clock:Nat} {G:Gr} (h:GOk R E clock G) (a:Rf): ∃ E',E'.map En.m=EU a (E.map En.m)∧GOk R E' clock (xy G a):=by
 unfold EU
 cases hk:cA a (E.map En.m) 0 with
 |none=>
  have hno:=pW hk
  refine ⟨E,rfl,h.ok,h.en,fun x=> ?_,rJ h.sort a⟩
  rw [vV,← h.rel]
  refine ⟨fun hx=>⟨hx,?_⟩,fun hx=>hx.1⟩
  obtain ⟨e,he,rfl⟩:=Py.1 hx
  exact hno e.m (Py.2 ⟨e,he,rfl⟩)
 |some x=>
  obtain ⟨j,v⟩:=x
  obtain ⟨b,_,hj⟩:=l6 hk
  rw [Qz,Pw] at hj
  obtain ⟨e0,he0,hm0⟩:=P7.1 hj
  have ha:e0.at_=a:=congrArg Prod.fst hm0
  have hsub:(E.eraseIdx j).Sublist E:=List.eraseIdx_sublist E j
  have hin: ∀ e,e∈E.eraseIdx j↔e∈E∧e.at_≠a:=by
   intro e
   rw [List.mem_eraseIdx_iff_getElem?]
   obtain ⟨hjl,hj0⟩:=Pk.1 he0
   constructor
   ·
    rintro ⟨i,hne,hi⟩
    refine ⟨Qs hi,fun hea=>hne ?_⟩
    obtain ⟨hil,hi0⟩:=Pk.1 hi
    have hn:=h.nodup
    have:=List.getElem_inj (xs:=E.map En.at_) (h₀:=by simpa using hil) (h₁:=by simpa using hjl) hn
    refine this.1 ?_
    simp only [List.getElem_map,hi0,hj0,hea,ha]
   ·
    rintro ⟨he,hea⟩
    obtain ⟨i,hil,hi⟩:=P1 he
    refine ⟨i,?_,by rw [O5 hil,hi]⟩
    rintro rfl
    rw [hj0] at hi
    exact hea (hi ▸ ha)
  refine ⟨E.eraseIdx j,mN _ _ _,?_,fun e he=>h.en e (hsub.subset he),fun x=> ?_,rJ h.sort a⟩
  ·
   have hs2:((E.eraseIdx j).map En.m).Sublist (E.map En.m):=hsub.map _
   exact ⟨(hs2.map _).nodup h.ok.born,fun e he=>h.ok.old e (hs2.subset he),(hs2.map _).nodup h.ok.keys⟩
  ·
   rw [vV,← h.rel]
   constructor
   ·
    intro hx
    obtain ⟨e,he,rfl⟩:=Py.1 hx
    obtain ⟨h1,h2⟩:=(hin e).1 he
    exact ⟨Py.2 ⟨e,h1,rfl⟩,h2⟩
   ·
    rintro ⟨hx,hne⟩
    obtain ⟨e,he,rfl⟩:=Py.1 hx
    exact Py.2 ⟨e,(hin e).2 ⟨he,hne⟩,rfl⟩
theorem GOk.put {R:List Blk} {E:List En} {clock:Nat} {G:Gr} (h:GOk R E clock G) (n:En) (hn:EnOk R n): ∃ E',E'.map En.m=(kT n.at_ (.agg #[n.tv,n.uv]) clock (E.map En.m)).1∧GOk R E' (kT n.at_ (.agg #[n.tv,n.uv]) clock (E.map En.m)).2 (tO G n.at_ (n.tree,n.uses)):=by
 unfold kT
 cases hk:cA n.at_ (E.map En.m) 0 with
 |none=>
  have hno:=pW hk
  have hno' :n.at_∉E.map En.at_:=fun hx=>by
   obtain ⟨e,he,hea⟩:=Py.1 hx
   exact hno e.m (Py.2 ⟨e,he,rfl⟩) hea
  refine ⟨E++ [{ n with born:=clock }],by simp [En.m,En.tv,En.uv],⟨?_,?_,?_⟩,fun e he=> ?_,fun x=> ?_,rI h.sort _ _⟩
  ·
   have hb:=h.ok.born
   rw [Kt] at hb ⊢
   rw [P4,RM]
   refine ⟨hb,by simp,fun x hx y hy=> ?_⟩
   simp only [PB,P3,Pv] at hy
   subst hy
   obtain ⟨e,he,rfl⟩:=Py.1 hx
   have:=h.ok.old e.m (Py.2 ⟨e,he,rfl⟩)
   simp only [En.m] at this
   omega
  ·
   intro e he
   rw [P4] at he
   rcases Pz.1 he with he|he
   ·
    have:=h.ok.old e he;simp only;omega
   ·
    simp only [PB,P3,Pv] at he
    subst he
    simp [En.m]
  ·
   rw [F9,P4,RM]
   refine ⟨h.nodup,by simp,fun x hx y hy e=> ?_⟩
   simp only [PB,P3,Pv] at hy
   subst hy;subst e
   exact hno' hx
  ·
   rcases Pz.1 he with he|he
   ·
    exact h.en e he
   ·
    rw [Pv.1 he]
    exact ⟨hn.tree,hn.uses,hn.tl,hn.ul⟩
  ·
   rw [vU,← h.rel,P4,Pz]
   constructor
   ·
    rintro (hx|hx)
    ·
     right
     obtain ⟨e,he,rfl⟩:=Py.1 hx
     exact ⟨hx,fun hea=>hno' (Py.2 ⟨e,he,hea⟩)⟩
    ·
     left
     simpa [En.abs] using hx
   ·
    rintro (rfl|⟨hx,_⟩)
    ·
     right;simp [En.abs]
    ·
     left;exact hx
 |some x=>
  obtain ⟨j,v⟩:=x
  obtain ⟨b,_,hj⟩:=l6 hk
  rw [Qz,Pw] at hj
  obtain ⟨e0,he0,hm0⟩:=P7.1 hj
  have ha:e0.at_=n.at_:=congrArg Prod.fst hm0
  obtain ⟨hjl,hj0⟩:=Pk.1 he0
  have hget: ∀ i,(E.modify j fun e=>{ n with born:=e.born })[i]? =if j=i then (E[i]?).map (fun e=>{ n with born:=e.born }) else E[i]? :=fun i=>by
   rw [Sx]
   split<;>rename_i hji
   ·
    rfl
   ·
    cases E[i]? <;>rfl
  have hin: ∀ e,e∈(E.modify j fun e=>{ n with born:=e.born })↔e={ n with born:=e0.born } ∨(e∈E∧e.at_≠n.at_):=by
   intro e
   constructor
   ·
    intro he
    obtain ⟨i,hi⟩:=Sl.1 he
    rw [hget] at hi
    split at hi
    ·
     rename_i hji
     subst hji
     rw [he0] at hi
     left
     exact (Option.some.inj hi).symm
    ·
     rename_i hji
     right
     refine ⟨Qs hi,fun hea=>hji ?_⟩
     obtain ⟨hil,hi0⟩:=Pk.1 hi
     have:=List.getElem_inj (xs:=E.map En.at_) (h₀:=by simpa using hjl) (h₁:=by simpa using hil) h.nodup
     refine this.1 ?_
     simp only [List.getElem_map,hi0,hj0,hea,ha]
   ·
    rintro (rfl|⟨he,hea⟩)
    ·
     refine Sl.2 ⟨j,?_⟩
     rw [hget,if_pos rfl,he0];rfl
    ·
     obtain ⟨i,hil,hi⟩:=P1 he
     refine Sl.2 ⟨i,?_⟩
     rw [hget,if_neg,O5 hil,hi]
     rintro rfl
     rw [hj0] at hi
     exact hea (hi ▸ ha)
  have hborn:(E.modify j fun e=>{ n with born:=e.born }).map En.born=E.map En.born:=by
   apply RE
   intro i
   rw [Pw,Pw,hget]
   split
   ·
    cases E[i]? <;>rfl
   ·
    rfl
  have hkeys:(E.modify j fun e=>{ n with born:=e.born }).map En.at_=E.map En.at_:=by
   apply RE
   intro i
   rw [Pw,Pw,hget]
   split
   ·
    rename_i hji
    subst hji
    rw [he0]
    simp [ha]
   ·
    rfl
  refine ⟨E.modify j fun e=>{ n with born:=e.born },?_,⟨?_,?_,?_⟩,fun e he=> ?_,fun x=> ?_,rI h.sort _ _⟩
  ·
   apply RE
   intro i
   simp only [Sx,Pw]
   cases E[i]? with
   |none=>simp
   |some e=>by_cases hji:j=i<;>simp [hji,En.m,En.tv,En.uv]
  ·
   rw [Kt,hborn,← Kt];exact h.ok.born
  ·
   intro e he
   obtain ⟨e',he',rfl⟩:=Py.1 he
   have:e'.born∈E.map En.born:=by rw [← hborn];exact Py.2 ⟨e',he',rfl⟩
   obtain ⟨e2,he2,hb2⟩:=Py.1 this
   have:=h.ok.old e2.m (Py.2 ⟨e2,he2,rfl⟩)
   simp only [En.m] at this ⊢
   omega
  ·
   rw [F9,hkeys];exact h.nodup
  ·
   rcases (hin e).1 he with rfl|⟨he,_⟩
   ·
    exact ⟨hn.tree,hn.uses,hn.tl,hn.ul⟩
   ·
    exact h.en e he
  ·
   rw [vU,← h.rel]
   constructor
   ·
    intro hx
    obtain ⟨e,he,rfl⟩:=Py.1 hx
    rcases (hin e).1 he with rfl|⟨he,hea⟩
    ·
     left;rfl
    ·
     right;exact ⟨Py.2 ⟨e,he,rfl⟩,hea⟩
   ·
    rintro (rfl|⟨hx,hne⟩)
    ·
     exact Py.2 ⟨_,(hin _).2 (.inl rfl),rfl⟩
    ·
     obtain ⟨e,he,rfl⟩:=Py.1 hx
     exact Py.2 ⟨e,(hin e).2 (.inr ⟨he,hne⟩),rfl⟩
theorem ig {o:Option Out} {k:Nat→PS→Option Out} {x:Int × Int} (h:fU o k=some (.error x)) (h1: ∀ y,o=some (.error y)→y.2≠0) (h2: ∀ n p y,k n p=some (.error y)→y.2≠0):x.2≠0:=by
 obtain ⟨r1,hr,⟨e,rfl,he⟩|⟨n,p,rfl,hk⟩⟩:=bP h
 ·
  cases he;exact h1 _ hr
 ·
  exact h2 _ _ _ hk
theorem tz {fin:Int} {name:Tk} {fn:Int} {n:Nat} {p:PS} {x:Int × Int} (h:dl fin name fn n p=some (.error x)):x.2≠0:=by
 unfold dl at h
 dsimp only at h
 split at h
 ·
  cases h;simp
 ·
  split at h
  ·
   cases h;simp
  ·
   split at h
   ·
    cases h;simp
   ·
    cases h
theorem Jz (fin:Int): ∀ (f:Nat) (j:Job) (p:PS) (x:Int × Int),bD fin f j p=some (.error x)→x.2≠0:=by
 intro f
 induction f with
 |zero=>intro j p x h;cases j<;>cases h
 |succ f ih=>
  intro j p x h
  cases j with
  |level k=>
   rw [bD] at h
   split at h
   ·
    exact ih _ _ _ h
   ·
    exact ig h (ih _ _) fun _ _=>ih _ _
  |loop k=>
   rw [bD] at h
   try dsimp only at h
   split at h
   ·
    exact ig h (ih _ _) fun _ _=>ih _ _
   ·
    cases h
  |sign=>
   rw [bD] at h
   try dsimp only at h
   split at h
   ·
    exact ig h (ih _ _) fun _ _ _ h=>by cases h
   ·
    refine ig h (ih _ _) fun _ _ y h=> ?_
    split at h
    ·
     exact ig h (ih _ _) fun _ _ _ h=>by cases h
    ·
     cases h
  |pct=>
   rw [bD] at h
   exact ig h (ih _ _) fun _ _=>ih _ _
  |pctl=>
   rw [bD] at h
   try dsimp only at h
   split at h
   ·
    exact ih _ _ _ h
   ·
    cases h
  |prim=>
   rw [bD] at h
   try dsimp only at h
   split at h
   ·
    cases h
   ·
    split at h
    ·
     cases h
    ·
     split at h
     ·
      refine ig h (ih _ _) fun _ _ y h=> ?_
      split at h
      ·
       cases h;simp
      ·
       cases h
     ·
      split at h
      ·
       split at h
       ·
        cases h;simp
       ·
        split at h
        ·
         cases h;simp
        ·
         split at h
         ·
          exact tz h
         ·
          exact ig h (ih _ _) fun _ _ _ h=>tz h
      ·
       cases h;simp
  |args fn n=>
   rw [bD] at h
   try dsimp only at h
   have hgo: ∀ (p:PS) (y:Int × Int),(if (hdT fin p.l).kind=11 then bD fin f (.args fn (n+1)) p.skip else some (.ok (n+1,p)))=some (.error y)→y.2≠0:=by
    intro p y h
    split at h
    ·
     exact ih _ _ _ h
    ·
     cases h
   split at h
   ·
    exact ig h (ih _ _) fun _ _ _ h=>hgo _ _ h
   ·
    split at h
    ·
     cases h;simp
    ·
     exact hgo _ _ h
theorem ph {x:List Tk × Int × Int} {fin:Int}:(bT x fin).1.length≤x.1.length∧((bT x fin).2.2=0→dB (bT x fin).1=0):=by
 have hends:=rM fin (20*x.1.length+40) (.level 1) ⟨x.1,[]⟩ ⟨by omega,by omega⟩ (by simp only [Job.c];omega)
 have hgrew:=fun n p hp=>jX fin (20*x.1.length+40) (.level 1) ⟨x.1,[]⟩ n p hp
 unfold bT
 split
 ·
  rename_i h;exact ⟨Pb _,fun h' =>absurd h' h⟩
 ·
  split
  ·
   rename_i h
   obtain ⟨r,hr,_⟩:=hends
   rw [h] at hr;cases hr
  ·
   rename_i a e h
   exact ⟨Pb _,fun h' =>absurd h' (Jz _ _ _ _ _ h)⟩
  ·
   rename_i n p hp
   split
   ·
    exact ⟨Pb _,fun h' =>by cases h'⟩
   ·
    split
    ·
     rename_i hc;exact ⟨Pb _,fun h' =>absurd h' hc⟩
    ·
     rename_i hc
     obtain ⟨⟨m,h1,h2,h3⟩,_,_⟩:=hgrew _ _ hp
     simp only [Qh,Pn] at h3
     exact ⟨PK h3 h2,fun _=>by simpa using hc⟩
theorem vM {b:ByteArray} (h:(ofP b).2.2=0) (hf:(ofP b).1.formula=true):dB (ofP b).1.tree=0:=by
 unfold ofP at h hf ⊢
 split at hf
 ·
  cases hf
 ·
  rename_i h1
  rw [if_neg h1] at h ⊢
  split at hf
  ·
   cases hf
  ·
   rename_i h2
   rw [h2] at h
   simp only at h ⊢
   split at hf
   ·
    cases hf
   ·
    rename_i h3
    rw [if_neg h3] at h ⊢
    have ht:=ph (x:=bw dA (ap (kP b eqB).1)) (fin:=((kP b eqB).1.size:Int))
    generalize bT (bw dA (ap (kP b eqB).1)) ((kP b eqB).1.size:Int)=r at h hf ht ⊢
    obtain ⟨t,at_,e⟩:=r
    simp only at h hf ht ⊢
    split at hf
    ·
     cases hf
    ·
     rename_i h4
     rw [if_neg h4]
     exact ht.2 (by simpa using h4)
theorem zI (b:ByteArray):(ofP b).1.tree.length≤256:=by
 unfold ofP
 split
 ·
  exact Pb _
 ·
  split
  ·
   exact Pb _
  ·
   split
   ·
    exact Pb _
   ·
    have ht:=(ph (x:=bw dA (ap (kP b eqB).1)) (fin:=((kP b eqB).1.size:Int))).1
    have hl:=nD dA (ap (kP b eqB).1)
    generalize bT (bw dA (ap (kP b eqB).1)) ((kP b eqB).1.size:Int)=r at ht ⊢
    obtain ⟨t,at_,e⟩:=r
    simp only at ht ⊢
    split
    ·
     exact Pb _
    ·
     exact PK ht hl
end Go.SL
namespace Go.SL
open Go Go.Proofs
attribute [local irreducible] W WL WQ WG WA WX WLI WR WT WC VOp RW thn blk bZ scp bA bV ck FnAt FnIn FnP ceP
set_option maxHeartbeats 2000000 in
theorem Gk (gg gm clock:Nat) (E:List En) (G:Gr) (a:Rf) (b:ByteArray) (R F:List Blk) (w0:World) (hG:GOk R E clock G) (hW:Words w0):
  FnIn Tryz.prog 47 [.pointer (some ⟨gg,0,none⟩),aO a,.string b] w0 (gB gg gm (E.map En.m) clock++(R++F)) fun v H=>v= .int .i64 (fX G a b).2∧ ∃ E' clock' R',H=gB gg gm (E'.map En.m) clock' ++(R' ++F)∧MSub R R' ∧GOk R' E' clock' (fX G a b).1:=by
 refine bM Tryz.func47 rfl Tryz.ntmps47 rfl ?_
 have hV:=fun (w' :World) (H' :List Blk) (hm:Mem w0 w' H')=>(lQ a.col a.row w' :aF Tryz.prog 93 [aO a] w' (.bool (valid a.col a.row)))
 have hO:=fun (w' :World) (H' :List Blk) (hm:Mem w0 w' H')=>MR b w' (hW.next hm)
 unfold gB
 unfold fX
 by_cases hv:a.valid=false
 ·
  rw [if_pos hv]
  have hv' :valid a.col a.row=false:=hv
  rw [hv'] at hV
  repeat' (first|(apply aa (f:=93);exact rfl;exact rfl;(intro w' hm;exact hV w' _ hm))|refine sT ?_|refine sS ?_|refine sW ?_|refine sM fun _=> ?_|(refine sC ?_ ?_<;>intro hb<;>try omega)|(refine sCW ?_ ?_<;>intro hb<;>try omega)|fail)
  all_goals exact bK eIO rfl rfl mS ⟨rfl,E,clock,R,rfl,MSub.refl _,hG⟩
 rw [if_neg hv]
 have hv' :valid a.col a.row=true:=by
  have:a.valid=valid a.col a.row:=rfl
  rw [this] at hv
  simpa using hv
 rw [hv'] at hV
 have hlen:=zI b
 have htree:=vM (b:=b)
 generalize ofP b=r at hO hlen htree
 obtain ⟨⟨fm,v,t⟩,at_,e⟩:=r
 simp only [ofV,z7] at hO
 dsimp only at hlen htree ⊢
 by_cases he:e≠0
 ·
  rw [if_pos he]
  repeat' (first|(apply aa (f:=93);exact rfl;exact rfl;(intro w' hm;exact hV w' _ hm))|(apply aS (f:=110);exact rfl;exact rfl;(intro w' hm;exact hO w' _ hm);rintro _ _ ⟨A,cap,rfl,rfl⟩)|refine sT ?_|refine sS ?_|refine sW ?_|refine sM fun _=> ?_|(refine sC ?_ ?_<;>intro hb<;>try omega)|(refine sCW ?_ ?_<;>intro hb<;>try omega)|fail)
  all_goals exact bK eIO rfl rfl mS ⟨rfl,E,clock,R,rfl,MSub.refl _,hG⟩
 rw [if_neg he]
 have he0:e=0:=by omega
 subst he0
 cases fm with
 |false=>
  obtain ⟨E',hE',hG'⟩:=hG.del a
  rw [if_pos rfl]
  repeat' (first|(apply aa (f:=93);exact rfl;exact rfl;(intro w' hm;exact hV w' _ hm))|(apply aS (f:=110);exact rfl;exact rfl;(intro w' hm;exact hO w' _ hm);rintro _ _ ⟨A,cap,rfl,rfl⟩)|refine sT ?_|refine sS ?_|refine sW ?_|refine sM fun _=> ?_|(refine sC ?_ ?_<;>intro hb<;>try omega)|(refine sCW ?_ ?_<;>intro hb<;>try omega)|fail)
  rename_i g4 g7
  refine fj (id:=9) [5] [] [.box gg 165 [.map (some gm)],.box g4 24 (aw a)] (by kernel_rfl) (by kernel_rfl) (by kernel_rfl) mS ?_
  repeat' (first|(apply ep;(iterate 3 exact rfl);apply dr;exact rfl)|(apply GD (enc:=aO) (t:=163);(iterate 3 exact rfl);exact pK;rw [← hE'])|refine sT ?_|refine sS ?_|refine sW ?_|refine sM fun _=> ?_|(refine sC ?_ ?_<;>intro hb<;>try omega)|(refine sCW ?_ ?_<;>intro hb<;>try omega)|fail)
  all_goals exact bK eIO rfl rfl mS ⟨rfl,E',clock,R,rfl,MSub.refl _,hG'⟩
 |true=>
  have hck:=htree rfl rfl
  rw [if_neg (by simp)]
  have hU:=fun (w' :World) (A:Option Nat) (cap:Nat) (H' :List Blk) (hi:In (.own A 157 11 t.length cap (t.flatMap bg)) H') (hm:Mem w0 w' H')=>Ms t (sl A t.length cap) w' (Reads.of_own hm hi) (by omega)
  have hue:iH t=(dY t,0):=by unfold iH;rw [hck];rfl
  have hul:(dY t).length≤256:=PK (fL t 0) hlen
  rw [hue] at hU
  repeat' (first|(apply aa (f:=93);exact rfl;exact rfl;(intro w' hm;exact hV w' _ hm))|(apply aS (f:=110);exact rfl;exact rfl;(intro w' hm;exact hO w' _ hm);rintro _ _ ⟨A,cap,rfl,rfl⟩)|(apply aS (f:=111);exact rfl;exact rfl;(intro w' hm;exact hU w' _ _ _ pK hm);rintro _ _ ⟨A2,cap2,rfl,rfl⟩)|refine sT ?_|refine sS ?_|refine sW ?_|refine sM fun _=> ?_|(refine sC ?_ ?_<;>intro hb<;>try omega)|(refine sCW ?_ ?_<;>intro hb<;>try omega)|fail)
  rename_i g4 g7
  have hGR:=hG.sub (R' := .own A 157 11 t.length cap (t.flatMap bg):: .own A2 89 6 (dY t).length cap2 ((dY t).flatMap bQ)::R) mS
  obtain ⟨E',hE',hG'⟩:=hGR.put ⟨a,A.map fun g=>⟨g,0,none⟩,cap,A2.map fun g=>⟨g,0,none⟩,cap2,t,dY t,0⟩ ⟨rdIn.own (A:=A) pK,rdIn.own (A:=A2) pK,by dsimp only;omega,by dsimp only;omega⟩
  generalize hck2:(kT a (.agg #[sl A t.length cap,sl A2 (dY t).length cap2]) clock (E.map En.m))=kp
  have hE2:E'.map En.m=kp.1:=hck2 ▸ hE'
  have hG2:GOk _ E' kp.2 (tO G a (t,dY t)):=hck2 ▸ hG'
  refine fj (id:=14) [9] [] [.box gg 165 [.map (some gm)],.box g4 24 (aw a),.box g7 204 [.bool true,.int .u8 v.kind,.int .i64 v.num,.string v.text,sl A t.length cap]] (by kernel_rfl) (by kernel_rfl) (by kernel_rfl) mS ?_
  repeat' (first|(apply ep;(iterate 3 exact rfl);apply dr;exact rfl)|(apply lM (enc:=aO);(iterate 3 exact rfl);exact pK;rw [hck2,← hE2])|refine sT ?_|refine sS ?_|refine sW ?_|refine sM fun _=> ?_|(refine sC ?_ ?_<;>intro hb<;>try omega)|(refine sCW ?_ ?_<;>intro hb<;>try omega)|fail)
  all_goals exact bK eIO rfl rfl (H' :=gB gg gm (E'.map En.m) kp.2++((.own A 157 11 t.length cap (t.flatMap bg):: .own A2 89 6 (dY t).length cap2 ((dY t).flatMap bQ)::R)++F)) (by unfold gB;simp only [O8,O3,O4];exact mS) ⟨rfl,E',kp.2,_,rfl,mS,hG2⟩
theorem NN (gg gm clock:Nat) (E:List En) (G:Gr) (a:Rf) (b:ByteArray) (R:List Blk) (w0:World) (hG:GOk R E clock G) (hW:Words w0):
  FnIn Tryz.prog 47 [.pointer (some ⟨gg,0,none⟩),aO a,.string b] w0 (gB gg gm (E.map En.m) clock++R) fun v H=>v= .int .i64 (fX G a b).2∧ ∃ E' clock' R',H=gB gg gm (E'.map En.m) clock' ++R' ∧MSub R R' ∧GOk R' E' clock' (fX G a b).1:=by
 have h:=Gk gg gm clock E G a b R [] w0 hG hW
 simp only [Pa] at h
 exact h
end Go.SL
namespace Go.SL
open Go Go.Proofs
theorem MSub.appL (R H1:List Blk):MSub R (R++H1):=⟨H1,.refl _⟩
theorem MSub.appR (R H1:List Blk):MSub R (H1++R):=⟨H1,PI⟩
theorem MSub.appC (X Hc H1:List Blk):MSub (H1++(Hc++X)) (X++(Hc++H1)):=⟨[],by
 rw [Pa]
 refine List.Perm.trans ?_ (List.Perm.append_left H1 (PI (l₁:=X) (l₂:=Hc)))
 refine List.Perm.trans (List.Perm.append_left X (PI (l₁:=Hc) (l₂:=H1))) ?_
 rw [← Pg,← Pg]
 exact (PI (l₁:=X) (l₂:=H1)).append_right Hc⟩
theorem MSub.appD (X Hc H2:List Blk):MSub (X++(Hc++H2)) (H2++(Hc++X)):=MSub.appC H2 Hc X
theorem MSub.appS (Hc H1:List Blk):MSub (H1++Hc) (Hc++H1):=⟨[],by rw [Pa];exact PI⟩
theorem MSub.appE (X Hc H2:List Blk):MSub (H2++Hc) (H2++(Hc++X)):=⟨X,by rw [Pg]⟩
theorem MSub.tailX (X Hc H2:List Blk) (b:Blk):MSub (H2++(Hc++X)) (H2++(Hc++b::X)):=⟨[b],by
 rw [Pg,Pg]
 refine List.Perm.append_left H2 (List.Perm.append_left Hc ?_)
 exact (PI (l₁:= [b]) (l₂:=X))⟩
section
variable {P:Program} {n:Fr} {w0:World} {Q:cd} {s:aB} {H:List Blk} {ty:TypeId}
theorem OQ {c:Code} {A:Option Addr} {m cap:Nat} {xs:List Value} {R:List Blk} (h:rdIn R (.slice A m cap) m xs) (hs:MSub R H) (hm:0<m)
  (k: ∀ g o,A=some ⟨g,o,none⟩→(∀ w,Mem w0 w R→Ro w g o xs)→W P n w0 c Q s H):W P n w0 c Q s H:=fun a w hst hmem=>by
 have key: ∀ w',Mem w0 w' R→ ∃ g o,A=some ⟨g,o,none⟩∧Ro w' g o xs:=fun w' hm' =>by
  obtain ⟨A',cap',he,_,_,h3⟩:=h _ w' hm'
  injection he with h4 h5 h6
  subst h4
  exact h3 hm
 obtain ⟨g,o,rfl,_⟩:=key w (hs.use hmem)
 refine k g o rfl (fun w' hm' => ?_) a w hst hmem
 obtain ⟨g',o',he,hr⟩:=key w' hm'
 injection he with he
 injection he with h1 h2
 subst h1;subst h2
 exact hr
theorem DH {x:Operand} {t g o off m:Nat} {xs ys:List Value} {R:List Blk} [Agg P t m] (hx:ev s x=some (.pointer (some ⟨g,o+off,none⟩))) (hc: ∀ w,Mem w0 w R→Ro w g o xs) (hs:MSub R H) (hv:(xs.drop off).take m=ys) (hl:ys.length=m):
  VOp P w0 s H (.load t x) ty (.agg ys.toArray):=fun ρ w _ _ _ _ hρ hm=>by
 subst hv
 have hcc:Cells w g (o+off) ((xs.drop off).take m):=((hc w (hs.use hm)).cells.drop (k:=off)).take (k:=m)
 simp [execOp,hρ x _ hx,Instr.loadAt,Instr.sureAddr,fP (P:=P) hl hcc]
end
attribute [local irreducible] W WL WQ WG WA WX WLI WR WT WC VOp RW thn blk bZ scp bA bV ck FnAt FnIn FnP ceP
def jf (E:List En) (a:Rf):List (Rf × Us):=(aY E a).uses.map fun u=>(a,u)
def wT (E:List En):List (Rf × Us):=(f7 (E.map En.m)).flatMap (jf E)
def MO (x:Rf × Us):List Value:= [aO x.1,.agg (aH x.2.rect).toArray]
set_option maxHeartbeats 4000000 in
theorem Mp (gg gm clock:Nat) (E:List En) (hok:MapOk (E.map En.m) clock) (hlen:E.length≤1000) (R:List Blk) (w0:World) (hE: ∀ e∈E,EnOk R e) (g:Nat):
  Mw Tryz.prog 159 [.pointer (some ⟨g,0,none⟩)] w0 (.box g 26 [.pointer (some ⟨gg,0,none⟩)]::(gB gg gm (E.map En.m) clock++R)) (wT E) MO:=by
 intro l I J H0 hy h0
 refine FnIn.msub (H' :=(.box g 26 [.pointer (some ⟨gg,0,none⟩)]::(gB gg gm (E.map En.m) clock++R))++H0) ?_ (MSub.appC H0 [] _)
 refine bM Tryz.func159 rfl Tryz.ntmps159 rfl ?_
 have hF:=fun R=>oo gg gm clock (E.map En.m) hok (by simp;omega) R w0
 have hfl:(f7 (E.map En.m)).length≤1000:=by rw [mV];simpa using hlen
 have hl2:(E.map En.m).length=(f7 (E.map En.m)).length:=(mV _).symm
 unfold wT at hy ⊢
 rw [hl2] at hF
 generalize f7 (E.map En.m)=F at hF hfl hy ⊢
 have hall: ∀ us,us=F.flatMap (jf E)→F.flatMap (jf E)=us:=fun us h=>h.symm
 unfold gB at hy ⊢
 repeat' (first|(apply ak (f:=28);exact rfl;exact rfl;exact FnIn.msub (hF (.box g 26 [.pointer (some ⟨gg,0,none⟩)]::(R++H0))) (by unfold gB;exact mS);rintro _ _ ⟨A0,c0,rfl,rfl⟩)|refine sT ?_|refine sS ?_|refine sM fun _=> ?_|(refine sC ?_ ?_<;>intro hb<;>try omega)|fail)
 unfold gB
 refine ax [0,1,8,9] rfl (fun y:Nat × List (Rf × Us) × List Blk=> [(10,.int .i64 (y.1:Int))])
  (fun y=> .own A0 24 2 F.length c0 (F.flatMap aw)::((.box g 26 [.pointer (some ⟨gg,0,none⟩)]::([.box gg 165 [.map (some gm)],.obj gm (cw aO (E.map En.m) clock)]++R))++y.2.2))
  (fun y=>y.1≤F.length∧F.flatMap (jf E)=y.2.1++(F.drop y.1).flatMap (jf E)∧I y.2.1 y.2.2) (fun y=>F.length - y.1) (0,[],H0) ⟨by omega,rfl,h0⟩ ?_ ?_ ?_
 ·
  exact sB
 ·
  exact mS
 rintro ⟨i,pre,H1⟩ ⟨hi,hus,hI⟩
 dsimp only at hi hus hI ⊢
 by_cases hlt:i<F.length
 ·
  have hv0:((F.flatMap aw).drop (i*2)).take 2=aw F[i]:=cK dO F i hlt
  rw [Pf hlt,Pd] at hus
  have hl:=ER E F[i]
  have hoke:=oJ hE F[i]
  have hrow:jf E F[i]=(aY E F[i]).uses.map fun u=>(F[i],u):=rfl
  rw [hrow] at hus
  generalize F[i]=a at hv0 hl hoke hus
  generalize aY E a=e at hl hoke hus
  refine bW (A:=A0) pK (by omega) fun g0 hA0=> ?_
  subst hA0
  repeat' (first|(apply aj;exact rfl;apply ag;exact rfl;exact rfl;exact hlt)|(apply aj;exact rfl;apply az (ys:=aw a);exact rfl;exact pK;(rw [Pn];exact hv0);exact rfl)|(apply ep;(iterate 3 exact rfl);apply dr;exact rfl)|(apply kg (id:=3) [] [];kernel_rfl;kernel_rfl;kernel_rfl)|(apply ep;(iterate 3 exact rfl);apply cH (enc:=aO) (z:=rm);exact rfl;exact rfl;exact pK;exact hl)|(apply ep;(iterate 3 exact rfl);apply dz;exact rfl;exact rfl)|refine sT ?_|refine sS ?_|refine sW ?_|refine sN ?_|refine sWN ?_|refine sM fun _=> ?_|(refine sC ?_ ?_<;>intro hb<;>try omega)|(refine sCW ?_ ?_<;>intro hb<;>try omega)|fail)
  rename_i g4
  have hul:=hoke.ul
  refine ax [0,1,8,9,10,4,20,21] rfl (fun y:Nat × List (Rf × Us) × List Blk=> [(22,.int .i64 (y.1:Int))])
   (fun y=> .box g4 24 (aw a):: .own (some g0) 24 2 F.length c0 (F.flatMap aw)::((.box g 26 [.pointer (some ⟨gg,0,none⟩)]::([.box gg 165 [.map (some gm)],.obj gm (cw aO (E.map En.m) clock)]++R))++y.2.2))
   (fun y=>y.1≤e.uses.length∧F.flatMap (jf E)=y.2.1++((e.uses.drop y.1).map (fun u=>(a,u))++(F.drop (i+1)).flatMap (jf E))∧I y.2.1 y.2.2) (fun y=>e.uses.length - y.1) (0,pre,H1) ⟨by omega,hus,hI⟩ sB (by exact MSub.refl _) ?_
  rintro ⟨k,pre2,H2⟩ ⟨hk,hus2,hI2⟩
  dsimp only at hk hus2 hI2 ⊢
  by_cases hkt:k<e.uses.length
  ·
   rw [Pf hkt,PB,O3] at hus2
   have hv1:((e.uses.flatMap bQ).drop (k*6)).take 6=bQ e.uses[k]:=cK gG e.uses k hkt
   generalize e.uses[k]=u at hus2 hv1
   have hsubR: ∀ X:List Blk,MSub R (X++((.box g 26 [.pointer (some ⟨gg,0,none⟩)]::([.box gg 165 [.map (some gm)],.obj gm (cw aO (E.map En.m) clock)]++R))++H2)):=fun X=>by
    refine MSub.trans ?_ (MSub.appR _ X)
    refine MSub.drop .hd (MSub.drop .hd (MSub.drop .hd ?_))
    exact MSub.appL _ _
   refine OQ hoke.uses (hsubR [.box g4 24 (aw a),.own (some g0) 24 2 F.length c0 (F.flatMap aw)]) (by omega) fun gu ou hua hur=> ?_
   have huv:e.uv= .slice (some ⟨gu,ou,none⟩) e.uses.length e.uc:=by unfold En.uv;rw [hua]
   rw [huv]
   repeat' (first|(apply aj;exact rfl;apply ag;exact rfl;exact rfl;exact hkt)|(apply aj;exact rfl;apply DH (ys:=bQ u);exact rfl;exact hur;exact hsubR [.box g4 24 (aw a),.own (some g0) 24 2 F.length c0 (F.flatMap aw)];exact hv1;exact rfl)|(apply lO (id:=6))|(apply IM;exact rfl;exact rfl;apply nr (ys:=aH u.rect);exact rfl;exact pK;exact rfl;exact rfl)|refine sT ?_|refine sS ?_|refine sI ?_|refine sN ?_|refine sM fun _=> ?_|(refine sC ?_ ?_<;>intro hb<;>try omega)|fail)
   rename_i g6
   (with_reducible apply j8)
   ·
    exact rfl
   ·
    exact rfl
   ·
    exact rfl
   ·
    exact MSub.appC [.box g6 89 (bQ u),.box g4 24 (aw a),.own (some g0) 24 2 F.length c0 (F.flatMap aw)] (.box g 26 [.pointer (some ⟨gg,0,none⟩)]::([.box gg 165 [.map (some gm)],.obj gm (cw aO (E.map En.m) clock)]++R)) H2
   ·
    exact fun w hm=>hy pre2 (a,u) _ hus2 H2 _ hI2 w hm
   intro bb H3 hq
   cases bb
   ·
    repeat' (first|refine sT ?_|refine sS ?_|refine sI ?_|refine sM fun _=> ?_|(refine sC ?_ ?_<;>intro hb<;>try omega)|fail)
    exact jv eIO Tryz.results159 (MSub.appE [.box g6 89 (bQ u),.box g4 24 (aw a),.own (some g0) 24 2 F.length c0 (F.flatMap aw)] (.box g 26 [.pointer (some ⟨gg,0,none⟩)]::([.box gg 165 [.map (some gm)],.obj gm (cw aO (E.map En.m) clock)]++R)) H3) ⟨H3,.inr ⟨_,hq⟩,MSub.refl _⟩
   ·
    repeat' (first|refine sT ?_|refine sS ?_|refine sI ?_|refine sN ?_|refine sM fun _=> ?_|(refine sC ?_ ?_<;>intro hb<;>try omega)|fail)
    refine ⟨(k+1,_,H3),⟨hkt,hus2.trans (by rw [List.append_assoc];rfl),hq⟩,(by dsimp only;omega),?_,?_,?_⟩
    ·
     exact sB
    ·
     exact sB
    ·
     dsimp only
     exact MSub.trans (MSub.appD [.box g4 24 (aw a),.own (some g0) 24 2 F.length c0 (F.flatMap aw)] (.box g 26 [.pointer (some ⟨gg,0,none⟩)]::Blk.box gg 165 [.map (some gm)]::Blk.obj gm (cw aO (E.map En.m) clock)::R) H3) (MSub.tailX _ _ _ _)
  ·
   have e2:k=e.uses.length:=by omega
   subst e2
   rw [PT,P3,O4] at hus2
   repeat' (first|refine sT ?_|refine sS ?_|refine sN ?_|refine sM fun _=> ?_|(refine sC ?_ ?_<;>intro hb<;>try omega)|fail)
   refine ⟨(i+1,pre2,H2),⟨hlt,hus2,hI2⟩,(by dsimp only;omega),?_,?_,?_⟩
   ·
    exact sB
   ·
    exact sB
   ·
    exact MSub.drop .hd (MSub.refl _)
 ·
  have e2:i=F.length:=by omega
  subst e2
  rw [PT,Pq,Pa] at hus
  repeat' (first|refine sT ?_|refine sS ?_|refine sM fun _=> ?_|(refine sC ?_ ?_<;>intro hb<;>try omega)|fail)
  refine jv (.inr rfl) Tryz.results159 (MSub.drop .hd (MSub.appS (.box g 26 [.pointer (some ⟨gg,0,none⟩)]::([.box gg 165 [.map (some gm)],.obj gm (cw aO (E.map En.m) clock)]++R)) H1)) ⟨H1,.inl ?_,MSub.refl _⟩
  rw [hus];exact hI
end Go.SL
namespace Go.SL
open Go Go.Proofs
attribute [local irreducible] W WL WQ WG WA WX WLI WR WT WC VOp RW thn blk bZ scp bA bV ck FnAt FnIn FnP ceP yT ra u6
theorem dC {w0:World} {s:aB} {H:List Blk} {ty t' :TypeId} {x y:Operand} {a b:Rf} {c:Bool} (h:decide (a≠b)=c) (hx:ev s x=some (.agg (aw a).toArray)) (hy:ev s y=some (.agg (aw b).toArray)):VOp Tryz.prog w0 s H (.binOp .neq 24 x y t') ty (.bool c):=by
 have h1:=Ja (w0:=w0) (H:=H) (ty:=ty) (t' :=t') hx hy
 rw [oP] at h1
 rw [← h]
 have e:(!decide (a=b))=decide (a≠b):=by simp
 rwa [e] at h1
def bO (r:Rct) (out:List Rf) (x:Rf × Us):List Rf:=if ku r x.2 && (match out.getLast? with|none=>true|some b=>decide (b≠x.1)) then out++ [x.1] else out
def rE (E:List En) (r:Rct):List Rf:=if iL r≠0 then [] else (wT E).foldl (bO r) []
theorem mD (r:Rct) (out:List Rf) (x:Rf × Us):bO r out x=if ku r x.2 && (match out.getLast? with|none=>true|some b=>decide (b≠x.1)) then out++ [x.1] else out:=rfl
theorem xc (r:Rct) (out:List Rf) (x:Rf × Us):(bO r out x).length≤out.length+1:=by
 unfold bO
 generalize (ku r x.2 && (match out.getLast? with|none=>true|some b=>decide (b≠x.1)))=c
 cases c<;>simp
theorem oX (r:Rct): ∀ (us:List (Rf × Us)) (out:List Rf),(us.foldl (bO r) out).length≤out.length+us.length
 | [],_=>Ph _
 |x::us,out=>by
  have h1:=oX r us (bO r out x)
  have h2:=xc r out x
  simp only [Qc,Pe]
  omega
theorem Mq (x:Value) (g0:Nat) (w:World) (hx:x= .pointer (some ⟨g0,0,none⟩)):FnAt Tryz.prog 117 [x] w fun v H=> ∃ g,v= .func (.func 159) #[] #[.pointer (some ⟨g,0,none⟩)]∧H= [.box g 26 [x]]:=by
 refine aA Tryz.func117 rfl Tryz.ntmps117 rfl ?_
 subst hx
 repeat' (first|refine sT ?_|refine sM fun _=> ?_|(refine sC ?_ ?_<;>intro hb<;>try omega)|fail)
 rename_i g
 exact bK eIO rfl rfl (.refl _) ⟨g,rfl,rfl⟩
set_option maxHeartbeats 4000000 in
theorem KF (gg gm clock:Nat) (E:List En) (r:Rct) (hok:MapOk (E.map En.m) clock) (hlen:E.length≤1000) (hal:(wT E).length≤1000000) (R:List Blk) (w0:World) (hE: ∀ e∈E,EnOk R e):
    FnIn Tryz.prog 53 [.pointer (some ⟨gg,0,none⟩),.agg (aH r).toArray] w0 (gB gg gm (E.map En.m) clock++R) fun v H=> ∃ A cap,v=sl A (rE E r).length cap∧H= .own A 24 2 (rE E r).length cap ((rE E r).flatMap aw)::(gB gg gm (E.map En.m) clock++R):=by
  refine CO Tryz.func53 rfl Tryz.ntmps53 (by rfl) ?_
  have hrc:=fun w=>tY r w
  unfold rE
  refine p8 ?_
  refine aK 24 2 ?_
  by_cases hre:iL r≠0
  · rw [if_pos hre]
    repeat' (first|(apply aa;exact rfl;exact rfl;(intro w hm;exact hrc w))|refine sT ?_|refine sS ?_|refine sR ?_|refine sM fun _=> ?_|(refine sC ?_ ?_<;>intro hb<;>try omega)|(refine sCR ?_ ?_<;>intro hb<;>try omega)|fail)
    all_goals first
      |(exfalso;omega)
      | (refine Gf ?_
         exact bK eIO rfl rfl (H' := .own none 24 2 0 0 []::(gB gg gm (E.map En.m) clock++R)) mS ⟨none,0,rfl,rfl⟩)
  rw [if_neg hre]
  have hre0:iL r=0:=by omega
  rw [hre0] at hrc
  repeat' (first|(apply aa;exact rfl;exact rfl;(intro w hm;exact hrc w))|(apply aS (f:=117);exact rfl;exact rfl;(intro w' hm;exact Mq _ gg w' rfl);rintro _ _ ⟨g,rfl,rfl⟩)|refine sT ?_|refine sS ?_|refine sR ?_|refine sM fun _=> ?_|(refine sC ?_ ?_<;>intro hb<;>try omega)|(refine sCR ?_ ?_<;>intro hb<;>try omega)|fail)
  rename_i g3 g5
  refine ut (ps:= [19,20]) (us:=wT E) (encs:=MO) (Hc:= .box g 26 [.pointer (some ⟨gg,0,none⟩)]::(gB gg gm (E.map En.m) clock++R)) (HU0:= [.box g5 32 [.slice none 0 0],.own none 24 2 0 0 [],.box g3 53 (aH r)]) rfl (fun _=>rfl) rfl (Mp gg gm clock E hok hlen R w0 hE g)
    (fun pre HU=> ∃ A cap,(0<(pre.foldl (bO r) []).length→ ∃ ga,A=some ga)∧HU= [.box g5 32 [sl A (pre.foldl (bO r) []).length cap],.own A 24 2 (pre.foldl (bO r) []).length cap ((pre.foldl (bO r) []).flatMap aw),.box g3 53 (aH r)]) (fun _=>False) ?_ ⟨none,0,by simp,rfl⟩ ?_ ?_ ?_
  · exact mS
  · rintro l pre ⟨at_,u⟩ post hus _ ⟨A,cap,hA,rfl⟩ F F'
    have hlu:=congrArg List.length hus
    simp only [O2,Pe] at hlu
    have hol:=oX r pre []
    have hfold:(pre++ [(at_,u)]).foldl (bO r) []=bO r (pre.foldl (bO r) []) (at_,u):=by rw [RN];rfl
    generalize pre.foldl (bO r) []=out at hA hol hfold ⊢
    simp only [Qh,Pn] at hol
    change WR _ _ _ l _ _ ((20,Value.agg (aH u.rect).toArray)::(19,Value.agg (aw at_).toArray)::_) (.box g5 32 [sl A out.length cap]:: .own A 24 2 out.length cap (out.flatMap aw):: .box g3 53 (aH r)::F)
    repeat' (first|refine sT ?_|refine sR ?_|refine sM fun _=> ?_|(refine sC ?_ ?_<;>intro hb<;>try omega)|(refine sCR ?_ ?_<;>intro hb<;>try omega)|fail)
    rename_i g6 g7
    refine wR ⟨[.box g7 53 (aH u.rect),.box g6 24 (aw at_),.box g5 32 [sl A out.length cap],.own A 24 2 out.length cap (out.flatMap aw),.box g3 53 (aH r)],MSub.refl _,?_⟩
    change WR _ _ _ l _ _ _ (.box g7 53 (aH u.rect):: .box g6 24 (aw at_):: .box g5 32 [sl A out.length cap]:: .own A 24 2 out.length cap (out.flatMap aw):: .box g3 53 (aH r)::F')
    have hmeet:=fun w=>MA u.rect r w
    have hto:ku r u=(nU u.rect r).2:=rfl
    generalize nU u.rect r=mt at hmeet hto
    obtain ⟨mr,mb⟩:=mt
    dsimp only at hto
    rw [mD] at hfold
    simp only [hto] at hfold
    cases mb with
    |false=>
      simp only [Qa,PH,if_false] at hfold
      repeat' (first|(apply aa;exact rfl;exact rfl;(intro w hm;exact hmeet w))|(apply (uu (id:=8) [] [] _);kernel_rfl;kernel_rfl;kernel_rfl;exact rfl;exact MSub.refl _)|refine sT ?_|refine sS ?_|refine sR ?_|refine sW ?_|refine sM fun _=> ?_|(refine sC ?_ ?_<;>intro hb<;>try omega)|(refine sCR ?_ ?_<;>intro hb<;>try omega)|(refine sCW ?_ ?_<;>intro hb<;>try omega)|fail)
      all_goals
        refine oF [.box g5 32 [sl A out.length cap],.own A 24 2 out.length cap (out.flatMap aw),.box g3 53 (aH r)] ?_ ⟨A,cap,?_⟩
        · change MSub (_::_::_::F') _
          exact mS
        · rw [hfold];exact ⟨hA,rfl⟩
    |true=>
      simp only [PZ] at hfold
      have hsn: ∀ b:Rf,(out++ [b]).flatMap aw=out.flatMap aw++aw b:=fun b=>by simp
      cases hlast:out.getLast? with
      |none=>
        have hnil:out= []:=List.getLast?_eq_none_iff.1 hlast
        subst hnil
        simp only [hlast,if_true] at hfold
        repeat' (first|(apply aa;exact rfl;exact rfl;(intro w hm;exact hmeet w))|(apply (uu (id:=8) [] [] _);kernel_rfl;kernel_rfl;kernel_rfl;exact rfl;exact MSub.refl _)|(apply bU;(iterate 3 exact rfl);(repeat first|exact .hd|apply Sel.tl|apply In.tl);(intro w hm;exact hm.cells_own (by (repeat first|exact .hd|apply Sel.tl|apply In.tl)));exact rfl;(simp [Value.oneCell',sl]);omega;(simp only [maxLen];omega);(intro A' cap' hA'))|refine sT ?_|refine sS ?_|refine sR ?_|refine sW ?_|refine sN ?_|refine sWN ?_|refine sM fun _=> ?_|(refine sC ?_ ?_<;>intro hb<;>try omega)|(refine sCR ?_ ?_<;>intro hb<;>try omega)|(refine sCW ?_ ?_<;>intro hb<;>try omega)|fail)
        refine oF [.box g5 32 [sl A' (0+1) cap'],.own A' 24 2 (0+1) cap' ([]++aw at_),.box g3 53 (aH r)] ?_ ⟨A',cap',?_⟩
        · change MSub (_::_::_::F') _
          exact mS
        · rw [hfold];exact ⟨fun _=>hA' (by simp),rfl⟩
      |some b=>
        simp only [hlast] at hfold
        have hne:out≠ []:=fun h=>by rw [h] at hlast;cases hlast
        have hpos:0<out.length:=RG.2 hne
        obtain ⟨ga,rfl⟩:=hA hpos
        have hb1:((out.flatMap aw).drop ((out.length - 1)*2)).take 2=aw b:=by
          rw [cK dO out (out.length - 1) (by omega)]
          have:=hlast
          rw [QT,O5 (by omega)] at this
          rw [Option.some.inj this]
        generalize hdec:decide (b≠at_)=c at hfold
        repeat' (first|(apply aa;exact rfl;exact rfl;(intro w hm;exact hmeet w))|(apply (uu (id:=8) [] [] _);kernel_rfl;kernel_rfl;kernel_rfl;exact rfl;exact MSub.refl _)|(apply ep;(iterate 3 exact rfl);apply ag (j:=out.length - 1);exact rfl;exact rfl;omega)|(apply ep;(iterate 3 exact rfl);apply az (ys:=aw b);exact rfl;exact pK;(rw [Pn];exact hb1);exact rfl)|(apply ep;(iterate 3 exact rfl);apply dC hdec;exact rfl;exact rfl)|(apply bU;(iterate 3 exact rfl);(repeat first|exact .hd|apply Sel.tl|apply In.tl);(intro w hm;exact hm.cells_own (by (repeat first|exact .hd|apply Sel.tl|apply In.tl)));exact rfl;(simp [Value.oneCell',sl]);omega;(simp only [maxLen];omega);(intro A' cap' hA'))|refine sT ?_|refine sS ?_|refine sR ?_|refine sW ?_|refine sN ?_|refine sWN ?_|refine sM fun _=> ?_|(refine sC ?_ ?_<;>intro hb<;>try omega)|(refine sCR ?_ ?_<;>intro hb<;>try omega)|(refine sCW ?_ ?_<;>intro hb<;>try omega)|fail)
        · rw [hb] at hfold
          simp only [if_true] at hfold
          refine oF [.box g5 32 [sl A' (out.length+1) cap'],.own A' 24 2 (out.length+1) cap' (out.flatMap aw++aw at_),.box g3 53 (aH r)] ?_ ⟨A',cap',?_⟩
          · change MSub (_::_::_::F') _
            exact mS
          · rw [hfold,hsn,O2];exact ⟨fun _=>hA' (by simp),rfl⟩
        · rw [hb] at hfold
          simp only [PH,if_false] at hfold
          refine oF [.box g5 32 [sl (some ga) out.length cap],.own (some ga) 24 2 out.length cap (out.flatMap aw),.box g3 53 (aH r)] ?_ ⟨some ga,cap,?_⟩
          · change MSub (_::_::_::F') _
            exact mS
          · rw [hfold];exact ⟨fun _=>⟨ga,rfl⟩,rfl⟩
  · rintro D _ ⟨A,cap,_,rfl⟩
    change ck _ _ _ _ _ (jG D:: .box g5 32 [sl A ((wT E).foldl (bO r) []).length cap]:: .own A 24 2 ((wT E).foldl (bO r) []).length cap (((wT E).foldl (bO r) []).flatMap aw):: .box g3 53 (aH r)::_)
    repeat' (first|refine sT ?_|refine sR ?_|refine sM fun _=> ?_|(refine sC ?_ ?_<;>intro hb<;>try omega)|(refine sCR ?_ ?_<;>intro hb<;>try omega)|fail)
    refine wG .hd ?_
    exact bK eIO rfl rfl mS ⟨A,cap,rfl,rfl⟩
  · rintro D HU h
    exact h.elim
end Go.SL
namespace Go.SL
open Go Go.Proofs
attribute [local irreducible] W WL WQ WG WA WX WLI WR WT WC VOp RW thn blk bZ scp bA bV ck FnAt FnIn FnP ceP
theorem L5 (R:List Blk):GOk R [] 0 []:=⟨⟨RV,(fun _ h=>by cases h),RV⟩,(fun _ h=>by cases h),(fun _=>Iff.rfl),xU⟩
end Go.SL
