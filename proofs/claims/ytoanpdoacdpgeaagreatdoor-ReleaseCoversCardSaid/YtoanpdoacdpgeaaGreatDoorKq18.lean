/-
  Lemmas and walks, put together: Gq R6 D11 Q10 Lu Lp Pl2 G2 G2a D8 D12 K2 Nf E2 Q15 Fd.
-/
import Derived.Test.YtoanpdoacdpgeaaGreatDoorRows
import Derived.Test.YtoanpdoacdpgeaaGreatDoorKq15
set_option linter.unusedSimpArgs false
set_option linter.unusedVariables false
set_option maxRecDepth 20000
namespace Go.SL
open Go
def En.abs (e:En):Rf × List Nd × List Us:=(e.at_,e.tree,e.uses)
structure GOk (R:List Blk) (E:List En) (clock:Nat) (G:Gr):Prop where
 ok:MapOk (E.map En.m) clock
 en: ∀ e∈E,EnOk R e
 rel: ∀ x,x∈E.map En.abs↔x∈G
 sort:SortG G
theorem Gd (E:List En):((E.map En.m).map fun e=>e.1)=E.map En.at_:=by rw [Tq];rfl
theorem LO (E:List En):((E.map En.m).map fun e=>e.2.2)=E.map En.born:=by rw [Tq];rfl
theorem GOk.sub {R R' :List Blk} {E:List En} {clock:Nat} {G:Gr} (h:GOk R E clock G) (hs:MSub R R'):GOk R' E clock G:=⟨h.ok,fun e he=>(h.en e he).sub hs,h.rel,h.sort⟩
theorem GOk.nodup {R:List Blk} {E:List En} {clock:Nat} {G:Gr} (h:GOk R E clock G):(E.map En.at_).Nodup:=Gd E ▸ h.ok.keys
theorem GOk.perm {R:List Blk} {E:List En} {clock:Nat} {G:Gr} (h:GOk R E clock G):(E.map En.abs).Perm G:=by
 refine px ?_ ?_ h.rel
 ·
  have:=h.nodup
  have e:E.map En.at_=(E.map En.abs).map fun x=>x.1:=by rw [Tq];rfl
  rw [e] at this
  exact ju _ this
 ·
  exact ju (fun e:Rf × List Nd × List Us=>e.1) h.sort.nodup
theorem GOk.len {R:List Blk} {E:List En} {clock:Nat} {G:Gr} (h:GOk R E clock G):E.length=G.length:=by
 have:=h.perm.length_eq
 simpa using this
theorem GOk.forms {R:List Blk} {E:List En} {clock:Nat} {G:Gr} (h:GOk R E clock G):vW (E.map En.m)=bS G:=by
 have hp:(E.map En.at_).Perm (bS G):=by
  have:=h.perm.map fun x=>x.1
  rw [Tq] at this
  exact this
 rw [vW,Gd,su hp,wP (BU h.sort)]
theorem GOk.look {R:List Blk} {E:List En} {clock:Nat} {G:Gr} (h:GOk R E clock G) (a:Rf):(nH E a).map (fun e=>(e.tree,e.uses))=sK G a:=by
 cases hf:nH E a with
 |some e=>
  have h1:=Un hf
  simp only [decide_eq_true_eq] at h1
  have h2:(a,e.tree,e.uses)∈G:=by
   rw [← h.rel]
   refine RD.2 ⟨e,Ti hf,?_⟩
   rw [← h1];rfl
  rw [(vF h.sort).2 h2];rfl
 |none=>
  rw [nH,List.find?_eq_none] at hf
  symm
  rw [Ul,Ep]
  intro x hx
  rw [← h.rel] at hx
  obtain ⟨e,he,rfl⟩:=RD.1 hx
  have:=hf e he
  simpa [En.abs] using this
theorem GOk.uses {R:List Blk} {E:List En} {clock:Nat} {G:Gr} (h:GOk R E clock G) (a:Rf):(jT E a).uses=eK G a:=by
 rw [eK,← h.look a,jT]
 cases nH E a<;>rfl
theorem pz {κ:Type} [DecidableEq κ] {k:κ}: ∀ {es:List (κ × Value × Nat)} {i:Nat},cy k es i=none→ ∀ e∈es,e.1≠k
 | [],_,_,e,he=>by cases he
 |x::r,i,h,e,he=>by
  rw [cy] at h
  split at h
  ·
   cases h
  ·
   rename_i hk
   rcases Rd.1 he with rfl|he
   ·
    exact fun e=>hk e.symm
   ·
    exact pz h e he
theorem GOk.del {R:List Blk} {E:List En} {clock:Nat} {G:Gr} (h:GOk R E clock G) (a:Rf): ∃ E',E'.map En.m=Ew a (E.map En.m)∧GOk R E' clock (LB G a):=by
 unfold Ew
 cases hk:cy a (E.map En.m) 0 with
 |none=>
  have hno:=pz hk
  refine ⟨E,rfl,h.ok,h.en,fun x=> ?_,rm h.sort a⟩
  rw [vB,← h.rel]
  refine ⟨fun hx=>⟨hx,?_⟩,fun hx=>hx.1⟩
  obtain ⟨e,he,rfl⟩:=RD.1 hx
  exact hno e.m (RD.2 ⟨e,he,rfl⟩)
 |some x=>
  obtain ⟨j,v⟩:=x
  obtain ⟨b,_,hj⟩:=lz hk
  rw [SK,RM] at hj
  obtain ⟨e0,he0,hm0⟩:=Sa.1 hj
  have ha:e0.at_=a:=congrArg Prod.fst hm0
  have hsub:(E.eraseIdx j).Sublist E:=List.eraseIdx_sublist E j
  have hin: ∀ e,e∈E.eraseIdx j↔e∈E∧e.at_≠a:=by
   intro e
   rw [List.mem_eraseIdx_iff_getElem?]
   obtain ⟨hjl,hj0⟩:=Rn.1 he0
   constructor
   ·
    rintro ⟨i,hne,hi⟩
    refine ⟨SQ hi,fun hea=>hne ?_⟩
    obtain ⟨hil,hi0⟩:=Rn.1 hi
    have hn:=h.nodup
    have:=List.getElem_inj (xs:=E.map En.at_) (h₀:=by simpa using hil) (h₁:=by simpa using hjl) hn
    refine this.1 ?_
    simp only [List.getElem_map,hi0,hj0,hea,ha]
   ·
    rintro ⟨he,hea⟩
    obtain ⟨i,hil,hi⟩:=SJ he
    refine ⟨i,?_,by rw [QQ hil,hi]⟩
    rintro rfl
    rw [hj0] at hi
    exact hea (hi ▸ ha)
  refine ⟨E.eraseIdx j,lY _ _ _,?_,fun e he=>h.en e (hsub.subset he),fun x=> ?_,rm h.sort a⟩
  ·
   have hs2:((E.eraseIdx j).map En.m).Sublist (E.map En.m):=hsub.map _
   exact ⟨(hs2.map _).nodup h.ok.born,fun e he=>h.ok.old e (hs2.subset he),(hs2.map _).nodup h.ok.keys⟩
  ·
   rw [vB,← h.rel]
   constructor
   ·
    intro hx
    obtain ⟨e,he,rfl⟩:=RD.1 hx
    obtain ⟨h1,h2⟩:=(hin e).1 he
    exact ⟨RD.2 ⟨e,h1,rfl⟩,h2⟩
   ·
    rintro ⟨hx,hne⟩
    obtain ⟨e,he,rfl⟩:=RD.1 hx
    exact RD.2 ⟨e,(hin e).2 ⟨he,hne⟩,rfl⟩
theorem GOk.put {R:List Blk} {E:List En} {clock:Nat} {G:Gr} (h:GOk R E clock G) (n:En) (hn:EnOk R n): ∃ E',E'.map En.m=(nu n.at_ (.agg #[n.tv,n.uv]) clock (E.map En.m)).1∧GOk R E' (nu n.at_ (.agg #[n.tv,n.uv]) clock (E.map En.m)).2 (Ez G n.at_ (n.tree,n.uses)):=by
 unfold nu
 cases hk:cy n.at_ (E.map En.m) 0 with
 |none=>
  have hno:=pz hk
  have hno' :n.at_∉E.map En.at_:=fun hx=>by
   obtain ⟨e,he,hea⟩:=RD.1 hx
   exact hno e.m (RD.2 ⟨e,he,rfl⟩) hea
  refine ⟨E++ [{ n with born:=clock }],by simp [En.m,En.tv,En.uv],⟨?_,?_,?_⟩,fun e he=> ?_,fun x=> ?_,rl h.sort _ _⟩
  ·
   have hb:=h.ok.born
   rw [LO] at hb ⊢
   rw [RX,List.nodup_append]
   refine ⟨hb,by simp,fun x hx y hy=> ?_⟩
   simp only [Rz,Sl,RA] at hy
   subst hy
   obtain ⟨e,he,rfl⟩:=RD.1 hx
   have:=h.ok.old e.m (RD.2 ⟨e,he,rfl⟩)
   simp only [En.m] at this
   omega
  ·
   intro e he
   rw [RX] at he
   rcases Rs.1 he with he|he
   ·
    have:=h.ok.old e he;simp only;omega
   ·
    simp only [Rz,Sl,RA] at he
    subst he
    simp [En.m]
  ·
   rw [Gd,RX,List.nodup_append]
   refine ⟨h.nodup,by simp,fun x hx y hy e=> ?_⟩
   simp only [Rz,Sl,RA] at hy
   subst hy;subst e
   exact hno' hx
  ·
   rcases Rs.1 he with he|he
   ·
    exact h.en e he
   ·
    rw [RA.1 he]
    exact ⟨hn.tree,hn.uses,hn.tl,hn.ul⟩
  ·
   rw [vz,← h.rel,RX,Rs]
   constructor
   ·
    rintro (hx|hx)
    ·
     right
     obtain ⟨e,he,rfl⟩:=RD.1 hx
     exact ⟨hx,fun hea=>hno' (RD.2 ⟨e,he,hea⟩)⟩
    ·
     left
     simpa [En.abs] using hx
   ·
    rintro (rfl|⟨hx,_⟩)
    ·
     right;simp [En.abs]
    ·
     left;exact hx
 |some x=>
  obtain ⟨j,v⟩:=x
  obtain ⟨b,_,hj⟩:=lz hk
  rw [SK,RM] at hj
  obtain ⟨e0,he0,hm0⟩:=Sa.1 hj
  have ha:e0.at_=n.at_:=congrArg Prod.fst hm0
  obtain ⟨hjl,hj0⟩:=Rn.1 he0
  have hget: ∀ i,(E.modify j fun e=>{ n with born:=e.born })[i]? =if j=i then (E[i]?).map (fun e=>{ n with born:=e.born }) else E[i]? :=fun i=>by
   rw [TX]
   split<;>rename_i hji
   ·
    rfl
   ·
    cases E[i]? <;>rfl
  have hin: ∀ e,e∈(E.modify j fun e=>{ n with born:=e.born })↔e={ n with born:=e0.born } ∨(e∈E∧e.at_≠n.at_):=by
   intro e
   constructor
   ·
    intro he
    obtain ⟨i,hi⟩:=TS.1 he
    rw [hget] at hi
    split at hi
    ·
     rename_i hji
     subst hji
     rw [he0] at hi
     left
     exact (Option.some.inj hi).symm
    ·
     rename_i hji
     right
     refine ⟨SQ hi,fun hea=>hji ?_⟩
     obtain ⟨hil,hi0⟩:=Rn.1 hi
     have:=List.getElem_inj (xs:=E.map En.at_) (h₀:=by simpa using hjl) (h₁:=by simpa using hil) h.nodup
     refine this.1 ?_
     simp only [List.getElem_map,hi0,hj0,hea,ha]
   ·
    rintro (rfl|⟨he,hea⟩)
    ·
     refine TS.2 ⟨j,?_⟩
     rw [hget,if_pos rfl,he0];rfl
    ·
     obtain ⟨i,hil,hi⟩:=SJ he
     refine TS.2 ⟨i,?_⟩
     rw [hget,if_neg,QQ hil,hi]
     rintro rfl
     rw [hj0] at hi
     exact hea (hi ▸ ha)
  have hborn:(E.modify j fun e=>{ n with born:=e.born }).map En.born=E.map En.born:=by
   apply TQ
   intro i
   rw [RM,RM,hget]
   split
   ·
    cases E[i]? <;>rfl
   ·
    rfl
  have hkeys:(E.modify j fun e=>{ n with born:=e.born }).map En.at_=E.map En.at_:=by
   apply TQ
   intro i
   rw [RM,RM,hget]
   split
   ·
    rename_i hji
    subst hji
    rw [he0]
    simp [ha]
   ·
    rfl
  refine ⟨E.modify j fun e=>{ n with born:=e.born },?_,⟨?_,?_,?_⟩,fun e he=> ?_,fun x=> ?_,rl h.sort _ _⟩
  ·
   apply TQ
   intro i
   simp only [TX,RM]
   cases E[i]? with
   |none=>simp
   |some e=>by_cases hji:j=i<;>simp [hji,En.m,En.tv,En.uv]
  ·
   rw [LO,hborn,← LO];exact h.ok.born
  ·
   intro e he
   obtain ⟨e',he',rfl⟩:=RD.1 he
   have:e'.born∈E.map En.born:=by rw [← hborn];exact RD.2 ⟨e',he',rfl⟩
   obtain ⟨e2,he2,hb2⟩:=RD.1 this
   have:=h.ok.old e2.m (RD.2 ⟨e2,he2,rfl⟩)
   simp only [En.m] at this ⊢
   omega
  ·
   rw [Gd,hkeys];exact h.nodup
  ·
   rcases (hin e).1 he with rfl|⟨he,_⟩
   ·
    exact ⟨hn.tree,hn.uses,hn.tl,hn.ul⟩
   ·
    exact h.en e he
  ·
   rw [vz,← h.rel]
   constructor
   ·
    intro hx
    obtain ⟨e,he,rfl⟩:=RD.1 hx
    rcases (hin e).1 he with rfl|⟨he,hea⟩
    ·
     left;rfl
    ·
     right;exact ⟨RD.2 ⟨e,he,rfl⟩,hea⟩
   ·
    rintro (rfl|⟨hx,hne⟩)
    ·
     exact RD.2 ⟨_,(hin _).2 (.inl rfl),rfl⟩
    ·
     obtain ⟨e,he,rfl⟩:=RD.1 hx
     exact RD.2 ⟨e,(hin e).2 (.inr ⟨he,hne⟩),rfl⟩
theorem gJ {o:Option Out} {k:Nat→PS→Option Out} {x:Int × Int} (h:fD o k=some (.error x)) (h1: ∀ y,o=some (.error y)→y.2≠0) (h2: ∀ n p y,k n p=some (.error y)→y.2≠0):x.2≠0:=by
 obtain ⟨r1,hr,⟨e,rfl,he⟩|⟨n,p,rfl,hk⟩⟩:=bB h
 ·
  cases he;exact h1 _ hr
 ·
  exact h2 _ _ _ hk
theorem s9 {fin:Int} {name:Tk} {fn:Int} {n:Nat} {p:PS} {x:Int × Int} (h:cV fin name fn n p=some (.error x)):x.2≠0:=by
 unfold cV at h
 dsimp only at h
 split at h
 ·
  cases h;simp
 ·
  split at h
  ·
   cases h;simp
  ·
   split at h
   ·
    cases h;simp
   ·
    cases h
theorem J8 (fin:Int): ∀ (f:Nat) (j:Job) (p:PS) (x:Int × Int),bq fin f j p=some (.error x)→x.2≠0:=by
 intro f
 induction f with
 |zero=>intro j p x h;cases j<;>cases h
 |succ f ih=>
  intro j p x h
  cases j with
  |level k=>
   rw [bq] at h
   split at h
   ·
    exact ih _ _ _ h
   ·
    exact gJ h (ih _ _) fun _ _=>ih _ _
  |loop k=>
   rw [bq] at h
   try dsimp only at h
   split at h
   ·
    exact gJ h (ih _ _) fun _ _=>ih _ _
   ·
    cases h
  |sign=>
   rw [bq] at h
   try dsimp only at h
   split at h
   ·
    exact gJ h (ih _ _) fun _ _ _ h=>by cases h
   ·
    refine gJ h (ih _ _) fun _ _ y h=> ?_
    split at h
    ·
     exact gJ h (ih _ _) fun _ _ _ h=>by cases h
    ·
     cases h
  |pct=>
   rw [bq] at h
   exact gJ h (ih _ _) fun _ _=>ih _ _
  |pctl=>
   rw [bq] at h
   try dsimp only at h
   split at h
   ·
    exact ih _ _ _ h
   ·
    cases h
  |prim=>
   rw [bq] at h
   try dsimp only at h
   split at h
   ·
    cases h
   ·
    split at h
    ·
     cases h
    ·
     split at h
     ·
      refine gJ h (ih _ _) fun _ _ y h=> ?_
      split at h
      ·
       cases h;simp
      ·
       cases h
     ·
      split at h
      ·
       split at h
       ·
        cases h;simp
       ·
        split at h
        ·
         cases h;simp
        ·
         split at h
         ·
          exact s9 h
         ·
          exact gJ h (ih _ _) fun _ _ _ h=>s9 h
      ·
       cases h;simp
  |args fn n=>
   rw [bq] at h
   try dsimp only at h
   have hgo: ∀ (p:PS) (y:Int × Int),(if (hdT fin p.l).kind=11 then bq fin f (.args fn (n+1)) p.skip else some (.ok (n+1,p)))=some (.error y)→y.2≠0:=by
    intro p y h
    split at h
    ·
     exact ih _ _ _ h
    ·
     cases h
   split at h
   ·
    exact gJ h (ih _ _) fun _ _ _ h=>hgo _ _ h
   ·
    split at h
    ·
     cases h;simp
    ·
     exact hgo _ _ h
theorem oV {x:List Tk × Int × Int} {fin:Int}:(bT x fin).1.length≤x.1.length∧((bT x fin).2.2=0→eJ (bT x fin).1=0):=by
 have hends:=rr fin (20*x.1.length+40) (.level 1) ⟨x.1,[]⟩ ⟨by omega,by omega⟩ (by simp only [Job.c];omega)
 have hgrew:=fun n p hp=>jA fin (20*x.1.length+40) (.level 1) ⟨x.1,[]⟩ n p hp
 unfold bT
 split
 ·
  rename_i h;exact ⟨QX _,fun h' =>absurd h' h⟩
 ·
  split
  ·
   rename_i h
   obtain ⟨r,hr,_⟩:=hends
   rw [h] at hr;cases hr
  ·
   rename_i a e h
   exact ⟨QX _,fun h' =>absurd h' (J8 _ _ _ _ _ h)⟩
  ·
   rename_i n p hp
   split
   ·
    exact ⟨QX _,fun h' =>by cases h'⟩
   ·
    split
    ·
     rename_i hc;exact ⟨QX _,fun h' =>absurd h' hc⟩
    ·
     rename_i hc
     obtain ⟨⟨m,h1,h2,h3⟩,_,_⟩:=hgrew _ _ hp
     simp only [Tp,RB] at h3
     exact ⟨Rt h3 h2,fun _=>by simpa using hc⟩
theorem BG {b:ByteArray} (h:(ofP b).2.2=0) (hf:(ofP b).1.formula=true):eJ (ofP b).1.tree=0:=by
 unfold ofP at h hf ⊢
 split at hf
 ·
  cases hf
 ·
  rename_i h1
  rw [if_neg h1] at h ⊢
  split at hf
  ·
   cases hf
  ·
   rename_i h2
   rw [h2] at h
   simp only at h ⊢
   split at hf
   ·
    cases hf
   ·
    rename_i h3
    rw [if_neg h3] at h ⊢
    have ht:=oV (x:=bC db (ap (jV b eqB).1)) (fin:=((jV b eqB).1.size:Int))
    generalize bT (bC db (ap (jV b eqB).1)) ((jV b eqB).1.size:Int)=r at h hf ht ⊢
    obtain ⟨t,at_,e⟩:=r
    simp only at h hf ht ⊢
    split at hf
    ·
     cases hf
    ·
     rename_i h4
     rw [if_neg h4]
     exact ht.2 (by simpa using h4)
theorem F4 (b:ByteArray):(ofP b).1.tree.length≤256:=by
 unfold ofP
 split
 ·
  exact QX _
 ·
  split
  ·
   exact QX _
  ·
   split
   ·
    exact QX _
   ·
    have ht:=(oV (x:=bC db (ap (jV b eqB).1)) (fin:=((jV b eqB).1.size:Int))).1
    have hl:=mI db (ap (jV b eqB).1)
    generalize bT (bC db (ap (jV b eqB).1)) ((jV b eqB).1.size:Int)=r at ht ⊢
    obtain ⟨t,at_,e⟩:=r
    simp only at ht ⊢
    split
    ·
     exact QX _
    ·
     exact Rt ht hl
end Go.SL
namespace Go.SL
open Go Go.Proofs
attribute [local irreducible] W WL WQ WG WA WX WLI WR WT WC VOp RW thn blk bE scp aV bo bI aK FnIn FnP ceP
theorem iN (p:Int→Bool): ∀ l:List Int,l.takeWhile p=l.take (aC p l)∧l.dropWhile p=l.drop (aC p l)
 | []=>⟨rfl,rfl⟩
 |c::r=>by
  simp only [Tc,Ua,aC]
  split
  ·
   exact ⟨by rw [(iN p r).1];rfl,by rw [(iN p r).2];rfl⟩
  ·
   exact ⟨rfl,rfl⟩
theorem yY (a:ByteArray) (ha:a.size≤1000000) (h0:0<a.size) (hlet: ∀ c∈ap a,bV c=true) (w:World):ay Tryz.prog 360 [.string a] w (.tuple #[.int .i64 (if 1024<bp (ap a) 0 then 0 else bp (ap a) 0),.int .i64 (if 1024<bp (ap a) 0 then 3 else 0)]):=by
 refine aq Tryz.func360 rfl Tryz.ntmps360 rfl ?_
 have hl:=au a
 have hpos:=l4 (ap a) hlet (Ss 0) (.inl (fun h=>by rw [h] at hl;simp at hl;omega))
 obtain ⟨X,hX⟩: ∃ X,bp (ap a) 0=X:=⟨_,rfl⟩
 rw [hX] at hpos ⊢
 repeat' (first|refine sT ?_|refine sS ?_|refine sT2 ?_|refine sM fun _=> ?_|(refine sC ?_ ?_<;>intro hb<;>try omega)|fail)
 refine ax [0] rfl (fun x:Nat × Int=> [(5,.int .i64 (x.1:Int)),(4,.int .i64 x.2)]) (fun _=> []) (fun x=>x.1≤a.size∧0≤x.2∧x.2≤1025∧X=bp ((ap a).drop x.1) x.2) (fun x=>a.size - x.1) (0,0) ⟨by simp,by simp,by simp,hX.symm⟩ sB (.refl _) ?_
 rintro ⟨i,v⟩ ⟨hi,hv0,hv1,hx⟩
 dsimp only at hi hv0 hv1 hx ⊢
 by_cases hlt:i<a.size
 ·
  have hc:=hlet (bat a i) (SQ (fW hlt))
  have hok:=rU a i
  rw [bi hlt,bp] at hx
  have hN:=fun w=>pu (bat a i) hok.1 hok.2 w
  have hN1:BP (bat a i)=upC (bat a i) - 64:=by rw [BP,if_pos hc]
  have hN2:1≤upC (bat a i) - 64∧upC (bat a i) - 64≤26:=by
   have:=(gO _).1 hc
   unfold upC
   split<;>omega
  rw [hN1] at hN
  obtain ⟨d,hd⟩: ∃ d,upC (bat a i) - 64=d:=⟨_,rfl⟩
  rw [hd] at hx hN hN2
  repeat' (first|(apply ak (d:=14);exact rfl;apply aZ (j:=i);exact rfl;exact rfl;exact hlt)|(apply ak (d:=21);exact rfl;apply aZ (j:=i);exact rfl;exact rfl;exact hlt)|(apply aa (f:=359);exact rfl;exact rfl;(intro w' hm;exact hN w'))|(apply ak (d:=18);exact rfl;apply ux;exact rfl;exact rfl;exact ⟨by omega,by omega⟩)|(apply ak (d:=23);exact rfl;apply eV;exact rfl;exact rfl;exact ⟨by omega,by omega⟩)|refine sT ?_|refine sS ?_|refine sT2 ?_|refine sN ?_|refine sM fun _=> ?_|(refine sC ?_ ?_<;>intro hb<;>try omega)|fail)
  all_goals first
   |(exfalso;omega)
   |(rw [zg];exact ⟨(i+1,min (26*v+d) 1025),⟨hlt,by dsimp only;omega,by dsimp only;omega,hx⟩,by dsimp only;omega,sB,sB,.nil _⟩)
 ·
  have e:i=a.size:=by omega
  subst e
  rw [Ry (by omega),bp] at hx
  subst hx
  repeat' (first|refine sT ?_|refine sS ?_|refine sT2 ?_|refine sM fun _=> ?_|(refine sC ?_ ?_<;>intro hb<;>try omega)|fail)
  all_goals first
   |(exfalso;omega)
   |((refine rT2 ?_);first|(rw [if_pos (by omega),if_pos (by omega)])|(rw [if_neg (by omega),if_neg (by omega)]))
theorem I3 (l:List Int):cv l=if l.take (aC bV l)= []∨l.drop (aC bV l)= []∨(l.drop (aC bV l)).head? =some 48∨(l.drop (aC bV l)).all aF=false then (0,0,4)
  else if 1024<bp (l.take (aC bV l)) 0∨1024<mz (l.drop (aC bV l)) 0 then (0,0,3) else (bp (l.take (aC bV l)) 0,mz (l.drop (aC bV l)) 0,0):=by
 unfold cv
 rw [(iN bV l).1,(iN bV l).2]
theorem BO {c:Int}:(0<BP c)↔bV c=true:=by
 unfold BP upC
 cases h:bV c with
 |false=>simp
 |true=>
  have:=(gO c).1 h
  simp only [if_true,iff_true]
  by_cases h2:97≤c∧c≤122
  ·
   rw [if_pos h2];omega
  ·
   rw [if_neg h2];omega
set_option maxHeartbeats 1000000 in
theorem D0 (a:ByteArray) (ha:a.size≤100000) (w:World):ay Tryz.prog 344 [.string a] w (.tuple #[.agg (bh ⟨(cv (ap a)).1,(cv (ap a)).2.1⟩).toArray,.int .i64 (cv (ap a)).2.2]):=by
 refine aq Tryz.func344 rfl Tryz.ntmps344 rfl ?_
 have hl:=au a
 have hA:=I3 (ap a)
 obtain ⟨A,hAr⟩: ∃ A,aC bV (ap a)=A:=⟨_,rfl⟩
 have hAle:A≤a.size:=by have:=bY bV (ap a);omega
 rw [hAr] at hA
 repeat' (first|refine sT ?_|refine sS ?_|refine sT2 ?_|refine sM fun _=> ?_|(refine sC ?_ ?_<;>intro hb<;>try omega)|fail)
 rename_i g2
 refine ax [0,2] rfl (fun i:Nat=> [(4,.int .i64 (i:Int))]) (fun _=> [.box g2 50 [.int .i64 0,.int .i64 0]]) (fun i=>i≤a.size∧A=i+aC bV ((ap a).drop i)) (fun i=>a.size - i) 0 ⟨by omega,by rw [SA,RB,hAr]⟩ sB (.refl _) ?_
 rintro i ⟨hi,hx⟩
 by_cases hlt:i<a.size∧bV (bat a i)=true
 ·
  have hok:=rU a i
  have hN:=fun w=>pu (bat a i) hok.1 hok.2 w
  have hp:=BO.2 hlt.2
  rw [bi hlt.1,aC,if_pos hlt.2] at hx
  repeat' (first|(apply ak (d:=16);exact rfl;apply aZ (j:=i);exact rfl;exact rfl;omega)|(apply aa (f:=359);exact rfl;exact rfl;(intro w' hm;exact hN w'))|refine sT ?_|refine sS ?_|refine sT2 ?_|refine sN ?_|refine sM fun _=> ?_|(refine sC ?_ ?_<;>intro hb<;>try omega)|fail)
  all_goals first
   |(exfalso;omega)
   |exact ⟨i+1,⟨by omega,by omega⟩,by omega,sB,sB,.refl _⟩
 have hAi:A=i:=by
  rw [hx]
  by_cases h:i<a.size
  ·
   rw [bi h,aC,if_neg (fun h2=>hlt ⟨h,h2⟩)];rfl
  ·
   rw [qd (by omega)];rfl
 subst hAi
 have hexit:A<a.size→BP (bat a A)≤0:=fun h=>by
  have: ¬ 0<BP (bat a A):=fun h2=>hlt ⟨h,BO.1 h2⟩
  omega
 have hN:=fun w=>pu (bat a A) (rU a A).1 (rU a A).2 w
 have htk:(ap a).take A= []↔A=0:=by
  rw [List.take_eq_nil_iff]
  constructor
  ·
   rintro (h|h)
   ·
    exact h
   ·
    rw [h] at hl;simp at hl;omega
  ·
   exact .inl
 have hdr:(ap a).drop A= []↔A=a.size:=by rw [List.drop_eq_nil_iff];omega
 have hhd:A<a.size→(((ap a).drop A).head? =some 48↔bat a A=48):=fun h=>by rw [bi h];simp
 by_cases hbad:A=0∨A=a.size∨bat a A=48
 ·
  have hres:cv (ap a)=(0,0,4):=by
   rw [hA,if_pos]
   rcases hbad with h|h|h
   ·
    exact .inl (htk.2 h)
   ·
    exact .inr (.inl (hdr.2 h))
   ·
    by_cases hA2:A<a.size
    ·
     exact .inr (.inr (.inl ((hhd hA2).2 h)))
    ·
     exact .inr (.inl (hdr.2 (by omega)))
  rw [hres]
  repeat' (first|(apply ak (d:=16);exact rfl;apply aZ (j:=A);exact rfl;exact rfl;omega)|(apply ak (d:=33);exact rfl;apply aZ (j:=A);exact rfl;exact rfl;omega)|(apply aa (f:=359);exact rfl;exact rfl;(intro w' hm;exact hN w'))|refine sT ?_|refine sS ?_|refine sT2 ?_|refine sN ?_|refine sM fun _=> ?_|(refine sC ?_ ?_<;>intro hb<;>try omega)|fail)
  all_goals first
   |(exfalso;omega)
   |((refine eQ ?_);rfl)
 have hA1:0<A:=by omega
 have hA2:A<a.size:=by omega
 have hn48:bat a A≠48:=fun h=>hbad (.inr (.inr h))
 simp only [htk,hdr,hhd hA2,show ¬ A=0 by omega,show ¬ A=a.size by omega,hn48,false_or] at hA
 repeat' (first|(apply ak (d:=16);exact rfl;apply aZ (j:=A);exact rfl;exact rfl;omega)|(apply ak (d:=33);exact rfl;apply aZ (j:=A);exact rfl;exact rfl;omega)|(apply aa (f:=359);exact rfl;exact rfl;(intro w' hm;exact hN w'))|refine sT ?_|refine sS ?_|refine sT2 ?_|refine sN ?_|refine sM fun _=> ?_|(refine sC ?_ ?_<;>intro hb<;>try omega)|fail)
 all_goals try (exfalso;omega)
 refine ax [0,2,4] rfl (fun x:Nat × Int=> [(6,.int .i64 (x.1:Int)),(5,.int .i64 x.2)]) (fun _=> [.box g2 50 [.int .i64 0,.int .i64 0]]) (fun x=>A≤x.1∧x.1≤a.size∧0≤x.2∧x.2≤1025∧mz ((ap a).drop A) 0=mz ((ap a).drop x.1) x.2∧((ap a).drop A).all aF=((ap a).drop x.1).all aF) (fun x=>a.size - x.1) (A,0) ⟨by simp,by dsimp only;omega,by simp,by simp,rfl,rfl⟩ sB (.refl _) ?_
 rintro ⟨i,v⟩ ⟨hi0,hi,hv0,hv1,hr,hall⟩
 dsimp only at hi0 hi hv0 hv1 hr hall ⊢
 by_cases hlt2:i<a.size
 ·
  have hok:=rU a i
  rw [bi hlt2] at hr hall
  rw [mz] at hr
  rw [Tu] at hall
  have hd:=eD (bat a i)
  by_cases hdg:aF (bat a i)=true
  ·
   obtain ⟨hd1,hd2⟩:=hd.1 hdg
   rw [hdg,Sy] at hall
   obtain ⟨d,hdd⟩: ∃ d,bat a i - 48=d:=⟨_,rfl⟩
   rw [hdd] at hr
   repeat' (first|(apply ak (d:=46);exact rfl;apply aZ (j:=i);exact rfl;exact rfl;exact hlt2)|(apply ak (d:=51);exact rfl;apply aZ (j:=i);exact rfl;exact rfl;exact hlt2)|(apply ak (d:=59);exact rfl;apply aZ (j:=i);exact rfl;exact rfl;exact hlt2)|(apply ak (d:=56);exact rfl;apply ux;exact rfl;exact rfl;exact ⟨by omega,by omega⟩)|(apply ak (d:=60);exact rfl;apply dF (c:=d);exact rfl;exact rfl;(rw [hdd];exact wrap_u8 (by omega) (by omega)))|(apply ak (d:=61);exact rfl;apply bW (c:=d);exact rfl;exact I64.wrap ⟨by omega,by omega⟩)|(apply ak (d:=62);exact rfl;apply eV;exact rfl;exact rfl;exact ⟨by omega,by omega⟩)|refine sT ?_|refine sS ?_|refine sT2 ?_|refine sN ?_|refine sM fun _=> ?_|(refine sC ?_ ?_<;>intro hb<;>try omega)|fail)
   all_goals first
    |(exfalso;omega)
    |(rw [zg];exact ⟨(i+1,min (10*v+d) 1025),⟨by dsimp only;omega,hlt2,by dsimp only;omega,by dsimp only;omega,hr,hall⟩,by dsimp only;omega,sB,sB,.refl _⟩)
  ·
   have hdf:aF (bat a i)=false:=by simpa using hdg
   rw [hdf,Bool.false_and] at hall
   rw [if_pos hall] at hA
   have hno: ¬ (48≤bat a i∧bat a i≤57):=fun h=>hdg (hd.2 h)
   rw [hA]
   repeat' (first|(apply ak (d:=46);exact rfl;apply aZ (j:=i);exact rfl;exact rfl;exact hlt2)|(apply ak (d:=51);exact rfl;apply aZ (j:=i);exact rfl;exact rfl;exact hlt2)|(apply ak (d:=59);exact rfl;apply aZ (j:=i);exact rfl;exact rfl;exact hlt2)|(apply ak (d:=56);exact rfl;apply ux;exact rfl;exact rfl;exact ⟨by omega,by omega⟩)|refine sT ?_|refine sS ?_|refine sT2 ?_|refine sN ?_|refine sM fun _=> ?_|(refine sC ?_ ?_<;>intro hb<;>try omega)|fail)
   all_goals first
    |(exfalso;omega)
    |((refine eQ ?_);rfl)
 ·
  have e2:i=a.size:=by omega
  subst e2
  have e3:(ap a).drop a.size= []:=Ry (by omega)
  rw [e3,List.all_nil] at hall
  rw [e3,mz] at hr
  rw [hall,hr] at hA
  simp only [Bool.true_eq_false,if_false] at hA
  have hsub:ap (sub a 0 A)=(ap a).take A:=tU a A
  have hC:=fun w=>yY (sub a 0 A) (by rw [ck a hAle];omega) (by rw [ck a hAle];omega) (fun c hc=>by
   rw [hsub] at hc
   obtain ⟨k,hk⟩:=TS.1 hc
   have hkl:k<A:=by
    have:=(Rn.1 hk).1
    rw [Rq] at this;omega
   rw [SY hkl] at hk
   exact jM (ap a) k c (by omega) hk) w
  rw [hsub] at hC
  generalize bp ((ap a).take A) 0=L at hC hA
  rw [hA]
  repeat' (first|(apply ak (d:=67);exact rfl;apply Di (hi:=A);exact rfl;exact rfl;exact hAle)|(apply aa (f:=360);exact rfl;exact rfl;(intro w' hm;exact hC w'))|refine sT ?_|refine sS ?_|refine sT2 ?_|refine sN ?_|refine sM fun _=> ?_|(refine sC ?_ ?_<;>intro hb<;>try omega)|fail)
  all_goals
   (refine eQ ?_)
   by_cases h1:1024<L<;>by_cases h2:1024<v<;>first|(exfalso;simp only [h1,if_true,if_false] at*;omega)|(simp only [h1,h2,if_true,if_false,or_true,true_or,or_self];rfl)
theorem Nw (R:List Blk):GOk R [] 0 []:=⟨⟨List.nodup_nil,(fun _ h=>by cases h),List.nodup_nil⟩,(fun _ h=>by cases h),(fun _=>Iff.rfl),xq⟩
def QK (e:En):List Value:= [.int .i64 e.at_.col,.int .i64 e.at_.row,e.tv,e.uv]
def rgB (g:Nat) (A:Option Nat) (cap:Nat) (L:List En):List Blk:= [.box g 167 [sl A L.length cap],.own A 169 4 L.length cap (L.flatMap QK)]
structure RGOk (R:List Blk) (L:List En) (G:Gr):Prop where
 en: ∀ e∈L,EnOk R e
 rel:L.map En.abs=G
end Go.SL
namespace Go.SL
open Go
theorem kC: ∀ (L:List Nd) (i:Nat),∀ u∈bL L i,∃ n∈L,fw n=true∧u.rect=n.rect
 | [],_,u,h=>by cases h
 |n::r,i,u,h=>by
  rw [bL] at h
  cases hr:fw n with
  |false=>
   rw [hr,cond_false] at h
   obtain ⟨m,hm,h1,h2⟩:=kC r (i+1) u h
   exact ⟨m,Rc _ hm,h1,h2⟩
  |true=>
   rw [hr,cond_true] at h
   rcases Rd.1 h with rfl|h
   ·
    refine ⟨n,QT,hr,?_⟩
    unfold jJ
    cases r with
    |nil=>rfl
    |cons m q=>dsimp only;split<;>rfl
   ·
    obtain ⟨m,hm,h1,h2⟩:=kC r (i+1) u h
    exact ⟨m,Rc _ hm,h1,h2⟩
theorem GV {L:List Nd} (h:eJ L=0): ∀ u∈eL L,aD u.rect=true:=fun u hu=>by
 obtain ⟨n,hn,h1,h2⟩:=kC L 0 u hu
 rw [h2]
 exact Cj (qH h n hn) h1
structure EntOk (e:Rf × List Nd × List Us):Prop where
 at_:e.1.valid=true
 tree:eJ e.2.1=0
 uses:e.2.2=eL e.2.1
 len:e.2.1.length≤256
theorem EntOk.rect {e:Rf × List Nd × List Us} (h:EntOk e): ∀ u∈e.2.2,aD u.rect=true:=by
 rw [h.uses];exact GV h.tree
structure GrOk (G:Gr):Prop where
 sort:SortG G
 ent: ∀ e∈G,EntOk e
theorem K5:GrOk []:=⟨xq,fun _ h=>by cases h⟩
theorem GrOk.set {G:Gr} (h:GrOk G) (a:Rf) (b:ByteArray):GrOk (lN G a b).1:=by
 refine ⟨Hp h.sort a b,?_⟩
 unfold lN
 split
 ·
  exact h.ent
 ·
  rename_i hv
  split
  ·
   exact h.ent
  ·
   rename_i he
   split
   ·
    exact fun e he=>h.ent e (vB.1 he).1
   ·
    rename_i hf
    intro e hm
    rcases vz.1 hm with rfl|⟨hm,_⟩
    ·
     exact ⟨by simpa using hv,BG (by simpa using he) (by simpa using hf),rfl,F4 b⟩
    ·
     exact h.ent e hm
theorem JX (G:Gr) (a:Rf) (b:ByteArray):(lN G a b).1.length≤G.length+1:=by
 unfold lN
 split
 ·
  exact Tz _
 ·
  split
  ·
   exact Tz _
  ·
   split
   ·
    exact Rt (SX _ _) (Tz _)
   ·
    simp only [Ez,QP,Rp]
    have:(G.filter fun e=>aU e.1 a).length+(G.filter fun e=>aU a e.1).length≤G.length:=by
     induction G with
     |nil=>simp
     |cons e r ih=>
      simp only [TH,Rp]
      cases h1:aU e.1 a
      ·
       cases h2:aU a e.1<;>simp<;>omega
      ·
       rw [sU h1];simp;omega
    omega
theorem xa {c r:Int}:valid c r=true↔1≤c∧c≤1024∧1≤r∧r≤1024:=by
 simp only [valid,QZ,decide_eq_true_eq]
 omega
theorem H5 {G:Gr} {c:Rf}:c∈bS G↔ ∃ e∈G,e.1=c:=by simp [bS]
theorem GY {G:Gr} (h:GrOk G) (c:Rf):(eK G c).length≤256:=by
 unfold eK
 cases hl:sK G c with
 |none=>simp
 |some x=>
  have h1:=h.ent _ ((vF h.sort).1 hl)
  simp only [Se,Te]
  rw [h1.uses]
  exact Rt (jm _ _) h1.len
theorem uD {G:Gr} {x:Rf} {u:Us} (hu:u∈eK G x): ∃ e∈G,e.1=x∧e.2.2=eK G x:=by
 unfold eK sK at hu ⊢
 cases hf:G.find? (fun e=>decide (e.1=x)) with
 |none=>rw [hf] at hu;cases hu
 |some e=>
  have h1:=Un hf
  simp only [decide_eq_true_eq] at h1
  exact ⟨e,Ti hf,h1,rfl⟩
theorem rP {G:Gr} (h:GrOk G) {d:Rf} (hd:d∈bS G):d.valid=true:=by
 obtain ⟨e,he,rfl⟩:=H5.1 hd
 exact (h.ent e he).at_
end Go.SL
namespace Go.SL
open Go Go.Proofs
attribute [local irreducible] W WL WQ WG WA WX WLI WR WT WC VOp RW thn blk bE scp aV bo bI aK FnP ceP
structure Gp where
 gg:Nat
 gm:Nat
 E:List En
 clock:Nat
 gr:Nat
 A:Option Nat
 cap:Nat
 Q:List En
 R:List Blk
theorem Kf {f:FuncId} {args:List Value} {w0:World} {B H:List Blk} {φ:Value→Option Nat→Nat→Prop} {t sz n:Nat} {cs:List Value}
  (h: ∀ F,FnIn Tryz.prog f args w0 (B++F) fun v H' => ∃ A cap,φ v A cap∧H' = .own A t sz n cap cs::(B++F)) (hs:MSub B H):
  FnIn Tryz.prog f args w0 H fun v H' => ∃ A cap,φ v A cap∧H' = .own A t sz n cap cs::H:=by
 obtain ⟨F,hp⟩:=hs
 refine ((h F).msub (MSub.of_perm hp)).re ?_
 rintro v H' ⟨A,cap,hv,rfl⟩
 exact ⟨_,MSub.of_perm (hp.symm.cons _),A,cap,hv,rfl⟩
section
variable {R:List Blk} {E:List En} {clock:Nat} {G:Gr} (h:GOk R E clock G) (gg gm:Nat) {H:List Blk} (hs:MSub (gB gg gm (E.map En.m) clock++R) H) (w0:World)
include h hs
theorem GOk.uses_any (c:Rf):FnIn Tryz.prog 125 [.pointer (some ⟨gg,0,none⟩),pE c] w0 H fun v H' => ∃ A cap,v=sl A (eK G c).length cap∧H' = .own A 159 6 (eK G c).length cap ((eK G c).flatMap fC)::H:=by
 refine Kf (φ:=fun v A cap=>v=sl A (eK G c).length cap) (fun F=> ?_) hs
 have h1:=NX gg gm clock E c (R++F) w0 (fun e he=>(h.en e he).sub (MSub.appL R F))
 rw [h.uses] at h1
 rw [Rx]
 exact h1
variable (hl:G.length≤900)
include hl
theorem GOk.formulas_any:FnIn Tryz.prog 123 [.pointer (some ⟨gg,0,none⟩)] w0 H fun v H' => ∃ A cap,v=sl A (bS G).length cap∧H' = .own A 50 2 (bS G).length cap ((bS G).flatMap bh)::H:=by
 refine Kf (φ:=fun v A cap=>v=sl A (bS G).length cap) (fun F=> ?_) hs
 have h1:=CW gg gm clock (E.map En.m) h.ok (by rw [RN,h.len];omega) (R++F) w0
 rw [h.forms,show (E.map En.m).length=(bS G).length by rw [RN,h.len,bS,RN]] at h1
 rw [Rx]
 exact h1
variable (hG:GrOk G)
include hG
end
end Go.SL
namespace Go.SL
open Go Go.Proofs
attribute [local irreducible] W WL WQ WG WA WX WLI WR WT WC VOp RW thn blk bE scp aV bo bI aK FnIn FnP ceP
set_option maxHeartbeats 2000000 in
theorem N7 (gg gm clock:Nat) (E:List En) (G:Gr) (a:Rf) (b:ByteArray) (R F:List Blk) (w0:World) (hG:GOk R E clock G) (hW:Words w0):
  FnIn Tryz.prog 153 [.pointer (some ⟨gg,0,none⟩),pE a,.string b] w0 (gB gg gm (E.map En.m) clock++(R++F)) fun v H=>v= .int .i64 (lN G a b).2∧ ∃ E' clock' R',H=gB gg gm (E'.map En.m) clock' ++(R' ++F)∧MSub R R' ∧GOk R' E' clock' (lN G a b).1:=by
 refine dD Tryz.func153 rfl Tryz.ntmps153 rfl ?_
 have hV:=fun (w' :World) (H' :List Blk) (hm:Mem w0 w' H')=>(jG a.col a.row w' :ay Tryz.prog 71 [pE a] w' (.bool (valid a.col a.row)))
 have hO:=fun (w' :World) (H' :List Blk) (hm:Mem w0 w' H')=>L8 b w' (hW.next hm)
 unfold gB
 unfold lN
 by_cases hv:a.valid=false
 ·
  rw [if_pos hv]
  have hv' :valid a.col a.row=false:=hv
  rw [hv'] at hV
  repeat' (first|(apply aa (f:=71);exact rfl;exact rfl;(intro w' hm;exact hV w' _ hm))|refine sT ?_|refine sS ?_|refine sW ?_|refine sM fun _=> ?_|(refine sC ?_ ?_<;>intro hb<;>try omega)|(refine sCW ?_ ?_<;>intro hb<;>try omega)|fail)
  all_goals exact cH eIO rfl rfl mS ⟨rfl,E,clock,R,rfl,MSub.refl _,hG⟩
 rw [if_neg hv]
 have hv' :valid a.col a.row=true:=by
  have:a.valid=valid a.col a.row:=rfl
  rw [this] at hv
  simpa using hv
 rw [hv'] at hV
 have hlen:=F4 b
 have htree:=BG (b:=b)
 generalize ofP b=r at hO hlen htree
 obtain ⟨⟨fm,v,t⟩,at_,e⟩:=r
 simp only [ofV,zw] at hO
 dsimp only at hlen htree ⊢
 by_cases he:e≠0
 ·
  rw [if_pos he]
  repeat' (first|(apply aa (f:=71);exact rfl;exact rfl;(intro w' hm;exact hV w' _ hm))|(apply aA (f:=99);exact rfl;exact rfl;(intro w' hm;exact hO w' _ hm);rintro _ _ ⟨A,cap,rfl,rfl⟩)|refine sT ?_|refine sS ?_|refine sW ?_|refine sM fun _=> ?_|(refine sC ?_ ?_<;>intro hb<;>try omega)|(refine sCW ?_ ?_<;>intro hb<;>try omega)|fail)
  all_goals exact cH eIO rfl rfl mS ⟨rfl,E,clock,R,rfl,MSub.refl _,hG⟩
 rw [if_neg he]
 have he0:e=0:=by omega
 subst he0
 cases fm with
 |false=>
  obtain ⟨E',hE',hG'⟩:=hG.del a
  rw [if_pos rfl]
  repeat' (first|(apply aa (f:=71);exact rfl;exact rfl;(intro w' hm;exact hV w' _ hm))|(apply aA (f:=99);exact rfl;exact rfl;(intro w' hm;exact hO w' _ hm);rintro _ _ ⟨A,cap,rfl,rfl⟩)|refine sT ?_|refine sS ?_|refine sW ?_|refine sM fun _=> ?_|(refine sC ?_ ?_<;>intro hb<;>try omega)|(refine sCW ?_ ?_<;>intro hb<;>try omega)|fail)
  rename_i g4 g7
  refine iL (id:=9) [5] [] [.box gg 199 [.map (some gm)],.box g4 50 (bh a)] (by kernel_rfl) (by kernel_rfl) (by kernel_rfl) mS ?_
  repeat' (first|(apply da;(iterate 3 exact rfl);apply ib;exact rfl)|(apply GI (enc:=pE) (t:=197);(iterate 3 exact rfl);exact pK;rw [← hE'])|refine sT ?_|refine sS ?_|refine sW ?_|refine sM fun _=> ?_|(refine sC ?_ ?_<;>intro hb<;>try omega)|(refine sCW ?_ ?_<;>intro hb<;>try omega)|fail)
  all_goals exact cH eIO rfl rfl mS ⟨rfl,E',clock,R,rfl,MSub.refl _,hG'⟩
 |true=>
  have hck:=htree rfl rfl
  rw [if_neg (by simp)]
  have hU:=fun (w' :World) (A:Option Nat) (cap:Nat) (H' :List Blk) (hi:In (.own A 293 11 t.length cap (t.flatMap bX)) H') (hm:Mem w0 w' H')=>NY t (sl A t.length cap) w' (Reads.of_own hm hi) (by omega)
  have hue:uF t=(eL t,0):=by unfold uF;rw [hck];rfl
  have hul:(eL t).length≤256:=Rt (jm t 0) hlen
  rw [hue] at hU
  repeat' (first|(apply aa (f:=71);exact rfl;exact rfl;(intro w' hm;exact hV w' _ hm))|(apply aA (f:=99);exact rfl;exact rfl;(intro w' hm;exact hO w' _ hm);rintro _ _ ⟨A,cap,rfl,rfl⟩)|(apply aA (f:=200);exact rfl;exact rfl;(intro w' hm;exact hU w' _ _ _ pK hm);rintro _ _ ⟨A2,cap2,rfl,rfl⟩)|refine sT ?_|refine sS ?_|refine sW ?_|refine sM fun _=> ?_|(refine sC ?_ ?_<;>intro hb<;>try omega)|(refine sCW ?_ ?_<;>intro hb<;>try omega)|fail)
  rename_i g4 g7
  have hGR:=hG.sub (R' := .own A 293 11 t.length cap (t.flatMap bX):: .own A2 159 6 (eL t).length cap2 ((eL t).flatMap fC)::R) mS
  obtain ⟨E',hE',hG'⟩:=hGR.put ⟨a,A.map fun g=>⟨g,0,none⟩,cap,A2.map fun g=>⟨g,0,none⟩,cap2,t,eL t,0⟩ ⟨rdIn.own (A:=A) pK,rdIn.own (A:=A2) pK,by dsimp only;omega,by dsimp only;omega⟩
  generalize hck2:(nu a (.agg #[sl A t.length cap,sl A2 (eL t).length cap2]) clock (E.map En.m))=kp
  have hE2:E'.map En.m=kp.1:=hck2 ▸ hE'
  have hG2:GOk _ E' kp.2 (Ez G a (t,eL t)):=hck2 ▸ hG'
  refine iL (id:=14) [9] [] [.box gg 199 [.map (some gm)],.box g4 50 (bh a),.box g7 130 [.bool true,.int .u8 v.kind,.int .i64 v.num,.string v.text,sl A t.length cap]] (by kernel_rfl) (by kernel_rfl) (by kernel_rfl) mS ?_
  repeat' (first|(apply da;(iterate 3 exact rfl);apply ib;exact rfl)|(apply w6 (enc:=pE);(iterate 3 exact rfl);exact pK;rw [hck2,← hE2])|refine sT ?_|refine sS ?_|refine sW ?_|refine sM fun _=> ?_|(refine sC ?_ ?_<;>intro hb<;>try omega)|(refine sCW ?_ ?_<;>intro hb<;>try omega)|fail)
  all_goals exact cH eIO rfl rfl (H' :=gB gg gm (E'.map En.m) kp.2++((.own A 293 11 t.length cap (t.flatMap bX):: .own A2 159 6 (eL t).length cap2 ((eL t).flatMap fC)::R)++F)) (by unfold gB;simp only [Re,QR,QU];exact mS) ⟨rfl,E',kp.2,_,rfl,mS,hG2⟩
theorem PP (gg gm clock:Nat) (E:List En) (G:Gr) (a:Rf) (b:ByteArray) (R:List Blk) (w0:World) (hG:GOk R E clock G) (hW:Words w0):
  FnIn Tryz.prog 153 [.pointer (some ⟨gg,0,none⟩),pE a,.string b] w0 (gB gg gm (E.map En.m) clock++R) fun v H=>v= .int .i64 (lN G a b).2∧ ∃ E' clock' R',H=gB gg gm (E'.map En.m) clock' ++R' ∧MSub R R' ∧GOk R' E' clock' (lN G a b).1:=by
 have h:=N7 gg gm clock E G a b R [] w0 hG hW
 simp only [QW] at h
 exact h
structure Et where
 at_:Rf
 input:ByteArray
def aJ (e:Et):List Value:= [.int .i64 e.at_.col,.int .i64 e.at_.row,.string e.input]
theorem bJ (e:Et):(aJ e).length=3:=rfl
def fV (b:Option Rf) (e:Et):Int:=if e.at_.valid=false then 3 else if (match b with|some p=>aU p e.at_|none=>true)=false then 12 else if e.input=av then 2 else (ofP e.input).2.2
def dH:Nat→Option Rf→List Et→Int × Int
 |_,_,[]=>(0,0)
 |i,b,e::r=>if fV b e≠0 then ((i:Int),fV b e) else dH (i+1) (some e.at_) r
def df (L:List Et):Int × Int:=dH 0 none L
def i9 (L:List Et) (i:Nat):Option Rf:=if i=0 then none else (L[i - 1]?).map Et.at_
set_option maxHeartbeats 2000000 in
theorem oW (L:List Et) (tv:Value) (w:World) (ht:Reads w tv L.length (L.flatMap aJ)) (hlen:L.length≤1000000) (hW:Words w):
    ay Tryz.prog 59 [tv] w (.tuple #[.int .i64 (df L).1,.int .i64 (df L).2]):=by
  obtain ⟨Al,cl,rfl,hl1,hl2,hl3⟩:=ht
  refine aq Tryz.func59 rfl Tryz.ntmps59 rfl ?_
  repeat' (first|refine sT ?_|refine sS ?_|refine sM fun _=> ?_|(refine sC ?_ ?_<;>intro hb<;>try omega)|fail)
  refine ax [0,2,3,9,10] rfl (fun i:Nat=> [(11,.int .i64 (i:Int))]) (fun _=> []) (fun i=>i≤L.length∧df L=dH i (i9 L i) (L.drop i)) (fun i=>L.length - i) 0 ⟨by omega,rfl⟩ sB (.refl _) ?_
  rintro i ⟨hi,hck⟩
  by_cases hlt:i<L.length
  · obtain ⟨gl,ol,rfl,hrl⟩:=hl3 (by omega)
    have he:=hrl.elem bJ i hlt
    have hprev: ∀ h:0<i,Ro w gl (ol+(i - 1)*3) (aJ L[i - 1]):=fun h=>hrl.elem bJ (i - 1) (by omega)
    have hbef: ∀ h:0<i,i9 L i=some L[i - 1].at_:=fun h=>by unfold i9;rw [if_neg (by omega),QQ (by omega)];rfl
    have hbef0:i=0→i9 L i=none:=fun h=>by unfold i9;rw [if_pos h]
    have hnext:i9 L (i+1)=some L[i].at_:=by unfold i9;rw [if_neg (by omega),SF,QQ hlt];rfl
    rw [QY hlt,dH,← hnext] at hck
    generalize L[i]=e at he hck
    have hV: ∀ w',ay Tryz.prog 71 [.agg (bh e.at_).toArray] w' (.bool e.at_.valid):=fun w' =>jG e.at_.col e.at_.row w'
    have hO:=fun (w' :World) (H' :List Blk) (hm:Mem w w' H')=>L8 e.input w' (hW.next hm)
    by_cases h0:0<i
    · have hp:=hprev h0
      rw [hbef h0] at hck
      generalize L[i - 1]=b at hp hck
      have hL:=fun w' =>zG b.at_ e.at_ w'
      unfold fV at hck
      simp only at hck
      have hofV: ∀ (A:Option Nat) (cap:Nat),ofV A cap (ofP e.input)= .tuple #[.agg (zw (ofP e.input).1 (sl A (ofP e.input).1.tree.length cap)).toArray,.int .i64 (ofP e.input).2.1,.int .i64 (ofP e.input).2.2]:=fun _ _=>rfl
      simp only [hofV] at hO
      generalize ofP e.input=o at hO hck
      obtain ⟨⟨f1,f2,f3⟩,oa,oe⟩:=o
      simp only [zw] at hO
      simp only at hck
      generalize e.at_.valid=vd at hV hck
      generalize aU b.at_ e.at_=ls at hL hck
      repeat' (first|(apply ak (d:=14);exact rfl;apply aj;exact rfl;exact rfl;exact hlt)|(apply ak (d:=15);exact rfl;apply aB;exact rfl;exact he;exact rfl)|(apply da (d:=29);(iterate 3 exact rfl);apply eR (o:=ol+(i - 1)*3) (off:=0) hp (ys:=bh b.at_);(iterate 3 exact rfl))|(apply aa;exact rfl;exact rfl;(intro w hm;exact hV w))|(apply (cj (id:=6) [11] []);kernel_rfl;kernel_rfl;kernel_rfl)|(apply da;(iterate 3 exact rfl);apply aj (j:=i - 1);exact rfl;exact rfl;omega)|(apply aa (f:=46);exact rfl;exact rfl;(intro w' hm;exact hL w'))|(apply aA (f:=99);exact rfl;exact rfl;(intro w' hm;exact hO w' _ hm);rintro _ _ ⟨A,cap,rfl,rfl⟩)|refine sT ?_|refine sS ?_|refine sW ?_|refine sN ?_|refine sWN ?_|refine sM fun _=> ?_|(refine sC ?_ ?_<;>intro hb<;>try omega)|(refine sCW ?_ ?_<;>intro hb<;>try omega)|fail)
      all_goals clear hofV
      all_goals first
        |(refine eY eIO rfl rfl rfl (.nil _) ?_;rw [hck];simp_all [av];done)
        | (refine ⟨i + 1, ⟨hlt, ?_⟩, by omega, ?_, ?_, .nil _⟩
           · rw [hck];simp_all [av]
           · exact sB
           · exact sB)
    · have h00:i=0:=by omega
      rw [hbef0 h00] at hck
      unfold fV at hck
      simp only at hck
      have hofV: ∀ (A:Option Nat) (cap:Nat),ofV A cap (ofP e.input)= .tuple #[.agg (zw (ofP e.input).1 (sl A (ofP e.input).1.tree.length cap)).toArray,.int .i64 (ofP e.input).2.1,.int .i64 (ofP e.input).2.2]:=fun _ _=>rfl
      simp only [hofV] at hO
      generalize ofP e.input=o at hO hck
      obtain ⟨⟨f1,f2,f3⟩,oa,oe⟩:=o
      simp only [zw] at hO
      simp only at hck
      generalize e.at_.valid=vd at hV hck
      repeat' (first|(apply ak (d:=14);exact rfl;apply aj;exact rfl;exact rfl;exact hlt)|(apply ak (d:=15);exact rfl;apply aB;exact rfl;exact he;exact rfl)|(apply aa;exact rfl;exact rfl;(intro w hm;exact hV w))|(apply (cj (id:=6) [11] []);kernel_rfl;kernel_rfl;kernel_rfl)|(apply aA (f:=99);exact rfl;exact rfl;(intro w' hm;exact hO w' _ hm);rintro _ _ ⟨A,cap,rfl,rfl⟩)|refine sT ?_|refine sS ?_|refine sW ?_|refine sN ?_|refine sWN ?_|refine sM fun _=> ?_|(refine sC ?_ ?_<;>intro hb<;>try omega)|(refine sCW ?_ ?_<;>intro hb<;>try omega)|fail)
      all_goals clear hofV
      all_goals first
        |(refine eY eIO rfl rfl rfl (.nil _) ?_;rw [hck];simp_all [av];done)
        | (refine ⟨i + 1, ⟨hlt, ?_⟩, by omega, ?_, ?_, .nil _⟩
           · rw [hck];simp_all [av]
           · exact sB
           · exact sB)
  · have e2:i=L.length:=by omega
    subst e2
    rw [RE,dH] at hck
    repeat' (first|refine sT ?_|refine sS ?_|refine sM fun _=> ?_|(refine sC ?_ ?_<;>intro hb<;>try omega)|fail)
    all_goals (refine eY eIO rfl rfl rfl (.nil _) ?_;rw [hck])
def BI:Gr→List Et→Option Gr × Int
 |G,[]=>(some G,0)
 |G,e::r=>if (lN G e.at_ e.input).2≠0 then (none,(lN G e.at_ e.input).2) else BI (lN G e.at_ e.input).1 r
def vv (L:List Et):Option Gr × Int:=if (df L).2≠0 then (none,(df L).2) else BI [] L
def QM (r:Option Gr × Int) (v:Value) (H:List Blk):Prop:=match r with
 |(none,e)=>v= .tuple #[.pointer none,.int .i64 e]∧H= []
 |(some G,_)=> ∃ gg gm E clock R,v= .tuple #[.pointer (some ⟨gg,0,none⟩),.int .i64 0]∧H=gB gg gm (E.map En.m) clock++R∧GOk R E clock G
set_option maxHeartbeats 2000000 in
theorem PT (L:List Et) (tv:Value) (w:World) (ht:Reads w tv L.length (L.flatMap aJ)) (hlen:L.length≤1000000) (hW:Words w):
  aK Tryz.prog 122 [tv] w (QM (vv L)):=by
 have hC:=fun (w' :World) (H:List Blk) (hm:Mem w w' H)=>oW L tv w' (ht.of_w0 hm) hlen (hW.next hm)
 obtain ⟨Al,cl,rfl,hl1,hl2,hl3⟩:=ht
 refine aq Tryz.func122 rfl Tryz.ntmps122 rfl ?_
 unfold vv
 generalize df L=c at hC
 obtain ⟨ci,ce⟩:=c
 dsimp only at hC ⊢
 by_cases hce:ce≠0
 ·
  rw [if_pos hce]
  repeat' (first|(apply aa (f:=59);exact rfl;exact rfl;(intro w' hm;exact hC w' _ hm))|refine sT ?_|refine sS ?_|refine sM fun _=> ?_|(refine sC ?_ ?_<;>intro hb<;>try omega)|fail)
  all_goals exact eY eIO rfl rfl rfl (.nil _) ⟨rfl,rfl⟩
 rw [if_neg hce]
 have hce0:ce=0:=by omega
 subst hce0
 repeat' (first|(apply aa (f:=59);exact rfl;exact rfl;(intro w' hm;exact hC w' _ hm))|(apply o5 (enc:=pE);exact rfl;intro gm)|refine sT ?_|refine sS ?_|refine sM fun _=> ?_|(refine sC ?_ ?_<;>intro hb<;>try omega)|fail)
 rename_i gg
 refine ax [6,21,22] rfl (fun x:Nat × List En × Nat × Gr × List Blk=> [(23,.int .i64 (x.1:Int))]) (fun x=>gB gg gm (x.2.1.map En.m) x.2.2.1++x.2.2.2.2) (fun x=>x.1≤L.length∧GOk x.2.2.2.2 x.2.1 x.2.2.1 x.2.2.2.1∧BI [] L=BI x.2.2.2.1 (L.drop x.1)) (fun x=>L.length - x.1) (0,[],0,[],[]) ⟨by simp,Nw [],rfl⟩ sB (by unfold gB;exact mS) ?_
 rintro ⟨i,E,clock,G,R⟩ ⟨hi,hG,hnew⟩
 dsimp only at hi hG hnew ⊢
 by_cases hlt:i<L.length
 ·
  obtain ⟨gl,ol,rfl,hrl⟩:=hl3 (by omega)
  have he:=hrl.elem bJ i hlt
  rw [QY hlt,BI] at hnew
  generalize L[i]=e at he hnew
  have hS:=PP gg gm clock E G e.at_ e.input R w hG hW
  generalize lN G e.at_ e.input=sg at hS hnew
  obtain ⟨G',se⟩:=sg
  dsimp only at hS hnew
  repeat' (first|(apply ak (d:=25);exact rfl;apply aj;exact rfl;exact rfl;exact hlt)|(apply ak (d:=26);exact rfl;apply aB;exact rfl;exact he;exact rfl)|(apply aw (f:=153);exact rfl;exact rfl;exact FnIn.msub hS (by unfold gB;exact mS);rintro _ _ ⟨rfl,E',clock',R',rfl,hsub,hG'⟩)|refine sT ?_|refine sS ?_|refine sN ?_|refine sM fun _=> ?_|(refine sC ?_ ?_<;>intro hb<;>try omega)|fail)
  ·
   rw [hnew,if_pos (by assumption)]
   exact eY eIO rfl rfl rfl (.nil _) ⟨rfl,rfl⟩
  ·
   rw [if_neg (by assumption)] at hnew
   refine ⟨(i+1,E',clock',G',R'),⟨hlt,hG',hnew⟩,(by dsimp only;omega),sB,sB,?_⟩
   unfold gB
   exact mS
 ·
  have e2:i=L.length:=by omega
  subst e2
  rw [RE,BI] at hnew
  rw [hnew]
  repeat' (first|refine sT ?_|refine sS ?_|refine sM fun _=> ?_|(refine sC ?_ ?_<;>intro hb<;>try omega)|fail)
  all_goals exact eY eIO rfl rfl rfl (MSub.refl _) ⟨gg,gm,E,clock,R,rfl,rfl,hG⟩
theorem wq (L:List Et): ∀ u∈L.flatMap aJ,u.oneCell' =true:=by
 intro u hu
 obtain ⟨x,_,hx⟩:=RY.1 hu
 simp only [aJ,Rd,S0,or_false] at hx
 rcases hx with rfl|rfl|rfl<;>rfl
end Go.SL
namespace Go.SL
open Go
theorem if4 (c1 c2 c3:Prop) [Decidable c1] [Decidable c2] [Decidable c3] (z:Int):(if c1 then (3:Int) else if c2 then 12 else if c3 then 2 else z)=0↔ ¬ c1∧ ¬ c2∧ ¬ c3∧z=0:=by
 by_cases h1:c1
 ·
  rw [if_pos h1];exact ⟨fun h=>(by cases h),fun h=>absurd h1 h.1⟩
 by_cases h2:c2
 ·
  rw [if_neg h1,if_pos h2];exact ⟨fun h=>(by cases h),fun h=>absurd h2 h.2.1⟩
 by_cases h3:c3
 ·
  rw [if_neg h1,if_neg h2,if_pos h3];exact ⟨fun h=>(by cases h),fun h=>absurd h3 h.2.2.1⟩
 ·
  rw [if_neg h1,if_neg h2,if_neg h3];exact ⟨fun h=>⟨h1,h2,h3,h⟩,fun h=>h.2.2.2⟩
def Kz (e:Et):Prop:=e.at_.valid=true∧e.input≠av∧(ofP e.input).2.2=0
theorem xX {b:Option Rf} {e:Et}:fV b e=0↔(∀ p,b=some p→aU p e.at_=true)∧Kz e:=by
 cases b with
 |none=>
  unfold fV Kz
  rw [if4]
  constructor
  ·
   rintro ⟨h1,_,h3,h4⟩;exact ⟨fun p hp=>(by cases hp),by simpa using h1,h3,h4⟩
  ·
   rintro ⟨_,h1,h3,h4⟩;exact ⟨by rw [h1];decide,by simp,h3,h4⟩
 |some p=>
  unfold fV Kz
  rw [if4]
  constructor
  ·
   rintro ⟨h1,h2,h3,h4⟩;exact ⟨fun q hq=>by cases hq;simpa using h2,by simpa using h1,h3,h4⟩
  ·
   rintro ⟨h2,h1,h3,h4⟩;exact ⟨by rw [h1];decide,by simpa using h2 p rfl,h3,h4⟩
end Go.SL
namespace Go.SL
open Go Go.Proofs
instance:DecidableEq Et:=fun a b=>decidable_of_iff (a.at_=b.at_∧a.input=b.input) (by
 obtain ⟨a1,a2⟩:=a
 obtain ⟨b1,b2⟩:=b
 simp)
theorem Qt {a b:Et}:a=b↔a.at_=b.at_∧a.input=b.input:=by
 obtain ⟨a1,a2⟩:=a
 obtain ⟨b1,b2⟩:=b
 simp
theorem J7 (w:World) (d:Nat) (a b:Et):(Op.equalIn (d+5) 52 (.agg (aJ a).toArray) (.agg (aJ b).toArray)).run Tryz.prog w= .ok (decide (a=b)) w:=by
 rw [run_equalIn_agg w (d+4) 52 _ _ (by rw [Program.fieldsOf,Tryz.underlying52]) Tryz.stoodInHeld52]
 simp only [Program.fieldsOf,Tryz.underlying52]
 have hr: ∀ (a b:Rf) w,(Op.equalIn (d+4) 50 (.agg #[.int .i64 a.col,.int .i64 a.row]) (.agg #[.int .i64 b.col,.int .i64 b.row])).run Tryz.prog w= .ok (eqF a b) w:=fun a b w=>qb w (d+1) a b
 simp [Op.eqFields,aJ,part,go_sem,pN,rT,hr]
 by_cases h1:eqF a.at_ b.at_=true<;>by_cases h2:a.input=b.input<;>simp [h1,h2,Qt]<;>(rw [jx] at h1;exact h1)
section
variable {w0:World} {s:az} {H:List Blk} {ty t' :TypeId} {x y:Operand}
theorem MA {a b:Et} (hx:ev s x=some (.agg (aJ a).toArray)) (hy:ev s y=some (.agg (aJ b).toArray)):VOp Tryz.prog w0 s H (.binOp .neq 52 x y t') ty (.bool (!decide (a=b))):=fun ρ w _ _ _ _ hρ _=>by
 have h:=J7 w 9995 a b
 simp only [Nat.reduceAdd] at h
 simp only [execOp,hρ x _ hx,hρ y _ hy,Sem.run_bind,run_eqGuard_agg w _ _ _ _ _ _ Tryz.eqGuardType52,Result.andThen_ok,run_neq_struct,h,Sem.run_pure]
end
end Go.SL
namespace Go.SL
open Go Go.Proofs
attribute [local irreducible] W WL WQ WG WA WX WLI WR WT WC VOp RW thn blk bE scp aV bo bI aK FnIn FnP ceP
def Gf (G:Gr) (L:List Et):Gr:=L.foldl (fun G e=>(lN G e.at_ e.input).1) G
theorem EF {b:Option Rf} {e:Et} (h:fV b e=0):e.at_.valid=true∧(ofP e.input).2.2=0:=by
 have hg: ∀ (c1 c2 c3:Prop) [Decidable c1] [Decidable c2] [Decidable c3] (z:Int),(if c1 then (3:Int) else if c2 then 12 else if c3 then 2 else z)=0→ ¬ c1∧z=0:=by
  intro c1 c2 c3 _ _ _ z hz
  by_cases h1:c1
  ·
   rw [if_pos h1] at hz;cases hz
  ·
   rw [if_neg h1] at hz
   by_cases h2:c2
   ·
    rw [if_pos h2] at hz;cases hz
   ·
    rw [if_neg h2] at hz
    by_cases h3:c3
    ·
     rw [if_pos h3] at hz;cases hz
    ·
     rw [if_neg h3] at hz;exact ⟨h1,hz⟩
 obtain ⟨h1,h2⟩:=hg _ _ _ _ h
 exact ⟨by simpa using h1,h2⟩
theorem qI: ∀ (L:List Et) (i:Nat) (b:Option Rf),(dH i b L).2=0→ ∀ e∈L,e.at_.valid=true∧(ofP e.input).2.2=0
 | [],_,_,_,e,he=>by cases he
 |x::r,i,b,h,e,he=>by
  rw [dH] at h
  split at h
  ·
   rename_i hf
   exact absurd h hf
  ·
   rename_i hf
   rcases Rd.1 he with rfl|he
   ·
    exact EF (Classical.not_not.1 hf)
   ·
    exact qI r _ _ h e he
theorem F7: ∀ (L:List Et) (G:Gr),(∀ e∈L,e.at_.valid=true∧(ofP e.input).2.2=0)→BI G L=(some (Gf G L),0)
 | [],G,_=>rfl
 |e::r,G,h=>by
  have he:(lN G e.at_ e.input).2=0:=by
   obtain ⟨h1,h2⟩:=h e QT
   unfold lN
   rw [if_neg (by rw [h1];simp),if_neg (by rw [h2];simp)]
   split<;>rfl
  rw [BI,if_neg (by rw [he];simp),F7 r _ fun f hf=>h f (Rc _ hf)]
  rfl
theorem F8 (L:List Et):vv L=if (df L).2≠0 then (none,(df L).2) else (some (Gf [] L),0):=by
 unfold vv
 split
 ·
  rfl
 ·
  rename_i h
  exact F7 L [] (qI L 0 none (Classical.not_not.1 h))
theorem Cb: ∀ (L:List Et) {G:Gr},GrOk G→GrOk (Gf G L)
 | [],_,h=>h
 |e::r,_,h=>Cb r (h.set e.at_ e.input)
theorem xS: ∀ (L:List Et) (G:Gr),(Gf G L).length≤G.length+L.length
 | [],G=>QV _
 |e::r,G=>by
  have h1:=xS r (lN G e.at_ e.input).1
  have h2:=JX G e.at_ e.input
  simp only [Rp]
  exact Rt h1 (by omega)
end Go.SL
namespace Go.SL
open Go Go.Proofs Go.ChangeShapes Go.WideShapes Go.ChangeAt Go.RowKit Go.Deep
section
variable {H:Type} {enc:TypeId × Value→H} {P:Program} {w:World} {base:Nat} {spare:Nat→Bool} {held:Bool}
theorem wX {f:Func} {s:ChangeSpec} {apart fresh handsOn again:Bool} {W W' :World} {args:Array Value} {v:Value} {ds gs:List (DataW H)} {gh pa pv:List MemPlace}
  (hW:DataW.Whole enc P f.params.toList s.vars apart W args.toList ds gs gh)
  (hres: ∀ (b:Nat) (sp:Nat→Bool) (hd:Bool),DataW.TrodAll enc P W' b sp hd f.resultTypes.toList (v.resultList f.resultTypes.size) (s.fn H (ds++gs)).results [])
  (hargs: ∀ sp:Nat→Bool,(∀ p∈gh,sp p.block=true)→DataW.TrodAll enc P W' 0 sp true f.params.toList args.toList (s.fn H (ds++gs)).args pa)
  (hvars: ∀ sp:Nat→Bool,(∀ p∈gh,sp p.block=true)→DataW.TrodVars enc P W' sp s.vars (s.fn H (ds++gs)).vars pv)
  (hps:gh=pa++pv) (hb:Below W.heap.size W W')
  (hok: ∀ (j:Nat) (t:TypeId) (r:Value),f.resultTypes[j]? =some t→(v.resultList f.resultTypes.size)[j]? =some r→Value.okWide P W' .any 0 t r):
  s.post enc P f apart fresh handsOn again W args v W' :=by
 have hold: ∀ p∈gh,(fun b=>decide (b<W.heap.size)) p.block=true:=fun p hp=>by simpa using hW.lt p hp
 refine ⟨ds,gs,gh,[],pa,pv,hW,hres _ _ _,hargs _ hold,hvars _ hold,hb.frame _,fun _=> ?_⟩
 have hlt:=hW.lt
 obtain ⟨_,_,_,_,_,hz,hn⟩:=hW
 refine ⟨hok,_,_,([]++pa)++pv,⟨[]++pa,pv,trodAll_append (hargs _ (fun _ _=>rfl)) (hres _ _ _),hvars _ (fun _ _=>rfl),rfl,?_,?_⟩,?_⟩
 ·
  intro b off hp
  have hp' :MemPlace.cell b off∈gh:=by rw [hps];simpa using hp
  have h1:=hz b off hp'
  have h2:=hlt _ hp'
  rw [← h1]
  exact hb.frozen h2
 ·
  intro ha
  have:=hn ha
  rw [hps] at this
  simpa using this
 ·
  intro p hp _
  rw [hps]
  simpa using hp
theorem oK {t:TypeId} (hl:laidOutB P=true) (hr:P.readableRec t=true) (hrow:t<P.types.size) {W W' :World} {v:Value} {d:DataW H} {ps:List MemPlace} {sp:Nat→Bool}
  (h:DataW.Trod enc P W 0 (fun _=>true) true t v d ps) (hb:Below W.heap.size W W') (hlt: ∀ x∈ps,x.block<W.heap.size) (hs: ∀ x∈ps,sp x.block=true):DataW.Trod enc P W' 0 sp true t v d ps:=
 WideElems.Trod_stays hl hr hrow h (fun x hx=>hb.same (hlt x hx)) hs
end
theorem NZ:ownKnob Tryz.prog.godebug=none:=by kernel_rfl
theorem nS:laidOutB Tryz.prog=true:=by kernel_rfl
section
variable {H:Type} {enc:TypeId × Value→H} {w:World} {base:Nat} {spare:Nat→Bool} {held:Bool}
theorem wz {α:Type} {enc:α→List Value} {m:Nat} (hm: ∀ a,(enc a).length=m) (w:World) (g o:Nat): ∀ (L:List α),(∀ (i:Nat) (a:α),L[i]? =some a→Cells w g (o+i*m) (enc a))→Cells w g o (L.flatMap enc):=by
 intro L h j v hv
 by_cases hm0:m=0
 ·
  have:(L.flatMap enc).length=0:=by rw [aP hm,hm0,Nat.mul_zero]
  rw [Sn (by omega)] at hv
  cases hv
 have hlen:(L.flatMap enc).length=L.length*m:=aP hm L
 have hj:j<(L.flatMap enc).length:=(Rn.1 hv).1
 have hi:j / m<L.length:=by rw [Nat.div_lt_iff_lt_mul (by omega)];omega
 have hk:j % m<m:=Nat.mod_lt _ (by omega)
 have he:j / m*m+j % m=j:=by rw [Nat.mul_comm];exact Nat.div_add_mod j m
 have h1:=oo hm L (j / m) (j % m) hi hk
 rw [he,hv] at h1
 have h2:=h (j / m) L[j / m] (QQ hi) (j % m) v h1.symm
 rw [show o+j / m*m+j % m=o+j by omega] at h2
 exact h2
theorem lh {α:Type} [Inhabited α] {encA:α→List Value} {ok:α→Prop} {P:Program} {t e m fuel:Nat} {cs:List Value} {x:DataW H × List MemPlace} (ht:P.underlying t=some (.slice e)) (hm:P.cellsOf e=m) (hm0:0<m) (hlenA: ∀ a,(encA a).length=m)
  (helem: ∀ (n:Nat) (cs:List Value) (y:DataW H × List MemPlace),DataW.trod enc P w 0 spare held n e cs=some y→ ∃ a,cs=encA a∧ok a) (h:DataW.trod enc P w 0 spare held fuel t cs=some x):
  ∃ (v:Value) (L:List α),cs= [v]∧Reads w v L.length (L.flatMap encA)∧ ∀ a∈L,ok a:=by
 rcases open_slice ht h with ⟨h0,_⟩|⟨a,len,cap,mm,n,D,Pl,h0,hb,hl,hmx,hmm,_,hx⟩
 ·
  exact ⟨_,[],h0,⟨none,0,rfl,QV _,QX _,fun h=>by cases h⟩,fun _ h=>by cases h⟩
 ·
  have hlm:len≤mm:=by rw [hmm];split<;>omega
  obtain ⟨F,hF⟩:=choose_lt (α:=α) (n:=len) (p:=fun i nd=>w.cells? 0 (a.add (i*m)) m=some (encA nd)∧ok nd) (fun i hi=>by
   obtain ⟨cs',h1,h2⟩:=hx i (by omega)
   rw [hm] at h1
   obtain ⟨nd,rfl,hw⟩:=helem _ _ _ h2
   exact ⟨nd,h1,hw⟩)
  have hlen:((List.range len).map F).length=len:=by simp
  refine ⟨_,(List.range len).map F,h0,⟨some a,cap,by rw [hlen],by omega,hmx,fun hpos=> ?_⟩,fun n hn=> ?_⟩
  rotate_left
  ·
   obtain ⟨i,hi,rfl⟩:=RD.1 hn
   exact (hF i (List.mem_range.1 hi)).2
  rw [hlen] at hpos
  obtain ⟨g,o,spot⟩:=a
  have hspot:spot=none:=by
   obtain ⟨_,_,h3⟩:=World.cells?_some (hF 0 (by omega)).1
   have h4' :=h3 0 hm0
   rw [QQ (by rw [hlenA];exact hm0)] at h4'
   have h4:=World.cell?_spot h4'
   simpa [Addr.add] using h4
  subst hspot
  have hcell: ∀ (i:Nat) (nd:α),((List.range len).map F)[i]? =some nd→Cells w g (o+i*m) (encA nd):=by
   intro i nd hnd k v hv
   have hil:i<len:=by have:=(Rn.1 hnd).1;omega
   have hnd' :F i=nd:=by simpa [hil] using hnd
   subst hnd'
   have hk:k<m:=by have:=(Rn.1 hv).1;rwa [hlenA] at this
   obtain ⟨_,_,h3⟩:=World.cells?_some (hF i hil).1
   have:=h3 k hk
   rw [hv,cK,cK] at this
   exact this
  refine ⟨g,o,rfl,?_,wz hlenA w g o _ hcell⟩
  obtain ⟨u,hu⟩: ∃ u,(encA (F 0))[0]? =some u:=⟨_,QQ (by rw [hlenA];exact hm0)⟩
  have h5:=hcell 0 (F 0) (by simp [hpos]) 0 u hu
  simp only [World.cell?] at h5
  split at h5
  ·
   rename_i h6
   exact (RI.1 h6).1
  ·
   cases h5
theorem fH {n:Nat} {c:Value} {x:DataW H × List MemPlace} (h:DataW.trod enc Tryz.prog w base spare held n 3 [c]=some x): ∃ a,c= .int .i64 a∧I64 a:=by
 obtain ⟨a0,q0,_,w0⟩:=DataW.trod_int Tryz.underlying3 h
 simp only [List.cons.injEq,and_true] at q0
 exact ⟨a0,q0,bounds_i64 w0⟩
theorem O3 {n:Nat} {c:Value} {x:DataW H × List MemPlace} (h:DataW.trod enc Tryz.prog w base spare held n 9 [c]=some x): ∃ a,c= .string a:=by
 obtain ⟨a0,q0,_⟩:=DataW.trod_string Tryz.underlying9 h
 simp only [List.cons.injEq,and_true] at q0
 exact ⟨a0,q0⟩
def okF (a:Rf):Prop:=I64 a.col∧I64 a.row
def okR (r:Rct):Prop:=I64 r.c1∧I64 r.r1∧I64 r.c2∧I64 r.r2
set_option maxRecDepth 100000 in
theorem Ak {fuel:Nat} {cs:List Value} {x:DataW H × List MemPlace} (h:DataW.trod enc Tryz.prog w base spare held fuel 50 cs=some x): ∃ v:Rf,cs=bh v∧okF v:=by
 obtain ⟨xs,n,_,_,hlen,hxl,hf⟩:=DataW.trod_struct Tryz.underlying50 h
 have eS:Tryz.prog.cellsOf 50=2:=by kernel_rfl
 have eI:Tryz.prog.cellsOf 3=1:=by kernel_rfl
 rw [eS] at hlen
 match cs,hlen,xs,hxl with
 | [c0,c1],_,[x0,x1],_=>
  have h0:DataW.trod enc Tryz.prog w base spare held n 3 ((([c0,c1]:List Value).drop 0).take (Tryz.prog.cellsOf 3))=some x0:=hf 0 _ rfl
  rw [eI] at h0
  obtain ⟨a0,rfl,w0⟩:=fH (c:=c0) h0
  have h1:DataW.trod enc Tryz.prog w base spare held n 3 ((([Value.int .i64 a0,c1]:List Value).drop 1).take (Tryz.prog.cellsOf 3))=some x1:=hf 1 _ rfl
  rw [eI] at h1
  obtain ⟨a1,rfl,w1⟩:=fH (c:=c1) h1
  exact ⟨⟨a0,a1⟩,rfl,w0,w1⟩
set_option maxRecDepth 100000 in
theorem kU {fuel:Nat} {cs:List Value} {x:DataW H × List MemPlace} (h:DataW.trod enc Tryz.prog w base spare held fuel 32 cs=some x): ∃ v:Rct,cs=bK v∧okR v:=by
 obtain ⟨xs,n,_,_,hlen,hxl,hf⟩:=DataW.trod_struct Tryz.underlying32 h
 have eS:Tryz.prog.cellsOf 32=4:=by kernel_rfl
 have eI:Tryz.prog.cellsOf 3=1:=by kernel_rfl
 rw [eS] at hlen
 match cs,hlen,xs,hxl with
 | [c0,c1,c2,c3],_,[x0,x1,x2,x3],_=>
  have h0:DataW.trod enc Tryz.prog w base spare held n 3 ((([c0,c1,c2,c3]:List Value).drop 0).take (Tryz.prog.cellsOf 3))=some x0:=hf 0 _ rfl
  rw [eI] at h0
  obtain ⟨a0,rfl,w0⟩:=fH (c:=c0) h0
  have h1:DataW.trod enc Tryz.prog w base spare held n 3 ((([Value.int .i64 a0,c1,c2,c3]:List Value).drop 1).take (Tryz.prog.cellsOf 3))=some x1:=hf 1 _ rfl
  rw [eI] at h1
  obtain ⟨a1,rfl,w1⟩:=fH (c:=c1) h1
  have h2:DataW.trod enc Tryz.prog w base spare held n 3 ((([Value.int .i64 a0,.int .i64 a1,c2,c3]:List Value).drop 2).take (Tryz.prog.cellsOf 3))=some x2:=hf 2 _ rfl
  rw [eI] at h2
  obtain ⟨a2,rfl,w2⟩:=fH (c:=c2) h2
  have h3:DataW.trod enc Tryz.prog w base spare held n 3 ((([Value.int .i64 a0,.int .i64 a1,.int .i64 a2,c3]:List Value).drop 3).take (Tryz.prog.cellsOf 3))=some x3:=hf 3 _ rfl
  rw [eI] at h3
  obtain ⟨a3,rfl,w3⟩:=fH (c:=c3) h3
  exact ⟨⟨a0,a1,a2,a3⟩,rfl,w0,w1,w2,w3⟩
instance:Inhabited Et:=⟨⟨⟨0,0⟩,av⟩⟩
set_option maxRecDepth 100000 in
theorem HX {α:Type} [Inhabited α] {encA:α→List Value} {ok:α→Prop} {t e m:Nat} {v:Value} {d:DataW H} {p:List MemPlace} (ht:Tryz.prog.underlying t=some (.slice e)) (hm:Tryz.prog.cellsOf e=m) (hm0:0<m) (hlenA: ∀ a,(encA a).length=m)
  (helem: ∀ (n:Nat) (cs:List Value) (y:DataW H × List MemPlace),DataW.trod enc Tryz.prog w 0 spare held n e cs=some y→ ∃ a,cs=encA a∧ok a)
  (hv:Value.okWide Tryz.prog w .any base t v) (h:DataW.Trod enc Tryz.prog w 0 spare held t v d p): ∃ L:List α,Reads w v L.length (L.flatMap encA)∧ ∀ a∈L,ok a:=by
 obtain ⟨fuel,hf⟩:=h
 have hc:v.cells.toList= [v]:=by
  obtain ⟨a,n,c,rfl⟩:=okWide_slice ht hv
  rfl
 rw [hc] at hf
 obtain ⟨v',L,q,h1,h2⟩:=lh ht hm hm0 hlenA helem hf
 simp only [List.cons.injEq,and_true] at q
 subst q
 exact ⟨L,h1,h2⟩
end
end Go.SL
