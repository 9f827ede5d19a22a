/-
  Lemmas and walks, put together: Gq R6 D11 Q10 Lu Pl2 Lp G2 G2a D8 D12 K2 Nf Q15 Fd.
-/
import Derived.Test.YtoanpdoacdpgeaaGreatDoorRows
import Derived.Test.YtoanpdoacdpgeaaGreatDoorKp14
set_option linter.unusedSimpArgs false
set_option linter.unusedVariables false
set_option maxRecDepth 20000
namespace Go.SL
open Go
def En.abs (e:En):Rf × List Nd × List Us:=(e.at_,e.tree,e.uses)
structure GOk (R:List Blk) (E:List En) (clock:Nat) (G:Gr):Prop where
 ok:MapOk (E.map En.m) clock
 en: ∀ e∈E,EnOk R e
 rel: ∀ x,x∈E.map En.abs↔x∈G
 sort:SortG G
theorem FM (E:List En):((E.map En.m).map fun e=>e.1)=E.map En.at_:=by rw [SR];rfl
theorem Lf (E:List En):((E.map En.m).map fun e=>e.2.2)=E.map En.born:=by rw [SR];rfl
theorem GOk.sub {R R' :List Blk} {E:List En} {clock:Nat} {G:Gr} (h:GOk R E clock G) (hs:MSub R R'):GOk R' E clock G:=⟨h.ok,fun e he=>(h.en e he).sub hs,h.rel,h.sort⟩
theorem GOk.nodup {R:List Blk} {E:List En} {clock:Nat} {G:Gr} (h:GOk R E clock G):(E.map En.at_).Nodup:=FM E ▸ h.ok.keys
theorem GOk.perm {R:List Blk} {E:List En} {clock:Nat} {G:Gr} (h:GOk R E clock G):(E.map En.abs).Perm G:=by
 refine o7 ?_ ?_ h.rel
 ·
  have:=h.nodup
  have e:E.map En.at_=(E.map En.abs).map fun x=>x.1:=by rw [SR];rfl
  rw [e] at this
  exact jo _ this
 ·
  exact jo (fun e:Rf × List Nd × List Us=>e.1) h.sort.nodup
theorem GOk.len {R:List Blk} {E:List En} {clock:Nat} {G:Gr} (h:GOk R E clock G):E.length=G.length:=by
 have:=h.perm.length_eq
 simpa using this
theorem GOk.forms {R:List Blk} {E:List En} {clock:Nat} {G:Gr} (h:GOk R E clock G):vk (E.map En.m)=bZ G:=by
 have hp:(E.map En.at_).Perm (bZ G):=by
  have:=h.perm.map fun x=>x.1
  rw [SR] at this
  exact this
 rw [vk,FM,ry hp,wC (BN h.sort)]
theorem GOk.look {R:List Blk} {E:List En} {clock:Nat} {G:Gr} (h:GOk R E clock G) (a:Rf):(ng E a).map (fun e=>(e.tree,e.uses))=uW G a:=by
 cases hf:ng E a with
 |some e=>
  have h1:=List.find?_some hf
  simp only [decide_eq_true_eq] at h1
  have h2:(a,e.tree,e.uses)∈G:=by
   rw [← h.rel]
   refine QT.2 ⟨e,Tb hf,?_⟩
   rw [← h1];rfl
  rw [(uV h.sort).2 h2];rfl
 |none=>
  rw [ng,List.find?_eq_none] at hf
  symm
  rw [TN,Ec]
  intro x hx
  rw [← h.rel] at hx
  obtain ⟨e,he,rfl⟩:=QT.1 hx
  have:=hf e he
  simpa [En.abs] using this
theorem GOk.uses {R:List Blk} {E:List En} {clock:Nat} {G:Gr} (h:GOk R E clock G) (a:Rf):(jI E a).uses=iO G a:=by
 rw [iO,← h.look a,jI]
 cases ng E a<;>rfl
theorem pd {κ:Type} [DecidableEq κ] {k:κ}: ∀ {es:List (κ × Value × Nat)} {i:Nat},cw k es i=none→ ∀ e∈es,e.1≠k
 | [],_,_,e,he=>by cases he
 |x::r,i,h,e,he=>by
  rw [cw] at h
  split at h
  ·
   cases h
  ·
   rename_i hk
   rcases Qx.1 he with rfl|he
   ·
    exact fun e=>hk e.symm
   ·
    exact pd h e he
theorem GOk.del {R:List Blk} {E:List En} {clock:Nat} {G:Gr} (h:GOk R E clock G) (a:Rf): ∃ E',E'.map En.m=Ei a (E.map En.m)∧GOk R E' clock (HZ G a):=by
 unfold Ei
 cases hk:cw a (E.map En.m) 0 with
 |none=>
  have hno:=pd hk
  refine ⟨E,rfl,h.ok,h.en,fun x=> ?_,qM h.sort a⟩
  rw [uS,← h.rel]
  refine ⟨fun hx=>⟨hx,?_⟩,fun hx=>hx.1⟩
  obtain ⟨e,he,rfl⟩:=QT.1 hx
  exact hno e.m (QT.2 ⟨e,he,rfl⟩)
 |some x=>
  obtain ⟨j,v⟩:=x
  obtain ⟨b,_,hj⟩:=kY hk
  rw [Se,QX] at hj
  obtain ⟨e0,he0,hm0⟩:=Rg.1 hj
  have ha:e0.at_=a:=congrArg Prod.fst hm0
  have hsub:(E.eraseIdx j).Sublist E:=List.eraseIdx_sublist E j
  have hin: ∀ e,e∈E.eraseIdx j↔e∈E∧e.at_≠a:=by
   intro e
   rw [List.mem_eraseIdx_iff_getElem?]
   obtain ⟨hjl,hj0⟩:=QB.1 he0
   constructor
   ·
    rintro ⟨i,hne,hi⟩
    refine ⟨RY hi,fun hea=>hne ?_⟩
    obtain ⟨hil,hi0⟩:=QB.1 hi
    have hn:=h.nodup
    have:=List.getElem_inj (xs:=E.map En.at_) (h₀:=by simpa using hil) (h₁:=by simpa using hjl) hn
    refine this.1 ?_
    simp only [List.getElem_map,hi0,hj0,hea,ha]
   ·
    rintro ⟨he,hea⟩
    obtain ⟨i,hil,hi⟩:=Sd he
    refine ⟨i,?_,by rw [Ql hil,hi]⟩
    rintro rfl
    rw [hj0] at hi
    exact hea (hi ▸ ha)
  refine ⟨E.eraseIdx j,lL _ _ _,?_,fun e he=>h.en e (hsub.subset he),fun x=> ?_,qM h.sort a⟩
  ·
   have hs2:((E.eraseIdx j).map En.m).Sublist (E.map En.m):=hsub.map _
   exact ⟨(hs2.map _).nodup h.ok.born,fun e he=>h.ok.old e (hs2.subset he),(hs2.map _).nodup h.ok.keys⟩
  ·
   rw [uS,← h.rel]
   constructor
   ·
    intro hx
    obtain ⟨e,he,rfl⟩:=QT.1 hx
    obtain ⟨h1,h2⟩:=(hin e).1 he
    exact ⟨QT.2 ⟨e,h1,rfl⟩,h2⟩
   ·
    rintro ⟨hx,hne⟩
    obtain ⟨e,he,rfl⟩:=QT.1 hx
    exact QT.2 ⟨e,(hin e).2 ⟨he,hne⟩,rfl⟩
theorem GOk.put {R:List Blk} {E:List En} {clock:Nat} {G:Gr} (h:GOk R E clock G) (n:En) (hn:EnOk R n): ∃ E',E'.map En.m=(mV n.at_ (.agg #[n.tv,n.uv]) clock (E.map En.m)).1∧GOk R E' (mV n.at_ (.agg #[n.tv,n.uv]) clock (E.map En.m)).2 (Ek G n.at_ (n.tree,n.uses)):=by
 unfold mV
 cases hk:cw n.at_ (E.map En.m) 0 with
 |none=>
  have hno:=pd hk
  have hno' :n.at_∉E.map En.at_:=fun hx=>by
   obtain ⟨e,he,hea⟩:=QT.1 hx
   exact hno e.m (QT.2 ⟨e,he,rfl⟩) hea
  refine ⟨E++ [{ n with born:=clock }],by simp [En.m,En.tv,En.uv],⟨?_,?_,?_⟩,fun e he=> ?_,fun x=> ?_,qL h.sort _ _⟩
  ·
   have hb:=h.ok.born
   rw [Lf] at hb ⊢
   rw [Ru,List.nodup_append]
   refine ⟨hb,by simp,fun x hx y hy=> ?_⟩
   simp only [QL,RG,QO] at hy
   subst hy
   obtain ⟨e,he,rfl⟩:=QT.1 hx
   have:=h.ok.old e.m (QT.2 ⟨e,he,rfl⟩)
   simp only [En.m] at this
   omega
  ·
   intro e he
   rw [Ru] at he
   rcases QJ.1 he with he|he
   ·
    have:=h.ok.old e he;simp only;omega
   ·
    simp only [QL,RG,QO] at he
    subst he
    simp [En.m]
  ·
   rw [FM,Ru,List.nodup_append]
   refine ⟨h.nodup,by simp,fun x hx y hy e=> ?_⟩
   simp only [QL,RG,QO] at hy
   subst hy;subst e
   exact hno' hx
  ·
   rcases QJ.1 he with he|he
   ·
    exact h.en e he
   ·
    rw [QO.1 he]
    exact ⟨hn.tree,hn.uses,hn.tl,hn.ul⟩
  ·
   rw [uR,← h.rel,Ru,QJ]
   constructor
   ·
    rintro (hx|hx)
    ·
     right
     obtain ⟨e,he,rfl⟩:=QT.1 hx
     exact ⟨hx,fun hea=>hno' (QT.2 ⟨e,he,hea⟩)⟩
    ·
     left
     simpa [En.abs] using hx
   ·
    rintro (rfl|⟨hx,_⟩)
    ·
     right;simp [En.abs]
    ·
     left;exact hx
 |some x=>
  obtain ⟨j,v⟩:=x
  obtain ⟨b,_,hj⟩:=kY hk
  rw [Se,QX] at hj
  obtain ⟨e0,he0,hm0⟩:=Rg.1 hj
  have ha:e0.at_=n.at_:=congrArg Prod.fst hm0
  obtain ⟨hjl,hj0⟩:=QB.1 he0
  have hget: ∀ i,(E.modify j fun e=>{ n with born:=e.born })[i]? =if j=i then (E[i]?).map (fun e=>{ n with born:=e.born }) else E[i]? :=fun i=>by
   rw [TA]
   split<;>rename_i hji
   ·
    rfl
   ·
    cases E[i]? <;>rfl
  have hin: ∀ e,e∈(E.modify j fun e=>{ n with born:=e.born })↔e={ n with born:=e0.born } ∨(e∈E∧e.at_≠n.at_):=by
   intro e
   constructor
   ·
    intro he
    obtain ⟨i,hi⟩:=Tu.1 he
    rw [hget] at hi
    split at hi
    ·
     rename_i hji
     subst hji
     rw [he0] at hi
     left
     exact (Option.some.inj hi).symm
    ·
     rename_i hji
     right
     refine ⟨RY hi,fun hea=>hji ?_⟩
     obtain ⟨hil,hi0⟩:=QB.1 hi
     have:=List.getElem_inj (xs:=E.map En.at_) (h₀:=by simpa using hjl) (h₁:=by simpa using hil) h.nodup
     refine this.1 ?_
     simp only [List.getElem_map,hi0,hj0,hea,ha]
   ·
    rintro (rfl|⟨he,hea⟩)
    ·
     refine Tu.2 ⟨j,?_⟩
     rw [hget,if_pos rfl,he0];rfl
    ·
     obtain ⟨i,hil,hi⟩:=Sd he
     refine Tu.2 ⟨i,?_⟩
     rw [hget,if_neg,Ql hil,hi]
     rintro rfl
     rw [hj0] at hi
     exact hea (hi ▸ ha)
  have hborn:(E.modify j fun e=>{ n with born:=e.born }).map En.born=E.map En.born:=by
   apply Tq
   intro i
   rw [QX,QX,hget]
   split
   ·
    cases E[i]? <;>rfl
   ·
    rfl
  have hkeys:(E.modify j fun e=>{ n with born:=e.born }).map En.at_=E.map En.at_:=by
   apply Tq
   intro i
   rw [QX,QX,hget]
   split
   ·
    rename_i hji
    subst hji
    rw [he0]
    simp [ha]
   ·
    rfl
  refine ⟨E.modify j fun e=>{ n with born:=e.born },?_,⟨?_,?_,?_⟩,fun e he=> ?_,fun x=> ?_,qL h.sort _ _⟩
  ·
   apply Tq
   intro i
   simp only [TA,QX]
   cases E[i]? with
   |none=>simp
   |some e=>by_cases hji:j=i<;>simp [hji,En.m,En.tv,En.uv]
  ·
   rw [Lf,hborn,← Lf];exact h.ok.born
  ·
   intro e he
   obtain ⟨e',he',rfl⟩:=QT.1 he
   have:e'.born∈E.map En.born:=by rw [← hborn];exact QT.2 ⟨e',he',rfl⟩
   obtain ⟨e2,he2,hb2⟩:=QT.1 this
   have:=h.ok.old e2.m (QT.2 ⟨e2,he2,rfl⟩)
   simp only [En.m] at this ⊢
   omega
  ·
   rw [FM,hkeys];exact h.nodup
  ·
   rcases (hin e).1 he with rfl|⟨he,_⟩
   ·
    exact ⟨hn.tree,hn.uses,hn.tl,hn.ul⟩
   ·
    exact h.en e he
  ·
   rw [uR,← h.rel]
   constructor
   ·
    intro hx
    obtain ⟨e,he,rfl⟩:=QT.1 hx
    rcases (hin e).1 he with rfl|⟨he,hea⟩
    ·
     left;rfl
    ·
     right;exact ⟨QT.2 ⟨e,he,rfl⟩,hea⟩
   ·
    rintro (rfl|⟨hx,hne⟩)
    ·
     exact QT.2 ⟨_,(hin _).2 (.inl rfl),rfl⟩
    ·
     obtain ⟨e,he,rfl⟩:=QT.1 hx
     exact QT.2 ⟨e,(hin e).2 (.inr ⟨he,hne⟩),rfl⟩
theorem gH {o:Option Out} {k:Nat→PS→Option Out} {x:Int × Int} (h:fw o k=some (.error x)) (h1: ∀ y,o=some (.error y)→y.2≠0) (h2: ∀ n p y,k n p=some (.error y)→y.2≠0):x.2≠0:=by
 obtain ⟨r1,hr,⟨e,rfl,he⟩|⟨n,p,rfl,hk⟩⟩:=bC h
 ·
  cases he;exact h1 _ hr
 ·
  exact h2 _ _ _ hk
theorem rQ {fin:Int} {name:Tk} {fn:Int} {n:Nat} {p:PS} {x:Int × Int} (h:cR fin name fn n p=some (.error x)):x.2≠0:=by
 unfold cR at h
 dsimp only at h
 split at h
 ·
  cases h;simp
 ·
  split at h
  ·
   cases h;simp
  ·
   split at h
   ·
    cases h;simp
   ·
    cases h
theorem JK (fin:Int): ∀ (f:Nat) (j:Job) (p:PS) (x:Int × Int),bq fin f j p=some (.error x)→x.2≠0:=by
 intro f
 induction f with
 |zero=>intro j p x h;cases j<;>cases h
 |succ f ih=>
  intro j p x h
  cases j with
  |level k=>
   rw [bq] at h
   split at h
   ·
    exact ih _ _ _ h
   ·
    exact gH h (ih _ _) fun _ _=>ih _ _
  |loop k=>
   rw [bq] at h
   try dsimp only at h
   split at h
   ·
    exact gH h (ih _ _) fun _ _=>ih _ _
   ·
    cases h
  |sign=>
   rw [bq] at h
   try dsimp only at h
   split at h
   ·
    exact gH h (ih _ _) fun _ _ _ h=>by cases h
   ·
    refine gH h (ih _ _) fun _ _ y h=> ?_
    split at h
    ·
     exact gH h (ih _ _) fun _ _ _ h=>by cases h
    ·
     cases h
  |pct=>
   rw [bq] at h
   exact gH h (ih _ _) fun _ _=>ih _ _
  |pctl=>
   rw [bq] at h
   try dsimp only at h
   split at h
   ·
    exact ih _ _ _ h
   ·
    cases h
  |prim=>
   rw [bq] at h
   try dsimp only at h
   split at h
   ·
    cases h
   ·
    split at h
    ·
     cases h
    ·
     split at h
     ·
      refine gH h (ih _ _) fun _ _ y h=> ?_
      split at h
      ·
       cases h;simp
      ·
       cases h
     ·
      split at h
      ·
       split at h
       ·
        cases h;simp
       ·
        split at h
        ·
         cases h;simp
        ·
         split at h
         ·
          exact rQ h
         ·
          exact gH h (ih _ _) fun _ _ _ h=>rQ h
      ·
       cases h;simp
  |args fn n=>
   rw [bq] at h
   try dsimp only at h
   have hgo: ∀ (p:PS) (y:Int × Int),(if (hdT fin p.l).kind=11 then bq fin f (.args fn (n+1)) p.skip else some (.ok (n+1,p)))=some (.error y)→y.2≠0:=by
    intro p y h
    split at h
    ·
     exact ih _ _ _ h
    ·
     cases h
   split at h
   ·
    exact gH h (ih _ _) fun _ _ _ h=>hgo _ _ h
   ·
    split at h
    ·
     cases h;simp
    ·
     exact hgo _ _ h
theorem oH {x:List Tk × Int × Int} {fin:Int}:(bQ x fin).1.length≤x.1.length∧((bQ x fin).2.2=0→fZ (bQ x fin).1=0):=by
 have hends:=qO fin (20*x.1.length+40) (.level 1) ⟨x.1,[]⟩ ⟨by omega,by omega⟩ (by simp only [Job.c];omega)
 have hgrew:=fun n p hp=>js fin (20*x.1.length+40) (.level 1) ⟨x.1,[]⟩ n p hp
 unfold bQ
 split
 ·
  rename_i h;exact ⟨Qt _,fun h' =>absurd h' h⟩
 ·
  split
  ·
   rename_i h
   obtain ⟨r,hr,_⟩:=hends
   rw [h] at hr;cases hr
  ·
   rename_i a e h
   exact ⟨Qt _,fun h' =>absurd h' (JK _ _ _ _ _ h)⟩
  ·
   rename_i n p hp
   split
   ·
    exact ⟨Qt _,fun h' =>by cases h'⟩
   ·
    split
    ·
     rename_i hc;exact ⟨Qt _,fun h' =>absurd h' hc⟩
    ·
     rename_i hc
     obtain ⟨⟨m,h1,h2,h3⟩,_,_⟩:=hgrew _ _ hp
     simp only [SQ,QG] at h3
     exact ⟨QC h3 h2,fun _=>by simpa using hc⟩
theorem Bx {b:ByteArray} (h:(ofP b).2.2=0) (hf:(ofP b).1.formula=true):fZ (ofP b).1.tree=0:=by
 unfold ofP at h hf ⊢
 split at hf
 ·
  cases hf
 ·
  rename_i h1
  rw [if_neg h1] at h ⊢
  split at hf
  ·
   cases hf
  ·
   rename_i h2
   rw [h2] at h
   simp only at h ⊢
   split at hf
   ·
    cases hf
   ·
    rename_i h3
    rw [if_neg h3] at h ⊢
    have ht:=oH (x:=bE cZ (ap (jL b eqB).1)) (fin:=((jL b eqB).1.size:Int))
    generalize bQ (bE cZ (ap (jL b eqB).1)) ((jL b eqB).1.size:Int)=r at h hf ht ⊢
    obtain ⟨t,at_,e⟩:=r
    simp only at h hf ht ⊢
    split at hf
    ·
     cases hf
    ·
     rename_i h4
     rw [if_neg h4]
     exact ht.2 (by simpa using h4)
theorem FE (b:ByteArray):(ofP b).1.tree.length≤256:=by
 unfold ofP
 split
 ·
  exact Qt _
 ·
  split
  ·
   exact Qt _
  ·
   split
   ·
    exact Qt _
   ·
    have ht:=(oH (x:=bE cZ (ap (jL b eqB).1)) (fin:=((jL b eqB).1.size:Int))).1
    have hl:=mi cZ (ap (jL b eqB).1)
    generalize bQ (bE cZ (ap (jL b eqB).1)) ((jL b eqB).1.size:Int)=r at ht ⊢
    obtain ⟨t,at_,e⟩:=r
    simp only at ht ⊢
    split
    ·
     exact Qt _
    ·
     exact QC ht hl
end Go.SL
namespace Go.SL
open Go Go.Proofs
attribute [local irreducible] W WL WQ WG WA WX WLI WR WT WC VOp RW thn blk bF scp aR bk bJ aL FnIn FnP ceP
theorem iG (p:Int→Bool): ∀ l:List Int,l.takeWhile p=l.take (aD p l)∧l.dropWhile p=l.drop (aD p l)
 | []=>⟨rfl,rfl⟩
 |c::r=>by
  simp only [SC,TD,aD]
  split
  ·
   exact ⟨by rw [(iG p r).1];rfl,by rw [(iG p r).2];rfl⟩
  ·
   exact ⟨rfl,rfl⟩
theorem yQ (a:ByteArray) (ha:a.size≤1000000) (h0:0<a.size) (hlet: ∀ c∈ap a,bS c=true) (w:World):ay Tryz.prog 360 [.string a] w (.tuple #[.int .i64 (if 1024<bp (ap a) 0 then 0 else bp (ap a) 0),.int .i64 (if 1024<bp (ap a) 0 then 3 else 0)]):=by
 refine aq Tryz.func360 rfl Tryz.ntmps360 rfl ?_
 have hl:=au a
 have hpos:=lO (ap a) hlet (RS 0) (.inl (fun h=>by rw [h] at hl;simp at hl;omega))
 obtain ⟨X,hX⟩: ∃ X,bp (ap a) 0=X:=⟨_,rfl⟩
 rw [hX] at hpos ⊢
 repeat' (first|refine sT ?_|refine sS ?_|refine sT2 ?_|refine sM fun _=> ?_|(refine sC ?_ ?_<;>intro hb<;>try omega)|fail)
 refine ax [0] rfl (fun x:Nat × Int=> [(5,.int .i64 (x.1:Int)),(4,.int .i64 x.2)]) (fun _=> []) (fun x=>x.1≤a.size∧0≤x.2∧x.2≤1025∧X=bp ((ap a).drop x.1) x.2) (fun x=>a.size - x.1) (0,0) ⟨by simp,by simp,by simp,hX.symm⟩ sB (.refl _) ?_
 rintro ⟨i,v⟩ ⟨hi,hv0,hv1,hx⟩
 dsimp only at hi hv0 hv1 hx ⊢
 by_cases hlt:i<a.size
 ·
  have hc:=hlet (bat a i) (RY (fu hlt))
  have hok:=ra a i
  rw [bg hlt,bp] at hx
  have hN:=fun w=>o5 (bat a i) hok.1 hok.2 w
  have hN1:BI (bat a i)=upC (bat a i) - 64:=by rw [BI,if_pos hc]
  have hN2:1≤upC (bat a i) - 64∧upC (bat a i) - 64≤26:=by
   have:=(gM _).1 hc
   unfold upC
   split<;>omega
  rw [hN1] at hN
  obtain ⟨d,hd⟩: ∃ d,upC (bat a i) - 64=d:=⟨_,rfl⟩
  rw [hd] at hx hN hN2
  repeat' (first|(apply ak (d:=14);exact rfl;apply aW (j:=i);exact rfl;exact rfl;exact hlt)|(apply ak (d:=21);exact rfl;apply aW (j:=i);exact rfl;exact rfl;exact hlt)|(apply aa (f:=359);exact rfl;exact rfl;(intro w' hm;exact hN w'))|(apply ak (d:=18);exact rfl;apply tV;exact rfl;exact rfl;exact ⟨by omega,by omega⟩)|(apply ak (d:=23);exact rfl;apply eM;exact rfl;exact rfl;exact ⟨by omega,by omega⟩)|refine sT ?_|refine sS ?_|refine sT2 ?_|refine sN ?_|refine sM fun _=> ?_|(refine sC ?_ ?_<;>intro hb<;>try omega)|fail)
  all_goals first
   |(exfalso;omega)
   |(rw [y7];exact ⟨(i+1,min (26*v+d) 1025),⟨hlt,by dsimp only;omega,by dsimp only;omega,hx⟩,by dsimp only;omega,sB,sB,.nil _⟩)
 ·
  have e:i=a.size:=by omega
  subst e
  rw [QK (by omega),bp] at hx
  subst hx
  repeat' (first|refine sT ?_|refine sS ?_|refine sT2 ?_|refine sM fun _=> ?_|(refine sC ?_ ?_<;>intro hb<;>try omega)|fail)
  all_goals first
   |(exfalso;omega)
   |((refine rT2 ?_);first|(rw [if_pos (by omega),if_pos (by omega)])|(rw [if_neg (by omega),if_neg (by omega)]))
theorem Iy (l:List Int):cj l=if l.take (aD bS l)= []∨l.drop (aD bS l)= []∨(l.drop (aD bS l)).head? =some 48∨(l.drop (aD bS l)).all aF=false then (0,0,4)
  else if 1024<bp (l.take (aD bS l)) 0∨1024<lZ (l.drop (aD bS l)) 0 then (0,0,3) else (bp (l.take (aD bS l)) 0,lZ (l.drop (aD bS l)) 0,0):=by
 unfold cj
 rw [(iG bS l).1,(iG bS l).2]
theorem BH {c:Int}:(0<BI c)↔bS c=true:=by
 unfold BI upC
 cases h:bS c with
 |false=>simp
 |true=>
  have:=(gM c).1 h
  simp only [if_true,iff_true]
  by_cases h2:97≤c∧c≤122
  ·
   rw [if_pos h2];omega
  ·
   rw [if_neg h2];omega
set_option maxHeartbeats 1000000 in
theorem DN (a:ByteArray) (ha:a.size≤100000) (w:World):ay Tryz.prog 344 [.string a] w (.tuple #[.agg (bf ⟨(cj (ap a)).1,(cj (ap a)).2.1⟩).toArray,.int .i64 (cj (ap a)).2.2]):=by
 refine aq Tryz.func344 rfl Tryz.ntmps344 rfl ?_
 have hl:=au a
 have hA:=Iy (ap a)
 obtain ⟨A,hAr⟩: ∃ A,aD bS (ap a)=A:=⟨_,rfl⟩
 have hAle:A≤a.size:=by have:=bU bS (ap a);omega
 rw [hAr] at hA
 repeat' (first|refine sT ?_|refine sS ?_|refine sT2 ?_|refine sM fun _=> ?_|(refine sC ?_ ?_<;>intro hb<;>try omega)|fail)
 rename_i g2
 refine ax [0,2] rfl (fun i:Nat=> [(4,.int .i64 (i:Int))]) (fun _=> [.box g2 50 [.int .i64 0,.int .i64 0]]) (fun i=>i≤a.size∧A=i+aD bS ((ap a).drop i)) (fun i=>a.size - i) 0 ⟨by omega,by rw [RM,QG,hAr]⟩ sB (.refl _) ?_
 rintro i ⟨hi,hx⟩
 by_cases hlt:i<a.size∧bS (bat a i)=true
 ·
  have hok:=ra a i
  have hN:=fun w=>o5 (bat a i) hok.1 hok.2 w
  have hp:=BH.2 hlt.2
  rw [bg hlt.1,aD,if_pos hlt.2] at hx
  repeat' (first|(apply ak (d:=16);exact rfl;apply aW (j:=i);exact rfl;exact rfl;omega)|(apply aa (f:=359);exact rfl;exact rfl;(intro w' hm;exact hN w'))|refine sT ?_|refine sS ?_|refine sT2 ?_|refine sN ?_|refine sM fun _=> ?_|(refine sC ?_ ?_<;>intro hb<;>try omega)|fail)
  all_goals first
   |(exfalso;omega)
   |exact ⟨i+1,⟨by omega,by omega⟩,by omega,sB,sB,.refl _⟩
 have hAi:A=i:=by
  rw [hx]
  by_cases h:i<a.size
  ·
   rw [bg h,aD,if_neg (fun h2=>hlt ⟨h,h2⟩)];rfl
  ·
   rw [pU (by omega)];rfl
 subst hAi
 have hexit:A<a.size→BI (bat a A)≤0:=fun h=>by
  have: ¬ 0<BI (bat a A):=fun h2=>hlt ⟨h,BH.1 h2⟩
  omega
 have hN:=fun w=>o5 (bat a A) (ra a A).1 (ra a A).2 w
 have htk:(ap a).take A= []↔A=0:=by
  rw [List.take_eq_nil_iff]
  constructor
  ·
   rintro (h|h)
   ·
    exact h
   ·
    rw [h] at hl;simp at hl;omega
  ·
   exact .inl
 have hdr:(ap a).drop A= []↔A=a.size:=by rw [List.drop_eq_nil_iff];omega
 have hhd:A<a.size→(((ap a).drop A).head? =some 48↔bat a A=48):=fun h=>by rw [bg h];simp
 by_cases hbad:A=0∨A=a.size∨bat a A=48
 ·
  have hres:cj (ap a)=(0,0,4):=by
   rw [hA,if_pos]
   rcases hbad with h|h|h
   ·
    exact .inl (htk.2 h)
   ·
    exact .inr (.inl (hdr.2 h))
   ·
    by_cases hA2:A<a.size
    ·
     exact .inr (.inr (.inl ((hhd hA2).2 h)))
    ·
     exact .inr (.inl (hdr.2 (by omega)))
  rw [hres]
  repeat' (first|(apply ak (d:=16);exact rfl;apply aW (j:=A);exact rfl;exact rfl;omega)|(apply ak (d:=33);exact rfl;apply aW (j:=A);exact rfl;exact rfl;omega)|(apply aa (f:=359);exact rfl;exact rfl;(intro w' hm;exact hN w'))|refine sT ?_|refine sS ?_|refine sT2 ?_|refine sN ?_|refine sM fun _=> ?_|(refine sC ?_ ?_<;>intro hb<;>try omega)|fail)
  all_goals first
   |(exfalso;omega)
   |((refine eJ ?_);rfl)
 have hA1:0<A:=by omega
 have hA2:A<a.size:=by omega
 have hn48:bat a A≠48:=fun h=>hbad (.inr (.inr h))
 simp only [htk,hdr,hhd hA2,show ¬ A=0 by omega,show ¬ A=a.size by omega,hn48,false_or] at hA
 repeat' (first|(apply ak (d:=16);exact rfl;apply aW (j:=A);exact rfl;exact rfl;omega)|(apply ak (d:=33);exact rfl;apply aW (j:=A);exact rfl;exact rfl;omega)|(apply aa (f:=359);exact rfl;exact rfl;(intro w' hm;exact hN w'))|refine sT ?_|refine sS ?_|refine sT2 ?_|refine sN ?_|refine sM fun _=> ?_|(refine sC ?_ ?_<;>intro hb<;>try omega)|fail)
 all_goals try (exfalso;omega)
 refine ax [0,2,4] rfl (fun x:Nat × Int=> [(6,.int .i64 (x.1:Int)),(5,.int .i64 x.2)]) (fun _=> [.box g2 50 [.int .i64 0,.int .i64 0]]) (fun x=>A≤x.1∧x.1≤a.size∧0≤x.2∧x.2≤1025∧lZ ((ap a).drop A) 0=lZ ((ap a).drop x.1) x.2∧((ap a).drop A).all aF=((ap a).drop x.1).all aF) (fun x=>a.size - x.1) (A,0) ⟨by simp,by dsimp only;omega,by simp,by simp,rfl,rfl⟩ sB (.refl _) ?_
 rintro ⟨i,v⟩ ⟨hi0,hi,hv0,hv1,hr,hall⟩
 dsimp only at hi0 hi hv0 hv1 hr hall ⊢
 by_cases hlt2:i<a.size
 ·
  have hok:=ra a i
  rw [bg hlt2] at hr hall
  rw [lZ] at hr
  rw [ST] at hall
  have hd:=eB (bat a i)
  by_cases hdg:aF (bat a i)=true
  ·
   obtain ⟨hd1,hd2⟩:=hd.1 hdg
   rw [hdg,QS] at hall
   obtain ⟨d,hdd⟩: ∃ d,bat a i - 48=d:=⟨_,rfl⟩
   rw [hdd] at hr
   repeat' (first|(apply ak (d:=46);exact rfl;apply aW (j:=i);exact rfl;exact rfl;exact hlt2)|(apply ak (d:=51);exact rfl;apply aW (j:=i);exact rfl;exact rfl;exact hlt2)|(apply ak (d:=59);exact rfl;apply aW (j:=i);exact rfl;exact rfl;exact hlt2)|(apply ak (d:=56);exact rfl;apply tV;exact rfl;exact rfl;exact ⟨by omega,by omega⟩)|(apply ak (d:=60);exact rfl;apply dz (c:=d);exact rfl;exact rfl;(rw [hdd];exact wrap_u8 (by omega) (by omega)))|(apply ak (d:=61);exact rfl;apply bP (c:=d);exact rfl;exact I64.wrap ⟨by omega,by omega⟩)|(apply ak (d:=62);exact rfl;apply eM;exact rfl;exact rfl;exact ⟨by omega,by omega⟩)|refine sT ?_|refine sS ?_|refine sT2 ?_|refine sN ?_|refine sM fun _=> ?_|(refine sC ?_ ?_<;>intro hb<;>try omega)|fail)
   all_goals first
    |(exfalso;omega)
    |(rw [y7];exact ⟨(i+1,min (10*v+d) 1025),⟨by dsimp only;omega,hlt2,by dsimp only;omega,by dsimp only;omega,hr,hall⟩,by dsimp only;omega,sB,sB,.refl _⟩)
  ·
   have hdf:aF (bat a i)=false:=by simpa using hdg
   rw [hdf,Rt] at hall
   rw [if_pos hall] at hA
   have hno: ¬ (48≤bat a i∧bat a i≤57):=fun h=>hdg (hd.2 h)
   rw [hA]
   repeat' (first|(apply ak (d:=46);exact rfl;apply aW (j:=i);exact rfl;exact rfl;exact hlt2)|(apply ak (d:=51);exact rfl;apply aW (j:=i);exact rfl;exact rfl;exact hlt2)|(apply ak (d:=59);exact rfl;apply aW (j:=i);exact rfl;exact rfl;exact hlt2)|(apply ak (d:=56);exact rfl;apply tV;exact rfl;exact rfl;exact ⟨by omega,by omega⟩)|refine sT ?_|refine sS ?_|refine sT2 ?_|refine sN ?_|refine sM fun _=> ?_|(refine sC ?_ ?_<;>intro hb<;>try omega)|fail)
   all_goals first
    |(exfalso;omega)
    |((refine eJ ?_);rfl)
 ·
  have e2:i=a.size:=by omega
  subst e2
  have e3:(ap a).drop a.size= []:=QK (by omega)
  rw [e3,List.all_nil] at hall
  rw [e3,lZ] at hr
  rw [hall,hr] at hA
  simp only [Bool.true_eq_false,if_false] at hA
  have hsub:ap (sub a 0 A)=(ap a).take A:=tq a A
  have hC:=fun w=>yQ (sub a 0 A) (by rw [bY a hAle];omega) (by rw [bY a hAle];omega) (fun c hc=>by
   rw [hsub] at hc
   obtain ⟨k,hk⟩:=Tu.1 hc
   have hkl:k<A:=by
    have:=(QB.1 hk).1
    rw [QD] at this;omega
   rw [Sx hkl] at hk
   exact jB (ap a) k c (by omega) hk) w
  rw [hsub] at hC
  generalize bp ((ap a).take A) 0=L at hC hA
  rw [hA]
  repeat' (first|(apply ak (d:=67);exact rfl;apply C9 (hi:=A);exact rfl;exact rfl;exact hAle)|(apply aa (f:=360);exact rfl;exact rfl;(intro w' hm;exact hC w'))|refine sT ?_|refine sS ?_|refine sT2 ?_|refine sN ?_|refine sM fun _=> ?_|(refine sC ?_ ?_<;>intro hb<;>try omega)|fail)
  all_goals
   (refine eJ ?_)
   by_cases h1:1024<L<;>by_cases h2:1024<v<;>first|(exfalso;simp only [h1,if_true,if_false] at*;omega)|(simp only [h1,h2,if_true,if_false,or_true,true_or,or_self];rfl)
theorem MS (R:List Blk):GOk R [] 0 []:=⟨⟨List.nodup_nil,(fun _ h=>by cases h),List.nodup_nil⟩,(fun _ h=>by cases h),(fun _=>Iff.rfl),xa⟩
def Qf (e:En):List Value:= [.int .i64 e.at_.col,.int .i64 e.at_.row,e.tv,e.uv]
def rgB (g:Nat) (A:Option Nat) (cap:Nat) (L:List En):List Blk:= [.box g 167 [sl A L.length cap],.own A 169 4 L.length cap (L.flatMap Qf)]
structure RGOk (R:List Blk) (L:List En) (G:Gr):Prop where
 en: ∀ e∈L,EnOk R e
 rel:L.map En.abs=G
end Go.SL
namespace Go.SL
open Go
structure EntOk (e:Rf × List Nd × List Us):Prop where
 at_:e.1.valid=true
 tree:fZ e.2.1=0
 uses:e.2.2=eO e.2.1
 len:e.2.1.length≤256
structure GrOk (G:Gr):Prop where
 sort:SortG G
 ent: ∀ e∈G,EntOk e
theorem KF:GrOk []:=⟨xa,fun _ h=>by cases h⟩
theorem GrOk.set {G:Gr} (h:GrOk G) (a:Rf) (b:ByteArray):GrOk (jh G a b).1:=by
 refine ⟨GG h.sort a b,?_⟩
 unfold jh
 split
 ·
  exact h.ent
 ·
  rename_i hv
  split
  ·
   exact h.ent
  ·
   rename_i he
   split
   ·
    exact fun e he=>h.ent e (uS.1 he).1
   ·
    rename_i hf
    intro e hm
    rcases uR.1 hm with rfl|⟨hm,_⟩
    ·
     exact ⟨by simpa using hv,Bx (by simpa using he) (by simpa using hf),rfl,FE b⟩
    ·
     exact h.ent e hm
theorem JB (G:Gr) (a:Rf) (b:ByteArray):(jh G a b).1.length≤G.length+1:=by
 unfold jh
 split
 ·
  exact SX _
 ·
  split
  ·
   exact SX _
  ·
   split
   ·
    exact QC (Sw _ _) (SX _)
   ·
    simp only [Ek,Qk,QF]
    have:(G.filter fun e=>aQ e.1 a).length+(G.filter fun e=>aQ a e.1).length≤G.length:=by
     induction G with
     |nil=>simp
     |cons e r ih=>
      simp only [Td,QF]
      cases h1:aQ e.1 a
      ·
       cases h2:aQ a e.1<;>simp<;>omega
      ·
       rw [rI h1];simp;omega
    omega
theorem wT {c r:Int}:valid c r=true↔1≤c∧c≤1024∧1≤r∧r≤1024:=by
 simp only [valid,Qu,decide_eq_true_eq]
 omega
theorem Hy {G:Gr} {c:Rf}:c∈bZ G↔ ∃ e∈G,e.1=c:=by simp [bZ]
theorem HH {G:Gr} (h:GrOk G) {d:Rf} (hd:d∈bZ G):d.valid=true:=by
 obtain ⟨e,he,rfl⟩:=Hy.1 hd
 exact (h.ent e he).at_
theorem Gu {G:Gr} (h:GrOk G) (c:Rf):(iO G c).length≤256:=by
 unfold iO
 cases hl:uW G c with
 |none=>simp
 |some x=>
  have h1:=h.ent _ ((uV h.sort).1 hl)
  simp only [Ry,SF]
  rw [h1.uses]
  exact QC (je _ _) h1.len
end Go.SL
namespace Go.SL
open Go Go.Proofs
attribute [local irreducible] W WL WQ WG WA WX WLI WR WT WC VOp RW thn blk bF scp aR bk bJ aL FnP ceP
structure Gp where
 gg:Nat
 gm:Nat
 E:List En
 clock:Nat
 gr:Nat
 A:Option Nat
 cap:Nat
 Q:List En
 R:List Blk
theorem JS {f:FuncId} {args:List Value} {w0:World} {B H:List Blk} {φ:Value→Option Nat→Nat→Prop} {t sz n:Nat} {cs:List Value}
  (h: ∀ F,FnIn Tryz.prog f args w0 (B++F) fun v H' => ∃ A cap,φ v A cap∧H' = .own A t sz n cap cs::(B++F)) (hs:MSub B H):
  FnIn Tryz.prog f args w0 H fun v H' => ∃ A cap,φ v A cap∧H' = .own A t sz n cap cs::H:=by
 obtain ⟨F,hp⟩:=hs
 refine ((h F).msub (MSub.of_perm hp)).re ?_
 rintro v H' ⟨A,cap,hv,rfl⟩
 exact ⟨_,MSub.of_perm (hp.symm.cons _),A,cap,hv,rfl⟩
section
variable {R:List Blk} {E:List En} {clock:Nat} {G:Gr} (h:GOk R E clock G) (gg gm:Nat) {H:List Blk} (hs:MSub (gB gg gm (E.map En.m) clock++R) H) (w0:World)
include h hs
theorem GOk.uses_any (c:Rf):FnIn Tryz.prog 125 [.pointer (some ⟨gg,0,none⟩),pg c] w0 H fun v H' => ∃ A cap,v=sl A (iO G c).length cap∧H' = .own A 159 6 (iO G c).length cap ((iO G c).flatMap fq)::H:=by
 refine JS (φ:=fun v A cap=>v=sl A (iO G c).length cap) (fun F=> ?_) hs
 have h1:=Nu gg gm clock E c (R++F) w0 (fun e he=>(h.en e he).sub (MSub.appL R F))
 rw [h.uses] at h1
 rw [QH]
 exact h1
variable (hl:G.length≤900)
include hl
theorem GOk.formulas_any:FnIn Tryz.prog 123 [.pointer (some ⟨gg,0,none⟩)] w0 H fun v H' => ∃ A cap,v=sl A (bZ G).length cap∧H' = .own A 50 2 (bZ G).length cap ((bZ G).flatMap bf)::H:=by
 refine JS (φ:=fun v A cap=>v=sl A (bZ G).length cap) (fun F=> ?_) hs
 have h1:=CJ gg gm clock (E.map En.m) h.ok (by rw [Rc,h.len];omega) (R++F) w0
 rw [h.forms,show (E.map En.m).length=(bZ G).length by rw [Rc,h.len,bZ,Rc]] at h1
 rw [QH]
 exact h1
variable (hG:GrOk G)
include hG
end
end Go.SL
namespace Go.SL
open Go Go.Proofs
attribute [local irreducible] W WL WQ WG WA WX WLI WR WT WC VOp RW thn blk bF scp aR bk bJ aL FnIn FnP ceP
set_option maxHeartbeats 2000000 in
theorem Ny (gg gm clock:Nat) (E:List En) (G:Gr) (a:Rf) (b:ByteArray) (R F:List Blk) (w0:World) (hG:GOk R E clock G) (hW:Words w0):
  FnIn Tryz.prog 153 [.pointer (some ⟨gg,0,none⟩),pg a,.string b] w0 (gB gg gm (E.map En.m) clock++(R++F)) fun v H=>v= .int .i64 (jh G a b).2∧ ∃ E' clock' R',H=gB gg gm (E'.map En.m) clock' ++(R' ++F)∧MSub R R' ∧GOk R' E' clock' (jh G a b).1:=by
 refine dx Tryz.func153 rfl Tryz.ntmps153 rfl ?_
 have hV:=fun (w' :World) (H' :List Blk) (hm:Mem w0 w' H')=>(jy a.col a.row w' :ay Tryz.prog 71 [pg a] w' (.bool (valid a.col a.row)))
 have hO:=fun (w' :World) (H' :List Blk) (hm:Mem w0 w' H')=>Lt b w' (hW.next hm)
 unfold gB
 unfold jh
 by_cases hv:a.valid=false
 ·
  rw [if_pos hv]
  have hv' :valid a.col a.row=false:=hv
  rw [hv'] at hV
  repeat' (first|(apply aa (f:=71);exact rfl;exact rfl;(intro w' hm;exact hV w' _ hm))|refine sT ?_|refine sS ?_|refine sW ?_|refine sM fun _=> ?_|(refine sC ?_ ?_<;>intro hb<;>try omega)|(refine sCW ?_ ?_<;>intro hb<;>try omega)|fail)
  all_goals exact cf eIO rfl rfl mS ⟨rfl,E,clock,R,rfl,MSub.refl _,hG⟩
 rw [if_neg hv]
 have hv' :valid a.col a.row=true:=by
  have:a.valid=valid a.col a.row:=rfl
  rw [this] at hv
  simpa using hv
 rw [hv'] at hV
 have hlen:=FE b
 have htree:=Bx (b:=b)
 generalize ofP b=r at hO hlen htree
 obtain ⟨⟨fm,v,t⟩,at_,e⟩:=r
 simp only [ofV,zn] at hO
 dsimp only at hlen htree ⊢
 by_cases he:e≠0
 ·
  rw [if_pos he]
  repeat' (first|(apply aa (f:=71);exact rfl;exact rfl;(intro w' hm;exact hV w' _ hm))|(apply aA (f:=99);exact rfl;exact rfl;(intro w' hm;exact hO w' _ hm);rintro _ _ ⟨A,cap,rfl,rfl⟩)|refine sT ?_|refine sS ?_|refine sW ?_|refine sM fun _=> ?_|(refine sC ?_ ?_<;>intro hb<;>try omega)|(refine sCW ?_ ?_<;>intro hb<;>try omega)|fail)
  all_goals exact cf eIO rfl rfl mS ⟨rfl,E,clock,R,rfl,MSub.refl _,hG⟩
 rw [if_neg he]
 have he0:e=0:=by omega
 subst he0
 cases fm with
 |false=>
  obtain ⟨E',hE',hG'⟩:=hG.del a
  rw [if_pos rfl]
  repeat' (first|(apply aa (f:=71);exact rfl;exact rfl;(intro w' hm;exact hV w' _ hm))|(apply aA (f:=99);exact rfl;exact rfl;(intro w' hm;exact hO w' _ hm);rintro _ _ ⟨A,cap,rfl,rfl⟩)|refine sT ?_|refine sS ?_|refine sW ?_|refine sM fun _=> ?_|(refine sC ?_ ?_<;>intro hb<;>try omega)|(refine sCW ?_ ?_<;>intro hb<;>try omega)|fail)
  rename_i g4 g7
  refine jc (id:=9) [5] [] [.box gg 199 [.map (some gm)],.box g4 50 (bf a)] (by kernel_rfl) (by kernel_rfl) (by kernel_rfl) mS ?_
  repeat' (first|(apply di;(iterate 3 exact rfl);apply gY;exact rfl)|(apply Gc (enc:=pg) (t:=197);(iterate 3 exact rfl);exact pK;rw [← hE'])|refine sT ?_|refine sS ?_|refine sW ?_|refine sM fun _=> ?_|(refine sC ?_ ?_<;>intro hb<;>try omega)|(refine sCW ?_ ?_<;>intro hb<;>try omega)|fail)
  all_goals exact cf eIO rfl rfl mS ⟨rfl,E',clock,R,rfl,MSub.refl _,hG'⟩
 |true=>
  have hck:=htree rfl rfl
  rw [if_neg (by simp)]
  have hU:=fun (w' :World) (A:Option Nat) (cap:Nat) (H' :List Blk) (hi:In (.own A 293 11 t.length cap (t.flatMap bT)) H') (hm:Mem w0 w' H')=>Nv t (sl A t.length cap) w' (Reads.of_own hm hi) (by omega)
  have hue:uf t=(eO t,0):=by unfold uf;rw [hck];rfl
  have hul:(eO t).length≤256:=QC (je t 0) hlen
  rw [hue] at hU
  repeat' (first|(apply aa (f:=71);exact rfl;exact rfl;(intro w' hm;exact hV w' _ hm))|(apply aA (f:=99);exact rfl;exact rfl;(intro w' hm;exact hO w' _ hm);rintro _ _ ⟨A,cap,rfl,rfl⟩)|(apply aA (f:=200);exact rfl;exact rfl;(intro w' hm;exact hU w' _ _ _ pK hm);rintro _ _ ⟨A2,cap2,rfl,rfl⟩)|refine sT ?_|refine sS ?_|refine sW ?_|refine sM fun _=> ?_|(refine sC ?_ ?_<;>intro hb<;>try omega)|(refine sCW ?_ ?_<;>intro hb<;>try omega)|fail)
  rename_i g4 g7
  have hGR:=hG.sub (R' := .own A 293 11 t.length cap (t.flatMap bT):: .own A2 159 6 (eO t).length cap2 ((eO t).flatMap fq)::R) mS
  obtain ⟨E',hE',hG'⟩:=hGR.put ⟨a,A.map fun g=>⟨g,0,none⟩,cap,A2.map fun g=>⟨g,0,none⟩,cap2,t,eO t,0⟩ ⟨rdIn.own (A:=A) pK,rdIn.own (A:=A2) pK,by dsimp only;omega,by dsimp only;omega⟩
  generalize hck2:(mV a (.agg #[sl A t.length cap,sl A2 (eO t).length cap2]) clock (E.map En.m))=kp
  have hE2:E'.map En.m=kp.1:=hck2 ▸ hE'
  have hG2:GOk _ E' kp.2 (Ek G a (t,eO t)):=hck2 ▸ hG'
  refine jc (id:=14) [9] [] [.box gg 199 [.map (some gm)],.box g4 50 (bf a),.box g7 130 [.bool true,.int .u8 v.kind,.int .i64 v.num,.string v.text,sl A t.length cap]] (by kernel_rfl) (by kernel_rfl) (by kernel_rfl) mS ?_
  repeat' (first|(apply di;(iterate 3 exact rfl);apply gY;exact rfl)|(apply wP (enc:=pg);(iterate 3 exact rfl);exact pK;rw [hck2,← hE2])|refine sT ?_|refine sS ?_|refine sW ?_|refine sM fun _=> ?_|(refine sC ?_ ?_<;>intro hb<;>try omega)|(refine sCW ?_ ?_<;>intro hb<;>try omega)|fail)
  all_goals exact cf eIO rfl rfl (H' :=gB gg gm (E'.map En.m) kp.2++((.own A 293 11 t.length cap (t.flatMap bT):: .own A2 159 6 (eO t).length cap2 ((eO t).flatMap fq)::R)++F)) (by unfold gB;simp only [Qy,Qm,Qn];exact mS) ⟨rfl,E',kp.2,_,rfl,mS,hG2⟩
theorem Pd (gg gm clock:Nat) (E:List En) (G:Gr) (a:Rf) (b:ByteArray) (R:List Blk) (w0:World) (hG:GOk R E clock G) (hW:Words w0):
  FnIn Tryz.prog 153 [.pointer (some ⟨gg,0,none⟩),pg a,.string b] w0 (gB gg gm (E.map En.m) clock++R) fun v H=>v= .int .i64 (jh G a b).2∧ ∃ E' clock' R',H=gB gg gm (E'.map En.m) clock' ++R' ∧MSub R R' ∧GOk R' E' clock' (jh G a b).1:=by
 have h:=Ny gg gm clock E G a b R [] w0 hG hW
 simp only [Qr] at h
 exact h
structure Et where
 at_:Rf
 input:ByteArray
def aK (e:Et):List Value:= [.int .i64 e.at_.col,.int .i64 e.at_.row,.string e.input]
theorem bz (e:Et):(aK e).length=3:=rfl
def fT (b:Option Rf) (e:Et):Int:=if e.at_.valid=false then 3 else if (match b with|some p=>aQ p e.at_|none=>true)=false then 12 else if e.input=av then 2 else (ofP e.input).2.2
def dB:Nat→Option Rf→List Et→Int × Int
 |_,_,[]=>(0,0)
 |i,b,e::r=>if fT b e≠0 then ((i:Int),fT b e) else dB (i+1) (some e.at_) r
def cN (L:List Et):Int × Int:=dB 0 none L
def iT (L:List Et) (i:Nat):Option Rf:=if i=0 then none else (L[i - 1]?).map Et.at_
set_option maxHeartbeats 2000000 in
theorem oI (L:List Et) (tv:Value) (w:World) (ht:Reads w tv L.length (L.flatMap aK)) (hlen:L.length≤1000000) (hW:Words w):
    ay Tryz.prog 59 [tv] w (.tuple #[.int .i64 (cN L).1,.int .i64 (cN L).2]):=by
  obtain ⟨Al,cl,rfl,hl1,hl2,hl3⟩:=ht
  refine aq Tryz.func59 rfl Tryz.ntmps59 rfl ?_
  repeat' (first|refine sT ?_|refine sS ?_|refine sM fun _=> ?_|(refine sC ?_ ?_<;>intro hb<;>try omega)|fail)
  refine ax [0,2,3,9,10] rfl (fun i:Nat=> [(11,.int .i64 (i:Int))]) (fun _=> []) (fun i=>i≤L.length∧cN L=dB i (iT L i) (L.drop i)) (fun i=>L.length - i) 0 ⟨by omega,rfl⟩ sB (.refl _) ?_
  rintro i ⟨hi,hck⟩
  by_cases hlt:i<L.length
  · obtain ⟨gl,ol,rfl,hrl⟩:=hl3 (by omega)
    have he:=hrl.elem bz i hlt
    have hprev: ∀ h:0<i,Ro w gl (ol+(i - 1)*3) (aK L[i - 1]):=fun h=>hrl.elem bz (i - 1) (by omega)
    have hbef: ∀ h:0<i,iT L i=some L[i - 1].at_:=fun h=>by unfold iT;rw [if_neg (by omega),Ql (by omega)];rfl
    have hbef0:i=0→iT L i=none:=fun h=>by unfold iT;rw [if_pos h]
    have hnext:iT L (i+1)=some L[i].at_:=by unfold iT;rw [if_neg (by omega),RZ,Ql hlt];rfl
    rw [Qs hlt,dB,← hnext] at hck
    generalize L[i]=e at he hck
    have hV: ∀ w',ay Tryz.prog 71 [.agg (bf e.at_).toArray] w' (.bool e.at_.valid):=fun w' =>jy e.at_.col e.at_.row w'
    have hO:=fun (w' :World) (H' :List Blk) (hm:Mem w w' H')=>Lt e.input w' (hW.next hm)
    by_cases h0:0<i
    · have hp:=hprev h0
      rw [hbef h0] at hck
      generalize L[i - 1]=b at hp hck
      have hL:=fun w' =>zA b.at_ e.at_ w'
      unfold fT at hck
      simp only at hck
      have hofV: ∀ (A:Option Nat) (cap:Nat),ofV A cap (ofP e.input)= .tuple #[.agg (zn (ofP e.input).1 (sl A (ofP e.input).1.tree.length cap)).toArray,.int .i64 (ofP e.input).2.1,.int .i64 (ofP e.input).2.2]:=fun _ _=>rfl
      simp only [hofV] at hO
      generalize ofP e.input=o at hO hck
      obtain ⟨⟨f1,f2,f3⟩,oa,oe⟩:=o
      simp only [zn] at hO
      simp only at hck
      generalize e.at_.valid=vd at hV hck
      generalize aQ b.at_ e.at_=ls at hL hck
      repeat' (first|(apply ak (d:=14);exact rfl;apply aj;exact rfl;exact rfl;exact hlt)|(apply ak (d:=15);exact rfl;apply aB;exact rfl;exact he;exact rfl)|(apply di (d:=29);(iterate 3 exact rfl);apply eL (o:=ol+(i - 1)*3) (off:=0) hp (ys:=bf b.at_);(iterate 3 exact rfl))|(apply aa;exact rfl;exact rfl;(intro w hm;exact hV w))|(apply (bX (id:=6) [11] []);kernel_rfl;kernel_rfl;kernel_rfl)|(apply di;(iterate 3 exact rfl);apply aj (j:=i - 1);exact rfl;exact rfl;omega)|(apply aa (f:=46);exact rfl;exact rfl;(intro w' hm;exact hL w'))|(apply aA (f:=99);exact rfl;exact rfl;(intro w' hm;exact hO w' _ hm);rintro _ _ ⟨A,cap,rfl,rfl⟩)|refine sT ?_|refine sS ?_|refine sW ?_|refine sN ?_|refine sWN ?_|refine sM fun _=> ?_|(refine sC ?_ ?_<;>intro hb<;>try omega)|(refine sCW ?_ ?_<;>intro hb<;>try omega)|fail)
      all_goals clear hofV
      all_goals first
        |(refine eR eIO rfl rfl rfl (.nil _) ?_;rw [hck];simp_all [av];done)
        | (refine ⟨i + 1, ⟨hlt, ?_⟩, by omega, ?_, ?_, .nil _⟩
           · rw [hck];simp_all [av]
           · exact sB
           · exact sB)
    · have h00:i=0:=by omega
      rw [hbef0 h00] at hck
      unfold fT at hck
      simp only at hck
      have hofV: ∀ (A:Option Nat) (cap:Nat),ofV A cap (ofP e.input)= .tuple #[.agg (zn (ofP e.input).1 (sl A (ofP e.input).1.tree.length cap)).toArray,.int .i64 (ofP e.input).2.1,.int .i64 (ofP e.input).2.2]:=fun _ _=>rfl
      simp only [hofV] at hO
      generalize ofP e.input=o at hO hck
      obtain ⟨⟨f1,f2,f3⟩,oa,oe⟩:=o
      simp only [zn] at hO
      simp only at hck
      generalize e.at_.valid=vd at hV hck
      repeat' (first|(apply ak (d:=14);exact rfl;apply aj;exact rfl;exact rfl;exact hlt)|(apply ak (d:=15);exact rfl;apply aB;exact rfl;exact he;exact rfl)|(apply aa;exact rfl;exact rfl;(intro w hm;exact hV w))|(apply (bX (id:=6) [11] []);kernel_rfl;kernel_rfl;kernel_rfl)|(apply aA (f:=99);exact rfl;exact rfl;(intro w' hm;exact hO w' _ hm);rintro _ _ ⟨A,cap,rfl,rfl⟩)|refine sT ?_|refine sS ?_|refine sW ?_|refine sN ?_|refine sWN ?_|refine sM fun _=> ?_|(refine sC ?_ ?_<;>intro hb<;>try omega)|(refine sCW ?_ ?_<;>intro hb<;>try omega)|fail)
      all_goals clear hofV
      all_goals first
        |(refine eR eIO rfl rfl rfl (.nil _) ?_;rw [hck];simp_all [av];done)
        | (refine ⟨i + 1, ⟨hlt, ?_⟩, by omega, ?_, ?_, .nil _⟩
           · rw [hck];simp_all [av]
           · exact sB
           · exact sB)
  · have e2:i=L.length:=by omega
    subst e2
    rw [Rk,dB] at hck
    repeat' (first|refine sT ?_|refine sS ?_|refine sM fun _=> ?_|(refine sC ?_ ?_<;>intro hb<;>try omega)|fail)
    all_goals (refine eR eIO rfl rfl rfl (.nil _) ?_;rw [hck])
def BB:Gr→List Et→Option Gr × Int
 |G,[]=>(some G,0)
 |G,e::r=>if (jh G e.at_ e.input).2≠0 then (none,(jh G e.at_ e.input).2) else BB (jh G e.at_ e.input).1 r
def o8 (L:List Et):Option Gr × Int:=if (cN L).2≠0 then (none,(cN L).2) else BB [] L
def Qh (r:Option Gr × Int) (v:Value) (H:List Blk):Prop:=match r with
 |(none,e)=>v= .tuple #[.pointer none,.int .i64 e]∧H= []
 |(some G,_)=> ∃ gg gm E clock R,v= .tuple #[.pointer (some ⟨gg,0,none⟩),.int .i64 0]∧H=gB gg gm (E.map En.m) clock++R∧GOk R E clock G
set_option maxHeartbeats 2000000 in
theorem Pf (L:List Et) (tv:Value) (w:World) (ht:Reads w tv L.length (L.flatMap aK)) (hlen:L.length≤1000000) (hW:Words w):
  aL Tryz.prog 122 [tv] w (Qh (o8 L)):=by
 have hC:=fun (w' :World) (H:List Blk) (hm:Mem w w' H)=>oI L tv w' (ht.of_w0 hm) hlen (hW.next hm)
 obtain ⟨Al,cl,rfl,hl1,hl2,hl3⟩:=ht
 refine aq Tryz.func122 rfl Tryz.ntmps122 rfl ?_
 unfold o8
 generalize cN L=c at hC
 obtain ⟨ci,ce⟩:=c
 dsimp only at hC ⊢
 by_cases hce:ce≠0
 ·
  rw [if_pos hce]
  repeat' (first|(apply aa (f:=59);exact rfl;exact rfl;(intro w' hm;exact hC w' _ hm))|refine sT ?_|refine sS ?_|refine sM fun _=> ?_|(refine sC ?_ ?_<;>intro hb<;>try omega)|fail)
  all_goals exact eR eIO rfl rfl rfl (.nil _) ⟨rfl,rfl⟩
 rw [if_neg hce]
 have hce0:ce=0:=by omega
 subst hce0
 repeat' (first|(apply aa (f:=59);exact rfl;exact rfl;(intro w' hm;exact hC w' _ hm))|(apply oQ (enc:=pg);exact rfl;intro gm)|refine sT ?_|refine sS ?_|refine sM fun _=> ?_|(refine sC ?_ ?_<;>intro hb<;>try omega)|fail)
 rename_i gg
 refine ax [6,21,22] rfl (fun x:Nat × List En × Nat × Gr × List Blk=> [(23,.int .i64 (x.1:Int))]) (fun x=>gB gg gm (x.2.1.map En.m) x.2.2.1++x.2.2.2.2) (fun x=>x.1≤L.length∧GOk x.2.2.2.2 x.2.1 x.2.2.1 x.2.2.2.1∧BB [] L=BB x.2.2.2.1 (L.drop x.1)) (fun x=>L.length - x.1) (0,[],0,[],[]) ⟨by simp,MS [],rfl⟩ sB (by unfold gB;exact mS) ?_
 rintro ⟨i,E,clock,G,R⟩ ⟨hi,hG,hnew⟩
 dsimp only at hi hG hnew ⊢
 by_cases hlt:i<L.length
 ·
  obtain ⟨gl,ol,rfl,hrl⟩:=hl3 (by omega)
  have he:=hrl.elem bz i hlt
  rw [Qs hlt,BB] at hnew
  generalize L[i]=e at he hnew
  have hS:=Pd gg gm clock E G e.at_ e.input R w hG hW
  generalize jh G e.at_ e.input=sg at hS hnew
  obtain ⟨G',se⟩:=sg
  dsimp only at hS hnew
  repeat' (first|(apply ak (d:=25);exact rfl;apply aj;exact rfl;exact rfl;exact hlt)|(apply ak (d:=26);exact rfl;apply aB;exact rfl;exact he;exact rfl)|(apply aw (f:=153);exact rfl;exact rfl;exact FnIn.msub hS (by unfold gB;exact mS);rintro _ _ ⟨rfl,E',clock',R',rfl,hsub,hG'⟩)|refine sT ?_|refine sS ?_|refine sN ?_|refine sM fun _=> ?_|(refine sC ?_ ?_<;>intro hb<;>try omega)|fail)
  ·
   rw [hnew,if_pos (by assumption)]
   exact eR eIO rfl rfl rfl (.nil _) ⟨rfl,rfl⟩
  ·
   rw [if_neg (by assumption)] at hnew
   refine ⟨(i+1,E',clock',G',R'),⟨hlt,hG',hnew⟩,(by dsimp only;omega),sB,sB,?_⟩
   unfold gB
   exact mS
 ·
  have e2:i=L.length:=by omega
  subst e2
  rw [Rk,BB] at hnew
  rw [hnew]
  repeat' (first|refine sT ?_|refine sS ?_|refine sM fun _=> ?_|(refine sC ?_ ?_<;>intro hb<;>try omega)|fail)
  all_goals exact eR eIO rfl rfl rfl (MSub.refl _) ⟨gg,gm,E,clock,R,rfl,rfl,hG⟩
theorem py (L:List Et): ∀ u∈L.flatMap aK,u.oneCell' =true:=by
 intro u hu
 obtain ⟨x,_,hx⟩:=RB.1 hu
 simp only [aK,Qx,Sz,or_false] at hx
 rcases hx with rfl|rfl|rfl<;>rfl
theorem v8 (L:List Et) (tv:Value) (w:World) (ht:Reads w tv L.length (L.flatMap aK)) (hlen:L.length≤1000000):
  aL Tryz.prog 35 [tv] w fun v H=> ∃ A cap,v=sl A L.length cap∧H= [.own A 52 3 L.length cap (L.flatMap aK)]:=by
 refine aq Tryz.func35 rfl Tryz.ntmps35 rfl ?_
 have hl:(L.flatMap aK).length=L.length*3:=aH bz L
 refine aC 52 3 ?_
 repeat' (first|(apply ck (n' :=0) (c:=0) (A:=none) (m:=L.length);(iterate 3 exact rfl);exact pK;(intro w hm;exact ht.of_w0 hm);exact hl;exact py L;omega;(simp only [maxLen];omega);intro A' cap' hA)|refine sT ?_|refine sM fun _=> ?_|(refine sC ?_ ?_<;>intro hb<;>try omega)|fail)
 exact cf (.inl rfl) Tryz.results35 rfl (H' := [.own A' 52 3 (0+L.length) cap' ([]++L.flatMap aK)]) mS ⟨A',cap',by rw [QG],by rw [QG];rfl⟩
end Go.SL
namespace Go.SL
open Go
structure CstB (b:ByteArray):Prop where
 ne:b≠av
 ok:(ofP b).2.2=0
 no:(ofP b).1.formula=false
theorem AA {G:Gr} {a:Rf} {b:ByteArray} (hv:a.valid=true) (h:(ofP b).2.2=0) (hn:(ofP b).1.formula=false):jh G a b=(HZ G a,0):=by
 unfold jh
 rw [if_neg (by rw [hv];decide),if_neg (by rw [h];decide),if_pos hn]
theorem if4 (c1 c2 c3:Prop) [Decidable c1] [Decidable c2] [Decidable c3] (z:Int):(if c1 then (3:Int) else if c2 then 12 else if c3 then 2 else z)=0↔ ¬ c1∧ ¬ c2∧ ¬ c3∧z=0:=by
 by_cases h1:c1
 ·
  rw [if_pos h1];exact ⟨fun h=>(by cases h),fun h=>absurd h1 h.1⟩
 by_cases h2:c2
 ·
  rw [if_neg h1,if_pos h2];exact ⟨fun h=>(by cases h),fun h=>absurd h2 h.2.1⟩
 by_cases h3:c3
 ·
  rw [if_neg h1,if_neg h2,if_pos h3];exact ⟨fun h=>(by cases h),fun h=>absurd h3 h.2.2.1⟩
 ·
  rw [if_neg h1,if_neg h2,if_neg h3];exact ⟨fun h=>⟨h1,h2,h3,h⟩,fun h=>h.2.2.2⟩
def Hr (e:Et):Prop:=e.at_.valid=true∧e.input≠av∧(ofP e.input).2.2=0
theorem xO {b:Option Rf} {e:Et}:fT b e=0↔(∀ p,b=some p→aQ p e.at_=true)∧Hr e:=by
 cases b with
 |none=>
  unfold fT Hr
  rw [if4]
  constructor
  ·
   rintro ⟨h1,_,h3,h4⟩;exact ⟨fun p hp=>(by cases hp),by simpa using h1,h3,h4⟩
  ·
   rintro ⟨_,h1,h3,h4⟩;exact ⟨by rw [h1];decide,by simp,h3,h4⟩
 |some p=>
  unfold fT Hr
  rw [if4]
  constructor
  ·
   rintro ⟨h1,h2,h3,h4⟩;exact ⟨fun q hq=>by cases hq;simpa using h2,by simpa using h1,h3,h4⟩
  ·
   rintro ⟨h2,h1,h3,h4⟩;exact ⟨by rw [h1];decide,by simpa using h2 p rfl,h3,h4⟩
end Go.SL
namespace Go.SL
open Go Go.Proofs
attribute [local irreducible] W WL WQ WG WA WX WLI WR WT WC VOp RW thn blk bF scp aR bk bJ aL FnIn FnP ceP
def rM (G:Gr) (L:List Et):Gr:=L.foldl (fun G e=>(jh G e.at_ e.input).1) G
theorem Ew {b:Option Rf} {e:Et} (h:fT b e=0):e.at_.valid=true∧(ofP e.input).2.2=0:=by
 have hg: ∀ (c1 c2 c3:Prop) [Decidable c1] [Decidable c2] [Decidable c3] (z:Int),(if c1 then (3:Int) else if c2 then 12 else if c3 then 2 else z)=0→ ¬ c1∧z=0:=by
  intro c1 c2 c3 _ _ _ z hz
  by_cases h1:c1
  ·
   rw [if_pos h1] at hz;cases hz
  ·
   rw [if_neg h1] at hz
   by_cases h2:c2
   ·
    rw [if_pos h2] at hz;cases hz
   ·
    rw [if_neg h2] at hz
    by_cases h3:c3
    ·
     rw [if_pos h3] at hz;cases hz
    ·
     rw [if_neg h3] at hz;exact ⟨h1,hz⟩
 obtain ⟨h1,h2⟩:=hg _ _ _ _ h
 exact ⟨by simpa using h1,h2⟩
theorem qw: ∀ (L:List Et) (i:Nat) (b:Option Rf),(dB i b L).2=0→ ∀ e∈L,e.at_.valid=true∧(ofP e.input).2.2=0
 | [],_,_,_,e,he=>by cases he
 |x::r,i,b,h,e,he=>by
  rw [dB] at h
  split at h
  ·
   rename_i hf
   exact absurd h hf
  ·
   rename_i hf
   rcases Qx.1 he with rfl|he
   ·
    exact Ew (Classical.not_not.1 hf)
   ·
    exact qw r _ _ h e he
theorem FH: ∀ (L:List Et) (G:Gr),(∀ e∈L,e.at_.valid=true∧(ofP e.input).2.2=0)→BB G L=(some (rM G L),0)
 | [],G,_=>rfl
 |e::r,G,h=>by
  have he:(jh G e.at_ e.input).2=0:=by
   obtain ⟨h1,h2⟩:=h e Qp
   unfold jh
   rw [if_neg (by rw [h1];simp),if_neg (by rw [h2];simp)]
   split<;>rfl
  rw [BB,if_neg (by rw [he];simp),FH r _ fun f hf=>h f (Qw _ hf)]
  rfl
theorem tj (L:List Et):o8 L=if (cN L).2≠0 then (none,(cN L).2) else (some (rM [] L),0):=by
 unfold o8
 split
 ·
  rfl
 ·
  rename_i h
  exact FH L [] (qw L 0 none (Classical.not_not.1 h))
theorem BV: ∀ (L:List Et) {G:Gr},GrOk G→GrOk (rM G L)
 | [],_,h=>h
 |e::r,_,h=>BV r (h.set e.at_ e.input)
theorem xI: ∀ (L:List Et) (G:Gr),(rM G L).length≤G.length+L.length
 | [],G=>Qq _
 |e::r,G=>by
  have h1:=xI r (jh G e.at_ e.input).1
  have h2:=JB G e.at_ e.input
  simp only [QF]
  exact QC h1 (by omega)
end Go.SL
namespace Go.SL
open Go Go.Proofs Go.ChangeShapes Go.WideShapes Go.ChangeAt Go.RowKit Go.Deep
section
variable {H:Type} {enc:TypeId × Value→H} {P:Program} {w:World} {base:Nat} {spare:Nat→Bool} {held:Bool}
theorem wI {f:Func} {s:ChangeSpec} {apart fresh handsOn again:Bool} {W W' :World} {args:Array Value} {v:Value} {ds gs:List (DataW H)} {before pa pv:List MemPlace}
  (hW:DataW.Whole enc P f.params.toList s.vars apart W args.toList ds gs before)
  (hres: ∀ (b:Nat) (sp:Nat→Bool) (hd:Bool),DataW.TrodAll enc P W' b sp hd f.resultTypes.toList (v.resultList f.resultTypes.size) (s.fn H (ds++gs)).results [])
  (hargs: ∀ sp:Nat→Bool,(∀ p∈before,sp p.block=true)→DataW.TrodAll enc P W' 0 sp true f.params.toList args.toList (s.fn H (ds++gs)).args pa)
  (hvars: ∀ sp:Nat→Bool,(∀ p∈before,sp p.block=true)→DataW.TrodVars enc P W' sp s.vars (s.fn H (ds++gs)).vars pv)
  (hps:before=pa++pv) (hb:Below W.heap.size W W')
  (hok: ∀ (j:Nat) (t:TypeId) (r:Value),f.resultTypes[j]? =some t→(v.resultList f.resultTypes.size)[j]? =some r→Value.okWide P W' .any 0 t r):
  s.post enc P f apart fresh handsOn again W args v W' :=by
 have hold: ∀ p∈before,(fun b=>decide (b<W.heap.size)) p.block=true:=fun p hp=>by simpa using hW.lt p hp
 refine ⟨ds,gs,before,[],pa,pv,hW,hres _ _ _,hargs _ hold,hvars _ hold,hb.frame _,fun _=> ?_⟩
 have hlt:=hW.lt
 obtain ⟨_,_,_,_,_,hz,hn⟩:=hW
 refine ⟨hok,_,_,([]++pa)++pv,⟨[]++pa,pv,trodAll_append (hargs _ (fun _ _=>rfl)) (hres _ _ _),hvars _ (fun _ _=>rfl),rfl,?_,?_⟩,?_⟩
 ·
  intro b off hp
  have hp' :MemPlace.cell b off∈before:=by rw [hps];simpa using hp
  have h1:=hz b off hp'
  have h2:=hlt _ hp'
  rw [← h1]
  exact hb.frozen h2
 ·
  intro ha
  have:=hn ha
  rw [hps] at this
  simpa using this
 ·
  intro p hp _
  rw [hps]
  simpa using hp
theorem kq {t:TypeId} (hl:laidOutB P=true) (hr:P.readableRec t=true) (hrow:t<P.types.size) {W W' :World} {v:Value} {d:DataW H} {ps:List MemPlace} {sp:Nat→Bool}
  (h:DataW.Trod enc P W 0 (fun _=>true) true t v d ps) (hb:Below W.heap.size W W') (hlt: ∀ x∈ps,x.block<W.heap.size) (hs: ∀ x∈ps,sp x.block=true):DataW.Trod enc P W' 0 sp true t v d ps:=
 WideElems.Trod_stays hl hr hrow h (fun x hx=>hb.same (hlt x hx)) hs
end
theorem Nw:ownKnob Tryz.prog.godebug=none:=by kernel_rfl
theorem j9:laidOutB Tryz.prog=true:=by kernel_rfl
section
variable {H:Type} {enc:TypeId × Value→H} {w:World} {base:Nat} {spare:Nat→Bool} {held:Bool}
theorem vQ {α:Type} {enc:α→List Value} {m:Nat} (hm: ∀ a,(enc a).length=m) (w:World) (g o:Nat): ∀ (L:List α),(∀ (i:Nat) (a:α),L[i]? =some a→Cells w g (o+i*m) (enc a))→Cells w g o (L.flatMap enc):=by
 intro L h j v hv
 by_cases hm0:m=0
 ·
  have:(L.flatMap enc).length=0:=by rw [aH hm,hm0,Nat.mul_zero]
  rw [RP (by omega)] at hv
  cases hv
 have hlen:(L.flatMap enc).length=L.length*m:=aH hm L
 have hj:j<(L.flatMap enc).length:=(QB.1 hv).1
 have hi:j / m<L.length:=by rw [Nat.div_lt_iff_lt_mul (by omega)];omega
 have hk:j % m<m:=Nat.mod_lt _ (by omega)
 have he:j / m*m+j % m=j:=by rw [Nat.mul_comm];exact Nat.div_add_mod j m
 have h1:=nT hm L (j / m) (j % m) hi hk
 rw [he,hv] at h1
 have h2:=h (j / m) L[j / m] (Ql hi) (j % m) v h1.symm
 rw [show o+j / m*m+j % m=o+j by omega] at h2
 exact h2
theorem nQ {α:Type} [Inhabited α] {encA:α→List Value} {ok:α→Prop} {P:Program} {t e m fuel:Nat} {cs:List Value} {x:DataW H × List MemPlace} (ht:P.underlying t=some (.slice e)) (hm:P.cellsOf e=m) (hm0:0<m) (hlenA: ∀ a,(encA a).length=m)
  (helem: ∀ (n:Nat) (cs:List Value) (y:DataW H × List MemPlace),DataW.trod enc P w 0 spare held n e cs=some y→ ∃ a,cs=encA a∧ok a) (h:DataW.trod enc P w 0 spare held fuel t cs=some x):
  ∃ (v:Value) (L:List α),cs= [v]∧Reads w v L.length (L.flatMap encA)∧ ∀ a∈L,ok a:=by
 rcases open_slice ht h with ⟨h0,_⟩|⟨a,len,cap,mm,n,D,Pl,h0,hb,hl,hmx,hmm,_,hx⟩
 ·
  exact ⟨_,[],h0,⟨none,0,rfl,Qq _,Qt _,fun h=>by cases h⟩,fun _ h=>by cases h⟩
 ·
  have hlm:len≤mm:=by rw [hmm];split<;>omega
  obtain ⟨F,hF⟩:=choose_lt (α:=α) (n:=len) (p:=fun i nd=>w.cells? 0 (a.add (i*m)) m=some (encA nd)∧ok nd) (fun i hi=>by
   obtain ⟨cs',h1,h2⟩:=hx i (by omega)
   rw [hm] at h1
   obtain ⟨nd,rfl,hw⟩:=helem _ _ _ h2
   exact ⟨nd,h1,hw⟩)
  have hlen:((List.range len).map F).length=len:=by simp
  refine ⟨_,(List.range len).map F,h0,⟨some a,cap,by rw [hlen],by omega,hmx,fun hpos=> ?_⟩,fun n hn=> ?_⟩
  rotate_left
  ·
   obtain ⟨i,hi,rfl⟩:=QT.1 hn
   exact (hF i (List.mem_range.1 hi)).2
  rw [hlen] at hpos
  obtain ⟨g,o,spot⟩:=a
  have hspot:spot=none:=by
   obtain ⟨_,_,h3⟩:=World.cells?_some (hF 0 (by omega)).1
   have h4' :=h3 0 hm0
   rw [Ql (by rw [hlenA];exact hm0)] at h4'
   have h4:=World.cell?_spot h4'
   simpa [Addr.add] using h4
  subst hspot
  have hcell: ∀ (i:Nat) (nd:α),((List.range len).map F)[i]? =some nd→Cells w g (o+i*m) (encA nd):=by
   intro i nd hnd k v hv
   have hil:i<len:=by have:=(QB.1 hnd).1;omega
   have hnd' :F i=nd:=by simpa [hil] using hnd
   subst hnd'
   have hk:k<m:=by have:=(QB.1 hv).1;rwa [hlenA] at this
   obtain ⟨_,_,h3⟩:=World.cells?_some (hF i hil).1
   have:=h3 k hk
   rw [hv,cH,cH] at this
   exact this
  refine ⟨g,o,rfl,?_,vQ hlenA w g o _ hcell⟩
  obtain ⟨u,hu⟩: ∃ u,(encA (F 0))[0]? =some u:=⟨_,Ql (by rw [hlenA];exact hm0)⟩
  have h5:=hcell 0 (F 0) (by simp [hpos]) 0 u hu
  simp only [World.cell?] at h5
  split at h5
  ·
   rename_i h6
   exact (QQ.1 h6).1
  ·
   cases h5
theorem fD {n:Nat} {c:Value} {x:DataW H × List MemPlace} (h:DataW.trod enc Tryz.prog w base spare held n 3 [c]=some x): ∃ a,c= .int .i64 a∧I64 a:=by
 obtain ⟨a0,q0,_,w0⟩:=DataW.trod_int Tryz.underlying3 h
 simp only [List.cons.injEq,and_true] at q0
 exact ⟨a0,q0,bounds_i64 w0⟩
theorem Ov {n:Nat} {c:Value} {x:DataW H × List MemPlace} (h:DataW.trod enc Tryz.prog w base spare held n 9 [c]=some x): ∃ a,c= .string a:=by
 obtain ⟨a0,q0,_⟩:=DataW.trod_string Tryz.underlying9 h
 simp only [List.cons.injEq,and_true] at q0
 exact ⟨a0,q0⟩
def okF (a:Rf):Prop:=I64 a.col∧I64 a.row
def okR (r:Rct):Prop:=I64 r.c1∧I64 r.r1∧I64 r.c2∧I64 r.r2
set_option maxRecDepth 100000 in
theorem Aa {fuel:Nat} {cs:List Value} {x:DataW H × List MemPlace} (h:DataW.trod enc Tryz.prog w base spare held fuel 50 cs=some x): ∃ v:Rf,cs=bf v∧okF v:=by
 obtain ⟨xs,n,_,_,hlen,hxl,hf⟩:=DataW.trod_struct Tryz.underlying50 h
 have eS:Tryz.prog.cellsOf 50=2:=by kernel_rfl
 have eI:Tryz.prog.cellsOf 3=1:=by kernel_rfl
 rw [eS] at hlen
 match cs,hlen,xs,hxl with
 | [c0,c1],_,[x0,x1],_=>
  have h0:DataW.trod enc Tryz.prog w base spare held n 3 ((([c0,c1]:List Value).drop 0).take (Tryz.prog.cellsOf 3))=some x0:=hf 0 _ rfl
  rw [eI] at h0
  obtain ⟨a0,rfl,w0⟩:=fD (c:=c0) h0
  have h1:DataW.trod enc Tryz.prog w base spare held n 3 ((([Value.int .i64 a0,c1]:List Value).drop 1).take (Tryz.prog.cellsOf 3))=some x1:=hf 1 _ rfl
  rw [eI] at h1
  obtain ⟨a1,rfl,w1⟩:=fD (c:=c1) h1
  exact ⟨⟨a0,a1⟩,rfl,w0,w1⟩
set_option maxRecDepth 100000 in
theorem kK {fuel:Nat} {cs:List Value} {x:DataW H × List MemPlace} (h:DataW.trod enc Tryz.prog w base spare held fuel 32 cs=some x): ∃ v:Rct,cs=bK v∧okR v:=by
 obtain ⟨xs,n,_,_,hlen,hxl,hf⟩:=DataW.trod_struct Tryz.underlying32 h
 have eS:Tryz.prog.cellsOf 32=4:=by kernel_rfl
 have eI:Tryz.prog.cellsOf 3=1:=by kernel_rfl
 rw [eS] at hlen
 match cs,hlen,xs,hxl with
 | [c0,c1,c2,c3],_,[x0,x1,x2,x3],_=>
  have h0:DataW.trod enc Tryz.prog w base spare held n 3 ((([c0,c1,c2,c3]:List Value).drop 0).take (Tryz.prog.cellsOf 3))=some x0:=hf 0 _ rfl
  rw [eI] at h0
  obtain ⟨a0,rfl,w0⟩:=fD (c:=c0) h0
  have h1:DataW.trod enc Tryz.prog w base spare held n 3 ((([Value.int .i64 a0,c1,c2,c3]:List Value).drop 1).take (Tryz.prog.cellsOf 3))=some x1:=hf 1 _ rfl
  rw [eI] at h1
  obtain ⟨a1,rfl,w1⟩:=fD (c:=c1) h1
  have h2:DataW.trod enc Tryz.prog w base spare held n 3 ((([Value.int .i64 a0,.int .i64 a1,c2,c3]:List Value).drop 2).take (Tryz.prog.cellsOf 3))=some x2:=hf 2 _ rfl
  rw [eI] at h2
  obtain ⟨a2,rfl,w2⟩:=fD (c:=c2) h2
  have h3:DataW.trod enc Tryz.prog w base spare held n 3 ((([Value.int .i64 a0,.int .i64 a1,.int .i64 a2,c3]:List Value).drop 3).take (Tryz.prog.cellsOf 3))=some x3:=hf 3 _ rfl
  rw [eI] at h3
  obtain ⟨a3,rfl,w3⟩:=fD (c:=c3) h3
  exact ⟨⟨a0,a1,a2,a3⟩,rfl,w0,w1,w2,w3⟩
instance:Inhabited Et:=⟨⟨⟨0,0⟩,av⟩⟩
end
end Go.SL
