/-
  Lemmas and walks, put together: Gq D8 D9 D10 D11.
-/
import Derived.Test.YtljeomidcjpfmaaGreatDoorKf15
set_option linter.unusedSimpArgs false
set_option linter.unusedVariables false
set_option maxRecDepth 20000
namespace Go.SL
open Go
def En.abs (e:En):Rf × List Nd × List Us:=(e.at_,e.tree,e.uses)
structure GOk (R:List Blk) (E:List En) (clock:Nat) (G:Gr):Prop where
 ok:MapOk (E.map En.m) clock
 en: ∀ e∈E,EnOk R e
 rel: ∀ x,x∈E.map En.abs↔x∈G
 sort:SortG G
theorem keysE (E:List En):((E.map En.m).map fun e=>e.1)=E.map En.at_:=by rw [List.map_map];rfl
theorem bornE (E:List En):((E.map En.m).map fun e=>e.2.2)=E.map En.born:=by rw [List.map_map];rfl
theorem GOk.sub {R R' :List Blk} {E:List En} {clock:Nat} {G:Gr} (h:GOk R E clock G) (hs:MSub R R'):GOk R' E clock G:=⟨h.ok,fun e he=>(h.en e he).sub hs,h.rel,h.sort⟩
theorem GOk.nodup {R:List Blk} {E:List En} {clock:Nat} {G:Gr} (h:GOk R E clock G):(E.map En.at_).Nodup:=keysE E ▸ h.ok.keys
theorem GOk.perm {R:List Blk} {E:List En} {clock:Nat} {G:Gr} (h:GOk R E clock G):(E.map En.abs).Perm G:=by
 refine nodup_perm ?_ ?_ h.rel
 ·
  have:=h.nodup
  have e:E.map En.at_=(E.map En.abs).map fun x=>x.1:=by rw [List.map_map];rfl
  rw [e] at this
  exact nodup_of_map _ this
 ·
  exact nodup_of_map (fun e:Rf × List Nd × List Us=>e.1) h.sort.nodup
theorem GOk.len {R:List Blk} {E:List En} {clock:Nat} {G:Gr} (h:GOk R E clock G):E.length=G.length:=by
 have:=h.perm.length_eq
 simpa using this
theorem GOk.forms {R:List Blk} {E:List En} {clock:Nat} {G:Gr} (h:GOk R E clock G):formsF (E.map En.m)=keysG G:=by
 have hp:(E.map En.at_).Perm (keysG G):=by
  have:=h.perm.map fun x=>x.1
  rw [List.map_map] at this
  exact this
 rw [formsF,keysE,sortRf_perm hp,sortRf_sorted (keys_sorted h.sort)]
theorem GOk.look {R:List Blk} {E:List En} {clock:Nat} {G:Gr} (h:GOk R E clock G) (a:Rf):(findE E a).map (fun e=>(e.tree,e.uses))=lookG G a:=by
 cases hf:findE E a with
 |some e=>
  have h1:=List.find?_some hf
  simp only [decide_eq_true_eq] at h1
  have h2:(a,e.tree,e.uses)∈G:=by
   rw [← h.rel]
   refine List.mem_map.2 ⟨e,List.mem_of_find?_eq_some hf,?_⟩
   rw [← h1];rfl
  rw [(lookG_some h.sort).2 h2];rfl
 |none=>
  rw [findE,List.find?_eq_none] at hf
  symm
  rw [Option.map_none,lookG_none]
  intro x hx
  rw [← h.rel] at hx
  obtain ⟨e,he,rfl⟩:=List.mem_map.1 hx
  have:=hf e he
  simpa [En.abs] using this
theorem GOk.uses {R:List Blk} {E:List En} {clock:Nat} {G:Gr} (h:GOk R E clock G) (a:Rf):(foundE E a).uses=usesG G a:=by
 rw [usesG,← h.look a,foundE]
 cases findE E a<;>rfl
theorem kfind_none {κ:Type} [DecidableEq κ] {k:κ}: ∀ {es:List (κ × Value × Nat)} {i:Nat},kfind k es i=none→ ∀ e∈es,e.1≠k
 | [],_,_,e,he=>by cases he
 |x::r,i,h,e,he=>by
  rw [kfind] at h
  split at h
  ·
   cases h
  ·
   rename_i hk
   rcases List.mem_cons.1 he with rfl|he
   ·
    exact fun e=>hk e.symm
   ·
    exact kfind_none h e he
theorem GOk.del {R:List Blk} {E:List En} {clock:Nat} {G:Gr} (h:GOk R E clock G) (a:Rf): ∃ E',E'.map En.m=kdel a (E.map En.m)∧GOk R E' clock (delG G a):=by
 unfold kdel
 cases hk:kfind a (E.map En.m) 0 with
 |none=>
  have hno:=kfind_none hk
  refine ⟨E,rfl,h.ok,h.en,fun x=> ?_,sortG_del h.sort a⟩
  rw [mem_delG,← h.rel]
  refine ⟨fun hx=>⟨hx,?_⟩,fun hx=>hx.1⟩
  obtain ⟨e,he,rfl⟩:=List.mem_map.1 hx
  exact hno e.m (List.mem_map.2 ⟨e,he,rfl⟩)
 |some x=>
  obtain ⟨j,v⟩:=x
  obtain ⟨b,_,hj⟩:=kfind_get hk
  rw [Nat.sub_zero,List.getElem?_map] at hj
  obtain ⟨e0,he0,hm0⟩:=Option.map_eq_some_iff.1 hj
  have ha:e0.at_=a:=congrArg Prod.fst hm0
  have hsub:(E.eraseIdx j).Sublist E:=List.eraseIdx_sublist E j
  have hin: ∀ e,e∈E.eraseIdx j↔e∈E∧e.at_≠a:=by
   intro e
   rw [List.mem_eraseIdx_iff_getElem?]
   obtain ⟨hjl,hj0⟩:=List.getElem?_eq_some_iff.1 he0
   constructor
   ·
    rintro ⟨i,hne,hi⟩
    refine ⟨List.mem_of_getElem? hi,fun hea=>hne ?_⟩
    obtain ⟨hil,hi0⟩:=List.getElem?_eq_some_iff.1 hi
    have hn:=h.nodup
    have:=List.getElem_inj (xs:=E.map En.at_) (h₀:=by simpa using hil) (h₁:=by simpa using hjl) hn
    refine this.1 ?_
    simp only [List.getElem_map,hi0,hj0,hea,ha]
   ·
    rintro ⟨he,hea⟩
    obtain ⟨i,hil,hi⟩:=List.getElem_of_mem he
    refine ⟨i,?_,by rw [List.getElem?_eq_getElem hil,hi]⟩
    rintro rfl
    rw [hj0] at hi
    exact hea (hi ▸ ha)
  refine ⟨E.eraseIdx j,map_eraseIdx _ _ _,?_,fun e he=>h.en e (hsub.subset he),fun x=> ?_,sortG_del h.sort a⟩
  ·
   have hs2:((E.eraseIdx j).map En.m).Sublist (E.map En.m):=hsub.map _
   exact ⟨(hs2.map _).nodup h.ok.born,fun e he=>h.ok.old e (hs2.subset he),(hs2.map _).nodup h.ok.keys⟩
  ·
   rw [mem_delG,← h.rel]
   constructor
   ·
    intro hx
    obtain ⟨e,he,rfl⟩:=List.mem_map.1 hx
    obtain ⟨h1,h2⟩:=(hin e).1 he
    exact ⟨List.mem_map.2 ⟨e,h1,rfl⟩,h2⟩
   ·
    rintro ⟨hx,hne⟩
    obtain ⟨e,he,rfl⟩:=List.mem_map.1 hx
    exact List.mem_map.2 ⟨e,(hin e).2 ⟨he,hne⟩,rfl⟩
theorem GOk.put {R:List Blk} {E:List En} {clock:Nat} {G:Gr} (h:GOk R E clock G) (n:En) (hn:EnOk R n): ∃ E',E'.map En.m=(kput n.at_ (.agg #[n.tv,n.uv]) clock (E.map En.m)).1∧GOk R E' (kput n.at_ (.agg #[n.tv,n.uv]) clock (E.map En.m)).2 (insG G n.at_ (n.tree,n.uses)):=by
 unfold kput
 cases hk:kfind n.at_ (E.map En.m) 0 with
 |none=>
  have hno:=kfind_none hk
  have hno' :n.at_∉E.map En.at_:=fun hx=>by
   obtain ⟨e,he,hea⟩:=List.mem_map.1 hx
   exact hno e.m (List.mem_map.2 ⟨e,he,rfl⟩) hea
  refine ⟨E++ [{ n with born:=clock }],by simp [En.m,En.tv,En.uv],⟨?_,?_,?_⟩,fun e he=> ?_,fun x=> ?_,sortG_ins h.sort _ _⟩
  ·
   have hb:=h.ok.born
   rw [bornE] at hb ⊢
   rw [List.map_append,List.nodup_append]
   refine ⟨hb,by simp,fun x hx y hy=> ?_⟩
   simp only [List.map_cons,List.map_nil,List.mem_singleton] at hy
   subst hy
   obtain ⟨e,he,rfl⟩:=List.mem_map.1 hx
   have:=h.ok.old e.m (List.mem_map.2 ⟨e,he,rfl⟩)
   simp only [En.m] at this
   omega
  ·
   intro e he
   rw [List.map_append] at he
   rcases List.mem_append.1 he with he|he
   ·
    have:=h.ok.old e he;simp only;omega
   ·
    simp only [List.map_cons,List.map_nil,List.mem_singleton] at he
    subst he
    simp [En.m]
  ·
   rw [keysE,List.map_append,List.nodup_append]
   refine ⟨h.nodup,by simp,fun x hx y hy e=> ?_⟩
   simp only [List.map_cons,List.map_nil,List.mem_singleton] at hy
   subst hy;subst e
   exact hno' hx
  ·
   rcases List.mem_append.1 he with he|he
   ·
    exact h.en e he
   ·
    rw [List.mem_singleton.1 he]
    exact ⟨hn.tree,hn.uses,hn.tl,hn.ul⟩
  ·
   rw [mem_insG,← h.rel,List.map_append,List.mem_append]
   constructor
   ·
    rintro (hx|hx)
    ·
     right
     obtain ⟨e,he,rfl⟩:=List.mem_map.1 hx
     exact ⟨hx,fun hea=>hno' (List.mem_map.2 ⟨e,he,hea⟩)⟩
    ·
     left
     simpa [En.abs] using hx
   ·
    rintro (rfl|⟨hx,_⟩)
    ·
     right;simp [En.abs]
    ·
     left;exact hx
 |some x=>
  obtain ⟨j,v⟩:=x
  obtain ⟨b,_,hj⟩:=kfind_get hk
  rw [Nat.sub_zero,List.getElem?_map] at hj
  obtain ⟨e0,he0,hm0⟩:=Option.map_eq_some_iff.1 hj
  have ha:e0.at_=n.at_:=congrArg Prod.fst hm0
  obtain ⟨hjl,hj0⟩:=List.getElem?_eq_some_iff.1 he0
  have hget: ∀ i,(E.modify j fun e=>{ n with born:=e.born })[i]? =if j=i then (E[i]?).map (fun e=>{ n with born:=e.born }) else E[i]? :=fun i=>by
   rw [List.getElem?_modify]
   split<;>rename_i hji
   ·
    rfl
   ·
    cases E[i]? <;>rfl
  have hin: ∀ e,e∈(E.modify j fun e=>{ n with born:=e.born })↔e={ n with born:=e0.born } ∨(e∈E∧e.at_≠n.at_):=by
   intro e
   constructor
   ·
    intro he
    obtain ⟨i,hi⟩:=List.mem_iff_getElem?.1 he
    rw [hget] at hi
    split at hi
    ·
     rename_i hji
     subst hji
     rw [he0] at hi
     left
     exact (Option.some.inj hi).symm
    ·
     rename_i hji
     right
     refine ⟨List.mem_of_getElem? hi,fun hea=>hji ?_⟩
     obtain ⟨hil,hi0⟩:=List.getElem?_eq_some_iff.1 hi
     have:=List.getElem_inj (xs:=E.map En.at_) (h₀:=by simpa using hjl) (h₁:=by simpa using hil) h.nodup
     refine this.1 ?_
     simp only [List.getElem_map,hi0,hj0,hea,ha]
   ·
    rintro (rfl|⟨he,hea⟩)
    ·
     refine List.mem_iff_getElem?.2 ⟨j,?_⟩
     rw [hget,if_pos rfl,he0];rfl
    ·
     obtain ⟨i,hil,hi⟩:=List.getElem_of_mem he
     refine List.mem_iff_getElem?.2 ⟨i,?_⟩
     rw [hget,if_neg,List.getElem?_eq_getElem hil,hi]
     rintro rfl
     rw [hj0] at hi
     exact hea (hi ▸ ha)
  have hborn:(E.modify j fun e=>{ n with born:=e.born }).map En.born=E.map En.born:=by
   apply List.ext_getElem?
   intro i
   rw [List.getElem?_map,List.getElem?_map,hget]
   split
   ·
    cases E[i]? <;>rfl
   ·
    rfl
  have hkeys:(E.modify j fun e=>{ n with born:=e.born }).map En.at_=E.map En.at_:=by
   apply List.ext_getElem?
   intro i
   rw [List.getElem?_map,List.getElem?_map,hget]
   split
   ·
    rename_i hji
    subst hji
    rw [he0]
    simp [ha]
   ·
    rfl
  refine ⟨E.modify j fun e=>{ n with born:=e.born },?_,⟨?_,?_,?_⟩,fun e he=> ?_,fun x=> ?_,sortG_ins h.sort _ _⟩
  ·
   apply List.ext_getElem?
   intro i
   simp only [List.getElem?_modify,List.getElem?_map]
   cases E[i]? with
   |none=>simp
   |some e=>by_cases hji:j=i<;>simp [hji,En.m,En.tv,En.uv]
  ·
   rw [bornE,hborn,← bornE];exact h.ok.born
  ·
   intro e he
   obtain ⟨e',he',rfl⟩:=List.mem_map.1 he
   have:e'.born∈E.map En.born:=by rw [← hborn];exact List.mem_map.2 ⟨e',he',rfl⟩
   obtain ⟨e2,he2,hb2⟩:=List.mem_map.1 this
   have:=h.ok.old e2.m (List.mem_map.2 ⟨e2,he2,rfl⟩)
   simp only [En.m] at this ⊢
   omega
  ·
   rw [keysE,hkeys];exact h.nodup
  ·
   rcases (hin e).1 he with rfl|⟨he,_⟩
   ·
    exact ⟨hn.tree,hn.uses,hn.tl,hn.ul⟩
   ·
    exact h.en e he
  ·
   rw [mem_insG,← h.rel]
   constructor
   ·
    intro hx
    obtain ⟨e,he,rfl⟩:=List.mem_map.1 hx
    rcases (hin e).1 he with rfl|⟨he,hea⟩
    ·
     left;rfl
    ·
     right;exact ⟨List.mem_map.2 ⟨e,he,rfl⟩,hea⟩
   ·
    rintro (rfl|⟨hx,hne⟩)
    ·
     exact List.mem_map.2 ⟨_,(hin _).2 (.inl rfl),rfl⟩
    ·
     obtain ⟨e,he,rfl⟩:=List.mem_map.1 hx
     exact List.mem_map.2 ⟨e,(hin e).2 (.inr ⟨he,hne⟩),rfl⟩
theorem then_err {o:Option Out} {k:Nat→PS→Option Out} {x:Int × Int} (h:thenP o k=some (.error x)) (h1: ∀ y,o=some (.error y)→y.2≠0) (h2: ∀ n p y,k n p=some (.error y)→y.2≠0):x.2≠0:=by
 obtain ⟨r1,hr,⟨e,rfl,he⟩|⟨n,p,rfl,hk⟩⟩:=thenP_inv h
 ·
  cases he;exact h1 _ hr
 ·
  exact h2 _ _ _ hk
theorem endCall_err {fin:Int} {name:Tk} {fn:Int} {n:Nat} {p:PS} {x:Int × Int} (h:endCall fin name fn n p=some (.error x)):x.2≠0:=by
 unfold endCall at h
 dsimp only at h
 split at h
 ·
  cases h;simp
 ·
  split at h
  ·
   cases h;simp
  ·
   split at h
   ·
    cases h;simp
   ·
    cases h
theorem runP_err (fin:Int): ∀ (f:Nat) (j:Job) (p:PS) (x:Int × Int),runP fin f j p=some (.error x)→x.2≠0:=by
 intro f
 induction f with
 |zero=>intro j p x h;cases j<;>cases h
 |succ f ih=>
  intro j p x h
  cases j with
  |level k=>
   rw [runP] at h
   split at h
   ·
    exact ih _ _ _ h
   ·
    exact then_err h (ih _ _) fun _ _=>ih _ _
  |loop k=>
   rw [runP] at h
   try dsimp only at h
   split at h
   ·
    exact then_err h (ih _ _) fun _ _=>ih _ _
   ·
    cases h
  |sign=>
   rw [runP] at h
   try dsimp only at h
   split at h
   ·
    exact then_err h (ih _ _) fun _ _ _ h=>by cases h
   ·
    refine then_err h (ih _ _) fun _ _ y h=> ?_
    split at h
    ·
     exact then_err h (ih _ _) fun _ _ _ h=>by cases h
    ·
     cases h
  |pct=>
   rw [runP] at h
   exact then_err h (ih _ _) fun _ _=>ih _ _
  |pctl=>
   rw [runP] at h
   try dsimp only at h
   split at h
   ·
    exact ih _ _ _ h
   ·
    cases h
  |prim=>
   rw [runP] at h
   try dsimp only at h
   split at h
   ·
    cases h
   ·
    split at h
    ·
     cases h
    ·
     split at h
     ·
      refine then_err h (ih _ _) fun _ _ y h=> ?_
      split at h
      ·
       cases h;simp
      ·
       cases h
     ·
      split at h
      ·
       split at h
       ·
        cases h;simp
       ·
        split at h
        ·
         cases h;simp
        ·
         split at h
         ·
          exact endCall_err h
         ·
          exact then_err h (ih _ _) fun _ _ _ h=>endCall_err h
      ·
       cases h;simp
  |args fn n=>
   rw [runP] at h
   try dsimp only at h
   have hgo: ∀ (p:PS) (y:Int × Int),(if (hdT fin p.l).kind=11 then runP fin f (.args fn (n+1)) p.skip else some (.ok (n+1,p)))=some (.error y)→y.2≠0:=by
    intro p y h
    split at h
    ·
     exact ih _ _ _ h
    ·
     cases h
   split at h
   ·
    exact then_err h (ih _ _) fun _ _ _ h=>hgo _ _ h
   ·
    split at h
    ·
     cases h;simp
    ·
     exact hgo _ _ h
theorem formulaV_tree {x:List Tk × Int × Int} {fin:Int}:(formulaV x fin).1.length≤x.1.length∧((formulaV x fin).2.2=0→checkE (formulaV x fin).1=0):=by
 have hends:=runP_ends fin (20*x.1.length+40) (.level 1) ⟨x.1,[]⟩ ⟨by omega,by omega⟩ (by simp only [Job.c];omega)
 have hgrew:=fun n p hp=>runP_grew fin (20*x.1.length+40) (.level 1) ⟨x.1,[]⟩ n p hp
 unfold formulaV
 split
 ·
  rename_i h;exact ⟨Nat.zero_le _,fun h' =>absurd h' h⟩
 ·
  split
  ·
   rename_i h
   obtain ⟨r,hr,_⟩:=hends
   rw [h] at hr;cases hr
  ·
   rename_i a e h
   exact ⟨Nat.zero_le _,fun h' =>absurd h' (runP_err _ _ _ _ _ h)⟩
  ·
   rename_i n p hp
   split
   ·
    exact ⟨Nat.zero_le _,fun h' =>by cases h'⟩
   ·
    split
    ·
     rename_i hc;exact ⟨Nat.zero_le _,fun h' =>absurd h' hc⟩
    ·
     rename_i hc
     obtain ⟨⟨m,h1,h2,h3⟩,_,_⟩:=hgrew _ _ hp
     simp only [List.length_nil,Nat.zero_add] at h3
     exact ⟨Nat.le_trans h3 h2,fun _=>by simpa using hc⟩
theorem ofP_tree {b:ByteArray} (h:(ofP b).2.2=0) (hf:(ofP b).1.formula=true):checkE (ofP b).1.tree=0:=by
 unfold ofP at h hf ⊢
 split at hf
 ·
  cases hf
 ·
  rename_i h1
  rw [if_neg h1] at h ⊢
  split at hf
  ·
   cases hf
  ·
   rename_i h2
   rw [h2] at h
   simp only at h ⊢
   split at hf
   ·
    cases hf
   ·
    rename_i h3
    rw [if_neg h3] at h ⊢
    have ht:=formulaV_tree (x:=tokensV tokenP (ints (cutB b eqB).1)) (fin:=((cutB b eqB).1.size:Int))
    generalize formulaV (tokensV tokenP (ints (cutB b eqB).1)) ((cutB b eqB).1.size:Int)=r at h hf ht ⊢
    obtain ⟨t,at_,e⟩:=r
    simp only at h hf ht ⊢
    split at hf
    ·
     cases hf
    ·
     rename_i h4
     rw [if_neg h4]
     exact ht.2 (by simpa using h4)
theorem ofP_len (b:ByteArray):(ofP b).1.tree.length≤256:=by
 unfold ofP
 split
 ·
  exact Nat.zero_le _
 ·
  split
  ·
   exact Nat.zero_le _
  ·
   split
   ·
    exact Nat.zero_le _
   ·
    have ht:=(formulaV_tree (x:=tokensV tokenP (ints (cutB b eqB).1)) (fin:=((cutB b eqB).1.size:Int))).1
    have hl:=tokensV_len tokenP (ints (cutB b eqB).1)
    generalize formulaV (tokensV tokenP (ints (cutB b eqB).1)) ((cutB b eqB).1.size:Int)=r at ht ⊢
    obtain ⟨t,at_,e⟩:=r
    simp only at ht ⊢
    split
    ·
     exact Nat.zero_le _
    ·
     exact Nat.le_trans ht hl
end Go.SL
namespace Go.SL
open Go Go.Proofs
attribute [local irreducible] W WL WQ WG WA WX WLI WR WT WC VOp RW thn blk cutP scp retP retPP endB FnAt FnIn FnP ceP
set_option maxHeartbeats 2000000 in
theorem Set_inF (gg gm clock:Nat) (E:List En) (G:Gr) (a:Rf) (b:ByteArray) (R F:List Blk) (w0:World) (hG:GOk R E clock G) (hW:Words w0):
  FnIn Tryz.prog 33 [.pointer (some ⟨gg,0,none⟩),keyF a,.string b] w0 (gB gg gm (E.map En.m) clock++(R++F)) fun v H=>v= .int .i64 (setG G a b).2∧ ∃ E' clock' R',H=gB gg gm (E'.map En.m) clock' ++(R' ++F)∧MSub R R' ∧GOk R' E' clock' (setG G a b).1:=by
 refine fn_in Tryz.func33 rfl Tryz.ntmps33 rfl ?_
 have hV:=fun (w' :World) (H' :List Blk) (hm:Mem w0 w' H')=>(valid_at a.col a.row w' :Pure Tryz.prog 87 [keyF a] w' (.bool (valid a.col a.row)))
 have hO:=fun (w' :World) (H' :List Blk) (hm:Mem w0 w' H')=>Of_at b w' (hW.next hm)
 unfold gB
 unfold setG
 by_cases hv:a.valid=false
 ·
  rw [if_pos hv]
  have hv' :valid a.col a.row=false:=hv
  rw [hv'] at hV
  repeat' (first|((with_reducible apply wl_callp (f:=87));exact rfl;exact rfl;(intro w' hm;exact hV w' _ hm))|refine sT ?_|refine sS ?_|refine sW ?_|refine sM fun _=> ?_|(refine sC ?_ ?_<;>intro hb<;>try omega)|(refine sCW ?_ ?_<;>intro hb<;>try omega)|fail)
  all_goals exact ret1 eIO rfl rfl mS ⟨rfl,E,clock,R,rfl,MSub.refl _,hG⟩
 rw [if_neg hv]
 have hv' :valid a.col a.row=true:=by
  have:a.valid=valid a.col a.row:=rfl
  rw [this] at hv
  simpa using hv
 rw [hv'] at hV
 have hlen:=ofP_len b
 have htree:=ofP_tree (b:=b)
 generalize ofP b=r at hO hlen htree
 obtain ⟨⟨fm,v,t⟩,at_,e⟩:=r
 simp only [ofV,encM] at hO
 dsimp only at hlen htree ⊢
 by_cases he:e≠0
 ·
  rw [if_pos he]
  repeat' (first|((with_reducible apply wl_callp (f:=87));exact rfl;exact rfl;(intro w' hm;exact hV w' _ hm))|((with_reducible apply wl_call (f:=108));exact rfl;exact rfl;(intro w' hm;exact hO w' _ hm);rintro _ _ ⟨A,cap,rfl,rfl⟩)|refine sT ?_|refine sS ?_|refine sW ?_|refine sM fun _=> ?_|(refine sC ?_ ?_<;>intro hb<;>try omega)|(refine sCW ?_ ?_<;>intro hb<;>try omega)|fail)
  all_goals exact ret1 eIO rfl rfl mS ⟨rfl,E,clock,R,rfl,MSub.refl _,hG⟩
 rw [if_neg he]
 have he0:e=0:=by omega
 subst he0
 cases fm with
 |false=>
  obtain ⟨E',hE',hG'⟩:=hG.del a
  rw [if_pos rfl]
  repeat' (first|((with_reducible apply wl_callp (f:=87));exact rfl;exact rfl;(intro w' hm;exact hV w' _ hm))|((with_reducible apply wl_call (f:=108));exact rfl;exact rfl;(intro w' hm;exact hO w' _ hm);rintro _ _ ⟨A,cap,rfl,rfl⟩)|refine sT ?_|refine sS ?_|refine sW ?_|refine sM fun _=> ?_|(refine sC ?_ ?_<;>intro hb<;>try omega)|(refine sCW ?_ ?_<;>intro hb<;>try omega)|fail)
  rename_i g4 g7
  refine w_drawC (id:=9) [5] [] [.box gg 171 [.map (some gm)],.box g4 51 (encF a)] (by kernel_rfl) (by kernel_rfl) (by kernel_rfl) mS ?_
  repeat' (first|((with_reducible apply wc_v);(iterate 3 exact rfl);(with_reducible apply v_nilCheck);exact rfl)|((with_reducible apply wl_delete (enc:=keyF) (t:=169));(iterate 3 exact rfl);exact pK;rw [← hE'])|refine sT ?_|refine sS ?_|refine sW ?_|refine sM fun _=> ?_|(refine sC ?_ ?_<;>intro hb<;>try omega)|(refine sCW ?_ ?_<;>intro hb<;>try omega)|fail)
  all_goals exact ret1 eIO rfl rfl mS ⟨rfl,E',clock,R,rfl,MSub.refl _,hG'⟩
 |true=>
  have hck:=htree rfl rfl
  rw [if_neg (by simp)]
  have hU:=fun (w' :World) (A:Option Nat) (cap:Nat) (H' :List Blk) (hi:In (.own A 368 11 t.length cap (t.flatMap encN)) H') (hm:Mem w0 w' H')=>Uses_at t (sl A t.length cap) w' (Reads.of_own hm hi) (by omega)
  have hue:usesE t=(usesF t,0):=by unfold usesE;rw [hck];rfl
  have hul:(usesF t).length≤256:=Nat.le_trans (usesFrom_len t 0) hlen
  rw [hue] at hU
  repeat' (first|((with_reducible apply wl_callp (f:=87));exact rfl;exact rfl;(intro w' hm;exact hV w' _ hm))|((with_reducible apply wl_call (f:=108));exact rfl;exact rfl;(intro w' hm;exact hO w' _ hm);rintro _ _ ⟨A,cap,rfl,rfl⟩)|((with_reducible apply wl_call (f:=109));exact rfl;exact rfl;(intro w' hm;exact hU w' _ _ _ pK hm);rintro _ _ ⟨A2,cap2,rfl,rfl⟩)|refine sT ?_|refine sS ?_|refine sW ?_|refine sM fun _=> ?_|(refine sC ?_ ?_<;>intro hb<;>try omega)|(refine sCW ?_ ?_<;>intro hb<;>try omega)|fail)
  rename_i g4 g7
  have hGR:=hG.sub (R' := .own A 368 11 t.length cap (t.flatMap encN):: .own A2 200 6 (usesF t).length cap2 ((usesF t).flatMap encU)::R) mS
  obtain ⟨E',hE',hG'⟩:=hGR.put ⟨a,A.map fun g=>⟨g,0,none⟩,cap,A2.map fun g=>⟨g,0,none⟩,cap2,t,usesF t,0⟩ ⟨rdIn.own (A:=A) pK,rdIn.own (A:=A2) pK,by dsimp only;omega,by dsimp only;omega⟩
  generalize hck2:(kput a (.agg #[sl A t.length cap,sl A2 (usesF t).length cap2]) clock (E.map En.m))=kp
  have hE2:E'.map En.m=kp.1:=hck2 ▸ hE'
  have hG2:GOk _ E' kp.2 (insG G a (t,usesF t)):=hck2 ▸ hG'
  refine w_drawC (id:=14) [9] [] [.box gg 171 [.map (some gm)],.box g4 51 (encF a),.box g7 176 [.bool true,.int .u8 v.kind,.int .i64 v.num,.string v.text,sl A t.length cap]] (by kernel_rfl) (by kernel_rfl) (by kernel_rfl) mS ?_
  repeat' (first|((with_reducible apply wc_v);(iterate 3 exact rfl);(with_reducible apply v_nilCheck);exact rfl)|((with_reducible apply wl_mapPut (enc:=keyF));(iterate 3 exact rfl);exact pK;rw [hck2,← hE2])|refine sT ?_|refine sS ?_|refine sW ?_|refine sM fun _=> ?_|(refine sC ?_ ?_<;>intro hb<;>try omega)|(refine sCW ?_ ?_<;>intro hb<;>try omega)|fail)
  all_goals exact ret1 eIO rfl rfl (H' :=gB gg gm (E'.map En.m) kp.2++((.own A 368 11 t.length cap (t.flatMap encN):: .own A2 200 6 (usesF t).length cap2 ((usesF t).flatMap encU)::R)++F)) (by unfold gB;simp only [List.append_eq,List.cons_append,List.nil_append];exact mS) ⟨rfl,E',kp.2,_,rfl,mS,hG2⟩
theorem Set_in (gg gm clock:Nat) (E:List En) (G:Gr) (a:Rf) (b:ByteArray) (R:List Blk) (w0:World) (hG:GOk R E clock G) (hW:Words w0):
  FnIn Tryz.prog 33 [.pointer (some ⟨gg,0,none⟩),keyF a,.string b] w0 (gB gg gm (E.map En.m) clock++R) fun v H=>v= .int .i64 (setG G a b).2∧ ∃ E' clock' R',H=gB gg gm (E'.map En.m) clock' ++R' ∧MSub R R' ∧GOk R' E' clock' (setG G a b).1:=by
 have h:=Set_inF gg gm clock E G a b R [] w0 hG hW
 simp only [List.append_nil] at h
 exact h
end Go.SL
namespace Go.SL
open Go Go.Proofs
theorem MSub.appL (R H1:List Blk):MSub R (R++H1):=⟨H1,.refl _⟩
theorem MSub.appR (R H1:List Blk):MSub R (H1++R):=⟨H1,List.perm_append_comm⟩
theorem MSub.appC (X Hc H1:List Blk):MSub (H1++(Hc++X)) (X++(Hc++H1)):=⟨[],by
 rw [List.append_nil]
 refine List.Perm.trans ?_ (List.Perm.append_left H1 (List.perm_append_comm (l₁:=X) (l₂:=Hc)))
 refine List.Perm.trans (List.Perm.append_left X (List.perm_append_comm (l₁:=Hc) (l₂:=H1))) ?_
 rw [← List.append_assoc,← List.append_assoc]
 exact (List.perm_append_comm (l₁:=X) (l₂:=H1)).append_right Hc⟩
theorem MSub.appD (X Hc H2:List Blk):MSub (X++(Hc++H2)) (H2++(Hc++X)):=MSub.appC H2 Hc X
theorem MSub.appS (Hc H1:List Blk):MSub (H1++Hc) (Hc++H1):=⟨[],by rw [List.append_nil];exact List.perm_append_comm⟩
theorem MSub.appE (X Hc H2:List Blk):MSub (H2++Hc) (H2++(Hc++X)):=⟨X,by rw [List.append_assoc]⟩
theorem MSub.tailX (X Hc H2:List Blk) (b:Blk):MSub (H2++(Hc++X)) (H2++(Hc++b::X)):=⟨[b],by
 rw [List.append_assoc,List.append_assoc]
 refine List.Perm.append_left H2 (List.Perm.append_left Hc ?_)
 exact (List.perm_append_comm (l₁:= [b]) (l₂:=X))⟩
section
variable {P:Program} {n:Fr} {w0:World} {Q:Post} {s:Slots} {H:List Blk} {ty:TypeId}
theorem w_rd {c:Code} {A:Option Addr} {m cap:Nat} {xs:List Value} {R:List Blk} (h:rdIn R (.slice A m cap) m xs) (hs:MSub R H) (hm:0<m)
  (k: ∀ g o,A=some ⟨g,o,none⟩→(∀ w,Mem w0 w R→Ro w g o xs)→W P n w0 c Q s H):W P n w0 c Q s H:=fun a w hst hmem=>by
 have key: ∀ w',Mem w0 w' R→ ∃ g o,A=some ⟨g,o,none⟩∧Ro w' g o xs:=fun w' hm' =>by
  obtain ⟨A',cap',he,_,_,h3⟩:=h _ w' hm'
  injection he with h4 h5 h6
  subst h4
  exact h3 hm
 obtain ⟨g,o,rfl,_⟩:=key w (hs.use hmem)
 refine k g o rfl (fun w' hm' => ?_) a w hst hmem
 obtain ⟨g',o',he,hr⟩:=key w' hm'
 injection he with he
 injection he with h1 h2
 subst h1;subst h2
 exact hr
theorem v_loads_rd {x:Operand} {t g o off m:Nat} {xs ys:List Value} {R:List Blk} [Agg P t m] (hx:ev s x=some (.pointer (some ⟨g,o+off,none⟩))) (hc: ∀ w,Mem w0 w R→Ro w g o xs) (hs:MSub R H) (hv:(xs.drop off).take m=ys) (hl:ys.length=m):
  VOp P w0 s H (.load t x) ty (.agg ys.toArray):=fun ρ w _ _ _ _ hρ hm=>by
 subst hv
 have hcc:Cells w g (o+off) ((xs.drop off).take m):=((hc w (hs.use hm)).cells.drop (k:=off)).take (k:=m)
 simp [execOp,hρ x _ hx,Instr.loadAt,Instr.sureAddr,run_load_agg (P:=P) hl hcc]
end
attribute [local irreducible] W WL WQ WG WA WX WLI WR WT WC VOp RW thn blk cutP scp retP retPP endB FnAt FnIn FnP ceP
def usesRow (E:List En) (a:Rf):List (Rf × Us):=(foundE E a).uses.map fun u=>(a,u)
def allE (E:List En):List (Rf × Us):=(formsF (E.map En.m)).flatMap (usesRow E)
def encAU (x:Rf × Us):List Value:= [keyF x.1,.agg (encR x.2.rect).toArray]
set_option maxHeartbeats 4000000 in
theorem all_seq (gg gm clock:Nat) (E:List En) (hok:MapOk (E.map En.m) clock) (hlen:E.length≤1000) (R:List Blk) (w0:World) (hE: ∀ e∈E,EnOk R e) (g:Nat):
  Seqs Tryz.prog 317 [.pointer (some ⟨g,0,none⟩)] w0 (.box g 73 [.pointer (some ⟨gg,0,none⟩)]::(gB gg gm (E.map En.m) clock++R)) (allE E) encAU:=by
 intro l I J H0 hy h0
 refine FnIn.msub (H' :=(.box g 73 [.pointer (some ⟨gg,0,none⟩)]::(gB gg gm (E.map En.m) clock++R))++H0) ?_ (MSub.appC H0 [] _)
 refine fn_in Tryz.func317 rfl Tryz.ntmps317 rfl ?_
 have hF:=fun R=>Formulas_in gg gm clock (E.map En.m) hok (by simp;omega) R w0
 have hfl:(formsF (E.map En.m)).length≤1000:=by rw [formsF_len];simpa using hlen
 have hl2:(E.map En.m).length=(formsF (E.map En.m)).length:=(formsF_len _).symm
 unfold allE at hy ⊢
 rw [hl2] at hF
 generalize formsF (E.map En.m)=F at hF hfl hy ⊢
 have hall: ∀ us,us=F.flatMap (usesRow E)→F.flatMap (usesRow E)=us:=fun us h=>h.symm
 unfold gB at hy ⊢
 repeat' (first|((with_reducible apply wl_callin (f:=165));exact rfl;exact rfl;exact FnIn.msub (hF (.box g 73 [.pointer (some ⟨gg,0,none⟩)]::(R++H0))) (by unfold gB;exact mS);rintro _ _ ⟨A0,c0,rfl,rfl⟩)|refine sT ?_|refine sS ?_|refine sM fun _=> ?_|(refine sC ?_ ?_<;>intro hb<;>try omega)|fail)
 unfold gB
 refine w_loopK [0,1,8,9] rfl (fun y:Nat × List (Rf × Us) × List Blk=> [(10,.int .i64 (y.1:Int))])
  (fun y=> .own A0 51 2 F.length c0 (F.flatMap encF)::((.box g 73 [.pointer (some ⟨gg,0,none⟩)]::([.box gg 171 [.map (some gm)],.obj gm (mobj keyF (E.map En.m) clock)]++R))++y.2.2))
  (fun y=>y.1≤F.length∧F.flatMap (usesRow E)=y.2.1++(F.drop y.1).flatMap (usesRow E)∧I y.2.1 y.2.2) (fun y=>F.length - y.1) (0,[],H0) ⟨by omega,rfl,h0⟩ ?_ ?_ ?_
 ·
  exact sB
 ·
  exact mS
 rintro ⟨i,pre,H1⟩ ⟨hi,hus,hI⟩
 dsimp only at hi hus hI ⊢
 by_cases hlt:i<F.length
 ·
  have hv0:((F.flatMap encF).drop (i*2)).take 2=encF F[i]:=flat_elem encF_len F i hlt
  rw [List.drop_eq_getElem_cons hlt,List.flatMap_cons] at hus
  have hl:=look_E E F[i]
  have hoke:=foundE_ok hE F[i]
  have hrow:usesRow E F[i]=(foundE E F[i]).uses.map fun u=>(F[i],u):=rfl
  rw [hrow] at hus
  generalize F[i]=a at hv0 hl hoke hus
  generalize foundE E a=e at hl hoke hus
  refine w_some (A:=A0) pK (by omega) fun g0 hA0=> ?_
  subst hA0
  repeat' (first|((with_reducible apply wl_v);exact rfl;(with_reducible apply v_indexAddr);exact rfl;exact rfl;exact hlt)|((with_reducible apply wl_v);exact rfl;(with_reducible apply v_loads_own (ys:=encF a));exact rfl;exact pK;(rw [Nat.zero_add];exact hv0);exact rfl)|((with_reducible apply wc_v);(iterate 3 exact rfl);(with_reducible apply v_nilCheck);exact rfl)|((with_reducible apply w_drawC0 (id:=3) [] []);kernel_rfl;kernel_rfl;kernel_rfl)|((with_reducible apply wc_v);(iterate 3 exact rfl);(with_reducible apply v_lookup (enc:=keyF) (z:=zeroFm));exact rfl;exact rfl;exact pK;exact hl)|((with_reducible apply wc_v);(iterate 3 exact rfl);(with_reducible apply v_field);exact rfl;exact rfl)|refine sT ?_|refine sS ?_|refine sW ?_|refine sN ?_|refine sWN ?_|refine sM fun _=> ?_|(refine sC ?_ ?_<;>intro hb<;>try omega)|(refine sCW ?_ ?_<;>intro hb<;>try omega)|fail)
  rename_i g4
  have hul:=hoke.ul
  refine w_loopK [0,1,8,9,10,4,20,21] rfl (fun y:Nat × List (Rf × Us) × List Blk=> [(22,.int .i64 (y.1:Int))])
   (fun y=> .box g4 51 (encF a):: .own (some g0) 51 2 F.length c0 (F.flatMap encF)::((.box g 73 [.pointer (some ⟨gg,0,none⟩)]::([.box gg 171 [.map (some gm)],.obj gm (mobj keyF (E.map En.m) clock)]++R))++y.2.2))
   (fun y=>y.1≤e.uses.length∧F.flatMap (usesRow E)=y.2.1++((e.uses.drop y.1).map (fun u=>(a,u))++(F.drop (i+1)).flatMap (usesRow E))∧I y.2.1 y.2.2) (fun y=>e.uses.length - y.1) (0,pre,H1) ⟨by omega,hus,hI⟩ sB (by exact MSub.refl _) ?_
  rintro ⟨k,pre2,H2⟩ ⟨hk,hus2,hI2⟩
  dsimp only at hk hus2 hI2 ⊢
  by_cases hkt:k<e.uses.length
  ·
   rw [List.drop_eq_getElem_cons hkt,List.map_cons,List.cons_append] at hus2
   have hv1:((e.uses.flatMap encU).drop (k*6)).take 6=encU e.uses[k]:=flat_elem encU_len e.uses k hkt
   generalize e.uses[k]=u at hus2 hv1
   have hsubR: ∀ X:List Blk,MSub R (X++((.box g 73 [.pointer (some ⟨gg,0,none⟩)]::([.box gg 171 [.map (some gm)],.obj gm (mobj keyF (E.map En.m) clock)]++R))++H2)):=fun X=>by
    refine MSub.trans ?_ (MSub.appR _ X)
    refine MSub.drop .hd (MSub.drop .hd (MSub.drop .hd ?_))
    exact MSub.appL _ _
   refine w_rd hoke.uses (hsubR [.box g4 51 (encF a),.own (some g0) 51 2 F.length c0 (F.flatMap encF)]) (by omega) fun gu ou hua hur=> ?_
   have huv:e.uv= .slice (some ⟨gu,ou,none⟩) e.uses.length e.uc:=by unfold En.uv;rw [hua]
   rw [huv]
   repeat' (first|((with_reducible apply wl_v);exact rfl;(with_reducible apply v_indexAddr);exact rfl;exact rfl;exact hkt)|((with_reducible apply wl_v);exact rfl;(with_reducible apply v_loads_rd (ys:=encU u));exact rfl;exact hur;exact hsubR [.box g4 51 (encF a),.own (some g0) 51 2 F.length c0 (F.flatMap encF)];exact hv1;exact rfl)|((with_reducible apply w_regionI (id:=6)))|((with_reducible apply wli_v);exact rfl;exact rfl;(with_reducible apply v_loads_box (ys:=encR u.rect));exact rfl;exact pK;exact rfl;exact rfl)|refine sT ?_|refine sS ?_|refine sI ?_|refine sN ?_|refine sM fun _=> ?_|(refine sC ?_ ?_<;>intro hb<;>try omega)|fail)
   rename_i g6
   (with_reducible apply wli_yieldB)
   ·
    exact rfl
   ·
    exact rfl
   ·
    exact rfl
   ·
    exact MSub.appC [.box g6 200 (encU u),.box g4 51 (encF a),.own (some g0) 51 2 F.length c0 (F.flatMap encF)] (.box g 73 [.pointer (some ⟨gg,0,none⟩)]::([.box gg 171 [.map (some gm)],.obj gm (mobj keyF (E.map En.m) clock)]++R)) H2
   ·
    exact fun w hm=>hy pre2 (a,u) _ hus2 H2 _ hI2 w hm
   intro bb H3 hq
   cases bb
   ·
    repeat' (first|refine sT ?_|refine sS ?_|refine sI ?_|refine sM fun _=> ?_|(refine sC ?_ ?_<;>intro hb<;>try omega)|fail)
    exact ret0 eIO Tryz.results317 (MSub.appE [.box g6 200 (encU u),.box g4 51 (encF a),.own (some g0) 51 2 F.length c0 (F.flatMap encF)] (.box g 73 [.pointer (some ⟨gg,0,none⟩)]::([.box gg 171 [.map (some gm)],.obj gm (mobj keyF (E.map En.m) clock)]++R)) H3) ⟨H3,.inr ⟨_,hq⟩,MSub.refl _⟩
   ·
    repeat' (first|refine sT ?_|refine sS ?_|refine sI ?_|refine sN ?_|refine sM fun _=> ?_|(refine sC ?_ ?_<;>intro hb<;>try omega)|fail)
    refine ⟨(k+1,_,H3),⟨hkt,hus2.trans (by rw [List.append_assoc];rfl),hq⟩,(by dsimp only;omega),?_,?_,?_⟩
    ·
     exact sB
    ·
     exact sB
    ·
     dsimp only
     exact MSub.trans (MSub.appD [.box g4 51 (encF a),.own (some g0) 51 2 F.length c0 (F.flatMap encF)] (.box g 73 [.pointer (some ⟨gg,0,none⟩)]::Blk.box gg 171 [.map (some gm)]::Blk.obj gm (mobj keyF (E.map En.m) clock)::R) H3) (MSub.tailX _ _ _ _)
  ·
   have e2:k=e.uses.length:=by omega
   subst e2
   rw [List.drop_length,List.map_nil,List.nil_append] at hus2
   repeat' (first|refine sT ?_|refine sS ?_|refine sN ?_|refine sM fun _=> ?_|(refine sC ?_ ?_<;>intro hb<;>try omega)|fail)
   refine ⟨(i+1,pre2,H2),⟨hlt,hus2,hI2⟩,(by dsimp only;omega),?_,?_,?_⟩
   ·
    exact sB
   ·
    exact sB
   ·
    exact MSub.drop .hd (MSub.refl _)
 ·
  have e2:i=F.length:=by omega
  subst e2
  rw [List.drop_length,List.flatMap_nil,List.append_nil] at hus
  repeat' (first|refine sT ?_|refine sS ?_|refine sM fun _=> ?_|(refine sC ?_ ?_<;>intro hb<;>try omega)|fail)
  refine ret0 (.inr rfl) Tryz.results317 (MSub.drop .hd (MSub.appS (.box g 73 [.pointer (some ⟨gg,0,none⟩)]::([.box gg 171 [.map (some gm)],.obj gm (mobj keyF (E.map En.m) clock)]++R)) H1)) ⟨H1,.inl ?_,MSub.refl _⟩
  rw [hus];exact hI
end Go.SL
namespace Go.SL
open Go Go.Proofs
attribute [local irreducible] W WL WQ WG WA WX WLI WR WT WC VOp RW thn blk cutP scp retP retPP endB FnAt FnIn FnP ceP bodyB assignQ roundQ
theorem v_neqF_to {w0:World} {s:Slots} {H:List Blk} {ty t' :TypeId} {x y:Operand} {a b:Rf} {c:Bool} (h:decide (a≠b)=c) (hx:ev s x=some (.agg (encF a).toArray)) (hy:ev s y=some (.agg (encF b).toArray)):VOp Tryz.prog w0 s H (.binOp .neq 51 x y t') ty (.bool c):=by
 have h1:=v_neqF (w0:=w0) (H:=H) (ty:=ty) (t' :=t') hx hy
 rw [eqF_dec] at h1
 rw [← h]
 have e:(!decide (a=b))=decide (a≠b):=by simp
 rwa [e] at h1
def usersStep (r:Rct) (out:List Rf) (x:Rf × Us):List Rf:=if touch r x.2 && (match out.getLast? with|none=>true|some b=>decide (b≠x.1)) then out++ [x.1] else out
def usersP (E:List En) (r:Rct):List Rf:=if rectE r≠0 then [] else (allE E).foldl (usersStep r) []
theorem usersStep_eq (r:Rct) (out:List Rf) (x:Rf × Us):usersStep r out x=if touch r x.2 && (match out.getLast? with|none=>true|some b=>decide (b≠x.1)) then out++ [x.1] else out:=rfl
theorem usersStep_len (r:Rct) (out:List Rf) (x:Rf × Us):(usersStep r out x).length≤out.length+1:=by
 unfold usersStep
 generalize (touch r x.2 && (match out.getLast? with|none=>true|some b=>decide (b≠x.1)))=c
 cases c<;>simp
theorem usersFold_len (r:Rct): ∀ (us:List (Rf × Us)) (out:List Rf),(us.foldl (usersStep r) out).length≤out.length+us.length
 | [],_=>Nat.le_refl _
 |x::us,out=>by
  have h1:=usersFold_len r us (usersStep r out x)
  have h2:=usersStep_len r out x
  simp only [List.foldl_cons,List.length_cons]
  omega
theorem allV_at (x:Value) (g0:Nat) (w:World) (hx:x= .pointer (some ⟨g0,0,none⟩)):FnAt Tryz.prog 264 [x] w fun v H=> ∃ g,v= .func (.func 317) #[] #[.pointer (some ⟨g,0,none⟩)]∧H= [.box g 73 [x]]:=by
 refine fn_at Tryz.func264 rfl Tryz.ntmps264 rfl ?_
 subst hx
 repeat' (first|refine sT ?_|refine sM fun _=> ?_|(refine sC ?_ ?_<;>intro hb<;>try omega)|fail)
 rename_i g
 exact ret1 eIO rfl rfl (.refl _) ⟨g,rfl,rfl⟩
set_option maxHeartbeats 4000000 in
theorem Users_in (gg gm clock : Nat) (E : List En) (r : Rct) (hok : MapOk (E.map En.m) clock) (hlen : E.length ≤ 1000) (hal : (allE E).length ≤ 1000000) (R : List Blk) (w0 : World) (hE : ∀ e ∈ E, EnOk R e) :
    FnIn Tryz.prog 185 [.pointer (some ⟨gg, 0, none⟩), .agg (encR r).toArray] w0 (gB gg gm (E.map En.m) clock ++ R) fun v H => ∃ A cap, v = sl A (usersP E r).length cap ∧ H = .own A 51 2 (usersP E r).length cap ((usersP E r).flatMap encF) :: (gB gg gm (E.map En.m) clock ++ R) := by
  refine fn_range Tryz.func185 rfl Tryz.ntmps185 (by rfl) ?_
  have hrc := fun w => rect_at r w
  unfold usersP
  refine wt_seq_r ?_
  refine w_nilrow 51 2 ?_
  by_cases hre : rectE r ≠ 0
  · rw [if_pos hre]
    repeat' (first | ((with_reducible apply wl_callp); exact rfl; exact rfl; (intro w hm; exact hrc w)) | refine sT ?_ | refine sS ?_ | refine sR ?_ | refine sM fun _ => ?_ | (refine sC ?_ ?_ <;> intro hb <;> try omega) | (refine sCR ?_ ?_ <;> intro hb <;> try omega) | fail)
    all_goals first
      | (exfalso; omega)
      | (refine end_ret ?_
         exact ret1 eIO rfl rfl (H' := .own none 51 2 0 0 [] :: (gB gg gm (E.map En.m) clock ++ R)) mS ⟨none, 0, rfl, rfl⟩)
  rw [if_neg hre]
  have hre0 : rectE r = 0 := by omega
  rw [hre0] at hrc
  repeat' (first | ((with_reducible apply wl_callp); exact rfl; exact rfl; (intro w hm; exact hrc w)) | ((with_reducible apply wl_call (f := 264)); exact rfl; exact rfl; (intro w' hm; exact allV_at _ gg w' rfl); rintro _ _ ⟨g, rfl, rfl⟩) | refine sT ?_ | refine sS ?_ | refine sR ?_ | refine sM fun _ => ?_ | (refine sC ?_ ?_ <;> intro hb <;> try omega) | (refine sCR ?_ ?_ <;> intro hb <;> try omega) | fail)
  rename_i g3 g5
  refine wt_range (ps := [19, 20]) (us := allE E) (encs := encAU) (Hc := .box g 73 [.pointer (some ⟨gg, 0, none⟩)] :: (gB gg gm (E.map En.m) clock ++ R)) (HU0 := [.box g5 68 [.slice none 0 0], .own none 51 2 0 0 [], .box g3 33 (encR r)]) rfl (fun _ => rfl) rfl (all_seq gg gm clock E hok hlen R w0 hE g)
    (fun pre HU => ∃ A cap, (0 < (pre.foldl (usersStep r) []).length → ∃ ga, A = some ga) ∧ HU = [.box g5 68 [sl A (pre.foldl (usersStep r) []).length cap], .own A 51 2 (pre.foldl (usersStep r) []).length cap ((pre.foldl (usersStep r) []).flatMap encF), .box g3 33 (encR r)]) (fun _ => False) ?_ ⟨none, 0, by simp, rfl⟩ ?_ ?_ ?_
  · exact mS
  · rintro l pre ⟨at_, u⟩ post hus _ ⟨A, cap, hA, rfl⟩ F F'
    have hlu := congrArg List.length hus
    simp only [List.length_append, List.length_cons] at hlu
    have hol := usersFold_len r pre []
    have hfold : (pre ++ [(at_, u)]).foldl (usersStep r) [] = usersStep r (pre.foldl (usersStep r) []) (at_, u) := by rw [List.foldl_append]; rfl
    generalize pre.foldl (usersStep r) [] = out at hA hol hfold ⊢
    simp only [List.length_nil, Nat.zero_add] at hol
    change WR _ _ _ l _ _ ((20, Value.agg (encR u.rect).toArray) :: (19, Value.agg (encF at_).toArray) :: _) (.box g5 68 [sl A out.length cap] :: .own A 51 2 out.length cap (out.flatMap encF) :: .box g3 33 (encR r) :: F)
    repeat' (first | refine sT ?_ | refine sR ?_ | refine sM fun _ => ?_ | (refine sC ?_ ?_ <;> intro hb <;> try omega) | (refine sCR ?_ ?_ <;> intro hb <;> try omega) | fail)
    rename_i g6 g7
    refine assign_n ⟨[.box g7 33 (encR u.rect), .box g6 51 (encF at_), .box g5 68 [sl A out.length cap], .own A 51 2 out.length cap (out.flatMap encF), .box g3 33 (encR r)], MSub.refl _, ?_⟩
    change WR _ _ _ l _ _ _ (.box g7 33 (encR u.rect) :: .box g6 51 (encF at_) :: .box g5 68 [sl A out.length cap] :: .own A 51 2 out.length cap (out.flatMap encF) :: .box g3 33 (encR r) :: F')
    have hmeet := fun w => Meet_at u.rect r w
    have hto : touch r u = (meetR u.rect r).2 := rfl
    generalize meetR u.rect r = mt at hmeet hto
    obtain ⟨mr, mb⟩ := mt
    dsimp only at hto
    rw [usersStep_eq] at hfold
    simp only [hto] at hfold
    cases mb with
    | false =>
      simp only [Bool.false_and, Bool.false_eq_true, if_false] at hfold
      repeat' (first | ((with_reducible apply wl_callp); exact rfl; exact rfl; (intro w hm; exact hmeet w)) | ((with_reducible apply (wr_drawC (id := 8) [] [] _)); kernel_rfl; kernel_rfl; kernel_rfl; exact rfl; exact MSub.refl _) | refine sT ?_ | refine sS ?_ | refine sR ?_ | refine sW ?_ | refine sM fun _ => ?_ | (refine sC ?_ ?_ <;> intro hb <;> try omega) | (refine sCR ?_ ?_ <;> intro hb <;> try omega) | (refine sCW ?_ ?_ <;> intro hb <;> try omega) | fail)
      all_goals
        refine round_n [.box g5 68 [sl A out.length cap], .own A 51 2 out.length cap (out.flatMap encF), .box g3 33 (encR r)] ?_ ⟨A, cap, ?_⟩
        · change MSub (_ :: _ :: _ :: F') _
          exact mS
        · rw [hfold]; exact ⟨hA, rfl⟩
    | true =>
      simp only [Bool.true_and] at hfold
      have hsn : ∀ b : Rf, (out ++ [b]).flatMap encF = out.flatMap encF ++ encF b := fun b => by simp
      cases hlast : out.getLast? with
      | none =>
        have hnil : out = [] := List.getLast?_eq_none_iff.1 hlast
        subst hnil
        simp only [hlast, if_true] at hfold
        repeat' (first | ((with_reducible apply wl_callp); exact rfl; exact rfl; (intro w hm; exact hmeet w)) | ((with_reducible apply (wr_drawC (id := 8) [] [] _)); kernel_rfl; kernel_rfl; kernel_rfl; exact rfl; exact MSub.refl _) | ((with_reducible apply wl_append); (iterate 3 exact rfl); (repeat first | exact .hd | apply Sel.tl | apply In.tl); (intro w hm; exact hm.cells_own (by (repeat first | exact .hd | apply Sel.tl | apply In.tl))); exact rfl; (simp [Value.oneCell', sl]); omega; (simp only [maxLen]; omega); (intro A' cap' hA')) | refine sT ?_ | refine sS ?_ | refine sR ?_ | refine sW ?_ | refine sN ?_ | refine sWN ?_ | refine sM fun _ => ?_ | (refine sC ?_ ?_ <;> intro hb <;> try omega) | (refine sCR ?_ ?_ <;> intro hb <;> try omega) | (refine sCW ?_ ?_ <;> intro hb <;> try omega) | fail)
        refine round_n [.box g5 68 [sl A' (0 + 1) cap'], .own A' 51 2 (0 + 1) cap' ([] ++ encF at_), .box g3 33 (encR r)] ?_ ⟨A', cap', ?_⟩
        · change MSub (_ :: _ :: _ :: F') _
          exact mS
        · rw [hfold]; exact ⟨fun _ => hA' (by simp), rfl⟩
      | some b =>
        simp only [hlast] at hfold
        have hne : out ≠ [] := fun h => by rw [h] at hlast; cases hlast
        have hpos : 0 < out.length := List.length_pos_iff.2 hne
        obtain ⟨ga, rfl⟩ := hA hpos
        have hb1 : ((out.flatMap encF).drop ((out.length - 1) * 2)).take 2 = encF b := by
          rw [flat_elem encF_len out (out.length - 1) (by omega)]
          have := hlast
          rw [List.getLast?_eq_getElem?, List.getElem?_eq_getElem (by omega)] at this
          rw [Option.some.inj this]
        generalize hdec : decide (b ≠ at_) = c at hfold
        repeat' (first | ((with_reducible apply wl_callp); exact rfl; exact rfl; (intro w hm; exact hmeet w)) | ((with_reducible apply (wr_drawC (id := 8) [] [] _)); kernel_rfl; kernel_rfl; kernel_rfl; exact rfl; exact MSub.refl _) | ((with_reducible apply wc_v); (iterate 3 exact rfl); (with_reducible apply v_indexAddr (j := out.length - 1)); exact rfl; exact rfl; omega) | ((with_reducible apply wc_v); (iterate 3 exact rfl); (with_reducible apply v_loads_own (ys := encF b)); exact rfl; exact pK; (rw [Nat.zero_add]; exact hb1); exact rfl) | ((with_reducible apply wc_v); (iterate 3 exact rfl); (with_reducible apply v_neqF_to hdec); exact rfl; exact rfl) | ((with_reducible apply wl_append); (iterate 3 exact rfl); (repeat first | exact .hd | apply Sel.tl | apply In.tl); (intro w hm; exact hm.cells_own (by (repeat first | exact .hd | apply Sel.tl | apply In.tl))); exact rfl; (simp [Value.oneCell', sl]); omega; (simp only [maxLen]; omega); (intro A' cap' hA')) | refine sT ?_ | refine sS ?_ | refine sR ?_ | refine sW ?_ | refine sN ?_ | refine sWN ?_ | refine sM fun _ => ?_ | (refine sC ?_ ?_ <;> intro hb <;> try omega) | (refine sCR ?_ ?_ <;> intro hb <;> try omega) | (refine sCW ?_ ?_ <;> intro hb <;> try omega) | fail)
        · rw [hb] at hfold
          simp only [if_true] at hfold
          refine round_n [.box g5 68 [sl A' (out.length + 1) cap'], .own A' 51 2 (out.length + 1) cap' (out.flatMap encF ++ encF at_), .box g3 33 (encR r)] ?_ ⟨A', cap', ?_⟩
          · change MSub (_ :: _ :: _ :: F') _
            exact mS
          · rw [hfold, hsn, List.length_append]; exact ⟨fun _ => hA' (by simp), rfl⟩
        · rw [hb] at hfold
          simp only [Bool.false_eq_true, if_false] at hfold
          refine round_n [.box g5 68 [sl (some ga) out.length cap], .own (some ga) 51 2 out.length cap (out.flatMap encF), .box g3 33 (encR r)] ?_ ⟨some ga, cap, ?_⟩
          · change MSub (_ :: _ :: _ :: F') _
            exact mS
          · rw [hfold]; exact ⟨fun _ => ⟨ga, rfl⟩, rfl⟩
  · rintro D _ ⟨A, cap, _, rfl⟩
    change endB _ _ _ _ _ (dObj D :: .box g5 68 [sl A ((allE E).foldl (usersStep r) []).length cap] :: .own A 51 2 ((allE E).foldl (usersStep r) []).length cap (((allE E).foldl (usersStep r) []).flatMap encF) :: .box g3 33 (encR r) :: _)
    repeat' (first | refine sT ?_ | refine sR ?_ | refine sM fun _ => ?_ | (refine sC ?_ ?_ <;> intro hb <;> try omega) | (refine sCR ?_ ?_ <;> intro hb <;> try omega) | fail)
    refine end_mark .hd ?_
    exact ret1 eIO rfl rfl mS ⟨A, cap, rfl, rfl⟩
  · rintro D HU h
    exact h.elim
end Go.SL
namespace Go.SL
open Go Go.Proofs
attribute [local irreducible] W WL WQ WG WA WX WLI WR WT WC VOp RW thn blk cutP scp retP retPP endB FnAt FnIn FnP ceP
theorem gok_nil (R:List Blk):GOk R [] 0 []:=⟨⟨List.nodup_nil,(fun _ h=>by cases h),List.nodup_nil⟩,(fun _ h=>by cases h),(fun _=>Iff.rfl),sortG_nil⟩
end Go.SL
