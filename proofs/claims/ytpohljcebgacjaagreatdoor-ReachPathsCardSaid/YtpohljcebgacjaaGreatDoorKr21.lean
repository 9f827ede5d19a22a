/-
  Lemmas and walks, put together: W18 W19 W20 W21 W22 Tr5 W36 W37 R2 R3.
-/
import Derived.Laws.Bits64
import Derived.Test.YtpohljcebgacjaaGreatDoorKr20
set_option linter.unusedSimpArgs false
set_option linter.unusedVariables false
set_option maxRecDepth 20000
namespace Go.SL
open Go Go.Proofs
attribute [local irreducible] W WL WQ WG WA VOp thn blk cutP retP FnAt FnIn
theorem stepT_err {L:List Nd} {n:Nd} {i:Nat} {st:List Pt} {e:Int} (h:stepT L n i st= .inl e):e≠0:=by
 unfold stepT at h
 split at h
 ·
  injection h with h;subst h;assumption
 ·
  split at h
  ·
   injection h with h;omega
  ·
   split at h
   ·
    injection h with h;omega
   ·
    cases h
theorem stepT_shape {L:List Nd} {n:Nd} {i:Nat} {st st' :List Pt} {ks:List Nat} {d:Nat} (h:stepT L n i st= .inr (st',ks,d)): ∃ a,(∀ p∈a,p∈st)∧a.length≤st.length∧st' =a++ [⟨i,d,decide (n.kind=3)⟩]∧d≤32:=by
 unfold stepT at h
 split at h
 ·
  cases h
 ·
  split at h
  ·
   cases h
  ·
   split at h
   ·
    cases h
   ·
    simp only [Sum.inr.injEq,Prod.mk.injEq] at h
    obtain ⟨rfl,rfl,rfl⟩:=h
    exact ⟨_,fun p hp=>List.mem_of_mem_take hp,by simp,rfl,by omega⟩
theorem topsOk_step {L:List Nd} {i:Nat} (hi:i<L.length) {st st' :List Pt} {ks:List Nat} {d:Nat} (ho:TopsOk L i st) (h:stepT L L[i] i st= .inr (st',ks,d)):TopsOk L (i+1) st' :=by
 obtain ⟨a,h1,h2,rfl,h3⟩:=stepT_shape h
 refine ⟨fun p hp=> ?_,by have:=ho.small;simp;omega⟩
 rcases List.mem_append.1 hp with hp|hp
 ·
  obtain ⟨q1,q2,q3⟩:=ho.ok p (h1 p hp)
  exact ⟨by omega,q2,q3⟩
 ·
  rw [List.mem_singleton.1 hp]
  exact ⟨Nat.lt_succ_self i,h3,by rw [kindAt_get hi]⟩
def judgeT (L:List Nd):List Nd→Nat→List Pt→List Pt × Int
 | [],_,st=>(st,0)
 |n::r,i,st=>match stepT L n i st with
  | .inl e=>([],e)
  | .inr x=>judgeT L r (i+1) x.1
def lastP (st:List Pt):Nat:=(st.getLast?.map Pt.depth).getD 0
theorem judge_walk (L:List Nd): ∀ (r:List Nd) (i:Nat) (st:List Pt) (vs:List Visit),lastD vs=lastP st→
  (walkT L r i st vs).1=(if (judgeT L r i st).2≠0 then (judgeT L r i st).2 else if (judgeT L r i st).1.length=1 then 0 else 4)∧((judgeT L r i st).2=0→lastD (walkT L r i st vs).2=lastP (judgeT L r i st).1)
 | [],i,st,vs,h=>by
  refine ⟨?_,fun _=>h⟩
  by_cases h1:st.length=1<;>simp [walkT,judgeT,h1]
 |n::r,i,st,vs,h=>by
  rw [walkT,judgeT]
  cases hs:stepT L n i st with
  |inl e=>have:=stepT_err hs;simp [this]
  |inr x=>
   obtain ⟨st',ks,d⟩:=x
   obtain ⟨a,_,_,rfl,_⟩:=stepT_shape hs
   dsimp only
   exact judge_walk L r (i+1) _ _ (by simp [lastD,lastP])
theorem refDepth_eq (L:List Nd):depthE L=(if 256<L.length then (0,5) else if (judgeT L L 0 []).2≠0 then (0,(judgeT L L 0 []).2) else if (judgeT L L 0 []).1.length≠1∨kindAt L (L.length - 1)=3 then (0,4) else (((lastP (judgeT L L 0 []).1:Nat):Int),0):Int × Int):=by
 obtain ⟨h1,h2⟩:=judge_walk L L 0 [] [] rfl
 have h0:L.length=0→(judgeT L L 0 []).2=0∧(judgeT L L 0 []).1.length=0:=fun c=>by
  have:L= []:=List.eq_nil_of_length_eq_zero c
  subst this
  simp [judgeT]
 unfold depthE checkE checkT
 generalize walkT L L 0 [] []=wk at h1 h2
 generalize judgeT L L 0 []=j at h0 h1 h2
 generalize kindAt L (L.length - 1)=k
 obtain ⟨w1,w2⟩:=wk
 obtain ⟨j1,j2⟩:=j
 dsimp only at h0 h1 h2 ⊢
 by_cases c1:256<L.length
 ·
  simp [c1]
 by_cases c2:L.length=0
 ·
  obtain ⟨a1,a2⟩:=h0 c2
  simp only [if_neg c1,if_pos c2]
  simp [a1,a2]
 simp only [if_neg c1,if_neg c2]
 clear c1 c2 h0
 by_cases c3:j2=0
 ·
  have h2' :=h2 c3
  by_cases c4:j1.length=1
  ·
   by_cases c5:k=3<;>simp_all
  ·
   simp_all
 ·
  simp_all
theorem judge_at (L:List Nd) (hlen:L.length≤256) (hwf: ∀ n∈L,wfN n) (tv:Value) (w:World) (ht:Reads w tv L.length (L.flatMap encN)):
  FnAt Tryz.prog 219 [tv] w fun v H=> ∃ A cap,v= .tuple #[sl A (judgeT L L 0 []).1.length cap,.int .i64 (judgeT L L 0 []).2]∧H= [.own A 276 2 (judgeT L L 0 []).1.length cap ((judgeT L L 0 []).1.flatMap encT)]:=by
 have ht' :=ht
 obtain ⟨At,ct,rfl,ht1,ht2,ht3⟩:=ht
 refine fn_at Tryz.func219 rfl Tryz.ntmps219 rfl ?_
 refine w_nilrow 276 2 ?_
 refine w_nilrow 276 2 ?_
 generalize hR:judgeT L L 0 []=R
 repeat' (first|refine sT ?_|refine sM fun _=> ?_|(refine sC ?_ ?_<;>intro hb<;>try omega)|fail)
 refine w_loopK [0] rfl (fun x:Nat × List Pt × Option Nat × Nat=> [(4,sl x.2.2.1 x.2.1.length x.2.2.2),(5,.int .i64 (x.1:Int))]) (fun x=> [.own x.2.2.1 276 2 x.2.1.length x.2.2.2 (x.2.1.flatMap encT),.own none 276 2 0 0 []]) (fun x=>x.1≤L.length∧TopsOk L x.1 x.2.1∧R=judgeT L (L.drop x.1) x.1 x.2.1) (fun x=>L.length - x.1) (0,[],none,0) ⟨by omega,⟨fun p hp=>by simp at hp,Nat.zero_le _⟩,hR.symm⟩ sB mS ?_
 rintro ⟨i,st,A,cap⟩ ⟨hi,hok,hrec⟩
 dsimp only at hi hok hrec ⊢
 by_cases hlt:i<L.length
 ·
  rw [List.drop_eq_getElem_cons hlt,judgeT] at hrec
  have hnode:=fun (w' :World) (H:List Blk) (hm:Mem w w' H) (hr:Reads w' (sl A st.length cap) st.length (st.flatMap encT))=>refNode_at L i hlt hlen (hwf _ (List.getElem_mem hlt)) st hok _ _ w' (ht'.of_w0 hm) hr
  have hto:=fun {st' ks d}=>topsOk_step (st' :=st') (ks:=ks) (d:=d) hlt hok
  unfold nodeR at hnode
  generalize hs:stepT L L[i] i st=s at hrec hnode hto
  cases s with
  |inl e=>
   have he:=stepT_err hs
   dsimp only at hrec hnode
   subst hrec
   repeat' (first|((with_reducible apply wl_call);exact rfl;exact rfl;(intro w' hm;exact hnode w' _ hm (Reads.of_own hm pK));(rintro v H' ⟨A',cap',rfl,rfl⟩))|refine sT ?_|refine sM fun _=> ?_|(refine sC ?_ ?_<;>intro hb<;>try omega)|fail)
   ·
    exact ret2 (.inl rfl) Tryz.results219 rfl rfl (H' := [.own none 276 2 0 0 []]) mS ⟨none,0,rfl,rfl⟩
  |inr x=>
   obtain ⟨st',ks,d⟩:=x
   dsimp only at hrec hnode
   repeat' (first|((with_reducible apply wl_call);exact rfl;exact rfl;(intro w' hm;exact hnode w' _ hm (Reads.of_own hm pK));(rintro v H' ⟨A',cap',rfl,rfl⟩))|refine sT ?_|refine sN ?_|refine sM fun _=> ?_|(refine sC ?_ ?_<;>intro hb<;>try omega)|fail)
   refine ⟨(i+1,st',A',cap'),?_,(by first|omega|(dsimp only;omega)),sB,sB,mS⟩
   exact ⟨hlt,hto rfl,hrec⟩
 ·
  have e:i=L.length:=by omega
  subst e
  rw [List.drop_length,judgeT] at hrec
  subst hrec
  repeat' (first|refine sT ?_|refine sM fun _=> ?_|(refine sC ?_ ?_<;>intro hb<;>try omega)|fail)
  exact ret2 (.inl rfl) Tryz.results219 rfl rfl (H' := [.own A 276 2 st.length cap (st.flatMap encT)]) mS ⟨A,cap,rfl,rfl⟩
theorem lastP_one {st:List Pt} (h:st.length=1): ∃ p,st= [p]∧lastP st=p.depth:=by
 match st,h with
 | [p],_=>exact ⟨p,rfl,rfl⟩
theorem refDepth_at (L:List Nd) (hwf: ∀ n∈L,wfN n) (tv:Value) (w:World) (ht:Reads w tv L.length (L.flatMap encN)):Pure Tryz.prog 176 [tv] w (.tuple #[.int .i64 (depthE L).1,.int .i64 (depthE L).2]):=by
 have ht' :=ht
 obtain ⟨At,ct,rfl,ht1,ht2,ht3⟩:=ht
 refine fn_at Tryz.func176 rfl Tryz.ntmps176 rfl ?_
 have hd:=refDepth_eq L
 generalize hde:depthE L=de at hd
 by_cases h256:256<L.length
 ·
  rw [if_pos h256] at hd
  subst hd
  repeat' (first|refine sT ?_|refine sM fun _=> ?_|(refine sC ?_ ?_<;>intro hb<;>try omega)|fail)
  (refine rT2 ?_)
  rfl
 have hj:=fun (w' :World) (H:List Blk) (hm:Mem w w' H)=>judge_at L (by omega) hwf _ w' (ht'.of_w0 hm)
 rw [if_neg h256] at hd
 have h0:L.length=0→(judgeT L L 0 []).1.length=0:=fun c=>by
  have:L= []:=List.eq_nil_of_length_eq_zero c
  subst this
  simp [judgeT]
 generalize judgeT L L 0 []=j at hj hd h0
 obtain ⟨st,e⟩:=j
 dsimp only at hj hd h0
 by_cases he:e=0
 ·
  rw [if_neg (by simp [he])] at hd
  by_cases hl:st.length=1
  ·
   obtain ⟨p,rfl,hp⟩:=lastP_one hl
   obtain ⟨gt,ot,rfl,hrt⟩:=ht3 (by omega)
   have hrl:=hrt.elem encN_len (L.length - 1) (by omega)
   have hk:kindAt L (L.length - 1)=(L[L.length - 1]'(by omega)).kind:=kindAt_get _
   rw [hk,hp] at hd
   generalize (L[L.length - 1]'(by omega))=nl at hrl hd
   subst he
   repeat' (first|((with_reducible apply wl_call);exact rfl;exact rfl;(intro w' hm;exact hj w' _ hm);(rintro v H' ⟨A',cap',rfl,rfl⟩))|refine sT ?_|refine sN ?_|refine sO ?_|refine sM fun _=> ?_|(refine sC ?_ ?_<;>intro hb<;>try omega)|fail)
   ·
    rw [if_pos (.inr hb)] at hd
    subst hd
    (refine rT2 ?_)
    rfl
   ·
    rw [if_neg (by simp;omega)] at hd
    subst hd
    refine wl_some .hd (by simp) fun ga hA=> ?_
    subst hA
    repeat' (first|((with_reducible apply wl_v);exact rfl;(with_reducible apply v_indexAddr (j:=0));exact rfl;exact rfl;exact Nat.one_pos)|((with_reducible apply wl_v);exact rfl;(with_reducible apply v_load_own);exact rfl;exact pK;exact rfl)|refine sT ?_|refine sM fun _=> ?_|(refine sC ?_ ?_<;>intro hb<;>try omega)|fail)
    (refine rT2 ?_)
    rfl
  ·
   rw [if_pos (.inl hl)] at hd
   subst hd he
   repeat' (first|((with_reducible apply wl_call);exact rfl;exact rfl;(intro w' hm;exact hj w' _ hm);(rintro v H' ⟨A',cap',rfl,rfl⟩))|refine sT ?_|refine sN ?_|refine sO ?_|refine sM fun _=> ?_|(refine sC ?_ ?_<;>intro hb<;>try omega)|fail)
   (refine rT2 ?_)
   rfl
 ·
  rw [if_pos he] at hd
  subst hd
  repeat' (first|((with_reducible apply wl_call);exact rfl;exact rfl;(intro w' hm;exact hj w' _ hm);(rintro v H' ⟨A',cap',rfl,rfl⟩))|refine sT ?_|refine sM fun _=> ?_|(refine sC ?_ ?_<;>intro hb<;>try omega)|fail)
  (refine rT2 ?_)
  rfl
theorem refCheck_at (L:List Nd) (hwf: ∀ n∈L,wfN n) (tv:Value) (w:World) (ht:Reads w tv L.length (L.flatMap encN)):Pure Tryz.prog 123 [tv] w (.int .i64 (checkE L)):=by
 refine fn_at Tryz.func123 rfl Tryz.ntmps123 rfl ?_
 have hd:(depthE L).2=checkE L:=by
  unfold depthE
  split
  ·
   rfl
  ·
   rename_i h;simp at h;simp [h]
 repeat' (first|((with_reducible apply wl_callp);exact rfl;exact rfl;(intro w' hm;exact refDepth_at L hwf tv w' (ht.of_w0 hm)))|refine sT ?_|refine sM fun _=> ?_|(refine sC ?_ ?_<;>intro hb<;>try omega)|fail)
 (refine rT1 ?_)
 rw [hd]
theorem stepF_below {n:Nd} {st l top:List STree} (hs:stepF n st= .inr (l,top)):(top.length:Int)=below n∧st=l++top:=by
 unfold stepF at hs
 split at hs
 ·
  cases hs
 rename_i hf
 split at hs
 ·
  cases hs
 rename_i hb
 split at hs
 ·
  cases hs
 rename_i hd
 simp only [Sum.inr.injEq,Prod.mk.injEq] at hs
 obtain ⟨rfl,rfl⟩:=hs
 have h0:=(fields_ok (n:=n) (by omega)).1
 refine ⟨?_,(List.take_append_drop _ _).symm⟩
 simp only [lastK,List.length_drop]
 omega
theorem walkF_cons {n:Nd} {r:List Nd} {st st' :List STree} {h h' :Hist} (hw:walkF (n::r) st h=(0,st',h')): ∃ l top,stepF n st= .inr (l,top)∧walkF r (l++ [nodeF n top]) (h++ [(top,nodeF n top)])=(0,st',h'):=by
 rw [walkF] at hw
 cases hsf:stepF n st with
 |inl e=>
  rw [hsf] at hw
  simp only [Prod.mk.injEq] at hw
  obtain ⟨rfl,_⟩:=hw
  exfalso
  unfold stepF at hsf
  split at hsf
  ·
   injection hsf with hs
   exact absurd hs (by assumption)
  ·
   split at hsf
   ·
    cases hsf
   ·
    split at hsf<;>cases hsf
 |inr x=>
  obtain ⟨l,top⟩:=x
  rw [hsf] at hw
  exact ⟨l,top,rfl,hw⟩
theorem len_le_flat {st:List STree} (hp: ∀ S∈st,0<S.ns.length):st.length≤(flatS st).length:=by
 induction st with
 |nil=>exact Nat.zero_le _
 |cons S r ih=>
  have h1:=hp S List.mem_cons_self
  have h2:=ih fun T hT=>hp T (List.mem_cons_of_mem _ hT)
  rw [flatS_cons,List.length_append,List.length_cons]
  omega
theorem setAll_succ (o:List Int) (ks:List Nat) (j:Nat) (h:j<ks.length) (v:Int):setAll o (ks.take (j+1)) v=(setAll o (ks.take j) v).set ks[j] v:=by
 unfold setAll
 rw [List.take_succ_eq_append_getElem h,List.foldl_append]
 rfl
def intsI (l:List Int):List Value:=l.map (Value.int .i64)
theorem intsI_length (l:List Int):(intsI l).length=l.length:=by simp [intsI]
theorem intsI_get {l:List Int} {i:Nat} {u:Int} (h:l[i]? =some u):(intsI l)[i]? =some (.int .i64 u):=by simp [intsI,h]
theorem intsI_set (l:List Int) (i:Nat) (v:Int):(intsI l).set i (.int .i64 v)=intsI (l.set i v):=by simp [intsI,List.map_set]
theorem intsV_one (l:List Nat): ∀ u∈intsV l,u.oneCell' =true:=by
 intro u hu
 obtain ⟨a,_,rfl⟩:=List.mem_map.1 hu
 rfl
set_option maxHeartbeats 2000000 in
theorem Parents_at (L:List Nd) (hlen:L.length≤256) (S:STree) (Hi:Hist) (hW:Whole L S Hi) (tv:Value) (w:World) (ht:Reads w tv L.length (L.flatMap encN)):
  FnAt Tryz.prog 124 [tv] w fun v H=> ∃ A cap,v=sl A L.length cap∧H= [.own A 3 1 L.length cap (intsI (parH Hi))]:=by
 have ht' :=ht
 obtain ⟨At,ct,rfl,ht1,ht2,ht3⟩:=ht
 refine fn_at Tryz.func124 rfl Tryz.ntmps124 rfl ?_
 refine w_nilrow 3 1 ?_
 refine w_nilrow 3 1 ?_
 repeat' (first|refine sT ?_|refine sM fun _=> ?_|(refine sC ?_ ?_<;>intro hb<;>try omega)|fail)
 refine w_loopK [0] rfl (fun x:Nat × List STree × Hist × (Option Nat × Nat) × (Option Nat × Nat)=> [(3,sl x.2.2.2.1.1 x.1 x.2.2.2.1.2),(4,sl x.2.2.2.2.1 x.2.1.length x.2.2.2.2.2),(5,.int .i64 (x.1:Int))])
  (fun x=> [.own x.2.2.2.1.1 3 1 x.1 x.2.2.2.1.2 (intsI (parH x.2.2.1)),.own x.2.2.2.2.1 3 1 x.2.1.length x.2.2.2.2.2 (intsV (rootsFrom 0 x.2.1))])
  (fun x=>x.1≤L.length∧Inv (L.take x.1) x.2.1 x.2.2.1∧ParOk x.2.1 x.2.2.1∧walkF (L.drop x.1) x.2.1 x.2.2.1=(0,[S],Hi)) (fun x=>L.length - x.1) (0,[],[],(none,0),(none,0))
  ⟨by omega,Inv.nil,⟨rfl,fun j y hy=>(by simp at hy),fun k hk=>(by simp [rootsFrom] at hk)⟩,hW.walk⟩ sB mS ?_
 rintro ⟨i,st,h,⟨A1,c1⟩,⟨A2,c2⟩⟩ ⟨hi,hI,hP,hw⟩
 dsimp only at hi hI hP hw ⊢
 have hhl:h.length=i:=by rw [hI.len,List.length_take];omega
 by_cases hlt:i<L.length
 ·
  rw [List.drop_eq_getElem_cons hlt] at hw
  obtain ⟨l,top,hs,hw'⟩:=walkF_cons hw
  obtain ⟨hbl,hst⟩:=stepF_below hs
  obtain ⟨_,hlen2,hlo,hlp,htp⟩:=hI.facts hs
  have hP' :=parOk_step hI hP hs
  have hI' :=(hI.step hs).1
  have htk:L.take (i+1)=L.take i++ [L[i]]:=List.take_succ_eq_append_getElem hlt
  rw [← htk] at hI'
  obtain ⟨gt,ot,rfl,hrt⟩:=ht3 (by omega)
  have hrn:=hrt.elem encN_len i hlt
  have hbel:=fun w=>hbl ▸ refBelow_at L[i] w
  generalize L[i]=n at hrn hbel hs hw' hbl hlo hP' hI'
  have hkids:rootsFrom 0 (l++top)=rootsFrom 0 l++kidsH h.length (top,nodeF n top):=by rw [rootsFrom_append,kidsH,hlo,Nat.zero_add]
  have hkl:(kidsH h.length (top,nodeF n top)).length=top.length:=rootsFrom_length _ _
  have hpar:=parH_snoc h (top,nodeF n top)
  have hkb: ∀ k∈kidsH h.length (top,nodeF n top),k<i:=fun k hk=>by
   rw [kidsH,hlo] at hk
   have:=(roots_lt htp hk).2
   omega
  have hset:=fun (o:List Int) (j:Nat) (hj:j<(kidsH h.length (top,nodeF n top)).length) (v:Int)=>setAll_succ o (kidsH h.length (top,nodeF n top)) j hj v
  generalize kidsH h.length (top,nodeF n top)=K at hkids hkl hpar hkb hset
  subst hst
  have hll:(l++top).length=l.length+top.length:=List.length_append
  have hrl:(rootsFrom 0 l).length=l.length:=rootsFrom_length _ _
  have hsmall:l.length+top.length≤256:=by
   have h1:=len_le_flat hlp
   have h2:=len_le_flat htp
   omega
  rw [hll]
  repeat' (first|((with_reducible apply wl_append);(iterate 3 exact rfl);(repeat first|exact .hd|apply Sel.tl|apply In.tl);(intro w hm;exact hm.cells_own (by (repeat first|exact .hd|apply Sel.tl|apply In.tl)));exact rfl;(simp [Value.oneCell',sl]);omega;(simp only [maxLen];omega);(intro A' cap' hA'))|((with_reducible apply wl_callp);exact rfl;exact rfl;(intro w hm;exact hbel w))|refine sT ?_|refine sN ?_|refine sO ?_|refine sM fun _=> ?_|(refine sC ?_ ?_<;>intro hb<;>try omega)|fail)
  rw [Nat.add_sub_cancel]
  have e0:intsI (parH h)++ [.int .i64 (-1)]=intsI (setAll (parH h++ [-1]) (K.take 0) (i:Int)):=by simp [intsI,setAll]
  rw [e0]
  refine w_loopK [0,3,4,5,6] rfl (fun j:Nat=> [(7,.int .i64 ((l.length+j:Nat):Int))]) (fun j=> [.own A' 3 1 (i+1) cap' (intsI (setAll (parH h++ [-1]) (K.take j) (i:Int))),.own A2 3 1 (l.length+top.length) c2 (intsV (rootsFrom 0 (l++top)))])
   (fun j=>j≤top.length) (fun j=>top.length - j) 0 (Nat.zero_le _) sB mS ?_
  rintro j hj
  by_cases hjk:j<top.length
  ·
   refine w_some (.tl .hd) (by omega) fun g2 hA2=> ?_
   refine w_some .hd (by omega) fun g1 hA1=> ?_
   subst hA2 hA1
   have hKj:=List.getElem?_eq_getElem (show j<K.length by omega)
   have hkj:=hkb _ (List.getElem_mem (show j<K.length by omega))
   have hs1:=hset (parH h++ [-1]) j (by omega) (i:Int)
   generalize K[j]=kj at hKj hkj hs1
   have hrt2:(intsV (rootsFrom 0 (l++top)))[0+(l.length+j)*1]? =some (.int .i64 (kj:Int)):=by
    rw [hkids,Nat.zero_add,Nat.mul_one,intsV,List.getElem?_map,List.getElem?_append_right (by omega),show l.length+j - (rootsFrom 0 l).length=j by omega,hKj]
    rfl
   have hsl:(setAll (parH h++ [-1]) (K.take j) (i:Int)).length=i+1:=by rw [setAll_length];simp [hP.len,hhl]
   have hcell:(intsI (setAll (parH h++ [-1]) (K.take j) (i:Int))).set (0+kj*1) (.int .i64 (i:Int))=intsI (setAll (parH h++ [-1]) (K.take (j+1)) (i:Int)):=by
    rw [Nat.zero_add,Nat.mul_one,intsI_set,hs1]
   repeat' (first|((with_reducible apply wl_v);exact rfl;(with_reducible apply v_load_own);exact rfl;exact pK;exact hrt2)|((with_reducible apply wl_store_own);exact rfl;exact rfl;exact pK;exact rfl;(rw [intsI_length];omega);rw [hcell])|refine sT ?_|refine sN ?_|refine sO ?_|refine sM fun _=> ?_|(refine sC ?_ ?_<;>intro hb<;>try omega)|fail)
   refine ⟨j+1,?_,(by first|omega|(dsimp only;omega)),sB,sB,mS⟩
   exact hjk
  ·
   have e:j=top.length:=by omega
   subst e
   rw [List.take_of_length_le (by omega)]
   have htake:(intsV (rootsFrom 0 (l++top))).take (l.length*1)=intsV (rootsFrom 0 l):=by
    rw [hkids,Nat.mul_one,intsV,← List.map_take,List.take_left' hrl];rfl
   have hl1:(intsV (rootsFrom 0 l)).length=l.length*1:=by rw [intsV_length,hrl,Nat.mul_one]
   refine w_row (A:=A2) (.tl .hd) fun q1 q2 q3=> ?_
   repeat' (first|((with_reducible apply wl_buildSlice0);exact rfl;intro gb)|((with_reducible apply wl_v);exact rfl;(with_reducible apply v_sliceP (hi:=l.length));exact rfl;exact rfl;omega)|((with_reducible apply wl_appendR (n' :=0) (c:=0) (A:=some _) (m:=l.length) (news:=intsV (rootsFrom 0 l)));(iterate 3 exact rfl);exact pK;(intro w' hm;rw [← htake];exact Reads.of_own_take (A:=A2) hm pK (Nat.le_add_right _ _));exact hl1;exact intsV_one _;omega;(simp only [maxLen];omega);intro A4 c4 h4)|((with_reducible apply wl_append);(iterate 3 exact rfl);(repeat first|exact .hd|apply Sel.tl|apply In.tl);(intro w hm;exact hm.cells_own (by (repeat first|exact .hd|apply Sel.tl|apply In.tl)));exact rfl;(simp [Value.oneCell',sl]);omega;(simp only [maxLen];omega);(intro A5 c5 h5))|refine sT ?_|refine sN ?_|refine sO ?_|refine sM fun _=> ?_|(refine sC ?_ ?_<;>intro hb<;>try omega)|fail)
   have e1:setAll (parH h++ [-1]) K (i:Int)=parH (h++ [(top,nodeF n top)]):=by rw [hpar,hhl]
   have e2: []++intsV (rootsFrom 0 l)++ [.int .i64 (i:Int)]=intsV (rootsFrom 0 (l++ [nodeF n top])):=by
    rw [rootsFrom_append]
    simp only [rootsFrom,nodeF_len,intsV,List.map_append,List.nil_append]
    congr 2
    simp
    omega
   have e3:0+l.length+1=(l++ [nodeF n top]).length:=by simp
   rw [e1,e2,e3]
   refine ⟨(i+1,l++ [nodeF n top],h++ [(top,nodeF n top)],(A',cap'),(A5,c5)),?_,(by first|omega|(dsimp only;omega)),sB,sB,mS⟩
   exact ⟨hlt,hI',hP',hw'⟩
 ·
  have e:i=L.length:=by omega
  subst e
  rw [List.drop_length,walkF] at hw
  simp only [Prod.mk.injEq] at hw
  obtain ⟨_,_,rfl⟩:=hw
  repeat' (first|refine sT ?_|refine sM fun _=> ?_|(refine sC ?_ ?_<;>intro hb<;>try omega)|fail)
  exact ret1 (.inl rfl) Tryz.results124 rfl (H' := [.own A1 3 1 L.length c1 (intsI (parH h))]) mS ⟨A1,c1,rfl,rfl⟩
end Go.SL
namespace Go.SL
open Go
theorem stepF_len {n:Nd} {st l top:List STree} (hs:stepF n st= .inr (l,top)):fieldsE n=0∧(top.length:Int)=below n:=by
 unfold stepF at hs
 split at hs
 ·
  cases hs
 rename_i hf
 split at hs
 ·
  cases hs
 rename_i hb
 split at hs
 ·
  cases hs
 simp only [Sum.inr.injEq,Prod.mk.injEq] at hs
 obtain ⟨rfl,rfl⟩:=hs
 have hlk:(lastK st (below n).toNat).length=min st.length (below n).toNat:=by simp [lastK];omega
 have hb0:(0:Int)≤below n:=by
  have hk:kindOk n=true:=by
   cases hk:kindOk n
   ·
    exfalso
    apply hf
    intro h0
    simp [fieldsE,hk] at h0
   ·
    rfl
  unfold below
  by_cases h7:n.kind=7
  ·
   simp [kindOk,h7] at hk
   simp [h7];exact hk
  ·
   (repeat' split)<;>omega
 have hle: ¬ (st.length:Int)<below n:=fun h=>hb (Or.inl h)
 exact ⟨by omega,by omega⟩
def LenOk (h:Hist):Prop:= ∀ (j:Nat) (y:List STree × STree),h[j]? =some y→ ∃ n,(y.1.length:Int)=below n∧y.2=nodeF n y.1∧fieldsE n=0
theorem Whole.lens {L:List Nd} {S:STree} {h:Hist} (hW:Whole L S h):LenOk h:=by
 refine walkF_ind (fun _ h=>LenOk h) (fun dn n st h l top hI hP hs=> ?_) L [] [] [] [S] h ?_ ?_ hW.walk
 ·
  intro j y hy
  by_cases hj:j<h.length
  ·
   rw [List.getElem?_append_left hj] at hy
   exact hP j y hy
  ·
   rw [List.getElem?_append_right (by omega)] at hy
   obtain ⟨h1,h2⟩:=stepF_len hs
   have e:y=(top,nodeF n top):=by
    cases hq:j - h.length with
    |zero=>rw [hq] at hy;exact (Option.some.inj hy).symm
    |succ k=>rw [hq] at hy;simp at hy
   subst e
   exact ⟨n,h2,rfl,h1⟩
 ·
  exact Inv.nil
 ·
  intro j y hy
  simp at hy
def relN (m:Nd):Prop:=m.kind=7∧46≤m.fn
theorem rel_one {m:Nd} (hf:fieldsE m=0) (hr:relN m):below m=1:=by
 obtain ⟨h7,h46⟩:=hr
 unfold fieldsE at hf
 split at hf
 ·
  cases hf
 rw [if_neg (show ¬ m.kind≠7 by omega)] at hf
 split at hf
 ·
  rename_i h;exact absurd hf h
 rename_i ha
 split at hf
 ·
  cases hf
 rename_i hn
 have h50:m.fn≤50:=by
  by_cases h:m.fn≤50
  ·
   exact h
  ·
   exfalso
   apply ha
   have hk:knownF m.fn=false:=by
    unfold knownF
    rw [decide_eq_true (show 1≤m.fn by omega),decide_eq_false h]
    rfl
   unfold arity
   rw [hk,if_neg (by omega),if_neg (by omega),if_neg (by omega),if_neg (by omega),if_neg (by omega),if_neg (by omega)]
   decide
 have har:arity m.fn=(1,1,0):=by
  have:m.fn=46∨m.fn=47∨m.fn=48∨m.fn=49∨m.fn=50:=by omega
  rcases this with h|h|h|h|h<;>rw [h]<;>decide+kernel
 rw [har] at hn
 dsimp only at hn
 unfold below
 rw [if_neg (by omega),if_neg (by omega),if_pos h7]
 omega
theorem parent_use {L:List Nd} {S:STree} {h:Hist} (hW:Whole L S h) {i:Nat} (hi:i<L.length):
  ∃ u:Int,(parH h)[i]? =some u∧(u= -1∨ ∃ j:Nat,u=(j:Int)∧j<L.length)∧(∀ m,L[i+1]? =some m→relN m→u=((i+1:Nat):Int))∧(∀ (j:Nat) m,u=(j:Int)→L[j]? =some m→relN m→j=i+1):=by
 have hHl:=hW.inv.len
 have key: ∀ j m,L[j]? =some m→relN m→ ∃ y,h[j]? =some y∧0<j∧kidsH j y= [j - 1]:=by
  intro j m hm hr
  have hj:j<L.length:=(List.getElem?_eq_some_iff.1 hm).1
  obtain ⟨y,hy⟩: ∃ y,h[j]? =some y:=⟨_,List.getElem?_eq_getElem (by omega)⟩
  obtain ⟨n,hn,e2,hgt,hgT,hTl,hseg⟩:=hW.inv.node j y hy
  obtain ⟨n',hl',e2',hf'⟩:=hW.lens j y hy
  have hnn:n' =n:=by
   rw [e2] at e2'
   have:=congrArg (fun T:STree=>T.ns.getLast?) e2'
   simpa [nodeF] using this.symm
  subst hnn
  rw [hm] at hn
  obtain rfl:=Option.some.inj hn
  rw [rel_one hf' hr] at hl'
  obtain ⟨T,hT⟩: ∃ T,y.1= [T]:=by
   match hq:y.1,hl' with
   | [T],_=>exact ⟨T,rfl⟩
   | [],h=>simp at h
   |_::_::_,h=>simp at h;omega
  have hlen:y.2.ns.length=T.ns.length+1:=by rw [e2,nodeF_len,hT];simp [flatS]
  have hTp:0<T.ns.length:=(hgt T (by rw [hT];simp)).pos
  refine ⟨y,hy,by omega,?_⟩
  unfold kidsH lo
  rw [hT]
  simp only [rootsFrom,List.cons.injEq,and_true]
  omega
 have hpk:=hW.parOk
 have hup: ∃ u:Int,(parH h)[i]? =some u∧(u= -1∨ ∃ j:Nat,u=(j:Int)∧j<L.length∧ ∃ y,h[j]? =some y∧i∈kidsH j y):=by
  rcases hW.inv.up i (by omega) with hr|⟨j,y,hy,hk⟩
  ·
   exact ⟨-1,hpk.root i hr,.inl rfl⟩
  ·
   have hj:j<h.length:=(List.getElem?_eq_some_iff.1 hy).1
   exact ⟨(j:Int),hpk.kid j y hy i hk,.inr ⟨j,rfl,by omega,y,hy,hk⟩⟩
 obtain ⟨u,hu,hcase⟩:=hup
 refine ⟨u,hu,?_,?_,?_⟩
 ·
  rcases hcase with h|⟨j,h1,h2,_⟩
  ·
   exact .inl h
  ·
   exact .inr ⟨j,h1,h2⟩
 ·
  intro m hm hr
  obtain ⟨y,hy,_,hk⟩:=key (i+1) m hm hr
  have:=hpk.kid (i+1) y hy i (by rw [hk];simp)
  rw [hu] at this
  exact Option.some.inj this
 ·
  intro j m hj hm hr
  rcases hcase with h|⟨j',h1,h2,y',hy',hk'⟩
  ·
   omega
  ·
   obtain rfl:j=j' :=by omega
   obtain ⟨y,hy,hp,hk⟩:=key j m hm hr
   rw [hy'] at hy
   obtain rfl:=Option.some.inj hy
   rw [hk] at hk'
   have:=List.mem_singleton.1 hk'
   omega
end Go.SL
namespace Go.SL
open Go Go.Proofs
attribute [local irreducible] W WL WQ WG WA VOp thn blk cutP retP FnAt FnIn Held
set_option maxHeartbeats 4000000 in
theorem refUses_at (L:List Nd) (hwf: ∀ n∈L,wfN n) (tv:Value) (w:World) (ht:Reads w tv L.length (L.flatMap encN)):
  FnAt Tryz.prog 78 [tv] w fun v H=> ∃ A cap,v= .tuple #[sl A (usesE L).1.length cap,.int .i64 (usesE L).2]∧H= [.own A 45 6 (usesE L).1.length cap ((usesE L).1.flatMap encU)]:=by
 have ht' :=ht
 obtain ⟨Al,cl,rfl,hl1,hl2,hl3⟩:=ht
 refine fn_at Tryz.func78 rfl Tryz.ntmps78 rfl ?_
 refine w_nilrow 45 6 ?_
 have hck:=fun w0 (hm:Reads w0 (.slice Al L.length cl) L.length (L.flatMap encN))=>refCheck_at L hwf _ w0 hm
 unfold usesE
 by_cases hc:checkE L=0
 rotate_left
 ·
  generalize checkE L=e at hck hc
  repeat' (first|((with_reducible apply wl_callp);exact rfl;exact rfl;(intro w' hm;exact hck w' (ht'.of_w0 hm)))|refine sT ?_|refine sM fun _=> ?_|(refine sC ?_ ?_<;>intro hb<;>try omega)|fail)
  refine ret2 (.inl rfl) Tryz.results78 rfl rfl (H' := [.own none 45 6 0 0 []]) mS ⟨none,0,?_⟩
  rw [if_pos hc]
  exact ⟨rfl,rfl⟩
 rw [if_neg (by omega)]
 obtain ⟨hlen,S,Hi,hW,hk3,hct⟩:=check_whole hc
 obtain ⟨gl,ol,rfl,hrl⟩:=hl3 hW.pos
 rw [hc] at hck
 have hpar:=fun w0 (hm:Reads w0 (.slice (some ⟨gl,ol,none⟩) L.length cl) L.length (L.flatMap encN))=>Parents_at L hlen S Hi hW _ w0 hm
 have hul:=usesF_len L
 repeat' (first|((with_reducible apply wl_callp (f:=123));exact rfl;exact rfl;(intro w' hm;exact hck w' (ht'.of_w0 hm)))|((with_reducible apply wl_call (f:=124));exact rfl;exact rfl;(intro w' hm;exact hpar w' (ht'.of_w0 hm));(rintro v H' ⟨Ap,cp,rfl,rfl⟩))|refine sT ?_|refine sM fun _=> ?_|(refine sC ?_ ?_<;>intro hb<;>try omega)|fail)
 have hpos:=hW.pos
 refine w_some (A:=Ap) pK hpos fun gp hAp=> ?_
 subst hAp
 refine w_loopK [0,6] rfl (fun x:Nat × List Us × Option Nat × Nat=> [(5,sl x.2.2.1 x.2.1.length x.2.2.2),(7,.int .i64 (x.1:Int))]) (fun x=> [.own x.2.2.1 45 6 x.2.1.length x.2.2.2 (x.2.1.flatMap encU),.own (some gp) 3 1 L.length cp (intsI (parH Hi))])
  (fun x=>x.1≤L.length∧usesF L=x.2.1++usesFrom (L.drop x.1) x.1) (fun x=>L.length - x.1) (0,[],none,0) ⟨by omega,rfl⟩ sB mS ?_
 rintro ⟨i,pre,A,cap⟩ ⟨hi,hus⟩
 dsimp only at hi hus ⊢
 by_cases hlt:i<L.length
 ·
  have he:=hrl.elem encN_len i hlt
  obtain ⟨u,hu,hu1,hu2,hu3⟩:=parent_use hW hlt
  rw [List.drop_eq_getElem_cons hlt,usesFrom] at hus
  generalize L[i]=n at he hus
  have hcell:(intsI (parH Hi))[0+i*1]? =some (.int .i64 u):=by rw [Nat.zero_add,Nat.mul_one];exact intsI_get hu
  by_cases hq:n.kind=2∨n.kind=3
  rotate_left
  ·
   have hrf:rangesF n=false:=by simp only [rangesF,Bool.or_eq_false_iff,decide_eq_false_iff_not];omega
   rw [hrf,cond_false] at hus
   repeat' (first|refine sT ?_|refine sN ?_|refine sO ?_|refine sM fun _=> ?_|(refine sC ?_ ?_<;>intro hb<;>try omega)|fail)
   refine ⟨(i+1,pre,A,cap),?_,(by first|omega|(dsimp only;omega)),sB,sB,mS⟩
   exact ⟨hlt,hus⟩
  have hrf:rangesF n=true:=by simp only [rangesF,Bool.or_eq_true,decide_eq_true_eq];exact hq
  rw [hrf,cond_true] at hus
  have hlu:=congrArg List.length hus
  simp only [List.length_append,List.length_cons] at hlu
  have none_use:(∀ m,L[i+1]? =some m→ ¬ relN m)→useOf n i (L.drop (i+1))=⟨n.rect, -1,0⟩:=by
   intro h
   by_cases h1:i+1<L.length
   ·
    rw [List.drop_eq_getElem_cons h1]
    have:=h _ (List.getElem?_eq_getElem h1)
    unfold relN at this
    simp only [useOf,if_neg this]
   ·
    rw [List.drop_of_length_le (by omega)];rfl
  rcases hu1 with hu1|⟨j,hu1,hj⟩
  ·
   subst hu1
   rw [none_use (fun m hm hr=>by have:=hu2 m hm hr;omega)] at hus
   repeat' (first|((with_reducible apply wl_v (d:=45));exact rfl;(with_reducible apply v_indexAddr);exact rfl;exact rfl;exact hlt)|((with_reducible apply wl_v (d:=46));exact rfl;(with_reducible apply v_load_own);exact rfl;exact pK;exact hcell)|((with_reducible apply wl_v (d:=41));exact rfl;(with_reducible apply v_loads_ro (off:=4) (ys:=encR n.rect) he);(iterate 3 exact rfl))|((with_reducible apply wl_append);(iterate 3 exact rfl);(repeat first|exact .hd|apply Sel.tl|apply In.tl);(intro w hm;exact hm.cells_own (by (repeat first|exact .hd|apply Sel.tl|apply In.tl)));exact rfl;(simp [Value.oneCell',sl]);omega;(simp only [maxLen];omega);(intro A2 c2 h2))|refine sT ?_|refine sN ?_|refine sO ?_|refine sM fun _=> ?_|(refine sC ?_ ?_<;>intro hb<;>try omega)|fail)
   all_goals
    refine ⟨(i+1,pre++ [⟨n.rect, -1,0⟩],A2,c2),⟨hlt,by rw [hus,List.append_assoc];rfl⟩,(by dsimp only;omega),?_,?_,?_⟩
    ·
     dsimp only
     rw [List.length_append]
     exact sB
    ·
     exact sB
    ·
     dsimp only
     rw [flat_snoc,List.length_append]
     exact mS
  ·
   subst hu1
   have hj1:=hrl.elem encN_len j hj
   have hjg:=List.getElem?_eq_getElem hj
   have hu3' :=hu3 j _ rfl hjg
   generalize L[j]=m at hj1 hjg hu3'
   by_cases hrel:relN m
   ·
    obtain rfl:=hu3' hrel
    have hr2:m.kind=7∧46≤m.fn:=hrel
    have hdr:L.drop (i+1)=m::L.drop (i+1+1):=by
     rw [List.drop_eq_getElem_cons hj]
     rw [List.getElem?_eq_getElem hj] at hjg
     rw [Option.some.inj hjg]
    have huo:useOf n i (L.drop (i+1))=⟨n.rect,((i+1:Nat):Int),m.fn⟩:=by rw [hdr];simp only [useOf,if_pos hr2]
    rw [huo] at hus
    repeat' (first|((with_reducible apply wl_v (d:=45));exact rfl;(with_reducible apply v_indexAddr);exact rfl;exact rfl;exact hlt)|((with_reducible apply wl_v (d:=46));exact rfl;(with_reducible apply v_load_own);exact rfl;exact pK;exact hcell)|((with_reducible apply wl_v (d:=41));exact rfl;(with_reducible apply v_loads_ro (off:=4) (ys:=encR n.rect) he);(iterate 3 exact rfl))|((with_reducible apply wl_append);(iterate 3 exact rfl);(repeat first|exact .hd|apply Sel.tl|apply In.tl);(intro w hm;exact hm.cells_own (by (repeat first|exact .hd|apply Sel.tl|apply In.tl)));exact rfl;(simp [Value.oneCell',sl]);omega;(simp only [maxLen];omega);(intro A2 c2 h2))|((with_reducible apply w_drawB (id:=13) (T:=45) (fun D=> [.int .i64 n.rect.c1,.int .i64 n.rect.r1,.int .i64 n.rect.c2,.int .i64 n.rect.r2,.int .i64 (bif D 7 then ((i+1:Nat):Int) else -1),.int .u8 (bif D 9 then m.fn else 0)]) (xs' := [.int .i64 n.rect.c1,.int .i64 n.rect.r1,.int .i64 n.rect.c2,.int .i64 n.rect.r2,.int .i64 ((i+1:Nat):Int),.int .u8 m.fn]));kernel_rfl;kernel_rfl;exact .hd;exact rfl;(intro D hD;simp only [hD 7 (by decide),hD 9 (by decide),cond_true]))|((with_reducible apply wg_v);exact rfl;(intro D ht;first|((with_reducible apply v_indexAddr);exact rfl;exact rfl;(first|assumption|omega))|((with_reducible apply v_loadf_ro);exact rfl;assumption;exact rfl));exact fun _=>rfl)|refine sT ?_|refine sN ?_|refine sO ?_|refine sG ?_|refine sM fun _=> ?_|(refine sC ?_ ?_<;>intro hb<;>try omega)|fail)
    all_goals
     refine ⟨(i+1,pre++ [⟨n.rect,((i+1:Nat):Int),m.fn⟩],A2,c2),⟨hlt,by rw [hus,List.append_assoc];rfl⟩,(by dsimp only;omega),?_,?_,?_⟩
     ·
      dsimp only
      rw [List.length_append]
      exact sB
     ·
      exact sB
     ·
      dsimp only
      rw [flat_snoc,List.length_append]
      exact mS
   ·
    have hr2: ¬ (m.kind=7∧46≤m.fn):=hrel
    rw [none_use (fun m' hm hr=>by
     have h1:=hu2 m' hm hr
     have h2:j=i+1:=by omega
     subst h2
     rw [hjg] at hm
     obtain rfl:=Option.some.inj hm
     exact hrel hr)] at hus
    repeat' (first|((with_reducible apply wl_v (d:=45));exact rfl;(with_reducible apply v_indexAddr);exact rfl;exact rfl;exact hlt)|((with_reducible apply wl_v (d:=46));exact rfl;(with_reducible apply v_load_own);exact rfl;exact pK;exact hcell)|((with_reducible apply wl_v (d:=41));exact rfl;(with_reducible apply v_loads_ro (off:=4) (ys:=encR n.rect) he);(iterate 3 exact rfl))|((with_reducible apply wl_append);(iterate 3 exact rfl);(repeat first|exact .hd|apply Sel.tl|apply In.tl);(intro w hm;exact hm.cells_own (by (repeat first|exact .hd|apply Sel.tl|apply In.tl)));exact rfl;(simp [Value.oneCell',sl]);omega;(simp only [maxLen];omega);(intro A2 c2 h2))|refine sT ?_|refine sN ?_|refine sO ?_|refine sM fun _=> ?_|(refine sC ?_ ?_<;>intro hb<;>try omega)|fail)
    all_goals
     refine ⟨(i+1,pre++ [⟨n.rect, -1,0⟩],A2,c2),⟨hlt,by rw [hus,List.append_assoc];rfl⟩,(by dsimp only;omega),?_,?_,?_⟩
     ·
      dsimp only
      rw [List.length_append]
      exact sB
     ·
      exact sB
     ·
      dsimp only
      rw [flat_snoc,List.length_append]
      exact mS
 ·
  have e:i=L.length:=by omega
  subst e
  rw [List.drop_length,usesFrom,List.append_nil] at hus
  rw [hus]
  repeat' (first|refine sT ?_|refine sM fun _=> ?_|(refine sC ?_ ?_<;>intro hb<;>try omega)|fail)
  exact ret2 (.inl rfl) Tryz.results78 rfl rfl (H' := [.own A 45 6 pre.length cap (pre.flatMap encU)]) mS ⟨A,cap,rfl,rfl⟩
end Go.SL
namespace Go.SL
open Go Go.Proofs
attribute [local irreducible] W WL WQ WG WA WX WLI WR WT WC VOp RW thn blk cutP scp retP retPP endB FnAt FnIn FnP ceP
theorem refTruth_at (b:Bool) (w:World):Pure Tryz.prog 167 [.bool b] w (.agg (encV (truthV b)).toArray):=by
 refine fn_at Tryz.func167 rfl Tryz.ntmps167 rfl ?_
 repeat' (first|refine sT ?_|refine sM fun _=> ?_|(refine sC ?_ ?_<;>intro hb<;>try omega)|fail)
 all_goals ((refine eRC ?_);simp_all [truthV,encV,emptyB])
theorem refFail_at (c:Int) (w:World):Pure Tryz.prog 169 [.int .i64 c] w (.agg (encV (failV c)).toArray):=by
 refine fn_at Tryz.func169 rfl Tryz.ntmps169 rfl ?_
 repeat' (first|refine sT ?_|refine sM fun _=> ?_|(refine sC ?_ ?_<;>intro hb<;>try omega)|fail)
 all_goals ((refine eRC ?_);simp only [failV];(first|rw [if_pos (by omega)]|rw [if_neg (by omega)]);rfl)
theorem refMake_at (n:Int) (h: -9223372036854775808≤n) (w:World):Pure Tryz.prog 171 [.int .i64 n] w (.agg (encV (makeV n)).toArray):=by
 refine fn_at Tryz.func171 rfl Tryz.ntmps171 rfl ?_
 have hf: ∀ w,Pure Tryz.prog 169 [.int .i64 3] w (.agg #[.int .u8 4,.int .i64 3,.string emptyB]):=fun w=>refFail_at 3 w
 repeat' (first|((with_reducible apply wl_callp);exact rfl;exact rfl;(intro w hm;exact hf w))|refine sT ?_|refine sM fun _=> ?_|(refine sC ?_ ?_<;>intro hb<;>try omega)|fail)
 ·
  (refine eRC ?_)
  rw [makeV,if_pos (by omega)];rfl
 ·
  (refine eRC ?_)
  rw [makeV,if_neg (by omega)];rfl
def errB (c:Int):ByteArray:=if 1≤c∧c≤7 then wordsB.getD c.toNat emptyB else emptyB
theorem refErr_at (c:Int) (w:World):Pure Tryz.prog 211 [.int .i64 c] w (.string (errB c)):=by
 refine fn_at Tryz.func211 rfl Tryz.ntmps211 rfl ?_
 repeat' (first|refine sT ?_|refine sS ?_|refine sM fun _=> ?_|(refine sC ?_ ?_<;>intro hb<;>try omega)|fail)
 all_goals first
  |((refine rT1 ?_);subst_vars;rfl)
  |((refine rT1 ?_);rw [errB,if_neg (by omega)];rfl)
theorem refCode_at (a : ByteArray) (ha : a.size ≤ 1000000) (w : World) : Pure Tryz.prog 168 [.string a] w (.tuple #[.int .i64 (codeE a).1, .int .i64 (codeE a).2]) := by
  refine fn_at Tryz.func168 rfl Tryz.ntmps168 rfl ?_
  have hU := fun w => refUpper_at a ha w
  unfold codeE
  generalize upB a = u at hU
  obtain ⟨X, hX⟩ : ∃ X, codeFrom u (wordsB.drop 1) 1 = X := ⟨_, rfl⟩
  rw [hX]
  repeat' (first | refine sT ?_ | refine sS ?_ | refine sM fun _ => ?_ | (refine sC ?_ ?_ <;> intro hb <;> try omega) | fail)
  refine w_loopK [0, 2, 3] rfl (fun i : Nat => [(4, .int .i64 ((i : Int) + 1))]) (fun _ => []) (fun i => i ≤ 7 ∧ X = codeFrom u (wordsB.drop (i + 1)) ((i : Int) + 1)) (fun i => 7 - i) 0 ⟨by omega, hX.symm⟩ sB (.refl _) ?_
  rintro i ⟨hi, hc⟩
  by_cases hlt : i < 7
  · rw [wordsB_drop (by omega), codeFrom] at hc
    have hN : ∀ w, Pure Tryz.prog 211 [.int .i64 ((i : Int) + 1)] w (.string (wordsB.getD (i + 1) emptyB)) := fun w => by
      have := refErr_at ((i : Int) + 1) w
      rw [errB, if_pos (by omega)] at this
      exact this
    generalize wordsB.getD (i + 1) emptyB = x at hN hc
    repeat' (first | ((with_reducible apply wl_callp (f := 211)); exact rfl; exact rfl; (intro w' hm; exact hN w')) | ((with_reducible apply wl_callp); exact rfl; exact rfl; (intro w hm; exact hU w)) | refine sT ?_ | refine sS ?_ | refine sJ ?_ | refine sM fun _ => ?_ | (refine sC ?_ ?_ <;> intro hb <;> try omega) | fail)
    all_goals first
      | (refine ret2 eIO rfl rfl rfl (.nil _) ?_; rw [hc, if_pos (by assumption)]; done)
      | (refine ⟨i + 1, ⟨by omega, ?_⟩, by omega, ?_, ?_, .nil _⟩
         · rw [hc, if_neg (by assumption)]; rfl
         · exact sB
         · exact sB)
  · have e : i = 7 := by omega
    subst e
    repeat' (first | refine sT ?_ | refine sS ?_ | refine sM fun _ => ?_ | (refine sC ?_ ?_ <;> intro hb <;> try omega) | fail)
    all_goals (refine ret2 eIO rfl rfl rfl (.nil _) ?_; rw [hc]; rfl)
theorem refShow_at (c:Int) (h1:1≤c) (h2:c≤5) (w:World):Pure Tryz.prog 269 [.agg (encV ⟨4,c,emptyB⟩).toArray] w (.string (wordsB.getD c.toNat emptyB)):=by
 refine fn_at Tryz.func269 rfl Tryz.ntmps269 rfl ?_
 have he:decide ((⟨4,c,emptyB⟩:Vl)=failV 7)=false:=by rw [← eqV_dec];simp [eqV,failV];omega
 have hv:valE ⟨4,c,emptyB⟩=0:=by
  have h6:decide (c≤6)=true:=decide_eq_true (by omega)
  simp [valE,valOk,h1,h6]
 have hc:=fun w=>refVal_at ⟨4,c,emptyB⟩ (by dsimp only;omega) w
 rw [hv] at hc
 have hN:=fun w=>refErr_at c w
 rw [show errB c=wordsB.getD c.toNat emptyB from if_pos ⟨h1,by omega⟩] at hN
 repeat' (first|((with_reducible apply (w_drawC0 (id:=1) [1] []));kernel_rfl;kernel_rfl;kernel_rfl)|((with_reducible apply wl_callp);exact rfl;exact rfl;(intro w hm;exact refFail_at 7 w))|((with_reducible apply wc_v);(iterate 3 exact rfl);(with_reducible apply v_eqlV_to (a:=⟨4,c,emptyB⟩) (b:=failV 7) he);exact rfl;exact rfl)|((with_reducible apply wl_callp);exact rfl;exact rfl;(intro w hm;exact hc w))|((with_reducible apply wl_callp);exact rfl;exact rfl;(intro w hm;exact hN w))|refine sT ?_|refine sW ?_|refine sM fun _=> ?_|(refine sC ?_ ?_<;>intro hb<;>try omega)|(refine sCW ?_ ?_<;>intro hb<;>try omega)|fail)
 all_goals ((refine rT1 ?_);rfl)
end Go.SL
namespace Go.SL
open Go Go.Proofs Go.RowKit
section
variable {P:Program} {n:Fr} {w0:World} {Q:Post} {s:Slots} {H:List Blk} {ty:TypeId} {x y:Operand} {k:IntKind} {a b:Int} {t t' :TypeId}
theorem v_quo (hx:ev s x=some (.int k a)) (hy:ev s y=some (.int k b)) (h:b≠0):VOp P w0 s H (.binOp .quo t x y t') ty (.int k (k.wrap (a.tdiv b))):=fun ρ w _ _ _ _ hρ _=>by
 simp [execOp,hρ x _ hx,hρ y _ hy,eqGuard,binOp,Op.intDiv,h]
theorem v_quo_to {c:Int} (hx:ev s x=some (.int k a)) (hy:ev s y=some (.int k b)) (h:b≠0) (hc:k.wrap (a.tdiv b)=c):VOp P w0 s H (.binOp .quo t x y t') ty (.int k c):=hc ▸ v_quo hx hy h
theorem v_rem_to {c:Int} (hx:ev s x=some (.int k a)) (hy:ev s y=some (.int k b)) (h:b≠0) (hc:a.tmod b=c):VOp P w0 s H (.binOp .rem t x y t') ty (.int k c):=hc ▸ v_rem hx hy h
theorem v_mulw_to {c:Int} (hx:ev s x=some (.int k a)) (hy:ev s y=some (.int k b)) (hc:k.wrap (a*b)=c):VOp P w0 s H (.binOp .mul t x y t') ty (.int k c):=hc ▸ v_mulw hx hy
end
attribute [local irreducible] W WL WQ WG WA WX WLI WR WT WC VOp RW thn blk cutP scp retP retPP endB FnAt FnIn FnP ceP
def encWd (v:Int):List Value:= [.int .u64 (v / 18446744073709551616),.int .u64 (v % 18446744073709551616)]
theorem wd_small {v:Int} (h0:0≤v) (h:v<18446744073709551616):encWd v= [.int .u64 0,.int .u64 v]:=by
 unfold encWd
 rw [Int.ediv_eq_zero_of_lt h0 h,Int.emod_eq_of_lt h0 h]
theorem plus_at (x y:Int) (hx:0≤x) (hy:0≤y) (h:x+y<340282366920938463463374607431768211456) (w:World):Pure Tryz.prog 213 [.agg (encWd x).toArray,.agg (encWd y).toArray] w (.agg (encWd (x+y)).toArray):=by
 refine fn_at Tryz.func213 rfl Tryz.ntmps213 rfl ?_
 obtain ⟨xh,hxh⟩: ∃ z,x / 18446744073709551616=z:=⟨_,rfl⟩
 obtain ⟨xl,hxl⟩: ∃ z,x % 18446744073709551616=z:=⟨_,rfl⟩
 obtain ⟨yh,hyh⟩: ∃ z,y / 18446744073709551616=z:=⟨_,rfl⟩
 obtain ⟨yl,hyl⟩: ∃ z,y % 18446744073709551616=z:=⟨_,rfl⟩
 unfold encWd
 rw [hxh,hxl,hyh,hyl]
 obtain ⟨l,hlw⟩: ∃ z,IntKind.u64.wrap (xl+yl)=z:=⟨_,rfl⟩
 obtain ⟨h1,hhw⟩: ∃ z,IntKind.u64.wrap (xh+yh)=z:=⟨_,rfl⟩
 have hl2:=hlw
 have hh2:=hhw
 rw [IntKind.wrap_u64] at hl2 hh2
 have h11:IntKind.u64.wrap (h1+1)=(h1+1) % 18446744073709551616:=IntKind.wrap_u64 _
 repeat' (first|((with_reducible apply wl_v (d:=11));exact rfl;(with_reducible apply v_addw_id);exact rfl;exact rfl;exact hlw)|((with_reducible apply wl_v (d:=16));exact rfl;(with_reducible apply v_addw_id);exact rfl;exact rfl;exact hhw)|((with_reducible apply wl_v (d:=22));exact rfl;(with_reducible apply v_addw_id);exact rfl;exact rfl;exact h11)|refine sT ?_|refine sM fun _=> ?_|(refine sC ?_ ?_<;>intro hb<;>try omega)|fail)
 all_goals
  (refine eRC ?_)
  have e1:(x+y) % 18446744073709551616=l:=by omega
  rw [e1]
  congr 4
  omega
set_option maxHeartbeats 1000000 in
theorem times10_at (u:Int) (h0:0≤u) (h1:u<18446744073709551616) (w:World):Pure Tryz.prog 214 [.int .u64 u,.int .u64 10] w (.agg (encWd (10*u)).toArray):=by
 refine fn_at Tryz.func214 rfl Tryz.ntmps214 rfl ?_
 obtain ⟨al,hal⟩: ∃ z,u % 4294967296=z:=⟨_,rfl⟩
 obtain ⟨ah,hah⟩: ∃ z,u / 4294967296=z:=⟨_,rfl⟩
 have b1:0≤al∧al<4294967296:=by omega
 have b2:0≤ah∧ah<4294967296:=by omega
 have t1:u.tmod 4294967296=al:=by rw [Int.tmod_eq_emod_of_nonneg h0];exact hal
 have t2:IntKind.u64.wrap (u.tdiv 4294967296)=ah:=by rw [Int.tdiv_eq_ediv_of_nonneg h0,hah,IntKind.wrap_u64];omega
 have t3:(10:Int).tmod 4294967296=10:=by decide
 have t4:IntKind.u64.wrap ((10:Int).tdiv 4294967296)=0:=by decide
 have m1:IntKind.u64.wrap (ah*0)=0:=by rw [Int.mul_zero];decide
 have m2:IntKind.u64.wrap (al*10)=al*10:=by rw [IntKind.wrap_u64];omega
 have m3:IntKind.u64.wrap (ah*10)=ah*10:=by rw [IntKind.wrap_u64];omega
 have q3:IntKind.u64.wrap ((ah*10).tdiv 4294967296)=ah*10 / 4294967296:=by rw [Int.tdiv_eq_ediv_of_nonneg (by omega),IntKind.wrap_u64];omega
 have r3:(ah*10).tmod 4294967296=ah*10 % 4294967296:=Int.tmod_eq_emod_of_nonneg (by omega)
 have m4:IntKind.u64.wrap (ah*10 % 4294967296*4294967296)=ah*10 % 4294967296*4294967296:=by rw [IntKind.wrap_u64];omega
 have m5:IntKind.u64.wrap (al*0)=0:=by rw [Int.mul_zero];decide
 have q5:IntKind.u64.wrap ((0:Int).tdiv 4294967296)=0:=by decide
 have r5:(0:Int).tmod 4294967296=0:=by decide
 have m6:IntKind.u64.wrap ((0:Int)*4294967296)=0:=by decide
 have e1:encWd (al*10)= [.int .u64 0,.int .u64 (al*10)]:=wd_small (by omega) (by omega)
 have e2:encWd (ah*10*4294967296)= [.int .u64 (ah*10 / 4294967296),.int .u64 (ah*10 % 4294967296*4294967296)]:=by
  have ea:ah*10*4294967296 / 18446744073709551616=ah*10 / 4294967296:=by omega
  have eb:ah*10*4294967296 % 18446744073709551616=ah*10 % 4294967296*4294967296:=by omega
  rw [encWd,ea,eb]
 have e3:encWd 0= [.int .u64 0,.int .u64 0]:=wd_small (by omega) (by omega)
 have p1:=fun w=>plus_at (al*10) (ah*10*4294967296) (by omega) (by omega) (by omega) w
 have p2:=fun w=>plus_at (al*10+ah*10*4294967296) 0 (by omega) (by omega) (by omega) w
 rw [e1,e2] at p1
 rw [e3,Int.add_zero] at p2
 have e4:al*10+ah*10*4294967296=10*u:=by omega
 rw [e4] at p1 p2
 have hb: ∀ c:Int,(4294967296:Int)≠0:=fun _=>by decide
 repeat' (first|((with_reducible apply wl_v (d:=11));exact rfl;(with_reducible apply v_rem_to);exact rfl;exact rfl;exact hb 0;exact t1)|((with_reducible apply wl_v (d:=13));exact rfl;(with_reducible apply v_quo_to);exact rfl;exact rfl;exact hb 0;exact t2)|((with_reducible apply wl_v (d:=15));exact rfl;(with_reducible apply v_rem_to);exact rfl;exact rfl;exact hb 0;exact t3)|((with_reducible apply wl_v (d:=17));exact rfl;(with_reducible apply v_quo_to);exact rfl;exact rfl;exact hb 0;exact t4)|((with_reducible apply wl_v (d:=20));exact rfl;(with_reducible apply v_mulw_to);exact rfl;exact rfl;exact m1)|((with_reducible apply wl_v (d:=23));exact rfl;(with_reducible apply v_mulw_to);exact rfl;exact rfl;exact m2)|((with_reducible apply wl_v (d:=28));exact rfl;(with_reducible apply v_mulw_to);exact rfl;exact rfl;exact m3)|((with_reducible apply wl_v (d:=29));exact rfl;(with_reducible apply v_quo_to);exact rfl;exact rfl;exact hb 0;exact q3)|((with_reducible apply wl_v (d:=32));exact rfl;(with_reducible apply v_mulw_to);exact rfl;exact rfl;exact m3)|((with_reducible apply wl_v (d:=33));exact rfl;(with_reducible apply v_rem_to);exact rfl;exact rfl;exact hb 0;exact r3)|((with_reducible apply wl_v (d:=34));exact rfl;(with_reducible apply v_mulw_to);exact rfl;exact rfl;exact m4)|((with_reducible apply wl_v (d:=40));exact rfl;(with_reducible apply v_mulw_to);exact rfl;exact rfl;exact m5)|((with_reducible apply wl_v (d:=41));exact rfl;(with_reducible apply v_quo_to);exact rfl;exact rfl;exact hb 0;exact q5)|((with_reducible apply wl_v (d:=44));exact rfl;(with_reducible apply v_mulw_to);exact rfl;exact rfl;exact m5)|((with_reducible apply wl_v (d:=45));exact rfl;(with_reducible apply v_rem_to);exact rfl;exact rfl;exact hb 0;exact r5)|((with_reducible apply wl_v (d:=46));exact rfl;(with_reducible apply v_mulw_to);exact rfl;exact rfl;exact m6)|((with_reducible apply wl_callp (d:=36));exact rfl;exact rfl;(intro w' hm;exact p1 w'))|((with_reducible apply wl_callp (d:=48));exact rfl;exact rfl;(intro w' hm;exact p2 w'))|refine sT ?_|refine sM fun _=> ?_|(refine sC ?_ ?_<;>intro hb<;>try omega)|fail)
 (refine eRC ?_)
 rfl
theorem refSigned_at (v:Int) (neg:Bool) (h0:0≤v) (h1:v<340282366920938463463374607431768211456) (w:World):Pure Tryz.prog 215 [.agg (encWd v).toArray,.bool neg] w (.tuple #[.int .i64 (if mostI<v then 0 else if neg then -v else v),.bool (decide (v≤mostI))]):=by
 refine fn_at Tryz.func215 rfl Tryz.ntmps215 rfl ?_
 have hm:mostI=9223372036854775807:=rfl
 by_cases hv:v≤mostI
 ·
  rw [if_neg (by omega),decide_eq_true hv,wd_small h0 (by omega)]
  have hw:IntKind.i64.wrap v=v:=wrap_u64_i64 h0 hv
  cases neg
  ·
   repeat' (first|((with_reducible apply wl_v);exact rfl;(with_reducible apply v_conv_to);exact rfl;exact hw)|refine sT ?_|refine sM fun _=> ?_|(refine sC ?_ ?_<;>intro hb<;>try omega)|fail)
   all_goals first|(exfalso;omega)|((refine rT2 ?_);rfl)
  ·
   repeat' (first|((with_reducible apply wl_v);exact rfl;(with_reducible apply v_conv_to);exact rfl;exact hw)|((with_reducible apply wl_v);exact rfl;(with_reducible apply v_neg);exact rfl;exact ⟨by omega,by omega⟩)|refine sT ?_|refine sM fun _=> ?_|(refine sC ?_ ?_<;>intro hb<;>try omega)|fail)
   all_goals first|(exfalso;omega)|((refine rT2 ?_);rfl)
 ·
  rw [if_pos (by omega),decide_eq_false hv]
  unfold encWd
  obtain ⟨vh,hvh⟩: ∃ z,v / 18446744073709551616=z:=⟨_,rfl⟩
  obtain ⟨vl,hvl⟩: ∃ z,v % 18446744073709551616=z:=⟨_,rfl⟩
  rw [hvh,hvl]
  repeat' (first|refine sT ?_|refine sM fun _=> ?_|(refine sC ?_ ?_<;>intro hb<;>try omega)|fail)
  all_goals first|(exfalso;omega)|((refine rT2 ?_);rfl)
theorem refDigits_at (a:ByteArray) (ha:a.size≤1000000) (i0:Nat) (w:World):Pure Tryz.prog 212 [.string a,.int .i64 (i0:Int)] w (.int .i64 ((i0+runL digC ((ints a).drop i0):Nat):Int)):=by
 refine fn_at Tryz.func212 rfl Tryz.ntmps212 rfl ?_
 have hl:=ints_length a
 by_cases hbig:a.size≤i0
 ·
  rw [runL_end (by omega),Nat.add_zero]
  repeat' (first|refine sT ?_|refine sS ?_|refine sT2 ?_|refine sM fun _=> ?_|(refine sC ?_ ?_<;>intro hb<;>try omega)|fail)
  refine w_loopK [0] rfl (fun _:Unit=> [(1,.int .i64 (i0:Int))]) (fun _=> []) (fun _=>True) (fun _=>0) () trivial sB (.refl _) ?_
  rintro ⟨⟩ -
  repeat' (first|refine sT ?_|refine sS ?_|refine sT2 ?_|refine sM fun _=> ?_|(refine sC ?_ ?_<;>intro hb<;>try omega)|fail)
  all_goals first|(exfalso;omega)|((refine rT1 ?_);rfl)
 obtain ⟨X,hX⟩: ∃ X,i0+runL digC ((ints a).drop i0)=X:=⟨_,rfl⟩
 rw [hX]
 repeat' (first|refine sT ?_|refine sS ?_|refine sT2 ?_|refine sM fun _=> ?_|(refine sC ?_ ?_<;>intro hb<;>try omega)|fail)
 refine w_loopK [0] rfl (fun i:Nat=> [(1,.int .i64 (i:Int))]) (fun _=> []) (fun i=>i≤a.size∧X=i+runL digC ((ints a).drop i)) (fun i=>a.size - i) i0 ⟨by omega,hX.symm⟩ sB (.refl _) ?_
 rintro i ⟨hi,hx⟩
 by_cases hlt:i<a.size
 ·
  rw [bat_drop hlt,runL] at hx
  have hd:=digC_iff (bat a i)
  repeat' (first|((with_reducible apply wl_v);exact rfl;(with_reducible apply v_idx (j:=i));exact rfl;exact rfl;exact hlt)|refine sT ?_|refine sS ?_|refine sT2 ?_|refine sN ?_|refine sM fun _=> ?_|(refine sC ?_ ?_<;>intro hb<;>try omega)|fail)
  all_goals first
   |(refine ⟨i+1,⟨hlt,?_⟩,by omega,sB,sB,.nil _⟩;rw [hx,if_pos (hd.2 ⟨by assumption,by assumption⟩)];omega)
   |((refine rT1 ?_);rw [hx,if_neg (fun h=>by have:=hd.1 h;omega)];rfl)
 ·
  have e:i=a.size:=by omega
  subst e
  rw [runL_end (by omega),Nat.add_zero] at hx
  repeat' (first|refine sT ?_|refine sS ?_|refine sT2 ?_|refine sM fun _=> ?_|(refine sC ?_ ?_<;>intro hb<;>try omega)|fail)
  all_goals first|(exfalso;omega)|((refine rT1 ?_);rw [hx])
end Go.SL
