/-
  Lemmas and walks, put together: Pl2 Rg Rh Pl3 Sl31 Ri.
-/
import Derived.Test.YtpohljcebgacjaaGreatDoorKr28
set_option linter.unusedSimpArgs false
set_option linter.unusedVariables false
set_option maxRecDepth 20000
namespace Go.SL
open Go
structure DnI (G:Gr) (c:Rf) (seen todo:List Rf):Prop where
 nodup:seen.Nodup
 sound: ∀ d∈seen,d∈keysG G∧Rc G c (oneA d.col d.row)
 from_: ∀ x∈todo,x=c∨x∈seen
 full: ∀ x,(x=c∨x∈seen)→x∈todo∨ ∀ u∈usesG G x,∀ d∈keysG G,hasR u.rect d=true→d∈seen
theorem DnI.start (G:Gr) (c:Rf):DnI G c [] [c]:=⟨List.nodup_nil,(fun _ h=>by cases h),(fun x h=> .inl (List.mem_singleton.1 h)),fun x h=>by
 rcases h with rfl|h
 ·
  exact .inl List.mem_cons_self
 ·
  cases h⟩
theorem uses_key {G:Gr} {x:Rf} {u:Us} (hu:u∈usesG G x): ∃ e∈G,e.1=x∧e.2.2=usesG G x:=by
 unfold usesG lookG at hu ⊢
 cases hf:G.find? (fun e=>decide (e.1=x)) with
 |none=>rw [hf] at hu;cases hu
 |some e=>
  have h1:=List.find?_some hf
  simp only [decide_eq_true_eq] at h1
  exact ⟨e,List.mem_of_find?_eq_some hf,h1,rfl⟩
theorem key_valid {G:Gr} (h:GrOk G) {d:Rf} (hd:d∈keysG G):d.valid=true:=by
 obtain ⟨e,he,rfl⟩:=mem_keysG.1 hd
 exact (h.ent e he).at_
theorem touch_of {G:Gr} (h:GrOk G) {x d:Rf} {u:Us} (hu:u∈usesG G x) (hd:d∈keysG G):touch (oneA d.col d.row) u=hasR u.rect d:=by
 obtain ⟨e,he,h1,h2⟩:=uses_key hu
 exact (has_touch ((h.ent e he).rect u (by rw [h2];exact hu)) (key_valid h hd)).symm
theorem DnI.add {G:Gr} (hG:GrOk G) {c:Rf} {seen todo:List Rf} {x d:Rf} {u:Us} (h:DnI G c seen (x::todo)) (hu:u∈usesG G x) (hd:d∈keysG G) (hh:hasR u.rect d=true) (hn:d∉seen):
  DnI G c (seen++ [d]) (x::(todo++ [d])):=by
 have hx:x∈keysG G:=by
  obtain ⟨e,he,h1,_⟩:=uses_key hu
  exact mem_keysG.2 ⟨e,he,h1⟩
 have ht:touchesU (usesG G x) (oneA d.col d.row)=true:=List.any_eq_true.2 ⟨u,hu,by rw [touch_of hG hu hd];exact hh⟩
 refine ⟨List.nodup_append.2 ⟨h.nodup,by simp,fun a ha b hb e=>hn (by rw [← List.mem_singleton.1 hb,← e];exact ha)⟩,fun y hy=> ?_,fun y hy=> ?_,fun y hy=> ?_⟩
 ·
  rcases List.mem_append.1 hy with hy|hy
  ·
   exact h.sound y hy
  ·
   rw [List.mem_singleton.1 hy]
   refine ⟨hd,?_⟩
   rcases h.from_ x List.mem_cons_self with rfl|hs
   ·
    exact .use hx ht
   ·
    exact Rc.trans (h.sound x hs).2 hx (.use hx ht)
 ·
  rcases List.mem_cons.1 hy with rfl|hy
  ·
   exact (h.from_ y List.mem_cons_self).imp id (List.mem_append_left _)
  ·
   rcases List.mem_append.1 hy with hy|hy
   ·
    exact (h.from_ y (List.mem_cons_of_mem _ hy)).imp id (List.mem_append_left _)
   ·
    exact .inr (List.mem_append_right _ hy)
 ·
  have hold:(y=c∨y∈seen)→y∈x::(todo++ [d])∨ ∀ u∈usesG G y,∀ e∈keysG G,hasR u.rect e=true→e∈seen++ [d]:=fun hy=>by
   rcases h.full y hy with h1|h1
   ·
    left
    rcases List.mem_cons.1 h1 with rfl|h1
    ·
     exact List.mem_cons_self
    ·
     exact List.mem_cons_of_mem _ (List.mem_append_left _ h1)
   ·
    exact .inr fun u hu e he hh=>List.mem_append_left _ (h1 u hu e he hh)
  rcases hy with hy|hy
  ·
   exact hold (.inl hy)
  ·
   rcases List.mem_append.1 hy with hy|hy
   ·
    exact hold (.inr hy)
   ·
    exact .inl (List.mem_cons_of_mem _ (List.mem_append_right _ hy))
theorem DnI.pop {G:Gr} {c:Rf} {seen todo:List Rf} {x:Rf} (h:DnI G c seen (x::todo)) (hall: ∀ u∈usesG G x,∀ d∈keysG G,hasR u.rect d=true→d∈seen):DnI G c seen todo:=by
 refine ⟨h.nodup,h.sound,fun y hy=>h.from_ y (List.mem_cons_of_mem _ hy),fun y hy=> ?_⟩
 rcases h.full y hy with h1|h1
 ·
  rcases List.mem_cons.1 h1 with rfl|h1
  ·
   exact .inr hall
  ·
   exact .inl h1
 ·
  exact .inr h1
theorem DnI.done {G:Gr} (hG:GrOk G) {c:Rf} {seen:List Rf} (h:DnI G c seen []) (d:Rf):d∈seen↔d∈belowF G c:=by
 rw [mem_below]
 refine ⟨h.sound d,fun ⟨hd,hr⟩=> ?_⟩
 have hstep: ∀ x e,(x=c∨x∈seen)→e∈keysG G→touchesU (usesG G x) (oneA e.col e.row)=true→e∈seen:=fun x e hx he ht=>by
  obtain ⟨u,hu,h1⟩:=List.any_eq_true.1 ht
  rw [touch_of hG hu he] at h1
  rcases h.full x hx with h2|h2
  ·
   cases h2
  ·
   exact h2 u hu e he h1
 have hgo: ∀ x r,Rc G x r→(x=c∨x∈seen)→r=oneA d.col d.row→d∈seen:=fun x r hx=>by
  induction hx with
  |use hc ht=>intro h1 h2;subst h2;exact hstep _ _ h1 hd ht
  |via hc he ht _ ih=>intro h1 h2;exact ih (.inr (hstep _ _ h1 he ht)) h2
 exact hgo c _ hr (.inl rfl) rfl
theorem DnI.len {G:Gr} (hG:SortG G) {c:Rf} {seen todo:List Rf} (h:DnI G c seen todo):seen.length≤G.length:=by
 have hp:seen.Perm ((keysG G).filter fun a=>decide (a∈seen)):=nodup_perm h.nodup (hG.nodup.filter _) fun a=>by
  rw [List.mem_filter,decide_eq_true_eq]
  exact ⟨fun ha=>⟨(h.sound a ha).1,ha⟩,fun ha=>ha.2⟩
 have h1:=hp.length_eq
 have h2:=List.length_filter_le (fun a=>decide (a∈seen)) (keysG G)
 have h3:(keysG G).length=G.length:=by rw [keysG,List.length_map]
 omega
theorem DnI.sort {G:Gr} (hG:GrOk G) {c:Rf} {S:List Rf} (h:DnI G c S []):sortRf S=belowF G c:=by
 have hn:(belowF G c).Nodup:=(below_sorted hG.sort c).imp fun h=>lessF_ne h
 rw [sortRf_perm ((List.perm_ext_iff_of_nodup h.nodup hn).2 (h.done hG)),sortRf_sorted (below_sorted hG.sort c)]
end Go.SL
namespace Go.SL
open Go Go.Proofs
attribute [local irreducible] W WL WQ WG WA WX WLI WR WT WC WE VOp RW thn blk cutP scp retP retPP endB FnAt FnIn FnP ceP
def dnB (cb:Nat) (Ac:Option Nat) (cc:Nat) (K:List Rf) (sb gm tb:Nat) (S:List Rf) (q:Qu):List Blk:=
 [.box cb 32 [sl Ac K.length cc],.own Ac 38 2 K.length cc (K.flatMap encF),.box sb 145 [.map (some gm)],.obj gm (mobj keyF (setM S) S.length),.box tb 32 [q.v],.own (some q.g) 38 2 q.n q.c q.ys]
set_option maxHeartbeats 4000000 in
theorem belowLook_in (cb:Nat) (Ac:Option Nat) (cc sb gm tb:Nat) (G:Gr) (hG:GrOk G) (hGl:G.length≤900) (c x:Rf) (u:Us) (hu:u∈usesG G x) (S0:List Rf) (q0:Qu) (todo0:List Rf) (hI:DnI G c S0 (x::todo0)) (hq:q0.ok encF 2 todo0) (hqn:q0.n≤10000) (F:List Blk) (w0:World):
  FnIn Tryz.prog 130 [.agg (encR u.rect).toArray,.pointer (some ⟨cb,0,none⟩),.pointer (some ⟨sb,0,none⟩),.pointer (some ⟨tb,0,none⟩)] w0 (dnB cb Ac cc (keysG G) sb gm tb S0 q0++F) fun v H=>v= .tuple #[]∧ ∃ S q todo,H=dnB cb Ac cc (keysG G) sb gm tb S q++F∧q.ok encF 2 todo∧DnI G c S (x::todo)∧S.length+todo0.length=S0.length+todo.length∧q.n+S0.length≤q0.n+S.length∧(∀ d∈S0,d∈S)∧ ∀ d∈keysG G,hasR u.rect d=true→d∈S:=by
 have hKl:(keysG G).length=G.length:=by rw [keysG,List.length_map]
 have hKm: ∀ i (h:i<(keysG G).length),(keysG G)[i]∈keysG G:=fun i h=>List.getElem_mem h
 have hKa: ∀ d∈keysG G,∃ i,∃ h:i<(keysG G).length,(keysG G)[i]=d:=fun d hd=>List.getElem_of_mem hd
 have hadd:=fun (S todo:List Rf) (d:Rf) (h:DnI G c S (x::todo)) hd hh hn=>DnI.add hG (d:=d) h hu hd hh hn
 generalize hK:keysG G=K at hKl hKm hKa hadd ⊢
 refine fn_in Tryz.func130 rfl Tryz.ntmps130 rfl ?_
 simp only [dnB,List.append_eq,List.cons_append,List.nil_append]
 repeat' (first|refine sT ?_|refine sS ?_|refine sM fun _=> ?_|(refine sC ?_ ?_<;>intro hb<;>try omega)|fail)
 rename_i g4
 refine w_loopK [2,3,4,7,8] rfl (fun y:Nat × List Rf × Qu × List Rf=> [(9,.int .i64 (y.1:Int))]) (fun y=> .box g4 24 (encR u.rect)::(dnB cb Ac cc K sb gm tb y.2.1 y.2.2.1++F)) (fun y=>y.1≤K.length∧DnI G c y.2.1 (x::y.2.2.2)∧y.2.2.1.ok encF 2 y.2.2.2∧(∀ j (h:j<K.length),j<y.1→hasR u.rect K[j]=true→K[j]∈y.2.1)∧y.2.1.length+todo0.length=S0.length+y.2.2.2.length∧y.2.2.1.n+S0.length≤q0.n+y.2.1.length∧ ∀ d∈S0,d∈y.2.1) (fun y=>K.length - y.1) (0,S0,q0,todo0) ⟨Nat.zero_le _,hI,hq,(fun j _ h=>absurd h (Nat.not_lt_zero _)),rfl,Nat.le_refl _,fun _ h=>h⟩ sB (by simp only [dnB,List.append_eq,List.cons_append,List.nil_append];exact mS) ?_
 clear hI hq
 rintro ⟨i,S,q,todo⟩ ⟨hi,hI,hq,hin,hsum,hqs,hsub⟩
 dsimp only at hi hI hq hin hsum hqs hsub ⊢
 have hSl:=hI.len hG.sort
 by_cases hlt:i<K.length
 ·
  refine w_some (A:=Ac) (by simp only [dnB,List.append_eq,List.cons_append,List.nil_append];exact pK) (by omega) fun gk hA=> ?_
  subst hA
  have hread:=refF hlt
  have hd:=hKm i hlt
  have hstep: ∀ (S' :List Rf),(∀ x∈S,x∈S')→(hasR u.rect K[i]=true→K[i]∈S')→ ∀ j (h:j<K.length),j<i+1→hasR u.rect K[j]=true→K[j]∈S' :=fun S' h1 h2 j h3 h4 h5=>by
   by_cases e:j=i
   ·
    subst e;exact h2 h5
   ·
    exact h1 _ (hin j h3 (by omega) h5)
  generalize K[i]=a at hread hd hstep
  have hHas:=fun w=>Has_at u.rect a w
  have hlook:=look_set S a
  simp only [dnB,List.append_eq,List.cons_append,List.nil_append]
  cases hh:hasR u.rect a with
  |false=>
   rw [hh] at hHas
   repeat' (first|((with_reducible apply wl_v);exact rfl;(with_reducible apply v_indexAddr (j:=i));exact rfl;exact rfl;exact hlt)|((with_reducible apply wl_v);exact rfl;(with_reducible apply v_loads_own);exact rfl;exact pK;exact hread;exact rfl)|((with_reducible apply wl_callp (f:=55));exact rfl;exact rfl;(intro w' _;exact hHas w'))|refine sT ?_|refine sS ?_|refine sN ?_|refine sM fun _=> ?_|(refine sC ?_ ?_<;>intro hb<;>try omega)|fail)
   all_goals first
    |(exfalso;omega)
    |(refine ⟨(i+1,S,q,todo),⟨hlt,hI,hq,hstep S (fun _ h=>h) (fun h=>absurd (h.symm.trans hh) (by decide)),hsum,hqs,hsub⟩,(by dsimp only;omega),sB,sB,(by simp only [dnB,List.append_eq,List.cons_append,List.nil_append];exact mS)⟩)
    |trace_state
  |true=>
   rw [hh] at hHas
   by_cases haS:a∈S
   ·
    rw [decide_eq_true haS] at hlook
    repeat' (first|((with_reducible apply wl_v);exact rfl;(with_reducible apply v_indexAddr (j:=i));exact rfl;exact rfl;exact hlt)|((with_reducible apply wl_v);exact rfl;(with_reducible apply v_loads_own);exact rfl;exact pK;exact hread;exact rfl)|((with_reducible apply wl_callp (f:=55));exact rfl;exact rfl;(intro w' _;exact hHas w'))|((with_reducible apply wl_v);exact rfl;(with_reducible apply v_lookup (enc:=keyF) (k:=a));exact rfl;exact rfl;exact pK;exact hlook)|refine sT ?_|refine sS ?_|refine sN ?_|refine sM fun _=> ?_|(refine sC ?_ ?_<;>intro hb<;>try omega)|fail)
    all_goals first
     |(exfalso;omega)
     |(refine ⟨(i+1,S,q,todo),⟨hlt,hI,hq,hstep S (fun _ h=>h) (fun _=>haS),hsum,hqs,hsub⟩,(by dsimp only;omega),sB,sB,(by simp only [dnB,List.append_eq,List.cons_append,List.nil_append];exact mS)⟩)
     |trace_state
   ·
    rw [decide_eq_false haS] at hlook
    have hput:=put_set haS
    have hI2:=hadd S todo a hI hd hh haS
    obtain ⟨qg,qoff,qk,qn,qc,qys⟩:=q
    obtain ⟨hq1,hq2,hq3,hq4⟩:=hq
    dsimp only at hq1 hq2 hq3 hq4 hqs ⊢
    simp only [Qu.v]
    repeat' (first|((with_reducible apply wl_v);exact rfl;(with_reducible apply v_indexAddr (j:=i));exact rfl;exact rfl;exact hlt)|((with_reducible apply wl_v);exact rfl;(with_reducible apply v_loads_own);exact rfl;exact pK;exact hread;exact rfl)|((with_reducible apply wl_callp (f:=55));exact rfl;exact rfl;(intro w' _;exact hHas w'))|((with_reducible apply wl_v);exact rfl;(with_reducible apply v_lookup (enc:=keyF) (k:=a));exact rfl;exact rfl;exact pK;exact hlook)|((with_reducible apply wl_mapPut (enc:=keyF) (k:=a));(iterate 3 exact rfl);exact pK;rw [hput])|((with_reducible apply wl_appendQ);exact rfl;exact rfl;exact hq1;exact hq2;exact rfl;exact pK;exact pK;exact rfl;(simp [Value.oneCell',encF]);omega;(simp only [maxLen];omega);intro g' off' k' n2 c2 ys hk2 hoff2 hlen2 hn2 hys2)|refine sT ?_|refine sS ?_|refine sN ?_|refine sM fun _=> ?_|(refine sC ?_ ?_<;>intro hb<;>try omega)|fail)
    all_goals first
     |(exfalso;omega)
     |(refine ⟨(i+1,S++ [a],⟨g',off',k',n2,c2,ys⟩,todo++ [a]),⟨hlt,hI2,⟨hk2,hoff2,(by rw [List.length_append];exact hlen2.trans (by rw [hq3];rfl)),(by rw [hys2,hq4,List.flatMap_append];rfl)⟩,hstep (S++ [a]) (fun _ h=>List.mem_append_left _ h) (fun _=>List.mem_append_right _ List.mem_cons_self),(by rw [List.length_append,List.length_append];simp only [List.length_cons,List.length_nil];omega),(by rw [List.length_append];simp only [List.length_cons,List.length_nil];omega),fun y hy=>List.mem_append_left _ (hsub y hy)⟩,(by dsimp only;omega),sB,sB,(by simp only [dnB,Qu.v,List.append_eq,List.cons_append,List.nil_append,List.length_append,List.length_cons,List.length_nil,Nat.zero_add];exact mS)⟩)
     |trace_state
 ·
  have hi2:i=K.length:=by omega
  subst hi2
  simp only [dnB,List.append_eq,List.cons_append,List.nil_append]
  repeat' (first|refine sT ?_|refine sS ?_|refine sN ?_|refine sM fun _=> ?_|(refine sC ?_ ?_<;>intro hb<;>try omega)|fail)
  all_goals first
   |(exfalso;omega)
   |(exact ret0 eIO rfl mS ⟨rfl,S,q,todo,rfl,hq,hI,hsum,hqs,hsub,fun d hd hh=>by obtain ⟨j,hj,rfl⟩:=hKa d hd;exact hin j hj hj hh⟩)
   |trace_state
theorem refUs {L:List Us} {k:Nat} (h:k<L.length):((L.flatMap encU).drop (0+k*6)).take 6=encU L[k]:=by
 rw [Nat.zero_add];exact flat_elem encU_len L k h
theorem sortedD_in (gm:Nat) {G:Gr} (hG:GrOk G) (hGl:G.length≤900) {c:Rf} {S:List Rf} (hI:DnI G c S []) (R:List Blk) (w0:World):
  FnIn Tryz.prog 91 [.map (some gm)] w0 (.obj gm (mobj keyF (setM S) S.length)::R) fun v H=> ∃ A cap,v=sl A (belowF G c).length cap∧H= .own A 38 2 (belowF G c).length cap ((belowF G c).flatMap encF):: .obj gm (mobj keyF (setM S) S.length)::R:=by
 have hl:=hI.len hG.sort
 rw [← hI.sort hG,show (sortRf S).length=S.length by simp [sortRf]]
 exact sorted_in gm S hI.nodup (by omega) R w0
set_option maxHeartbeats 4000000 in
theorem below_in (gg:Nat) (G:Gr) (hG:GrOk G) (hGl:G.length≤900) (c:Rf) (B F:List Blk) (hB:MSub B F) (w0:World)
  (hFm: ∀ H,MSub B H→FnIn Tryz.prog 17 [.pointer (some ⟨gg,0,none⟩)] w0 H fun v H' => ∃ A cap,v=sl A (keysG G).length cap∧H' = .own A 38 2 (keysG G).length cap ((keysG G).flatMap encF)::H)
  (hUs: ∀ d H,MSub B H→FnIn Tryz.prog 21 [.pointer (some ⟨gg,0,none⟩),keyF d] w0 H fun v H' => ∃ A cap,v=sl A (usesG G d).length cap∧H' = .own A 45 6 (usesG G d).length cap ((usesG G d).flatMap encU)::H)
  (hUl: ∀ d,(usesG G d).length≤1000):
  FnIn Tryz.prog 92 [.pointer (some ⟨gg,0,none⟩),keyF c] w0 F fun v H' => ∃ gm S,v= .map (some gm)∧H' = .obj gm (mobj keyF (setM S) S.length)::F∧DnI G c S []:=by
 refine fn_in Tryz.func92 rfl Tryz.ntmps92 rfl ?_
 repeat' (first|((with_reducible apply wl_callin (f:=17));exact rfl;exact rfl;exact hFm _ (MSub.trans hB mS);rintro _ _ ⟨Ac,cc,rfl,rfl⟩)|((with_reducible apply wl_makeMap (enc:=keyF));exact rfl;intro gm)|refine sT ?_|refine sS ?_|refine sM fun _=> ?_|(refine sC ?_ ?_<;>intro hb<;>try omega)|fail)
 rename_i xb cb sb qg tb
 refine w_loopK [0,6,7,8] rfl (fun _:List Rf × Qu × List Rf=> []) (fun y=>dnB cb Ac cc (keysG G) sb gm tb y.1 y.2.1++F) (fun y=>DnI G c y.1 y.2.2∧y.2.1.ok encF 2 y.2.2∧y.2.1.n≤1+y.1.length) (fun y=>y.2.2.length+(G.length - y.1.length)) ([],⟨qg,0,0,1,1,encF c⟩,[c]) ⟨DnI.start G c,⟨Nat.zero_le _,fun _=>by rw [Nat.zero_mul],rfl,rfl⟩,Nat.le_refl _⟩ sB (by simp only [dnB,Qu.v,List.append_eq,List.cons_append,List.nil_append];exact mS) ?_
 rintro ⟨S,q,todo⟩ ⟨hI,hq,hqn⟩
 dsimp only at hI hq hqn ⊢
 have hSl:=hI.len hG.sort
 have hql:=hq.len
 simp only [dnB,List.append_eq,List.cons_append,List.nil_append]
 cases todo with
 |nil=>
  rw [List.length_nil] at hql
  repeat' (first|refine sT ?_|refine sS ?_|refine sM fun _=> ?_|(refine sC ?_ ?_<;>intro hb<;>try omega)|fail)
  all_goals first
   |(exfalso;omega)
   |(exact ret1 eIO rfl rfl (H' := .obj gm (mobj keyF (setM S) S.length)::F) mS ⟨gm,S,rfl,rfl,hI⟩)
   |trace_state
 |cons x todo=>
  rw [List.length_cons] at hql
  refine w_le (A:=some q.g) pK fun hle=> ?_
  have hhd:=hq.head rfl hle
  have hp:=hq.pop rfl hle
  have hU:=hUs x
  have hUx:=hUl x
  have hmem: ∀ i (h:i<(usesG G x).length),(usesG G x)[i]∈usesG G x:=fun i h=>List.getElem_mem h
  have hall: ∀ u∈usesG G x,∃ i,∃ h:i<(usesG G x).length,(usesG G x)[i]=u:=fun u hu=>List.getElem_of_mem hu
  have hlk:=fun u hu S0 q0 todo0 (h1:DnI G c S0 (x::todo0)) h2 h3 F=>belowLook_in cb Ac cc sb gm tb G hG hGl c x u hu S0 q0 todo0 h1 h2 h3 F w0
  have hpop:=fun S todo (h:DnI G c S (x::todo))=>h.pop
  generalize usesG G x=U at hU hUx hmem hall hlk hpop
  repeat' (first|((with_reducible apply wl_v);exact rfl;(with_reducible apply v_indexAddr (j:=0));exact rfl;exact rfl;omega)|((with_reducible apply wl_v);exact rfl;(with_reducible apply v_loads_own);exact rfl;exact pK;exact hhd;exact rfl)|((with_reducible apply wl_v);exact rfl;(with_reducible apply v_pop q);exact rfl;omega;exact hle)|((with_reducible apply wl_callin (f:=21));exact rfl;exact rfl;exact hU _ (MSub.trans hB mS);rintro _ _ ⟨Au,cu,rfl,rfl⟩)|refine sT ?_|refine sS ?_|refine sM fun _=> ?_|(refine sC ?_ ?_<;>intro hb<;>try omega)|fail)
  refine w_loopK [0,6,7,8,28,29] rfl (fun y:Nat × List Rf × Qu × List Rf=> [(30,.int .i64 (y.1:Int))]) (fun y=> .own Au 45 6 U.length cu (U.flatMap encU)::(dnB cb Ac cc (keysG G) sb gm tb y.2.1 y.2.2.1++F)) (fun y=>y.1≤U.length∧DnI G c y.2.1 (x::y.2.2.2)∧y.2.2.1.ok encF 2 y.2.2.2∧(∀ j (h:j<U.length),j<y.1→ ∀ d∈keysG G,hasR U[j].rect d=true→d∈y.2.1)∧y.2.1.length+todo.length=S.length+y.2.2.2.length∧y.2.2.1.n+S.length≤q.n+y.2.1.length) (fun y=>U.length - y.1) (0,S,q.pop 2,todo) ⟨Nat.zero_le _,hI,hp,(fun j _ h=>absurd h (Nat.not_lt_zero _)),rfl,Nat.le_refl _⟩ sB (by simp only [dnB,List.append_eq,List.cons_append,List.nil_append];exact mS) ?_
  rintro ⟨i,S',q',todo'⟩ ⟨hi,hI',hq',hin,hsum,hqs⟩
  dsimp only at hi hI' hq' hin hsum hqs ⊢
  have hSl' :=hI'.len hG.sort
  by_cases hlt:i<U.length
  ·
   refine w_some (A:=Au) .hd (by omega) fun gk hA=> ?_
   subst hA
   have hread:=refUs hlt
   have hum:=hmem i hlt
   have hstep: ∀ (S2:List Rf),(∀ y∈S',y∈S2)→(∀ d∈keysG G,hasR U[i].rect d=true→d∈S2)→ ∀ j (h:j<U.length),j<i+1→ ∀ d∈keysG G,hasR U[j].rect d=true→d∈S2:=fun S2 h1 h2 j h3 h4 d h5 h6=>by
    by_cases e:j=i
    ·
     subst e;exact h2 d h5 h6
    ·
     exact h1 _ (hin j h3 (by omega) d h5 h6)
   generalize U[i]=u at hread hum hstep
   have hlook:=hlk u hum S' q' todo' hI' hq' (by omega)
   simp only [dnB,List.append_eq,List.cons_append,List.nil_append] at hlook ⊢
   repeat' (first|((with_reducible apply wl_v);exact rfl;(with_reducible apply v_indexAddr (j:=i));exact rfl;exact rfl;exact hlt)|((with_reducible apply wl_v);exact rfl;(with_reducible apply v_loads_own);exact rfl;exact pK;exact hread;exact rfl)|((with_reducible apply wl_callv);exact rfl;exact rfl;infer_instance;exact rfl;exact FnIn.msub (hlook (.own (some gk) 45 6 U.length cu (U.flatMap encU)::F)) mS;rintro _ _ ⟨rfl,S2,q2,todo2,rfl,hq2,hI2,hsum2,hqs2,hsub2,hall2⟩)|refine sT ?_|refine sS ?_|refine sN ?_|refine sM fun _=> ?_|(refine sC ?_ ?_<;>intro hb<;>try omega)|fail)
   all_goals first
    |(exfalso;omega)
    |(refine ⟨(i+1,S2,q2,todo2),⟨hlt,hI2,hq2,hstep S2 hsub2 hall2,(by dsimp only;omega),(by dsimp only;omega)⟩,(by dsimp only;omega),sB,sB,(by simp only [dnB,List.append_eq,List.cons_append,List.nil_append];exact mS)⟩)
    |trace_state
  ·
   have hi2:i=U.length:=by omega
   subst hi2
   have hI3:=hpop S' todo' hI' fun u hu d hd hh=>by
    obtain ⟨j,hj,rfl⟩:=hall u hu
    exact hin j hj hj d hd hh
   simp only [dnB,List.append_eq,List.cons_append,List.nil_append]
   repeat' (first|refine sT ?_|refine sS ?_|refine sN ?_|refine sM fun _=> ?_|(refine sC ?_ ?_<;>intro hb<;>try omega)|fail)
   all_goals first
    |(exfalso;omega)
    |(refine ⟨(S',q',todo'),⟨hI3,hq',(by dsimp only;omega)⟩,(by dsimp only;rw [List.length_cons];omega),sB,sB,(by simp only [dnB,List.append_eq,List.cons_append,List.nil_append];exact mS)⟩)
    |trace_state
noncomputable def belowR (G:Gr) (c:Rf):List Rf:=if checkR [c] []=0 then belowF G c else []
set_option maxHeartbeats 4000000 in
theorem Below_in (gg:Nat) (G:Gr) (hG:GrOk G) (hGl:G.length≤900) (c:Rf) (B F:List Blk) (hB:MSub B F) (w0:World)
  (hFm: ∀ H,MSub B H→FnIn Tryz.prog 17 [.pointer (some ⟨gg,0,none⟩)] w0 H fun v H' => ∃ A cap,v=sl A (keysG G).length cap∧H' = .own A 38 2 (keysG G).length cap ((keysG G).flatMap encF)::H)
  (hUs: ∀ d H,MSub B H→FnIn Tryz.prog 21 [.pointer (some ⟨gg,0,none⟩),keyF d] w0 H fun v H' => ∃ A cap,v=sl A (usesG G d).length cap∧H' = .own A 45 6 (usesG G d).length cap ((usesG G d).flatMap encU)::H)
  (hUl: ∀ d,(usesG G d).length≤1000):
  FnIn Tryz.prog 47 [.pointer (some ⟨gg,0,none⟩),keyF c] w0 F fun v H' => ∃ A cap,v= .tuple #[sl A (belowR G c).length cap,.int .i64 (checkR [c] [])]∧H' = .own A 38 2 (belowR G c).length cap ((belowR G c).flatMap encF)::F:=by
 refine fn_in Tryz.func47 rfl Tryz.ntmps47 rfl ?_
 refine w_nilrow 38 2 ?_
 have hck:=fun w (v:Value) (hr:Reads w v 1 (encF c))=>checkA_at gg [c] [] v (.slice none 0 0) w (by simpa using hr) (reads_nil w) (by simp) (by simp)
 have hbl:=fun F hB=>below_in gg G hG hGl c B F hB w0 hFm hUs hUl
 unfold belowR
 by_cases hc0:checkR [c] []=0
 ·
  rw [if_pos hc0]
  rw [hc0] at hck ⊢
  repeat' (first|((with_reducible apply wl_callp (f:=88));exact rfl;exact rfl;(intro w' hm;exact hck w' _ (Reads.of_own (A:=some _) hm pK)))|((with_reducible apply wl_callin (f:=92));exact rfl;exact rfl;exact hbl _ (MSub.trans hB mS);rintro _ _ ⟨gm,S,rfl,rfl,hI⟩)|((with_reducible apply wl_callin (f:=91));exact rfl;exact rfl;exact sortedD_in gm hG hGl hI _ w0;rintro _ _ ⟨A5,c5,rfl,rfl⟩)|refine sT ?_|refine sS ?_|refine sM fun _=> ?_|(refine sC ?_ ?_<;>intro hb<;>try omega)|fail)
  all_goals first
   |(exfalso;omega)
   |(exact ret2 eIO rfl rfl rfl (H' := .own A5 38 2 (belowF G c).length c5 ((belowF G c).flatMap encF)::F) mS ⟨A5,c5,rfl,rfl⟩)
   |trace_state
 ·
  rw [if_neg hc0]
  repeat' (first|((with_reducible apply wl_callp (f:=88));exact rfl;exact rfl;(intro w' hm;exact hck w' _ (Reads.of_own (A:=some _) hm pK)))|refine sT ?_|refine sS ?_|refine sM fun _=> ?_|(refine sC ?_ ?_<;>intro hb<;>try omega)|fail)
  all_goals first
   |(exfalso;omega)
   |(exact ret2 eIO rfl rfl rfl (H' := .own none 38 2 0 0 []::F) mS ⟨none,0,rfl,rfl⟩)
   |trace_state
end Go.SL
namespace Go.SL
open Go Go.Proofs Go.Sort Go.Shelf
def cmpt:List Rct→List Rct
 | []=> []
 |a::l=>if l.head? =some a then cmpt l else a::cmpt l
theorem cmpt_snoc (x:Rct): ∀ l:List Rct,cmpt (l++ [x])=if l.getLast? =some x then cmpt l else cmpt l++ [x]
 | []=>by simp [cmpt]
 | [a]=>by
  by_cases h:x=a
  ·
   subst h;simp [cmpt]
  ·
   have h2: ¬ a=x:=fun e=>h e.symm
   simp [cmpt,h,h2]
 |a::b::l=>by
  have ih:=cmpt_snoc x (b::l)
  have h0: ∀ l,cmpt (a::l)=if l.head? =some a then cmpt l else a::cmpt l:=fun _=>rfl
  have hh:(b::l++ [x]).head? =(b::l).head? :=rfl
  rw [List.getLast?_cons_cons,List.cons_append,h0,h0,hh,ih]
  by_cases h1:(b::l).head? =some a
  ·
   simp only [h1,if_true]
  ·
   simp only [h1,if_false];split<;>rfl
theorem cmpt_step {L:List Rct} {j:Nat} (h:j<L.length) (h0:0<j):cmpt (L.take (j+1))=if L[j]=L[j - 1] then cmpt (L.take j) else cmpt (L.take j)++ [L[j]]:=by
 have h1:L.take (j+1)=L.take j++ [L[j]]:=by rw [List.take_succ_eq_append_getElem h]
 have h2:(L.take j).getLast? =some L[j - 1]:=by
  rw [List.getLast?_eq_getElem?,List.length_take,Nat.min_eq_left (by omega),List.getElem?_take_of_lt (by omega),List.getElem?_eq_getElem (by omega)]
 rw [h1,cmpt_snoc,h2]
 simp only [Option.some.injEq,eq_comm]
theorem cmpt_one {L:List Rct} (h:L.length≤1):cmpt L=L:=by
 match L,h with
 | [],_=>rfl
 | [a],_=>rfl
theorem mem_cmpt {x:Rct}: ∀ {l:List Rct},x∈cmpt l↔x∈l
 | []=>Iff.rfl
 |a::l=>by
  rw [cmpt]
  split
  ·
   rename_i h
   rw [mem_cmpt (l:=l),List.mem_cons]
   exact ⟨.inr,fun h2=>h2.elim (fun e=>by subst e;exact List.mem_of_mem_head? h) id⟩
  ·
   rw [List.mem_cons,List.mem_cons,mem_cmpt (l:=l)]
theorem cmpt_len: ∀ l:List Rct,(cmpt l).length≤l.length
 | []=>Nat.le_refl _
 |a::l=>by
  have:=cmpt_len l
  rw [cmpt]
  split<;>simp only [List.length_cons]<;>omega
theorem lt_of_ne {a b:Rct} (h:ltOf orderRc b a=false) (hn:a≠b):ltOf orderRc a b=true:=by
 cases h2:ltOf orderRc a b
 ·
  exact absurd (totRc _ _ h2 h) hn
 ·
  rfl
theorem cmpt_sorted: ∀ {l:List Rct},l.Pairwise (fun x y=>ltOf orderRc y x=false)→(cmpt l).Pairwise fun x y=>ltOf orderRc x y=true
 | [],_=> .nil
 |a::l,h=>by
  have h1:=List.pairwise_cons.1 h
  have ih:=cmpt_sorted h1.2
  rw [cmpt]
  split
  ·
   exact ih
  ·
   rename_i hh
   refine List.pairwise_cons.2 ⟨fun y hy=> ?_,ih⟩
   have hyl:=mem_cmpt.1 hy
   refine lt_of_ne (h1.1 y hyl) fun e=> ?_
   subst e
   cases l with
   |nil=>cases hyl
   |cons b l=>
    have hb:b≠a:=fun e=>hh (by rw [e];rfl)
    rcases List.mem_cons.1 hyl with e|hm
    ·
     exact hb e.symm
    ·
     have h3:=(List.pairwise_cons.1 h1.2).1 a hm
     have h4:=h1.1 b List.mem_cons_self
     exact hb (totRc _ _ h4 h3)
theorem sortRc_perm (L:List Rct):(sortRc L).Perm L:=List.mergeSort_perm L _
theorem sortRc_sorted (L:List Rct):(sortRc L).Pairwise fun x y=>ltOf orderRc y x=false:=by
 have h:=List.pairwise_mergeSort (le:=fun x y=> !(ltOf orderRc y x)) (fun a b c h1 h2=>by
  simp only [Bool.not_eq_true'] at*
  exact swoRc.ntrans _ _ _ h2 h1) (fun a b=>by
  cases h1:ltOf orderRc b a
  ·
   simp
  ·
   cases h2:ltOf orderRc a b
   ·
    simp
   ·
    have:=swoRc.trans _ _ _ h1 h2
    rw [swoRc.irrefl] at this
    cases this) L
 exact h.imp fun h=>by simpa using h
theorem ext_ltRc {L M:List Rct} (h:L.Pairwise fun x y=>ltOf orderRc x y=true) (k:M.Pairwise fun x y=>ltOf orderRc x y=true) (hm: ∀ a,a∈L↔a∈M):L=M:=by
 have hn: ∀ {L:List Rct},(L.Pairwise fun x y=>ltOf orderRc x y=true)→L.Nodup:=fun h=>h.imp fun h e=>by
  rw [e,swoRc.irrefl] at h;cases h
 have hp:L.Perm M:=(List.perm_ext_iff_of_nodup (hn h) (hn k)).2 hm
 refine List.Perm.eq_of_pairwise (fun a b _ _ h1 h2=> ?_) h k hp
 have:=swoRc.trans _ _ _ h1 h2
 rw [swoRc.irrefl] at this
 cases this
noncomputable def leavesF (G:Gr) (c:Rf):List Rct:=cmpt (sortRc ((c::belowF G c).flatMap fun x=>(usesG G x).map fun u=>u.rect))
theorem leavesF_sorted (G:Gr) (c:Rf):(leavesF G c).Pairwise fun x y=>ltOf orderRc x y=true:=cmpt_sorted (sortRc_sorted _)
theorem mem_leaves {G:Gr} {c:Rf} {r:Rct}:r∈leavesF G c↔ ∃ x,(x=c∨x∈belowF G c)∧ ∃ u∈usesG G x,u.rect=r:=by
 unfold leavesF
 rw [mem_cmpt,(sortRc_perm _).mem_iff,List.mem_flatMap]
 simp only [List.mem_cons,List.mem_map]
theorem leaves_of {G:Gr} {c:Rf} {M:List Rct} (h: ∀ r,r∈M↔ ∃ x,(x=c∨x∈belowF G c)∧ ∃ u∈usesG G x,u.rect=r):cmpt (sortRc M)=leavesF G c:=by
 refine ext_ltRc (cmpt_sorted (sortRc_sorted _)) (leavesF_sorted G c) fun a=> ?_
 rw [mem_cmpt,(sortRc_perm _).mem_iff,h,mem_leaves]
open Classical in
theorem reach_leaves {G:Gr} (hG:GrOk G) {c:Rf} {b:Rf} (hb:b.valid=true):(leavesF G c).any (fun r=>hasR r b)=reachF G c b:=by
 unfold reachF
 rw [Bool.eq_iff_iff,List.any_eq_true,decide_eq_true_eq]
 have ht: ∀ {x:Rf} {u:Us},u∈usesG G x→(touch (oneA b.col b.row) u=hasR u.rect b):=fun {x u} hu=>by
  obtain ⟨e,he,h1,h2⟩:=uses_key hu
  exact (has_touch ((hG.ent e he).rect u (by rw [h2];exact hu)) hb).symm
 constructor
 ·
  rintro ⟨r,hr,hh⟩
  obtain ⟨x,hx,u,hu,rfl⟩:=mem_leaves.1 hr
  have hxk:x∈keysG G:=by
   obtain ⟨e,he,h1,_⟩:=uses_key hu
   exact mem_keysG.2 ⟨e,he,h1⟩
  have hxt:touchesU (usesG G x) (oneA b.col b.row)=true:=List.any_eq_true.2 ⟨u,hu,by rw [ht hu];exact hh⟩
  rcases hx with rfl|hx
  ·
   exact .use hxk hxt
  ·
   exact Rc.trans (mem_below.1 hx).2 hxk (.use hxk hxt)
 ·
  intro h
  have hgo: ∀ x,touchesU (usesG G x) (oneA b.col b.row)=true→(x=c∨x∈belowF G c)→ ∃ r∈leavesF G c,hasR r b=true:=fun x h1 hx=>by
   obtain ⟨u,hu,h2⟩:=List.any_eq_true.1 h1
   rw [ht hu] at h2
   exact ⟨u.rect,mem_leaves.2 ⟨x,hx,u,hu,rfl⟩,h2⟩
  rcases h.last with h1|⟨d,hd,h1,h2⟩
  ·
   exact hgo c h1 (.inl rfl)
  ·
   exact hgo d h2 (.inr (mem_below.2 ⟨hd,h1⟩))
end Go.SL
namespace Go.SL
open Go Go.RowKit
theorem zeroCells_mem (z:Array Value) (n:Nat) (u:Value) (h:u∈(Builtin.zeroCells z n).toList):u∈z.toList:=by
 rw [Array.mem_toList_iff,Builtin.zeroCells,Array.mem_map] at h
 obtain ⟨i,hi,rfl⟩:=h
 rw [Array.mem_range] at hi
 have hz:0<z.size:=by
  rcases Nat.eq_zero_or_pos z.size with h|h
  ·
   rw [h] at hi;simp at hi
  ·
   exact h
 have hl:i % z.size<z.size:=Nat.mod_lt _ hz
 rw [getElem!_pos z (i % z.size) hl,Array.mem_toList_iff]
 exact Array.getElem_mem hl
theorem wl_clear {P:Program} {n:Fr} {w0:World} {Q:Post} {s:Slots} {H:List Blk} {rest:List Oper} {ty:TypeId} {p:String} {af:Array Edge} {t e k n' c cx g sz:Nat} {x:Operand} {xs:List Value} {R:List Blk} {ops:Array Oper} {z:Value} [ht:Und P t (.slice e)] [hz:Zero P e z]
  (hx:ev s x=some (.slice (some ⟨g,k*sz,none⟩) (n' - k) cx)) (hk:k<n') (hsel:Sel (.own (some g) e sz n' c xs) H R) (hz1: ∀ u∈z.cells.toList,u.oneCell' =true) (hzs:z.cells.size=sz)
  (K:WL P n w0 ops rest Q s (.own (some g) e sz k c (xs.take (k*sz))::R)):
  WL P n w0 ops (⟨none,.call { callee:= .builtin .clear,args:= #[x],argTypes:= #[t] },ty,p,af,none⟩::rest) Q s H:=by
 intro a w hs hm
 have hm' :=hm.sel hsel
 obtain ⟨i,i1,i2⟩:=hz.out
 obtain ⟨b1,b2,b3,junk,b4,b5⟩:=(hm'.on _ List.mem_cons_self).1
 have hzl:(Builtin.zeroCells z.cells (n' - k)).toList.length=(n' - k)*sz:=by rw [Array.length_toList,size_zeroCells,hzs]
 have hkn:k*sz+(n' - k)*sz=n' *sz:=by rw [← Nat.add_mul];congr 1;omega
 have hst:=run_storeCells_at (P:=P) g (k*sz) e (Builtin.zeroCells z.cells (n' - k)).toList 0 _ w b5 (by simp only [List.size_toArray,List.length_append,hzl];omega) (fun u hu=>hz1 u (zeroCells_mem _ _ _ hu))
 simp only [Nat.add_zero,hzl,hkn] at hst
 have hn0: ¬ n' - k=0:=by omega
 obtain ⟨m,hm2⟩: ∃ m,n' - k=m+1:=⟨n' - k - 1,by omega⟩
 have hrun:(Builtin.clear_ #[t] ty #[.slice (some ⟨g,k*sz,none⟩) (n' - k) cx]).run P w= .ok (.tuple #[]) (w.setRow g ((xs++junk).take (k*sz)++(Builtin.zeroCells z.cells (n' - k)).toList++(xs++junk).drop (n' *sz)).toArray):=by
  rw [hm2] at hst ⊢
  simp [Builtin.clear_,run_underlying ht.out,zeroValue,typeInfo,i1,i2,hst]
 refine wpList_plain rfl fun K' hK=> ?_
 unfold Oper.wp execOp
 simp only [resolve,invoke,builtin,Sem.run_bind,Sem.run_pure,Result.andThen_ok,List.map_toArray,List.map_cons,List.map_nil,hs.eval x _ hx,hrun,Oper.upon]
 refine hK _ _ (K _ _ (hs.put_none _) (hm'.upd (setRow_grown _ _ _) (b' := .own (some g) e sz k c (xs.take (k*sz))) ⟨?_,by omega,b3,(Builtin.zeroCells z.cells (n' - k)).toList++(xs++junk).drop (n' *sz),?_,?_⟩ fun k hk=> .inl hk))
 ·
  rw [List.length_take,b1];omega
 ·
  have hle:n' *sz≤c*sz:=Nat.mul_le_mul_right _ b2
  simp only [List.length_append,List.length_take,List.length_drop,hzl]
  rw [List.length_append] at b4
  omega
 ·
  rw [List.take_append_of_le_length (by omega)]
  rw [← List.append_assoc]
  exact setRow_heap _ _ _ _ _ _ b5
end Go.SL
namespace Go.SL
open Go Go.Proofs
attribute [local irreducible] W WL WQ WG WA WX WLI WR WT WC WE VOp RW thn blk cutP scp retP retPP endB FnAt FnIn FnP ceP
theorem v_sliceLo {P:Program} {w0:World} {s:Slots} {H:List Blk} {ty t e lo m c sz g:Nat} {x xl:Operand} [ht:Und P t (.slice e)] [hz:Size P e sz] (hx:ev s x=some (.slice (some ⟨g,0,none⟩) m c)) (hxl:ev s xl=some (.int .i64 (lo:Nat))) (h1:lo<m) (h2:m≤c):
  VOp P w0 s H (.slice t x (some xl) none none) ty (.slice (some ⟨g,lo*sz,none⟩) (m - lo) (c - lo)):=by
 have h:=v_slice (P:=P) (w0:=w0) (s:=s) (H:=H) (ty:=ty) (t:=t) (lo:=lo) (hi:=m) (x:=x) (xl:=some xl) (xh:=none) hx ⟨_,hxl⟩ rfl (by omega) h2
 rw [if_neg (show ¬ c=lo by omega)] at h
 have ha:(⟨g,0,none⟩:Addr).add (lo*sz)=⟨g,lo*sz,none⟩:=by unfold Addr.add;split<;>simp_all
 rw [Option.map_some,ha] at h
 exact h
theorem v_sliceHi {P:Program} {w0:World} {s:Slots} {H:List Blk} {ty t e hi m c sz:Nat} {A:Option Addr} {x xh:Operand} [ht:Und P t (.slice e)] [hz:Size P e sz] (hx:ev s x=some (.slice A m c)) (hxh:ev s xh=some (.int .i64 (hi:Nat))) (h2:hi≤c):
  VOp P w0 s H (.slice t x none (some xh) none) ty (.slice A hi c):=by
 have h:=v_slice (P:=P) (w0:=w0) (s:=s) (H:=H) (ty:=ty) (t:=t) (lo:=0) (hi:=hi) (x:=x) (xl:=none) (xh:=some xh) hx rfl ⟨_,hxh⟩ (by omega) h2
 have ha:(if c=0 then A else A.map (·.add (0*sz)))=A:=by
  split
  ·
   rfl
  ·
   cases A with
   |none=>rfl
   |some a=>rw [Nat.zero_mul];simp [Addr.add]
 rw [ha] at h
 exact h
theorem refR {L:List Rct} {k:Nat} (h:k<L.length):((L.flatMap encR).drop (0+k*4)).take 4=encR L[k]:=by
 rw [Nat.zero_add];exact flat_elem encR_len' L k h
theorem refR2 {L:List Rct} {a k:Nat} (h:a+k<L.length):((L.flatMap encR).drop (a*4+k*4)).take 4=encR L[a+k]:=by
 rw [← Nat.add_mul];exact flat_elem encR_len' L (a+k) h
set_option maxHeartbeats 4000000 in
theorem Compact_in (L : List Rct) (A : Option Nat) (cap : Nat) (hL : L.length ≤ 1000000) (R : List Blk) (w0 : World) :
    FnIn Tryz.prog 97 [sl A L.length cap] w0 (.own A 24 4 L.length cap (L.flatMap encR) :: R) fun v H => v = sl A (cmpt L).length cap ∧ H = .own A 24 4 (cmpt L).length cap ((cmpt L).flatMap encR) :: R := by
  refine fn_in Tryz.func97 rfl Tryz.ntmps97 rfl ?_
  refine w_le (A := A) .hd fun hle => ?_
  by_cases h2 : L.length < 2
  · have hc := cmpt_one (L := L) (by omega)
    repeat' (first | refine sT ?_ | refine sS ?_ | refine sN ?_ | refine sM fun _ => ?_ | (refine sC ?_ ?_ <;> intro hb <;> try omega) | fail)
    all_goals first
      | (exfalso; omega)
      | (refine ret1 eIO rfl rfl (.refl _) ?_; rw [hc]; exact ⟨rfl, rfl⟩)
      | trace_state
  · refine w_some (A := A) .hd (by omega) fun g hA => ?_
    subst hA
    repeat' (first | refine sT ?_ | refine sS ?_ | refine sN ?_ | refine sM fun _ => ?_ | (refine sC ?_ ?_ <;> intro hb <;> try omega) | fail)
    all_goals first | (exfalso; omega) | skip
    refine w_loopK [0] rfl (fun k : Nat => [(3, .int .i64 (k : Int))]) (fun _ => .own (some g) 24 4 L.length cap (L.flatMap encR) :: R) (fun k => 1 ≤ k ∧ k ≤ L.length ∧ cmpt (L.take k) = L.take k) (fun k => L.length - k) 1 ⟨Nat.le_refl _, by omega, cmpt_one (by rw [List.length_take]; omega)⟩ sB mS ?_
    rintro k ⟨hk1, hk, hck⟩
    by_cases hlt : k < L.length
    · have hr1 := refR hlt
      have hr2 := refR (L := L) (k := k - 1) (by omega)
      have hst := cmpt_step hlt hk1
      have htk : L.take (k + 1) = L.take k ++ [L[k]] := by rw [List.take_succ_eq_append_getElem hlt]
      obtain ⟨c, hc⟩ : ∃ c, decide (L[k] = L[k - 1]) = c := ⟨_, rfl⟩
      cases c with
      | false =>
        have hne : ¬ L[k] = L[k - 1] := by simpa using hc
        rw [if_neg hne, hck, ← htk] at hst
        repeat' (first | ((with_reducible apply wq_v); exact rfl; (with_reducible apply v_predN); exact rfl; exact rfl; omega; (simp only [maxLen]; omega)) | ((with_reducible apply wq_v); exact rfl; (with_reducible apply v_indexAddr (j := k)); exact rfl; exact rfl; omega) | ((with_reducible apply wq_v); exact rfl; (with_reducible apply v_indexAddr (j := k - 1)); exact rfl; exact rfl; omega) | ((with_reducible apply wq_v); exact rfl; (with_reducible apply v_loads_own); exact rfl; exact pK; (first | exact hr1 | exact hr2); exact rfl) | ((with_reducible apply wq_v); exact rfl; (with_reducible apply v_eqlR_to hc); exact rfl; exact rfl) | refine sT ?_ | refine sS ?_ | refine sQ ?_ | refine sN ?_ | refine sNQ ?_ | refine sD ?_ | refine sM fun _ => ?_ | (refine sC ?_ ?_ <;> intro hb <;> try omega) | (refine sCQ ?_ ?_ <;> intro hb <;> try omega) | fail)
        all_goals first
          | (exfalso; omega)
          | (refine ⟨k + 1, ⟨by omega, hlt, hst⟩, by omega, by exact sB, by exact sB, by exact mS⟩; done)
          | trace_state
      | true =>
        have hne : L[k] = L[k - 1] := by simpa using hc
        rw [if_pos hne, hck] at hst
        repeat' (first | ((with_reducible apply wq_v); exact rfl; (with_reducible apply v_predN); exact rfl; exact rfl; omega; (simp only [maxLen]; omega)) | ((with_reducible apply wq_v); exact rfl; (with_reducible apply v_indexAddr (j := k)); exact rfl; exact rfl; omega) | ((with_reducible apply wq_v); exact rfl; (with_reducible apply v_indexAddr (j := k - 1)); exact rfl; exact rfl; omega) | ((with_reducible apply wq_v); exact rfl; (with_reducible apply v_loads_own); exact rfl; exact pK; (first | exact hr1 | exact hr2); exact rfl) | ((with_reducible apply wq_v); exact rfl; (with_reducible apply v_eqlR_to hc); exact rfl; exact rfl) | ((with_reducible apply wl_v); exact rfl; (with_reducible apply v_sliceLo (lo := k)); exact rfl; exact rfl; omega; exact hle) | refine sT ?_ | refine sS ?_ | refine sQ ?_ | refine sN ?_ | refine sNQ ?_ | refine sD ?_ | refine sM fun _ => ?_ | (refine sC ?_ ?_ <;> intro hb <;> try omega) | (refine sCQ ?_ ?_ <;> intro hb <;> try omega) | fail)
        all_goals first | (exfalso; omega) | skip
        refine w_loopK [0, 4] rfl (fun y : Nat × Nat × List Rct => [(5, .int .i64 (y.1 : Int)), (3, .int .i64 (y.2.1 : Int))]) (fun y => .own (some g) 24 4 L.length cap (y.2.2.flatMap encR) :: R) (fun y => 1 ≤ y.1 ∧ k + y.1 ≤ L.length ∧ y.2.1 + 1 ≤ k + y.1 ∧ y.2.2.length = L.length ∧ y.2.2.take y.2.1 = cmpt (L.take (k + y.1)) ∧ ∀ j, k + y.1 ≤ j + 1 → y.2.2[j]? = L[j]?) (fun y => L.length - y.1) (1, k, L) ⟨Nat.le_refl _, by omega, Nat.le_refl _, rfl, hst.symm, fun _ _ => rfl⟩ sB mS ?_
        rintro ⟨i, k', ys⟩ ⟨hi1, hi2, hi3, hi4, hi5, hi6⟩
        dsimp only at hi1 hi2 hi3 hi4 hi5 hi6 ⊢
        by_cases hli : k + i < L.length
        · have hy1 : k + i < ys.length := by omega
          have hr3 := refR2 (L := ys) (a := k) (k := i) hy1
          have hr4 := refR2 (L := ys) (a := k) (k := i - 1) (by omega)
          have he1 : ys[k + i] = L[k + i] := by
            have := hi6 (k + i) (by omega)
            rw [List.getElem?_eq_getElem hy1, List.getElem?_eq_getElem hli] at this
            exact Option.some.inj this
          have he2 : ys[k + (i - 1)] = L[k + i - 1] := by
            have := hi6 (k + (i - 1)) (by omega)
            rw [List.getElem?_eq_getElem (by omega), List.getElem?_eq_getElem (by omega)] at this
            rw [Option.some.inj this]
            congr 1
            omega
          rw [he1] at hr3
          rw [he2] at hr4
          have hst2 := cmpt_step hli (by omega)
          obtain ⟨c, hc2⟩ : ∃ c, decide (L[k + i] = L[k + i - 1]) = c := ⟨_, rfl⟩
          cases c with
          | true =>
            rw [if_pos (by simpa using hc2)] at hst2
            repeat' (first | ((with_reducible apply wq_v); exact rfl; (with_reducible apply v_predN); exact rfl; exact rfl; omega; (simp only [maxLen]; omega)) | ((with_reducible apply wq_v); exact rfl; (with_reducible apply v_indexAddr (j := i)); exact rfl; exact rfl; omega) | ((with_reducible apply wq_v); exact rfl; (with_reducible apply v_indexAddr (j := i - 1)); exact rfl; exact rfl; omega) | ((with_reducible apply wq_v); exact rfl; (with_reducible apply v_loads_own); exact rfl; exact pK; (first | exact hr3 | exact hr4); exact rfl) | ((with_reducible apply wq_v); exact rfl; (with_reducible apply v_neqR_to hc2); exact rfl; exact rfl) | refine sT ?_ | refine sS ?_ | refine sQ ?_ | refine sN ?_ | refine sNQ ?_ | refine sD ?_ | refine sM fun _ => ?_ | (refine sC ?_ ?_ <;> intro hb <;> try omega) | (refine sCQ ?_ ?_ <;> intro hb <;> try omega) | fail)
            all_goals first
              | (exfalso; omega)
              | (refine ⟨(i + 1, k', ys), ⟨by dsimp only; omega, by dsimp only; omega, by dsimp only; omega, hi4, by dsimp only; rw [hi5, ← Nat.add_assoc, hst2], fun j hj => hi6 j (by omega)⟩, by dsimp only; omega, by exact sB, by exact sB, by exact mS⟩; done)
              | trace_state
          | false =>
            rw [if_neg (by simpa using hc2)] at hst2
            have hput := flat_set encR_len' ys k' (by omega) L[k + i]
            repeat' (first | ((with_reducible apply wq_v); exact rfl; (with_reducible apply v_predN); exact rfl; exact rfl; omega; (simp only [maxLen]; omega)) | ((with_reducible apply wq_v); exact rfl; (with_reducible apply v_indexAddr (j := i)); exact rfl; exact rfl; omega) | ((with_reducible apply wq_v); exact rfl; (with_reducible apply v_indexAddr (j := i - 1)); exact rfl; exact rfl; omega) | ((with_reducible apply wq_v); exact rfl; (with_reducible apply v_loads_own); exact rfl; exact pK; (first | exact hr3 | exact hr4); exact rfl) | ((with_reducible apply wq_v); exact rfl; (with_reducible apply v_neqR_to hc2); exact rfl; exact rfl) | ((with_reducible apply wl_v (d := 49)); exact rfl; (with_reducible apply v_indexAddr (j := i)); exact rfl; exact rfl; omega) | ((with_reducible apply wl_v (d := 51)); exact rfl; (with_reducible apply v_indexAddr (j := k')); exact rfl; exact rfl; omega) | ((with_reducible apply wl_v); exact rfl; (with_reducible apply v_loads_own); exact rfl; exact pK; exact hr3; exact rfl) | ((with_reducible apply wl_put_own (vs := encR L[k + i]) (off := 0 + k' * 4)); exact rfl; exact rfl; exact pK; exact rfl; exact rfl; (intro u hu; simp [encR] at hu; rcases hu with rfl | rfl | rfl | rfl <;> rfl); (rw [flat_length' encR_len', hi4]; omega); rw [Nat.zero_add, hput]) | refine sT ?_ | refine sS ?_ | refine sQ ?_ | refine sN ?_ | refine sNQ ?_ | refine sD ?_ | refine sM fun _ => ?_ | (refine sC ?_ ?_ <;> intro hb <;> try omega) | (refine sCQ ?_ ?_ <;> intro hb <;> try omega) | fail)
            all_goals first
              | (exfalso; omega)
              | (refine ⟨(i + 1, k' + 1, ys.set k' L[k + i]), ⟨by dsimp only; omega, by dsimp only; omega, by dsimp only; omega, by dsimp only; rw [List.length_set, hi4], ?_, fun j hj => ?_⟩, by dsimp only; omega, by exact sB, by exact sB, by exact mS⟩
                 · dsimp only
                   rw [List.take_succ_eq_append_getElem (by rw [List.length_set]; omega), List.take_set_of_le (Nat.le_refl _), hi5, List.getElem_set_self, ← Nat.add_assoc, hst2]
                 · dsimp only at hj ⊢
                   rw [List.getElem?_set_ne (by omega)]
                   exact hi6 j (by omega))
              | trace_state
        · have hli2 : k + i = L.length := by omega
          rw [hli2, List.take_length] at hi5
          have hcl : (cmpt L).length = k' := by rw [← hi5, List.length_take, hi4]; omega
          have hk'L : k' < L.length := by omega
          repeat' (first | ((with_reducible apply wl_v); exact rfl; (with_reducible apply v_sliceLo (lo := k')); exact rfl; exact rfl; omega; exact hle) | ((with_reducible apply wl_clear (sz := 4) (k := k') (n' := L.length)); exact rfl; omega; exact pK; (intro u hu; simp [Value.cells] at hu; subst hu; rfl); exact rfl) | ((with_reducible apply wl_v); exact rfl; (with_reducible apply v_sliceHi (hi := k')); exact rfl; exact rfl; omega) | refine sT ?_ | refine sS ?_ | refine sN ?_ | refine sM fun _ => ?_ | (refine sC ?_ ?_ <;> intro hb <;> try omega) | fail)
          all_goals first
            | (exfalso; omega)
            | (refine ret1 eIO rfl rfl (H' := .own (some g) 24 4 k' cap ((ys.flatMap encR).take (k' * 4)) :: R) mS ?_
               rw [flat_take encR_len', hi5, hcl]
               exact ⟨rfl, rfl⟩)
            | trace_state
    · have hkl : k = L.length := by omega
      rw [hkl, List.take_length] at hck
      repeat' (first | refine sT ?_ | refine sS ?_ | refine sN ?_ | refine sM fun _ => ?_ | (refine sC ?_ ?_ <;> intro hb <;> try omega) | fail)
      all_goals first
        | (exfalso; omega)
        | (refine ret1 eIO rfl rfl (.refl _) ?_; rw [hck]; exact ⟨rfl, rfl⟩)
        | trace_state
end Go.SL
