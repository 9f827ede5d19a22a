/-
  Lemmas and walks, put together: Hr Hs Ht.
-/
import Derived.Test.YtljeomidcjpfmaaGreatDoorKf23
set_option linter.unusedSimpArgs false
set_option linter.unusedVariables false
set_option maxRecDepth 20000
namespace Go.SL
open Go Go.Proofs
attribute [local irreducible] W WL WQ WG WA WX WLI WR WT WC WE VOp RW thn blk cutP scp retP retPP endB FnAt FnIn FnP ceP bodyB assignQ roundQ
def lwOf (L:List Rl) (N:List Gn):Lw:=⟨fun c=>(atE c L).1.1,fun r=>(ovE r L).1.1,fun u=>if u.node<0 then 0#64 else (forE u.fn u.rect L N).1⟩
def stE (ok:Bool) (L:List Rl) (N:List Gn):Int:=if ok=false then 3 else if (aclE 64 L).2≠0 then (aclE 64 L).2 else (gntE 64 N).2
theorem flowFs_one (L:List Rf): ∀ u∈L.flatMap encF,u.oneCell' =true:=fun u hu=>by
 obtain ⟨c,_,hc⟩:=List.mem_flatMap.1 hu
 simp only [encF,List.mem_cons,List.not_mem_nil,or_false] at hc
 rcases hc with rfl|rfl<;>rfl
theorem put_step {f:Rf→Value} {K:List Rf} (hn:K.Nodup) {i:Nat} (h:i<K.length):kput K[i] (f K[i]) (K.take i).length (mapM f (K.take i))=(mapM f (K.take (i+1)),(K.take (i+1)).length):=by
 have h1:K.take (i+1)=K.take i++ [K[i]]:=List.take_succ_eq_append_getElem h
 have h2:K[i]∉K.take i:=fun hm=>by
  have h3:=hn.sublist (List.take_sublist (i+1) K)
  rw [h1,List.nodup_append] at h3
  exact h3.2.2 _ hm _ List.mem_cons_self rfl
 rw [put_new h2,updV_self rfl,h1,List.length_append]
 rfl
set_option maxHeartbeats 16000000 in
theorem start_in (gg:Nat) (G:Gr) (B F:List Blk) (w0:World) (R:Rdr gg G B w0) (hB:MSub B F) (ok:Bool) (L:List Rl) (N:List Gn) (Al An:Option Addr) (cl cn:Nat) (hl: ∀ w',Mem w0 w' F→Reads w' (.slice Al L.length cl) L.length (L.flatMap encRl)) (hn: ∀ w',Mem w0 w' F→Reads w' (.slice An N.length cn) N.length (N.flatMap encGn)) (hN:N.length≤1000000):
  FnIn Tryz.prog 114 [.pointer (some ⟨gg,0,none⟩),.bool ok,.slice Al L.length cl,.slice An N.length cn] w0 F fun v H' =>(stE ok L N≠0∧v= .tuple #[.pointer none,.int .i64 (stE ok L N)]∧H' =F)∨(stE ok L N=0∧ ∃ gb gl gr ga Ac cap,∃ lab:Rf→BitVec 64,∃ SR SA,v= .tuple #[.pointer (some ⟨gb,0,none⟩),.int .i64 0]∧H' = .box gb 195 [.pointer (some ⟨gg,0,none⟩),.slice Al L.length cl,.slice An N.length cn,sl Ac (keysG G).length cap,.map (some gl),.map (some gr),.map (some ga)]:: .own Ac 51 2 (keysG G).length cap ((keysG G).flatMap encF):: .obj gl (mobj keyF (mapM (fun c=>vS (lab c)) (keysG G)) (keysG G).length):: .obj gr (mobj keyR (mapM (fun r=>vS (ovE r L).1.1) SR) (SR).length):: .obj ga (mobj keyA (mapM (fun a=>vS (forE a.fn a.rect L N).1) SA) (SA).length)::F∧ ∀ c∈keysG G,∀ i,(lab c).getLsbD i=true↔seesP G (lwOf L N) i c):=by
 refine fn_in Tryz.func114 rfl Tryz.ntmps114 rfl ?_
 have h1:=fun (w' :World) (H:List Blk) (hs:MSub F H) (hm:Mem w0 w' H)=>aclCheck_at 64 L _ w' (hl w' (hs.use hm))
 have h2:=fun (w' :World) (H:List Blk) (hs:MSub F H) (hm:Mem w0 w' H)=>gntCheck_at 64 N _ w' (hn w' (hs.use hm))
 have hFm:=R.fm
 have hUs:=R.us
 have hUr:=R.ur
 have hG:=R.g
 have hKn:(keysG G).Nodup:=hG.sort.nodup
 have hKl:(keysG G).length≤900:=by have:=R.l;rw [keysG,List.length_map];exact this
 have hst:=FlI.start hG (lwOf L N)
 obtain ⟨K,hKe⟩: ∃ K,keysG G=K:=⟨_,rfl⟩
 rw [hKe] at hFm hKn hKl hst
 unfold stE
 generalize (aclE 64 L).1=n1 at h1
 generalize (aclE 64 L).2=e1 at h1
 generalize (gntE 64 N).1=n2 at h2
 generalize (gntE 64 N).2=e2 at h2
 have hKf:(K.flatMap encF).length=K.length*2:=flat_length' encF_len K
 cases ok
 ·
  repeat' (first|refine sT ?_|refine sS ?_|refine sM fun _=> ?_|(refine sC ?_ ?_<;>intro hb<;>try omega)|fail)
  all_goals first
   |(exact ret2 eIO rfl rfl rfl (H' :=F) mS (.inl ⟨by simp,by simp,rfl⟩))
   |trace_state
 repeat' (first|((with_reducible apply wl_callp (f:=73));exact rfl;exact rfl;(intro w' hm;exact h1 w' _ mS hm))|((with_reducible apply wl_callp (f:=74));exact rfl;exact rfl;(intro w' hm;exact h2 w' _ mS hm))|((with_reducible apply wl_callin (f:=165));exact rfl;exact rfl;exact hFm _ (MSub.trans hB mS);rintro _ _ ⟨Ac,cap,rfl,rfl⟩)|((with_reducible apply wl_makeMap (d:=52) (enc:=keyF));exact rfl;intro gl)|((with_reducible apply wl_makeMap (d:=53) (enc:=keyR));exact rfl;intro gr)|((with_reducible apply wl_makeMap (d:=54) (enc:=keyA));exact rfl;intro ga)|refine sT ?_|refine sS ?_|refine sM fun _=> ?_|(refine sC ?_ ?_<;>intro hb<;>try omega)|fail)
 all_goals first
  |(exfalso;omega)
  |(exact ret2 eIO rfl rfl rfl (H' :=F) mS (.inl ⟨by rw [if_neg (by decide),if_pos hb];exact hb,by rw [if_neg (by decide),if_pos hb],rfl⟩))
  |(exact ret2 eIO rfl rfl rfl (H' :=F) mS (.inl ⟨by rw [if_neg (by decide),if_neg (by omega)];exact hb,by rw [if_neg (by decide),if_neg (by omega)],rfl⟩))
  |skip
 rename_i gb
 refine w_loopK [0,14,60,61] rfl (fun i:Nat=> [(62,.int .i64 (i:Int))]) (fun i=> .box gb 195 [.pointer (some ⟨gg,0,none⟩),.slice Al L.length cl,.slice An N.length cn,sl Ac K.length cap,.map (some gl),.map (some gr),.map (some ga)]:: .own Ac 51 2 K.length cap (K.flatMap encF):: .obj gl (mobj keyF (mapM (fun c=>vS (atE c L).1.1) (K.take i)) ((K.take i)).length):: .obj gr (mobj keyR (mapM (fun r=>vS (ovE r L).1.1) ([]:List Rct)) (([]:List Rct)).length):: .obj ga (mobj keyA (mapM (fun a=>vS (forE a.fn a.rect L N).1) ([]:List Ak)) (([]:List Ak)).length)::F) (fun i=>i≤K.length) (fun i=>K.length - i) 0 (Nat.zero_le _) sB mS ?_
 rintro i hi
 by_cases hlt:i<K.length
 ·
  refine w_some (A:=Ac) pK (by omega) fun gk hA=> ?_
  subst hA
  have hread:=refF hlt
  have hput:=put_step (f:=fun c=>vS (atE c L).1.1) hKn hlt
  try dsimp only at hput
  generalize K[i]=c at hread hput
  repeat' (first|((with_reducible apply wl_v);exact rfl;(with_reducible apply v_indexAddr (j:=i));exact rfl;exact rfl;exact hlt)|((with_reducible apply wl_v);exact rfl;(with_reducible apply v_loads_own);exact rfl;exact pK;exact hread;exact rfl)|refine sT ?_|refine sS ?_|refine sN ?_|refine sM fun _=> ?_|(refine sC ?_ ?_<;>intro hb<;>try omega)|fail)
  all_goals first|(exfalso;omega)|skip
  rename_i g16
  refine w_drawC (id:=15) [7,8] [] [.box g16 51 (encF c),.box gb 195 [.pointer (some ⟨gg,0,none⟩),.slice Al L.length cl,.slice An N.length cn,sl (some gk) K.length cap,.map (some gl),.map (some gr),.map (some ga)]] (by kernel_rfl) (by kernel_rfl) (by kernel_rfl) mS ?_
  repeat' (first|((with_reducible apply wl_callin (f:=115));exact rfl;exact rfl;(refine FnIn.msub (readers_in c L gb _ _ _ _ _ _ _ w0 _ ?_) (MSub.pick pK (MSub.refl _));exact (fun w' hm=>hl w' (MSub.use mS hm)));rintro _ _ ⟨rfl,rfl⟩)|((with_reducible apply wl_mapPut (enc:=keyF) (k:=c));(iterate 3 exact rfl);exact pK;rw [hput])|refine sT ?_|refine sS ?_|refine sW ?_|refine sN ?_|refine sWN ?_|refine sM fun _=> ?_|(refine sC ?_ ?_<;>intro hb<;>try omega)|(refine sCW ?_ ?_<;>intro hb<;>try omega)|fail)
  all_goals first
   |(exfalso;omega)
   |(refine ⟨i+1,hlt,by omega,by exact sB,by exact sB,by exact mS⟩;done)
   |trace_state
 have hi2:i=K.length:=by omega
 subst hi2
 rw [List.take_length]
 repeat' (first|((with_reducible apply wl_buildSlice0);exact rfl;intro ge)|((with_reducible apply wl_appendR (n' :=0) (c:=0) (A:=some _) (m:=K.length));(iterate 3 exact rfl);exact pK;(intro w hm;exact Reads.of_own hm pK);exact hKf;exact flowFs_one K;omega;(simp only [maxLen];omega);intro At ct hA)|((with_reducible apply wl_makeMap (d:=81) (enc:=keyF));exact rfl;intro gw)|refine sT ?_|refine sS ?_|refine sN ?_|refine sM fun _=> ?_|(refine sC ?_ ?_<;>intro hb<;>try omega)|fail)
 all_goals first|(exfalso;omega)|skip
 simp only [Nat.zero_add,List.nil_append]
 refine w_loopK [0,14,17,18,82,83] rfl (fun i:Nat=> [(84,.int .i64 (i:Int))]) (fun i=> .obj gw (mobj keyF (mapM (fun _=> .bool true) (K.take i)) ((K.take i)).length):: .own At 51 2 K.length ct (K.flatMap encF):: .box gb 195 [.pointer (some ⟨gg,0,none⟩),.slice Al L.length cl,.slice An N.length cn,sl Ac K.length cap,.map (some gl),.map (some gr),.map (some ga)]:: .own Ac 51 2 K.length cap (K.flatMap encF):: .obj gl (mobj keyF (mapM (fun c=>vS ((lwOf L N).rd c)) K) K.length):: .obj gr (mobj keyR (mapM (fun r=>vS (ovE r L).1.1) ([]:List Rct)) (([]:List Rct)).length):: .obj ga (mobj keyA (mapM (fun a=>vS (forE a.fn a.rect L N).1) ([]:List Ak)) (([]:List Ak)).length)::F) (fun i=>i≤K.length) (fun i=>K.length - i) 0 (Nat.zero_le _) sB mS ?_
 rintro i hi
 by_cases hlt:i<K.length
 ·
  refine w_some (A:=At) pK (by omega) fun gk hA=> ?_
  subst hA
  have hread:=refF hlt
  have hput:=put_step (f:=fun _=>Value.bool true) hKn hlt
  try dsimp only at hput
  generalize K[i]=c at hread hput
  repeat' (first|((with_reducible apply wl_v);exact rfl;(with_reducible apply v_indexAddr (j:=i));exact rfl;exact rfl;exact hlt)|((with_reducible apply wl_v);exact rfl;(with_reducible apply v_loads_own);exact rfl;exact pK;exact hread;exact rfl)|((with_reducible apply wl_mapPut (enc:=keyF) (k:=c));(iterate 3 exact rfl);exact pK;rw [hput])|refine sT ?_|refine sS ?_|refine sN ?_|refine sM fun _=> ?_|(refine sC ?_ ?_<;>intro hb<;>try omega)|fail)
  all_goals first
   |(exfalso;omega)
   |(refine ⟨i+1,hlt,by omega,by exact sB,by exact sB,by exact mS⟩;done)
   |trace_state
 have hi2:i=K.length:=by omega
 subst hi2
 rw [List.take_length]
 repeat' (first|refine sT ?_|refine sS ?_|refine sN ?_|refine sM fun _=> ?_|(refine sC ?_ ?_<;>intro hb<;>try omega)|fail)
 all_goals first|(exfalso;omega)|skip
 have hpost:=fun lab (h:FlI G (lwOf L N) lab [])=>fun c (hc:c∈K) i=>h.done (hKe ▸ hc) i
 by_cases hK0:K.length=0
 ·
  have hKn0:K= []:=List.length_eq_zero_iff.1 hK0
  have hst0:FlI G (lwOf L N) (lwOf L N).rd []:=hKn0 ▸ hst
  refine w_loopK [14,17] rfl (fun _:Unit=> []) (fun _=> .box gb 195 [.pointer (some ⟨gg,0,none⟩),.slice Al L.length cl,.slice An N.length cn,sl Ac K.length cap,.map (some gl),.map (some gr),.map (some ga)]:: .own Ac 51 2 K.length cap (K.flatMap encF):: .obj gl (mobj keyF (mapM (fun c=>vS ((lwOf L N).rd c)) K) K.length):: .obj gr (mobj keyR (mapM (fun r=>vS (ovE r L).1.1) ([]:List Rct)) (([]:List Rct)).length):: .obj ga (mobj keyA (mapM (fun a=>vS (forE a.fn a.rect L N).1) ([]:List Ak)) (([]:List Ak)).length)::F) (fun _=>True) (fun _=>0) () trivial sB mS ?_
  rintro _ _
  repeat' (first|refine sT ?_|refine sS ?_|refine sN ?_|refine sM fun _=> ?_|(refine sC ?_ ?_<;>intro hb<;>try omega)|fail)
  all_goals first
   |(exfalso;omega)
   |(subst hKe;exact ret2 eIO rfl rfl rfl (H' := .box gb 195 [.pointer (some ⟨gg,0,none⟩),.slice Al L.length cl,.slice An N.length cn,sl Ac (keysG G).length cap,.map (some gl),.map (some gr),.map (some ga)]:: .own Ac 51 2 (keysG G).length cap ((keysG G).flatMap encF):: .obj gl (mobj keyF (mapM (fun c=>vS ((lwOf L N).rd c)) (keysG G)) (keysG G).length):: .obj gr (mobj keyR (mapM (fun r=>vS (ovE r L).1.1) ([]:List Rct)) (([]:List Rct)).length):: .obj ga (mobj keyA (mapM (fun a=>vS (forE a.fn a.rect L N).1) ([]:List Ak)) (([]:List Ak)).length)::F) mS (.inr ⟨by rw [if_neg (by decide),if_neg (by omega)];omega,gb,gl,gr,ga,Ac,cap,(lwOf L N).rd,[],[],rfl,rfl,hpost _ hst0⟩))
   |trace_state
 refine w_some (A:=At) pK (by omega) fun gt hA=> ?_
 subst hA
 subst hKe
 have hKm:(keysG G).length≤1000000:=by omega
 have hUlen:=usesG_len2 hG
 have hUrl: ∀ r,(usersG G r).length≤900:=fun r=>Nat.le_trans users_len R.l
 refine w_loopK [0,14,18] rfl (fun y:(Rf→BitVec 64) × Qu × List Rf × (Rf→Bool) × List Rct × List Ak=> [(17,y.2.1.v)]) (fun y=> .obj gw (mobj keyF (mapM (fun c=> .bool (y.2.2.2.1 c)) (keysG G)) (keysG G).length):: .own (some y.2.1.g) 51 2 y.2.1.n y.2.1.c y.2.1.ys:: .box gb 195 [.pointer (some ⟨gg,0,none⟩),.slice Al L.length cl,.slice An N.length cn,sl Ac (keysG G).length cap,.map (some gl),.map (some gr),.map (some ga)]:: .own Ac 51 2 (keysG G).length cap ((keysG G).flatMap encF):: .obj gl (mobj keyF (mapM (fun c=>vS (y.1 c)) (keysG G)) (keysG G).length):: .obj gr (mobj keyR (mapM (fun r=>vS (ovE r L).1.1) y.2.2.2.2.1) (y.2.2.2.2.1).length):: .obj ga (mobj keyA (mapM (fun a=>vS (forE a.fn a.rect L N).1) y.2.2.2.2.2) (y.2.2.2.2.2).length)::F) (fun y=>FlI G (lwOf L N) y.1 y.2.2.1∧y.2.1.ok encF 2 y.2.2.1∧(∀ c∈keysG G,y.2.2.2.1 c=true↔c∈y.2.2.1)∧y.2.1.n+900*sumP y.1 (keysG G)≤52000000) (fun y=>1000*sumP y.1 (keysG G)+y.2.2.1.length) ((lwOf L N).rd,⟨gt,0,0,(keysG G).length,ct,(keysG G).flatMap encF⟩,keysG G,fun _=>true,[],[]) ⟨hst,⟨Nat.zero_le _,fun _=>by rw [Nat.zero_mul],rfl,rfl⟩,fun c hc=>⟨fun _=>hc,fun _=>rfl⟩,by have:=sumP_max (lab:=(lwOf L N).rd) (keysG G);dsimp only;omega⟩ sB mS ?_
 clear hst
 rintro ⟨lab,q,todo,wt,SR,SA⟩ ⟨hI,hq,hwt,hqn⟩
 dsimp only at hI hq hwt hqn ⊢
 have hql:=hq.len
 cases todo with
 |nil=>
  rw [List.length_nil] at hql
  repeat' (first|refine sT ?_|refine sS ?_|refine sN ?_|refine sM fun _=> ?_|(refine sC ?_ ?_<;>intro hb<;>try omega)|fail)
  all_goals first
   |(exfalso;omega)
   |(exact ret2 eIO rfl rfl rfl (H' := .box gb 195 [.pointer (some ⟨gg,0,none⟩),.slice Al L.length cl,.slice An N.length cn,sl Ac (keysG G).length cap,.map (some gl),.map (some gr),.map (some ga)]:: .own Ac 51 2 (keysG G).length cap ((keysG G).flatMap encF):: .obj gl (mobj keyF (mapM (fun c=>vS (lab c)) (keysG G)) (keysG G).length):: .obj gr (mobj keyR (mapM (fun r=>vS (ovE r L).1.1) SR) (SR).length):: .obj ga (mobj keyA (mapM (fun a=>vS (forE a.fn a.rect L N).1) SA) (SA).length)::F) mS (.inr ⟨by rw [if_neg (by decide),if_neg (by omega)];omega,gb,gl,gr,ga,Ac,cap,lab,SR,SA,rfl,rfl,hpost _ hI⟩))
   |trace_state
 |cons x todo=>
  rw [List.length_cons] at hql
  refine w_le (A:=some q.g) pK fun hle=> ?_
  have hhd:=hq.head rfl hle
  have hp:=hq.pop rfl hle
  have hxK:x∈keysG G:=hI.sub x List.mem_cons_self
  have hxn:x∉todo:=(List.nodup_cons.1 hI.nd).1
  have hUs1:=hUs x
  have hUl:=hUlen x
  have hput:kput x (.bool false) (keysG G).length (mapM (fun c=> .bool (wt c)) (keysG G))=(mapM (updV (fun c=> .bool (wt c)) x (.bool false)) (keysG G),(keysG G).length):=put_old hKn hxK
  obtain ⟨wt2,hwe⟩: ∃ f:Rf→Bool,∀ c,f c=if c=x then false else wt c:=⟨_,fun _=>rfl⟩
  have hwt1:updV (fun c=>Value.bool (wt c)) x (.bool false)=fun c=> .bool (wt2 c):=by funext c;unfold updV;rw [hwe];split<;>rfl
  rw [hwt1] at hput
  have hlk:=look_map (fun c=>vS (lab c)) (keysG G) x (vS 0#64)
  rw [if_pos hxK] at hlk
  have hwt3: ∀ c∈keysG G,wt2 c=true↔c∈todo:=fun c hc=>by
   rw [hwe]
   split
   ·
    rename_i e;subst e;simp [hxn]
   ·
    rename_i e;rw [hwt c hc];simp [e]
  obtain ⟨U,hU⟩: ∃ U,usesG G x=U:=⟨_,rfl⟩
  rw [hU] at hUs1 hUl
  repeat' (first|((with_reducible apply wl_v);exact rfl;(with_reducible apply v_indexAddr (j:=0));exact rfl;exact rfl;omega)|((with_reducible apply wl_v);exact rfl;(with_reducible apply v_loads_own);exact rfl;exact pK;exact hhd;exact rfl)|((with_reducible apply wl_v);exact rfl;(with_reducible apply v_pop q);exact rfl;omega;exact hle)|((with_reducible apply wl_mapPut (enc:=keyF) (k:=x));(iterate 3 exact rfl);exact pK;rw [hput])|((with_reducible apply wq_v (d:=106));exact rfl;(with_reducible apply v_lookup (enc:=keyF) (k:=x));exact rfl;exact rfl;exact pK;exact hlk)|((with_reducible apply wl_callin (f:=117));exact rfl;exact rfl;exact hUs1 _ (MSub.trans hB mS);rintro _ _ ⟨Au,cu,rfl,rfl⟩)|refine sT ?_|refine sS ?_|refine sQ ?_|refine sN ?_|refine sNQ ?_|refine sD ?_|refine sM fun _=> ?_|(refine sC ?_ ?_<;>intro hb<;>try omega)|(refine sCQ ?_ ?_<;>intro hb<;>try omega)|fail)
  all_goals first|(exfalso;omega)|skip
  rename_i g21
  refine w_loopK [0,14,17,18,21,109,110] rfl (fun y:Nat × List Rct × List Ak=> [(22,vS (stepL G (lwOf L N) lab (U.take y.1) (lab x))),(111,.int .i64 (y.1:Int))]) (fun y=> .own Au 200 6 U.length cu (U.flatMap encU):: .box g21 51 (encF x):: .obj gw (mobj keyF (mapM (fun c=> .bool (wt2 c)) (keysG G)) (keysG G).length):: .own (some q.g) 51 2 q.n q.c q.ys:: .box gb 195 [.pointer (some ⟨gg,0,none⟩),.slice Al L.length cl,.slice An N.length cn,sl Ac (keysG G).length cap,.map (some gl),.map (some gr),.map (some ga)]:: .own Ac 51 2 (keysG G).length cap ((keysG G).flatMap encF):: .obj gl (mobj keyF (mapM (fun c=>vS (lab c)) (keysG G)) (keysG G).length):: .obj gr (mobj keyR (mapM (fun r=>vS (ovE r L).1.1) y.2.1) (y.2.1).length):: .obj ga (mobj keyA (mapM (fun a=>vS (forE a.fn a.rect L N).1) y.2.2) (y.2.2).length)::F) (fun y=>y.1≤U.length) (fun y=>U.length - y.1) (0,SR,SA) (Nat.zero_le _) sB mS ?_
  rintro ⟨i,SR2,SA2⟩ hi
  dsimp only at hi ⊢
  by_cases hlt:i<U.length
  ·
   refine w_some (A:=Au) .hd (by omega) fun gk hA=> ?_
   subst hA
   have hread:=refUs hlt
   have hsn:stepL G (lwOf L N) lab (U.take (i+1)) (lab x)=stepL G (lwOf L N) lab (U.take i) (lab x) &&& (ovL G (lwOf L N) lab U[i].rect|||(lwOf L N).to U[i]):=by rw [List.take_succ_eq_append_getElem hlt,stepL_snoc]
   generalize U[i]=u at hread hsn
   repeat' (first|((with_reducible apply wl_v);exact rfl;(with_reducible apply v_indexAddr (j:=i));exact rfl;exact rfl;exact hlt)|((with_reducible apply wl_v);exact rfl;(with_reducible apply v_loads_own);exact rfl;exact pK;exact hread;exact rfl)|refine sT ?_|refine sS ?_|refine sN ?_|refine sM fun _=> ?_|(refine sC ?_ ?_<;>intro hb<;>try omega)|fail)
   all_goals first|(exfalso;omega)|skip
   rename_i g24
   refine w_drawE (id:=32) [4,7] [.box g24 200 (encU u)] 11 rfl rfl mS ?_
   repeat' (first|((with_reducible apply we_v (i:=0));(iterate 4 exact rfl);decide+kernel;decide+kernel;decide+kernel;(exact vC))|((with_reducible apply we_v (i:=1));(iterate 4 exact rfl);decide+kernel;decide+kernel;decide+kernel;(exact vC))|((with_reducible apply we_v (i:=2));(iterate 4 exact rfl);decide+kernel;decide+kernel;decide+kernel;(exact vC))|((with_reducible apply we_v (i:=3));(iterate 4 exact rfl);decide+kernel;decide+kernel;decide+kernel;(exact vC))|((with_reducible apply we_v (i:=5));(iterate 4 exact rfl);decide+kernel;decide+kernel;decide+kernel;(exact vC))|((with_reducible apply we_v (i:=6));(iterate 4 exact rfl);decide+kernel;decide+kernel;decide+kernel;(exact vC))|((with_reducible apply we_v (i:=8));(iterate 4 exact rfl);decide+kernel;decide+kernel;decide+kernel;((with_reducible apply v_or64);exact rfl;exact rfl))|((with_reducible apply we_v (i:=9));(iterate 4 exact rfl);decide+kernel;decide+kernel;decide+kernel;((with_reducible apply v_and64);exact rfl;exact rfl))|((with_reducible apply we_v (i:=10));(iterate 4 exact rfl);decide+kernel;decide+kernel;decide+kernel;((with_reducible apply v_assign);exact rfl))|((with_reducible apply we_two (i:=4) (j:=7));(iterate 6 exact rfl);decide+kernel)|((with_reducible apply we_one (i:=4));(iterate 3 exact rfl);decide+kernel)|((with_reducible apply we_one (i:=7));(iterate 3 exact rfl);decide+kernel)|((with_reducible apply we_done);decide+kernel)|((with_reducible apply ce_n);(focus (exact mS;done)))|((with_reducible apply wl_callin (f:=116));exact rfl;exact rfl;(refine FnIn.msub (fover_in u.rect gb gl gr ga _ _ _ Ac cap (keysG G) L hKm lab _ w0 _ ?_) (MSub.pick pK (MSub.pick pK (MSub.pick pK (MSub.pick pK (MSub.refl _)))));exact (fun w' hm=>hl w' (MSub.use mS hm)));rintro _ _ ⟨rfl,rfl⟩)|((with_reducible apply wl_callin (f:=118));exact rfl;exact rfl;(refine FnIn.msub (fto_in u gb gl gr ga _ _ _ Ac cap (keysG G) L N hN _ w0 _ ?_ ?_) (MSub.pick pK (MSub.pick pK (MSub.refl _)));exact (fun w' hm=>hl w' (MSub.use mS hm));exact (fun w' hm=>hn w' (MSub.use mS hm)));rintro _ _ ⟨SA3,_,rfl,rfl⟩)|refine sT ?_|refine sS ?_|refine sN ?_|refine sM fun _=> ?_|(refine sC ?_ ?_<;>intro hb<;>try omega)|fail)
   all_goals first
    |(exfalso;omega)
    |(refine ⟨(i+1,_,SA3),hlt,by dsimp only;omega,by dsimp only;rw [hsn];exact sB,by exact sB,by exact mS⟩;done)
    |trace_state
  have hi2:i=U.length:=by omega
  subst hi2
  rw [List.take_length]
  obtain ⟨s,hs⟩: ∃ s,stepL G (lwOf L N) lab U (lab x)=s:=⟨_,rfl⟩
  rw [hs]
  have hfx:stepL G (lwOf L N) lab (usesG G x) (lab x)=s:=by rw [hU];exact hs
  have hput2:kput x (vS s) (keysG G).length (mapM (fun c=>vS (lab c)) (keysG G))=(mapM (updV (fun c=>vS (lab c)) x (vS s)) (keysG G),(keysG G).length):=put_old hKn hxK
  have hup2:updV (fun c=>vS (lab c)) x (vS s)=fun c=>vS (updL lab x s c):=by funext c;unfold updV updL;split<;>rfl
  rw [hup2] at hput2
  have hOne:=One_at x
  have hUr1:=hUr (oneA x.col x.row)
  have hUrl1:=hUrl (oneA x.col x.row)
  have hturn:=fun (todo' :List Rf) h1 h2 h3 h4=>FlI.turn (todo' :=todo') hG hI h1 h2 h3 h4
  rw [hfx] at hturn
  have hUk: ∀ c∈usersG G (oneA x.col x.row),c∈keysG G:=fun c hc=>((users_iff hG (key_valid hG hxK)).1 hc).1
  generalize usersG G (oneA x.col x.row)=V at hUr1 hUrl1 hturn hUk
  repeat' (first|((with_reducible apply wq_v (d:=132));exact rfl;(with_reducible apply v_lookup (enc:=keyF) (k:=x));exact rfl;exact rfl;exact pK;exact hlk)|((with_reducible apply wq_v (d:=133));exact rfl;(with_reducible apply v_eql64);exact rfl;exact rfl)|(refine w_drawC (id:=35) [6] [] [.box g21 51 (encF x),.box gb 195 [.pointer (some ⟨gg,0,none⟩),.slice Al L.length cl,.slice An N.length cn,sl Ac (keysG G).length cap,.map (some gl),.map (some gr),.map (some ga)]] (by kernel_rfl) (by kernel_rfl) (by kernel_rfl) mS ?_)|((with_reducible apply wl_mapPut (enc:=keyF) (k:=x));(iterate 3 exact rfl);exact pK;rw [hput2])|((with_reducible apply wl_callp);exact rfl;exact rfl;(intro w hm;exact hOne w))|((with_reducible apply wl_callin (f:=185));exact rfl;exact rfl;exact hUr1 _ (MSub.trans hB mS);rintro _ _ ⟨Av,cv,rfl,rfl⟩)|refine sT ?_|refine sS ?_|refine sQ ?_|refine sW ?_|refine sN ?_|refine sNQ ?_|refine sWN ?_|refine sD ?_|refine sM fun _=> ?_|(refine sC ?_ ?_<;>intro hb<;>try omega)|(refine sCQ ?_ ?_<;>intro hb<;>try omega)|(refine sCW ?_ ?_<;>intro hb<;>try omega)|fail)
  all_goals first
   |(exfalso;omega)
   |(refine ⟨(lab,q.pop 2,todo,wt2,SR2,SA2),⟨hI.skip (hfx.trans hb),hp,hwt3,hqn⟩,by dsimp only;rw [List.length_cons];omega,by exact sB,by exact sB,by exact mS⟩;done)
   |skip
  have hsum:=sumP_lt (pc_lt (fun i hi=>by rw [← hs] at hi;exact stepL_bits i hi) hb) hxK
  refine w_loopK [0,14,18,143,144] rfl (fun y:Nat × Qu × List Rf × (Rf→Bool)=> [(17,y.2.1.v),(145,.int .i64 (y.1:Int))]) (fun y=> .own Av 51 2 V.length cv (V.flatMap encF):: .obj gw (mobj keyF (mapM (fun c=> .bool (y.2.2.2 c)) (keysG G)) (keysG G).length):: .own (some y.2.1.g) 51 2 y.2.1.n y.2.1.c y.2.1.ys:: .box gb 195 [.pointer (some ⟨gg,0,none⟩),.slice Al L.length cl,.slice An N.length cn,sl Ac (keysG G).length cap,.map (some gl),.map (some gr),.map (some ga)]:: .own Ac 51 2 (keysG G).length cap ((keysG G).flatMap encF):: .obj gl (mobj keyF (mapM (fun c=>vS (updL lab x s c)) (keysG G)) (keysG G).length):: .obj gr (mobj keyR (mapM (fun r=>vS (ovE r L).1.1) SR2) (SR2).length):: .obj ga (mobj keyA (mapM (fun a=>vS (forE a.fn a.rect L N).1) SA2) (SA2).length)::F) (fun y=>y.1≤V.length∧y.2.2.1.Nodup∧(∀ c∈y.2.2.1,c∈keysG G)∧(∀ c∈todo,c∈y.2.2.1)∧(∀ j (h:j<V.length),j<y.1→V[j]∈y.2.2.1)∧y.2.1.ok encF 2 y.2.2.1∧(∀ c∈keysG G,y.2.2.2 c=true↔c∈y.2.2.1)∧y.2.1.n≤q.n+y.1) (fun y=>V.length - y.1) (0,q.pop 2,todo,wt2) ⟨Nat.zero_le _,(List.nodup_cons.1 hI.nd).2,fun c hc=>hI.sub c (List.mem_cons_of_mem _ hc),fun _ h=>h,fun j _ h=>absurd h (Nat.not_lt_zero _),hp,hwt3,Nat.le_refl _⟩ sB mS ?_
  rintro ⟨k,q3,todo3,wt4⟩ ⟨hk,hnd,hsb,hold,hin,hq3,hw4,hqn3⟩
  dsimp only at hk hnd hsb hold hin hq3 hw4 hqn3 ⊢
  have hq3l:=hq3.len
  have htl:todo3.length≤900:=Nat.le_trans (keys_len hG hnd hsb) R.l
  by_cases hkl:k<V.length
  ·
   refine w_some (A:=Av) .hd (by omega) fun gk hA=> ?_
   subst hA
   have hread:=refF hkl
   have hck:=hUk _ (List.getElem_mem hkl)
   have hstep: ∀ T:List Rf,(∀ d∈todo3,d∈T)→V[k]∈T→ ∀ j (h:j<V.length),j<k+1→V[j]∈T:=fun T h1 h2 j h3 h4=>by
    by_cases e:j=k
    ·
     subst e;exact h2
    ·
     exact h1 _ (hin j h3 (by omega))
   generalize V[k]=c at hread hck hstep
   have hlk3:=look_map (fun c=>Value.bool (wt4 c)) (keysG G) c (.bool false)
   rw [if_pos hck] at hlk3
   cases hwc:wt4 c with
   |true=>
    rw [hwc] at hlk3
    have hct:=(hw4 c hck).1 hwc
    repeat' (first|((with_reducible apply wl_v);exact rfl;(with_reducible apply v_indexAddr (j:=k));exact rfl;exact rfl;exact hkl)|((with_reducible apply wl_v);exact rfl;(with_reducible apply v_loads_own);exact rfl;exact pK;exact hread;exact rfl)|((with_reducible apply wl_v);exact rfl;(with_reducible apply v_lookup (enc:=keyF) (k:=c));exact rfl;exact rfl;exact pK;exact hlk3)|refine sT ?_|refine sS ?_|refine sN ?_|refine sM fun _=> ?_|(refine sC ?_ ?_<;>intro hb<;>try omega)|fail)
    all_goals first
     |(exfalso;omega)
     |(refine ⟨(k+1,q3,todo3,wt4),⟨hkl,hnd,hsb,hold,hstep _ (fun _ h=>h) hct,hq3,hw4,by dsimp only;omega⟩,by dsimp only;omega,by exact sB,by exact sB,by exact mS⟩;done)
     |trace_state
   |false=>
    rw [hwc] at hlk3
    have hcn:c∉todo3:=fun h=>by rw [(hw4 c hck).2 h] at hwc;cases hwc
    obtain ⟨wt5,hw5⟩: ∃ f:Rf→Bool,∀ d,f d=if d=c then true else wt4 d:=⟨_,fun _=>rfl⟩
    have hput3:kput c (.bool true) (keysG G).length (mapM (fun c=> .bool (wt4 c)) (keysG G))=(mapM (updV (fun c=> .bool (wt4 c)) c (.bool true)) (keysG G),(keysG G).length):=put_old hKn hck
    have hup3:updV (fun c=>Value.bool (wt4 c)) c (.bool true)=fun c=> .bool (wt5 c):=by funext d;unfold updV;rw [hw5];split<;>rfl
    rw [hup3] at hput3
    have hw6: ∀ d∈keysG G,wt5 d=true↔d∈todo3++ [c]:=fun d hd=>by
     rw [hw5,List.mem_append,List.mem_singleton]
     split
     ·
      rename_i e;simp [e]
     ·
      rename_i e;rw [hw4 d hd];simp [e]
    obtain ⟨qg,qoff,qk,qn,qc,qys⟩:=q3
    obtain ⟨hq1,hq2,hq3,hq4⟩:=hq3
    dsimp only at hq1 hq2 hq3 hq4 hqn3 ⊢
    simp only [Qu.v]
    repeat' (first|((with_reducible apply wl_v);exact rfl;(with_reducible apply v_indexAddr (j:=k));exact rfl;exact rfl;exact hkl)|((with_reducible apply wl_v);exact rfl;(with_reducible apply v_loads_own);exact rfl;exact pK;exact hread;exact rfl)|((with_reducible apply wl_v);exact rfl;(with_reducible apply v_lookup (enc:=keyF) (k:=c));exact rfl;exact rfl;exact pK;exact hlk3)|((with_reducible apply wl_mapPut (enc:=keyF) (k:=c));(iterate 3 exact rfl);exact pK;rw [hput3])|((with_reducible apply wl_appendQ);exact rfl;exact rfl;exact hq1;exact hq2;exact rfl;exact pK;exact pK;exact rfl;(simp [Value.oneCell',encF]);omega;(simp only [maxLen];omega);intro g' off' k' n2 c2 ys hk2 hoff2 hlen2 hn2 hys2)|refine sT ?_|refine sS ?_|refine sN ?_|refine sM fun _=> ?_|(refine sC ?_ ?_<;>intro hb<;>try omega)|fail)
    all_goals first
     |(exfalso;omega)
     |(refine ⟨(k+1,⟨g',off',k',n2,c2,ys⟩,todo3++ [c],wt5),⟨hkl,List.nodup_append.2 ⟨hnd,List.pairwise_singleton _ _,fun a ha b hb e=>hcn (by rw [List.mem_singleton.1 hb] at e;exact e ▸ ha)⟩,(fun d hd=>by rcases List.mem_append.1 hd with hd|hd;exact hsb d hd;rw [List.mem_singleton.1 hd];exact hck),(fun d hd=>List.mem_append_left _ (hold d hd)),hstep _ (fun _ h=>List.mem_append_left _ h) (List.mem_append_right _ List.mem_cons_self),⟨hk2,hoff2,(by rw [List.length_append];exact hlen2.trans (by rw [hq3];rfl)),(by rw [hys2,hq4,List.flatMap_append];rfl)⟩,hw6,by dsimp only;omega⟩,by dsimp only;omega,by exact sB,by exact sB,by exact mS⟩;done)
     |trace_state
  ·
   have hk2:k=V.length:=by omega
   subst hk2
   have hI2:=hturn todo3 hnd hsb hold fun c hc=>by
    obtain ⟨j,hj,rfl⟩:=List.getElem_of_mem hc
    exact hin j hj hj
   repeat' (first|refine sT ?_|refine sS ?_|refine sN ?_|refine sM fun _=> ?_|(refine sC ?_ ?_<;>intro hb<;>try omega)|fail)
   all_goals first
    |(exfalso;omega)
    |(refine ⟨(updL lab x s,q3,todo3,wt4,SR2,SA2),⟨hI2,hq3,hw4,by dsimp only;omega⟩,by dsimp only;rw [List.length_cons];omega,by exact sB,by exact sB,by exact mS⟩;done)
    |trace_state
noncomputable def labF (G:Gr) (w:Lw) (a:Rf):BitVec 64:=(BitVec.ofBoolListLE ((List.range 64).map fun i=> @decide (seesP G w i a) (Classical.propDecidable _))).cast (by simp)
theorem labF_bit {G:Gr} {w:Lw} {a:Rf} {i:Nat}:(labF G w a).getLsbD i=true↔seesP G w i a:=by
 unfold labF
 rw [BitVec.getLsbD_cast,BitVec.getLsbD_ofBoolListLE,List.getD_eq_getElem?_getD]
 by_cases hi:i<64
 ·
  rw [List.getElem?_map,List.getElem?_range hi]
  simp
 ·
  rw [List.getElem?_eq_none (by simpa using hi)]
  refine ⟨fun h=>absurd h (by decide),fun h=> ?_⟩
  have:=h.out.1
  rw [BitVec.getLsbD_of_ge _ _ (by omega)] at this
  cases this
theorem labF_other {G:Gr} {w:Lw} {a:Rf} (h:a∉keysG G):labF G w a=w.rd a:=bits_ext fun _=>labF_bit.trans (sees_other h)
theorem mapM_congr {κ:Type} [DecidableEq κ] {f g:κ→Value} {S:List κ} (h: ∀ c∈S,f c=g c):mapM f S=mapM g S:=by
 apply List.ext_getElem?
 intro i
 rw [mapM_get,mapM_get]
 cases hS:S[i]? with
 |none=>rfl
 |some a=>simp [h a (List.mem_of_getElem? hS)]
theorem start_to (gg:Nat) (G:Gr) (B F:List Blk) (w0:World) (R:Rdr gg G B w0) (hB:MSub B F) (ok:Bool) (L:List Rl) (N:List Gn) (Al An:Option Addr) (cl cn:Nat) (hl: ∀ w',Mem w0 w' F→Reads w' (.slice Al L.length cl) L.length (L.flatMap encRl)) (hn: ∀ w',Mem w0 w' F→Reads w' (.slice An N.length cn) N.length (N.flatMap encGn)) (hN:N.length≤1000000):
  FnIn Tryz.prog 114 [.pointer (some ⟨gg,0,none⟩),.bool ok,.slice Al L.length cl,.slice An N.length cn] w0 F fun v H' =>(stE ok L N≠0∧v= .tuple #[.pointer none,.int .i64 (stE ok L N)]∧H' =F)∨(stE ok L N=0∧ ∃ gb gl gr ga Ac cap SR SA,v= .tuple #[.pointer (some ⟨gb,0,none⟩),.int .i64 0]∧H' = .box gb 195 [.pointer (some ⟨gg,0,none⟩),.slice Al L.length cl,.slice An N.length cn,sl Ac (keysG G).length cap,.map (some gl),.map (some gr),.map (some ga)]:: .own Ac 51 2 (keysG G).length cap ((keysG G).flatMap encF):: .obj gl (mobj keyF (mapM (fun c=>vS (labF G (lwOf L N) c)) (keysG G)) (keysG G).length):: .obj gr (mobj keyR (mapM (fun r=>vS (ovE r L).1.1) SR) (SR).length):: .obj ga (mobj keyA (mapM (fun a=>vS (forE a.fn a.rect L N).1) SA) (SA).length)::F):=by
 refine (start_in gg G B F w0 R hB ok L N Al An cl cn hl hn hN).mono fun v H' h=> ?_
 rcases h with h|⟨he,gb,gl,gr,ga,Ac,cap,lab,SR,SA,hv,hH,hlab⟩
 ·
  exact .inl h
 ·
  refine .inr ⟨he,gb,gl,gr,ga,Ac,cap,SR,SA,hv,?_⟩
  have e:mapM (fun c=>vS (lab c)) (keysG G)=mapM (fun c=>vS (labF G (lwOf L N) c)) (keysG G):=mapM_congr fun c hc=>congrArg vS (bits_ext fun i=>(hlab c hc i).trans labF_bit.symm)
  rw [hH,e]
noncomputable def lblE (G:Gr) (L:List Rl) (N:List Gn) (a:Rf):BitVec 64 × Int:=if stE a.valid L N≠0 then (0#64,stE a.valid L N) else (labF G (lwOf L N) a,0)
set_option maxHeartbeats 8000000 in
theorem Label_in (a:Rf) (gg:Nat) (G:Gr) (B F:List Blk) (w0:World) (R:Rdr gg G B w0) (hB:MSub B F) (L:List Rl) (N:List Gn) (Al An:Option Addr) (cl cn:Nat) (hl: ∀ w',Mem w0 w' F→Reads w' (.slice Al L.length cl) L.length (L.flatMap encRl)) (hn: ∀ w',Mem w0 w' F→Reads w' (.slice An N.length cn) N.length (N.flatMap encGn)) (hN:N.length≤1000000):FnIn Tryz.prog 47 [.pointer (some ⟨gg,0,none⟩),keyF a,.slice Al L.length cl,.slice An N.length cn] w0 F fun v H' =>v= .tuple #[vS (lblE G L N a).1,.int .i64 (lblE G L N a).2]∧H' =F:=by
 refine fn_in Tryz.func47 rfl Tryz.ntmps47 rfl ?_
 have hst:=fun (ok:Bool) (F2:List Blk) (h:MSub B F2) (h' :MSub F F2)=>start_to gg G B F2 w0 R h ok L N Al An cl cn (fun w' hm=>hl w' (h'.use hm)) (fun w' hm=>hn w' (h'.use hm)) hN
 have hva:=fun w=>valid_at a.col a.row w
 have hv:a.valid=valid a.col a.row:=rfl
 unfold lblE
 rw [hv]
 have hst:=hst (valid a.col a.row)
 generalize valid a.col a.row=ok at hst hva
 generalize stE ok L N=e at hst
 have hlk:=lookOk_map (fun c=>vS (labF G (lwOf L N) c)) (keysG G) a (vS 0#64)
 by_cases ha:a∈keysG G
 ·
  rw [if_pos ha,decide_eq_true ha] at hlk
  repeat' (first|((with_reducible apply wl_callp);exact rfl;exact rfl;(intro w hm;exact hva w))|((with_reducible apply wl_callin (f:=114));exact rfl;exact rfl;exact hst _ (MSub.trans hB mS) mS;rintro _ _ (⟨he,rfl,rfl⟩|⟨he,gb,gl,gr,ga,Ac,cap,SR,SA,rfl,rfl⟩))|((with_reducible apply wq_v (d:=32));exact rfl;(with_reducible apply v_lookupOk (enc:=keyF) (k:=a));exact rfl;exact rfl;exact pK;exact hlk)|refine sT ?_|refine sS ?_|refine sQ ?_|refine sD ?_|refine sM fun _=> ?_|(refine sC ?_ ?_<;>intro hb<;>try omega)|(refine sCQ ?_ ?_<;>intro hb<;>try omega)|fail)
  all_goals first
   |(exfalso;omega)
   |(rw [if_pos he];exact ret2 eIO rfl rfl rfl (H' :=F) mS ⟨rfl,rfl⟩)
   |(rw [if_neg (by omega)];exact ret2 eIO rfl rfl rfl (H' :=F) mS ⟨rfl,rfl⟩)
   |trace_state
 ·
  rw [if_neg ha,decide_eq_false ha] at hlk
  rw [labF_other ha]
  repeat' (first|((with_reducible apply wl_callp);exact rfl;exact rfl;(intro w hm;exact hva w))|((with_reducible apply wl_callin (f:=114));exact rfl;exact rfl;exact hst _ (MSub.trans hB mS) mS;rintro _ _ (⟨he,rfl,rfl⟩|⟨he,gb,gl,gr,ga,Ac,cap,SR,SA,rfl,rfl⟩))|((with_reducible apply wq_v (d:=32));exact rfl;(with_reducible apply v_lookupOk (enc:=keyF) (k:=a));exact rfl;exact rfl;exact pK;exact hlk)|((with_reducible apply wl_callin (f:=115));exact rfl;exact rfl;(refine FnIn.msub (readers_in a L gb _ _ _ _ _ _ _ w0 _ ?_) (MSub.pick pK (MSub.refl _));exact (fun w' hm=>hl w' (MSub.use mS hm)));rintro _ _ ⟨rfl,rfl⟩)|refine sT ?_|refine sS ?_|refine sQ ?_|refine sD ?_|refine sM fun _=> ?_|(refine sC ?_ ?_<;>intro hb<;>try omega)|(refine sCQ ?_ ?_<;>intro hb<;>try omega)|fail)
  all_goals first
   |(exfalso;omega)
   |(rw [if_pos he];exact ret2 eIO rfl rfl rfl (H' :=F) mS ⟨rfl,rfl⟩)
   |(rw [if_neg (by omega)];exact ret2 eIO rfl rfl rfl (H' :=F) mS ⟨rfl,rfl⟩)
   |trace_state
noncomputable def rngF (G:Gr) (w:Lw) (r:Rct):BitVec 64:=ovL G w (labF G w) r
noncomputable def rngE (G:Gr) (L:List Rl) (N:List Gn) (r:Rct):BitVec 64 × Int:=if stE (decide (rectE r=0)) L N≠0 then (0#64,stE (decide (rectE r=0)) L N) else (rngF G (lwOf L N) r,0)
set_option maxHeartbeats 8000000 in
theorem Range_in (r:Rct) (gg:Nat) (G:Gr) (B F:List Blk) (w0:World) (R:Rdr gg G B w0) (hB:MSub B F) (L:List Rl) (N:List Gn) (Al An:Option Addr) (cl cn:Nat) (hl: ∀ w',Mem w0 w' F→Reads w' (.slice Al L.length cl) L.length (L.flatMap encRl)) (hn: ∀ w',Mem w0 w' F→Reads w' (.slice An N.length cn) N.length (N.flatMap encGn)) (hN:N.length≤1000000):FnIn Tryz.prog 50 [.pointer (some ⟨gg,0,none⟩),.agg (encR r).toArray,.slice Al L.length cl,.slice An N.length cn] w0 F fun v H' =>v= .tuple #[vS (rngE G L N r).1,.int .i64 (rngE G L N r).2]∧H' =F:=by
 refine fn_in Tryz.func50 rfl Tryz.ntmps50 rfl ?_
 have hst:=fun (ok:Bool) (F2:List Blk) (h:MSub B F2) (h' :MSub F F2)=>start_to gg G B F2 w0 R h ok L N Al An cl cn (fun w' hm=>hl w' (h'.use hm)) (fun w' hm=>hn w' (h'.use hm)) hN
 have hre:=fun w=>rect_at r w
 have hKm:(keysG G).length≤1000000:=by have:=R.l;rw [keysG,List.length_map];omega
 unfold rngE
 generalize rectE r=z at hre
 have hst:=hst (decide (z=0))
 generalize stE (decide (z=0)) L N=e at hst
 repeat' (first|((with_reducible apply wl_callp);exact rfl;exact rfl;(intro w hm;exact hre w))|((with_reducible apply wl_callin (f:=114));exact rfl;exact rfl;exact hst _ (MSub.trans hB mS) mS;rintro _ _ (⟨he,rfl,rfl⟩|⟨he,gb,gl,gr,ga,Ac,cap,SR,SA,rfl,rfl⟩))|((with_reducible apply wl_callin (f:=116));exact rfl;exact rfl;(refine FnIn.msub (fover_in r gb gl gr ga _ _ _ Ac cap (keysG G) L hKm (labF G (lwOf L N)) _ w0 _ ?_) (MSub.pick pK (MSub.pick pK (MSub.pick pK (MSub.pick pK (MSub.refl _)))));exact (fun w' hm=>hl w' (MSub.use mS hm)));rintro _ _ ⟨rfl,rfl⟩)|refine sT ?_|refine sS ?_|refine sM fun _=> ?_|(refine sC ?_ ?_<;>intro hb<;>try omega)|fail)
 all_goals first
  |(exfalso;omega)
  |(rw [if_pos he];exact ret2 eIO rfl rfl rfl (H' :=F) mS ⟨rfl,rfl⟩)
  |(rw [if_neg (by omega)];exact ret2 eIO rfl rfl rfl (H' :=F) mS ⟨rfl,rfl⟩)
  |trace_state
def encMk (x:Rf × BitVec 64):List Value:= [.int .i64 x.1.col,.int .i64 x.1.row,vS x.2]
theorem encMk_len (x:Rf × BitVec 64):(encMk x).length=3:=rfl
noncomputable def marksF (G:Gr) (w:Lw):List (Rf × BitVec 64):=(keysG G).map fun c=>(c,labF G w c)
noncomputable def lbsE (G:Gr) (L:List Rl) (N:List Gn):List (Rf × BitVec 64) × Int:=if stE true L N≠0 then ([],stE true L N) else (marksF G (lwOf L N),0)
set_option maxHeartbeats 8000000 in
theorem Labels_in (gg:Nat) (G:Gr) (B F:List Blk) (w0:World) (R:Rdr gg G B w0) (hB:MSub B F) (L:List Rl) (N:List Gn) (Al An:Option Addr) (cl cn:Nat) (hl: ∀ w',Mem w0 w' F→Reads w' (.slice Al L.length cl) L.length (L.flatMap encRl)) (hn: ∀ w',Mem w0 w' F→Reads w' (.slice An N.length cn) N.length (N.flatMap encGn)) (hN:N.length≤1000000):FnIn Tryz.prog 48 [.pointer (some ⟨gg,0,none⟩),.slice Al L.length cl,.slice An N.length cn] w0 F fun v H' => ∃ A cap,v= .tuple #[sl A (lbsE G L N).1.length cap,.int .i64 (lbsE G L N).2]∧H' = .own A 101 3 (lbsE G L N).1.length cap ((lbsE G L N).1.flatMap encMk)::F:=by
 refine fn_in Tryz.func48 rfl Tryz.ntmps48 rfl ?_
 have hst:=fun (ok:Bool) (F2:List Blk) (h:MSub B F2) (h' :MSub F F2)=>start_to gg G B F2 w0 R h ok L N Al An cl cn (fun w' hm=>hl w' (h'.use hm)) (fun w' hm=>hn w' (h'.use hm)) hN
 have hKl:(keysG G).length≤900:=by have:=R.l;rw [keysG,List.length_map];exact this
 have hKn:(keysG G).Nodup:=R.g.sort.nodup
 unfold lbsE
 have hst:=hst true
 generalize stE true L N=e at hst
 refine w_nilrow 101 3 ?_
 repeat' (first|((with_reducible apply wl_callin (f:=114));exact rfl;exact rfl;exact hst _ (MSub.trans hB mS) mS;rintro _ _ (⟨he,rfl,rfl⟩|⟨he,gb,gl,gr,ga,Ac,cap,SR,SA,rfl,rfl⟩))|refine sT ?_|refine sS ?_|refine sM fun _=> ?_|(refine sC ?_ ?_<;>intro hb<;>try omega)|fail)
 all_goals first
  |(exfalso;omega)
  |(rw [if_pos he];exact ret2 eIO rfl rfl rfl (H' := .own none 101 3 0 0 []::F) mS ⟨none,0,rfl,rfl⟩)
  |skip
 rw [if_neg (by omega)]
 refine w_loopK [8,26,27] rfl (fun y:Nat × Option Nat × Nat=> [(10,sl y.2.1 y.1 y.2.2),(28,.int .i64 (y.1:Int))]) (fun y=> .own y.2.1 101 3 y.1 y.2.2 (((keysG G).take y.1).flatMap fun c=>encMk (c,labF G (lwOf L N) c)):: .box gb 195 [.pointer (some ⟨gg,0,none⟩),.slice Al L.length cl,.slice An N.length cn,sl Ac (keysG G).length cap,.map (some gl),.map (some gr),.map (some ga)]:: .own Ac 51 2 (keysG G).length cap ((keysG G).flatMap encF):: .obj gl (mobj keyF (mapM (fun c=>vS (labF G (lwOf L N) c)) (keysG G)) (keysG G).length):: .obj gr (mobj keyR (mapM (fun r=>vS (ovE r L).1.1) SR) (SR).length):: .obj ga (mobj keyA (mapM (fun a=>vS (forE a.fn a.rect L N).1) SA) (SA).length)::F) (fun y=>y.1≤(keysG G).length) (fun y=>(keysG G).length - y.1) (0,none,0) (Nat.zero_le _) sB mS ?_
 rintro ⟨i,A,ca⟩ hi
 dsimp only at hi ⊢
 by_cases hlt:i<(keysG G).length
 ·
  refine w_some (A:=Ac) pK (by omega) fun gk hA=> ?_
  subst hA
  have hread:=refF hlt
  have hck:=List.getElem_mem hlt
  have hsn:((keysG G).take (i+1)).flatMap (fun c=>encMk (c,labF G (lwOf L N) c))=((keysG G).take i).flatMap (fun c=>encMk (c,labF G (lwOf L N) c))++encMk ((keysG G)[i],labF G (lwOf L N) (keysG G)[i]):=by
   rw [List.take_succ_eq_append_getElem hlt,List.flatMap_append,List.flatMap_singleton]
  generalize (keysG G)[i]=c at hread hck hsn
  have hlk:=look_map (fun c=>vS (labF G (lwOf L N) c)) (keysG G) c (vS 0#64)
  rw [if_pos hck] at hlk
  repeat' (first|((with_reducible apply wl_v);exact rfl;(with_reducible apply v_indexAddr (j:=i));exact rfl;exact rfl;exact hlt)|((with_reducible apply wl_v);exact rfl;(with_reducible apply v_loads_own);exact rfl;exact pK;exact hread;exact rfl)|refine sT ?_|refine sS ?_|refine sN ?_|refine sM fun _=> ?_|(refine sC ?_ ?_<;>intro hb<;>try omega)|fail)
  all_goals first|(exfalso;omega)|skip
  rename_i g12
  refine w_drawC (id:=8) [9,10] [] [.box g12 51 (encF c),.box gb 195 [.pointer (some ⟨gg,0,none⟩),.slice Al L.length cl,.slice An N.length cn,sl (some gk) (keysG G).length cap,.map (some gl),.map (some gr),.map (some ga)],.obj gl (mobj keyF (mapM (fun c=>vS (labF G (lwOf L N) c)) (keysG G)) (keysG G).length)] (by kernel_rfl) (by kernel_rfl) (by kernel_rfl) mS ?_
  repeat' (first|((with_reducible apply wc_v (d:=39));(iterate 3 exact rfl);(with_reducible apply v_lookup (enc:=keyF) (k:=c));exact rfl;exact rfl;exact pK;exact hlk)|((with_reducible apply wl_append);(iterate 3 exact rfl);(repeat first|exact .hd|apply Sel.tl|apply In.tl);(intro w hm;exact hm.cells_own (by (repeat first|exact .hd|apply Sel.tl|apply In.tl)));exact rfl;(simp [Value.oneCell',sl]);omega;(simp only [maxLen];omega);(intro A5 c5 hA5))|refine sT ?_|refine sS ?_|refine sW ?_|refine sN ?_|refine sWN ?_|refine sM fun _=> ?_|(refine sC ?_ ?_<;>intro hb<;>try omega)|(refine sCW ?_ ?_<;>intro hb<;>try omega)|fail)
  all_goals first
   |(exfalso;omega)
   |(refine ⟨(i+1,A5,c5),hlt,by dsimp only;omega,by exact sB,by exact sB,by dsimp only;rw [hsn];exact mS⟩;done)
   |trace_state
 ·
  have hi2:i=(keysG G).length:=by omega
  subst hi2
  have hfl:((keysG G).take (keysG G).length).flatMap (fun c=>encMk (c,labF G (lwOf L N) c))=(marksF G (lwOf L N)).flatMap encMk:=by rw [List.take_length,marksF,List.flatMap_map]
  have hml:(marksF G (lwOf L N)).length=(keysG G).length:=by rw [marksF,List.length_map]
  rw [hfl]
  repeat' (first|refine sT ?_|refine sS ?_|refine sN ?_|refine sM fun _=> ?_|(refine sC ?_ ?_<;>intro hb<;>try omega)|fail)
  all_goals first
   |(exfalso;omega)
   |(exact ret2 eIO rfl rfl rfl (H' := .own A 101 3 (keysG G).length ca ((marksF G (lwOf L N)).flatMap encMk)::F) mS ⟨A,ca,by rw [hml],by rw [hml]⟩)
   |trace_state
def isCall (n:Int) (u:Us):Bool:=decide (0≤u.node) && decide (u.node=n)
noncomputable def calF (G:Gr) (w:Lw) (a:Rf) (n:Int):BitVec 64 × Int:=match (usesG G a).find? (isCall n) with|some u=>(rngF G w u.rect|||w.to u,0)|none=>(0#64,6)
noncomputable def calE (G:Gr) (L:List Rl) (N:List Gn) (a:Rf) (n:Int):BitVec 64 × Int:=if stE a.valid L N≠0 then (0#64,stE a.valid L N) else calF G (lwOf L N) a n
set_option maxHeartbeats 8000000 in
theorem Call_in (a:Rf) (n:Int) (gg:Nat) (G:Gr) (B F:List Blk) (w0:World) (R:Rdr gg G B w0) (hB:MSub B F) (L:List Rl) (N:List Gn) (Al An:Option Addr) (cl cn:Nat) (hl: ∀ w',Mem w0 w' F→Reads w' (.slice Al L.length cl) L.length (L.flatMap encRl)) (hn: ∀ w',Mem w0 w' F→Reads w' (.slice An N.length cn) N.length (N.flatMap encGn)) (hN:N.length≤1000000):FnIn Tryz.prog 51 [.pointer (some ⟨gg,0,none⟩),.agg #[.int .i64 a.col,.int .i64 a.row,.int .i64 n],.slice Al L.length cl,.slice An N.length cn] w0 F fun v H' =>v= .tuple #[vS (calE G L N a n).1,.int .i64 (calE G L N a n).2]∧H' =F:=by
 refine fn_in Tryz.func51 rfl Tryz.ntmps51 rfl ?_
 have hst:=fun (ok:Bool) (F2:List Blk) (h:MSub B F2) (h' :MSub F F2)=>start_to gg G B F2 w0 R h ok L N Al An cl cn (fun w' hm=>hl w' (h'.use hm)) (fun w' hm=>hn w' (h'.use hm)) hN
 have hva:=fun w=>valid_at a.col a.row w
 have hv:a.valid=valid a.col a.row:=rfl
 have hKm:(keysG G).length≤1000000:=by have:=R.l;rw [keysG,List.length_map];omega
 have hUs:=R.us a
 have hUl:=usesG_len2 R.g a
 unfold calE calF
 rw [hv]
 have hst:=hst (valid a.col a.row)
 generalize valid a.col a.row=ok at hst hva
 generalize stE ok L N=e at hst
 generalize usesG G a=U at hUs hUl
 repeat' (first|((with_reducible apply wl_callp);exact rfl;exact rfl;(intro w hm;exact hva w))|((with_reducible apply wl_callin (f:=114));exact rfl;exact rfl;exact hst _ (MSub.trans hB mS) mS;rintro _ _ (⟨he,rfl,rfl⟩|⟨he,gb,gl,gr,ga,Ac,cap,SR,SA,rfl,rfl⟩))|((with_reducible apply wl_callin (f:=117));exact rfl;exact rfl;exact hUs _ (MSub.trans hB mS);rintro _ _ ⟨Au,cu,rfl,rfl⟩)|refine sT ?_|refine sS ?_|refine sM fun _=> ?_|(refine sC ?_ ?_<;>intro hb<;>try omega)|fail)
 all_goals first
  |(exfalso;omega)
  |(rw [if_pos he];exact ret2 eIO rfl rfl rfl (H' :=F) mS ⟨rfl,rfl⟩)
  |skip
 rw [if_neg (by omega)]
 rename_i g5
 refine w_loopK [0,5,10,30,31] rfl (fun i:Nat=> [(32,.int .i64 (i:Int))]) (fun i=> .own Au 200 6 U.length cu (U.flatMap encU):: .box g5 64 [.int .i64 a.col,.int .i64 a.row,.int .i64 n]:: .box gb 195 [.pointer (some ⟨gg,0,none⟩),.slice Al L.length cl,.slice An N.length cn,sl Ac (keysG G).length cap,.map (some gl),.map (some gr),.map (some ga)]:: .own Ac 51 2 (keysG G).length cap ((keysG G).flatMap encF):: .obj gl (mobj keyF (mapM (fun c=>vS (labF G (lwOf L N) c)) (keysG G)) (keysG G).length):: .obj gr (mobj keyR (mapM (fun r=>vS (ovE r L).1.1) SR) (SR).length):: .obj ga (mobj keyA (mapM (fun a=>vS (forE a.fn a.rect L N).1) SA) (SA).length)::F) (fun i=>i≤U.length∧U.find? (isCall n)=(U.drop i).find? (isCall n)) (fun i=>U.length - i) 0 ⟨Nat.zero_le _,rfl⟩ sB mS ?_
 rintro i ⟨hi,hfd⟩
 by_cases hlt:i<U.length
 ·
  refine w_some (A:=Au) pK (by omega) fun gk hA=> ?_
  subst hA
  have hread:=refUs hlt
  rw [List.drop_eq_getElem_cons hlt,List.find?_cons] at hfd
  generalize U[i]=u at hread hfd
  by_cases c1:0≤u.node∧u.node=n
  ·
   have hp:isCall n u=true:=by simp only [isCall,decide_eq_true c1.1,decide_eq_true c1.2,Bool.and_self]
   rw [hp] at hfd
   rw [hfd]
   repeat' (first|((with_reducible apply wl_v);exact rfl;(with_reducible apply v_indexAddr (j:=i));exact rfl;exact rfl;exact hlt)|((with_reducible apply wl_v);exact rfl;(with_reducible apply v_loads_own);exact rfl;exact pK;exact hread;exact rfl)|refine sT ?_|refine sS ?_|refine sN ?_|refine sM fun _=> ?_|(refine sC ?_ ?_<;>intro hb<;>try omega)|fail)
   all_goals first|(exfalso;omega)|skip
   rename_i g13 _
   refine w_drawE (id:=8) [3,6] [.box g13 200 (encU u)] 10 rfl rfl mS ?_
   repeat' (first|((with_reducible apply we_v (i:=0));(iterate 4 exact rfl);decide+kernel;decide+kernel;decide+kernel;(exact vC))|((with_reducible apply we_v (i:=1));(iterate 4 exact rfl);decide+kernel;decide+kernel;decide+kernel;(exact vC))|((with_reducible apply we_v (i:=2));(iterate 4 exact rfl);decide+kernel;decide+kernel;decide+kernel;(exact vC))|((with_reducible apply we_v (i:=4));(iterate 4 exact rfl);decide+kernel;decide+kernel;decide+kernel;(exact vC))|((with_reducible apply we_v (i:=5));(iterate 4 exact rfl);decide+kernel;decide+kernel;decide+kernel;(exact vC))|((with_reducible apply we_v (i:=7));(iterate 4 exact rfl);decide+kernel;decide+kernel;decide+kernel;((with_reducible apply v_or64);exact rfl;exact rfl))|((with_reducible apply we_v (i:=8));(iterate 4 exact rfl);decide+kernel;decide+kernel;decide+kernel;((with_reducible apply v_assign);exact rfl))|((with_reducible apply we_v (i:=9));(iterate 4 exact rfl);decide+kernel;decide+kernel;decide+kernel;((with_reducible apply v_assign);exact rfl))|((with_reducible apply we_two (i:=3) (j:=6));(iterate 6 exact rfl);decide+kernel)|((with_reducible apply we_one (i:=3));(iterate 3 exact rfl);decide+kernel)|((with_reducible apply we_one (i:=6));(iterate 3 exact rfl);decide+kernel)|((with_reducible apply we_done);decide+kernel)|((with_reducible apply ce_n);(focus (exact mS;done)))|((with_reducible apply wl_callin (f:=116));exact rfl;exact rfl;(refine FnIn.msub (fover_in u.rect gb gl gr ga _ _ _ Ac cap (keysG G) L hKm (labF G (lwOf L N)) _ w0 _ ?_) (MSub.pick pK (MSub.pick pK (MSub.pick pK (MSub.pick pK (MSub.refl _)))));exact (fun w' hm=>hl w' (MSub.use mS hm)));rintro _ _ ⟨rfl,rfl⟩)|((with_reducible apply wl_callin (f:=118));exact rfl;exact rfl;(refine FnIn.msub (fto_in u gb gl gr ga _ _ _ Ac cap (keysG G) L N hN _ w0 _ ?_ ?_) (MSub.pick pK (MSub.pick pK (MSub.refl _)));exact (fun w' hm=>hl w' (MSub.use mS hm));exact (fun w' hm=>hn w' (MSub.use mS hm)));rintro _ _ ⟨SA3,_,rfl,rfl⟩)|refine sT ?_|refine sS ?_|refine sN ?_|refine sM fun _=> ?_|(refine sC ?_ ?_<;>intro hb<;>try omega)|fail)
   all_goals first
    |(exfalso;omega)
    |(exact ret2 eIO rfl rfl rfl (H' :=F) mS ⟨rfl,rfl⟩)
    |trace_state
  ·
   have hp:isCall n u=false:=by
    rw [← Bool.not_eq_true,isCall,Bool.and_eq_true,decide_eq_true_eq,decide_eq_true_eq];exact c1
   rw [hp] at hfd
   repeat' (first|((with_reducible apply wl_v);exact rfl;(with_reducible apply v_indexAddr (j:=i));exact rfl;exact rfl;exact hlt)|((with_reducible apply wl_v);exact rfl;(with_reducible apply v_loads_own);exact rfl;exact pK;exact hread;exact rfl)|refine sT ?_|refine sS ?_|refine sN ?_|refine sM fun _=> ?_|(refine sC ?_ ?_<;>intro hb<;>try omega)|fail)
   all_goals first
    |(exfalso;omega)
    |(refine ⟨i+1,⟨hlt,hfd⟩,by omega,by exact sB,by exact sB,by exact mS⟩;done)
    |trace_state
 ·
  have hi2:i=U.length:=by omega
  subst hi2
  rw [hfd,List.drop_length,List.find?_nil]
  repeat' (first|refine sT ?_|refine sS ?_|refine sN ?_|refine sM fun _=> ?_|(refine sC ?_ ?_<;>intro hb<;>try omega)|fail)
  all_goals first
   |(exfalso;omega)
   |(exact ret2 eIO rfl rfl rfl (H' :=F) mS ⟨rfl,rfl⟩)
   |trace_state
end Go.SL
