/-
  Lemmas and walks, put together: Mp Hq Pf2.
-/
import Derived.Test.YtljeomidcjpfmaaGreatDoorKf22
set_option linter.unusedSimpArgs false
set_option linter.unusedVariables false
set_option maxRecDepth 20000
namespace Go.SL
open Go Go.RowKit
section
variable {κ:Type}
def mapE (f:κ→Value) (x:κ × Nat):κ × Value × Nat:=(x.1,f x.1,x.2)
def mapM (f:κ→Value) (S:List κ):List (κ × Value × Nat):=S.zipIdx.map (mapE f)
theorem mapM_get (f:κ→Value) (S:List κ) (i:Nat):(mapM f S)[i]? =S[i]?.map fun a=>(a,f a,i):=by
 unfold mapM
 rw [List.getElem?_map,List.getElem?_zipIdx,Option.map_map]
 cases S[i]? <;>simp [mapE]
theorem mapM_len (f:κ→Value) (S:List κ):(mapM f S).length=S.length:=by simp [mapM]
theorem mapM_keys (f:κ→Value) (S:List κ):(mapM f S).map (fun e=>e.1)=S:=by
 apply List.ext_getElem?
 intro i
 rw [List.getElem?_map,mapM_get,Option.map_map]
 cases S[i]? <;>rfl
variable [DecidableEq κ]
def updV (f:κ→Value) (k:κ) (v:Value):κ→Value:=fun x=>if x=k then v else f x
theorem kfind_out {k:κ}: ∀ {es:List (κ × Value × Nat)} {i:Nat},k∉es.map (fun e=>e.1)→kfind k es i=none
 | [],_,_=>rfl
 |e::es,i,h=>by
  rw [List.map_cons,List.mem_cons,not_or] at h
  rw [kfind,if_neg h.1]
  exact kfind_out h.2
theorem kfind_in {k:κ}: ∀ {es:List (κ × Value × Nat)} {i:Nat},k∈es.map (fun e=>e.1)→ ∃ j v,kfind k es i=some (j,v)
 | [],_,h=>by cases h
 |e::es,i,h=>by
  by_cases hk:k=e.1
  ·
   exact ⟨i,e.2.1,by rw [kfind,if_pos hk]⟩
  ·
   rw [List.map_cons,List.mem_cons] at h
   rw [kfind,if_neg hk]
   exact kfind_in (h.resolve_left hk)
theorem kfind_map {f:κ→Value} {S:List κ} {k:κ} (h:k∈S): ∃ i,kfind k (mapM f S) 0=some (i,f k)∧S[i]? =some k:=by
 obtain ⟨j,v,hj⟩:=kfind_in (k:=k) (es:=mapM f S) (i:=0) (by rw [mapM_keys];exact h)
 obtain ⟨b,_,hb⟩:=kfind_get hj
 rw [Nat.sub_zero,mapM_get] at hb
 cases hS:S[j]? with
 |none=>rw [hS] at hb;cases hb
 |some a=>
  rw [hS] at hb
  simp only [Option.map_some,Option.some.injEq,Prod.mk.injEq] at hb
  obtain ⟨h1,h2,_⟩:=hb
  subst h1
  exact ⟨j,by rw [hj,← h2],hS⟩
theorem kfind_mapNo {f:κ→Value} {S:List κ} {k:κ} (h:k∉S):kfind k (mapM f S) 0=none:=kfind_out (by rw [mapM_keys];exact h)
theorem look_map (f:κ→Value) (S:List κ) (k:κ) (z:Value):(match kfind k (mapM f S) 0 with|some (_,v)=>v|none=>z)=if k∈S then f k else z:=by
 by_cases h:k∈S
 ·
  obtain ⟨i,h1,_⟩:=kfind_map (f:=f) h
  rw [h1,if_pos h]
 ·
  rw [kfind_mapNo h,if_neg h]
theorem lookOk_map (f:κ→Value) (S:List κ) (k:κ) (z:Value):(match kfind k (mapM f S) 0 with|some (_,v)=>Value.tuple #[v,.bool true]|none=> .tuple #[z,.bool false])= .tuple #[if k∈S then f k else z,.bool (decide (k∈S))]:=by
 by_cases h:k∈S
 ·
  obtain ⟨i,h1,_⟩:=kfind_map (f:=f) h
  rw [h1,if_pos h,decide_eq_true h]
 ·
  rw [kfind_mapNo h,if_neg h,decide_eq_false h]
theorem put_new {f:κ→Value} {S:List κ} {k:κ} {v:Value} (h:k∉S):kput k v S.length (mapM f S)=(mapM (updV f k v) (S++ [k]),S.length+1):=by
 have h1:mapM (updV f k v) (S++ [k])=mapM f S++ [(k,v,S.length)]:=by
  apply List.ext_getElem?
  intro i
  rw [mapM_get]
  rcases Nat.lt_trichotomy i S.length with h2|h2|h2
  ·
   rw [List.getElem?_append_left h2,List.getElem?_append_left (by rw [mapM_len];exact h2),mapM_get,List.getElem?_eq_getElem h2]
   have:S[i]≠k:=fun e=>h (e ▸ List.getElem_mem h2)
   simp [updV,this]
  ·
   subst h2
   rw [List.getElem?_append_right (Nat.le_refl _),List.getElem?_append_right (by rw [mapM_len];exact Nat.le_refl _),mapM_len]
   simp [updV]
  ·
   rw [List.getElem?_eq_none (by simp;omega),List.getElem?_eq_none (by rw [List.length_append,mapM_len];simp;omega)];rfl
 unfold kput
 rw [kfind_mapNo h,h1]
theorem put_old {f:κ→Value} {S:List κ} {k:κ} {v:Value} {c:Nat} (hn:S.Nodup) (h:k∈S):kput k v c (mapM f S)=(mapM (updV f k v) S,c):=by
 obtain ⟨i,h1,h2⟩:=kfind_map (f:=f) h
 have h3:(mapM f S).modify i (fun e=>(k,v,e.2.2))=mapM (updV f k v) S:=by
  apply List.ext_getElem?
  intro j
  rw [List.getElem?_modify,mapM_get,mapM_get]
  by_cases e:i=j
  ·
   subst e
   simp [h2,updV]
  ·
   cases hj:S[j]? with
   |none=>simp
   |some a=>
    have:a≠k:=fun e2=>e (by
     subst e2
     obtain ⟨l1,g1⟩:=List.getElem?_eq_some_iff.1 h2
     obtain ⟨l2,g2⟩:=List.getElem?_eq_some_iff.1 hj
     exact (List.getElem_inj hn).1 (g1.trans g2.symm))
    simp [e,updV,this]
 unfold kput
 rw [h1]
 simp only [h3]
end
end Go.SL
namespace Go.SL
open Go Go.Proofs
attribute [local irreducible] W WL WQ WG WA WX WLI WR WT WC WE VOp RW thn blk cutP scp retP retPP endB FnAt FnIn FnP ceP bodyB assignQ roundQ
theorem updV_self {κ:Type} [DecidableEq κ] {f:κ→Value} {k:κ} {v:Value} (h:v=f k):updV f k v=f:=by
 funext x;unfold updV;split
 ·
  rename_i e;subst e;exact h
 ·
  rfl
theorem andK_filter {K:List Rf} {lab:Rf→BitVec 64} {r:Rct} {s:BitVec 64}:(K.filter fun c=>hasR r c).foldl (fun s c=>s &&& lab c) s=andK K lab r s:=by
 unfold andK;rw [List.foldl_filter]
def foldA (lab:Rf→BitVec 64) (l:List Rf) (s:BitVec 64):BitVec 64:=l.foldl (fun s c=>s &&& lab c) s
theorem foldA_snoc {lab:Rf→BitVec 64} {l:List Rf} {c:Rf} {s:BitVec 64}:foldA lab (l++ [c]) s=foldA lab l s &&& lab c:=by unfold foldA;rw [List.foldl_append];rfl
theorem within_at (r:Rct) (gb:Nat) (w:World):FnAt Tryz.prog 186 [.pointer (some ⟨gb,0,none⟩),.agg (encR r).toArray] w fun v H=> ∃ gw gq,v= .func (.func 265) #[] #[.pointer (some ⟨gw,0,none⟩),.pointer (some ⟨gq,0,none⟩)]∧H= [.box gw 187 [.pointer (some ⟨gb,0,none⟩)],.box gq 33 (encR r)]:=by
 refine fn_at Tryz.func186 rfl Tryz.ntmps186 rfl ?_
 repeat' (first|refine sT ?_|refine sM fun _=> ?_|(refine sC ?_ ?_<;>intro hb<;>try omega)|fail)
 rename_i gw gq
 exact ret1 eIO rfl rfl (H' := [.box gw 187 [.pointer (some ⟨gb,0,none⟩)],.box gq 33 (encR r)]) mS ⟨gw,gq,rfl,rfl⟩
set_option maxHeartbeats 8000000 in
theorem fover_in (r:Rct) (gb gl gr ga:Nat) (gv rv nv:Value) (Ac:Option Nat) (cap:Nat) (K:List Rf) (L:List Rl) (hK:K.length≤1000000) (lab:Rf→BitVec 64) (SR:List Rct) (w0:World) (F:List Blk) (hl: ∀ w',Mem w0 w' F→Reads w' rv L.length (L.flatMap encRl)):
  FnIn Tryz.prog 116 [.pointer (some ⟨gb,0,none⟩),.agg (encR r).toArray] w0 (.box gb 195 [gv,rv,nv,sl Ac K.length cap,.map (some gl),.map (some gr),.map (some ga)]:: .own Ac 51 2 K.length cap (K.flatMap encF):: .obj gl (mobj keyF (mapM (fun c=>vS (lab c)) K) K.length):: .obj gr (mobj keyR (mapM (fun r=>vS (ovE r L).1.1) SR) (SR).length)::F) fun v H' =>v=vS (andK K lab r (ovE r L).1.1)∧H' = .box gb 195 [gv,rv,nv,sl Ac K.length cap,.map (some gl),.map (some gr),.map (some ga)]:: .own Ac 51 2 K.length cap (K.flatMap encF):: .obj gl (mobj keyF (mapM (fun c=>vS (lab c)) K) K.length):: .obj gr (mobj keyR (mapM (fun r=>vS (ovE r L).1.1) (if r∈SR then SR else SR++ [r])) ((if r∈SR then SR else SR++ [r])).length)::F:=by
 refine fn_range Tryz.func116 rfl Tryz.ntmps116 (by rfl) ?_
 have h1:=fun (w' :World) (H:List Blk) (hs:MSub F H) (hm:Mem w0 w' H)=>Over_at r L rv w' (hl w' (hs.use hm))
 have h2:=fun w=>within_at r gb w
 have hlook:=lookOk_map (fun r=>vS (ovE r L).1.1) SR r (vS 0#64)
 have hnew:=fun h:r∉SR=>put_new (f:=fun r=>vS (ovE r L).1.1) (v:=vS (ovE r L).1.1) h
 have hup:=updV_self (f:=fun r=>vS (ovE r L).1.1) (k:=r) rfl
 try dsimp only at hlook
 try dsimp only at hup
 obtain ⟨s1,hs1⟩: ∃ s,(ovE r L).1.1=s:=⟨_,rfl⟩
 rw [hs1] at h1 hlook hnew hup ⊢
 generalize (ovE r L).2=e at h1
 generalize (ovE r L).1.2.1=s2 at h1
 generalize (ovE r L).1.2.2=s3 at h1
 rw [hup] at hnew
 by_cases hr:r∈SR
 focus
  rw [if_pos hr,decide_eq_true hr] at hlook
  rw [if_pos hr]
  repeat' (first|((with_reducible apply w_drawC0 (id:=1) [9,10] []);kernel_rfl;kernel_rfl;kernel_rfl)|((with_reducible apply wc_v (d:=16));(iterate 3 exact rfl);(with_reducible apply v_lookupOk (enc:=keyR) (k:=r));exact rfl;exact rfl;exact pK;exact hlook)|((with_reducible apply wl_call (f:=186));exact rfl;exact rfl;(intro w' hm;exact h2 w');rintro _ _ ⟨gw,gq,rfl,rfl⟩)|refine sT ?_|refine sS ?_|refine sR ?_|refine sW ?_|refine sM fun _=> ?_|(refine sC ?_ ?_<;>intro hb<;>try omega)|(refine sCR ?_ ?_<;>intro hb<;>try omega)|(refine sCW ?_ ?_<;>intro hb<;>try omega)|fail)
  rename_i g2 g3 g5
  generalize SR=S'
 rotate_left
 focus
  rw [if_neg hr,decide_eq_false hr] at hlook
  rw [if_neg hr]
  have hnew:=hnew hr
  repeat' (first|((with_reducible apply w_drawC0 (id:=1) [9,10] []);kernel_rfl;kernel_rfl;kernel_rfl)|((with_reducible apply wc_v (d:=16));(iterate 3 exact rfl);(with_reducible apply v_lookupOk (enc:=keyR) (k:=r));exact rfl;exact rfl;exact pK;exact hlook)|refine sT ?_|refine sS ?_|refine sR ?_|refine sW ?_|refine sM fun _=> ?_|(refine sC ?_ ?_<;>intro hb<;>try omega)|(refine sCR ?_ ?_<;>intro hb<;>try omega)|(refine sCW ?_ ?_<;>intro hb<;>try omega)|fail)
  rename_i g2 g3 g5
  refine w_drawE (id:=3) [5,9,10] [.box g2 187 [.pointer (some ⟨gb,0,none⟩)],.box g3 33 (encR r),.box gb 195 [gv,rv,nv,sl Ac K.length cap,.map (some gl),.map (some gr),.map (some ga)]] 12 rfl rfl mS ?_
  repeat' (first|((with_reducible apply we_v (i:=0));(iterate 4 exact rfl);decide+kernel;decide+kernel;decide+kernel;(exact vC))|((with_reducible apply we_v (i:=1));(iterate 4 exact rfl);decide+kernel;decide+kernel;decide+kernel;(exact vC))|((with_reducible apply we_v (i:=2));(iterate 4 exact rfl);decide+kernel;decide+kernel;decide+kernel;(exact vC))|((with_reducible apply we_v (i:=3));(iterate 4 exact rfl);decide+kernel;decide+kernel;decide+kernel;(exact vC))|((with_reducible apply we_v (i:=4));(iterate 4 exact rfl);decide+kernel;decide+kernel;decide+kernel;(exact vC))|((with_reducible apply we_v (i:=6));(iterate 4 exact rfl);decide+kernel;decide+kernel;decide+kernel;(exact vC))|((with_reducible apply we_v (i:=7));(iterate 4 exact rfl);decide+kernel;decide+kernel;decide+kernel;(exact vC))|((with_reducible apply we_v (i:=8));(iterate 4 exact rfl);decide+kernel;decide+kernel;decide+kernel;(exact vC))|((with_reducible apply we_v (i:=11));(iterate 4 exact rfl);decide+kernel;decide+kernel;decide+kernel;((with_reducible apply v_assign);exact rfl))|((with_reducible apply we_two (i:=5) (j:=9));(iterate 6 exact rfl);decide+kernel)|((with_reducible apply we_one (i:=5));(iterate 3 exact rfl);decide+kernel)|((with_reducible apply we_one (i:=9));(iterate 3 exact rfl);decide+kernel)|((with_reducible apply we_one (i:=10));(iterate 3 exact rfl);decide+kernel)|((with_reducible apply we_done);decide+kernel)|((with_reducible apply ce_n);(focus (exact mS;done)))|((with_reducible apply wl_callp (f:=160));exact rfl;exact rfl;(intro w' hm;exact h1 w' _ mS hm))|refine sT ?_|refine sS ?_|refine sR ?_|refine sM fun _=> ?_|(refine sC ?_ ?_<;>intro hb<;>try omega)|(refine sCR ?_ ?_<;>intro hb<;>try omega)|fail)
  all_goals
   rename_i g7
   refine w_drawC (id:=5) [6] [] [.box g2 187 [.pointer (some ⟨gb,0,none⟩)],.box g3 33 (encR r),.box g5 34 [vS s1],.box gb 195 [gv,rv,nv,sl Ac K.length cap,.map (some gl),.map (some gr),.map (some ga)]] (by kernel_rfl) (by kernel_rfl) (by kernel_rfl) mS ?_
   repeat' (first|((with_reducible apply wl_mapPut (enc:=keyR) (k:=r));(iterate 3 exact rfl);exact pK;rw [hnew])|((with_reducible apply wl_call (f:=186));exact rfl;exact rfl;(intro w' hm;exact h2 w');rintro _ _ ⟨gw,gq,rfl,rfl⟩)|refine sT ?_|refine sS ?_|refine sR ?_|refine sW ?_|refine sM fun _=> ?_|(refine sC ?_ ?_<;>intro hb<;>try omega)|(refine sCR ?_ ?_<;>intro hb<;>try omega)|(refine sCW ?_ ?_<;>intro hb<;>try omega)|fail)
   rw [show SR.length+1=(SR++ [r]).length by simp]
   generalize SR++ [r]=S'
 all_goals
  refine wt_rangeC (ps:= [41]) (us:=K.filter fun c=>hasR r c) (encs:=fun c=> [keyF c]) (Hc:= .box gw 187 [.pointer (some ⟨gb,0,none⟩)]:: .box gq 33 (encR r):: .box gb 195 [gv,rv,nv,sl Ac K.length cap,.map (some gl),.map (some gr),.map (some ga)]:: .own Ac 51 2 K.length cap (K.flatMap encF)::F) (HU0:= .box g2 187 [.pointer (some ⟨gb,0,none⟩)]:: .box g5 34 [vS (s1)]:: .obj gl (mobj keyF (mapM (fun c=>vS (lab c)) K) K.length):: .obj gr (mobj keyR (mapM (fun r=>vS (ovE r L).1.1) S') S'.length):: []) rfl (fun _=>rfl) rfl ((within_seq r K hK gw gq gb gv rv nv _ _ _ Ac cap w0).frame F) (fun pre HU=>HU= .box g2 187 [.pointer (some ⟨gb,0,none⟩)]:: .box g5 34 [vS (foldA lab pre s1)]:: .obj gl (mobj keyF (mapM (fun c=>vS (lab c)) K) K.length):: .obj gr (mobj keyR (mapM (fun r=>vS (ovE r L).1.1) S') S'.length):: []) (fun _=>False) ?_ rfl ?_ ?_ ?_
  ·
   exact mS
  ·
   rintro l pre c post hus _ rfl F1 F2
   have hcK:c∈K:=(List.mem_filter.1 (hus ▸ List.mem_append_right _ List.mem_cons_self:c∈K.filter fun c=>hasR r c)).1
   have hlk:=look_map (fun c=>vS (lab c)) K c (vS 0#64)
   rw [if_pos hcK] at hlk
   change WR _ _ _ l _ _ ((41,keyF c)::_) (.box g2 187 [.pointer (some ⟨gb,0,none⟩)]:: .box g5 34 [vS (foldA lab pre s1)]:: .obj gl (mobj keyF (mapM (fun c=>vS (lab c)) K) K.length):: .obj gr (mobj keyR (mapM (fun r=>vS (ovE r L).1.1) S') S'.length):: .box gw 187 [.pointer (some ⟨gb,0,none⟩)]:: .box gq 33 (encR r):: .box gb 195 [gv,rv,nv,sl Ac K.length cap,.map (some gl),.map (some gr),.map (some ga)]:: .own Ac 51 2 K.length cap (K.flatMap encF)::(F++F1))
   repeat' (first|refine sT ?_|refine sR ?_|refine sM fun _=> ?_|(refine sC ?_ ?_<;>intro hb<;>try omega)|(refine sCR ?_ ?_<;>intro hb<;>try omega)|fail)
   rename_i g9
   refine assign_n ⟨.box g9 51 (encF c):: .box g2 187 [.pointer (some ⟨gb,0,none⟩)]:: .box g5 34 [vS (foldA lab pre s1)]:: .obj gl (mobj keyF (mapM (fun c=>vS (lab c)) K) K.length):: .obj gr (mobj keyR (mapM (fun r=>vS (ovE r L).1.1) S') S'.length):: [],MSub.refl _,?_⟩
   change WR _ _ _ l _ _ _ (.box g9 51 (encF c):: .box g2 187 [.pointer (some ⟨gb,0,none⟩)]:: .box g5 34 [vS (foldA lab pre s1)]:: .obj gl (mobj keyF (mapM (fun c=>vS (lab c)) K) K.length):: .obj gr (mobj keyR (mapM (fun r=>vS (ovE r L).1.1) S') S'.length):: .box gw 187 [.pointer (some ⟨gb,0,none⟩)]:: .box gq 33 (encR r):: .box gb 195 [gv,rv,nv,sl Ac K.length cap,.map (some gl),.map (some gr),.map (some ga)]:: .own Ac 51 2 K.length cap (K.flatMap encF)::(F++F2))
   refine wr_block ?_
   refine wr_drawC (id:=8) [8] [0] [.box g9 51 (encF c),.box g2 187 [.pointer (some ⟨gb,0,none⟩)],.obj gl (mobj keyF (mapM (fun c=>vS (lab c)) K) K.length),.box gb 195 [gv,rv,nv,sl Ac K.length cap,.map (some gl),.map (some gr),.map (some ga)]] (by kernel_rfl) (by kernel_rfl) (by kernel_rfl) rfl mS ?_
   repeat' (first|((with_reducible apply wc_p (d:=42));(iterate 4 exact rfl);(exact vC))|((with_reducible apply wc_v (d:=48));(iterate 3 exact rfl);(with_reducible apply v_lookup (enc:=keyF) (k:=c));exact rfl;exact rfl;exact pK;exact hlk)|((with_reducible apply wc_v (d:=49));(iterate 3 exact rfl);(with_reducible apply v_and64);exact rfl;exact rfl)|refine sT ?_|refine sS ?_|refine sR ?_|refine sW ?_|refine sM fun _=> ?_|(refine sC ?_ ?_<;>intro hb<;>try omega)|(refine sCR ?_ ?_<;>intro hb<;>try omega)|(refine sCW ?_ ?_<;>intro hb<;>try omega)|fail)
   refine round_n (.box g2 187 [.pointer (some ⟨gb,0,none⟩)]:: .box g5 34 [vS (foldA lab pre s1 &&& lab c)]:: .obj gl (mobj keyF (mapM (fun c=>vS (lab c)) K) K.length):: .obj gr (mobj keyR (mapM (fun r=>vS (ovE r L).1.1) S') S'.length):: []) ?_ ?_
   ·
    change MSub (.box g2 187 [.pointer (some ⟨gb,0,none⟩)]:: .box g5 34 [vS (foldA lab pre s1 &&& lab c)]:: .obj gl (mobj keyF (mapM (fun c=>vS (lab c)) K) K.length):: .obj gr (mobj keyR (mapM (fun r=>vS (ovE r L).1.1) S') S'.length):: .box gw 187 [.pointer (some ⟨gb,0,none⟩)]:: .box gq 33 (encR r):: .box gb 195 [gv,rv,nv,sl Ac K.length cap,.map (some gl),.map (some gr),.map (some ga)]:: .own Ac 51 2 K.length cap (K.flatMap encF)::(F++F2)) _
    exact mS
   ·
    rw [foldA_snoc]
  ·
   rintro D _ rfl
   change endB _ _ _ _ _ (dObj D:: .box g2 187 [.pointer (some ⟨gb,0,none⟩)]:: .box g5 34 [vS (foldA lab (K.filter fun c=>hasR r c) s1)]:: .obj gl (mobj keyF (mapM (fun c=>vS (lab c)) K) K.length):: .obj gr (mobj keyR (mapM (fun r=>vS (ovE r L).1.1) S') S'.length):: .box gw 187 [.pointer (some ⟨gb,0,none⟩)]:: .box gq 33 (encR r):: .box gb 195 [gv,rv,nv,sl Ac K.length cap,.map (some gl),.map (some gr),.map (some ga)]:: .own Ac 51 2 K.length cap (K.flatMap encF)::F)
   repeat' (first|refine sT ?_|refine sS ?_|refine sR ?_|refine sM fun _=> ?_|(refine sC ?_ ?_<;>intro hb<;>try omega)|(refine sCR ?_ ?_<;>intro hb<;>try omega)|fail)
   refine end_mark pK ?_
   exact ret1 eIO rfl rfl (H' := .box gb 195 [gv,rv,nv,sl Ac K.length cap,.map (some gl),.map (some gr),.map (some ga)]:: .own Ac 51 2 K.length cap (K.flatMap encF):: .obj gl (mobj keyF (mapM (fun c=>vS (lab c)) K) K.length):: .obj gr (mobj keyR (mapM (fun r=>vS (ovE r L).1.1) S') S'.length)::F) mS ⟨by rw [← andK_filter];rfl,rfl⟩
  ·
   rintro D HU h
   exact h.elim
set_option maxHeartbeats 8000000 in
theorem fto_in (u:Us) (gb gl gr ga:Nat) (gv rv nv:Value) (Ac:Option Nat) (cap:Nat) (K:List Rf) (L:List Rl) (N:List Gn) (hN:N.length≤1000000) (SA:List Ak) (w0:World) (F:List Blk) (hl: ∀ w',Mem w0 w' F→Reads w' rv L.length (L.flatMap encRl)) (hn: ∀ w',Mem w0 w' F→Reads w' nv N.length (N.flatMap encGn)):
  FnIn Tryz.prog 118 [.pointer (some ⟨gb,0,none⟩),.agg (encU u).toArray] w0 (.box gb 195 [gv,rv,nv,sl Ac K.length cap,.map (some gl),.map (some gr),.map (some ga)]:: .obj ga (mobj keyA (mapM (fun a=>vS (forE a.fn a.rect L N).1) SA) (SA).length)::F) fun v H' => ∃ S',(SA.Nodup→S'.Nodup)∧v=vS (if u.node<0 then 0#64 else (forE u.fn u.rect L N).1)∧H' = .box gb 195 [gv,rv,nv,sl Ac K.length cap,.map (some gl),.map (some gr),.map (some ga)]:: .obj ga (mobj keyA (mapM (fun a=>vS (forE a.fn a.rect L N).1) S') (S').length)::F:=by
 refine fn_in Tryz.func118 rfl Tryz.ntmps118 rfl ?_
 have h1:=fun (w' :World) (H:List Blk) (hs:MSub F H) (hm:Mem w0 w' H)=>For_at u.fn u.rect L N rv nv w' (hl w' (hs.use hm)) (hn w' (hs.use hm)) hN
 have hlook:=lookOk_map (fun a=>vS (forE a.fn a.rect L N).1) SA ⟨u.fn,u.rect⟩ (vS 0#64)
 have hnew:=fun h:(⟨u.fn,u.rect⟩:Ak)∉SA=>put_new (f:=fun a=>vS (forE a.fn a.rect L N).1) (v:=vS (forE u.fn u.rect L N).1) h
 have hup:=updV_self (f:=fun a:Ak=>vS (forE a.fn a.rect L N).1) (k:=⟨u.fn,u.rect⟩) rfl
 try dsimp only at hlook
 try dsimp only at hup
 obtain ⟨s1,hs1⟩: ∃ s,(forE u.fn u.rect L N).1=s:=⟨_,rfl⟩
 rw [hs1] at h1 hlook hnew hup ⊢
 generalize (forE u.fn u.rect L N).2.1=ps at h1
 generalize (forE u.fn u.rect L N).2.2=e at h1
 rw [hup] at hnew
 by_cases hr:(⟨u.fn,u.rect⟩:Ak)∈SA
 ·
  rw [if_pos hr,decide_eq_true hr] at hlook
  repeat' (first|((with_reducible apply wq_v (d:=20));exact rfl;(with_reducible apply v_lookupOk (enc:=keyA) (k:=⟨u.fn,u.rect⟩));exact rfl;exact rfl;exact pK;exact hlook)|refine sT ?_|refine sS ?_|refine sQ ?_|refine sD ?_|refine sM fun _=> ?_|(refine sC ?_ ?_<;>intro hb<;>try omega)|(refine sCQ ?_ ?_<;>intro hb<;>try omega)|fail)
  all_goals first
   |(exfalso;omega)
   |(rw [if_pos hb];exact ret1 eIO rfl rfl (H' := .box gb 195 [gv,rv,nv,sl Ac K.length cap,.map (some gl),.map (some gr),.map (some ga)]:: .obj ga (mobj keyA (mapM (fun a=>vS (forE a.fn a.rect L N).1) SA) (SA).length)::F) mS ⟨SA,fun h=>h,rfl,rfl⟩)
   |(rw [if_neg (by omega)];exact ret1 eIO rfl rfl (H' := .box gb 195 [gv,rv,nv,sl Ac K.length cap,.map (some gl),.map (some gr),.map (some ga)]:: .obj ga (mobj keyA (mapM (fun a=>vS (forE a.fn a.rect L N).1) SA) (SA).length)::F) mS ⟨_,fun h=>h,rfl,rfl⟩)
   |trace_state
 ·
  rw [if_neg hr,decide_eq_false hr] at hlook
  have hnew:=hnew hr
  rw [show SA.length+1=(SA++ [(⟨u.fn,u.rect⟩:Ak)]).length by simp] at hnew
  have hnd:SA.Nodup→(SA++ [(⟨u.fn,u.rect⟩:Ak)]).Nodup:=fun h=>List.nodup_append.2 ⟨h,List.pairwise_singleton _ _,fun a ha b hb e=>hr (by rw [List.mem_singleton.1 hb] at e;exact e ▸ ha)⟩
  generalize SA++ [(⟨u.fn,u.rect⟩:Ak)]=S2 at hnew hnd
  repeat' (first|((with_reducible apply w_drawC0 (id:=5) [12] []);kernel_rfl;kernel_rfl;kernel_rfl)|(rename_i g3;refine w_drawC (id:=6) [10] [] [.box g3 200 (encU u),.box gb 195 [gv,rv,nv,sl Ac K.length cap,.map (some gl),.map (some gr),.map (some ga)]] (by kernel_rfl) (by kernel_rfl) (by kernel_rfl) mS ?_)|((with_reducible apply wq_v (d:=20));exact rfl;(with_reducible apply v_lookupOk (enc:=keyA) (k:=⟨u.fn,u.rect⟩));exact rfl;exact rfl;exact pK;exact hlook)|((with_reducible apply wl_call (f:=184));exact rfl;exact rfl;(intro w' hm;exact h1 w' _ mS hm);rintro _ _ ⟨A2,cap2,rfl,rfl⟩)|((with_reducible apply wl_mapPut (enc:=keyA) (k:=⟨u.fn,u.rect⟩));(iterate 3 exact rfl);exact pK;rw [hnew])|refine sT ?_|refine sS ?_|refine sQ ?_|refine sW ?_|refine sD ?_|refine sM fun _=> ?_|(refine sC ?_ ?_<;>intro hb<;>try omega)|(refine sCQ ?_ ?_<;>intro hb<;>try omega)|(refine sCW ?_ ?_<;>intro hb<;>try omega)|fail)
  all_goals first
   |(exfalso;omega)
   |(rw [if_pos hb];exact ret1 eIO rfl rfl (H' := .box gb 195 [gv,rv,nv,sl Ac K.length cap,.map (some gl),.map (some gr),.map (some ga)]:: .obj ga (mobj keyA (mapM (fun a=>vS (forE a.fn a.rect L N).1) SA) (SA).length)::F) mS ⟨SA,fun h=>h,rfl,rfl⟩)
   |(rw [if_neg (by omega)];exact ret1 eIO rfl rfl (H' := .box gb 195 [gv,rv,nv,sl Ac K.length cap,.map (some gl),.map (some gr),.map (some ga)]:: .obj ga (mobj keyA (mapM (fun a=>vS (forE a.fn a.rect L N).1) S2) (S2).length)::F) mS ⟨_,hnd,rfl,rfl⟩)
   |trace_state
end Go.SL
namespace Go.SL
open Go
def pcL (x:BitVec 64):Nat:=((List.range 64).filter fun i=>x.getLsbD i).length
theorem filt_le {p q:Nat→Bool} (h: ∀ i,p i=true→q i=true): ∀ l:List Nat,(l.filter p).length≤(l.filter q).length
 | []=>Nat.le_refl _
 |a::l=>by
  have ih:=filt_le h l
  rw [List.filter_cons,List.filter_cons]
  cases hp:p a
  ·
   cases hq:q a<;>simp<;>omega
  ·
   rw [h a hp];simp;omega
theorem filt_lt {p q:Nat→Bool} (h: ∀ i,p i=true→q i=true) {j:Nat} (hp:p j=false) (hq:q j=true): ∀ {l:List Nat},j∈l→(l.filter p).length<(l.filter q).length
 | [],hj=>by cases hj
 |a::l,hj=>by
  have h1:=filt_le h l
  rw [List.filter_cons,List.filter_cons]
  rcases List.mem_cons.1 hj with rfl|hj
  ·
   rw [hp,hq];simp;omega
  ·
   have ih:=filt_lt h hp hq hj
   cases hpa:p a
   ·
    cases hqa:q a<;>simp<;>omega
   ·
    rw [h a hpa];simp;omega
theorem pc_le {x:BitVec 64}:pcL x≤64:=by
 have:=List.length_filter_le (fun i=>x.getLsbD i) (List.range 64)
 rw [List.length_range] at this
 exact this
theorem pc_lt {s x:BitVec 64} (h: ∀ i,s.getLsbD i=true→x.getLsbD i=true) (hne:s≠x):pcL s<pcL x:=by
 have: ∃ i,i<64∧s.getLsbD i≠x.getLsbD i:=Classical.byContradiction fun hn=>hne (BitVec.eq_of_getLsbD_eq fun i hi=>Classical.byContradiction fun h2=>hn ⟨i,hi,h2⟩)
 obtain ⟨i,hi,h1⟩:=this
 refine filt_lt h (j:=i) ?_ ?_ (List.mem_range.2 hi)
 ·
  cases h2:s.getLsbD i
  ·
   rfl
  ·
   exact absurd ((h2.trans (h i h2).symm)) h1
 ·
  cases h2:x.getLsbD i
  ·
   cases h3:s.getLsbD i
   ·
    exact absurd (h3.trans h2.symm) h1
   ·
    exact absurd ((h i h3).symm.trans h2) (by decide)
  ·
   rfl
def sumP (lab:Rf→BitVec 64) (K:List Rf):Nat:=(K.map fun c=>pcL (lab c)).sum
theorem sumP_max {lab:Rf→BitVec 64}: ∀ K:List Rf,sumP lab K≤64*K.length
 | []=>Nat.le_refl _
 |c::K=>by
  have h:=sumP_max (lab:=lab) K
  have h1:=pc_le (x:=lab c)
  simp only [sumP,List.map_cons,List.sum_cons,List.length_cons] at h ⊢
  omega
theorem sumP_le {lab:Rf→BitVec 64} {x:Rf} {s:BitVec 64} (hs:pcL s≤pcL (lab x)): ∀ K:List Rf,sumP (updL lab x s) K≤sumP lab K
 | []=>Nat.le_refl _
 |c::K=>by
  have h:=sumP_le hs K
  simp only [sumP,List.map_cons,List.sum_cons] at h ⊢
  by_cases e:c=x
  ·
   subst e;rw [updL_same];omega
  ·
   rw [updL_other e];omega
theorem sumP_lt {lab:Rf→BitVec 64} {x:Rf} {s:BitVec 64} (hs:pcL s<pcL (lab x)): ∀ {K:List Rf},x∈K→sumP (updL lab x s) K<sumP lab K
 | [],h=>by cases h
 |c::K,h=>by
  have h1:=sumP_le (Nat.le_of_lt hs) K
  by_cases e:c=x
  ·
   subst e
   simp only [sumP,List.map_cons,List.sum_cons] at h1 ⊢
   rw [updL_same];omega
  ·
   have h2:=sumP_lt hs (by rcases List.mem_cons.1 h with h|h;exact absurd h.symm e;exact h)
   simp only [sumP,List.map_cons,List.sum_cons] at h2 ⊢
   rw [updL_other e];omega
theorem stepL_bits {G:Gr} {w:Lw} {lab:Rf→BitVec 64} {U:List Us} {s:BitVec 64} (i:Nat) (h:(stepL G w lab U s).getLsbD i=true):s.getLsbD i=true:=(stepL_bit.1 h).1
end Go.SL
