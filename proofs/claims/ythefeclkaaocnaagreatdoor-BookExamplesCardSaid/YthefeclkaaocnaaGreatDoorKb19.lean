/-
  Lemmas and walks, put together: Hk Hl Sl34 Hm Sl35 Hn Ia Ho Pl4 Pl5 Pl6 Pf Sl36 Rj Rk Pl7 Rl Rm Rn Ro Hp Mp Hq Pf2 Hr Hs Ht Hu Hv Ib Ic Id.
-/
import Derived.Test.YthefeclkaaocnaaGreatDoorKb18
set_option linter.unusedSimpArgs false
set_option linter.unusedVariables false
set_option maxRecDepth 20000
namespace Go.SL
open Go Go.Proofs
attribute [local irreducible] W WL WQ WG WA WX WLI WR WT WC WE VOp RW thn blk cutP scp retP retPP endB FnAt FnIn FnP ceP
--
def checkZ (r:Rct) (L:List Rl):Int:=if rectOk r=false then 3 else (aclE 64 L).2
theorem checkZ_at (r:Rct) (L:List Rl) (lv:Value) (w:World) (hl:Reads w lv L.length (L.flatMap encRl)):Pure Tryz.prog 81 [.agg (encR r).toArray,lv] w (.int .i64 (checkZ r L)):=by
 refine fn_at Tryz.func81 rfl Tryz.ntmps81 rfl ?_
 have h1:=fun w=>rect_at r w
 have h2:=fun (w' :World) (H:List Blk) (hm:Mem w w' H)=>aclCheck_at 64 L lv w' (hl.of_w0 hm)
 unfold checkZ
 repeat' (first|((with_reducible apply wl_callp);exact rfl;exact rfl;(intro w hm;exact h1 w))|((with_reducible apply wl_callp (f:=51));exact rfl;exact rfl;(intro w' hm;exact h2 w' _ hm))|refine sT ?_|refine sM fun _=> ?_|(refine sC ?_ ?_<;>intro hb<;>try omega)|fail)
 all_goals first
  |(exfalso;omega)
  |((refine rT1 ?_);rw [if_pos (rectE_bad hb)];done)
  |((refine rT1 ?_);rw [if_neg (rectE_good hb)];done)
  |trace_state
def ovE (r:Rct) (L:List Rl):(BitVec 64 × BitVec 64 × BitVec 64) × Int:=
 if checkZ r L≠0 then ((0#64,0#64,0#64),checkZ r L) else ((ovBy (fun x=>x.read) r L,ovBy (fun x=>x.write) r L,ovBy (fun x=>x.own) r L),0)
theorem checkZ_ok {r:Rct} {L:List Rl} (h: ¬ checkZ r L≠0):rectOk r=true∧L≠ []∧L.length≤64:=by
 unfold checkZ at h
 split at h
 ·
  exact absurd (by decide) h
 ·
  rename_i hr
  refine ⟨by simpa using hr,?_⟩
  unfold aclE at h
  split at h
  ·
   exact absurd (by decide) h
  ·
   rename_i h1
   have hn:L≠ []:=fun e=>h1 (.inr (.inr (.inr e)))
   split at h
   ·
    exact absurd (by decide) h
   ·
    exact ⟨hn,by omega⟩
def byN (f:Rl→BitVec 64) (L:List Rl) (p:Pz):BitVec 64:=(L[p.a]?.map f).getD 0#64
theorem ovBy_eq (f:Rl→BitVec 64) (r:Rct) (L:List Rl):ovBy f r L=andS ((partsF r L []).map (byN f L)):=rfl
set_option maxHeartbeats 16000000 in
theorem Over_at (r:Rct) (L:List Rl) (lv:Value) (w:World) (hl:Reads w lv L.length (L.flatMap encRl)):
  Pure Tryz.prog 30 [.agg (encR r).toArray,lv] w (.tuple #[.agg #[vS (ovE r L).1.1,vS (ovE r L).1.2.1,vS (ovE r L).1.2.2],.int .i64 (ovE r L).2]):=by
 refine fn_at Tryz.func30 rfl Tryz.ntmps30 rfl ?_
 have hck:=fun (w' :World) (H:List Blk) (hm:Mem w w' H)=>checkZ_at r L lv w' (hl.of_w0 hm)
 unfold ovE
 by_cases hc:checkZ r L≠0
 ·
  rw [if_pos hc]
  repeat' (first|((with_reducible apply wl_callp (f:=81));exact rfl;exact rfl;(intro w' hm;exact hck w' _ hm))|refine sT ?_|refine sT2 ?_|refine sM fun _=> ?_|(refine sC ?_ ?_<;>intro hb<;>try omega)|fail)
  all_goals first
   |(exfalso;omega)
   |((refine eRCT ?_);rfl)
   |trace_state
 rw [if_neg hc]
 obtain ⟨hr,hne,hlen⟩:=checkZ_ok hc
 have hP:=fun (w' :World) (H:List Blk) (hm:Mem w w' H)=>parts_at r hr L [] lv (.slice none 0 0) w' (hl.of_w0 hm) (reads_nil w') (by omega) (by simp)
 have hpa: ∀ p∈partsF r L [],p.a<L.length:=fun p hp=>by
  have h1:p.a∈(partsF r L []).map (·.a):=List.mem_map.2 ⟨p,hp,rfl⟩
  obtain ⟨y,x,_,h2⟩:=parts_a.1 h1
  rw [h2]
  exact whichF_lt hne
 have hpl:(partsF r L []).length≤1000000:=by
  have h1:=rowsTo_len (A:=L) (B:= []) (xs:=bandsF r.c1 r.c2 (colsOf r L++colsOf r [])) (bandsF r.r1 r.r2 (rowsOf r L++rowsOf r []))
  have h2:=bandsF_len r.c1 r.c2 (colsOf r L++colsOf r [])
  have h3:=bandsF_len r.r1 r.r2 (rowsOf r L++rowsOf r [])
  have h4:=colsOf_len r L
  have h5:=colsOf_len r []
  have h6:=rowsOf_len r L
  have h7:=rowsOf_len r []
  rw [List.length_append] at h2 h3
  rw [List.length_nil] at h5 h7
  exact Nat.le_trans h1 (Nat.le_trans (Nat.mul_le_mul (show _≤801 by omega) (show _≤801 by omega)) (by decide))
 rw [ovBy_eq,ovBy_eq,ovBy_eq]
 have hc0:checkZ r L=0:=by omega
 rw [hc0] at hck
 generalize partsF r L []=PZ at hP hpa hpl ⊢
 refine w_nilrow 34 1 ?_
 refine w_nilrow 34 1 ?_
 refine w_nilrow 34 1 ?_
 repeat' (first|((with_reducible apply wl_callp (f:=81));exact rfl;exact rfl;(intro w' hm;exact hck w' _ hm))|((with_reducible apply wl_call (f:=82));exact rfl;exact rfl;(intro w' hm;exact hP w' _ hm);rintro _ _ ⟨Ap,cp,rfl,rfl⟩)|refine sT ?_|refine sS ?_|refine sT2 ?_|refine sM fun _=> ?_|(refine sC ?_ ?_<;>intro hb<;>try omega)|fail)
 all_goals first|(exfalso;omega)|skip
 rename_i g2 g4
 refine w_loopK [1,4,22,23] rfl (fun y:Nat × (Option Nat × Nat) × (Option Nat × Nat) × (Option Nat × Nat)=> [(7,sl y.2.1.1 y.1 y.2.1.2),(8,sl y.2.2.1.1 y.1 y.2.2.1.2),(9,sl y.2.2.2.1 y.1 y.2.2.2.2),(24,.int .i64 (y.1:Int))]) (fun y=> .own y.2.1.1 34 1 y.1 y.2.1.2 (((PZ.take y.1).map (byN (fun x=>x.read) L)).map vS):: .own y.2.2.1.1 34 1 y.1 y.2.2.1.2 (((PZ.take y.1).map (byN (fun x=>x.write) L)).map vS):: .own y.2.2.2.1 34 1 y.1 y.2.2.2.2 (((PZ.take y.1).map (byN (fun x=>x.own) L)).map vS):: .own Ap 145 6 PZ.length cp (PZ.flatMap encPz):: .box g4 36 [vS 0#64,vS 0#64,vS 0#64]:: []) (fun y=>y.1≤PZ.length) (fun y=>PZ.length - y.1) (0,(none,0),(none,0),(none,0)) (Nat.zero_le _) sB mS ?_
 rintro ⟨i,⟨A7,c7⟩,⟨A8,c8⟩,⟨A9,c9⟩⟩ hi
 dsimp only at hi ⊢
 by_cases hlt:i<PZ.length
 ·
  refine w_some (A:=Ap) pK (by omega) fun gp hAp=> ?_
  subst hAp
  have hrd:((PZ.flatMap encPz).drop (0+i*6)).take 6=encPz PZ[i]:=by rw [Nat.zero_add];exact flat_elem encPz_len PZ i hlt
  have hpi:=hpa _ (List.getElem_mem hlt)
  have hsr: ∀ f:Rl→BitVec 64,((PZ.take (i+1)).map (byN f L)).map vS=((PZ.take i).map (byN f L)).map vS++ [vS (f (L[PZ[i].a]'hpi))]:=fun f=>by
   rw [List.take_succ_eq_append_getElem hlt,List.map_append,List.map_append]
   simp [byN,hpi]
  generalize PZ[i]=p at hrd hpi hsr
  have hl' :=hl
  obtain ⟨Al,cl,hlv,hl1,hl2,hl3⟩:=hl'
  subst hlv
  obtain ⟨gl,ol,rfl,hrl⟩:=hl3 (by omega)
  obtain ⟨_,_,_,_,hrr⟩:=Rl.ro (hrl.elem encRl_len p.a hpi)
  generalize L[p.a]'hpi=x at hrr hsr
  repeat' (first|((with_reducible apply wl_v (d:=26));exact rfl;(with_reducible apply v_indexAddr (j:=i));exact rfl;exact rfl;exact hlt)|((with_reducible apply wl_v (d:=27));exact rfl;(with_reducible apply v_loads_own (ys:=encPz p));exact rfl;exact pK;exact hrd;exact rfl)|((with_reducible apply wl_v (d:=32));exact rfl;(with_reducible apply v_indexAddr (j:=p.a));exact rfl;exact rfl;exact hpi)|refine sT ?_|refine sS ?_|refine sT2 ?_|refine sN ?_|refine sO ?_|refine sM fun _=> ?_|(refine sC ?_ ?_<;>intro hb<;>try omega)|fail)
  all_goals first|(exfalso;omega)|skip
  rename_i g11 g12
  refine w_drawE (id:=9) [3,4,8,9,13,14] [.box g12 36 [vS x.read,vS x.write,vS x.own]] 18 rfl rfl mS ?_
  repeat' (first|((with_reducible apply we_v (i:=0));(iterate 4 exact rfl);decide+kernel;decide+kernel;decide+kernel;(exact vC))|((with_reducible apply we_v (i:=1));(iterate 4 exact rfl);decide+kernel;decide+kernel;decide+kernel;(exact vC))|((with_reducible apply we_v (i:=2));(iterate 4 exact rfl);decide+kernel;decide+kernel;decide+kernel;(exact vC))|((with_reducible apply we_v (i:=5));(iterate 4 exact rfl);decide+kernel;decide+kernel;decide+kernel;(exact vC))|((with_reducible apply we_v (i:=6));(iterate 4 exact rfl);decide+kernel;decide+kernel;decide+kernel;(exact vC))|((with_reducible apply we_v (i:=7));(iterate 4 exact rfl);decide+kernel;decide+kernel;decide+kernel;(exact vC))|((with_reducible apply we_v (i:=10));(iterate 4 exact rfl);decide+kernel;decide+kernel;decide+kernel;(exact vC))|((with_reducible apply we_v (i:=11));(iterate 4 exact rfl);decide+kernel;decide+kernel;decide+kernel;(exact vC))|((with_reducible apply we_v (i:=12));(iterate 4 exact rfl);decide+kernel;decide+kernel;decide+kernel;(exact vC))|((with_reducible apply we_v (i:=15));(iterate 4 exact rfl);decide+kernel;decide+kernel;decide+kernel;((with_reducible apply v_assign);exact rfl))|((with_reducible apply we_v (i:=16));(iterate 4 exact rfl);decide+kernel;decide+kernel;decide+kernel;((with_reducible apply v_assign);exact rfl))|((with_reducible apply we_v (i:=17));(iterate 4 exact rfl);decide+kernel;decide+kernel;decide+kernel;((with_reducible apply v_assign);exact rfl))|((with_reducible apply we_three (i:=3) (j:=8) (k:=13));(iterate 9 exact rfl);decide+kernel)|((with_reducible apply we_three (i:=4) (j:=8) (k:=13));(iterate 9 exact rfl);decide+kernel)|((with_reducible apply we_two (i:=3) (j:=13));(iterate 6 exact rfl);decide+kernel)|((with_reducible apply we_two (i:=3) (j:=8));(iterate 6 exact rfl);decide+kernel)|((with_reducible apply we_two (i:=8) (j:=13));(iterate 6 exact rfl);decide+kernel)|((with_reducible apply we_two (i:=4) (j:=13));(iterate 6 exact rfl);decide+kernel)|((with_reducible apply we_two (i:=4) (j:=8));(iterate 6 exact rfl);decide+kernel)|((with_reducible apply we_two (i:=9) (j:=13));(iterate 6 exact rfl);decide+kernel)|((with_reducible apply we_one (i:=3));(iterate 3 exact rfl);decide+kernel)|((with_reducible apply we_one (i:=4));(iterate 3 exact rfl);decide+kernel)|((with_reducible apply we_one (i:=8));(iterate 3 exact rfl);decide+kernel)|((with_reducible apply we_one (i:=9));(iterate 3 exact rfl);decide+kernel)|((with_reducible apply we_one (i:=13));(iterate 3 exact rfl);decide+kernel)|((with_reducible apply we_one (i:=14));(iterate 3 exact rfl);decide+kernel)|((with_reducible apply wl_append (d:=39) (A:=A7) (m:=1));(iterate 3 exact rfl);exact pK;(intro w hm;exact hm.cells_own pK);exact rfl;(simp [Value.oneCell',sl]);omega;(simp only [maxLen];omega);(intro B7 b7 hB7))|((with_reducible apply wl_append (d:=44) (A:=A8) (m:=1));(iterate 3 exact rfl);exact pK;(intro w hm;exact hm.cells_own pK);exact rfl;(simp [Value.oneCell',sl]);omega;(simp only [maxLen];omega);(intro B8 b8 hB8))|((with_reducible apply wl_append (d:=49) (A:=A9) (m:=1));(iterate 3 exact rfl);exact pK;(intro w hm;exact hm.cells_own pK);exact rfl;(simp [Value.oneCell',sl]);omega;(simp only [maxLen];omega);(intro B9 b9 hB9))|((with_reducible apply we_done);decide+kernel)|((with_reducible apply ce_n);(focus (exact mS;done)))|refine sT ?_|refine sS ?_|refine sT2 ?_|refine sN ?_|refine sM fun _=> ?_|(refine sC ?_ ?_<;>intro hb<;>try omega)|fail)
  all_goals first
   |(exfalso;omega)
   |(refine ⟨(i+1,(B7,b7),(B8,b8),(B9,b9)),hlt,by dsimp only;omega,by exact sB,by exact sB,?_⟩;dsimp only;rw [hsr,hsr,hsr];exact mS)
   |trace_state
 ·
  have e:i=PZ.length:=by omega
  subst e
  rw [List.take_length]
  have hM:=fun (f:Rl→BitVec 64) (w' :World) (lv:Value) (h:Reads w' lv PZ.length ((PZ.map (byN f L)).map vS))=>Meet18_at (PZ.map (byN f L)) lv w' (by rw [List.length_map];exact h)
  repeat' (first|((with_reducible apply wl_callp (d:=52));exact rfl;exact rfl;(intro w' hm;exact hM (fun x=>x.read) w' _ (Reads.of_own (A:=A7) hm pK)))|((with_reducible apply wl_callp (d:=54));exact rfl;exact rfl;(intro w' hm;exact hM (fun x=>x.write) w' _ (Reads.of_own (A:=A8) hm pK)))|((with_reducible apply wl_callp (d:=56));exact rfl;exact rfl;(intro w' hm;exact hM (fun x=>x.own) w' _ (Reads.of_own (A:=A9) hm pK)))|refine sT ?_|refine sS ?_|refine sT2 ?_|refine sM fun _=> ?_|(refine sC ?_ ?_<;>intro hb<;>try omega)|fail)
  all_goals first
   |(exfalso;omega)
   |((refine eRCT ?_);rfl)
   |trace_state
end Go.SL
namespace Go.SL
open Go Go.Proofs
structure Cl where
 at_:Rf
 node:Int
structure Ev where
 step:Int
 user:Int
 kind:Int
 rect:Rct
 done:Bool
 to:BitVec 64
def encEv (x:Ev):List Value:= [.int .i64 x.step,.int .i64 x.user,.int .u8 x.kind,.int .i64 x.rect.c1,.int .i64 x.rect.r1,.int .i64 x.rect.c2,.int .i64 x.rect.r2,.bool x.done,vS x.to]
theorem encEv_len (x:Ev):(encEv x).length=9:=rfl
structure Rv where
 step:Int
 call:Cl
 fn:Int
 rect:Rct
 grant:Int
 to:BitVec 64
def encRv (x:Rv):List Value:= [.int .i64 x.step,.int .i64 x.call.at_.col,.int .i64 x.call.at_.row,.int .i64 x.call.node,.int .u8 x.fn,.int .i64 x.rect.c1,.int .i64 x.rect.r1,.int .i64 x.rect.c2,.int .i64 x.rect.r2,.int .i64 x.grant,vS x.to]
theorem encRv_len (x:Rv):(encRv x).length=11:=rfl
structure Ox where
 kind:Int
 user:Int
 rect:Rct
 input:ByteArray
 rd:BitVec 64
 wr:BitVec 64
 ow:BitVec 64
 fns:Int
 to:BitVec 64
 idx:Int
def encOx (x:Ox):List Value:= [.int .u8 x.kind,.int .i64 x.user,.int .i64 x.rect.c1,.int .i64 x.rect.r1,.int .i64 x.rect.c2,.int .i64 x.rect.r2,.string x.input,vS x.rd,vS x.wr,vS x.ow,.int .u8 x.fns,vS x.to,.int .i64 x.idx]
theorem set_eqI (x y:BitVec 64):((x.toNat:Int)=(y.toNat:Int))=(x=y):=propext ⟨fun h=>BitVec.eq_of_toNat_eq (by omega),fun h=>h ▸ rfl⟩
theorem set_eqN (x y:BitVec 64):(x.toNat=y.toNat)=(x=y):=propext ⟨fun h=>BitVec.eq_of_toNat_eq h,fun h=>h ▸ rfl⟩
theorem run_eqRt (w:World) (d:Nat) (a1 a2 a3 b1 b2 b3:BitVec 64):(Op.equalIn (d+3) 36 (.agg #[.int .u64 (a1.toNat:Int),.int .u64 (a2.toNat:Int),.int .u64 (a3.toNat:Int)]) (.agg #[.int .u64 (b1.toNat:Int),.int .u64 (b2.toNat:Int),.int .u64 (b3.toNat:Int)])).run Tryz.prog w= .ok (decide (a1=b1) && decide (a2=b2) && decide (a3=b3)) w:=by
 rw [run_equalIn_agg w (d+2) 36 _ _ (by rw [Program.fieldsOf,Tryz.underlying36]) Tryz.stoodInHeld36]
 simp only [Program.fieldsOf,Tryz.underlying36]
 simp [Op.eqFields,part,go_sem,beqL,beqI,set_eqI,set_eqN]
 by_cases h1:a1=b1
 rotate_left
 ·
  simp [h1]
 by_cases h2:a2=b2
 rotate_left
 ·
  simp [h1,h2]
 by_cases h3:a3=b3<;>simp [h1,h2,h3]
def eqGn (a b:Gn):Bool:=eqR a.rect b.rect && decide (a.fns=b.fns) && decide (a.to=b.to) && decide (a.by_=b.by_) && decide (a.rev=b.rev)
theorem eqGn_iff {a b:Gn}:eqGn a b=true↔a=b:=by
 obtain ⟨a0,a1,a2,a3,a4⟩:=a
 obtain ⟨b0,b1,b2,b3,b4⟩:=b
 simp [eqGn,eqR_iff,eqF_iff,and_assoc]
instance:DecidableEq Gn:=fun a b=>decidable_of_iff (eqGn a b=true) eqGn_iff
theorem eqGn_dec (a b:Gn):eqGn a b=decide (a=b):=by
 rw [Bool.eq_iff_iff,eqGn_iff,decide_eq_true_iff]
theorem run_eqGn (w:World) (d:Nat) (a b:Gn):(Op.equalIn (d+5) 56 (.agg (encGn a).toArray) (.agg (encGn b).toArray)).run Tryz.prog w= .ok (eqGn a b) w:=by
 rw [run_equalIn_agg w (d+4) 56 _ _ (by rw [Program.fieldsOf,Tryz.underlying56]) Tryz.stoodInHeld56]
 simp only [Program.fieldsOf,Tryz.underlying56]
 have hq_R: ∀ w,(Op.equalIn (d+4) 33 (.agg #[.int .i64 a.rect.c1,.int .i64 a.rect.r1,.int .i64 a.rect.c2,.int .i64 a.rect.r2]) (.agg #[.int .i64 b.rect.c1,.int .i64 b.rect.r1,.int .i64 b.rect.c2,.int .i64 b.rect.r2])).run Tryz.prog w= .ok (eqR a.rect b.rect) w:=fun w=>run_eqR w (d+1) a.rect b.rect
 simp [Op.eqFields,encGn,vS,part,go_sem,beqL,beqI,set_eqI,set_eqN,eqGn,hq_R]
 by_cases h1:eqR a.rect b.rect=true
 rotate_left
 ·
  simp [h1]
 by_cases h2:a.fns=b.fns
 rotate_left
 ·
  simp [h1,h2]
 by_cases h3:a.to=b.to
 rotate_left
 ·
  simp [h1,h2,h3]
 by_cases h4:a.by_=b.by_
 rotate_left
 ·
  simp [h1,h2,h3,h4]
 by_cases h5:a.rev=b.rev
 rotate_left
 ·
  simp [h1,h2,h3,h4,h5]
 simp [h1,h2,h3,h4,h5]
def eqEv (a b:Ev):Bool:=decide (a.step=b.step) && decide (a.user=b.user) && decide (a.kind=b.kind) && eqR a.rect b.rect && decide (a.done=b.done) && decide (a.to=b.to)
theorem eqEv_iff {a b:Ev}:eqEv a b=true↔a=b:=by
 obtain ⟨a0,a1,a2,a3,a4,a5⟩:=a
 obtain ⟨b0,b1,b2,b3,b4,b5⟩:=b
 simp [eqEv,eqR_iff,eqF_iff,and_assoc]
instance:DecidableEq Ev:=fun a b=>decidable_of_iff (eqEv a b=true) eqEv_iff
theorem eqEv_dec (a b:Ev):eqEv a b=decide (a=b):=by
 rw [Bool.eq_iff_iff,eqEv_iff,decide_eq_true_iff]
theorem run_eqEv (w:World) (d:Nat) (a b:Ev):(Op.equalIn (d+5) 48 (.agg (encEv a).toArray) (.agg (encEv b).toArray)).run Tryz.prog w= .ok (eqEv a b) w:=by
 rw [run_equalIn_agg w (d+4) 48 _ _ (by rw [Program.fieldsOf,Tryz.underlying48]) Tryz.stoodInHeld48]
 simp only [Program.fieldsOf,Tryz.underlying48]
 have hq_R: ∀ w,(Op.equalIn (d+4) 33 (.agg #[.int .i64 a.rect.c1,.int .i64 a.rect.r1,.int .i64 a.rect.c2,.int .i64 a.rect.r2]) (.agg #[.int .i64 b.rect.c1,.int .i64 b.rect.r1,.int .i64 b.rect.c2,.int .i64 b.rect.r2])).run Tryz.prog w= .ok (eqR a.rect b.rect) w:=fun w=>run_eqR w (d+1) a.rect b.rect
 simp [Op.eqFields,encEv,vS,part,go_sem,beqL,beqI,set_eqI,set_eqN,eqEv,hq_R]
 by_cases h1:a.step=b.step
 rotate_left
 ·
  simp [h1]
 by_cases h2:a.user=b.user
 rotate_left
 ·
  simp [h1,h2]
 by_cases h3:a.kind=b.kind
 rotate_left
 ·
  simp [h1,h2,h3]
 by_cases h4:eqR a.rect b.rect=true
 rotate_left
 ·
  simp [h1,h2,h3,h4]
 by_cases h5:a.done=b.done
 rotate_left
 ·
  simp [h1,h2,h3,h4,h5]
 by_cases h6:a.to=b.to
 rotate_left
 ·
  simp [h1,h2,h3,h4,h5,h6]
 simp [h1,h2,h3,h4,h5,h6]
def eqOx (a b:Ox):Bool:=decide (a.kind=b.kind) && decide (a.user=b.user) && eqR a.rect b.rect && decide (a.input=b.input) && (decide (a.rd=b.rd) && decide (a.wr=b.wr) && decide (a.ow=b.ow)) && decide (a.fns=b.fns) && decide (a.to=b.to) && decide (a.idx=b.idx)
theorem eqOx_iff {a b:Ox}:eqOx a b=true↔a=b:=by
 obtain ⟨a0,a1,a2,a3,a4,a5,a6,a7,a8,a9⟩:=a
 obtain ⟨b0,b1,b2,b3,b4,b5,b6,b7,b8,b9⟩:=b
 simp [eqOx,eqR_iff,eqF_iff,and_assoc]
instance:DecidableEq Ox:=fun a b=>decidable_of_iff (eqOx a b=true) eqOx_iff
theorem run_eqOx (w:World) (d:Nat) (a b:Ox):(Op.equalIn (d+5) 41 (.agg (encOx a).toArray) (.agg (encOx b).toArray)).run Tryz.prog w= .ok (eqOx a b) w:=by
 rw [run_equalIn_agg w (d+4) 41 _ _ (by rw [Program.fieldsOf,Tryz.underlying41]) Tryz.stoodInHeld41]
 simp only [Program.fieldsOf,Tryz.underlying41]
 have hq_R: ∀ w,(Op.equalIn (d+4) 33 (.agg #[.int .i64 a.rect.c1,.int .i64 a.rect.r1,.int .i64 a.rect.c2,.int .i64 a.rect.r2]) (.agg #[.int .i64 b.rect.c1,.int .i64 b.rect.r1,.int .i64 b.rect.c2,.int .i64 b.rect.r2])).run Tryz.prog w= .ok (eqR a.rect b.rect) w:=fun w=>run_eqR w (d+1) a.rect b.rect
 have hq_T: ∀ w,(Op.equalIn (d+4) 36 (.agg #[.int .u64 (a.rd.toNat:Int),.int .u64 (a.wr.toNat:Int),.int .u64 (a.ow.toNat:Int)]) (.agg #[.int .u64 (b.rd.toNat:Int),.int .u64 (b.wr.toNat:Int),.int .u64 (b.ow.toNat:Int)])).run Tryz.prog w= .ok (decide (a.rd=b.rd) && decide (a.wr=b.wr) && decide (a.ow=b.ow)) w:=fun w=>run_eqRt w (d+1) a.rd a.wr a.ow b.rd b.wr b.ow
 simp [Op.eqFields,encOx,vS,part,go_sem,beqL,beqI,set_eqI,set_eqN,eqOx,hq_R,hq_T]
 by_cases h1:a.kind=b.kind
 rotate_left
 ·
  simp [h1]
 by_cases h2:a.user=b.user
 rotate_left
 ·
  simp [h1,h2]
 by_cases h3:eqR a.rect b.rect=true
 rotate_left
 ·
  simp [h1,h2,h3]
 by_cases h4:a.input=b.input
 rotate_left
 ·
  simp [h1,h2,h3,h4]
 by_cases h5:a.rd=b.rd
 rotate_left
 ·
  simp [h1,h2,h3,h4,h5]
 by_cases h6:a.wr=b.wr
 rotate_left
 ·
  simp [h1,h2,h3,h4,h5,h6]
 by_cases h7:a.ow=b.ow
 rotate_left
 ·
  simp [h1,h2,h3,h4,h5,h6,h7]
 by_cases h8:a.fns=b.fns
 rotate_left
 ·
  simp [h1,h2,h3,h4,h5,h6,h7,h8]
 by_cases h9:a.to=b.to
 rotate_left
 ·
  simp [h1,h2,h3,h4,h5,h6,h7,h8,h9]
 by_cases h10:a.idx=b.idx
 rotate_left
 ·
  simp [h1,h2,h3,h4,h5,h6,h7,h8,h9,h10]
 simp [h1,h2,h3,h4,h5,h6,h7,h8,h9,h10]
section
variable {w0:World} {s:Slots} {H:List Blk} {ty t' :TypeId} {x y:Operand}
theorem v_neqGn {a b:Gn} (hx:ev s x=some (.agg (encGn a).toArray)) (hy:ev s y=some (.agg (encGn b).toArray)):VOp Tryz.prog w0 s H (.binOp .neq 56 x y t') ty (.bool (!eqGn a b)):=fun ρ w _ _ _ _ hρ _=>by
 have h:=run_eqGn w 9995 a b
 simp only [Nat.reduceAdd] at h
 simp only [execOp,hρ x _ hx,hρ y _ hy,Sem.run_bind,run_eqGuard_agg w _ _ _ _ _ _ Tryz.eqGuardType56,Result.andThen_ok,run_neq_struct,h,Sem.run_pure]
theorem v_neqEv {a b:Ev} (hx:ev s x=some (.agg (encEv a).toArray)) (hy:ev s y=some (.agg (encEv b).toArray)):VOp Tryz.prog w0 s H (.binOp .neq 48 x y t') ty (.bool (!eqEv a b)):=fun ρ w _ _ _ _ hρ _=>by
 have h:=run_eqEv w 9995 a b
 simp only [Nat.reduceAdd] at h
 simp only [execOp,hρ x _ hx,hρ y _ hy,Sem.run_bind,run_eqGuard_agg w _ _ _ _ _ _ Tryz.eqGuardType48,Result.andThen_ok,run_neq_struct,h,Sem.run_pure]
theorem v_neqOx {a b:Ox} (hx:ev s x=some (.agg (encOx a).toArray)) (hy:ev s y=some (.agg (encOx b).toArray)):VOp Tryz.prog w0 s H (.binOp .neq 41 x y t') ty (.bool (!eqOx a b)):=fun ρ w _ _ _ _ hρ _=>by
 have h:=run_eqOx w 9995 a b
 simp only [Nat.reduceAdd] at h
 simp only [execOp,hρ x _ hx,hρ y _ hy,Sem.run_bind,run_eqGuard_agg w _ _ _ _ _ _ Tryz.eqGuardType41,Result.andThen_ok,run_neq_struct,h,Sem.run_pure]
end
theorem encRls_one (L:List Rl): ∀ u∈L.flatMap encRl,u.oneCell' =true:=fun u hu=>by
 obtain ⟨a,_,h⟩:=List.mem_flatMap.1 hu
 simp only [encRl,List.mem_cons,List.not_mem_nil,or_false] at h
 rcases h with rfl|rfl|rfl|rfl|rfl|rfl|rfl<;>rfl
theorem encEvs_one (L:List Ev): ∀ u∈L.flatMap encEv,u.oneCell' =true:=fun u hu=>by
 obtain ⟨a,_,h⟩:=List.mem_flatMap.1 hu
 simp only [encEv,List.mem_cons,List.not_mem_nil,or_false] at h
 rcases h with rfl|rfl|rfl|rfl|rfl|rfl|rfl|rfl|rfl<;>rfl
theorem encRvs_one (L:List Rv): ∀ u∈L.flatMap encRv,u.oneCell' =true:=fun u hu=>by
 obtain ⟨a,_,h⟩:=List.mem_flatMap.1 hu
 simp only [encRv,List.mem_cons,List.not_mem_nil,or_false] at h
 rcases h with rfl|rfl|rfl|rfl|rfl|rfl|rfl|rfl|rfl|rfl|rfl<;>rfl
end Go.SL
namespace Go.SL
open Go Go.Proofs
attribute [local irreducible] W WL WQ WG WA WX WLI WR WT WC WE VOp RW thn blk cutP scp retP retPP endB FnAt FnIn FnP ceP
structure Rdr (gg:Nat) (G:Gr) (B:List Blk) (w0:World):Prop where
 g:GrOk G
 l:G.length≤900
 ur: ∀ r H,MSub B H→FnIn Tryz.prog 139 [.pointer (some ⟨gg,0,none⟩),.agg (encR r).toArray] w0 H fun v H' => ∃ A cap,v=sl A (usersG G r).length cap∧H' = .own A 51 2 (usersG G r).length cap ((usersG G r).flatMap encF)::H
 fm: ∀ H,MSub B H→FnIn Tryz.prog 34 [.pointer (some ⟨gg,0,none⟩)] w0 H fun v H' => ∃ A cap,v=sl A (keysG G).length cap∧H' = .own A 51 2 (keysG G).length cap ((keysG G).flatMap encF)::H
 us: ∀ d H,MSub B H→FnIn Tryz.prog 42 [.pointer (some ⟨gg,0,none⟩),keyF d] w0 H fun v H' => ∃ A cap,v=sl A (usesG G d).length cap∧H' = .own A 100 6 (usesG G d).length cap ((usesG G d).flatMap encU)::H
end Go.SL
namespace Go.SL
open Go
def bandsC (lo hi:Int) (ps:List (Int × Int)):List (Int × Int):=pairsI ((cmpN (insortI (beginsI lo ps))).filter fun x=>decide (lo≤x) && decide (x≤hi)) hi
theorem bandsC_eq:bandsF=bandsC:=by funext lo hi ps;unfold bandsF bandsC cutsI;rw [sortI_eq]
def partsC (r:Rct) (A B:List Rl):List Pz:=(bandsC r.r1 r.r2 (rowsOf r A++rowsOf r B)).flatMap fun y=>rowZ A B y (bandsC r.c1 r.c2 (colsOf r A++colsOf r B))
theorem partsC_eq:partsF=partsC:=by funext r A B;unfold partsF partsC;rw [bandsC_eq]
def ovByC (f:Rl→BitVec 64) (r:Rct) (L:List Rl):BitVec 64:=andS ((partsC r L []).map fun p=>(L[p.a]?.map f).getD 0#64)
theorem ovByC_eq:ovBy=ovByC:=by funext f r L;unfold ovBy ovByC;rw [partsC_eq]
def ovC (r:Rct) (L:List Rl):(BitVec 64 × BitVec 64 × BitVec 64) × Int:=
 if checkZ r L≠0 then ((0#64,0#64,0#64),checkZ r L) else ((ovByC (fun x=>x.read) r L,ovByC (fun x=>x.write) r L,ovByC (fun x=>x.own) r L),0)
theorem ovC_eq:ovE=ovC:=by funext r L;unfold ovE ovC;rw [ovByC_eq]
def bkR:List Rl:= [⟨⟨1,1,1024,1024⟩,7#64,7#64,1#64⟩,⟨⟨2,1,2,3⟩,1#64,1#64,1#64⟩]
def bkN:List Gn:= [⟨⟨2,1,2,3⟩,1,2#64,0,false⟩]
set_option maxRecDepth 100000
end Go.SL
namespace Go.SL
open Go Go.Proofs
attribute [local irreducible] W WL WQ WG WA WX WLI WR WT WC WE VOp RW thn blk cutP scp retP retPP endB FnAt FnIn FnP ceP bodyB assignQ roundQ
def flowL:List Et:= [⟨⟨1,1⟩,⟨#[53]⟩⟩,⟨⟨2,1⟩,⟨#[49,48]⟩⟩,⟨⟨1,2⟩,inB⟩,⟨⟨2,2⟩,⟨#[50,48]⟩⟩,⟨⟨1,3⟩,inC⟩,⟨⟨1,4⟩,inD⟩]
theorem sheet19_at (w:World):Pure Tryz.prog 105 [] w (.agg (encR ⟨1,1,1024,1024⟩).toArray):=by
 refine fn_at Tryz.func105 rfl Tryz.ntmps105 rfl ?_
 repeat' (first|refine sT ?_|refine sM fun _=> ?_|(refine sC ?_ ?_<;>intro hb<;>try omega)|fail)
 (refine eRC ?_)
 rfl
set_option maxHeartbeats 4000000 in
theorem Book27_at (w:World):FnAt Tryz.prog 49 [] w fun v H=> ∃ ge gr gn,v= .tuple #[.slice (some ⟨ge,0,none⟩) 6 6,.slice (some ⟨gr,0,none⟩) 2 2,.slice (some ⟨gn,0,none⟩) 1 1]∧H= [.own (some ge) 53 3 6 6 (flowL.flatMap encEt),.own (some gr) 38 7 2 2 (bkR.flatMap encRl),.own (some gn) 56 8 1 1 (bkN.flatMap encGn)]:=by
 refine fn_at Tryz.func49 rfl Tryz.ntmps49 rfl ?_
 repeat' (first|((with_reducible apply w_drawC0 (id:=3) [0,6] []);kernel_rfl;kernel_rfl;kernel_rfl)|((with_reducible apply w_drawC0 (id:=4) [4] []);kernel_rfl;kernel_rfl;kernel_rfl)|((with_reducible apply wl_callp (f:=105));exact rfl;exact rfl;(intro w' _;exact sheet19_at w'))|refine sT ?_|refine sS ?_|refine sW ?_|refine sM fun _=> ?_|(refine sC ?_ ?_<;>intro hb<;>try omega)|(refine sCW ?_ ?_<;>intro hb<;>try omega)|fail)
 rename_i ge gr gn
 exact ret3 eIO rfl rfl rfl rfl (H' := [.own (some ge) 53 3 6 6 (flowL.flatMap encEt),.own (some gr) 38 7 2 2 (bkR.flatMap encRl),.own (some gn) 56 8 1 1 (bkN.flatMap encGn)]) mS ⟨ge,gr,gn,rfl,rfl⟩
theorem encGns_one (L:List Gn): ∀ u∈L.flatMap encGn,u.oneCell' =true:=fun u hu=>by
 obtain ⟨a,_,h⟩:=List.mem_flatMap.1 hu
 simp only [encGn,List.mem_cons,List.not_mem_nil,or_false] at h
 rcases h with rfl|rfl|rfl|rfl|rfl|rfl|rfl|rfl<;>rfl
theorem CopyGrants_at (L:List Gn) (tv:Value) (w:World) (ht:Reads w tv L.length (L.flatMap encGn)) (hlen:L.length≤1000000):
  FnAt Tryz.prog 46 [tv] w fun v H=> ∃ A cap,v=sl A L.length cap∧H= [.own A 56 8 L.length cap (L.flatMap encGn)]:=by
 refine fn_at Tryz.func46 rfl Tryz.ntmps46 rfl ?_
 have hl:(L.flatMap encGn).length=L.length*8:=flat_length' encGn_len L
 refine w_nilrow 56 8 ?_
 repeat' (first|((with_reducible apply wl_appendR (n' :=0) (c:=0) (A:=none) (m:=L.length));(iterate 3 exact rfl);exact pK;(intro w hm;exact ht.of_w0 hm);exact hl;exact encGns_one L;omega;(simp only [maxLen];omega);intro A' cap' hA)|refine sT ?_|refine sM fun _=> ?_|(refine sC ?_ ?_<;>intro hb<;>try omega)|fail)
 exact ret1 (.inl rfl) Tryz.results46 rfl (H' := [.own A' 56 8 (0+L.length) cap' ([]++L.flatMap encGn)]) mS ⟨A',cap',by rw [Nat.zero_add],by rw [Nat.zero_add];rfl⟩
end Go.SL
namespace Go.SL
open Go Go.Proofs
attribute [local irreducible] W WL WQ WG WA WX WLI WR WT WC WE VOp RW thn blk cutP scp retP retPP endB FnAt FnIn FnP ceP
theorem CloneEt_at (L:List Et) (tv:Value) (w:World) (ht:Reads w tv L.length (L.flatMap encEt)) (hlen:L.length≤1000000):
  FnAt Tryz.prog 76 [tv] w fun v H=> ∃ A cap,v=sl A L.length cap∧H= [.own A 53 3 L.length cap (L.flatMap encEt)]:=by
 have ht' :=ht
 obtain ⟨At,ct,rfl,ht1,ht2,ht3⟩:=ht
 refine fn_at Tryz.func76 rfl Tryz.ntmps76 rfl ?_
 have hl:(L.flatMap encEt).length=L.length*3:=flat_length' encEt_len L
 refine w_nilrow 53 3 ?_
 repeat' (first|((with_reducible apply wl_v);exact rfl;(with_reducible apply v_eqlnil);exact rfl)|((with_reducible apply wl_buildSlice0);exact rfl;intro gb)|((with_reducible apply wl_appendR (n' :=0) (c:=0) (A:=some _) (m:=L.length));(iterate 3 exact rfl);exact pK;(intro w hm;exact ht'.of_w0 hm);exact hl;exact encEts_one L;omega;(simp only [maxLen];omega);intro A' cap' hA)|refine sT ?_|refine sM fun _=> ?_|(refine sC ?_ ?_<;>intro hb<;>try omega)|fail)
 ·
  have e:L.length=0:=by
   rcases Nat.eq_zero_or_pos L.length with h|h
   ·
    exact h
   ·
    obtain ⟨g,o,rfl,_⟩:=ht3 h
    cases hb
  have e' :L= []:=List.eq_nil_of_length_eq_zero e
  subst e'
  exact ret1 (.inl rfl) Tryz.results76 rfl (.refl _) ⟨none,0,rfl,rfl⟩
 ·
  exact ret1 (.inl rfl) Tryz.results76 rfl (H' := [.own A' 53 3 (0+L.length) cap' ([]++L.flatMap encEt)]) mS ⟨A',cap',by rw [Nat.zero_add],by rw [Nat.zero_add];rfl⟩
theorem CloneRl_at (L:List Rl) (tv:Value) (w:World) (ht:Reads w tv L.length (L.flatMap encRl)) (hlen:L.length≤1000000):
  FnAt Tryz.prog 77 [tv] w fun v H=> ∃ A cap,v=sl A L.length cap∧H= [.own A 38 7 L.length cap (L.flatMap encRl)]:=by
 have ht' :=ht
 obtain ⟨At,ct,rfl,ht1,ht2,ht3⟩:=ht
 refine fn_at Tryz.func77 rfl Tryz.ntmps77 rfl ?_
 have hl:(L.flatMap encRl).length=L.length*7:=flat_length' encRl_len L
 refine w_nilrow 38 7 ?_
 repeat' (first|((with_reducible apply wl_v);exact rfl;(with_reducible apply v_eqlnil);exact rfl)|((with_reducible apply wl_buildSlice0);exact rfl;intro gb)|((with_reducible apply wl_appendR (n' :=0) (c:=0) (A:=some _) (m:=L.length));(iterate 3 exact rfl);exact pK;(intro w hm;exact ht'.of_w0 hm);exact hl;exact encRls_one L;omega;(simp only [maxLen];omega);intro A' cap' hA)|refine sT ?_|refine sM fun _=> ?_|(refine sC ?_ ?_<;>intro hb<;>try omega)|fail)
 ·
  have e:L.length=0:=by
   rcases Nat.eq_zero_or_pos L.length with h|h
   ·
    exact h
   ·
    obtain ⟨g,o,rfl,_⟩:=ht3 h
    cases hb
  have e' :L= []:=List.eq_nil_of_length_eq_zero e
  subst e'
  exact ret1 (.inl rfl) Tryz.results77 rfl (.refl _) ⟨none,0,rfl,rfl⟩
 ·
  exact ret1 (.inl rfl) Tryz.results77 rfl (H' := [.own A' 38 7 (0+L.length) cap' ([]++L.flatMap encRl)]) mS ⟨A',cap',by rw [Nat.zero_add],by rw [Nat.zero_add];rfl⟩
theorem CloneGn_at (L:List Gn) (tv:Value) (w:World) (ht:Reads w tv L.length (L.flatMap encGn)) (hlen:L.length≤1000000):
  FnAt Tryz.prog 78 [tv] w fun v H=> ∃ A cap,v=sl A L.length cap∧H= [.own A 56 8 L.length cap (L.flatMap encGn)]:=by
 have ht' :=ht
 obtain ⟨At,ct,rfl,ht1,ht2,ht3⟩:=ht
 refine fn_at Tryz.func78 rfl Tryz.ntmps78 rfl ?_
 have hl:(L.flatMap encGn).length=L.length*8:=flat_length' encGn_len L
 refine w_nilrow 56 8 ?_
 repeat' (first|((with_reducible apply wl_v);exact rfl;(with_reducible apply v_eqlnil);exact rfl)|((with_reducible apply wl_buildSlice0);exact rfl;intro gb)|((with_reducible apply wl_appendR (n' :=0) (c:=0) (A:=some _) (m:=L.length));(iterate 3 exact rfl);exact pK;(intro w hm;exact ht'.of_w0 hm);exact hl;exact encGns_one L;omega;(simp only [maxLen];omega);intro A' cap' hA)|refine sT ?_|refine sM fun _=> ?_|(refine sC ?_ ?_<;>intro hb<;>try omega)|fail)
 ·
  have e:L.length=0:=by
   rcases Nat.eq_zero_or_pos L.length with h|h
   ·
    exact h
   ·
    obtain ⟨g,o,rfl,_⟩:=ht3 h
    cases hb
  have e' :L= []:=List.eq_nil_of_length_eq_zero e
  subst e'
  exact ret1 (.inl rfl) Tryz.results78 rfl (.refl _) ⟨none,0,rfl,rfl⟩
 ·
  exact ret1 (.inl rfl) Tryz.results78 rfl (H' := [.own A' 56 8 (0+L.length) cap' ([]++L.flatMap encGn)]) mS ⟨A',cap',by rw [Nat.zero_add],by rw [Nat.zero_add];rfl⟩
theorem CloneEv_at (L:List Ev) (tv:Value) (w:World) (ht:Reads w tv L.length (L.flatMap encEv)) (hlen:L.length≤1000000):
  FnAt Tryz.prog 79 [tv] w fun v H=> ∃ A cap,v=sl A L.length cap∧H= [.own A 48 9 L.length cap (L.flatMap encEv)]:=by
 have ht' :=ht
 obtain ⟨At,ct,rfl,ht1,ht2,ht3⟩:=ht
 refine fn_at Tryz.func79 rfl Tryz.ntmps79 rfl ?_
 have hl:(L.flatMap encEv).length=L.length*9:=flat_length' encEv_len L
 refine w_nilrow 48 9 ?_
 repeat' (first|((with_reducible apply wl_v);exact rfl;(with_reducible apply v_eqlnil);exact rfl)|((with_reducible apply wl_buildSlice0);exact rfl;intro gb)|((with_reducible apply wl_appendR (n' :=0) (c:=0) (A:=some _) (m:=L.length));(iterate 3 exact rfl);exact pK;(intro w hm;exact ht'.of_w0 hm);exact hl;exact encEvs_one L;omega;(simp only [maxLen];omega);intro A' cap' hA)|refine sT ?_|refine sM fun _=> ?_|(refine sC ?_ ?_<;>intro hb<;>try omega)|fail)
 ·
  have e:L.length=0:=by
   rcases Nat.eq_zero_or_pos L.length with h|h
   ·
    exact h
   ·
    obtain ⟨g,o,rfl,_⟩:=ht3 h
    cases hb
  have e' :L= []:=List.eq_nil_of_length_eq_zero e
  subst e'
  exact ret1 (.inl rfl) Tryz.results79 rfl (.refl _) ⟨none,0,rfl,rfl⟩
 ·
  exact ret1 (.inl rfl) Tryz.results79 rfl (H' := [.own A' 48 9 (0+L.length) cap' ([]++L.flatMap encEv)]) mS ⟨A',cap',by rw [Nat.zero_add],by rw [Nat.zero_add];rfl⟩
theorem CloneRv_at (L:List Rv) (tv:Value) (w:World) (ht:Reads w tv L.length (L.flatMap encRv)) (hlen:L.length≤1000000):
  FnAt Tryz.prog 80 [tv] w fun v H=> ∃ A cap,v=sl A L.length cap∧H= [.own A 70 11 L.length cap (L.flatMap encRv)]:=by
 have ht' :=ht
 obtain ⟨At,ct,rfl,ht1,ht2,ht3⟩:=ht
 refine fn_at Tryz.func80 rfl Tryz.ntmps80 rfl ?_
 have hl:(L.flatMap encRv).length=L.length*11:=flat_length' encRv_len L
 refine w_nilrow 70 11 ?_
 repeat' (first|((with_reducible apply wl_v);exact rfl;(with_reducible apply v_eqlnil);exact rfl)|((with_reducible apply wl_buildSlice0);exact rfl;intro gb)|((with_reducible apply wl_appendR (n' :=0) (c:=0) (A:=some _) (m:=L.length));(iterate 3 exact rfl);exact pK;(intro w hm;exact ht'.of_w0 hm);exact hl;exact encRvs_one L;omega;(simp only [maxLen];omega);intro A' cap' hA)|refine sT ?_|refine sM fun _=> ?_|(refine sC ?_ ?_<;>intro hb<;>try omega)|fail)
 ·
  have e:L.length=0:=by
   rcases Nat.eq_zero_or_pos L.length with h|h
   ·
    exact h
   ·
    obtain ⟨g,o,rfl,_⟩:=ht3 h
    cases hb
  have e' :L= []:=List.eq_nil_of_length_eq_zero e
  subst e'
  exact ret1 (.inl rfl) Tryz.results80 rfl (.refl _) ⟨none,0,rfl,rfl⟩
 ·
  exact ret1 (.inl rfl) Tryz.results80 rfl (H' := [.own A' 70 11 (0+L.length) cap' ([]++L.flatMap encRv)]) mS ⟨A',cap',by rw [Nat.zero_add],by rw [Nat.zero_add];rfl⟩
def mutK (k:Int):Bool:=decide (k=3)||decide (k=4)||decide (k=7)||decide (k=8)||decide (k=9)
def rngK (k:Int):Bool:=decide (k=3)||decide (k=4)||decide (k=5)||decide (k=6)||decide (k=7)||decide (k=8)
def zeroOx (k:Int):Ox:=⟨k,0,zeroR,emptyB,0#64,0#64,0#64,0,0#64,0⟩
def tgtO (x:Ox):Rct × Bool:=if rngK x.kind then (x.rect,true) else (zeroR,false)
def plainO (x:Ox):Ox:=
 if x.kind<1∨10<x.kind then zeroOx x.kind
 else ⟨x.kind,x.user,(tgtO x).1,if x.kind=3 then x.input else emptyB,if x.kind=7 then x.rd else 0#64,if x.kind=7 then x.wr else 0#64,if x.kind=7 then x.ow else 0#64,if x.kind=8 then x.fns else 0,if x.kind=8 then x.to else 0#64,if x.kind=9 then x.idx else 0⟩
def opE (x:Ox):Int:=
 if x.kind<1∨10<x.kind∨x≠plainO x then 4
 else if x.kind=3∨x.kind=6 then (if x.rect.c1=x.rect.c2∧x.rect.r1=x.rect.r2 then (if glyphE x.input≠0 then 4 else 0) else 4)
 else if x.kind=8 then (if x.fns<1∨31<x.fns then 4 else 0) else 0
theorem Mutates_at (x:Ox) (w:World):Pure Tryz.prog 55 [.agg (encOx x).toArray] w (.bool (mutK x.kind)):=by
 refine fn_at Tryz.func55 rfl Tryz.ntmps55 rfl ?_
 repeat' (first|refine sT ?_|refine sS ?_|refine sM fun _=> ?_|(refine sC ?_ ?_<;>intro hb<;>try omega)|fail)
 all_goals first
  |(exfalso;omega)
  |((refine rT1 ?_);simp_all [mutK];done)
  |trace_state
theorem Mutates0_at (k:Int) (w:World):Pure Tryz.prog 55 [.agg (encOx (zeroOx k)).toArray] w (.bool (mutK k)):=Mutates_at (zeroOx k) w
theorem Target_at (x:Ox) (w:World):Pure Tryz.prog 110 [.agg (encOx x).toArray] w (.tuple #[.agg (encR (tgtO x).1).toArray,.bool (tgtO x).2]):=by
 refine fn_at Tryz.func110 rfl Tryz.ntmps110 rfl ?_
 by_cases h:rngK x.kind=true
 ·
  rw [tgtO,if_pos h]
  repeat' (first|refine sT ?_|refine sS ?_|refine sM fun _=> ?_|(refine sC ?_ ?_<;>intro hb<;>try omega)|fail)
  all_goals first
   |(exfalso;omega)
   |((refine eRCT ?_);rfl)
   |(exfalso;simp_all [rngK];done)
   |trace_state
 ·
  rw [tgtO,if_neg h]
  repeat' (first|refine sT ?_|refine sS ?_|refine sM fun _=> ?_|(refine sC ?_ ?_<;>intro hb<;>try omega)|fail)
  all_goals first
   |(exfalso;omega)
   |(exfalso;simp_all [rngK];done)
   |((refine eRCT ?_);rfl)
   |trace_state
set_option maxHeartbeats 4000000 in
theorem Plain_at (x:Ox) (w:World):Pure Tryz.prog 154 [.agg (encOx x).toArray] w (.agg (encOx (plainO x)).toArray):=by
 refine fn_at Tryz.func154 rfl Tryz.ntmps154 rfl ?_
 have hT:=fun w=>Target_at x w
 unfold plainO
 obtain ⟨⟨t,tb⟩,ht⟩: ∃ t,tgtO x=t:=⟨_,rfl⟩
 rw [ht] at hT ⊢
 by_cases h8:x.kind=8
 ·
  repeat' (first|((with_reducible apply wl_callp);exact rfl;exact rfl;(intro w hm;exact hT w))|refine sT ?_|refine sS ?_|refine sM fun _=> ?_|(refine sC ?_ ?_<;>intro hb<;>try omega)|fail)
  all_goals first|(exfalso;omega)|skip
  rename_i g1 g2 g3 _ _ _ _
  refine w_drawC (id:=12) [5,7] [] [.box g1 41 (encOx x)] (by kernel_rfl) (by kernel_rfl) (by kernel_rfl) mS ?_
  repeat' (first|refine sT ?_|refine sS ?_|refine sW ?_|refine sM fun _=> ?_|(refine sC ?_ ?_<;>intro hb<;>try omega)|(refine sCW ?_ ?_<;>intro hb<;>try omega)|fail)
  all_goals first
   |(exfalso;omega)
   |((refine eRC ?_);rw [if_neg (by omega)];simp_all [encOx,emptyB,vS];done)
   |trace_state
 ·
  repeat' (first|((with_reducible apply wl_callp);exact rfl;exact rfl;(intro w hm;exact hT w))|refine sT ?_|refine sS ?_|refine sM fun _=> ?_|(refine sC ?_ ?_<;>intro hb<;>try omega)|fail)
  all_goals first
   |(exfalso;omega)
   |((refine eRC ?_);rw [if_pos (by omega)];simp_all [encOx,zeroOx,zeroR,emptyB,vS];done)
   |((refine eRC ?_);rw [if_neg (by omega)];simp_all [encOx,emptyB,vS];done)
   |trace_state
set_option maxHeartbeats 4000000 in
theorem opCheck_at (x:Ox) (w:World):Pure Tryz.prog 112 [.agg (encOx x).toArray] w (.int .i64 (opE x)):=by
 refine fn_at Tryz.func112 rfl Tryz.ntmps112 rfl ?_
 have hP:=fun w=>Plain_at x w
 have hG:=fun w=>glyph_at x.input w
 unfold opE
 obtain ⟨c,hc⟩: ∃ c,eqOx x (plainO x)=c:=⟨_,rfl⟩
 have hc' :x≠plainO x↔c=false:=by
  rw [← hc,← Bool.not_eq_true,eqOx_iff]
 simp only [hc']
 clear hc'
 generalize glyphE x.input=ge at hG
 generalize plainO x=p at hP hc
 repeat' (first|((with_reducible apply w_drawC0 (id:=1) [11] []);kernel_rfl;kernel_rfl;kernel_rfl)|((with_reducible apply wc_v);(iterate 3 exact rfl);(with_reducible apply v_neqOx (b:=p));exact rfl;exact rfl)|((with_reducible apply wl_callp (f:=154));exact rfl;exact rfl;(intro w' _;exact hP w'))|((with_reducible apply wl_callp);exact rfl;exact rfl;(intro w hm;exact hG w))|refine sT ?_|refine sS ?_|refine sW ?_|refine sM fun _=> ?_|(refine sC ?_ ?_<;>intro hb<;>try omega)|(refine sCW ?_ ?_<;>intro hb<;>try omega)|fail)
 all_goals first
  |(exfalso;omega)
  |((refine rT1 ?_);simp_all;done)
  |((refine rT1 ?_);simp_all;omega)
  |trace_state
def evFrom (all:BitVec 64):Int→List Ev→Int
 |_,[]=>0
 |last,x::l=>if x.step≤last then 12 else if (mutK x.kind && hasS all x.user)=false then 2 else if rectOk x.rect=false then 3 else if (decide (x.to &&& ~~~all=0#64) && hasS x.to x.user)=false then 2 else evFrom all x.step l
def rvOk (all:BitVec 64) (x:Rv):Bool:=decide (0≤x.call.node) && decide (x.call.node<256) && decide (46≤x.fn) && decide (x.fn≤50) && decide (0≤x.grant) && decide (x.grant<64) && decide (x.to &&& ~~~all=0#64)
def rvFrom (all:BitVec 64):Int→List Rv→Int
 |_,[]=>0
 |last,x::l=>if x.step<last then 12 else if (x.call.at_.valid && rectOk x.rect)=false then 3 else if rvOk all x=false then 2 else rvFrom all x.step l
def audE (u:Int) (L:List Ev) (M:List Rv):Int:=
 if u<0∨64<u∨u=0 then 2 else if evFrom (allU u).1 (-1) L≠0 then evFrom (allU u).1 (-1) L else rvFrom (allU u).1 (-1) M
theorem rectE_iff {r:Rct}:rectOk r=false↔rectE r≠0:=⟨fun h=>by rw [rectE,h];decide,rectE_bad⟩
theorem Ev.ro {w:World} {g o:Nat} {r:Ev} (h:Ro w g o (encEv r)):Ro w g o [.int .i64 r.step]∧Ro w g (o+1) [.int .i64 r.user]∧Ro w g (o+2) [.int .u8 r.kind]∧Ro w g (o+3) (encR r.rect)∧Ro w g (o+7) [.bool r.done]∧Ro w g (o+8) [vS r.to]:=
 ⟨h.take (k:=1),(h.drop (k:=1)).take (k:=1),(h.drop (k:=2)).take (k:=1),(h.drop (k:=3)).take (k:=4),(h.drop (k:=7)).take (k:=1),h.drop (k:=8)⟩
def lastEv (L:List Ev) (i:Nat):Int:=if i=0 then -1 else ((L[i - 1]?).map Ev.step).getD 0
def lastRv (L:List Rv) (i:Nat):Int:=if i=0 then -1 else ((L[i - 1]?).map Rv.step).getD 0
set_option maxHeartbeats 8000000 in
theorem audCheck_at (u:Int) (L:List Ev) (M:List Rv) (lv mv:Value) (w:World) (hl:Reads w lv L.length (L.flatMap encEv)) (hm:Reads w mv M.length (M.flatMap encRv)):Pure Tryz.prog 53 [.int .i64 u,lv,mv] w (.int .i64 (audE u L M)):=by
 obtain ⟨Al,cl,rfl,hl1,hl2,hl3⟩:=hl
 obtain ⟨Am,cm,rfl,hm1,hm2,hm3⟩:=hm
 refine fn_at Tryz.func53 rfl Tryz.ntmps53 rfl ?_
 have hA:=fun w=>All_at u w
 unfold audE
 have hE:(allU u).2=if u<0∨64<u then 3 else 0:=by unfold allU;split<;>rfl
 obtain ⟨sa,has⟩: ∃ sa,sa=(allU u).1:=⟨_,rfl⟩
 rw [← has,hE] at hA
 rw [← has]
 by_cases h1:u<0∨64<u∨u=0
 ·
  rw [if_pos h1]
  by_cases h2:u<0∨64<u
  ·
   rw [if_pos h2] at hA
   repeat' (first|((with_reducible apply wl_callp);exact rfl;exact rfl;(intro w hm;exact hA w))|refine sT ?_|refine sM fun _=> ?_|(refine sC ?_ ?_<;>intro hb<;>try omega)|fail)
   all_goals first|(exfalso;omega)|((refine rT1 ?_);rfl)|trace_state
  ·
   rw [if_neg h2] at hA
   repeat' (first|((with_reducible apply wl_callp);exact rfl;exact rfl;(intro w hm;exact hA w))|refine sT ?_|refine sM fun _=> ?_|(refine sC ?_ ?_<;>intro hb<;>try omega)|fail)
   all_goals first|(exfalso;omega)|((refine rT1 ?_);rfl)|trace_state
 rw [if_neg h1]
 rw [if_neg (by omega)] at hA
 repeat' (first|((with_reducible apply wl_callp);exact rfl;exact rfl;(intro w hm;exact hA w))|refine sT ?_|refine sM fun _=> ?_|(refine sC ?_ ?_<;>intro hb<;>try omega)|fail)
 all_goals first|(exfalso;omega)|skip
 obtain ⟨ef,hef⟩: ∃ ef,evFrom sa (-1) L=ef:=⟨_,rfl⟩
 rw [hef]
 refine w_loopK [0,1,2,7,25,26] rfl (fun i:Nat=> [(9,.int .i64 (lastEv L i)),(27,.int .i64 (i:Int))]) (fun _=> []) (fun i=>i≤L.length∧ef=evFrom sa (lastEv L i) (L.drop i)) (fun i=>L.length - i) 0 ⟨Nat.zero_le _,hef.symm⟩ sB mS ?_
 rintro i ⟨hi,hrec⟩
 by_cases hlt:i<L.length
 ·
  obtain ⟨gl,ol,rfl,hrl⟩:=hl3 (by omega)
  have he1:=hrl.elem encEv_len i hlt
  have hnext:lastEv L (i+1)=L[i].step:=by unfold lastEv;rw [if_neg (by omega),Nat.add_sub_cancel,List.getElem?_eq_getElem hlt];rfl
  rw [List.drop_eq_getElem_cons hlt,evFrom] at hrec
  generalize lastEv L i=last at hrec
  generalize L[i]=r at hnext he1 hrec
  have hck:=fun w=>rect_at r.rect w
  have hhs:=fun w=>Has18_at sa r.user w
  have hht:=fun w=>Has18_at r.to r.user w
  have hmu:=fun w=>Mutates0_at r.kind w
  simp only [rectE_iff] at hrec
  generalize rectE r.rect=re at hck hrec
  clear has
  generalize mutK r.kind=mk at hmu hrec
  generalize hasS sa r.user=hb1 at hhs hrec
  generalize hasS r.to r.user=hb2 at hht hrec
  repeat' (first|((with_reducible apply wl_v);exact rfl;(with_reducible apply v_loadw_ro);exact rfl;exact he1;exact rfl)|((with_reducible apply wl_callp);exact rfl;exact rfl;(intro w hm;exact hmu w))|((with_reducible apply wl_callp (f:=109));exact rfl;exact rfl;(intro w' _;first|exact hhs w' |exact hht w'))|((with_reducible apply wl_callp);exact rfl;exact rfl;(intro w hm;exact hck w))|((with_reducible apply wl_v);exact rfl;(with_reducible apply v_andNot64 (b:=sa));exact rfl;exact rfl)|((with_reducible apply wl_v);exact rfl;(with_reducible apply v_neq64 (b:=0#64));exact rfl;exact rfl)|refine sT ?_|refine sS ?_|refine sN ?_|refine sO ?_|refine sM fun _=> ?_|(refine sC ?_ ?_<;>intro hb<;>try omega)|fail)
  all_goals try (have hnl: ¬ r.step≤last:=by omega)
  all_goals first
   |(exfalso;omega)
   |(refine ⟨i+1,⟨hlt,?_⟩,by omega,by (try simp only [hnext]);exact sB,by (try simp only [hnext]);exact sB,by exact mS⟩;rw [hnext];simp_all;done)
   |((refine rT1 ?_);simp_all;done)
   |trace_state
 ·
  have e:i=L.length:=by omega
  subst e
  rw [List.drop_length,evFrom] at hrec
  subst hrec
  rw [if_neg (by decide)]
  obtain ⟨rf,hrf⟩: ∃ rf,rvFrom sa (-1) M=rf:=⟨_,rfl⟩
  rw [hrf]
  repeat' (first|refine sT ?_|refine sM fun _=> ?_|(refine sC ?_ ?_<;>intro hb<;>try omega)|fail)
  refine w_loopK [0,2,7,71,72] rfl (fun i:Nat=> [(9,.int .i64 (lastRv M i)),(73,.int .i64 (i:Int))]) (fun _=> []) (fun i=>i≤M.length∧rf=rvFrom sa (lastRv M i) (M.drop i)) (fun i=>M.length - i) 0 ⟨Nat.zero_le _,hrf.symm⟩ sB mS ?_
  rintro i ⟨hi,hrec⟩
  by_cases hlt:i<M.length
  ·
   obtain ⟨gm,om,rfl,hrm⟩:=hm3 (by omega)
   have he1:=hrm.elem encRv_len i hlt
   have hnext:lastRv M (i+1)=M[i].step:=by unfold lastRv;rw [if_neg (by omega),Nat.add_sub_cancel,List.getElem?_eq_getElem hlt];rfl
   rw [List.drop_eq_getElem_cons hlt,rvFrom] at hrec
   generalize lastRv M i=last at hrec
   generalize M[i]=r at hnext he1 hrec
   have hck:=fun w=>rect_at r.rect w
   have hV: ∀ w',Pure Tryz.prog 64 [.agg (encF r.call.at_).toArray] w' (.bool r.call.at_.valid):=fun w' =>valid_at r.call.at_.col r.call.at_.row w'
   have hok:rvOk sa r=false↔(r.call.node<0∨256≤r.call.node∨r.fn<46∨50<r.fn∨r.grant<0∨64≤r.grant∨r.to &&& ~~~sa≠0#64):=by
    simp only [rvOk,Bool.and_eq_false_iff,decide_eq_false_iff_not,Int.not_le,Int.not_lt,or_assoc]
   simp only [hok] at hrec
   clear hok
   simp only [Bool.and_eq_false_iff,rectE_iff] at hrec
   generalize rectE r.rect=re at hck hrec
   clear has
   generalize r.call.at_.valid=vd at hV hrec
   by_cases h12:r.step<last
   ·
    rw [if_pos h12] at hrec
    repeat' (first|((with_reducible apply wl_v);exact rfl;(with_reducible apply v_loadw_ro);exact rfl;exact he1;exact rfl)|((with_reducible apply wl_callp);exact rfl;exact rfl;(intro w hm;exact hV w))|((with_reducible apply wl_callp);exact rfl;exact rfl;(intro w hm;exact hck w))|((with_reducible apply wl_v);exact rfl;(with_reducible apply v_andNot64 (b:=sa));exact rfl;exact rfl)|((with_reducible apply wl_v);exact rfl;(with_reducible apply v_neq64 (b:=0#64));exact rfl;exact rfl)|refine sT ?_|refine sS ?_|refine sN ?_|refine sO ?_|refine sM fun _=> ?_|(refine sC ?_ ?_<;>intro hb<;>try omega)|fail)
    all_goals first|(exfalso;omega)|((refine rT1 ?_);rw [hrec];done)|trace_state
   rw [if_neg h12] at hrec
   by_cases h3:vd=false∨re≠0
   ·
    rw [if_pos h3] at hrec
    repeat' (first|((with_reducible apply wl_v);exact rfl;(with_reducible apply v_loadw_ro);exact rfl;exact he1;exact rfl)|((with_reducible apply wl_callp);exact rfl;exact rfl;(intro w hm;exact hV w))|((with_reducible apply wl_callp);exact rfl;exact rfl;(intro w hm;exact hck w))|((with_reducible apply wl_v);exact rfl;(with_reducible apply v_andNot64 (b:=sa));exact rfl;exact rfl)|((with_reducible apply wl_v);exact rfl;(with_reducible apply v_neq64 (b:=0#64));exact rfl;exact rfl)|refine sT ?_|refine sS ?_|refine sN ?_|refine sO ?_|refine sM fun _=> ?_|(refine sC ?_ ?_<;>intro hb<;>try omega)|fail)
    all_goals first
     |(exfalso;omega)
     |(exfalso;rcases h3 with h3|h3<;>simp_all;done)
     |((refine rT1 ?_);rw [hrec];done)
     |trace_state
   rw [if_neg h3] at hrec
   obtain ⟨h31,h32⟩:=not_or.1 h3
   have h31:vd=true:=by simpa using h31
   have h32:re=0:=by omega
   subst h31;subst h32
   by_cases hD:r.call.node<0∨256≤r.call.node∨r.fn<46∨50<r.fn∨r.grant<0∨64≤r.grant∨r.to &&& ~~~sa≠0#64
   ·
    rw [if_pos hD] at hrec
    repeat' (first|((with_reducible apply wl_v);exact rfl;(with_reducible apply v_loadw_ro);exact rfl;exact he1;exact rfl)|((with_reducible apply wl_callp);exact rfl;exact rfl;(intro w hm;exact hV w))|((with_reducible apply wl_callp);exact rfl;exact rfl;(intro w hm;exact hck w))|((with_reducible apply wl_v);exact rfl;(with_reducible apply v_andNot64 (b:=sa));exact rfl;exact rfl)|((with_reducible apply wl_v);exact rfl;(with_reducible apply v_neq64 (b:=0#64));exact rfl;exact rfl)|refine sT ?_|refine sS ?_|refine sN ?_|refine sO ?_|refine sM fun _=> ?_|(refine sC ?_ ?_<;>intro hb<;>try omega)|fail)
    all_goals first
     |(exfalso;omega)
     |((refine rT1 ?_);rw [hrec];done)
     |(exfalso;rcases hD with h|h|h|h|h|h|h<;>first|omega|exact absurd ‹_› h)
     |trace_state
   ·
    rw [if_neg hD] at hrec
    repeat' (first|((with_reducible apply wl_v);exact rfl;(with_reducible apply v_loadw_ro);exact rfl;exact he1;exact rfl)|((with_reducible apply wl_callp);exact rfl;exact rfl;(intro w hm;exact hV w))|((with_reducible apply wl_callp);exact rfl;exact rfl;(intro w hm;exact hck w))|((with_reducible apply wl_v);exact rfl;(with_reducible apply v_andNot64 (b:=sa));exact rfl;exact rfl)|((with_reducible apply wl_v);exact rfl;(with_reducible apply v_neq64 (b:=0#64));exact rfl;exact rfl)|refine sT ?_|refine sS ?_|refine sN ?_|refine sO ?_|refine sM fun _=> ?_|(refine sC ?_ ?_<;>intro hb<;>try omega)|fail)
    all_goals first
     |(exfalso;omega)
     |(exfalso;exact hD (.inr (.inr (.inr (.inr (.inr (.inr hb)))))))
     |(refine ⟨i+1,⟨hlt,?_⟩,by omega,by (try simp only [hnext]);exact sB,by (try simp only [hnext]);exact sB,by exact mS⟩;rw [hnext,hrec];done)
     |trace_state
  ·
   have e:i=M.length:=by omega
   subst e
   rw [List.drop_length,rvFrom] at hrec
   subst hrec
   repeat' (first|refine sT ?_|refine sM fun _=> ?_|(refine sC ?_ ?_<;>intro hb<;>try omega)|fail)
   all_goals first|(exfalso;omega)|((refine rT1 ?_);rfl)|trace_state
end Go.SL
