/-
  Lemmas and walks, put together: Ja Jb Jc Jd.
-/
import Derived.Test.YtljeomidcjpfmaaGreatDoorKb23
set_option linter.unusedSimpArgs false
set_option linter.unusedVariables false
set_option maxRecDepth 20000
namespace Go.SL
open Go Go.Proofs
attribute [local irreducible] W WL WQ WG WA WX WLI WR WT WC WE VOp RW thn blk cutP scp retP retPP endB FnAt FnIn FnP ceP
theorem allS_succ (n:Nat) (h:n<64):allS (n+1)=allS n|||1#64<<<n:=by
 have h1: ∀ n:Fin 64,allS (n.val+1)=allS n.val|||1#64<<<n.val:=by decide+kernel
 exact h1 ⟨n,h⟩
theorem refBit_at (m:Nat) (h:m≤64) (w:World):Pure Tryz.prog 284 [.int .i64 (m:Int)] w (vS (1#64<<<m)):=by
 refine fn_at Tryz.func284 rfl Tryz.ntmps284 rfl ?_
 repeat' (first|((with_reducible apply wl_v);exact rfl;(with_reducible apply v_conv_to (c:=(m:Int)));exact rfl;(simp only [IntKind.wrap_u64];omega))|((with_reducible apply wl_v);exact rfl;(with_reducible apply v_shl64 (a:=1#64) (m:=m));exact rfl;exact rfl;omega)|refine sT ?_|refine sM fun _=> ?_|(refine sC ?_ ?_<;>intro hb<;>try omega)|fail)
 all_goals first|(exfalso;omega)|((refine rT1 ?_);rfl)|trace_state
theorem refAll18_at (u:Int) (w:World):Pure Tryz.prog 218 [.int .i64 u] w (.tuple #[vS (allU u).1,.int .i64 (allU u).2]):=by
 refine fn_at Tryz.func218 rfl Tryz.ntmps218 rfl ?_
 by_cases h:u<0∨64<u
 ·
  rw [allU,if_pos h]
  repeat' (first|refine sT ?_|refine sM fun _=> ?_|(refine sC ?_ ?_<;>intro hb<;>try omega)|fail)
  all_goals first|(exfalso;omega)|((refine rT2 ?_);rfl)|trace_state
 ·
  rw [allU,if_neg h]
  obtain ⟨m,rfl⟩: ∃ m:Nat,u=(m:Int):=⟨u.toNat,by omega⟩
  rw [Int.toNat_natCast]
  repeat' (first|refine sT ?_|refine sS ?_|refine sM fun _=> ?_|(refine sC ?_ ?_<;>intro hb<;>try omega)|fail)
  all_goals first|(exfalso;omega)|skip
  refine w_loopK [0] rfl (fun i:Nat=> [(4,vS (allS i)),(5,.int .i64 (i:Int))]) (fun _=> []) (fun i=>i≤m) (fun i=>m - i) 0 (by omega) sB mS ?_
  rintro i hi
  by_cases hlt:i<m
  ·
   have hB:=fun w=>refBit_at i (by omega) w
   have hs:=allS_succ i (by omega)
   repeat' (first|((with_reducible apply wl_callp);exact rfl;exact rfl;(intro w hm;exact hB w))|((with_reducible apply wl_v);exact rfl;(with_reducible apply v_or64 (a:=allS i));exact rfl;exact rfl)|refine sT ?_|refine sS ?_|refine sN ?_|refine sM fun _=> ?_|(refine sC ?_ ?_<;>intro hb<;>try omega)|fail)
   all_goals first
    |(exfalso;omega)
    |(rw [← hs];refine ⟨i+1,hlt,by omega,by exact sB,by exact sB,by exact mS⟩;done)
    |trace_state
  ·
   have e:i=m:=by omega
   subst e
   repeat' (first|refine sT ?_|refine sS ?_|refine sM fun _=> ?_|(refine sC ?_ ?_<;>intro hb<;>try omega)|fail)
   all_goals first|(exfalso;omega)|((refine rT2 ?_);rfl)|trace_state
theorem refWithin_at (x:BitVec 64) (u:Int) (w:World):Pure Tryz.prog 164 [vS x,.int .i64 u] w (.bool (decide (x &&& ~~~(allU u).1=0#64))):=by
 refine fn_at Tryz.func164 rfl Tryz.ntmps164 rfl ?_
 have h1:=fun w=>refAll18_at u w
 generalize (allU u).1=a at h1 ⊢
 generalize (allU u).2=e at h1
 repeat' (first|((with_reducible apply wl_callp);exact rfl;exact rfl;(intro w hm;exact h1 w))|((with_reducible apply wl_v);exact rfl;(with_reducible apply v_andNot64 (b:=a));exact rfl;exact rfl)|((with_reducible apply wl_v);exact rfl;(with_reducible apply v_eql64 (b:=0#64));exact rfl;exact rfl)|refine sT ?_|refine sM fun _=> ?_|(refine sC ?_ ?_<;>intro hb<;>try omega)|fail)
 all_goals first|(exfalso;omega)|((refine rT1 ?_);rfl)|trace_state
theorem refRange_at (r:Rct) (w:World):Pure Tryz.prog 163 [.agg (encR r).toArray] w (.bool (rectOk r)):=by
 refine fn_at Tryz.func163 rfl Tryz.ntmps163 rfl ?_
 have h:rectOk r=true↔(1≤r.c1∧r.c1≤r.c2∧r.c2≤1024∧1≤r.r1∧r.r1≤r.r2∧r.r2≤1024):=by
  simp only [rectOk,valid,Bool.and_eq_true,decide_eq_true_eq]
  omega
 by_cases hk:rectOk r=true
 ·
  have hk2:=h.1 hk
  rw [hk]
  repeat' (first|refine sT ?_|refine sM fun _=> ?_|(refine sC ?_ ?_<;>intro hb<;>try omega)|fail)
  all_goals first|(exfalso;omega)|((refine rT1 ?_);simp;omega)|((refine rT1 ?_);rfl)|trace_state
 ·
  have hk2:=fun a=>hk (h.2 a)
  rw [show rectOk r=false by simpa using hk]
  repeat' (first|refine sT ?_|refine sM fun _=> ?_|(refine sC ?_ ?_<;>intro hb<;>try omega)|fail)
  all_goals first|(exfalso;omega)|((refine rT1 ?_);rfl)|((refine rT1 ?_);exact congrArg Value.bool (decide_eq_false fun hz=>hk2 ⟨by omega,by omega,by omega,by omega,by omega,by omega⟩))|trace_state
theorem or3_zero (a b c s:BitVec 64):((a|||b|||c) &&& s=0#64)↔(a &&& s=0#64∧b &&& s=0#64∧c &&& s=0#64):=by
 have h: ∀ x:BitVec 64,(x=0#64)↔ ∀ i,x.getLsbD i=false:=fun x=>⟨fun h i=>by rw [h];simp,fun h=>BitVec.eq_of_getLsbD_eq fun i _=>by rw [h i];simp⟩
 simp only [h,BitVec.getLsbD_and,BitVec.getLsbD_or,Bool.and_eq_false_iff,Bool.or_eq_false_iff]
 constructor
 ·
  intro hh
  refine ⟨fun i=> ?_,fun i=> ?_,fun i=> ?_⟩<;>rcases hh i with ⟨⟨h1,h2⟩,h3⟩|h1<;>simp_all
 ·
  rintro ⟨h1,h2,h3⟩ i
  rcases h1 i with a|a
  ·
   rcases h2 i with b|b
   ·
    rcases h3 i with c|c
    ·
     exact .inl ⟨⟨a,b⟩,c⟩
    ·
     exact .inr c
   ·
    exact .inr b
  ·
   exact .inr a
theorem bits3 (r:Rl) (a:BitVec 64):((r.read|||r.write|||r.own) &&& ~~~a≠0#64)↔(r.read &&& ~~~a≠0#64∨r.write &&& ~~~a≠0#64∨r.own &&& ~~~a≠0#64):=by
 rw [ne_eq,or3_zero]
 constructor
 ·
  intro h
  by_cases h1:r.read &&& ~~~a=0#64
  ·
   by_cases h2:r.write &&& ~~~a=0#64
   ·
    exact .inr (.inr fun h3=>h ⟨h1,h2,h3⟩)
   ·
    exact .inr (.inl h2)
  ·
   exact .inl h1
 ·
  rintro (h|h|h) ⟨h1,h2,h3⟩
  ·
   exact h h1
  ·
   exact h h2
  ·
   exact h h3
set_option maxHeartbeats 8000000 in
theorem ref19Check_at (u:Int) (L:List Rl) (lv:Value) (w:World) (hl:Reads w lv L.length (L.flatMap encRl)):Pure Tryz.prog 88 [.int .i64 u,lv] w (.tuple #[.int .i64 (aclE u L).1,.int .i64 (aclE u L).2]):=by
 obtain ⟨Al,cl,rfl,hl1,hl2,hl3⟩:=hl
 refine fn_at Tryz.func88 rfl Tryz.ntmps88 rfl ?_
 unfold aclE
 by_cases h1:u<0∨64<u∨u=0∨L= []
 ·
  rw [if_pos h1]
  have h1' :u<1∨64<u∨L.length=0:=by
   rcases h1 with h|h|h|h
   ·
    exact .inl (by omega)
   ·
    exact .inr (.inl h)
   ·
    exact .inl (by omega)
   ·
    exact .inr (.inr (by rw [h];rfl))
  repeat' (first|refine sT ?_|refine sM fun _=> ?_|(refine sC ?_ ?_<;>intro hb<;>try omega)|fail)
  all_goals first|(exfalso;omega)|((refine rT2 ?_);rfl)|trace_state
 rw [if_neg h1]
 have hne:0<L.length:=by
  rcases Nat.eq_zero_or_pos L.length with h|h
  ·
   exact absurd (.inr (.inr (.inr (List.eq_nil_of_length_eq_zero h)))) h1
  ·
   exact h
 by_cases h64:64<L.length
 ·
  rw [if_pos h64]
  repeat' (first|refine sT ?_|refine sM fun _=> ?_|(refine sC ?_ ?_<;>intro hb<;>try omega)|fail)
  all_goals first|(exfalso;omega)|((refine rT2 ?_);rfl)|trace_state
 rw [if_neg h64]
 obtain ⟨gl,ol,rfl,hrl⟩:=hl3 hne
 have hS:=fun w=>sheet19_at w
 obtain ⟨h0a,_⟩:=Rl.ro (hrl.elem encRl_len 0 hne)
 have hhd:L.head?.map (·.rect)=some L[0].rect:=by rw [List.head?_eq_getElem?,List.getElem?_eq_getElem hne];rfl
 rw [hhd]
 by_cases hsh:some L[0].rect≠some sheetR
 ·
  rw [if_pos hsh]
  have hc:decide (L[0].rect=sheetR)=false:=decide_eq_false fun e=>hsh (congrArg some e)
  generalize L[0].rect=r0 at h0a hc
  repeat' (first|((with_reducible apply w_drawC0 (id:=5) [4] []);kernel_rfl;kernel_rfl;kernel_rfl)|((with_reducible apply wc_v);(iterate 3 exact rfl);(with_reducible apply v_indexAddr (j:=0));exact rfl;exact rfl;omega)|((with_reducible apply wc_v);(iterate 3 exact rfl);(with_reducible apply v_loadw_ro);exact rfl;exact h0a;exact rfl)|((with_reducible apply wc_v);(iterate 3 exact rfl);(with_reducible apply v_neqR_to hc);exact rfl;exact rfl)|((with_reducible apply wl_callp (f:=113));exact rfl;exact rfl;(intro w' _;exact hS w'))|refine sT ?_|refine sS ?_|refine sW ?_|refine sO ?_|refine sM fun _=> ?_|(refine sC ?_ ?_<;>intro hb<;>try omega)|(refine sCW ?_ ?_<;>intro hb<;>try omega)|fail)
  all_goals first|(exfalso;omega)|((refine rT2 ?_);rfl)|trace_state
 rw [if_neg hsh]
 have hc:decide (L[0].rect=sheetR)=true:=decide_eq_true (Option.some.inj (Decidable.not_not.1 hsh))
 obtain ⟨ac,hac⟩: ∃ ac,aclFrom u L 0=ac:=⟨_,rfl⟩
 rw [hac]
 generalize L[0].rect=r0 at h0a hc
 repeat' (first|((with_reducible apply w_drawC0 (id:=5) [4] []);kernel_rfl;kernel_rfl;kernel_rfl)|((with_reducible apply wc_v);(iterate 3 exact rfl);(with_reducible apply v_indexAddr (j:=0));exact rfl;exact rfl;omega)|((with_reducible apply wc_v);(iterate 3 exact rfl);(with_reducible apply v_loadw_ro);exact rfl;exact h0a;exact rfl)|((with_reducible apply wc_v);(iterate 3 exact rfl);(with_reducible apply v_neqR_to hc);exact rfl;exact rfl)|((with_reducible apply wl_callp (f:=113));exact rfl;exact rfl;(intro w' _;exact hS w'))|refine sT ?_|refine sS ?_|refine sW ?_|refine sO ?_|refine sM fun _=> ?_|(refine sC ?_ ?_<;>intro hb<;>try omega)|(refine sCW ?_ ?_<;>intro hb<;>try omega)|fail)
 all_goals first|(exfalso;omega)|skip
 refine w_loopK [0,1] rfl (fun i:Nat=> [(6,.int .i64 (i:Int))]) (fun _=> []) (fun i=>i≤L.length∧ac=aclFrom u (L.drop i) (i:Int)) (fun i=>L.length - i) 0 ⟨by omega,hac.symm⟩ sB mS ?_
 rintro i ⟨hi,hrec⟩
 by_cases hlt:i<L.length
 ·
  obtain ⟨hr1,_,_,_,hr2⟩:=Rl.ro (hrl.elem encRl_len i hlt)
  rw [List.drop_eq_getElem_cons hlt,aclFrom] at hrec
  simp only [bits3] at hrec
  generalize L[i]=r at hr1 hr2 hrec
  have hR:=fun w=>refRange_at r.rect w
  have hW:=fun (x:BitVec 64) w=>refWithin_at x u w
  generalize rectOk r.rect=ro at hR hrec
  generalize (allU u).1=sa at hW hrec
  by_cases h3:ro=false
  ·
   rw [if_pos h3] at hrec
   subst h3
   repeat' (first|((with_reducible apply wl_v);exact rfl;(with_reducible apply v_indexAddr (j:=i));exact rfl;exact rfl;omega)|((with_reducible apply wl_callp);exact rfl;exact rfl;(intro w hm;exact hR w))|refine sT ?_|refine sS ?_|refine sO ?_|refine sM fun _=> ?_|(refine sC ?_ ?_<;>intro hb<;>try omega)|fail)
   all_goals first|(exfalso;omega)|((refine rT2 ?_);rw [hrec];done)|trace_state
  rw [if_neg h3] at hrec
  have h3' :ro=true:=by simpa using h3
  subst h3'
  by_cases h4:r.read &&& ~~~sa≠0#64∨r.write &&& ~~~sa≠0#64∨r.own &&& ~~~sa≠0#64
  ·
   rw [if_pos h4] at hrec
   repeat' (first|((with_reducible apply wl_v);exact rfl;(with_reducible apply v_indexAddr (j:=i));exact rfl;exact rfl;omega)|((with_reducible apply wl_v);exact rfl;(with_reducible apply v_loadw_ro);exact rfl;exact hr2;exact rfl)|((with_reducible apply wl_callp);exact rfl;exact rfl;(intro w hm;exact hR w))|((with_reducible apply wl_callp (f:=164));exact rfl;exact rfl;(intro w' _;exact hW _ w'))|refine sT ?_|refine sS ?_|refine sO ?_|refine sM fun _=> ?_|(refine sC ?_ ?_<;>intro hb<;>try omega)|fail)
   all_goals first
    |(exfalso;omega)
    |((refine rT2 ?_);rw [hrec];done)
    |(exfalso;rcases h4 with h|h|h<;>exact h (by assumption))
    |trace_state
  ·
   rw [if_neg h4] at hrec
   repeat' (first|((with_reducible apply wl_v);exact rfl;(with_reducible apply v_indexAddr (j:=i));exact rfl;exact rfl;omega)|((with_reducible apply wl_v);exact rfl;(with_reducible apply v_loadw_ro);exact rfl;exact hr2;exact rfl)|((with_reducible apply wl_callp);exact rfl;exact rfl;(intro w hm;exact hR w))|((with_reducible apply wl_callp (f:=164));exact rfl;exact rfl;(intro w' _;exact hW _ w'))|refine sT ?_|refine sS ?_|refine sN ?_|refine sO ?_|refine sM fun _=> ?_|(refine sC ?_ ?_<;>intro hb<;>try omega)|fail)
   all_goals first
    |(exfalso;omega)
    |(exfalso;exact h4 (by first|exact .inl (by assumption)|exact .inr (.inl (by assumption))|exact .inr (.inr (by assumption))))
    |(refine ⟨i+1,⟨hlt,by rw [hrec];rfl⟩,by omega,by exact sB,by exact sB,by exact mS⟩;done)
    |trace_state
 ·
  have e:i=L.length:=by omega
  subst e
  rw [List.drop_length,aclFrom] at hrec
  rw [hrec]
  repeat' (first|refine sT ?_|refine sS ?_|refine sM fun _=> ?_|(refine sC ?_ ?_<;>intro hb<;>try omega)|fail)
  all_goals first|(exfalso;omega)|((refine rT2 ?_);rfl)|trace_state
def exBk:Bk:=⟨3,flowL,bkR,[],[],[],0⟩
theorem Example31_at (w:World):FnAt Tryz.prog 13 [] w fun v H=> ∃ a:Bo,v= .agg (encBk exBk a.v).toArray∧H=bkRows exBk a:=by
 refine fn_at Tryz.func13 rfl Tryz.ntmps13 rfl ?_
 refine w_nilrow 56 8 ?_
 refine w_nilrow 48 9 ?_
 refine w_nilrow 66 11 ?_
 repeat' (first|((with_reducible apply wl_call (f:=45));exact rfl;exact rfl;(intro w' hm;exact Book27_at w');rintro _ _ ⟨ge,gr,gn,rfl,rfl⟩)|refine sT ?_|refine sS ?_|refine sM fun _=> ?_|(refine sC ?_ ?_<;>intro hb<;>try omega)|fail)
 exact retc (.inl rfl) rfl rfl pK rfl (H' :=bkRows exBk ⟨some ge,some gr,none,none,none,6,2,0,0,0⟩) (by unfold bkRows;exact mS) ⟨⟨some ge,some gr,none,none,none,6,2,0,0,0⟩,rfl,rfl⟩
def cellR (c r:Int):Rct:=⟨c,r,c,r⟩
theorem cell31_at (c r:Int) (w:World):Pure Tryz.prog 15 [.int .i64 c,.int .i64 r] w (.agg (encR (cellR c r)).toArray):=by
 refine fn_at Tryz.func15 rfl Tryz.ntmps15 rfl ?_
 repeat' (first|refine sT ?_|refine sM fun _=> ?_|(refine sC ?_ ?_<;>intro hb<;>try omega)|fail)
 (refine eRC ?_)
 rfl
def smallB (b:Bk):Bool:=
 decide (b.ents.length≤40) && (decide (b.rules.length≤10)||(decide ((aclE b.users b.rules).2≠0) && decide (b.rules.length<70))) && (decide (b.grants.length≤10)||(decide (64<b.grants.length) && decide (b.grants.length<70))) && decide (b.log.length≤60) && decide (b.rels.length≤60)
theorem smallB_ok {b:Bk} (h:smallB b=true):b.ents.length≤40∧b.rules.length<70∧b.grants.length<70∧b.log.length≤60∧b.rels.length≤60:=by
 simp only [smallB,Bool.and_eq_true,Bool.or_eq_true,decide_eq_true_eq] at h
 omega
set_option maxHeartbeats 8000000 in
theorem Small31_at (b:Bk) (x:Bv) (w:World) (h:BRd w b x):Pure Tryz.prog 22 [.agg (encBk b x).toArray] w (.bool (smallB b)):=by
 refine fn_at Tryz.func22 rfl Tryz.ntmps22 rfl ?_
 have h1:=fun (w' :World) (H:List Blk) (hm:Mem w w' H)=>ref19Check_at b.users b.rules _ w' (h.r.of_w0 hm)
 unfold smallB
 generalize aclE b.users b.rules=ae at h1 ⊢
 obtain ⟨us,E,RU,G,L,M,st⟩:=b
 obtain ⟨ae1,ar1,ag1,al1,as1,ce1,cr1,cg1,cl1,cs1⟩:=x
 dsimp only at*
 clear h
 simp only [encBk]
 generalize E.length=nE
 generalize RU.length=nR at h1 ⊢
 generalize G.length=nG
 generalize L.length=nL
 generalize M.length=nM
 repeat' (first|((with_reducible apply wl_callp (f:=88));exact rfl;exact rfl;(intro w' hm;exact h1 w' _ hm))|refine sT ?_|refine sS ?_|refine sM fun _=> ?_|(refine sC ?_ ?_<;>intro hb<;>try omega)|fail)
 all_goals first
  |(exfalso;omega)
  |((refine rT1 ?_);refine congrArg Value.bool (Bool.eq_iff_iff.2 ?_);simp only [Bool.and_eq_true,Bool.or_eq_true,decide_eq_true_eq,Bool.false_eq_true,true_iff,false_iff];omega)
  |trace_state
def ox31:Ox:=⟨3,1,cellR 3 3,⟨#[55]⟩,0#64,0#64,0#64,0,0#64,0⟩
section
variable (ov:Rct→List Rl→(BitVec 64 × BitVec 64 × BitVec 64) × Int)
def rfsV (b:Bk) (o:Ox):Bool:=
 if o.kind=3∨o.kind=4 then !hasS (ov o.rect b.rules).1.2.1 o.user
 else if o.kind=6 then !hasS (ov o.rect b.rules).1.1 o.user
 else if o.kind=7∨o.kind=8 then !hasS (ov o.rect b.rules).1.2.2 o.user
 else if o.kind=9 then (match b.grants[o.idx.toNat]? with|some g=>decide (g.by_≠o.user) && !hasS (ov g.rect b.rules).1.2.2 o.user|none=>false)
 else false
def cdV (b:Bk) (o:Ox):Int × Int:=
 if tst b o 0 then (1,0) else if tst b o 1 then (2,0) else if tst b o 2 then (4,0) else if tst b o 3 then (2,0) else if tst b o 4 then (8,0)
 else if rfsV ov b o then (5,0) else if tst b o 6 then (6,(ofP o.input).2.1) else if tst b o 7 then (7,0) else (0,0)
def evV (step:Int) (x:Ox) (dn:Bool) (L:List Rl) (N:List Gn):Ev × Int:=
 if mutK x.kind=false then (zeroEv,2)
 else if step<0∨opE x≠0∨x.user<0∨64≤x.user then (zeroEv,2)
 else if (aclE 64 L).2≠0 then (zeroEv,(aclE 64 L).2)
 else if (gntE 64 N).2≠0 then (zeroEv,(gntE 64 N).2)
 else if x.kind=9∧(x.idx<0∨(N.length:Int)≤x.idx) then (zeroEv,6)
 else if rectOk (evT x N)=false then (zeroEv,3)
 else (⟨step,x.user,x.kind,evT x N,dn,(ov (evT x N) L).1.2.2|||(ofS x.user).1⟩,0)
def logV (b:Bk) (o:Ox) (c:Int):Bk:=
 ⟨b.users,b.ents,b.rules,b.grants,if (c=0∨c=5)∧mutK o.kind=true then b.log++ [(evV ov b.step o (decide (c=0)) b.rules b.grants).1] else b.log,b.rels,b.step+1⟩
def apW (b:Bk) (o:Ox) (c:Int × Int):Bk × Int × Int × Int:=
 if c.1≠0 then (logV ov b o c.1,c.1,c.2,0) else (aftB (logV ov b o c.1) o,0,0,0)
def apV (b:Bk) (o:Ox):Bk × Int × Int × Int:=
 if bkE b≠0 then (zeroBk,0,0,bkE b)
 else if b.step=1099511627776 then (zeroBk,0,0,5)
 else apW ov b o (cdV ov b o)
end
theorem apV_eq (b:Bk) (o:Ox):apE b o=apV ovC b o:=by rw [← ovC_eq];rfl
theorem ap_to {b:Bk} {o:Ox} {b' :Bk} {x:Int × Int × Int} (h:eqBk (apV ovC b o).1 b' =true) (h2:(apV ovC b o).2=x):apE b o=(b',x):=by
 rw [apV_eq]
 exact Prod.ext (eqBk_iff.1 h) h2
def aw31:Bk:=⟨3,[⟨⟨1,1⟩,⟨#[53]⟩⟩,⟨⟨2,1⟩,⟨#[49,48]⟩⟩,⟨⟨1,2⟩,inB⟩,⟨⟨2,2⟩,⟨#[50,48]⟩⟩,⟨⟨1,3⟩,inC⟩,⟨⟨3,3⟩,⟨#[55]⟩⟩,⟨⟨1,4⟩,inD⟩],bkR,[],[⟨0,1,3,cellR 3 3,true,3#64⟩],[],1⟩
set_option maxRecDepth 100000 in
theorem awake31_ap:apE exBk ox31=(aw31,0,0,0):=ap_to (by decide+kernel) (by decide+kernel)
set_option maxRecDepth 100000 in
theorem awake31_in:inpE aw31 ⟨3,3⟩=(⟨#[55]⟩,0):=by decide+kernel
set_option maxHeartbeats 8000000 in
theorem awake31_at (w:World) (hW:Words w):Pure Tryz.prog 25 [] w (.bool true):=by
 refine fn_at Tryz.func25 rfl Tryz.ntmps25 rfl ?_
 have hC:=fun w=>cell31_at 3 3 w
 have hs:Small exBk:=⟨by decide,by decide,by decide,by decide,by decide⟩
 have hs2:aw31.ents.length≤1000000:=by decide
 have hA:=fun (a:Bo) (w' :World) (H:List Blk) (hm:Mem w w' H) (h:BRd w' exBk a.v)=>awake31_ap ▸ Apply_at exBk a.v ox31 w' h (hW.next hm) hs
 have hI:=fun (a:Bo) (w' :World) (H:List Blk) (hm:Mem w w' H) (h:BRd w' aw31 a.v)=>awake31_in ▸ bkInput_at aw31 a.v ⟨3,3⟩ w' h (hW.next hm) hs2
 repeat' (first|((with_reducible apply wl_call (f:=13));exact rfl;exact rfl;(intro w' hm;exact Example31_at w');rintro _ _ ⟨a,rfl,rfl⟩)|((with_reducible apply wl_callp);exact rfl;exact rfl;(intro w hm;exact hC w))|((with_reducible apply wl_call (f:=16));exact rfl;exact rfl;(intro w' hm;exact hA a w' _ hm (BRd.of_rows hm pK pK pK pK pK));rintro _ _ ⟨a2,rfl,rfl⟩)|((with_reducible apply wl_callp (f:=21));exact rfl;exact rfl;(intro w' hm;exact hI a2 w' _ hm (BRd.of_rows hm pK pK pK pK pK)))|((with_reducible apply wl_v (d:=32));exact rfl;(with_reducible apply v_eqls (b:=(⟨#[55]⟩:ByteArray)));exact rfl;exact rfl)|refine sT ?_|refine sS ?_|refine sM fun _=> ?_|(refine sC ?_ ?_<;>intro hb<;>try omega)|fail)
 all_goals first|(exfalso;omega)|((refine rT1 ?_);rfl)|trace_state
end Go.SL
namespace Go.SL
open Go Go.Proofs
section
variable {P:Program} {n:Fr} {w0:World} {Q:Post} {s:Slots} {H:List Blk} {ty:TypeId}
theorem v_xor64 {x y:Operand} {a b:BitVec 64} {t t' :TypeId} (hx:ev s x=some (vS a)) (hy:ev s y=some (vS b)):
  VOp P w0 s H (.binOp .xor t x y t') ty (vS (a ^^^ b)):=by
 have h:Go.bits .xor .u64 (a.toNat:Int) b.toNat=((a ^^^ b).toNat:Int):=by
  show IntKind.u64.wrap ((BitVec.ofInt 64 (a.toNat:Int) ^^^ BitVec.ofInt 64 (b.toNat:Int)).toNat:Int)=_
  rw [ofInt_set,ofInt_set,wrap_set]
 unfold vS at hx hy ⊢
 rw [← h]
 clear h
 generalize (a.toNat:Int)=z at hx ⊢
 generalize (b.toNat:Int)=z2 at hy ⊢
 exact fun ρ w _ _ _ _ hρ _=>by simp [execOp,hρ x _ hx,hρ y _ hy,eqGuard,binOp,intBits_xor]
end
attribute [local irreducible] W WL WQ WG WA WX WLI WR WT WC WE VOp RW thn blk cutP scp retP retPP endB FnAt FnIn FnP ceP
def zeroGn:Gn:=⟨zeroR,0,0#64,0,false⟩
def zeroRl:Rl:=⟨zeroR,0#64,0#64,0#64⟩
def zeroRv:Rv:=⟨0,⟨⟨0,0⟩,0⟩,0,zeroR,0,0#64⟩
def turnB (b:Bk) (r:Int):Bk:=
 if r=0 then ⟨IntKind.i64.wrap (b.users+1),b.ents,b.rules,b.grants,b.log,b.rels,b.step⟩
 else if r=1 then ⟨b.users,b.ents++ [zeroEt],b.rules,b.grants,b.log,b.rels,b.step⟩
 else if r=2 then ⟨b.users,b.ents,b.rules++ [zeroRl],b.grants,b.log,b.rels,b.step⟩
 else if r=3 then ⟨b.users,b.ents,b.rules,b.grants++ [zeroGn],b.log,b.rels,b.step⟩
 else if r=4 then ⟨b.users,b.ents,b.rules,b.grants,b.log++ [zeroEv],b.rels,b.step⟩
 else if r=5 then ⟨b.users,b.ents,b.rules,b.grants,b.log,b.rels++ [zeroRv],b.step⟩
 else ⟨b.users,b.ents,b.rules,b.grants,b.log,b.rels,IntKind.i64.wrap (b.step+1)⟩
theorem wrap_ne (u:Int):IntKind.i64.wrap (u+1)≠u:=by
 rw [IntKind.wrap_i64]
 omega
theorem app_ne {α:Type} (L:List α) (x:α):L++ [x]≠L:=fun h=>by
 have:=congrArg List.length h
 simp at this
theorem turnB_ne (b:Bk) (r:Int):turnB b r≠b:=by
 obtain ⟨b1,b2,b3,b4,b5,b6,b7⟩:=b
 unfold turnB
 repeat' split
 all_goals
  intro h
  injection h with h1 h2 h3 h4 h5 h6 h7
  first
  |exact wrap_ne _ h1
  |exact app_ne _ _ h2
  |exact app_ne _ _ h3
  |exact app_ne _ _ h4
  |exact app_ne _ _ h5
  |exact app_ne _ _ h6
  |exact wrap_ne _ h7
theorem eqBk_ne {a b:Bk} (h:a≠b):eqBk a b=false:=by
 rcases hh:eqBk a b with _|_
 ·
  rfl
 ·
  exact absurd (eqBk_iff.1 hh) h
theorem eqBk_self (a:Bk):eqBk a a=true:=eqBk_iff.2 rfl
end Go.SL
namespace Go.SL
open Go Go.Proofs
attribute [local irreducible] W WL WQ WG WA WX WLI WR WT WC WE VOp RW thn blk cutP scp retP retPP endB FnAt FnIn FnP ceP
theorem set_ent {L:List Et} (h:0<L.length) (s:ByteArray):(L.flatMap encEt).set (0+0*3+2) (.string s)=(L.set 0 ⟨L[0].at_,s⟩).flatMap encEt:=by
 cases L with
 |nil=>cases h
 |cons e E=>rfl
theorem set_rul {L:List Rl} (h:0<L.length) (o:BitVec 64):(L.flatMap encRl).set (0+0*7+4+2) (vS o)=(L.set 0 ⟨L[0].rect,L[0].read,L[0].write,o⟩).flatMap encRl:=by
 cases L with
 |nil=>cases h
 |cons e E=>rfl
theorem get_ent {L:List Et} (h:0<L.length):(L.flatMap encEt)[0+0*3+2]? =some (.string L[0].input):=by
 cases L with
 |nil=>cases h
 |cons e E=>rfl
theorem get_rul {L:List Rl} (h:0<L.length):(L.flatMap encRl)[0+0*7+4+2]? =some (vS L[0].own):=by
 cases L with
 |nil=>cases h
 |cons e E=>rfl
theorem set0_ne {α:Type} {L:List α} {x:α} (h:0<L.length) (hx:x≠L[0]):L.set 0 x≠L:=fun e=>by
 cases L with
 |nil=>cases h
 |cons a l=>
  injection e with e1 _
  exact hx e1
theorem cat_ne (s:ByteArray):s++(⟨#[120]⟩:ByteArray)≠s:=fun e=>by
 have:=congrArg ByteArray.size e
 rw [ByteArray.size_append] at this
 have h2:(⟨#[120]⟩:ByteArray).size=1:=rfl
 omega
theorem xor_ne (a:BitVec 64):a ^^^ 1#64≠a:=fun e=>by
 have:=congrArg (fun x=>x.getLsbD 0) e
 simp at this
section
variable {b:Bk} {x:Bv} {w w' :World} {H:List Blk} {a:Bo} {g:Nat}
theorem entD_at (h:BRd w b x) (h0:0<b.ents.length) (hm:Mem w w' H) (h1:In (.own (some g) 53 3 b.ents.length a.ce ((b.ents.flatMap encEt).set (0+0*3+2) (.string (b.ents[0].input++⟨#[120]⟩)))) H) (h2:In (.own a.r 38 7 b.rules.length a.cr (b.rules.flatMap encRl)) H) (h3:In (.own a.g 56 8 b.grants.length a.cg (b.grants.flatMap encGn)) H) (h4:In (.own a.l 48 9 b.log.length a.cl (b.log.flatMap encEv)) H) (h5:In (.own a.s 66 11 b.rels.length a.cs (b.rels.flatMap encRv)) H):
  Pure Tryz.prog 24 [.agg (encBk b x).toArray,.agg #[.int .i64 b.users,.slice (some ⟨g,0,none⟩) b.ents.length a.ce,.slice (adr a.r) b.rules.length a.cr,.slice (adr a.g) b.grants.length a.cg,.slice (adr a.l) b.log.length a.cl,.slice (adr a.s) b.rels.length a.cs,.int .i64 b.step]] w' (.bool false):=by
 have hl:(b.ents.set 0 ⟨b.ents[0].at_,b.ents[0].input++⟨#[120]⟩⟩).length=b.ents.length:=List.length_set
 have hk:BRd w' ⟨b.users,b.ents.set 0 ⟨b.ents[0].at_,b.ents[0].input++⟨#[120]⟩⟩,b.rules,b.grants,b.log,b.rels,b.step⟩ (Bo.v ⟨some g,a.r,a.g,a.l,a.s,a.ce,a.cr,a.cg,a.cl,a.cs⟩):=by
  refine ⟨?_,Reads.of_own (A:=a.r) hm h2,Reads.of_own (A:=a.g) hm h3,Reads.of_own (A:=a.l) hm h4,Reads.of_own (A:=a.s) hm h5⟩
  dsimp only
  rw [hl,← set_ent h0]
  exact Reads.of_own (A:=some g) hm h1
 have h6:=bkEqual_at b _ x _ w' (h.of_w0 hm) hk
 rw [eqBk_ne (fun e=>set0_ne h0 (fun e2=>cat_ne _ (congrArg Et.input e2)) (congrArg Bk.ents e).symm)] at h6
 simp only [encBk,hl] at h6
 exact h6
theorem rulD_at (h:BRd w b x) (h0:0<b.rules.length) (hm:Mem w w' H) (h1:In (.own a.e 53 3 b.ents.length a.ce (b.ents.flatMap encEt)) H) (h2:In (.own (some g) 38 7 b.rules.length a.cr ((b.rules.flatMap encRl).set (0+0*7+4+2) (vS (b.rules[0].own ^^^ 1#64)))) H) (h3:In (.own a.g 56 8 b.grants.length a.cg (b.grants.flatMap encGn)) H) (h4:In (.own a.l 48 9 b.log.length a.cl (b.log.flatMap encEv)) H) (h5:In (.own a.s 66 11 b.rels.length a.cs (b.rels.flatMap encRv)) H):
  Pure Tryz.prog 24 [.agg (encBk b x).toArray,.agg #[.int .i64 b.users,.slice (adr a.e) b.ents.length a.ce,.slice (some ⟨g,0,none⟩) b.rules.length a.cr,.slice (adr a.g) b.grants.length a.cg,.slice (adr a.l) b.log.length a.cl,.slice (adr a.s) b.rels.length a.cs,.int .i64 b.step]] w' (.bool false):=by
 have hl:(b.rules.set 0 ⟨b.rules[0].rect,b.rules[0].read,b.rules[0].write,b.rules[0].own ^^^ 1#64⟩).length=b.rules.length:=List.length_set
 have hk:BRd w' ⟨b.users,b.ents,b.rules.set 0 ⟨b.rules[0].rect,b.rules[0].read,b.rules[0].write,b.rules[0].own ^^^ 1#64⟩,b.grants,b.log,b.rels,b.step⟩ (Bo.v ⟨a.e,some g,a.g,a.l,a.s,a.ce,a.cr,a.cg,a.cl,a.cs⟩):=by
  refine ⟨Reads.of_own (A:=a.e) hm h1,?_,Reads.of_own (A:=a.g) hm h3,Reads.of_own (A:=a.l) hm h4,Reads.of_own (A:=a.s) hm h5⟩
  dsimp only
  rw [hl,← set_rul h0]
  exact Reads.of_own (A:=some g) hm h2
 have h6:=bkEqual_at b _ x _ w' (h.of_w0 hm) hk
 rw [eqBk_ne (fun e=>set0_ne h0 (fun e2=>xor_ne _ (congrArg Rl.own e2)) (congrArg Bk.rules e).symm)] at h6
 simp only [encBk,hl] at h6
 exact h6
end
set_option maxHeartbeats 16000000 in
theorem BookSame_at (b:Bk) (x:Bv) (what:Int) (w:World) (h:BRd w b x) (hW:Words w) (hin: ∀ e∈b.ents,e.input.size+1≤maxLen):Pure Tryz.prog 4 [.agg (encBk b x).toArray,.int .u8 what] w (.bool true):=by
 refine fn_at Tryz.func4 rfl Tryz.ntmps4 rfl ?_
 have hS:=fun (w' :World) (H:List Blk) (hm:Mem w w' H)=>Small31_at b x w' (h.of_w0 hm)
 have hAw:=fun (w' :World) (H:List Blk) (hm:Mem w w' H)=>awake31_at w' (hW.next hm)
 rcases hsm:smallB b with _|_
 ·
  rw [hsm] at hS
  repeat' (first|((with_reducible apply wl_callp (f:=22));exact rfl;exact rfl;(intro w' hm;exact hS w' _ hm))|refine sT ?_|refine sS ?_|refine sM fun _=> ?_|(refine sC ?_ ?_<;>intro hb<;>try omega)|exact cT|fail)
  all_goals first|(exfalso;omega)|((refine rT1 ?_);rfl)|trace_state
 rw [hsm] at hS
 obtain ⟨hl1,hl2,hl3,hl4,hl5⟩:=smallB_ok hsm
 have hs:Small b:=⟨by omega,by omega,by omega,by omega,by omega⟩
 have hY:=fun (w' :World) (H:List Blk) (hm:Mem w w' H)=>bkCopy_at b x w' (h.of_w0 hm) hs
 have hE1:=fun (a:Bo) (w' :World) (H:List Blk) (hm:Mem w w' H) (h2:BRd w' b a.v)=>eqBk_self b ▸ bkEqual_at b b x a.v w' (h.of_w0 hm) h2
 have hE2:=fun (a:Bo) (w' :World) (H:List Blk) (hm:Mem w w' H) (h2:BRd w' b a.v)=>eqBk_self b ▸ bkEqual_at b b a.v x w' h2 (h.of_w0 hm)
 have hN1:=fun (c:Bk) (hc:c≠b) (a:Bo) (w' :World) (H:List Blk) (hm:Mem w w' H) (h2:BRd w' c a.v)=>eqBk_ne (Ne.symm hc) ▸ bkEqual_at b c x a.v w' (h.of_w0 hm) h2
 have hN2:=fun (c:Bk) (hc:c≠b) (a:Bo) (w' :World) (H:List Blk) (hm:Mem w w' H) (h2:BRd w' c a.v)=>eqBk_ne hc ▸ bkEqual_at c b a.v x w' h2 (h.of_w0 hm)
 obtain ⟨r,hr⟩: ∃ r,what.tmod 7=r:=⟨_,rfl⟩
 have t0:r=0→turnB b r=⟨IntKind.i64.wrap (b.users+1),b.ents,b.rules,b.grants,b.log,b.rels,b.step⟩:=fun h=>by rw [h];rfl
 have t1:r=1→turnB b r=⟨b.users,b.ents++ [zeroEt],b.rules,b.grants,b.log,b.rels,b.step⟩:=fun h=>by rw [h];rfl
 have t2:r=2→turnB b r=⟨b.users,b.ents,b.rules++ [zeroRl],b.grants,b.log,b.rels,b.step⟩:=fun h=>by rw [h];rfl
 have t3:r=3→turnB b r=⟨b.users,b.ents,b.rules,b.grants++ [zeroGn],b.log,b.rels,b.step⟩:=fun h=>by rw [h];rfl
 have t4:r=4→turnB b r=⟨b.users,b.ents,b.rules,b.grants,b.log++ [zeroEv],b.rels,b.step⟩:=fun h=>by rw [h];rfl
 have t5:r=5→turnB b r=⟨b.users,b.ents,b.rules,b.grants,b.log,b.rels++ [zeroRv],b.step⟩:=fun h=>by rw [h];rfl
 have t6:(r≠0∧r≠1∧r≠2∧r≠3∧r≠4∧r≠5)→turnB b r=⟨b.users,b.ents,b.rules,b.grants,b.log,b.rels,IntKind.i64.wrap (b.step+1)⟩:=fun ⟨h0,h1,h2,h3,h4,h5⟩=>by unfold turnB;rw [if_neg h0,if_neg h1,if_neg h2,if_neg h3,if_neg h4,if_neg h5]
 have e1:(b.ents++ [zeroEt]).length=b.ents.length+1:=by rw [List.length_append];rfl
 have f1:(b.ents++ [zeroEt]).flatMap encEt=b.ents.flatMap encEt++encEt zeroEt:=by rw [List.flatMap_append,List.flatMap_cons,List.flatMap_nil,List.append_nil]
 have e2:(b.rules++ [zeroRl]).length=b.rules.length+1:=by rw [List.length_append];rfl
 have f2:(b.rules++ [zeroRl]).flatMap encRl=b.rules.flatMap encRl++encRl zeroRl:=by rw [List.flatMap_append,List.flatMap_cons,List.flatMap_nil,List.append_nil]
 have e3:(b.grants++ [zeroGn]).length=b.grants.length+1:=by rw [List.length_append];rfl
 have f3:(b.grants++ [zeroGn]).flatMap encGn=b.grants.flatMap encGn++encGn zeroGn:=by rw [List.flatMap_append,List.flatMap_cons,List.flatMap_nil,List.append_nil]
 have e4:(b.log++ [zeroEv]).length=b.log.length+1:=by rw [List.length_append];rfl
 have f4:(b.log++ [zeroEv]).flatMap encEv=b.log.flatMap encEv++encEv zeroEv:=by rw [List.flatMap_append,List.flatMap_cons,List.flatMap_nil,List.append_nil]
 have e5:(b.rels++ [zeroRv]).length=b.rels.length+1:=by rw [List.length_append];rfl
 have f5:(b.rels++ [zeroRv]).flatMap encRv=b.rels.flatMap encRv++encRv zeroRv:=by rw [List.flatMap_append,List.flatMap_cons,List.flatMap_nil,List.append_nil]
 repeat' (first|((with_reducible apply wl_callp (f:=22));exact rfl;exact rfl;(intro w' hm;exact hS w' _ hm))|((with_reducible apply wl_call (f:=23));exact rfl;exact rfl;(intro w' hm;exact hY w' _ hm);rintro _ _ ⟨a,rfl,rfl⟩;unfold bkRows)|((with_reducible apply wl_callp (d:=14));exact rfl;exact rfl;(intro w' hm;exact hE1 a w' _ hm (BRd.of_rows hm pK pK pK pK pK)))|((with_reducible apply wl_callp (d:=19));exact rfl;exact rfl;(intro w' hm;exact hE2 a w' _ hm (BRd.of_rows hm pK pK pK pK pK)))|((with_reducible apply wl_v (d:=23));exact rfl;(with_reducible apply v_rem_to (c:=r));exact rfl;exact rfl;decide;exact hr)|((with_reducible apply wl_v (d:=32));exact rfl;(with_reducible apply v_addw);exact rfl;exact rfl)|((with_reducible apply wl_v (d:=26));exact rfl;(with_reducible apply v_addw);exact rfl;exact rfl)|((with_reducible apply wl_append1 (d:=40));(iterate 3 exact rfl);exact pK;exact pK;exact rfl;(intro u hu;simp at hu;rcases hu with rfl|rfl|rfl<;>rfl);omega;(simp only [maxLen];omega);intro g9 c9)|((with_reducible apply wl_append1 (d:=48));(iterate 3 exact rfl);exact pK;exact pK;exact rfl;(intro u hu;simp at hu;rcases hu with rfl|rfl|rfl|rfl|rfl|rfl|rfl<;>rfl);omega;(simp only [maxLen];omega);intro g9 c9)|((with_reducible apply wl_append1 (d:=56));(iterate 3 exact rfl);exact pK;exact pK;exact rfl;(intro u hu;simp at hu;rcases hu with rfl|rfl|rfl|rfl|rfl|rfl|rfl|rfl<;>rfl);omega;(simp only [maxLen];omega);intro g9 c9)|((with_reducible apply wl_append1 (d:=64));(iterate 3 exact rfl);exact pK;exact pK;exact rfl;(intro u hu;simp at hu;rcases hu with rfl|rfl|rfl|rfl|rfl|rfl|rfl|rfl|rfl<;>rfl);omega;(simp only [maxLen];omega);intro g9 c9)|((with_reducible apply wl_append1 (d:=72));(iterate 3 exact rfl);exact pK;exact pK;exact rfl;(intro u hu;simp at hu;rcases hu with rfl|rfl|rfl|rfl|rfl|rfl|rfl|rfl|rfl|rfl|rfl<;>rfl);omega;(simp only [maxLen];omega);intro g9 c9)|(refine w_cutB (id:=0) (ι:=Bo × Nat × Nat) (fun y=> [(1,.int .u8 what),(2,.pointer (some ⟨y.2.1,0,none⟩)),(5,.pointer (some ⟨y.2.2,0,none⟩)),(4,.bool false)]) (fun y=> .box y.2.1 28 (encBk b x):: .box y.2.2 28 (encBk (turnB b r) y.1.v)::bkRows (turnB b r) y.1) (fun _=>True) ?_ (fun y _=> ?_))|((with_reducible apply wl_callp (d:=76));exact rfl;exact rfl;(intro w' hm;exact hN1 _ (turnB_ne b r) y.1 w' _ hm (BRd.of_rows hm pK pK pK pK pK)))|((with_reducible apply wl_callp (d:=80));exact rfl;exact rfl;(intro w' hm;exact hN2 _ (turnB_ne b r) y.1 w' _ hm (BRd.of_rows hm pK pK pK pK pK)))|((with_reducible apply wl_callp (f:=25));exact rfl;exact rfl;(intro w' hm;exact hAw w' _ hm))|((with_reducible apply wl_v (d:=92));exact rfl;(with_reducible apply v_rem);exact rfl;exact rfl;decide)|refine sT ?_|refine sS ?_|refine sM fun _=> ?_|(refine sC ?_ ?_<;>intro hb<;>try omega)|exact cT|fail)
 all_goals first
  |(exfalso;omega)
  |((refine rT1 ?_);rfl)
  |(rw [t0 hb];simp only [bkRows,encBk];refine cut_n (a,_,_) trivial sB mS;done)
  |(rw [t1 hb];simp only [bkRows,encBk,e1,f1];refine cut_n (⟨some g9,a.r,a.g,a.l,a.s,c9,a.cr,a.cg,a.cl,a.cs⟩,_,_) trivial sB mS;done)
  |(rw [t2 hb];simp only [bkRows,encBk,e2,f2];refine cut_n (⟨a.e,some g9,a.g,a.l,a.s,a.ce,c9,a.cg,a.cl,a.cs⟩,_,_) trivial sB mS;done)
  |(rw [t3 hb];simp only [bkRows,encBk,e3,f3];refine cut_n (⟨a.e,a.r,some g9,a.l,a.s,a.ce,a.cr,c9,a.cl,a.cs⟩,_,_) trivial sB mS;done)
  |(rw [t4 hb];simp only [bkRows,encBk,e4,f4];refine cut_n (⟨a.e,a.r,a.g,some g9,a.s,a.ce,a.cr,a.cg,c9,a.cs⟩,_,_) trivial sB mS;done)
  |(rw [t5 hb];simp only [bkRows,encBk,e5,f5];refine cut_n (⟨a.e,a.r,a.g,a.l,some g9,a.ce,a.cr,a.cg,a.cl,c9⟩,_,_) trivial sB mS;done)
  |(rw [t6 (by omega)];simp only [bkRows,encBk];refine cut_n (a,_,_) trivial sB mS;done)
  |skip
 ·
  have h0:0<b.ents.length:=by omega
  obtain ⟨ae,ar,ag,al,as_,ce,cr,cg,cl,cs⟩:=a
  refine wl_some (A:=ae) (xs:=b.ents.flatMap encEt) pK h0 fun ga hA=> ?_
  subst hA
  have hrd:=get_ent h0
  have hsz:=hin b.ents[0] (List.getElem_mem h0)
  have hfit:0+0*3+2<(b.ents.flatMap encEt).length:=by rw [flat_length' encEt_len];omega
  have hD:=fun (w' :World) (H:List Blk) (hm:Mem w w' H)=>entD_at (a:=⟨some ga,ar,ag,al,as_,ce,cr,cg,cl,cs⟩) (g:=ga) h h0 hm
  repeat' (first|((with_reducible apply wl_v);exact rfl;(with_reducible apply v_indexAddr (j:=0));exact rfl;exact rfl;exact h0)|((with_reducible apply wl_v (d:=99));exact rfl;(with_reducible apply v_load_own);exact rfl;exact pK;exact hrd)|((with_reducible apply wl_v (d:=100));exact rfl;(with_reducible apply v_adds (b:=(⟨#[120]⟩:ByteArray)));exact rfl;exact rfl;exact hsz)|((with_reducible apply wl_store_own);exact rfl;exact rfl;exact pK;exact rfl;exact hfit)|((with_reducible apply wl_callp (d:=120));exact rfl;exact rfl;(intro w' hm;exact hD w' _ hm pK pK pK pK pK))|((with_reducible apply wl_callp (f:=25));exact rfl;exact rfl;(intro w' hm;exact hAw w' _ hm))|refine sT ?_|refine sS ?_|refine sM fun _=> ?_|(refine sC ?_ ?_<;>intro hb<;>try omega)|exact cT|fail)
  all_goals first|(exfalso;omega)|((refine rT1 ?_);rfl)|trace_state
 ·
  have h0:0<b.rules.length:=by omega
  obtain ⟨ae,ar,ag,al,as_,ce,cr,cg,cl,cs⟩:=a
  refine wl_some (A:=ar) (xs:=b.rules.flatMap encRl) pK h0 fun ga hA=> ?_
  subst hA
  have hrd:=get_rul h0
  have hfit:0+0*7+4+2<(b.rules.flatMap encRl).length:=by rw [flat_length' encRl_len];omega
  have hD:=fun (w' :World) (H:List Blk) (hm:Mem w w' H)=>rulD_at (a:=⟨ae,some ga,ag,al,as_,ce,cr,cg,cl,cs⟩) (g:=ga) h h0 hm
  repeat' (first|((with_reducible apply wl_v);exact rfl;(with_reducible apply v_indexAddr (j:=0));exact rfl;exact rfl;exact h0)|((with_reducible apply wl_v (d:=113));exact rfl;(with_reducible apply v_load_own);exact rfl;exact pK;exact hrd)|((with_reducible apply wl_v (d:=114));exact rfl;(with_reducible apply v_xor64 (b:=1#64));exact rfl;exact rfl)|((with_reducible apply wl_store_own);exact rfl;exact rfl;exact pK;exact rfl;exact hfit)|((with_reducible apply wl_callp (d:=120));exact rfl;exact rfl;(intro w' hm;exact hD w' _ hm pK pK pK pK pK))|((with_reducible apply wl_callp (f:=25));exact rfl;exact rfl;(intro w' hm;exact hAw w' _ hm))|refine sT ?_|refine sS ?_|refine sM fun _=> ?_|(refine sC ?_ ?_<;>intro hb<;>try omega)|exact cT|fail)
  all_goals first|(exfalso;omega)|((refine rT1 ?_);rfl)|trace_state
 ·
  have h0:0<b.rules.length:=by omega
  obtain ⟨ae,ar,ag,al,as_,ce,cr,cg,cl,cs⟩:=a
  refine wl_some (A:=ar) (xs:=b.rules.flatMap encRl) pK h0 fun ga hA=> ?_
  subst hA
  have hrd:=get_rul h0
  have hfit:0+0*7+4+2<(b.rules.flatMap encRl).length:=by rw [flat_length' encRl_len];omega
  have hD:=fun (w' :World) (H:List Blk) (hm:Mem w w' H)=>rulD_at (a:=⟨ae,some ga,ag,al,as_,ce,cr,cg,cl,cs⟩) (g:=ga) h h0 hm
  repeat' (first|((with_reducible apply wl_v);exact rfl;(with_reducible apply v_indexAddr (j:=0));exact rfl;exact rfl;exact h0)|((with_reducible apply wl_v (d:=113));exact rfl;(with_reducible apply v_load_own);exact rfl;exact pK;exact hrd)|((with_reducible apply wl_v (d:=114));exact rfl;(with_reducible apply v_xor64 (b:=1#64));exact rfl;exact rfl)|((with_reducible apply wl_store_own);exact rfl;exact rfl;exact pK;exact rfl;exact hfit)|((with_reducible apply wl_callp (d:=120));exact rfl;exact rfl;(intro w' hm;exact hD w' _ hm pK pK pK pK pK))|((with_reducible apply wl_callp (f:=25));exact rfl;exact rfl;(intro w' hm;exact hAw w' _ hm))|refine sT ?_|refine sS ?_|refine sM fun _=> ?_|(refine sC ?_ ?_<;>intro hb<;>try omega)|exact cT|fail)
  all_goals first|(exfalso;omega)|((refine rT1 ?_);rfl)|trace_state
end Go.SL
