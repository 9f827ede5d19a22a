/-
  Lemmas and walks, put together: Hu Hv Hw Hx Hy Hz.
-/
import Derived.Test.YtljeomidcjpfmaaGreatDoorKf24
set_option linter.unusedSimpArgs false
set_option linter.unusedVariables false
set_option maxRecDepth 20000
namespace Go.SL
open Go
def bandsC (lo hi:Int) (ps:List (Int × Int)):List (Int × Int):=pairsI ((cmpN (insortI (beginsI lo ps))).filter fun x=>decide (lo≤x) && decide (x≤hi)) hi
theorem bandsC_eq:bandsF=bandsC:=by funext lo hi ps;unfold bandsF bandsC cutsI;rw [sortI_eq]
def partsC (r:Rct) (A B:List Rl):List Pz:=(bandsC r.r1 r.r2 (rowsOf r A++rowsOf r B)).flatMap fun y=>rowZ A B y (bandsC r.c1 r.c2 (colsOf r A++colsOf r B))
theorem partsC_eq:partsF=partsC:=by funext r A B;unfold partsF partsC;rw [bandsC_eq]
def ovByC (f:Rl→BitVec 64) (r:Rct) (L:List Rl):BitVec 64:=andS ((partsC r L []).map fun p=>(L[p.a]?.map f).getD 0#64)
theorem ovByC_eq:ovBy=ovByC:=by funext f r L;unfold ovBy ovByC;rw [partsC_eq]
def ovC (r:Rct) (L:List Rl):(BitVec 64 × BitVec 64 × BitVec 64) × Int:=
 if checkZ r L≠0 then ((0#64,0#64,0#64),checkZ r L) else ((ovByC (fun x=>x.read) r L,ovByC (fun x=>x.write) r L,ovByC (fun x=>x.own) r L),0)
theorem ovC_eq:ovE=ovC:=by funext r L;unfold ovE ovC;rw [ovByC_eq]
def relC (fn:Int) (r:Rct) (L:List Rl) (g:Gn):Bool:=decide (g.rect=r) && (namesF g.fns fn && (!g.rev && hasS (ovC g.rect L).1.2.2 g.by_))
def relFromC (fn:Int) (r:Rct) (L:List Rl):List Gn→List (BitVec 64)
 | []=> []
 |g::G=>bif relC fn r L g then g.to::relFromC fn r L G else relFromC fn r L G
theorem relFromC_eq {fn:Int} {r:Rct} {L:List Rl}: ∀ (G:List Gn) (i:Nat),(relFrom fn r L G i).map (fun x=>x.2.to)=relFromC fn r L G
 | [],_=>rfl
 |g::G,i=>by
  have h:relOk fn r L g=relC fn r L g:=by unfold relOk relC liveF;rw [ovC_eq]
  rw [relFrom,relFromC,h]
  cases relC fn r L g
  ·
   exact relFromC_eq G (i+1)
  ·
   exact congrArg (g.to:: ·) (relFromC_eq G (i+1))
def forC (fn:Int) (r:Rct) (L:List Rl) (G:List Gn):BitVec 64:=
 if fn<46∨50<fn then 0#64 else if rectE r≠0 then 0#64 else if (aclE 64 L).2≠0 then 0#64 else if (gntE 64 G).2≠0 then 0#64 else orS (relFromC fn r L G)
theorem forC_eq {fn:Int} {r:Rct} {L:List Rl} {G:List Gn}:(forE fn r L G).1=forC fn r L G:=by
 unfold forE forC
 rw [relFromC_eq]
 repeat' split
 all_goals rfl
def lwC (L:List Rl) (N:List Gn):Lw:=⟨fun c=>(atE c L).1.1,fun r=>(ovC r L).1.1,fun u=>if u.node<0 then 0#64 else forC u.fn u.rect L N⟩
theorem lwC_eq {L:List Rl} {N:List Gn}:lwOf L N=lwC L N:=by
 unfold lwOf lwC
 rw [ovC_eq]
 congr 1
 funext u
 rw [forC_eq]
def itL (G:Gr) (w:Lw):Nat→Rf→BitVec 64
 |0=>w.rd
 |n+1=>fun c=>stepL G w (itL G w n) (usesG G c) (w.rd c)
theorem itL_up {G:Gr} {w:Lw} {i:Nat}: ∀ (n:Nat) {c:Rf},seesP G w i c→(itL G w n c).getLsbD i=true
 |0,_,h=>h.out.1
 |n+1,c,h=>by
  rw [itL,stepL_bit]
  refine ⟨h.out.1,fun x hx=> ?_⟩
  rcases h.out.2 x hx with h1|⟨h1,h2⟩
  ·
   exact .inl h1
  ·
   exact .inr ⟨h1,fun f hf hh=>itL_up n (h2 f hf hh)⟩
theorem itL_fix {G:Gr} {w:Lw} {n:Nat} (h: ∀ c∈keysG G,itL G w (n+1) c=itL G w n c) {a:Rf}:labF G w a=itL G w (n+1) a:=bits_ext fun i=>by
 rw [labF_bit]
 refine ⟨itL_up (n+1),fun hi=> ?_⟩
 refine ⟨fun d=>(itL G w (n+1) d).getLsbD i=true,hi,fun d hd=> ?_⟩
 have hd2:(stepL G w (itL G w n) (usesG G d) (w.rd d)).getLsbD i=true:=hd
 rw [stepL_bit] at hd2
 refine ⟨hd2.1,fun x hx=> ?_⟩
 rcases hd2.2 x hx with h1|⟨h1,h2⟩
 ·
  exact .inl h1
 ·
  exact .inr ⟨h1,fun f hf hh=>by dsimp only;rw [h f hf];exact h2 f hf hh⟩
def bkR:List Rl:= [⟨⟨1,1,1024,1024⟩,7#64,7#64,1#64⟩,⟨⟨2,1,2,3⟩,1#64,1#64,1#64⟩]
def bkN:List Gn:= [⟨⟨2,1,2,3⟩,1,2#64,0,false⟩]
set_option maxRecDepth 100000
theorem bk_fix: ∀ c∈keysG exG,itL exG (lwC bkR bkN) 3 c=itL exG (lwC bkR bkN) 2 c:=by decide+kernel
theorem bk_fix0: ∀ c∈keysG exG,itL exG (lwC bkR []) 3 c=itL exG (lwC bkR []) 2 c:=by decide+kernel
theorem bk_lab {a:Rf}:labF exG (lwOf bkR bkN) a=itL exG (lwC bkR bkN) 3 a:=by rw [lwC_eq];exact itL_fix bk_fix
theorem bk_lab0 {a:Rf}:labF exG (lwOf bkR []) a=itL exG (lwC bkR []) 3 a:=by rw [lwC_eq];exact itL_fix bk_fix0
theorem bk_l1:lblE exG bkR bkN ⟨1,1⟩=(7#64,0):=by rw [lblE,bk_lab];decide+kernel
theorem bk_l2:lblE exG bkR bkN ⟨1,2⟩=(1#64,0):=by rw [lblE,bk_lab];decide+kernel
theorem bk_l3:lblE exG bkR bkN ⟨1,3⟩=(3#64,0):=by rw [lblE,bk_lab];decide+kernel
theorem bk_l4:lblE exG bkR bkN ⟨1,4⟩=(3#64,0):=by rw [lblE,bk_lab];decide+kernel
theorem bk_l0:lblE exG bkR [] ⟨1,4⟩=(1#64,0):=by rw [lblE,bk_lab0];decide+kernel
theorem bk_b3:lblE exG bkR bkN ⟨2,3⟩=(1#64,0):=by rw [lblE,bk_lab];decide+kernel
end Go.SL
namespace Go.SL
open Go Go.Proofs
def eqMk (a b:Rf × BitVec 64):Bool:=eqF a.1 b.1 && decide (a.2=b.2)
theorem eqMk_dec (a b:Rf × BitVec 64):eqMk a b=decide (a=b):=by
 obtain ⟨a1,a2⟩:=a
 obtain ⟨b1,b2⟩:=b
 unfold eqMk
 rw [eqF_dec,Bool.eq_iff_iff]
 simp
theorem run_eqMk (w:World) (d:Nat) (a b:Rf × BitVec 64):(Op.equalIn (d+5) 101 (.agg (encMk a).toArray) (.agg (encMk b).toArray)).run Tryz.prog w= .ok (eqMk a b) w:=by
 rw [run_equalIn_agg w (d+4) 101 _ _ (by rw [Program.fieldsOf,Tryz.underlying101]) Tryz.stoodInHeld101]
 simp only [Program.fieldsOf,Tryz.underlying101]
 have hr: ∀ w,(Op.equalIn (d+4) 51 (.agg #[.int .i64 a.1.col,.int .i64 a.1.row]) (.agg #[.int .i64 b.1.col,.int .i64 b.1.row])).run Tryz.prog w= .ok (eqF a.1 b.1) w:=fun w=>run_eqF w (d+1) a.1 b.1
 simp [Op.eqFields,encMk,vS,part,go_sem,beqL,beqI,eqMk,hr]
 by_cases h1:eqF a.1 b.1=true<;>by_cases h2:a.2=b.2
 ·
  simp [h1,h2]
 ·
  have h3: ¬ ((a.2.toNat:Int)=b.2.toNat):=fun h=>h2 (BitVec.eq_of_toNat_eq (by omega))
  simp [h1,h2,h3]
 ·
  simp [h1,h2]
 ·
  simp [h1,h2]
section
variable {w0:World} {s:Slots} {H:List Blk} {ty t' :TypeId} {x y:Operand}
theorem v_neqMk {a b:Rf × BitVec 64} (hx:ev s x=some (.agg (encMk a).toArray)) (hy:ev s y=some (.agg (encMk b).toArray)):VOp Tryz.prog w0 s H (.binOp .neq 101 x y t') ty (.bool (!eqMk a b)):=fun ρ w _ _ _ _ hρ _=>by
 have h:=run_eqMk w 9995 a b
 simp only [Nat.reduceAdd] at h
 simp only [execOp,hρ x _ hx,hρ y _ hy,Sem.run_bind,run_eqGuard_agg w _ _ _ _ _ _ Tryz.eqGuardType101,Result.andThen_ok,run_neq_struct,h,Sem.run_pure]
end
attribute [local irreducible] W WL WQ WG WA WX WLI WR WT WC WE VOp RW thn blk cutP scp retP retPP endB FnAt FnIn FnP ceP bodyB assignQ roundQ
def flowL:List Et:= [⟨⟨1,1⟩,⟨#[53]⟩⟩,⟨⟨2,1⟩,⟨#[49,48]⟩⟩,⟨⟨1,2⟩,inB⟩,⟨⟨2,2⟩,⟨#[50,48]⟩⟩,⟨⟨1,3⟩,inC⟩,⟨⟨1,4⟩,inD⟩]
theorem flow_new:newG flowL=(some exG,0):=by decide+kernel
theorem sheet19_at (w:World):Pure Tryz.prog 113 [] w (.agg (encR ⟨1,1,1024,1024⟩).toArray):=by
 refine fn_at Tryz.func113 rfl Tryz.ntmps113 rfl ?_
 repeat' (first|refine sT ?_|refine sM fun _=> ?_|(refine sC ?_ ?_<;>intro hb<;>try omega)|fail)
 (refine eRC ?_)
 rfl
set_option maxHeartbeats 4000000 in
theorem Book27_at (w:World):FnAt Tryz.prog 45 [] w fun v H=> ∃ ge gr gn,v= .tuple #[.slice (some ⟨ge,0,none⟩) 6 6,.slice (some ⟨gr,0,none⟩) 2 2,.slice (some ⟨gn,0,none⟩) 1 1]∧H= [.own (some ge) 53 3 6 6 (flowL.flatMap encEt),.own (some gr) 38 7 2 2 (bkR.flatMap encRl),.own (some gn) 56 8 1 1 (bkN.flatMap encGn)]:=by
 refine fn_at Tryz.func45 rfl Tryz.ntmps45 rfl ?_
 repeat' (first|((with_reducible apply w_drawC0 (id:=3) [0,6] []);kernel_rfl;kernel_rfl;kernel_rfl)|((with_reducible apply w_drawC0 (id:=4) [4] []);kernel_rfl;kernel_rfl;kernel_rfl)|((with_reducible apply wl_callp (f:=113));exact rfl;exact rfl;(intro w' _;exact sheet19_at w'))|refine sT ?_|refine sS ?_|refine sW ?_|refine sM fun _=> ?_|(refine sC ?_ ?_<;>intro hb<;>try omega)|(refine sCW ?_ ?_<;>intro hb<;>try omega)|fail)
 rename_i ge gr gn
 exact ret3 eIO rfl rfl rfl rfl (H' := [.own (some ge) 53 3 6 6 (flowL.flatMap encEt),.own (some gr) 38 7 2 2 (bkR.flatMap encRl),.own (some gn) 56 8 1 1 (bkN.flatMap encGn)]) mS ⟨ge,gr,gn,rfl,rfl⟩
theorem EqualMarks_at (L M:List (Rf × BitVec 64)) (lv mv:Value) (w:World) (hl:Reads w lv L.length (L.flatMap encMk)) (hm:Reads w mv M.length (M.flatMap encMk)):
  Pure Tryz.prog 49 [lv,mv] w (.bool (decide (L=M))):=by
 obtain ⟨Al,cl,rfl,hl1,hl2,hl3⟩:=hl
 obtain ⟨Am,cm,rfl,hm1,hm2,hm3⟩:=hm
 refine fn_at Tryz.func49 rfl Tryz.ntmps49 rfl ?_
 by_cases hlen:L.length=M.length
 ·
  repeat' (first|refine sT ?_|refine sS ?_|refine sM fun _=> ?_|(refine sC ?_ ?_<;>intro hb<;>try omega)|fail)
  refine w_loop (fun i:Nat=> [(0,.slice Al L.length cl),(1,.slice Am M.length cm),(5,.int .i64 (i:Int))]) (fun _=> []) (fun i=>i≤L.length∧decide (L=M)=decide (L.drop i=M.drop i)) (fun i=>L.length - i) 0 ⟨by omega,rfl⟩ ?_ ?_ ?_
  ·
   exact sB
  ·
   exact mS
  ·
   rintro i ⟨hi,hrec⟩
   by_cases hlt:i<L.length
   ·
    have hlt2:i<M.length:=by omega
    obtain ⟨gl,ol,rfl,hrl⟩:=hl3 (by omega)
    obtain ⟨gm,om,rfl,hrm⟩:=hm3 (by omega)
    have he1:=hrl.elem encMk_len i hlt
    have he2:=hrm.elem encMk_len i hlt2
    rw [eq_drop hlt hlt2,← eqMk_dec] at hrec
    repeat' (first|((with_reducible apply wq_v);exact rfl;(with_reducible apply v_indexAddr);exact rfl;exact rfl;(first|exact hlt|exact hlt2))|((with_reducible apply wq_v);exact rfl;(with_reducible apply v_loadw_ro);exact rfl;(first|exact he1|exact he2);exact rfl)|((with_reducible apply wq_v);exact rfl;(with_reducible apply v_neqMk);exact rfl;exact rfl)|((with_reducible apply wl_v);exact rfl;(with_reducible apply v_succN);exact rfl;exact rfl;(simp only [maxLen] at*;omega))|refine sT ?_|refine sS ?_|refine sQ ?_|refine sD ?_|refine sM fun _=> ?_|(refine sC ?_ ?_<;>intro hb<;>try omega)|(refine sCQ ?_ ?_<;>intro hb<;>try omega)|fail)
    ·
     (refine rT1 ?_)
     rw [hrec]
     simp_all
    ·
     refine ⟨i+1,⟨by omega,?_⟩,by omega,?_,?_⟩
     ·
      rw [hrec]
      simp_all
     ·
      exact sB
     ·
      exact mS
   ·
    have e:i=L.length:=by omega
    subst e
    repeat' (first|refine sT ?_|refine sS ?_|refine sM fun _=> ?_|(refine sC ?_ ?_<;>intro hb<;>try omega)|fail)
    (refine rT1 ?_)
    rw [hrec,List.drop_length,hlen,List.drop_length]
    rfl
 ·
  repeat' (first|refine sT ?_|refine sS ?_|refine sM fun _=> ?_|(refine sC ?_ ?_<;>intro hb<;>try omega)|fail)
  (refine rT1 ?_)
  rw [decide_eq_false]
  intro e
  exact hlen (congrArg List.length e)
theorem encGns_one (L:List Gn): ∀ u∈L.flatMap encGn,u.oneCell' =true:=fun u hu=>by
 obtain ⟨a,_,h⟩:=List.mem_flatMap.1 hu
 simp only [encGn,List.mem_cons,List.not_mem_nil,or_false] at h
 rcases h with rfl|rfl|rfl|rfl|rfl|rfl|rfl|rfl<;>rfl
theorem CopyGrants_at (L:List Gn) (tv:Value) (w:World) (ht:Reads w tv L.length (L.flatMap encGn)) (hlen:L.length≤1000000):
  FnAt Tryz.prog 52 [tv] w fun v H=> ∃ A cap,v=sl A L.length cap∧H= [.own A 56 8 L.length cap (L.flatMap encGn)]:=by
 refine fn_at Tryz.func52 rfl Tryz.ntmps52 rfl ?_
 have hl:(L.flatMap encGn).length=L.length*8:=flat_length' encGn_len L
 refine w_nilrow 56 8 ?_
 repeat' (first|((with_reducible apply wl_appendR (n' :=0) (c:=0) (A:=none) (m:=L.length));(iterate 3 exact rfl);exact pK;(intro w hm;exact ht.of_w0 hm);exact hl;exact encGns_one L;omega;(simp only [maxLen];omega);intro A' cap' hA)|refine sT ?_|refine sM fun _=> ?_|(refine sC ?_ ?_<;>intro hb<;>try omega)|fail)
 exact ret1 (.inl rfl) Tryz.results52 rfl (H' := [.own A' 56 8 (0+L.length) cap' ([]++L.flatMap encGn)]) mS ⟨A',cap',by rw [Nat.zero_add],by rw [Nat.zero_add];rfl⟩
end Go.SL
namespace Go.SL
open Go Go.Proofs
attribute [local irreducible] W WL WQ WG WA WX WLI WR WT WC WE VOp RW thn blk cutP scp retP retPP endB FnAt FnIn FnP ceP bodyB assignQ roundQ
theorem msub_rows (X:List Blk) (e a b:Blk):MSub (a::b::X) (X++ [e,a,b]):=
 ⟨[e],(List.perm_append_comm (l₁:=X) (l₂:= [e,a,b])).trans (List.perm_append_comm (l₁:= [e]) (l₂:=a::b::X))⟩
theorem Label_to {a:Rf} {gg:Nat} {G:Gr} {B F:List Blk} {w0:World} {L:List Rl} {N:List Gn} {x:BitVec 64} {e:Int} (h:lblE G L N a=(x,e)) (R:Rdr gg G B w0) (hB:MSub B F) (Al An:Option Addr) (cl cn:Nat) (hl: ∀ w',Mem w0 w' F→Reads w' (.slice Al L.length cl) L.length (L.flatMap encRl)) (hn: ∀ w',Mem w0 w' F→Reads w' (.slice An N.length cn) N.length (N.flatMap encGn)) (hN:N.length≤1000000):
  FnIn Tryz.prog 47 [.pointer (some ⟨gg,0,none⟩),keyF a,.slice Al L.length cl,.slice An N.length cn] w0 F fun v H' =>v= .tuple #[vS x,.int .i64 e]∧H' =F:=by
 have h1:=Label_in a gg G B F w0 R hB L N Al An cl cn hl hn hN
 rw [h] at h1
 exact h1
set_option maxHeartbeats 4000000 in
theorem awake27_at (w:World) (hW:Words w):Pure Tryz.prog 46 [] w (.bool true):=by
 have hN: ∀ (w' :World) (H:List Blk) (tv:Value),Mem w w' H→Reads w' tv flowL.length (flowL.flatMap encEt)→FnAt Tryz.prog 31 [tv] w' fun v H=> ∃ gg gm E clock R,v= .tuple #[.pointer (some ⟨gg,0,none⟩),.int .i64 0]∧H=gB gg gm (E.map En.m) clock++R∧GOk R E clock exG:=by
  intro w' H tv hm ht
  have h1:=New_at flowL tv w' ht (by decide) (hW.next hm)
  rw [flow_new] at h1
  exact h1
 refine fn_at Tryz.func46 rfl Tryz.ntmps46 rfl ?_
 repeat' (first|((with_reducible apply wl_call (f:=45));exact rfl;exact rfl;(intro w' hm;exact Book27_at w');rintro _ _ ⟨ge,gr,gn,rfl,rfl⟩)|((with_reducible apply wl_call (f:=31));exact rfl;exact rfl;(intro w' hm;exact hN w' _ _ hm (Reads.of_own (A:=some _) hm pK));rintro _ _ ⟨gg,gm,E,clock,R,rfl,rfl,hG⟩;refine wl_subH (.own (some gr) 38 7 2 2 (bkR.flatMap encRl):: .own (some gn) 56 8 1 1 (bkN.flatMap encGn)::(gB gg gm (E.map En.m) clock++R)) (msub_rows _ _ _ _) ?_)|((with_reducible apply wl_callin (d:=30));exact rfl;exact rfl;exact Label_to bk_l4 (hG.rdr exG_ok (by decide) gg gm w) (MSub.drop .hd (MSub.drop .hd (MSub.refl _))) (some ⟨gr,0,none⟩) (some ⟨gn,0,none⟩) 2 1 (fun w' hm=>Reads.of_own (A:=some gr) hm .hd) (fun w' hm=>Reads.of_own (A:=some gn) hm (.tl .hd)) (by decide);rintro _ _ ⟨rfl,rfl⟩)|((with_reducible apply wl_callin (d:=37));exact rfl;exact rfl;exact Label_to bk_l0 (hG.rdr exG_ok (by decide) gg gm w) (MSub.drop .hd (MSub.drop .hd (MSub.refl _))) (some ⟨gr,0,none⟩) none 2 0 (fun w' hm=>Reads.of_own (A:=some gr) hm .hd) (fun w' hm=>reads_nil w') (by decide);rintro _ _ ⟨rfl,rfl⟩)|((with_reducible apply wl_v);exact rfl;(with_reducible apply v_eql64 (b:=3#64));exact rfl;exact rfl)|((with_reducible apply wl_v);exact rfl;(with_reducible apply v_eql64 (b:=1#64));exact rfl;exact rfl)|refine sT ?_|refine sS ?_|refine sM fun _=> ?_|(refine sC ?_ ?_<;>intro hb<;>try omega)|fail)
 all_goals first
  |(exfalso;omega)
  |((refine rT1 ?_);rfl)
  |trace_state
end Go.SL
namespace Go.SL
open Go
def bkBad:List Gn:=bkN++ [⟨⟨0,0,0,0⟩,0,0#64,0,false⟩]
theorem bk_rng {r:Rct}:rngF exG (lwOf bkR bkN) r=ovL exG (lwC bkR bkN) (itL exG (lwC bkR bkN) 3) r:=by
 unfold rngF
 rw [show labF exG (lwOf bkR bkN)=itL exG (lwC bkR bkN) 3 from funext fun a=>bk_lab,lwC_eq]
theorem bk_mk:marksF exG (lwOf bkR bkN)=(keysG exG).map fun c=>(c,itL exG (lwC bkR bkN) 3 c):=by
 unfold marksF
 rw [show labF exG (lwOf bkR bkN)=itL exG (lwC bkR bkN) 3 from funext fun a=>bk_lab]
set_option maxRecDepth 100000
theorem bk_r1:rngE exG bkR bkN ⟨1,1,1,4⟩=(1#64,0):=by rw [rngE,bk_rng];decide+kernel
theorem bk_r2:rngE exG bkR bkN ⟨2,1,2,3⟩=(1#64,0):=by rw [rngE,bk_rng];decide+kernel
theorem bk_r3:rngE exG bkR bkN ⟨3,1,3,9⟩=(7#64,0):=by rw [rngE,bk_rng];decide+kernel
theorem bk_m:lbsE exG bkR bkN=([(⟨1,2⟩,1#64),(⟨1,3⟩,3#64),(⟨1,4⟩,3#64)],0):=by rw [lbsE,bk_mk];decide+kernel
theorem bk_c1:calE exG bkR bkN ⟨1,3⟩ 1=(3#64,0):=by
 have h:(usesG exG ⟨1,3⟩).find? (isCall 1)=some ⟨⟨2,1,2,3⟩,1,46⟩:=by decide+kernel
 rw [calE,calF,h]
 dsimp only
 rw [bk_rng,lwC_eq]
 decide+kernel
theorem bk_c2:calE exG bkR bkN ⟨1,3⟩ 0=(0#64,6):=by
 have h:(usesG exG ⟨1,3⟩).find? (isCall 0)=none:=by decide+kernel
 rw [calE,calF,h];decide+kernel
theorem bk_c3:calE exG bkR bkN ⟨1,1⟩ 0=(0#64,6):=by
 have h:(usesG exG ⟨1,1⟩).find? (isCall 0)=none:=by decide+kernel
 rw [calE,calF,h];decide+kernel
theorem bk_s2:stE (Rf.valid ⟨0,0⟩) [] bkBad=3:=by decide+kernel
theorem bk_s3:stE (Rf.valid ⟨1,3⟩) [] bkBad=2:=by decide+kernel
theorem bk_s4:stE (decide (rectE ⟨1,1,1,1⟩=0)) bkR bkBad=3:=by decide+kernel
theorem bk_s5:stE true bkR.tail bkN=2:=by decide+kernel
theorem bk_s6:stE (Rf.valid ⟨1025,1⟩) bkR bkBad=3:=by decide+kernel
theorem bk_e2:lblE exG [] bkBad ⟨0,0⟩=(0#64,3):=by rw [lblE,bk_s2,if_pos (by decide)]
theorem bk_e3:lblE exG [] bkBad ⟨1,3⟩=(0#64,2):=by rw [lblE,bk_s3,if_pos (by decide)]
theorem bk_e4:rngE exG bkR bkBad ⟨1,1,1,1⟩=(0#64,3):=by rw [rngE,bk_s4,if_pos (by decide)]
theorem bk_e5:lbsE exG bkR.tail bkN=([],2):=by rw [lbsE,bk_s5,if_pos (by decide)]
theorem bk_e6:calE exG bkR bkBad ⟨1025,1⟩ 0=(0#64,3):=by rw [calE,bk_s6,if_pos (by decide)]
end Go.SL
namespace Go.SL
open Go Go.Proofs
attribute [local irreducible] W WL WQ WG WA WX WLI WR WT WC WE VOp RW thn blk cutP scp retP retPP endB FnAt FnIn FnP ceP bodyB assignQ roundQ
theorem start_nil (ok:Bool) (rv nv:Value) (w0:World) (F:List Blk):FnIn Tryz.prog 114 [.pointer none,.bool ok,rv,nv] w0 F fun v H' =>v= .tuple #[.pointer none,.int .i64 1]∧H' =F:=by
 refine fn_in Tryz.func114 rfl Tryz.ntmps114 rfl ?_
 repeat' (first|refine sT ?_|refine sS ?_|refine sM fun _=> ?_|(refine sC ?_ ?_<;>intro hb<;>try omega)|fail)
 all_goals exact ret2 eIO rfl rfl rfl (H' :=F) mS ⟨rfl,rfl⟩
theorem Label_nil (a:Rf) (rv nv:Value) (w0:World) (F:List Blk):FnIn Tryz.prog 47 [.pointer none,keyF a,rv,nv] w0 F fun v H' =>v= .tuple #[vS 0#64,.int .i64 1]∧H' =F:=by
 refine fn_in Tryz.func47 rfl Tryz.ntmps47 rfl ?_
 have hva:=fun w=>valid_at a.col a.row w
 repeat' (first|((with_reducible apply wl_callp);exact rfl;exact rfl;(intro w hm;exact hva w))|((with_reducible apply wl_callin (f:=114));exact rfl;exact rfl;exact start_nil _ _ _ w0 _;rintro _ _ ⟨rfl,rfl⟩)|refine sT ?_|refine sS ?_|refine sM fun _=> ?_|(refine sC ?_ ?_<;>intro hb<;>try omega)|fail)
 all_goals first
  |(exfalso;omega)
  |(exact ret2 eIO rfl rfl rfl (H' :=F) mS ⟨rfl,rfl⟩)
  |trace_state
section
variable {a:Rf} {gg:Nat} {G:Gr} {B F:List Blk} {w0:World} {L:List Rl} {N:List Gn} {x:BitVec 64} {e:Int} (R:Rdr gg G B w0) (hB:MSub B F) (Al An:Option Addr) (cl cn:Nat) (hl: ∀ w',Mem w0 w' F→Reads w' (.slice Al L.length cl) L.length (L.flatMap encRl)) (hn: ∀ w',Mem w0 w' F→Reads w' (.slice An N.length cn) N.length (N.flatMap encGn)) (hN:N.length≤1000000)
include R hB hl hn hN
theorem Range_to {r:Rct} (h:rngE G L N r=(x,e)):FnIn Tryz.prog 50 [.pointer (some ⟨gg,0,none⟩),.agg (encR r).toArray,.slice Al L.length cl,.slice An N.length cn] w0 F fun v H' =>v= .tuple #[vS x,.int .i64 e]∧H' =F:=by
 have h1:=Range_in r gg G B F w0 R hB L N Al An cl cn hl hn hN
 rw [h] at h1
 exact h1
theorem Call_to {n:Int} (h:calE G L N a n=(x,e)):FnIn Tryz.prog 51 [.pointer (some ⟨gg,0,none⟩),.agg #[.int .i64 a.col,.int .i64 a.row,.int .i64 n],.slice Al L.length cl,.slice An N.length cn] w0 F fun v H' =>v= .tuple #[vS x,.int .i64 e]∧H' =F:=by
 have h1:=Call_in a n gg G B F w0 R hB L N Al An cl cn hl hn hN
 rw [h] at h1
 exact h1
theorem Labels_to {M:List (Rf × BitVec 64)} (h:lbsE G L N=(M,e)):FnIn Tryz.prog 48 [.pointer (some ⟨gg,0,none⟩),.slice Al L.length cl,.slice An N.length cn] w0 F fun v H' => ∃ A cap,v= .tuple #[sl A M.length cap,.int .i64 e]∧H' = .own A 101 3 M.length cap (M.flatMap encMk)::F:=by
 have h1:=Labels_in gg G B F w0 R hB L N Al An cl cn hl hn hN
 rw [h] at h1
 exact h1
end
theorem tail_rd {w0 w:World} {H:List Blk} {gr:Nat} (hm:Mem w0 w H) (hi:In (.own (some gr) 38 7 2 2 (bkR.flatMap encRl)) H):Reads w (.slice (some ⟨gr,1*7,none⟩) bkR.tail.length (2 - 1)) bkR.tail.length (bkR.tail.flatMap encRl):=
 ⟨_,_,rfl,by decide,by decide,fun _=>⟨gr,1*7,rfl,by
  have h:=(Ro.of_own hm hi).drop (k:=7)
  rw [Nat.zero_add] at h
  exact h⟩⟩
set_option maxHeartbeats 16000000 in
theorem FlowExamples_at (w:World) (hW:Words w):Pure Tryz.prog 7 [] w (.bool true):=by
 have hN: ∀ (w' :World) (H:List Blk) (tv:Value),Mem w w' H→Reads w' tv flowL.length (flowL.flatMap encEt)→FnAt Tryz.prog 31 [tv] w' fun v H=> ∃ gg gm E clock R,v= .tuple #[.pointer (some ⟨gg,0,none⟩),.int .i64 0]∧H=gB gg gm (E.map En.m) clock++R∧GOk R E clock exG:=by
  intro w' H tv hm ht
  have h1:=New_at flowL tv w' ht (by decide) (hW.next hm)
  rw [flow_new] at h1
  exact h1
 have hEq:=fun (w' :World) (lv mv:Value) (hl:Reads w' lv 3 _) (hm:Reads w' mv 3 _)=>EqualMarks_at [(⟨1,2⟩,1#64),(⟨1,3⟩,3#64),(⟨1,4⟩,3#64)] [(⟨1,2⟩,1#64),(⟨1,3⟩,3#64),(⟨1,4⟩,3#64)] lv mv w' hl hm
 rw [decide_eq_true rfl] at hEq
 have hA:=fun (w' :World) (H:List Blk) (hm:Mem w w' H)=>awake27_at w' (hW.next hm)
 refine fn_at Tryz.func7 rfl Tryz.ntmps7 rfl ?_
 repeat' (first|((with_reducible apply wl_call (f:=45));exact rfl;exact rfl;(intro w' hm;exact Book27_at w');rintro _ _ ⟨ge,gr,gn,rfl,rfl⟩)|((with_reducible apply wl_call (f:=31));exact rfl;exact rfl;(intro w' hm;exact hN w' _ _ hm (Reads.of_own (A:=some _) hm pK));rintro _ _ ⟨gg,gm,E,clock,R,rfl,rfl,hG⟩;refine wl_subH (.own (some gr) 38 7 2 2 (bkR.flatMap encRl):: .own (some gn) 56 8 1 1 (bkN.flatMap encGn)::(gB gg gm (E.map En.m) clock++R)) (msub_rows _ _ _ _) ?_)|((with_reducible apply wl_callp (f:=46));exact rfl;exact rfl;(intro w' hm;exact hA w' _ hm))|refine sT ?_|refine sS ?_|refine sM fun _=> ?_|(refine sC ?_ ?_<;>intro hb<;>try omega)|fail)
 rename_i gw
 refine w_loopK [2,3,4,6] rfl (fun i:Nat=> [(7,.int .i64 (i:Int))]) (fun _=> .own (some gw) 34 1 4 4 [vS 7#64,vS 1#64,vS 3#64,vS 3#64]:: .own (some gr) 38 7 2 2 (bkR.flatMap encRl):: .own (some gn) 56 8 1 1 (bkN.flatMap encGn)::(gB gg gm (E.map En.m) clock++R)) (fun i=>i≤4) (fun i=>4 - i) 0 (Nat.zero_le _) sB mS ?_
 rintro i hi
 by_cases hlt:i<4
 ·
  have h4:i=0∨i=1∨i=2∨i=3:=by omega
  rcases h4 with rfl|rfl|rfl|rfl
  all_goals
   repeat' (first|((with_reducible apply wl_callin (d:=59));exact rfl;exact rfl;exact Label_to bk_l1 (hG.rdr exG_ok (by decide) gg gm w) mS (some ⟨gr,0,none⟩) (some ⟨gn,0,none⟩) 2 1 (fun w' hm=>Reads.of_own (A:=some gr) hm pK) (fun w' hm=>Reads.of_own (A:=some gn) hm pK) (by decide);rintro _ _ ⟨rfl,rfl⟩)|((with_reducible apply wl_callin (d:=59));exact rfl;exact rfl;exact Label_to bk_l2 (hG.rdr exG_ok (by decide) gg gm w) mS (some ⟨gr,0,none⟩) (some ⟨gn,0,none⟩) 2 1 (fun w' hm=>Reads.of_own (A:=some gr) hm pK) (fun w' hm=>Reads.of_own (A:=some gn) hm pK) (by decide);rintro _ _ ⟨rfl,rfl⟩)|((with_reducible apply wl_callin (d:=59));exact rfl;exact rfl;exact Label_to bk_l3 (hG.rdr exG_ok (by decide) gg gm w) mS (some ⟨gr,0,none⟩) (some ⟨gn,0,none⟩) 2 1 (fun w' hm=>Reads.of_own (A:=some gr) hm pK) (fun w' hm=>Reads.of_own (A:=some gn) hm pK) (by decide);rintro _ _ ⟨rfl,rfl⟩)|((with_reducible apply wl_callin (d:=59));exact rfl;exact rfl;exact Label_to bk_l4 (hG.rdr exG_ok (by decide) gg gm w) mS (some ⟨gr,0,none⟩) (some ⟨gn,0,none⟩) 2 1 (fun w' hm=>Reads.of_own (A:=some gr) hm pK) (fun w' hm=>Reads.of_own (A:=some gn) hm pK) (by decide);rintro _ _ ⟨rfl,rfl⟩)|((with_reducible apply wl_v (d:=65));exact rfl;(with_reducible apply v_indexAddr (j:=0));exact rfl;exact rfl;omega)|((with_reducible apply wl_v (d:=65));exact rfl;(with_reducible apply v_indexAddr (j:=1));exact rfl;exact rfl;omega)|((with_reducible apply wl_v (d:=65));exact rfl;(with_reducible apply v_indexAddr (j:=2));exact rfl;exact rfl;omega)|((with_reducible apply wl_v (d:=65));exact rfl;(with_reducible apply v_indexAddr (j:=3));exact rfl;exact rfl;omega)|((with_reducible apply wl_v (d:=66));exact rfl;(with_reducible apply v_load_own);exact rfl;exact pK;exact rfl)|((with_reducible apply wl_v (d:=67));exact rfl;(with_reducible apply v_neq64);exact rfl;exact rfl)|refine sT ?_|refine sS ?_|refine sN ?_|refine sM fun _=> ?_|(refine sC ?_ ?_<;>intro hb<;>try omega)|fail)
   all_goals first
    |(exfalso;omega)
    |(refine ⟨1,by omega,by omega,by exact sB,by exact sB,by exact mS⟩;done)
    |(refine ⟨2,by omega,by omega,by exact sB,by exact sB,by exact mS⟩;done)
    |(refine ⟨3,by omega,by omega,by exact sB,by exact sB,by exact mS⟩;done)
    |(refine ⟨4,by omega,by omega,by exact sB,by exact sB,by exact mS⟩;done)
    |trace_state
 ·
  have e:i=4:=by omega
  subst e
  repeat' (first|((with_reducible apply wl_callin (d:=76));exact rfl;exact rfl;exact Labels_to (hG.rdr exG_ok (by decide) gg gm w) mS (some ⟨gr,0,none⟩) (some ⟨gn,0,none⟩) 2 1 (fun w' hm=>Reads.of_own (A:=some gr) hm pK) (fun w' hm=>Reads.of_own (A:=some gn) hm pK) (by decide) bk_m;rintro _ _ ⟨A10,c10,rfl,rfl⟩)|((with_reducible apply wl_callin (d:=98));exact rfl;exact rfl;exact Label_to bk_b3 (hG.rdr exG_ok (by decide) gg gm w) mS (some ⟨gr,0,none⟩) (some ⟨gn,0,none⟩) 2 1 (fun w' hm=>Reads.of_own (A:=some gr) hm pK) (fun w' hm=>Reads.of_own (A:=some gn) hm pK) (by decide);rintro _ _ ⟨rfl,rfl⟩)|((with_reducible apply wl_callin (d:=106));exact rfl;exact rfl;exact Range_to (hG.rdr exG_ok (by decide) gg gm w) mS (some ⟨gr,0,none⟩) (some ⟨gn,0,none⟩) 2 1 (fun w' hm=>Reads.of_own (A:=some gr) hm pK) (fun w' hm=>Reads.of_own (A:=some gn) hm pK) (by decide) bk_r1;rintro _ _ ⟨rfl,rfl⟩)|((with_reducible apply wl_callin (d:=114));exact rfl;exact rfl;exact Range_to (hG.rdr exG_ok (by decide) gg gm w) mS (some ⟨gr,0,none⟩) (some ⟨gn,0,none⟩) 2 1 (fun w' hm=>Reads.of_own (A:=some gr) hm pK) (fun w' hm=>Reads.of_own (A:=some gn) hm pK) (by decide) bk_r2;rintro _ _ ⟨rfl,rfl⟩)|((with_reducible apply wl_callin (d:=122));exact rfl;exact rfl;exact Range_to (hG.rdr exG_ok (by decide) gg gm w) mS (some ⟨gr,0,none⟩) (some ⟨gn,0,none⟩) 2 1 (fun w' hm=>Reads.of_own (A:=some gr) hm pK) (fun w' hm=>Reads.of_own (A:=some gn) hm pK) (by decide) bk_r3;rintro _ _ ⟨rfl,rfl⟩)|((with_reducible apply wl_callin (d:=162));exact rfl;exact rfl;exact Call_to (hG.rdr exG_ok (by decide) gg gm w) mS (some ⟨gr,0,none⟩) (some ⟨gn,0,none⟩) 2 1 (fun w' hm=>Reads.of_own (A:=some gr) hm pK) (fun w' hm=>Reads.of_own (A:=some gn) hm pK) (by decide) bk_c1;rintro _ _ ⟨rfl,rfl⟩)|((with_reducible apply wl_callin (d:=171));exact rfl;exact rfl;exact Call_to (hG.rdr exG_ok (by decide) gg gm w) mS (some ⟨gr,0,none⟩) (some ⟨gn,0,none⟩) 2 1 (fun w' hm=>Reads.of_own (A:=some gr) hm pK) (fun w' hm=>Reads.of_own (A:=some gn) hm pK) (by decide) bk_c2;rintro _ _ ⟨rfl,rfl⟩)|((with_reducible apply wl_callin (d:=180));exact rfl;exact rfl;exact Call_to (hG.rdr exG_ok (by decide) gg gm w) mS (some ⟨gr,0,none⟩) (some ⟨gn,0,none⟩) 2 1 (fun w' hm=>Reads.of_own (A:=some gr) hm pK) (fun w' hm=>Reads.of_own (A:=some gn) hm pK) (by decide) bk_c3;rintro _ _ ⟨rfl,rfl⟩)|((with_reducible apply wl_callp (d:=90));exact rfl;exact rfl;(intro w' hm;exact hEq w' _ _ (Reads.of_own hm pK) (Reads.of_own (A:=some _) hm pK)))|((with_reducible apply wl_v (d:=126));exact rfl;(with_reducible apply v_neq64 (b:=1#64));exact rfl;exact rfl)|((with_reducible apply wl_v (d:=133));exact rfl;(with_reducible apply v_neq64 (b:=1#64));exact rfl;exact rfl)|((with_reducible apply wl_v (d:=141));exact rfl;(with_reducible apply v_neq64 (b:=1#64));exact rfl;exact rfl)|((with_reducible apply wl_v (d:=149));exact rfl;(with_reducible apply v_neq64 (b:=7#64));exact rfl;exact rfl)|((with_reducible apply wl_call (f:=52));exact rfl;exact rfl;(intro w' hm;exact CopyGrants_at bkN _ w' (Reads.of_own (A:=some gn) hm pK) (by decide));rintro _ _ ⟨Ab,cb,rfl,rfl⟩)|((with_reducible apply wl_append1 (d:=201));(iterate 3 exact rfl);exact pK;exact pK;exact rfl;(simp [Value.oneCell']);decide;(simp only [maxLen];decide);intro g8 c8)|((with_reducible apply wl_callin (d:=205));exact rfl;exact rfl;exact Label_nil ⟨0,0⟩ _ _ w _;rintro _ _ ⟨rfl,rfl⟩)|((with_reducible apply wl_callin (d:=212));exact rfl;exact rfl;exact Label_to bk_e2 (hG.rdr exG_ok (by decide) gg gm w) mS none (some ⟨g8,0,none⟩) 0 c8 (fun w' hm=>reads_nil w') (fun w' hm=>Reads.of_own (A:=some g8) hm pK) (by decide);rintro _ _ ⟨rfl,rfl⟩)|((with_reducible apply wl_callin (d:=219));exact rfl;exact rfl;exact Label_to bk_e3 (hG.rdr exG_ok (by decide) gg gm w) mS none (some ⟨g8,0,none⟩) 0 c8 (fun w' hm=>reads_nil w') (fun w' hm=>Reads.of_own (A:=some g8) hm pK) (by decide);rintro _ _ ⟨rfl,rfl⟩)|((with_reducible apply wl_callin (d:=227));exact rfl;exact rfl;exact Range_to (hG.rdr exG_ok (by decide) gg gm w) mS (some ⟨gr,0,none⟩) (some ⟨g8,0,none⟩) 2 c8 (fun w' hm=>Reads.of_own (A:=some gr) hm pK) (fun w' hm=>Reads.of_own (A:=some g8) hm pK) (by decide) bk_e4;rintro _ _ ⟨rfl,rfl⟩)|((with_reducible apply wl_callin (d:=244));exact rfl;exact rfl;exact Call_to (hG.rdr exG_ok (by decide) gg gm w) mS (some ⟨gr,0,none⟩) (some ⟨g8,0,none⟩) 2 c8 (fun w' hm=>Reads.of_own (A:=some gr) hm pK) (fun w' hm=>Reads.of_own (A:=some g8) hm pK) (by decide) bk_e6;rintro _ _ ⟨rfl,rfl⟩)|((with_reducible apply wl_v (d:=233));exact rfl;(with_reducible apply v_sliceLo (lo:=1));exact rfl;exact rfl;decide;decide)|((with_reducible apply wl_callin (d:=235));exact rfl;exact rfl;exact Labels_to (hG.rdr exG_ok (by decide) gg gm w) mS (some ⟨gr,1*7,none⟩) (some ⟨gn,0,none⟩) (2 - 1) 1 (fun w' hm=>tail_rd hm pK) (fun w' hm=>Reads.of_own (A:=some gn) hm pK) (by decide) bk_e5;rintro _ _ ⟨A11,c11,rfl,rfl⟩)|((with_reducible apply wl_v (d:=184));exact rfl;(with_reducible apply v_neq64 (b:=3#64));exact rfl;exact rfl)|refine sT ?_|refine sS ?_|refine sN ?_|refine sM fun _=> ?_|(refine sC ?_ ?_<;>intro hb<;>try omega)|fail)
  all_goals first
   |(exfalso;omega)
   |((refine rT1 ?_);rfl)
   |trace_state
end Go.SL
