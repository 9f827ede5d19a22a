/-
  Lemmas and walks, put together: Ug Uj.
-/
import Derived.Test.YtoanpdoacdpgeaaGreatDoorKn47
import Derived.Test.YtoanpdoacdpgeaaGreatDoorKn49
set_option linter.unusedSimpArgs false
set_option linter.unusedVariables false
set_option maxRecDepth 20000
namespace Go.SL
open Go Go.Proofs
attribute [local irreducible] W WL WQ WG WA WX WLI WR WT WC WE VOp RW thn blk bE scp ba bo bL aP FnIn FnP ceP
set_option maxHeartbeats 8000000 in
theorem zj (b:Bk) (x:Bv) (o:Ox) (w:World) (h:BRd w b x) (hi:o.kind=9→0≤o.idx∧o.idx<(b.grants.length:Int)):ay Tryz.prog 107 [.agg (aU b x).toArray,.agg (bi o).toArray] w (.bool (!sw b o)):=by
 refine aq Tryz.func107 rfl Tryz.ntmps107 rfl ?_
 have hO:=fun (r:Rct) (w' :World) (H:List Blk) (hm:Mem w w' H)=>oN r b.rules _ w' (h.r.of_w0 hm)
 have hH:=fun (s:BitVec 64) w' =>qx s o.user w'
 have hg:=h.g
 unfold sw
 obtain ⟨us,E,RU,G,L,M,st⟩:=b
 obtain ⟨ae1,ar1,ag1,al1,as1,ce1,cr1,cg1,cl1,cs1⟩:=x
 dsimp only at hO hi hg ⊢
 clear h
 simp only [aU,bi]
 have hO1:=hO o.rect
 by_cases k4:o.kind=9
 ·
  rw [if_neg (by omega),if_neg (by omega),if_neg (by omega),if_pos k4]
  obtain ⟨hi1,hi2⟩:=hi k4
  obtain ⟨j,hj⟩: ∃ j:Nat,o.idx=(j:Int):=⟨o.idx.toNat,by omega⟩
  have hjl:j<G.length:=by omega
  rw [hj,Ov,Nc hjl]
  dsimp only
  obtain ⟨Ag,cg,hge,hg1,hg2,hg3⟩:=hg
  cases hge
  obtain ⟨gg,og,rfl,hgr⟩:=hg3 (by omega)
  have he:=hgr.elem bW j hjl
  generalize G[j]=g at he
  have hO2:=hO g.rect
  generalize ovE o.rect RU=v1 at hO1
  generalize ovE g.rect RU=v2 at hO2 ⊢
  obtain ⟨⟨a1,a2,a3⟩,a4⟩:=v1
  obtain ⟨⟨c1,c2,c3⟩,c4⟩:=v2
  dsimp only at hO1 hO2 ⊢
  have hH3:=hH c3
  generalize fE c3 o.user=q at hH3 ⊢
  by_cases hby:g.by_=o.user
  ·
   rw [show decide (g.by_≠o.user)=false by simp [hby],NY]
   repeat' (first|(apply aa (d:=13);exact rfl;exact rfl;(intro w' hm;exact hO1 w' _ hm))|(apply aa (d:=54);exact rfl;exact rfl;(intro w' hm;exact hO2 w' _ hm))|(apply ak (d:=47);exact rfl;apply aj (j:=j);exact rfl;(first|exact rfl|(rw [hj];exact rfl));exact hjl)|(apply ak (d:=48);exact rfl;apply aA;exact rfl;exact he;exact rfl)|(apply aa (d:=67);exact rfl;exact rfl;(intro w' _;exact hH3 w'))|refine sT ?_|refine sS ?_|refine sM fun _=> ?_|(refine sC ?_ ?_<;>intro hb<;>try omega)|fail)
   all_goals first|(exfalso;omega)|((refine rT1 ?_);rfl)|trace_state
  ·
   rw [show decide (g.by_≠o.user)=true by simp [hby],NI,Qa]
   repeat' (first|(apply aa (d:=13);exact rfl;exact rfl;(intro w' hm;exact hO1 w' _ hm))|(apply aa (d:=54);exact rfl;exact rfl;(intro w' hm;exact hO2 w' _ hm))|(apply ak (d:=47);exact rfl;apply aj (j:=j);exact rfl;(first|exact rfl|(rw [hj];exact rfl));exact hjl)|(apply ak (d:=48);exact rfl;apply aA;exact rfl;exact he;exact rfl)|(apply aa (d:=67);exact rfl;exact rfl;(intro w' _;exact hH3 w'))|refine sT ?_|refine sS ?_|refine sM fun _=> ?_|(refine sC ?_ ?_<;>intro hb<;>try omega)|fail)
   all_goals first|(exfalso;omega)|((refine rT1 ?_);rfl)|trace_state
 generalize ovE o.rect RU=v1 at hO1 ⊢
 obtain ⟨⟨a1,a2,a3⟩,a4⟩:=v1
 dsimp only at hO1 ⊢
 by_cases k1:o.kind=3∨o.kind=4
 ·
  rw [if_pos k1,Qa]
  have hH2:=hH a2
  generalize fE a2 o.user=q at hH2 ⊢
  repeat' (first|(apply aa (d:=13);exact rfl;exact rfl;(intro w' hm;exact hO1 w' _ hm))|(apply aa;exact rfl;exact rfl;(intro w hm;exact hH2 w))|refine sT ?_|refine sS ?_|refine sM fun _=> ?_|(refine sC ?_ ?_<;>intro hb<;>try omega)|fail)
  all_goals first|(exfalso;omega)|((refine rT1 ?_);rfl)|trace_state
 rw [if_neg k1]
 by_cases k2:o.kind=6
 ·
  rw [if_pos k2,Qa]
  have hH2:=hH a1
  generalize fE a1 o.user=q at hH2 ⊢
  repeat' (first|(apply aa (d:=13);exact rfl;exact rfl;(intro w' hm;exact hO1 w' _ hm))|(apply aa;exact rfl;exact rfl;(intro w hm;exact hH2 w))|refine sT ?_|refine sS ?_|refine sM fun _=> ?_|(refine sC ?_ ?_<;>intro hb<;>try omega)|fail)
  all_goals first|(exfalso;omega)|((refine rT1 ?_);rfl)|trace_state
 rw [if_neg k2]
 by_cases k3:o.kind=7∨o.kind=8
 ·
  rw [if_pos k3,Qa]
  have hH2:=hH a3
  generalize fE a3 o.user=q at hH2 ⊢
  repeat' (first|(apply aa (d:=13);exact rfl;exact rfl;(intro w' hm;exact hO1 w' _ hm))|(apply aa;exact rfl;exact rfl;(intro w hm;exact hH2 w))|refine sT ?_|refine sS ?_|refine sM fun _=> ?_|(refine sC ?_ ?_<;>intro hb<;>try omega)|fail)
  all_goals first|(exfalso;omega)|((refine rT1 ?_);rfl)|trace_state
 rw [if_neg k3,if_neg k4]
 repeat' (first|(apply aa (d:=13);exact rfl;exact rfl;(intro w' hm;exact hO1 w' _ hm))|refine sT ?_|refine sS ?_|refine sM fun _=> ?_|(refine sC ?_ ?_<;>intro hb<;>try omega)|fail)
 all_goals first|(exfalso;omega)|((refine rT1 ?_);rfl)|trace_state
theorem lJ (k:Int):mL k=true↔3≤k∧k≤8:=by
 simp only [mL,OX,decide_eq_true_eq];omega
theorem sU (k:Int) (w:World):ay Tryz.prog 106 [.int .u8 k] w (.bool (mL k)):=by
 refine aq Tryz.func106 rfl Tryz.ntmps106 rfl ?_
 cases hk:mL k with
 |true=>
  have h:=(lJ k).1 hk
  repeat' (first|refine sT ?_|refine sM fun _=> ?_|(refine sC ?_ ?_<;>intro hb<;>try omega)|fail)
  all_goals first|(exfalso;omega)|((refine rT1 ?_);rfl)|((refine rT1 ?_);simp;omega)|trace_state
 |false=>
  have h: ¬ (3≤k∧k≤8):=fun h2=>by rw [(lJ k).2 h2] at hk;cases hk
  repeat' (first|refine sT ?_|refine sM fun _=> ?_|(refine sC ?_ ?_<;>intro hb<;>try omega)|fail)
  all_goals first|(exfalso;omega)|((refine rT1 ?_);rfl)|((refine rT1 ?_);simp;omega)|trace_state
theorem xk (r:Rct) (hr:aI r=true) (w:World):ay Tryz.prog 109 [.agg (bH r).toArray] w (.int .i64 (nk r)):=by
 refine aq Tryz.func109 rfl Tryz.ntmps109 rfl ?_
 have hs:=cj.1 hr
 unfold nk
 rw [if_neg (by rw [hr];decide)]
 have h1:0≤r.c2 - r.c1+1∧r.c2 - r.c1+1≤1024:=by omega
 have h2:0≤r.r2 - r.r1+1∧r.r2 - r.r1+1≤1024:=by omega
 have h3:0≤(r.c2 - r.c1+1)*(r.r2 - r.r1+1):=Int.mul_nonneg h1.1 h2.1
 have h4:(r.c2 - r.c1+1)*(r.r2 - r.r1+1)≤1024*1024:=Int.mul_le_mul h1.2 h2.2 h2.1 (by decide)
 repeat' (first|(apply ak;exact rfl;apply qi;exact rfl;exact rfl;exact ⟨by omega,by omega⟩)|(apply ak;exact rfl;apply Dp;exact rfl;exact rfl;exact ⟨by omega,by omega⟩)|(apply ak;exact rfl;apply da;exact rfl;exact rfl;exact ⟨by omega,by omega⟩)|refine sT ?_|refine sS ?_|refine sM fun _=> ?_|(refine sC ?_ ?_<;>intro hb<;>try omega)|fail)
 all_goals first|(exfalso;omega)|((refine rT1 ?_);rfl)|trace_state
theorem LV (b:Bk) (o:Ox):cdE b o=
  if opE o≠0 then (1,0) else if o.user<0∨b.users≤o.user then (2,0) else if mL o.kind=true∧aI o.rect=false then (4,0)
  else if (o.rd|||o.wr|||o.ow|||o.to) &&& ~~~(df b.users).1≠0#64 then (2,0)
  else if o.kind=9∧(o.idx<0∨(b.grants.length:Int)≤o.idx∨w5 b o=true) then (8,0) else if sw b o=true then (5,0)
  else if o.kind=3∧(ofP o.input).2.2≠0 then (6,(ofP o.input).2.1)
  else if (o.kind=5∧1024<nk o.rect)∨(o.kind=7∧64≤b.rules.length)∨(o.kind=8∧64≤b.grants.length) then (7,0) else (0,0):=by
 have t0:tst b o 0=true↔opE o≠0:=by simp [tst]
 have t1:tst b o 1=true↔(o.user<0∨b.users≤o.user):=by simp [tst]
 have t2:tst b o 2=true↔(mL o.kind=true∧aI o.rect=false):=by
  unfold tst jm
  cases hk:mL o.kind with
  |false=>simp
  |true=>simp [pX]
 have t3:tst b o 3=true↔(o.rd|||o.wr|||o.ow|||o.to) &&& ~~~(df b.users).1≠0#64:=by simp [tst]
 have t4:tst b o 4=true↔(o.kind=9∧(o.idx<0∨(b.grants.length:Int)≤o.idx∨w5 b o=true)):=by simp [tst,or_assoc]
 have t5:tst b o 5=true↔sw b o=true:=Iff.rfl
 have t6:tst b o 6=true↔(o.kind=3∧(ofP o.input).2.2≠0):=by simp [tst]
 have t7:tst b o 7=true↔((o.kind=5∧1024<nk o.rect)∨(o.kind=7∧64≤b.rules.length)∨(o.kind=8∧64≤b.grants.length)):=by
  unfold tst jm
  by_cases h5:o.kind=5
  ·
   have hk:mL o.kind=true:=(lJ _).2 (by omega)
   simp [h5,show mL 5=true from rfl]
  ·
   simp [h5]
 unfold cdE
 simp only [t0,t1,t2,t3,t4,t5,t6,t7]
set_option maxHeartbeats 16000000 in
theorem xd (b:Bk) (x:Bv) (o:Ox) (w:World) (h:BRd w b x) (hb:BkOk b):ay Tryz.prog 48 [.agg (aU b x).toArray,.agg (bi o).toArray] w (.tuple #[.int .u8 (cdE b o).1,.int .i64 (cdE b o).2]):=by
 have hru:b.rules.length≤64:=(xV.1 hb.r).2.2.1
 have hgr:b.grants.length≤64:=(Kg.1 hb.g).2.1
 have hop:=fun w=>mW o w
 have hRg:=fun w=>sU o.kind w
 have hRe:=fun w=>dP o.rect w
 have hWi:=fun w=>gy (o.rd|||o.wr|||o.ow|||o.to) b.users w
 have hMa:=fun (hi:o.kind=9→0≤o.idx∧o.idx<(b.grants.length:Int)) (w' :World) (H:List Blk) (hm:Mem w w' H)=>zj b x o w' (h.of_w0 hm) hi
 have hOf:=fun w=>y9 o.input w
 have hAr:=fun (hr:aI o.rect=true) w=>xk o.rect hr w
 have hg:=h.g
 have hrG:=fun (j:Nat) (hj:o.idx=(j:Int)) (hl:j<b.grants.length)=>DD (b:=b) (o:=o) hj hl
 rw [LV]
 refine aq Tryz.func48 rfl Tryz.ntmps48 rfl ?_
 generalize w5 b o=rv at hrG ⊢
 generalize sw b o=rf at hMa ⊢
 generalize opE o=oe at hop ⊢
 generalize nk o.rect=ar at hAr ⊢
 generalize hpk:mL o.kind=pk at hRg ⊢
 generalize aI o.rect=ro at hRe hAr ⊢
 generalize ofP o.input=op at hOf ⊢
 obtain ⟨⟨fm,v,t⟩,at_,e⟩:=op
 simp only [ofV,xN] at hOf
 dsimp only at hOf ⊢
 obtain ⟨us,E,RU,G,L,M,st⟩:=b
 obtain ⟨ae1,ar1,ag1,al1,as1,ce1,cr1,cg1,cl1,cs1⟩:=x
 dsimp only at hru hgr hWi hMa hg hrG ⊢
 clear h hb
 generalize (df us).1=sa at hWi ⊢
 simp only [aU,bi] at hMa hop ⊢
 by_cases h0:oe≠0
 ·
  rw [if_pos h0]
  repeat' (first|(apply aa;exact rfl;exact rfl;(intro w hm;exact hop w))|(apply aa;exact rfl;exact rfl;(intro w hm;exact hRg w))|(apply aa;exact rfl;exact rfl;(intro w hm;exact hRe w))|(apply aa (f:=86);exact rfl;exact rfl;(intro w' _;exact hWi w'))|(apply ak;exact rfl;apply dg;exact rfl;exact rfl)|refine sT ?_|refine sS ?_|refine sM fun _=> ?_|(refine sC ?_ ?_<;>intro hb<;>try omega)|fail)
  all_goals first
   |(exfalso;omega)
   |((refine rT2 ?_);rfl)
   |(exfalso;simp_all;done)
   |trace_state
 rw [if_neg h0]
 by_cases h1:o.user<0∨us≤o.user
 ·
  rw [if_pos h1]
  repeat' (first|(apply aa;exact rfl;exact rfl;(intro w hm;exact hop w))|(apply aa;exact rfl;exact rfl;(intro w hm;exact hRg w))|(apply aa;exact rfl;exact rfl;(intro w hm;exact hRe w))|(apply aa (f:=86);exact rfl;exact rfl;(intro w' _;exact hWi w'))|(apply ak;exact rfl;apply dg;exact rfl;exact rfl)|refine sT ?_|refine sS ?_|refine sM fun _=> ?_|(refine sC ?_ ?_<;>intro hb<;>try omega)|fail)
  all_goals first
   |(exfalso;omega)
   |((refine rT2 ?_);rfl)
   |(exfalso;simp_all;done)
   |trace_state
 rw [if_neg h1]
 by_cases h2:pk=true∧ro=false
 ·
  rw [if_pos h2]
  obtain ⟨rfl,rfl⟩:=h2
  repeat' (first|(apply aa;exact rfl;exact rfl;(intro w hm;exact hop w))|(apply aa;exact rfl;exact rfl;(intro w hm;exact hRg w))|(apply aa;exact rfl;exact rfl;(intro w hm;exact hRe w))|(apply aa (f:=86);exact rfl;exact rfl;(intro w' _;exact hWi w'))|(apply ak;exact rfl;apply dg;exact rfl;exact rfl)|refine sT ?_|refine sS ?_|refine sM fun _=> ?_|(refine sC ?_ ?_<;>intro hb<;>try omega)|fail)
  all_goals first
   |(exfalso;omega)
   |((refine rT2 ?_);rfl)
   |(exfalso;simp_all;done)
   |trace_state
 rw [if_neg h2]
 by_cases h3:(o.rd|||o.wr|||o.ow|||o.to) &&& ~~~sa≠0#64
 ·
  rw [if_pos h3]
  rw [decide_eq_false h3] at hWi
  repeat' (first|(apply aa;exact rfl;exact rfl;(intro w hm;exact hop w))|(apply aa;exact rfl;exact rfl;(intro w hm;exact hRg w))|(apply aa;exact rfl;exact rfl;(intro w hm;exact hRe w))|(apply aa (f:=86);exact rfl;exact rfl;(intro w' _;exact hWi w'))|(apply ak;exact rfl;apply dg;exact rfl;exact rfl)|refine sT ?_|refine sS ?_|refine sM fun _=> ?_|(refine sC ?_ ?_<;>intro hb<;>try omega)|fail)
  all_goals first
   |(exfalso;omega)
   |((refine rT2 ?_);rfl)
   |(exfalso;simp_all;done)
   |trace_state
 rw [if_neg h3]
 rw [decide_eq_true (Decidable.not_not.1 h3)] at hWi
 by_cases h9:o.kind=9
 ·
  have hpk2:pk=false:=by
   rw [← hpk]
   cases hq:mL o.kind with
   |false=>rfl
   |true=>have:=(lJ _).1 hq;omega
  subst hpk2
  by_cases hix:o.idx<0∨(G.length:Int)≤o.idx
  ·
   rw [if_pos ⟨h9,by rcases hix with h|h;exact .inl h;exact .inr (.inl h)⟩]
   repeat' (first|(apply aa;exact rfl;exact rfl;(intro w hm;exact hop w))|(apply aa;exact rfl;exact rfl;(intro w hm;exact hRg w))|(apply aa;exact rfl;exact rfl;(intro w hm;exact hRe w))|(apply aa (f:=86);exact rfl;exact rfl;(intro w' _;exact hWi w'))|(apply ak;exact rfl;apply dg;exact rfl;exact rfl)|refine sT ?_|refine sS ?_|refine sM fun _=> ?_|(refine sC ?_ ?_<;>intro hb<;>try omega)|fail)
   all_goals first
    |(exfalso;omega)
    |((refine rT2 ?_);rfl)
    |(exfalso;simp_all;done)
    |trace_state
  have hMa:=hMa (fun _=>by omega)
  obtain ⟨j,hj⟩: ∃ j:Nat,o.idx=(j:Int):=⟨o.idx.toNat,by omega⟩
  have hjl:j<G.length:=by omega
  have hrv:=hrG j hj hjl
  obtain ⟨Ag,cg,hge,hg1,hg2,hg3⟩:=hg
  cases hge
  obtain ⟨gg,og,rfl,hgr3⟩:=hg3 (by omega)
  obtain ⟨_,_,_,_,hrev⟩:=Gn.ro (hgr3.elem bW j hjl)
  rw [← hrv] at hrev
  clear hrG hrv
  cases rv with
  |true=>
   rw [if_pos ⟨h9,.inr (.inr rfl)⟩]
   repeat' (first|(apply aa;exact rfl;exact rfl;(intro w hm;exact hop w))|(apply aa;exact rfl;exact rfl;(intro w hm;exact hRg w))|(apply aa;exact rfl;exact rfl;(intro w hm;exact hRe w))|(apply aa (f:=86);exact rfl;exact rfl;(intro w' _;exact hWi w'))|(apply ak;exact rfl;apply dg;exact rfl;exact rfl)|(apply ak (d:=69);exact rfl;apply aj (j:=j);exact rfl;(first|exact rfl|(rw [hj];exact rfl));exact hjl)|(apply ak (d:=71);exact rfl;apply dh;exact rfl;exact hrev)|refine sT ?_|refine sS ?_|refine sM fun _=> ?_|(refine sC ?_ ?_<;>intro hb<;>try omega)|fail)
   all_goals first
    |(exfalso;omega)
    |((refine rT2 ?_);rfl)
    |(exfalso;simp_all;done)
    |trace_state
  |false=>
   rw [if_neg (by rintro ⟨_,h|h|h⟩;omega;omega;cases h)]
   cases rf with
   |true=>
    rw [if_pos rfl]
    repeat' (first|(apply aa;exact rfl;exact rfl;(intro w hm;exact hop w))|(apply aa;exact rfl;exact rfl;(intro w hm;exact hRg w))|(apply aa;exact rfl;exact rfl;(intro w hm;exact hRe w))|(apply aa (f:=86);exact rfl;exact rfl;(intro w' _;exact hWi w'))|(apply ak;exact rfl;apply dg;exact rfl;exact rfl)|(apply ak (d:=69);exact rfl;apply aj (j:=j);exact rfl;(first|exact rfl|(rw [hj];exact rfl));exact hjl)|(apply ak (d:=71);exact rfl;apply dh;exact rfl;exact hrev)|(apply aa (f:=107);exact rfl;exact rfl;(intro w' hm;exact hMa w' _ hm))|refine sT ?_|refine sS ?_|refine sM fun _=> ?_|(refine sC ?_ ?_<;>intro hb<;>try omega)|fail)
    all_goals first
     |(exfalso;omega)
     |((refine rT2 ?_);rfl)
     |(exfalso;simp_all;done)
     |trace_state
   |false=>
    rw [if_neg (by decide),if_neg (by omega),if_neg (by omega)]
    repeat' (first|(apply aa;exact rfl;exact rfl;(intro w hm;exact hop w))|(apply aa;exact rfl;exact rfl;(intro w hm;exact hRg w))|(apply aa;exact rfl;exact rfl;(intro w hm;exact hRe w))|(apply aa (f:=86);exact rfl;exact rfl;(intro w' _;exact hWi w'))|(apply ak;exact rfl;apply dg;exact rfl;exact rfl)|(apply ak (d:=69);exact rfl;apply aj (j:=j);exact rfl;(first|exact rfl|(rw [hj];exact rfl));exact hjl)|(apply ak (d:=71);exact rfl;apply dh;exact rfl;exact hrev)|(apply aa (f:=107);exact rfl;exact rfl;(intro w' hm;exact hMa w' _ hm))|refine sT ?_|refine sS ?_|refine sM fun _=> ?_|(refine sC ?_ ?_<;>intro hb<;>try omega)|fail)
    all_goals first
     |(exfalso;omega)
     |((refine rT2 ?_);rfl)
     |(exfalso;simp_all;done)
     |trace_state
 have hMa:=hMa (fun hh=>absurd hh h9)
 rw [if_neg (fun hh=>h9 hh.1)]
 cases rf with
 |true=>
  rw [if_pos rfl]
  repeat' (first|(apply aa;exact rfl;exact rfl;(intro w hm;exact hop w))|(apply aa;exact rfl;exact rfl;(intro w hm;exact hRg w))|(apply aa;exact rfl;exact rfl;(intro w hm;exact hRe w))|(apply aa (f:=86);exact rfl;exact rfl;(intro w' _;exact hWi w'))|(apply ak;exact rfl;apply dg;exact rfl;exact rfl)|(apply aa (f:=107);exact rfl;exact rfl;(intro w' hm;exact hMa w' _ hm))|refine sT ?_|refine sS ?_|refine sM fun _=> ?_|(refine sC ?_ ?_<;>intro hb<;>try omega)|fail)
  all_goals first
   |(exfalso;omega)
   |((refine rT2 ?_);rfl)
   |(exfalso;simp_all;done)
   |trace_state
 |false=>
 rw [if_neg (by decide)]
 by_cases h6:o.kind=3
 ·
  by_cases he:e≠0
  ·
   rw [if_pos ⟨h6,he⟩]
   repeat' (first|(apply aa;exact rfl;exact rfl;(intro w hm;exact hop w))|(apply aa;exact rfl;exact rfl;(intro w hm;exact hRg w))|(apply aa;exact rfl;exact rfl;(intro w hm;exact hRe w))|(apply aa (f:=86);exact rfl;exact rfl;(intro w' _;exact hWi w'))|(apply ak;exact rfl;apply dg;exact rfl;exact rfl)|(apply aa (f:=107);exact rfl;exact rfl;(intro w' hm;exact hMa w' _ hm))|(apply aC (f:=108);exact rfl;exact rfl;(intro w' _;exact hOf w');rintro _ _ ⟨A9,c9,rfl,rfl⟩)|refine sT ?_|refine sS ?_|refine sM fun _=> ?_|(refine sC ?_ ?_<;>intro hb<;>try omega)|fail)
   all_goals first
    |(exfalso;omega)
    |((refine rT2 ?_);rfl)
    |(exfalso;simp_all;done)
    |trace_state
  ·
   rw [if_neg (fun hh=>he hh.2),if_neg (by omega)]
   repeat' (first|(apply aa;exact rfl;exact rfl;(intro w hm;exact hop w))|(apply aa;exact rfl;exact rfl;(intro w hm;exact hRg w))|(apply aa;exact rfl;exact rfl;(intro w hm;exact hRe w))|(apply aa (f:=86);exact rfl;exact rfl;(intro w' _;exact hWi w'))|(apply ak;exact rfl;apply dg;exact rfl;exact rfl)|(apply aa (f:=107);exact rfl;exact rfl;(intro w' hm;exact hMa w' _ hm))|(apply aC (f:=108);exact rfl;exact rfl;(intro w' _;exact hOf w');rintro _ _ ⟨A9,c9,rfl,rfl⟩)|refine sT ?_|refine sS ?_|refine sM fun _=> ?_|(refine sC ?_ ?_<;>intro hb<;>try omega)|fail)
   all_goals first
    |(exfalso;omega)
    |((refine rT2 ?_);rfl)
    |(exfalso;simp_all;done)
    |trace_state
 rw [if_neg (fun hh=>h6 hh.1)]
 by_cases h5:o.kind=5
 ·
  have hpk2:pk=true:=by rw [← hpk];exact (lJ _).2 (by omega)
  subst hpk2
  have hro:ro=true:=by
   cases ro with
   |true=>rfl
   |false=>exact absurd ⟨rfl,rfl⟩ h2
  subst hro
  have hAr:=hAr rfl
  by_cases ha:1024<ar
  ·
   rw [if_pos (.inl ⟨h5,ha⟩)]
   repeat' (first|(apply aa;exact rfl;exact rfl;(intro w hm;exact hop w))|(apply aa;exact rfl;exact rfl;(intro w hm;exact hRg w))|(apply aa;exact rfl;exact rfl;(intro w hm;exact hRe w))|(apply aa (f:=86);exact rfl;exact rfl;(intro w' _;exact hWi w'))|(apply ak;exact rfl;apply dg;exact rfl;exact rfl)|(apply aa (f:=107);exact rfl;exact rfl;(intro w' hm;exact hMa w' _ hm))|(apply aa (f:=109);exact rfl;exact rfl;(intro w' _;exact hAr w'))|refine sT ?_|refine sS ?_|refine sM fun _=> ?_|(refine sC ?_ ?_<;>intro hb<;>try omega)|fail)
   all_goals first
    |(exfalso;omega)
    |((refine rT2 ?_);rfl)
    |(exfalso;simp_all;done)
    |trace_state
  ·
   rw [if_neg (by rintro (h|h|h);exact ha h.2;omega;omega)]
   repeat' (first|(apply aa;exact rfl;exact rfl;(intro w hm;exact hop w))|(apply aa;exact rfl;exact rfl;(intro w hm;exact hRg w))|(apply aa;exact rfl;exact rfl;(intro w hm;exact hRe w))|(apply aa (f:=86);exact rfl;exact rfl;(intro w' _;exact hWi w'))|(apply ak;exact rfl;apply dg;exact rfl;exact rfl)|(apply aa (f:=107);exact rfl;exact rfl;(intro w' hm;exact hMa w' _ hm))|(apply aa (f:=109);exact rfl;exact rfl;(intro w' _;exact hAr w'))|refine sT ?_|refine sS ?_|refine sM fun _=> ?_|(refine sC ?_ ?_<;>intro hb<;>try omega)|fail)
   all_goals first
    |(exfalso;omega)
    |((refine rT2 ?_);rfl)
    |(exfalso;simp_all;done)
    |trace_state
 by_cases h7:(o.kind=7∧64≤RU.length)∨(o.kind=8∧64≤G.length)
 ·
  rw [if_pos (.inr h7)]
  repeat' (first|(apply aa;exact rfl;exact rfl;(intro w hm;exact hop w))|(apply aa;exact rfl;exact rfl;(intro w hm;exact hRg w))|(apply aa;exact rfl;exact rfl;(intro w hm;exact hRe w))|(apply aa (f:=86);exact rfl;exact rfl;(intro w' _;exact hWi w'))|(apply ak;exact rfl;apply dg;exact rfl;exact rfl)|(apply aa (f:=107);exact rfl;exact rfl;(intro w' hm;exact hMa w' _ hm))|refine sT ?_|refine sS ?_|refine sM fun _=> ?_|(refine sC ?_ ?_<;>intro hb<;>try omega)|fail)
  all_goals first
   |(exfalso;omega)
   |((refine rT2 ?_);rfl)
   |(exfalso;simp_all;done)
   |trace_state
 ·
  rw [if_neg (by rintro (h|h);exact h5 h.1;exact h7 h)]
  repeat' (first|(apply aa;exact rfl;exact rfl;(intro w hm;exact hop w))|(apply aa;exact rfl;exact rfl;(intro w hm;exact hRg w))|(apply aa;exact rfl;exact rfl;(intro w hm;exact hRe w))|(apply aa (f:=86);exact rfl;exact rfl;(intro w' _;exact hWi w'))|(apply ak;exact rfl;apply dg;exact rfl;exact rfl)|(apply aa (f:=107);exact rfl;exact rfl;(intro w' hm;exact hMa w' _ hm))|refine sT ?_|refine sS ?_|refine sM fun _=> ?_|(refine sC ?_ ?_<;>intro hb<;>try omega)|fail)
  all_goals first
   |(exfalso;omega)
   |((refine rT2 ?_);rfl)
   |(exfalso;simp_all;done)
   |trace_state
theorem IW {b:Bk} {o:Ox} (h:(cdE b o).1=0):(cdE b o).2=0:=by
 have hf:=DZ h
 unfold cdE
 simp [hf 0 (by decide),hf 1 (by decide),hf 2 (by decide),hf 3 (by decide),hf 4 (by decide),hf 5 (by decide),hf 6 (by decide),hf 7 (by decide)]
set_option maxHeartbeats 16000000 in
theorem uU (b:Bk) (x:Bv) (o:Ox) (w:World) (h:BRd w b x) (hs:Small b):aP Tryz.prog 12 [.agg (aU b x).toArray,.agg (bi o).toArray] w fun v H=> ∃ a:Bo,v= .tuple #[.agg (aU (apE b o).1 a.v).toArray,.int .u8 (apE b o).2.1,.int .i64 (apE b o).2.2.1,.int .i64 (apE b o).2.2.2]∧H=aM (apE b o).1 a:=by
 refine aq Tryz.func12 rfl Tryz.ntmps12 rfl ?_
 have hC:=fun (w' :World) (H:List Blk) (hm:Mem w w' H)=>uT b x w' (h.of_w0 hm) hs.e
 have hY:=fun (w' :World) (H:List Blk) (hm:Mem w w' H)=>qQ b x w' (h.of_w0 hm) hs
 have hM:=fun w=>lM o w
 have hD:=fun (hb0:bkE b=0) (w' :World) (H:List Blk) (hm:Mem w w' H)=>xd b x o w' (h.of_w0 hm) (LY.1 hb0)
 have hE:=fun (w' :World) (H:List Blk) (hm:Mem w w' H)=>uV b.step o (decide ((cdE b o).1=0)) b.rules b.grants _ _ w' (h.r.of_w0 hm) (h.g.of_w0 hm)
 have hs1:=hs.e
 have hs2:=hs.r
 have hs3:=hs.g
 have hs4:=hs.l
 refine aD 52 3 ?_
 refine aD 54 7 ?_
 refine aD 56 8 ?_
 refine aD 58 9 ?_
 refine aD 62 11 ?_
 unfold apE
 by_cases he:bkE b≠0
 ·
  rw [if_pos he]
  generalize bkE b=e at hC he ⊢
  simp only [aU] at hC ⊢
  repeat' (first|(apply aa (f:=16);exact rfl;exact rfl;(intro w' hm;exact hC w' _ hm))|refine sT ?_|refine sS ?_|refine sM fun _=> ?_|(refine sC ?_ ?_<;>intro hb<;>try omega)|fail)
  all_goals first
   |(exfalso;omega)
   |(refine bX eIO rfl rfl pK rfl rfl rfl rfl (H' :=aM ll lj) (by unfold aM;exact mS) ⟨lj,rfl,rfl⟩;done)
   |trace_state
 rw [if_neg he]
 obtain ⟨hst1,hst2,hst3,hst4⟩:=AE he
 have hb0:bkE b=0:=by omega
 have hD:=hD hb0
 rw [hb0] at hC
 by_cases hmx:b.step=1099511627776
 ·
  rw [if_pos hmx]
  simp only [aU] at hC ⊢
  repeat' (first|(apply aa (f:=16);exact rfl;exact rfl;(intro w' hm;exact hC w' _ hm))|refine sT ?_|refine sS ?_|refine sM fun _=> ?_|(refine sC ?_ ?_<;>intro hb<;>try omega)|fail)
  all_goals first
   |(exfalso;omega)
   |(refine bX eIO rfl rfl pK rfl rfl rfl rfl (H' :=aM ll lj) (by unfold aM;exact mS) ⟨lj,rfl,rfl⟩;done)
   |trace_state
 rw [if_neg hmx]
 obtain ⟨⟨c,at_⟩,hcd⟩: ∃ c,cdE b o=c:=⟨_,rfl⟩
 obtain ⟨mk,hmk⟩: ∃ mk,jx o.kind=mk:=⟨_,rfl⟩
 have hpos:mk=false∨o.kind=3∨o.kind=4∨o.kind=7∨o.kind=8∨o.kind=9:=by
  cases mk with
  |false=>exact .inl rfl
  |true=>
   simp only [jx,OX,decide_eq_true_eq] at hmk
   omega
 unfold li
 rw [hcd] at hD hE ⊢
 rw [hmk] at hM ⊢
 dsimp only at hD hE ⊢
 generalize evO b.step o (decide (c=0)) b.rules b.grants=ev at hE ⊢
 obtain ⟨ev1,ev2⟩:=ev
 dsimp only at hE ⊢
 have el1:(b.log++ [ev1]).length=b.log.length+1:=by rw [Na];rfl
 have el2:(b.log++ [ev1]).flatMap aN=b.log.flatMap aN++aN ev1:=by rw [Nt,Np,NE,Nl]
 by_cases hcz:c≠0
 ·
  rw [if_pos hcz]
  by_cases hlg:(c=0∨c=5)∧mk=true
  ·
   rw [if_pos hlg]
   obtain ⟨hc5,hmt⟩:=hlg
   simp only [aU,aM,el1,el2] at hC ⊢
   repeat' (first|(apply aa (f:=16);exact rfl;exact rfl;(intro w' hm;exact hC w' _ hm))|(apply aC (f:=10);exact rfl;exact rfl;(intro w' hm;exact hY w' _ hm);rintro _ _ ⟨a,rfl,rfl⟩;unfold aM)|(apply ak (d:=63);exact rfl;apply da;exact rfl;exact rfl;exact ⟨by omega,by omega⟩)|(apply aa (f:=48);exact rfl;exact rfl;(intro w' hm;exact hD w' _ hm))|(apply aa (f:=49);exact rfl;exact rfl;(intro w' _;exact hM w'))|(apply aa (f:=50);exact rfl;exact rfl;(intro w' hm;exact hE w' _ hm))|(apply aG (d:=59);(iterate 3 exact rfl);exact pK;exact pK;exact rfl;(intro u hu;simp [aN] at hu;rcases hu with rfl|rfl|rfl|rfl|rfl|rfl|rfl|rfl|rfl<;>rfl);omega;(simp only [maxLen];omega);intro g61 c61)|refine sT ?_|refine sS ?_|refine sM fun _=> ?_|(refine sC ?_ ?_<;>intro hb<;>try omega)|fail)
   all_goals first
    |(exfalso;omega)
    |(exfalso;simp_all;done)
    |(refine bX eIO rfl rfl pK rfl rfl rfl rfl (H' := [.own (a.e) 52 3 (b.ents.length) a.ce (b.ents.flatMap aB),.own (a.r) 54 7 (b.rules.length) a.cr (b.rules.flatMap aV),.own (a.g) 56 8 (b.grants.length) a.cg (b.grants.flatMap aW),.own (some g61) 58 9 (b.log.length+1) c61 (b.log.flatMap aN++aN ev1),.own (a.s) 62 11 (b.rels.length) a.cs (b.rels.flatMap bD)]) mS ⟨⟨a.e,a.r,a.g,some g61,a.s,a.ce,a.cr,a.cg,c61,a.cs⟩,rfl,rfl⟩;done)
    |trace_state
  ·
   rw [if_neg hlg]
   simp only [aU,aM] at hC ⊢
   repeat' (first|(apply aa (f:=16);exact rfl;exact rfl;(intro w' hm;exact hC w' _ hm))|(apply aC (f:=10);exact rfl;exact rfl;(intro w' hm;exact hY w' _ hm);rintro _ _ ⟨a,rfl,rfl⟩;unfold aM)|(apply ak (d:=63);exact rfl;apply da;exact rfl;exact rfl;exact ⟨by omega,by omega⟩)|(apply aa (f:=48);exact rfl;exact rfl;(intro w' hm;exact hD w' _ hm))|(apply aa (f:=49);exact rfl;exact rfl;(intro w' _;exact hM w'))|refine sT ?_|refine sS ?_|refine sM fun _=> ?_|(refine sC ?_ ?_<;>intro hb<;>try omega)|fail)
   all_goals first
    |(exfalso;omega)
    |(exfalso;exact hlg ⟨by first|exact .inl ‹_› |exact .inr ‹_›,by assumption⟩)
    |(refine bX eIO rfl rfl pK rfl rfl rfl rfl (H' := [.own (a.e) 52 3 (b.ents.length) a.ce (b.ents.flatMap aB),.own (a.r) 54 7 (b.rules.length) a.cr (b.rules.flatMap aV),.own (a.g) 56 8 (b.grants.length) a.cg (b.grants.flatMap aW),.own (a.l) 58 9 (b.log.length) a.cl (b.log.flatMap aN),.own (a.s) 62 11 (b.rels.length) a.cs (b.rels.flatMap bD)]) mS ⟨a,rfl,rfl⟩;done)
    |trace_state
 rw [if_neg hcz]
 have hc0:c=0:=Decidable.not_not.1 hcz
 subst hc0
 have hz:at_=0:=by
  have:=IW (b:=b) (o:=o) (by rw [hcd])
  rwa [hcd] at this
 subst hz
 cases mk with
 |false=>
  have hkn: ¬ (o.kind=3∨o.kind=4)∧o.kind≠7∧o.kind≠8∧o.kind≠9:=by
   simp only [jx,Pf,decide_eq_false_iff_not] at hmk
   omega
  rw [if_neg (fun h=>by cases h.2),mO,if_neg hkn.1,if_neg hkn.2.1,if_neg hkn.2.2.1,if_neg hkn.2.2.2]
  simp only [aU,aM] at hC ⊢
  repeat' (first|(apply aa (f:=16);exact rfl;exact rfl;(intro w' hm;exact hC w' _ hm))|(apply aC (f:=10);exact rfl;exact rfl;(intro w' hm;exact hY w' _ hm);rintro _ _ ⟨a,rfl,rfl⟩;unfold aM)|(apply ak (d:=63);exact rfl;apply da;exact rfl;exact rfl;exact ⟨by omega,by omega⟩)|(apply aa (f:=48);exact rfl;exact rfl;(intro w' hm;exact hD w' _ hm))|(apply aa (f:=49);exact rfl;exact rfl;(intro w' _;exact hM w'))|refine sT ?_|refine sS ?_|refine sM fun _=> ?_|(refine sC ?_ ?_<;>intro hb<;>try omega)|fail)
  all_goals first
   |(exfalso;omega)
   |(refine bX eIO rfl rfl pK rfl rfl rfl rfl (H' := [.own (a.e) 52 3 (b.ents.length) a.ce (b.ents.flatMap aB),.own (a.r) 54 7 (b.rules.length) a.cr (b.rules.flatMap aV),.own (a.g) 56 8 (b.grants.length) a.cg (b.grants.flatMap aW),.own (a.l) 58 9 (b.log.length) a.cl (b.log.flatMap aN),.own (a.s) 62 11 (b.rels.length) a.cs (b.rels.flatMap bD)]) mS ⟨a,rfl,rfl⟩;done)
   |trace_state
 |true=>
  rw [if_pos ⟨.inl rfl,rfl⟩]
  have hop:opE o=0:=Lp (DZ (b:=b) (o:=o) (by rw [hcd]) 0 (by decide))
  have hone:o.kind=3→o.rect.c1=o.rect.c2∧o.rect.r1=o.rect.r2:=fun h3=>LF hop h3
  rcases hpos.resolve_left (by decide) with hk|hk|hk|hk|hk
  ·
   have hw:=Eh (L:=b.ents) (hone hk).1 (hone hk).2
   have hWi:=fun (A:Option Nat) (c:Nat) (w' :World) (H:List Blk) (hm:Mem w w' H) (hin:In (.own A 52 3 b.ents.length c (b.ents.flatMap aB)) H)=>xc b.ents ⟨toO o,o.input⟩ _ w' (Reads.of_own (A:=A) hm hin) hs1
   rw [mO,if_pos (by omega)]
   dsimp only
   rw [← hw]
   generalize rL b.ents ⟨toO o,o.input⟩=L at hWi ⊢
   simp only [aU,aM,el1,el2] at hC ⊢
   repeat' (first|(apply aa (f:=16);exact rfl;exact rfl;(intro w' hm;exact hC w' _ hm))|(apply aC (f:=10);exact rfl;exact rfl;(intro w' hm;exact hY w' _ hm);rintro _ _ ⟨a,rfl,rfl⟩;unfold aM)|(apply ak (d:=63);exact rfl;apply da;exact rfl;exact rfl;exact ⟨by omega,by omega⟩)|(apply aa (f:=48);exact rfl;exact rfl;(intro w' hm;exact hD w' _ hm))|(apply aa (f:=49);exact rfl;exact rfl;(intro w' _;exact hM w'))|(apply aa (f:=50);exact rfl;exact rfl;(intro w' hm;exact hE w' _ hm))|(apply aG (d:=59);(iterate 3 exact rfl);exact pK;exact pK;exact rfl;(intro u hu;simp [aN] at hu;rcases hu with rfl|rfl|rfl|rfl|rfl|rfl|rfl|rfl|rfl<;>rfl);omega;(simp only [maxLen];omega);intro g61 c61)|(apply aC (f:=51);exact rfl;exact rfl;(intro w' hm;exact hWi _ _ w' _ hm pK);rintro _ _ ⟨A9,c9,rfl,rfl⟩)|refine sT ?_|refine sS ?_|refine sM fun _=> ?_|(refine sC ?_ ?_<;>intro hb<;>try omega)|fail)
   all_goals first
    |(exfalso;omega)
    |(refine bX eIO rfl rfl pK rfl rfl rfl rfl (H' := [.own A9 52 3 L.length c9 (L.flatMap aB),.own (a.r) 54 7 (b.rules.length) a.cr (b.rules.flatMap aV),.own (a.g) 56 8 (b.grants.length) a.cg (b.grants.flatMap aW),.own (some g61) 58 9 (b.log.length+1) c61 (b.log.flatMap aN++aN ev1),.own (a.s) 62 11 (b.rels.length) a.cs (b.rels.flatMap bD)]) mS ⟨⟨A9,a.r,a.g,some g61,a.s,c9,a.cr,a.cg,c61,a.cs⟩,rfl,rfl⟩;done)
    |trace_state
  ·
   have hin:o.input=au:=Hx hop (by omega)
   have hWi:=fun (A:Option Nat) (c:Nat) (w' :World) (H:List Blk) (hm:Mem w w' H) (hin:In (.own A 52 3 b.ents.length c (b.ents.flatMap aB)) H)=>lf b.ents o.rect _ w' (Reads.of_own (A:=A) hm hin) hs1
   rw [mO,if_pos (by omega)]
   dsimp only
   rw [tN,if_pos hin,← zB]
   generalize kr b.ents o.rect=L at hWi ⊢
   simp only [aU,aM,el1,el2] at hC ⊢
   repeat' (first|(apply aa (f:=16);exact rfl;exact rfl;(intro w' hm;exact hC w' _ hm))|(apply aC (f:=10);exact rfl;exact rfl;(intro w' hm;exact hY w' _ hm);rintro _ _ ⟨a,rfl,rfl⟩;unfold aM)|(apply ak (d:=63);exact rfl;apply da;exact rfl;exact rfl;exact ⟨by omega,by omega⟩)|(apply aa (f:=48);exact rfl;exact rfl;(intro w' hm;exact hD w' _ hm))|(apply aa (f:=49);exact rfl;exact rfl;(intro w' _;exact hM w'))|(apply aa (f:=50);exact rfl;exact rfl;(intro w' hm;exact hE w' _ hm))|(apply aG (d:=59);(iterate 3 exact rfl);exact pK;exact pK;exact rfl;(intro u hu;simp [aN] at hu;rcases hu with rfl|rfl|rfl|rfl|rfl|rfl|rfl|rfl|rfl<;>rfl);omega;(simp only [maxLen];omega);intro g61 c61)|(apply aC (f:=52);exact rfl;exact rfl;(intro w' hm;exact hWi _ _ w' _ hm pK);rintro _ _ ⟨A9,c9,rfl,rfl⟩)|refine sT ?_|refine sS ?_|refine sM fun _=> ?_|(refine sC ?_ ?_<;>intro hb<;>try omega)|fail)
   all_goals first
    |(exfalso;omega)
    |(refine bX eIO rfl rfl pK rfl rfl rfl rfl (H' := [.own A9 52 3 L.length c9 (L.flatMap aB),.own (a.r) 54 7 (b.rules.length) a.cr (b.rules.flatMap aV),.own (a.g) 56 8 (b.grants.length) a.cg (b.grants.flatMap aW),.own (some g61) 58 9 (b.log.length+1) c61 (b.log.flatMap aN++aN ev1),.own (a.s) 62 11 (b.rels.length) a.cs (b.rels.flatMap bD)]) mS ⟨⟨A9,a.r,a.g,some g61,a.s,c9,a.cr,a.cg,c61,a.cs⟩,rfl,rfl⟩;done)
    |trace_state
  ·
   have e1:(b.rules++ [(⟨o.rect,o.rd,o.wr,o.ow⟩:Rl)]).length=b.rules.length+1:=by rw [Na];rfl
   have e2:(b.rules++ [(⟨o.rect,o.rd,o.wr,o.ow⟩:Rl)]).flatMap aV=b.rules.flatMap aV++aV ⟨o.rect,o.rd,o.wr,o.ow⟩:=by rw [Nt,Np,NE,Nl]
   rw [mO,if_neg (by omega),if_pos hk]
   simp only [aU,aM,el1,el2,e1,e2] at hC ⊢
   repeat' (first|(apply aa (f:=16);exact rfl;exact rfl;(intro w' hm;exact hC w' _ hm))|(apply aC (f:=10);exact rfl;exact rfl;(intro w' hm;exact hY w' _ hm);rintro _ _ ⟨a,rfl,rfl⟩;unfold aM)|(apply ak (d:=63);exact rfl;apply da;exact rfl;exact rfl;exact ⟨by omega,by omega⟩)|(apply aa (f:=48);exact rfl;exact rfl;(intro w' hm;exact hD w' _ hm))|(apply aa (f:=49);exact rfl;exact rfl;(intro w' _;exact hM w'))|(apply aa (f:=50);exact rfl;exact rfl;(intro w' hm;exact hE w' _ hm))|(apply aG (d:=59);(iterate 3 exact rfl);exact pK;exact pK;exact rfl;(intro u hu;simp [aN] at hu;rcases hu with rfl|rfl|rfl|rfl|rfl|rfl|rfl|rfl|rfl<;>rfl);omega;(simp only [maxLen];omega);intro g61 c61)|(apply aG (d:=106);(iterate 3 exact rfl);exact pK;exact pK;exact rfl;(intro u hu;simp at hu;rcases hu with rfl|rfl|rfl|rfl|rfl|rfl|rfl<;>rfl);omega;(simp only [maxLen];omega);intro g7 c7)|refine sT ?_|refine sS ?_|refine sM fun _=> ?_|(refine sC ?_ ?_<;>intro hb<;>try omega)|fail)
   all_goals first
    |(exfalso;omega)
    |(refine bX eIO rfl rfl pK rfl rfl rfl rfl (H' := [.own (a.e) 52 3 (b.ents.length) a.ce (b.ents.flatMap aB),.own (some g7) 54 7 (b.rules.length+1) c7 (b.rules.flatMap aV++aV ⟨o.rect,o.rd,o.wr,o.ow⟩),.own (a.g) 56 8 (b.grants.length) a.cg (b.grants.flatMap aW),.own (some g61) 58 9 (b.log.length+1) c61 (b.log.flatMap aN++aN ev1),.own (a.s) 62 11 (b.rels.length) a.cs (b.rels.flatMap bD)]) mS ⟨⟨a.e,some g7,a.g,some g61,a.s,a.ce,c7,a.cg,c61,a.cs⟩,rfl,rfl⟩;done)
    |trace_state
  ·
   have e1:(b.grants++ [(⟨o.rect,o.fns,o.to,o.user,false⟩:Gn)]).length=b.grants.length+1:=by rw [Na];rfl
   have e2:(b.grants++ [(⟨o.rect,o.fns,o.to,o.user,false⟩:Gn)]).flatMap aW=b.grants.flatMap aW++aW ⟨o.rect,o.fns,o.to,o.user,false⟩:=by rw [Nt,Np,NE,Nl]
   rw [mO,if_neg (by omega),if_neg (by omega),if_pos hk]
   simp only [aU,aM,el1,el2,e1,e2] at hC ⊢
   repeat' (first|(apply aa (f:=16);exact rfl;exact rfl;(intro w' hm;exact hC w' _ hm))|(apply aC (f:=10);exact rfl;exact rfl;(intro w' hm;exact hY w' _ hm);rintro _ _ ⟨a,rfl,rfl⟩;unfold aM)|(apply ak (d:=63);exact rfl;apply da;exact rfl;exact rfl;exact ⟨by omega,by omega⟩)|(apply aa (f:=48);exact rfl;exact rfl;(intro w' hm;exact hD w' _ hm))|(apply aa (f:=49);exact rfl;exact rfl;(intro w' _;exact hM w'))|(apply aa (f:=50);exact rfl;exact rfl;(intro w' hm;exact hE w' _ hm))|(apply aG (d:=59);(iterate 3 exact rfl);exact pK;exact pK;exact rfl;(intro u hu;simp [aN] at hu;rcases hu with rfl|rfl|rfl|rfl|rfl|rfl|rfl|rfl|rfl<;>rfl);omega;(simp only [maxLen];omega);intro g61 c61)|(apply aG (d:=122);(iterate 3 exact rfl);exact pK;exact pK;exact rfl;(intro u hu;simp at hu;rcases hu with rfl|rfl|rfl|rfl|rfl|rfl|rfl|rfl<;>rfl);omega;(simp only [maxLen];omega);intro g8 c8)|refine sT ?_|refine sS ?_|refine sM fun _=> ?_|(refine sC ?_ ?_<;>intro hb<;>try omega)|fail)
   all_goals first
    |(exfalso;omega)
    |(refine bX eIO rfl rfl pK rfl rfl rfl rfl (H' := [.own (a.e) 52 3 (b.ents.length) a.ce (b.ents.flatMap aB),.own (a.r) 54 7 (b.rules.length) a.cr (b.rules.flatMap aV),.own (some g8) 56 8 (b.grants.length+1) c8 (b.grants.flatMap aW++aW ⟨o.rect,o.fns,o.to,o.user,false⟩),.own (some g61) 58 9 (b.log.length+1) c61 (b.log.flatMap aN++aN ev1),.own (a.s) 62 11 (b.rels.length) a.cs (b.rels.flatMap bD)]) mS ⟨⟨a.e,a.r,some g8,some g61,a.s,a.ce,a.cr,c8,c61,a.cs⟩,rfl,rfl⟩;done)
    |trace_state
  ·
   obtain ⟨j,hj⟩: ∃ j:Nat,o.idx=(j:Int)∧j<b.grants.length:=by
    have h4:tst b o 4=false:=by
     rcases h:tst b o 4 with _|_
     ·
      rfl
     ·
      exfalso
      unfold cdE at hcd
      rw [h] at hcd
      revert hcd
      (repeat' split)<;>intro hcd<;>injection hcd with h1 h2<;>first|(exact absurd h1 (by decide))|contradiction
    have:=JL h4 hk
    exact ⟨o.idx.toNat,by omega,by omega⟩
   obtain ⟨hj,hjl⟩:=hj
   have hrv:BS b.grants o.idx.toNat=b.grants.set j ⟨b.grants[j].rect,b.grants[j].fns,b.grants[j].to,b.grants[j].by_,true⟩:=by
    unfold BS
    rw [hj,Ov,Nc hjl]
   rw [mO,if_neg (by omega),if_neg (by omega),if_neg (by omega),if_pos hk]
   dsimp only
   rw [hrv]
   have e1:(b.grants.set j ⟨b.grants[j].rect,b.grants[j].fns,b.grants[j].to,b.grants[j].by_,true⟩).length=b.grants.length:=Ph
   have e2:(b.grants.set j ⟨b.grants[j].rect,b.grants[j].fns,b.grants[j].to,b.grants[j].by_,true⟩).flatMap aW=(b.grants.flatMap aW).set (0+j*8+7) (.bool true):=by
    rw [Ny]
    exact (pU b.grants j hjl).symm
   have hfit:0+j*8+7<(b.grants.flatMap aW).length:=by rw [aK bW];omega
   simp only [aU,aM,el1,el2,e1,e2] at hC ⊢
   repeat' (first|(apply aa (f:=16);exact rfl;exact rfl;(intro w' hm;exact hC w' _ hm))|(apply aC (f:=10);exact rfl;exact rfl;(intro w' hm;exact hY w' _ hm);rintro _ _ ⟨a,rfl,rfl⟩;unfold aM)|(apply ak (d:=63);exact rfl;apply da;exact rfl;exact rfl;exact ⟨by omega,by omega⟩)|(apply aa (f:=48);exact rfl;exact rfl;(intro w' hm;exact hD w' _ hm))|(apply aa (f:=49);exact rfl;exact rfl;(intro w' _;exact hM w'))|(apply aa (f:=50);exact rfl;exact rfl;(intro w' hm;exact hE w' _ hm))|(apply aG (d:=59);(iterate 3 exact rfl);exact pK;exact pK;exact rfl;(intro u hu;simp [aN] at hu;rcases hu with rfl|rfl|rfl|rfl|rfl|rfl|rfl|rfl|rfl<;>rfl);omega;(simp only [maxLen];omega);intro g61 c61)|(apply ak (d:=130);exact rfl;apply aj (j:=j);exact rfl;(rw [← hj];exact rfl);exact hjl)|(apply dQ;exact rfl;exact rfl;exact pK;exact rfl;exact hfit)|refine sT ?_|refine sS ?_|refine sM fun _=> ?_|(refine sC ?_ ?_<;>intro hb<;>try omega)|fail)
   all_goals try (exfalso;omega)
   obtain ⟨ae,ar,ag,al,as_,ce,cr,cg,cl,cs⟩:=a
   refine wJ (A:=ag) (xs:=b.grants.flatMap aW) pK (by omega) fun gg hA=> ?_
   subst hA
   repeat' (first|(apply ak (d:=130);exact rfl;apply aj (j:=j);exact rfl;(rw [← hj];exact rfl);exact hjl)|(apply dQ;exact rfl;exact rfl;exact pK;exact rfl;exact hfit)|refine sT ?_|refine sS ?_|refine sM fun _=> ?_|(refine sC ?_ ?_<;>intro hb<;>try omega)|fail)
   all_goals first
    |(exfalso;omega)
    |(refine bX eIO rfl rfl pK rfl rfl rfl rfl (H' := [.own (ae) 52 3 (b.ents.length) ce (b.ents.flatMap aB),.own (ar) 54 7 (b.rules.length) cr (b.rules.flatMap aV),.own (some gg) 56 8 (b.grants.length) cg ((b.grants.flatMap aW).set (0+j*8+7) (.bool true)),.own (some g61) 58 9 (b.log.length+1) c61 (b.log.flatMap aN++aN ev1),.own (as_) 62 11 (b.rels.length) cs (b.rels.flatMap bD)]) mS ⟨⟨ae,ar,some gg,some g61,as_,ce,cr,cg,c61,cs⟩,rfl,rfl⟩;done)
    |trace_state
end Go.SL
