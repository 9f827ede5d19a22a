/-
  Lemmas and walks, put together: Zm Zs Zt.
-/
import Derived.Test.YtpoafcnhplbkmaaGreatDoorKs24
import Derived.Test.YtpoafcnhplbkmaaGreatDoorKs25
set_option linter.unusedSimpArgs false
set_option linter.unusedVariables false
set_option maxRecDepth 20000
set_option maxHeartbeats 16000000
namespace Go.SL
open Go Go.Proofs Go.RowKit
attribute [local irreducible] W WL WQ WG WA WX WLI WR WT WC WE VOp RW thn blk bH scp aV bz bP FnAt FnIn FnP ceP
def AX (i:Nat):List Value:= [.int .i64 (i:Int)]
theorem xp (i:Nat):(AX i).length=1:=rfl
theorem K9 (l:List Nat):nzC l=l.flatMap AX:=by
 unfold nzC AX
 induction l with
 |nil=>rfl
 |cons a l ih=>rw [RP,Rl,ih];rfl
noncomputable def KT (X:Nx) (i v:Nat):Bool:= @decide (pathN X i v) (Classical.propDecidable _)
theorem CR {X:Nx} {i v:Nat}:KT X i v=true↔pathN X i v:=by unfold KT;exact @decide_eq_true_iff _ (Classical.propDecidable _)
theorem OD {q:Qu} {k:Nat} {L:List Nat} (h:q.ok AX 1 (k::L)) (hc:q.n≤q.c):q.ys[q.off+0*1]? =some (.int .i64 (k:Int)):=by
 have h1:=h.head (xp k) hc;have h2:((q.ys.drop (q.off+0*1)).take 1)[0]? =some (.int .i64 (k:Int)):=by rw [h1];rfl
 rw [Uo,if_pos (by decide),Sw,Tw] at h2;exact h2
theorem Fw (X:Nx) (hX: ∀ i,∀ k∈au X i,k<X.length) (hlen:X.length≤1000) (hrl: ∀ i,(au X i).length≤1000) (i0:Nat) (h0:i0<X.length) (Ac:Option Addr) (cc:Nat) (mv xv:Value) (w:World) (hv:JRd w xv X):
 FnAt Tryz.prog 42 [.agg #[.slice Ac X.length cc,mv,xv],.int .i64 (i0:Int)] w fun v H=> ∃ g,v= .slice (some ⟨g,0,none⟩) X.length X.length∧H= [fO X.length g (KT X i0)]:=by
 obtain ⟨vs0,hvl,⟨Av,cv,rfl,hm1,hm2,hm3⟩,hrow⟩:=hv;obtain ⟨gv,ov,rfl,hrv⟩:=hm3 (by omega);refine ay Tryz.func42 rfl Tryz.ntmps42 rfl ?_;repeat' (first|(apply dH (c:=X.length);(iterate 3 exact rfl);omega;(simp only [maxLen];omega);intro go;(try simp only [kZ]))|refine zZB ?_|refine sM fun _=>?_|(refine sC ?_ ?_<;>intro hb<;>try omega)|fail)
 all_goals try (exfalso;omega)
 rename_i g2 gq;let p:Nat→Prop:=pathN X i0;have hp0: ∀ u∈au X i0,p u:=fun u hu=>⟨u,hu,.refl u⟩;have hp1: ∀ v u,p v→u∈au X v→p u:=fun v u ⟨k,hk,r⟩ hu=>⟨k,hk,r.trans (Rch.one hu)⟩;refine aw [2,5] rfl (fun z:(Nat→Bool) × List Nat × List Nat × Qu=> [(6,z.2.2.2.v)]) (fun z=> [.own (some z.2.2.2.g) 3 1 z.2.2.2.n z.2.2.2.c z.2.2.2.ys,.own (some go) 4 1 X.length X.length (aF X.length z.1),.box g2 66 [.slice Ac X.length cc,mv,.slice (some ⟨gv,ov,none⟩) X.length cv]]) (fun z=>WkI X p z.1 z.2.1 z.2.2.1∧z.2.2.2.ok AX 1 z.2.1∧z.2.2.2.n≤1+lc X.length z.1∧(∀ x∈z.2.1,x<X.length∧(x=i0∨p x))∧(i0∈z.2.2.1∨i0∈z.2.1)) (fun z=>z.2.1.length+(X.length - lc X.length z.1)) (fun _=>false,[i0],[],⟨gq,0,0,1,1,AX i0⟩) ⟨⟨fun v h=>(by cases h),fun v h=>(by cases h),fun v h=>(by cases h)⟩,⟨QZ _,fun _=>by rw [UA],rfl,rfl⟩,Nat.le_add_right _ _,fun x hx=>by rw [Rd.1 hx];exact ⟨h0,.inl rfl⟩,.inr (Rd.2 rfl)⟩ sB (by simp only [Qu.v];exact mS) ?_;rintro ⟨M,todo,dn,q⟩ ⟨hI,hq,hqn,htd,hin⟩;dsimp only at hI hq hqn htd hin ⊢;have hql:=hq.len;have hcn:=o7 X.length M
 cases todo with
 |nil=>
   rw [Ta] at hql;have hfin:=hI.reach (hin.resolve_right TK);have hM:aF X.length M=aF X.length (KT X i0):=aP fun v _=>by rw [Sc,hfin,CR];exact Iff.rfl
   rw [hM];repeat' (first|refine zZB ?_|refine sM fun _=>?_|(refine sC ?_ ?_<;>intro hb<;>try omega)|fail)
   all_goals first
    |(exfalso;omega)
    |(exact bJ eIO rfl rfl (by unfold fO;exact mS) ⟨go,rfl,rfl⟩)
 |cons k todo=>
   rw [Rk] at hql;refine P0 (A:=some q.g) pK fun hle=> ?_;have hhd:=OD hq hle;have hpo:=hq.pop (xp k) hle;obtain ⟨hkl,hkp⟩:=htd k QY;have htd' :=fun x (hx:x∈todo)=>htd x (Rh _ hx);obtain ⟨u,hu,⟨Ai,ci,rfl,hi1,hi2,hi3⟩⟩:=hrow k hkl;have hc:=hrv.cellV k hu;have hJ0:=hI.pop;have hpk: ∀ u∈au X k,p u:=fun u hu=>hkp.elim (fun e=>hp0 u (e ▸ hu)) fun h=>hp1 k u h hu;have hXk:=hX k;have hrk:=hrl k;have hfinJ:=fun M todo (hJ:WkJ X p M k todo dn (au X k))=>hJ.fin;generalize au X k=L at*;repeat' (first|(apply ai (d:=20);exact rfl;apply ag (j:=0);exact rfl;exact rfl;omega)|(apply ai (d:=21);exact rfl;apply aq;exact rfl;exact pK;exact hhd)|(apply ai (d:=23);exact rfl;apply Ox q;exact rfl;omega;exact hle)|(apply ai (d:=27);exact rfl;apply ag (j:=k);exact rfl;exact rfl;exact hkl)|(apply ai (d:=28);exact rfl;apply bp;exact rfl;exact hc)|refine zZB ?_|refine sM fun _=>?_|(refine sC ?_ ?_<;>intro hb<;>try omega)|fail)
   all_goals try (exfalso;omega)
   refine aw [2,5,28,29] rfl (fun z:Nat × (Nat→Bool) × List Nat × Qu=> [(30,.int .i64 (z.1:Int)),(6,z.2.2.2.v)]) (fun z=> [.own (some z.2.2.2.g) 3 1 z.2.2.2.n z.2.2.2.c z.2.2.2.ys,.own (some go) 4 1 X.length X.length (aF X.length z.2.1),.box g2 66 [.slice Ac X.length cc,mv,.slice (some ⟨gv,ov,none⟩) X.length cv]]) (fun z=>z.1≤L.length∧WkJ X p z.2.1 k z.2.2.1 dn (L.take z.1)∧z.2.2.2.ok AX 1 z.2.2.1∧z.2.2.2.n≤1+lc X.length z.2.1∧(∀ x∈z.2.2.1,x<X.length∧(x=i0∨p x))∧z.2.2.1.length+lc X.length M=todo.length+lc X.length z.2.1∧(i0∈k::dn∨i0∈z.2.2.1)) (fun z=>L.length - z.1) (0,M,todo,q.pop 1) ⟨QZ _,hJ0,hpo,hqn,htd',rfl,hin.elim (fun h=> .inl (Rh _ h)) fun h=>(RF.1 h).elim (fun e=> .inl (e ▸ QY)) .inr⟩ sB (by simp only [Qu.pop];exact mS) ?_;clear hI hq hqn htd hin hql hhd hpo htd' hJ0 hle;rintro ⟨m,M1,todo1,q1⟩ ⟨hm,hJ,hq1,hqn1,htd1,hsum,hin1⟩;dsimp only at hm hJ hq1 hqn1 htd1 hsum hin1 ⊢;have hcn1:=o7 X.length M1;by_cases hlm:m<L.length
   ·obtain ⟨gi,oi,rfl,hri⟩:=hi3 (by omega);have he:=hri.natN m hlm;have hul:=hXk _ (db hlm);have hup:=hpk _ (db hlm);have htk:L.take (m+1)=L.take m++ [atN L m]:=by rw [Ra hlm,dN hlm]
    generalize atN L m=u at he hul hup htk;have hou:=bN (f:=M1) hul
    cases hMu:M1 u with
    |true=>
      rw [hMu] at hou;have hJ2:=hJ.old hMu;rw [← htk] at hJ2;repeat' (first|(apply ai (d:=32);exact rfl;apply ag (j:=m);exact rfl;exact rfl;exact hlm)|(apply ai (d:=33);exact rfl;apply bp;exact rfl;exact he)|(apply ai (d:=36);exact rfl;apply ag (j:=u);exact rfl;exact rfl;exact hul)|(apply ai (d:=37);exact rfl;apply aq;exact rfl;exact pK;exact hou)|refine zZA ?_|refine sM fun _=>?_|(refine sC ?_ ?_<;>intro hb<;>try omega)|fail)
      all_goals first
       |(exfalso;omega)
       |(refine ⟨(m+1,M1,todo1,q1),⟨hlm,hJ2,hq1,hqn1,htd1,hsum,hin1⟩,by dsimp only;omega,by exact sB,by exact sB,by exact mS⟩;done)
    |false=>
      rw [hMu] at hou;have hJ2:=hJ.new hup;rw [← htk] at hJ2;have hcm:=zq hul hMu;have hst:=eY (n:=X.length) (f:=M1) (k:=u) (v:=true);obtain ⟨qg,qoff,qk,qn,qc,qys⟩:=q1;obtain ⟨hq3,hq4,hq5,hq6⟩:=hq1;dsimp only at hq3 hq4 hq5 hq6 hqn1 ⊢;simp only [Qu.v];repeat' (first|(apply ai (d:=32);exact rfl;apply ag (j:=m);exact rfl;exact rfl;exact hlm)|(apply ai (d:=33);exact rfl;apply bp;exact rfl;exact he)|(apply ai (d:=36);exact rfl;apply ag (j:=u);exact rfl;exact rfl;exact hul)|(apply ai (d:=37);exact rfl;apply aq;exact rfl;exact pK;exact hou)|(apply ai (d:=41);exact rfl;apply ag (j:=u);exact rfl;exact rfl;exact hul)|(apply aU (g:=go);exact rfl;exact rfl;exact pK;exact rfl;(rw [eD];omega);rw [hst])|(apply u5;exact rfl;exact rfl;exact hq3;exact hq4;exact rfl;exact pK;exact pK;exact rfl;(simp [Value.oneCell']);omega;(simp only [maxLen];omega);intro g' off' k' n2 c2 ys hk2 hoff2 hlen2 hn2 hys2)|refine zZA ?_|refine sM fun _=>?_|(refine sC ?_ ?_<;>intro hb<;>try omega)|fail)
      all_goals first
       |(exfalso;omega)
       | (refine ⟨(m + 1, (fun x => if x = u then true else M1 x), todo1 ++ [u], ⟨g', off', k', n2, c2, ys⟩), ⟨hlm, hJ2, ⟨hk2, hoff2, (by rw [List.length_append]; exact hlen2.trans (by rw [hq5]; rfl)), (by rw [hys2, hq6, List.flatMap_append]; rfl)⟩, (by dsimp only; rw [hcm]; omega), (fun x hx => ?_), (by dsimp only; rw [List.length_append, hcm, List.length_singleton]; omega), hin1.imp id (List.mem_append_left _)⟩, by dsimp only; omega, by exact sB, by exact sB, by exact mS⟩
          rcases Rz.1 hx with hx|hx
          ·exact htd1 x hx
          ·rw [Rd.1 hx];exact ⟨hul,.inr hup⟩)
   ·have hm2:m=L.length:=by omega
    subst hm2;rw [RS] at hJ;have hI2:=hfinJ _ _ hJ;repeat' (first|refine zZA ?_|refine sM fun _=>?_|(refine sC ?_ ?_<;>intro hb<;>try omega)|fail)
    all_goals first
     |(exfalso;omega)
     |(refine ⟨(M1,todo1,k::dn,q1),⟨hI2,hq1,hqn1,htd1,hin1⟩,by dsimp only;rw [List.length_cons];omega,by exact sB,by exact sB,by exact mS⟩;done)
def wK (M:Nat→Nat→Bool) (lf:Nat→Bool) (i k:Nat):Bool:=lf i && (List.range k).all fun q=> !(lf q && M i q)
theorem Jk (M:Nat→Nat→Bool) (lf:Nat→Bool) (i k:Nat):wK M lf i (k+1)=(wK M lf i k && !(lf k && M i k)):=by
 unfold wK;rw [Tx,List.all_append];simp [Bool.and_assoc]
theorem Jj (M:Nat→Nat→Bool) (lf:Nat→Bool) (i:Nat):wK M lf i 0=lf i:=by simp [wK]
theorem KZ {M:Nat→Nat→Bool} {n:Nat} {lf:Nat→Bool} {p:Nat} (h:tJ M n lf=some p):p<n∧wK M lf p n=true∧ ∀ j,j<p→wK M lf j n=false:=by
 unfold tJ at h;rw [UR] at h
 exact ⟨RH.1 h.2.1,h.1,fun j hj=>by
  have:=h.2.2 j hj
  cases hc:wK M lf j n with
  |false=>rfl
  |true=>unfold wK at hc;rw [hc] at this;simp at this⟩
theorem JL (i:Nat) (f:Nat→Bool):lc (i+1) f=if f i=true then lc i f+1 else lc i f:=by
 unfold lc;rw [Tx,List.countP_append,U1];split<;>rfl
theorem E9 (g:Nat) (A:Option Nat) (cap:Nat) (L:List En) (G:Gr) (F:List Blk) (w0:World) (hlen:L.length≤1000) (hbx:Blk.box g 126 [sl A L.length cap]∈F) (hro:Blk.own A 172 4 L.length cap (L.flatMap cz)∈F)
 (hkey:L.map En.at_=aA G) (hGL:L.length=G.length) (A5:Option Nat) (c5:Nat) (As:List Nat) (hM:MatIn F L.length A5 c5 As (aQ G G.length)) (l:List Nat) (hl:SomeOk G l) (gl:Nat):
 FnIn Tryz.prog 54 [.pointer (some ⟨g,0,none⟩),sl A5 L.length c5,.slice (some ⟨gl,0,none⟩) L.length L.length] w0 (.own (some gl) 4 1 L.length L.length (aF L.length (iG l []))::F) fun v H=> ∃ A' c',v=sl A' (dD (aA G) (iM G l)).length c' ∧H= .own A' 28 2 (dD (aA G) (iM G l)).length c' ((dD (aA G) (iM G l)).flatMap aB)::F:=by
 refine bF Tryz.func54 rfl Tryz.ntmps54 rfl ?_;obtain ⟨lf,hlf0,hlf⟩:=hl.steps;have hcnt:=hl.count;have hsl:=hl.sort_len;have hnl:=oC (aA G) (iM G l);have hll:l.length≤G.length:=by rw [← hcnt];exact o7 _ _
 generalize aQ G G.length=M at hM hlf;rw [← hGL] at hcnt hlf hll;rw [← hlf0] at hcnt ⊢;have hki: ∀ j (hj:j<L.length),pq (aA G) j=L[j].at_:=fun j hj=>by
  unfold pq;rw [← hkey,Rj,QU hj]
  rfl
 have hcl0: ∀ p,p<L.length→((L.flatMap cz).drop (0+p*4+0)).take 2=aB (pq (aA G) p):=fun p hp=>by rw [hki p hp];exact jq hp
 clear hki hkey;generalize hsq:iM G l=Q at*;generalize hn:L.length=n at*;repeat' (first|refine zZB ?_|refine sM fun _=>?_|(refine sC ?_ ?_<;>intro hb<;>try omega)|fail)
 refine aw [0,1,2] rfl (fun i:Nat=> [(8,.int .i64 (i:Int)),(7,.int .i64 ((lc i (lf 0):Nat):Int))]) (fun _=> .own (some gl) 4 1 n n (aF n (lf 0))::F) (fun i=>i≤n) (fun i=>n - i) 0 (QZ _) sB mS ?_;rintro i hi;by_cases hlt:i<n
 ·have hb1:=bN (f:=lf 0) hlt;have hcs:=JL i (lf 0);have hcl:=o7 i (lf 0)
  cases hv:lf 0 i with
  |true=>
    rw [hv] at hb1;rw [if_pos hv] at hcs;repeat' (first|(apply ai (d:=18);exact rfl;apply dU;exact rfl;exact .tl (In.of_mem hbx);exact rfl)|(apply ai (d:=25);exact rfl;apply ag (j:=i);exact rfl;exact rfl;exact hlt)|(apply ai (d:=26);exact rfl;apply aq;exact rfl;exact pK;exact hb1)|refine zZA ?_|refine sM fun _=>?_|(refine sC ?_ ?_<;>intro hb<;>try omega)|fail)
    all_goals first
     |(exfalso;omega)
     |(refine ⟨i+1,hlt,by omega,by (try dsimp only);rw [hcs];exact sB,by exact sB,by exact mS⟩;done)
  |false=>
    rw [hv] at hb1;rw [if_neg (by rw [hv];simp)] at hcs;repeat' (first|(apply ai (d:=18);exact rfl;apply dU;exact rfl;exact .tl (In.of_mem hbx);exact rfl)|(apply ai (d:=25);exact rfl;apply ag (j:=i);exact rfl;exact rfl;exact hlt)|(apply ai (d:=26);exact rfl;apply aq;exact rfl;exact pK;exact hb1)|refine zZA ?_|refine sM fun _=>?_|(refine sC ?_ ?_<;>intro hb<;>try omega)|fail)
    all_goals first
     |(exfalso;omega)
     |(refine ⟨i+1,hlt,by omega,by (try dsimp only);rw [hcs];exact sB,by exact sB,by exact mS⟩;done)
 ·have e:i=n:=by omega
  subst e;rw [hcnt];refine aI 28 2 ?_;repeat' (first|(apply ai (d:=18);exact rfl;apply dU;exact rfl;exact .tl (.tl (In.of_mem hbx));exact rfl)|refine zZA ?_|refine sM fun _=>?_|(refine sC ?_ ?_<;>intro hb<;>try omega)|fail)
  all_goals try (exfalso;omega)
  refine aw [0,1,2,7] rfl (fun y:Nat × Option Nat × Nat=> [(9,sl y.2.1 y.1 y.2.2)]) (fun y=> .own y.2.1 28 2 y.1 y.2.2 ((dD (aA G) (Q.take y.1)).flatMap aB):: .own (some gl) 4 1 i i (aF i (lf y.1))::F) (fun y=>y.1≤l.length) (fun y=>l.length - y.1) (0,none,0) (QZ _) sB mS ?_;rintro ⟨t,A9,c9⟩ ht;dsimp only at ht ⊢;by_cases htl:t<l.length
  ·obtain ⟨hpk,hnx⟩:=hlf t htl;obtain ⟨hpn,hpm,hpj⟩:=KZ hpk;have hst:dD (aA G) (Q.take (t+1))=dD (aA G) (Q.take t)++ [pq (aA G) (atN Q t)]:=by
    rw [Ra (by omega),kw,dN (by omega)]
   generalize atN Q t=p at hpk hnx hpn hpm hpj hst;have hset:=eY (n:=i) (f:=lf t) (k:=p) (v:=false);rw [← hnx] at hset;have hcell:=hcl0 p hpn;generalize pq (aA G) p=a at hst hcell;generalize lf t=lt at*;repeat' (first|refine zZA ?_|refine sM fun _=>?_|(refine sC ?_ ?_<;>intro hb<;>try omega)|fail)
   all_goals try (exfalso;omega)
   refine aw [0,1,2,7,9] rfl (fun y:Nat × Int=> [(11,.int .i64 (y.1:Int)),(10,.int .i64 y.2)]) (fun _=> .own A9 28 2 t c9 ((dD (aA G) (Q.take t)).flatMap aB):: .own (some gl) 4 1 i i (aF i lt)::F) (fun y=>(y.1≤p∧y.2= -1)∨(y.1=p+1∧y.2=(p:Int))) (fun y=>p+1 - y.1) (0, -1) (.inl ⟨QZ _,rfl⟩) sB mS ?_;rintro ⟨j,fi⟩ hj;dsimp only at hj ⊢;rcases hj with ⟨hjp,rfl⟩|⟨rfl,rfl⟩
   ·have hjn:j<i:=by omega
    have hb1:=bN (f:=lt) hjn;rw [← Jj M lt j] at hb1;repeat' (first|(apply ai (d:=37);exact rfl;apply dU;exact rfl;exact .tl (.tl (In.of_mem hbx));exact rfl)|(apply ai (d:=48);exact rfl;apply ag (j:=j);exact rfl;exact rfl;exact hjn)|(apply ai (d:=49);exact rfl;apply aq;exact rfl;exact pK;exact hb1)|refine zZA ?_|refine sM fun _=>?_|(refine sC ?_ ?_<;>intro hb<;>try omega)|fail)
    all_goals try (exfalso;omega)
    obtain ⟨gj,hcj,hrj⟩:=hM.cell hjn;have ho:=hM.out;refine aw [0,1,2,7,9,10,11] rfl (fun k:Nat=> [(13,.int .i64 (k:Int)),(12,.bool (wK M lt j k))]) (fun _=> .own A9 28 2 t c9 ((dD (aA G) (Q.take t)).flatMap aB):: .own (some gl) 4 1 i i (aF i lt)::F) (fun k=>k≤i) (fun k=>i - k) 0 (QZ _) sB mS ?_;rintro k hk;by_cases hlk:k<i
    ·refine bg (A:=A5) (.tl (.tl (In.of_mem ho))) (by omega) fun ga hA=> ?_;subst hA;have hb2:=bN (f:=lt) hlk;have hb3:=bN (f:=M j) hlk;have hms:=Jk M lt j k;generalize wK M lt j k=pp at hms;generalize lt k=qq at hb2 hms;generalize M j k=rr at hb3 hms;cases pp<;>cases qq;all_goals simp only [Ss,SG,Bool.not_false,SD] at hms
     all_goals (
      repeat' (first|(apply ai (d:=54);exact rfl;apply dU;exact rfl;exact .tl (.tl (In.of_mem hbx));exact rfl)|(apply ai (d:=63);exact rfl;apply ag (j:=k);exact rfl;exact rfl;exact hlk)|(apply ai (d:=64);exact rfl;apply aq;exact rfl;exact pK;exact hb2)|(apply ai (d:=68);exact rfl;apply ag (j:=j);exact rfl;exact rfl;exact hjn)|(apply ai (d:=69);exact rfl;apply aq;exact rfl;exact .tl (.tl (In.of_mem ho));exact hcj)|(apply ai (d:=71);exact rfl;apply ag (j:=k);exact rfl;exact rfl;exact hlk)|(apply ai (d:=72);exact rfl;apply aq;exact rfl;exact .tl (.tl (In.of_mem hrj));exact hb3)|refine zZA ?_|refine sM fun _=>?_|(refine sC ?_ ?_<;>intro hb<;>try omega)|fail)
      all_goals first
       |(exfalso;omega)
       |(refine ⟨k+1,hlk,by omega,by (try dsimp only);rw [hms];exact sB,by exact sB,by exact mS⟩;done)
       )
    ·have e2:k=i:=by omega
     subst e2;by_cases hjq:j=p
     ·subst hjq;rw [hpm];repeat' (first|(apply ai (d:=54);exact rfl;apply dU;exact rfl;exact .tl (.tl (In.of_mem hbx));exact rfl)|refine zZA ?_|refine sM fun _=>?_|(refine sC ?_ ?_<;>intro hb<;>try omega)|fail)
      all_goals first
       |(exfalso;omega)
       |(refine ⟨(j+1,(j:Int)),.inr ⟨rfl,rfl⟩,by dsimp only;omega,by exact sB,by exact sB,by exact mS⟩;done)
     ·rw [hpj j (by omega)];repeat' (first|(apply ai (d:=54);exact rfl;apply dU;exact rfl;exact .tl (.tl (In.of_mem hbx));exact rfl)|refine zZA ?_|refine sM fun _=>?_|(refine sC ?_ ?_<;>intro hb<;>try omega)|fail)
      all_goals first
       |(exfalso;omega)
       |(refine ⟨(j+1, -1),.inl ⟨by dsimp only;omega,rfl⟩,by dsimp only;omega,by exact sB,by exact sB,by exact mS⟩;done)
   ·refine bg (A:=A) (.tl (.tl (In.of_mem hro))) (by omega) fun gf hA=> ?_;subst hA;repeat' (first|(apply ai (d:=37);exact rfl;apply dU;exact rfl;exact .tl (.tl (In.of_mem hbx));exact rfl)|(apply ai (d:=80);exact rfl;apply ag (j:=p);exact rfl;exact rfl;exact hpn)|(apply aU (g:=gl);exact rfl;exact rfl;exact pK;exact rfl;(rw [eD];omega);rw [hset])|(apply ai (d:=85);exact rfl;apply dU;exact rfl;(first|exact .tl (.tl (In.of_mem hbx))|exact .tl (In.of_mem hbx));exact rfl)|(apply ai (d:=87);exact rfl;apply ag (j:=p);exact rfl;exact rfl;exact hpn)|(apply ai (d:=89);exact rfl;apply aO (ys:=aB a);exact rfl;exact .tl (.tl (In.of_mem hro));exact hcell;exact rfl)|(apply aD;(iterate 3 exact rfl);exact pK;exact pK;exact rfl;(simp [aB,Value.oneCell']);omega;(simp only [maxLen];omega);intro g8 c8)|refine zZA ?_|refine sM fun _=>?_|(refine sC ?_ ?_<;>intro hb<;>try omega)|fail)
    all_goals first
     |(exfalso;omega)
     | (refine ⟨(t + 1, some g8, c8), htl, by dsimp only; omega, by exact sB, by exact sB, ?_⟩
        dsimp only;rw [hst,Rp,Tt];exact mS)
  ·have e2:t=l.length:=by omega
   subst e2;have htq:Q.take l.length=Q:=by rw [← hsl,RS]
   rw [htq];repeat' (first|refine zZA ?_|refine sM fun _=>?_|(refine sC ?_ ?_<;>intro hb<;>try omega)|fail)
   all_goals first
    |(exfalso;omega)
    |(exact bJ (H' := .own A9 28 2 (dD (aA G) Q).length c9 ((dD (aA G) Q).flatMap aB)::F) eIO rfl rfl (by rw [hnl,hsl];exact mS) ⟨A9,c9,by rw [hnl,hsl],rfl⟩)
theorem Az {n:Nat} {As:List Nat} (hA:As.length=n) (M:Nat→Nat→Bool) (A:Option Nat) (c:Nat) (F1 R:List Blk):MatIn (.own A 72 1 n c (As.map (je n))::(F1++(R++gR n As M 0))) n A c As M:=
 ⟨hA,QY,fun i hi=>Rh _ (Sj _ (Sj _ (Lo As M hi)))⟩
theorem HF (G:Gr):(fun j=>(aQ G G.length j j||(List.range G.length).any fun a=>aQ G G.length j a && aQ G G.length a a))=dq G:=rfl
theorem Cs {G:Gr} {L:List En} {R:List Blk} (hR:RGOk R L G) (b:Nat→Bool):jP (L.map En.at_) b L.length=dD (aA G) ((List.range G.length).filter b):=by
 rw [hR.keys,hR.len,yJ _ (by rw [dE];exact Rg _)]
theorem CX (g:Nat) (A:Option Nat) (cap:Nat) (L:List En) (G:Gr) (R:List Blk) (w0:World) (hR:RGOk R L G) (hG:GrOk G) (hlen:L.length≤1000):
 FnIn Tryz.prog 20 [.pointer (some ⟨g,0,none⟩)] w0 (rgB g A cap L++R) fun v H=> ∃ A' c',v= .tuple #[sl A' (iz G).length c',.int .i64 0]∧H= .own A' 28 2 (iz G).length c' ((iz G).flatMap aB)::(rgB g A cap L++R):=by
 refine bF Tryz.func20 rfl Tryz.ntmps20 rfl ?_;have hAll:=Bo g A cap L G R w0 hR hG hlen;have hso:=fun gb b R' =>HJ g A cap L gb b R' w0 hlen;have hsr:=fun b=>Cs hR b;have hGn:=hR.len;have hlf:iz G=dD (aA G) ((List.range G.length).filter fun i=>aQ G G.length i i):=rfl;rw [hlf];simp only [hsr] at hso;rw [hGn] at hAll hso hlen;repeat' (first|(apply ak (f:=52);exact rfl;exact rfl;exact hAll;rintro _ _ ⟨A5,c5,As,_,hAl,rfl,rfl⟩)|(apply ak (f:=51);exact rfl;exact rfl;exact yQ G.length hlen A5 c5 As (aQ G G.length) _ (Az hAl _ _ _ _ _) w0;rintro _ _ ⟨gb,rfl,rfl⟩)|(apply ak (f:=50);exact rfl;exact rfl;exact FnIn.msub (hso gb _ R) (by unfold rgB;simp only [Re,QV,QW];exact MSub.pick pK (MSub.pick pK (MSub.pick pK (MSub.drop .hd (MSub.appL _ _)))));rintro _ _ ⟨A7,c7,rfl,rfl⟩)|refine zZB ?_|refine sM fun _=>?_|(refine sC ?_ ?_<;>intro hb<;>try omega)|fail)
 all_goals first
  |(exfalso;omega)
  |(exact dB eIO rfl rfl rfl (by unfold rgB;simp only [Re,QV,QW];exact mS) ⟨A7,c7,rfl,rfl⟩)
theorem Fx (g:Nat) (A:Option Nat) (cap:Nat) (L:List En) (G:Gr) (R:List Blk) (w0:World) (hR:RGOk R L G) (hG:GrOk G) (hlen:L.length≤1000):
 FnIn Tryz.prog 21 [.pointer (some ⟨g,0,none⟩)] w0 (rgB g A cap L++R) fun v H=> ∃ A' c',v= .tuple #[sl A' (jH G).length c',.int .i64 0]∧H= .own A' 28 2 (jH G).length c' ((jH G).flatMap aB)::(rgB g A cap L++R):=by
 refine bF Tryz.func21 rfl Tryz.ntmps21 rfl ?_;have hAll:=Bo g A cap L G R w0 hR hG hlen;have hso:=fun gb b R' =>HJ g A cap L gb b R' w0 hlen;have hsr:=fun b=>Cs hR b;have hGn:=hR.len;have hlf:jH G=dD (aA G) ((List.range G.length).filter (dq G)):=rfl;rw [hlf];simp only [hsr] at hso;rw [hGn] at hAll hso hlen;repeat' (first|(apply ak (f:=52);exact rfl;exact rfl;exact hAll;rintro _ _ ⟨A5,c5,As,_,hAl,rfl,rfl⟩)|(apply ak (f:=53);exact rfl;exact rfl;exact CQ G.length hlen A5 c5 As (aQ G G.length) _ (Az hAl _ _ _ _ _) w0;rintro _ _ ⟨gb,rfl,rfl⟩;rw [HF])|(apply ak (f:=50);exact rfl;exact rfl;exact FnIn.msub (hso gb _ R) (by unfold rgB;simp only [Re,QV,QW];exact MSub.pick pK (MSub.pick pK (MSub.pick pK (MSub.drop .hd (MSub.appL _ _)))));rintro _ _ ⟨A7,c7,rfl,rfl⟩)|refine zZB ?_|refine sM fun _=>?_|(refine sC ?_ ?_<;>intro hb<;>try omega)|fail)
 all_goals first
  |(exfalso;omega)
  |(exact dB eIO rfl rfl rfl (by unfold rgB;simp only [Re,QV,QW];exact mS) ⟨A7,c7,rfl,rfl⟩)
def um (b:Nat→Bool) (i:Nat):Nat→Bool:=fun j=>if j<i then !b j else b j
theorem Jc (b:Nat→Bool) (i n:Nat):aF n (fun j=>if j=i then !b i else um b i j)=aF n (um b (i+1)):=aP fun j _=>by
 unfold um;by_cases e:j=i
 ·subst e;simp
 ·rw [if_neg e];by_cases h:j<i
  ·rw [if_pos h,if_pos (by omega)]
  ·rw [if_neg h,if_neg (by omega)]
theorem Nw (b:Nat→Bool) (i:Nat):um b i i=b i:=by simp [um]
theorem Jb (b:Nat→Bool) (n:Nat):aF n b=aF n (um b 0):=aP fun j _=>by simp [um]
theorem Jd (b:Nat→Bool) (n:Nat):aF n (um b n)=aF n fun j=> !b j:=aP fun j h=>by simp [um,h]
theorem CV (g:Nat) (A:Option Nat) (cap:Nat) (L:List En) (G:Gr) (R:List Blk) (w0:World) (hR:RGOk R L G) (hG:GrOk G) (hlen:L.length≤1000):
 FnIn Tryz.prog 22 [.pointer (some ⟨g,0,none⟩)] w0 (rgB g A cap L++R) fun v H=> ∃ A' c',v= .tuple #[sl A' (mf G).length c',.int .i64 0]∧H= .own A' 28 2 (mf G).length c' ((mf G).flatMap aB)::(rgB g A cap L++R):=by
 refine bF Tryz.func22 rfl Tryz.ntmps22 rfl ?_;have hAll:=Bo g A cap L G R w0 hR hG hlen;have hGn:=hR.len;have hst:=fun F hb hr A5 c5 As hM gl=>E9 g A cap L G F w0 hlen hb hr hR.keys hGn A5 c5 As hM (frC G) (PK G) gl;have hox:mf G=dD (aA G) (iM G (frC G)):=rfl;rw [hox];have hfl:aF G.length (fun j=> !dq G j)=aF G.length (iG (frC G) []):=aP fun j hj=>(LP hj).symm;have hrg:rgB g A cap L= [.box g 126 [sl A G.length cap],.own A 172 4 G.length cap (L.flatMap cz)]:=by unfold rgB;rw [hGn]
 rw [hrg] at hAll ⊢;rw [hGn] at hAll hlen hst;repeat' (first|(apply ak (f:=52);exact rfl;exact rfl;exact hAll;rintro _ _ ⟨A5,c5,As,_,hAl,rfl,rfl⟩)|(apply ak (f:=53);exact rfl;exact rfl;exact CQ G.length hlen A5 c5 As (aQ G G.length) _ (Az hAl _ _ _ _ _) w0;rintro _ _ ⟨gb,rfl,rfl⟩;rw [HF])|refine zZB ?_|refine sM fun _=>?_|(refine sC ?_ ?_<;>intro hb<;>try omega)|fail)
 all_goals try (exfalso;omega)
 have hM:=Az hAl (aQ G G.length) A5 c5 [.box g 126 [sl A G.length cap],.own A 172 4 G.length cap (L.flatMap cz)] R;simp only [fO,Re,QV,QW] at hM ⊢;have hbx:Blk.box g 126 [sl A G.length cap]∈(Blk.own A5 72 1 G.length c5 (As.map (je G.length))::Blk.box g 126 [sl A G.length cap]::Blk.own A 172 4 G.length cap (L.flatMap cz)::(R++gR G.length As (aQ G G.length) 0)):=by simp
 have hro:Blk.own A 172 4 G.length cap (L.flatMap cz)∈(Blk.own A5 72 1 G.length c5 (As.map (je G.length))::Blk.box g 126 [sl A G.length cap]::Blk.own A 172 4 G.length cap (L.flatMap cz)::(R++gR G.length As (aQ G G.length) 0)):=by simp
 have hsub:MSub (Blk.box g 126 [sl A G.length cap]::Blk.own A 172 4 G.length cap (L.flatMap cz)::R) (Blk.own A5 72 1 G.length c5 (As.map (je G.length))::Blk.box g 126 [sl A G.length cap]::Blk.own A 172 4 G.length cap (L.flatMap cz)::(R++gR G.length As (aQ G G.length) 0)):=MSub.pick pK (MSub.pick pK (MSub.drop .hd (MSub.appL _ _)));generalize (Blk.own A5 72 1 G.length c5 (As.map (je G.length))::Blk.box g 126 [sl A G.length cap]::Blk.own A 172 4 G.length cap (L.flatMap cz)::(R++gR G.length As (aQ G G.length) 0))=F at hM hbx hro hsub ⊢;refine aw [0,4,5] rfl (fun i:Nat=> [(6,.int .i64 (i:Int))]) (fun i=> .own (some gb) 4 1 G.length G.length (aF G.length (um (dq G) i))::F) (fun i=>i≤G.length) (fun i=>G.length - i) 0 (QZ _) sB (by rw [← Jb];exact mS) ?_;rintro i hi;by_cases hlt:i<G.length
 ·have hb1:=bN (f:=um (dq G) i) hlt;rw [Nw] at hb1;have hset:=eY (n:=G.length) (f:=um (dq G) i) (k:=i) (v:= !dq G i);rw [Jc] at hset;repeat' (first|(apply ai (d:=23);exact rfl;apply ag (j:=i);exact rfl;exact rfl;exact hlt)|(apply ai (d:=24);exact rfl;apply aq;exact rfl;exact pK;exact hb1)|(apply ai (d:=26);exact rfl;apply ag (j:=i);exact rfl;exact rfl;exact hlt)|(apply aU (g:=gb);exact rfl;exact rfl;exact pK;exact rfl;(rw [eD];omega);rw [hset])|refine zZA ?_|refine sM fun _=>?_|(refine sC ?_ ?_<;>intro hb<;>try omega)|fail)
  all_goals first
   |(exfalso;omega)
   |(refine ⟨i+1,hlt,by omega,by exact sB,by exact sB,by exact mS⟩;done)
 ·have e:i=G.length:=by omega
  subst e;rw [Jd,hfl];have hso:=hst F hbx hro A5 c5 As hM gb;repeat' (first|(apply ak (f:=54);exact rfl;exact rfl;exact hso;rintro _ _ ⟨A9,c9,rfl,rfl⟩)|refine zZA ?_|refine sM fun _=>?_|(refine sC ?_ ?_<;>intro hb<;>try omega)|fail)
  all_goals first
   |(exfalso;omega)
   |(exact dB eIO rfl rfl rfl (MSub.pick .hd hsub) ⟨A9,c9,rfl,rfl⟩)
end Go.SL
