/-
  Lemmas and walks, put together: Ob Uf Jb Uh.
-/
import Derived.Test.YtoanpdoacdpgeaaGreatDoorKn37
import Derived.Test.YtoanpdoacdpgeaaGreatDoorKn43
import Derived.Test.YtoanpdoacdpgeaaGreatDoorKn45
import Derived.Test.YtoanpdoacdpgeaaGreatDoorKn48
set_option linter.unusedSimpArgs false
set_option linter.unusedVariables false
set_option maxRecDepth 20000
namespace Go.SL
open Go Go.Proofs
attribute [local irreducible] W WL WQ WG WA WX WLI WR WT WC WE VOp RW thn blk bE scp ba bo bL aP FnIn FnP ceP
theorem z1 {all:BitVec 64}: ∀ {L:List Ev} {last:Int},eV all last L=0→ ∀ x∈L,x.step≤qJ last L
 | [],_,_,x,hx=>by cases hx
 |y::L,last,h,x,hx=>by
  rw [nV] at h
  split at h
  ·
   rename_i h2;exact absurd h h2
  have hmono: ∀ {L:List Ev} {a:Int},eV all a L=0→a≤qJ a L:=by
   intro L
   induction L with
   |nil=>intro a _;exact OH _
   |cons z L ih=>
    intro a h
    rw [nV] at h
    split at h
    ·
     rename_i h2;exact absurd h h2
    rename_i h2
    have h3:=ih h
    have h4: ¬ z.step≤a:=fun h5=>by
     have h6:=Classical.not_not.1 h2
     unfold nU at h6
     rw [if_pos h5] at h6
     cases h6
    show a≤qJ z.step L
    omega
  show x.step≤qJ y.step L
  rcases NA.1 hx with rfl|hx
  ·
   exact hmono h
  ·
   exact z1 h x hx
def qI (last:Int):List Rv→Int
 | []=>last
 |x::l=>qI x.step l
theorem Af: ∀ (L:List Rv) (last:Int),qI last L=if L.length=0 then last else ((L[L.length - 1]?).map Rv.step).getD 0
 | [],_=>rfl
 | [x],_=>rfl
 |x::y::L,last=>by
  have ih:=Af (y::L) x.step
  rw [show qI last (x::y::L)=qI x.step (y::L) from rfl,ih]
  simp
theorem yU {all:BitVec 64}: ∀ {L:List Rv} {last:Int},fA all last L=0→ ∀ x∈L,x.step≤qI last L
 | [],_,_,x,hx=>by cases hx
 |y::L,last,h,x,hx=>by
  rw [nF] at h
  split at h
  ·
   rename_i h2;exact absurd h h2
  have hmono: ∀ {L:List Rv} {a:Int},fA all a L=0→a≤qI a L:=by
   intro L
   induction L with
   |nil=>intro a _;exact OH _
   |cons z L ih=>
    intro a h
    rw [nF] at h
    split at h
    ·
     rename_i h2;exact absurd h h2
    rename_i h2
    have h3:=ih h
    have h4: ¬ z.step<a:=fun h5=>by
     have h6:=Classical.not_not.1 h2
     unfold nD at h6
     rw [if_pos h5] at h6
     cases h6
    show a≤qI z.step L
    omega
  show x.step≤qI y.step L
  rcases NA.1 hx with rfl|hx
  ·
   exact hmono h
  ·
   exact yU h x hx
theorem Fb {all:BitVec 64} {s:Int} {L:List Ev} (h:eV all (-1) L=0):m8 s L=false↔ ∀ x∈L,x.step<s:=by
 have h1:=z1 h
 rw [Ah] at h1
 unfold m8
 by_cases hl:0<L.length
 ·
  rw [if_pos hl,decide_eq_false_iff_not]
  rw [if_neg (by omega)] at h1
  constructor
  ·
   intro h2 x hx
   have:=h1 x hx
   omega
  ·
   intro h2 h3
   have hlt:L.length - 1<L.length:=by omega
   have h4:=h2 _ (NW hlt)
   rw [Nc hlt] at h3
   simp only [Oh,Pv] at h3
   omega
 ·
  rw [if_neg hl]
  have:L= []:=OV.1 (by omega)
  subst this
  simp
theorem Fa {all:BitVec 64} {s:Int} {L:List Rv} (h:fA all (-1) L=0):m7 s L=false↔ ∀ x∈L,x.step<s:=by
 have h1:=yU h
 rw [Af] at h1
 unfold m7
 by_cases hl:0<L.length
 ·
  rw [if_pos hl,decide_eq_false_iff_not]
  rw [if_neg (by omega)] at h1
  constructor
  ·
   intro h2 x hx
   have:=h1 x hx
   omega
  ·
   intro h2 h3
   have hlt:L.length - 1<L.length:=by omega
   have h4:=h2 _ (NW hlt)
   rw [Nc hlt] at h3
   simp only [Oh,Pv] at h3
   omega
 ·
  rw [if_neg hl]
  have:L= []:=OV.1 (by omega)
  subst this
  simp
set_option maxHeartbeats 16000000 in
theorem uT (b:Bk) (x:Bv) (w:World) (h:BRd w b x) (hlen:b.ents.length≤1000000):ay Tryz.prog 16 [.agg (aU b x).toArray] w (.int .i64 (bkE b)):=by
 have hent:=fun (w' :World) (H:List Blk) (hm:Mem w w' H)=>uS b.ents _ w' (h.e.of_w0 hm) hlen
 have hacl:=fun (w' :World) (H:List Blk) (hm:Mem w w' H)=>ij b.users b.rules _ w' (h.r.of_w0 hm)
 have hgnt:=fun (w' :World) (H:List Blk) (hm:Mem w w' H)=>mX b.users b.grants _ w' (h.g.of_w0 hm)
 have haud:=fun (w' :World) (H:List Blk) (hm:Mem w w' H)=>uW b.users b.log b.rels _ _ w' (h.l.of_w0 hm) (h.s.of_w0 hm)
 refine aq Tryz.func16 rfl Tryz.ntmps16 rfl ?_
 unfold bkE
 obtain ⟨Al,cl,el,hl1,hl2,hl3⟩:=h.l
 obtain ⟨Am,cm,em,hm1,hm2,hm3⟩:=h.s
 have hl3' :0<b.log.length→ ∃ g o,x.al=some ⟨g,o,none⟩∧Ro w g o (b.log.flatMap aN):=by
  cases el
  exact hl3
 have hm3' :0<b.rels.length→ ∃ g o,x.as_=some ⟨g,o,none⟩∧Ro w g o (b.rels.flatMap bD):=by
  cases em
  exact hm3
 have hLm:b.log.length≤maxLen:=Nz hl1 hl2
 have hMm:b.rels.length≤maxLen:=Nz hm1 hm2
 clear hl1 hl2 hl3 hm1 hm2 hm3 el em
 have hlE:=fun (hz:qd b.users b.log b.rels=0)=>Fb (s:=b.step) (D6.1 hz).2.1
 have hlR:=fun (hz:qd b.users b.log b.rels=0)=>Fa (s:=b.step) (D6.1 hz).2.2
 generalize gG b.ents=ce at hent ⊢
 generalize iF b.users b.rules=ae at hacl ⊢
 generalize kB b.users b.grants=ge at hgnt ⊢
 generalize qd b.users b.log b.rels=ue at haud hlE hlR ⊢
 obtain ⟨us,E,RU,G,L,M,st⟩:=b
 obtain ⟨ae1,ar1,ag1,al1,as1,ce1,cr1,cg1,cl1,cs1⟩:=x
 dsimp only at*
 simp only [aU] at*
 generalize m8 st L=le at hlE ⊢
 generalize m7 st M=lr at hlR ⊢
 repeat' (first|(apply aa (f:=63);exact rfl;exact rfl;(intro w' hm;exact hent w' _ hm))|(apply aa (f:=34);exact rfl;exact rfl;(intro w' hm;exact hacl w' _ hm))|(apply aa (f:=64);exact rfl;exact rfl;(intro w' hm;exact hgnt w' _ hm))|(apply aa (f:=65);exact rfl;exact rfl;(intro w' hm;exact haud w' _ hm))|refine sT ?_|refine sS ?_|refine sN ?_|refine sM fun _=> ?_|(refine sC ?_ ?_<;>intro hb<;>try omega)|fail)
 all_goals first
  |(exfalso;omega)
  |((refine rT1 ?_);simp_all;done)
  |((refine rT1 ?_);simp_all;omega)
  |skip
 rename_i g1 _ _ _ _ _ _ _
 have hue:ue=0:=Decidable.not_not.1 (show ¬ (ue≠0) by assumption)
 have hlE1:=hlE hue
 have hlR1:=hlR hue
 rw [if_neg (by omega),if_neg (show ¬ (ce.2≠0) by assumption),if_neg (show ¬ (ae.2≠0) by assumption),if_neg (show ¬ (ge.2≠0) by assumption),if_neg (show ¬ (ue≠0) by assumption),if_neg (by omega)]
 clear hlE hlR hent hacl hgnt haud
 refine ax [1] rfl (fun i:Nat=> [(10,.int .i64 (i:Int))]) (fun _=> [.box g1 28 [.int .i64 us,.slice ae1 E.length ce1,.slice ar1 RU.length cr1,.slice ag1 G.length cg1,.slice al1 L.length cl1,.slice as1 M.length cs1,.int .i64 st]]) (fun i=>i≤L.length∧ ∀ j (h:j<L.length),j<i→L[j].step<st) (fun i=>L.length - i) 0 ⟨Ns _,fun j _ h=>absurd h (P7 _)⟩ sB mS ?_
 rintro i ⟨hi,hall⟩
 by_cases hlt:i<L.length
 ·
  obtain ⟨gl,ol,rfl,hrl⟩:=hl3' (by omega)
  have he:=(Ev.ro (hrl.elem fk i hlt)).1
  have hnx:L[i].step<st→ ∀ j (h:j<L.length),j<i+1→L[j].step<st:=fun hs j hj hji=>by
   by_cases e:j=i
   ·
    subst e;exact hs
   ·
    exact hall j hj (by omega)
  have hbad:st≤L[i].step→le=true:=fun hs=>by
   cases hle:le with
   |true=>rfl
   |false=>exact absurd (hlE1.1 hle _ (NW hlt)) (by omega)
  generalize L[i].step=sp at he hnx hbad
  repeat' (first|(apply aS;exact rfl;apply aj (j:=i);exact rfl;exact rfl;exact hlt)|refine sT ?_|refine sS ?_|refine sQ ?_|refine sN ?_|refine sNQ ?_|refine sO ?_|refine sOQ ?_|refine sD ?_|refine sM fun _=> ?_|(refine sC ?_ ?_<;>intro hb<;>try omega)|(refine sCQ ?_ ?_<;>intro hb<;>try omega)|fail)
  all_goals first
   |(exfalso;omega)
   |((refine rT1 ?_);rw [if_pos (hbad (by omega))];done)
   |(refine ⟨i+1,⟨hlt,hnx (by omega)⟩,by omega,by exact sB,by exact sB,by exact mS⟩;done)
   |trace_state
 have hle:le=false:=hlE1.2 fun x hx=>by
  obtain ⟨j,hj,rfl⟩:=O7 hx
  exact hall j hj (by omega)
 rw [hle,if_neg (by decide)]
 repeat' (first|refine sT ?_|refine sS ?_|refine sN ?_|refine sM fun _=> ?_|(refine sC ?_ ?_<;>intro hb<;>try omega)|fail)
 all_goals try (exfalso;omega)
 refine ax [1] rfl (fun i:Nat=> [(11,.int .i64 (i:Int))]) (fun _=> [.box g1 28 [.int .i64 us,.slice ae1 E.length ce1,.slice ar1 RU.length cr1,.slice ag1 G.length cg1,.slice al1 L.length cl1,.slice as1 M.length cs1,.int .i64 st]]) (fun i=>i≤M.length∧ ∀ j (h:j<M.length),j<i→M[j].step<st) (fun i=>M.length - i) 0 ⟨Ns _,fun j _ h=>absurd h (P7 _)⟩ sB mS ?_
 rintro k ⟨hk,hall2⟩
 by_cases hltk:k<M.length
 ·
  obtain ⟨gm,om,rfl,hrm⟩:=hm3' (by omega)
  have he:=Rv.ro1 (hrm.elem fj k hltk)
  have hnx:M[k].step<st→ ∀ j (h:j<M.length),j<k+1→M[j].step<st:=fun hs j hj hji=>by
   by_cases e:j=k
   ·
    subst e;exact hs
   ·
    exact hall2 j hj (by omega)
  have hbad:st≤M[k].step→lr=true:=fun hs=>by
   cases hlr:lr with
   |true=>rfl
   |false=>exact absurd (hlR1.1 hlr _ (NW hltk)) (by omega)
  generalize M[k].step=sp at he hnx hbad
  repeat' (first|(apply aS;exact rfl;apply aj (j:=k);exact rfl;exact rfl;exact hltk)|refine sT ?_|refine sS ?_|refine sQ ?_|refine sN ?_|refine sNQ ?_|refine sO ?_|refine sOQ ?_|refine sD ?_|refine sM fun _=> ?_|(refine sC ?_ ?_<;>intro hb<;>try omega)|(refine sCQ ?_ ?_<;>intro hb<;>try omega)|fail)
  all_goals first
   |(exfalso;omega)
   |((refine rT1 ?_);rw [if_pos (hbad (by omega))];done)
   |(refine ⟨k+1,⟨hltk,hnx (by omega)⟩,by omega,by exact sB,by exact sB,by exact mS⟩;done)
   |trace_state
 have hlr:lr=false:=hlR1.2 fun x hx=>by
  obtain ⟨j,hj,rfl⟩:=O7 hx
  exact hall2 j hj (by omega)
 rw [hlr,if_neg (by decide)]
 repeat' (first|refine sT ?_|refine sS ?_|refine sN ?_|refine sM fun _=> ?_|(refine sC ?_ ?_<;>intro hb<;>try omega)|fail)
 all_goals first|(exfalso;omega)|((refine rT1 ?_);rfl)|trace_state
def kr (L:List Et) (r:Rct):List Et:=L.filter fun e=> !dx r e.at_
def rL (L:List Et) (x:Et):List Et:=
 if x.input=au then kr L (oU x.at_.col x.at_.row) else (kr L (oU x.at_.col x.at_.row)).take (Cg (kr L (oU x.at_.col x.at_.row)) x.at_)++x::(kr L (oU x.at_.col x.at_.row)).drop (Cg (kr L (oU x.at_.col x.at_.row)) x.at_)
theorem zB (L:List Et) (o:Ox):kr L o.rect=L.filter (gI o):=rfl
theorem Eh {L:List Et} {o:Ox} (h1:o.rect.c1=o.rect.c2) (h2:o.rect.r1=o.rect.r2):rL L ⟨toO o,o.input⟩=tN (L.filter (gI o)) o:=by
 have hr:oU (toO o).col (toO o).row=o.rect:=by
  obtain ⟨k,u,⟨c1,r1,c2,r2⟩,i⟩:=o
  dsimp only at h1 h2
  subst h1;subst h2
  rfl
 unfold rL tN
 dsimp only
 rw [hr,zB]
theorem zA (L:List Et) (r:Rct):(kr L r).length≤L.length:=Pb _ _
theorem EZ {L:List Et} {r:Rct} {i:Nat} (h:i<L.length):kr (L.take (i+1)) r=if dx r L[i].at_=true then kr (L.take i) r else kr (L.take i) r++ [L[i]]:=by
 unfold kr
 rw [Nk h,PW]
 cases hh:dx r L[i].at_<;>simp [hh]
set_option maxHeartbeats 4000000 in
theorem lf (L:List Et) (r:Rct) (lv:Value) (w:World) (hl:Reads w lv L.length (L.flatMap aB)) (hlen:L.length≤1000000):
    aP Tryz.prog 52 [lv,.agg (bH r).toArray] w fun v H=> ∃ A cap,v=sl A (kr L r).length cap∧H= [.own A 52 3 (kr L r).length cap ((kr L r).flatMap aB)]:=by
  obtain ⟨Al,cl,rfl,hl1,hl2,hl3⟩:=hl
  refine aq Tryz.func52 rfl Tryz.ntmps52 rfl ?_
  refine aD 52 3 ?_
  repeat' (first|refine sT ?_|refine sS ?_|refine sM fun _=> ?_|(refine sC ?_ ?_<;>intro hb<;>try omega)|fail)
  rename_i g3
  refine ax [0,3] rfl (fun y:Nat × Option Nat × Nat=> [(5,sl y.2.1 (kr (L.take y.1) r).length y.2.2),(6,.int .i64 (y.1:Int))]) (fun y=> [.own y.2.1 52 3 (kr (L.take y.1) r).length y.2.2 ((kr (L.take y.1) r).flatMap aB),.box g3 32 (bH r)]) (fun y=>y.1≤L.length) (fun y=>L.length - y.1) (0,none,0) (Ns _) sB mS ?_
  rintro ⟨i,A,c⟩ hi
  dsimp only at hi ⊢
  by_cases hlt:i<L.length
  · obtain ⟨gl,ol,rfl,hrl⟩:=hl3 (by omega)
    have he:=hrl.elem bg i hlt
    have hn:=EZ (r:=r) hlt
    have hH:=fun w=>qw r L[i].at_ w
    have hol:=zA (L.take i) r
    rw [Nu] at hol
    generalize kr (L.take i) r=M at hn hol
    generalize L[i]=x at he hn hH
    have hra:Ro w gl (ol+i*3) (cw x.at_):=he.take (k:=2)
    cases hh:dx r x.at_ with
    |true=>
      rw [hh] at hH hn
      rw [if_pos rfl] at hn
      repeat' (first|(apply bp (id:=5) [6] [];kernel_rfl;kernel_rfl;kernel_rfl)|(apply bZ;(iterate 3 exact rfl);apply aj (j:=i);exact rfl;exact rfl;exact hlt)|(apply bZ;(iterate 3 exact rfl);apply aA;exact rfl;exact hra;exact rfl)|(apply aa (f:=115);exact rfl;exact rfl;(intro w' _;exact hH w'))|refine sT ?_|refine sS ?_|refine sW ?_|refine sN ?_|refine sWN ?_|refine sM fun _=> ?_|(refine sC ?_ ?_<;>intro hb<;>try omega)|(refine sCW ?_ ?_<;>intro hb<;>try omega)|fail)
      all_goals first
        |(exfalso;omega)
        |(refine ⟨(i+1,A,c),hlt,by dsimp only;omega,by dsimp only;rw [hn];exact sB,by exact sB,by dsimp only;rw [hn];exact mS⟩;done)
        |trace_state
    |false=>
      rw [hh] at hH hn
      rw [if_neg (by decide)] at hn
      repeat' (first|(apply bp (id:=5) [6] [];kernel_rfl;kernel_rfl;kernel_rfl)|(apply bZ;(iterate 3 exact rfl);apply aj (j:=i);exact rfl;exact rfl;exact hlt)|(apply bZ;(iterate 3 exact rfl);apply aA;exact rfl;exact hra;exact rfl)|(apply aa (f:=115);exact rfl;exact rfl;(intro w' _;exact hH w'))|(apply ak (d:=24);exact rfl;apply aj (j:=i);exact rfl;exact rfl;exact hlt)|(apply ak;exact rfl;apply aA;exact rfl;exact he;exact rfl)|(apply bA (A:=A) (m:=1);(iterate 3 exact rfl);exact pK;(intro w hm;exact hm.cells_own pK);exact rfl;(intro u hu;simp [aB] at hu;rcases hu with rfl|rfl|rfl<;>rfl);omega;(simp only [maxLen];omega);(intro A' cap' hA'))|refine sT ?_|refine sS ?_|refine sW ?_|refine sN ?_|refine sWN ?_|refine sM fun _=> ?_|(refine sC ?_ ?_<;>intro hb<;>try omega)|(refine sCW ?_ ?_<;>intro hb<;>try omega)|fail)
      all_goals first
        |(exfalso;omega)
        | (refine ⟨(i + 1, A', cap'), hlt, by dsimp only; omega, ?_, ?_, ?_⟩
           · dsimp only;rw [hn,List.length_append];exact sB
           · exact sB
           · dsimp only;rw [hn,List.length_append,List.flatMap_append,List.flatMap_cons,List.flatMap_nil,List.append_nil];exact mS)
        |trace_state
  · have e:i=L.length:=by omega
    subst e
    rw [N0]
    repeat' (first|refine sT ?_|refine sS ?_|refine sM fun _=> ?_|(refine sC ?_ ?_<;>intro hb<;>try omega)|fail)
    all_goals first
      |(exfalso;omega)
      |(refine cG eIO rfl rfl mS ⟨A,c,rfl,rfl⟩;done)
      |trace_state
theorem zk (a:Rf) (w:World):ay Tryz.prog 113 [.agg (cw a).toArray] w (.agg (bH (oU a.col a.row)).toArray):=by
 refine aq Tryz.func113 rfl Tryz.ntmps113 rfl ?_
 repeat' (first|refine sT ?_|refine sS ?_|refine sQ ?_|refine sD ?_|refine sM fun _=> ?_|(refine sC ?_ ?_<;>intro hb<;>try omega)|(refine sCQ ?_ ?_<;>intro hb<;>try omega)|fail)
 all_goals first|(exfalso;omega)|((refine rT1 ?_);rfl)|((refine eRC ?_);rfl)|trace_state
def CE:Bk:=⟨3,H7,bkR,[],[],[],0⟩
theorem xZ (w:World):aP Tryz.prog 57 [] w fun v H=> ∃ a:Bo,v= .agg (aU CE a.v).toArray∧H=aM CE a:=by
 refine aq Tryz.func57 rfl Tryz.ntmps57 rfl ?_
 refine aD 56 8 ?_
 refine aD 58 9 ?_
 refine aD 62 11 ?_
 repeat' (first|(apply aC (f:=116);exact rfl;exact rfl;(intro w' hm;exact FV w');rintro _ _ ⟨ge,gr,gn,rfl,rfl⟩)|refine sT ?_|refine sS ?_|refine sM fun _=> ?_|(refine sC ?_ ?_<;>intro hb<;>try omega)|fail)
 exact w6 (.inl rfl) rfl rfl pK rfl (H' :=aM CE ⟨some ge,some gr,none,none,none,6,2,0,0,0⟩) (by unfold aM;exact mS) ⟨⟨some ge,some gr,none,none,none,6,2,0,0,0⟩,rfl,rfl⟩
def IV (c r:Int):Rct:=⟨c,r,c,r⟩
theorem FF (c r:Int) (w:World):ay Tryz.prog 58 [.int .i64 c,.int .i64 r] w (.agg (bH (IV c r)).toArray):=by
 refine aq Tryz.func58 rfl Tryz.ntmps58 rfl ?_
 repeat' (first|refine sT ?_|refine sM fun _=> ?_|(refine sC ?_ ?_<;>intro hb<;>try omega)|fail)
 (refine eRC ?_)
 rfl
def sq (b:Bk):Bool:=
 decide (b.ents.length≤40) && (decide (b.rules.length≤10)||(decide ((iF b.users b.rules).2≠0) && decide (b.rules.length<70))) && (decide (b.grants.length≤10)||(decide (64<b.grants.length) && decide (b.grants.length<70))) && decide (b.log.length≤60) && decide (b.rels.length≤60)
theorem EH {b:Bk} (h:sq b=true):b.ents.length≤40∧b.rules.length<70∧b.grants.length<70∧b.log.length≤60∧b.rels.length≤60:=by
 simp only [sq,Nm,OX,decide_eq_true_eq] at h
 omega
set_option maxHeartbeats 8000000 in
theorem CZ (b:Bk) (x:Bv) (w:World) (h:BRd w b x):ay Tryz.prog 9 [.agg (aU b x).toArray] w (.bool (sq b)):=by
 refine aq Tryz.func9 rfl Tryz.ntmps9 rfl ?_
 have h1:=fun (w' :World) (H:List Blk) (hm:Mem w w' H)=>ij b.users b.rules _ w' (h.r.of_w0 hm)
 unfold sq
 generalize iF b.users b.rules=ae at h1 ⊢
 obtain ⟨us,E,RU,G,L,M,st⟩:=b
 obtain ⟨ae1,ar1,ag1,al1,as1,ce1,cr1,cg1,cl1,cs1⟩:=x
 dsimp only at*
 clear h
 simp only [aU]
 generalize E.length=nE
 generalize RU.length=nR at h1 ⊢
 generalize G.length=nG
 generalize L.length=nL
 generalize M.length=nM
 repeat' (first|(apply aa (f:=34);exact rfl;exact rfl;(intro w' hm;exact h1 w' _ hm))|refine sT ?_|refine sS ?_|refine sM fun _=> ?_|(refine sC ?_ ?_<;>intro hb<;>try omega)|fail)
 all_goals first
  |(exfalso;omega)
  |((refine rT1 ?_);refine congrArg Value.bool (NL.2 ?_);simp only [Nm,OX,decide_eq_true_eq,Oo,true_iff,false_iff];omega)
  |trace_state
def MG:Ox:=⟨3,1,IV 3 3,⟨#[55]⟩,0#64,0#64,0#64,0,0#64,0⟩
section
variable (ov:Rct→List Rl→(BitVec 64 × BitVec 64 × BitVec 64) × Int)
def MY (b:Bk) (o:Ox):Bool:=
 if o.kind=3∨o.kind=4 then !fE (ov o.rect b.rules).1.2.1 o.user
 else if o.kind=6 then !fE (ov o.rect b.rules).1.1 o.user
 else if o.kind=7∨o.kind=8 then !fE (ov o.rect b.rules).1.2.2 o.user
 else if o.kind=9 then (match b.grants[o.idx.toNat]? with|some g=>decide (g.by_≠o.user) && !fE (ov g.rect b.rules).1.2.2 o.user|none=>false)
 else false
def cdV (b:Bk) (o:Ox):Int × Int:=
 if tst b o 0 then (1,0) else if tst b o 1 then (2,0) else if tst b o 2 then (4,0) else if tst b o 3 then (2,0) else if tst b o 4 then (8,0)
 else if MY ov b o then (5,0) else if tst b o 6 then (6,(ofP o.input).2.1) else if tst b o 7 then (7,0) else (0,0)
def evV (step:Int) (x:Ox) (dn:Bool) (L:List Rl) (N:List Gn):Ev × Int:=
 if jx x.kind=false then (iG,2)
 else if step<0∨opE x≠0∨x.user<0∨64≤x.user then (iG,2)
 else if (iF 64 L).2≠0 then (iG,(iF 64 L).2)
 else if (kB 64 N).2≠0 then (iG,(kB 64 N).2)
 else if x.kind=9∧(x.idx<0∨(N.length:Int)≤x.idx) then (iG,6)
 else if aI (evT x N)=false then (iG,3)
 else (⟨step,x.user,x.kind,evT x N,dn,(ov (evT x N) L).1.2.2|||(ofS x.user).1⟩,0)
def MH (b:Bk) (o:Ox) (c:Int):Bk:=
 ⟨b.users,b.ents,b.rules,b.grants,if (c=0∨c=5)∧jx o.kind=true then b.log++ [(evV ov b.step o (decide (c=0)) b.rules b.grants).1] else b.log,b.rels,b.step+1⟩
def apW (b:Bk) (o:Ox) (c:Int × Int):Bk × Int × Int × Int:=
 if c.1≠0 then (MH ov b o c.1,c.1,c.2,0) else (mO (MH ov b o c.1) o,0,0,0)
def apV (b:Bk) (o:Ox):Bk × Int × Int × Int:=
 if bkE b≠0 then (ll,0,0,bkE b)
 else if b.step=1099511627776 then (ll,0,0,5)
 else apW ov b o (cdV ov b o)
end
theorem L6 (b:Bk) (o:Ox):apE b o=apV ovC b o:=by rw [← LD];rfl
theorem MS {b:Bk} {o:Ox} {b' :Bk} {x:Int × Int × Int} (h:Fu (apV ovC b o).1 b' =true) (h2:(apV ovC b o).2=x):apE b o=(b',x):=by
 rw [L6]
 exact Prod.ext (Ad.1 h) h2
def I0:Bk:=⟨3,[⟨⟨1,1⟩,⟨#[53]⟩⟩,⟨⟨2,1⟩,⟨#[49,48]⟩⟩,⟨⟨1,2⟩,inB⟩,⟨⟨2,2⟩,⟨#[50,48]⟩⟩,⟨⟨1,3⟩,inC⟩,⟨⟨3,3⟩,⟨#[55]⟩⟩,⟨⟨1,4⟩,inD⟩],bkR,[],[⟨0,1,3,IV 3 3,true,3#64⟩],[],1⟩
set_option maxRecDepth 100000 in
theorem CW:apE CE MG=(I0,0,0,0):=MS (by decide+kernel) (by decide+kernel)
set_option maxRecDepth 100000 in
theorem CU:Kc I0 ⟨3,3⟩=(⟨#[55]⟩,0):=by decide+kernel
set_option maxHeartbeats 8000000 in
theorem CV (w:World) (hW:Words w):ay Tryz.prog 14 [] w (.bool true):=by
 refine aq Tryz.func14 rfl Tryz.ntmps14 rfl ?_
 have hC:=fun w=>FF 3 3 w
 have hs:Small CE:=⟨by decide,by decide,by decide,by decide,by decide⟩
 have hs2:I0.ents.length≤1000000:=by decide
 have hA:=fun (a:Bo) (w' :World) (H:List Blk) (hm:Mem w w' H) (h:BRd w' CE a.v)=>CW ▸ AY CE a.v MG w' h (hW.next hm) hs
 have hI:=fun (a:Bo) (w' :World) (H:List Blk) (hm:Mem w w' H) (h:BRd w' I0 a.v)=>CU ▸ CS I0 a.v ⟨3,3⟩ w' h (hW.next hm) hs2
 repeat' (first|(apply aC (f:=57);exact rfl;exact rfl;(intro w' hm;exact xZ w');rintro _ _ ⟨a,rfl,rfl⟩)|(apply aa;exact rfl;exact rfl;(intro w hm;exact hC w))|(apply aC (f:=11);exact rfl;exact rfl;(intro w' hm;exact hA a w' _ hm (BRd.of_rows hm pK pK pK pK pK));rintro _ _ ⟨a2,rfl,rfl⟩)|(apply aa (f:=18);exact rfl;exact rfl;(intro w' hm;exact hI a2 w' _ hm (BRd.of_rows hm pK pK pK pK pK)))|(apply ak (d:=32);exact rfl;apply pR (b:=(⟨#[55]⟩:ByteArray));exact rfl;exact rfl)|refine sT ?_|refine sS ?_|refine sM fun _=> ?_|(refine sC ?_ ?_<;>intro hb<;>try omega)|fail)
 all_goals first|(exfalso;omega)|((refine rT1 ?_);rfl)|trace_state
set_option maxHeartbeats 8000000 in
theorem xc (L:List Et) (x:Et) (lv:Value) (w:World) (hl:Reads w lv L.length (L.flatMap aB)) (hlen:L.length≤1000000):
    aP Tryz.prog 51 [lv,.agg (aB x).toArray] w fun v H=> ∃ A cap,v=sl A (rL L x).length cap∧H= [.own A 52 3 (rL L x).length cap ((rL L x).flatMap aB)]:=by
  have hO:=fun (w' :World) (H:List Blk) (hm:Mem w w' H)=>lf L (oU x.at_.col x.at_.row) lv w' (hl.of_w0 hm) hlen
  have h1:=fun w=>zk x.at_ w
  have hol:=zA L (oU x.at_.col x.at_.row)
  have hLs:=fun (a b:Rf) w=>sK a b w
  obtain ⟨Al,cl,rfl, -⟩:=hl
  refine aq Tryz.func51 rfl Tryz.ntmps51 rfl ?_
  unfold rL
  generalize kr L (oU x.at_.col x.at_.row)=M at hO hol ⊢
  by_cases hin:x.input=au
  · rw [if_pos hin]
    repeat' (first|(apply aa;exact rfl;exact rfl;(intro w hm;exact h1 w))|(apply aC (f:=52);exact rfl;exact rfl;(intro w' hm;exact hO w' _ hm);rintro _ _ ⟨A1,c1,rfl,rfl⟩)|(apply ak;exact rfl;apply pR (b:=au);exact rfl;exact rfl)|refine sT ?_|refine sS ?_|refine sM fun _=> ?_|(refine sC ?_ ?_<;>intro hb<;>try omega)|fail)
    all_goals first
      |(exfalso;omega)
      |(exact absurd hin hb)
      |(refine cG eIO rfl rfl mS ⟨A1,c1,rfl,rfl⟩;done)
      |trace_state
  rw [if_neg hin]
  refine aD 52 3 ?_
  repeat' (first|(apply aa;exact rfl;exact rfl;(intro w hm;exact h1 w))|(apply aC (f:=52);exact rfl;exact rfl;(intro w' hm;exact hO w' _ hm);rintro _ _ ⟨A1,c1,rfl,rfl⟩)|(apply ak;exact rfl;apply pR (b:=au);exact rfl;exact rfl)|refine sT ?_|refine sS ?_|refine sM fun _=> ?_|(refine sC ?_ ?_<;>intro hb<;>try omega)|fail)
  all_goals first|(exfalso;omega)|(exact absurd (by assumption) hin)|skip
  rename_i g3
  refine ax [3,5] rfl (fun y:Nat × Option Nat × Nat=> [(6,sl y.2.1 y.1 y.2.2),(7,.int .i64 (y.1:Int))]) (fun y=> [.own y.2.1 52 3 y.1 y.2.2 ((M.take y.1).flatMap aB),.box g3 52 (aB x),.own A1 52 3 M.length c1 (M.flatMap aB)]) (fun y=>y.1≤M.length∧ ∀ j (h:j<M.length),j<y.1→eQ M[j].at_ x.at_=true) (fun y=>M.length - y.1) (0,none,0) ⟨Ns _,fun j _ h=>absurd h (P7 _)⟩ sB mS ?_
  rintro ⟨i,A,c⟩ ⟨hi,hall⟩
  dsimp only at hi hall ⊢
  refine Gg (A:=A1) pK fun q1 hle q3=> ?_
  have hdr:(((M.flatMap aB).drop (i*3)).take ((M.length - i)*3))=(M.drop i).flatMap aB:=by
    rw [je bg]
    exact NQ (by rw [aK bg,Nq];exact Ni _)
  have hrd2:=fun (w' :World) (H:List Blk) (hi2:In (.own A1 52 3 M.length c1 (M.flatMap aB)) H) (hm:Mem w w' H)=>hdr ▸ (Reads.of_own hm hi2).cut (lo:=i) (hi:=M.length) hi (Ni _)
  by_cases hlt:i<M.length
  · refine eG (A:=A1) pK (by omega) fun gm hA=> ?_
    subst hA
    have hread:=G6 hlt
    have hread2:((M.flatMap aB).drop (0+i*3+0)).take 2=cw M[i].at_:=by
      rw [O2]
      calc ((M.flatMap aB).drop (0+i*3)).take 2=(((M.flatMap aB).drop (0+i*3)).take 3).take 2:=by rw [PX];rfl
        _=_:=by rw [hread];rfl
    have hLi:=hLs M[i].at_ x.at_
    have htk:M.take (i+1)=M.take i++ [M[i]]:=Nk hlt
    obtain ⟨cc,hcc⟩: ∃ cc,eQ M[i].at_ x.at_=cc:=⟨_,rfl⟩
    rw [hcc] at hLi
    cases cc with
    |true=>
      repeat' (first|(apply bp (id:=6) [12] [];kernel_rfl;kernel_rfl;kernel_rfl)|(apply bZ (d:=25);(iterate 3 exact rfl);apply aj (j:=i);exact rfl;exact rfl;exact hlt)|(apply bZ (d:=27);(iterate 3 exact rfl);apply aQ;exact rfl;exact pK;exact hread2;exact rfl)|(apply aa (f:=114);exact rfl;exact rfl;(intro w' _;exact hLi w'))|(apply ak (d:=37);exact rfl;apply aj (j:=i);exact rfl;exact rfl;exact hlt)|(apply ak (d:=38);exact rfl;apply aQ;exact rfl;exact pK;exact hread;exact rfl)|(apply bA (d:=40) (A:=A) (m:=1);(iterate 3 exact rfl);exact pK;(intro w hm;exact hm.cells_own pK);exact rfl;(intro u hu;simp [aB] at hu;rcases hu with rfl|rfl|rfl<;>rfl);omega;(simp only [maxLen];omega);(intro A2 c2 hA2))|refine sT ?_|refine sS ?_|refine sW ?_|refine sN ?_|refine sWN ?_|refine sM fun _=> ?_|(refine sC ?_ ?_<;>intro hb<;>try omega)|(refine sCW ?_ ?_<;>intro hb<;>try omega)|fail)
      all_goals first
        |(exfalso;omega)
        | (refine ⟨(i + 1, A2, c2), ⟨hlt, fun j hj hji => ?_⟩, by dsimp only; omega, by exact sB, by exact sB, ?_⟩
           · rcases (by omega:j<i∨j=i) with h|rfl
             · exact hall j hj h
             · exact hcc
           · dsimp only
             rw [htk,Nt,Np,NE,Nl]
             exact mS)
        |trace_state
    |false=>
      have hpe:=mE hi hall (.inr ⟨hlt,hcc⟩)
      have hfl:(M.take i++x::M.drop i).length=M.length+1:=by simp [Nu,Nq];omega
      rw [hpe,hfl]
      repeat' (first|(apply bp (id:=6) [12] [];kernel_rfl;kernel_rfl;kernel_rfl)|(apply bZ (d:=25);(iterate 3 exact rfl);apply aj (j:=i);exact rfl;exact rfl;exact hlt)|(apply bZ (d:=27);(iterate 3 exact rfl);apply aQ;exact rfl;exact pK;exact hread2;exact rfl)|(apply aa (f:=114);exact rfl;exact rfl;(intro w' _;exact hLi w'))|(apply ak (d:=42);exact rfl;apply Gx;exact rfl)|refine sT ?_|refine sS ?_|refine sW ?_|refine sM fun _=> ?_|(refine sC ?_ ?_<;>intro hb<;>try omega)|(refine sCW ?_ ?_<;>intro hb<;>try omega)|fail)
      all_goals try (exfalso;omega)
      refine fP (id:=10) [2,3,7] [] [.box g3 52 (aB x),.own (some gm) 52 3 M.length c1 (M.flatMap aB)] (by kernel_rfl) (by kernel_rfl) (by kernel_rfl) mS ?_
      repeat' (first|(apply bZ (d:=49);(iterate 3 exact rfl);apply iQ (lo:=i) (hi:=M.length);exact rfl;exact ⟨_,rfl⟩;exact rfl;exact hi;exact hle)|(apply bA (d:=46) (A:=A) (m:=1);(iterate 3 exact rfl);exact pK;(intro w hm;exact hm.cells_own pK);exact rfl;(intro u hu;simp [aB] at hu;rcases hu with rfl|rfl|rfl<;>rfl);omega;(simp only [maxLen];omega);(intro A2 c2 hA2))|(apply bT (d:=50) (n' :=i+1) (m:=M.length - i);(iterate 3 exact rfl);exact pK;(intro w hm;exact hrd2 w _ pK hm);(rw [aK bg,Nq]);exact jv _;omega;(simp only [maxLen];omega);intro A17 c17 h17)|refine sT ?_|refine sS ?_|refine sW ?_|refine sM fun _=> ?_|(refine sC ?_ ?_<;>intro hb<;>try omega)|(refine sCW ?_ ?_<;>intro hb<;>try omega)|fail)
      all_goals first
        |(exfalso;omega)
        | (have e1 : i + 1 + (M.length - i) = M.length + 1 := by omega
           have e2:(M.take i++x::M.drop i).flatMap aB=(M.take i).flatMap aB++aB x++(M.drop i).flatMap aB:=by
             rw [Nt,Np,NG]
           rw [e2,← e1]
           exact cG eIO rfl rfl (H' := [.own A17 52 3 (i+1+(M.length - i)) c17 ((M.take i).flatMap aB++aB x++(M.drop i).flatMap aB)]) mS ⟨A17,c17,rfl,rfl⟩)
        |trace_state
  · have hpe:=mE hi hall (.inl (by omega))
    have hfl:(M.take i++x::M.drop i).length=M.length+1:=by simp [Nu,Nq];omega
    rw [hpe,hfl]
    repeat' (first|(apply bp (id:=6) [12] [];kernel_rfl;kernel_rfl;kernel_rfl)|(apply ak (d:=42);exact rfl;apply Gx;exact rfl)|refine sT ?_|refine sS ?_|refine sW ?_|refine sM fun _=> ?_|(refine sC ?_ ?_<;>intro hb<;>try omega)|(refine sCW ?_ ?_<;>intro hb<;>try omega)|fail)
    all_goals try (exfalso;omega)
    refine fP (id:=10) [2,3,7] [] [.box g3 52 (aB x),.own A1 52 3 M.length c1 (M.flatMap aB)] (by kernel_rfl) (by kernel_rfl) (by kernel_rfl) mS ?_
    repeat' (first|(apply bZ (d:=49);(iterate 3 exact rfl);apply iQ (lo:=i) (hi:=M.length);exact rfl;exact ⟨_,rfl⟩;exact rfl;exact hi;exact hle)|(apply bA (d:=46) (A:=A) (m:=1);(iterate 3 exact rfl);exact pK;(intro w hm;exact hm.cells_own pK);exact rfl;(intro u hu;simp [aB] at hu;rcases hu with rfl|rfl|rfl<;>rfl);omega;(simp only [maxLen];omega);(intro A2 c2 hA2))|(apply bT (d:=50) (n' :=i+1) (m:=M.length - i);(iterate 3 exact rfl);exact pK;(intro w hm;exact hrd2 w _ pK hm);(rw [aK bg,Nq]);exact jv _;omega;(simp only [maxLen];omega);intro A17 c17 h17)|refine sT ?_|refine sS ?_|refine sW ?_|refine sM fun _=> ?_|(refine sC ?_ ?_<;>intro hb<;>try omega)|(refine sCW ?_ ?_<;>intro hb<;>try omega)|fail)
    all_goals first
      |(exfalso;omega)
      | (have e1 : i + 1 + (M.length - i) = M.length + 1 := by omega
         have e2:(M.take i++x::M.drop i).flatMap aB=(M.take i).flatMap aB++aB x++(M.drop i).flatMap aB:=by
           rw [Nt,Np,NG]
         rw [e2,← e1]
         exact cG eIO rfl rfl (H' := [.own A17 52 3 (i+1+(M.length - i)) c17 ((M.take i).flatMap aB++aB x++(M.drop i).flatMap aB)]) mS ⟨A17,c17,rfl,rfl⟩)
      |trace_state
end Go.SL
