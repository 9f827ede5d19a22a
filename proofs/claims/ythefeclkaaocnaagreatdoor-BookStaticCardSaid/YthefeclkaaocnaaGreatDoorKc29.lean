/-
  Lemmas and walks, put together: Ih Sl37 Ij Ik Il.
-/
import Derived.Test.YthefeclkaaocnaaGreatDoorKc28
set_option linter.unusedSimpArgs false
set_option linter.unusedVariables false
set_option maxRecDepth 20000
namespace Go.SL
open Go Go.Proofs
attribute [local irreducible] W WL WQ WG WA WX WLI WR WT WC WE VOp RW thn blk bL scp bi bz bY aQ FnIn FnP ceP
def zN (r:Rct):Int:=if aG r=false then 0 else (r.c2 - r.c1+1)*(r.r2 - r.r1+1)
theorem yL (r:Rct) (w:World):ax Tryz.prog 121 [.agg (bK r).toArray] w (.tuple #[.int .i64 (zN r),.int .i64 (dC r)]):=by
 refine aq Tryz.func121 rfl Tryz.ntmps121 rfl ?_
 have h1:=fun w=>fY r w
 unfold zN
 by_cases h:aG r=false
 ·
  rw [if_pos h]
  have hne:dC r≠0:=fun e=>eD (by omega) h
  generalize dC r=e at h1 hne ⊢
  repeat' (first|(apply aa;exact rfl;exact rfl;(intro w hm;exact h1 w))|refine sT ?_|refine sM fun _=> ?_|(refine sC ?_ ?_<;>intro hb<;>try omega)|fail)
  all_goals first|(exfalso;omega)|((refine rT2 ?_);rfl)|trace_state
 ·
  rw [if_neg h]
  have hz:dC r=0:=by
   rcases Decidable.em (dC r=0) with e|e
   ·
    exact e
   ·
    exact absurd (gL e) h
  rw [hz] at h1 ⊢
  have hb:1≤r.c1∧r.c1≤r.c2∧r.c2≤1024∧1≤r.r1∧r.r1≤r.r2∧r.r2≤1024:=by
   have:aG r=true:=by simpa using h
   simp only [aG,valid,M0,decide_eq_true_eq] at this
   omega
  have hm: -9223372036854775808≤(r.c2 - r.c1+1)*(r.r2 - r.r1+1)∧(r.c2 - r.c1+1)*(r.r2 - r.r1+1)≤9223372036854775807:=by
   have h1:(0:Int)≤(r.c2 - r.c1+1)*(r.r2 - r.r1+1):=Int.mul_nonneg (by omega) (by omega)
   have h2:(r.c2 - r.c1+1)*(r.r2 - r.r1+1)≤1024*1024:=Int.mul_le_mul (by omega) (by omega) (by omega) (by omega)
   omega
  repeat' (first|(apply aa;exact rfl;exact rfl;(intro w hm;exact h1 w))|(apply aj;exact rfl;apply ra;exact rfl;exact rfl;exact hm)|refine sT ?_|refine sJ ?_|refine sM fun _=> ?_|(refine sC ?_ ?_<;>intro hb<;>try omega)|fail)
  all_goals first|(exfalso;omega)|((refine rT2 ?_);rfl)|trace_state
def Ea (b:Bk) (o:Ox):Bool:=match b.grants[o.idx.toNat]? with|some g=>g.rev|none=>true
theorem CU {b:Bk} {o:Ox} {j:Nat} (hj:o.idx=(j:Int)) (hl:j<b.grants.length):Ea b o=b.grants[j].rev:=by
 unfold Ea
 rw [hj,Om,MV hl]
def tst (b:Bk) (o:Ox):Nat→Bool
 |0=>decide (opE o≠0)
 |1=>decide (o.user<0)||decide (b.users≤o.user)
 |2=>(jG o).2 && decide (dC (jG o).1≠0)
 |3=>decide ((o.rd|||o.wr|||o.ow|||o.to) &&& ~~~(cN b.users).1≠0#64)
 |4=>decide (o.kind=9) && (decide (o.idx<0)||decide ((b.grants.length:Int)≤o.idx)||Ea b o)
 |5=>D0 b o
 |6=>decide (o.kind=3) && decide ((ofP o.input).2.2≠0)
 |7=>(decide (o.kind=5) && decide (1024<zN (jG o).1))||(decide (o.kind=7) && decide (64≤b.rules.length))||(decide (o.kind=8) && decide (64≤b.grants.length))
 |_=>false
def cdE (b:Bk) (o:Ox):Int × Int:=
 if tst b o 0 then (1,0) else if tst b o 1 then (2,0) else if tst b o 2 then (4,0) else if tst b o 3 then (2,0) else if tst b o 4 then (8,0)
 else if tst b o 5 then (5,0) else if tst b o 6 then (6,(ofP o.input).2.1) else if tst b o 7 then (7,0) else (0,0)
section
variable {b:Bk} {x:Bv} {o:Ox} {gb gp go:Nat} {w:World} (ho:Ro w go 0 (bE o)) (hp:Ro w gp 0 [.pointer (some ⟨gb,0,none⟩)]) (hbk:Ro w gb 0 (bG b x))
include ho
theorem H5:ax Tryz.prog 111 [.pointer (some ⟨go,0,none⟩)] w (.bool (tst b o 0)):=by
 refine aq Tryz.func111 rfl Tryz.ntmps111 rfl ?_
 have h1:=fun w=>rT o w
 unfold tst
 generalize opE o=e at h1 ⊢
 repeat' (first|(apply aa;exact rfl;exact rfl;(intro w hm;exact h1 w))|refine sT ?_|refine sS ?_|refine sO ?_|refine sM fun _=> ?_|(refine sC ?_ ?_<;>intro hb<;>try omega)|fail)
 all_goals first|(exfalso;omega)|((refine rT1 ?_);simp;done)|((refine rT1 ?_);rfl)|trace_state
include hp hbk
theorem H4:ax Tryz.prog 113 [.pointer (some ⟨go,0,none⟩),.pointer (some ⟨gp,0,none⟩)] w (.bool (tst b o 1)):=by
 refine aq Tryz.func113 rfl Tryz.ntmps113 rfl ?_
 unfold tst
 simp only [bE] at ho
 simp only [bG] at hbk
 repeat' (first|refine sT ?_|refine sS ?_|refine sQ ?_|refine sO ?_|refine sOQ ?_|refine sD ?_|refine sM fun _=> ?_|(refine sC ?_ ?_<;>intro hb<;>try omega)|(refine sCQ ?_ ?_<;>intro hb<;>try omega)|fail)
 all_goals first|(exfalso;omega)|((refine rT1 ?_);simp_all;done)|((refine rT1 ?_);simp_all;omega)|trace_state
omit hbk hp in
theorem HZ {g8 g9:Nat} (h8:Ro w g8 0 (bK (jG o).1)) (h9:Ro w g9 0 [.bool (jG o).2]):ax Tryz.prog 114 [.pointer (some ⟨g9,0,none⟩),.pointer (some ⟨g8,0,none⟩)] w (.bool (tst b o 2)):=by
 refine aq Tryz.func114 rfl Tryz.ntmps114 rfl ?_
 unfold tst
 have _hz:=ho
 clear _hz ho
 generalize (jG o).1=t at h8 ⊢
 generalize (jG o).2=c at h9 ⊢
 have h1:=fun w=>fY t w
 generalize dC t=e at h1 ⊢
 cases c
 ·
  repeat' (first|(apply aa;exact rfl;exact rfl;(intro w hm;exact h1 w))|refine sT ?_|refine sS ?_|refine sO ?_|refine sM fun _=> ?_|(refine sC ?_ ?_<;>intro hb<;>try omega)|fail)
  all_goals first|(exfalso;omega)|((refine rT1 ?_);rfl)|trace_state
 ·
  repeat' (first|(apply aa;exact rfl;exact rfl;(intro w hm;exact h1 w))|refine sT ?_|refine sS ?_|refine sO ?_|refine sM fun _=> ?_|(refine sC ?_ ?_<;>intro hb<;>try omega)|fail)
  all_goals first|(exfalso;omega)|((refine rT1 ?_);simp;done)|((refine rT1 ?_);rfl)|trace_state
omit hbk hp in
theorem HY {g6:Nat} (h6:Ro w g6 0 [vS (cN b.users).1]):ax Tryz.prog 115 [.pointer (some ⟨go,0,none⟩),.pointer (some ⟨g6,0,none⟩)] w (.bool (tst b o 3)):=by
 refine aq Tryz.func115 rfl Tryz.ntmps115 rfl ?_
 unfold tst
 generalize (cN b.users).1=a at h6 ⊢
 have ho7:=(Ox.ro ho).2
 simp only [bE] at ho
 repeat' (first|(apply aj;exact rfl;apply oX;exact rfl;exact rfl)|(apply aj;exact rfl;apply dG (b:=a);exact rfl;exact rfl)|(apply aj;exact rfl;apply gU (b:=0#64);exact rfl;exact rfl)|refine sT ?_|refine sS ?_|refine sO ?_|refine sM fun _=> ?_|(refine sC ?_ ?_<;>intro hb<;>try omega)|fail)
 all_goals first|(exfalso;omega)|((refine rT1 ?_);simp;done)|((refine rT1 ?_);rfl)|trace_state
end
section
variable {b:Bk} {x:Bv} {o:Ox} {gb gp go:Nat} {w:World} (ho:Ro w go 0 (bE o)) (hp:Ro w gp 0 [.pointer (some ⟨gb,0,none⟩)]) (hbk:Ro w gb 0 (bG b x)) (hr:BRd w b x)
include ho hp hbk hr
set_option maxHeartbeats 4000000 in
theorem HW:ax Tryz.prog 116 [.pointer (some ⟨go,0,none⟩),.pointer (some ⟨gp,0,none⟩)] w (.bool (tst b o 4)):=by
 refine aq Tryz.func116 rfl Tryz.ntmps116 rfl ?_
 have ht:tst b o 4=(decide (o.kind=9) && (decide (o.idx<0)||decide ((b.grants.length:Int)≤o.idx)||Ea b o)):=rfl
 rw [ht]
 clear ht
 by_cases h1:o.kind=9∧0≤o.idx∧o.idx<(b.grants.length:Int)
 ·
  obtain ⟨h9,hi1,hi2⟩:=h1
  obtain ⟨j,hj⟩: ∃ j:Nat,o.idx=(j:Int):=⟨o.idx.toNat,by omega⟩
  have hjl:j<b.grants.length:=by omega
  rw [CU hj hjl,decide_eq_true h9,decide_eq_false (show ¬ o.idx<0 by omega),decide_eq_false (show ¬ (b.grants.length:Int)≤o.idx by omega),Ns,Bool.false_or,Bool.false_or]
  have hg:=hr.g
  obtain ⟨ae1,ar1,ag1,al1,as1,ce1,cr1,cg1,cl1,cs1⟩:=x
  dsimp only at*
  obtain ⟨Ag,cg2,eg,hg1,hg2,hg3⟩:=hg
  cases eg
  obtain ⟨gg,og,rfl,hrg⟩:=hg3 (by omega)
  obtain ⟨_,_,_,_,he⟩:=Gn.ro (hrg.elem cW j hjl)
  generalize b.grants[j].rev=rv at he ⊢
  obtain ⟨us,E,RU,G,L,M,st⟩:=b
  dsimp only at*
  simp only [bG] at hbk
  simp only [bE] at ho
  clear hr
  repeat' (first|(apply aP;exact rfl;apply aH (o:=0) (off:=0);exact ho;exact rfl;exact rfl)|(apply aP;exact rfl;apply ak (j:=j);exact rfl;(rw [← hj];exact rfl);exact hjl)|(apply aP;exact rfl;apply kz;exact rfl;exact he)|refine sT ?_|refine sS ?_|refine sQ ?_|refine sO ?_|refine sOQ ?_|refine sD ?_|refine sM fun _=> ?_|(refine sC ?_ ?_<;>intro hb<;>try omega)|(refine sCQ ?_ ?_<;>intro hb<;>try omega)|fail)
  all_goals first|(exfalso;omega)|((refine rT1 ?_);rfl)|((refine rT1 ?_);simp_all;done)|trace_state
 ·
  have he:(decide (o.kind=9) && (decide (o.idx<0)||decide ((b.grants.length:Int)≤o.idx)||Ea b o))=decide (o.kind=9):=by
   by_cases h9:o.kind=9
   ·
    by_cases hi:o.idx<0
    ·
     simp [hi]
    ·
     have:(b.grants.length:Int)≤o.idx:=by
      have:=fun h=>h1 ⟨h9,h⟩
      omega
     simp [this]
   ·
    simp [h9]
  rw [he]
  clear he
  obtain ⟨us,E,RU,G,L,M,st⟩:=b
  dsimp only at*
  simp only [bG] at hbk
  simp only [bE] at ho
  clear hr
  repeat' (first|(apply aP;exact rfl;apply aH (o:=0) (off:=0);exact ho;exact rfl;exact rfl)|refine sT ?_|refine sS ?_|refine sQ ?_|refine sO ?_|refine sOQ ?_|refine sD ?_|refine sM fun _=> ?_|(refine sC ?_ ?_<;>intro hb<;>try omega)|(refine sCQ ?_ ?_<;>intro hb<;>try omega)|fail)
  all_goals first|(exfalso;omega)|((refine rT1 ?_);simp_all;done)|trace_state
omit hp hbk hr in
theorem HV (h: ∀ w' H,Mem w w' H→ax Tryz.prog 118 [.pointer (some ⟨gb,0,none⟩),.agg (bE o).toArray] w' (.bool (D0 b o))) (hp:Ro w gp 0 [.pointer (some ⟨gb,0,none⟩)]):ax Tryz.prog 117 [.pointer (some ⟨gp,0,none⟩),.pointer (some ⟨go,0,none⟩)] w (.bool (tst b o 5)):=by
 refine aq Tryz.func117 rfl Tryz.ntmps117 rfl ?_
 have ht:tst b o 5=D0 b o:=rfl
 rw [ht]
 generalize D0 b o=c at h ⊢
 repeat' (first|(apply aa (f:=118);exact rfl;exact rfl;(intro w' hm;exact h w' _ hm))|refine sT ?_|refine sS ?_|refine sO ?_|refine sM fun _=> ?_|(refine sC ?_ ?_<;>intro hb<;>try omega)|fail)
 all_goals first|(exfalso;omega)|((refine rT1 ?_);rfl)|trace_state
set_option maxHeartbeats 4000000 in
theorem HS {g8:Nat} (h8:Ro w g8 0 (bK (jG o).1)):ax Tryz.prog 120 [.pointer (some ⟨g8,0,none⟩),.pointer (some ⟨go,0,none⟩),.pointer (some ⟨gp,0,none⟩)] w (.bool (tst b o 7)):=by
 refine aq Tryz.func120 rfl Tryz.ntmps120 rfl ?_
 have ht:tst b o 7=((decide (o.kind=5) && decide (1024<zN (jG o).1))||(decide (o.kind=7) && decide (64≤b.rules.length))||(decide (o.kind=8) && decide (64≤b.grants.length))):=rfl
 rw [ht]
 clear ht
 have hA:=fun w=>yL (jG o).1 w
 generalize zN (jG o).1=ar at hA ⊢
 generalize (jG o).1=t at h8 hA
 obtain ⟨us,E,RU,G,L,M,st⟩:=b
 dsimp only at*
 simp only [bG] at hbk
 simp only [bE] at ho
 clear hr
 repeat' (first|(apply aj;exact rfl;apply aH (o:=0) (off:=0);exact ho;exact rfl;exact rfl)|(apply aa;exact rfl;exact rfl;(intro w hm;exact hA w))|refine sT ?_|refine sS ?_|refine sQ ?_|refine sO ?_|refine sOQ ?_|refine sD ?_|refine sM fun _=> ?_|(refine sC ?_ ?_<;>intro hb<;>try omega)|(refine sCQ ?_ ?_<;>intro hb<;>try omega)|fail)
 all_goals first|(exfalso;omega)|((refine rT1 ?_);simp_all;done)|((refine rT1 ?_);simp_all;omega)|trace_state
end
section
variable {b:Bk} {o:Ox} {go gat:Nat} {w0:World} {H:List Blk}
set_option maxHeartbeats 4000000 in
theorem HT (hW:Words w0) (hgo:In (.box go 41 (bE o)) H):FnIn Tryz.prog 119 [.pointer (some ⟨go,0,none⟩),.pointer (some ⟨gat,0,none⟩)] w0 (.box gat 3 [.int .i64 0]::H) fun v H' =>v= .bool (tst b o 6)∧H' = .box gat 3 [.int .i64 (if tst b o 6 then (ofP o.input).2.1 else 0)]::H:=by
 refine dP Tryz.func119 rfl Tryz.ntmps119 rfl ?_
 have ht:tst b o 6=(decide (o.kind=3) && decide ((ofP o.input).2.2≠0)):=rfl
 rw [ht]
 clear ht
 have hO:=fun (w' :World) (H' :List Blk) (hm:Mem w0 w' H')=>Kw o.input w' (hW.next hm)
 generalize ofP o.input=r at hO ⊢
 obtain ⟨⟨fm,v,t⟩,at_,e⟩:=r
 simp only [ofV,zA] at hO
 dsimp only at*
 by_cases h3:o.kind=3
 ·
  rw [decide_eq_true h3,Ns]
  by_cases he:e≠0
  ·
   rw [decide_eq_true he,if_pos rfl]
   repeat' (first|(apply aj;exact rfl;apply dl;exact rfl;exact .tl hgo;exact rfl)|(apply aC (f:=106);exact rfl;exact rfl;(intro w' hm;exact hO w' _ hm);rintro _ _ ⟨A,cap,rfl,rfl⟩)|refine sT ?_|refine sS ?_|refine sM fun _=> ?_|(refine sC ?_ ?_<;>intro hb<;>try omega)|fail)
   all_goals first|(exfalso;omega)|(exact cP eIO rfl rfl (H' := .box gat 3 [.int .i64 at_]::H) mS ⟨congrArg Value.bool (by first|rfl|(simp [he];done)),rfl⟩)|trace_state
  ·
   rw [decide_eq_false he,if_neg (by decide)]
   repeat' (first|(apply aj;exact rfl;apply dl;exact rfl;exact .tl hgo;exact rfl)|(apply aC (f:=106);exact rfl;exact rfl;(intro w' hm;exact hO w' _ hm);rintro _ _ ⟨A,cap,rfl,rfl⟩)|refine sT ?_|refine sS ?_|refine sM fun _=> ?_|(refine sC ?_ ?_<;>intro hb<;>try omega)|fail)
   all_goals first|(exfalso;omega)|(exact cP eIO rfl rfl (H' := .box gat 3 [.int .i64 0]::H) mS ⟨congrArg Value.bool (by first|rfl|(simp [he];done)),rfl⟩)|trace_state
 ·
  rw [decide_eq_false h3,NM,if_neg (by decide)]
  repeat' (first|(apply aj;exact rfl;apply dl;exact rfl;exact .tl hgo;exact rfl)|refine sT ?_|refine sS ?_|refine sM fun _=> ?_|(refine sC ?_ ?_<;>intro hb<;>try omega)|fail)
  all_goals first|(exfalso;omega)|(exact cP eIO rfl rfl (H' := .box gat 3 [.int .i64 0]::H) mS ⟨rfl,rfl⟩)|trace_state
end
end Go.SL
namespace Go.SL
open Go Go.RowKit
section
variable {P:Program} {n:Fr} {w0:World} {Q:bM} {s:az} {H:List Blk} {rest:List Oper} {ty:TypeId} {p:String} {af:Array Edge}
theorem Ai {d t e n' m c' g2 o2 sz by_:Nat} {B:Option Addr} {x y:Operand} {xs news:List Value} {ops:Array Oper} [ht:Und P t (.slice e)] [he:Elem P e sz by_] (hn:Nat.blt d n.sz=true)
  (hx:ev s x=some (.slice B n' n')) (hy:ev s y=some (.slice (some ⟨g2,o2,none⟩) m c')) (hread: ∀ w,Mem w0 w H→Reads w (.slice B n' n') n' xs) (hxl:xs.length=n' *sz)
  (hnews: ∀ w,Mem w0 w H→Cells w g2 o2 news) (hl:news.length=m*sz) (h1: ∀ u∈news,u.oneCell' =true) (hm0:0<m) (hby:(n' +m)*by_≤140737488355328) (h63:n' +m≤maxLen)
  (k: ∀ g' cap',WL P n w0 ops rest Q ((d,sl (some g') (n' +m) cap')::s) (.own (some g') e sz (n' +m) cap' (xs++news)::H)):
  WL P n w0 ops (⟨some d,.call { callee:= .builtin .append,args:= #[x,y],argTypes:= #[t,t] },ty,p,af,none⟩::rest) Q s H:=by
 intro a w hs hm
 obtain ⟨i,z,i1,i2,i3,i4,i5,i6⟩:=he.out
 subst i2
 subst i3
 have hsrc:Src P i.size t (.slice (some ⟨g2,o2,none⟩) m c') m news w:=Src.ofSlice w ht.out ⟨g2,o2,none⟩ m c' news hl (fun j u hu=>by rw [cw];exact hnews w hm j u hu) h1
 obtain ⟨B',c2,hB,_,_,hrd⟩:=hread w hm
 cases hB
 have hold:(Builtin.firstCells i.size n' (.slice B n' n')).run P w.drew= .ok xs.toArray w.drew:=by
  rcases NP n' with rfl|hpos
  ·
   have e0:xs= []:=Nw (by rw [hxl,Nat.zero_mul])
   subst e0
   cases B with
   |none=>exact run_firstCells_none w.drew i.size 0 0 0
   |some b=>exact run_firstCells_some w.drew i.size 0 b 0 0 [] (by simp) (fun j u hu=>by simp at hu)
  ·
   obtain ⟨g,o,rfl,hro⟩:=hrd hpos
   refine run_firstCells_some w.drew i.size n' ⟨g,o,none⟩ n' n' _ hxl fun j u hu=> ?_
   rw [cw]
   exact hro.cells j u hu
 have hfits:Builtin.nextslicecap (n' +m) n' *i.bytes≤281474976710656:=growslice_fits (by omega) hby
 have hr:=run_append_grow_src (P:=P) w t t ty e i z ht.out i1 i4 B n' n' xs hold (.slice (some ⟨g2,o2,none⟩) m c') m news hsrc (by omega) (by simp only [maxLen] at h63;omega) hfits
 have hge:=grownCap_ge w (n' +m) n' e
 have hcm2:grownCap w (n' +m) n' e≤maxLen:=grownCap_le_maxLen w (n' +m) n' e (by omega)
 have hlen2:(xs++news).length=(n' +m)*i.size:=by rw [MT,hxl,hl,Pj]
 refine wpList_plain rfl fun K hK=> ?_
 unfold Oper.wp execOp
 simp only [resolve,invoke,builtin,Sem.run_bind,Sem.run_pure,Result.andThen_ok,OH,NA,Oz,hs.eval x _ hx,hs.eval y _ hy,hr,Oper.upon]
 refine hK _ _ (k w.heap.size _ _ _ (hs.put (NL ▸ hn) _) ?_)
 refine hm.new ⟨rfl,rfl,rfl,by simp,fun k hk _=>heap_alloc_old w.drew _ hk⟩ ⟨hlen2,hge,hcm2,(Builtin.zeroCells z.cells (grownCap w (n' +m) n' e - (n' +m))).toList,?_,?_⟩ fun k hk=> ?_
 ·
  rw [MT,hlen2,Array.length_toList,size_zeroCells,i5,← Pj]
  congr 1
  omega
 ·
  rw [show (xs++news++(Builtin.zeroCells z.cells (grownCap w (n' +m) n' e - (n' +m))).toList).toArray=(xs++news).toArray++Builtin.zeroCells z.cells (grownCap w (n' +m) n' e - (n' +m)) by apply Array.ext';simp]
  exact heap_alloc_new w.drew _
 ·
  cases hk
  exact MZ _
end
end Go.SL
namespace Go.SL
open Go Go.Proofs
attribute [local irreducible] W WL WQ WG WA WX WLI WR WT WC WE VOp RW thn blk bL scp bi bz bY aQ FnIn FnP ceP
theorem zI (o:Ox) (e:Et) (go:Nat) (w:World) (ho:Ro w go 0 (bE o)):ax Tryz.prog 58 [.agg (aJ e).toArray,.pointer (some ⟨go,0,none⟩)] w (.bool (eM o.rect e.at_)):=by
 refine aq Tryz.func58 rfl Tryz.ntmps58 rfl ?_
 have h1:=fun w=>LK o.rect e.at_ w
 generalize eM o.rect e.at_=c at h1 ⊢
 have ho2:=(Ox.ro ho).1
 repeat' (first|(apply aa;exact rfl;exact rfl;(intro w hm;exact h1 w))|refine sT ?_|refine sO ?_|refine sM fun _=> ?_|(refine sC ?_ ?_<;>intro hb<;>try omega)|fail)
 all_goals first|(exfalso;omega)|((refine rT1 ?_);rfl)|trace_state
theorem JB {L:List Et} {k:Nat} (h:k<L.length):((L.flatMap aJ).drop (0+k*3)).take 3=aJ L[k]:=by
 rw [Nm];exact eO bC L k h
section
variable (L:List Et) (o:Ox) (go:Nat) (cap:Nat) (R:List Blk) (w0:World)
def iU (o:Ox) (e:Et):Bool:= !eM o.rect e.at_
def G3 (o:Ox) (L:List Et):Int:=match L.findIdx? (fun e=>eM o.rect e.at_) with|some i=>(i:Int)|none=> -1
theorem u6 {o:Ox} {L:List Et} {i:Nat} (h:i<L.length) (hq:eM o.rect L[i].at_=true) (hno: ∀ j (h:j<L.length),j<i→eM o.rect L[j].at_=false):G3 o L=(i:Int)∧L.filter (iU o)=L.take i++(L.drop (i+1)).filter (iU o):=by
 constructor
 ·
  have:L.findIdx? (fun e=>eM o.rect e.at_)=some i:=by
   rw [OE]
   exact ⟨h,hq,fun j hj=>by simpa using hno j (by omega) hj⟩
  unfold G3;rw [this]
 ·
  have h1:(L.take i).filter (iU o)=L.take i:=List.filter_eq_self.2 fun e he=>by
   obtain ⟨j,hj,rfl⟩:=PF.1 he
   rw [Nj] at hj
   rw [PM]
   simp [iU,hno j (by omega) (by omega)]
  conv=>lhs;rw [← NT i L]
  rw [List.filter_append,h1,M3 h,List.filter_cons,if_neg (by simp [iU,hq])]
theorem u7 {o:Ox} {L:List Et} (hno: ∀ j (h:j<L.length),eM o.rect L[j].at_=false):G3 o L= -1∧L.filter (iU o)=L:=by
 constructor
 ·
  have:L.findIdx? (fun e=>eM o.rect e.at_)=none:=by
   rw [Ov]
   intro e he
   obtain ⟨j,hj,rfl⟩:=PF.1 he
   exact hno j hj
  unfold G3;rw [this]
 ·
  refine List.filter_eq_self.2 fun e he=> ?_
  obtain ⟨j,hj,rfl⟩:=PF.1 he
  simp [iU,hno j hj]
theorem G0 (B:Option Addr) (cap:Nat) (fv:Value) (F:List Blk) (w0:World):
  FnIn Tryz.prog 123 [.slice B 0 cap,fv] w0 F fun v H=>v= .int .i64 (-1)∧H=F:=by
 refine dP Tryz.func123 rfl Tryz.ntmps123 rfl ?_
 repeat' (first|refine sT ?_|refine sS ?_|refine sM fun _=> ?_|(refine sC ?_ ?_<;>intro hb<;>try omega)|fail)
 refine ay [7] rfl (fun _:Unit=> [(8,.int .i64 0)]) (fun _=>F) (fun _=>True) (fun _=>0) () trivial sB mS ?_
 rintro _ _
 repeat' (first|refine sT ?_|refine sS ?_|refine sM fun _=> ?_|(refine sC ?_ ?_<;>intro hb<;>try omega)|fail)
 all_goals first
  |(exfalso;omega)
  |(refine cP eIO rfl rfl (.refl _) ?_;exact ⟨rfl,rfl⟩)
  |trace_state
set_option maxHeartbeats 4000000 in
theorem JP (g:Nat) (hL:L.length≤1000000) (hgo:In (.box go 41 (bE o)) R):
    FnIn Tryz.prog 123 [.slice (some ⟨g,0,none⟩) L.length cap,.func (.func 58) #[] #[.pointer (some ⟨go,0,none⟩)]] w0 (.own (some g) 53 3 L.length cap (L.flatMap aJ)::R) fun v H=>v= .int .i64 (G3 o L)∧H= .own (some g) 53 3 L.length cap (L.flatMap aJ)::R:=by
  refine dP Tryz.func123 rfl Tryz.ntmps123 rfl ?_
  have hP:=fun (e:Et) (w' :World) (H:List Blk) (hi:In (.box go 41 (bE o)) H) (hm:Mem w0 w' H)=>zI o e go w' (Ro.of_box hm hi)
  repeat' (first|refine sT ?_|refine sS ?_|refine sM fun _=> ?_|(refine sC ?_ ?_<;>intro hb<;>try omega)|fail)
  refine ay [0,1,7] rfl (fun i:Nat=> [(8,.int .i64 (i:Int))]) (fun _=> .own (some g) 53 3 L.length cap (L.flatMap aJ)::R) (fun i=>i≤L.length∧ ∀ j (h:j<L.length),j<i→eM o.rect L[j].at_=false) (fun i=>L.length - i) 0 ⟨by omega,fun j _ h=>by omega⟩ sB mS ?_
  rintro i ⟨hi,hno⟩
  by_cases hlt:i<L.length
  · have hr1:=JB hlt
    have hP1:=hP L[i]
    obtain ⟨c,hc⟩: ∃ c,eM o.rect L[i].at_=c:=⟨_,rfl⟩
    rw [hc] at hP1
    cases c
    · repeat' (first|(apply aj;exact rfl;apply ak (j:=i);exact rfl;exact rfl;omega)|(apply aj;exact rfl;apply aR;exact rfl;exact pK;exact hr1;exact rfl)|(apply bA (f:=58);exact rfl;exact rfl;infer_instance;exact rfl;(intro w' hm;exact hP1 w' _ (.tl hgo) hm))|refine sT ?_|refine sS ?_|refine sN ?_|refine sM fun _=> ?_|(refine sC ?_ ?_<;>intro hb<;>try omega)|fail)
      all_goals first
        |(exfalso;omega)
        | (refine ⟨i + 1, ⟨hlt, fun j hj hji => ?_⟩, by omega, by exact sB, by exact sB, by exact mS⟩
           rcases (by omega:j<i∨j=i) with h|rfl
           · exact hno j hj h
           · exact hc)
        |trace_state
    · repeat' (first|(apply aj;exact rfl;apply ak (j:=i);exact rfl;exact rfl;omega)|(apply aj;exact rfl;apply aR;exact rfl;exact pK;exact hr1;exact rfl)|(apply bA (f:=58);exact rfl;exact rfl;infer_instance;exact rfl;(intro w' hm;exact hP1 w' _ (.tl hgo) hm))|refine sT ?_|refine sS ?_|refine sN ?_|refine sM fun _=> ?_|(refine sC ?_ ?_<;>intro hb<;>try omega)|fail)
      all_goals first
        |(exfalso;omega)
        |(refine cP eIO rfl rfl (.refl _) ?_;rw [(u6 hlt hc hno).1];exact ⟨rfl,rfl⟩)
        |trace_state
  · have e:=(u7 (o:=o) (L:=L) fun j hj=>hno j hj (by omega)).1
    repeat' (first|refine sT ?_|refine sS ?_|refine sM fun _=> ?_|(refine sC ?_ ?_<;>intro hb<;>try omega)|fail)
    all_goals first
      |(exfalso;omega)
      |(refine cP eIO rfl rfl (.refl _) ?_;rw [e];exact ⟨rfl,rfl⟩)
      |trace_state
set_option maxHeartbeats 8000000 in
theorem J1 (A:Option Nat) (hL:L.length≤1000000) (hgo:In (.box go 41 (bE o)) R):
    FnIn Tryz.prog 57 [sl A L.length cap,.func (.func 58) #[] #[.pointer (some ⟨go,0,none⟩)]] w0 (.own A 53 3 L.length cap (L.flatMap aJ)::R) fun v H=>v=sl A (L.filter (iU o)).length cap∧H= .own A 53 3 (L.filter (iU o)).length cap ((L.filter (iU o)).flatMap aJ)::R:=by
  refine dP Tryz.func57 rfl Tryz.ntmps57 rfl ?_
  refine KI (A:=A) .hd fun hle=> ?_
  rcases NP L.length with h0|hpos
  · have e:L= []:=Nw h0
    subst e
    have hI:=G0 (A.map fun g=>⟨g,0,none⟩) cap (.func (.func 58) #[] #[.pointer (some ⟨go,0,none⟩)]) (.own A 53 3 0 cap []::R) w0
    repeat' (first|(apply aw (f:=123);exact rfl;exact rfl;exact hI;rintro _ _ ⟨rfl,rfl⟩)|refine sT ?_|refine sS ?_|refine sN ?_|refine sM fun _=> ?_|(refine sC ?_ ?_<;>intro hb<;>try omega)|fail)
    all_goals first
      |(exfalso;omega)
      |(refine cP eIO rfl rfl (.refl _) ?_;exact ⟨rfl,rfl⟩)
      |trace_state
  · refine gF (A:=A) .hd hpos fun g hA=> ?_
    subst hA
    have hP:=fun (e:Et) (w' :World) (H:List Blk) (hi:In (.box go 41 (bE o)) H) (hm:Mem w0 w' H)=>zI o e go w' (Ro.of_box hm hi)
    have hI:=JP L o go cap R w0 g hL hgo
    rcases hfi:L.findIdx? (fun e=>eM o.rect e.at_) with _|k
    · have hno: ∀ j (h:j<L.length),eM o.rect L[j].at_=false:=fun j hj=>by
        simpa using Ov.1 hfi L[j] (NK hj)
      obtain ⟨e1,e2⟩:=u7 (o:=o) (L:=L) hno
      rw [e1] at hI
      rw [e2]
      repeat' (first|(apply aw (f:=123);exact rfl;exact rfl;exact hI;rintro _ _ ⟨rfl,rfl⟩)|refine sT ?_|refine sS ?_|refine sN ?_|refine sM fun _=> ?_|(refine sC ?_ ?_<;>intro hb<;>try omega)|fail)
      all_goals first
        |(exfalso;omega)
        |(refine cP eIO rfl rfl (.refl _) ?_;exact ⟨rfl,rfl⟩)
        |trace_state
    · obtain ⟨hkl,hq,hno⟩:=OE.1 hfi
      obtain ⟨e1,e2⟩:=u6 (o:=o) (L:=L) hkl hq fun j hj hjk=>by simpa using hno j hjk
      rw [e1] at hI
      rw [e2]
      repeat' (first|(apply aw (f:=123);exact rfl;exact rfl;exact hI;rintro _ _ ⟨rfl,rfl⟩)|refine sT ?_|refine sS ?_|refine sN ?_|refine sM fun _=> ?_|(refine sC ?_ ?_<;>intro hb<;>try omega)|fail)
      all_goals try (exfalso;omega)
      refine ay [0,1] rfl (fun y:Nat × Nat × List Et=> [(6,.int .i64 (y.1:Int)),(5,.int .i64 (y.2.1:Int))]) (fun y=> .own (some g) 53 3 L.length cap (y.2.2.flatMap aJ)::R) (fun y=>k+1≤y.1∧y.1≤L.length∧y.2.1<y.1∧y.2.2.length=L.length∧y.2.2.take y.2.1=L.take k++((L.drop (k+1)).take (y.1 - (k+1))).filter (iU o)∧ ∀ j,y.1≤j→y.2.2[j]? =L[j]?) (fun y=>L.length - y.1) (k+1,k,L) ⟨MZ _,by omega,O6 k,rfl,by simp,fun _ _=>rfl⟩ sB mS ?_
      rintro ⟨j,i,ys⟩ ⟨hj1,hj2,hij,hyl,hyt,hyj⟩
      dsimp only at hj1 hj2 hij hyl hyt hyj ⊢
      by_cases hlt:j<L.length
      · have hjy:j<ys.length:=by omega
        have hr1:=JB (L:=ys) hjy
        have he1:ys[j]=L[j]:=by
          have:=hyj j (by omega)
          rw [MV hjy,MV hlt] at this
          exact Option.some.inj this
        rw [he1] at hr1
        have hst:((L.drop (k+1)).take (j+1 - (k+1))).filter (iU o)=((L.drop (k+1)).take (j - (k+1))).filter (iU o)++(if iU o L[j] then [L[j]] else []):=by
          rw [show j+1 - (k+1)=j - (k+1)+1 by omega,M9 (by rw [M6];omega),List.filter_append,List.getElem_drop]
          congr 1
          rw [show L[k+1+(j - (k+1))]'(by omega)=L[j] by congr 1;omega,List.filter_cons,List.filter_nil]
        have hP1:=hP L[j]
        obtain ⟨c,hc⟩: ∃ c,eM o.rect L[j].at_=c:=⟨_,rfl⟩
        rw [hc] at hP1
        cases c with
        |true=>
          rw [if_neg (by simp [iU,hc]),M4] at hst
          repeat' (first|(apply aj;exact rfl;apply ak (j:=j);exact rfl;exact rfl;omega)|(apply aj;exact rfl;apply aR;exact rfl;exact pK;exact hr1;exact rfl)|(apply bA (f:=58);exact rfl;exact rfl;infer_instance;exact rfl;(intro w' hm;exact hP1 w' _ (.tl (.tl hgo)) hm))|refine sT ?_|refine sS ?_|refine sN ?_|refine sM fun _=> ?_|(refine sC ?_ ?_<;>intro hb<;>try omega)|fail)
          all_goals first
            |(exfalso;omega)
            |(refine ⟨(j+1,i,ys),⟨by dsimp only;omega,by dsimp only;omega,by dsimp only;omega,hyl,by dsimp only;rw [hyt,hst],fun t ht=>hyj t (by dsimp only at ht;omega)⟩,by dsimp only;omega,by exact sB,by exact sB,by exact mS⟩;done)
            |trace_state
        |false=>
          rw [if_pos (by simp [iU,hc])] at hst
          have hput:=zl bC ys i (by omega) L[j]
          repeat' (first|(apply aj;exact rfl;apply ak (j:=j);exact rfl;exact rfl;omega)|(apply aj;exact rfl;apply ak (j:=i);exact rfl;exact rfl;omega)|(apply aj;exact rfl;apply aR;exact rfl;exact pK;exact hr1;exact rfl)|(apply bA (f:=58);exact rfl;exact rfl;infer_instance;exact rfl;(intro w' hm;exact hP1 w' _ (.tl (.tl hgo)) hm))|(apply qN (vs:=aJ L[j]) (off:=0+i*3);exact rfl;exact rfl;exact pK;exact rfl;exact rfl;(intro u hu;simp [aJ] at hu;rcases hu with rfl|rfl|rfl<;>rfl);(rw [aK bC,hyl];omega);rw [Nm,hput])|refine sT ?_|refine sS ?_|refine sN ?_|refine sM fun _=> ?_|(refine sC ?_ ?_<;>intro hb<;>try omega)|fail)
          all_goals first
            |(exfalso;omega)
            | (refine ⟨(j + 1, i + 1, ys.set i L[j]), ⟨by dsimp only; omega, by dsimp only; omega, by dsimp only; omega, by dsimp only; rw [List.length_set, hyl], ?_, fun t ht => ?_⟩, by dsimp only; omega, by exact sB, by exact sB, by exact mS⟩
               · dsimp only
                 rw [M9 (by rw [Pa];omega),List.take_set_of_le (MZ _),hyt,List.getElem_set_self,hst,NC]
               · dsimp only at ht ⊢
                 rw [List.getElem?_set_ne (by omega)]
                 exact hyj t (by omega))
            |trace_state
      · have hjl:j=L.length:=by omega
        have htk:(L.drop (k+1)).take (L.length - (k+1))=L.drop (k+1):=NE (by rw [M6];exact MZ _)
        rw [hjl,htk] at hyt
        have hcl:(L.take k++(L.drop (k+1)).filter (iU o)).length=i:=by rw [← hyt,Nj,hyl];omega
        have hiL:i<L.length:=by omega
        repeat' (first|(apply aj;exact rfl;apply oW (lo:=i);exact rfl;exact rfl;omega;exact hle)|(apply xD (sz:=3) (k:=i) (n' :=L.length);exact rfl;omega;exact pK;(intro u hu;simp [Value.cells] at hu;rcases hu with rfl|rfl<;>rfl);exact rfl)|(apply aj;exact rfl;apply uE (hi:=i);exact rfl;exact rfl;omega)|refine sT ?_|refine sS ?_|refine sN ?_|refine sM fun _=> ?_|(refine sC ?_ ?_<;>intro hb<;>try omega)|fail)
        all_goals first
          |(exfalso;omega)
          | (refine cP eIO rfl rfl (H' := .own (some g) 53 3 i cap ((ys.flatMap aJ).take (i * 3)) :: R) mS ?_
             rw [iX bC,hyt,hcl]
             exact ⟨rfl,rfl⟩)
          |trace_state
end
structure Bo where
 e:Option Nat
 r:Option Nat
 g:Option Nat
 l:Option Nat
 s:Option Nat
 ce:Nat
 cr:Nat
 cg:Nat
 cl:Nat
 cs:Nat
def adr (A:Option Nat):Option Addr:=A.map fun g=>⟨g,0,none⟩
def Bo.v (a:Bo):Bv:=⟨adr a.e,adr a.r,adr a.g,adr a.l,adr a.s,a.ce,a.cr,a.cg,a.cl,a.cs⟩
def bw (b:Bk) (a:Bo):List Blk:= [.own a.e 53 3 b.ents.length a.ce (b.ents.flatMap aJ),.own a.r 38 7 b.rules.length a.cr (b.rules.flatMap bf),.own a.g 56 8 b.grants.length a.cg (b.grants.flatMap bg),.own a.l 48 9 b.log.length a.cl (b.log.flatMap aO),.own a.s 70 11 b.rels.length a.cs (b.rels.flatMap ck)]
theorem BRd.of_rows {w0 w:World} {H:List Blk} {b:Bk} {a:Bo} (hm:Mem w0 w H) (h1:In (.own a.e 53 3 b.ents.length a.ce (b.ents.flatMap aJ)) H) (h2:In (.own a.r 38 7 b.rules.length a.cr (b.rules.flatMap bf)) H) (h3:In (.own a.g 56 8 b.grants.length a.cg (b.grants.flatMap bg)) H) (h4:In (.own a.l 48 9 b.log.length a.cl (b.log.flatMap aO)) H) (h5:In (.own a.s 70 11 b.rels.length a.cs (b.rels.flatMap ck)) H):BRd w b a.v:=
 ⟨Reads.of_own (A:=a.e) hm h1,Reads.of_own (A:=a.r) hm h2,Reads.of_own (A:=a.g) hm h3,Reads.of_own (A:=a.l) hm h4,Reads.of_own (A:=a.s) hm h5⟩
structure Small (b:Bk):Prop where
 e:b.ents.length≤1000000
 r:b.rules.length≤1000000
 g:b.grants.length≤1000000
 l:b.log.length≤1000000
 s:b.rels.length≤1000000
set_option maxHeartbeats 4000000 in
theorem ER (b:Bk) (x:Bv) (w:World) (h:BRd w b x) (hs:Small b):aQ Tryz.prog 28 [.agg (bG b x).toArray] w fun v H=> ∃ a:Bo,v= .agg (bG b a.v).toArray∧H=bw b a:=by
 refine aq Tryz.func28 rfl Tryz.ntmps28 rfl ?_
 have h1:=fun (w' :World) (H:List Blk) (hm:Mem w w' H)=>Ct b.ents _ w' (h.e.of_w0 hm) hs.e
 have h2:=fun (w' :World) (H:List Blk) (hm:Mem w w' H)=>Cq b.rules _ w' (h.r.of_w0 hm) hs.r
 have h3:=fun (w' :World) (H:List Blk) (hm:Mem w w' H)=>Cr b.grants _ w' (h.g.of_w0 hm) hs.g
 have h4:=fun (w' :World) (H:List Blk) (hm:Mem w w' H)=>Cs b.log _ w' (h.l.of_w0 hm) hs.l
 have h5:=fun (w' :World) (H:List Blk) (hm:Mem w w' H)=>Cp b.rels _ w' (h.s.of_w0 hm) hs.s
 repeat' (first|(apply aC (f:=76);exact rfl;exact rfl;(intro w' hm;exact h1 w' _ hm);rintro _ _ ⟨A1,c1,rfl,rfl⟩)|(apply aC (f:=77);exact rfl;exact rfl;(intro w' hm;exact h2 w' _ hm);rintro _ _ ⟨A2,c2,rfl,rfl⟩)|(apply aC (f:=78);exact rfl;exact rfl;(intro w' hm;exact h3 w' _ hm);rintro _ _ ⟨A3,c3,rfl,rfl⟩)|(apply aC (f:=79);exact rfl;exact rfl;(intro w' hm;exact h4 w' _ hm);rintro _ _ ⟨A4,c4,rfl,rfl⟩)|(apply aC (f:=80);exact rfl;exact rfl;(intro w' hm;exact h5 w' _ hm);rintro _ _ ⟨A5,c5,rfl,rfl⟩)|refine sT ?_|refine sS ?_|refine sM fun _=> ?_|(refine sC ?_ ?_<;>intro hb<;>try omega)|fail)
 exact wA (.inl rfl) rfl rfl pK rfl (H' :=bw b ⟨A1,A2,A3,A4,A5,c1,c2,c3,c4,c5⟩) (by unfold bw;exact mS) ⟨⟨A1,A2,A3,A4,A5,c1,c2,c3,c4,c5⟩,rfl,rfl⟩
def LA (a b:Bk):Bool:=decide (a.users=b.users) && decide (a.step=b.step) && decide (a.ents=b.ents) && decide (a.rules=b.rules) && decide (a.grants=b.grants) && decide (a.log=b.log) && decide (a.rels=b.rels)
theorem HJ {a b:Bk}:LA a b=true↔a=b:=by
 obtain ⟨a1,a2,a3,a4,a5,a6,a7⟩:=a
 obtain ⟨b1,b2,b3,b4,b5,b6,b7⟩:=b
 simp only [LA,M0,decide_eq_true_eq,Bk.mk.injEq]
 exact ⟨fun ⟨⟨⟨⟨⟨⟨h1,h2⟩,h3⟩,h4⟩,h5⟩,h6⟩,h7⟩=>⟨h1,h3,h4,h5,h6,h7,h2⟩,fun ⟨h1,h3,h4,h5,h6,h7,h2⟩=>⟨⟨⟨⟨⟨⟨h1,h2⟩,h3⟩,h4⟩,h5⟩,h6⟩,h7⟩⟩
def ED (a:Rf) (L:List Et):ByteArray:=match L.find? (fun e=>decide (e.at_=a)) with|some e=>e.input|none=>av
def JO (b:Bk) (a:Rf):ByteArray × Int:=if bkE b≠0 then (av,bkE b) else if a.valid=false then (av,3) else (ED a b.ents,0)
set_option maxHeartbeats 8000000 in
theorem Cd (b:Bk) (x:Bv) (a:Rf) (w:World) (h:BRd w b x) (hW:Words w) (hlen:b.ents.length≤1000000):ax Tryz.prog 19 [.agg (bG b x).toArray,.agg (db a).toArray] w (.tuple #[.string (JO b a).1,.int .i64 (JO b a).2]):=by
 refine aq Tryz.func19 rfl Tryz.ntmps19 rfl ?_
 have hC:=fun (w' :World) (H:List Blk) (hm:Mem w w' H)=>tF b x w' (h.of_w0 hm) (hW.next hm) hlen
 have hV: ∀ w',ax Tryz.prog 64 [.agg (db a).toArray] w' (.bool a.valid):=fun w' =>jU a.col a.row w'
 unfold JO
 generalize bkE b=e at hC ⊢
 by_cases he:e≠0
 ·
  rw [if_pos he]
  repeat' (first|(apply aa (f:=12);exact rfl;exact rfl;(intro w' hm;exact hC w' _ hm))|refine sT ?_|refine sS ?_|refine sM fun _=> ?_|(refine sC ?_ ?_<;>intro hb<;>try omega)|fail)
  all_goals first|(exfalso;omega)|((refine rT2 ?_);rfl)|trace_state
 rw [if_neg he]
 cases hv:a.valid
 ·
  rw [if_pos rfl]
  rw [hv] at hV
  repeat' (first|(apply aa (f:=12);exact rfl;exact rfl;(intro w' hm;exact hC w' _ hm))|(apply aa;exact rfl;exact rfl;(intro w hm;exact hV w))|refine sT ?_|refine sS ?_|refine sM fun _=> ?_|(refine sC ?_ ?_<;>intro hb<;>try omega)|fail)
  all_goals first|(exfalso;omega)|((refine rT2 ?_);rfl)|trace_state
 rw [if_neg (by decide)]
 rw [hv] at hV
 have hx:=h.e
 obtain ⟨us,E,RU,G,L,M,st⟩:=b
 obtain ⟨ae1,ar1,ag1,al1,as1,ce1,cr1,cg1,cl1,cs1⟩:=x
 dsimp only at*
 obtain ⟨Ae,ce2,ee,he1,he2,he3⟩:=hx
 cases ee
 simp only [bG] at hC ⊢
 repeat' (first|(apply aa (f:=12);exact rfl;exact rfl;(intro w' hm;exact hC w' _ hm))|(apply aa;exact rfl;exact rfl;(intro w hm;exact hV w))|refine sT ?_|refine sS ?_|refine sM fun _=> ?_|(refine sC ?_ ?_<;>intro hb<;>try omega)|fail)
 all_goals try (exfalso;omega)
 rename_i g2 g3
 refine ay [3,18,19] rfl (fun i:Nat=> [(20,.int .i64 (i:Int))]) (fun _=> [.box g3 51 (db a)]) (fun i=>i≤E.length∧ED a E=ED a (E.drop i)) (fun i=>E.length - i) 0 ⟨by omega,rfl⟩ sB mS ?_
 rintro i ⟨hi,hrec⟩
 by_cases hlt:i<E.length
 ·
  obtain ⟨ge,oe,rfl,hre⟩:=he3 (by omega)
  have hre1:=hre.elem bC i hlt
  have hin:ED a (E.drop i)=if E[i].at_=a then E[i].input else ED a (E.drop (i+1)):=by
   rw [M3 hlt,ED,List.find?_cons]
   by_cases hh:E[i].at_=a
   ·
    rw [decide_eq_true hh,if_pos hh]
   ·
    rw [decide_eq_false hh,if_neg hh];rfl
  rw [hin] at hrec
  clear hin
  generalize E[i]=y at hre1 hrec
  obtain ⟨c,hc⟩: ∃ c,decide (y.at_=a)=c:=⟨_,rfl⟩
  cases c with
  |true=>
   rw [if_pos (by simpa using hc)] at hrec
   rw [hrec]
   repeat' (first|(apply aj;exact rfl;apply ak (j:=i);exact rfl;exact rfl;exact hlt)|(apply aj;exact rfl;apply aA;exact rfl;exact hre1;exact rfl)|(apply aj;exact rfl;apply uH hc;exact rfl;exact rfl)|refine sT ?_|refine sS ?_|refine sN ?_|refine sM fun _=> ?_|(refine sC ?_ ?_<;>intro hb<;>try omega)|fail)
   all_goals first|(exfalso;omega)|((refine rT2 ?_);rfl)|trace_state
  |false=>
   rw [if_neg (by simpa using hc)] at hrec
   repeat' (first|(apply aj;exact rfl;apply ak (j:=i);exact rfl;exact rfl;exact hlt)|(apply aj;exact rfl;apply aA;exact rfl;exact hre1;exact rfl)|(apply aj;exact rfl;apply uH hc;exact rfl;exact rfl)|refine sT ?_|refine sS ?_|refine sN ?_|refine sM fun _=> ?_|(refine sC ?_ ?_<;>intro hb<;>try omega)|fail)
   all_goals first
    |(exfalso;omega)
    |(refine ⟨i+1,⟨hlt,hrec⟩,by omega,by exact sB,by exact sB,by exact mS⟩;done)
    |trace_state
 ·
  have e:i=E.length:=by omega
  subst e
  rw [ND] at hrec
  rw [hrec]
  repeat' (first|refine sT ?_|refine sS ?_|refine sM fun _=> ?_|(refine sC ?_ ?_<;>intro hb<;>try omega)|fail)
  all_goals first|(exfalso;omega)|((refine rT2 ?_);rfl)|trace_state
end Go.SL
namespace Go.SL
open Go Go.Proofs
attribute [local irreducible] W WL WQ WG WA WX WLI WR WT WC WE RW thn blk bL scp bi bz bY aQ FnIn FnP ceP
section
variable {P:Program} {w0:World} {s:az} {H:List Blk} {ty:TypeId}
theorem FF {t e hi m c sz:Nat} {A:Option Nat} {x q r:Operand} {k k' :IntKind} [ht:Und P t (.slice e)] [hz:Size P e sz] (hx:ev s x=some (sl A m c)) (hq:ev s q=some (.int k (hi:Nat))) (hr:ev s r=some (.int k' (hi:Nat))) (h2:hi≤c):
  VOp P w0 s H (.slice t x none (some q) (some r)) ty (sl A hi hi):=fun ρ w _ _ _ _ hρ _=>by
 obtain ⟨i,hi1,hi2⟩:=hz.out
 have e2:((hi:Nat):Int)≤((c:Nat):Int):=by omega
 have e3:((0:Nat):Int)≤((hi:Nat):Int):=by omega
 have e4:(A.map fun g=>(⟨g,0,none⟩:Addr)).map (·.add 0)=A.map fun g=>⟨g,0,none⟩:=by cases A<;>simp [cw]
 unfold sl at hx ⊢
 simp [execOp,hρ x _ hx,hρ q _ hq,hρ r _ hr,Instr.sliceAt,run_underlying ht.out,Instr.slice,Instr.sliceBounds,Instr.sliceBound,asIntOf,sizeOf,typeInfo,hi1,h2]
 intro _
 cases A<;>simp [cw]
end
attribute [local irreducible] VOp
theorem Ed {w0 w:World} {H:List Blk} {A:Option Nat} {cap i:Nat} {L:List Et} (hm:Mem w0 w H) (hi:In (.own A 53 3 L.length cap (L.flatMap aJ)) H) (h:i≤L.length):Reads w (sl A i i) i ((L.take i).flatMap aJ):=by
 have h1:=Reads.of_own hm hi
 obtain ⟨A',c',e,h2,h3,h4⟩:=h1
 unfold sl at e
 cases e
 refine ⟨_,_,rfl,MZ _,by omega,fun hp=> ?_⟩
 obtain ⟨g,o,e,hr⟩:=h4 (by omega)
 refine ⟨g,o,e,?_⟩
 rw [← iX bC]
 exact hr.take
set_option maxHeartbeats 8000000 in
theorem EB (L:List Et) (i:Nat) (hi:i≤L.length) (x:Et) (A:Option Nat) (cap:Nat) (hL:L.length≤1000000) (w0:World) (R:List Blk):
  FnIn Tryz.prog 61 [sl A L.length cap,.int .i64 (i:Int),.agg (aJ x).toArray] w0 (.own A 53 3 L.length cap (L.flatMap aJ)::R) fun v H=> ∃ A' c,v=sl A' (L.length+1) c∧H= .own A' 53 3 (L.length+1) c ((L.take i++x::L.drop i).flatMap aJ)::R:=by
 refine dP Tryz.func61 rfl Tryz.ntmps61 rfl ?_
 refine KI (A:=A) .hd fun hle=> ?_
 repeat' (first|refine sT ?_|refine sS ?_|refine sM fun _=> ?_|(refine sC ?_ ?_<;>intro hb<;>try omega)|fail)
 rename_i g5
 have hrd:=fun (w:World) (H:List Blk) (hi2:In (.own A 53 3 L.length cap (L.flatMap aJ)) H) (hm:Mem w0 w H)=>Ed hm hi2 hi
 have hdr:(((L.flatMap aJ).drop (i*3)).take ((L.length - i)*3))=(L.drop i).flatMap aJ:=by
  rw [kp bC]
  exact NE (by rw [aK bC,M6];exact MZ _)
 have hrd2:=fun (w:World) (H:List Blk) (hi2:In (.own A 53 3 L.length cap (L.flatMap aJ)) H) (hm:Mem w0 w H)=>hdr ▸ (Reads.of_own hm hi2).cut (lo:=i) (hi:=L.length) hi (MZ _)
 refine l8 (id:=1) [5,6,10] [] [.box g5 53 (aJ x),.own A 53 3 L.length cap (L.flatMap aJ)] (by kernel_rfl) (by kernel_rfl) (by kernel_rfl) mS ?_
 repeat' (first|(apply dO (d:=10);(iterate 3 exact rfl);apply FF (hi:=i);(iterate 3 exact rfl);omega)|(apply dO (d:=16);(iterate 3 exact rfl);apply kw (lo:=i) (hi:=L.length);exact rfl;exact ⟨_,rfl⟩;exact rfl;exact hi;exact hle)|(apply Ai (d:=13) (n' :=i) (m:=1);(iterate 3 exact rfl);(intro w hm;exact hrd w _ pK hm);exact aK bC _|>.trans (by rw [Nj];congr 1;omega);(intro w hm;exact hm.cells_own pK);exact rfl;(intro u hu;simp [aJ] at hu;rcases hu with rfl|rfl|rfl<;>rfl);omega;omega;(simp only [maxLen];omega);intro g13 c13)|(apply cy (d:=17) (n' :=i+1) (m:=L.length - i);(iterate 3 exact rfl);exact pK;(intro w hm;exact hrd2 w _ pK hm);(rw [aK bC,M6]);exact nu _;omega;(simp only [maxLen];omega);intro A17 c17 h17)|refine sT ?_|refine sS ?_|refine sW ?_|refine sM fun _=> ?_|(refine sC ?_ ?_<;>intro hb<;>try omega)|(refine sCW ?_ ?_<;>intro hb<;>try omega)|fail)
 have e1:i+1+(L.length - i)=L.length+1:=by omega
 have e2:(L.take i++x::L.drop i).flatMap aJ=(L.take i).flatMap aJ++ [.int .i64 x.at_.col,.int .i64 x.at_.row,.string x.input]++(L.drop i).flatMap aJ:=by
  rw [Nk,Nc,NC]
  rfl
 rw [e2,e1]
 exact cP (.inl rfl) rfl rfl (H' := .own A17 53 3 (L.length+1) c17 ((L.take i).flatMap aJ++ [.int .i64 x.at_.col,.int .i64 x.at_.row,.string x.input]++(L.drop i).flatMap aJ)::R) mS ⟨A17,c17,rfl,rfl⟩
end Go.SL
