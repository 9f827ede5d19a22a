/-
  Lemmas and walks, put together: Im Oh0 Ue.
-/
import Derived.Test.YtoanpdoacdpgeaaGreatDoorKn40
import Derived.Test.YtoanpdoacdpgeaaGreatDoorKn44
import Derived.Test.YtoanpdoacdpgeaaGreatDoorKn46
set_option linter.unusedSimpArgs false
set_option linter.unusedVariables false
set_option maxRecDepth 20000
namespace Go.SL
open Go Go.Proofs
section
variable {P:Program} {n:Fr} {w0:World} {s:az} {H:List Blk}
theorem bX {fn:Func} {R:Value→List Blk→Prop} {e:Exit} {t u q r T T' g m:Nat} {xs:List Value} {v v' v2:Value} (he:e= .ret∨e= .normal) (hr:fn.results= #[.cell t T,.tmp u,.tmp q,.tmp r]) [Agg P T m] (ht:look s t=some (.pointer (some ⟨g,0,none⟩))) (hi:In (.box g T' xs) H) (hl:Nat.beq xs.length m=true)
  (hu:look s u=some v) (hq:look s q=some v') (hw:look s r=some v2) {H' :List Blk} (hs:MSub H' H) (hR:R (.tuple #[.agg xs.toArray,v,v',v2]) H'):ba P fn n w0 R e s H:=
 ⟨he,_,H',hs,fun a w hst hm=>by
  have h1:=kp (P:=P) (T:=T) hst hm ht hi hl
  have h2:a.tmps.getD u undef=v:=by simp [ND,hst.has u _ hu]
  have h3:a.tmps.getD q undef=v' :=by simp [ND,hst.has q _ hq]
  have h4:a.tmps.getD r undef=v2:=by simp [ND,hst.has r _ hw]
  simp only [results,hr]
  simp only [Pr,NN,NT,Sem.run_bind,Sem.run_map] at h1 ⊢
  simp only [h1,Result.andThen_ok,Sem.run_pure,h2,h3,h4]
  rfl,hR⟩
end
attribute [local irreducible] W WL WQ WG WA WX WLI WR WT WC WE VOp RW thn blk bE scp ba bo bL aP FnIn FnP ceP
def Cg (L:List Et) (to:Rf):Nat:=(L.takeWhile fun e=>eQ e.at_ to).length
def toO (o:Ox):Rf:=⟨o.rect.c1,o.rect.r1⟩
def tN (L:List Et) (o:Ox):List Et:=if o.input=au then L else L.take (Cg L (toO o))++⟨toO o,o.input⟩::L.drop (Cg L (toO o))
theorem mE {L:List Et} {to:Rf} {i:Nat} (hi:i≤L.length) (hall: ∀ j (h:j<L.length),j<i→eQ L[j].at_ to=true) (hs:i=L.length∨ ∃ h:i<L.length,eQ L[i].at_ to=false):Cg L to=i:=by
 have h1:L.takeWhile (fun e=>eQ e.at_ to)=L.take i:=by
  conv=>lhs;rw [← N8 i L]
  rw [List.takeWhile_append_of_pos]
  ·
   rcases hs with rfl|⟨h,hf⟩
   ·
    rw [NF,List.takeWhile_nil,Nl]
   ·
    rw [Nn h,PU,if_neg (by rw [hf];decide),Nl]
  ·
   intro e he
   obtain ⟨j,hj,rfl⟩:=PP.1 he
   rw [Nu] at hj
   rw [P1]
   exact hall j (by omega) (by omega)
 rw [Cg,h1,Nu]
 omega
def ll:Bk:=⟨0,[],[],[],[],[],0⟩
def lj:Bo:=⟨none,none,none,none,none,0,0,0,0,0⟩
def BS (N:List Gn) (i:Nat):List Gn:=match N[i]? with|some g=>N.set i ⟨g.rect,g.fns,g.to,g.by_,true⟩|none=>N
def li (b:Bk) (o:Ox):Bk:=
 ⟨b.users,b.ents,b.rules,b.grants,if ((cdE b o).1=0∨(cdE b o).1=5)∧jx o.kind=true then b.log++ [(evO b.step o (decide ((cdE b o).1=0)) b.rules b.grants).1] else b.log,b.rels,b.step+1⟩
def mO (b:Bk) (o:Ox):Bk:=
 if o.kind=3∨o.kind=4 then ⟨b.users,tN (b.ents.filter (gI o)) o,b.rules,b.grants,b.log,b.rels,b.step⟩
 else if o.kind=7 then ⟨b.users,b.ents,b.rules++ [⟨o.rect,o.rd,o.wr,o.ow⟩],b.grants,b.log,b.rels,b.step⟩
 else if o.kind=8 then ⟨b.users,b.ents,b.rules,b.grants++ [⟨o.rect,o.fns,o.to,o.user,false⟩],b.log,b.rels,b.step⟩
 else if o.kind=9 then ⟨b.users,b.ents,b.rules,BS b.grants o.idx.toNat,b.log,b.rels,b.step⟩
 else b
def apE (b:Bk) (o:Ox):Bk × Int × Int × Int:=
 if bkE b≠0 then (ll,0,0,bkE b)
 else if b.step=1099511627776 then (ll,0,0,5)
 else if (cdE b o).1≠0 then (li b o,(cdE b o).1,(cdE b o).2,0)
 else (mO (li b o) o,0,0,0)
theorem AE {b:Bk} (h: ¬ bkE b≠0):0≤b.step∧b.step≤1099511627776∧b.rules.length≤64∧b.grants.length≤64:=by
 have h:=Decidable.not_not.1 h
 unfold bkE at h
 split at h
 ·
  exact absurd h (by decide)
 split at h
 ·
  rename_i h2;exact absurd h h2
 split at h
 ·
  rename_i h2;exact absurd h h2
 rename_i hacl
 split at h
 ·
  rename_i h2;exact absurd h h2
 rename_i hgnt
 split at h
 ·
  rename_i h2;exact absurd h h2
 split at h
 ·
  exact absurd h (by decide)
 refine ⟨by omega,by omega,?_,?_⟩
 ·
  unfold iF at hacl
  split at hacl
  ·
   exact absurd (by decide) hacl
  split at hacl
  ·
   exact absurd (by decide) hacl
  ·
   omega
 ·
  unfold kB at hgnt
  split at hgnt
  ·
   exact absurd (by decide) hgnt
  split at hgnt
  ·
   exact absurd (by decide) hgnt
  ·
   omega
theorem pU: ∀ (N:List Gn) (j:Nat) (hj:j<N.length),(N.flatMap aW).set (j*8+7) (.bool true)=(N.set j ⟨N[j].rect,N[j].fns,N[j].to,N[j].by_,true⟩).flatMap aW
 | [],_,hj=>absurd hj (P7 _)
 |_::_,0,_=>rfl
 |g::N,j+1,hj=>by
  have ih:=pU N j (Nat.lt_of_succ_lt_succ hj)
  rw [Np,Pp _ _ (by rw [bW];omega),bW,show (j+1)*8+7 - 8=j*8+7 by omega,ih]
  rfl
theorem Aj (L:List Et) (o:Ox) (go cap:Nat) (w0:World) (A:Option Nat) {H T:List Blk} (hL:L.length≤1000000) (hs:Sel (.own A 52 3 L.length cap (L.flatMap aB)) H T) (hgo:In (.box go 37 (bi o)) T):
  FnIn Tryz.prog 43 [sl A L.length cap,.func (.func 44) #[] #[.pointer (some ⟨go,0,none⟩)]] w0 H fun v H' =>v=sl A (L.filter (gI o)).length cap∧H' = .own A 52 3 (L.filter (gI o)).length cap ((L.filter (gI o)).flatMap aB)::T:=
 FnIn.msub (Kr L o go cap T w0 A hL hgo) (MSub.pick hs (MSub.refl _))
theorem kV (L:List Et) (i:Nat) (hi:i≤L.length) (x:Et) (A:Option Nat) (cap:Nat) (hL:L.length≤1000000) (w0:World) {H T:List Blk} (hs:Sel (.own A 52 3 L.length cap (L.flatMap aB)) H T):
  FnIn Tryz.prog 47 [sl A L.length cap,.int .i64 (i:Int),.agg (aB x).toArray] w0 H fun v H=> ∃ A' c,v=sl A' (L.length+1) c∧H= .own A' 52 3 (L.length+1) c ((L.take i++x::L.drop i).flatMap aB)::T:=
 FnIn.msub (Fg L i hi x A cap hL w0 T) (MSub.pick hs (MSub.refl _))
set_option maxHeartbeats 16000000 in
theorem AY (b:Bk) (x:Bv) (o:Ox) (w:World) (h:BRd w b x) (hW:Words w) (hs:Small b):aP Tryz.prog 11 [.agg (aU b x).toArray,.agg (bi o).toArray] w fun v H=> ∃ a:Bo,v= .tuple #[.agg (aU (apE b o).1 a.v).toArray,.int .u8 (apE b o).2.1,.int .i64 (apE b o).2.2.1,.int .i64 (apE b o).2.2.2]∧H=aM (apE b o).1 a:=by
  refine aq Tryz.func11 rfl Tryz.ntmps11 rfl ?_
  have hC:=fun (w' :World) (H:List Blk) (hm:Mem w w' H)=>uA b x w' (h.of_w0 hm) (hW.next hm) hs.e
  have hY:=fun (w' :World) (H:List Blk) (hm:Mem w w' H)=>FJ b x w' (h.of_w0 hm) hs
  have hM:=fun w=>nZ o w
  have hD:=fun (w' :World) (g:Nat) (H:List Blk) (hi:In (.box g 28 (aU b x)) H) (hm:Mem w w' H)=>Ku b x o g w' (Ro.of_box hm hi) (h.of_w0 hm) (hW.next hm)
  have hE:=fun (w' :World) (H:List Blk) (hm:Mem w w' H)=>Jc b.step o (decide ((cdE b o).1=0)) b.rules b.grants _ _ w' (h.r.of_w0 hm) (h.g.of_w0 hm)
  have hs1:=hs.e
  have hs2:=hs.r
  have hs3:=hs.g
  have hs4:=hs.l
  refine aD 52 3 ?_
  refine aD 54 7 ?_
  refine aD 56 8 ?_
  refine aD 58 9 ?_
  refine aD 62 11 ?_
  unfold apE
  by_cases he:bkE b≠0
  · rw [if_pos he]
    generalize bkE b=e at hC he ⊢
    simp only [aU] at hC ⊢
    repeat' (first|(apply aa (f:=15);exact rfl;exact rfl;(intro w' hm;exact hC w' _ hm))|refine sT ?_|refine sS ?_|refine sM fun _=> ?_|(refine sC ?_ ?_<;>intro hb<;>try omega)|fail)
    all_goals first
      |(exfalso;omega)
      |(refine bX eIO rfl rfl pK rfl rfl rfl rfl (H' :=aM ll lj) (by unfold aM;exact mS) ⟨lj,rfl,rfl⟩;done)
      |trace_state
  rw [if_neg he]
  obtain ⟨hst1,hst2,hst3,hst4⟩:=AE he
  rw [show bkE b=0 by omega] at hC
  by_cases hmx:b.step=1099511627776
  · rw [if_pos hmx]
    simp only [aU] at hC ⊢
    repeat' (first|(apply aa (f:=15);exact rfl;exact rfl;(intro w' hm;exact hC w' _ hm))|refine sT ?_|refine sS ?_|refine sM fun _=> ?_|(refine sC ?_ ?_<;>intro hb<;>try omega)|fail)
    all_goals first
      |(exfalso;omega)
      |(refine bX eIO rfl rfl pK rfl rfl rfl rfl (H' :=aM ll lj) (by unfold aM;exact mS) ⟨lj,rfl,rfl⟩;done)
      |trace_state
  rw [if_neg hmx]
  obtain ⟨⟨c,at_⟩,hcd⟩: ∃ c,cdE b o=c:=⟨_,rfl⟩
  obtain ⟨mk,hmk⟩: ∃ mk,jx o.kind=mk:=⟨_,rfl⟩
  have hpos:mk=false∨o.kind=3∨o.kind=4∨o.kind=7∨o.kind=8∨o.kind=9:=by
    cases mk with
    |false=>exact .inl rfl
    |true=>
      simp only [jx,OX,decide_eq_true_eq] at hmk
      omega
  unfold li
  rw [hcd] at hD hE ⊢
  rw [hmk] at hM ⊢
  dsimp only at hD hE ⊢
  generalize evO b.step o (decide (c=0)) b.rules b.grants=ev at hE ⊢
  obtain ⟨ev1,ev2⟩:=ev
  dsimp only at hE ⊢
  have el1:(b.log++ [ev1]).length=b.log.length+1:=by rw [Na];rfl
  have el2:(b.log++ [ev1]).flatMap aN=b.log.flatMap aN++aN ev1:=by rw [Nt,Np,NE,Nl]
  by_cases hcz:c≠0
  · rw [if_pos hcz]
    by_cases hlg:(c=0∨c=5)∧mk=true
    · rw [if_pos hlg]
      obtain ⟨hc5,hmt⟩:=hlg
      simp only [aU,aM,el1,el2] at hC ⊢
      repeat' (first|(apply aa (f:=15);exact rfl;exact rfl;(intro w' hm;exact hC w' _ hm))|(apply aC (f:=20);exact rfl;exact rfl;(intro w' hm;exact hY w' _ hm);rintro _ _ ⟨a,rfl,rfl⟩;unfold aM)|(apply ak (d:=27);exact rfl;apply da;exact rfl;exact rfl;exact ⟨by omega,by omega⟩)|(apply aa (f:=40);exact rfl;exact rfl;(intro w' hm;exact hD w' _ _ pK hm))|(apply aa (f:=41);exact rfl;exact rfl;(intro w' _;exact hM w'))|(apply aa (f:=42);exact rfl;exact rfl;(intro w' hm;exact hE w' _ hm))|(apply aG (d:=61);(iterate 3 exact rfl);exact pK;exact pK;exact rfl;(intro u hu;simp [aN] at hu;rcases hu with rfl|rfl|rfl|rfl|rfl|rfl|rfl|rfl|rfl<;>rfl);omega;(simp only [maxLen];omega);intro g61 c61)|refine sT ?_|refine sS ?_|refine sM fun _=> ?_|(refine sC ?_ ?_<;>intro hb<;>try omega)|fail)
      all_goals first
        |(exfalso;omega)
        |(exfalso;simp_all;done)
        |(refine bX eIO rfl rfl pK rfl rfl rfl rfl (H' := [.own (a.e) 52 3 (b.ents.length) a.ce (b.ents.flatMap aB),.own (a.r) 54 7 (b.rules.length) a.cr (b.rules.flatMap aV),.own (a.g) 56 8 (b.grants.length) a.cg (b.grants.flatMap aW),.own (some g61) 58 9 (b.log.length+1) c61 (b.log.flatMap aN++aN ev1),.own (a.s) 62 11 (b.rels.length) a.cs (b.rels.flatMap bD)]) mS ⟨⟨a.e,a.r,a.g,some g61,a.s,a.ce,a.cr,a.cg,c61,a.cs⟩,rfl,rfl⟩;done)
        |trace_state
    · rw [if_neg hlg]
      simp only [aU,aM] at hC ⊢
      repeat' (first|(apply aa (f:=15);exact rfl;exact rfl;(intro w' hm;exact hC w' _ hm))|(apply aC (f:=20);exact rfl;exact rfl;(intro w' hm;exact hY w' _ hm);rintro _ _ ⟨a,rfl,rfl⟩;unfold aM)|(apply ak (d:=27);exact rfl;apply da;exact rfl;exact rfl;exact ⟨by omega,by omega⟩)|(apply aa (f:=40);exact rfl;exact rfl;(intro w' hm;exact hD w' _ _ pK hm))|(apply aa (f:=41);exact rfl;exact rfl;(intro w' _;exact hM w'))|refine sT ?_|refine sS ?_|refine sM fun _=> ?_|(refine sC ?_ ?_<;>intro hb<;>try omega)|fail)
      all_goals first
        |(exfalso;omega)
        |(exfalso;exact hlg ⟨by first|exact .inl ‹_› |exact .inr ‹_›,by assumption⟩)
        |(refine bX eIO rfl rfl pK rfl rfl rfl rfl (H' := [.own (a.e) 52 3 (b.ents.length) a.ce (b.ents.flatMap aB),.own (a.r) 54 7 (b.rules.length) a.cr (b.rules.flatMap aV),.own (a.g) 56 8 (b.grants.length) a.cg (b.grants.flatMap aW),.own (a.l) 58 9 (b.log.length) a.cl (b.log.flatMap aN),.own (a.s) 62 11 (b.rels.length) a.cs (b.rels.flatMap bD)]) mS ⟨a,rfl,rfl⟩;done)
        |trace_state
  rw [if_neg hcz]
  have hc0:c=0:=Decidable.not_not.1 hcz
  subst hc0
  cases mk with
  |false=>
    have hkn: ¬ (o.kind=3∨o.kind=4)∧o.kind≠7∧o.kind≠8∧o.kind≠9:=by
      simp only [jx,Pf,decide_eq_false_iff_not] at hmk
      omega
    rw [if_neg (fun h=>by cases h.2),mO,if_neg hkn.1,if_neg hkn.2.1,if_neg hkn.2.2.1,if_neg hkn.2.2.2]
    simp only [aU,aM] at hC ⊢
    repeat' (first|(apply aa (f:=15);exact rfl;exact rfl;(intro w' hm;exact hC w' _ hm))|(apply aC (f:=20);exact rfl;exact rfl;(intro w' hm;exact hY w' _ hm);rintro _ _ ⟨a,rfl,rfl⟩;unfold aM)|(apply ak (d:=27);exact rfl;apply da;exact rfl;exact rfl;exact ⟨by omega,by omega⟩)|(apply aa (f:=40);exact rfl;exact rfl;(intro w' hm;exact hD w' _ _ pK hm))|(apply aa (f:=41);exact rfl;exact rfl;(intro w' _;exact hM w'))|refine sT ?_|refine sS ?_|refine sM fun _=> ?_|(refine sC ?_ ?_<;>intro hb<;>try omega)|fail)
    all_goals first
      |(exfalso;omega)
      |(refine bX eIO rfl rfl pK rfl rfl rfl rfl (H' := [.own (a.e) 52 3 (b.ents.length) a.ce (b.ents.flatMap aB),.own (a.r) 54 7 (b.rules.length) a.cr (b.rules.flatMap aV),.own (a.g) 56 8 (b.grants.length) a.cg (b.grants.flatMap aW),.own (a.l) 58 9 (b.log.length) a.cl (b.log.flatMap aN),.own (a.s) 62 11 (b.rels.length) a.cs (b.rels.flatMap bD)]) mS ⟨a,rfl,rfl⟩;done)
      |trace_state
  |true=>
    rw [if_pos ⟨.inl rfl,rfl⟩]
    rcases hpos.resolve_left (by decide) with hk|hk|hk|hk|hk
    · obtain ⟨L,hL⟩: ∃ L,b.ents.filter (gI o)=L:=⟨_,rfl⟩
      have hLl:L.length≤1000000:=Nz (hL ▸ Pb _ _) hs1
      have hdel:=fun (A:Option Nat) (cap go:Nat) (H T:List Blk) (h1:Sel (.own A 52 3 b.ents.length cap (b.ents.flatMap aB)) H T) (h2:In (.box go 37 (bi o)) T)=>Aj b.ents o go cap w A hs1 h1 h2
      rw [hL] at hdel
      rw [mO,if_pos (by omega)]
      dsimp only
      rw [hL]
      by_cases hin:o.input=au
      · rw [tN,if_pos hin]
        simp only [aU,aM,el1,el2] at hC ⊢
        repeat' (first|(apply aa (f:=15);exact rfl;exact rfl;(intro w' hm;exact hC w' _ hm))|(apply aC (f:=20);exact rfl;exact rfl;(intro w' hm;exact hY w' _ hm);rintro _ _ ⟨a,rfl,rfl⟩;unfold aM)|(apply ak (d:=27);exact rfl;apply da;exact rfl;exact rfl;exact ⟨by omega,by omega⟩)|(apply aa (f:=40);exact rfl;exact rfl;(intro w' hm;exact hD w' _ _ pK hm))|(apply aa (f:=41);exact rfl;exact rfl;(intro w' _;exact hM w'))|(apply aa (f:=42);exact rfl;exact rfl;(intro w' hm;exact hE w' _ hm))|(apply aG (d:=61);(iterate 3 exact rfl);exact pK;exact pK;exact rfl;(intro u hu;simp [aN] at hu;rcases hu with rfl|rfl|rfl|rfl|rfl|rfl|rfl|rfl|rfl<;>rfl);omega;(simp only [maxLen];omega);intro g61 c61)|(apply aw (f:=43);exact rfl;exact rfl;exact hdel _ _ _ _ _ pK pK;rintro _ _ ⟨rfl,rfl⟩)|(apply ak (d:=80);exact rfl;apply rS (b:=au);exact rfl;exact rfl)|refine sT ?_|refine sS ?_|refine sM fun _=> ?_|(refine sC ?_ ?_<;>intro hb<;>try omega)|fail)
        all_goals first
          |(exfalso;omega)
          |(exact absurd hin hb)
          |(refine bX eIO rfl rfl pK rfl rfl rfl rfl (H' := [.own (a.e) 52 3 (L.length) a.ce (L.flatMap aB),.own (a.r) 54 7 (b.rules.length) a.cr (b.rules.flatMap aV),.own (a.g) 56 8 (b.grants.length) a.cg (b.grants.flatMap aW),.own (some g61) 58 9 (b.log.length+1) c61 (b.log.flatMap aN++aN ev1),.own (a.s) 62 11 (b.rels.length) a.cs (b.rels.flatMap bD)]) mS ⟨⟨a.e,a.r,a.g,some g61,a.s,a.ce,a.cr,a.cg,c61,a.cs⟩,rfl,rfl⟩;done)
          |trace_state
      · rw [tN,if_neg hin]
        simp only [aU,aM,el1,el2] at hC ⊢
        repeat' (first|(apply aa (f:=15);exact rfl;exact rfl;(intro w' hm;exact hC w' _ hm))|(apply aC (f:=20);exact rfl;exact rfl;(intro w' hm;exact hY w' _ hm);rintro _ _ ⟨a,rfl,rfl⟩;unfold aM)|(apply ak (d:=27);exact rfl;apply da;exact rfl;exact rfl;exact ⟨by omega,by omega⟩)|(apply aa (f:=40);exact rfl;exact rfl;(intro w' hm;exact hD w' _ _ pK hm))|(apply aa (f:=41);exact rfl;exact rfl;(intro w' _;exact hM w'))|(apply aa (f:=42);exact rfl;exact rfl;(intro w' hm;exact hE w' _ hm))|(apply aG (d:=61);(iterate 3 exact rfl);exact pK;exact pK;exact rfl;(intro u hu;simp [aN] at hu;rcases hu with rfl|rfl|rfl|rfl|rfl|rfl|rfl|rfl|rfl<;>rfl);omega;(simp only [maxLen];omega);intro g61 c61)|(apply aw (f:=43);exact rfl;exact rfl;exact hdel _ _ _ _ _ pK pK;rintro _ _ ⟨rfl,rfl⟩)|(apply ak (d:=80);exact rfl;apply rS (b:=au);exact rfl;exact rfl)|refine sT ?_|refine sS ?_|refine sM fun _=> ?_|(refine sC ?_ ?_<;>intro hb<;>try omega)|fail)
        all_goals try (exfalso;omega)
        all_goals try (exact absurd (Decidable.not_not.1 hb) hin)
        rename_i g2 g3 g4 _ g9 g60 _ _ g11
        obtain ⟨ae,ar,ag,al,as_,ce,cr,cg,cl,cs⟩:=a
        have hLs:=fun (a b:Rf) w=>xW a b w
        refine ax [3,4,5,6,7,11] rfl (fun i:Nat=> [(12,.int .i64 (i:Int))]) (fun _=> [.box g11 50 (cw (toO o)),.box g4 28 [.int .i64 b.users,sl ae L.length ce,sl ar b.rules.length cr,sl ag b.grants.length cg,sl (some g61) (b.log.length+1) c61,sl as_ b.rels.length cs,.int .i64 (b.step+1)],.box g3 37 (bi o),.own (ae) 52 3 (L.length) ce (L.flatMap aB),.own (ar) 54 7 (b.rules.length) cr (b.rules.flatMap aV),.own (ag) 56 8 (b.grants.length) cg (b.grants.flatMap aW),.own (some g61) 58 9 (b.log.length+1) c61 (b.log.flatMap aN++aN ev1),.own (as_) 62 11 (b.rels.length) cs (b.rels.flatMap bD)]) (fun i=>i≤L.length∧ ∀ j (h:j<L.length),j<i→eQ L[j].at_ (toO o)=true) (fun i=>L.length - i) 0 ⟨by omega,fun j _ h=>by omega⟩ sB mS ?_
        rintro i ⟨hi,hall⟩
        by_cases hlt:i<L.length
        · refine eG (A:=ae) pK (by omega) fun ga hA=> ?_
          subst hA
          have hread:((L.flatMap aB).drop (0+i*3+0)).take 2=cw L[i].at_:=by
            have h1:=G6 hlt
            rw [O2]
            calc ((L.flatMap aB).drop (0+i*3)).take 2=(((L.flatMap aB).drop (0+i*3)).take 3).take 2:=by rw [PX];rfl
              _=_:=by rw [h1];rfl
          have hLi:=hLs L[i].at_ (toO o)
          obtain ⟨cc,hcc⟩: ∃ cc,eQ L[i].at_ (toO o)=cc:=⟨_,rfl⟩
          rw [hcc] at hLi
          cases cc with
          |true=>
            repeat' (first|(apply bp (id:=21) [13] [];kernel_rfl;kernel_rfl;kernel_rfl)|(apply bZ (d:=97);(iterate 3 exact rfl);apply aj (j:=i);exact rfl;exact rfl;omega)|(apply bZ (d:=99);(iterate 3 exact rfl);apply aQ;exact rfl;exact pK;exact hread;exact rfl)|(apply aa (f:=46);exact rfl;exact rfl;(intro w' _;exact hLi w'))|refine sT ?_|refine sS ?_|refine sW ?_|refine sN ?_|refine sWN ?_|refine sM fun _=> ?_|(refine sC ?_ ?_<;>intro hb<;>try omega)|(refine sCW ?_ ?_<;>intro hb<;>try omega)|fail)
            all_goals first
              |(exfalso;omega)
              | (refine ⟨i + 1, ⟨hlt, fun j hj hji => ?_⟩, by omega, by exact sB, by exact sB, by exact mS⟩
                 rcases (by omega:j<i∨j=i) with h|rfl
                 · exact hall j hj h
                 · exact hcc)
              |trace_state
          |false=>
            have hpe:=mE hi hall (.inr ⟨hlt,hcc⟩)
            have hpl:(L.take i++(⟨toO o,o.input⟩:Et)::L.drop i).length=L.length+1:=by simp [Nu,Nq];omega
            rw [hpe,hpl]
            repeat' (first|(apply bp (id:=21) [13] [];kernel_rfl;kernel_rfl;kernel_rfl)|(apply bZ (d:=97);(iterate 3 exact rfl);apply aj (j:=i);exact rfl;exact rfl;omega)|(apply bZ (d:=99);(iterate 3 exact rfl);apply aQ;exact rfl;exact pK;exact hread;exact rfl)|(apply aa (f:=46);exact rfl;exact rfl;(intro w' _;exact hLi w'))|(apply aw (f:=47);exact rfl;exact rfl;exact kV L i hi ⟨toO o,o.input⟩ _ _ hLl w pK;rintro _ _ ⟨A9,c9,rfl,rfl⟩)|refine sT ?_|refine sS ?_|refine sW ?_|refine sN ?_|refine sWN ?_|refine sM fun _=> ?_|(refine sC ?_ ?_<;>intro hb<;>try omega)|(refine sCW ?_ ?_<;>intro hb<;>try omega)|fail)
            all_goals first
              |(exfalso;omega)
              |(refine bX eIO rfl rfl pK rfl rfl rfl rfl (H' := [.own (A9) 52 3 (L.length+1) c9 ((L.take i++(⟨toO o,o.input⟩:Et)::L.drop i).flatMap aB),.own (ar) 54 7 (b.rules.length) cr (b.rules.flatMap aV),.own (ag) 56 8 (b.grants.length) cg (b.grants.flatMap aW),.own (some g61) 58 9 (b.log.length+1) c61 (b.log.flatMap aN++aN ev1),.own (as_) 62 11 (b.rels.length) cs (b.rels.flatMap bD)]) mS ⟨⟨A9,ar,ag,some g61,as_,c9,cr,cg,c61,cs⟩,rfl,rfl⟩;done)
              |trace_state
        · have hpe:=mE hi hall (.inl (by omega))
          have hpl:(L.take i++(⟨toO o,o.input⟩:Et)::L.drop i).length=L.length+1:=by simp [Nu,Nq];omega
          rw [hpe,hpl]
          repeat' (first|(apply bp (id:=21) [13] [];kernel_rfl;kernel_rfl;kernel_rfl)|(apply aw (f:=47);exact rfl;exact rfl;exact kV L i hi ⟨toO o,o.input⟩ _ _ hLl w pK;rintro _ _ ⟨A9,c9,rfl,rfl⟩)|refine sT ?_|refine sS ?_|refine sW ?_|refine sN ?_|refine sWN ?_|refine sM fun _=> ?_|(refine sC ?_ ?_<;>intro hb<;>try omega)|(refine sCW ?_ ?_<;>intro hb<;>try omega)|fail)
          all_goals first
            |(exfalso;omega)
            |(refine bX eIO rfl rfl pK rfl rfl rfl rfl (H' := [.own (A9) 52 3 (L.length+1) c9 ((L.take i++(⟨toO o,o.input⟩:Et)::L.drop i).flatMap aB),.own (ar) 54 7 (b.rules.length) cr (b.rules.flatMap aV),.own (ag) 56 8 (b.grants.length) cg (b.grants.flatMap aW),.own (some g61) 58 9 (b.log.length+1) c61 (b.log.flatMap aN++aN ev1),.own (as_) 62 11 (b.rels.length) cs (b.rels.flatMap bD)]) mS ⟨⟨A9,ar,ag,some g61,as_,c9,cr,cg,c61,cs⟩,rfl,rfl⟩;done)
            |trace_state
    · obtain ⟨L,hL⟩: ∃ L,b.ents.filter (gI o)=L:=⟨_,rfl⟩
      have hLl:L.length≤1000000:=Nz (hL ▸ Pb _ _) hs1
      have hdel:=fun (A:Option Nat) (cap go:Nat) (H T:List Blk) (h1:Sel (.own A 52 3 b.ents.length cap (b.ents.flatMap aB)) H T) (h2:In (.box go 37 (bi o)) T)=>Aj b.ents o go cap w A hs1 h1 h2
      rw [hL] at hdel
      rw [mO,if_pos (by omega)]
      dsimp only
      rw [hL]
      by_cases hin:o.input=au
      · rw [tN,if_pos hin]
        simp only [aU,aM,el1,el2] at hC ⊢
        repeat' (first|(apply aa (f:=15);exact rfl;exact rfl;(intro w' hm;exact hC w' _ hm))|(apply aC (f:=20);exact rfl;exact rfl;(intro w' hm;exact hY w' _ hm);rintro _ _ ⟨a,rfl,rfl⟩;unfold aM)|(apply ak (d:=27);exact rfl;apply da;exact rfl;exact rfl;exact ⟨by omega,by omega⟩)|(apply aa (f:=40);exact rfl;exact rfl;(intro w' hm;exact hD w' _ _ pK hm))|(apply aa (f:=41);exact rfl;exact rfl;(intro w' _;exact hM w'))|(apply aa (f:=42);exact rfl;exact rfl;(intro w' hm;exact hE w' _ hm))|(apply aG (d:=61);(iterate 3 exact rfl);exact pK;exact pK;exact rfl;(intro u hu;simp [aN] at hu;rcases hu with rfl|rfl|rfl|rfl|rfl|rfl|rfl|rfl|rfl<;>rfl);omega;(simp only [maxLen];omega);intro g61 c61)|(apply aw (f:=43);exact rfl;exact rfl;exact hdel _ _ _ _ _ pK pK;rintro _ _ ⟨rfl,rfl⟩)|(apply ak (d:=80);exact rfl;apply rS (b:=au);exact rfl;exact rfl)|refine sT ?_|refine sS ?_|refine sM fun _=> ?_|(refine sC ?_ ?_<;>intro hb<;>try omega)|fail)
        all_goals first
          |(exfalso;omega)
          |(exact absurd hin hb)
          |(refine bX eIO rfl rfl pK rfl rfl rfl rfl (H' := [.own (a.e) 52 3 (L.length) a.ce (L.flatMap aB),.own (a.r) 54 7 (b.rules.length) a.cr (b.rules.flatMap aV),.own (a.g) 56 8 (b.grants.length) a.cg (b.grants.flatMap aW),.own (some g61) 58 9 (b.log.length+1) c61 (b.log.flatMap aN++aN ev1),.own (a.s) 62 11 (b.rels.length) a.cs (b.rels.flatMap bD)]) mS ⟨⟨a.e,a.r,a.g,some g61,a.s,a.ce,a.cr,a.cg,c61,a.cs⟩,rfl,rfl⟩;done)
          |trace_state
      · rw [tN,if_neg hin]
        simp only [aU,aM,el1,el2] at hC ⊢
        repeat' (first|(apply aa (f:=15);exact rfl;exact rfl;(intro w' hm;exact hC w' _ hm))|(apply aC (f:=20);exact rfl;exact rfl;(intro w' hm;exact hY w' _ hm);rintro _ _ ⟨a,rfl,rfl⟩;unfold aM)|(apply ak (d:=27);exact rfl;apply da;exact rfl;exact rfl;exact ⟨by omega,by omega⟩)|(apply aa (f:=40);exact rfl;exact rfl;(intro w' hm;exact hD w' _ _ pK hm))|(apply aa (f:=41);exact rfl;exact rfl;(intro w' _;exact hM w'))|(apply aa (f:=42);exact rfl;exact rfl;(intro w' hm;exact hE w' _ hm))|(apply aG (d:=61);(iterate 3 exact rfl);exact pK;exact pK;exact rfl;(intro u hu;simp [aN] at hu;rcases hu with rfl|rfl|rfl|rfl|rfl|rfl|rfl|rfl|rfl<;>rfl);omega;(simp only [maxLen];omega);intro g61 c61)|(apply aw (f:=43);exact rfl;exact rfl;exact hdel _ _ _ _ _ pK pK;rintro _ _ ⟨rfl,rfl⟩)|(apply ak (d:=80);exact rfl;apply rS (b:=au);exact rfl;exact rfl)|refine sT ?_|refine sS ?_|refine sM fun _=> ?_|(refine sC ?_ ?_<;>intro hb<;>try omega)|fail)
        all_goals try (exfalso;omega)
        all_goals try (exact absurd (Decidable.not_not.1 hb) hin)
        rename_i g2 g3 g4 _ g9 g60 _ _ g11
        obtain ⟨ae,ar,ag,al,as_,ce,cr,cg,cl,cs⟩:=a
        have hLs:=fun (a b:Rf) w=>xW a b w
        refine ax [3,4,5,6,7,11] rfl (fun i:Nat=> [(12,.int .i64 (i:Int))]) (fun _=> [.box g11 50 (cw (toO o)),.box g4 28 [.int .i64 b.users,sl ae L.length ce,sl ar b.rules.length cr,sl ag b.grants.length cg,sl (some g61) (b.log.length+1) c61,sl as_ b.rels.length cs,.int .i64 (b.step+1)],.box g3 37 (bi o),.own (ae) 52 3 (L.length) ce (L.flatMap aB),.own (ar) 54 7 (b.rules.length) cr (b.rules.flatMap aV),.own (ag) 56 8 (b.grants.length) cg (b.grants.flatMap aW),.own (some g61) 58 9 (b.log.length+1) c61 (b.log.flatMap aN++aN ev1),.own (as_) 62 11 (b.rels.length) cs (b.rels.flatMap bD)]) (fun i=>i≤L.length∧ ∀ j (h:j<L.length),j<i→eQ L[j].at_ (toO o)=true) (fun i=>L.length - i) 0 ⟨by omega,fun j _ h=>by omega⟩ sB mS ?_
        rintro i ⟨hi,hall⟩
        by_cases hlt:i<L.length
        · refine eG (A:=ae) pK (by omega) fun ga hA=> ?_
          subst hA
          have hread:((L.flatMap aB).drop (0+i*3+0)).take 2=cw L[i].at_:=by
            have h1:=G6 hlt
            rw [O2]
            calc ((L.flatMap aB).drop (0+i*3)).take 2=(((L.flatMap aB).drop (0+i*3)).take 3).take 2:=by rw [PX];rfl
              _=_:=by rw [h1];rfl
          have hLi:=hLs L[i].at_ (toO o)
          obtain ⟨cc,hcc⟩: ∃ cc,eQ L[i].at_ (toO o)=cc:=⟨_,rfl⟩
          rw [hcc] at hLi
          cases cc with
          |true=>
            repeat' (first|(apply bp (id:=21) [13] [];kernel_rfl;kernel_rfl;kernel_rfl)|(apply bZ (d:=97);(iterate 3 exact rfl);apply aj (j:=i);exact rfl;exact rfl;omega)|(apply bZ (d:=99);(iterate 3 exact rfl);apply aQ;exact rfl;exact pK;exact hread;exact rfl)|(apply aa (f:=46);exact rfl;exact rfl;(intro w' _;exact hLi w'))|refine sT ?_|refine sS ?_|refine sW ?_|refine sN ?_|refine sWN ?_|refine sM fun _=> ?_|(refine sC ?_ ?_<;>intro hb<;>try omega)|(refine sCW ?_ ?_<;>intro hb<;>try omega)|fail)
            all_goals first
              |(exfalso;omega)
              | (refine ⟨i + 1, ⟨hlt, fun j hj hji => ?_⟩, by omega, by exact sB, by exact sB, by exact mS⟩
                 rcases (by omega:j<i∨j=i) with h|rfl
                 · exact hall j hj h
                 · exact hcc)
              |trace_state
          |false=>
            have hpe:=mE hi hall (.inr ⟨hlt,hcc⟩)
            have hpl:(L.take i++(⟨toO o,o.input⟩:Et)::L.drop i).length=L.length+1:=by simp [Nu,Nq];omega
            rw [hpe,hpl]
            repeat' (first|(apply bp (id:=21) [13] [];kernel_rfl;kernel_rfl;kernel_rfl)|(apply bZ (d:=97);(iterate 3 exact rfl);apply aj (j:=i);exact rfl;exact rfl;omega)|(apply bZ (d:=99);(iterate 3 exact rfl);apply aQ;exact rfl;exact pK;exact hread;exact rfl)|(apply aa (f:=46);exact rfl;exact rfl;(intro w' _;exact hLi w'))|(apply aw (f:=47);exact rfl;exact rfl;exact kV L i hi ⟨toO o,o.input⟩ _ _ hLl w pK;rintro _ _ ⟨A9,c9,rfl,rfl⟩)|refine sT ?_|refine sS ?_|refine sW ?_|refine sN ?_|refine sWN ?_|refine sM fun _=> ?_|(refine sC ?_ ?_<;>intro hb<;>try omega)|(refine sCW ?_ ?_<;>intro hb<;>try omega)|fail)
            all_goals first
              |(exfalso;omega)
              |(refine bX eIO rfl rfl pK rfl rfl rfl rfl (H' := [.own (A9) 52 3 (L.length+1) c9 ((L.take i++(⟨toO o,o.input⟩:Et)::L.drop i).flatMap aB),.own (ar) 54 7 (b.rules.length) cr (b.rules.flatMap aV),.own (ag) 56 8 (b.grants.length) cg (b.grants.flatMap aW),.own (some g61) 58 9 (b.log.length+1) c61 (b.log.flatMap aN++aN ev1),.own (as_) 62 11 (b.rels.length) cs (b.rels.flatMap bD)]) mS ⟨⟨A9,ar,ag,some g61,as_,c9,cr,cg,c61,cs⟩,rfl,rfl⟩;done)
              |trace_state
        · have hpe:=mE hi hall (.inl (by omega))
          have hpl:(L.take i++(⟨toO o,o.input⟩:Et)::L.drop i).length=L.length+1:=by simp [Nu,Nq];omega
          rw [hpe,hpl]
          repeat' (first|(apply bp (id:=21) [13] [];kernel_rfl;kernel_rfl;kernel_rfl)|(apply aw (f:=47);exact rfl;exact rfl;exact kV L i hi ⟨toO o,o.input⟩ _ _ hLl w pK;rintro _ _ ⟨A9,c9,rfl,rfl⟩)|refine sT ?_|refine sS ?_|refine sW ?_|refine sN ?_|refine sWN ?_|refine sM fun _=> ?_|(refine sC ?_ ?_<;>intro hb<;>try omega)|(refine sCW ?_ ?_<;>intro hb<;>try omega)|fail)
          all_goals first
            |(exfalso;omega)
            |(refine bX eIO rfl rfl pK rfl rfl rfl rfl (H' := [.own (A9) 52 3 (L.length+1) c9 ((L.take i++(⟨toO o,o.input⟩:Et)::L.drop i).flatMap aB),.own (ar) 54 7 (b.rules.length) cr (b.rules.flatMap aV),.own (ag) 56 8 (b.grants.length) cg (b.grants.flatMap aW),.own (some g61) 58 9 (b.log.length+1) c61 (b.log.flatMap aN++aN ev1),.own (as_) 62 11 (b.rels.length) cs (b.rels.flatMap bD)]) mS ⟨⟨A9,ar,ag,some g61,as_,c9,cr,cg,c61,cs⟩,rfl,rfl⟩;done)
            |trace_state
    · have e1:(b.rules++ [(⟨o.rect,o.rd,o.wr,o.ow⟩:Rl)]).length=b.rules.length+1:=by rw [Na];rfl
      have e2:(b.rules++ [(⟨o.rect,o.rd,o.wr,o.ow⟩:Rl)]).flatMap aV=b.rules.flatMap aV++aV ⟨o.rect,o.rd,o.wr,o.ow⟩:=by rw [Nt,Np,NE,Nl]
      rw [mO,if_neg (by omega),if_pos hk]
      simp only [aU,aM,el1,el2,e1,e2] at hC ⊢
      repeat' (first|(apply aa (f:=15);exact rfl;exact rfl;(intro w' hm;exact hC w' _ hm))|(apply aC (f:=20);exact rfl;exact rfl;(intro w' hm;exact hY w' _ hm);rintro _ _ ⟨a,rfl,rfl⟩;unfold aM)|(apply ak (d:=27);exact rfl;apply da;exact rfl;exact rfl;exact ⟨by omega,by omega⟩)|(apply aa (f:=40);exact rfl;exact rfl;(intro w' hm;exact hD w' _ _ pK hm))|(apply aa (f:=41);exact rfl;exact rfl;(intro w' _;exact hM w'))|(apply aa (f:=42);exact rfl;exact rfl;(intro w' hm;exact hE w' _ hm))|(apply aG (d:=61);(iterate 3 exact rfl);exact pK;exact pK;exact rfl;(intro u hu;simp [aN] at hu;rcases hu with rfl|rfl|rfl|rfl|rfl|rfl|rfl|rfl|rfl<;>rfl);omega;(simp only [maxLen];omega);intro g61 c61)|(apply aG (d:=124);(iterate 3 exact rfl);exact pK;exact pK;exact rfl;(intro u hu;simp at hu;rcases hu with rfl|rfl|rfl|rfl|rfl|rfl|rfl<;>rfl);omega;(simp only [maxLen];omega);intro g7 c7)|refine sT ?_|refine sS ?_|refine sM fun _=> ?_|(refine sC ?_ ?_<;>intro hb<;>try omega)|fail)
      all_goals first
        |(exfalso;omega)
        |(refine bX eIO rfl rfl pK rfl rfl rfl rfl (H' := [.own (a.e) 52 3 (b.ents.length) a.ce (b.ents.flatMap aB),.own (some g7) 54 7 (b.rules.length+1) c7 (b.rules.flatMap aV++aV ⟨o.rect,o.rd,o.wr,o.ow⟩),.own (a.g) 56 8 (b.grants.length) a.cg (b.grants.flatMap aW),.own (some g61) 58 9 (b.log.length+1) c61 (b.log.flatMap aN++aN ev1),.own (a.s) 62 11 (b.rels.length) a.cs (b.rels.flatMap bD)]) mS ⟨⟨a.e,some g7,a.g,some g61,a.s,a.ce,c7,a.cg,c61,a.cs⟩,rfl,rfl⟩;done)
        |trace_state
    · have e1:(b.grants++ [(⟨o.rect,o.fns,o.to,o.user,false⟩:Gn)]).length=b.grants.length+1:=by rw [Na];rfl
      have e2:(b.grants++ [(⟨o.rect,o.fns,o.to,o.user,false⟩:Gn)]).flatMap aW=b.grants.flatMap aW++aW ⟨o.rect,o.fns,o.to,o.user,false⟩:=by rw [Nt,Np,NE,Nl]
      rw [mO,if_neg (by omega),if_neg (by omega),if_pos hk]
      simp only [aU,aM,el1,el2,e1,e2] at hC ⊢
      repeat' (first|(apply aa (f:=15);exact rfl;exact rfl;(intro w' hm;exact hC w' _ hm))|(apply aC (f:=20);exact rfl;exact rfl;(intro w' hm;exact hY w' _ hm);rintro _ _ ⟨a,rfl,rfl⟩;unfold aM)|(apply ak (d:=27);exact rfl;apply da;exact rfl;exact rfl;exact ⟨by omega,by omega⟩)|(apply aa (f:=40);exact rfl;exact rfl;(intro w' hm;exact hD w' _ _ pK hm))|(apply aa (f:=41);exact rfl;exact rfl;(intro w' _;exact hM w'))|(apply aa (f:=42);exact rfl;exact rfl;(intro w' hm;exact hE w' _ hm))|(apply aG (d:=61);(iterate 3 exact rfl);exact pK;exact pK;exact rfl;(intro u hu;simp [aN] at hu;rcases hu with rfl|rfl|rfl|rfl|rfl|rfl|rfl|rfl|rfl<;>rfl);omega;(simp only [maxLen];omega);intro g61 c61)|(apply aG (d:=140);(iterate 3 exact rfl);exact pK;exact pK;exact rfl;(intro u hu;simp at hu;rcases hu with rfl|rfl|rfl|rfl|rfl|rfl|rfl|rfl<;>rfl);omega;(simp only [maxLen];omega);intro g8 c8)|refine sT ?_|refine sS ?_|refine sM fun _=> ?_|(refine sC ?_ ?_<;>intro hb<;>try omega)|fail)
      all_goals first
        |(exfalso;omega)
        |(refine bX eIO rfl rfl pK rfl rfl rfl rfl (H' := [.own (a.e) 52 3 (b.ents.length) a.ce (b.ents.flatMap aB),.own (a.r) 54 7 (b.rules.length) a.cr (b.rules.flatMap aV),.own (some g8) 56 8 (b.grants.length+1) c8 (b.grants.flatMap aW++aW ⟨o.rect,o.fns,o.to,o.user,false⟩),.own (some g61) 58 9 (b.log.length+1) c61 (b.log.flatMap aN++aN ev1),.own (a.s) 62 11 (b.rels.length) a.cs (b.rels.flatMap bD)]) mS ⟨⟨a.e,a.r,some g8,some g61,a.s,a.ce,a.cr,c8,c61,a.cs⟩,rfl,rfl⟩;done)
        |trace_state
    · obtain ⟨j,hj⟩: ∃ j:Nat,o.idx=(j:Int)∧j<b.grants.length:=by
        have h4:tst b o 4=false:=by
          rcases h:tst b o 4 with _|_
          · rfl
          · exfalso
            unfold cdE at hcd
            rw [h] at hcd
            revert hcd
            (repeat' split)<;>intro hcd<;>injection hcd with h1 h2<;>first|(exact absurd h1 (by decide))|contradiction
        have:=JL h4 hk
        exact ⟨o.idx.toNat,by omega,by omega⟩
      obtain ⟨hj,hjl⟩:=hj
      have hrv:BS b.grants o.idx.toNat=b.grants.set j ⟨b.grants[j].rect,b.grants[j].fns,b.grants[j].to,b.grants[j].by_,true⟩:=by
        unfold BS
        rw [hj,Ov,Nc hjl]
      rw [mO,if_neg (by omega),if_neg (by omega),if_neg (by omega),if_pos hk]
      dsimp only
      rw [hrv]
      have e1:(b.grants.set j ⟨b.grants[j].rect,b.grants[j].fns,b.grants[j].to,b.grants[j].by_,true⟩).length=b.grants.length:=Ph
      have e2:(b.grants.set j ⟨b.grants[j].rect,b.grants[j].fns,b.grants[j].to,b.grants[j].by_,true⟩).flatMap aW=(b.grants.flatMap aW).set (0+j*8+7) (.bool true):=by
        rw [Ny]
        exact (pU b.grants j hjl).symm
      have hfit:0+j*8+7<(b.grants.flatMap aW).length:=by rw [aK bW];omega
      simp only [aU,aM,el1,el2,e1,e2] at hC ⊢
      repeat' (first|(apply aa (f:=15);exact rfl;exact rfl;(intro w' hm;exact hC w' _ hm))|(apply aC (f:=20);exact rfl;exact rfl;(intro w' hm;exact hY w' _ hm);rintro _ _ ⟨a,rfl,rfl⟩;unfold aM)|(apply ak (d:=27);exact rfl;apply da;exact rfl;exact rfl;exact ⟨by omega,by omega⟩)|(apply aa (f:=40);exact rfl;exact rfl;(intro w' hm;exact hD w' _ _ pK hm))|(apply aa (f:=41);exact rfl;exact rfl;(intro w' _;exact hM w'))|(apply aa (f:=42);exact rfl;exact rfl;(intro w' hm;exact hE w' _ hm))|(apply aG (d:=61);(iterate 3 exact rfl);exact pK;exact pK;exact rfl;(intro u hu;simp [aN] at hu;rcases hu with rfl|rfl|rfl|rfl|rfl|rfl|rfl|rfl|rfl<;>rfl);omega;(simp only [maxLen];omega);intro g61 c61)|(apply ak (d:=148);exact rfl;apply aj (j:=j);exact rfl;(rw [← hj];exact rfl);exact hjl)|(apply dQ;exact rfl;exact rfl;exact pK;exact rfl;exact hfit)|refine sT ?_|refine sS ?_|refine sM fun _=> ?_|(refine sC ?_ ?_<;>intro hb<;>try omega)|fail)
      all_goals try (exfalso;omega)
      obtain ⟨ae,ar,ag,al,as_,ce,cr,cg,cl,cs⟩:=a
      refine wJ (A:=ag) (xs:=b.grants.flatMap aW) pK (by omega) fun gg hA=> ?_
      subst hA
      repeat' (first|(apply ak (d:=148);exact rfl;apply aj (j:=j);exact rfl;(rw [← hj];exact rfl);exact hjl)|(apply dQ;exact rfl;exact rfl;exact pK;exact rfl;exact hfit)|refine sT ?_|refine sS ?_|refine sM fun _=> ?_|(refine sC ?_ ?_<;>intro hb<;>try omega)|fail)
      all_goals first
        |(exfalso;omega)
        |(refine bX eIO rfl rfl pK rfl rfl rfl rfl (H' := [.own (ae) 52 3 (b.ents.length) ce (b.ents.flatMap aB),.own (ar) 54 7 (b.rules.length) cr (b.rules.flatMap aV),.own (some gg) 56 8 (b.grants.length) cg ((b.grants.flatMap aW).set (0+j*8+7) (.bool true)),.own (some g61) 58 9 (b.log.length+1) c61 (b.log.flatMap aN++aN ev1),.own (as_) 62 11 (b.rels.length) cs (b.rels.flatMap bD)]) mS ⟨⟨ae,ar,some gg,some g61,as_,ce,cr,cg,c61,cs⟩,rfl,rfl⟩;done)
        |trace_state
end Go.SL
namespace Go.SL
open Go Go.Proofs
attribute [local irreducible] W WL WQ WG WA WX WLI WR WT WC WE VOp RW thn blk bE scp ba bo bL aP FnIn FnP ceP
theorem Kb (L:List Et) (o:Ox):(tN L o).length≤L.length+1:=by
 unfold tN
 split
 ·
  omega
 ·
  have h:=congrArg List.length (N8 (Cg L (toO o)) L)
  rw [Na] at h
  rw [Na,NB]
  omega
theorem LZ {b:Bk} {o:Ox}:(apE b o).1.ents.length≤b.ents.length+1:=by
 have hl:(li b o).ents=b.ents:=rfl
 unfold apE
 split
 ·
  exact Ns _
 split
 ·
  exact Ns _
 split
 ·
  show (li b o).ents.length≤_
  rw [hl];omega
 ·
  unfold mO
  split
  ·
   have h1:=Kb ((li b o).ents.filter (gI o)) o
   have h2:=Pb (gI o) (li b o).ents
   rw [hl] at h1 h2
   show (tN ((li b o).ents.filter (gI o)) o).length≤_
   rw [hl];omega
  split
  ·
   show (li b o).ents.length≤_
   rw [hl];omega
  split
  ·
   show (li b o).ents.length≤_
   rw [hl];omega
  split
  ·
   show (li b o).ents.length≤_
   rw [hl];omega
  ·
   show (li b o).ents.length≤_
   rw [hl];omega
end Go.SL
namespace Go.SL
open Go
theorem G0 (N:List Gn) (i:Nat):(BS N i).length=N.length:=by
 unfold BS
 split
 ·
  exact Ph
 ·
  rfl
theorem HH (b:Bk) (o:Ox):(li b o).log.length≤b.log.length+1:=by
 unfold li
 dsimp only
 split
 ·
  rw [Na,Nh];exact Ni _
 ·
  omega
theorem Ky {b:Bk} {o:Ox}:(apE b o).1.rules.length≤b.rules.length+1∧(apE b o).1.grants.length≤b.grants.length+1∧(apE b o).1.log.length≤b.log.length+1∧(apE b o).1.rels.length≤b.rels.length:=by
 have hl:=HH b o
 have h1:(li b o).rules=b.rules:=rfl
 have h2:(li b o).grants=b.grants:=rfl
 have h3:(li b o).rels=b.rels:=rfl
 unfold apE
 split
 ·
  exact ⟨Ns _,Ns _,Ns _,Ns _⟩
 split
 ·
  exact ⟨Ns _,Ns _,Ns _,Ns _⟩
 split
 ·
  exact ⟨by rw [h1];omega,by rw [h2];omega,hl,by rw [h3];exact Ni _⟩
 ·
  unfold mO
  split
  ·
   exact ⟨by rw [h1];omega,by rw [h2];omega,hl,by rw [h3];exact Ni _⟩
  split
  ·
   refine ⟨?_,by rw [h2];omega,hl,by rw [h3];exact Ni _⟩
   dsimp only
   rw [h1,Na,Nh];exact Ni _
  split
  ·
   refine ⟨by rw [h1];omega,?_,hl,by rw [h3];exact Ni _⟩
   dsimp only
   rw [h2,Na,Nh];exact Ni _
  split
  ·
   refine ⟨by rw [h1];omega,?_,hl,by rw [h3];exact Ni _⟩
   dsimp only
   rw [h2,G0];omega
  ·
   exact ⟨by rw [h1];omega,by rw [h2];omega,hl,by rw [h3];exact Ni _⟩
structure LenB (b:Bk) (n:Nat):Prop where
 e:b.ents.length≤n
 r:b.rules.length≤n
 g:b.grants.length≤n
 l:b.log.length≤n
 s:b.rels.length≤n
theorem LenB.next {b:Bk} {n:Nat} (h:LenB b n) (o:Ox):LenB (apE b o).1 (n+1):=by
 have h1:=LZ (b:=b) (o:=o)
 obtain ⟨h2,h3,h4,h5⟩:=Ky (b:=b) (o:=o)
 exact ⟨Nz h1 (PN h.e),Nz h2 (PN h.r),Nz h3 (PN h.g),Nz h4 (PN h.l),Nz h5 (Pq h.s)⟩
theorem LenB.small {b:Bk} {n:Nat} (h:LenB b n) (hn:n≤1000000):Small b:=⟨Nz h.e hn,Nz h.r hn,Nz h.g hn,Nz h.l hn,Nz h.s hn⟩
end Go.SL
