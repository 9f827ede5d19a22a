/-
  Lemmas and walks, put together: Im Oh0 Ue Oc Ob.
-/
import Derived.Test.YtoanpdoacdpgeaaGreatDoorKq23
import Derived.Test.YtoanpdoacdpgeaaGreatDoorKq25
import Derived.Test.YtoanpdoacdpgeaaGreatDoorKq26
set_option linter.unusedSimpArgs false
set_option linter.unusedVariables false
set_option maxRecDepth 20000
namespace Go.SL
open Go Go.Proofs
section
variable {P:Program} {n:Fr} {w0:World} {s:az} {H:List Blk}
theorem eM {fn:Func} {R:Value→List Blk→Prop} {e:Exit} {t u q r T T' g m:Nat} {xs:List Value} {v v' v2:Value} (he:e= .ret∨e= .normal) (hr:fn.results= #[.cell t T,.tmp u,.tmp q,.tmp r]) [Agg P T m] (ht:look s t=some (.pointer (some ⟨g,0,none⟩))) (hi:In (.box g T' xs) H) (hl:Nat.beq xs.length m=true)
  (hu:look s u=some v) (hq:look s q=some v') (hw:look s r=some v2) {H' :List Blk} (hs:MSub H' H) (hR:R (.tuple #[.agg xs.toArray,v,v',v2]) H'):aV P fn n w0 R e s H:=
 ⟨he,_,H',hs,fun a w hst hm=>by
  have h1:=lc (P:=P) (T:=T) hst hm ht hi hl
  have h2:a.tmps.getD u undef=v:=by simp [RG,hst.has u _ hu]
  have h3:a.tmps.getD q undef=v' :=by simp [RG,hst.has q _ hq]
  have h4:a.tmps.getD r undef=v2:=by simp [RG,hst.has r _ hw]
  simp only [results,hr]
  simp only [Tm,RF,RJ,Sem.run_bind,Sem.run_map] at h1 ⊢
  simp only [h1,Result.andThen_ok,Sem.run_pure,h2,h3,h4]
  rfl,hR⟩
end
attribute [local irreducible] W WL WQ WG WA WX WLI WR WT WC WE VOp RW thn blk bE scp aV bo bI aK FnIn FnP ceP
def HN (L:List Et) (to:Rf):Nat:=(L.takeWhile fun e=>aU e.at_ to).length
def toO (o:Ox):Rf:=⟨o.rect.c1,o.rect.r1⟩
def tG (L:List Et) (o:Ox):List Et:=if o.input=av then L else L.take (HN L (toO o))++⟨toO o,o.input⟩::L.drop (HN L (toO o))
theorem tS {L:List Et} {to:Rf} {i:Nat} (hi:i≤L.length) (hall: ∀ j (h:j<L.length),j<i→aU L[j].at_ to=true) (hs:i=L.length∨ ∃ h:i<L.length,aU L[i].at_ to=false):HN L to=i:=by
 have h1:L.takeWhile (fun e=>aU e.at_ to)=L.take i:=by
  conv=>lhs;rw [← Si i L]
  rw [List.takeWhile_append_of_pos]
  ·
   rcases hs with rfl|⟨h,hf⟩
   ·
    rw [RE,List.takeWhile_nil,QW]
   ·
    rw [QY h,Tc,if_neg (by rw [hf];decide),QW]
  ·
   intro e he
   obtain ⟨j,hj,rfl⟩:=TD.1 he
   rw [Rq] at hj
   rw [Ug]
   exact hall j (by omega) (by omega)
 rw [HN,h1,Rq]
 omega
def qU:Bk:=⟨0,[],[],[],[],[],0⟩
def qR:Bo:=⟨none,none,none,none,none,0,0,0,0,0⟩
def HB (N:List Gn) (i:Nat):List Gn:=match N[i]? with|some g=>N.set i ⟨g.rect,g.fns,g.to,g.by_,true⟩|none=>N
def lZ (b:Bk) (o:Ox):Bk:=
 ⟨b.users,b.ents,b.rules,b.grants,if ((cdE b o).1=0∨(cdE b o).1=5)∧kH o.kind=true then b.log++ [(evO b.step o (decide ((cdE b o).1=0)) b.rules b.grants).1] else b.log,b.rels,b.step+1⟩
def tK (b:Bk) (o:Ox):Bk:=
 if o.kind=3∨o.kind=4 then ⟨b.users,tG (b.ents.filter (iH o)) o,b.rules,b.grants,b.log,b.rels,b.step⟩
 else if o.kind=7 then ⟨b.users,b.ents,b.rules++ [⟨o.rect,o.rd,o.wr,o.ow⟩],b.grants,b.log,b.rels,b.step⟩
 else if o.kind=8 then ⟨b.users,b.ents,b.rules,b.grants++ [⟨o.rect,o.fns,o.to,o.user,false⟩],b.log,b.rels,b.step⟩
 else if o.kind=9 then ⟨b.users,b.ents,b.rules,HB b.grants o.idx.toNat,b.log,b.rels,b.step⟩
 else b
def apE (b:Bk) (o:Ox):Bk × Int × Int × Int:=
 if bkE b≠0 then (qU,0,0,bkE b)
 else if b.step=1099511627776 then (qU,0,0,5)
 else if (cdE b o).1≠0 then (lZ b o,(cdE b o).1,(cdE b o).2,0)
 else (tK (lZ b o) o,0,0,0)
theorem wC {b:Bk} (h: ¬ bkE b≠0):0≤b.step∧b.step≤1099511627776∧b.rules.length≤64∧b.grants.length≤64:=by
 have h:=Decidable.not_not.1 h
 unfold bkE at h
 split at h
 ·
  exact absurd h (by decide)
 split at h
 ·
  rename_i h2;exact absurd h h2
 split at h
 ·
  rename_i h2;exact absurd h h2
 rename_i hacl
 split at h
 ·
  rename_i h2;exact absurd h h2
 rename_i hgnt
 split at h
 ·
  rename_i h2;exact absurd h h2
 split at h
 ·
  exact absurd h (by decide)
 refine ⟨by omega,by omega,?_,?_⟩
 ·
  unfold dX at hacl
  split at hacl
  ·
   exact absurd (by decide) hacl
  split at hacl
  ·
   exact absurd (by decide) hacl
  ·
   omega
 ·
  unfold jS at hgnt
  split at hgnt
  ·
   exact absurd (by decide) hgnt
  split at hgnt
  ·
   exact absurd (by decide) hgnt
  ·
   omega
theorem xz: ∀ (N:List Gn) (j:Nat) (hj:j<N.length),(N.flatMap bn).set (j*8+7) (.bool true)=(N.set j ⟨N[j].rect,N[j].fns,N[j].to,N[j].by_,true⟩).flatMap bn
 | [],_,hj=>absurd hj (Nat.not_lt_zero _)
 |_::_,0,_=>rfl
 |g::N,j+1,hj=>by
  have ih:=xz N j (Nat.lt_of_succ_lt_succ hj)
  rw [Rj,TA _ _ (by rw [cX];omega),cX,show (j+1)*8+7 - 8=j*8+7 by omega,ih]
  rfl
theorem Cy (L:List Et) (o:Ox) (go cap:Nat) (w0:World) (A:Option Nat) {H T:List Blk} (hL:L.length≤1000000) (hs:Sel (.own A 52 3 L.length cap (L.flatMap aJ)) H T) (hgo:In (.box go 37 (bO o)) T):
  FnIn Tryz.prog 43 [sl A L.length cap,.func (.func 44) #[] #[.pointer (some ⟨go,0,none⟩)]] w0 H fun v H' =>v=sl A (L.filter (iH o)).length cap∧H' = .own A 52 3 (L.filter (iH o)).length cap ((L.filter (iH o)).flatMap aJ)::T:=
 FnIn.msub (NK L o go cap T w0 A hL hgo) (MSub.pick hs (MSub.refl _))
theorem l6 (L:List Et) (i:Nat) (hi:i≤L.length) (x:Et) (A:Option Nat) (cap:Nat) (hL:L.length≤1000000) (w0:World) {H T:List Blk} (hs:Sel (.own A 52 3 L.length cap (L.flatMap aJ)) H T):
  FnIn Tryz.prog 47 [sl A L.length cap,.int .i64 (i:Int),.agg (aJ x).toArray] w0 H fun v H=> ∃ A' c,v=sl A' (L.length+1) c∧H= .own A' 52 3 (L.length+1) c ((L.take i++x::L.drop i).flatMap aJ)::T:=
 FnIn.msub (Iu L i hi x A cap hL w0 T) (MSub.pick hs (MSub.refl _))
set_option maxHeartbeats 16000000 in
theorem Me (b:Bk) (x:Bv) (o:Ox) (w:World) (h:BRd w b x) (hW:Words w) (hs:Small b):aK Tryz.prog 11 [.agg (aW b x).toArray,.agg (bO o).toArray] w fun v H=> ∃ a:Bo,v= .tuple #[.agg (aW (apE b o).1 a.v).toArray,.int .u8 (apE b o).2.1,.int .i64 (apE b o).2.2.1,.int .i64 (apE b o).2.2.2]∧H=aN (apE b o).1 a:=by
  refine aq Tryz.func11 rfl Tryz.ntmps11 rfl ?_
  have hC:=fun (w' :World) (H:List Blk) (hm:Mem w w' H)=>iJ b x w' (h.of_w0 hm) (hW.next hm) hs.e
  have hY:=fun (w' :World) (H:List Blk) (hm:Mem w w' H)=>ym b x w' (h.of_w0 hm) hs
  have hM:=fun w=>pO o w
  have hD:=fun (w' :World) (g:Nat) (H:List Blk) (hi:In (.box g 28 (aW b x)) H) (hm:Mem w w' H)=>NN b x o g w' (Ro.of_box hm hi) (h.of_w0 hm) (hW.next hm)
  have hE:=fun (w' :World) (H:List Blk) (hm:Mem w w' H)=>Mc b.step o (decide ((cdE b o).1=0)) b.rules b.grants _ _ w' (h.r.of_w0 hm) (h.g.of_w0 hm)
  have hs1:=hs.e
  have hs2:=hs.r
  have hs3:=hs.g
  have hs4:=hs.l
  refine aH 52 3 ?_
  refine aH 54 7 ?_
  refine aH 56 8 ?_
  refine aH 58 9 ?_
  refine aH 62 11 ?_
  unfold apE
  by_cases he:bkE b≠0
  · rw [if_pos he]
    generalize bkE b=e at hC he ⊢
    simp only [aW] at hC ⊢
    repeat' (first|(apply aa (f:=15);exact rfl;exact rfl;(intro w' hm;exact hC w' _ hm))|refine sT ?_|refine sS ?_|refine sM fun _=> ?_|(refine sC ?_ ?_<;>intro hb<;>try omega)|fail)
    all_goals first
      |(exfalso;omega)
      |(refine eM eIO rfl rfl pK rfl rfl rfl rfl (H' :=aN qU qR) (by unfold aN;exact mS) ⟨qR,rfl,rfl⟩;done)
  rw [if_neg he]
  obtain ⟨hst1,hst2,hst3,hst4⟩:=wC he
  rw [show bkE b=0 by omega] at hC
  by_cases hmx:b.step=1099511627776
  · rw [if_pos hmx]
    simp only [aW] at hC ⊢
    repeat' (first|(apply aa (f:=15);exact rfl;exact rfl;(intro w' hm;exact hC w' _ hm))|refine sT ?_|refine sS ?_|refine sM fun _=> ?_|(refine sC ?_ ?_<;>intro hb<;>try omega)|fail)
    all_goals first
      |(exfalso;omega)
      |(refine eM eIO rfl rfl pK rfl rfl rfl rfl (H' :=aN qU qR) (by unfold aN;exact mS) ⟨qR,rfl,rfl⟩;done)
  rw [if_neg hmx]
  obtain ⟨⟨c,at_⟩,hcd⟩: ∃ c,cdE b o=c:=⟨_,rfl⟩
  obtain ⟨mk,hmk⟩: ∃ mk,kH o.kind=mk:=⟨_,rfl⟩
  have hpos:mk=false∨o.kind=3∨o.kind=4∨o.kind=7∨o.kind=8∨o.kind=9:=by
    cases mk with
    |false=>exact .inl rfl
    |true=>
      simp only [kH,SH,decide_eq_true_eq] at hmk
      omega
  unfold lZ
  rw [hcd] at hD hE ⊢
  rw [hmk] at hM ⊢
  dsimp only at hD hE ⊢
  generalize evO b.step o (decide (c=0)) b.rules b.grants=ev at hE ⊢
  obtain ⟨ev1,ev2⟩:=ev
  dsimp only at hE ⊢
  have el1:(b.log++ [ev1]).length=b.log.length+1:=by rw [QP];rfl
  have el2:(b.log++ [ev1]).flatMap bf=b.log.flatMap bf++bf ev1:=by rw [Rm,Rj,RC,QW]
  by_cases hcz:c≠0
  · rw [if_pos hcz]
    by_cases hlg:(c=0∨c=5)∧mk=true
    · rw [if_pos hlg]
      obtain ⟨hc5,hmt⟩:=hlg
      simp only [aW,aN,el1,el2] at hC ⊢
      repeat' (first|(apply aa (f:=15);exact rfl;exact rfl;(intro w' hm;exact hC w' _ hm))|(apply aA (f:=20);exact rfl;exact rfl;(intro w' hm;exact hY w' _ hm);rintro _ _ ⟨a,rfl,rfl⟩;unfold aN)|(apply ak (d:=27);exact rfl;apply eV;exact rfl;exact rfl;exact ⟨by omega,by omega⟩)|(apply aa (f:=40);exact rfl;exact rfl;(intro w' hm;exact hD w' _ _ pK hm))|(apply aa (f:=41);exact rfl;exact rfl;(intro w' _;exact hM w'))|(apply aa (f:=42);exact rfl;exact rfl;(intro w' hm;exact hE w' _ hm))|(apply aQ (d:=61);(iterate 3 exact rfl);exact pK;exact pK;exact rfl;(intro u hu;simp [bf] at hu;rcases hu with rfl|rfl|rfl|rfl|rfl|rfl|rfl|rfl|rfl<;>rfl);omega;(simp only [maxLen];omega);intro g61 c61)|refine sT ?_|refine sS ?_|refine sM fun _=> ?_|(refine sC ?_ ?_<;>intro hb<;>try omega)|fail)
      all_goals first
        |(exfalso;omega)
        |(exfalso;simp_all;done)
        |(refine eM eIO rfl rfl pK rfl rfl rfl rfl (H' := [.own (a.e) 52 3 (b.ents.length) a.ce (b.ents.flatMap aJ),.own (a.r) 54 7 (b.rules.length) a.cr (b.rules.flatMap bu),.own (a.g) 56 8 (b.grants.length) a.cg (b.grants.flatMap bn),.own (some g61) 58 9 (b.log.length+1) c61 (b.log.flatMap bf++bf ev1),.own (a.s) 62 11 (b.rels.length) a.cs (b.rels.flatMap aO)]) mS ⟨⟨a.e,a.r,a.g,some g61,a.s,a.ce,a.cr,a.cg,c61,a.cs⟩,rfl,rfl⟩;done)
    · rw [if_neg hlg]
      simp only [aW,aN] at hC ⊢
      repeat' (first|(apply aa (f:=15);exact rfl;exact rfl;(intro w' hm;exact hC w' _ hm))|(apply aA (f:=20);exact rfl;exact rfl;(intro w' hm;exact hY w' _ hm);rintro _ _ ⟨a,rfl,rfl⟩;unfold aN)|(apply ak (d:=27);exact rfl;apply eV;exact rfl;exact rfl;exact ⟨by omega,by omega⟩)|(apply aa (f:=40);exact rfl;exact rfl;(intro w' hm;exact hD w' _ _ pK hm))|(apply aa (f:=41);exact rfl;exact rfl;(intro w' _;exact hM w'))|refine sT ?_|refine sS ?_|refine sM fun _=> ?_|(refine sC ?_ ?_<;>intro hb<;>try omega)|fail)
      all_goals first
        |(exfalso;omega)
        |(exfalso;exact hlg ⟨by first|exact .inl ‹_› |exact .inr ‹_›,by assumption⟩)
        |(refine eM eIO rfl rfl pK rfl rfl rfl rfl (H' := [.own (a.e) 52 3 (b.ents.length) a.ce (b.ents.flatMap aJ),.own (a.r) 54 7 (b.rules.length) a.cr (b.rules.flatMap bu),.own (a.g) 56 8 (b.grants.length) a.cg (b.grants.flatMap bn),.own (a.l) 58 9 (b.log.length) a.cl (b.log.flatMap bf),.own (a.s) 62 11 (b.rels.length) a.cs (b.rels.flatMap aO)]) mS ⟨a,rfl,rfl⟩;done)
  rw [if_neg hcz]
  have hc0:c=0:=Decidable.not_not.1 hcz
  subst hc0
  cases mk with
  |false=>
    have hkn: ¬ (o.kind=3∨o.kind=4)∧o.kind≠7∧o.kind≠8∧o.kind≠9:=by
      simp only [kH,S9,decide_eq_false_iff_not] at hmk
      omega
    rw [if_neg (fun h=>by cases h.2),tK,if_neg hkn.1,if_neg hkn.2.1,if_neg hkn.2.2.1,if_neg hkn.2.2.2]
    simp only [aW,aN] at hC ⊢
    repeat' (first|(apply aa (f:=15);exact rfl;exact rfl;(intro w' hm;exact hC w' _ hm))|(apply aA (f:=20);exact rfl;exact rfl;(intro w' hm;exact hY w' _ hm);rintro _ _ ⟨a,rfl,rfl⟩;unfold aN)|(apply ak (d:=27);exact rfl;apply eV;exact rfl;exact rfl;exact ⟨by omega,by omega⟩)|(apply aa (f:=40);exact rfl;exact rfl;(intro w' hm;exact hD w' _ _ pK hm))|(apply aa (f:=41);exact rfl;exact rfl;(intro w' _;exact hM w'))|refine sT ?_|refine sS ?_|refine sM fun _=> ?_|(refine sC ?_ ?_<;>intro hb<;>try omega)|fail)
    all_goals first
      |(exfalso;omega)
      |(refine eM eIO rfl rfl pK rfl rfl rfl rfl (H' := [.own (a.e) 52 3 (b.ents.length) a.ce (b.ents.flatMap aJ),.own (a.r) 54 7 (b.rules.length) a.cr (b.rules.flatMap bu),.own (a.g) 56 8 (b.grants.length) a.cg (b.grants.flatMap bn),.own (a.l) 58 9 (b.log.length) a.cl (b.log.flatMap bf),.own (a.s) 62 11 (b.rels.length) a.cs (b.rels.flatMap aO)]) mS ⟨a,rfl,rfl⟩;done)
  |true=>
    rw [if_pos ⟨.inl rfl,rfl⟩]
    rcases hpos.resolve_left (by decide) with hk|hk|hk|hk|hk
    · obtain ⟨L,hL⟩: ∃ L,b.ents.filter (iH o)=L:=⟨_,rfl⟩
      have hLl:L.length≤1000000:=Rt (hL ▸ SX _ _) hs1
      have hdel:=fun (A:Option Nat) (cap go:Nat) (H T:List Blk) (h1:Sel (.own A 52 3 b.ents.length cap (b.ents.flatMap aJ)) H T) (h2:In (.box go 37 (bO o)) T)=>Cy b.ents o go cap w A hs1 h1 h2
      rw [hL] at hdel
      rw [tK,if_pos (by omega)]
      dsimp only
      rw [hL]
      by_cases hin:o.input=av
      · rw [tG,if_pos hin]
        simp only [aW,aN,el1,el2] at hC ⊢
        repeat' (first|(apply aa (f:=15);exact rfl;exact rfl;(intro w' hm;exact hC w' _ hm))|(apply aA (f:=20);exact rfl;exact rfl;(intro w' hm;exact hY w' _ hm);rintro _ _ ⟨a,rfl,rfl⟩;unfold aN)|(apply ak (d:=27);exact rfl;apply eV;exact rfl;exact rfl;exact ⟨by omega,by omega⟩)|(apply aa (f:=40);exact rfl;exact rfl;(intro w' hm;exact hD w' _ _ pK hm))|(apply aa (f:=41);exact rfl;exact rfl;(intro w' _;exact hM w'))|(apply aa (f:=42);exact rfl;exact rfl;(intro w' hm;exact hE w' _ hm))|(apply aQ (d:=61);(iterate 3 exact rfl);exact pK;exact pK;exact rfl;(intro u hu;simp [bf] at hu;rcases hu with rfl|rfl|rfl|rfl|rfl|rfl|rfl|rfl|rfl<;>rfl);omega;(simp only [maxLen];omega);intro g61 c61)|(apply aw (f:=43);exact rfl;exact rfl;exact hdel _ _ _ _ _ pK pK;rintro _ _ ⟨rfl,rfl⟩)|(apply ak (d:=80);exact rfl;apply ut (b:=av);exact rfl;exact rfl)|refine sT ?_|refine sS ?_|refine sM fun _=> ?_|(refine sC ?_ ?_<;>intro hb<;>try omega)|fail)
        all_goals first
          |(exfalso;omega)
          |(exact absurd hin hb)
          |(refine eM eIO rfl rfl pK rfl rfl rfl rfl (H' := [.own (a.e) 52 3 (L.length) a.ce (L.flatMap aJ),.own (a.r) 54 7 (b.rules.length) a.cr (b.rules.flatMap bu),.own (a.g) 56 8 (b.grants.length) a.cg (b.grants.flatMap bn),.own (some g61) 58 9 (b.log.length+1) c61 (b.log.flatMap bf++bf ev1),.own (a.s) 62 11 (b.rels.length) a.cs (b.rels.flatMap aO)]) mS ⟨⟨a.e,a.r,a.g,some g61,a.s,a.ce,a.cr,a.cg,c61,a.cs⟩,rfl,rfl⟩;done)
      · rw [tG,if_neg hin]
        simp only [aW,aN,el1,el2] at hC ⊢
        repeat' (first|(apply aa (f:=15);exact rfl;exact rfl;(intro w' hm;exact hC w' _ hm))|(apply aA (f:=20);exact rfl;exact rfl;(intro w' hm;exact hY w' _ hm);rintro _ _ ⟨a,rfl,rfl⟩;unfold aN)|(apply ak (d:=27);exact rfl;apply eV;exact rfl;exact rfl;exact ⟨by omega,by omega⟩)|(apply aa (f:=40);exact rfl;exact rfl;(intro w' hm;exact hD w' _ _ pK hm))|(apply aa (f:=41);exact rfl;exact rfl;(intro w' _;exact hM w'))|(apply aa (f:=42);exact rfl;exact rfl;(intro w' hm;exact hE w' _ hm))|(apply aQ (d:=61);(iterate 3 exact rfl);exact pK;exact pK;exact rfl;(intro u hu;simp [bf] at hu;rcases hu with rfl|rfl|rfl|rfl|rfl|rfl|rfl|rfl|rfl<;>rfl);omega;(simp only [maxLen];omega);intro g61 c61)|(apply aw (f:=43);exact rfl;exact rfl;exact hdel _ _ _ _ _ pK pK;rintro _ _ ⟨rfl,rfl⟩)|(apply ak (d:=80);exact rfl;apply ut (b:=av);exact rfl;exact rfl)|refine sT ?_|refine sS ?_|refine sM fun _=> ?_|(refine sC ?_ ?_<;>intro hb<;>try omega)|fail)
        all_goals try (exfalso;omega)
        all_goals try (exact absurd (Decidable.not_not.1 hb) hin)
        rename_i g2 g3 g4 _ g9 g60 _ _ g11
        obtain ⟨ae,ar,ag,al,as_,ce,cr,cg,cl,cs⟩:=a
        have hLs:=fun (a b:Rf) w=>zG a b w
        refine ax [3,4,5,6,7,11] rfl (fun i:Nat=> [(12,.int .i64 (i:Int))]) (fun _=> [.box g11 50 (bh (toO o)),.box g4 28 [.int .i64 b.users,sl ae L.length ce,sl ar b.rules.length cr,sl ag b.grants.length cg,sl (some g61) (b.log.length+1) c61,sl as_ b.rels.length cs,.int .i64 (b.step+1)],.box g3 37 (bO o),.own (ae) 52 3 (L.length) ce (L.flatMap aJ),.own (ar) 54 7 (b.rules.length) cr (b.rules.flatMap bu),.own (ag) 56 8 (b.grants.length) cg (b.grants.flatMap bn),.own (some g61) 58 9 (b.log.length+1) c61 (b.log.flatMap bf++bf ev1),.own (as_) 62 11 (b.rels.length) cs (b.rels.flatMap aO)]) (fun i=>i≤L.length∧ ∀ j (h:j<L.length),j<i→aU L[j].at_ (toO o)=true) (fun i=>L.length - i) 0 ⟨by omega,fun j _ h=>by omega⟩ sB mS ?_
        rintro i ⟨hi,hall⟩
        by_cases hlt:i<L.length
        · refine eH (A:=ae) pK (by omega) fun ga hA=> ?_
          subst hA
          have hread:((L.flatMap aJ).drop (0+i*3+0)).take 2=bh L[i].at_:=by
            have h1:=M4 hlt
            rw [Ta]
            calc ((L.flatMap aJ).drop (0+i*3)).take 2=(((L.flatMap aJ).drop (0+i*3)).take 3).take 2:=by rw [List.take_take];rfl
              _=_:=by rw [h1];rfl
          have hLi:=hLs L[i].at_ (toO o)
          obtain ⟨cc,hcc⟩: ∃ cc,aU L[i].at_ (toO o)=cc:=⟨_,rfl⟩
          rw [hcc] at hLi
          cases cc with
          |true=>
            repeat' (first|(apply cj (id:=21) [13] [];kernel_rfl;kernel_rfl;kernel_rfl)|(apply da (d:=97);(iterate 3 exact rfl);apply aj (j:=i);exact rfl;exact rfl;omega)|(apply da (d:=99);(iterate 3 exact rfl);apply aM;exact rfl;exact pK;exact hread;exact rfl)|(apply aa (f:=46);exact rfl;exact rfl;(intro w' _;exact hLi w'))|refine sT ?_|refine sS ?_|refine sW ?_|refine sN ?_|refine sWN ?_|refine sM fun _=> ?_|(refine sC ?_ ?_<;>intro hb<;>try omega)|(refine sCW ?_ ?_<;>intro hb<;>try omega)|fail)
            all_goals first
              |(exfalso;omega)
              | (refine ⟨i + 1, ⟨hlt, fun j hj hji => ?_⟩, by omega, by exact sB, by exact sB, by exact mS⟩
                 rcases (by omega:j<i∨j=i) with h|rfl
                 · exact hall j hj h
                 · exact hcc)
          |false=>
            have hpe:=tS hi hall (.inr ⟨hlt,hcc⟩)
            have hpl:(L.take i++(⟨toO o,o.input⟩:Et)::L.drop i).length=L.length+1:=by simp [Rq,Rk];omega
            rw [hpe,hpl]
            repeat' (first|(apply cj (id:=21) [13] [];kernel_rfl;kernel_rfl;kernel_rfl)|(apply da (d:=97);(iterate 3 exact rfl);apply aj (j:=i);exact rfl;exact rfl;omega)|(apply da (d:=99);(iterate 3 exact rfl);apply aM;exact rfl;exact pK;exact hread;exact rfl)|(apply aa (f:=46);exact rfl;exact rfl;(intro w' _;exact hLi w'))|(apply aw (f:=47);exact rfl;exact rfl;exact l6 L i hi ⟨toO o,o.input⟩ _ _ hLl w pK;rintro _ _ ⟨A9,c9,rfl,rfl⟩)|refine sT ?_|refine sS ?_|refine sW ?_|refine sN ?_|refine sWN ?_|refine sM fun _=> ?_|(refine sC ?_ ?_<;>intro hb<;>try omega)|(refine sCW ?_ ?_<;>intro hb<;>try omega)|fail)
            all_goals first
              |(exfalso;omega)
              |(refine eM eIO rfl rfl pK rfl rfl rfl rfl (H' := [.own (A9) 52 3 (L.length+1) c9 ((L.take i++(⟨toO o,o.input⟩:Et)::L.drop i).flatMap aJ),.own (ar) 54 7 (b.rules.length) cr (b.rules.flatMap bu),.own (ag) 56 8 (b.grants.length) cg (b.grants.flatMap bn),.own (some g61) 58 9 (b.log.length+1) c61 (b.log.flatMap bf++bf ev1),.own (as_) 62 11 (b.rels.length) cs (b.rels.flatMap aO)]) mS ⟨⟨A9,ar,ag,some g61,as_,c9,cr,cg,c61,cs⟩,rfl,rfl⟩;done)
        · have hpe:=tS hi hall (.inl (by omega))
          have hpl:(L.take i++(⟨toO o,o.input⟩:Et)::L.drop i).length=L.length+1:=by simp [Rq,Rk];omega
          rw [hpe,hpl]
          repeat' (first|(apply cj (id:=21) [13] [];kernel_rfl;kernel_rfl;kernel_rfl)|(apply aw (f:=47);exact rfl;exact rfl;exact l6 L i hi ⟨toO o,o.input⟩ _ _ hLl w pK;rintro _ _ ⟨A9,c9,rfl,rfl⟩)|refine sT ?_|refine sS ?_|refine sW ?_|refine sN ?_|refine sWN ?_|refine sM fun _=> ?_|(refine sC ?_ ?_<;>intro hb<;>try omega)|(refine sCW ?_ ?_<;>intro hb<;>try omega)|fail)
          all_goals first
            |(exfalso;omega)
            |(refine eM eIO rfl rfl pK rfl rfl rfl rfl (H' := [.own (A9) 52 3 (L.length+1) c9 ((L.take i++(⟨toO o,o.input⟩:Et)::L.drop i).flatMap aJ),.own (ar) 54 7 (b.rules.length) cr (b.rules.flatMap bu),.own (ag) 56 8 (b.grants.length) cg (b.grants.flatMap bn),.own (some g61) 58 9 (b.log.length+1) c61 (b.log.flatMap bf++bf ev1),.own (as_) 62 11 (b.rels.length) cs (b.rels.flatMap aO)]) mS ⟨⟨A9,ar,ag,some g61,as_,c9,cr,cg,c61,cs⟩,rfl,rfl⟩;done)
    · obtain ⟨L,hL⟩: ∃ L,b.ents.filter (iH o)=L:=⟨_,rfl⟩
      have hLl:L.length≤1000000:=Rt (hL ▸ SX _ _) hs1
      have hdel:=fun (A:Option Nat) (cap go:Nat) (H T:List Blk) (h1:Sel (.own A 52 3 b.ents.length cap (b.ents.flatMap aJ)) H T) (h2:In (.box go 37 (bO o)) T)=>Cy b.ents o go cap w A hs1 h1 h2
      rw [hL] at hdel
      rw [tK,if_pos (by omega)]
      dsimp only
      rw [hL]
      by_cases hin:o.input=av
      · rw [tG,if_pos hin]
        simp only [aW,aN,el1,el2] at hC ⊢
        repeat' (first|(apply aa (f:=15);exact rfl;exact rfl;(intro w' hm;exact hC w' _ hm))|(apply aA (f:=20);exact rfl;exact rfl;(intro w' hm;exact hY w' _ hm);rintro _ _ ⟨a,rfl,rfl⟩;unfold aN)|(apply ak (d:=27);exact rfl;apply eV;exact rfl;exact rfl;exact ⟨by omega,by omega⟩)|(apply aa (f:=40);exact rfl;exact rfl;(intro w' hm;exact hD w' _ _ pK hm))|(apply aa (f:=41);exact rfl;exact rfl;(intro w' _;exact hM w'))|(apply aa (f:=42);exact rfl;exact rfl;(intro w' hm;exact hE w' _ hm))|(apply aQ (d:=61);(iterate 3 exact rfl);exact pK;exact pK;exact rfl;(intro u hu;simp [bf] at hu;rcases hu with rfl|rfl|rfl|rfl|rfl|rfl|rfl|rfl|rfl<;>rfl);omega;(simp only [maxLen];omega);intro g61 c61)|(apply aw (f:=43);exact rfl;exact rfl;exact hdel _ _ _ _ _ pK pK;rintro _ _ ⟨rfl,rfl⟩)|(apply ak (d:=80);exact rfl;apply ut (b:=av);exact rfl;exact rfl)|refine sT ?_|refine sS ?_|refine sM fun _=> ?_|(refine sC ?_ ?_<;>intro hb<;>try omega)|fail)
        all_goals first
          |(exfalso;omega)
          |(exact absurd hin hb)
          |(refine eM eIO rfl rfl pK rfl rfl rfl rfl (H' := [.own (a.e) 52 3 (L.length) a.ce (L.flatMap aJ),.own (a.r) 54 7 (b.rules.length) a.cr (b.rules.flatMap bu),.own (a.g) 56 8 (b.grants.length) a.cg (b.grants.flatMap bn),.own (some g61) 58 9 (b.log.length+1) c61 (b.log.flatMap bf++bf ev1),.own (a.s) 62 11 (b.rels.length) a.cs (b.rels.flatMap aO)]) mS ⟨⟨a.e,a.r,a.g,some g61,a.s,a.ce,a.cr,a.cg,c61,a.cs⟩,rfl,rfl⟩;done)
      · rw [tG,if_neg hin]
        simp only [aW,aN,el1,el2] at hC ⊢
        repeat' (first|(apply aa (f:=15);exact rfl;exact rfl;(intro w' hm;exact hC w' _ hm))|(apply aA (f:=20);exact rfl;exact rfl;(intro w' hm;exact hY w' _ hm);rintro _ _ ⟨a,rfl,rfl⟩;unfold aN)|(apply ak (d:=27);exact rfl;apply eV;exact rfl;exact rfl;exact ⟨by omega,by omega⟩)|(apply aa (f:=40);exact rfl;exact rfl;(intro w' hm;exact hD w' _ _ pK hm))|(apply aa (f:=41);exact rfl;exact rfl;(intro w' _;exact hM w'))|(apply aa (f:=42);exact rfl;exact rfl;(intro w' hm;exact hE w' _ hm))|(apply aQ (d:=61);(iterate 3 exact rfl);exact pK;exact pK;exact rfl;(intro u hu;simp [bf] at hu;rcases hu with rfl|rfl|rfl|rfl|rfl|rfl|rfl|rfl|rfl<;>rfl);omega;(simp only [maxLen];omega);intro g61 c61)|(apply aw (f:=43);exact rfl;exact rfl;exact hdel _ _ _ _ _ pK pK;rintro _ _ ⟨rfl,rfl⟩)|(apply ak (d:=80);exact rfl;apply ut (b:=av);exact rfl;exact rfl)|refine sT ?_|refine sS ?_|refine sM fun _=> ?_|(refine sC ?_ ?_<;>intro hb<;>try omega)|fail)
        all_goals try (exfalso;omega)
        all_goals try (exact absurd (Decidable.not_not.1 hb) hin)
        rename_i g2 g3 g4 _ g9 g60 _ _ g11
        obtain ⟨ae,ar,ag,al,as_,ce,cr,cg,cl,cs⟩:=a
        have hLs:=fun (a b:Rf) w=>zG a b w
        refine ax [3,4,5,6,7,11] rfl (fun i:Nat=> [(12,.int .i64 (i:Int))]) (fun _=> [.box g11 50 (bh (toO o)),.box g4 28 [.int .i64 b.users,sl ae L.length ce,sl ar b.rules.length cr,sl ag b.grants.length cg,sl (some g61) (b.log.length+1) c61,sl as_ b.rels.length cs,.int .i64 (b.step+1)],.box g3 37 (bO o),.own (ae) 52 3 (L.length) ce (L.flatMap aJ),.own (ar) 54 7 (b.rules.length) cr (b.rules.flatMap bu),.own (ag) 56 8 (b.grants.length) cg (b.grants.flatMap bn),.own (some g61) 58 9 (b.log.length+1) c61 (b.log.flatMap bf++bf ev1),.own (as_) 62 11 (b.rels.length) cs (b.rels.flatMap aO)]) (fun i=>i≤L.length∧ ∀ j (h:j<L.length),j<i→aU L[j].at_ (toO o)=true) (fun i=>L.length - i) 0 ⟨by omega,fun j _ h=>by omega⟩ sB mS ?_
        rintro i ⟨hi,hall⟩
        by_cases hlt:i<L.length
        · refine eH (A:=ae) pK (by omega) fun ga hA=> ?_
          subst hA
          have hread:((L.flatMap aJ).drop (0+i*3+0)).take 2=bh L[i].at_:=by
            have h1:=M4 hlt
            rw [Ta]
            calc ((L.flatMap aJ).drop (0+i*3)).take 2=(((L.flatMap aJ).drop (0+i*3)).take 3).take 2:=by rw [List.take_take];rfl
              _=_:=by rw [h1];rfl
          have hLi:=hLs L[i].at_ (toO o)
          obtain ⟨cc,hcc⟩: ∃ cc,aU L[i].at_ (toO o)=cc:=⟨_,rfl⟩
          rw [hcc] at hLi
          cases cc with
          |true=>
            repeat' (first|(apply cj (id:=21) [13] [];kernel_rfl;kernel_rfl;kernel_rfl)|(apply da (d:=97);(iterate 3 exact rfl);apply aj (j:=i);exact rfl;exact rfl;omega)|(apply da (d:=99);(iterate 3 exact rfl);apply aM;exact rfl;exact pK;exact hread;exact rfl)|(apply aa (f:=46);exact rfl;exact rfl;(intro w' _;exact hLi w'))|refine sT ?_|refine sS ?_|refine sW ?_|refine sN ?_|refine sWN ?_|refine sM fun _=> ?_|(refine sC ?_ ?_<;>intro hb<;>try omega)|(refine sCW ?_ ?_<;>intro hb<;>try omega)|fail)
            all_goals first
              |(exfalso;omega)
              | (refine ⟨i + 1, ⟨hlt, fun j hj hji => ?_⟩, by omega, by exact sB, by exact sB, by exact mS⟩
                 rcases (by omega:j<i∨j=i) with h|rfl
                 · exact hall j hj h
                 · exact hcc)
          |false=>
            have hpe:=tS hi hall (.inr ⟨hlt,hcc⟩)
            have hpl:(L.take i++(⟨toO o,o.input⟩:Et)::L.drop i).length=L.length+1:=by simp [Rq,Rk];omega
            rw [hpe,hpl]
            repeat' (first|(apply cj (id:=21) [13] [];kernel_rfl;kernel_rfl;kernel_rfl)|(apply da (d:=97);(iterate 3 exact rfl);apply aj (j:=i);exact rfl;exact rfl;omega)|(apply da (d:=99);(iterate 3 exact rfl);apply aM;exact rfl;exact pK;exact hread;exact rfl)|(apply aa (f:=46);exact rfl;exact rfl;(intro w' _;exact hLi w'))|(apply aw (f:=47);exact rfl;exact rfl;exact l6 L i hi ⟨toO o,o.input⟩ _ _ hLl w pK;rintro _ _ ⟨A9,c9,rfl,rfl⟩)|refine sT ?_|refine sS ?_|refine sW ?_|refine sN ?_|refine sWN ?_|refine sM fun _=> ?_|(refine sC ?_ ?_<;>intro hb<;>try omega)|(refine sCW ?_ ?_<;>intro hb<;>try omega)|fail)
            all_goals first
              |(exfalso;omega)
              |(refine eM eIO rfl rfl pK rfl rfl rfl rfl (H' := [.own (A9) 52 3 (L.length+1) c9 ((L.take i++(⟨toO o,o.input⟩:Et)::L.drop i).flatMap aJ),.own (ar) 54 7 (b.rules.length) cr (b.rules.flatMap bu),.own (ag) 56 8 (b.grants.length) cg (b.grants.flatMap bn),.own (some g61) 58 9 (b.log.length+1) c61 (b.log.flatMap bf++bf ev1),.own (as_) 62 11 (b.rels.length) cs (b.rels.flatMap aO)]) mS ⟨⟨A9,ar,ag,some g61,as_,c9,cr,cg,c61,cs⟩,rfl,rfl⟩;done)
        · have hpe:=tS hi hall (.inl (by omega))
          have hpl:(L.take i++(⟨toO o,o.input⟩:Et)::L.drop i).length=L.length+1:=by simp [Rq,Rk];omega
          rw [hpe,hpl]
          repeat' (first|(apply cj (id:=21) [13] [];kernel_rfl;kernel_rfl;kernel_rfl)|(apply aw (f:=47);exact rfl;exact rfl;exact l6 L i hi ⟨toO o,o.input⟩ _ _ hLl w pK;rintro _ _ ⟨A9,c9,rfl,rfl⟩)|refine sT ?_|refine sS ?_|refine sW ?_|refine sN ?_|refine sWN ?_|refine sM fun _=> ?_|(refine sC ?_ ?_<;>intro hb<;>try omega)|(refine sCW ?_ ?_<;>intro hb<;>try omega)|fail)
          all_goals first
            |(exfalso;omega)
            |(refine eM eIO rfl rfl pK rfl rfl rfl rfl (H' := [.own (A9) 52 3 (L.length+1) c9 ((L.take i++(⟨toO o,o.input⟩:Et)::L.drop i).flatMap aJ),.own (ar) 54 7 (b.rules.length) cr (b.rules.flatMap bu),.own (ag) 56 8 (b.grants.length) cg (b.grants.flatMap bn),.own (some g61) 58 9 (b.log.length+1) c61 (b.log.flatMap bf++bf ev1),.own (as_) 62 11 (b.rels.length) cs (b.rels.flatMap aO)]) mS ⟨⟨A9,ar,ag,some g61,as_,c9,cr,cg,c61,cs⟩,rfl,rfl⟩;done)
    · have e1:(b.rules++ [(⟨o.rect,o.rd,o.wr,o.ow⟩:Rl)]).length=b.rules.length+1:=by rw [QP];rfl
      have e2:(b.rules++ [(⟨o.rect,o.rd,o.wr,o.ow⟩:Rl)]).flatMap bu=b.rules.flatMap bu++bu ⟨o.rect,o.rd,o.wr,o.ow⟩:=by rw [Rm,Rj,RC,QW]
      rw [tK,if_neg (by omega),if_pos hk]
      simp only [aW,aN,el1,el2,e1,e2] at hC ⊢
      repeat' (first|(apply aa (f:=15);exact rfl;exact rfl;(intro w' hm;exact hC w' _ hm))|(apply aA (f:=20);exact rfl;exact rfl;(intro w' hm;exact hY w' _ hm);rintro _ _ ⟨a,rfl,rfl⟩;unfold aN)|(apply ak (d:=27);exact rfl;apply eV;exact rfl;exact rfl;exact ⟨by omega,by omega⟩)|(apply aa (f:=40);exact rfl;exact rfl;(intro w' hm;exact hD w' _ _ pK hm))|(apply aa (f:=41);exact rfl;exact rfl;(intro w' _;exact hM w'))|(apply aa (f:=42);exact rfl;exact rfl;(intro w' hm;exact hE w' _ hm))|(apply aQ (d:=61);(iterate 3 exact rfl);exact pK;exact pK;exact rfl;(intro u hu;simp [bf] at hu;rcases hu with rfl|rfl|rfl|rfl|rfl|rfl|rfl|rfl|rfl<;>rfl);omega;(simp only [maxLen];omega);intro g61 c61)|(apply aQ (d:=124);(iterate 3 exact rfl);exact pK;exact pK;exact rfl;(intro u hu;simp at hu;rcases hu with rfl|rfl|rfl|rfl|rfl|rfl|rfl<;>rfl);omega;(simp only [maxLen];omega);intro g7 c7)|refine sT ?_|refine sS ?_|refine sM fun _=> ?_|(refine sC ?_ ?_<;>intro hb<;>try omega)|fail)
      all_goals first
        |(exfalso;omega)
        |(refine eM eIO rfl rfl pK rfl rfl rfl rfl (H' := [.own (a.e) 52 3 (b.ents.length) a.ce (b.ents.flatMap aJ),.own (some g7) 54 7 (b.rules.length+1) c7 (b.rules.flatMap bu++bu ⟨o.rect,o.rd,o.wr,o.ow⟩),.own (a.g) 56 8 (b.grants.length) a.cg (b.grants.flatMap bn),.own (some g61) 58 9 (b.log.length+1) c61 (b.log.flatMap bf++bf ev1),.own (a.s) 62 11 (b.rels.length) a.cs (b.rels.flatMap aO)]) mS ⟨⟨a.e,some g7,a.g,some g61,a.s,a.ce,c7,a.cg,c61,a.cs⟩,rfl,rfl⟩;done)
    · have e1:(b.grants++ [(⟨o.rect,o.fns,o.to,o.user,false⟩:Gn)]).length=b.grants.length+1:=by rw [QP];rfl
      have e2:(b.grants++ [(⟨o.rect,o.fns,o.to,o.user,false⟩:Gn)]).flatMap bn=b.grants.flatMap bn++bn ⟨o.rect,o.fns,o.to,o.user,false⟩:=by rw [Rm,Rj,RC,QW]
      rw [tK,if_neg (by omega),if_neg (by omega),if_pos hk]
      simp only [aW,aN,el1,el2,e1,e2] at hC ⊢
      repeat' (first|(apply aa (f:=15);exact rfl;exact rfl;(intro w' hm;exact hC w' _ hm))|(apply aA (f:=20);exact rfl;exact rfl;(intro w' hm;exact hY w' _ hm);rintro _ _ ⟨a,rfl,rfl⟩;unfold aN)|(apply ak (d:=27);exact rfl;apply eV;exact rfl;exact rfl;exact ⟨by omega,by omega⟩)|(apply aa (f:=40);exact rfl;exact rfl;(intro w' hm;exact hD w' _ _ pK hm))|(apply aa (f:=41);exact rfl;exact rfl;(intro w' _;exact hM w'))|(apply aa (f:=42);exact rfl;exact rfl;(intro w' hm;exact hE w' _ hm))|(apply aQ (d:=61);(iterate 3 exact rfl);exact pK;exact pK;exact rfl;(intro u hu;simp [bf] at hu;rcases hu with rfl|rfl|rfl|rfl|rfl|rfl|rfl|rfl|rfl<;>rfl);omega;(simp only [maxLen];omega);intro g61 c61)|(apply aQ (d:=140);(iterate 3 exact rfl);exact pK;exact pK;exact rfl;(intro u hu;simp at hu;rcases hu with rfl|rfl|rfl|rfl|rfl|rfl|rfl|rfl<;>rfl);omega;(simp only [maxLen];omega);intro g8 c8)|refine sT ?_|refine sS ?_|refine sM fun _=> ?_|(refine sC ?_ ?_<;>intro hb<;>try omega)|fail)
      all_goals first
        |(exfalso;omega)
        |(refine eM eIO rfl rfl pK rfl rfl rfl rfl (H' := [.own (a.e) 52 3 (b.ents.length) a.ce (b.ents.flatMap aJ),.own (a.r) 54 7 (b.rules.length) a.cr (b.rules.flatMap bu),.own (some g8) 56 8 (b.grants.length+1) c8 (b.grants.flatMap bn++bn ⟨o.rect,o.fns,o.to,o.user,false⟩),.own (some g61) 58 9 (b.log.length+1) c61 (b.log.flatMap bf++bf ev1),.own (a.s) 62 11 (b.rels.length) a.cs (b.rels.flatMap aO)]) mS ⟨⟨a.e,a.r,some g8,some g61,a.s,a.ce,a.cr,c8,c61,a.cs⟩,rfl,rfl⟩;done)
    · obtain ⟨j,hj⟩: ∃ j:Nat,o.idx=(j:Int)∧j<b.grants.length:=by
        have h4:tst b o 4=false:=by
          rcases h:tst b o 4 with _|_
          · rfl
          · exfalso
            unfold cdE at hcd
            rw [h] at hcd
            revert hcd
            (repeat' split)<;>intro hcd<;>injection hcd with h1 h2<;>first|(exact absurd h1 (by decide))|contradiction
        have:=O2 h4 hk
        exact ⟨o.idx.toNat,by omega,by omega⟩
      obtain ⟨hj,hjl⟩:=hj
      have hrv:HB b.grants o.idx.toNat=b.grants.set j ⟨b.grants[j].rect,b.grants[j].fns,b.grants[j].to,b.grants[j].by_,true⟩:=by
        unfold HB
        rw [hj,SD,QQ hjl]
      rw [tK,if_neg (by omega),if_neg (by omega),if_neg (by omega),if_pos hk]
      dsimp only
      rw [hrv]
      have e1:(b.grants.set j ⟨b.grants[j].rect,b.grants[j].fns,b.grants[j].to,b.grants[j].by_,true⟩).length=b.grants.length:=Tn
      have e2:(b.grants.set j ⟨b.grants[j].rect,b.grants[j].fns,b.grants[j].to,b.grants[j].by_,true⟩).flatMap bn=(b.grants.flatMap bn).set (0+j*8+7) (.bool true):=by
        rw [RB]
        exact (xz b.grants j hjl).symm
      have hfit:0+j*8+7<(b.grants.flatMap bn).length:=by rw [aP cX];omega
      simp only [aW,aN,el1,el2,e1,e2] at hC ⊢
      repeat' (first|(apply aa (f:=15);exact rfl;exact rfl;(intro w' hm;exact hC w' _ hm))|(apply aA (f:=20);exact rfl;exact rfl;(intro w' hm;exact hY w' _ hm);rintro _ _ ⟨a,rfl,rfl⟩;unfold aN)|(apply ak (d:=27);exact rfl;apply eV;exact rfl;exact rfl;exact ⟨by omega,by omega⟩)|(apply aa (f:=40);exact rfl;exact rfl;(intro w' hm;exact hD w' _ _ pK hm))|(apply aa (f:=41);exact rfl;exact rfl;(intro w' _;exact hM w'))|(apply aa (f:=42);exact rfl;exact rfl;(intro w' hm;exact hE w' _ hm))|(apply aQ (d:=61);(iterate 3 exact rfl);exact pK;exact pK;exact rfl;(intro u hu;simp [bf] at hu;rcases hu with rfl|rfl|rfl|rfl|rfl|rfl|rfl|rfl|rfl<;>rfl);omega;(simp only [maxLen];omega);intro g61 c61)|(apply ak (d:=148);exact rfl;apply aj (j:=j);exact rfl;(rw [← hj];exact rfl);exact hjl)|(apply gF;exact rfl;exact rfl;exact pK;exact rfl;exact hfit)|refine sT ?_|refine sS ?_|refine sM fun _=> ?_|(refine sC ?_ ?_<;>intro hb<;>try omega)|fail)
      all_goals try (exfalso;omega)
      obtain ⟨ae,ar,ag,al,as_,ce,cr,cg,cl,cs⟩:=a
      refine yA (A:=ag) (xs:=b.grants.flatMap bn) pK (by omega) fun gg hA=> ?_
      subst hA
      repeat' (first|(apply ak (d:=148);exact rfl;apply aj (j:=j);exact rfl;(rw [← hj];exact rfl);exact hjl)|(apply gF;exact rfl;exact rfl;exact pK;exact rfl;exact hfit)|refine sT ?_|refine sS ?_|refine sM fun _=> ?_|(refine sC ?_ ?_<;>intro hb<;>try omega)|fail)
      all_goals first
        |(exfalso;omega)
        |(refine eM eIO rfl rfl pK rfl rfl rfl rfl (H' := [.own (ae) 52 3 (b.ents.length) ce (b.ents.flatMap aJ),.own (ar) 54 7 (b.rules.length) cr (b.rules.flatMap bu),.own (some gg) 56 8 (b.grants.length) cg ((b.grants.flatMap bn).set (0+j*8+7) (.bool true)),.own (some g61) 58 9 (b.log.length+1) c61 (b.log.flatMap bf++bf ev1),.own (as_) 62 11 (b.rels.length) cs (b.rels.flatMap aO)]) mS ⟨⟨ae,ar,some gg,some g61,as_,ce,cr,cg,c61,cs⟩,rfl,rfl⟩;done)
end Go.SL
namespace Go.SL
open Go Go.Proofs
attribute [local irreducible] W WL WQ WG WA WX WLI WR WT WC WE VOp RW thn blk bE scp aV bo bI aK FnIn FnP ceP
theorem Ns (L:List Et) (o:Ox):(tG L o).length≤L.length+1:=by
 unfold tG
 split
 ·
  omega
 ·
  have h:=congrArg List.length (Si (HN L (toO o)) L)
  rw [QP] at h
  rw [QP,Rp]
  omega
theorem LV {b:Bk} {o:Ox}:(apE b o).1.ents.length≤b.ents.length+1:=by
 have hl:(lZ b o).ents=b.ents:=rfl
 unfold apE
 split
 ·
  exact QX _
 split
 ·
  exact QX _
 split
 ·
  show (lZ b o).ents.length≤_
  rw [hl];omega
 ·
  unfold tK
  split
  ·
   have h1:=Ns ((lZ b o).ents.filter (iH o)) o
   have h2:=SX (iH o) (lZ b o).ents
   rw [hl] at h1 h2
   show (tG ((lZ b o).ents.filter (iH o)) o).length≤_
   rw [hl];omega
  split
  ·
   show (lZ b o).ents.length≤_
   rw [hl];omega
  split
  ·
   show (lZ b o).ents.length≤_
   rw [hl];omega
  split
  ·
   show (lZ b o).ents.length≤_
   rw [hl];omega
  ·
   show (lZ b o).ents.length≤_
   rw [hl];omega
end Go.SL
namespace Go.SL
open Go
theorem Ka (N:List Gn) (i:Nat):(HB N i).length=N.length:=by
 unfold HB
 split
 ·
  exact Tn
 ·
  rfl
theorem KN (b:Bk) (o:Ox):(lZ b o).log.length≤b.log.length+1:=by
 unfold lZ
 dsimp only
 split
 ·
  rw [QP,QS];exact QV _
 ·
  omega
theorem NU {b:Bk} {o:Ox}:(apE b o).1.rules.length≤b.rules.length+1∧(apE b o).1.grants.length≤b.grants.length+1∧(apE b o).1.log.length≤b.log.length+1∧(apE b o).1.rels.length≤b.rels.length:=by
 have hl:=KN b o
 have h1:(lZ b o).rules=b.rules:=rfl
 have h2:(lZ b o).grants=b.grants:=rfl
 have h3:(lZ b o).rels=b.rels:=rfl
 unfold apE
 split
 ·
  exact ⟨QX _,QX _,QX _,QX _⟩
 split
 ·
  exact ⟨QX _,QX _,QX _,QX _⟩
 split
 ·
  exact ⟨by rw [h1];omega,by rw [h2];omega,hl,by rw [h3];exact QV _⟩
 ·
  unfold tK
  split
  ·
   exact ⟨by rw [h1];omega,by rw [h2];omega,hl,by rw [h3];exact QV _⟩
  split
  ·
   refine ⟨?_,by rw [h2];omega,hl,by rw [h3];exact QV _⟩
   dsimp only
   rw [h1,QP,QS];exact QV _
  split
  ·
   refine ⟨by rw [h1];omega,?_,hl,by rw [h3];exact QV _⟩
   dsimp only
   rw [h2,QP,QS];exact QV _
  split
  ·
   refine ⟨by rw [h1];omega,?_,hl,by rw [h3];exact QV _⟩
   dsimp only
   rw [h2,Ka];omega
  ·
   exact ⟨by rw [h1];omega,by rw [h2];omega,hl,by rw [h3];exact QV _⟩
structure BkOk (b:Bk):Prop where
 u:1≤b.users∧b.users≤64
 e:(df b.ents).2=0
 r:(dX b.users b.rules).2=0
 g:(jS b.users b.grants).2=0
 l:rV b.users b.log b.rels=0
 s:0≤b.step∧b.step≤1099511627776
 le:iX b.step b.log=false
 lr:lw b.step b.rels=false
theorem jW {b:Bk}:bkE b=0↔BkOk b:=by
 constructor
 ·
  intro h
  unfold bkE at h
  split at h
  ·
   cases h
  split at h
  ·
   rename_i h2;exact absurd h h2
  split at h
  ·
   rename_i h2;exact absurd h h2
  split at h
  ·
   rename_i h2;exact absurd h h2
  split at h
  ·
   rename_i h2;exact absurd h h2
  split at h
  ·
   cases h
  split at h
  ·
   cases h
  split at h
  ·
   cases h
  exact ⟨by omega,by omega,by omega,by omega,by omega,by omega,by simp_all,by simp_all⟩
 ·
  intro h
  have h1:=h.u
  have h2:=h.s
  unfold bkE
  rw [if_neg (by omega),if_neg (by rw [h.e];decide),if_neg (by rw [h.r];decide),if_neg (by rw [h.g];decide),if_neg (by rw [h.l];decide),if_neg (by omega),if_neg (by rw [h.le];decide),if_neg (by rw [h.lr];decide)]
def WiU (u:Int) (x:BitVec 64):Prop:=x &&& ~~~(cM u).1=0#64
theorem qX {u:Int} {x:BitVec 64}:WiU u x↔ ∀ i,x.getLsbD i=true→(cM u).1.getLsbD i=true:=by
 unfold WiU
 constructor
 ·
  intro h i hx
  have h1:(x &&& ~~~(cM u).1).getLsbD i=false:=by rw [h];simp
  have hi:=LP hx
  rw [Tg,hx,BitVec.getLsbD_not,Sy] at h1
  simpa [hi] using h1
 ·
  intro h
  apply TM
  intro i hi
  rw [Tg,BitVec.getLsbD_not]
  cases hx:x.getLsbD i with
  |false=>simp
  |true=>rw [h i hx];simp
theorem zW {u:Int} {x y:BitVec 64}:WiU u (x|||y)↔WiU u x∧WiU u y:=by
 simp only [qX,BitVec.getLsbD_or,SH]
 exact ⟨fun h=>⟨fun i hi=>h i (.inl hi),fun i hi=>h i (.inr hi)⟩,fun h i hi=>hi.elim (h.1 i) (h.2 i)⟩
theorem Oj (x:BitVec 64):WiU 64 x:=by
 unfold WiU
 rw [show ~~~(cM 64).1=0#64 by decide+kernel,BitVec.and_zero]
theorem NW {u:Int} (h:1≤u∧u≤64) (i:Nat):(cM u).1.getLsbD i=decide ((i:Int)<u):=by
 unfold cM
 rw [if_neg (by omega),CM _ (by omega)]
 exact decide_eq_decide.2 (by omega)
theorem tA {u:Int}: ∀ {L:List Rl} {i:Int},(eP u L i).2=0↔ ∀ r∈L,aD r.rect=true∧WiU u (r.read|||r.write|||r.own)
 | [],_=>⟨fun _ _ h=>(by cases h),fun _=>rfl⟩
 |r::L,i=>by
  rw [eP]
  split
  ·
   rename_i h
   exact ⟨fun h=>(by cases h),fun h2=>by rw [(h2 r QT).1] at h;cases h⟩
  split
  ·
   rename_i h
   exact ⟨fun h=>(by cases h),fun h2=>absurd (h2 r QT).2 h⟩
  ·
   rename_i h1 h2
   rw [tA (L:=L)]
   refine ⟨fun h r' hr=> ?_,fun h r' hr=>h r' (Rc _ hr)⟩
   rcases Rd.1 hr with rfl|hr
   ·
    exact ⟨by simpa using h1,Classical.not_not.1 h2⟩
   ·
    exact h r' hr
theorem qL {u:Int} {L:List Rl}:(dX u L).2=0↔(1≤u∧u≤64)∧L≠ []∧L.length≤64∧L.head?.map (fun x=>x.rect)=some mM∧ ∀ r∈L,aD r.rect=true∧WiU u (r.read|||r.write|||r.own):=by
 unfold dX
 split
 ·
  rename_i h
  refine ⟨fun h=>(by cases h),fun h2=> ?_⟩
  rcases h with h|h|h|h
  ·
   omega
  ·
   omega
  ·
   omega
  ·
   exact absurd h h2.2.1
 rename_i h1
 have hL:L≠ []:=fun e=>h1 (.inr (.inr (.inr e)))
 have hu:1≤u∧u≤64:=by omega
 split
 ·
  exact ⟨fun h=>(by cases h),fun h2=>by omega⟩
 split
 ·
  rename_i h3;exact ⟨fun h=>(by cases h),fun h2=>absurd h2.2.2.2.1 h3⟩
 ·
  rename_i h2 h3
  rw [tA]
  exact ⟨fun h=>⟨hu,hL,by omega,Decidable.not_not.1 h3,h⟩,fun h=>h.2.2.2.2⟩
theorem zE {u:Int} {L:List Rl} (h:(dX u L).2=0):(dX 64 L).2=0:=by
 rw [qL] at h ⊢
 exact ⟨by decide,h.2.1,h.2.2.1,h.2.2.2.1,fun r hr=>⟨(h.2.2.2.2 r hr).1,Oj _⟩⟩
theorem sZ {u:Int}: ∀ {L:List Gn} {i:Int},(fU u L i).2=0↔ ∀ g∈L,aD g.rect=true∧EA u g=true
 | [],_=>⟨fun _ _ h=>(by cases h),fun _=>rfl⟩
 |r::L,i=>by
  rw [fU]
  split
  ·
   rename_i h
   exact ⟨fun h=>(by cases h),fun h2=>by rw [(h2 r QT).1] at h;cases h⟩
  split
  ·
   rename_i h
   exact ⟨fun h=>(by cases h),fun h2=>by rw [(h2 r QT).2] at h;cases h⟩
  ·
   rename_i h1 h2
   rw [sZ (L:=L)]
   refine ⟨fun h r' hr=> ?_,fun h r' hr=>h r' (Rc _ hr)⟩
   rcases Rd.1 hr with rfl|hr
   ·
    exact ⟨by simpa using h1,by simpa using h2⟩
   ·
    exact h r' hr
theorem iR {u:Int} {L:List Gn}:(jS u L).2=0↔(1≤u∧u≤64)∧L.length≤64∧ ∀ g∈L,aD g.rect=true∧EA u g=true:=by
 unfold jS
 split
 ·
  exact ⟨fun h=>(by cases h),fun h2=>by omega⟩
 split
 ·
  exact ⟨fun h=>(by cases h),fun h2=>by omega⟩
 ·
  rw [sZ]
  exact ⟨fun h=>⟨by omega,by omega,h⟩,fun h=>h.2.2⟩
theorem vU {u:Int} (hu:1≤u∧u≤64) {g:Gn}:EA u g=true↔(1≤g.fns∧g.fns≤31)∧WiU u g.to∧0≤g.by_∧g.by_<u:=by
 unfold EA
 rw [qy (by omega)]
 simp only [QZ,decide_eq_true_eq,and_assoc]
 exact Iff.rfl
theorem PE {u:Int} {L:List Gn} (h:(jS u L).2=0):(jS 64 L).2=0:=by
 rw [iR] at h ⊢
 refine ⟨by decide,h.2.1,fun g hg=>⟨(h.2.2 g hg).1,?_⟩⟩
 have h1:=(vU h.1).1 (h.2.2 g hg).2
 exact (vU (by decide)).2 ⟨h1.1,Oj _,h1.2.2.1,by omega⟩
def mo (last:Int):List Ev→Int
 | []=>last
 |x::l=>mo x.step l
theorem wj: ∀ (L:List Ev) (last:Int),mo last L=if L.length=0 then last else ((L[L.length - 1]?).map Ev.step).getD 0
 | [],_=>rfl
 | [x],_=>rfl
 |x::y::L,last=>by
  have ih:=wj (y::L) x.step
  rw [show mo last (x::y::L)=mo x.step (y::L) from rfl,ih]
  simp
theorem H9 {s:Int} {L:List Ev} (h:iX s L=false) (hs:0≤s):mo (-1) L<s:=by
 rw [wj]
 unfold iX at h
 split
 ·
  omega
 ·
  rw [if_pos (by omega)] at h
  simpa using h
theorem Es {s:Int} {L:List Ev} {x:Ev}:iX s (L++ [x])=decide (s≤x.step):=by
 unfold iX
 rw [if_pos (by simp),QP,QS,SF,RZ (QV _),Nat.sub_self]
 rfl
theorem Eu {s:Int} {L:List Ev} (h:iX s L=false):iX (s+1) L=false:=by
 unfold iX at h ⊢
 split
 ·
  rename_i h1
  rw [if_pos h1,decide_eq_false_iff_not] at h
  rw [decide_eq_false_iff_not];omega
 ·
  rfl
theorem Er {s:Int} {L:List Rv} (h:lw s L=false):lw (s+1) L=false:=by
 unfold lw at h ⊢
 split
 ·
  rename_i h1
  rw [if_pos h1,decide_eq_false_iff_not] at h
  rw [decide_eq_false_iff_not];omega
 ·
  rfl
theorem s6 {all:BitVec 64} {x:Ev}: ∀ {L:List Ev} {last:Int},ep all last L=0→kM all (mo last L) x=0→ep all last (L++ [x])=0
 | [],last,_,h=>by
  rw [QU,iG,if_neg (by rw [show mo last []=last from rfl] at h;rw [h];decide)];rfl
 |y::L,last,h1,h2=>by
  rw [iG] at h1
  rw [QR,iG]
  split at h1
  ·
   rename_i h;exact absurd h1 h
  ·
   rename_i h
   rw [if_neg h]
   exact s6 h1 h2
theorem mg {u:Int} {L:List Ev} {M:List Rv}:rV u L M=0↔(1≤u∧u≤64)∧ep (cM u).1 (-1) L=0∧dR (cM u).1 (-1) M=0:=by
 unfold rV
 split
 ·
  exact ⟨fun h=>(by cases h),fun h=>by omega⟩
 split
 ·
  rename_i h;exact ⟨fun h2=>absurd h2 h,fun h2=>absurd h2.2.1 h⟩
 ·
  exact ⟨fun h=>⟨by omega,by omega,h⟩,fun h=>h.2.2⟩
theorem oX: ∀ {L:List Et} {i:Nat} {b:Option Rf},(dH i b L).2=0↔(L.Pairwise fun x y=>aU x.at_ y.at_=true)∧(∀ p,b=some p→ ∀ e∈L,aU p e.at_=true)∧ ∀ e∈L,Kz e
 | [],_,_=>⟨fun _=>⟨.nil,fun _ _ e he=>(by cases he),fun e he=>(by cases he)⟩,fun _=>rfl⟩
 |x::r,i,b=>by
  rw [dH]
  split
  ·
   rename_i h
   refine ⟨fun h2=>absurd h2 h,fun h2=>absurd (xX.2 ⟨fun p hp=>h2.2.1 p hp x QT,h2.2.2 x QT⟩) h⟩
  ·
   rename_i h
   have h0:=xX.1 (Classical.not_not.1 h)
   rw [oX (L:=r)]
   constructor
   ·
    rintro ⟨h1,h2,h3⟩
    have h4:=h2 x.at_ rfl
    refine ⟨RH.2 ⟨h4,h1⟩,fun p hp e he=> ?_,fun e he=> ?_⟩
    ·
     rcases Rd.1 he with rfl|he
     ·
      exact h0.1 p hp
     ·
      exact nr (h0.1 p hp) (h4 e he)
    ·
     rcases Rd.1 he with rfl|he
     ·
      exact h0.2
     ·
      exact h3 e he
   ·
    rintro ⟨h1,h2,h3⟩
    have h4:=RH.1 h1
    exact ⟨h4.2,fun p hp e he=>by cases hp;exact h4.1 e he,fun e he=>h3 e (Rc _ he)⟩
theorem yf {L:List Et}:(df L).2=0↔(L.Pairwise fun x y=>aU x.at_ y.at_=true)∧ ∀ e∈L,Kz e:=by
 unfold df
 rw [oX]
 exact ⟨fun h=>⟨h.1,h.2.2⟩,fun h=>⟨h.1,fun p hp=>(by cases hp),h.2⟩⟩
theorem KZ {L:List Et} {o:Ox} {e:Et} (h:e∈tG L o):e∈L∨(e=⟨toO o,o.input⟩∧o.input≠av):=by
 unfold tG at h
 split at h
 ·
  exact .inl h
 ·
  rename_i hn
  rcases Rs.1 h with h|h
  ·
   exact .inl (Sj h)
  ·
   rcases Rd.1 h with h|h
   ·
    exact .inr ⟨h,hn⟩
   ·
    exact .inl (S5 h)
theorem wt {p:Et→Bool}: ∀ L:List Et,L.drop (L.takeWhile p).length=L.dropWhile p
 | []=>rfl
 |a::L=>by
  rw [Tc,Ua]
  split
  ·
   exact wt L
  ·
   rfl
theorem uM {p:Et→Bool}: ∀ L:List Et,L.take (L.takeWhile p).length=L.takeWhile p
 | []=>rfl
 |a::L=>by
  rw [Tc]
  split
  ·
   rw [Rp,Sg,uM L]
  ·
   rfl
theorem B6 {p:Et→Bool}: ∀ {L:List Et} {a:Et} {R:List Et},L.dropWhile p=a::R→p a=false
 |b::L,a,R,h=>by
  rw [Ua] at h
  split at h
  ·
   exact B6 h
  ·
   rename_i hp
   cases h
   simpa using hp
theorem w8 {p:Et→Bool}: ∀ {L:List Et},∀ a∈L.takeWhile p,p a=true
 |b::L,a,h=>by
  rw [Tc] at h
  split at h
  ·
   rename_i hb
   rcases Rd.1 h with rfl|h
   ·
    exact hb
   ·
    exact w8 a h
  ·
   cases h
theorem BZ {L:List Et} {o:Ox} (hs:L.Pairwise fun x y=>aU x.at_ y.at_=true) (hne: ∀ e∈L,e.at_≠toO o):(tG L o).Pairwise fun x y=>aU x.at_ y.at_=true:=by
 unfold tG
 split
 ·
  exact hs
 unfold HN
 rw [uM,wt]
 have hsp:L.takeWhile (fun e=>aU e.at_ (toO o))++L.dropWhile (fun e=>aU e.at_ (toO o))=L:=List.takeWhile_append_dropWhile
 rw [← hsp,Sq] at hs
 obtain ⟨h1,h2,h3⟩:=hs
 have h4: ∀ e∈L.takeWhile (fun e=>aU e.at_ (toO o)),aU e.at_ (toO o)=true:=fun e he=>w8 e he
 have h5: ∀ e∈L.dropWhile (fun e=>aU e.at_ (toO o)),aU (toO o) e.at_=true:=by
  cases hd:L.dropWhile (fun e=>aU e.at_ (toO o)) with
  |nil=>intro e he;cases he
  |cons a R=>
   have h6:=B6 hd
   rw [hd] at h2 hsp
   have haL:a∈L:=by rw [← hsp];exact TB _ QT
   have h7:aU (toO o) a.at_=true:=(BR (hne a haL)).resolve_left fun h=>by
    rw [show aU a.at_ (toO o)=false from h6] at h;cases h
   intro e he
   rcases Rd.1 he with rfl|he
   ·
    exact h7
   ·
    exact nr h7 ((RH.1 h2).1 e he)
 rw [Sq]
 refine ⟨h1,RH.2 ⟨h5,h2⟩,fun a ha b hb=> ?_⟩
 rcases Rd.1 hb with rfl|hb
 ·
  exact h4 a ha
 ·
  exact h3 a ha b hb
theorem wA {b:Bk} {o:Ox} (h:(cdE b o).1=0∨(cdE b o).1=5): ∀ j,j<5→tst b o j=false:=by
 unfold cdE at h
 have hno: ∀ {x y:Int},x≠0→x≠5→ ¬ ((x,y).1=0∨(x,y).1=5):=fun h0 h5 h=>h.elim h0 h5
 split at h
 ·
  exact absurd h (hno (by decide) (by decide))
 split at h
 ·
  exact absurd h (hno (by decide) (by decide))
 split at h
 ·
  exact absurd h (hno (by decide) (by decide))
 split at h
 ·
  exact absurd h (hno (by decide) (by decide))
 split at h
 ·
  exact absurd h (hno (by decide) (by decide))
 rename_i h0 h1 h2 h3 h4
 intro j hj
 rcases (by omega:j=0∨j=1∨j=2∨j=3∨j=4) with rfl|rfl|rfl|rfl|rfl
 ·
  simpa using h0
 ·
  simpa using h1
 ·
  simpa using h2
 ·
  simpa using h3
 ·
  simpa using h4
theorem NR {b:Bk} {o:Ox} (h:(cdE b o).1=0): ∀ j,j<8→tst b o j=false:=by
 have hf:=wA (.inl h)
 unfold cdE at h
 rw [if_neg (by rw [hf 0 (by decide)];decide),if_neg (by rw [hf 1 (by decide)];decide),if_neg (by rw [hf 2 (by decide)];decide),if_neg (by rw [hf 3 (by decide)];decide),if_neg (by rw [hf 4 (by decide)];decide)] at h
 split at h
 ·
  exact absurd h (by decide)
 split at h
 ·
  exact absurd h (by dsimp only;decide)
 split at h
 ·
  exact absurd h (by decide)
 rename_i h5 h6 h7
 intro j hj
 by_cases hj5:j<5
 ·
  exact hf j hj5
 rcases (by omega:j=5∨j=6∨j=7) with rfl|rfl|rfl
 ·
  simpa using h5
 ·
  simpa using h6
 ·
  simpa using h7
theorem FQ {m:Nat} (h:m<64) (i:Nat):(1#64<<<m).getLsbD i=decide (i=m):=by
 have hb: ∀ m:Fin 64,∀ i:Fin 64,(1#64<<<m.val).getLsbD i.val=decide (i.val=m.val):=by decide+kernel
 by_cases hi:i<64
 ·
  exact hb ⟨m,h⟩ ⟨i,hi⟩
 ·
  rw [BitVec.getLsbD_of_ge _ _ (by omega),decide_eq_false (by omega)]
theorem Pe {u:Int} {L:List Rl} {T:Rct} (hL:(dX u L).2=0) (hT:aD T=true):WiU u (ovE T L).1.2.2:=qX.2 fun i hi=>by
 have h64:=LP hi
 rw [M7 (zE hL) hT h64] at hi
 have hs:=dc.1 hT
 have h1:=hi ⟨T.c1,T.r1⟩ (dW.2 ⟨Ss _,hs.2.1,Ss _,hs.2.2.2.2.1⟩)
 unfold vK at h1
 cases hx:L[gy L ⟨T.c1,T.r1⟩]? with
 |none=>rw [hx] at h1;simp at h1
 |some x=>
  rw [hx] at h1
  have h2:=((qL.1 hL).2.2.2.2 x (SQ hx)).2
  exact qX.1 (zW.1 h2).2 i h1
theorem KF {k:Int}:kH k=true↔k=3∨k=4∨k=7∨k=8∨k=9:=by
 simp only [kH,SH,decide_eq_true_eq,or_assoc]
theorem uI {b:Bk} {o:Ox} (h:tst b o 1=false):0≤o.user∧o.user<b.users:=by
 simp only [tst,S9,decide_eq_false_iff_not] at h
 omega
theorem JQ {b:Bk} {o:Ox} (h:tst b o 0=false):opE o=0:=by
 simp only [tst,decide_eq_false_iff_not] at h
 exact Decidable.not_not.1 h
theorem pY {b:Bk} {o:Ox} (h:tst b o 2=false) (hk:o.kind=3∨o.kind=4∨o.kind=5∨o.kind=6∨o.kind=7∨o.kind=8):aD o.rect=true:=by
 have hr:Hz o.kind=true:=by
  simp only [Hz,SH,decide_eq_true_eq]
  omega
 simp only [tst,kE,hr,if_true,Sy,decide_eq_false_iff_not] at h
 exact (D6 _).1 (Decidable.not_not.1 h)
theorem JP {b:Bk} {o:Ox} (h:tst b o 3=false):WiU b.users (o.rd|||o.wr|||o.ow)∧WiU b.users o.to:=by
 simp only [tst,decide_eq_false_iff_not] at h
 exact zW.1 (show WiU b.users ((o.rd|||o.wr|||o.ow)|||o.to) from Classical.not_not.1 h)
theorem FM {b:Bk} {o:Ox} (h:tst b o 4=false) (hk:o.kind=9): ∃ j:Nat,o.idx=(j:Int)∧ ∃ h:j<b.grants.length,b.grants[j].rev=false:=by
 simp only [tst,hk,decide_true,Sy,S9,decide_eq_false_iff_not] at h
 obtain ⟨⟨h1,h2⟩,h3⟩:=h
 have hj:o.idx=(o.idx.toNat:Int):=by omega
 have hl:o.idx.toNat<b.grants.length:=by omega
 exact ⟨_,hj,hl,by rw [← FW hj hl];exact h3⟩
theorem Lg {b:Bk} {o:Ox} (h:BkOk b) (hm:kH o.kind=true) (ht: ∀ j,j<5→tst b o j=false):aD (evT o b.grants)=true:=by
 unfold evT
 split
 ·
  rename_i hk
  obtain ⟨j,hj,hl,_⟩:=FM (ht 4 (by decide)) hk
  rw [hj,SD,QQ hl]
  exact ((iR.1 h.g).2.2 _ (RQ hl)).1
 ·
  rename_i hk
  have:=KF.1 hm
  exact pY (ht 2 (by decide)) (by omega)
theorem Lh {b:Bk} {o:Ox} {dn:Bool} (h:BkOk b) (hm:kH o.kind=true) (ht: ∀ j,j<5→tst b o j=false):evO b.step o dn b.rules b.grants=(⟨b.step,o.user,o.kind,evT o b.grants,dn,(ovE (evT o b.grants) b.rules).1.2.2|||(1#64<<<o.user.toNat)⟩,0):=by
 have hu:=uI (ht 1 (by decide))
 have h0:=JQ (ht 0 (by decide))
 have hs:=h.s
 have hus:=h.u
 have hT:=Lg h hm ht
 have h9: ¬ (o.kind=9∧(o.idx<0∨(b.grants.length:Int)≤o.idx)):=by
  rintro ⟨hk,hn⟩
  obtain ⟨j,hj,hl,_⟩:=FM (ht 4 (by decide)) hk
  omega
 unfold evO ofS
 rw [if_neg (by rw [hm];decide),if_neg (by omega),if_neg (by rw [zE h.r];decide),if_neg (by rw [PE h.g];decide),if_neg h9,if_neg (by rw [hT];decide),if_neg (by omega)]
theorem Qs {b:Bk} {o:Ox} {dn:Bool} (h:BkOk b) (hm:kH o.kind=true) (ht: ∀ j,j<5→tst b o j=false):kM (cM b.users).1 (mo (-1) b.log) (evO b.step o dn b.rules b.grants).1=0:=by
 have hu:=uI (ht 1 (by decide))
 have hus:=h.u
 have hT:=Lg h hm ht
 have hle:=H9 h.le h.s.1
 have hm64:o.user.toNat<64:=by omega
 have hto:WiU b.users ((ovE (evT o b.grants) b.rules).1.2.2|||(1#64<<<o.user.toNat)):=zW.2 ⟨Pe h.r hT,qX.2 fun i hi=>by
  rw [FQ hm64,decide_eq_true_eq] at hi
  rw [NW hus,decide_eq_true_eq]
  omega⟩
 have hhs:fZ ((ovE (evT o b.grants) b.rules).1.2.2|||(1#64<<<o.user.toNat)) o.user=true:=by
  unfold fZ
  rw [BitVec.getLsbD_or,FQ hm64]
  simp only [QZ,decide_eq_true_eq,decide_true,Bool.or_true,and_true]
  omega
 have hus2:fZ (cM b.users).1 o.user=true:=by
  rw [qy (by omega)]
  simp only [QZ,decide_eq_true_eq]
  omega
 rw [Lh h hm ht]
 unfold kM
 dsimp only
 rw [if_neg (by omega),if_neg (by rw [hm,hus2];decide),if_neg (by rw [hT];decide),if_neg (by rw [hhs,decide_eq_true (show _ &&& ~~~(cM b.users).1=0#64 from hto)];decide)]
theorem KM {b:Bk} {o:Ox} (h:BkOk b) (hs:b.step≠1099511627776):BkOk (lZ b o):=by
 have hst:=h.s
 unfold lZ
 refine ⟨h.u,h.e,h.r,h.g,?_,⟨by dsimp only;omega,by dsimp only;omega⟩,?_,Er h.lr⟩
 ·
  dsimp only
  split
  ·
   rename_i hc
   have h1:=mg.1 h.l
   exact mg.2 ⟨h1.1,s6 h1.2.1 (Qs h hc.2 (wA hc.1)),h1.2.2⟩
  ·
   exact h.l
 ·
  dsimp only
  split
  ·
   rename_i hc
   rw [Es,Lh h hc.2 (wA hc.1),decide_eq_false_iff_not]
   dsimp only
   omega
  ·
   exact Eu h.le
theorem Kv {o:Ox} (h:opE o=0) (hk:o.kind≠3):o.input=av:=by
 unfold opE at h
 split at h
 ·
  cases h
 rename_i h1
 have h2:o=mT o:=Classical.not_not.1 fun hn=>h1 (.inr (.inr hn))
 have h3:=congrArg Ox.input h2
 rw [h3]
 unfold mT
 split
 ·
  rfl
 ·
  first|(dsimp only;done)|(dsimp only;rw [if_neg hk])
theorem Pm {o:Ox} (h:opE o=0) (hk:o.kind=8):1≤o.fns∧o.fns≤31:=by
 unfold opE at h
 split at h
 ·
  cases h
 rw [if_neg (show ¬ (o.kind=3∨o.kind=6) by omega)] at h
 try rw [if_pos hk] at h
 by_cases hc:o.fns<1∨31<o.fns
 ·
  rw [if_pos hc] at h;cases h
 ·
  omega
theorem PM {b c:Bk} {o:Ox} (h:BkOk c) (e1:c.users=b.users) (e2:c.rules=b.rules) (e3:c.grants=b.grants) (ht: ∀ j,j<8→tst b o j=false):BkOk (tK c o):=by
 have hop:=JQ (ht 0 (by decide))
 have hu:=uI (ht 1 (by decide))
 have hwi:=JP (ht 3 (by decide))
 have h7:=ht 7 (by decide)
 unfold tK
 split
 ·
  rename_i hk
  have hr:=pY (ht 2 (by decide)) (by omega)
  have hs:=dc.1 hr
  obtain ⟨k1,k2⟩:=yf.1 h.e
  refine ⟨h.u,yf.2 ⟨BZ (k1.sublist List.filter_sublist) fun e he hn=> ?_,fun e he=> ?_⟩,h.r,h.g,h.l,h.s,h.le,h.lr⟩
  ·
   have h1:=(Tl.1 he).2
   unfold iH at h1
   rw [hn] at h1
   have h2:fj o.rect (toO o)=true:=dW.2 ⟨Ss _,hs.2.1,Ss _,hs.2.2.2.2.1⟩
   rw [h2] at h1;cases h1
  ·
   rcases KZ he with he|⟨rfl,hne⟩
   ·
    exact k2 e (Tl.1 he).1
   ·
    have hk3:o.kind=3:=Classical.not_not.1 fun hn=>hne (Kv hop hn)
    have h6:=ht 6 (by decide)
    simp only [tst,hk3,decide_true,Sy,decide_eq_false_iff_not] at h6
    refine ⟨?_,hne,Decidable.not_not.1 h6⟩
    show valid o.rect.c1 o.rect.r1=true
    rw [xa];omega
 split
 ·
  rename_i hk
  have hr:=pY (ht 2 (by decide)) (by omega)
  have h1:=qL.1 h.r
  simp [tst,hk] at h7
  have hlen:c.rules.length+1≤64:=by rw [e2];omega
  refine ⟨h.u,h.e,qL.2 ⟨h1.1,by simp,by simpa using hlen,?_,fun r hm=> ?_⟩,h.g,h.l,h.s,h.le,h.lr⟩
  ·
   dsimp only
   cases hcr:c.rules with
   |nil=>exact absurd hcr h1.2.1
   |cons a l=>rw [hcr] at h1;exact h1.2.2.2.1
  ·
   rcases Rs.1 hm with hm|hm
   ·
    exact h1.2.2.2.2 r hm
   ·
    rw [RA.1 hm]
    exact ⟨hr,by rw [e1];exact hwi.1⟩
 split
 ·
  rename_i hk
  have hr:=pY (ht 2 (by decide)) (by omega)
  have h1:=iR.1 h.g
  simp [tst,hk] at h7
  have hlen:c.grants.length+1≤64:=by rw [e3];omega
  have hf:=Pm hop hk
  refine ⟨h.u,h.e,h.r,iR.2 ⟨h1.1,by simpa using hlen,fun g hm=> ?_⟩,h.l,h.s,h.le,h.lr⟩
  rcases Rs.1 hm with hm|hm
  ·
   exact h1.2.2 g hm
  ·
   rw [RA.1 hm]
   exact ⟨hr,(vU h.u).2 ⟨hf,by rw [e1];exact hwi.2,hu.1,by rw [e1];exact hu.2⟩⟩
 split
 ·
  rename_i hk
  have h1:=iR.1 h.g
  refine ⟨h.u,h.e,h.r,iR.2 ?_,h.l,h.s,h.le,h.lr⟩
  dsimp only
  unfold HB
  cases hg:c.grants[o.idx.toNat]? with
  |none=>exact h1
  |some g=>
   dsimp only
   refine ⟨h1.1,by rw [Tn];exact h1.2.1,fun x hx=> ?_⟩
   rcases List.mem_or_eq_of_mem_set hx with hx|rfl
   ·
    exact h1.2.2 x hx
   ·
    have h2:=h1.2.2 g (SQ hg)
    exact ⟨h2.1,h2.2⟩
 ·
  exact h
theorem LU {b:Bk} {o:Ox} (h:BkOk b) (hs:b.step≠1099511627776):BkOk (apE b o).1∧(apE b o).2.2.2=0:=by
 unfold apE
 rw [if_neg (by rw [jW.2 h];decide),if_neg hs]
 split
 ·
  exact ⟨KM h hs,rfl⟩
 ·
  rename_i hc
  exact ⟨PM (KM h hs) rfl rfl rfl (NR (Decidable.not_not.1 hc)),rfl⟩
end Go.SL
namespace Go.SL
open Go Go.Proofs
attribute [local irreducible] W WL WQ WG WA WX WLI WR WT WC WE VOp RW thn blk bE scp aV bo bI aK FnIn FnP ceP
theorem Cn {all:BitVec 64}: ∀ {L:List Ev} {last:Int},ep all last L=0→ ∀ x∈L,x.step≤mo last L
 | [],_,_,x,hx=>by cases hx
 |y::L,last,h,x,hx=>by
  rw [iG] at h
  split at h
  ·
   rename_i h2;exact absurd h h2
  have hmono: ∀ {L:List Ev} {a:Int},ep all a L=0→a≤mo a L:=by
   intro L
   induction L with
   |nil=>intro a _;exact Ss _
   |cons z L ih=>
    intro a h
    rw [iG] at h
    split at h
    ·
     rename_i h2;exact absurd h h2
    rename_i h2
    have h3:=ih h
    have h4: ¬ z.step≤a:=fun h5=>by
     have h6:=Classical.not_not.1 h2
     unfold kM at h6
     rw [if_pos h5] at h6
     cases h6
    show a≤mo z.step L
    omega
  show x.step≤mo y.step L
  rcases Rd.1 hx with rfl|hx
  ·
   exact hmono h
  ·
   exact Cn h x hx
def s8 (last:Int):List Rv→Int
 | []=>last
 |x::l=>s8 x.step l
theorem Cv: ∀ (L:List Rv) (last:Int),s8 last L=if L.length=0 then last else ((L[L.length - 1]?).map Rv.step).getD 0
 | [],_=>rfl
 | [x],_=>rfl
 |x::y::L,last=>by
  have ih:=Cv (y::L) x.step
  rw [show s8 last (x::y::L)=s8 x.step (y::L) from rfl,ih]
  simp
theorem AJ {all:BitVec 64}: ∀ {L:List Rv} {last:Int},dR all last L=0→ ∀ x∈L,x.step≤s8 last L
 | [],_,_,x,hx=>by cases hx
 |y::L,last,h,x,hx=>by
  rw [ik] at h
  split at h
  ·
   rename_i h2;exact absurd h h2
  have hmono: ∀ {L:List Rv} {a:Int},dR all a L=0→a≤s8 a L:=by
   intro L
   induction L with
   |nil=>intro a _;exact Ss _
   |cons z L ih=>
    intro a h
    rw [ik] at h
    split at h
    ·
     rename_i h2;exact absurd h h2
    rename_i h2
    have h3:=ih h
    have h4: ¬ z.step<a:=fun h5=>by
     have h6:=Classical.not_not.1 h2
     unfold jb at h6
     rw [if_pos h5] at h6
     cases h6
    show a≤s8 z.step L
    omega
  show x.step≤s8 y.step L
  rcases Rd.1 hx with rfl|hx
  ·
   exact hmono h
  ·
   exact AJ h x hx
theorem Io {all:BitVec 64} {s:Int} {L:List Ev} (h:ep all (-1) L=0):iX s L=false↔ ∀ x∈L,x.step<s:=by
 have h1:=Cn h
 rw [wj] at h1
 unfold iX
 by_cases hl:0<L.length
 ·
  rw [if_pos hl,decide_eq_false_iff_not]
  rw [if_neg (by omega)] at h1
  constructor
  ·
   intro h2 x hx
   have:=h1 x hx
   omega
  ·
   intro h2 h3
   have hlt:L.length - 1<L.length:=by omega
   have h4:=h2 _ (RQ hlt)
   rw [QQ hlt] at h3
   simp only [Se,Te] at h3
   omega
 ·
  rw [if_neg hl]
  have:L= []:=SC.1 (by omega)
  subst this
  simp
theorem od {all:BitVec 64} {s:Int} {L:List Rv} (h:dR all (-1) L=0):lw s L=false↔ ∀ x∈L,x.step<s:=by
 have h1:=AJ h
 rw [Cv] at h1
 unfold lw
 by_cases hl:0<L.length
 ·
  rw [if_pos hl,decide_eq_false_iff_not]
  rw [if_neg (by omega)] at h1
  constructor
  ·
   intro h2 x hx
   have:=h1 x hx
   omega
  ·
   intro h2 h3
   have hlt:L.length - 1<L.length:=by omega
   have h4:=h2 _ (RQ hlt)
   rw [QQ hlt] at h3
   simp only [Se,Te] at h3
   omega
 ·
  rw [if_neg hl]
  have:L= []:=SC.1 (by omega)
  subst this
  simp
set_option maxHeartbeats 16000000 in
theorem wU (b:Bk) (x:Bv) (w:World) (h:BRd w b x) (hlen:b.ents.length≤1000000):ay Tryz.prog 16 [.agg (aW b x).toArray] w (.int .i64 (bkE b)):=by
 have hent:=fun (w' :World) (H:List Blk) (hm:Mem w w' H)=>wT b.ents _ w' (h.e.of_w0 hm) hlen
 have hacl:=fun (w' :World) (H:List Blk) (hm:Mem w w' H)=>oQ b.users b.rules _ w' (h.r.of_w0 hm)
 have hgnt:=fun (w' :World) (H:List Blk) (hm:Mem w w' H)=>wW b.users b.grants _ w' (h.g.of_w0 hm)
 have haud:=fun (w' :World) (H:List Blk) (hm:Mem w w' H)=>wV b.users b.log b.rels _ _ w' (h.l.of_w0 hm) (h.s.of_w0 hm)
 refine aq Tryz.func16 rfl Tryz.ntmps16 rfl ?_
 unfold bkE
 obtain ⟨Al,cl,el,hl1,hl2,hl3⟩:=h.l
 obtain ⟨Am,cm,em,hm1,hm2,hm3⟩:=h.s
 have hl3' :0<b.log.length→ ∃ g o,x.al=some ⟨g,o,none⟩∧Ro w g o (b.log.flatMap bf):=by
  cases el
  exact hl3
 have hm3' :0<b.rels.length→ ∃ g o,x.as_=some ⟨g,o,none⟩∧Ro w g o (b.rels.flatMap aO):=by
  cases em
  exact hm3
 have hLm:b.log.length≤maxLen:=Rt hl1 hl2
 have hMm:b.rels.length≤maxLen:=Rt hm1 hm2
 clear hl1 hl2 hl3 hm1 hm2 hm3 el em
 have hlE:=fun (hz:rV b.users b.log b.rels=0)=>Io (s:=b.step) (mg.1 hz).2.1
 have hlR:=fun (hz:rV b.users b.log b.rels=0)=>od (s:=b.step) (mg.1 hz).2.2
 generalize df b.ents=ce at hent ⊢
 generalize dX b.users b.rules=ae at hacl ⊢
 generalize jS b.users b.grants=ge at hgnt ⊢
 generalize rV b.users b.log b.rels=ue at haud hlE hlR ⊢
 obtain ⟨us,E,RU,G,L,M,st⟩:=b
 obtain ⟨ae1,ar1,ag1,al1,as1,ce1,cr1,cg1,cl1,cs1⟩:=x
 dsimp only at*
 simp only [aW] at*
 generalize iX st L=le at hlE ⊢
 generalize lw st M=lr at hlR ⊢
 repeat' (first|(apply aa (f:=63);exact rfl;exact rfl;(intro w' hm;exact hent w' _ hm))|(apply aa (f:=34);exact rfl;exact rfl;(intro w' hm;exact hacl w' _ hm))|(apply aa (f:=64);exact rfl;exact rfl;(intro w' hm;exact hgnt w' _ hm))|(apply aa (f:=65);exact rfl;exact rfl;(intro w' hm;exact haud w' _ hm))|refine sT ?_|refine sS ?_|refine sN ?_|refine sM fun _=> ?_|(refine sC ?_ ?_<;>intro hb<;>try omega)|fail)
 all_goals first
  |(exfalso;omega)
  |((refine rT1 ?_);simp_all;done)
  |((refine rT1 ?_);simp_all;omega)
  |skip
 rename_i g1 _ _ _ _ _ _ _
 have hue:ue=0:=Decidable.not_not.1 (show ¬ (ue≠0) by assumption)
 have hlE1:=hlE hue
 have hlR1:=hlR hue
 rw [if_neg (by omega),if_neg (show ¬ (ce.2≠0) by assumption),if_neg (show ¬ (ae.2≠0) by assumption),if_neg (show ¬ (ge.2≠0) by assumption),if_neg (show ¬ (ue≠0) by assumption),if_neg (by omega)]
 clear hlE hlR hent hacl hgnt haud
 refine ax [1] rfl (fun i:Nat=> [(10,.int .i64 (i:Int))]) (fun _=> [.box g1 28 [.int .i64 us,.slice ae1 E.length ce1,.slice ar1 RU.length cr1,.slice ag1 G.length cg1,.slice al1 L.length cl1,.slice as1 M.length cs1,.int .i64 st]]) (fun i=>i≤L.length∧ ∀ j (h:j<L.length),j<i→L[j].step<st) (fun i=>L.length - i) 0 ⟨QX _,fun j _ h=>absurd h (Nat.not_lt_zero _)⟩ sB mS ?_
 rintro i ⟨hi,hall⟩
 by_cases hlt:i<L.length
 ·
  obtain ⟨gl,ol,rfl,hrl⟩:=hl3' (by omega)
  have he:=(Ev.ro (hrl.elem gC i hlt)).1
  have hnx:L[i].step<st→ ∀ j (h:j<L.length),j<i+1→L[j].step<st:=fun hs j hj hji=>by
   by_cases e:j=i
   ·
    subst e;exact hs
   ·
    exact hall j hj (by omega)
  have hbad:st≤L[i].step→le=true:=fun hs=>by
   cases hle:le with
   |true=>rfl
   |false=>exact absurd (hlE1.1 hle _ (RQ hlt)) (by omega)
  generalize L[i].step=sp at he hnx hbad
  repeat' (first|(apply aS;exact rfl;apply aj (j:=i);exact rfl;exact rfl;exact hlt)|refine sT ?_|refine sS ?_|refine sQ ?_|refine sN ?_|refine sNQ ?_|refine sO ?_|refine sOQ ?_|refine sD ?_|refine sM fun _=> ?_|(refine sC ?_ ?_<;>intro hb<;>try omega)|(refine sCQ ?_ ?_<;>intro hb<;>try omega)|fail)
  all_goals first
   |(exfalso;omega)
   |((refine rT1 ?_);rw [if_pos (hbad (by omega))];done)
   |(refine ⟨i+1,⟨hlt,hnx (by omega)⟩,by omega,by exact sB,by exact sB,by exact mS⟩;done)
 have hle:le=false:=hlE1.2 fun x hx=>by
  obtain ⟨j,hj,rfl⟩:=SJ hx
  exact hall j hj (by omega)
 rw [hle,if_neg (by decide)]
 repeat' (first|refine sT ?_|refine sS ?_|refine sN ?_|refine sM fun _=> ?_|(refine sC ?_ ?_<;>intro hb<;>try omega)|fail)
 all_goals try (exfalso;omega)
 refine ax [1] rfl (fun i:Nat=> [(11,.int .i64 (i:Int))]) (fun _=> [.box g1 28 [.int .i64 us,.slice ae1 E.length ce1,.slice ar1 RU.length cr1,.slice ag1 G.length cg1,.slice al1 L.length cl1,.slice as1 M.length cs1,.int .i64 st]]) (fun i=>i≤M.length∧ ∀ j (h:j<M.length),j<i→M[j].step<st) (fun i=>M.length - i) 0 ⟨QX _,fun j _ h=>absurd h (Nat.not_lt_zero _)⟩ sB mS ?_
 rintro k ⟨hk,hall2⟩
 by_cases hltk:k<M.length
 ·
  obtain ⟨gm,om,rfl,hrm⟩:=hm3' (by omega)
  have he:=Rv.ro1 (hrm.elem cB k hltk)
  have hnx:M[k].step<st→ ∀ j (h:j<M.length),j<k+1→M[j].step<st:=fun hs j hj hji=>by
   by_cases e:j=k
   ·
    subst e;exact hs
   ·
    exact hall2 j hj (by omega)
  have hbad:st≤M[k].step→lr=true:=fun hs=>by
   cases hlr:lr with
   |true=>rfl
   |false=>exact absurd (hlR1.1 hlr _ (RQ hltk)) (by omega)
  generalize M[k].step=sp at he hnx hbad
  repeat' (first|(apply aS;exact rfl;apply aj (j:=k);exact rfl;exact rfl;exact hltk)|refine sT ?_|refine sS ?_|refine sQ ?_|refine sN ?_|refine sNQ ?_|refine sO ?_|refine sOQ ?_|refine sD ?_|refine sM fun _=> ?_|(refine sC ?_ ?_<;>intro hb<;>try omega)|(refine sCQ ?_ ?_<;>intro hb<;>try omega)|fail)
  all_goals first
   |(exfalso;omega)
   |((refine rT1 ?_);rw [if_pos (hbad (by omega))];done)
   |(refine ⟨k+1,⟨hltk,hnx (by omega)⟩,by omega,by exact sB,by exact sB,by exact mS⟩;done)
 have hlr:lr=false:=hlR1.2 fun x hx=>by
  obtain ⟨j,hj,rfl⟩:=SJ hx
  exact hall2 j hj (by omega)
 rw [hlr,if_neg (by decide)]
 repeat' (first|refine sT ?_|refine sS ?_|refine sN ?_|refine sM fun _=> ?_|(refine sC ?_ ?_<;>intro hb<;>try omega)|fail)
 all_goals first|(exfalso;omega)|((refine rT1 ?_);rfl)
end Go.SL
