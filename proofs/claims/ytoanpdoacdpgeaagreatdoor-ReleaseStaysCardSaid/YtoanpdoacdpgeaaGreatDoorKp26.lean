/-
  Lemmas and walks, put together: Im Oh0 Ue Oc Vb Vm.
-/
import Derived.Test.YtoanpdoacdpgeaaGreatDoorKp23
import Derived.Test.YtoanpdoacdpgeaaGreatDoorKp24
import Derived.Test.YtoanpdoacdpgeaaGreatDoorKp25
set_option linter.unusedSimpArgs false
set_option linter.unusedVariables false
set_option maxRecDepth 20000
namespace Go.SL
open Go Go.Proofs
section
variable {P:Program} {n:Fr} {w0:World} {s:az} {H:List Blk}
theorem eE {fn:Func} {R:Value→List Blk→Prop} {e:Exit} {t u q r T T' g m:Nat} {xs:List Value} {v v' v2:Value} (he:e= .ret∨e= .normal) (hr:fn.results= #[.cell t T,.tmp u,.tmp q,.tmp r]) [Agg P T m] (ht:look s t=some (.pointer (some ⟨g,0,none⟩))) (hi:In (.box g T' xs) H) (hl:Nat.beq xs.length m=true)
  (hu:look s u=some v) (hq:look s q=some v') (hw:look s r=some v2) {H' :List Blk} (hs:MSub H' H) (hR:R (.tuple #[.agg xs.toArray,v,v',v2]) H'):aR P fn n w0 R e s H:=
 ⟨he,_,H',hs,fun a w hst hm=>by
  have h1:=kQ (P:=P) (T:=T) hst hm ht hi hl
  have h2:a.tmps.getD u undef=v:=by simp [QM,hst.has u _ hu]
  have h3:a.tmps.getD q undef=v' :=by simp [QM,hst.has q _ hq]
  have h4:a.tmps.getD r undef=v2:=by simp [QM,hst.has r _ hw]
  simp only [results,hr]
  simp only [SN,QR,QU,Sem.run_bind,Sem.run_map] at h1 ⊢
  simp only [h1,Result.andThen_ok,Sem.run_pure,h2,h3,h4]
  rfl,hR⟩
end
attribute [local irreducible] W WL WQ WG WA WX WLI WR WT WC WE VOp RW thn blk bF scp aR bk bJ aL FnIn FnP ceP
def G3 (L:List Et) (to:Rf):Nat:=(L.takeWhile fun e=>aQ e.at_ to).length
def toO (o:Ox):Rf:=⟨o.rect.c1,o.rect.r1⟩
def sv (L:List Et) (o:Ox):List Et:=if o.input=av then L else L.take (G3 L (toO o))++⟨toO o,o.input⟩::L.drop (G3 L (toO o))
theorem s8 {L:List Et} {to:Rf} {i:Nat} (hi:i≤L.length) (hall: ∀ j (h:j<L.length),j<i→aQ L[j].at_ to=true) (hs:i=L.length∨ ∃ h:i<L.length,aQ L[i].at_ to=false):G3 L to=i:=by
 have h1:L.takeWhile (fun e=>aQ e.at_ to)=L.take i:=by
  conv=>lhs;rw [← RD i L]
  rw [List.takeWhile_append_of_pos]
  ·
   rcases hs with rfl|⟨h,hf⟩
   ·
    rw [Rk,List.takeWhile_nil,Qr]
   ·
    rw [Qs h,SC,if_neg (by rw [hf];decide),Qr]
  ·
   intro e he
   obtain ⟨j,hj,rfl⟩:=S5.1 he
   rw [QD] at hj
   rw [TJ]
   exact hall j (by omega) (by omega)
 rw [G3,h1,QD]
 omega
def yf:Bk:=⟨0,[],[],[],[],[],0⟩
def ye:Bo:=⟨none,none,none,none,none,0,0,0,0,0⟩
def GQ (N:List Gn) (i:Nat):List Gn:=match N[i]? with|some g=>N.set i ⟨g.rect,g.fns,g.to,g.by_,true⟩|none=>N
def lM (b:Bk) (o:Ox):Bk:=
 ⟨b.users,b.ents,b.rules,b.grants,if ((cdE b o).1=0∨(cdE b o).1=5)∧kw o.kind=true then b.log++ [(evO b.step o (decide ((cdE b o).1=0)) b.rules b.grants).1] else b.log,b.rels,b.step+1⟩
def v6 (b:Bk) (o:Ox):Bk:=
 if o.kind=3∨o.kind=4 then ⟨b.users,sv (b.ents.filter (iC o)) o,b.rules,b.grants,b.log,b.rels,b.step⟩
 else if o.kind=7 then ⟨b.users,b.ents,b.rules++ [⟨o.rect,o.rd,o.wr,o.ow⟩],b.grants,b.log,b.rels,b.step⟩
 else if o.kind=8 then ⟨b.users,b.ents,b.rules,b.grants++ [⟨o.rect,o.fns,o.to,o.user,false⟩],b.log,b.rels,b.step⟩
 else if o.kind=9 then ⟨b.users,b.ents,b.rules,GQ b.grants o.idx.toNat,b.log,b.rels,b.step⟩
 else b
def apE (b:Bk) (o:Ox):Bk × Int × Int × Int:=
 if bkE b≠0 then (yf,0,0,bkE b)
 else if b.step=1099511627776 then (yf,0,0,5)
 else if (cdE b o).1≠0 then (lM b o,(cdE b o).1,(cdE b o).2,0)
 else (v6 (lM b o) o,0,0,0)
theorem vV {b:Bk} (h: ¬ bkE b≠0):0≤b.step∧b.step≤1099511627776∧b.rules.length≤64∧b.grants.length≤64:=by
 have h:=Decidable.not_not.1 h
 unfold bkE at h
 split at h
 ·
  exact absurd h (by decide)
 split at h
 ·
  rename_i h2;exact absurd h h2
 split at h
 ·
  rename_i h2;exact absurd h h2
 rename_i hacl
 split at h
 ·
  rename_i h2;exact absurd h h2
 rename_i hgnt
 split at h
 ·
  rename_i h2;exact absurd h h2
 split at h
 ·
  exact absurd h (by decide)
 refine ⟨by omega,by omega,?_,?_⟩
 ·
  unfold ed at hacl
  split at hacl
  ·
   exact absurd (by decide) hacl
  split at hacl
  ·
   exact absurd (by decide) hacl
  ·
   omega
 ·
  unfold jH at hgnt
  split at hgnt
  ·
   exact absurd (by decide) hgnt
  split at hgnt
  ·
   exact absurd (by decide) hgnt
  ·
   omega
theorem xg: ∀ (N:List Gn) (j:Nat) (hj:j<N.length),(N.flatMap bn).set (j*8+7) (.bool true)=(N.set j ⟨N[j].rect,N[j].fns,N[j].to,N[j].by_,true⟩).flatMap bn
 | [],_,hj=>absurd hj (Nat.not_lt_zero _)
 |_::_,0,_=>rfl
 |g::N,j+1,hj=>by
  have ih:=xg N j (Nat.lt_of_succ_lt_succ hj)
  rw [QA,SG _ _ (by rw [dg];omega),dg,show (j+1)*8+7 - 8=j*8+7 by omega,ih]
  rfl
theorem Cn (L:List Et) (o:Ox) (go cap:Nat) (w0:World) (A:Option Nat) {H T:List Blk} (hL:L.length≤1000000) (hs:Sel (.own A 52 3 L.length cap (L.flatMap aK)) H T) (hgo:In (.box go 37 (bN o)) T):
  FnIn Tryz.prog 43 [sl A L.length cap,.func (.func 44) #[] #[.pointer (some ⟨go,0,none⟩)]] w0 H fun v H' =>v=sl A (L.filter (iC o)).length cap∧H' = .own A 52 3 (L.filter (iC o)).length cap ((L.filter (iC o)).flatMap aK)::T:=
 FnIn.msub (M8 L o go cap T w0 A hL hgo) (MSub.pick hs (MSub.refl _))
theorem lR (L:List Et) (i:Nat) (hi:i≤L.length) (x:Et) (A:Option Nat) (cap:Nat) (hL:L.length≤1000000) (w0:World) {H T:List Blk} (hs:Sel (.own A 52 3 L.length cap (L.flatMap aK)) H T):
  FnIn Tryz.prog 47 [sl A L.length cap,.int .i64 (i:Int),.agg (aK x).toArray] w0 H fun v H=> ∃ A' c,v=sl A' (L.length+1) c∧H= .own A' 52 3 (L.length+1) c ((L.take i++x::L.drop i).flatMap aK)::T:=
 FnIn.msub (HM L i hi x A cap hL w0 T) (MSub.pick hs (MSub.refl _))
set_option maxHeartbeats 16000000 in
theorem LC (b:Bk) (x:Bv) (o:Ox) (w:World) (h:BRd w b x) (hW:Words w) (hs:Small b):aL Tryz.prog 11 [.agg (bo b x).toArray,.agg (bN o).toArray] w fun v H=> ∃ a:Bo,v= .tuple #[.agg (bo (apE b o).1 a.v).toArray,.int .u8 (apE b o).2.1,.int .i64 (apE b o).2.2.1,.int .i64 (apE b o).2.2.2]∧H=bi (apE b o).1 a:=by
  refine aq Tryz.func11 rfl Tryz.ntmps11 rfl ?_
  have hC:=fun (w' :World) (H:List Blk) (hm:Mem w w' H)=>vW b x w' (h.of_w0 hm) (hW.next hm) hs.e
  have hY:=fun (w' :World) (H:List Blk) (hm:Mem w w' H)=>Ir b x w' (h.of_w0 hm) hs
  have hM:=fun w=>pE o w
  have hD:=fun (w' :World) (g:Nat) (H:List Blk) (hi:In (.box g 28 (bo b x)) H) (hm:Mem w w' H)=>Nk b x o g w' (Ro.of_box hm hi) (h.of_w0 hm) (hW.next hm)
  have hE:=fun (w' :World) (H:List Blk) (hm:Mem w w' H)=>LB b.step o (decide ((cdE b o).1=0)) b.rules b.grants _ _ w' (h.r.of_w0 hm) (h.g.of_w0 hm)
  have hs1:=hs.e
  have hs2:=hs.r
  have hs3:=hs.g
  have hs4:=hs.l
  refine aC 52 3 ?_
  refine aC 54 7 ?_
  refine aC 56 8 ?_
  refine aC 58 9 ?_
  refine aC 62 11 ?_
  unfold apE
  by_cases he:bkE b≠0
  · rw [if_pos he]
    generalize bkE b=e at hC he ⊢
    simp only [bo] at hC ⊢
    repeat' (first|(apply aa (f:=15);exact rfl;exact rfl;(intro w' hm;exact hC w' _ hm))|refine sT ?_|refine sS ?_|refine sM fun _=> ?_|(refine sC ?_ ?_<;>intro hb<;>try omega)|fail)
    all_goals first
      |(exfalso;omega)
      |(refine eE eIO rfl rfl pK rfl rfl rfl rfl (H' :=bi yf ye) (by unfold bi;exact mS) ⟨ye,rfl,rfl⟩;done)
  rw [if_neg he]
  obtain ⟨hst1,hst2,hst3,hst4⟩:=vV he
  rw [show bkE b=0 by omega] at hC
  by_cases hmx:b.step=1099511627776
  · rw [if_pos hmx]
    simp only [bo] at hC ⊢
    repeat' (first|(apply aa (f:=15);exact rfl;exact rfl;(intro w' hm;exact hC w' _ hm))|refine sT ?_|refine sS ?_|refine sM fun _=> ?_|(refine sC ?_ ?_<;>intro hb<;>try omega)|fail)
    all_goals first
      |(exfalso;omega)
      |(refine eE eIO rfl rfl pK rfl rfl rfl rfl (H' :=bi yf ye) (by unfold bi;exact mS) ⟨ye,rfl,rfl⟩;done)
  rw [if_neg hmx]
  obtain ⟨⟨c,at_⟩,hcd⟩: ∃ c,cdE b o=c:=⟨_,rfl⟩
  obtain ⟨mk,hmk⟩: ∃ mk,kw o.kind=mk:=⟨_,rfl⟩
  have hpos:mk=false∨o.kind=3∨o.kind=4∨o.kind=7∨o.kind=8∨o.kind=9:=by
    cases mk with
    |false=>exact .inl rfl
    |true=>
      simp only [kw,Sj,decide_eq_true_eq] at hmk
      omega
  unfold lM
  rw [hcd] at hD hE ⊢
  rw [hmk] at hM ⊢
  dsimp only at hD hE ⊢
  generalize evO b.step o (decide (c=0)) b.rules b.grants=ev at hE ⊢
  obtain ⟨ev1,ev2⟩:=ev
  dsimp only at hE ⊢
  have el1:(b.log++ [ev1]).length=b.log.length+1:=by rw [Qk];rfl
  have el2:(b.log++ [ev1]).flatMap aZ=b.log.flatMap aZ++aZ ev1:=by rw [QE,QA,QP,Qr]
  by_cases hcz:c≠0
  · rw [if_pos hcz]
    by_cases hlg:(c=0∨c=5)∧mk=true
    · rw [if_pos hlg]
      obtain ⟨hc5,hmt⟩:=hlg
      simp only [bo,bi,el1,el2] at hC ⊢
      repeat' (first|(apply aa (f:=15);exact rfl;exact rfl;(intro w' hm;exact hC w' _ hm))|(apply aA (f:=20);exact rfl;exact rfl;(intro w' hm;exact hY w' _ hm);rintro _ _ ⟨a,rfl,rfl⟩;unfold bi)|(apply ak (d:=27);exact rfl;apply eM;exact rfl;exact rfl;exact ⟨by omega,by omega⟩)|(apply aa (f:=40);exact rfl;exact rfl;(intro w' hm;exact hD w' _ _ pK hm))|(apply aa (f:=41);exact rfl;exact rfl;(intro w' _;exact hM w'))|(apply aa (f:=42);exact rfl;exact rfl;(intro w' hm;exact hE w' _ hm))|(apply aO (d:=61);(iterate 3 exact rfl);exact pK;exact pK;exact rfl;(intro u hu;simp [aZ] at hu;rcases hu with rfl|rfl|rfl|rfl|rfl|rfl|rfl|rfl|rfl<;>rfl);omega;(simp only [maxLen];omega);intro g61 c61)|refine sT ?_|refine sS ?_|refine sM fun _=> ?_|(refine sC ?_ ?_<;>intro hb<;>try omega)|fail)
      all_goals first
        |(exfalso;omega)
        |(exfalso;simp_all;done)
        |(refine eE eIO rfl rfl pK rfl rfl rfl rfl (H' := [.own (a.e) 52 3 (b.ents.length) a.ce (b.ents.flatMap aK),.own (a.r) 54 7 (b.rules.length) a.cr (b.rules.flatMap bw),.own (a.g) 56 8 (b.grants.length) a.cg (b.grants.flatMap bn),.own (some g61) 58 9 (b.log.length+1) c61 (b.log.flatMap aZ++aZ ev1),.own (a.s) 62 11 (b.rels.length) a.cs (b.rels.flatMap aX)]) mS ⟨⟨a.e,a.r,a.g,some g61,a.s,a.ce,a.cr,a.cg,c61,a.cs⟩,rfl,rfl⟩;done)
    · rw [if_neg hlg]
      simp only [bo,bi] at hC ⊢
      repeat' (first|(apply aa (f:=15);exact rfl;exact rfl;(intro w' hm;exact hC w' _ hm))|(apply aA (f:=20);exact rfl;exact rfl;(intro w' hm;exact hY w' _ hm);rintro _ _ ⟨a,rfl,rfl⟩;unfold bi)|(apply ak (d:=27);exact rfl;apply eM;exact rfl;exact rfl;exact ⟨by omega,by omega⟩)|(apply aa (f:=40);exact rfl;exact rfl;(intro w' hm;exact hD w' _ _ pK hm))|(apply aa (f:=41);exact rfl;exact rfl;(intro w' _;exact hM w'))|refine sT ?_|refine sS ?_|refine sM fun _=> ?_|(refine sC ?_ ?_<;>intro hb<;>try omega)|fail)
      all_goals first
        |(exfalso;omega)
        |(exfalso;exact hlg ⟨by first|exact .inl ‹_› |exact .inr ‹_›,by assumption⟩)
        |(refine eE eIO rfl rfl pK rfl rfl rfl rfl (H' := [.own (a.e) 52 3 (b.ents.length) a.ce (b.ents.flatMap aK),.own (a.r) 54 7 (b.rules.length) a.cr (b.rules.flatMap bw),.own (a.g) 56 8 (b.grants.length) a.cg (b.grants.flatMap bn),.own (a.l) 58 9 (b.log.length) a.cl (b.log.flatMap aZ),.own (a.s) 62 11 (b.rels.length) a.cs (b.rels.flatMap aX)]) mS ⟨a,rfl,rfl⟩;done)
  rw [if_neg hcz]
  have hc0:c=0:=Decidable.not_not.1 hcz
  subst hc0
  cases mk with
  |false=>
    have hkn: ¬ (o.kind=3∨o.kind=4)∧o.kind≠7∧o.kind≠8∧o.kind≠9:=by
      simp only [kw,SB,decide_eq_false_iff_not] at hmk
      omega
    rw [if_neg (fun h=>by cases h.2),v6,if_neg hkn.1,if_neg hkn.2.1,if_neg hkn.2.2.1,if_neg hkn.2.2.2]
    simp only [bo,bi] at hC ⊢
    repeat' (first|(apply aa (f:=15);exact rfl;exact rfl;(intro w' hm;exact hC w' _ hm))|(apply aA (f:=20);exact rfl;exact rfl;(intro w' hm;exact hY w' _ hm);rintro _ _ ⟨a,rfl,rfl⟩;unfold bi)|(apply ak (d:=27);exact rfl;apply eM;exact rfl;exact rfl;exact ⟨by omega,by omega⟩)|(apply aa (f:=40);exact rfl;exact rfl;(intro w' hm;exact hD w' _ _ pK hm))|(apply aa (f:=41);exact rfl;exact rfl;(intro w' _;exact hM w'))|refine sT ?_|refine sS ?_|refine sM fun _=> ?_|(refine sC ?_ ?_<;>intro hb<;>try omega)|fail)
    all_goals first
      |(exfalso;omega)
      |(refine eE eIO rfl rfl pK rfl rfl rfl rfl (H' := [.own (a.e) 52 3 (b.ents.length) a.ce (b.ents.flatMap aK),.own (a.r) 54 7 (b.rules.length) a.cr (b.rules.flatMap bw),.own (a.g) 56 8 (b.grants.length) a.cg (b.grants.flatMap bn),.own (a.l) 58 9 (b.log.length) a.cl (b.log.flatMap aZ),.own (a.s) 62 11 (b.rels.length) a.cs (b.rels.flatMap aX)]) mS ⟨a,rfl,rfl⟩;done)
  |true=>
    rw [if_pos ⟨.inl rfl,rfl⟩]
    rcases hpos.resolve_left (by decide) with hk|hk|hk|hk|hk
    · obtain ⟨L,hL⟩: ∃ L,b.ents.filter (iC o)=L:=⟨_,rfl⟩
      have hLl:L.length≤1000000:=QC (hL ▸ Sw _ _) hs1
      have hdel:=fun (A:Option Nat) (cap go:Nat) (H T:List Blk) (h1:Sel (.own A 52 3 b.ents.length cap (b.ents.flatMap aK)) H T) (h2:In (.box go 37 (bN o)) T)=>Cn b.ents o go cap w A hs1 h1 h2
      rw [hL] at hdel
      rw [v6,if_pos (by omega)]
      dsimp only
      rw [hL]
      by_cases hin:o.input=av
      · rw [sv,if_pos hin]
        simp only [bo,bi,el1,el2] at hC ⊢
        repeat' (first|(apply aa (f:=15);exact rfl;exact rfl;(intro w' hm;exact hC w' _ hm))|(apply aA (f:=20);exact rfl;exact rfl;(intro w' hm;exact hY w' _ hm);rintro _ _ ⟨a,rfl,rfl⟩;unfold bi)|(apply ak (d:=27);exact rfl;apply eM;exact rfl;exact rfl;exact ⟨by omega,by omega⟩)|(apply aa (f:=40);exact rfl;exact rfl;(intro w' hm;exact hD w' _ _ pK hm))|(apply aa (f:=41);exact rfl;exact rfl;(intro w' _;exact hM w'))|(apply aa (f:=42);exact rfl;exact rfl;(intro w' hm;exact hE w' _ hm))|(apply aO (d:=61);(iterate 3 exact rfl);exact pK;exact pK;exact rfl;(intro u hu;simp [aZ] at hu;rcases hu with rfl|rfl|rfl|rfl|rfl|rfl|rfl|rfl|rfl<;>rfl);omega;(simp only [maxLen];omega);intro g61 c61)|(apply aw (f:=43);exact rfl;exact rfl;exact hdel _ _ _ _ _ pK pK;rintro _ _ ⟨rfl,rfl⟩)|(apply ak (d:=80);exact rfl;apply tS (b:=av);exact rfl;exact rfl)|refine sT ?_|refine sS ?_|refine sM fun _=> ?_|(refine sC ?_ ?_<;>intro hb<;>try omega)|fail)
        all_goals first
          |(exfalso;omega)
          |(exact absurd hin hb)
          |(refine eE eIO rfl rfl pK rfl rfl rfl rfl (H' := [.own (a.e) 52 3 (L.length) a.ce (L.flatMap aK),.own (a.r) 54 7 (b.rules.length) a.cr (b.rules.flatMap bw),.own (a.g) 56 8 (b.grants.length) a.cg (b.grants.flatMap bn),.own (some g61) 58 9 (b.log.length+1) c61 (b.log.flatMap aZ++aZ ev1),.own (a.s) 62 11 (b.rels.length) a.cs (b.rels.flatMap aX)]) mS ⟨⟨a.e,a.r,a.g,some g61,a.s,a.ce,a.cr,a.cg,c61,a.cs⟩,rfl,rfl⟩;done)
      · rw [sv,if_neg hin]
        simp only [bo,bi,el1,el2] at hC ⊢
        repeat' (first|(apply aa (f:=15);exact rfl;exact rfl;(intro w' hm;exact hC w' _ hm))|(apply aA (f:=20);exact rfl;exact rfl;(intro w' hm;exact hY w' _ hm);rintro _ _ ⟨a,rfl,rfl⟩;unfold bi)|(apply ak (d:=27);exact rfl;apply eM;exact rfl;exact rfl;exact ⟨by omega,by omega⟩)|(apply aa (f:=40);exact rfl;exact rfl;(intro w' hm;exact hD w' _ _ pK hm))|(apply aa (f:=41);exact rfl;exact rfl;(intro w' _;exact hM w'))|(apply aa (f:=42);exact rfl;exact rfl;(intro w' hm;exact hE w' _ hm))|(apply aO (d:=61);(iterate 3 exact rfl);exact pK;exact pK;exact rfl;(intro u hu;simp [aZ] at hu;rcases hu with rfl|rfl|rfl|rfl|rfl|rfl|rfl|rfl|rfl<;>rfl);omega;(simp only [maxLen];omega);intro g61 c61)|(apply aw (f:=43);exact rfl;exact rfl;exact hdel _ _ _ _ _ pK pK;rintro _ _ ⟨rfl,rfl⟩)|(apply ak (d:=80);exact rfl;apply tS (b:=av);exact rfl;exact rfl)|refine sT ?_|refine sS ?_|refine sM fun _=> ?_|(refine sC ?_ ?_<;>intro hb<;>try omega)|fail)
        all_goals try (exfalso;omega)
        all_goals try (exact absurd (Decidable.not_not.1 hb) hin)
        rename_i g2 g3 g4 _ g9 g60 _ _ g11
        obtain ⟨ae,ar,ag,al,as_,ce,cr,cg,cl,cs⟩:=a
        have hLs:=fun (a b:Rf) w=>zA a b w
        refine ax [3,4,5,6,7,11] rfl (fun i:Nat=> [(12,.int .i64 (i:Int))]) (fun _=> [.box g11 50 (bf (toO o)),.box g4 28 [.int .i64 b.users,sl ae L.length ce,sl ar b.rules.length cr,sl ag b.grants.length cg,sl (some g61) (b.log.length+1) c61,sl as_ b.rels.length cs,.int .i64 (b.step+1)],.box g3 37 (bN o),.own (ae) 52 3 (L.length) ce (L.flatMap aK),.own (ar) 54 7 (b.rules.length) cr (b.rules.flatMap bw),.own (ag) 56 8 (b.grants.length) cg (b.grants.flatMap bn),.own (some g61) 58 9 (b.log.length+1) c61 (b.log.flatMap aZ++aZ ev1),.own (as_) 62 11 (b.rels.length) cs (b.rels.flatMap aX)]) (fun i=>i≤L.length∧ ∀ j (h:j<L.length),j<i→aQ L[j].at_ (toO o)=true) (fun i=>L.length - i) 0 ⟨by omega,fun j _ h=>by omega⟩ sB mS ?_
        rintro i ⟨hi,hall⟩
        by_cases hlt:i<L.length
        · refine eK (A:=ae) pK (by omega) fun ga hA=> ?_
          subst hA
          have hread:((L.flatMap aK).drop (0+i*3+0)).take 2=bf L[i].at_:=by
            have h1:=My hlt
            rw [Ss]
            calc ((L.flatMap aK).drop (0+i*3)).take 2=(((L.flatMap aK).drop (0+i*3)).take 3).take 2:=by rw [List.take_take];rfl
              _=_:=by rw [h1];rfl
          have hLi:=hLs L[i].at_ (toO o)
          obtain ⟨cc,hcc⟩: ∃ cc,aQ L[i].at_ (toO o)=cc:=⟨_,rfl⟩
          rw [hcc] at hLi
          cases cc with
          |true=>
            repeat' (first|(apply bX (id:=21) [13] [];kernel_rfl;kernel_rfl;kernel_rfl)|(apply di (d:=97);(iterate 3 exact rfl);apply aj (j:=i);exact rfl;exact rfl;omega)|(apply di (d:=99);(iterate 3 exact rfl);apply aN;exact rfl;exact pK;exact hread;exact rfl)|(apply aa (f:=46);exact rfl;exact rfl;(intro w' _;exact hLi w'))|refine sT ?_|refine sS ?_|refine sW ?_|refine sN ?_|refine sWN ?_|refine sM fun _=> ?_|(refine sC ?_ ?_<;>intro hb<;>try omega)|(refine sCW ?_ ?_<;>intro hb<;>try omega)|fail)
            all_goals first
              |(exfalso;omega)
              | (refine ⟨i + 1, ⟨hlt, fun j hj hji => ?_⟩, by omega, by exact sB, by exact sB, by exact mS⟩
                 rcases (by omega:j<i∨j=i) with h|rfl
                 · exact hall j hj h
                 · exact hcc)
          |false=>
            have hpe:=s8 hi hall (.inr ⟨hlt,hcc⟩)
            have hpl:(L.take i++(⟨toO o,o.input⟩:Et)::L.drop i).length=L.length+1:=by simp [QD,Qz];omega
            rw [hpe,hpl]
            repeat' (first|(apply bX (id:=21) [13] [];kernel_rfl;kernel_rfl;kernel_rfl)|(apply di (d:=97);(iterate 3 exact rfl);apply aj (j:=i);exact rfl;exact rfl;omega)|(apply di (d:=99);(iterate 3 exact rfl);apply aN;exact rfl;exact pK;exact hread;exact rfl)|(apply aa (f:=46);exact rfl;exact rfl;(intro w' _;exact hLi w'))|(apply aw (f:=47);exact rfl;exact rfl;exact lR L i hi ⟨toO o,o.input⟩ _ _ hLl w pK;rintro _ _ ⟨A9,c9,rfl,rfl⟩)|refine sT ?_|refine sS ?_|refine sW ?_|refine sN ?_|refine sWN ?_|refine sM fun _=> ?_|(refine sC ?_ ?_<;>intro hb<;>try omega)|(refine sCW ?_ ?_<;>intro hb<;>try omega)|fail)
            all_goals first
              |(exfalso;omega)
              |(refine eE eIO rfl rfl pK rfl rfl rfl rfl (H' := [.own (A9) 52 3 (L.length+1) c9 ((L.take i++(⟨toO o,o.input⟩:Et)::L.drop i).flatMap aK),.own (ar) 54 7 (b.rules.length) cr (b.rules.flatMap bw),.own (ag) 56 8 (b.grants.length) cg (b.grants.flatMap bn),.own (some g61) 58 9 (b.log.length+1) c61 (b.log.flatMap aZ++aZ ev1),.own (as_) 62 11 (b.rels.length) cs (b.rels.flatMap aX)]) mS ⟨⟨A9,ar,ag,some g61,as_,c9,cr,cg,c61,cs⟩,rfl,rfl⟩;done)
        · have hpe:=s8 hi hall (.inl (by omega))
          have hpl:(L.take i++(⟨toO o,o.input⟩:Et)::L.drop i).length=L.length+1:=by simp [QD,Qz];omega
          rw [hpe,hpl]
          repeat' (first|(apply bX (id:=21) [13] [];kernel_rfl;kernel_rfl;kernel_rfl)|(apply aw (f:=47);exact rfl;exact rfl;exact lR L i hi ⟨toO o,o.input⟩ _ _ hLl w pK;rintro _ _ ⟨A9,c9,rfl,rfl⟩)|refine sT ?_|refine sS ?_|refine sW ?_|refine sN ?_|refine sWN ?_|refine sM fun _=> ?_|(refine sC ?_ ?_<;>intro hb<;>try omega)|(refine sCW ?_ ?_<;>intro hb<;>try omega)|fail)
          all_goals first
            |(exfalso;omega)
            |(refine eE eIO rfl rfl pK rfl rfl rfl rfl (H' := [.own (A9) 52 3 (L.length+1) c9 ((L.take i++(⟨toO o,o.input⟩:Et)::L.drop i).flatMap aK),.own (ar) 54 7 (b.rules.length) cr (b.rules.flatMap bw),.own (ag) 56 8 (b.grants.length) cg (b.grants.flatMap bn),.own (some g61) 58 9 (b.log.length+1) c61 (b.log.flatMap aZ++aZ ev1),.own (as_) 62 11 (b.rels.length) cs (b.rels.flatMap aX)]) mS ⟨⟨A9,ar,ag,some g61,as_,c9,cr,cg,c61,cs⟩,rfl,rfl⟩;done)
    · obtain ⟨L,hL⟩: ∃ L,b.ents.filter (iC o)=L:=⟨_,rfl⟩
      have hLl:L.length≤1000000:=QC (hL ▸ Sw _ _) hs1
      have hdel:=fun (A:Option Nat) (cap go:Nat) (H T:List Blk) (h1:Sel (.own A 52 3 b.ents.length cap (b.ents.flatMap aK)) H T) (h2:In (.box go 37 (bN o)) T)=>Cn b.ents o go cap w A hs1 h1 h2
      rw [hL] at hdel
      rw [v6,if_pos (by omega)]
      dsimp only
      rw [hL]
      by_cases hin:o.input=av
      · rw [sv,if_pos hin]
        simp only [bo,bi,el1,el2] at hC ⊢
        repeat' (first|(apply aa (f:=15);exact rfl;exact rfl;(intro w' hm;exact hC w' _ hm))|(apply aA (f:=20);exact rfl;exact rfl;(intro w' hm;exact hY w' _ hm);rintro _ _ ⟨a,rfl,rfl⟩;unfold bi)|(apply ak (d:=27);exact rfl;apply eM;exact rfl;exact rfl;exact ⟨by omega,by omega⟩)|(apply aa (f:=40);exact rfl;exact rfl;(intro w' hm;exact hD w' _ _ pK hm))|(apply aa (f:=41);exact rfl;exact rfl;(intro w' _;exact hM w'))|(apply aa (f:=42);exact rfl;exact rfl;(intro w' hm;exact hE w' _ hm))|(apply aO (d:=61);(iterate 3 exact rfl);exact pK;exact pK;exact rfl;(intro u hu;simp [aZ] at hu;rcases hu with rfl|rfl|rfl|rfl|rfl|rfl|rfl|rfl|rfl<;>rfl);omega;(simp only [maxLen];omega);intro g61 c61)|(apply aw (f:=43);exact rfl;exact rfl;exact hdel _ _ _ _ _ pK pK;rintro _ _ ⟨rfl,rfl⟩)|(apply ak (d:=80);exact rfl;apply tS (b:=av);exact rfl;exact rfl)|refine sT ?_|refine sS ?_|refine sM fun _=> ?_|(refine sC ?_ ?_<;>intro hb<;>try omega)|fail)
        all_goals first
          |(exfalso;omega)
          |(exact absurd hin hb)
          |(refine eE eIO rfl rfl pK rfl rfl rfl rfl (H' := [.own (a.e) 52 3 (L.length) a.ce (L.flatMap aK),.own (a.r) 54 7 (b.rules.length) a.cr (b.rules.flatMap bw),.own (a.g) 56 8 (b.grants.length) a.cg (b.grants.flatMap bn),.own (some g61) 58 9 (b.log.length+1) c61 (b.log.flatMap aZ++aZ ev1),.own (a.s) 62 11 (b.rels.length) a.cs (b.rels.flatMap aX)]) mS ⟨⟨a.e,a.r,a.g,some g61,a.s,a.ce,a.cr,a.cg,c61,a.cs⟩,rfl,rfl⟩;done)
      · rw [sv,if_neg hin]
        simp only [bo,bi,el1,el2] at hC ⊢
        repeat' (first|(apply aa (f:=15);exact rfl;exact rfl;(intro w' hm;exact hC w' _ hm))|(apply aA (f:=20);exact rfl;exact rfl;(intro w' hm;exact hY w' _ hm);rintro _ _ ⟨a,rfl,rfl⟩;unfold bi)|(apply ak (d:=27);exact rfl;apply eM;exact rfl;exact rfl;exact ⟨by omega,by omega⟩)|(apply aa (f:=40);exact rfl;exact rfl;(intro w' hm;exact hD w' _ _ pK hm))|(apply aa (f:=41);exact rfl;exact rfl;(intro w' _;exact hM w'))|(apply aa (f:=42);exact rfl;exact rfl;(intro w' hm;exact hE w' _ hm))|(apply aO (d:=61);(iterate 3 exact rfl);exact pK;exact pK;exact rfl;(intro u hu;simp [aZ] at hu;rcases hu with rfl|rfl|rfl|rfl|rfl|rfl|rfl|rfl|rfl<;>rfl);omega;(simp only [maxLen];omega);intro g61 c61)|(apply aw (f:=43);exact rfl;exact rfl;exact hdel _ _ _ _ _ pK pK;rintro _ _ ⟨rfl,rfl⟩)|(apply ak (d:=80);exact rfl;apply tS (b:=av);exact rfl;exact rfl)|refine sT ?_|refine sS ?_|refine sM fun _=> ?_|(refine sC ?_ ?_<;>intro hb<;>try omega)|fail)
        all_goals try (exfalso;omega)
        all_goals try (exact absurd (Decidable.not_not.1 hb) hin)
        rename_i g2 g3 g4 _ g9 g60 _ _ g11
        obtain ⟨ae,ar,ag,al,as_,ce,cr,cg,cl,cs⟩:=a
        have hLs:=fun (a b:Rf) w=>zA a b w
        refine ax [3,4,5,6,7,11] rfl (fun i:Nat=> [(12,.int .i64 (i:Int))]) (fun _=> [.box g11 50 (bf (toO o)),.box g4 28 [.int .i64 b.users,sl ae L.length ce,sl ar b.rules.length cr,sl ag b.grants.length cg,sl (some g61) (b.log.length+1) c61,sl as_ b.rels.length cs,.int .i64 (b.step+1)],.box g3 37 (bN o),.own (ae) 52 3 (L.length) ce (L.flatMap aK),.own (ar) 54 7 (b.rules.length) cr (b.rules.flatMap bw),.own (ag) 56 8 (b.grants.length) cg (b.grants.flatMap bn),.own (some g61) 58 9 (b.log.length+1) c61 (b.log.flatMap aZ++aZ ev1),.own (as_) 62 11 (b.rels.length) cs (b.rels.flatMap aX)]) (fun i=>i≤L.length∧ ∀ j (h:j<L.length),j<i→aQ L[j].at_ (toO o)=true) (fun i=>L.length - i) 0 ⟨by omega,fun j _ h=>by omega⟩ sB mS ?_
        rintro i ⟨hi,hall⟩
        by_cases hlt:i<L.length
        · refine eK (A:=ae) pK (by omega) fun ga hA=> ?_
          subst hA
          have hread:((L.flatMap aK).drop (0+i*3+0)).take 2=bf L[i].at_:=by
            have h1:=My hlt
            rw [Ss]
            calc ((L.flatMap aK).drop (0+i*3)).take 2=(((L.flatMap aK).drop (0+i*3)).take 3).take 2:=by rw [List.take_take];rfl
              _=_:=by rw [h1];rfl
          have hLi:=hLs L[i].at_ (toO o)
          obtain ⟨cc,hcc⟩: ∃ cc,aQ L[i].at_ (toO o)=cc:=⟨_,rfl⟩
          rw [hcc] at hLi
          cases cc with
          |true=>
            repeat' (first|(apply bX (id:=21) [13] [];kernel_rfl;kernel_rfl;kernel_rfl)|(apply di (d:=97);(iterate 3 exact rfl);apply aj (j:=i);exact rfl;exact rfl;omega)|(apply di (d:=99);(iterate 3 exact rfl);apply aN;exact rfl;exact pK;exact hread;exact rfl)|(apply aa (f:=46);exact rfl;exact rfl;(intro w' _;exact hLi w'))|refine sT ?_|refine sS ?_|refine sW ?_|refine sN ?_|refine sWN ?_|refine sM fun _=> ?_|(refine sC ?_ ?_<;>intro hb<;>try omega)|(refine sCW ?_ ?_<;>intro hb<;>try omega)|fail)
            all_goals first
              |(exfalso;omega)
              | (refine ⟨i + 1, ⟨hlt, fun j hj hji => ?_⟩, by omega, by exact sB, by exact sB, by exact mS⟩
                 rcases (by omega:j<i∨j=i) with h|rfl
                 · exact hall j hj h
                 · exact hcc)
          |false=>
            have hpe:=s8 hi hall (.inr ⟨hlt,hcc⟩)
            have hpl:(L.take i++(⟨toO o,o.input⟩:Et)::L.drop i).length=L.length+1:=by simp [QD,Qz];omega
            rw [hpe,hpl]
            repeat' (first|(apply bX (id:=21) [13] [];kernel_rfl;kernel_rfl;kernel_rfl)|(apply di (d:=97);(iterate 3 exact rfl);apply aj (j:=i);exact rfl;exact rfl;omega)|(apply di (d:=99);(iterate 3 exact rfl);apply aN;exact rfl;exact pK;exact hread;exact rfl)|(apply aa (f:=46);exact rfl;exact rfl;(intro w' _;exact hLi w'))|(apply aw (f:=47);exact rfl;exact rfl;exact lR L i hi ⟨toO o,o.input⟩ _ _ hLl w pK;rintro _ _ ⟨A9,c9,rfl,rfl⟩)|refine sT ?_|refine sS ?_|refine sW ?_|refine sN ?_|refine sWN ?_|refine sM fun _=> ?_|(refine sC ?_ ?_<;>intro hb<;>try omega)|(refine sCW ?_ ?_<;>intro hb<;>try omega)|fail)
            all_goals first
              |(exfalso;omega)
              |(refine eE eIO rfl rfl pK rfl rfl rfl rfl (H' := [.own (A9) 52 3 (L.length+1) c9 ((L.take i++(⟨toO o,o.input⟩:Et)::L.drop i).flatMap aK),.own (ar) 54 7 (b.rules.length) cr (b.rules.flatMap bw),.own (ag) 56 8 (b.grants.length) cg (b.grants.flatMap bn),.own (some g61) 58 9 (b.log.length+1) c61 (b.log.flatMap aZ++aZ ev1),.own (as_) 62 11 (b.rels.length) cs (b.rels.flatMap aX)]) mS ⟨⟨A9,ar,ag,some g61,as_,c9,cr,cg,c61,cs⟩,rfl,rfl⟩;done)
        · have hpe:=s8 hi hall (.inl (by omega))
          have hpl:(L.take i++(⟨toO o,o.input⟩:Et)::L.drop i).length=L.length+1:=by simp [QD,Qz];omega
          rw [hpe,hpl]
          repeat' (first|(apply bX (id:=21) [13] [];kernel_rfl;kernel_rfl;kernel_rfl)|(apply aw (f:=47);exact rfl;exact rfl;exact lR L i hi ⟨toO o,o.input⟩ _ _ hLl w pK;rintro _ _ ⟨A9,c9,rfl,rfl⟩)|refine sT ?_|refine sS ?_|refine sW ?_|refine sN ?_|refine sWN ?_|refine sM fun _=> ?_|(refine sC ?_ ?_<;>intro hb<;>try omega)|(refine sCW ?_ ?_<;>intro hb<;>try omega)|fail)
          all_goals first
            |(exfalso;omega)
            |(refine eE eIO rfl rfl pK rfl rfl rfl rfl (H' := [.own (A9) 52 3 (L.length+1) c9 ((L.take i++(⟨toO o,o.input⟩:Et)::L.drop i).flatMap aK),.own (ar) 54 7 (b.rules.length) cr (b.rules.flatMap bw),.own (ag) 56 8 (b.grants.length) cg (b.grants.flatMap bn),.own (some g61) 58 9 (b.log.length+1) c61 (b.log.flatMap aZ++aZ ev1),.own (as_) 62 11 (b.rels.length) cs (b.rels.flatMap aX)]) mS ⟨⟨A9,ar,ag,some g61,as_,c9,cr,cg,c61,cs⟩,rfl,rfl⟩;done)
    · have e1:(b.rules++ [(⟨o.rect,o.rd,o.wr,o.ow⟩:Rl)]).length=b.rules.length+1:=by rw [Qk];rfl
      have e2:(b.rules++ [(⟨o.rect,o.rd,o.wr,o.ow⟩:Rl)]).flatMap bw=b.rules.flatMap bw++bw ⟨o.rect,o.rd,o.wr,o.ow⟩:=by rw [QE,QA,QP,Qr]
      rw [v6,if_neg (by omega),if_pos hk]
      simp only [bo,bi,el1,el2,e1,e2] at hC ⊢
      repeat' (first|(apply aa (f:=15);exact rfl;exact rfl;(intro w' hm;exact hC w' _ hm))|(apply aA (f:=20);exact rfl;exact rfl;(intro w' hm;exact hY w' _ hm);rintro _ _ ⟨a,rfl,rfl⟩;unfold bi)|(apply ak (d:=27);exact rfl;apply eM;exact rfl;exact rfl;exact ⟨by omega,by omega⟩)|(apply aa (f:=40);exact rfl;exact rfl;(intro w' hm;exact hD w' _ _ pK hm))|(apply aa (f:=41);exact rfl;exact rfl;(intro w' _;exact hM w'))|(apply aa (f:=42);exact rfl;exact rfl;(intro w' hm;exact hE w' _ hm))|(apply aO (d:=61);(iterate 3 exact rfl);exact pK;exact pK;exact rfl;(intro u hu;simp [aZ] at hu;rcases hu with rfl|rfl|rfl|rfl|rfl|rfl|rfl|rfl|rfl<;>rfl);omega;(simp only [maxLen];omega);intro g61 c61)|(apply aO (d:=124);(iterate 3 exact rfl);exact pK;exact pK;exact rfl;(intro u hu;simp at hu;rcases hu with rfl|rfl|rfl|rfl|rfl|rfl|rfl<;>rfl);omega;(simp only [maxLen];omega);intro g7 c7)|refine sT ?_|refine sS ?_|refine sM fun _=> ?_|(refine sC ?_ ?_<;>intro hb<;>try omega)|fail)
      all_goals first
        |(exfalso;omega)
        |(refine eE eIO rfl rfl pK rfl rfl rfl rfl (H' := [.own (a.e) 52 3 (b.ents.length) a.ce (b.ents.flatMap aK),.own (some g7) 54 7 (b.rules.length+1) c7 (b.rules.flatMap bw++bw ⟨o.rect,o.rd,o.wr,o.ow⟩),.own (a.g) 56 8 (b.grants.length) a.cg (b.grants.flatMap bn),.own (some g61) 58 9 (b.log.length+1) c61 (b.log.flatMap aZ++aZ ev1),.own (a.s) 62 11 (b.rels.length) a.cs (b.rels.flatMap aX)]) mS ⟨⟨a.e,some g7,a.g,some g61,a.s,a.ce,c7,a.cg,c61,a.cs⟩,rfl,rfl⟩;done)
    · have e1:(b.grants++ [(⟨o.rect,o.fns,o.to,o.user,false⟩:Gn)]).length=b.grants.length+1:=by rw [Qk];rfl
      have e2:(b.grants++ [(⟨o.rect,o.fns,o.to,o.user,false⟩:Gn)]).flatMap bn=b.grants.flatMap bn++bn ⟨o.rect,o.fns,o.to,o.user,false⟩:=by rw [QE,QA,QP,Qr]
      rw [v6,if_neg (by omega),if_neg (by omega),if_pos hk]
      simp only [bo,bi,el1,el2,e1,e2] at hC ⊢
      repeat' (first|(apply aa (f:=15);exact rfl;exact rfl;(intro w' hm;exact hC w' _ hm))|(apply aA (f:=20);exact rfl;exact rfl;(intro w' hm;exact hY w' _ hm);rintro _ _ ⟨a,rfl,rfl⟩;unfold bi)|(apply ak (d:=27);exact rfl;apply eM;exact rfl;exact rfl;exact ⟨by omega,by omega⟩)|(apply aa (f:=40);exact rfl;exact rfl;(intro w' hm;exact hD w' _ _ pK hm))|(apply aa (f:=41);exact rfl;exact rfl;(intro w' _;exact hM w'))|(apply aa (f:=42);exact rfl;exact rfl;(intro w' hm;exact hE w' _ hm))|(apply aO (d:=61);(iterate 3 exact rfl);exact pK;exact pK;exact rfl;(intro u hu;simp [aZ] at hu;rcases hu with rfl|rfl|rfl|rfl|rfl|rfl|rfl|rfl|rfl<;>rfl);omega;(simp only [maxLen];omega);intro g61 c61)|(apply aO (d:=140);(iterate 3 exact rfl);exact pK;exact pK;exact rfl;(intro u hu;simp at hu;rcases hu with rfl|rfl|rfl|rfl|rfl|rfl|rfl|rfl<;>rfl);omega;(simp only [maxLen];omega);intro g8 c8)|refine sT ?_|refine sS ?_|refine sM fun _=> ?_|(refine sC ?_ ?_<;>intro hb<;>try omega)|fail)
      all_goals first
        |(exfalso;omega)
        |(refine eE eIO rfl rfl pK rfl rfl rfl rfl (H' := [.own (a.e) 52 3 (b.ents.length) a.ce (b.ents.flatMap aK),.own (a.r) 54 7 (b.rules.length) a.cr (b.rules.flatMap bw),.own (some g8) 56 8 (b.grants.length+1) c8 (b.grants.flatMap bn++bn ⟨o.rect,o.fns,o.to,o.user,false⟩),.own (some g61) 58 9 (b.log.length+1) c61 (b.log.flatMap aZ++aZ ev1),.own (a.s) 62 11 (b.rels.length) a.cs (b.rels.flatMap aX)]) mS ⟨⟨a.e,a.r,some g8,some g61,a.s,a.ce,a.cr,c8,c61,a.cs⟩,rfl,rfl⟩;done)
    · obtain ⟨j,hj⟩: ∃ j:Nat,o.idx=(j:Int)∧j<b.grants.length:=by
        have h4:tst b o 4=false:=by
          rcases h:tst b o 4 with _|_
          · rfl
          · exfalso
            unfold cdE at hcd
            rw [h] at hcd
            revert hcd
            (repeat' split)<;>intro hcd<;>injection hcd with h1 h2<;>first|(exact absurd h1 (by decide))|contradiction
        have:=Ou h4 hk
        exact ⟨o.idx.toNat,by omega,by omega⟩
      obtain ⟨hj,hjl⟩:=hj
      have hrv:GQ b.grants o.idx.toNat=b.grants.set j ⟨b.grants[j].rect,b.grants[j].fns,b.grants[j].to,b.grants[j].by_,true⟩:=by
        unfold GQ
        rw [hj,RX,Ql hjl]
      rw [v6,if_neg (by omega),if_neg (by omega),if_neg (by omega),if_pos hk]
      dsimp only
      rw [hrv]
      have e1:(b.grants.set j ⟨b.grants[j].rect,b.grants[j].fns,b.grants[j].to,b.grants[j].by_,true⟩).length=b.grants.length:=SP
      have e2:(b.grants.set j ⟨b.grants[j].rect,b.grants[j].fns,b.grants[j].to,b.grants[j].by_,true⟩).flatMap bn=(b.grants.flatMap bn).set (0+j*8+7) (.bool true):=by
        rw [QG]
        exact (xg b.grants j hjl).symm
      have hfit:0+j*8+7<(b.grants.flatMap bn).length:=by rw [aH dg];omega
      simp only [bo,bi,el1,el2,e1,e2] at hC ⊢
      repeat' (first|(apply aa (f:=15);exact rfl;exact rfl;(intro w' hm;exact hC w' _ hm))|(apply aA (f:=20);exact rfl;exact rfl;(intro w' hm;exact hY w' _ hm);rintro _ _ ⟨a,rfl,rfl⟩;unfold bi)|(apply ak (d:=27);exact rfl;apply eM;exact rfl;exact rfl;exact ⟨by omega,by omega⟩)|(apply aa (f:=40);exact rfl;exact rfl;(intro w' hm;exact hD w' _ _ pK hm))|(apply aa (f:=41);exact rfl;exact rfl;(intro w' _;exact hM w'))|(apply aa (f:=42);exact rfl;exact rfl;(intro w' hm;exact hE w' _ hm))|(apply aO (d:=61);(iterate 3 exact rfl);exact pK;exact pK;exact rfl;(intro u hu;simp [aZ] at hu;rcases hu with rfl|rfl|rfl|rfl|rfl|rfl|rfl|rfl|rfl<;>rfl);omega;(simp only [maxLen];omega);intro g61 c61)|(apply ak (d:=148);exact rfl;apply aj (j:=j);exact rfl;(rw [← hj];exact rfl);exact hjl)|(apply gC;exact rfl;exact rfl;exact pK;exact rfl;exact hfit)|refine sT ?_|refine sS ?_|refine sM fun _=> ?_|(refine sC ?_ ?_<;>intro hb<;>try omega)|fail)
      all_goals try (exfalso;omega)
      obtain ⟨ae,ar,ag,al,as_,ce,cr,cg,cl,cs⟩:=a
      refine yn (A:=ag) (xs:=b.grants.flatMap bn) pK (by omega) fun gg hA=> ?_
      subst hA
      repeat' (first|(apply ak (d:=148);exact rfl;apply aj (j:=j);exact rfl;(rw [← hj];exact rfl);exact hjl)|(apply gC;exact rfl;exact rfl;exact pK;exact rfl;exact hfit)|refine sT ?_|refine sS ?_|refine sM fun _=> ?_|(refine sC ?_ ?_<;>intro hb<;>try omega)|fail)
      all_goals first
        |(exfalso;omega)
        |(refine eE eIO rfl rfl pK rfl rfl rfl rfl (H' := [.own (ae) 52 3 (b.ents.length) ce (b.ents.flatMap aK),.own (ar) 54 7 (b.rules.length) cr (b.rules.flatMap bw),.own (some gg) 56 8 (b.grants.length) cg ((b.grants.flatMap bn).set (0+j*8+7) (.bool true)),.own (some g61) 58 9 (b.log.length+1) c61 (b.log.flatMap aZ++aZ ev1),.own (as_) 62 11 (b.rels.length) cs (b.rels.flatMap aX)]) mS ⟨⟨ae,ar,some gg,some g61,as_,ce,cr,cg,c61,cs⟩,rfl,rfl⟩;done)
end Go.SL
namespace Go.SL
open Go Go.Proofs
attribute [local irreducible] W WL WQ WG WA WX WLI WR WT WC WE VOp RW thn blk bF scp aR bk bJ aL FnIn FnP ceP
theorem MO (L:List Et) (o:Ox):(sv L o).length≤L.length+1:=by
 unfold sv
 split
 ·
  omega
 ·
  have h:=congrArg List.length (RD (G3 L (toO o)) L)
  rw [Qk] at h
  rw [Qk,QF]
  omega
theorem O8 {b:Bk} {o:Ox}:(apE b o).1.ents.length≤b.ents.length+1:=by
 have hl:(lM b o).ents=b.ents:=rfl
 unfold apE
 split
 ·
  exact Qt _
 split
 ·
  exact Qt _
 split
 ·
  show (lM b o).ents.length≤_
  rw [hl];omega
 ·
  unfold v6
  split
  ·
   have h1:=MO ((lM b o).ents.filter (iC o)) o
   have h2:=Sw (iC o) (lM b o).ents
   rw [hl] at h1 h2
   show (sv ((lM b o).ents.filter (iC o)) o).length≤_
   rw [hl];omega
  split
  ·
   show (lM b o).ents.length≤_
   rw [hl];omega
  split
  ·
   show (lM b o).ents.length≤_
   rw [hl];omega
  split
  ·
   show (lM b o).ents.length≤_
   rw [hl];omega
  ·
   show (lM b o).ents.length≤_
   rw [hl];omega
end Go.SL
namespace Go.SL
open Go
theorem JN (N:List Gn) (i:Nat):(GQ N i).length=N.length:=by
 unfold GQ
 split
 ·
  exact SP
 ·
  rfl
theorem Kl (b:Bk) (o:Ox):(lM b o).log.length≤b.log.length+1:=by
 unfold lM
 dsimp only
 split
 ·
  rw [Qk,Qo];exact Qq _
 ·
  omega
theorem Nr {b:Bk} {o:Ox}:(apE b o).1.rules.length≤b.rules.length+1∧(apE b o).1.grants.length≤b.grants.length+1∧(apE b o).1.log.length≤b.log.length+1∧(apE b o).1.rels.length≤b.rels.length:=by
 have hl:=Kl b o
 have h1:(lM b o).rules=b.rules:=rfl
 have h2:(lM b o).grants=b.grants:=rfl
 have h3:(lM b o).rels=b.rels:=rfl
 unfold apE
 split
 ·
  exact ⟨Qt _,Qt _,Qt _,Qt _⟩
 split
 ·
  exact ⟨Qt _,Qt _,Qt _,Qt _⟩
 split
 ·
  exact ⟨by rw [h1];omega,by rw [h2];omega,hl,by rw [h3];exact Qq _⟩
 ·
  unfold v6
  split
  ·
   exact ⟨by rw [h1];omega,by rw [h2];omega,hl,by rw [h3];exact Qq _⟩
  split
  ·
   refine ⟨?_,by rw [h2];omega,hl,by rw [h3];exact Qq _⟩
   dsimp only
   rw [h1,Qk,Qo];exact Qq _
  split
  ·
   refine ⟨by rw [h1];omega,?_,hl,by rw [h3];exact Qq _⟩
   dsimp only
   rw [h2,Qk,Qo];exact Qq _
  split
  ·
   refine ⟨by rw [h1];omega,?_,hl,by rw [h3];exact Qq _⟩
   dsimp only
   rw [h2,JN];omega
  ·
   exact ⟨by rw [h1];omega,by rw [h2];omega,hl,by rw [h3];exact Qq _⟩
structure LenB (b:Bk) (n:Nat):Prop where
 e:b.ents.length≤n
 r:b.rules.length≤n
 g:b.grants.length≤n
 l:b.log.length≤n
 s:b.rels.length≤n
theorem LenB.next {b:Bk} {n:Nat} (h:LenB b n) (o:Ox):LenB (apE b o).1 (n+1):=by
 have h1:=O8 (b:=b) (o:=o)
 obtain ⟨h2,h3,h4,h5⟩:=Nr (b:=b) (o:=o)
 exact ⟨QC h1 (Tx h.e),QC h2 (Tx h.r),QC h3 (Tx h.g),QC h4 (Tx h.l),QC h5 (SZ h.s)⟩
theorem LenB.small {b:Bk} {n:Nat} (h:LenB b n) (hn:n≤1000000):Small b:=⟨QC h.e hn,QC h.r hn,QC h.g hn,QC h.l hn,QC h.s hn⟩
structure BkOk (b:Bk):Prop where
 u:1≤b.users∧b.users≤64
 e:(cN b.ents).2=0
 r:(ed b.users b.rules).2=0
 g:(jH b.users b.grants).2=0
 l:ri b.users b.log b.rels=0
 s:0≤b.step∧b.step≤1099511627776
 le:iQ b.step b.log=false
 lr:kX b.step b.rels=false
theorem pz {b:Bk}:bkE b=0↔BkOk b:=by
 constructor
 ·
  intro h
  unfold bkE at h
  split at h
  ·
   cases h
  split at h
  ·
   rename_i h2;exact absurd h h2
  split at h
  ·
   rename_i h2;exact absurd h h2
  split at h
  ·
   rename_i h2;exact absurd h h2
  split at h
  ·
   rename_i h2;exact absurd h h2
  split at h
  ·
   cases h
  split at h
  ·
   cases h
  split at h
  ·
   cases h
  exact ⟨by omega,by omega,by omega,by omega,by omega,by omega,by simp_all,by simp_all⟩
 ·
  intro h
  have h1:=h.u
  have h2:=h.s
  unfold bkE
  rw [if_neg (by omega),if_neg (by rw [h.e];decide),if_neg (by rw [h.r];decide),if_neg (by rw [h.g];decide),if_neg (by rw [h.l];decide),if_neg (by omega),if_neg (by rw [h.le];decide),if_neg (by rw [h.lr];decide)]
def WiU (u:Int) (x:BitVec 64):Prop:=x &&& ~~~(cY u).1=0#64
theorem yu {u:Int} {x:BitVec 64}:WiU u x↔ ∀ i,x.getLsbD i=true→(cY u).1.getLsbD i=true:=by
 unfold WiU
 constructor
 ·
  intro h i hx
  have h1:(x &&& ~~~(cY u).1).getLsbD i=false:=by rw [h];simp
  have hi:=Lg hx
  rw [SI,hx,BitVec.getLsbD_not,QS] at h1
  simpa [hi] using h1
 ·
  intro h
  apply Tn
  intro i hi
  rw [SI,BitVec.getLsbD_not]
  cases hx:x.getLsbD i with
  |false=>simp
  |true=>rw [h i hx];simp
theorem I8 {u:Int} {x y:BitVec 64}:WiU u (x|||y)↔WiU u x∧WiU u y:=by
 simp only [yu,BitVec.getLsbD_or,Sj]
 exact ⟨fun h=>⟨fun i hi=>h i (.inl hi),fun i hi=>h i (.inr hi)⟩,fun h i hi=>hi.elim (h.1 i) (h.2 i)⟩
theorem NG (x:BitVec 64):WiU 64 x:=by
 unfold WiU
 rw [show ~~~(cY 64).1=0#64 by decide+kernel,BitVec.and_zero]
theorem Nt {u:Int} (h:1≤u∧u≤64) (i:Nat):(cY u).1.getLsbD i=decide ((i:Int)<u):=by
 unfold cY
 rw [if_neg (by omega),CC _ (by omega)]
 exact decide_eq_decide.2 (by omega)
theorem rW {u:Int}: ∀ {L:List Rl} {i:Int},(eH u L i).2=0↔ ∀ r∈L,aJ r.rect=true∧WiU u (r.read|||r.write|||r.own)
 | [],_=>⟨fun _ _ h=>(by cases h),fun _=>rfl⟩
 |r::L,i=>by
  rw [eH]
  split
  ·
   rename_i h
   exact ⟨fun h=>(by cases h),fun h2=>by rw [(h2 r Qp).1] at h;cases h⟩
  split
  ·
   rename_i h
   exact ⟨fun h=>(by cases h),fun h2=>absurd (h2 r Qp).2 h⟩
  ·
   rename_i h1 h2
   rw [rW (L:=L)]
   refine ⟨fun h r' hr=> ?_,fun h r' hr=>h r' (Qw _ hr)⟩
   rcases Qx.1 hr with rfl|hr
   ·
    exact ⟨by simpa using h1,Classical.not_not.1 h2⟩
   ·
    exact h r' hr
theorem tB {u:Int} {L:List Rl}:(ed u L).2=0↔(1≤u∧u≤64)∧L≠ []∧L.length≤64∧L.head?.map (fun x=>x.rect)=some mA∧ ∀ r∈L,aJ r.rect=true∧WiU u (r.read|||r.write|||r.own):=by
 unfold ed
 split
 ·
  rename_i h
  refine ⟨fun h=>(by cases h),fun h2=> ?_⟩
  rcases h with h|h|h|h
  ·
   omega
  ·
   omega
  ·
   omega
  ·
   exact absurd h h2.2.1
 rename_i h1
 have hL:L≠ []:=fun e=>h1 (.inr (.inr (.inr e)))
 have hu:1≤u∧u≤64:=by omega
 split
 ·
  exact ⟨fun h=>(by cases h),fun h2=>by omega⟩
 split
 ·
  rename_i h3;exact ⟨fun h=>(by cases h),fun h2=>absurd h2.2.2.2.1 h3⟩
 ·
  rename_i h2 h3
  rw [rW]
  exact ⟨fun h=>⟨hu,hL,by omega,Decidable.not_not.1 h3,h⟩,fun h=>h.2.2.2.2⟩
theorem EM {u:Int} {L:List Rl} (h:(ed u L).2=0):(ed 64 L).2=0:=by
 rw [tB] at h ⊢
 exact ⟨by decide,h.2.1,h.2.2.1,h.2.2.2.1,fun r hr=>⟨(h.2.2.2.2 r hr).1,NG _⟩⟩
theorem rL {u:Int}: ∀ {L:List Gn} {i:Int},(fS u L i).2=0↔ ∀ g∈L,aJ g.rect=true∧Eo u g=true
 | [],_=>⟨fun _ _ h=>(by cases h),fun _=>rfl⟩
 |r::L,i=>by
  rw [fS]
  split
  ·
   rename_i h
   exact ⟨fun h=>(by cases h),fun h2=>by rw [(h2 r Qp).1] at h;cases h⟩
  split
  ·
   rename_i h
   exact ⟨fun h=>(by cases h),fun h2=>by rw [(h2 r Qp).2] at h;cases h⟩
  ·
   rename_i h1 h2
   rw [rL (L:=L)]
   refine ⟨fun h r' hr=> ?_,fun h r' hr=>h r' (Qw _ hr)⟩
   rcases Qx.1 hr with rfl|hr
   ·
    exact ⟨by simpa using h1,by simpa using h2⟩
   ·
    exact h r' hr
theorem jZ {u:Int} {L:List Gn}:(jH u L).2=0↔(1≤u∧u≤64)∧L.length≤64∧ ∀ g∈L,aJ g.rect=true∧Eo u g=true:=by
 unfold jH
 split
 ·
  exact ⟨fun h=>(by cases h),fun h2=>by omega⟩
 split
 ·
  exact ⟨fun h=>(by cases h),fun h2=>by omega⟩
 ·
  rw [rL]
  exact ⟨fun h=>⟨by omega,by omega,h⟩,fun h=>h.2.2⟩
theorem ve {u:Int} (hu:1≤u∧u≤64) {g:Gn}:Eo u g=true↔(1≤g.fns∧g.fns≤31)∧WiU u g.to∧0≤g.by_∧g.by_<u:=by
 unfold Eo
 rw [qi (by omega)]
 simp only [Qu,decide_eq_true_eq,and_assoc]
 exact Iff.rfl
theorem O0 {u:Int} {L:List Gn} (h:(jH u L).2=0):(jH 64 L).2=0:=by
 rw [jZ] at h ⊢
 refine ⟨by decide,h.2.1,fun g hg=>⟨(h.2.2 g hg).1,?_⟩⟩
 have h1:=(ve h.1).1 (h.2.2 g hg).2
 exact (ve (by decide)).2 ⟨h1.1,NG _,h1.2.2.1,by omega⟩
def lY (last:Int):List Ev→Int
 | []=>last
 |x::l=>lY x.step l
theorem vB: ∀ (L:List Ev) (last:Int),lY last L=if L.length=0 then last else ((L[L.length - 1]?).map Ev.step).getD 0
 | [],_=>rfl
 | [x],_=>rfl
 |x::y::L,last=>by
  have ih:=vB (y::L) x.step
  rw [show lY last (x::y::L)=lY x.step (y::L) from rfl,ih]
  simp
theorem HE {s:Int} {L:List Ev} (h:iQ s L=false) (hs:0≤s):lY (-1) L<s:=by
 rw [vB]
 unfold iQ at h
 split
 ·
  omega
 ·
  rw [if_pos (by omega)] at h
  simpa using h
theorem Eg {s:Int} {L:List Ev} {x:Ev}:iQ s (L++ [x])=decide (s≤x.step):=by
 unfold iQ
 rw [if_pos (by simp),Qk,Qo,RZ,Rj (Qq _),Nat.sub_self]
 rfl
theorem Eh {s:Int} {L:List Ev} (h:iQ s L=false):iQ (s+1) L=false:=by
 unfold iQ at h ⊢
 split
 ·
  rename_i h1
  rw [if_pos h1,decide_eq_false_iff_not] at h
  rw [decide_eq_false_iff_not];omega
 ·
  rfl
theorem Ef {s:Int} {L:List Rv} (h:kX s L=false):kX (s+1) L=false:=by
 unfold kX at h ⊢
 split
 ·
  rename_i h1
  rw [if_pos h1,decide_eq_false_iff_not] at h
  rw [decide_eq_false_iff_not];omega
 ·
  rfl
theorem rO {all:BitVec 64} {x:Ev}: ∀ {L:List Ev} {last:Int},dZ all last L=0→kD all (lY last L) x=0→dZ all last (L++ [x])=0
 | [],last,_,h=>by
  rw [Qn,iA,if_neg (by rw [show lY last []=last from rfl] at h;rw [h];decide)];rfl
 |y::L,last,h1,h2=>by
  rw [iA] at h1
  rw [Qm,iA]
  split at h1
  ·
   rename_i h;exact absurd h1 h
  ·
   rename_i h
   rw [if_neg h]
   exact rO h1 h2
theorem tA {u:Int} {L:List Ev} {M:List Rv}:ri u L M=0↔(1≤u∧u≤64)∧dZ (cY u).1 (-1) L=0∧fE (cY u).1 (-1) M=0:=by
 unfold ri
 split
 ·
  exact ⟨fun h=>(by cases h),fun h=>by omega⟩
 split
 ·
  rename_i h;exact ⟨fun h2=>absurd h2 h,fun h2=>absurd h2.2.1 h⟩
 ·
  exact ⟨fun h=>⟨by omega,by omega,h⟩,fun h=>h.2.2⟩
theorem oJ: ∀ {L:List Et} {i:Nat} {b:Option Rf},(dB i b L).2=0↔(L.Pairwise fun x y=>aQ x.at_ y.at_=true)∧(∀ p,b=some p→ ∀ e∈L,aQ p e.at_=true)∧ ∀ e∈L,Hr e
 | [],_,_=>⟨fun _=>⟨.nil,fun _ _ e he=>(by cases he),fun e he=>(by cases he)⟩,fun _=>rfl⟩
 |x::r,i,b=>by
  rw [dB]
  split
  ·
   rename_i h
   refine ⟨fun h2=>absurd h2 h,fun h2=>absurd (xO.2 ⟨fun p hp=>h2.2.1 p hp x Qp,h2.2.2 x Qp⟩) h⟩
  ·
   rename_i h
   have h0:=xO.1 (Classical.not_not.1 h)
   rw [oJ (L:=r)]
   constructor
   ·
    rintro ⟨h1,h2,h3⟩
    have h4:=h2 x.at_ rfl
    refine ⟨QN.2 ⟨h4,h1⟩,fun p hp e he=> ?_,fun e he=> ?_⟩
    ·
     rcases Qx.1 he with rfl|he
     ·
      exact h0.1 p hp
     ·
      exact mU (h0.1 p hp) (h4 e he)
    ·
     rcases Qx.1 he with rfl|he
     ·
      exact h0.2
     ·
      exact h3 e he
   ·
    rintro ⟨h1,h2,h3⟩
    have h4:=QN.1 h1
    exact ⟨h4.2,fun p hp e he=>by cases hp;exact h4.1 e he,fun e he=>h3 e (Qw _ he)⟩
theorem nW {L:List Et}:(cN L).2=0↔(L.Pairwise fun x y=>aQ x.at_ y.at_=true)∧ ∀ e∈L,Hr e:=by
 unfold cN
 rw [oJ]
 exact ⟨fun h=>⟨h.1,h.2.2⟩,fun h=>⟨h.1,fun p hp=>(by cases hp),h.2⟩⟩
theorem Kz {L:List Et} {o:Ox} {e:Et} (h:e∈sv L o):e∈L∨(e=⟨toO o,o.input⟩∧o.input≠av):=by
 unfold sv at h
 split at h
 ·
  exact .inl h
 ·
  rename_i hn
  rcases QJ.1 h with h|h
  ·
   exact .inl (RE h)
  ·
   rcases Qx.1 h with h|h
   ·
    exact .inr ⟨h,hn⟩
   ·
    exact .inl (SA h)
theorem vL {p:Et→Bool}: ∀ L:List Et,L.drop (L.takeWhile p).length=L.dropWhile p
 | []=>rfl
 |a::L=>by
  rw [SC,TD]
  split
  ·
   exact vL L
  ·
   rfl
theorem uo {p:Et→Bool}: ∀ L:List Et,L.take (L.takeWhile p).length=L.takeWhile p
 | []=>rfl
 |a::L=>by
  rw [SC]
  split
  ·
   rw [QF,RA,uo L]
  ·
   rfl
theorem BS {p:Et→Bool}: ∀ {L:List Et} {a:Et} {R:List Et},L.dropWhile p=a::R→p a=false
 |b::L,a,R,h=>by
  rw [TD] at h
  split at h
  ·
   exact BS h
  ·
   rename_i hp
   cases h
   simpa using hp
theorem wR {p:Et→Bool}: ∀ {L:List Et},∀ a∈L.takeWhile p,p a=true
 |b::L,a,h=>by
  rw [SC] at h
  split at h
  ·
   rename_i hb
   rcases Qx.1 h with rfl|h
   ·
    exact hb
   ·
    exact wR a h
  ·
   cases h
theorem BR {L:List Et} {o:Ox} (hs:L.Pairwise fun x y=>aQ x.at_ y.at_=true) (hne: ∀ e∈L,e.at_≠toO o):(sv L o).Pairwise fun x y=>aQ x.at_ y.at_=true:=by
 unfold sv
 split
 ·
  exact hs
 unfold G3
 rw [uo,vL]
 have hsp:L.takeWhile (fun e=>aQ e.at_ (toO o))++L.dropWhile (fun e=>aQ e.at_ (toO o))=L:=List.takeWhile_append_dropWhile
 rw [← hsp,RJ] at hs
 obtain ⟨h1,h2,h3⟩:=hs
 have h4: ∀ e∈L.takeWhile (fun e=>aQ e.at_ (toO o)),aQ e.at_ (toO o)=true:=fun e he=>wR e he
 have h5: ∀ e∈L.dropWhile (fun e=>aQ e.at_ (toO o)),aQ (toO o) e.at_=true:=by
  cases hd:L.dropWhile (fun e=>aQ e.at_ (toO o)) with
  |nil=>intro e he;cases he
  |cons a R=>
   have h6:=BS hd
   rw [hd] at h2 hsp
   have haL:a∈L:=by rw [← hsp];exact SY _ Qp
   have h7:aQ (toO o) a.at_=true:=(BK (hne a haL)).resolve_left fun h=>by
    rw [show aQ a.at_ (toO o)=false from h6] at h;cases h
   intro e he
   rcases Qx.1 he with rfl|he
   ·
    exact h7
   ·
    exact mU h7 ((QN.1 h2).1 e he)
 rw [RJ]
 refine ⟨h1,QN.2 ⟨h5,h2⟩,fun a ha b hb=> ?_⟩
 rcases Qx.1 hb with rfl|hb
 ·
  exact h4 a ha
 ·
  exact h3 a ha b hb
theorem vT {b:Bk} {o:Ox} (h:(cdE b o).1=0∨(cdE b o).1=5): ∀ j,j<5→tst b o j=false:=by
 unfold cdE at h
 have hno: ∀ {x y:Int},x≠0→x≠5→ ¬ ((x,y).1=0∨(x,y).1=5):=fun h0 h5 h=>h.elim h0 h5
 split at h
 ·
  exact absurd h (hno (by decide) (by decide))
 split at h
 ·
  exact absurd h (hno (by decide) (by decide))
 split at h
 ·
  exact absurd h (hno (by decide) (by decide))
 split at h
 ·
  exact absurd h (hno (by decide) (by decide))
 split at h
 ·
  exact absurd h (hno (by decide) (by decide))
 rename_i h0 h1 h2 h3 h4
 intro j hj
 rcases (by omega:j=0∨j=1∨j=2∨j=3∨j=4) with rfl|rfl|rfl|rfl|rfl
 ·
  simpa using h0
 ·
  simpa using h1
 ·
  simpa using h2
 ·
  simpa using h3
 ·
  simpa using h4
theorem Np {b:Bk} {o:Ox} (h:(cdE b o).1=0): ∀ j,j<8→tst b o j=false:=by
 have hf:=vT (.inl h)
 unfold cdE at h
 rw [if_neg (by rw [hf 0 (by decide)];decide),if_neg (by rw [hf 1 (by decide)];decide),if_neg (by rw [hf 2 (by decide)];decide),if_neg (by rw [hf 3 (by decide)];decide),if_neg (by rw [hf 4 (by decide)];decide)] at h
 split at h
 ·
  exact absurd h (by decide)
 split at h
 ·
  exact absurd h (by dsimp only;decide)
 split at h
 ·
  exact absurd h (by decide)
 rename_i h5 h6 h7
 intro j hj
 by_cases hj5:j<5
 ·
  exact hf j hj5
 rcases (by omega:j=5∨j=6∨j=7) with rfl|rfl|rfl
 ·
  simpa using h5
 ·
  simpa using h6
 ·
  simpa using h7
theorem Fs {m:Nat} (h:m<64) (i:Nat):(1#64<<<m).getLsbD i=decide (i=m):=by
 have hb: ∀ m:Fin 64,∀ i:Fin 64,(1#64<<<m.val).getLsbD i.val=decide (i.val=m.val):=by decide+kernel
 by_cases hi:i<64
 ·
  exact hb ⟨m,h⟩ ⟨i,hi⟩
 ·
  rw [BitVec.getLsbD_of_ge _ _ (by omega),decide_eq_false (by omega)]
theorem OH {u:Int} {L:List Rl} {T:Rct} (hL:(ed u L).2=0) (hT:aJ T=true):WiU u (ovE T L).1.2.2:=yu.2 fun i hi=>by
 have h64:=Lg hi
 rw [MB (EM hL) hT h64] at hi
 have hs:=da.1 hT
 have h1:=hi ⟨T.c1,T.r1⟩ (dQ.2 ⟨RS _,hs.2.1,RS _,hs.2.2.2.2.1⟩)
 unfold y9 at h1
 cases hx:L[gN L ⟨T.c1,T.r1⟩]? with
 |none=>rw [hx] at h1;simp at h1
 |some x=>
  rw [hx] at h1
  have h2:=((tB.1 hL).2.2.2.2 x (RY hx)).2
  exact yu.1 (I8.1 h2).2 i h1
theorem Ke {k:Int}:kw k=true↔k=3∨k=4∨k=7∨k=8∨k=9:=by
 simp only [kw,Sj,decide_eq_true_eq,or_assoc]
theorem ui {b:Bk} {o:Ox} (h:tst b o 1=false):0≤o.user∧o.user<b.users:=by
 simp only [tst,SB,decide_eq_false_iff_not] at h
 omega
theorem Jt {b:Bk} {o:Ox} (h:tst b o 0=false):opE o=0:=by
 simp only [tst,decide_eq_false_iff_not] at h
 exact Decidable.not_not.1 h
theorem pJ {b:Bk} {o:Ox} (h:tst b o 2=false) (hk:o.kind=3∨o.kind=4∨o.kind=5∨o.kind=6∨o.kind=7∨o.kind=8):aJ o.rect=true:=by
 have hr:GN o.kind=true:=by
  simp only [GN,Sj,decide_eq_true_eq]
  omega
 simp only [tst,kr,hr,if_true,QS,decide_eq_false_iff_not] at h
 exact (DP _).1 (Decidable.not_not.1 h)
theorem Js {b:Bk} {o:Ox} (h:tst b o 3=false):WiU b.users (o.rd|||o.wr|||o.ow)∧WiU b.users o.to:=by
 simp only [tst,decide_eq_false_iff_not] at h
 exact I8.1 (show WiU b.users ((o.rd|||o.wr|||o.ow)|||o.to) from Classical.not_not.1 h)
theorem Fj {b:Bk} {o:Ox} (h:tst b o 4=false) (hk:o.kind=9): ∃ j:Nat,o.idx=(j:Int)∧ ∃ h:j<b.grants.length,b.grants[j].rev=false:=by
 simp only [tst,hk,decide_true,QS,SB,decide_eq_false_iff_not] at h
 obtain ⟨⟨h1,h2⟩,h3⟩:=h
 have hj:o.idx=(o.idx.toNat:Int):=by omega
 have hl:o.idx.toNat<b.grants.length:=by omega
 exact ⟨_,hj,hl,by rw [← Fx hj hl];exact h3⟩
theorem KO {b:Bk} {o:Ox} (h:BkOk b) (hm:kw o.kind=true) (ht: ∀ j,j<5→tst b o j=false):aJ (evT o b.grants)=true:=by
 unfold evT
 split
 ·
  rename_i hk
  obtain ⟨j,hj,hl,_⟩:=Fj (ht 4 (by decide)) hk
  rw [hj,RX,Ql hl]
  exact ((jZ.1 h.g).2.2 _ (Re hl)).1
 ·
  rename_i hk
  have:=Ke.1 hm
  exact pJ (ht 2 (by decide)) (by omega)
theorem KP {b:Bk} {o:Ox} {dn:Bool} (h:BkOk b) (hm:kw o.kind=true) (ht: ∀ j,j<5→tst b o j=false):evO b.step o dn b.rules b.grants=(⟨b.step,o.user,o.kind,evT o b.grants,dn,(ovE (evT o b.grants) b.rules).1.2.2|||(1#64<<<o.user.toNat)⟩,0):=by
 have hu:=ui (ht 1 (by decide))
 have h0:=Jt (ht 0 (by decide))
 have hs:=h.s
 have hus:=h.u
 have hT:=KO h hm ht
 have h9: ¬ (o.kind=9∧(o.idx<0∨(b.grants.length:Int)≤o.idx)):=by
  rintro ⟨hk,hn⟩
  obtain ⟨j,hj,hl,_⟩:=Fj (ht 4 (by decide)) hk
  omega
 unfold evO ofS
 rw [if_neg (by rw [hm];decide),if_neg (by omega),if_neg (by rw [EM h.r];decide),if_neg (by rw [O0 h.g];decide),if_neg h9,if_neg (by rw [hT];decide),if_neg (by omega)]
theorem P1 {b:Bk} {o:Ox} {dn:Bool} (h:BkOk b) (hm:kw o.kind=true) (ht: ∀ j,j<5→tst b o j=false):kD (cY b.users).1 (lY (-1) b.log) (evO b.step o dn b.rules b.grants).1=0:=by
 have hu:=ui (ht 1 (by decide))
 have hus:=h.u
 have hT:=KO h hm ht
 have hle:=HE h.le h.s.1
 have hm64:o.user.toNat<64:=by omega
 have hto:WiU b.users ((ovE (evT o b.grants) b.rules).1.2.2|||(1#64<<<o.user.toNat)):=I8.2 ⟨OH h.r hT,yu.2 fun i hi=>by
  rw [Fs hm64,decide_eq_true_eq] at hi
  rw [Nt hus,decide_eq_true_eq]
  omega⟩
 have hhs:fX ((ovE (evT o b.grants) b.rules).1.2.2|||(1#64<<<o.user.toNat)) o.user=true:=by
  unfold fX
  rw [BitVec.getLsbD_or,Fs hm64]
  simp only [Qu,decide_eq_true_eq,decide_true,Bool.or_true,and_true]
  omega
 have hus2:fX (cY b.users).1 o.user=true:=by
  rw [qi (by omega)]
  simp only [Qu,decide_eq_true_eq]
  omega
 rw [KP h hm ht]
 unfold kD
 dsimp only
 rw [if_neg (by omega),if_neg (by rw [hm,hus2];decide),if_neg (by rw [hT];decide),if_neg (by rw [hhs,decide_eq_true (show _ &&& ~~~(cY b.users).1=0#64 from hto)];decide)]
theorem Kk {b:Bk} {o:Ox} (h:BkOk b) (hs:b.step≠1099511627776):BkOk (lM b o):=by
 have hst:=h.s
 unfold lM
 refine ⟨h.u,h.e,h.r,h.g,?_,⟨by dsimp only;omega,by dsimp only;omega⟩,?_,Ef h.lr⟩
 ·
  dsimp only
  split
  ·
   rename_i hc
   have h1:=tA.1 h.l
   exact tA.2 ⟨h1.1,rO h1.2.1 (P1 h hc.2 (vT hc.1)),h1.2.2⟩
  ·
   exact h.l
 ·
  dsimp only
  split
  ·
   rename_i hc
   rw [Eg,KP h hc.2 (vT hc.1),decide_eq_false_iff_not]
   dsimp only
   omega
  ·
   exact Eh h.le
theorem J5 {o:Ox} (h:opE o=0) (hk:o.kind≠3):o.input=av:=by
 unfold opE at h
 split at h
 ·
  cases h
 rename_i h1
 have h2:o=mF o:=Classical.not_not.1 fun hn=>h1 (.inr (.inr hn))
 have h3:=congrArg Ox.input h2
 rw [h3]
 unfold mF
 split
 ·
  rfl
 ·
  first|(dsimp only;done)|(dsimp only;rw [if_neg hk])
theorem OL {o:Ox} (h:opE o=0) (hk:o.kind=8):1≤o.fns∧o.fns≤31:=by
 unfold opE at h
 split at h
 ·
  cases h
 rw [if_neg (show ¬ (o.kind=3∨o.kind=6) by omega)] at h
 try rw [if_pos hk] at h
 by_cases hc:o.fns<1∨31<o.fns
 ·
  rw [if_pos hc] at h;cases h
 ·
  omega
theorem Pa {b c:Bk} {o:Ox} (h:BkOk c) (e1:c.users=b.users) (e2:c.rules=b.rules) (e3:c.grants=b.grants) (ht: ∀ j,j<8→tst b o j=false):BkOk (v6 c o):=by
 have hop:=Jt (ht 0 (by decide))
 have hu:=ui (ht 1 (by decide))
 have hwi:=Js (ht 3 (by decide))
 have h7:=ht 7 (by decide)
 unfold v6
 split
 ·
  rename_i hk
  have hr:=pJ (ht 2 (by decide)) (by omega)
  have hs:=da.1 hr
  obtain ⟨k1,k2⟩:=nW.1 h.e
  refine ⟨h.u,nW.2 ⟨BR (k1.sublist List.filter_sublist) fun e he hn=> ?_,fun e he=> ?_⟩,h.r,h.g,h.l,h.s,h.le,h.lr⟩
  ·
   have h1:=(SM.1 he).2
   unfold iC at h1
   rw [hn] at h1
   have h2:eX o.rect (toO o)=true:=dQ.2 ⟨RS _,hs.2.1,RS _,hs.2.2.2.2.1⟩
   rw [h2] at h1;cases h1
  ·
   rcases Kz he with he|⟨rfl,hne⟩
   ·
    exact k2 e (SM.1 he).1
   ·
    have hk3:o.kind=3:=Classical.not_not.1 fun hn=>hne (J5 hop hn)
    have h6:=ht 6 (by decide)
    simp only [tst,hk3,decide_true,QS,decide_eq_false_iff_not] at h6
    refine ⟨?_,hne,Decidable.not_not.1 h6⟩
    show valid o.rect.c1 o.rect.r1=true
    rw [wT];omega
 split
 ·
  rename_i hk
  have hr:=pJ (ht 2 (by decide)) (by omega)
  have h1:=tB.1 h.r
  simp [tst,hk] at h7
  have hlen:c.rules.length+1≤64:=by rw [e2];omega
  refine ⟨h.u,h.e,tB.2 ⟨h1.1,by simp,by simpa using hlen,?_,fun r hm=> ?_⟩,h.g,h.l,h.s,h.le,h.lr⟩
  ·
   dsimp only
   cases hcr:c.rules with
   |nil=>exact absurd hcr h1.2.1
   |cons a l=>rw [hcr] at h1;exact h1.2.2.2.1
  ·
   rcases QJ.1 hm with hm|hm
   ·
    exact h1.2.2.2.2 r hm
   ·
    rw [QO.1 hm]
    exact ⟨hr,by rw [e1];exact hwi.1⟩
 split
 ·
  rename_i hk
  have hr:=pJ (ht 2 (by decide)) (by omega)
  have h1:=jZ.1 h.g
  simp [tst,hk] at h7
  have hlen:c.grants.length+1≤64:=by rw [e3];omega
  have hf:=OL hop hk
  refine ⟨h.u,h.e,h.r,jZ.2 ⟨h1.1,by simpa using hlen,fun g hm=> ?_⟩,h.l,h.s,h.le,h.lr⟩
  rcases QJ.1 hm with hm|hm
  ·
   exact h1.2.2 g hm
  ·
   rw [QO.1 hm]
   exact ⟨hr,(ve h.u).2 ⟨hf,by rw [e1];exact hwi.2,hu.1,by rw [e1];exact hu.2⟩⟩
 split
 ·
  rename_i hk
  have h1:=jZ.1 h.g
  refine ⟨h.u,h.e,h.r,jZ.2 ?_,h.l,h.s,h.le,h.lr⟩
  dsimp only
  unfold GQ
  cases hg:c.grants[o.idx.toNat]? with
  |none=>exact h1
  |some g=>
   dsimp only
   refine ⟨h1.1,by rw [SP];exact h1.2.1,fun x hx=> ?_⟩
   rcases List.mem_or_eq_of_mem_set hx with hx|rfl
   ·
    exact h1.2.2 x hx
   ·
    have h2:=h1.2.2 g (RY hg)
    exact ⟨h2.1,h2.2⟩
 ·
  exact h
theorem P9 {b:Bk} {o:Ox} (h:BkOk b) (hs:b.step≠1099511627776):BkOk (apE b o).1∧(apE b o).2.2.2=0:=by
 unfold apE
 rw [if_neg (by rw [pz.2 h];decide),if_neg hs]
 split
 ·
  exact ⟨Kk h hs,rfl⟩
 ·
  rename_i hc
  exact ⟨Pa (Kk h hs) rfl rfl rfl (Np (Decidable.not_not.1 hc)),rfl⟩
def lC (b:Bk) (a:Rf) (u:Us) (rd:BitVec 64) (i:Nat):List Rv:=match b.grants[i]? with
 |some g=>if g.to≠0#64 then [⟨b.step - 1,⟨a,u.node⟩,u.fn,u.rect,(i:Int),rd⟩] else []
 |none=> []
def gx (b:Bk) (a:Rf) (rd:BitVec 64) (u:Us):List Rv:=if u.node<0 then [] else (l3 u.fn u.rect b.rules b.grants).2.1.flatMap (lC b a u rd)
def lX (b:Bk) (G:Gr) (a:Rf):List Rv:=(iO G a).flatMap (gx b a (atE a b.rules).1.1)
def xA (b:Bk) (G:Gr):List Rv:=(bZ G).flatMap (lX b G)
def grB (b:Bk):Gr:=(o8 b.ents).1.getD []
def dH (b:Bk):List Rv:=xA b (grB b)
theorem MF {L:List Et} (h:(cN L).2=0): ∃ G,o8 L=(some G,0)∧GrOk G∧G.length≤L.length:=by
 rcases Ka L with ⟨e,he,h2⟩|h2
 ·
  rw [tj,if_neg (by rw [h];decide)] at h2
  exact absurd (congrArg Prod.fst h2) (by simp)
 ·
  exact h2
theorem KG {b:Bk} (h:BkOk b):o8 b.ents=(some (grB b),0)∧GrOk (grB b)∧(grB b).length≤b.ents.length:=by
 obtain ⟨G,h1,h2,h3⟩:=MF h.e
 have:grB b=G:=by unfold grB;rw [h1];rfl
 rw [this];exact ⟨h1,h2,h3⟩
theorem Kh {L M:List Rv} {x:Rv}:x∈gk L M↔x∈L∧abt x∉M.map abt:=by
 unfold gk
 rw [SM]
 simp
theorem Ee {b c:Bk} (h1:c.ents=b.ents) (h2:c.rules=b.rules) (h3:c.grants=b.grants):(dH c).map abt=(dH b).map abt:=by
 unfold dH xA grB
 rw [h1]
 generalize (o8 b.ents).1.getD []=G
 rw [SW,SW]
 congr 1
 funext a
 unfold lX
 rw [SW,SW,h2]
 congr 1
 funext u
 unfold gx
 rw [h2,h3]
 split
 ·
  rfl
 ·
  rw [SW,SW]
  congr 1
  funext i
  unfold lC
  rw [h3]
  cases b.grants[i]? with
  |none=>rfl
  |some g=>dsimp only;split<;>rfl
theorem Hw {L M:List Rv} (h:L.map abt=M.map abt):gk L M= []:=by
 rw [List.eq_nil_iff_forall_not_mem]
 intro x hx
 obtain ⟨h1,h2⟩:=Kh.1 hx
 exact h2 (h ▸ QT.2 ⟨x,h1,rfl⟩)
theorem J8 {b:Bk} {o:Ox} (h:BkOk b) (hs:b.step≠1099511627776) (hc:(apE b o).2.1≠0):gk (dH (apE b o).1) (dH b)= []:=by
 refine Hw ?_
 unfold apE at hc ⊢
 rw [if_neg (show ¬ (bkE b≠0) by rw [pz.2 h];decide),if_neg hs] at hc ⊢
 split
 ·
  exact Ee rfl rfl rfl
 ·
  rename_i h0
  rw [if_neg h0] at hc
  exact absurd rfl hc
def Cp (k:Nat):ByteArray:=if k=0 then ⟨#[55]⟩ else if k=1 then ⟨#[70,65,76,83,69]⟩ else ⟨#[121]⟩
theorem FV (k:Nat):CstB (Cp k):=by
 unfold Cp
 split
 ·
  exact ⟨by decide+kernel,by decide+kernel,by decide+kernel⟩
 split
 ·
  exact ⟨by decide+kernel,by decide+kernel,by decide+kernel⟩
 ·
  exact ⟨by decide+kernel,by decide+kernel,by decide+kernel⟩
def n9 (n i:Nat) (e:Et):Et:=if (ap e.input).headD 61=61 then e else ⟨e.at_,Cp ((n+i) % 3)⟩
def jM (n:Nat):Nat→List Et→List Et
 |_,[]=> []
 |i,e::r=>n9 n i e::jM n (i+1) r
theorem FW (n i:Nat) (e:Et):(n9 n i e).at_=e.at_:=by unfold n9;split<;>rfl
theorem lj (n:Nat): ∀ (L:List Et) (i:Nat),(jM n i L).length=L.length
 | [],_=>rfl
 |e::r,i=>congrArg (· +1) (lj n r (i+1))
theorem qt (n:Nat): ∀ (L:List Et) (i k:Nat),(jM n i L)[k]? =(L[k]?).map (n9 n (i+k))
 | [],_,_=>by simp [jM]
 |e::r,i,0=>rfl
 |e::r,i,k+1=>by
  have:=qt n r (i+1) k
  rw [jM,Tl,Tl,this,show i+1+k=i+(k+1) by omega]
theorem O3 {b:ByteArray} (h:(ap b).headD 61≠61):(ofP b).1.formula=false:=by
 rw [J7]
 unfold ofR
 split
 ·
  rfl
 split
 ·
  rfl
 ·
  rw [if_pos (by cases hb:ap b with
   |nil=>rw [hb] at h;exact absurd rfl h
   |cons a l=>rw [hb] at h;simpa using h)]
theorem BU (n:Nat): ∀ (L:List Et) (i:Nat) (A:Gr),(∀ e∈L,Hr e)→rM A (jM n i L)=rM A L
 | [],_,_,_=>rfl
 |e::r,i,A,hk=>by
  have ih:=fun A=>BU n r (i+1) A (fun f h=>hk f (Qw _ h))
  obtain ⟨h1,_,h2⟩:=hk e Qp
  have he:jh A (n9 n i e).at_ (n9 n i e).input=jh A e.at_ e.input:=by
   unfold n9
   split
   ·
    rfl
   ·
    rename_i hn
    have hc:=FV ((n+i) % 3)
    rw [AA h1 h2 (O3 hn)]
    exact AA h1 hc.ok hc.no
  rw [jM,show rM A (n9 n i e::jM n (i+1) r)=rM (jh A (n9 n i e).at_ (n9 n i e).input).1 (jM n (i+1) r) from rfl,he,ih]
  rfl
theorem K1 {L:List Et} {n i:Nat} (h:(cN L).2=0):(cN (jM n i L)).2=0:=by
 rw [nW] at h ⊢
 have hp: ∀ (L:List Et) (i:Nat),(L.Pairwise fun x y=>aQ x.at_ y.at_=true)→(jM n i L).Pairwise fun x y=>aQ x.at_ y.at_=true:=by
  intro L
  induction L with
  |nil=>intro i _;exact .nil
  |cons e r ih=>
   intro i hs
   rw [QN] at hs
   rw [jM,QN]
   refine ⟨fun f hf=> ?_,ih (i+1) hs.2⟩
   obtain ⟨k,hk⟩:=List.getElem?_of_mem hf
   rw [qt] at hk
   obtain ⟨g,hg,rfl⟩:=Rg.1 hk
   rw [FW,FW]
   exact hs.1 g (RY hg)
 refine ⟨hp L i h.1,fun f hf=> ?_⟩
 obtain ⟨k,hk⟩:=List.getElem?_of_mem hf
 rw [qt] at hk
 obtain ⟨g,hg,rfl⟩:=Rg.1 hk
 have hgk:=h.2 g (RY hg)
 unfold n9
 split
 ·
  exact hgk
 ·
  have hc:=FV ((n+(i+k)) % 3)
  exact ⟨hgk.1,hc.ne,hc.ok⟩
theorem Kn {b:Bk} {n:Nat} (h:BkOk b):dH ⟨b.users,jM n 0 b.ents,b.rules,b.grants,b.log,b.rels,b.step⟩=dH b:=by
 have hg:o8 (jM n 0 b.ents)=o8 b.ents:=by
  rw [tj,tj,if_neg (by rw [K1 h.e];decide),if_neg (by rw [h.e];decide),BU n b.ents 0 [] (nW.1 h.e).2]
 show xA ⟨b.users,jM n 0 b.ents,b.rules,b.grants,b.log,b.rels,b.step⟩ ((o8 (jM n 0 b.ents)).1.getD [])=_
 rw [hg]
 rfl
def AO (fn:Int) (r:Rct) (L:List Rl):List Gn→Nat→List Nat
 | [],_=> []
 |g::G,i=>bif Mx fn r L g then i::AO fn r L G (i+1) else AO fn r L G (i+1)
theorem uA {fn:Int} {r:Rct} {L:List Rl}: ∀ (G:List Gn) (i:Nat),(du fn r L G i).map (fun x=>x.1)=AO fn r L G i
 | [],_=>rfl
 |g::G,i=>by
  have h:xk fn r L g=Mx fn r L g:=by unfold xk Mx BG;rw [OJ]
  rw [du,AO,h]
  cases Mx fn r L g
  ·
   exact uA G (i+1)
  ·
   exact congrArg (i:: ·) (uA G (i+1))
def byC (fn:Int) (r:Rct) (L:List Rl) (G:List Gn):List Nat:=
 if fn<46∨50<fn then [] else if dC r≠0 then [] else if (ed 64 L).2≠0 then [] else if (jH 64 G).2≠0 then [] else AO fn r L G 0
theorem O6 {fn:Int} {r:Rct} {L:List Rl} {G:List Gn}:(l3 fn r L G).2.1=byC fn r L G:=by
 unfold l3 byC
 rw [uA]
 repeat' split
 all_goals rfl
def lvC (b:Bk) (G:Gr):List Rv:=(bZ G).flatMap fun a=>(iO G a).flatMap fun u=>if u.node<0 then [] else (byC u.fn u.rect b.rules b.grants).flatMap (lC b a u (atE a b.rules).1.1)
theorem OX (b:Bk) (G:Gr):xA b G=lvC b G:=by
 have h: ∀ a,gx b a (atE a b.rules).1.1=fun u=>if u.node<0 then [] else (byC u.fn u.rect b.rules b.grants).flatMap (lC b a u (atE a b.rules).1.1):=fun a=>funext fun u=>by unfold gx;rw [O6]
 unfold xA lvC lX
 simp only [h]
theorem MI {b:Bk} {G:Gr} {e:Int} {l:List Rv} (h:o8 b.ents=(some G,e)) (h2:lvC b G=l):dH b=l:=by
 unfold dH grB
 rw [h,← h2,← OX]
 rfl
def PW:Gn:=⟨⟨2,1,2,3⟩,1,2#64,0,false⟩
def ni:Bk:=⟨3,xJ,bkR,[PW],[],[],1⟩
def zk:Rv:=⟨0,⟨⟨1,3⟩,1⟩,46,⟨2,1,2,3⟩,0,7#64⟩
set_option maxRecDepth 100000 in
theorem KM:bkE ni=0:=by decide+kernel
set_option maxRecDepth 100000 in
theorem HR:dH ni= [zk]:=MI KK (by decide+kernel)
end Go.SL
