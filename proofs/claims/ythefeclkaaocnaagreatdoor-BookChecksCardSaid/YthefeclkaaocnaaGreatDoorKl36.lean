/-
  Lemmas and walks, put together: Im.
-/
import Derived.Test.YthefeclkaaocnaaGreatDoorKl35
set_option linter.unusedSimpArgs false
set_option linter.unusedVariables false
set_option maxRecDepth 20000
namespace Go.SL
open Go Go.Proofs
section
variable {P:Program} {n:Fr} {w0:World} {s:az} {H:List Blk}
theorem dR {fn:Func} {R:Value→List Blk→Prop} {e:Exit} {t u q r T T' g m:Nat} {xs:List Value} {v v' v2:Value} (he:e= .ret∨e= .normal) (hr:fn.results= #[.cell t T,.tmp u,.tmp q,.tmp r]) [Agg P T m] (ht:look s t=some (.pointer (some ⟨g,0,none⟩))) (hi:In (.box g T' xs) H) (hl:Nat.beq xs.length m=true)
  (hu:look s u=some v) (hq:look s q=some v') (hw:look s r=some v2) {H' :List Blk} (hs:MSub H' H) (hR:R (.tuple #[.agg xs.toArray,v,v',v2]) H'):bq P fn n w0 R e s H:=
 ⟨he,_,H',hs,fun a w hst hm=>by
  have h1:=jO (P:=P) (T:=T) hst hm ht hi hl
  have h2:a.tmps.getD u undef=v:=by simp [L8,hst.has u _ hu]
  have h3:a.tmps.getD q undef=v' :=by simp [L8,hst.has q _ hq]
  have h4:a.tmps.getD r undef=v2:=by simp [L8,hst.has r _ hw]
  simp only [results,hr]
  simp only [Nz,Mc,Ml,Sem.run_bind,Sem.run_map] at h1 ⊢
  simp only [h1,Result.andThen_ok,Sem.run_pure,h2,h3,h4]
  rfl,hR⟩
end
attribute [local irreducible] W WL WQ WG WA WX WLI WR WT WC WE VOp RW thn blk bS scp bq bF cj aS FnIn FnP ceP
def IA (L:List Et) (to:Rf):Nat:=(L.takeWhile fun e=>fj e.at_ to).length
def toO (o:Ox):Rf:=⟨o.rect.c1,o.rect.r1⟩
def Gf (L:List Et) (o:Ox):List Et:=if o.input=av then L else L.take (IA L (toO o))++⟨toO o,o.input⟩::L.drop (IA L (toO o))
theorem qi {L:List Et} {to:Rf} {i:Nat} (hi:i≤L.length) (hall: ∀ j (h:j<L.length),j<i→fj L[j].at_ to=true) (hs:i=L.length∨ ∃ h:i<L.length,fj L[i].at_ to=false):IA L to=i:=by
 have h1:L.takeWhile (fun e=>fj e.at_ to)=L.take i:=by
  conv=>lhs;rw [← MA i L]
  rw [List.takeWhile_append_of_pos]
  ·
   rcases hs with rfl|⟨h,hf⟩
   ·
    rw [LU,List.takeWhile_nil,LN]
   ·
    rw [LJ h,NY,if_neg (by rw [hf];decide),LN]
  ·
   intro e he
   obtain ⟨j,hj,rfl⟩:=NV.1 he
   rw [LP] at hj
   rw [N9]
   exact hall j (by omega) (by omega)
 rw [IA,h1,LP]
 omega
def oF:Bk:=⟨0,[],[],[],[],[],0⟩
def ve:Bo:=⟨none,none,none,none,none,0,0,0,0,0⟩
def J5 (N:List Gn) (i:Nat):List Gn:=match N[i]? with|some g=>N.set i ⟨g.rect,g.fns,g.to,g.by_,true⟩|none=>N
def Kk (b:Bk) (o:Ox):Bk:=
 ⟨b.users,b.ents,b.rules,b.grants,if ((cdE b o).1=0∨(cdE b o).1=5)∧kK o.kind=true then b.log++ [(evO b.step o (decide ((cdE b o).1=0)) b.rules b.grants).1] else b.log,b.rels,b.step+1⟩
def zt (b:Bk) (o:Ox):Bk:=
 if o.kind=3∨o.kind=4 then ⟨b.users,Gf (b.ents.filter (iX o)) o,b.rules,b.grants,b.log,b.rels,b.step⟩
 else if o.kind=7 then ⟨b.users,b.ents,b.rules++ [⟨o.rect,o.rd,o.wr,o.ow⟩],b.grants,b.log,b.rels,b.step⟩
 else if o.kind=8 then ⟨b.users,b.ents,b.rules,b.grants++ [⟨o.rect,o.fns,o.to,o.user,false⟩],b.log,b.rels,b.step⟩
 else if o.kind=9 then ⟨b.users,b.ents,b.rules,J5 b.grants o.idx.toNat,b.log,b.rels,b.step⟩
 else b
def apE (b:Bk) (o:Ox):Bk × Int × Int × Int:=
 if bkE b≠0 then (oF,0,0,bkE b)
 else if b.step=1099511627776 then (oF,0,0,5)
 else if (cdE b o).1≠0 then (Kk b o,(cdE b o).1,(cdE b o).2,0)
 else (zt (Kk b o) o,0,0,0)
theorem GV {b:Bk} (h: ¬ bkE b≠0):0≤b.step∧b.step≤1099511627776∧b.rules.length≤64∧b.grants.length≤64:=by
 have h:=Decidable.not_not.1 h
 unfold bkE at h
 split at h
 ·
  exact absurd h (by decide)
 split at h
 ·
  rename_i h2;exact absurd h h2
 split at h
 ·
  rename_i h2;exact absurd h h2
 rename_i hacl
 split at h
 ·
  rename_i h2;exact absurd h h2
 rename_i hgnt
 split at h
 ·
  rename_i h2;exact absurd h h2
 split at h
 ·
  exact absurd h (by decide)
 refine ⟨by omega,by omega,?_,?_⟩
 ·
  unfold jY at hacl
  split at hacl
  ·
   exact absurd (by decide) hacl
  split at hacl
  ·
   exact absurd (by decide) hacl
  ·
   omega
 ·
  unfold l3 at hgnt
  split at hgnt
  ·
   exact absurd (by decide) hgnt
  split at hgnt
  ·
   exact absurd (by decide) hgnt
  ·
   omega
theorem ut: ∀ (N:List Gn) (j:Nat) (hj:j<N.length),(N.flatMap bg).set (j*8+7) (.bool true)=(N.set j ⟨N[j].rect,N[j].fns,N[j].to,N[j].by_,true⟩).flatMap bg
 | [],_,hj=>absurd hj (Nat.not_lt_zero _)
 |_::_,0,_=>rfl
 |g::N,j+1,hj=>by
  have ih:=ut N j (Nat.lt_of_succ_lt_succ hj)
  rw [LR,Ny _ _ (by rw [bR];omega),bR,show (j+1)*8+7 - 8=j*8+7 by omega,ih]
  rfl
theorem zf (L:List Et) (o:Ox) (go cap:Nat) (w0:World) (A:Option Nat) {H T:List Blk} (hL:L.length≤1000000) (hs:Sel (.own A 53 3 L.length cap (L.flatMap aH)) H T) (hgo:In (.box go 41 (bL o)) T):
  FnIn Tryz.prog 57 [sl A L.length cap,.func (.func 58) #[] #[.pointer (some ⟨go,0,none⟩)]] w0 H fun v H' =>v=sl A (L.filter (iX o)).length cap∧H' = .own A 53 3 (L.filter (iX o)).length cap ((L.filter (iX o)).flatMap aH)::T:=
 FnIn.msub (I3 L o go cap T w0 A hL hgo) (MSub.pick hs (MSub.refl _))
theorem kD (L:List Et) (i:Nat) (hi:i≤L.length) (x:Et) (A:Option Nat) (cap:Nat) (hL:L.length≤1000000) (w0:World) {H T:List Blk} (hs:Sel (.own A 53 3 L.length cap (L.flatMap aH)) H T):
  FnIn Tryz.prog 61 [sl A L.length cap,.int .i64 (i:Int),.agg (aH x).toArray] w0 H fun v H=> ∃ A' c,v=sl A' (L.length+1) c∧H= .own A' 53 3 (L.length+1) c ((L.take i++x::L.drop i).flatMap aH)::T:=
 FnIn.msub (Eb L i hi x A cap hL w0 T) (MSub.pick hs (MSub.refl _))
set_option maxHeartbeats 16000000 in
theorem Hp (b:Bk) (x:Bv) (o:Ox) (w:World) (h:BRd w b x) (hW:Words w) (hs:Small b):aS Tryz.prog 14 [.agg (aP b x).toArray,.agg (bL o).toArray] w fun v H=> ∃ a:Bo,v= .tuple #[.agg (aP (apE b o).1 a.v).toArray,.int .u8 (apE b o).2.1,.int .i64 (apE b o).2.2.1,.int .i64 (apE b o).2.2.2]∧H=aM (apE b o).1 a:=by
  refine aq Tryz.func14 rfl Tryz.ntmps14 rfl ?_
  have hC:=fun (w' :World) (H:List Blk) (hm:Mem w w' H)=>mW b x w' (h.of_w0 hm) (hW.next hm) hs.e
  have hY:=fun (w' :World) (H:List Blk) (hm:Mem w w' H)=>uZ b x w' (h.of_w0 hm) hs
  have hM:=fun w=>mX o w
  have hD:=fun (w' :World) (g:Nat) (H:List Blk) (hi:In (.box g 28 (aP b x)) H) (hm:Mem w w' H)=>I6 b x o g w' (Ro.of_box hm hi) (h.of_w0 hm) (hW.next hm)
  have hE:=fun (w' :World) (H:List Blk) (hm:Mem w w' H)=>Hn b.step o (decide ((cdE b o).1=0)) b.rules b.grants _ _ w' (h.r.of_w0 hm) (h.g.of_w0 hm)
  have hs1:=hs.e
  have hs2:=hs.r
  have hs3:=hs.g
  have hs4:=hs.l
  refine aJ 53 3 ?_
  refine aJ 38 7 ?_
  refine aJ 56 8 ?_
  refine aJ 48 9 ?_
  refine aJ 70 11 ?_
  unfold apE
  by_cases he:bkE b≠0
  · rw [if_pos he]
    generalize bkE b=e at hC he ⊢
    simp only [aP] at hC ⊢
    repeat' (first|(apply aa (f:=12);exact rfl;exact rfl;(intro w' hm;exact hC w' _ hm))|refine sT ?_|refine sS ?_|refine sM fun _=> ?_|(refine sC ?_ ?_<;>intro hb<;>try omega)|fail)
    all_goals first
      |(exfalso;omega)
      |(refine dR eIO rfl rfl pK rfl rfl rfl rfl (H' :=aM oF ve) (by unfold aM;exact mS) ⟨ve,rfl,rfl⟩;done)
      |trace_state
  rw [if_neg he]
  obtain ⟨hst1,hst2,hst3,hst4⟩:=GV he
  rw [show bkE b=0 by omega] at hC
  by_cases hmx:b.step=1099511627776
  · rw [if_pos hmx]
    simp only [aP] at hC ⊢
    repeat' (first|(apply aa (f:=12);exact rfl;exact rfl;(intro w' hm;exact hC w' _ hm))|refine sT ?_|refine sS ?_|refine sM fun _=> ?_|(refine sC ?_ ?_<;>intro hb<;>try omega)|fail)
    all_goals first
      |(exfalso;omega)
      |(refine dR eIO rfl rfl pK rfl rfl rfl rfl (H' :=aM oF ve) (by unfold aM;exact mS) ⟨ve,rfl,rfl⟩;done)
      |trace_state
  rw [if_neg hmx]
  obtain ⟨⟨c,at_⟩,hcd⟩: ∃ c,cdE b o=c:=⟨_,rfl⟩
  obtain ⟨mk,hmk⟩: ∃ mk,kK o.kind=mk:=⟨_,rfl⟩
  have hpos:mk=false∨o.kind=3∨o.kind=4∨o.kind=7∨o.kind=8∨o.kind=9:=by
    cases mk with
    |false=>exact .inl rfl
    |true=>
      simp only [kK,Nt,decide_eq_true_eq] at hmk
      omega
  unfold Kk
  rw [hcd] at hD hE ⊢
  rw [hmk] at hM ⊢
  dsimp only at hD hE ⊢
  generalize evO b.step o (decide (c=0)) b.rules b.grants=ev at hE ⊢
  obtain ⟨ev1,ev2⟩:=ev
  dsimp only at hE ⊢
  have el1:(b.log++ [ev1]).length=b.log.length+1:=by rw [LC];rfl
  have el2:(b.log++ [ev1]).flatMap aQ=b.log.flatMap aQ++aQ ev1:=by rw [LY,LR,Mj,LN]
  by_cases hcz:c≠0
  · rw [if_pos hcz]
    by_cases hlg:(c=0∨c=5)∧mk=true
    · rw [if_pos hlg]
      obtain ⟨hc5,hmt⟩:=hlg
      simp only [aP,aM,el1,el2] at hC ⊢
      repeat' (first|(apply aa (f:=12);exact rfl;exact rfl;(intro w' hm;exact hC w' _ hm))|(apply aG (f:=28);exact rfl;exact rfl;(intro w' hm;exact hY w' _ hm);rintro _ _ ⟨a,rfl,rfl⟩;unfold aM)|(apply ak (d:=27);exact rfl;apply dZ;exact rfl;exact rfl;exact ⟨by omega,by omega⟩)|(apply aa (f:=54);exact rfl;exact rfl;(intro w' hm;exact hD w' _ _ pK hm))|(apply aa (f:=55);exact rfl;exact rfl;(intro w' _;exact hM w'))|(apply aa (f:=56);exact rfl;exact rfl;(intro w' hm;exact hE w' _ hm))|(apply aN (d:=61);(iterate 3 exact rfl);exact pK;exact pK;exact rfl;(intro u hu;simp [aQ] at hu;rcases hu with rfl|rfl|rfl|rfl|rfl|rfl|rfl|rfl|rfl<;>rfl);omega;(simp only [maxLen];omega);intro g61 c61)|refine sT ?_|refine sS ?_|refine sM fun _=> ?_|(refine sC ?_ ?_<;>intro hb<;>try omega)|fail)
      all_goals first
        |(exfalso;omega)
        |(exfalso;simp_all;done)
        |(refine dR eIO rfl rfl pK rfl rfl rfl rfl (H' := [.own (a.e) 53 3 (b.ents.length) a.ce (b.ents.flatMap aH),.own (a.r) 38 7 (b.rules.length) a.cr (b.rules.flatMap bh),.own (a.g) 56 8 (b.grants.length) a.cg (b.grants.flatMap bg),.own (some g61) 48 9 (b.log.length+1) c61 (b.log.flatMap aQ++aQ ev1),.own (a.s) 70 11 (b.rels.length) a.cs (b.rels.flatMap bu)]) mS ⟨⟨a.e,a.r,a.g,some g61,a.s,a.ce,a.cr,a.cg,c61,a.cs⟩,rfl,rfl⟩;done)
        |trace_state
    · rw [if_neg hlg]
      simp only [aP,aM] at hC ⊢
      repeat' (first|(apply aa (f:=12);exact rfl;exact rfl;(intro w' hm;exact hC w' _ hm))|(apply aG (f:=28);exact rfl;exact rfl;(intro w' hm;exact hY w' _ hm);rintro _ _ ⟨a,rfl,rfl⟩;unfold aM)|(apply ak (d:=27);exact rfl;apply dZ;exact rfl;exact rfl;exact ⟨by omega,by omega⟩)|(apply aa (f:=54);exact rfl;exact rfl;(intro w' hm;exact hD w' _ _ pK hm))|(apply aa (f:=55);exact rfl;exact rfl;(intro w' _;exact hM w'))|refine sT ?_|refine sS ?_|refine sM fun _=> ?_|(refine sC ?_ ?_<;>intro hb<;>try omega)|fail)
      all_goals first
        |(exfalso;omega)
        |(exfalso;exact hlg ⟨by first|exact .inl ‹_› |exact .inr ‹_›,by assumption⟩)
        |(refine dR eIO rfl rfl pK rfl rfl rfl rfl (H' := [.own (a.e) 53 3 (b.ents.length) a.ce (b.ents.flatMap aH),.own (a.r) 38 7 (b.rules.length) a.cr (b.rules.flatMap bh),.own (a.g) 56 8 (b.grants.length) a.cg (b.grants.flatMap bg),.own (a.l) 48 9 (b.log.length) a.cl (b.log.flatMap aQ),.own (a.s) 70 11 (b.rels.length) a.cs (b.rels.flatMap bu)]) mS ⟨a,rfl,rfl⟩;done)
        |trace_state
  rw [if_neg hcz]
  have hc0:c=0:=Decidable.not_not.1 hcz
  subst hc0
  cases mk with
  |false=>
    have hkn: ¬ (o.kind=3∨o.kind=4)∧o.kind≠7∧o.kind≠8∧o.kind≠9:=by
      simp only [kK,NC,decide_eq_false_iff_not] at hmk
      omega
    rw [if_neg (fun h=>by cases h.2),zt,if_neg hkn.1,if_neg hkn.2.1,if_neg hkn.2.2.1,if_neg hkn.2.2.2]
    simp only [aP,aM] at hC ⊢
    repeat' (first|(apply aa (f:=12);exact rfl;exact rfl;(intro w' hm;exact hC w' _ hm))|(apply aG (f:=28);exact rfl;exact rfl;(intro w' hm;exact hY w' _ hm);rintro _ _ ⟨a,rfl,rfl⟩;unfold aM)|(apply ak (d:=27);exact rfl;apply dZ;exact rfl;exact rfl;exact ⟨by omega,by omega⟩)|(apply aa (f:=54);exact rfl;exact rfl;(intro w' hm;exact hD w' _ _ pK hm))|(apply aa (f:=55);exact rfl;exact rfl;(intro w' _;exact hM w'))|refine sT ?_|refine sS ?_|refine sM fun _=> ?_|(refine sC ?_ ?_<;>intro hb<;>try omega)|fail)
    all_goals first
      |(exfalso;omega)
      |(refine dR eIO rfl rfl pK rfl rfl rfl rfl (H' := [.own (a.e) 53 3 (b.ents.length) a.ce (b.ents.flatMap aH),.own (a.r) 38 7 (b.rules.length) a.cr (b.rules.flatMap bh),.own (a.g) 56 8 (b.grants.length) a.cg (b.grants.flatMap bg),.own (a.l) 48 9 (b.log.length) a.cl (b.log.flatMap aQ),.own (a.s) 70 11 (b.rels.length) a.cs (b.rels.flatMap bu)]) mS ⟨a,rfl,rfl⟩;done)
      |trace_state
  |true=>
    rw [if_pos ⟨.inl rfl,rfl⟩]
    rcases hpos.resolve_left (by decide) with hk|hk|hk|hk|hk
    · obtain ⟨L,hL⟩: ∃ L,b.ents.filter (iX o)=L:=⟨_,rfl⟩
      have hLl:L.length≤1000000:=Ma (hL ▸ NR _ _) hs1
      have hdel:=fun (A:Option Nat) (cap go:Nat) (H T:List Blk) (h1:Sel (.own A 53 3 b.ents.length cap (b.ents.flatMap aH)) H T) (h2:In (.box go 41 (bL o)) T)=>zf b.ents o go cap w A hs1 h1 h2
      rw [hL] at hdel
      rw [zt,if_pos (by omega)]
      dsimp only
      rw [hL]
      by_cases hin:o.input=av
      · rw [Gf,if_pos hin]
        simp only [aP,aM,el1,el2] at hC ⊢
        repeat' (first|(apply aa (f:=12);exact rfl;exact rfl;(intro w' hm;exact hC w' _ hm))|(apply aG (f:=28);exact rfl;exact rfl;(intro w' hm;exact hY w' _ hm);rintro _ _ ⟨a,rfl,rfl⟩;unfold aM)|(apply ak (d:=27);exact rfl;apply dZ;exact rfl;exact rfl;exact ⟨by omega,by omega⟩)|(apply aa (f:=54);exact rfl;exact rfl;(intro w' hm;exact hD w' _ _ pK hm))|(apply aa (f:=55);exact rfl;exact rfl;(intro w' _;exact hM w'))|(apply aa (f:=56);exact rfl;exact rfl;(intro w' hm;exact hE w' _ hm))|(apply aN (d:=61);(iterate 3 exact rfl);exact pK;exact pK;exact rfl;(intro u hu;simp [aQ] at hu;rcases hu with rfl|rfl|rfl|rfl|rfl|rfl|rfl|rfl|rfl<;>rfl);omega;(simp only [maxLen];omega);intro g61 c61)|(apply aw (f:=57);exact rfl;exact rfl;exact hdel _ _ _ _ _ pK pK;rintro _ _ ⟨rfl,rfl⟩)|(apply ak (d:=80);exact rfl;apply oN (b:=av);exact rfl;exact rfl)|refine sT ?_|refine sS ?_|refine sM fun _=> ?_|(refine sC ?_ ?_<;>intro hb<;>try omega)|fail)
        all_goals first
          |(exfalso;omega)
          |(exact absurd hin hb)
          |(refine dR eIO rfl rfl pK rfl rfl rfl rfl (H' := [.own (a.e) 53 3 (L.length) a.ce (L.flatMap aH),.own (a.r) 38 7 (b.rules.length) a.cr (b.rules.flatMap bh),.own (a.g) 56 8 (b.grants.length) a.cg (b.grants.flatMap bg),.own (some g61) 48 9 (b.log.length+1) c61 (b.log.flatMap aQ++aQ ev1),.own (a.s) 70 11 (b.rels.length) a.cs (b.rels.flatMap bu)]) mS ⟨⟨a.e,a.r,a.g,some g61,a.s,a.ce,a.cr,a.cg,c61,a.cs⟩,rfl,rfl⟩;done)
          |trace_state
      · rw [Gf,if_neg hin]
        simp only [aP,aM,el1,el2] at hC ⊢
        repeat' (first|(apply aa (f:=12);exact rfl;exact rfl;(intro w' hm;exact hC w' _ hm))|(apply aG (f:=28);exact rfl;exact rfl;(intro w' hm;exact hY w' _ hm);rintro _ _ ⟨a,rfl,rfl⟩;unfold aM)|(apply ak (d:=27);exact rfl;apply dZ;exact rfl;exact rfl;exact ⟨by omega,by omega⟩)|(apply aa (f:=54);exact rfl;exact rfl;(intro w' hm;exact hD w' _ _ pK hm))|(apply aa (f:=55);exact rfl;exact rfl;(intro w' _;exact hM w'))|(apply aa (f:=56);exact rfl;exact rfl;(intro w' hm;exact hE w' _ hm))|(apply aN (d:=61);(iterate 3 exact rfl);exact pK;exact pK;exact rfl;(intro u hu;simp [aQ] at hu;rcases hu with rfl|rfl|rfl|rfl|rfl|rfl|rfl|rfl|rfl<;>rfl);omega;(simp only [maxLen];omega);intro g61 c61)|(apply aw (f:=57);exact rfl;exact rfl;exact hdel _ _ _ _ _ pK pK;rintro _ _ ⟨rfl,rfl⟩)|(apply ak (d:=80);exact rfl;apply oN (b:=av);exact rfl;exact rfl)|refine sT ?_|refine sS ?_|refine sM fun _=> ?_|(refine sC ?_ ?_<;>intro hb<;>try omega)|fail)
        all_goals try (exfalso;omega)
        all_goals try (exact absurd (Decidable.not_not.1 hb) hin)
        rename_i g2 g3 g4 _ g9 g60 _ _ g11
        obtain ⟨ae,ar,ag,al,as_,ce,cr,cg,cl,cs⟩:=a
        have hLs:=fun (a b:Rf) w=>wJ a b w
        refine ax [3,4,5,6,7,11] rfl (fun i:Nat=> [(12,.int .i64 (i:Int))]) (fun _=> [.box g11 51 (cB (toO o)),.box g4 28 [.int .i64 b.users,sl ae L.length ce,sl ar b.rules.length cr,sl ag b.grants.length cg,sl (some g61) (b.log.length+1) c61,sl as_ b.rels.length cs,.int .i64 (b.step+1)],.box g3 41 (bL o),.own (ae) 53 3 (L.length) ce (L.flatMap aH),.own (ar) 38 7 (b.rules.length) cr (b.rules.flatMap bh),.own (ag) 56 8 (b.grants.length) cg (b.grants.flatMap bg),.own (some g61) 48 9 (b.log.length+1) c61 (b.log.flatMap aQ++aQ ev1),.own (as_) 70 11 (b.rels.length) cs (b.rels.flatMap bu)]) (fun i=>i≤L.length∧ ∀ j (h:j<L.length),j<i→fj L[j].at_ (toO o)=true) (fun i=>L.length - i) 0 ⟨by omega,fun j _ h=>by omega⟩ sB mS ?_
        rintro i ⟨hi,hall⟩
        by_cases hlt:i<L.length
        · refine dP (A:=ae) pK (by omega) fun ga hA=> ?_
          subst hA
          have hread:((L.flatMap aH).drop (0+i*3+0)).take 2=cB L[i].at_:=by
            have h1:=Iy hlt
            rw [Nj]
            calc ((L.flatMap aH).drop (0+i*3)).take 2=(((L.flatMap aH).drop (0+i*3)).take 3).take 2:=by rw [List.take_take];rfl
              _=_:=by rw [h1];rfl
          have hLi:=hLs L[i].at_ (toO o)
          obtain ⟨cc,hcc⟩: ∃ cc,fj L[i].at_ (toO o)=cc:=⟨_,rfl⟩
          rw [hcc] at hLi
          cases cc with
          |true=>
            repeat' (first|(apply bK (id:=21) [13] [];kernel_rfl;kernel_rfl;kernel_rfl)|(apply dm (d:=97);(iterate 3 exact rfl);apply aj (j:=i);exact rfl;exact rfl;omega)|(apply dm (d:=99);(iterate 3 exact rfl);apply aR;exact rfl;exact pK;exact hread;exact rfl)|(apply aa (f:=60);exact rfl;exact rfl;(intro w' _;exact hLi w'))|refine sT ?_|refine sS ?_|refine sW ?_|refine sN ?_|refine sWN ?_|refine sM fun _=> ?_|(refine sC ?_ ?_<;>intro hb<;>try omega)|(refine sCW ?_ ?_<;>intro hb<;>try omega)|fail)
            all_goals first
              |(exfalso;omega)
              | (refine ⟨i + 1, ⟨hlt, fun j hj hji => ?_⟩, by omega, by exact sB, by exact sB, by exact mS⟩
                 rcases (by omega:j<i∨j=i) with h|rfl
                 · exact hall j hj h
                 · exact hcc)
              |trace_state
          |false=>
            have hpe:=qi hi hall (.inr ⟨hlt,hcc⟩)
            have hpl:(L.take i++(⟨toO o,o.input⟩:Et)::L.drop i).length=L.length+1:=by simp [LP,LL];omega
            rw [hpe,hpl]
            repeat' (first|(apply bK (id:=21) [13] [];kernel_rfl;kernel_rfl;kernel_rfl)|(apply dm (d:=97);(iterate 3 exact rfl);apply aj (j:=i);exact rfl;exact rfl;omega)|(apply dm (d:=99);(iterate 3 exact rfl);apply aR;exact rfl;exact pK;exact hread;exact rfl)|(apply aa (f:=60);exact rfl;exact rfl;(intro w' _;exact hLi w'))|(apply aw (f:=61);exact rfl;exact rfl;exact kD L i hi ⟨toO o,o.input⟩ _ _ hLl w pK;rintro _ _ ⟨A9,c9,rfl,rfl⟩)|refine sT ?_|refine sS ?_|refine sW ?_|refine sN ?_|refine sWN ?_|refine sM fun _=> ?_|(refine sC ?_ ?_<;>intro hb<;>try omega)|(refine sCW ?_ ?_<;>intro hb<;>try omega)|fail)
            all_goals first
              |(exfalso;omega)
              |(refine dR eIO rfl rfl pK rfl rfl rfl rfl (H' := [.own (A9) 53 3 (L.length+1) c9 ((L.take i++(⟨toO o,o.input⟩:Et)::L.drop i).flatMap aH),.own (ar) 38 7 (b.rules.length) cr (b.rules.flatMap bh),.own (ag) 56 8 (b.grants.length) cg (b.grants.flatMap bg),.own (some g61) 48 9 (b.log.length+1) c61 (b.log.flatMap aQ++aQ ev1),.own (as_) 70 11 (b.rels.length) cs (b.rels.flatMap bu)]) mS ⟨⟨A9,ar,ag,some g61,as_,c9,cr,cg,c61,cs⟩,rfl,rfl⟩;done)
              |trace_state
        · have hpe:=qi hi hall (.inl (by omega))
          have hpl:(L.take i++(⟨toO o,o.input⟩:Et)::L.drop i).length=L.length+1:=by simp [LP,LL];omega
          rw [hpe,hpl]
          repeat' (first|(apply bK (id:=21) [13] [];kernel_rfl;kernel_rfl;kernel_rfl)|(apply aw (f:=61);exact rfl;exact rfl;exact kD L i hi ⟨toO o,o.input⟩ _ _ hLl w pK;rintro _ _ ⟨A9,c9,rfl,rfl⟩)|refine sT ?_|refine sS ?_|refine sW ?_|refine sN ?_|refine sWN ?_|refine sM fun _=> ?_|(refine sC ?_ ?_<;>intro hb<;>try omega)|(refine sCW ?_ ?_<;>intro hb<;>try omega)|fail)
          all_goals first
            |(exfalso;omega)
            |(refine dR eIO rfl rfl pK rfl rfl rfl rfl (H' := [.own (A9) 53 3 (L.length+1) c9 ((L.take i++(⟨toO o,o.input⟩:Et)::L.drop i).flatMap aH),.own (ar) 38 7 (b.rules.length) cr (b.rules.flatMap bh),.own (ag) 56 8 (b.grants.length) cg (b.grants.flatMap bg),.own (some g61) 48 9 (b.log.length+1) c61 (b.log.flatMap aQ++aQ ev1),.own (as_) 70 11 (b.rels.length) cs (b.rels.flatMap bu)]) mS ⟨⟨A9,ar,ag,some g61,as_,c9,cr,cg,c61,cs⟩,rfl,rfl⟩;done)
            |trace_state
    · obtain ⟨L,hL⟩: ∃ L,b.ents.filter (iX o)=L:=⟨_,rfl⟩
      have hLl:L.length≤1000000:=Ma (hL ▸ NR _ _) hs1
      have hdel:=fun (A:Option Nat) (cap go:Nat) (H T:List Blk) (h1:Sel (.own A 53 3 b.ents.length cap (b.ents.flatMap aH)) H T) (h2:In (.box go 41 (bL o)) T)=>zf b.ents o go cap w A hs1 h1 h2
      rw [hL] at hdel
      rw [zt,if_pos (by omega)]
      dsimp only
      rw [hL]
      by_cases hin:o.input=av
      · rw [Gf,if_pos hin]
        simp only [aP,aM,el1,el2] at hC ⊢
        repeat' (first|(apply aa (f:=12);exact rfl;exact rfl;(intro w' hm;exact hC w' _ hm))|(apply aG (f:=28);exact rfl;exact rfl;(intro w' hm;exact hY w' _ hm);rintro _ _ ⟨a,rfl,rfl⟩;unfold aM)|(apply ak (d:=27);exact rfl;apply dZ;exact rfl;exact rfl;exact ⟨by omega,by omega⟩)|(apply aa (f:=54);exact rfl;exact rfl;(intro w' hm;exact hD w' _ _ pK hm))|(apply aa (f:=55);exact rfl;exact rfl;(intro w' _;exact hM w'))|(apply aa (f:=56);exact rfl;exact rfl;(intro w' hm;exact hE w' _ hm))|(apply aN (d:=61);(iterate 3 exact rfl);exact pK;exact pK;exact rfl;(intro u hu;simp [aQ] at hu;rcases hu with rfl|rfl|rfl|rfl|rfl|rfl|rfl|rfl|rfl<;>rfl);omega;(simp only [maxLen];omega);intro g61 c61)|(apply aw (f:=57);exact rfl;exact rfl;exact hdel _ _ _ _ _ pK pK;rintro _ _ ⟨rfl,rfl⟩)|(apply ak (d:=80);exact rfl;apply oN (b:=av);exact rfl;exact rfl)|refine sT ?_|refine sS ?_|refine sM fun _=> ?_|(refine sC ?_ ?_<;>intro hb<;>try omega)|fail)
        all_goals first
          |(exfalso;omega)
          |(exact absurd hin hb)
          |(refine dR eIO rfl rfl pK rfl rfl rfl rfl (H' := [.own (a.e) 53 3 (L.length) a.ce (L.flatMap aH),.own (a.r) 38 7 (b.rules.length) a.cr (b.rules.flatMap bh),.own (a.g) 56 8 (b.grants.length) a.cg (b.grants.flatMap bg),.own (some g61) 48 9 (b.log.length+1) c61 (b.log.flatMap aQ++aQ ev1),.own (a.s) 70 11 (b.rels.length) a.cs (b.rels.flatMap bu)]) mS ⟨⟨a.e,a.r,a.g,some g61,a.s,a.ce,a.cr,a.cg,c61,a.cs⟩,rfl,rfl⟩;done)
          |trace_state
      · rw [Gf,if_neg hin]
        simp only [aP,aM,el1,el2] at hC ⊢
        repeat' (first|(apply aa (f:=12);exact rfl;exact rfl;(intro w' hm;exact hC w' _ hm))|(apply aG (f:=28);exact rfl;exact rfl;(intro w' hm;exact hY w' _ hm);rintro _ _ ⟨a,rfl,rfl⟩;unfold aM)|(apply ak (d:=27);exact rfl;apply dZ;exact rfl;exact rfl;exact ⟨by omega,by omega⟩)|(apply aa (f:=54);exact rfl;exact rfl;(intro w' hm;exact hD w' _ _ pK hm))|(apply aa (f:=55);exact rfl;exact rfl;(intro w' _;exact hM w'))|(apply aa (f:=56);exact rfl;exact rfl;(intro w' hm;exact hE w' _ hm))|(apply aN (d:=61);(iterate 3 exact rfl);exact pK;exact pK;exact rfl;(intro u hu;simp [aQ] at hu;rcases hu with rfl|rfl|rfl|rfl|rfl|rfl|rfl|rfl|rfl<;>rfl);omega;(simp only [maxLen];omega);intro g61 c61)|(apply aw (f:=57);exact rfl;exact rfl;exact hdel _ _ _ _ _ pK pK;rintro _ _ ⟨rfl,rfl⟩)|(apply ak (d:=80);exact rfl;apply oN (b:=av);exact rfl;exact rfl)|refine sT ?_|refine sS ?_|refine sM fun _=> ?_|(refine sC ?_ ?_<;>intro hb<;>try omega)|fail)
        all_goals try (exfalso;omega)
        all_goals try (exact absurd (Decidable.not_not.1 hb) hin)
        rename_i g2 g3 g4 _ g9 g60 _ _ g11
        obtain ⟨ae,ar,ag,al,as_,ce,cr,cg,cl,cs⟩:=a
        have hLs:=fun (a b:Rf) w=>wJ a b w
        refine ax [3,4,5,6,7,11] rfl (fun i:Nat=> [(12,.int .i64 (i:Int))]) (fun _=> [.box g11 51 (cB (toO o)),.box g4 28 [.int .i64 b.users,sl ae L.length ce,sl ar b.rules.length cr,sl ag b.grants.length cg,sl (some g61) (b.log.length+1) c61,sl as_ b.rels.length cs,.int .i64 (b.step+1)],.box g3 41 (bL o),.own (ae) 53 3 (L.length) ce (L.flatMap aH),.own (ar) 38 7 (b.rules.length) cr (b.rules.flatMap bh),.own (ag) 56 8 (b.grants.length) cg (b.grants.flatMap bg),.own (some g61) 48 9 (b.log.length+1) c61 (b.log.flatMap aQ++aQ ev1),.own (as_) 70 11 (b.rels.length) cs (b.rels.flatMap bu)]) (fun i=>i≤L.length∧ ∀ j (h:j<L.length),j<i→fj L[j].at_ (toO o)=true) (fun i=>L.length - i) 0 ⟨by omega,fun j _ h=>by omega⟩ sB mS ?_
        rintro i ⟨hi,hall⟩
        by_cases hlt:i<L.length
        · refine dP (A:=ae) pK (by omega) fun ga hA=> ?_
          subst hA
          have hread:((L.flatMap aH).drop (0+i*3+0)).take 2=cB L[i].at_:=by
            have h1:=Iy hlt
            rw [Nj]
            calc ((L.flatMap aH).drop (0+i*3)).take 2=(((L.flatMap aH).drop (0+i*3)).take 3).take 2:=by rw [List.take_take];rfl
              _=_:=by rw [h1];rfl
          have hLi:=hLs L[i].at_ (toO o)
          obtain ⟨cc,hcc⟩: ∃ cc,fj L[i].at_ (toO o)=cc:=⟨_,rfl⟩
          rw [hcc] at hLi
          cases cc with
          |true=>
            repeat' (first|(apply bK (id:=21) [13] [];kernel_rfl;kernel_rfl;kernel_rfl)|(apply dm (d:=97);(iterate 3 exact rfl);apply aj (j:=i);exact rfl;exact rfl;omega)|(apply dm (d:=99);(iterate 3 exact rfl);apply aR;exact rfl;exact pK;exact hread;exact rfl)|(apply aa (f:=60);exact rfl;exact rfl;(intro w' _;exact hLi w'))|refine sT ?_|refine sS ?_|refine sW ?_|refine sN ?_|refine sWN ?_|refine sM fun _=> ?_|(refine sC ?_ ?_<;>intro hb<;>try omega)|(refine sCW ?_ ?_<;>intro hb<;>try omega)|fail)
            all_goals first
              |(exfalso;omega)
              | (refine ⟨i + 1, ⟨hlt, fun j hj hji => ?_⟩, by omega, by exact sB, by exact sB, by exact mS⟩
                 rcases (by omega:j<i∨j=i) with h|rfl
                 · exact hall j hj h
                 · exact hcc)
              |trace_state
          |false=>
            have hpe:=qi hi hall (.inr ⟨hlt,hcc⟩)
            have hpl:(L.take i++(⟨toO o,o.input⟩:Et)::L.drop i).length=L.length+1:=by simp [LP,LL];omega
            rw [hpe,hpl]
            repeat' (first|(apply bK (id:=21) [13] [];kernel_rfl;kernel_rfl;kernel_rfl)|(apply dm (d:=97);(iterate 3 exact rfl);apply aj (j:=i);exact rfl;exact rfl;omega)|(apply dm (d:=99);(iterate 3 exact rfl);apply aR;exact rfl;exact pK;exact hread;exact rfl)|(apply aa (f:=60);exact rfl;exact rfl;(intro w' _;exact hLi w'))|(apply aw (f:=61);exact rfl;exact rfl;exact kD L i hi ⟨toO o,o.input⟩ _ _ hLl w pK;rintro _ _ ⟨A9,c9,rfl,rfl⟩)|refine sT ?_|refine sS ?_|refine sW ?_|refine sN ?_|refine sWN ?_|refine sM fun _=> ?_|(refine sC ?_ ?_<;>intro hb<;>try omega)|(refine sCW ?_ ?_<;>intro hb<;>try omega)|fail)
            all_goals first
              |(exfalso;omega)
              |(refine dR eIO rfl rfl pK rfl rfl rfl rfl (H' := [.own (A9) 53 3 (L.length+1) c9 ((L.take i++(⟨toO o,o.input⟩:Et)::L.drop i).flatMap aH),.own (ar) 38 7 (b.rules.length) cr (b.rules.flatMap bh),.own (ag) 56 8 (b.grants.length) cg (b.grants.flatMap bg),.own (some g61) 48 9 (b.log.length+1) c61 (b.log.flatMap aQ++aQ ev1),.own (as_) 70 11 (b.rels.length) cs (b.rels.flatMap bu)]) mS ⟨⟨A9,ar,ag,some g61,as_,c9,cr,cg,c61,cs⟩,rfl,rfl⟩;done)
              |trace_state
        · have hpe:=qi hi hall (.inl (by omega))
          have hpl:(L.take i++(⟨toO o,o.input⟩:Et)::L.drop i).length=L.length+1:=by simp [LP,LL];omega
          rw [hpe,hpl]
          repeat' (first|(apply bK (id:=21) [13] [];kernel_rfl;kernel_rfl;kernel_rfl)|(apply aw (f:=61);exact rfl;exact rfl;exact kD L i hi ⟨toO o,o.input⟩ _ _ hLl w pK;rintro _ _ ⟨A9,c9,rfl,rfl⟩)|refine sT ?_|refine sS ?_|refine sW ?_|refine sN ?_|refine sWN ?_|refine sM fun _=> ?_|(refine sC ?_ ?_<;>intro hb<;>try omega)|(refine sCW ?_ ?_<;>intro hb<;>try omega)|fail)
          all_goals first
            |(exfalso;omega)
            |(refine dR eIO rfl rfl pK rfl rfl rfl rfl (H' := [.own (A9) 53 3 (L.length+1) c9 ((L.take i++(⟨toO o,o.input⟩:Et)::L.drop i).flatMap aH),.own (ar) 38 7 (b.rules.length) cr (b.rules.flatMap bh),.own (ag) 56 8 (b.grants.length) cg (b.grants.flatMap bg),.own (some g61) 48 9 (b.log.length+1) c61 (b.log.flatMap aQ++aQ ev1),.own (as_) 70 11 (b.rels.length) cs (b.rels.flatMap bu)]) mS ⟨⟨A9,ar,ag,some g61,as_,c9,cr,cg,c61,cs⟩,rfl,rfl⟩;done)
            |trace_state
    · have e1:(b.rules++ [(⟨o.rect,o.rd,o.wr,o.ow⟩:Rl)]).length=b.rules.length+1:=by rw [LC];rfl
      have e2:(b.rules++ [(⟨o.rect,o.rd,o.wr,o.ow⟩:Rl)]).flatMap bh=b.rules.flatMap bh++bh ⟨o.rect,o.rd,o.wr,o.ow⟩:=by rw [LY,LR,Mj,LN]
      rw [zt,if_neg (by omega),if_pos hk]
      simp only [aP,aM,el1,el2,e1,e2] at hC ⊢
      repeat' (first|(apply aa (f:=12);exact rfl;exact rfl;(intro w' hm;exact hC w' _ hm))|(apply aG (f:=28);exact rfl;exact rfl;(intro w' hm;exact hY w' _ hm);rintro _ _ ⟨a,rfl,rfl⟩;unfold aM)|(apply ak (d:=27);exact rfl;apply dZ;exact rfl;exact rfl;exact ⟨by omega,by omega⟩)|(apply aa (f:=54);exact rfl;exact rfl;(intro w' hm;exact hD w' _ _ pK hm))|(apply aa (f:=55);exact rfl;exact rfl;(intro w' _;exact hM w'))|(apply aa (f:=56);exact rfl;exact rfl;(intro w' hm;exact hE w' _ hm))|(apply aN (d:=61);(iterate 3 exact rfl);exact pK;exact pK;exact rfl;(intro u hu;simp [aQ] at hu;rcases hu with rfl|rfl|rfl|rfl|rfl|rfl|rfl|rfl|rfl<;>rfl);omega;(simp only [maxLen];omega);intro g61 c61)|(apply aN (d:=124);(iterate 3 exact rfl);exact pK;exact pK;exact rfl;(intro u hu;simp at hu;rcases hu with rfl|rfl|rfl|rfl|rfl|rfl|rfl<;>rfl);omega;(simp only [maxLen];omega);intro g7 c7)|refine sT ?_|refine sS ?_|refine sM fun _=> ?_|(refine sC ?_ ?_<;>intro hb<;>try omega)|fail)
      all_goals first
        |(exfalso;omega)
        |(refine dR eIO rfl rfl pK rfl rfl rfl rfl (H' := [.own (a.e) 53 3 (b.ents.length) a.ce (b.ents.flatMap aH),.own (some g7) 38 7 (b.rules.length+1) c7 (b.rules.flatMap bh++bh ⟨o.rect,o.rd,o.wr,o.ow⟩),.own (a.g) 56 8 (b.grants.length) a.cg (b.grants.flatMap bg),.own (some g61) 48 9 (b.log.length+1) c61 (b.log.flatMap aQ++aQ ev1),.own (a.s) 70 11 (b.rels.length) a.cs (b.rels.flatMap bu)]) mS ⟨⟨a.e,some g7,a.g,some g61,a.s,a.ce,c7,a.cg,c61,a.cs⟩,rfl,rfl⟩;done)
        |trace_state
    · have e1:(b.grants++ [(⟨o.rect,o.fns,o.to,o.user,false⟩:Gn)]).length=b.grants.length+1:=by rw [LC];rfl
      have e2:(b.grants++ [(⟨o.rect,o.fns,o.to,o.user,false⟩:Gn)]).flatMap bg=b.grants.flatMap bg++bg ⟨o.rect,o.fns,o.to,o.user,false⟩:=by rw [LY,LR,Mj,LN]
      rw [zt,if_neg (by omega),if_neg (by omega),if_pos hk]
      simp only [aP,aM,el1,el2,e1,e2] at hC ⊢
      repeat' (first|(apply aa (f:=12);exact rfl;exact rfl;(intro w' hm;exact hC w' _ hm))|(apply aG (f:=28);exact rfl;exact rfl;(intro w' hm;exact hY w' _ hm);rintro _ _ ⟨a,rfl,rfl⟩;unfold aM)|(apply ak (d:=27);exact rfl;apply dZ;exact rfl;exact rfl;exact ⟨by omega,by omega⟩)|(apply aa (f:=54);exact rfl;exact rfl;(intro w' hm;exact hD w' _ _ pK hm))|(apply aa (f:=55);exact rfl;exact rfl;(intro w' _;exact hM w'))|(apply aa (f:=56);exact rfl;exact rfl;(intro w' hm;exact hE w' _ hm))|(apply aN (d:=61);(iterate 3 exact rfl);exact pK;exact pK;exact rfl;(intro u hu;simp [aQ] at hu;rcases hu with rfl|rfl|rfl|rfl|rfl|rfl|rfl|rfl|rfl<;>rfl);omega;(simp only [maxLen];omega);intro g61 c61)|(apply aN (d:=140);(iterate 3 exact rfl);exact pK;exact pK;exact rfl;(intro u hu;simp at hu;rcases hu with rfl|rfl|rfl|rfl|rfl|rfl|rfl|rfl<;>rfl);omega;(simp only [maxLen];omega);intro g8 c8)|refine sT ?_|refine sS ?_|refine sM fun _=> ?_|(refine sC ?_ ?_<;>intro hb<;>try omega)|fail)
      all_goals first
        |(exfalso;omega)
        |(refine dR eIO rfl rfl pK rfl rfl rfl rfl (H' := [.own (a.e) 53 3 (b.ents.length) a.ce (b.ents.flatMap aH),.own (a.r) 38 7 (b.rules.length) a.cr (b.rules.flatMap bh),.own (some g8) 56 8 (b.grants.length+1) c8 (b.grants.flatMap bg++bg ⟨o.rect,o.fns,o.to,o.user,false⟩),.own (some g61) 48 9 (b.log.length+1) c61 (b.log.flatMap aQ++aQ ev1),.own (a.s) 70 11 (b.rels.length) a.cs (b.rels.flatMap bu)]) mS ⟨⟨a.e,a.r,some g8,some g61,a.s,a.ce,a.cr,c8,c61,a.cs⟩,rfl,rfl⟩;done)
        |trace_state
    · obtain ⟨j,hj⟩: ∃ j:Nat,o.idx=(j:Int)∧j<b.grants.length:=by
        have h4:tst b o 4=false:=by
          rcases h:tst b o 4 with _|_
          · rfl
          · exfalso
            unfold cdE at hcd
            rw [h] at hcd
            revert hcd
            (repeat' split)<;>intro hcd<;>injection hcd with h1 h2<;>first|(exact absurd h1 (by decide))|contradiction
        have:=J1 h4 hk
        exact ⟨o.idx.toNat,by omega,by omega⟩
      obtain ⟨hj,hjl⟩:=hj
      have hrv:J5 b.grants o.idx.toNat=b.grants.set j ⟨b.grants[j].rect,b.grants[j].fns,b.grants[j].to,b.grants[j].by_,true⟩:=by
        unfold J5
        rw [hj,MY,LF hjl]
      rw [zt,if_neg (by omega),if_neg (by omega),if_neg (by omega),if_pos hk]
      dsimp only
      rw [hrv]
      have e1:(b.grants.set j ⟨b.grants[j].rect,b.grants[j].fns,b.grants[j].to,b.grants[j].by_,true⟩).length=b.grants.length:=NJ
      have e2:(b.grants.set j ⟨b.grants[j].rect,b.grants[j].fns,b.grants[j].to,b.grants[j].by_,true⟩).flatMap bg=(b.grants.flatMap bg).set (0+j*8+7) (.bool true):=by
        rw [LZ]
        exact (ut b.grants j hjl).symm
      have hfit:0+j*8+7<(b.grants.flatMap bg).length:=by rw [aD bR];omega
      simp only [aP,aM,el1,el2,e1,e2] at hC ⊢
      repeat' (first|(apply aa (f:=12);exact rfl;exact rfl;(intro w' hm;exact hC w' _ hm))|(apply aG (f:=28);exact rfl;exact rfl;(intro w' hm;exact hY w' _ hm);rintro _ _ ⟨a,rfl,rfl⟩;unfold aM)|(apply ak (d:=27);exact rfl;apply dZ;exact rfl;exact rfl;exact ⟨by omega,by omega⟩)|(apply aa (f:=54);exact rfl;exact rfl;(intro w' hm;exact hD w' _ _ pK hm))|(apply aa (f:=55);exact rfl;exact rfl;(intro w' _;exact hM w'))|(apply aa (f:=56);exact rfl;exact rfl;(intro w' hm;exact hE w' _ hm))|(apply aN (d:=61);(iterate 3 exact rfl);exact pK;exact pK;exact rfl;(intro u hu;simp [aQ] at hu;rcases hu with rfl|rfl|rfl|rfl|rfl|rfl|rfl|rfl|rfl<;>rfl);omega;(simp only [maxLen];omega);intro g61 c61)|(apply ak (d:=148);exact rfl;apply aj (j:=j);exact rfl;(rw [← hj];exact rfl);exact hjl)|(apply fL;exact rfl;exact rfl;exact pK;exact rfl;exact hfit)|refine sT ?_|refine sS ?_|refine sM fun _=> ?_|(refine sC ?_ ?_<;>intro hb<;>try omega)|fail)
      all_goals try (exfalso;omega)
      obtain ⟨ae,ar,ag,al,as_,ce,cr,cg,cl,cs⟩:=a
      refine Ca (A:=ag) (xs:=b.grants.flatMap bg) pK (by omega) fun gg hA=> ?_
      subst hA
      repeat' (first|(apply ak (d:=148);exact rfl;apply aj (j:=j);exact rfl;(rw [← hj];exact rfl);exact hjl)|(apply fL;exact rfl;exact rfl;exact pK;exact rfl;exact hfit)|refine sT ?_|refine sS ?_|refine sM fun _=> ?_|(refine sC ?_ ?_<;>intro hb<;>try omega)|fail)
      all_goals first
        |(exfalso;omega)
        |(refine dR eIO rfl rfl pK rfl rfl rfl rfl (H' := [.own (ae) 53 3 (b.ents.length) ce (b.ents.flatMap aH),.own (ar) 38 7 (b.rules.length) cr (b.rules.flatMap bh),.own (some gg) 56 8 (b.grants.length) cg ((b.grants.flatMap bg).set (0+j*8+7) (.bool true)),.own (some g61) 48 9 (b.log.length+1) c61 (b.log.flatMap aQ++aQ ev1),.own (as_) 70 11 (b.rels.length) cs (b.rels.flatMap bu)]) mS ⟨⟨ae,ar,some gg,some g61,as_,ce,cr,cg,c61,cs⟩,rfl,rfl⟩;done)
        |trace_state
end Go.SL
