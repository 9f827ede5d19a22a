/-
  Lemmas and walks, put together: Im.
-/
import Derived.Test.YthefeclkaaocnaaGreatDoorKj30
set_option linter.unusedSimpArgs false
set_option linter.unusedVariables false
set_option maxRecDepth 20000
namespace Go.SL
open Go Go.Proofs
section
variable {P:Program} {n:Fr} {w0:World} {s:az} {H:List Blk}
theorem eO {fn:Func} {R:Value→List Blk→Prop} {e:Exit} {t u q r T T' g m:Nat} {xs:List Value} {v v' v2:Value} (he:e= .ret∨e= .normal) (hr:fn.results= #[.cell t T,.tmp u,.tmp q,.tmp r]) [Agg P T m] (ht:look s t=some (.pointer (some ⟨g,0,none⟩))) (hi:In (.box g T' xs) H) (hl:Nat.beq xs.length m=true)
  (hu:look s u=some v) (hq:look s q=some v') (hw:look s r=some v2) {H' :List Blk} (hs:MSub H' H) (hR:R (.tuple #[.agg xs.toArray,v,v',v2]) H'):bg P fn n w0 R e s H:=
 ⟨he,_,H',hs,fun a w hst hm=>by
  have h1:=lp (P:=P) (T:=T) hst hm ht hi hl
  have h2:a.tmps.getD u undef=v:=by simp [Oj,hst.has u _ hu]
  have h3:a.tmps.getD q undef=v' :=by simp [Oj,hst.has q _ hq]
  have h4:a.tmps.getD r undef=v2:=by simp [Oj,hst.has r _ hw]
  simp only [results,hr]
  simp only [P1,Ot,OB,Sem.run_bind,Sem.run_map] at h1 ⊢
  simp only [h1,Result.andThen_ok,Sem.run_pure,h2,h3,h4]
  rfl,hR⟩
end
attribute [local irreducible] W WL WQ WG WA WX WLI WR WT WC WE VOp RW thn blk bG scp bg bi bT aQ FnIn FnP ceP
def CL (L:List Et) (to:Rf):Nat:=(L.takeWhile fun e=>bP e.at_ to).length
def toO (o:Ox):Rf:=⟨o.rect.c1,o.rect.r1⟩
def ma (L:List Et) (o:Ox):List Et:=if o.input=au then L else L.take (CL L (toO o))++⟨toO o,o.input⟩::L.drop (CL L (toO o))
theorem sx {L:List Et} {to:Rf} {i:Nat} (hi:i≤L.length) (hall: ∀ j (h:j<L.length),j<i→bP L[j].at_ to=true) (hs:i=L.length∨ ∃ h:i<L.length,bP L[i].at_ to=false):CL L to=i:=by
 have h1:L.takeWhile (fun e=>bP e.at_ to)=L.take i:=by
  conv=>lhs;rw [← OE i L]
  rw [List.takeWhile_append_of_pos]
  ·
   rcases hs with rfl|⟨h,hf⟩
   ·
    rw [NW,List.takeWhile_nil,NM]
   ·
    rw [NL h,PF,if_neg (by rw [hf];decide),NM]
  ·
   intro e he
   obtain ⟨j,hj,rfl⟩:=Qi.1 he
   rw [NZ] at hj
   rw [Qt]
   exact hall j (by omega) (by omega)
 rw [CL,h1,NZ]
 omega
def jc:Bk:=⟨0,[],[],[],[],[],0⟩
def sZ:Bo:=⟨none,none,none,none,none,0,0,0,0,0⟩
def Ku (N:List Gn) (i:Nat):List Gn:=match N[i]? with|some g=>N.set i ⟨g.rect,g.fns,g.to,g.by_,true⟩|none=>N
def fK (b:Bk) (o:Ox):Bk:=
 ⟨b.users,b.ents,b.rules,b.grants,if ((cdE b o).1=0∨(cdE b o).1=5)∧dh o.kind=true then b.log++ [(evO b.step o (decide ((cdE b o).1=0)) b.rules b.grants).1] else b.log,b.rels,b.step+1⟩
def fZ (b:Bk) (o:Ox):Bk:=
 if o.kind=3∨o.kind=4 then ⟨b.users,ma (b.ents.filter (eK o)) o,b.rules,b.grants,b.log,b.rels,b.step⟩
 else if o.kind=7 then ⟨b.users,b.ents,b.rules++ [⟨o.rect,o.rd,o.wr,o.ow⟩],b.grants,b.log,b.rels,b.step⟩
 else if o.kind=8 then ⟨b.users,b.ents,b.rules,b.grants++ [⟨o.rect,o.fns,o.to,o.user,false⟩],b.log,b.rels,b.step⟩
 else if o.kind=9 then ⟨b.users,b.ents,b.rules,Ku b.grants o.idx.toNat,b.log,b.rels,b.step⟩
 else b
def apE (b:Bk) (o:Ox):Bk × Int × Int × Int:=
 if bkE b≠0 then (jc,0,0,bkE b)
 else if b.step=1099511627776 then (jc,0,0,5)
 else if (cdE b o).1≠0 then (fK b o,(cdE b o).1,(cdE b o).2,0)
 else (fZ (fK b o) o,0,0,0)
theorem JH {b:Bk} (h: ¬ bkE b≠0):0≤b.step∧b.step≤1099511627776∧b.rules.length≤64∧b.grants.length≤64:=by
 have h:=Decidable.not_not.1 h
 unfold bkE at h
 split at h
 ·
  exact absurd h (by decide)
 split at h
 ·
  rename_i h2;exact absurd h h2
 split at h
 ·
  rename_i h2;exact absurd h h2
 rename_i hacl
 split at h
 ·
  rename_i h2;exact absurd h h2
 rename_i hgnt
 split at h
 ·
  rename_i h2;exact absurd h h2
 split at h
 ·
  exact absurd h (by decide)
 refine ⟨by omega,by omega,?_,?_⟩
 ·
  unfold eL at hacl
  split at hacl
  ·
   exact absurd (by decide) hacl
  split at hacl
  ·
   exact absurd (by decide) hacl
  ·
   omega
 ·
  unfold kR at hgnt
  split at hgnt
  ·
   exact absurd (by decide) hgnt
  split at hgnt
  ·
   exact absurd (by decide) hgnt
  ·
   omega
theorem wB: ∀ (N:List Gn) (j:Nat) (hj:j<N.length),(N.flatMap bA).set (j*8+7) (.bool true)=(N.set j ⟨N[j].rect,N[j].fns,N[j].to,N[j].by_,true⟩).flatMap bA
 | [],_,hj=>absurd hj (Nat.not_lt_zero _)
 |_::_,0,_=>rfl
 |g::N,j+1,hj=>by
  have ih:=wB N j (Nat.lt_of_succ_lt_succ hj)
  rw [NU,PV _ _ (by rw [cX];omega),cX,show (j+1)*8+7 - 8=j*8+7 by omega,ih]
  rfl
theorem Bc (L:List Et) (o:Ox) (go cap:Nat) (w0:World) (A:Option Nat) {H T:List Blk} (hL:L.length≤1000000) (hs:Sel (.own A 53 3 L.length cap (L.flatMap aJ)) H T) (hgo:In (.box go 41 (bu o)) T):
  FnIn Tryz.prog 57 [sl A L.length cap,.func (.func 58) #[] #[.pointer (some ⟨go,0,none⟩)]] w0 H fun v H' =>v=sl A (L.filter (eK o)).length cap∧H' = .own A 53 3 (L.filter (eK o)).length cap ((L.filter (eK o)).flatMap aJ)::T:=
 FnIn.msub (K5 L o go cap T w0 A hL hgo) (MSub.pick hs (MSub.refl _))
theorem l9 (L:List Et) (i:Nat) (hi:i≤L.length) (x:Et) (A:Option Nat) (cap:Nat) (hL:L.length≤1000000) (w0:World) {H T:List Blk} (hs:Sel (.own A 53 3 L.length cap (L.flatMap aJ)) H T):
  FnIn Tryz.prog 61 [sl A L.length cap,.int .i64 (i:Int),.agg (aJ x).toArray] w0 H fun v H=> ∃ A' c,v=sl A' (L.length+1) c∧H= .own A' 53 3 (L.length+1) c ((L.take i++x::L.drop i).flatMap aJ)::T:=
 FnIn.msub (F4 L i hi x A cap hL w0 T) (MSub.pick hs (MSub.refl _))
set_option maxHeartbeats 16000000 in
theorem lJ (b:Bk) (x:Bv) (o:Ox) (w:World) (h:BRd w b x) (hW:Words w) (hs:Small b):aQ Tryz.prog 14 [.agg (aW b x).toArray,.agg (bu o).toArray] w fun v H=> ∃ a:Bo,v= .tuple #[.agg (aW (apE b o).1 a.v).toArray,.int .u8 (apE b o).2.1,.int .i64 (apE b o).2.2.1,.int .i64 (apE b o).2.2.2]∧H=bz (apE b o).1 a:=by
  refine aq Tryz.func14 rfl Tryz.ntmps14 rfl ?_
  have hC:=fun (w' :World) (H:List Blk) (hm:Mem w w' H)=>iF b x w' (h.of_w0 hm) (hW.next hm) hs.e
  have hY:=fun (w' :World) (H:List Blk) (hm:Mem w w' H)=>Gk b x w' (h.of_w0 hm) hs
  have hM:=fun w=>px o w
  have hD:=fun (w' :World) (g:Nat) (H:List Blk) (hi:In (.box g 28 (aW b x)) H) (hm:Mem w w' H)=>K8 b x o g w' (Ro.of_box hm hi) (h.of_w0 hm) (hW.next hm)
  have hE:=fun (w' :World) (H:List Blk) (hm:Mem w w' H)=>JW b.step o (decide ((cdE b o).1=0)) b.rules b.grants _ _ w' (h.r.of_w0 hm) (h.g.of_w0 hm)
  have hs1:=hs.e
  have hs2:=hs.r
  have hs3:=hs.g
  have hs4:=hs.l
  refine aP 53 3 ?_
  refine aP 38 7 ?_
  refine aP 56 8 ?_
  refine aP 48 9 ?_
  refine aP 70 11 ?_
  unfold apE
  by_cases he:bkE b≠0
  · rw [if_pos he]
    generalize bkE b=e at hC he ⊢
    simp only [aW] at hC ⊢
    repeat' (first|(apply aa (f:=12);exact rfl;exact rfl;(intro w' hm;exact hC w' _ hm))|refine sT ?_|refine sS ?_|refine sM fun _=> ?_|(refine sC ?_ ?_<;>intro hb<;>try omega)|fail)
    all_goals first
      |(exfalso;omega)
      |(refine eO eIO rfl rfl pK rfl rfl rfl rfl (H' :=bz jc sZ) (by unfold bz;exact mS) ⟨sZ,rfl,rfl⟩;done)
      |trace_state
  rw [if_neg he]
  obtain ⟨hst1,hst2,hst3,hst4⟩:=JH he
  rw [show bkE b=0 by omega] at hC
  by_cases hmx:b.step=1099511627776
  · rw [if_pos hmx]
    simp only [aW] at hC ⊢
    repeat' (first|(apply aa (f:=12);exact rfl;exact rfl;(intro w' hm;exact hC w' _ hm))|refine sT ?_|refine sS ?_|refine sM fun _=> ?_|(refine sC ?_ ?_<;>intro hb<;>try omega)|fail)
    all_goals first
      |(exfalso;omega)
      |(refine eO eIO rfl rfl pK rfl rfl rfl rfl (H' :=bz jc sZ) (by unfold bz;exact mS) ⟨sZ,rfl,rfl⟩;done)
      |trace_state
  rw [if_neg hmx]
  obtain ⟨⟨c,at_⟩,hcd⟩: ∃ c,cdE b o=c:=⟨_,rfl⟩
  obtain ⟨mk,hmk⟩: ∃ mk,dh o.kind=mk:=⟨_,rfl⟩
  have hpos:mk=false∨o.kind=3∨o.kind=4∨o.kind=7∨o.kind=8∨o.kind=9:=by
    cases mk with
    |false=>exact .inl rfl
    |true=>
      simp only [dh,Pn,decide_eq_true_eq] at hmk
      omega
  unfold fK
  rw [hcd] at hD hE ⊢
  rw [hmk] at hM ⊢
  dsimp only at hD hE ⊢
  generalize evO b.step o (decide (c=0)) b.rules b.grants=ev at hE ⊢
  obtain ⟨ev1,ev2⟩:=ev
  dsimp only at hE ⊢
  have el1:(b.log++ [ev1]).length=b.log.length+1:=by rw [ND];rfl
  have el2:(b.log++ [ev1]).flatMap aL=b.log.flatMap aL++aL ev1:=by rw [NR,NU,Oy,NM]
  by_cases hcz:c≠0
  · rw [if_pos hcz]
    by_cases hlg:(c=0∨c=5)∧mk=true
    · rw [if_pos hlg]
      obtain ⟨hc5,hmt⟩:=hlg
      simp only [aW,bz,el1,el2] at hC ⊢
      repeat' (first|(apply aa (f:=12);exact rfl;exact rfl;(intro w' hm;exact hC w' _ hm))|(apply aG (f:=28);exact rfl;exact rfl;(intro w' hm;exact hY w' _ hm);rintro _ _ ⟨a,rfl,rfl⟩;unfold bz)|(apply ak (d:=27);exact rfl;apply dw;exact rfl;exact rfl;exact ⟨by omega,by omega⟩)|(apply aa (f:=54);exact rfl;exact rfl;(intro w' hm;exact hD w' _ _ pK hm))|(apply aa (f:=55);exact rfl;exact rfl;(intro w' _;exact hM w'))|(apply aa (f:=56);exact rfl;exact rfl;(intro w' hm;exact hE w' _ hm))|(apply aN (d:=61);(iterate 3 exact rfl);exact pK;exact pK;exact rfl;(intro u hu;simp [aL] at hu;rcases hu with rfl|rfl|rfl|rfl|rfl|rfl|rfl|rfl|rfl<;>rfl);omega;(simp only [maxLen];omega);intro g61 c61)|refine sT ?_|refine sS ?_|refine sM fun _=> ?_|(refine sC ?_ ?_<;>intro hb<;>try omega)|fail)
      all_goals first
        |(exfalso;omega)
        |(exfalso;simp_all;done)
        |(refine eO eIO rfl rfl pK rfl rfl rfl rfl (H' := [.own (a.e) 53 3 (b.ents.length) a.ce (b.ents.flatMap aJ),.own (a.r) 38 7 (b.rules.length) a.cr (b.rules.flatMap bn),.own (a.g) 56 8 (b.grants.length) a.cg (b.grants.flatMap bA),.own (some g61) 48 9 (b.log.length+1) c61 (b.log.flatMap aL++aL ev1),.own (a.s) 70 11 (b.rels.length) a.cs (b.rels.flatMap bU)]) mS ⟨⟨a.e,a.r,a.g,some g61,a.s,a.ce,a.cr,a.cg,c61,a.cs⟩,rfl,rfl⟩;done)
        |trace_state
    · rw [if_neg hlg]
      simp only [aW,bz] at hC ⊢
      repeat' (first|(apply aa (f:=12);exact rfl;exact rfl;(intro w' hm;exact hC w' _ hm))|(apply aG (f:=28);exact rfl;exact rfl;(intro w' hm;exact hY w' _ hm);rintro _ _ ⟨a,rfl,rfl⟩;unfold bz)|(apply ak (d:=27);exact rfl;apply dw;exact rfl;exact rfl;exact ⟨by omega,by omega⟩)|(apply aa (f:=54);exact rfl;exact rfl;(intro w' hm;exact hD w' _ _ pK hm))|(apply aa (f:=55);exact rfl;exact rfl;(intro w' _;exact hM w'))|refine sT ?_|refine sS ?_|refine sM fun _=> ?_|(refine sC ?_ ?_<;>intro hb<;>try omega)|fail)
      all_goals first
        |(exfalso;omega)
        |(exfalso;exact hlg ⟨by first|exact .inl ‹_› |exact .inr ‹_›,by assumption⟩)
        |(refine eO eIO rfl rfl pK rfl rfl rfl rfl (H' := [.own (a.e) 53 3 (b.ents.length) a.ce (b.ents.flatMap aJ),.own (a.r) 38 7 (b.rules.length) a.cr (b.rules.flatMap bn),.own (a.g) 56 8 (b.grants.length) a.cg (b.grants.flatMap bA),.own (a.l) 48 9 (b.log.length) a.cl (b.log.flatMap aL),.own (a.s) 70 11 (b.rels.length) a.cs (b.rels.flatMap bU)]) mS ⟨a,rfl,rfl⟩;done)
        |trace_state
  rw [if_neg hcz]
  have hc0:c=0:=Decidable.not_not.1 hcz
  subst hc0
  cases mk with
  |false=>
    have hkn: ¬ (o.kind=3∨o.kind=4)∧o.kind≠7∧o.kind≠8∧o.kind≠9:=by
      simp only [dh,PA,decide_eq_false_iff_not] at hmk
      omega
    rw [if_neg (fun h=>by cases h.2),fZ,if_neg hkn.1,if_neg hkn.2.1,if_neg hkn.2.2.1,if_neg hkn.2.2.2]
    simp only [aW,bz] at hC ⊢
    repeat' (first|(apply aa (f:=12);exact rfl;exact rfl;(intro w' hm;exact hC w' _ hm))|(apply aG (f:=28);exact rfl;exact rfl;(intro w' hm;exact hY w' _ hm);rintro _ _ ⟨a,rfl,rfl⟩;unfold bz)|(apply ak (d:=27);exact rfl;apply dw;exact rfl;exact rfl;exact ⟨by omega,by omega⟩)|(apply aa (f:=54);exact rfl;exact rfl;(intro w' hm;exact hD w' _ _ pK hm))|(apply aa (f:=55);exact rfl;exact rfl;(intro w' _;exact hM w'))|refine sT ?_|refine sS ?_|refine sM fun _=> ?_|(refine sC ?_ ?_<;>intro hb<;>try omega)|fail)
    all_goals first
      |(exfalso;omega)
      |(refine eO eIO rfl rfl pK rfl rfl rfl rfl (H' := [.own (a.e) 53 3 (b.ents.length) a.ce (b.ents.flatMap aJ),.own (a.r) 38 7 (b.rules.length) a.cr (b.rules.flatMap bn),.own (a.g) 56 8 (b.grants.length) a.cg (b.grants.flatMap bA),.own (a.l) 48 9 (b.log.length) a.cl (b.log.flatMap aL),.own (a.s) 70 11 (b.rels.length) a.cs (b.rels.flatMap bU)]) mS ⟨a,rfl,rfl⟩;done)
      |trace_state
  |true=>
    rw [if_pos ⟨.inl rfl,rfl⟩]
    rcases hpos.resolve_left (by decide) with hk|hk|hk|hk|hk
    · obtain ⟨L,hL⟩: ∃ L,b.ents.filter (eK o)=L:=⟨_,rfl⟩
      have hLl:L.length≤1000000:=Ok (hL ▸ PY _ _) hs1
      have hdel:=fun (A:Option Nat) (cap go:Nat) (H T:List Blk) (h1:Sel (.own A 53 3 b.ents.length cap (b.ents.flatMap aJ)) H T) (h2:In (.box go 41 (bu o)) T)=>Bc b.ents o go cap w A hs1 h1 h2
      rw [hL] at hdel
      rw [fZ,if_pos (by omega)]
      dsimp only
      rw [hL]
      by_cases hin:o.input=au
      · rw [ma,if_pos hin]
        simp only [aW,bz,el1,el2] at hC ⊢
        repeat' (first|(apply aa (f:=12);exact rfl;exact rfl;(intro w' hm;exact hC w' _ hm))|(apply aG (f:=28);exact rfl;exact rfl;(intro w' hm;exact hY w' _ hm);rintro _ _ ⟨a,rfl,rfl⟩;unfold bz)|(apply ak (d:=27);exact rfl;apply dw;exact rfl;exact rfl;exact ⟨by omega,by omega⟩)|(apply aa (f:=54);exact rfl;exact rfl;(intro w' hm;exact hD w' _ _ pK hm))|(apply aa (f:=55);exact rfl;exact rfl;(intro w' _;exact hM w'))|(apply aa (f:=56);exact rfl;exact rfl;(intro w' hm;exact hE w' _ hm))|(apply aN (d:=61);(iterate 3 exact rfl);exact pK;exact pK;exact rfl;(intro u hu;simp [aL] at hu;rcases hu with rfl|rfl|rfl|rfl|rfl|rfl|rfl|rfl|rfl<;>rfl);omega;(simp only [maxLen];omega);intro g61 c61)|(apply aw (f:=57);exact rfl;exact rfl;exact hdel _ _ _ _ _ pK pK;rintro _ _ ⟨rfl,rfl⟩)|(apply ak (d:=80);exact rfl;apply qG (b:=au);exact rfl;exact rfl)|refine sT ?_|refine sS ?_|refine sM fun _=> ?_|(refine sC ?_ ?_<;>intro hb<;>try omega)|fail)
        all_goals first
          |(exfalso;omega)
          |(exact absurd hin hb)
          |(refine eO eIO rfl rfl pK rfl rfl rfl rfl (H' := [.own (a.e) 53 3 (L.length) a.ce (L.flatMap aJ),.own (a.r) 38 7 (b.rules.length) a.cr (b.rules.flatMap bn),.own (a.g) 56 8 (b.grants.length) a.cg (b.grants.flatMap bA),.own (some g61) 48 9 (b.log.length+1) c61 (b.log.flatMap aL++aL ev1),.own (a.s) 70 11 (b.rels.length) a.cs (b.rels.flatMap bU)]) mS ⟨⟨a.e,a.r,a.g,some g61,a.s,a.ce,a.cr,a.cg,c61,a.cs⟩,rfl,rfl⟩;done)
          |trace_state
      · rw [ma,if_neg hin]
        simp only [aW,bz,el1,el2] at hC ⊢
        repeat' (first|(apply aa (f:=12);exact rfl;exact rfl;(intro w' hm;exact hC w' _ hm))|(apply aG (f:=28);exact rfl;exact rfl;(intro w' hm;exact hY w' _ hm);rintro _ _ ⟨a,rfl,rfl⟩;unfold bz)|(apply ak (d:=27);exact rfl;apply dw;exact rfl;exact rfl;exact ⟨by omega,by omega⟩)|(apply aa (f:=54);exact rfl;exact rfl;(intro w' hm;exact hD w' _ _ pK hm))|(apply aa (f:=55);exact rfl;exact rfl;(intro w' _;exact hM w'))|(apply aa (f:=56);exact rfl;exact rfl;(intro w' hm;exact hE w' _ hm))|(apply aN (d:=61);(iterate 3 exact rfl);exact pK;exact pK;exact rfl;(intro u hu;simp [aL] at hu;rcases hu with rfl|rfl|rfl|rfl|rfl|rfl|rfl|rfl|rfl<;>rfl);omega;(simp only [maxLen];omega);intro g61 c61)|(apply aw (f:=57);exact rfl;exact rfl;exact hdel _ _ _ _ _ pK pK;rintro _ _ ⟨rfl,rfl⟩)|(apply ak (d:=80);exact rfl;apply qG (b:=au);exact rfl;exact rfl)|refine sT ?_|refine sS ?_|refine sM fun _=> ?_|(refine sC ?_ ?_<;>intro hb<;>try omega)|fail)
        all_goals try (exfalso;omega)
        all_goals try (exact absurd (Decidable.not_not.1 hb) hin)
        rename_i g2 g3 g4 _ g9 g60 _ _ g11
        obtain ⟨ae,ar,ag,al,as_,ce,cr,cg,cl,cs⟩:=a
        have hLs:=fun (a b:Rf) w=>yG a b w
        refine ay [3,4,5,6,7,11] rfl (fun i:Nat=> [(12,.int .i64 (i:Int))]) (fun _=> [.box g11 51 (cu (toO o)),.box g4 28 [.int .i64 b.users,sl ae L.length ce,sl ar b.rules.length cr,sl ag b.grants.length cg,sl (some g61) (b.log.length+1) c61,sl as_ b.rels.length cs,.int .i64 (b.step+1)],.box g3 41 (bu o),.own (ae) 53 3 (L.length) ce (L.flatMap aJ),.own (ar) 38 7 (b.rules.length) cr (b.rules.flatMap bn),.own (ag) 56 8 (b.grants.length) cg (b.grants.flatMap bA),.own (some g61) 48 9 (b.log.length+1) c61 (b.log.flatMap aL++aL ev1),.own (as_) 70 11 (b.rels.length) cs (b.rels.flatMap bU)]) (fun i=>i≤L.length∧ ∀ j (h:j<L.length),j<i→bP L[j].at_ (toO o)=true) (fun i=>L.length - i) 0 ⟨by omega,fun j _ h=>by omega⟩ sB mS ?_
        rintro i ⟨hi,hall⟩
        by_cases hlt:i<L.length
        · refine gx (A:=ae) pK (by omega) fun ga hA=> ?_
          subst hA
          have hread:((L.flatMap aJ).drop (0+i*3+0)).take 2=cu L[i].at_:=by
            have h1:=Kw hlt
            rw [PB]
            calc ((L.flatMap aJ).drop (0+i*3)).take 2=(((L.flatMap aJ).drop (0+i*3)).take 3).take 2:=by rw [List.take_take];rfl
              _=_:=by rw [h1];rfl
          have hLi:=hLs L[i].at_ (toO o)
          obtain ⟨cc,hcc⟩: ∃ cc,bP L[i].at_ (toO o)=cc:=⟨_,rfl⟩
          rw [hcc] at hLi
          cases cc with
          |true=>
            repeat' (first|(apply bZ (id:=21) [13] [];kernel_rfl;kernel_rfl;kernel_rfl)|(apply cC (d:=97);(iterate 3 exact rfl);apply aj (j:=i);exact rfl;exact rfl;omega)|(apply cC (d:=99);(iterate 3 exact rfl);apply aR;exact rfl;exact pK;exact hread;exact rfl)|(apply aa (f:=60);exact rfl;exact rfl;(intro w' _;exact hLi w'))|refine sT ?_|refine sS ?_|refine sW ?_|refine sN ?_|refine sWN ?_|refine sM fun _=> ?_|(refine sC ?_ ?_<;>intro hb<;>try omega)|(refine sCW ?_ ?_<;>intro hb<;>try omega)|fail)
            all_goals first
              |(exfalso;omega)
              | (refine ⟨i + 1, ⟨hlt, fun j hj hji => ?_⟩, by omega, by exact sB, by exact sB, by exact mS⟩
                 rcases (by omega:j<i∨j=i) with h|rfl
                 · exact hall j hj h
                 · exact hcc)
              |trace_state
          |false=>
            have hpe:=sx hi hall (.inr ⟨hlt,hcc⟩)
            have hpl:(L.take i++(⟨toO o,o.input⟩:Et)::L.drop i).length=L.length+1:=by simp [NZ,NP];omega
            rw [hpe,hpl]
            repeat' (first|(apply bZ (id:=21) [13] [];kernel_rfl;kernel_rfl;kernel_rfl)|(apply cC (d:=97);(iterate 3 exact rfl);apply aj (j:=i);exact rfl;exact rfl;omega)|(apply cC (d:=99);(iterate 3 exact rfl);apply aR;exact rfl;exact pK;exact hread;exact rfl)|(apply aa (f:=60);exact rfl;exact rfl;(intro w' _;exact hLi w'))|(apply aw (f:=61);exact rfl;exact rfl;exact l9 L i hi ⟨toO o,o.input⟩ _ _ hLl w pK;rintro _ _ ⟨A9,c9,rfl,rfl⟩)|refine sT ?_|refine sS ?_|refine sW ?_|refine sN ?_|refine sWN ?_|refine sM fun _=> ?_|(refine sC ?_ ?_<;>intro hb<;>try omega)|(refine sCW ?_ ?_<;>intro hb<;>try omega)|fail)
            all_goals first
              |(exfalso;omega)
              |(refine eO eIO rfl rfl pK rfl rfl rfl rfl (H' := [.own (A9) 53 3 (L.length+1) c9 ((L.take i++(⟨toO o,o.input⟩:Et)::L.drop i).flatMap aJ),.own (ar) 38 7 (b.rules.length) cr (b.rules.flatMap bn),.own (ag) 56 8 (b.grants.length) cg (b.grants.flatMap bA),.own (some g61) 48 9 (b.log.length+1) c61 (b.log.flatMap aL++aL ev1),.own (as_) 70 11 (b.rels.length) cs (b.rels.flatMap bU)]) mS ⟨⟨A9,ar,ag,some g61,as_,c9,cr,cg,c61,cs⟩,rfl,rfl⟩;done)
              |trace_state
        · have hpe:=sx hi hall (.inl (by omega))
          have hpl:(L.take i++(⟨toO o,o.input⟩:Et)::L.drop i).length=L.length+1:=by simp [NZ,NP];omega
          rw [hpe,hpl]
          repeat' (first|(apply bZ (id:=21) [13] [];kernel_rfl;kernel_rfl;kernel_rfl)|(apply aw (f:=61);exact rfl;exact rfl;exact l9 L i hi ⟨toO o,o.input⟩ _ _ hLl w pK;rintro _ _ ⟨A9,c9,rfl,rfl⟩)|refine sT ?_|refine sS ?_|refine sW ?_|refine sN ?_|refine sWN ?_|refine sM fun _=> ?_|(refine sC ?_ ?_<;>intro hb<;>try omega)|(refine sCW ?_ ?_<;>intro hb<;>try omega)|fail)
          all_goals first
            |(exfalso;omega)
            |(refine eO eIO rfl rfl pK rfl rfl rfl rfl (H' := [.own (A9) 53 3 (L.length+1) c9 ((L.take i++(⟨toO o,o.input⟩:Et)::L.drop i).flatMap aJ),.own (ar) 38 7 (b.rules.length) cr (b.rules.flatMap bn),.own (ag) 56 8 (b.grants.length) cg (b.grants.flatMap bA),.own (some g61) 48 9 (b.log.length+1) c61 (b.log.flatMap aL++aL ev1),.own (as_) 70 11 (b.rels.length) cs (b.rels.flatMap bU)]) mS ⟨⟨A9,ar,ag,some g61,as_,c9,cr,cg,c61,cs⟩,rfl,rfl⟩;done)
            |trace_state
    · obtain ⟨L,hL⟩: ∃ L,b.ents.filter (eK o)=L:=⟨_,rfl⟩
      have hLl:L.length≤1000000:=Ok (hL ▸ PY _ _) hs1
      have hdel:=fun (A:Option Nat) (cap go:Nat) (H T:List Blk) (h1:Sel (.own A 53 3 b.ents.length cap (b.ents.flatMap aJ)) H T) (h2:In (.box go 41 (bu o)) T)=>Bc b.ents o go cap w A hs1 h1 h2
      rw [hL] at hdel
      rw [fZ,if_pos (by omega)]
      dsimp only
      rw [hL]
      by_cases hin:o.input=au
      · rw [ma,if_pos hin]
        simp only [aW,bz,el1,el2] at hC ⊢
        repeat' (first|(apply aa (f:=12);exact rfl;exact rfl;(intro w' hm;exact hC w' _ hm))|(apply aG (f:=28);exact rfl;exact rfl;(intro w' hm;exact hY w' _ hm);rintro _ _ ⟨a,rfl,rfl⟩;unfold bz)|(apply ak (d:=27);exact rfl;apply dw;exact rfl;exact rfl;exact ⟨by omega,by omega⟩)|(apply aa (f:=54);exact rfl;exact rfl;(intro w' hm;exact hD w' _ _ pK hm))|(apply aa (f:=55);exact rfl;exact rfl;(intro w' _;exact hM w'))|(apply aa (f:=56);exact rfl;exact rfl;(intro w' hm;exact hE w' _ hm))|(apply aN (d:=61);(iterate 3 exact rfl);exact pK;exact pK;exact rfl;(intro u hu;simp [aL] at hu;rcases hu with rfl|rfl|rfl|rfl|rfl|rfl|rfl|rfl|rfl<;>rfl);omega;(simp only [maxLen];omega);intro g61 c61)|(apply aw (f:=57);exact rfl;exact rfl;exact hdel _ _ _ _ _ pK pK;rintro _ _ ⟨rfl,rfl⟩)|(apply ak (d:=80);exact rfl;apply qG (b:=au);exact rfl;exact rfl)|refine sT ?_|refine sS ?_|refine sM fun _=> ?_|(refine sC ?_ ?_<;>intro hb<;>try omega)|fail)
        all_goals first
          |(exfalso;omega)
          |(exact absurd hin hb)
          |(refine eO eIO rfl rfl pK rfl rfl rfl rfl (H' := [.own (a.e) 53 3 (L.length) a.ce (L.flatMap aJ),.own (a.r) 38 7 (b.rules.length) a.cr (b.rules.flatMap bn),.own (a.g) 56 8 (b.grants.length) a.cg (b.grants.flatMap bA),.own (some g61) 48 9 (b.log.length+1) c61 (b.log.flatMap aL++aL ev1),.own (a.s) 70 11 (b.rels.length) a.cs (b.rels.flatMap bU)]) mS ⟨⟨a.e,a.r,a.g,some g61,a.s,a.ce,a.cr,a.cg,c61,a.cs⟩,rfl,rfl⟩;done)
          |trace_state
      · rw [ma,if_neg hin]
        simp only [aW,bz,el1,el2] at hC ⊢
        repeat' (first|(apply aa (f:=12);exact rfl;exact rfl;(intro w' hm;exact hC w' _ hm))|(apply aG (f:=28);exact rfl;exact rfl;(intro w' hm;exact hY w' _ hm);rintro _ _ ⟨a,rfl,rfl⟩;unfold bz)|(apply ak (d:=27);exact rfl;apply dw;exact rfl;exact rfl;exact ⟨by omega,by omega⟩)|(apply aa (f:=54);exact rfl;exact rfl;(intro w' hm;exact hD w' _ _ pK hm))|(apply aa (f:=55);exact rfl;exact rfl;(intro w' _;exact hM w'))|(apply aa (f:=56);exact rfl;exact rfl;(intro w' hm;exact hE w' _ hm))|(apply aN (d:=61);(iterate 3 exact rfl);exact pK;exact pK;exact rfl;(intro u hu;simp [aL] at hu;rcases hu with rfl|rfl|rfl|rfl|rfl|rfl|rfl|rfl|rfl<;>rfl);omega;(simp only [maxLen];omega);intro g61 c61)|(apply aw (f:=57);exact rfl;exact rfl;exact hdel _ _ _ _ _ pK pK;rintro _ _ ⟨rfl,rfl⟩)|(apply ak (d:=80);exact rfl;apply qG (b:=au);exact rfl;exact rfl)|refine sT ?_|refine sS ?_|refine sM fun _=> ?_|(refine sC ?_ ?_<;>intro hb<;>try omega)|fail)
        all_goals try (exfalso;omega)
        all_goals try (exact absurd (Decidable.not_not.1 hb) hin)
        rename_i g2 g3 g4 _ g9 g60 _ _ g11
        obtain ⟨ae,ar,ag,al,as_,ce,cr,cg,cl,cs⟩:=a
        have hLs:=fun (a b:Rf) w=>yG a b w
        refine ay [3,4,5,6,7,11] rfl (fun i:Nat=> [(12,.int .i64 (i:Int))]) (fun _=> [.box g11 51 (cu (toO o)),.box g4 28 [.int .i64 b.users,sl ae L.length ce,sl ar b.rules.length cr,sl ag b.grants.length cg,sl (some g61) (b.log.length+1) c61,sl as_ b.rels.length cs,.int .i64 (b.step+1)],.box g3 41 (bu o),.own (ae) 53 3 (L.length) ce (L.flatMap aJ),.own (ar) 38 7 (b.rules.length) cr (b.rules.flatMap bn),.own (ag) 56 8 (b.grants.length) cg (b.grants.flatMap bA),.own (some g61) 48 9 (b.log.length+1) c61 (b.log.flatMap aL++aL ev1),.own (as_) 70 11 (b.rels.length) cs (b.rels.flatMap bU)]) (fun i=>i≤L.length∧ ∀ j (h:j<L.length),j<i→bP L[j].at_ (toO o)=true) (fun i=>L.length - i) 0 ⟨by omega,fun j _ h=>by omega⟩ sB mS ?_
        rintro i ⟨hi,hall⟩
        by_cases hlt:i<L.length
        · refine gx (A:=ae) pK (by omega) fun ga hA=> ?_
          subst hA
          have hread:((L.flatMap aJ).drop (0+i*3+0)).take 2=cu L[i].at_:=by
            have h1:=Kw hlt
            rw [PB]
            calc ((L.flatMap aJ).drop (0+i*3)).take 2=(((L.flatMap aJ).drop (0+i*3)).take 3).take 2:=by rw [List.take_take];rfl
              _=_:=by rw [h1];rfl
          have hLi:=hLs L[i].at_ (toO o)
          obtain ⟨cc,hcc⟩: ∃ cc,bP L[i].at_ (toO o)=cc:=⟨_,rfl⟩
          rw [hcc] at hLi
          cases cc with
          |true=>
            repeat' (first|(apply bZ (id:=21) [13] [];kernel_rfl;kernel_rfl;kernel_rfl)|(apply cC (d:=97);(iterate 3 exact rfl);apply aj (j:=i);exact rfl;exact rfl;omega)|(apply cC (d:=99);(iterate 3 exact rfl);apply aR;exact rfl;exact pK;exact hread;exact rfl)|(apply aa (f:=60);exact rfl;exact rfl;(intro w' _;exact hLi w'))|refine sT ?_|refine sS ?_|refine sW ?_|refine sN ?_|refine sWN ?_|refine sM fun _=> ?_|(refine sC ?_ ?_<;>intro hb<;>try omega)|(refine sCW ?_ ?_<;>intro hb<;>try omega)|fail)
            all_goals first
              |(exfalso;omega)
              | (refine ⟨i + 1, ⟨hlt, fun j hj hji => ?_⟩, by omega, by exact sB, by exact sB, by exact mS⟩
                 rcases (by omega:j<i∨j=i) with h|rfl
                 · exact hall j hj h
                 · exact hcc)
              |trace_state
          |false=>
            have hpe:=sx hi hall (.inr ⟨hlt,hcc⟩)
            have hpl:(L.take i++(⟨toO o,o.input⟩:Et)::L.drop i).length=L.length+1:=by simp [NZ,NP];omega
            rw [hpe,hpl]
            repeat' (first|(apply bZ (id:=21) [13] [];kernel_rfl;kernel_rfl;kernel_rfl)|(apply cC (d:=97);(iterate 3 exact rfl);apply aj (j:=i);exact rfl;exact rfl;omega)|(apply cC (d:=99);(iterate 3 exact rfl);apply aR;exact rfl;exact pK;exact hread;exact rfl)|(apply aa (f:=60);exact rfl;exact rfl;(intro w' _;exact hLi w'))|(apply aw (f:=61);exact rfl;exact rfl;exact l9 L i hi ⟨toO o,o.input⟩ _ _ hLl w pK;rintro _ _ ⟨A9,c9,rfl,rfl⟩)|refine sT ?_|refine sS ?_|refine sW ?_|refine sN ?_|refine sWN ?_|refine sM fun _=> ?_|(refine sC ?_ ?_<;>intro hb<;>try omega)|(refine sCW ?_ ?_<;>intro hb<;>try omega)|fail)
            all_goals first
              |(exfalso;omega)
              |(refine eO eIO rfl rfl pK rfl rfl rfl rfl (H' := [.own (A9) 53 3 (L.length+1) c9 ((L.take i++(⟨toO o,o.input⟩:Et)::L.drop i).flatMap aJ),.own (ar) 38 7 (b.rules.length) cr (b.rules.flatMap bn),.own (ag) 56 8 (b.grants.length) cg (b.grants.flatMap bA),.own (some g61) 48 9 (b.log.length+1) c61 (b.log.flatMap aL++aL ev1),.own (as_) 70 11 (b.rels.length) cs (b.rels.flatMap bU)]) mS ⟨⟨A9,ar,ag,some g61,as_,c9,cr,cg,c61,cs⟩,rfl,rfl⟩;done)
              |trace_state
        · have hpe:=sx hi hall (.inl (by omega))
          have hpl:(L.take i++(⟨toO o,o.input⟩:Et)::L.drop i).length=L.length+1:=by simp [NZ,NP];omega
          rw [hpe,hpl]
          repeat' (first|(apply bZ (id:=21) [13] [];kernel_rfl;kernel_rfl;kernel_rfl)|(apply aw (f:=61);exact rfl;exact rfl;exact l9 L i hi ⟨toO o,o.input⟩ _ _ hLl w pK;rintro _ _ ⟨A9,c9,rfl,rfl⟩)|refine sT ?_|refine sS ?_|refine sW ?_|refine sN ?_|refine sWN ?_|refine sM fun _=> ?_|(refine sC ?_ ?_<;>intro hb<;>try omega)|(refine sCW ?_ ?_<;>intro hb<;>try omega)|fail)
          all_goals first
            |(exfalso;omega)
            |(refine eO eIO rfl rfl pK rfl rfl rfl rfl (H' := [.own (A9) 53 3 (L.length+1) c9 ((L.take i++(⟨toO o,o.input⟩:Et)::L.drop i).flatMap aJ),.own (ar) 38 7 (b.rules.length) cr (b.rules.flatMap bn),.own (ag) 56 8 (b.grants.length) cg (b.grants.flatMap bA),.own (some g61) 48 9 (b.log.length+1) c61 (b.log.flatMap aL++aL ev1),.own (as_) 70 11 (b.rels.length) cs (b.rels.flatMap bU)]) mS ⟨⟨A9,ar,ag,some g61,as_,c9,cr,cg,c61,cs⟩,rfl,rfl⟩;done)
            |trace_state
    · have e1:(b.rules++ [(⟨o.rect,o.rd,o.wr,o.ow⟩:Rl)]).length=b.rules.length+1:=by rw [ND];rfl
      have e2:(b.rules++ [(⟨o.rect,o.rd,o.wr,o.ow⟩:Rl)]).flatMap bn=b.rules.flatMap bn++bn ⟨o.rect,o.rd,o.wr,o.ow⟩:=by rw [NR,NU,Oy,NM]
      rw [fZ,if_neg (by omega),if_pos hk]
      simp only [aW,bz,el1,el2,e1,e2] at hC ⊢
      repeat' (first|(apply aa (f:=12);exact rfl;exact rfl;(intro w' hm;exact hC w' _ hm))|(apply aG (f:=28);exact rfl;exact rfl;(intro w' hm;exact hY w' _ hm);rintro _ _ ⟨a,rfl,rfl⟩;unfold bz)|(apply ak (d:=27);exact rfl;apply dw;exact rfl;exact rfl;exact ⟨by omega,by omega⟩)|(apply aa (f:=54);exact rfl;exact rfl;(intro w' hm;exact hD w' _ _ pK hm))|(apply aa (f:=55);exact rfl;exact rfl;(intro w' _;exact hM w'))|(apply aa (f:=56);exact rfl;exact rfl;(intro w' hm;exact hE w' _ hm))|(apply aN (d:=61);(iterate 3 exact rfl);exact pK;exact pK;exact rfl;(intro u hu;simp [aL] at hu;rcases hu with rfl|rfl|rfl|rfl|rfl|rfl|rfl|rfl|rfl<;>rfl);omega;(simp only [maxLen];omega);intro g61 c61)|(apply aN (d:=124);(iterate 3 exact rfl);exact pK;exact pK;exact rfl;(intro u hu;simp at hu;rcases hu with rfl|rfl|rfl|rfl|rfl|rfl|rfl<;>rfl);omega;(simp only [maxLen];omega);intro g7 c7)|refine sT ?_|refine sS ?_|refine sM fun _=> ?_|(refine sC ?_ ?_<;>intro hb<;>try omega)|fail)
      all_goals first
        |(exfalso;omega)
        |(refine eO eIO rfl rfl pK rfl rfl rfl rfl (H' := [.own (a.e) 53 3 (b.ents.length) a.ce (b.ents.flatMap aJ),.own (some g7) 38 7 (b.rules.length+1) c7 (b.rules.flatMap bn++bn ⟨o.rect,o.rd,o.wr,o.ow⟩),.own (a.g) 56 8 (b.grants.length) a.cg (b.grants.flatMap bA),.own (some g61) 48 9 (b.log.length+1) c61 (b.log.flatMap aL++aL ev1),.own (a.s) 70 11 (b.rels.length) a.cs (b.rels.flatMap bU)]) mS ⟨⟨a.e,some g7,a.g,some g61,a.s,a.ce,c7,a.cg,c61,a.cs⟩,rfl,rfl⟩;done)
        |trace_state
    · have e1:(b.grants++ [(⟨o.rect,o.fns,o.to,o.user,false⟩:Gn)]).length=b.grants.length+1:=by rw [ND];rfl
      have e2:(b.grants++ [(⟨o.rect,o.fns,o.to,o.user,false⟩:Gn)]).flatMap bA=b.grants.flatMap bA++bA ⟨o.rect,o.fns,o.to,o.user,false⟩:=by rw [NR,NU,Oy,NM]
      rw [fZ,if_neg (by omega),if_neg (by omega),if_pos hk]
      simp only [aW,bz,el1,el2,e1,e2] at hC ⊢
      repeat' (first|(apply aa (f:=12);exact rfl;exact rfl;(intro w' hm;exact hC w' _ hm))|(apply aG (f:=28);exact rfl;exact rfl;(intro w' hm;exact hY w' _ hm);rintro _ _ ⟨a,rfl,rfl⟩;unfold bz)|(apply ak (d:=27);exact rfl;apply dw;exact rfl;exact rfl;exact ⟨by omega,by omega⟩)|(apply aa (f:=54);exact rfl;exact rfl;(intro w' hm;exact hD w' _ _ pK hm))|(apply aa (f:=55);exact rfl;exact rfl;(intro w' _;exact hM w'))|(apply aa (f:=56);exact rfl;exact rfl;(intro w' hm;exact hE w' _ hm))|(apply aN (d:=61);(iterate 3 exact rfl);exact pK;exact pK;exact rfl;(intro u hu;simp [aL] at hu;rcases hu with rfl|rfl|rfl|rfl|rfl|rfl|rfl|rfl|rfl<;>rfl);omega;(simp only [maxLen];omega);intro g61 c61)|(apply aN (d:=140);(iterate 3 exact rfl);exact pK;exact pK;exact rfl;(intro u hu;simp at hu;rcases hu with rfl|rfl|rfl|rfl|rfl|rfl|rfl|rfl<;>rfl);omega;(simp only [maxLen];omega);intro g8 c8)|refine sT ?_|refine sS ?_|refine sM fun _=> ?_|(refine sC ?_ ?_<;>intro hb<;>try omega)|fail)
      all_goals first
        |(exfalso;omega)
        |(refine eO eIO rfl rfl pK rfl rfl rfl rfl (H' := [.own (a.e) 53 3 (b.ents.length) a.ce (b.ents.flatMap aJ),.own (a.r) 38 7 (b.rules.length) a.cr (b.rules.flatMap bn),.own (some g8) 56 8 (b.grants.length+1) c8 (b.grants.flatMap bA++bA ⟨o.rect,o.fns,o.to,o.user,false⟩),.own (some g61) 48 9 (b.log.length+1) c61 (b.log.flatMap aL++aL ev1),.own (a.s) 70 11 (b.rels.length) a.cs (b.rels.flatMap bU)]) mS ⟨⟨a.e,a.r,some g8,some g61,a.s,a.ce,a.cr,c8,c61,a.cs⟩,rfl,rfl⟩;done)
        |trace_state
    · obtain ⟨j,hj⟩: ∃ j:Nat,o.idx=(j:Int)∧j<b.grants.length:=by
        have h4:tst b o 4=false:=by
          rcases h:tst b o 4 with _|_
          · rfl
          · exfalso
            unfold cdE at hcd
            rw [h] at hcd
            revert hcd
            (repeat' split)<;>intro hcd<;>injection hcd with h1 h2<;>first|(exact absurd h1 (by decide))|contradiction
        have:=LZ h4 hk
        exact ⟨o.idx.toNat,by omega,by omega⟩
      obtain ⟨hj,hjl⟩:=hj
      have hrv:Ku b.grants o.idx.toNat=b.grants.set j ⟨b.grants[j].rect,b.grants[j].fns,b.grants[j].to,b.grants[j].by_,true⟩:=by
        unfold Ku
        rw [hj,OZ,NE hjl]
      rw [fZ,if_neg (by omega),if_neg (by omega),if_neg (by omega),if_pos hk]
      dsimp only
      rw [hrv]
      have e1:(b.grants.set j ⟨b.grants[j].rect,b.grants[j].fns,b.grants[j].to,b.grants[j].by_,true⟩).length=b.grants.length:=PX
      have e2:(b.grants.set j ⟨b.grants[j].rect,b.grants[j].fns,b.grants[j].to,b.grants[j].by_,true⟩).flatMap bA=(b.grants.flatMap bA).set (0+j*8+7) (.bool true):=by
        rw [N7]
        exact (wB b.grants j hjl).symm
      have hfit:0+j*8+7<(b.grants.flatMap bA).length:=by rw [aI cX];omega
      simp only [aW,bz,el1,el2,e1,e2] at hC ⊢
      repeat' (first|(apply aa (f:=12);exact rfl;exact rfl;(intro w' hm;exact hC w' _ hm))|(apply aG (f:=28);exact rfl;exact rfl;(intro w' hm;exact hY w' _ hm);rintro _ _ ⟨a,rfl,rfl⟩;unfold bz)|(apply ak (d:=27);exact rfl;apply dw;exact rfl;exact rfl;exact ⟨by omega,by omega⟩)|(apply aa (f:=54);exact rfl;exact rfl;(intro w' hm;exact hD w' _ _ pK hm))|(apply aa (f:=55);exact rfl;exact rfl;(intro w' _;exact hM w'))|(apply aa (f:=56);exact rfl;exact rfl;(intro w' hm;exact hE w' _ hm))|(apply aN (d:=61);(iterate 3 exact rfl);exact pK;exact pK;exact rfl;(intro u hu;simp [aL] at hu;rcases hu with rfl|rfl|rfl|rfl|rfl|rfl|rfl|rfl|rfl<;>rfl);omega;(simp only [maxLen];omega);intro g61 c61)|(apply ak (d:=148);exact rfl;apply aj (j:=j);exact rfl;(rw [← hj];exact rfl);exact hjl)|(apply gL;exact rfl;exact rfl;exact pK;exact rfl;exact hfit)|refine sT ?_|refine sS ?_|refine sM fun _=> ?_|(refine sC ?_ ?_<;>intro hb<;>try omega)|fail)
      all_goals try (exfalso;omega)
      obtain ⟨ae,ar,ag,al,as_,ce,cr,cg,cl,cs⟩:=a
      refine DU (A:=ag) (xs:=b.grants.flatMap bA) pK (by omega) fun gg hA=> ?_
      subst hA
      repeat' (first|(apply ak (d:=148);exact rfl;apply aj (j:=j);exact rfl;(rw [← hj];exact rfl);exact hjl)|(apply gL;exact rfl;exact rfl;exact pK;exact rfl;exact hfit)|refine sT ?_|refine sS ?_|refine sM fun _=> ?_|(refine sC ?_ ?_<;>intro hb<;>try omega)|fail)
      all_goals first
        |(exfalso;omega)
        |(refine eO eIO rfl rfl pK rfl rfl rfl rfl (H' := [.own (ae) 53 3 (b.ents.length) ce (b.ents.flatMap aJ),.own (ar) 38 7 (b.rules.length) cr (b.rules.flatMap bn),.own (some gg) 56 8 (b.grants.length) cg ((b.grants.flatMap bA).set (0+j*8+7) (.bool true)),.own (some g61) 48 9 (b.log.length+1) c61 (b.log.flatMap aL++aL ev1),.own (as_) 70 11 (b.rels.length) cs (b.rels.flatMap bU)]) mS ⟨⟨ae,ar,some gg,some g61,as_,ce,cr,cg,c61,cs⟩,rfl,rfl⟩;done)
        |trace_state
end Go.SL
