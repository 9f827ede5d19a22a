/-
  Lemmas and walks, put together: Jn Jm Oe Og Oh0 Oh1 Oh2 Oh3.
-/
import Derived.Test.YthefeclkaaocnaaGreatDoorKj33
set_option linter.unusedSimpArgs false
set_option linter.unusedVariables false
set_option maxRecDepth 20000
namespace Go.SL
open Go Go.Proofs
attribute [local irreducible] W WL WQ WG WA WX WLI WR WT WC WE VOp RW thn blk bG scp bg bi bT aQ FnIn FnP ceP
theorem BC (L M:List Rl) (lv mv:Value) (w:World) (hl:Reads w lv L.length (L.flatMap bn)) (hm:Reads w mv M.length (M.flatMap bn)):
  ax Tryz.prog 23 [lv,mv] w (.bool (decide (L=M))):=by
 obtain ⟨Al,cl,rfl,hl1,hl2,hl3⟩:=hl
 obtain ⟨Am,cm,rfl,hm1,hm2,hm3⟩:=hm
 refine aq Tryz.func23 rfl Tryz.ntmps23 rfl ?_
 by_cases hlen:L.length=M.length
 ·
  repeat' (first|refine sT ?_|refine sS ?_|refine sM fun _=> ?_|(refine sC ?_ ?_<;>intro hb<;>try omega)|fail)
  refine fC (fun i:Nat=> [(0,.slice Al L.length cl),(1,.slice Am M.length cm),(5,.int .i64 (i:Int))]) (fun _=> []) (fun i=>i≤L.length∧decide (L=M)=decide (L.drop i=M.drop i)) (fun i=>L.length - i) 0 ⟨by omega,rfl⟩ ?_ ?_ ?_
  ·
   exact sB
  ·
   exact mS
  ·
   rintro i ⟨hi,hrec⟩
   by_cases hlt:i<L.length
   ·
    have hlt2:i<M.length:=by omega
    obtain ⟨gl,ol,rfl,hrl⟩:=hl3 (by omega)
    obtain ⟨gm,om,rfl,hrm⟩:=hm3 (by omega)
    have he1:=hrl.elem cK i hlt
    have he2:=hrm.elem cK i hlt2
    rw [iT hlt hlt2,← AR] at hrec
    repeat' (first|(apply aK;exact rfl;apply aj;exact rfl;exact rfl;(first|exact hlt|exact hlt2))|(apply aK;exact rfl;apply aA;exact rfl;(first|exact he1|exact he2);exact rfl)|(apply aK;exact rfl;apply Ee;exact rfl;exact rfl)|(apply ak;exact rfl;apply dg;exact rfl;exact rfl;(simp only [maxLen] at*;omega))|refine sT ?_|refine sS ?_|refine sQ ?_|refine sD ?_|refine sM fun _=> ?_|(refine sC ?_ ?_<;>intro hb<;>try omega)|(refine sCQ ?_ ?_<;>intro hb<;>try omega)|fail)
    all_goals first
     |(exfalso;omega)
     |((refine rT1 ?_);rw [hrec];simp_all;done)
     |(refine ⟨i+1,⟨by omega,?_⟩,by omega,by exact sB,by exact mS⟩;rw [hrec];simp_all;done)
     |trace_state
   ·
    have e:i=L.length:=by omega
    subst e
    repeat' (first|refine sT ?_|refine sS ?_|refine sM fun _=> ?_|(refine sC ?_ ?_<;>intro hb<;>try omega)|fail)
    (refine rT1 ?_)
    rw [hrec,NW,hlen,NW]
    rfl
 ·
  repeat' (first|refine sT ?_|refine sS ?_|refine sM fun _=> ?_|(refine sC ?_ ?_<;>intro hb<;>try omega)|fail)
  (refine rT1 ?_)
  rw [decide_eq_false]
  intro e
  exact hlen (congrArg List.length e)
theorem BB (L M:List Rv) (lv mv:Value) (w:World) (hl:Reads w lv L.length (L.flatMap bU)) (hm:Reads w mv M.length (M.flatMap bU)):
  ax Tryz.prog 29 [lv,mv] w (.bool (decide (L=M))):=by
 obtain ⟨Al,cl,rfl,hl1,hl2,hl3⟩:=hl
 obtain ⟨Am,cm,rfl,hm1,hm2,hm3⟩:=hm
 refine aq Tryz.func29 rfl Tryz.ntmps29 rfl ?_
 by_cases hlen:L.length=M.length
 ·
  repeat' (first|refine sT ?_|refine sS ?_|refine sM fun _=> ?_|(refine sC ?_ ?_<;>intro hb<;>try omega)|fail)
  refine fC (fun i:Nat=> [(0,.slice Al L.length cl),(1,.slice Am M.length cm),(5,.int .i64 (i:Int))]) (fun _=> []) (fun i=>i≤L.length∧decide (L=M)=decide (L.drop i=M.drop i)) (fun i=>L.length - i) 0 ⟨by omega,rfl⟩ ?_ ?_ ?_
  ·
   exact sB
  ·
   exact mS
  ·
   rintro i ⟨hi,hrec⟩
   by_cases hlt:i<L.length
   ·
    have hlt2:i<M.length:=by omega
    obtain ⟨gl,ol,rfl,hrl⟩:=hl3 (by omega)
    obtain ⟨gm,om,rfl,hrm⟩:=hm3 (by omega)
    have he1:=hrl.elem eF i hlt
    have he2:=hrm.elem eF i hlt2
    rw [iT hlt hlt2,← AP] at hrec
    repeat' (first|(apply aK;exact rfl;apply aj;exact rfl;exact rfl;(first|exact hlt|exact hlt2))|(apply aK;exact rfl;apply aA;exact rfl;(first|exact he1|exact he2);exact rfl)|(apply aK;exact rfl;apply Ed;exact rfl;exact rfl)|(apply ak;exact rfl;apply dg;exact rfl;exact rfl;(simp only [maxLen] at*;omega))|refine sT ?_|refine sS ?_|refine sQ ?_|refine sD ?_|refine sM fun _=> ?_|(refine sC ?_ ?_<;>intro hb<;>try omega)|(refine sCQ ?_ ?_<;>intro hb<;>try omega)|fail)
    all_goals first
     |(exfalso;omega)
     |((refine rT1 ?_);rw [hrec];simp_all;done)
     |(refine ⟨i+1,⟨by omega,?_⟩,by omega,by exact sB,by exact mS⟩;rw [hrec];simp_all;done)
     |trace_state
   ·
    have e:i=L.length:=by omega
    subst e
    repeat' (first|refine sT ?_|refine sS ?_|refine sM fun _=> ?_|(refine sC ?_ ?_<;>intro hb<;>try omega)|fail)
    (refine rT1 ?_)
    rw [hrec,NW,hlen,NW]
    rfl
 ·
  repeat' (first|refine sT ?_|refine sS ?_|refine sM fun _=> ?_|(refine sC ?_ ?_<;>intro hb<;>try omega)|fail)
  (refine rT1 ?_)
  rw [decide_eq_false]
  intro e
  exact hlen (congrArg List.length e)
theorem BF {L M:List Ev} (h:L=M) {lv mv:Value} {w:World} (hl:Reads w lv L.length (L.flatMap aL)) (hm:Reads w mv M.length (M.flatMap aL)):ax Tryz.prog 15 [lv,mv] w (.bool true):=by
 have:=BG L M lv mv w hl hm
 rwa [decide_eq_true h] at this
theorem kC {L M:List Rl} (h:L=M) {lv mv:Value} {w:World} (hl:Reads w lv L.length (L.flatMap bn)) (hm:Reads w mv M.length (M.flatMap bn)):ax Tryz.prog 23 [lv,mv] w (.bool true):=by
 have:=BC L M lv mv w hl hm
 rwa [decide_eq_true h] at this
theorem kD {L M:List Gn} (h:L=M) {lv mv:Value} {w:World} (hl:Reads w lv L.length (L.flatMap bA)) (hm:Reads w mv M.length (M.flatMap bA)):ax Tryz.prog 17 [lv,mv] w (.bool true):=by
 have:=BD L M lv mv w hl hm
 rwa [decide_eq_true h] at this
theorem mR {b:Bk} (h:jf b=true):Small b:=by
 have:=jC h
 exact ⟨by omega,by omega,by omega,by omega,by omega⟩
end Go.SL
namespace Go.SL
open Go Go.Proofs
theorem Mh {o:Ox} (h:opE o=0) (hk:o.kind=3):o.rect.c1=o.rect.c2∧o.rect.r1=o.rect.r2:=by
 unfold opE at h
 split at h
 ·
  cases h
 rw [if_pos (show o.kind=3∨o.kind=6 from .inl hk)] at h
 by_cases hc:o.rect.c1=o.rect.c2∧o.rect.r1=o.rect.r2
 ·
  exact hc
 ·
  rw [if_neg hc] at h;cases h
structure RtsOk (b P:Bk) (o:Ox) (cd:Int):Prop where
 ok:BkOk P
 step:P.step=b.step+1
 users:P.users=b.users
 rels:P.rels=b.rels
 log: ∃ ev:Ev,ev.done=decide (cd=0)∧ev.step=b.step∧P.log=if (cd=0∨cd=5)∧dh o.kind=true then b.log++ [ev] else b.log
 same: ¬ (cd=0∧dh o.kind=true)→P.ents=b.ents∧P.rules=b.rules∧P.grants=b.grants
 ents:o.kind≠3→o.kind≠4→P.ents=b.ents
 rules:o.kind≠7→P.rules=b.rules
 grants:o.kind=3∨o.kind=4∨o.kind=7→P.grants=b.grants
 rect:cd=0→o.kind=3∨o.kind=4∨o.kind=7∨o.kind=8→aF o.rect=true
 maySet:cd=0→o.kind=3∨o.kind=4→eU (ovE o.rect b.rules).1.2.1 o.user=true
 mayOwn:cd=0→o.kind=7∨o.kind=8→eU (ovE o.rect b.rules).1.2.2 o.user=true
 user:cd=0→0≤o.user∧o.user<64
 out: ∀ a,di o.rect a=false→mf a P.ents=mf a b.ents∧atR a P.rules=atR a b.rules
 ins:cd=0→ ∀ a,di o.rect a=true→(o.kind=3→mf a P.ents=o.input)∧(o.kind=4→mf a P.ents=au)∧(o.kind=7→atR a P.rules=(o.rd,o.wr,o.ow))
theorem nY {b:Bk} {o:Ox} (h:BkOk b) (hs:b.step≠1099511627776):RtsOk b (apE b o).1 o (apE b o).2.1:=by
 have hap:=Bu (o:=o) h hs
 have hRn:b.rules≠ []:=(qt.1 h.r).2.1
 unfold apE at hap ⊢
 rw [if_neg (show ¬ (bkE b≠0) by rw [dz.2 h];decide),if_neg hs] at hap ⊢
 have hlogv: ∀ cd,cd=(cdE b o).1→ ∃ ev:Ev,ev.done=decide (cd=0)∧ev.step=b.step∧(fK b o).log=if (cd=0∨cd=5)∧dh o.kind=true then b.log++ [ev] else b.log:=by
  rintro cd rfl
  by_cases hc:((cdE b o).1=0∨(cdE b o).1=5)∧dh o.kind=true
  ·
   refine ⟨(evO b.step o (decide ((cdE b o).1=0)) b.rules b.grants).1,?_,?_,rfl⟩
   ·
    rw [yq h hc.2 (nK hc.1)]
   ·
    rw [yq h hc.2 (nK hc.1)]
  ·
   refine ⟨⟨b.step,0,0,aM,decide ((cdE b o).1=0),0#64⟩,rfl,rfl,?_⟩
   unfold fK
   dsimp only
   rw [if_neg hc,if_neg hc]
 by_cases hc:(cdE b o).1≠0
 ·
  rw [if_pos hc] at hap ⊢
  exact ⟨hap.1,rfl,rfl,rfl,hlogv _ rfl,fun _=>⟨rfl,rfl,rfl⟩,fun _ _=>rfl,fun _=>rfl,fun _=>rfl,fun e=>absurd e hc,fun e=>absurd e hc,fun e=>absurd e hc,fun e=>absurd e hc,fun a _=>⟨rfl,rfl⟩,fun e=>absurd e hc⟩
 rw [if_neg hc] at hap ⊢
 have hc0:(cdE b o).1=0:=Decidable.not_not.1 hc
 have ht:=EU hc0
 have hop:=Cd (ht 0 (by decide))
 have hu:=pJ (ht 1 (by decide))
 have hus:=h.u
 have hrf:xM b o=false:=ht 5 (by decide)
 have hle:(fZ (fK b o) o).log=(fK b o).log∧(fZ (fK b o) o).step=b.step+1∧(fZ (fK b o) o).users=b.users∧(fZ (fK b o) o).rels=b.rels:=by
  unfold fZ
  split
  ·
   exact ⟨rfl,rfl,rfl,rfl⟩
  split
  ·
   exact ⟨rfl,rfl,rfl,rfl⟩
  split
  ·
   exact ⟨rfl,rfl,rfl,rfl⟩
  split
  ·
   exact ⟨rfl,rfl,rfl,rfl⟩
  ·
   exact ⟨rfl,rfl,rfl,rfl⟩
 have he3:(o.kind=3∨o.kind=4)→(fZ (fK b o) o).ents=ma (b.ents.filter (eK o)) o∧(fZ (fK b o) o).rules=b.rules∧(fZ (fK b o) o).grants=b.grants:=fun hk=>by
  unfold fZ;rw [if_pos hk];exact ⟨rfl,rfl,rfl⟩
 have he7:o.kind=7→(fZ (fK b o) o).ents=b.ents∧(fZ (fK b o) o).rules=b.rules++ [⟨o.rect,o.rd,o.wr,o.ow⟩]∧(fZ (fK b o) o).grants=b.grants:=fun hk=>by
  unfold fZ;rw [if_neg (by omega),if_pos hk];exact ⟨rfl,rfl,rfl⟩
 have heo: ¬ (o.kind=3∨o.kind=4)→o.kind≠7→(fZ (fK b o) o).ents=b.ents∧(fZ (fK b o) o).rules=b.rules:=fun h1 h2=>by
  unfold fZ
  rw [if_neg h1,if_neg h2]
  split
  ·
   exact ⟨rfl,rfl⟩
  split
  ·
   exact ⟨rfl,rfl⟩
  ·
   exact ⟨rfl,rfl⟩
 have heg:dh o.kind=false→(fZ (fK b o) o).ents=b.ents∧(fZ (fK b o) o).rules=b.rules∧(fZ (fK b o) o).grants=b.grants:=fun hm=>by
  have hk: ¬ (o.kind=3∨o.kind=4∨o.kind=7∨o.kind=8∨o.kind=9):=fun hk=>by rw [ni.2 hk] at hm;cases hm
  unfold fZ
  rw [if_neg (by omega),if_neg (by omega),if_neg (by omega),if_neg (by omega)]
  exact ⟨rfl,rfl,rfl⟩
 generalize fZ (fK b o) o=P at hap hle he3 he7 heo heg ⊢
 have hin: ∀ a,di o.rect a=true→o.kind=3→a=toO o:=fun a ha hk=>by
  have h1:=Mh hop hk
  have h2:=dc.1 ha
  have e1:a.col=o.rect.c1:=by omega
  have e2:a.row=o.rect.r1:=by omega
  obtain ⟨ac,ar⟩:=a
  simp only at e1 e2
  subst e1 e2
  rfl
 have hto:(o.kind=3∨o.kind=4)→di o.rect (toO o)=true:=fun hk=>by
  have hs:=cN.1 (lg (ht 2 (by decide)) (by omega))
  exact dc.2 ⟨OW _,hs.2.1,OW _,hs.2.2.2.2.1⟩
 refine ⟨hap.1,hle.2.1,hle.2.2.1,hle.2.2.2,?_,fun hn=> ?_,fun h3 h4=> ?_,fun h7=> ?_,fun hk=> ?_,fun _ hk=>lg (ht 2 (by decide)) (by omega),fun _ hk=> ?_,fun _ hk=> ?_,fun _=>by omega,fun a ha=> ?_,fun _ a ha=>⟨fun hk=> ?_,fun hk=> ?_,fun hk=> ?_⟩⟩
 ·
  rw [hle.1]
  exact hlogv 0 hc0.symm
 ·
  exact heg (by simpa using hn)
 ·
  by_cases h7:o.kind=7
  ·
   exact (he7 h7).1
  ·
   exact (heo (by omega) h7).1
 ·
  by_cases h3:o.kind=3∨o.kind=4
  ·
   exact (he3 h3).2.1
  ·
   exact (heo h3 h7).2
 ·
  by_cases h3:o.kind=3∨o.kind=4
  ·
   exact (he3 h3).2.2
  ·
   exact (he7 (by omega)).2.2
 ·
  unfold xM at hrf
  rw [if_pos hk] at hrf
  simpa using hrf
 ·
  unfold xM at hrf
  rw [if_neg (by omega),if_neg (by omega),if_pos hk] at hrf
  simpa using hrf
 ·
  by_cases h3:o.kind=3∨o.kind=4
  ·
   rw [(he3 h3).1,(he3 h3).2.1]
   exact ⟨KO ha (hto h3),rfl⟩
  ·
   by_cases h7:o.kind=7
   ·
    rw [(he7 h7).1,(he7 h7).2.1]
    exact ⟨rfl,Lf hRn ha⟩
   ·
    rw [(heo h3 h7).1,(heo h3 h7).2]
    exact ⟨rfl,rfl⟩
 ·
  rw [(he3 (.inl hk)).1]
  exact I3 ha (.inl (hin a ha hk))
 ·
  rw [(he3 (.inr hk)).1,I3 ha (.inr (um hop (by omega)))]
  exact um hop (by omega)
 ·
  rw [(he7 hk).2.1]
  exact MA ha
section
variable {w0:World} {s:az} {H:List Blk} {ty t' :TypeId} {x y:Operand}
theorem J8 {a1 a2 a3 b1 b2 b3:BitVec 64} (hx:ev s x=some (.agg #[vS a1,vS a2,vS a3])) (hy:ev s y=some (.agg #[vS b1,vS b2,vS b3])):VOp Tryz.prog w0 s H (.binOp .neq 36 x y t') ty (.bool (!(decide (a1=b1) && decide (a2=b2) && decide (a3=b3)))):=fun ρ w _ _ _ _ hρ _=>by
 have h:=tW w 9997 a1 a2 a3 b1 b2 b3
 simp only [Nat.reduceAdd] at h
 simp only [vS] at hx hy
 simp only [execOp,hρ x _ hx,hρ y _ hy,Sem.run_bind,run_eqGuard_agg w _ _ _ _ _ _ Tryz.eqGuardType36,Result.andThen_ok,run_neq_struct,h,Sem.run_pure]
theorem pI {a1 a2 a3:BitVec 64} (hx:ev s x=some (.agg #[vS a1,vS a2,vS a3])) (hy:ev s y=some (.agg #[vS a1,vS a2,vS a3])):VOp Tryz.prog w0 s H (.binOp .neq 36 x y t') ty (.bool false):=by
 have h:=J8 (w0:=w0) (H:=H) (ty:=ty) (t' :=t') hx hy
 simpa using h
theorem mJ {a:ByteArray} {t:TypeId} (hx:ev s x=some (.string a)) (hy:ev s y=some (.string a)):VOp Tryz.prog w0 s H (.binOp .neq t x y t') ty (.bool false):=by
 have h:=qG (P:=Tryz.prog) (w0:=w0) (H:=H) (ty:=ty) (t:=t) (t' :=t') hx hy
 simpa using h
end
end Go.SL
namespace Go.SL
open Go Go.Proofs
attribute [local irreducible] W WL WQ WG WA WX WLI WR WT WC WE VOp RW thn blk bG scp bg bi bT aQ FnIn FnP ceP
theorem KN (L:List Et) (o:Ox):(ma L o).length≤L.length+1:=by
 unfold ma
 split
 ·
  omega
 ·
  have h:=congrArg List.length (OE (CL L (toO o)) L)
  rw [ND] at h
  rw [ND,N8]
  omega
theorem yC {b:Bk} {o:Ox}:(apE b o).1.ents.length≤b.ents.length+1:=by
 have hl:(fK b o).ents=b.ents:=rfl
 unfold apE
 split
 ·
  exact NY _
 split
 ·
  exact NY _
 split
 ·
  show (fK b o).ents.length≤_
  rw [hl];omega
 ·
  unfold fZ
  split
  ·
   have h1:=KN ((fK b o).ents.filter (eK o)) o
   have h2:=PY (eK o) (fK b o).ents
   rw [hl] at h1 h2
   show (ma ((fK b o).ents.filter (eK o)) o).length≤_
   rw [hl];omega
  split
  ·
   show (fK b o).ents.length≤_
   rw [hl];omega
  split
  ·
   show (fK b o).ents.length≤_
   rw [hl];omega
  split
  ·
   show (fK b o).ents.length≤_
   rw [hl];omega
  ·
   show (fK b o).ents.length≤_
   rw [hl];omega
theorem KG {k:Int} (h:k=3∨k=4∨k=7∨k=8∨k=9):true=dh k:=(ni.2 h).symm
theorem KH {k:Int} (h3: ¬ k=3) (h4: ¬ k=4) (h7: ¬ k=7) (h8: ¬ k=8):decide (k=9)=dh k:=by
 rw [Om,ni,decide_eq_true_eq]
 omega
theorem kE {L M:List Et} (h:L=M) {lv mv:Value} {w:World} (hl:Reads w lv L.length (L.flatMap aJ)) (hm:Reads w mv M.length (M.flatMap aJ)):ax Tryz.prog 16 [lv,mv] w (.bool true):=by
 have:=sm L M lv mv w hl hm
 rwa [decide_eq_true h] at this
theorem kB {L M:List Rv} (h:L=M) {lv mv:Value} {w:World} (hl:Reads w lv L.length (L.flatMap bU)) (hm:Reads w mv M.length (M.flatMap bU)):ax Tryz.prog 29 [lv,mv] w (.bool true):=by
 have:=BB L M lv mv w hl hm
 rwa [decide_eq_true h] at this
theorem mo {L M:List Ev} {A:Option Nat} {cap:Nat} {w0 w:World} {H:List Blk} (hm:Mem w0 w H) (hi:In (.own A 48 9 L.length cap (L.flatMap aL)) H) (hk:M.length≤L.length) (ht:(L.flatMap aL).take (M.length*9)=M.flatMap aL) {mv:Value} (hM:Reads w mv M.length (M.flatMap aL)):ax Tryz.prog 15 [sl A M.length cap,mv] w (.bool true):=
 BF rfl (ht ▸ Reads.of_own_take hm hi hk) hM
set_option maxHeartbeats 16000000 in
theorem yM (b:Bk) (x:Bv) (o:Ox) (L:List Rf) (v:Value) (w:World) (h:BRd w b x) (hv:Reads w v L.length (L.flatMap cu)) (hW:Words w) (hs1:jf b=true) (hb0:bkE b=0) (hin: ¬ 300<o.input.size) (hL20: ¬ 20<L.length) (hst:b.step≠1099511627776) (hcs:dh o.kind=false∧(apE b o).2.1=(apE b o).2.1):ax Tryz.prog 6 [.agg (aW b x).toArray,.agg (bu o).toArray,v] w (.bool true):=by
 obtain ⟨Av,cv,rfl,hv1,hv2,hv3⟩:=hv
 refine aq Tryz.func6 rfl Tryz.ntmps6 rfl ?_
 have hS1:=fun (w' :World) (H:List Blk) (hm:Mem w w' H)=>jY b x w' (h.of_w0 hm)
 have haw:=fun (w' :World) (H:List Blk) (hm:Mem w w' H)=>jX w' (hW.next hm)
 rw [hs1] at hS1
 have hsb:=jC hs1
 have hm1:=mR hs1
 have hC1:=fun (w' :World) (H:List Blk) (hm:Mem w w' H)=>fT b x w' (h.of_w0 hm) hm1.e
 rw [hb0] at hC1
 have hbs:=(dz.1 hb0).s
 have hA:=fun (w' :World) (H:List Blk) (hm:Mem w w' H)=>lJ b x o w' (h.of_w0 hm) (hW.next hm) hm1
 have hap:=(Bu (o:=o) (dz.1 hb0) hst).2
 have hR:=nY (o:=o) (dz.1 hb0) hst
 have hPl:=yC (b:=b) (o:=o)
 have hacl:=kY (dz.1 hb0).r
 rw [hap] at hA
 generalize (apE b o).2.1=cd at hA hR hcs
 generalize (apE b o).2.2.1=pl at hA
 generalize (apE b o).1=P at hA hR hPl
 have hP0:=dz.2 hR.ok
 have hPst:=hR.step
 have hPus:=hR.users
 have hPacl:=kY hR.ok.r
 have hK:=fun (a:Bo) (w' :World) (H:List Blk) (hm:Mem w w' H) (hrd:BRd w' P a.v)=>iF P a.v w' hrd (hW.next hm) (by omega)
 rw [hP0] at hK
 repeat' (first
  |((with_reducible apply dA (d:=3));exact rfl;exact rfl;intro g3)
  |((with_reducible apply dA (d:=4));exact rfl;exact rfl;intro g4)
  |((with_reducible apply dH (d:=7));exact rfl;intro g7)
  |((with_reducible apply aa (d:=29));exact rfl;exact rfl;(intro w' hm;exact hS1 w' _ hm))
  |((with_reducible apply aa (d:=33));exact rfl;exact rfl;(intro w' hm;exact hC1 w' _ hm))
  |((with_reducible apply aG (d:=50));exact rfl;exact rfl;(intro w' hm;exact hA w' _ hm);rintro _ _ ⟨a2,rfl,rfl⟩;unfold bz)
  |((with_reducible apply aa (d:=73));exact rfl;exact rfl;(intro w' hm;exact hK a2 w' _ hm (BRd.of_rows hm (by (repeat first|exact .hd|apply Sel.tl|apply In.tl)) (by (repeat first|exact .hd|apply Sel.tl|apply In.tl)) (by (repeat first|exact .hd|apply Sel.tl|apply In.tl)) (by (repeat first|exact .hd|apply Sel.tl|apply In.tl)) (by (repeat first|exact .hd|apply Sel.tl|apply In.tl)))))
  |((with_reducible apply ak (d:=81));exact rfl;(with_reducible apply dw);exact rfl;exact rfl;exact ⟨by omega,by omega⟩)
  |((with_reducible apply aa (d:=96));exact rfl;exact rfl;(intro w' hm;exact kB hR.rels (Reads.of_own (A:=a2.s) hm (by (repeat first|exact .hd|apply Sel.tl|apply In.tl))) (h.of_w0 hm).s))
  |(refine lM (id:=8) [2,3,4,7,8] rfl (fun y:Bool=> [(11,.bool y)]) (fun y=>y=dh o.kind) ?_ ?_)
  |((with_reducible apply bf (i:=true))<;>first|(apply KG;omega)|((repeat (first|exact Sub.nil _|refine Sub.cons rfl ?_));done)|((repeat (first|exact MSub.nil _|refine MSub.pick (by (repeat first|exact .hd|apply Sel.tl|apply In.tl)) ?_|exact MSub.refl _|refine MSub.drop .hd ?_));done))
  |((with_reducible apply bf (i:=decide (o.kind=9)))<;>first|(apply KH<;>omega)|((repeat (first|exact Sub.nil _|refine Sub.cons rfl ?_));done)|((repeat (first|exact MSub.nil _|refine MSub.pick (by (repeat first|exact .hd|apply Sel.tl|apply In.tl)) ?_|exact MSub.refl _|refine MSub.drop .hd ?_));done))
  |((with_reducible apply ak);exact rfl;(first|((with_reducible apply jd);exact rfl)|((with_reducible apply cA);exact rfl)|((with_reducible apply mz);exact rfl)|((with_reducible apply ij);exact rfl)|((with_reducible apply bM);exact rfl;(repeat first|exact .hd|apply Sel.tl|apply In.tl);exact rfl)|((with_reducible apply je);exact rfl;exact rfl)|((with_reducible apply ic);exact rfl;exact rfl)|((with_reducible apply cw);exact rfl;(repeat first|exact .hd|apply Sel.tl|apply In.tl);exact rfl)|((with_reducible apply cy);exact rfl;(repeat first|exact .hd|apply Sel.tl|apply In.tl);exact rfl;exact rfl)|((with_reducible apply f4);(iterate 3 exact rfl))|((with_reducible apply jZ);(iterate 3 exact rfl))))
  |((with_reducible apply iH);exact rfl;exact rfl)
  |((with_reducible apply fO);(iterate 4 exact rfl))
  |((with_reducible apply fN);(iterate 3 exact rfl))
  |((with_reducible apply dA);exact rfl;exact rfl;intro _)
  |((with_reducible apply iI);(iterate 3 exact rfl);intro _)
  |((with_reducible apply dH);exact rfl;intro _)
  |((with_reducible apply bY);exact rfl;exact rfl;(repeat first|exact .hd|apply Sel.tl|apply In.tl);(iterate 3 exact rfl))
  |((with_reducible apply dm);exact rfl;exact rfl;(repeat first|exact .hd|apply Sel.tl|apply In.tl);(iterate 4 exact rfl))
  |((with_reducible apply eE)<;>first|exact rfl|(intro hb;(replace hb:=Tidy.out hb;try (exfalso;omega))))
  |(with_reducible first|apply jJ|apply oG|apply oD|apply fP|apply oE|apply kG|apply kH|apply iL|apply oF|apply oH|apply oV|apply oU|apply oW|apply cut_r|apply cut_e|apply iJ|apply iK|apply scp_n|apply oJ|apply scp_e)
  |((with_reducible apply dq);exact rfl)
  |((with_reducible apply cM);exact rfl)
  |((with_reducible apply kI)<;>first|exact rfl|(intro hb;(replace hb:=Tidy.out hb;try (exfalso;omega))))
  |((with_reducible apply oT);exact rfl)
  |((with_reducible apply bf (i:=()))<;>first|exact trivial|((repeat (first|exact Sub.nil _|refine Sub.cons rfl ?_));done)|((repeat (first|exact MSub.nil _|refine MSub.pick (by (repeat first|exact .hd|apply Sel.tl|apply In.tl)) ?_|exact MSub.refl _|refine MSub.drop .hd ?_));done)))
 all_goals first|(exfalso;omega)|skip
 rintro _ rfl
 refine y5 (A:=a2.l) (by (repeat first|exact .hd|apply Sel.tl|apply In.tl)) fun _ hc1 hc2=> ?_
 obtain ⟨ev,hev1,hev2,hev3⟩:=hR.log
 have hll:b.log.length≤P.log.length:=by rw [hev3];split<;>simp
 have hcl:b.log.length≤a2.cl:=by omega
 have htk:(P.log.flatMap aL).take (b.log.length*9)=b.log.flatMap aL:=by
  rw [hev3]
  split
  ·
   rw [NR];exact QC (aI bw b.log)
  ·
   exact N9 (by rw [aI bw b.log];omega)
 have hmk0:=hcs.1
 have hlg: ¬ ((cd=0∨cd=5)∧dh o.kind=true):=fun e=>by rw [hmk0] at e;cases e.2
 rw [if_neg hlg] at hev3
 have hsm:=hR.same fun h=>hlg ⟨.inl h.1,h.2⟩
 have hln:P.log.length=b.log.length:=by rw [hev3]
 clear hev1 hev2 hev3
 obtain ⟨ae,ar,ag,al,as_,ce,cr,cg,cl,cs⟩:=a2
 dsimp only at hcl hc1 hc2
 have hmk:dh o.kind=false:=hmk0
 rw [hmk]
 have hcd:dh o.kind=false∨(cd≠0∧cd≠5):=by
  by_cases hm:dh o.kind=true
  ·
   exact .inr ⟨fun e=>hlg ⟨.inl e,hm⟩,fun e=>hlg ⟨.inr e,hm⟩⟩
  ·
   exact .inl (by simpa using hm)
 rw [hmk] at hcd
 repeat' (first
  |((refine dX (id:=12) [18] [] [.box g7 28 (aW P (Bo.v ⟨ae,ar,ag,al,as_,ce,cr,cg,cl,cs⟩)),.box g3 28 (aW b x)] (by kernel_rfl) (by kernel_rfl) (by kernel_rfl) (by (repeat (first|exact MSub.nil _|refine MSub.pick (by (repeat first|exact .hd|apply Sel.tl|apply In.tl)) ?_|exact MSub.refl _|refine MSub.drop .hd ?_))) ?_))
  |((with_reducible apply cC (d:=138));(iterate 3 exact rfl);(with_reducible apply dw);exact rfl;exact rfl;exact ⟨by omega,by omega⟩)
  |((with_reducible apply cC (d:=146));(iterate 3 exact rfl);(with_reducible apply mG (A:=al) (hi:=b.log.length));exact rfl;exact rfl;exact hcl)
  |((with_reducible apply pE (d:=149));(iterate 4 exact rfl);(intro w' hm;exact mo (A:=al) hm (by (repeat first|exact .hd|apply Sel.tl|apply In.tl)) hll htk (h.of_w0 hm).l))
  |((refine dX (id:=14) [] [] [.box g7 28 (aW P (Bo.v ⟨ae,ar,ag,al,as_,ce,cr,cg,cl,cs⟩)),.box g3 28 (aW b x)] (by kernel_rfl) (by kernel_rfl) (by kernel_rfl) (by (repeat (first|exact MSub.nil _|refine MSub.pick (by (repeat first|exact .hd|apply Sel.tl|apply In.tl)) ?_|exact MSub.refl _|refine MSub.drop .hd ?_))) ?_))
  |((with_reducible apply aa (d:=190));exact rfl;exact rfl;(intro w' hm;exact kE hsm.1 (Reads.of_own (A:=ae) hm (by (repeat first|exact .hd|apply Sel.tl|apply In.tl))) (h.of_w0 hm).e))
  |((with_reducible apply aa (d:=196));exact rfl;exact rfl;(intro w' hm;exact kC hsm.2.1 (Reads.of_own (A:=ar) hm (by (repeat first|exact .hd|apply Sel.tl|apply In.tl))) (h.of_w0 hm).r))
  |((with_reducible apply aa (d:=203));exact rfl;exact rfl;(intro w' hm;exact kD hsm.2.2 (Reads.of_own (A:=ag) hm (by (repeat first|exact .hd|apply Sel.tl|apply In.tl))) (h.of_w0 hm).g))
  |((with_reducible apply aa (d:=206));exact rfl;exact rfl;(intro w' hm;exact haw w' _ hm))
  |((with_reducible apply ak);exact rfl;(first|((with_reducible apply jd);exact rfl)|((with_reducible apply cA);exact rfl)|((with_reducible apply mz);exact rfl)|((with_reducible apply ij);exact rfl)|((with_reducible apply bM);exact rfl;(repeat first|exact .hd|apply Sel.tl|apply In.tl);exact rfl)|((with_reducible apply je);exact rfl;exact rfl)|((with_reducible apply ic);exact rfl;exact rfl)|((with_reducible apply cw);exact rfl;(repeat first|exact .hd|apply Sel.tl|apply In.tl);exact rfl)|((with_reducible apply cy);exact rfl;(repeat first|exact .hd|apply Sel.tl|apply In.tl);exact rfl;exact rfl)|((with_reducible apply f4);(iterate 3 exact rfl))|((with_reducible apply jZ);(iterate 3 exact rfl))))
  |((with_reducible apply iH);exact rfl;exact rfl)
  |((with_reducible apply fO);(iterate 4 exact rfl))
  |((with_reducible apply fN);(iterate 3 exact rfl))
  |((with_reducible apply dA);exact rfl;exact rfl;intro _)
  |((with_reducible apply iI);(iterate 3 exact rfl);intro _)
  |((with_reducible apply dH);exact rfl;intro _)
  |((with_reducible apply bY);exact rfl;exact rfl;(repeat first|exact .hd|apply Sel.tl|apply In.tl);(iterate 3 exact rfl))
  |((with_reducible apply dm);exact rfl;exact rfl;(repeat first|exact .hd|apply Sel.tl|apply In.tl);(iterate 4 exact rfl))
  |((with_reducible apply eE)<;>first|exact rfl|(intro hb;(replace hb:=Tidy.out hb;try (exfalso;omega))))
  |(with_reducible first|apply jJ|apply oG|apply oD|apply fP|apply oE|apply kG|apply kH|apply iL|apply oF|apply oH|apply oV|apply oU|apply oW|apply cut_r|apply cut_e|apply iJ|apply iK|apply scp_n|apply oJ|apply scp_e)
  |((with_reducible apply dq);exact rfl)
  |((with_reducible apply cM);exact rfl)
  |((with_reducible apply kI)<;>first|exact rfl|(intro hb;(replace hb:=Tidy.out hb;try (exfalso;omega))))
  |((with_reducible apply oT);exact rfl)
  |((with_reducible apply bf (i:=()))<;>first|exact trivial|((repeat (first|exact Sub.nil _|refine Sub.cons rfl ?_));done)|((repeat (first|exact MSub.nil _|refine MSub.pick (by (repeat first|exact .hd|apply Sel.tl|apply In.tl)) ?_|exact MSub.refl _|refine MSub.drop .hd ?_));done))
  |((with_reducible apply cC);(iterate 3 exact rfl);(first|((with_reducible apply jd);exact rfl)|((with_reducible apply cA);exact rfl)|((with_reducible apply mz);exact rfl)|((with_reducible apply ij);exact rfl)|((with_reducible apply bM);exact rfl;(repeat first|exact .hd|apply Sel.tl|apply In.tl);exact rfl)|((with_reducible apply je);exact rfl;exact rfl)|((with_reducible apply ic);exact rfl;exact rfl)|((with_reducible apply cw);exact rfl;(repeat first|exact .hd|apply Sel.tl|apply In.tl);exact rfl)|((with_reducible apply cy);exact rfl;(repeat first|exact .hd|apply Sel.tl|apply In.tl);exact rfl;exact rfl)|((with_reducible apply f4);(iterate 3 exact rfl))|((with_reducible apply jZ);(iterate 3 exact rfl))))
  |((with_reducible apply G0);(iterate 3 exact rfl))
  |((with_reducible apply wc_gno0);exact rfl)
  |((with_reducible apply MH);exact rfl;exact rfl)
  |((with_reducible apply MG);(iterate 4 exact rfl);(first|((with_reducible apply jd);exact rfl)|((with_reducible apply cA);exact rfl)|((with_reducible apply mz);exact rfl)|((with_reducible apply ij);exact rfl)|((with_reducible apply bM);exact rfl;(repeat first|exact .hd|apply Sel.tl|apply In.tl);exact rfl)|((with_reducible apply je);exact rfl;exact rfl)|((with_reducible apply ic);exact rfl;exact rfl)|((with_reducible apply cw);exact rfl;(repeat first|exact .hd|apply Sel.tl|apply In.tl);exact rfl)|((with_reducible apply cy);exact rfl;(repeat first|exact .hd|apply Sel.tl|apply In.tl);exact rfl;exact rfl)|((with_reducible apply f4);(iterate 3 exact rfl))|((with_reducible apply jZ);(iterate 3 exact rfl))))
  |((with_reducible apply v7)<;>first|exact rfl|(intro hb;(replace hb:=Tidy.out hb;try (exfalso;omega))))
  |(with_reducible apply GZ)
  |((with_reducible apply JG);(repeat (first|exact MSub.nil _|refine MSub.pick (by (repeat first|exact .hd|apply Sel.tl|apply In.tl)) ?_|exact MSub.refl _|refine MSub.drop .hd ?_))))
 all_goals first
  |(exfalso;omega)
  |(exfalso;rcases hcd with hcd|hcd;(cases hcd;done);omega)
  |(exfalso;simp_all;done)
  |(((with_reducible apply dF);exact .inl rfl;exact rfl;exact rfl;exact MSub.nil _);rfl)
  |trace_state
set_option maxHeartbeats 16000000 in
theorem yL (b:Bk) (x:Bv) (o:Ox) (L:List Rf) (v:Value) (w:World) (h:BRd w b x) (hv:Reads w v L.length (L.flatMap cu)) (hW:Words w) (hs1:jf b=true) (hb0:bkE b=0) (hin: ¬ 300<o.input.size) (hL20: ¬ 20<L.length) (hst:b.step≠1099511627776) (hcs:dh o.kind=true∧(apE b o).2.1≠0∧(apE b o).2.1≠5):ax Tryz.prog 6 [.agg (aW b x).toArray,.agg (bu o).toArray,v] w (.bool true):=by
 obtain ⟨Av,cv,rfl,hv1,hv2,hv3⟩:=hv
 refine aq Tryz.func6 rfl Tryz.ntmps6 rfl ?_
 have hS1:=fun (w' :World) (H:List Blk) (hm:Mem w w' H)=>jY b x w' (h.of_w0 hm)
 have haw:=fun (w' :World) (H:List Blk) (hm:Mem w w' H)=>jX w' (hW.next hm)
 rw [hs1] at hS1
 have hsb:=jC hs1
 have hm1:=mR hs1
 have hC1:=fun (w' :World) (H:List Blk) (hm:Mem w w' H)=>fT b x w' (h.of_w0 hm) hm1.e
 rw [hb0] at hC1
 have hbs:=(dz.1 hb0).s
 have hA:=fun (w' :World) (H:List Blk) (hm:Mem w w' H)=>lJ b x o w' (h.of_w0 hm) (hW.next hm) hm1
 have hap:=(Bu (o:=o) (dz.1 hb0) hst).2
 have hR:=nY (o:=o) (dz.1 hb0) hst
 have hPl:=yC (b:=b) (o:=o)
 have hacl:=kY (dz.1 hb0).r
 rw [hap] at hA
 generalize (apE b o).2.1=cd at hA hR hcs
 generalize (apE b o).2.2.1=pl at hA
 generalize (apE b o).1=P at hA hR hPl
 have hP0:=dz.2 hR.ok
 have hPst:=hR.step
 have hPus:=hR.users
 have hPacl:=kY hR.ok.r
 have hK:=fun (a:Bo) (w' :World) (H:List Blk) (hm:Mem w w' H) (hrd:BRd w' P a.v)=>iF P a.v w' hrd (hW.next hm) (by omega)
 rw [hP0] at hK
 repeat' (first
  |((with_reducible apply dA (d:=3));exact rfl;exact rfl;intro g3)
  |((with_reducible apply dA (d:=4));exact rfl;exact rfl;intro g4)
  |((with_reducible apply dH (d:=7));exact rfl;intro g7)
  |((with_reducible apply aa (d:=29));exact rfl;exact rfl;(intro w' hm;exact hS1 w' _ hm))
  |((with_reducible apply aa (d:=33));exact rfl;exact rfl;(intro w' hm;exact hC1 w' _ hm))
  |((with_reducible apply aG (d:=50));exact rfl;exact rfl;(intro w' hm;exact hA w' _ hm);rintro _ _ ⟨a2,rfl,rfl⟩;unfold bz)
  |((with_reducible apply aa (d:=73));exact rfl;exact rfl;(intro w' hm;exact hK a2 w' _ hm (BRd.of_rows hm (by (repeat first|exact .hd|apply Sel.tl|apply In.tl)) (by (repeat first|exact .hd|apply Sel.tl|apply In.tl)) (by (repeat first|exact .hd|apply Sel.tl|apply In.tl)) (by (repeat first|exact .hd|apply Sel.tl|apply In.tl)) (by (repeat first|exact .hd|apply Sel.tl|apply In.tl)))))
  |((with_reducible apply ak (d:=81));exact rfl;(with_reducible apply dw);exact rfl;exact rfl;exact ⟨by omega,by omega⟩)
  |((with_reducible apply aa (d:=96));exact rfl;exact rfl;(intro w' hm;exact kB hR.rels (Reads.of_own (A:=a2.s) hm (by (repeat first|exact .hd|apply Sel.tl|apply In.tl))) (h.of_w0 hm).s))
  |(refine lM (id:=8) [2,3,4,7,8] rfl (fun y:Bool=> [(11,.bool y)]) (fun y=>y=dh o.kind) ?_ ?_)
  |((with_reducible apply bf (i:=true))<;>first|(apply KG;omega)|((repeat (first|exact Sub.nil _|refine Sub.cons rfl ?_));done)|((repeat (first|exact MSub.nil _|refine MSub.pick (by (repeat first|exact .hd|apply Sel.tl|apply In.tl)) ?_|exact MSub.refl _|refine MSub.drop .hd ?_));done))
  |((with_reducible apply bf (i:=decide (o.kind=9)))<;>first|(apply KH<;>omega)|((repeat (first|exact Sub.nil _|refine Sub.cons rfl ?_));done)|((repeat (first|exact MSub.nil _|refine MSub.pick (by (repeat first|exact .hd|apply Sel.tl|apply In.tl)) ?_|exact MSub.refl _|refine MSub.drop .hd ?_));done))
  |((with_reducible apply ak);exact rfl;(first|((with_reducible apply jd);exact rfl)|((with_reducible apply cA);exact rfl)|((with_reducible apply mz);exact rfl)|((with_reducible apply ij);exact rfl)|((with_reducible apply bM);exact rfl;(repeat first|exact .hd|apply Sel.tl|apply In.tl);exact rfl)|((with_reducible apply je);exact rfl;exact rfl)|((with_reducible apply ic);exact rfl;exact rfl)|((with_reducible apply cw);exact rfl;(repeat first|exact .hd|apply Sel.tl|apply In.tl);exact rfl)|((with_reducible apply cy);exact rfl;(repeat first|exact .hd|apply Sel.tl|apply In.tl);exact rfl;exact rfl)|((with_reducible apply f4);(iterate 3 exact rfl))|((with_reducible apply jZ);(iterate 3 exact rfl))))
  |((with_reducible apply iH);exact rfl;exact rfl)
  |((with_reducible apply fO);(iterate 4 exact rfl))
  |((with_reducible apply fN);(iterate 3 exact rfl))
  |((with_reducible apply dA);exact rfl;exact rfl;intro _)
  |((with_reducible apply iI);(iterate 3 exact rfl);intro _)
  |((with_reducible apply dH);exact rfl;intro _)
  |((with_reducible apply bY);exact rfl;exact rfl;(repeat first|exact .hd|apply Sel.tl|apply In.tl);(iterate 3 exact rfl))
  |((with_reducible apply dm);exact rfl;exact rfl;(repeat first|exact .hd|apply Sel.tl|apply In.tl);(iterate 4 exact rfl))
  |((with_reducible apply eE)<;>first|exact rfl|(intro hb;(replace hb:=Tidy.out hb;try (exfalso;omega))))
  |(with_reducible first|apply jJ|apply oG|apply oD|apply fP|apply oE|apply kG|apply kH|apply iL|apply oF|apply oH|apply oV|apply oU|apply oW|apply cut_r|apply cut_e|apply iJ|apply iK|apply scp_n|apply oJ|apply scp_e)
  |((with_reducible apply dq);exact rfl)
  |((with_reducible apply cM);exact rfl)
  |((with_reducible apply kI)<;>first|exact rfl|(intro hb;(replace hb:=Tidy.out hb;try (exfalso;omega))))
  |((with_reducible apply oT);exact rfl)
  |((with_reducible apply bf (i:=()))<;>first|exact trivial|((repeat (first|exact Sub.nil _|refine Sub.cons rfl ?_));done)|((repeat (first|exact MSub.nil _|refine MSub.pick (by (repeat first|exact .hd|apply Sel.tl|apply In.tl)) ?_|exact MSub.refl _|refine MSub.drop .hd ?_));done)))
 all_goals first|(exfalso;omega)|skip
 rintro _ rfl
 refine y5 (A:=a2.l) (by (repeat first|exact .hd|apply Sel.tl|apply In.tl)) fun _ hc1 hc2=> ?_
 obtain ⟨ev,hev1,hev2,hev3⟩:=hR.log
 have hll:b.log.length≤P.log.length:=by rw [hev3];split<;>simp
 have hcl:b.log.length≤a2.cl:=by omega
 have htk:(P.log.flatMap aL).take (b.log.length*9)=b.log.flatMap aL:=by
  rw [hev3]
  split
  ·
   rw [NR];exact QC (aI bw b.log)
  ·
   exact N9 (by rw [aI bw b.log];omega)
 have hmk0:=hcs.1
 have hlg: ¬ ((cd=0∨cd=5)∧dh o.kind=true):=fun e=>e.1.elim hcs.2.1 hcs.2.2
 rw [if_neg hlg] at hev3
 have hsm:=hR.same fun h=>hlg ⟨.inl h.1,h.2⟩
 have hln:P.log.length=b.log.length:=by rw [hev3]
 clear hev1 hev2 hev3
 obtain ⟨ae,ar,ag,al,as_,ce,cr,cg,cl,cs⟩:=a2
 dsimp only at hcl hc1 hc2
 have hmk:dh o.kind=true:=hmk0
 rw [hmk]
 have hcd:dh o.kind=false∨(cd≠0∧cd≠5):=by
  by_cases hm:dh o.kind=true
  ·
   exact .inr ⟨fun e=>hlg ⟨.inl e,hm⟩,fun e=>hlg ⟨.inr e,hm⟩⟩
  ·
   exact .inl (by simpa using hm)
 rw [hmk] at hcd
 repeat' (first
  |((refine dX (id:=12) [18] [] [.box g7 28 (aW P (Bo.v ⟨ae,ar,ag,al,as_,ce,cr,cg,cl,cs⟩)),.box g3 28 (aW b x)] (by kernel_rfl) (by kernel_rfl) (by kernel_rfl) (by (repeat (first|exact MSub.nil _|refine MSub.pick (by (repeat first|exact .hd|apply Sel.tl|apply In.tl)) ?_|exact MSub.refl _|refine MSub.drop .hd ?_))) ?_))
  |((with_reducible apply cC (d:=138));(iterate 3 exact rfl);(with_reducible apply dw);exact rfl;exact rfl;exact ⟨by omega,by omega⟩)
  |((with_reducible apply cC (d:=146));(iterate 3 exact rfl);(with_reducible apply mG (A:=al) (hi:=b.log.length));exact rfl;exact rfl;exact hcl)
  |((with_reducible apply pE (d:=149));(iterate 4 exact rfl);(intro w' hm;exact mo (A:=al) hm (by (repeat first|exact .hd|apply Sel.tl|apply In.tl)) hll htk (h.of_w0 hm).l))
  |((refine dX (id:=14) [] [] [.box g7 28 (aW P (Bo.v ⟨ae,ar,ag,al,as_,ce,cr,cg,cl,cs⟩)),.box g3 28 (aW b x)] (by kernel_rfl) (by kernel_rfl) (by kernel_rfl) (by (repeat (first|exact MSub.nil _|refine MSub.pick (by (repeat first|exact .hd|apply Sel.tl|apply In.tl)) ?_|exact MSub.refl _|refine MSub.drop .hd ?_))) ?_))
  |((with_reducible apply aa (d:=190));exact rfl;exact rfl;(intro w' hm;exact kE hsm.1 (Reads.of_own (A:=ae) hm (by (repeat first|exact .hd|apply Sel.tl|apply In.tl))) (h.of_w0 hm).e))
  |((with_reducible apply aa (d:=196));exact rfl;exact rfl;(intro w' hm;exact kC hsm.2.1 (Reads.of_own (A:=ar) hm (by (repeat first|exact .hd|apply Sel.tl|apply In.tl))) (h.of_w0 hm).r))
  |((with_reducible apply aa (d:=203));exact rfl;exact rfl;(intro w' hm;exact kD hsm.2.2 (Reads.of_own (A:=ag) hm (by (repeat first|exact .hd|apply Sel.tl|apply In.tl))) (h.of_w0 hm).g))
  |((with_reducible apply aa (d:=206));exact rfl;exact rfl;(intro w' hm;exact haw w' _ hm))
  |((with_reducible apply ak);exact rfl;(first|((with_reducible apply jd);exact rfl)|((with_reducible apply cA);exact rfl)|((with_reducible apply mz);exact rfl)|((with_reducible apply ij);exact rfl)|((with_reducible apply bM);exact rfl;(repeat first|exact .hd|apply Sel.tl|apply In.tl);exact rfl)|((with_reducible apply je);exact rfl;exact rfl)|((with_reducible apply ic);exact rfl;exact rfl)|((with_reducible apply cw);exact rfl;(repeat first|exact .hd|apply Sel.tl|apply In.tl);exact rfl)|((with_reducible apply cy);exact rfl;(repeat first|exact .hd|apply Sel.tl|apply In.tl);exact rfl;exact rfl)|((with_reducible apply f4);(iterate 3 exact rfl))|((with_reducible apply jZ);(iterate 3 exact rfl))))
  |((with_reducible apply iH);exact rfl;exact rfl)
  |((with_reducible apply fO);(iterate 4 exact rfl))
  |((with_reducible apply fN);(iterate 3 exact rfl))
  |((with_reducible apply dA);exact rfl;exact rfl;intro _)
  |((with_reducible apply iI);(iterate 3 exact rfl);intro _)
  |((with_reducible apply dH);exact rfl;intro _)
  |((with_reducible apply bY);exact rfl;exact rfl;(repeat first|exact .hd|apply Sel.tl|apply In.tl);(iterate 3 exact rfl))
  |((with_reducible apply dm);exact rfl;exact rfl;(repeat first|exact .hd|apply Sel.tl|apply In.tl);(iterate 4 exact rfl))
  |((with_reducible apply eE)<;>first|exact rfl|(intro hb;(replace hb:=Tidy.out hb;try (exfalso;omega))))
  |(with_reducible first|apply jJ|apply oG|apply oD|apply fP|apply oE|apply kG|apply kH|apply iL|apply oF|apply oH|apply oV|apply oU|apply oW|apply cut_r|apply cut_e|apply iJ|apply iK|apply scp_n|apply oJ|apply scp_e)
  |((with_reducible apply dq);exact rfl)
  |((with_reducible apply cM);exact rfl)
  |((with_reducible apply kI)<;>first|exact rfl|(intro hb;(replace hb:=Tidy.out hb;try (exfalso;omega))))
  |((with_reducible apply oT);exact rfl)
  |((with_reducible apply bf (i:=()))<;>first|exact trivial|((repeat (first|exact Sub.nil _|refine Sub.cons rfl ?_));done)|((repeat (first|exact MSub.nil _|refine MSub.pick (by (repeat first|exact .hd|apply Sel.tl|apply In.tl)) ?_|exact MSub.refl _|refine MSub.drop .hd ?_));done))
  |((with_reducible apply cC);(iterate 3 exact rfl);(first|((with_reducible apply jd);exact rfl)|((with_reducible apply cA);exact rfl)|((with_reducible apply mz);exact rfl)|((with_reducible apply ij);exact rfl)|((with_reducible apply bM);exact rfl;(repeat first|exact .hd|apply Sel.tl|apply In.tl);exact rfl)|((with_reducible apply je);exact rfl;exact rfl)|((with_reducible apply ic);exact rfl;exact rfl)|((with_reducible apply cw);exact rfl;(repeat first|exact .hd|apply Sel.tl|apply In.tl);exact rfl)|((with_reducible apply cy);exact rfl;(repeat first|exact .hd|apply Sel.tl|apply In.tl);exact rfl;exact rfl)|((with_reducible apply f4);(iterate 3 exact rfl))|((with_reducible apply jZ);(iterate 3 exact rfl))))
  |((with_reducible apply G0);(iterate 3 exact rfl))
  |((with_reducible apply wc_gno0);exact rfl)
  |((with_reducible apply MH);exact rfl;exact rfl)
  |((with_reducible apply MG);(iterate 4 exact rfl);(first|((with_reducible apply jd);exact rfl)|((with_reducible apply cA);exact rfl)|((with_reducible apply mz);exact rfl)|((with_reducible apply ij);exact rfl)|((with_reducible apply bM);exact rfl;(repeat first|exact .hd|apply Sel.tl|apply In.tl);exact rfl)|((with_reducible apply je);exact rfl;exact rfl)|((with_reducible apply ic);exact rfl;exact rfl)|((with_reducible apply cw);exact rfl;(repeat first|exact .hd|apply Sel.tl|apply In.tl);exact rfl)|((with_reducible apply cy);exact rfl;(repeat first|exact .hd|apply Sel.tl|apply In.tl);exact rfl;exact rfl)|((with_reducible apply f4);(iterate 3 exact rfl))|((with_reducible apply jZ);(iterate 3 exact rfl))))
  |((with_reducible apply v7)<;>first|exact rfl|(intro hb;(replace hb:=Tidy.out hb;try (exfalso;omega))))
  |(with_reducible apply GZ)
  |((with_reducible apply JG);(repeat (first|exact MSub.nil _|refine MSub.pick (by (repeat first|exact .hd|apply Sel.tl|apply In.tl)) ?_|exact MSub.refl _|refine MSub.drop .hd ?_))))
 all_goals first
  |(exfalso;omega)
  |(exfalso;rcases hcd with hcd|hcd;(cases hcd;done);omega)
  |(exfalso;simp_all;done)
  |(((with_reducible apply dF);exact .inl rfl;exact rfl;exact rfl;exact MSub.nil _);rfl)
  |trace_state
set_option maxHeartbeats 16000000 in
theorem yK (b:Bk) (x:Bv) (o:Ox) (L:List Rf) (v:Value) (w:World) (h:BRd w b x) (hv:Reads w v L.length (L.flatMap cu)) (hW:Words w) (hs1:jf b=true) (hb0:bkE b=0) (hin: ¬ 300<o.input.size) (hL20: ¬ 20<L.length) (hst:b.step≠1099511627776) (hcs:dh o.kind=true∧(apE b o).2.1=5):ax Tryz.prog 6 [.agg (aW b x).toArray,.agg (bu o).toArray,v] w (.bool true):=by
 obtain ⟨Av,cv,rfl,hv1,hv2,hv3⟩:=hv
 refine aq Tryz.func6 rfl Tryz.ntmps6 rfl ?_
 have hS1:=fun (w' :World) (H:List Blk) (hm:Mem w w' H)=>jY b x w' (h.of_w0 hm)
 have haw:=fun (w' :World) (H:List Blk) (hm:Mem w w' H)=>jX w' (hW.next hm)
 rw [hs1] at hS1
 have hsb:=jC hs1
 have hm1:=mR hs1
 have hC1:=fun (w' :World) (H:List Blk) (hm:Mem w w' H)=>fT b x w' (h.of_w0 hm) hm1.e
 rw [hb0] at hC1
 have hbs:=(dz.1 hb0).s
 have hA:=fun (w' :World) (H:List Blk) (hm:Mem w w' H)=>lJ b x o w' (h.of_w0 hm) (hW.next hm) hm1
 have hap:=(Bu (o:=o) (dz.1 hb0) hst).2
 have hR:=nY (o:=o) (dz.1 hb0) hst
 have hPl:=yC (b:=b) (o:=o)
 have hacl:=kY (dz.1 hb0).r
 rw [hap] at hA
 generalize (apE b o).2.1=cd at hA hR hcs
 generalize (apE b o).2.2.1=pl at hA
 generalize (apE b o).1=P at hA hR hPl
 have hP0:=dz.2 hR.ok
 have hPst:=hR.step
 have hPus:=hR.users
 have hPacl:=kY hR.ok.r
 have hK:=fun (a:Bo) (w' :World) (H:List Blk) (hm:Mem w w' H) (hrd:BRd w' P a.v)=>iF P a.v w' hrd (hW.next hm) (by omega)
 rw [hP0] at hK
 repeat' (first
  |((with_reducible apply dA (d:=3));exact rfl;exact rfl;intro g3)
  |((with_reducible apply dA (d:=4));exact rfl;exact rfl;intro g4)
  |((with_reducible apply dH (d:=7));exact rfl;intro g7)
  |((with_reducible apply aa (d:=29));exact rfl;exact rfl;(intro w' hm;exact hS1 w' _ hm))
  |((with_reducible apply aa (d:=33));exact rfl;exact rfl;(intro w' hm;exact hC1 w' _ hm))
  |((with_reducible apply aG (d:=50));exact rfl;exact rfl;(intro w' hm;exact hA w' _ hm);rintro _ _ ⟨a2,rfl,rfl⟩;unfold bz)
  |((with_reducible apply aa (d:=73));exact rfl;exact rfl;(intro w' hm;exact hK a2 w' _ hm (BRd.of_rows hm (by (repeat first|exact .hd|apply Sel.tl|apply In.tl)) (by (repeat first|exact .hd|apply Sel.tl|apply In.tl)) (by (repeat first|exact .hd|apply Sel.tl|apply In.tl)) (by (repeat first|exact .hd|apply Sel.tl|apply In.tl)) (by (repeat first|exact .hd|apply Sel.tl|apply In.tl)))))
  |((with_reducible apply ak (d:=81));exact rfl;(with_reducible apply dw);exact rfl;exact rfl;exact ⟨by omega,by omega⟩)
  |((with_reducible apply aa (d:=96));exact rfl;exact rfl;(intro w' hm;exact kB hR.rels (Reads.of_own (A:=a2.s) hm (by (repeat first|exact .hd|apply Sel.tl|apply In.tl))) (h.of_w0 hm).s))
  |(refine lM (id:=8) [2,3,4,7,8] rfl (fun y:Bool=> [(11,.bool y)]) (fun y=>y=dh o.kind) ?_ ?_)
  |((with_reducible apply bf (i:=true))<;>first|(apply KG;omega)|((repeat (first|exact Sub.nil _|refine Sub.cons rfl ?_));done)|((repeat (first|exact MSub.nil _|refine MSub.pick (by (repeat first|exact .hd|apply Sel.tl|apply In.tl)) ?_|exact MSub.refl _|refine MSub.drop .hd ?_));done))
  |((with_reducible apply bf (i:=decide (o.kind=9)))<;>first|(apply KH<;>omega)|((repeat (first|exact Sub.nil _|refine Sub.cons rfl ?_));done)|((repeat (first|exact MSub.nil _|refine MSub.pick (by (repeat first|exact .hd|apply Sel.tl|apply In.tl)) ?_|exact MSub.refl _|refine MSub.drop .hd ?_));done))
  |((with_reducible apply ak);exact rfl;(first|((with_reducible apply jd);exact rfl)|((with_reducible apply cA);exact rfl)|((with_reducible apply mz);exact rfl)|((with_reducible apply ij);exact rfl)|((with_reducible apply bM);exact rfl;(repeat first|exact .hd|apply Sel.tl|apply In.tl);exact rfl)|((with_reducible apply je);exact rfl;exact rfl)|((with_reducible apply ic);exact rfl;exact rfl)|((with_reducible apply cw);exact rfl;(repeat first|exact .hd|apply Sel.tl|apply In.tl);exact rfl)|((with_reducible apply cy);exact rfl;(repeat first|exact .hd|apply Sel.tl|apply In.tl);exact rfl;exact rfl)|((with_reducible apply f4);(iterate 3 exact rfl))|((with_reducible apply jZ);(iterate 3 exact rfl))))
  |((with_reducible apply iH);exact rfl;exact rfl)
  |((with_reducible apply fO);(iterate 4 exact rfl))
  |((with_reducible apply fN);(iterate 3 exact rfl))
  |((with_reducible apply dA);exact rfl;exact rfl;intro _)
  |((with_reducible apply iI);(iterate 3 exact rfl);intro _)
  |((with_reducible apply dH);exact rfl;intro _)
  |((with_reducible apply bY);exact rfl;exact rfl;(repeat first|exact .hd|apply Sel.tl|apply In.tl);(iterate 3 exact rfl))
  |((with_reducible apply dm);exact rfl;exact rfl;(repeat first|exact .hd|apply Sel.tl|apply In.tl);(iterate 4 exact rfl))
  |((with_reducible apply eE)<;>first|exact rfl|(intro hb;(replace hb:=Tidy.out hb;try (exfalso;omega))))
  |(with_reducible first|apply jJ|apply oG|apply oD|apply fP|apply oE|apply kG|apply kH|apply iL|apply oF|apply oH|apply oV|apply oU|apply oW|apply cut_r|apply cut_e|apply iJ|apply iK|apply scp_n|apply oJ|apply scp_e)
  |((with_reducible apply dq);exact rfl)
  |((with_reducible apply cM);exact rfl)
  |((with_reducible apply kI)<;>first|exact rfl|(intro hb;(replace hb:=Tidy.out hb;try (exfalso;omega))))
  |((with_reducible apply oT);exact rfl)
  |((with_reducible apply bf (i:=()))<;>first|exact trivial|((repeat (first|exact Sub.nil _|refine Sub.cons rfl ?_));done)|((repeat (first|exact MSub.nil _|refine MSub.pick (by (repeat first|exact .hd|apply Sel.tl|apply In.tl)) ?_|exact MSub.refl _|refine MSub.drop .hd ?_));done)))
 all_goals first|(exfalso;omega)|skip
 rintro _ rfl
 refine y5 (A:=a2.l) (by (repeat first|exact .hd|apply Sel.tl|apply In.tl)) fun _ hc1 hc2=> ?_
 obtain ⟨ev,hev1,hev2,hev3⟩:=hR.log
 have hll:b.log.length≤P.log.length:=by rw [hev3];split<;>simp
 have hcl:b.log.length≤a2.cl:=by omega
 have htk:(P.log.flatMap aL).take (b.log.length*9)=b.log.flatMap aL:=by
  rw [hev3]
  split
  ·
   rw [NR];exact QC (aI bw b.log)
  ·
   exact N9 (by rw [aI bw b.log];omega)
 have hlg:(cd=0∨cd=5)∧dh o.kind=true:=⟨.inr hcs.2,hcs.1⟩
 rw [if_pos hlg] at hev3
 have hln:P.log.length=b.log.length+1:=by rw [hev3];simp
 have hget:P.log[b.log.length]? =some ev:=by rw [hev3];simp
 obtain ⟨hlt,hget⟩:=NV.1 hget
 have hdn:(P.log.flatMap aL)[0+b.log.length*9+7]? =some (.bool (decide (cd=0))):=by
  rw [N7,jG bw P.log _ 7 hlt (by decide),hget]
  show some (Value.bool ev.done)=_
  rw [hev1]
 have hsn:(P.log.flatMap aL)[0+b.log.length*9+0]? =some (.int .i64 b.step):=by
  rw [N7,jG bw P.log _ 0 hlt (by decide),hget]
  show some (Value.int .i64 ev.step)=_
  rw [hev2]
 clear hev1 hev2 hev3 hget
 obtain ⟨hcd,hmk⟩:=hlg
 rw [hmk]
 refine gx (A:=a2.l) (by (repeat first|exact .hd|apply Sel.tl|apply In.tl)) (by omega) fun gl hA2=> ?_
 obtain ⟨ae,ar,ag,al,as_,ce,cr,cg,cl,cs⟩:=a2
 subst hA2
 dsimp only at hcl hc1 hc2
 have hc5:cd=5:=hcs.2
 have hsm:=hR.same fun h=>by omega
 repeat' (first
  |((refine dX (id:=12) [18] [] [.box g7 28 (aW P (Bo.v ⟨ae,ar,ag,some gl,as_,ce,cr,cg,cl,cs⟩)),.box g3 28 (aW b x)] (by kernel_rfl) (by kernel_rfl) (by kernel_rfl) (by (repeat (first|exact MSub.nil _|refine MSub.pick (by (repeat first|exact .hd|apply Sel.tl|apply In.tl)) ?_|exact MSub.refl _|refine MSub.drop .hd ?_))) ?_))
  |((with_reducible apply cC (d:=138));(iterate 3 exact rfl);(with_reducible apply dw);exact rfl;exact rfl;exact ⟨by omega,by omega⟩)
  |((with_reducible apply cC (d:=146));(iterate 3 exact rfl);(with_reducible apply mG (A:=some gl) (hi:=b.log.length));exact rfl;exact rfl;exact hcl)
  |((with_reducible apply pE (d:=149));(iterate 4 exact rfl);(intro w' hm;exact mo (A:=some gl) hm (by (repeat first|exact .hd|apply Sel.tl|apply In.tl)) hll htk (h.of_w0 hm).l))
  |((refine dX (id:=14) [] [] [.box g7 28 (aW P (Bo.v ⟨ae,ar,ag,some gl,as_,ce,cr,cg,cl,cs⟩)),.box g3 28 (aW b x),.own (some gl) 48 9 P.log.length cl (P.log.flatMap aL)] (by kernel_rfl) (by kernel_rfl) (by kernel_rfl) (by (repeat (first|exact MSub.nil _|refine MSub.pick (by (repeat first|exact .hd|apply Sel.tl|apply In.tl)) ?_|exact MSub.refl _|refine MSub.drop .hd ?_))) ?_))
  |((with_reducible apply cC (d:=160));(iterate 3 exact rfl);(with_reducible apply aj (j:=b.log.length));exact rfl;exact rfl;exact hlt)
  |((with_reducible apply cC (d:=162));(iterate 3 exact rfl);(with_reducible apply bF);exact rfl;(repeat first|exact .hd|apply Sel.tl|apply In.tl);exact hdn)
  |((with_reducible apply cC (d:=165));(iterate 3 exact rfl);(with_reducible apply pH);exact rfl;exact rfl)
  |((with_reducible apply cC (d:=172));(iterate 3 exact rfl);(with_reducible apply aj (j:=b.log.length));exact rfl;exact rfl;exact hlt)
  |((with_reducible apply cC (d:=174));(iterate 3 exact rfl);(with_reducible apply bF);exact rfl;(repeat first|exact .hd|apply Sel.tl|apply In.tl);exact hsn)
  |((with_reducible apply aa (d:=190));exact rfl;exact rfl;(intro w' hm;exact kE hsm.1 (Reads.of_own (A:=ae) hm (by (repeat first|exact .hd|apply Sel.tl|apply In.tl))) (h.of_w0 hm).e))
  |((with_reducible apply aa (d:=196));exact rfl;exact rfl;(intro w' hm;exact kC hsm.2.1 (Reads.of_own (A:=ar) hm (by (repeat first|exact .hd|apply Sel.tl|apply In.tl))) (h.of_w0 hm).r))
  |((with_reducible apply aa (d:=203));exact rfl;exact rfl;(intro w' hm;exact kD hsm.2.2 (Reads.of_own (A:=ag) hm (by (repeat first|exact .hd|apply Sel.tl|apply In.tl))) (h.of_w0 hm).g))
  |((with_reducible apply aa (d:=206));exact rfl;exact rfl;(intro w' hm;exact haw w' _ hm))
  |((with_reducible apply ak);exact rfl;(first|((with_reducible apply jd);exact rfl)|((with_reducible apply cA);exact rfl)|((with_reducible apply mz);exact rfl)|((with_reducible apply ij);exact rfl)|((with_reducible apply bM);exact rfl;(repeat first|exact .hd|apply Sel.tl|apply In.tl);exact rfl)|((with_reducible apply je);exact rfl;exact rfl)|((with_reducible apply ic);exact rfl;exact rfl)|((with_reducible apply cw);exact rfl;(repeat first|exact .hd|apply Sel.tl|apply In.tl);exact rfl)|((with_reducible apply cy);exact rfl;(repeat first|exact .hd|apply Sel.tl|apply In.tl);exact rfl;exact rfl)|((with_reducible apply f4);(iterate 3 exact rfl))|((with_reducible apply jZ);(iterate 3 exact rfl))))
  |((with_reducible apply iH);exact rfl;exact rfl)
  |((with_reducible apply fO);(iterate 4 exact rfl))
  |((with_reducible apply fN);(iterate 3 exact rfl))
  |((with_reducible apply dA);exact rfl;exact rfl;intro _)
  |((with_reducible apply iI);(iterate 3 exact rfl);intro _)
  |((with_reducible apply dH);exact rfl;intro _)
  |((with_reducible apply bY);exact rfl;exact rfl;(repeat first|exact .hd|apply Sel.tl|apply In.tl);(iterate 3 exact rfl))
  |((with_reducible apply dm);exact rfl;exact rfl;(repeat first|exact .hd|apply Sel.tl|apply In.tl);(iterate 4 exact rfl))
  |((with_reducible apply eE)<;>first|exact rfl|(intro hb;(replace hb:=Tidy.out hb;try (exfalso;omega))))
  |(with_reducible first|apply jJ|apply oG|apply oD|apply fP|apply oE|apply kG|apply kH|apply iL|apply oF|apply oH|apply oV|apply oU|apply oW|apply cut_r|apply cut_e|apply iJ|apply iK|apply scp_n|apply oJ|apply scp_e)
  |((with_reducible apply dq);exact rfl)
  |((with_reducible apply cM);exact rfl)
  |((with_reducible apply kI)<;>first|exact rfl|(intro hb;(replace hb:=Tidy.out hb;try (exfalso;omega))))
  |((with_reducible apply oT);exact rfl)
  |((with_reducible apply bf (i:=()))<;>first|exact trivial|((repeat (first|exact Sub.nil _|refine Sub.cons rfl ?_));done)|((repeat (first|exact MSub.nil _|refine MSub.pick (by (repeat first|exact .hd|apply Sel.tl|apply In.tl)) ?_|exact MSub.refl _|refine MSub.drop .hd ?_));done))
  |((with_reducible apply cC);(iterate 3 exact rfl);(first|((with_reducible apply jd);exact rfl)|((with_reducible apply cA);exact rfl)|((with_reducible apply mz);exact rfl)|((with_reducible apply ij);exact rfl)|((with_reducible apply bM);exact rfl;(repeat first|exact .hd|apply Sel.tl|apply In.tl);exact rfl)|((with_reducible apply je);exact rfl;exact rfl)|((with_reducible apply ic);exact rfl;exact rfl)|((with_reducible apply cw);exact rfl;(repeat first|exact .hd|apply Sel.tl|apply In.tl);exact rfl)|((with_reducible apply cy);exact rfl;(repeat first|exact .hd|apply Sel.tl|apply In.tl);exact rfl;exact rfl)|((with_reducible apply f4);(iterate 3 exact rfl))|((with_reducible apply jZ);(iterate 3 exact rfl))))
  |((with_reducible apply G0);(iterate 3 exact rfl))
  |((with_reducible apply wc_gno0);exact rfl)
  |((with_reducible apply MH);exact rfl;exact rfl)
  |((with_reducible apply MG);(iterate 4 exact rfl);(first|((with_reducible apply jd);exact rfl)|((with_reducible apply cA);exact rfl)|((with_reducible apply mz);exact rfl)|((with_reducible apply ij);exact rfl)|((with_reducible apply bM);exact rfl;(repeat first|exact .hd|apply Sel.tl|apply In.tl);exact rfl)|((with_reducible apply je);exact rfl;exact rfl)|((with_reducible apply ic);exact rfl;exact rfl)|((with_reducible apply cw);exact rfl;(repeat first|exact .hd|apply Sel.tl|apply In.tl);exact rfl)|((with_reducible apply cy);exact rfl;(repeat first|exact .hd|apply Sel.tl|apply In.tl);exact rfl;exact rfl)|((with_reducible apply f4);(iterate 3 exact rfl))|((with_reducible apply jZ);(iterate 3 exact rfl))))
  |((with_reducible apply v7)<;>first|exact rfl|(intro hb;(replace hb:=Tidy.out hb;try (exfalso;omega))))
  |(with_reducible apply GZ)
  |((with_reducible apply JG);(repeat (first|exact MSub.nil _|refine MSub.pick (by (repeat first|exact .hd|apply Sel.tl|apply In.tl)) ?_|exact MSub.refl _|refine MSub.drop .hd ?_))))
 all_goals first|(exfalso;omega)|(((with_reducible apply dF);exact .inl rfl;exact rfl;exact rfl;exact MSub.nil _);rfl)|trace_state
end Go.SL
