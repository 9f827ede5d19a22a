/-
  Lemmas and walks, put together: C4 C5 C6 C7.
-/
import Derived.Test.YthefeclkaaocnaaGreatDoorKl15
set_option linter.unusedSimpArgs false
set_option linter.unusedVariables false
set_option maxRecDepth 20000
namespace Go.SL
open Go Go.Proofs
attribute [local irreducible] W WL WQ WG WA WX WLI WR WT VOp thn blk bS scp bq bF cj aS FnIn FnP
def Jh (F:Int→PS→Option Out) (fid:FuncId) (args:List Value):Prop:=
 ∀ (toks:List Tk) (A:Option Nat) (cap:Nat) (fin:Int) (g:Nat) (p:PS) (lv:Value) (B:Option Nat) (cb:Nat) (r:Out) (R:List Blk) (w0:World),toks.length≤cap→toks.length≤1000→At toks A cap p lv→F fin p=some r→
  FnP Tryz.prog fid (.pointer (some ⟨g,0,none⟩)::args) w0 (pB g lv A cap fin toks B cb p.out++R) (PR toks A cap fin g R r) (PD R r)
def Ce (c:Int) (fin:Int) (p:PS):Option Out:=if (hdT fin p.l).kind≠c then some (.error ((hdT fin p.l).at_,4)) else some (.ok (0,p.skip))
theorem vv (c:Int) (h0:c≠0):Jh (Ce c) 350 [.int .u8 c]:=by
  intro toks A cap fin g p lv B cb r R w0 hc hl hat hrun
  refine rU Tryz.func350 rfl Tryz.ntmps350 rfl ?_
  have hh:=fun w hm=>hat.head (fin:=fin) (g:=g) (B:=B) (cb:=cb) (out:=p.out) (H:=pB g lv A cap fin toks B cb p.out++R) (w0:=w0) (MSub.pick .hd (.pick .hd (.pick .hd (.nil _)))) w hm
  unfold Ce at hrun
  obtain ⟨t,ht⟩: ∃ t,hdT fin p.l=t:=⟨_,rfl⟩
  rw [ht] at hrun hh
  by_cases hk:t.kind≠c
  · rw [if_pos hk] at hrun
    cases hrun
    repeat' (first|(apply aa (f:=206);exact rfl;exact rfl;exact hh)|(refine bw (f:=207) rfl rfl (gY _ _ _ _ _ (fun _ _=>False)) ?_ ?_)|(exact fun _ _ h=>h.elim)|(rintro _ _ ⟨rfl,rfl⟩)|refine sT ?_|refine sP ?_|refine sM fun _=> ?_|(refine sC ?_ ?_<;>intro hb<;>try omega)|fail)
    all_goals first
      |(exfalso;omega)
      | (refine cE rfl ?_
         dsimp only [List.cons_append,List.nil_append,pB]
         exact mS)
  · rw [if_neg hk] at hrun
    cases hrun
    repeat' (first|(apply aa (f:=206);exact rfl;exact rfl;exact hh)|(apply aw (f:=292);exact rfl;exact rfl;exact hat.skip hc (c:=c) (by rw [ht];omega) h0 (MSub.pick pK (MSub.pick pK (MSub.pick pK (MSub.refl _))));rintro _ _ ⟨rfl,lv1,h1,rfl⟩)|refine sT ?_|refine sP ?_|refine sM fun _=> ?_|(refine sC ?_ ?_<;>intro hb<;>try omega)|fail)
    all_goals first
      |(exfalso;omega)
      | (refine dK (B' := B) (cb' := cb) (by first | exact .inr rfl | exact .inl rfl) rfl rfl (At1.at h1) ?_
         dsimp only [List.cons_append,List.nil_append,pB]
         exact mS)
theorem mZ (v:Vl):Jh (fun fin p=>if (hdT fin p.l).kind=0 then none else some (.ok (0,p.skip.put ⟨1,v,aL,0,0,0⟩))) 349 [.agg (cY v).toArray]:=by
 intro toks A cap fin g p lv B cb r R w0 hc hl hat hrun
 refine rU Tryz.func349 rfl Tryz.ntmps349 rfl ?_
 dsimp only at hrun
 by_cases hk:(hdT fin p.l).kind=0
 ·
  rw [if_pos hk] at hrun;cases hrun
 rw [if_neg hk] at hrun
 cases hrun
 repeat' (first|(apply aw (f:=292);exact rfl;exact rfl;exact hat.skip hc rfl hk (MSub.pick pK (MSub.pick pK (MSub.pick pK (MSub.refl _))));rintro _ _ ⟨rfl,lv1,h1,rfl⟩)|(apply aw (f:=293);exact rfl;exact rfl;exact FnIn.msub (jg ⟨1,v,aL,0,0,0⟩ _ _ _ _ _ _ _ _ _ (At.len hat hl) _ _) (MSub.pick pK (MSub.pick pK (MSub.pick pK (MSub.refl _))));rintro _ _ ⟨rfl,B3,cb3,rfl⟩)|refine sT ?_|refine sP ?_|refine sM fun _=> ?_|(refine sC ?_ ?_<;>intro hb<;>try omega)|fail)
 all_goals
  refine dK (p' :=p.skip.put ⟨1,v,aL,0,0,0⟩) (B' :=B3) (cb' :=cb3) (by first|exact .inr rfl|exact .inl rfl) rfl rfl (h1.put _) ?_
  dsimp only [List.cons_append,List.nil_append,pB]
  exact mS
theorem Bi (f:Nat) (ih:POK f (.level 1) 248 [.int .i64 1]):POK f (.level 1) 205 []:=by
 intro toks A cap fin g p lv B cb r R w0 hc hl hat hrun
 refine rU Tryz.func205 rfl Tryz.ntmps205 rfl ?_
 repeat' (first|(refine bw (f:=248) rfl rfl (FnP.msub (ih toks A cap fin g p _ B cb r _ w0 hc hl hat hrun) (MSub.pick pK (MSub.pick pK (MSub.pick pK (MSub.refl _))))) ?_ ?_)|(rintro _ _ ⟨rfl,n,p',lv',B',cb',rfl,h2,rfl⟩)|(rintro _ _ ⟨e,rfl,rfl,h3⟩)|refine sT ?_|refine sP ?_|refine sM fun _=> ?_|(refine sC ?_ ?_<;>intro hb<;>try omega)|fail)
 ·
  exact dK (by first|exact .inr rfl|exact .inl rfl) rfl rfl h2 (.refl _)
 ·
  exact cE rfl h3
def wG (f:Nat) (fn:Int) (n:Nat) (fin:Int) (p:PS):Option Out:=
 if (hdT fin p.l).kind≠6 then eZ (bB fin f (.level 1) p) fun _ p=>some (.ok (0,p))
 else if (iN fn n).1=false∨(iN fn n).2≠0 then some (.error ((hdT fin p.l).at_,4))
 else some (.ok (0,p.skip.put ⟨3,bE,(hdT fin p.l).rect,0,0,0⟩))
theorem xA {o:Option Out} {k k' :Nat→PS→Option Out}:eZ (eZ o k) k' =eZ o fun n p=>eZ (k n p) k' :=by
 match o with
 |none=>rfl
 |some (.ok (n,p))=>rfl
 |some (.error e)=>rfl
theorem wF (fin:Int) (f:Nat) (fn:Int) (n:Nat) (p:PS):bB fin (f+1) (.args fn n) p=eZ (wG f fn n fin p) fun _ p=>if (hdT fin p.l).kind=11 then bB fin f (.args fn (n+1)) p.skip else some (.ok (n+1,p)):=by
 rw [bB]
 unfold wG
 split
 ·
  rw [xA];rfl
 ·
  split<;>rfl
set_option maxHeartbeats 1000000 in
theorem zq (f:Nat) (fn:Int) (n:Nat) (ih:POK f (.level 1) 205 []):Jh (wG f fn n) 364 [.int .u8 fn,.int .i64 n]:=by
  intro toks A cap fin g p lv B cb r R w0 hc hl hat hrun
  refine rU Tryz.func364 rfl Tryz.ntmps364 rfl ?_
  have hh:=fun w hm=>hat.head (fin:=fin) (g:=g) (B:=B) (cb:=cb) (out:=p.out) (H:=pB g lv A cap fin toks B cb p.out++R) (w0:=w0) (MSub.pick .hd (.pick .hd (.pick .hd (.nil _)))) w hm
  unfold wG at hrun
  obtain ⟨t,ht⟩: ∃ t,hdT fin p.l=t:=⟨_,rfl⟩
  rw [ht] at hrun hh
  by_cases hk:t.kind≠6
  · rw [if_pos hk] at hrun
    obtain ⟨r1,hr1,hr2⟩:=bA hrun
    repeat' (first|(apply aa (f:=206);exact rfl;exact rfl;exact hh)|(refine bw (f:=205) rfl rfl (FnP.msub (ih toks A cap fin g p _ B cb r1 _ w0 hc hl hat hr1) (MSub.pick pK (MSub.pick pK (MSub.pick pK (MSub.refl _))))) ?_ ?_)|(rintro _ _ ⟨rfl,n,p',lv',B',cb',rfl,h2,rfl⟩)|(rintro _ _ ⟨e,rfl,rfl,h3⟩)|refine sT ?_|refine sP ?_|refine sM fun _=> ?_|(refine sC ?_ ?_<;>intro hb<;>try omega)|fail)
    · rcases hr2 with ⟨e,h,_⟩|⟨n1,p1,h,h5⟩
      · cases h
      · cases h
        cases h5
        refine dK (B' :=B') (cb' :=cb') (by first|exact .inr rfl|exact .inl rfl) rfl rfl h2 ?_
        simp only [LO,LD,LG,pB]
        exact mS
    · rcases hr2 with ⟨e',h,h5⟩|⟨n1,p1,h,h5⟩
      · cases h
        exact cE h5 (MSub.trans (.drop .hd (.refl _)) h3)
      · cases h
  · rw [if_neg hk] at hrun
    have hw:=fun w=>Cb fn n w
    obtain ⟨wb,we,hwe⟩: ∃ wb we,iN fn n=(wb,we):=⟨_,_,rfl⟩
    rw [hwe] at hrun hw
    by_cases hwk:wb=false∨we≠0
    · rw [if_pos hwk] at hrun
      cases hrun
      repeat' (first|(apply aa (f:=206);exact rfl;exact rfl;exact hh)|(apply aa (f:=328);exact rfl;exact rfl;(intro w' _;exact hw w'))|(refine bw (f:=207) rfl rfl (gY _ _ _ _ _ (fun _ _=>False)) ?_ ?_)|(exact fun _ _ h=>h.elim)|(rintro _ _ ⟨rfl,rfl⟩)|refine sT ?_|refine sP ?_|refine sM fun _=> ?_|(refine sC ?_ ?_<;>intro hb<;>try omega)|fail)
      all_goals first
        |(exfalso;simp_all<;>omega)
        |(exfalso;omega)
        | (refine cE rfl ?_
           simp only [LO,LD,LG,pB]
           exact mS)
    · rw [if_neg hwk] at hrun
      cases hrun
      repeat' (first|(apply aa (f:=206);exact rfl;exact rfl;exact hh)|(apply aa (f:=328);exact rfl;exact rfl;(intro w' _;exact hw w'))|(apply aw (f:=292);exact rfl;exact rfl;exact hat.skip hc (c:=6) (by rw [ht];omega) (by decide) (MSub.pick pK (MSub.pick pK (MSub.pick pK (MSub.refl _))));rintro _ _ ⟨rfl,lv1,h1,rfl⟩)|(apply aw (f:=293);exact rfl;exact rfl;exact FnIn.msub (jg ⟨3,bE,t.rect,0,0,0⟩ _ _ _ _ _ _ _ _ _ (At.len hat hl) _ _) (MSub.pick pK (MSub.pick pK (MSub.pick pK (MSub.refl _))));rintro _ _ ⟨rfl,B3,cb3,rfl⟩)|refine sT ?_|refine sP ?_|refine sM fun _=> ?_|(refine sC ?_ ?_<;>intro hb<;>try omega)|fail)
      all_goals first
        |(exfalso;simp_all<;>omega)
        |(exfalso;omega)
        | (refine dK (p' := p.skip.put ⟨3, bE, t.rect, 0, 0, 0⟩) (B' := B3) (cb' := cb3) (by first | exact .inr rfl | exact .inl rfl) rfl rfl (h1.put _) ?_
           simp only [LO,LD,LG,pB]
           exact mS)
instance:FldT Tryz.prog 295 0 5 0:=⟨_,_,Tryz.underlying295,rfl,rfl,rfl⟩
theorem pg {f:Nat} {fn:Int} {n:Nat} {fin:Int} {p p' :PS} {m:Nat} (h:wG f fn n fin p=some (.ok (m,p'))):p.out.length<p'.out.length:=by
 unfold wG at h
 split at h
 ·
  obtain ⟨m',q,h1,h2⟩:=bV h
  cases h2
  exact (jK _ _ _ _ _ _ h1).some trivial
 ·
  split at h
  ·
   cases h
  ·
   cases h
   simp [PS.put,PS.skip]
theorem si {fin:Int} {name:Tk} {fn:Int} {n:Nat} {p:PS} {x:Nd} (hx:p.out[p.out.length - 1]? =some x):da fin name fn n p=
  if (hdT fin p.l).kind≠10 then some (.error ((hdT fin p.l).at_,4))
  else if (n:Int)<(dW fn).1∨(dW fn).2.1<(n:Int) then some (.error (name.at_,11))
  else if 46≤fn∧x.kind≠2∧x.kind≠3 then some (.error (name.at_,4))
  else some (.ok (0,p.skip.put ⟨7,bE,aL,0,fn,n⟩)):=by
 have hx' :p.out.getLast? =some x:=by rw [N8];exact hx
 unfold da
 simp only [hx',ME,Option.some.injEq,decide_eq_true_eq,ne_eq,not_or]
theorem u4 {fn:Int} (h1:1≤fn) (h2:fn≤50):1≤(dW fn).1:=by
 unfold dW
 repeat' split
 all_goals first
  |decide
  |(rename_i h;simp [cO,h1,h2] at h)
theorem At.head' {toks:List Tk} {A:Option Nat} {cap:Nat} {fin:Int} {g:Nat} {p:PS} {lv:Value} (h:At toks A cap p lv) {u:Tk} (hu:hdT fin p.l=u) {B:Option Nat} {cb:Nat} {out:List Nd} {H:List Blk} {w0:World} (hH:MSub (pB g lv A cap fin toks B cb out) H) (w:World) (hm:Mem w0 w H):
  ay Tryz.prog 206 [.pointer (some ⟨g,0,none⟩)] w (.agg (aZ u).toArray):=hu ▸ At.head h hH w hm
open Classical in
noncomputable def wD (f:Nat) (t:Tk) (sA:Nat→Tk→Int→PS→Option Out) (fin:Int) (p:PS):Option Out:=if hdT fin p.l=t∧t.kind=7 then sA f t fin p else none
def sA (f:Nat) (t:Tk) (fin:Int) (p:PS):Option Out:=
 if (aV t.text).2≠0 then some (.error (t.at_,10))
 else
  let u:=hdT fin p.skip.l
  if u.kind≠9 then some (.error (u.at_,4))
  else if (hdT fin p.skip.skip.l).kind=10 then da fin t (aV t.text).1 0 p.skip.skip
  else eZ (bB fin f (.args (aV t.text).1 0) p.skip.skip) fun n p=>da fin t (aV t.text).1 n p
set_option maxHeartbeats 4000000 in
theorem Jd (f:Nat) (t:Tk) (ih: ∀ f' ≤f,POK f' (.level 1) 205 []):Jh (wD f t sA) 351 [.agg (aZ t).toArray]:=by
  intro toks A cap fin g p lv B cb r R w0 hc hl hat hrun
  refine rU Tryz.func351 rfl Tryz.ntmps351 rfl ?_
  unfold wD at hrun
  by_cases ht: ¬ (hdT fin p.l=t∧t.kind=7)
  · rw [if_neg ht] at hrun;cases hrun
  have ht:=Classical.not_not.1 ht
  rw [if_pos ht] at hrun
  obtain ⟨ht,ht7⟩:=ht
  have hF:=fun w=>zC t.text w
  unfold sA at hrun
  obtain ⟨fn,fe,hfe⟩: ∃ fn fe,aV t.text=(fn,fe):=⟨_,_,rfl⟩
  have hfn:fe=0→1≤fn∧fn≤50:=by
    intro h
    subst h
    have hb1:=gP cN t.text 0 (by omega)
    rw [gN] at hb1
    unfold aV at hfe
    split at hfe<;>cases hfe
    omega
  rw [hfe] at hrun hF
  dsimp only at hF
  by_cases h0:fe≠0
  · rw [if_pos h0] at hrun
    cases hrun
    repeat' (first|(apply aa (f:=363);exact rfl;exact rfl;(intro w' _;exact hF w'))|(refine bw (f:=207) rfl rfl (gY _ _ _ _ _ (fun _ _=>False)) ?_ ?_)|(exact fun _ _ h=>h.elim)|(rintro _ _ ⟨rfl,rfl⟩)|refine sT ?_|refine sP ?_|refine sM fun _=> ?_|(refine sC ?_ ?_<;>intro hb<;>try omega)|exact cT|fail)
    all_goals first
      |(exfalso;omega)
      | (refine cE rfl ?_
         simp only [LO,LD,LG,pB]
         exact mS)
  rw [if_neg h0] at hrun
  dsimp only at hrun
  obtain ⟨hfn1,hfn2⟩:=hfn (by omega)
  by_cases hw9:(hdT fin p.skip.l).kind≠9
  · rw [if_pos hw9] at hrun
    cases hrun
    repeat' (first|(apply aa (f:=363);exact rfl;exact rfl;(intro w' _;exact hF w'))|(apply aw (f:=292);exact rfl;exact rfl;exact hat.skip hc (c:=7) (by rw [ht];exact ht7) (by decide) (MSub.pick pK (MSub.pick pK (MSub.pick pK (MSub.refl _))));rintro _ _ ⟨rfl,lv1,h1,rfl⟩)|(refine bw (f:=350) rfl rfl (FnP.msub (vv 9 (by decide) toks A cap fin g p.skip lv1 B cb _ _ w0 hc hl (At1.at h1) (by unfold Ce;rw [if_pos hw9])) (MSub.pick pK (MSub.pick pK (MSub.pick pK (MSub.refl _))))) ?_ ?_)|(rintro _ _ ⟨rfl,n,p',lv',B',cb',h,h2,rfl⟩;cases h)|(rintro _ _ ⟨e,h,rfl,h3⟩;cases h)|refine sT ?_|refine sP ?_|refine sM fun _=> ?_|(refine sC ?_ ?_<;>intro hb<;>try omega)|exact cT|fail)
    all_goals first
      |(exfalso;omega)
      | (refine cE rfl (MSub.trans ?_ h3)
         simp only [LO,LD,LG,pB]
         exact mS)
  rw [if_neg hw9] at hrun
  repeat' (first|(apply aa (f:=363);exact rfl;exact rfl;(intro w' _;exact hF w'))|(apply aw (f:=292);exact rfl;exact rfl;exact hat.skip hc (c:=7) (by rw [ht];exact ht7) (by decide) (MSub.pick pK (MSub.pick pK (MSub.pick pK (MSub.refl _))));rintro _ _ ⟨rfl,lv1,h1,rfl⟩)|(refine bw (f:=350) rfl rfl (FnP.msub (vv 9 (by decide) toks A cap fin g p.skip lv1 B cb _ _ w0 hc hl (At1.at h1) (by unfold Ce;rw [if_neg hw9])) (MSub.pick pK (MSub.pick pK (MSub.pick pK (MSub.refl _))))) ?_ ?_)|(rintro _ _ ⟨rfl,n,p',lv',B',cb',h,h2,rfl⟩;cases h)|(rintro _ _ ⟨e,h,rfl,h3⟩;cases h)|(rename_i g3;refine Ch (id:=7) (ι:=Nat × PS × Value × Option Nat × Nat) [0,3,4] rfl (fun x=> [(6,.int .i64 (x.1:Int))]) (fun x=> .box g3 295 (aZ t)::(pB g x.2.2.1 A cap fin toks x.2.2.2.1 x.2.2.2.2 x.2.1.out++R)) (fun x=>x.1≤x.2.1.out.length∧At toks A cap x.2.1 x.2.2.1∧da fin t fn x.1 x.2.1=some r) ?_ ?_)|refine sT ?_|refine sP ?_|refine sM fun _=> ?_|(refine sC ?_ ?_<;>intro hb<;>try omega)|exact cT|fail)
  · obtain ⟨u,hu⟩: ∃ u,hdT fin p.skip.skip.l=u:=⟨_,rfl⟩
    rw [hu] at hrun
    by_cases h10:u.kind=10
    · rw [if_pos h10] at hrun
      repeat' (first|(apply ak;exact rfl;apply cJ;exact rfl;exact rfl)|(apply aa (f:=206);exact rfl;exact rfl;(intro w' hm';exact At.head' (B:=B') (cb:=cb') (out:=p.skip.skip.out) (g:=g) (fin:=fin) h2 hu (MSub.pick pK (MSub.pick pK (MSub.pick pK (MSub.nil _)))) w' hm'))|refine cu ((0,p.skip.skip,lv',B',cb')) ?_ sB mS|refine sT ?_|refine sP ?_|refine sM fun _=> ?_|(refine sC ?_ ?_<;>intro hb<;>try omega)|exact cT|fail)
      all_goals first|(exfalso;omega)|exact ⟨LS _,h2,hrun⟩
    · rw [if_neg h10] at hrun
      obtain ⟨r1,hr1,hr2⟩:=bA hrun
      repeat' (first|(apply ak;exact rfl;apply cJ;exact rfl;exact rfl)|(apply aa (f:=206);exact rfl;exact rfl;(intro w' hm';exact At.head' (B:=B') (cb:=cb') (out:=p.skip.skip.out) (g:=g) (fin:=fin) h2 hu (MSub.pick pK (MSub.pick pK (MSub.pick pK (MSub.nil _)))) w' hm'))|refine sT ?_|refine sP ?_|refine sM fun _=> ?_|(refine sC ?_ ?_<;>intro hb<;>try omega)|exact cT|fail)
      all_goals first
        |(exfalso;omega)
        |skip
      refine ax [0,3,4] rfl (fun x:Nat × Nat × PS × Value × Option Nat × Nat=> [(6,.int .i64 (x.2.1:Int))]) (fun x=> .box g3 295 (aZ t)::(pB g x.2.2.2.1 A cap fin toks x.2.2.2.2.1 x.2.2.2.2.2 x.2.2.1.out++R)) (fun x=>x.1≤f∧x.2.1≤x.2.2.1.out.length∧At toks A cap x.2.2.1 x.2.2.2.1∧bB fin x.1 (.args fn x.2.1) x.2.2.1=some r1) (fun x=>x.1) (f,0,p.skip.skip,lv',B',cb') ⟨LK _,LS _,h2,hr1⟩ sB ?_ ?_
      · simp only [LO,LD,LG,pB]
        exact mS
      rintro ⟨f',n',q,lq,Bq,cq⟩ ⟨hf',hn',hq1,hq2⟩
      dsimp only at hf' hn' hq1 hq2 ⊢
      cases f' with
      |zero=>cases hq2
      |succ f' =>
        rw [wF] at hq2
        have hn6:n' ≤1000000:=Ma hn' (At.len hq1 hl)
        obtain ⟨r2,hr3,hr4⟩:=bA hq2
        repeat' (first|(refine bw (f:=364) rfl rfl (FnP.msub (zq f' fn n' (ih f' (by omega)) toks A cap fin g q lq Bq cq r2 _ w0 hc hl hq1 hr3) (MSub.pick pK (MSub.pick pK (MSub.pick pK (MSub.refl _))))) ?_ ?_)|(rintro _ _ ⟨rfl,n2,q2,lv2,B2,cb2,rfl,h6,rfl⟩;obtain ⟨u2,hu2⟩: ∃ u,hdT fin q2.l=u:=⟨_,rfl⟩)|(rintro _ _ ⟨e,rfl,rfl,h3⟩)|(apply ak;exact rfl;apply cJ;exact rfl;exact rfl)|(apply aa (f:=206);exact rfl;exact rfl;(intro w' hm';exact At.head' (B:=B2) (cb:=cb2) (out:=q2.out) (g:=g) (fin:=fin) h6 hu2 (MSub.pick pK (MSub.pick pK (MSub.pick pK (MSub.nil _)))) w' hm'))|(apply aw (f:=292);exact rfl;exact rfl;exact h6.skip hc (c:=11) (by rw [hu2];omega) (by decide) (MSub.pick pK (MSub.pick pK (MSub.pick pK (MSub.refl _))));rintro _ _ ⟨rfl,lv3,h7,rfl⟩)|refine cu ((n' +1,q2,lv2,B2,cb2)) ?_ sB mS|refine sT ?_|refine sP ?_|refine sN ?_|refine sM fun _=> ?_|(refine sC ?_ ?_<;>intro hb<;>try omega)|exact cT|fail)
        · rcases hr4 with ⟨e,h,_⟩|⟨n3,p3,h,h7⟩
          · cases h
          · cases h
            rw [hu2,if_neg (by omega)] at h7
            rcases hr2 with ⟨e,h,_⟩|⟨n4,p4,h,h8⟩
            · rw [h] at h7;cases h7
            · rw [h] at h7
              cases h7
              have:=pg hr3
              exact ⟨by dsimp only;omega,h6,h8⟩
        · rcases hr4 with ⟨e,h,_⟩|⟨n3,p3,h,h7'⟩
          · cases h
          · cases h
            rw [hu2,if_pos (by omega)] at h7'
            have:=pg hr3
            refine ⟨(f',n' +1,q2.skip,lv3,B2,cb2),⟨by dsimp only;omega,by dsimp only [PS.skip];omega,At1.at h7,h7'⟩,Nat.lt_succ_self _,sB,sB,?_⟩
            simp only [LO,LD,LG,pB]
            exact mS
        · rcases hr4 with ⟨e',h,h7⟩|⟨n3,p3,h,h7⟩
          · cases h
            rcases hr2 with ⟨e4,h,h8⟩|⟨n4,p4,h,h8⟩
            · rw [h] at h7
              cases h7
              exact cE h8 (MSub.trans (.drop .hd (.refl _)) h3)
            · rw [h] at h7;cases h7
          · cases h
  · rintro ⟨n,q,lq,Bq,cq⟩ ⟨hn',hq1,hq2⟩
    dsimp only at hn' hq1 hq2 ⊢
    obtain ⟨u,hu⟩: ∃ u,hdT fin q.l=u:=⟨_,rfl⟩
    have hap:=u4 hfn1 hfn2
    have hA:=fun w=>sK fn w
    obtain ⟨least,most,ae,hae⟩: ∃ a b c,dW fn=(a,b,c):=⟨_,_,_,rfl⟩
    rw [hae] at hA hap
    dsimp only at hA hap
    by_cases h10:u.kind≠10
    · simp only [da,hu,if_pos h10] at hq2
      cases hq2
      repeat' (first|(apply ak;exact rfl;apply cJ;exact rfl;exact rfl)|(apply aa (f:=206);exact rfl;exact rfl;(intro w' hm';exact At.head' (B:=Bq) (cb:=cq) (out:=q.out) (g:=g) (fin:=fin) hq1 hu (MSub.pick pK (MSub.pick pK (MSub.pick pK (MSub.nil _)))) w' hm'))|(refine bw (f:=207) rfl rfl (gY _ _ _ _ _ (fun _ _=>False)) ?_ ?_)|(exact fun _ _ h=>h.elim)|(rintro _ _ ⟨rfl,rfl⟩)|refine sT ?_|refine sP ?_|refine sM fun _=> ?_|(refine sC ?_ ?_<;>intro hb<;>try omega)|exact cT|fail)
      all_goals first
        |(exfalso;omega)
        | (refine cE rfl ?_
           simp only [LO,LD,LG,pB]
           exact mS)
    by_cases hlm:(n:Int)<least∨most<(n:Int)
    · simp only [da,hu,if_neg h10,hae,if_pos hlm] at hq2
      cases hq2
      repeat' (first|(apply ak;exact rfl;apply cJ;exact rfl;exact rfl)|(apply aa (f:=206);exact rfl;exact rfl;(intro w' hm';exact At.head' (B:=Bq) (cb:=cq) (out:=q.out) (g:=g) (fin:=fin) hq1 hu (MSub.pick pK (MSub.pick pK (MSub.pick pK (MSub.nil _)))) w' hm'))|(apply aa (f:=327);exact rfl;exact rfl;(intro w' _;exact hA w'))|(refine bw (f:=207) rfl rfl (gY _ _ _ _ _ (fun _ _=>False)) ?_ ?_)|(exact fun _ _ h=>h.elim)|(rintro _ _ ⟨rfl,rfl⟩)|refine sT ?_|refine sP ?_|refine sM fun _=> ?_|(refine sC ?_ ?_<;>intro hb<;>try omega)|exact cT|fail)
      all_goals first
        |(exfalso;omega)
        | (refine cE rfl ?_
           simp only [LO,LD,LG,pB]
           exact mS)
    have hpos:0<q.out.length:=by omega
    have hol:q.out.length≤1000000:=At.len hq1 hl
    obtain ⟨x,hx⟩: ∃ x,q.out[q.out.length - 1]? =some x:=⟨_,LF (by omega)⟩
    rw [si hx,hu,hae,if_neg h10] at hq2
    dsimp only at hq2
    rw [if_neg hlm] at hq2
    refine dP (A:=Bq) (by simp only [LO,LD,LG,pB];exact pK) hpos fun gb hB=> ?_
    subst hB
    by_cases hkx:46≤fn∧x.kind≠2∧x.kind≠3
    · rw [if_pos hkx] at hq2
      cases hq2
      repeat' (first|(apply ak;exact rfl;apply cJ;exact rfl;exact rfl)|(apply aa (f:=206);exact rfl;exact rfl;(intro w' hm';exact At.head' (B:=some gb) (cb:=cq) (out:=q.out) (g:=g) (fin:=fin) hq1 hu (MSub.pick pK (MSub.pick pK (MSub.pick pK (MSub.nil _)))) w' hm'))|(apply aa (f:=327);exact rfl;exact rfl;(intro w' _;exact hA w'))|(apply aK;exact rfl;apply du;exact rfl;exact rfl;exact hpos;(simp only [maxLen];omega))|(apply aK;exact rfl;apply aj;exact rfl;exact rfl;omega)|(apply aK;exact rfl;apply iZ (k:=0);exact fp;exact rfl;exact pK;decide;exact hx;exact rfl)|(refine bw (f:=207) rfl rfl (gY _ _ _ _ _ (fun _ _=>False)) ?_ ?_)|(exact fun _ _ h=>h.elim)|(rintro _ _ ⟨rfl,rfl⟩)|refine sT ?_|refine sP ?_|refine sQ ?_|refine sN ?_|refine sNQ ?_|refine sD ?_|refine sM fun _=> ?_|(refine sC ?_ ?_<;>intro hb<;>try omega)|(refine sCQ ?_ ?_<;>intro hb<;>try omega)|exact cT|fail)
      all_goals first
        |(exfalso;omega)
        | (refine cE rfl ?_
           simp only [LO,LD,LG,pB]
           exact mS)
    · rw [if_neg hkx] at hq2
      cases hq2
      repeat' (first|(apply ak;exact rfl;apply cJ;exact rfl;exact rfl)|(apply aa (f:=206);exact rfl;exact rfl;(intro w' hm';exact At.head' (B:=some gb) (cb:=cq) (out:=q.out) (g:=g) (fin:=fin) hq1 hu (MSub.pick pK (MSub.pick pK (MSub.pick pK (MSub.nil _)))) w' hm'))|(apply aa (f:=327);exact rfl;exact rfl;(intro w' _;exact hA w'))|(apply aK;exact rfl;apply du;exact rfl;exact rfl;exact hpos;(simp only [maxLen];omega))|(apply aK;exact rfl;apply aj;exact rfl;exact rfl;omega)|(apply aK;exact rfl;apply iZ (k:=0);exact fp;exact rfl;exact pK;decide;exact hx;exact rfl)|(apply aw (f:=292);exact rfl;exact rfl;exact hq1.skip hc (c:=10) (by rw [hu];omega) (by decide) (MSub.pick pK (MSub.pick pK (MSub.pick pK (MSub.refl _))));rintro _ _ ⟨rfl,lv1,h1',rfl⟩)|(apply aw (f:=293);exact rfl;exact rfl;exact FnIn.msub (jg ⟨7,bE,aL,0,fn,n⟩ _ _ _ _ _ _ _ _ _ (At.len hq1 hl) _ _) (MSub.pick pK (MSub.pick pK (MSub.pick pK (MSub.refl _))));rintro _ _ ⟨rfl,B3,cb3,rfl⟩)|refine sT ?_|refine sP ?_|refine sQ ?_|refine sN ?_|refine sNQ ?_|refine sD ?_|refine sM fun _=> ?_|(refine sC ?_ ?_<;>intro hb<;>try omega)|(refine sCQ ?_ ?_<;>intro hb<;>try omega)|exact cT|fail)
      all_goals first
        |(exfalso;omega)
        | (refine dK (p' := q.skip.put ⟨7, bE, aL, 0, fn, n⟩) (B' := B3) (cb' := cb3) (by first | exact .inr rfl | exact .inl rfl) rfl rfl (h1'.put _) ?_
           simp only [LO,LD,LG,pB]
           exact mS)
theorem uA (fin:Int) (f:Nat) (p:PS) (h:(hdT fin p.l).kind=7):bB fin (f+1) .prim p=sA f (hdT fin p.l) fin p:=by
 rw [bB]
 dsimp only
 rw [if_neg (by omega),if_neg (by omega),if_neg (by omega),if_pos h]
 rfl
set_option maxHeartbeats 4000000 in
theorem AR (f:Nat) (ih: ∀ f' ≤f,POK f' (.level 1) 205 []):POK (f+1) .prim 335 []:=by
  intro toks A cap fin g p lv B cb r R w0 hc hl hat hrun
  refine rU Tryz.func335 rfl Tryz.ntmps335 rfl ?_
  obtain ⟨t,ht⟩: ∃ t,hdT fin p.l=t:=⟨_,rfl⟩
  have hh:=fun w hm=>At.head' (fin:=fin) (g:=g) (B:=B) (cb:=cb) (out:=p.out) (H:=pB g lv A cap fin toks B cb p.out++R) (w0:=w0) hat ht (MSub.pick .hd (.pick .hd (.pick .hd (.nil _)))) w hm
  by_cases h7:t.kind=7
  · rw [uA _ _ _ (by rw [ht];exact h7),ht] at hrun
    have hcl:=Jd f t ih toks A cap fin g p lv B cb r
    unfold wD at hcl
    rw [if_pos ⟨ht,h7⟩] at hcl
    repeat' (first|(apply aa (f:=206);exact rfl;exact rfl;exact hh)|(refine bw (f:=351) rfl rfl (FnP.msub (hcl _ w0 hc hl hat hrun) (MSub.pick pK (MSub.pick pK (MSub.pick pK (MSub.refl _))))) ?_ ?_)|(rintro _ _ ⟨rfl,n,p',lv',B',cb',rfl,h2,rfl⟩)|(rintro _ _ ⟨e,rfl,rfl,h3⟩)|refine sT ?_|refine sP ?_|refine sM fun _=> ?_|(refine sC ?_ ?_<;>intro hb<;>try omega)|fail)
    · refine dK (B' :=B') (cb' :=cb') (by first|exact .inr rfl|exact .inl rfl) rfl rfl h2 ?_
      simp only [LO,LD,LG,pB]
      exact mS
    · exact cE rfl (MSub.trans (.drop .hd (.refl _)) h3)
  rw [bB] at hrun
  dsimp only at hrun
  rw [ht] at hrun
  by_cases h14:1≤t.kind∧t.kind≤4
  · rw [if_pos h14] at hrun
    cases hrun
    rcases (by omega:t.kind=1∨t.kind=2∨t.kind=3∨t.kind=4) with hk|hk|hk|hk
    · repeat' (first|(apply aa (f:=206);exact rfl;exact rfl;exact hh)|(refine bw (f:=349) rfl rfl (FnP.msub (mZ ⟨1,t.num,av⟩ toks A cap fin g p _ B cb (.ok (0,p.skip.put (kA t))) _ w0 hc hl hat (by dsimp only;rw [if_neg (by rw [ht];omega)];simp [kA,hk])) (MSub.pick pK (MSub.pick pK (MSub.pick pK (MSub.refl _))))) ?_ ?_)|(rintro _ _ ⟨rfl,n,p',lv',B',cb',h,h2,rfl⟩)|(rintro _ _ ⟨e,h,rfl,h3⟩;cases h)|refine sT ?_|refine sP ?_|refine sM fun _=> ?_|(refine sC ?_ ?_<;>intro hb<;>try omega)|fail)
      all_goals first
        |(exfalso;omega)
        | (refine dK (B' := B') (cb' := cb') (by first | exact .inr rfl | exact .inl rfl) rfl h h2 ?_
           simp only [LO,LD,LG,pB]
           exact mS)
    · repeat' (first|(apply aa (f:=206);exact rfl;exact rfl;exact hh)|(refine bw (f:=349) rfl rfl (FnP.msub (mZ ⟨3,0,t.text⟩ toks A cap fin g p _ B cb (.ok (0,p.skip.put (kA t))) _ w0 hc hl hat (by dsimp only;rw [if_neg (by rw [ht];omega)];simp [kA,hk])) (MSub.pick pK (MSub.pick pK (MSub.pick pK (MSub.refl _))))) ?_ ?_)|(rintro _ _ ⟨rfl,n,p',lv',B',cb',h,h2,rfl⟩)|(rintro _ _ ⟨e,h,rfl,h3⟩;cases h)|refine sT ?_|refine sP ?_|refine sM fun _=> ?_|(refine sC ?_ ?_<;>intro hb<;>try omega)|fail)
      all_goals first
        |(exfalso;omega)
        | (refine dK (B' := B') (cb' := cb') (by first | exact .inr rfl | exact .inl rfl) rfl h h2 ?_
           simp only [LO,LD,LG,pB]
           exact mS)
    · repeat' (first|(apply aa (f:=206);exact rfl;exact rfl;exact hh)|(refine bw (f:=349) rfl rfl (FnP.msub (mZ ⟨2,t.num,av⟩ toks A cap fin g p _ B cb (.ok (0,p.skip.put (kA t))) _ w0 hc hl hat (by dsimp only;rw [if_neg (by rw [ht];omega)];simp [kA,hk])) (MSub.pick pK (MSub.pick pK (MSub.pick pK (MSub.refl _))))) ?_ ?_)|(rintro _ _ ⟨rfl,n,p',lv',B',cb',h,h2,rfl⟩)|(rintro _ _ ⟨e,h,rfl,h3⟩;cases h)|refine sT ?_|refine sP ?_|refine sM fun _=> ?_|(refine sC ?_ ?_<;>intro hb<;>try omega)|fail)
      all_goals first
        |(exfalso;omega)
        | (refine dK (B' := B') (cb' := cb') (by first | exact .inr rfl | exact .inl rfl) rfl h h2 ?_
           simp only [LO,LD,LG,pB]
           exact mS)
    · repeat' (first|(apply aa (f:=206);exact rfl;exact rfl;exact hh)|(refine bw (f:=349) rfl rfl (FnP.msub (mZ ⟨4,t.num,av⟩ toks A cap fin g p _ B cb (.ok (0,p.skip.put (kA t))) _ w0 hc hl hat (by dsimp only;rw [if_neg (by rw [ht];omega)];simp [kA,hk])) (MSub.pick pK (MSub.pick pK (MSub.pick pK (MSub.refl _))))) ?_ ?_)|(rintro _ _ ⟨rfl,n,p',lv',B',cb',h,h2,rfl⟩)|(rintro _ _ ⟨e,h,rfl,h3⟩;cases h)|refine sT ?_|refine sP ?_|refine sM fun _=> ?_|(refine sC ?_ ?_<;>intro hb<;>try omega)|fail)
      all_goals first
        |(exfalso;omega)
        | (refine dK (B' := B') (cb' := cb') (by first | exact .inr rfl | exact .inl rfl) rfl h h2 ?_
           simp only [LO,LD,LG,pB]
           exact mS)
  rw [if_neg h14] at hrun
  by_cases h5:t.kind=5
  · rw [if_pos h5] at hrun
    cases hrun
    repeat' (first|(apply aa (f:=206);exact rfl;exact rfl;exact hh)|(apply aw (f:=292);exact rfl;exact rfl;exact hat.skip hc (c:=5) (by rw [ht];exact h5) (by decide) (MSub.pick pK (MSub.pick pK (MSub.pick pK (MSub.refl _))));rintro _ _ ⟨rfl,lv1,h1,rfl⟩)|(apply aw (f:=293);exact rfl;exact rfl;exact FnIn.msub (jg ⟨2,bE,t.rect,0,0,0⟩ _ _ _ _ _ _ _ _ _ (At.len hat hl) _ _) (MSub.pick pK (MSub.pick pK (MSub.pick pK (MSub.refl _))));rintro _ _ ⟨rfl,B3,cb3,rfl⟩)|refine sT ?_|refine sP ?_|refine sM fun _=> ?_|(refine sC ?_ ?_<;>intro hb<;>try omega)|fail)
    all_goals first
      |(exfalso;omega)
      | (refine dK (p' := p.skip.put ⟨2, bE, t.rect, 0, 0, 0⟩) (B' := B3) (cb' := cb3) (by first | exact .inr rfl | exact .inl rfl) rfl rfl (h1.put _) ?_
         simp only [LO,LD,LG,pB]
         exact mS)
  rw [if_neg h5] at hrun
  by_cases h9:t.kind=9
  · rw [if_pos h9] at hrun
    obtain ⟨r1,hr1,hr2⟩:=bA hrun
    repeat' (first|(apply aa (f:=206);exact rfl;exact rfl;exact hh)|(apply aw (f:=292);exact rfl;exact rfl;exact hat.skip hc (c:=9) (by rw [ht];exact h9) (by decide) (MSub.pick pK (MSub.pick pK (MSub.pick pK (MSub.refl _))));rintro _ _ ⟨rfl,lv1,h1,rfl⟩)|(refine bw (f:=205) rfl rfl (FnP.msub (ih f (LK _) toks A cap fin g p.skip _ B cb r1 _ w0 hc hl (At1.at h1) hr1) (MSub.pick pK (MSub.pick pK (MSub.pick pK (MSub.refl _))))) ?_ ?_)|(rintro _ _ ⟨rfl,n,p',lv',B',cb',rfl,h2,rfl⟩)|(rintro _ _ ⟨e,rfl,rfl,h3⟩)|(rcases hr2 with ⟨e,h,_⟩|⟨n1,p1,h,hw⟩;cases h;cases h;refine bw (f:=350) rfl rfl (FnP.msub (vv 10 (by decide) toks A cap fin g p' _ B' cb' r _ w0 hc hl h2 hw) (MSub.pick pK (MSub.pick pK (MSub.pick pK (MSub.refl _))))) ?_ ?_)|refine sT ?_|refine sP ?_|refine sM fun _=> ?_|(refine sC ?_ ?_<;>intro hb<;>try omega)|fail)
    · refine dK (B' :=B') (cb' :=cb') (by first|exact .inr rfl|exact .inl rfl) rfl rfl h2 ?_
      simp only [LO,LD,LG,pB]
      exact mS
    · exact cE rfl (MSub.trans (.drop .hd (.refl _)) h3)
    · rcases hr2 with ⟨e',h,h5⟩|⟨n1,p1,h,h5⟩
      · cases h
        exact cE h5 (MSub.trans (.drop .hd (.refl _)) h3)
      · cases h
  rw [if_neg h9,if_neg h7] at hrun
  cases hrun
  repeat' (first|(apply aa (f:=206);exact rfl;exact rfl;exact hh)|(refine bw (f:=207) rfl rfl (gY _ _ _ _ _ (fun _ _=>False)) ?_ ?_)|(exact fun _ _ h=>h.elim)|(rintro _ _ ⟨rfl,rfl⟩)|refine sT ?_|refine sP ?_|refine sM fun _=> ?_|(refine sC ?_ ?_<;>intro hb<;>try omega)|fail)
  all_goals first
    |(exfalso;omega)
    | (refine cE rfl ?_
       simp only [LO,LD,LG,pB]
       exact mS)
theorem DR (f:Nat):(∀ k:Int,1≤k→k≤4→POK f (.level k) 248 [.int .i64 k])∧POK f .sign 289 []∧POK f .pct 316 []∧POK f .prim 335 []∧POK f (.level 1) 205 []:=by
 induction f using Nat.strongRecOn with
 |_ f ih=>
  cases f with
  |zero=>
   refine ⟨fun k _ _=> ?_,?_,?_,?_,?_⟩
   all_goals exact fun toks A cap fin g p lv B cb r R w0 hc hl hat h=>by cases h
  |succ f=>
   have hL: ∀ k:Int,1≤k→k≤4→POK (f+1) (.level k) 248 [.int .i64 k]:=fun k h1 h4=>
    F6 f k h1 h4 (fun h3 f' hf' =>(ih f' (by omega)).1 (k+1) (by omega) (by omega)) (fun f' hf' =>(ih f' (by omega)).2.1)
   refine ⟨hL,H8 f (ih f (by omega)).2.1 (ih f (by omega)).2.2.1,AV f (ih f (by omega)).2.2.2.1,AR f (fun f' hf' =>(ih f' (by omega)).2.2.2.2),Bi (f+1) (hL 1 (by omega) (by omega))⟩
end Go.SL
namespace Go.SL
open Go Go.Proofs
attribute [local irreducible] W WL WQ WG WA WX WLI WR WT VOp RW thn blk bS scp bq bF cj aS FnIn FnP
theorem CD (p2 p3 p4:Value) (w0:World) (H:List Blk):FnD Tryz.prog 204 [p2,p3,p4] .returning w0 H H:=by
 refine La Tryz.func204 rfl rfl Tryz.ntmps204 rfl rfl (.inl ⟨rfl,rfl⟩) ?_
 repeat' (first|(apply ak;exact rfl;apply HQ;exact rfl)|refine sT ?_|refine sM fun _=> ?_|(refine sC ?_ ?_<;>intro hb<;>try omega)|fail)
 all_goals exact ⟨by first|exact .inl rfl|exact .inr rfl,.refl _⟩
theorem CE (g2 g3 g4:Nat) (x2 x3 x4:Value) (e:Int × Int) (w0:World) (R:List Blk):
  FnD Tryz.prog 204 [.pointer (some ⟨g2,0,none⟩),.pointer (some ⟨g3,0,none⟩),.pointer (some ⟨g4,0,none⟩)] (.panicking (ij (wz e))) w0
   (.box g2 86 [x2]:: .box g3 3 [x3]:: .box g4 30 [x4]::R)
   (.box g2 86 [.slice none 0 0]:: .box g3 3 [.int .i64 e.1]:: .box g4 30 [.int .i64 e.2]::R):=by
 refine La Tryz.func204 rfl rfl Tryz.ntmps204 rfl rfl (.inr rfl) ?_
 repeat' (first|(apply ak;exact rfl;apply HP;exact rfl)|(apply ak;exact rfl;apply vE;exact rfl;exact rfl)|(rename_i g;refine w7 (id:=7) [⟨4,g2,86,x2,.slice none 0 0⟩,⟨5,g3,3,x3,.int .i64 e.1⟩,⟨6,g4,30,x4,.int .i64 e.2⟩] (.box g 290 [.int .i64 e.1,.int .i64 e.2]::R) (by kernel_rfl) (by kernel_rfl) rfl mS ?_)|(apply HE;exact rfl;exact rfl;(exact vC))|(refine lH [] [⟨5,g3,3,x3,.int .i64 e.1⟩,⟨6,g4,30,x4,.int .i64 e.2⟩] ⟨4,g2,86,x2,.slice none 0 0⟩ rfl rfl rfl rfl rfl rfl ?_)|(refine lH [⟨4,g2,86,x2,.slice none 0 0⟩] [⟨6,g4,30,x4,.int .i64 e.2⟩] ⟨5,g3,3,x3,.int .i64 e.1⟩ rfl rfl rfl rfl rfl rfl ?_)|(refine lH [⟨4,g2,86,x2,.slice none 0 0⟩,⟨5,g3,3,x3,.int .i64 e.1⟩] [] ⟨6,g4,30,x4,.int .i64 e.2⟩ rfl rfl rfl rfl rfl rfl ?_)|apply vq|refine sT ?_|refine sG ?_|refine sM fun _=> ?_|(refine sC ?_ ?_<;>intro hb<;>try omega)|fail)
 refine ⟨.inr rfl,?_⟩
 simp only [Mh,MX,BoxT.post,LD,LG]
 exact mS
def cP (x:List Tk × Int × Int) (fin:Int):List Nd × Int × Int:=
 if x.2.2≠0 then ([],x.2.1,x.2.2)
 else match bB fin (20*x.1.length+40) (.level 1) ⟨x.1,[]⟩ with
  |none=>([],0,0)
  |some (.error (a,e))=>([],a,e)
  |some (.ok (_,p))=>
   if (hdT fin p.l).kind≠0 then ([],(hdT fin p.l).at_,4)
   else if jB p.out≠0 then ([],0,jB p.out)
   else (p.out,0,0)
theorem xx {tk:List Int→Option (Tk × Nat)} {l:List Int} (f:Nat): ∀ (i:Nat) (r:List Tk),bf tk l f i= .ok r→r.length≤f:=by
 induction f with
 |zero=>intro i r h;simp only [bf,Except.ok.injEq] at h;subst h;exact LK _
 |succ f ih=>
  intro i r h
  simp only [bf] at h
  split at h
  ·
   cases h;exact LS _
  ·
   split at h
   ·
    exact NM (ih _ _ h)
   ·
    split at h
    ·
     cases h
    ·
     rename_i t n _
     cases hr:bf tk l f (i+n) with
     |error e=>rw [hr] at h;cases h
     |ok r' =>
      rw [hr] at h
      cases h
      exact Nat.succ_le_succ (ih _ _ hr)
theorem py (tk:List Int→Option (Tk × Nat)) (l:List Int):(bG tk l).1.length≤256:=by
 unfold bG
 split
 ·
  exact LS _
 ·
  split
  ·
   exact LS _
  ·
   split
   ·
    rename_i h
    have:=xx _ _ _ h
    dsimp only
    omega
   ·
    exact LS _
theorem At.start (toks:List Tk) (A:Option Nat) (cap:Nat):At toks A cap ⟨toks,[]⟩ (sl A toks.length cap):=
 ⟨0,LS _,rfl,LK _,A.map fun g=>⟨g,0,none⟩,by simp [sl],fun _=>by simp⟩
def Cu (A:Option Nat) (cap:Nat) (r:List Nd × Int × Int):Value:= .tuple #[sl A r.1.length cap,.int .i64 r.2.1,.int .i64 r.2.2]
set_option maxHeartbeats 4000000 in
theorem BO (a:ByteArray) (w:World) (hW:Words w) (r:List Nd × Int × Int) (hr:r=cP (bG dF (ap a)) (a.size:Int)):
  aS Tryz.prog 153 [.string a] w fun v H=> ∃ A cap,v=Cu A cap r∧H= [.own A 174 11 r.1.length cap (r.1.flatMap bY)]:=by
 refine IW Tryz.func153 rfl Tryz.ntmps153 rfl ?_
 have htl:=py dF (ap a)
 have hT:=fun w' (hm:Σ' H,Mem w w' H)=>EC a w' (hW.next hm.2)
 obtain ⟨⟨toks,at0,e0⟩,hx⟩: ∃ x,bG dF (ap a)=x:=⟨_,rfl⟩
 rw [hx] at hr htl
 simp only [hx,Cv] at hT
 dsimp only at htl
 refine um 174 11 ?_
 refine um 174 11 ?_
 refine Fw (fun e a w _ h=>GH h) ?_
 obtain ⟨r1,hr1,_⟩:=uq (a.size:Int) (20*toks.length+40) (.level 1) ⟨toks,[]⟩ ⟨by omega,by omega⟩ (by simp [Job.c])
 have hP: ∀ (A:Option Nat) (cap g:Nat) (R:List Blk),toks.length≤cap→FnP Tryz.prog 205 [.pointer (some ⟨g,0,none⟩)] w (pB g (sl A toks.length cap) A cap (a.size:Int) toks none 0 []++R) (PR toks A cap (a.size:Int) g R r1) (PD R r1):=fun A cap g R hc=>
  (DR (20*toks.length+40)).2.2.2.2 toks A cap (a.size:Int) g ⟨toks,[]⟩ (sl A toks.length cap) none 0 r1 R w hc (by omega) (At.start toks A cap) hr1
 obtain ⟨ff,hff⟩: ∃ ff,20*toks.length+40=ff:=⟨_,rfl⟩
 rw [hff] at hr1
 repeat' (first|(apply aG (f:=203);exact rfl;exact rfl;exact fun w' hm=>hT w' ⟨_,hm⟩;rintro _ _ ⟨A,cap,rfl,rfl⟩)|(rename_i g2 g3 g4;refine Fx (cs:= [_,_,_]) rfl rfl ?_)|(refine Fw (fun e a w _ h=>GH h) ?_)|(refine J3 (fun e a w h=>Ko h) ?_)|(rename_i g2 g3 g4;refine w7 (id:=3) [⟨2,g2,86,.slice none 0 0,.slice none 0 0⟩,⟨3,g3,3,.int .i64 at0,.int .i64 at0⟩,⟨4,g4,30,.int .i64 e0,.int .i64 e0⟩] [.own none 174 11 0 0 []] (by kernel_rfl) (by kernel_rfl) rfl mS ?_)|(refine lH [] [⟨3,g3,3,.int .i64 at0,.int .i64 at0⟩,⟨4,g4,30,.int .i64 e0,.int .i64 e0⟩] ⟨2,g2,86,.slice none 0 0,.slice none 0 0⟩ rfl rfl rfl rfl rfl rfl ?_)|(refine lH [⟨2,g2,86,.slice none 0 0,.slice none 0 0⟩] [⟨4,g4,30,.int .i64 e0,.int .i64 e0⟩] ⟨3,g3,3,.int .i64 at0,.int .i64 at0⟩ rfl rfl rfl rfl rfl rfl ?_)|(refine lH [⟨2,g2,86,.slice none 0 0,.slice none 0 0⟩,⟨3,g3,3,.int .i64 at0,.int .i64 at0⟩] [] ⟨4,g4,30,.int .i64 e0,.int .i64 e0⟩ rfl rfl rfl rfl rfl rfl ?_)|(refine Cd ⟨3,g3,3,.int .i64 at0,.int .i64 at0⟩ (.tail _ (.head _)) (f:=60) (j:=3) rfl (by decide+kernel) rfl rfl rfl ?_)|(refine Cd ⟨4,g4,30,.int .i64 e0,.int .i64 e0⟩ (.tail _ (.tail _ (.head _))) (f:=60) (j:=4) rfl (by decide+kernel) rfl rfl rfl ?_)|apply vq|(apply ak;exact rfl;apply j9;exact rfl)|(apply ak;exact rfl;apply qH;exact rfl)|(apply Dd (f:=205);exact rfl;exact rfl;infer_instance;exact rfl;rename_i gp;exact FnP.own (A:=A) pK (fun hcap=>FnP.msub (hP A cap _ _ hcap) (MSub.pick pK (MSub.pick pK (MSub.pick pK (MSub.refl _))))))|(rintro _ _ ⟨rfl,n,p',lv',B',cb',rfl,h2,rfl⟩;obtain ⟨u,hu⟩: ∃ u,hdT (a.size:Int) p'.l=u:=⟨_,rfl⟩)|(rintro _ _ ⟨e,rfl,rfl,h3⟩)|(apply aa (f:=206);exact rfl;exact rfl;(intro w' hm';exact At.head' (B:=B') (cb:=cb') (out:=p'.out) (fin:=(a.size:Int)) h2 hu (MSub.pick pK (MSub.pick pK (MSub.pick pK (MSub.nil _)))) w' hm'))|(apply aa (f:=180);exact rfl;exact rfl;(intro w' hm';exact Ho p'.out _ w' (Reads.of_own (A:=B') hm' pK)))|(refine bw (f:=207) rfl rfl (gY _ _ _ _ _ (fun _ _=>False)) ?_ ?_)|(exact fun _ _ h=>h.elim)|(rintro _ _ ⟨rfl,rfl⟩)|refine sT ?_|refine sP ?_|refine sG ?_|refine sM fun _=> ?_|(refine sC ?_ ?_<;>intro hb<;>try omega)|fail)
 ·
  have hr' :r=([],at0,e0):=by rw [hr];simp [cP,hb]
  subst hr'
  simp only [Mh,MX,BoxT.post,LD,LG]
  exact nu (.inl rfl) rfl rfl pK rfl pK rfl pK (H' := [.own none 174 11 0 0 []]) mS ⟨none,0,rfl,rfl⟩
 ·
  rename_i he0 gp _ u0 hu0 g1
  have hr' :r=([],u0.at_,4):=by rw [hr];simp [cP,hff,hr1,hu0,hb,Classical.not_not.1 he0]
  subst hr'
  refine ⟨_,.box g2 86 [.slice none 0 0]:: .box g3 3 [.int .i64 at0]:: .box g4 30 [.int .i64 e0]:: [.own none 174 11 0 0 []],_,rfl,?_,CE g2 g3 g4 _ _ _ (u0.at_,4) w _,nu (.inl rfl) rfl rfl pK rfl pK rfl pK (H' := [.own none 174 11 0 0 []]) mS ⟨none,0,rfl,rfl⟩⟩
  simp only [LO,LD,LG,pB]
  exact mS
 ·
  rename_i he0 gp _ g1 hb1
  have hr' :r=([],0,jB p'.out):=by rw [hr];simp [cP,hff,hr1,hu,Classical.not_not.1 hb1,hb,Classical.not_not.1 he0]
  subst hr'
  exact ⟨.returning,_,_,rfl,.refl _,CD _ _ _ _ _,nu (.inl rfl) rfl rfl pK rfl pK rfl pK (H' := [.own none 174 11 0 0 []]) mS ⟨none,0,rfl,rfl⟩⟩
 ·
  rename_i he0 gp _ g1 hb1
  have hr' :r=(p'.out,0,0):=by rw [hr];simp [cP,hff,hr1,hu,Classical.not_not.1 hb1,Classical.not_not.1 hb,Classical.not_not.1 he0]
  subst hr'
  exact ⟨.returning,_,_,rfl,.refl _,CD _ _ _ _ _,nu (.inl rfl) rfl rfl pK rfl pK rfl pK (H' := [.own B' 174 11 p'.out.length cb' (p'.out.flatMap bY)]) mS ⟨B',cb',rfl,rfl⟩⟩
 ·
  have hr' :r=([],e.1,e.2):=by rw [hr];simp [cP,hff,hr1,Classical.not_not.1 hb]
  subst hr'
  refine ⟨_,.box g2 86 [.slice none 0 0]:: .box g3 3 [.int .i64 at0]:: .box g4 30 [.int .i64 e0]:: [.own none 174 11 0 0 []],_,rfl,MSub.trans ?_ h3,CE g2 g3 g4 _ _ _ e w _,nu (.inl rfl) rfl rfl pK rfl pK rfl pK (H' := [.own none 174 11 0 0 []]) mS ⟨none,0,rfl,rfl⟩⟩
  exact mS
end Go.SL
