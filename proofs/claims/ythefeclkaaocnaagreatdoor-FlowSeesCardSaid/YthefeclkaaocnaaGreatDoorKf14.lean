/-
  Lemmas and walks, put together: C4 C5 C6 C7.
-/
import Derived.Test.YthefeclkaaocnaaGreatDoorKf13
set_option linter.unusedSimpArgs false
set_option linter.unusedVariables false
set_option maxRecDepth 20000
namespace Go.SL
open Go Go.Proofs
attribute [local irreducible] W WL WQ WG WA WX WLI WR WT VOp thn blk bF scp ba aZ bC FnAt FnIn FnP
def Qq (F:Int→PS→Option Out) (fid:FuncId) (args:List Value):Prop:=
 ∀ (toks:List Tk) (A:Option Nat) (cap:Nat) (fin:Int) (g:Nat) (p:PS) (lv:Value) (B:Option Nat) (cb:Nat) (r:Out) (R:List Blk) (w0:World),toks.length≤cap→toks.length≤1000→At toks A cap p lv→F fin p=some r→
  FnP Tryz.prog fid (.pointer (some ⟨g,0,none⟩)::args) w0 (pB g lv A cap fin toks B cb p.out++R) (PR toks A cap fin g R r) (PD R r)
def I3 (c:Int) (fin:Int) (p:PS):Option Out:=if (hdT fin p.l).kind≠c then some (.error ((hdT fin p.l).at_,4)) else some (.ok (0,p.skip))
theorem BA (c:Int) (h0:c≠0):Qq (I3 c) 350 [.int .u8 c]:=by
  intro toks A cap fin g p lv B cb r R w0 hc hl hat hrun
  refine yu Tryz.func350 rfl Tryz.ntmps350 rfl ?_
  have hh:=fun w hm=>hat.head (fin:=fin) (g:=g) (B:=B) (cb:=cb) (out:=p.out) (H:=pB g lv A cap fin toks B cb p.out++R) (w0:=w0) (MSub.pick .hd (.pick .hd (.pick .hd (.nil _)))) w hm
  unfold I3 at hrun
  obtain ⟨t,ht⟩: ∃ t,hdT fin p.l=t:=⟨_,rfl⟩
  rw [ht] at hrun hh
  by_cases hk:t.kind≠c
  · rw [if_pos hk] at hrun
    cases hrun
    repeat' (first|(apply aa (f:=206);exact rfl;exact rfl;exact hh)|(refine bW (f:=207) rfl rfl (jJ _ _ _ _ _ (fun _ _=>False)) ?_ ?_)|(exact fun _ _ h=>h.elim)|(rintro _ _ ⟨rfl,rfl⟩)|refine sT ?_|refine sP ?_|refine sM fun _=> ?_|(refine sC ?_ ?_<;>intro hb<;>try omega)|fail)
    all_goals first
      |(exfalso;omega)
      | (refine dl rfl ?_
         dsimp only [List.cons_append,List.nil_append,pB]
         exact mS)
  · rw [if_neg hk] at hrun
    cases hrun
    repeat' (first|(apply aa (f:=206);exact rfl;exact rfl;exact hh)|(apply au (f:=292);exact rfl;exact rfl;exact hat.skip hc (c:=c) (by rw [ht];omega) h0 (MSub.pick pK (MSub.pick pK (MSub.pick pK (MSub.refl _))));rintro _ _ ⟨rfl,lv1,h1,rfl⟩)|refine sT ?_|refine sP ?_|refine sM fun _=> ?_|(refine sC ?_ ?_<;>intro hb<;>try omega)|fail)
    all_goals first
      |(exfalso;omega)
      | (refine fE (B' := B) (cb' := cb) (by first | exact .inr rfl | exact .inl rfl) rfl rfl (At1.at h1) ?_
         dsimp only [List.cons_append,List.nil_append,pB]
         exact mS)
theorem rY (v:Vl):Qq (fun fin p=>if (hdT fin p.l).kind=0 then none else some (.ok (0,p.skip.put ⟨1,v,aS,0,0,0⟩))) 349 [.agg (dV v).toArray]:=by
 intro toks A cap fin g p lv B cb r R w0 hc hl hat hrun
 refine yu Tryz.func349 rfl Tryz.ntmps349 rfl ?_
 dsimp only at hrun
 by_cases hk:(hdT fin p.l).kind=0
 ·
  rw [if_pos hk] at hrun;cases hrun
 rw [if_neg hk] at hrun
 cases hrun
 repeat' (first|(apply au (f:=292);exact rfl;exact rfl;exact hat.skip hc rfl hk (MSub.pick pK (MSub.pick pK (MSub.pick pK (MSub.refl _))));rintro _ _ ⟨rfl,lv1,h1,rfl⟩)|(apply au (f:=293);exact rfl;exact rfl;exact FnIn.msub (lH ⟨1,v,aS,0,0,0⟩ _ _ _ _ _ _ _ _ _ (At.len hat hl) _ _) (MSub.pick pK (MSub.pick pK (MSub.pick pK (MSub.refl _))));rintro _ _ ⟨rfl,B3,cb3,rfl⟩)|refine sT ?_|refine sP ?_|refine sM fun _=> ?_|(refine sC ?_ ?_<;>intro hb<;>try omega)|fail)
 all_goals
  refine fE (p' :=p.skip.put ⟨1,v,aS,0,0,0⟩) (B' :=B3) (cb' :=cb3) (by first|exact .inr rfl|exact .inl rfl) rfl rfl (h1.put _) ?_
  dsimp only [List.cons_append,List.nil_append,pB]
  exact mS
theorem Io (f:Nat) (ih:POK f (.level 1) 248 [.int .i64 1]):POK f (.level 1) 205 []:=by
 intro toks A cap fin g p lv B cb r R w0 hc hl hat hrun
 refine yu Tryz.func205 rfl Tryz.ntmps205 rfl ?_
 repeat' (first|(refine bW (f:=248) rfl rfl (FnP.msub (ih toks A cap fin g p _ B cb r _ w0 hc hl hat hrun) (MSub.pick pK (MSub.pick pK (MSub.pick pK (MSub.refl _))))) ?_ ?_)|(rintro _ _ ⟨rfl,n,p',lv',B',cb',rfl,h2,rfl⟩)|(rintro _ _ ⟨e,rfl,rfl,h3⟩)|refine sT ?_|refine sP ?_|refine sM fun _=> ?_|(refine sC ?_ ?_<;>intro hb<;>try omega)|fail)
 ·
  exact fE (by first|exact .inr rfl|exact .inl rfl) rfl rfl h2 (.refl _)
 ·
  exact dl rfl h3
def CV (f:Nat) (fn:Int) (n:Nat) (fin:Int) (p:PS):Option Out:=
 if (hdT fin p.l).kind≠6 then gI (bL fin f (.level 1) p) fun _ p=>some (.ok (0,p))
 else if (kJ fn n).1=false∨(kJ fn n).2≠0 then some (.error ((hdT fin p.l).at_,4))
 else some (.ok (0,p.skip.put ⟨3,bV,(hdT fin p.l).rect,0,0,0⟩))
theorem DM {o:Option Out} {k k' :Nat→PS→Option Out}:gI (gI o k) k' =gI o fun n p=>gI (k n p) k' :=by
 match o with
 |none=>rfl
 |some (.ok (n,p))=>rfl
 |some (.error e)=>rfl
theorem CU (fin:Int) (f:Nat) (fn:Int) (n:Nat) (p:PS):bL fin (f+1) (.args fn n) p=gI (CV f fn n fin p) fun _ p=>if (hdT fin p.l).kind=11 then bL fin f (.args fn (n+1)) p.skip else some (.ok (n+1,p)):=by
 rw [bL]
 unfold CV
 split
 ·
  rw [DM];rfl
 ·
  split<;>rfl
set_option maxHeartbeats 1000000 in
theorem FO (f:Nat) (fn:Int) (n:Nat) (ih:POK f (.level 1) 205 []):Qq (CV f fn n) 364 [.int .u8 fn,.int .i64 n]:=by
  intro toks A cap fin g p lv B cb r R w0 hc hl hat hrun
  refine yu Tryz.func364 rfl Tryz.ntmps364 rfl ?_
  have hh:=fun w hm=>hat.head (fin:=fin) (g:=g) (B:=B) (cb:=cb) (out:=p.out) (H:=pB g lv A cap fin toks B cb p.out++R) (w0:=w0) (MSub.pick .hd (.pick .hd (.pick .hd (.nil _)))) w hm
  unfold CV at hrun
  obtain ⟨t,ht⟩: ∃ t,hdT fin p.l=t:=⟨_,rfl⟩
  rw [ht] at hrun hh
  by_cases hk:t.kind≠6
  · rw [if_pos hk] at hrun
    obtain ⟨r1,hr1,hr2⟩:=bU hrun
    repeat' (first|(apply aa (f:=206);exact rfl;exact rfl;exact hh)|(refine bW (f:=205) rfl rfl (FnP.msub (ih toks A cap fin g p _ B cb r1 _ w0 hc hl hat hr1) (MSub.pick pK (MSub.pick pK (MSub.pick pK (MSub.refl _))))) ?_ ?_)|(rintro _ _ ⟨rfl,n,p',lv',B',cb',rfl,h2,rfl⟩)|(rintro _ _ ⟨e,rfl,rfl,h3⟩)|refine sT ?_|refine sP ?_|refine sM fun _=> ?_|(refine sC ?_ ?_<;>intro hb<;>try omega)|fail)
    · rcases hr2 with ⟨e,h,_⟩|⟨n1,p1,h,h5⟩
      · cases h
      · cases h
        cases h5
        refine fE (B' :=B') (cb' :=cb') (by first|exact .inr rfl|exact .inl rfl) rfl rfl h2 ?_
        simp only [TT,TK,TL,pB]
        exact mS
    · rcases hr2 with ⟨e',h,h5⟩|⟨n1,p1,h,h5⟩
      · cases h
        exact dl h5 (MSub.trans (.drop .hd (.refl _)) h3)
      · cases h
  · rw [if_neg hk] at hrun
    have hw:=fun w=>I0 fn n w
    obtain ⟨wb,we,hwe⟩: ∃ wb we,kJ fn n=(wb,we):=⟨_,_,rfl⟩
    rw [hwe] at hrun hw
    by_cases hwk:wb=false∨we≠0
    · rw [if_pos hwk] at hrun
      cases hrun
      repeat' (first|(apply aa (f:=206);exact rfl;exact rfl;exact hh)|(apply aa (f:=328);exact rfl;exact rfl;(intro w' _;exact hw w'))|(refine bW (f:=207) rfl rfl (jJ _ _ _ _ _ (fun _ _=>False)) ?_ ?_)|(exact fun _ _ h=>h.elim)|(rintro _ _ ⟨rfl,rfl⟩)|refine sT ?_|refine sP ?_|refine sM fun _=> ?_|(refine sC ?_ ?_<;>intro hb<;>try omega)|fail)
      all_goals first
        |(exfalso;simp_all<;>omega)
        |(exfalso;omega)
        | (refine dl rfl ?_
           simp only [TT,TK,TL,pB]
           exact mS)
    · rw [if_neg hwk] at hrun
      cases hrun
      repeat' (first|(apply aa (f:=206);exact rfl;exact rfl;exact hh)|(apply aa (f:=328);exact rfl;exact rfl;(intro w' _;exact hw w'))|(apply au (f:=292);exact rfl;exact rfl;exact hat.skip hc (c:=6) (by rw [ht];omega) (by decide) (MSub.pick pK (MSub.pick pK (MSub.pick pK (MSub.refl _))));rintro _ _ ⟨rfl,lv1,h1,rfl⟩)|(apply au (f:=293);exact rfl;exact rfl;exact FnIn.msub (lH ⟨3,bV,t.rect,0,0,0⟩ _ _ _ _ _ _ _ _ _ (At.len hat hl) _ _) (MSub.pick pK (MSub.pick pK (MSub.pick pK (MSub.refl _))));rintro _ _ ⟨rfl,B3,cb3,rfl⟩)|refine sT ?_|refine sP ?_|refine sM fun _=> ?_|(refine sC ?_ ?_<;>intro hb<;>try omega)|fail)
      all_goals first
        |(exfalso;simp_all<;>omega)
        |(exfalso;omega)
        | (refine fE (p' := p.skip.put ⟨3, bV, t.rect, 0, 0, 0⟩) (B' := B3) (cb' := cb3) (by first | exact .inr rfl | exact .inl rfl) rfl rfl (h1.put _) ?_
           simp only [TT,TK,TL,pB]
           exact mS)
instance:FldT Tryz.prog 295 0 5 0:=⟨_,_,Tryz.underlying295,rfl,rfl,rfl⟩
theorem uQ {f:Nat} {fn:Int} {n:Nat} {fin:Int} {p p' :PS} {m:Nat} (h:CV f fn n fin p=some (.ok (m,p'))):p.out.length<p'.out.length:=by
 unfold CV at h
 split at h
 ·
  obtain ⟨m',q,h1,h2⟩:=cN h
  cases h2
  exact (kC _ _ _ _ _ _ h1).some trivial
 ·
  split at h
  ·
   cases h
  ·
   cases h
   simp [PS.put,PS.skip]
theorem yJ {fin:Int} {name:Tk} {fn:Int} {n:Nat} {p:PS} {x:Nd} (hx:p.out[p.out.length - 1]? =some x):dx fin name fn n p=
  if (hdT fin p.l).kind≠10 then some (.error ((hdT fin p.l).at_,4))
  else if (n:Int)<(fp fn).1∨(fp fn).2.1<(n:Int) then some (.error (name.at_,11))
  else if 46≤fn∧x.kind≠2∧x.kind≠3 then some (.error (name.at_,4))
  else some (.ok (0,p.skip.put ⟨7,bV,aS,0,fn,n⟩)):=by
 have hx' :p.out.getLast? =some x:=by rw [Ve];exact hx
 unfold dx
 simp only [hx',UH,Option.some.injEq,decide_eq_true_eq,ne_eq,not_or]
theorem Bj {fn:Int} (h1:1≤fn) (h2:fn≤50):1≤(fp fn).1:=by
 unfold fp
 repeat' split
 all_goals first
  |decide
  |(rename_i h;simp [cU,h1,h2] at h)
theorem At.head' {toks:List Tk} {A:Option Nat} {cap:Nat} {fin:Int} {g:Nat} {p:PS} {lv:Value} (h:At toks A cap p lv) {u:Tk} (hu:hdT fin p.l=u) {B:Option Nat} {cb:Nat} {out:List Nd} {H:List Blk} {w0:World} (hH:MSub (pB g lv A cap fin toks B cb out) H) (w:World) (hm:Mem w0 w H):
  aD Tryz.prog 206 [.pointer (some ⟨g,0,none⟩)] w (.agg (bw u).toArray):=hu ▸ At.head h hH w hm
open Classical in
noncomputable def CP (f:Nat) (t:Tk) (yS:Nat→Tk→Int→PS→Option Out) (fin:Int) (p:PS):Option Out:=if hdT fin p.l=t∧t.kind=7 then yS f t fin p else none
def yS (f:Nat) (t:Tk) (fin:Int) (p:PS):Option Out:=
 if (bk t.text).2≠0 then some (.error (t.at_,10))
 else
  let u:=hdT fin p.skip.l
  if u.kind≠9 then some (.error (u.at_,4))
  else if (hdT fin p.skip.skip.l).kind=10 then dx fin t (bk t.text).1 0 p.skip.skip
  else gI (bL fin f (.args (bk t.text).1 0) p.skip.skip) fun n p=>dx fin t (bk t.text).1 n p
set_option maxHeartbeats 4000000 in
theorem Qf (f:Nat) (t:Tk) (ih: ∀ f' ≤f,POK f' (.level 1) 205 []):Qq (CP f t yS) 351 [.agg (bw t).toArray]:=by
  intro toks A cap fin g p lv B cb r R w0 hc hl hat hrun
  refine yu Tryz.func351 rfl Tryz.ntmps351 rfl ?_
  unfold CP at hrun
  by_cases ht: ¬ (hdT fin p.l=t∧t.kind=7)
  · rw [if_neg ht] at hrun;cases hrun
  have ht:=Classical.not_not.1 ht
  rw [if_pos ht] at hrun
  obtain ⟨ht,ht7⟩:=ht
  have hF:=fun w=>FY t.text w
  unfold yS at hrun
  obtain ⟨fn,fe,hfe⟩: ∃ fn fe,bk t.text=(fn,fe):=⟨_,_,rfl⟩
  have hfn:fe=0→1≤fn∧fn≤50:=by
    intro h
    subst h
    have hb1:=jF dD t.text 0 (by omega)
    rw [jD] at hb1
    unfold bk at hfe
    split at hfe<;>cases hfe
    omega
  rw [hfe] at hrun hF
  dsimp only at hF
  by_cases h0:fe≠0
  · rw [if_pos h0] at hrun
    cases hrun
    repeat' (first|(apply aa (f:=363);exact rfl;exact rfl;(intro w' _;exact hF w'))|(refine bW (f:=207) rfl rfl (jJ _ _ _ _ _ (fun _ _=>False)) ?_ ?_)|(exact fun _ _ h=>h.elim)|(rintro _ _ ⟨rfl,rfl⟩)|refine sT ?_|refine sP ?_|refine sM fun _=> ?_|(refine sC ?_ ?_<;>intro hb<;>try omega)|exact cT|fail)
    all_goals first
      |(exfalso;omega)
      | (refine dl rfl ?_
         simp only [TT,TK,TL,pB]
         exact mS)
  rw [if_neg h0] at hrun
  dsimp only at hrun
  obtain ⟨hfn1,hfn2⟩:=hfn (by omega)
  by_cases hw9:(hdT fin p.skip.l).kind≠9
  · rw [if_pos hw9] at hrun
    cases hrun
    repeat' (first|(apply aa (f:=363);exact rfl;exact rfl;(intro w' _;exact hF w'))|(apply au (f:=292);exact rfl;exact rfl;exact hat.skip hc (c:=7) (by rw [ht];exact ht7) (by decide) (MSub.pick pK (MSub.pick pK (MSub.pick pK (MSub.refl _))));rintro _ _ ⟨rfl,lv1,h1,rfl⟩)|(refine bW (f:=350) rfl rfl (FnP.msub (BA 9 (by decide) toks A cap fin g p.skip lv1 B cb _ _ w0 hc hl (At1.at h1) (by unfold I3;rw [if_pos hw9])) (MSub.pick pK (MSub.pick pK (MSub.pick pK (MSub.refl _))))) ?_ ?_)|(rintro _ _ ⟨rfl,n,p',lv',B',cb',h,h2,rfl⟩;cases h)|(rintro _ _ ⟨e,h,rfl,h3⟩;cases h)|refine sT ?_|refine sP ?_|refine sM fun _=> ?_|(refine sC ?_ ?_<;>intro hb<;>try omega)|exact cT|fail)
    all_goals first
      |(exfalso;omega)
      | (refine dl rfl (MSub.trans ?_ h3)
         simp only [TT,TK,TL,pB]
         exact mS)
  rw [if_neg hw9] at hrun
  repeat' (first|(apply aa (f:=363);exact rfl;exact rfl;(intro w' _;exact hF w'))|(apply au (f:=292);exact rfl;exact rfl;exact hat.skip hc (c:=7) (by rw [ht];exact ht7) (by decide) (MSub.pick pK (MSub.pick pK (MSub.pick pK (MSub.refl _))));rintro _ _ ⟨rfl,lv1,h1,rfl⟩)|(refine bW (f:=350) rfl rfl (FnP.msub (BA 9 (by decide) toks A cap fin g p.skip lv1 B cb _ _ w0 hc hl (At1.at h1) (by unfold I3;rw [if_neg hw9])) (MSub.pick pK (MSub.pick pK (MSub.pick pK (MSub.refl _))))) ?_ ?_)|(rintro _ _ ⟨rfl,n,p',lv',B',cb',h,h2,rfl⟩;cases h)|(rintro _ _ ⟨e,h,rfl,h3⟩;cases h)|(rename_i g3;refine I7 (id:=7) (ι:=Nat × PS × Value × Option Nat × Nat) [0,3,4] rfl (fun x=> [(6,.int .i64 (x.1:Int))]) (fun x=> .box g3 295 (bw t)::(pB g x.2.2.1 A cap fin toks x.2.2.2.1 x.2.2.2.2 x.2.1.out++R)) (fun x=>x.1≤x.2.1.out.length∧At toks A cap x.2.1 x.2.2.1∧dx fin t fn x.1 x.2.1=some r) ?_ ?_)|refine sT ?_|refine sP ?_|refine sM fun _=> ?_|(refine sC ?_ ?_<;>intro hb<;>try omega)|exact cT|fail)
  · obtain ⟨u,hu⟩: ∃ u,hdT fin p.skip.skip.l=u:=⟨_,rfl⟩
    rw [hu] at hrun
    by_cases h10:u.kind=10
    · rw [if_pos h10] at hrun
      repeat' (first|(apply ak;exact rfl;apply dW;exact rfl;exact rfl)|(apply aa (f:=206);exact rfl;exact rfl;(intro w' hm';exact At.head' (B:=B') (cb:=cb') (out:=p.skip.skip.out) (g:=g) (fin:=fin) h2 hu (MSub.pick pK (MSub.pick pK (MSub.pick pK (MSub.nil _)))) w' hm'))|refine cO ((0,p.skip.skip,lv',B',cb')) ?_ sB mS|refine sT ?_|refine sP ?_|refine sM fun _=> ?_|(refine sC ?_ ?_<;>intro hb<;>try omega)|exact cT|fail)
      all_goals first|(exfalso;omega)|exact ⟨TW _,h2,hrun⟩
    · rw [if_neg h10] at hrun
      obtain ⟨r1,hr1,hr2⟩:=bU hrun
      repeat' (first|(apply ak;exact rfl;apply dW;exact rfl;exact rfl)|(apply aa (f:=206);exact rfl;exact rfl;(intro w' hm';exact At.head' (B:=B') (cb:=cb') (out:=p.skip.skip.out) (g:=g) (fin:=fin) h2 hu (MSub.pick pK (MSub.pick pK (MSub.pick pK (MSub.nil _)))) w' hm'))|refine sT ?_|refine sP ?_|refine sM fun _=> ?_|(refine sC ?_ ?_<;>intro hb<;>try omega)|exact cT|fail)
      all_goals first
        |(exfalso;omega)
        |skip
      refine ay [0,3,4] rfl (fun x:Nat × Nat × PS × Value × Option Nat × Nat=> [(6,.int .i64 (x.2.1:Int))]) (fun x=> .box g3 295 (bw t)::(pB g x.2.2.2.1 A cap fin toks x.2.2.2.2.1 x.2.2.2.2.2 x.2.2.1.out++R)) (fun x=>x.1≤f∧x.2.1≤x.2.2.1.out.length∧At toks A cap x.2.2.1 x.2.2.2.1∧bL fin x.1 (.args fn x.2.1) x.2.2.1=some r1) (fun x=>x.1) (f,0,p.skip.skip,lv',B',cb') ⟨TQ _,TW _,h2,hr1⟩ sB ?_ ?_
      · simp only [TT,TK,TL,pB]
        exact mS
      rintro ⟨f',n',q,lq,Bq,cq⟩ ⟨hf',hn',hq1,hq2⟩
      dsimp only at hf' hn' hq1 hq2 ⊢
      cases f' with
      |zero=>cases hq2
      |succ f' =>
        rw [CU] at hq2
        have hn6:n' ≤1000000:=Uo hn' (At.len hq1 hl)
        obtain ⟨r2,hr3,hr4⟩:=bU hq2
        repeat' (first|(refine bW (f:=364) rfl rfl (FnP.msub (FO f' fn n' (ih f' (by omega)) toks A cap fin g q lq Bq cq r2 _ w0 hc hl hq1 hr3) (MSub.pick pK (MSub.pick pK (MSub.pick pK (MSub.refl _))))) ?_ ?_)|(rintro _ _ ⟨rfl,n2,q2,lv2,B2,cb2,rfl,h6,rfl⟩;obtain ⟨u2,hu2⟩: ∃ u,hdT fin q2.l=u:=⟨_,rfl⟩)|(rintro _ _ ⟨e,rfl,rfl,h3⟩)|(apply ak;exact rfl;apply dW;exact rfl;exact rfl)|(apply aa (f:=206);exact rfl;exact rfl;(intro w' hm';exact At.head' (B:=B2) (cb:=cb2) (out:=q2.out) (g:=g) (fin:=fin) h6 hu2 (MSub.pick pK (MSub.pick pK (MSub.pick pK (MSub.nil _)))) w' hm'))|(apply au (f:=292);exact rfl;exact rfl;exact h6.skip hc (c:=11) (by rw [hu2];omega) (by decide) (MSub.pick pK (MSub.pick pK (MSub.pick pK (MSub.refl _))));rintro _ _ ⟨rfl,lv3,h7,rfl⟩)|refine cO ((n' +1,q2,lv2,B2,cb2)) ?_ sB mS|refine sT ?_|refine sP ?_|refine sN ?_|refine sM fun _=> ?_|(refine sC ?_ ?_<;>intro hb<;>try omega)|exact cT|fail)
        · rcases hr4 with ⟨e,h,_⟩|⟨n3,p3,h,h7⟩
          · cases h
          · cases h
            rw [hu2,if_neg (by omega)] at h7
            rcases hr2 with ⟨e,h,_⟩|⟨n4,p4,h,h8⟩
            · rw [h] at h7;cases h7
            · rw [h] at h7
              cases h7
              have:=uQ hr3
              exact ⟨by dsimp only;omega,h6,h8⟩
        · rcases hr4 with ⟨e,h,_⟩|⟨n3,p3,h,h7'⟩
          · cases h
          · cases h
            rw [hu2,if_pos (by omega)] at h7'
            have:=uQ hr3
            refine ⟨(f',n' +1,q2.skip,lv3,B2,cb2),⟨by dsimp only;omega,by dsimp only [PS.skip];omega,At1.at h7,h7'⟩,Nat.lt_succ_self _,sB,sB,?_⟩
            simp only [TT,TK,TL,pB]
            exact mS
        · rcases hr4 with ⟨e',h,h7⟩|⟨n3,p3,h,h7⟩
          · cases h
            rcases hr2 with ⟨e4,h,h8⟩|⟨n4,p4,h,h8⟩
            · rw [h] at h7
              cases h7
              exact dl h8 (MSub.trans (.drop .hd (.refl _)) h3)
            · rw [h] at h7;cases h7
          · cases h
  · rintro ⟨n,q,lq,Bq,cq⟩ ⟨hn',hq1,hq2⟩
    dsimp only at hn' hq1 hq2 ⊢
    obtain ⟨u,hu⟩: ∃ u,hdT fin q.l=u:=⟨_,rfl⟩
    have hap:=Bj hfn1 hfn2
    have hA:=fun w=>yT fn w
    obtain ⟨least,most,ae,hae⟩: ∃ a b c,fp fn=(a,b,c):=⟨_,_,_,rfl⟩
    rw [hae] at hA hap
    dsimp only at hA hap
    by_cases h10:u.kind≠10
    · simp only [dx,hu,if_pos h10] at hq2
      cases hq2
      repeat' (first|(apply ak;exact rfl;apply dW;exact rfl;exact rfl)|(apply aa (f:=206);exact rfl;exact rfl;(intro w' hm';exact At.head' (B:=Bq) (cb:=cq) (out:=q.out) (g:=g) (fin:=fin) hq1 hu (MSub.pick pK (MSub.pick pK (MSub.pick pK (MSub.nil _)))) w' hm'))|(refine bW (f:=207) rfl rfl (jJ _ _ _ _ _ (fun _ _=>False)) ?_ ?_)|(exact fun _ _ h=>h.elim)|(rintro _ _ ⟨rfl,rfl⟩)|refine sT ?_|refine sP ?_|refine sM fun _=> ?_|(refine sC ?_ ?_<;>intro hb<;>try omega)|exact cT|fail)
      all_goals first
        |(exfalso;omega)
        | (refine dl rfl ?_
           simp only [TT,TK,TL,pB]
           exact mS)
    by_cases hlm:(n:Int)<least∨most<(n:Int)
    · simp only [dx,hu,if_neg h10,hae,if_pos hlm] at hq2
      cases hq2
      repeat' (first|(apply ak;exact rfl;apply dW;exact rfl;exact rfl)|(apply aa (f:=206);exact rfl;exact rfl;(intro w' hm';exact At.head' (B:=Bq) (cb:=cq) (out:=q.out) (g:=g) (fin:=fin) hq1 hu (MSub.pick pK (MSub.pick pK (MSub.pick pK (MSub.nil _)))) w' hm'))|(apply aa (f:=327);exact rfl;exact rfl;(intro w' _;exact hA w'))|(refine bW (f:=207) rfl rfl (jJ _ _ _ _ _ (fun _ _=>False)) ?_ ?_)|(exact fun _ _ h=>h.elim)|(rintro _ _ ⟨rfl,rfl⟩)|refine sT ?_|refine sP ?_|refine sM fun _=> ?_|(refine sC ?_ ?_<;>intro hb<;>try omega)|exact cT|fail)
      all_goals first
        |(exfalso;omega)
        | (refine dl rfl ?_
           simp only [TT,TK,TL,pB]
           exact mS)
    have hpos:0<q.out.length:=by omega
    have hol:q.out.length≤1000000:=At.len hq1 hl
    obtain ⟨x,hx⟩: ∃ x,q.out[q.out.length - 1]? =some x:=⟨_,TJ (by omega)⟩
    rw [yJ hx,hu,hae,if_neg h10] at hq2
    dsimp only at hq2
    rw [if_neg hlm] at hq2
    refine bK (A:=Bq) (by simp only [TT,TK,TL,pB];exact pK) hpos fun gb hB=> ?_
    subst hB
    by_cases hkx:46≤fn∧x.kind≠2∧x.kind≠3
    · rw [if_pos hkx] at hq2
      cases hq2
      repeat' (first|(apply ak;exact rfl;apply dW;exact rfl;exact rfl)|(apply aa (f:=206);exact rfl;exact rfl;(intro w' hm';exact At.head' (B:=some gb) (cb:=cq) (out:=q.out) (g:=g) (fin:=fin) hq1 hu (MSub.pick pK (MSub.pick pK (MSub.pick pK (MSub.nil _)))) w' hm'))|(apply aa (f:=327);exact rfl;exact rfl;(intro w' _;exact hA w'))|(apply aO;exact rfl;apply di;exact rfl;exact rfl;exact hpos;(simp only [maxLen];omega))|(apply aO;exact rfl;apply aj;exact rfl;exact rfl;omega)|(apply aO;exact rfl;apply lr (k:=0);exact dF;exact rfl;exact pK;decide;exact hx;exact rfl)|(refine bW (f:=207) rfl rfl (jJ _ _ _ _ _ (fun _ _=>False)) ?_ ?_)|(exact fun _ _ h=>h.elim)|(rintro _ _ ⟨rfl,rfl⟩)|refine sT ?_|refine sP ?_|refine sQ ?_|refine sN ?_|refine sNQ ?_|refine sD ?_|refine sM fun _=> ?_|(refine sC ?_ ?_<;>intro hb<;>try omega)|(refine sCQ ?_ ?_<;>intro hb<;>try omega)|exact cT|fail)
      all_goals first
        |(exfalso;omega)
        | (refine dl rfl ?_
           simp only [TT,TK,TL,pB]
           exact mS)
    · rw [if_neg hkx] at hq2
      cases hq2
      repeat' (first|(apply ak;exact rfl;apply dW;exact rfl;exact rfl)|(apply aa (f:=206);exact rfl;exact rfl;(intro w' hm';exact At.head' (B:=some gb) (cb:=cq) (out:=q.out) (g:=g) (fin:=fin) hq1 hu (MSub.pick pK (MSub.pick pK (MSub.pick pK (MSub.nil _)))) w' hm'))|(apply aa (f:=327);exact rfl;exact rfl;(intro w' _;exact hA w'))|(apply aO;exact rfl;apply di;exact rfl;exact rfl;exact hpos;(simp only [maxLen];omega))|(apply aO;exact rfl;apply aj;exact rfl;exact rfl;omega)|(apply aO;exact rfl;apply lr (k:=0);exact dF;exact rfl;exact pK;decide;exact hx;exact rfl)|(apply au (f:=292);exact rfl;exact rfl;exact hq1.skip hc (c:=10) (by rw [hu];omega) (by decide) (MSub.pick pK (MSub.pick pK (MSub.pick pK (MSub.refl _))));rintro _ _ ⟨rfl,lv1,h1',rfl⟩)|(apply au (f:=293);exact rfl;exact rfl;exact FnIn.msub (lH ⟨7,bV,aS,0,fn,n⟩ _ _ _ _ _ _ _ _ _ (At.len hq1 hl) _ _) (MSub.pick pK (MSub.pick pK (MSub.pick pK (MSub.refl _))));rintro _ _ ⟨rfl,B3,cb3,rfl⟩)|refine sT ?_|refine sP ?_|refine sQ ?_|refine sN ?_|refine sNQ ?_|refine sD ?_|refine sM fun _=> ?_|(refine sC ?_ ?_<;>intro hb<;>try omega)|(refine sCQ ?_ ?_<;>intro hb<;>try omega)|exact cT|fail)
      all_goals first
        |(exfalso;omega)
        | (refine fE (p' := q.skip.put ⟨7, bV, aS, 0, fn, n⟩) (B' := B3) (cb' := cb3) (by first | exact .inr rfl | exact .inl rfl) rfl rfl (h1'.put _) ?_
           simp only [TT,TK,TL,pB]
           exact mS)
theorem AB (fin:Int) (f:Nat) (p:PS) (h:(hdT fin p.l).kind=7):bL fin (f+1) .prim p=yS f (hdT fin p.l) fin p:=by
 rw [bL]
 dsimp only
 rw [if_neg (by omega),if_neg (by omega),if_neg (by omega),if_pos h]
 rfl
set_option maxHeartbeats 4000000 in
theorem HM (f:Nat) (ih: ∀ f' ≤f,POK f' (.level 1) 205 []):POK (f+1) .prim 335 []:=by
  intro toks A cap fin g p lv B cb r R w0 hc hl hat hrun
  refine yu Tryz.func335 rfl Tryz.ntmps335 rfl ?_
  obtain ⟨t,ht⟩: ∃ t,hdT fin p.l=t:=⟨_,rfl⟩
  have hh:=fun w hm=>At.head' (fin:=fin) (g:=g) (B:=B) (cb:=cb) (out:=p.out) (H:=pB g lv A cap fin toks B cb p.out++R) (w0:=w0) hat ht (MSub.pick .hd (.pick .hd (.pick .hd (.nil _)))) w hm
  by_cases h7:t.kind=7
  · rw [AB _ _ _ (by rw [ht];exact h7),ht] at hrun
    have hcl:=Qf f t ih toks A cap fin g p lv B cb r
    unfold CP at hcl
    rw [if_pos ⟨ht,h7⟩] at hcl
    repeat' (first|(apply aa (f:=206);exact rfl;exact rfl;exact hh)|(refine bW (f:=351) rfl rfl (FnP.msub (hcl _ w0 hc hl hat hrun) (MSub.pick pK (MSub.pick pK (MSub.pick pK (MSub.refl _))))) ?_ ?_)|(rintro _ _ ⟨rfl,n,p',lv',B',cb',rfl,h2,rfl⟩)|(rintro _ _ ⟨e,rfl,rfl,h3⟩)|refine sT ?_|refine sP ?_|refine sM fun _=> ?_|(refine sC ?_ ?_<;>intro hb<;>try omega)|fail)
    · refine fE (B' :=B') (cb' :=cb') (by first|exact .inr rfl|exact .inl rfl) rfl rfl h2 ?_
      simp only [TT,TK,TL,pB]
      exact mS
    · exact dl rfl (MSub.trans (.drop .hd (.refl _)) h3)
  rw [bL] at hrun
  dsimp only at hrun
  rw [ht] at hrun
  by_cases h14:1≤t.kind∧t.kind≤4
  · rw [if_pos h14] at hrun
    cases hrun
    rcases (by omega:t.kind=1∨t.kind=2∨t.kind=3∨t.kind=4) with hk|hk|hk|hk
    · repeat' (first|(apply aa (f:=206);exact rfl;exact rfl;exact hh)|(refine bW (f:=349) rfl rfl (FnP.msub (rY ⟨1,t.num,az⟩ toks A cap fin g p _ B cb (.ok (0,p.skip.put (nO t))) _ w0 hc hl hat (by dsimp only;rw [if_neg (by rw [ht];omega)];simp [nO,hk])) (MSub.pick pK (MSub.pick pK (MSub.pick pK (MSub.refl _))))) ?_ ?_)|(rintro _ _ ⟨rfl,n,p',lv',B',cb',h,h2,rfl⟩)|(rintro _ _ ⟨e,h,rfl,h3⟩;cases h)|refine sT ?_|refine sP ?_|refine sM fun _=> ?_|(refine sC ?_ ?_<;>intro hb<;>try omega)|fail)
      all_goals first
        |(exfalso;omega)
        | (refine fE (B' := B') (cb' := cb') (by first | exact .inr rfl | exact .inl rfl) rfl h h2 ?_
           simp only [TT,TK,TL,pB]
           exact mS)
    · repeat' (first|(apply aa (f:=206);exact rfl;exact rfl;exact hh)|(refine bW (f:=349) rfl rfl (FnP.msub (rY ⟨3,0,t.text⟩ toks A cap fin g p _ B cb (.ok (0,p.skip.put (nO t))) _ w0 hc hl hat (by dsimp only;rw [if_neg (by rw [ht];omega)];simp [nO,hk])) (MSub.pick pK (MSub.pick pK (MSub.pick pK (MSub.refl _))))) ?_ ?_)|(rintro _ _ ⟨rfl,n,p',lv',B',cb',h,h2,rfl⟩)|(rintro _ _ ⟨e,h,rfl,h3⟩;cases h)|refine sT ?_|refine sP ?_|refine sM fun _=> ?_|(refine sC ?_ ?_<;>intro hb<;>try omega)|fail)
      all_goals first
        |(exfalso;omega)
        | (refine fE (B' := B') (cb' := cb') (by first | exact .inr rfl | exact .inl rfl) rfl h h2 ?_
           simp only [TT,TK,TL,pB]
           exact mS)
    · repeat' (first|(apply aa (f:=206);exact rfl;exact rfl;exact hh)|(refine bW (f:=349) rfl rfl (FnP.msub (rY ⟨2,t.num,az⟩ toks A cap fin g p _ B cb (.ok (0,p.skip.put (nO t))) _ w0 hc hl hat (by dsimp only;rw [if_neg (by rw [ht];omega)];simp [nO,hk])) (MSub.pick pK (MSub.pick pK (MSub.pick pK (MSub.refl _))))) ?_ ?_)|(rintro _ _ ⟨rfl,n,p',lv',B',cb',h,h2,rfl⟩)|(rintro _ _ ⟨e,h,rfl,h3⟩;cases h)|refine sT ?_|refine sP ?_|refine sM fun _=> ?_|(refine sC ?_ ?_<;>intro hb<;>try omega)|fail)
      all_goals first
        |(exfalso;omega)
        | (refine fE (B' := B') (cb' := cb') (by first | exact .inr rfl | exact .inl rfl) rfl h h2 ?_
           simp only [TT,TK,TL,pB]
           exact mS)
    · repeat' (first|(apply aa (f:=206);exact rfl;exact rfl;exact hh)|(refine bW (f:=349) rfl rfl (FnP.msub (rY ⟨4,t.num,az⟩ toks A cap fin g p _ B cb (.ok (0,p.skip.put (nO t))) _ w0 hc hl hat (by dsimp only;rw [if_neg (by rw [ht];omega)];simp [nO,hk])) (MSub.pick pK (MSub.pick pK (MSub.pick pK (MSub.refl _))))) ?_ ?_)|(rintro _ _ ⟨rfl,n,p',lv',B',cb',h,h2,rfl⟩)|(rintro _ _ ⟨e,h,rfl,h3⟩;cases h)|refine sT ?_|refine sP ?_|refine sM fun _=> ?_|(refine sC ?_ ?_<;>intro hb<;>try omega)|fail)
      all_goals first
        |(exfalso;omega)
        | (refine fE (B' := B') (cb' := cb') (by first | exact .inr rfl | exact .inl rfl) rfl h h2 ?_
           simp only [TT,TK,TL,pB]
           exact mS)
  rw [if_neg h14] at hrun
  by_cases h5:t.kind=5
  · rw [if_pos h5] at hrun
    cases hrun
    repeat' (first|(apply aa (f:=206);exact rfl;exact rfl;exact hh)|(apply au (f:=292);exact rfl;exact rfl;exact hat.skip hc (c:=5) (by rw [ht];exact h5) (by decide) (MSub.pick pK (MSub.pick pK (MSub.pick pK (MSub.refl _))));rintro _ _ ⟨rfl,lv1,h1,rfl⟩)|(apply au (f:=293);exact rfl;exact rfl;exact FnIn.msub (lH ⟨2,bV,t.rect,0,0,0⟩ _ _ _ _ _ _ _ _ _ (At.len hat hl) _ _) (MSub.pick pK (MSub.pick pK (MSub.pick pK (MSub.refl _))));rintro _ _ ⟨rfl,B3,cb3,rfl⟩)|refine sT ?_|refine sP ?_|refine sM fun _=> ?_|(refine sC ?_ ?_<;>intro hb<;>try omega)|fail)
    all_goals first
      |(exfalso;omega)
      | (refine fE (p' := p.skip.put ⟨2, bV, t.rect, 0, 0, 0⟩) (B' := B3) (cb' := cb3) (by first | exact .inr rfl | exact .inl rfl) rfl rfl (h1.put _) ?_
         simp only [TT,TK,TL,pB]
         exact mS)
  rw [if_neg h5] at hrun
  by_cases h9:t.kind=9
  · rw [if_pos h9] at hrun
    obtain ⟨r1,hr1,hr2⟩:=bU hrun
    repeat' (first|(apply aa (f:=206);exact rfl;exact rfl;exact hh)|(apply au (f:=292);exact rfl;exact rfl;exact hat.skip hc (c:=9) (by rw [ht];exact h9) (by decide) (MSub.pick pK (MSub.pick pK (MSub.pick pK (MSub.refl _))));rintro _ _ ⟨rfl,lv1,h1,rfl⟩)|(refine bW (f:=205) rfl rfl (FnP.msub (ih f (TQ _) toks A cap fin g p.skip _ B cb r1 _ w0 hc hl (At1.at h1) hr1) (MSub.pick pK (MSub.pick pK (MSub.pick pK (MSub.refl _))))) ?_ ?_)|(rintro _ _ ⟨rfl,n,p',lv',B',cb',rfl,h2,rfl⟩)|(rintro _ _ ⟨e,rfl,rfl,h3⟩)|(rcases hr2 with ⟨e,h,_⟩|⟨n1,p1,h,hw⟩;cases h;cases h;refine bW (f:=350) rfl rfl (FnP.msub (BA 10 (by decide) toks A cap fin g p' _ B' cb' r _ w0 hc hl h2 hw) (MSub.pick pK (MSub.pick pK (MSub.pick pK (MSub.refl _))))) ?_ ?_)|refine sT ?_|refine sP ?_|refine sM fun _=> ?_|(refine sC ?_ ?_<;>intro hb<;>try omega)|fail)
    · refine fE (B' :=B') (cb' :=cb') (by first|exact .inr rfl|exact .inl rfl) rfl rfl h2 ?_
      simp only [TT,TK,TL,pB]
      exact mS
    · exact dl rfl (MSub.trans (.drop .hd (.refl _)) h3)
    · rcases hr2 with ⟨e',h,h5⟩|⟨n1,p1,h,h5⟩
      · cases h
        exact dl h5 (MSub.trans (.drop .hd (.refl _)) h3)
      · cases h
  rw [if_neg h9,if_neg h7] at hrun
  cases hrun
  repeat' (first|(apply aa (f:=206);exact rfl;exact rfl;exact hh)|(refine bW (f:=207) rfl rfl (jJ _ _ _ _ _ (fun _ _=>False)) ?_ ?_)|(exact fun _ _ h=>h.elim)|(rintro _ _ ⟨rfl,rfl⟩)|refine sT ?_|refine sP ?_|refine sM fun _=> ?_|(refine sC ?_ ?_<;>intro hb<;>try omega)|fail)
  all_goals first
    |(exfalso;omega)
    | (refine dl rfl ?_
       simp only [TT,TK,TL,pB]
       exact mS)
theorem KO (f:Nat):(∀ k:Int,1≤k→k≤4→POK f (.level k) 248 [.int .i64 k])∧POK f .sign 289 []∧POK f .pct 316 []∧POK f .prim 335 []∧POK f (.level 1) 205 []:=by
 induction f using Nat.strongRecOn with
 |_ f ih=>
  cases f with
  |zero=>
   refine ⟨fun k _ _=> ?_,?_,?_,?_,?_⟩
   all_goals exact fun toks A cap fin g p lv B cb r R w0 hc hl hat h=>by cases h
  |succ f=>
   have hL: ∀ k:Int,1≤k→k≤4→POK (f+1) (.level k) 248 [.int .i64 k]:=fun k h1 h4=>
    NH f k h1 h4 (fun h3 f' hf' =>(ih f' (by omega)).1 (k+1) (by omega) (by omega)) (fun f' hf' =>(ih f' (by omega)).2.1)
   refine ⟨hL,Pr f (ih f (by omega)).2.1 (ih f (by omega)).2.2.1,HP f (ih f (by omega)).2.2.2.1,HM f (fun f' hf' =>(ih f' (by omega)).2.2.2.2),Io (f+1) (hL 1 (by omega) (by omega))⟩
end Go.SL
namespace Go.SL
open Go Go.Proofs
attribute [local irreducible] W WL WQ WG WA WX WLI WR WT VOp RW thn blk bF scp ba aZ bC FnAt FnIn FnP
theorem Jt (p2 p3 p4:Value) (w0:World) (H:List Blk):FnD Tryz.prog 204 [p2,p3,p4] .returning w0 H H:=by
 refine Tc Tryz.func204 rfl rfl Tryz.ntmps204 rfl rfl (.inl ⟨rfl,rfl⟩) ?_
 repeat' (first|(apply ak;exact rfl;apply O9;exact rfl)|refine sT ?_|refine sM fun _=> ?_|(refine sC ?_ ?_<;>intro hb<;>try omega)|fail)
 all_goals exact ⟨by first|exact .inl rfl|exact .inr rfl,.refl _⟩
theorem Ju (g2 g3 g4:Nat) (x2 x3 x4:Value) (e:Int × Int) (w0:World) (R:List Blk):
  FnD Tryz.prog 204 [.pointer (some ⟨g2,0,none⟩),.pointer (some ⟨g3,0,none⟩),.pointer (some ⟨g4,0,none⟩)] (.panicking (jW (CE e))) w0
   (.box g2 86 [x2]:: .box g3 3 [x3]:: .box g4 30 [x4]::R)
   (.box g2 86 [.slice none 0 0]:: .box g3 3 [.int .i64 e.1]:: .box g4 30 [.int .i64 e.2]::R):=by
 refine Tc Tryz.func204 rfl rfl Tryz.ntmps204 rfl rfl (.inr rfl) ?_
 repeat' (first|(apply ak;exact rfl;apply O8;exact rfl)|(apply ak;exact rfl;apply BD;exact rfl;exact rfl)|(rename_i g;refine wW (id:=7) [⟨4,g2,86,x2,.slice none 0 0⟩,⟨5,g3,3,x3,.int .i64 e.1⟩,⟨6,g4,30,x4,.int .i64 e.2⟩] (.box g 290 [.int .i64 e.1,.int .i64 e.2]::R) (by kernel_rfl) (by kernel_rfl) rfl mS ?_)|(apply I1;exact rfl;exact rfl;(exact vC))|(refine li [] [⟨5,g3,3,x3,.int .i64 e.1⟩,⟨6,g4,30,x4,.int .i64 e.2⟩] ⟨4,g2,86,x2,.slice none 0 0⟩ rfl rfl rfl rfl rfl rfl ?_)|(refine li [⟨4,g2,86,x2,.slice none 0 0⟩] [⟨6,g4,30,x4,.int .i64 e.2⟩] ⟨5,g3,3,x3,.int .i64 e.1⟩ rfl rfl rfl rfl rfl rfl ?_)|(refine li [⟨4,g2,86,x2,.slice none 0 0⟩,⟨5,g3,3,x3,.int .i64 e.1⟩] [] ⟨6,g4,30,x4,.int .i64 e.2⟩ rfl rfl rfl rfl rfl rfl ?_)|apply Bz|refine sT ?_|refine sG ?_|refine sM fun _=> ?_|(refine sC ?_ ?_<;>intro hb<;>try omega)|fail)
 refine ⟨.inr rfl,?_⟩
 simp only [Ud,UQ,BoxT.post,TK,TL]
 exact mS
def bX (x:List Tk × Int × Int) (fin:Int):List Nd × Int × Int:=
 if x.2.2≠0 then ([],x.2.1,x.2.2)
 else match bL fin (20*x.1.length+40) (.level 1) ⟨x.1,[]⟩ with
  |none=>([],0,0)
  |some (.error (a,e))=>([],a,e)
  |some (.ok (_,p))=>
   if (hdT fin p.l).kind≠0 then ([],(hdT fin p.l).at_,4)
   else if dI p.out≠0 then ([],0,dI p.out)
   else (p.out,0,0)
theorem DJ {tk:List Int→Option (Tk × Nat)} {l:List Int} (f:Nat): ∀ (i:Nat) (r:List Tk),bA tk l f i= .ok r→r.length≤f:=by
 induction f with
 |zero=>intro i r h;simp only [bA,Except.ok.injEq] at h;subst h;exact TQ _
 |succ f ih=>
  intro i r h
  simp only [bA] at h
  split at h
  ·
   cases h;exact TW _
  ·
   split at h
   ·
    exact Wj (ih _ _ h)
   ·
    split at h
    ·
     cases h
    ·
     rename_i t n _
     cases hr:bA tk l f (i+n) with
     |error e=>rw [hr] at h;cases h
     |ok r' =>
      rw [hr] at h
      cases h
      exact Nat.succ_le_succ (ih _ _ hr)
theorem oN (tk:List Int→Option (Tk × Nat)) (l:List Int):(bH tk l).1.length≤256:=by
 unfold bH
 split
 ·
  exact TW _
 ·
  split
  ·
   exact TW _
  ·
   split
   ·
    rename_i h
    have:=DJ _ _ _ h
    dsimp only
    omega
   ·
    exact TW _
theorem At.start (toks:List Tk) (A:Option Nat) (cap:Nat):At toks A cap ⟨toks,[]⟩ (sl A toks.length cap):=
 ⟨0,TW _,rfl,TQ _,A.map fun g=>⟨g,0,none⟩,by simp [sl],fun _=>by simp⟩
def Ji (A:Option Nat) (cap:Nat) (r:List Nd × Int × Int):Value:= .tuple #[sl A r.1.length cap,.int .i64 r.2.1,.int .i64 r.2.2]
set_option maxHeartbeats 4000000 in
theorem IV (a:ByteArray) (w:World) (hW:Words w) (r:List Nd × Int × Int) (hr:r=bX (bH dG (ap a)) (a.size:Int)):
  FnAt Tryz.prog 153 [.string a] w fun v H=> ∃ A cap,v=Ji A cap r∧H= [.own A 174 11 r.1.length cap (r.1.flatMap bR)]:=by
 refine P2 Tryz.func153 rfl Tryz.ntmps153 rfl ?_
 have htl:=oN dG (ap a)
 have hT:=fun w' (hm:Σ' H,Mem w w' H)=>LR a w' (hW.next hm.2)
 obtain ⟨⟨toks,at0,e0⟩,hx⟩: ∃ x,bH dG (ap a)=x:=⟨_,rfl⟩
 rw [hx] at hr htl
 simp only [hx,Jj] at hT
 dsimp only at htl
 refine Ah 174 11 ?_
 refine Ah 174 11 ?_
 refine MP (fun e a w _ h=>Oi h) ?_
 obtain ⟨r1,hr1,_⟩:=ug (a.size:Int) (20*toks.length+40) (.level 1) ⟨toks,[]⟩ ⟨by omega,by omega⟩ (by simp [Job.c])
 have hP: ∀ (A:Option Nat) (cap g:Nat) (R:List Blk),toks.length≤cap→FnP Tryz.prog 205 [.pointer (some ⟨g,0,none⟩)] w (pB g (sl A toks.length cap) A cap (a.size:Int) toks none 0 []++R) (PR toks A cap (a.size:Int) g R r1) (PD R r1):=fun A cap g R hc=>
  (KO (20*toks.length+40)).2.2.2.2 toks A cap (a.size:Int) g ⟨toks,[]⟩ (sl A toks.length cap) none 0 r1 R w hc (by omega) (At.start toks A cap) hr1
 obtain ⟨ff,hff⟩: ∃ ff,20*toks.length+40=ff:=⟨_,rfl⟩
 rw [hff] at hr1
 repeat' (first|(apply aF (f:=203);exact rfl;exact rfl;exact fun w' hm=>hT w' ⟨_,hm⟩;rintro _ _ ⟨A,cap,rfl,rfl⟩)|(rename_i g2 g3 g4;refine MQ (cs:= [_,_,_]) rfl rfl ?_)|(refine MP (fun e a w _ h=>Oi h) ?_)|(refine RH (fun e a w h=>Sh h) ?_)|(rename_i g2 g3 g4;refine wW (id:=3) [⟨2,g2,86,.slice none 0 0,.slice none 0 0⟩,⟨3,g3,3,.int .i64 at0,.int .i64 at0⟩,⟨4,g4,30,.int .i64 e0,.int .i64 e0⟩] [.own none 174 11 0 0 []] (by kernel_rfl) (by kernel_rfl) rfl mS ?_)|(refine li [] [⟨3,g3,3,.int .i64 at0,.int .i64 at0⟩,⟨4,g4,30,.int .i64 e0,.int .i64 e0⟩] ⟨2,g2,86,.slice none 0 0,.slice none 0 0⟩ rfl rfl rfl rfl rfl rfl ?_)|(refine li [⟨2,g2,86,.slice none 0 0,.slice none 0 0⟩] [⟨4,g4,30,.int .i64 e0,.int .i64 e0⟩] ⟨3,g3,3,.int .i64 at0,.int .i64 at0⟩ rfl rfl rfl rfl rfl rfl ?_)|(refine li [⟨2,g2,86,.slice none 0 0,.slice none 0 0⟩,⟨3,g3,3,.int .i64 at0,.int .i64 at0⟩] [] ⟨4,g4,30,.int .i64 e0,.int .i64 e0⟩ rfl rfl rfl rfl rfl rfl ?_)|(refine wz ⟨3,g3,3,.int .i64 at0,.int .i64 at0⟩ (.tail _ (.head _)) (f:=60) (j:=3) rfl (by decide+kernel) rfl rfl rfl ?_)|(refine wz ⟨4,g4,30,.int .i64 e0,.int .i64 e0⟩ (.tail _ (.tail _ (.head _))) (f:=60) (j:=4) rfl (by decide+kernel) rfl rfl rfl ?_)|apply Bz|(apply ak;exact rfl;apply m8;exact rfl)|(apply ak;exact rfl;apply fU;exact rfl)|(apply J3 (f:=205);exact rfl;exact rfl;infer_instance;exact rfl;rename_i gp;exact FnP.own (A:=A) pK (fun hcap=>FnP.msub (hP A cap _ _ hcap) (MSub.pick pK (MSub.pick pK (MSub.pick pK (MSub.refl _))))))|(rintro _ _ ⟨rfl,n,p',lv',B',cb',rfl,h2,rfl⟩;obtain ⟨u,hu⟩: ∃ u,hdT (a.size:Int) p'.l=u:=⟨_,rfl⟩)|(rintro _ _ ⟨e,rfl,rfl,h3⟩)|(apply aa (f:=206);exact rfl;exact rfl;(intro w' hm';exact At.head' (B:=B') (cb:=cb') (out:=p'.out) (fin:=(a.size:Int)) h2 hu (MSub.pick pK (MSub.pick pK (MSub.pick pK (MSub.nil _)))) w' hm'))|(apply aa (f:=180);exact rfl;exact rfl;(intro w' hm';exact F4 p'.out _ w' (Reads.of_own (A:=B') hm' pK)))|(refine bW (f:=207) rfl rfl (jJ _ _ _ _ _ (fun _ _=>False)) ?_ ?_)|(exact fun _ _ h=>h.elim)|(rintro _ _ ⟨rfl,rfl⟩)|refine sT ?_|refine sP ?_|refine sG ?_|refine sM fun _=> ?_|(refine sC ?_ ?_<;>intro hb<;>try omega)|fail)
 ·
  have hr' :r=([],at0,e0):=by rw [hr];simp [bX,hb]
  subst hr'
  simp only [Ud,UQ,BoxT.post,TK,TL]
  exact sF (.inl rfl) rfl rfl pK rfl pK rfl pK (H' := [.own none 174 11 0 0 []]) mS ⟨none,0,rfl,rfl⟩
 ·
  rename_i he0 gp _ u0 hu0 g1
  have hr' :r=([],u0.at_,4):=by rw [hr];simp [bX,hff,hr1,hu0,hb,Classical.not_not.1 he0]
  subst hr'
  refine ⟨_,.box g2 86 [.slice none 0 0]:: .box g3 3 [.int .i64 at0]:: .box g4 30 [.int .i64 e0]:: [.own none 174 11 0 0 []],_,rfl,?_,Ju g2 g3 g4 _ _ _ (u0.at_,4) w _,sF (.inl rfl) rfl rfl pK rfl pK rfl pK (H' := [.own none 174 11 0 0 []]) mS ⟨none,0,rfl,rfl⟩⟩
  simp only [TT,TK,TL,pB]
  exact mS
 ·
  rename_i he0 gp _ g1 hb1
  have hr' :r=([],0,dI p'.out):=by rw [hr];simp [bX,hff,hr1,hu,Classical.not_not.1 hb1,hb,Classical.not_not.1 he0]
  subst hr'
  exact ⟨.returning,_,_,rfl,.refl _,Jt _ _ _ _ _,sF (.inl rfl) rfl rfl pK rfl pK rfl pK (H' := [.own none 174 11 0 0 []]) mS ⟨none,0,rfl,rfl⟩⟩
 ·
  rename_i he0 gp _ g1 hb1
  have hr' :r=(p'.out,0,0):=by rw [hr];simp [bX,hff,hr1,hu,Classical.not_not.1 hb1,Classical.not_not.1 hb,Classical.not_not.1 he0]
  subst hr'
  exact ⟨.returning,_,_,rfl,.refl _,Jt _ _ _ _ _,sF (.inl rfl) rfl rfl pK rfl pK rfl pK (H' := [.own B' 174 11 p'.out.length cb' (p'.out.flatMap bR)]) mS ⟨B',cb',rfl,rfl⟩⟩
 ·
  have hr' :r=([],e.1,e.2):=by rw [hr];simp [bX,hff,hr1,Classical.not_not.1 hb]
  subst hr'
  refine ⟨_,.box g2 86 [.slice none 0 0]:: .box g3 3 [.int .i64 at0]:: .box g4 30 [.int .i64 e0]:: [.own none 174 11 0 0 []],_,rfl,MSub.trans ?_ h3,Ju g2 g3 g4 _ _ _ e w _,sF (.inl rfl) rfl rfl pK rfl pK rfl pK (H' := [.own none 174 11 0 0 []]) mS ⟨none,0,rfl,rfl⟩⟩
  exact mS
end Go.SL
