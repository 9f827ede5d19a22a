/-
  Lemmas and walks, put together: C5 C6 C7 D1.
-/
import Derived.Test.YthefeclkaaocnaaGreatDoorKj13
set_option linter.unusedSimpArgs false
set_option linter.unusedVariables false
set_option maxRecDepth 20000
namespace Go.SL
open Go Go.Proofs
attribute [local irreducible] W WL WQ WG WA WX WLI WR WT VOp thn blk bG scp bg bi bT aQ FnIn FnP
instance:FldT Tryz.prog 295 0 5 0:=⟨_,_,Tryz.underlying295,rfl,rfl,rfl⟩
theorem q9 {f:Nat} {fn:Int} {n:Nat} {fin:Int} {p p' :PS} {m:Nat} (h:yA f fn n fin p=some (.ok (m,p'))):p.out.length<p'.out.length:=by
 unfold yA at h
 split at h
 ·
  obtain ⟨m',q,h1,h2⟩:=cf h
  cases h2
  exact (li _ _ _ _ _ _ h1).some trivial
 ·
  split at h
  ·
   cases h
  ·
   cases h
   simp [PS.put,PS.skip]
theorem uV {fin:Int} {name:Tk} {fn:Int} {n:Nat} {p:PS} {x:Nd} (hx:p.out[p.out.length - 1]? =some x):dC fin name fn n p=
  if (hdT fin p.l).kind≠10 then some (.error ((hdT fin p.l).at_,4))
  else if (n:Int)<(eQ fn).1∨(eQ fn).2.1<(n:Int) then some (.error (name.at_,11))
  else if 46≤fn∧x.kind≠2∧x.kind≠3 then some (.error (name.at_,4))
  else some (.ok (0,p.skip.put ⟨7,bK,aM,0,fn,n⟩)):=by
 have hx' :p.out.getLast? =some x:=by rw [Qs];exact hx
 unfold dC
 simp only [hx',OM,Option.some.injEq,decide_eq_true_eq,ne_eq,not_or]
theorem xc {fn:Int} (h1:1≤fn) (h2:fn≤50):1≤(eQ fn).1:=by
 unfold eQ
 repeat' split
 all_goals first
  |decide
  |(rename_i h;simp [da,h1,h2] at h)
theorem At.head' {toks:List Tk} {A:Option Nat} {cap:Nat} {fin:Int} {g:Nat} {p:PS} {lv:Value} (h:At toks A cap p lv) {u:Tk} (hu:hdT fin p.l=u) {B:Option Nat} {cb:Nat} {out:List Nd} {H:List Blk} {w0:World} (hH:MSub (pB g lv A cap fin toks B cb out) H) (w:World) (hm:Mem w0 w H):
  ax Tryz.prog 206 [.pointer (some ⟨g,0,none⟩)] w (.agg (aY u).toArray):=hu ▸ At.head h hH w hm
open Classical in
noncomputable def yw (f:Nat) (t:Tk) (u7:Nat→Tk→Int→PS→Option Out) (fin:Int) (p:PS):Option Out:=if hdT fin p.l=t∧t.kind=7 then u7 f t fin p else none
def u7 (f:Nat) (t:Tk) (fin:Int) (p:PS):Option Out:=
 if (aX t.text).2≠0 then some (.error (t.at_,10))
 else
  let u:=hdT fin p.skip.l
  if u.kind≠9 then some (.error (u.at_,4))
  else if (hdT fin p.skip.skip.l).kind=10 then dC fin t (aX t.text).1 0 p.skip.skip
  else fR (bE fin f (.args (aX t.text).1 0) p.skip.skip) fun n p=>dC fin t (aX t.text).1 n p
set_option maxHeartbeats 4000000 in
theorem Le (f:Nat) (t:Tk) (ih: ∀ f' ≤f,POK f' (.level 1) 205 []):Ll (yw f t u7) 351 [.agg (aY t).toArray]:=by
  intro toks A cap fin g p lv B cb r R w0 hc hl hat hrun
  refine uN Tryz.func351 rfl Tryz.ntmps351 rfl ?_
  unfold yw at hrun
  by_cases ht: ¬ (hdT fin p.l=t∧t.kind=7)
  · rw [if_neg ht] at hrun;cases hrun
  have ht:=Classical.not_not.1 ht
  rw [if_pos ht] at hrun
  obtain ⟨ht,ht7⟩:=ht
  have hF:=fun w=>BH t.text w
  unfold u7 at hrun
  obtain ⟨fn,fe,hfe⟩: ∃ fn fe,aX t.text=(fn,fe):=⟨_,_,rfl⟩
  have hfn:fe=0→1≤fn∧fn≤50:=by
    intro h
    subst h
    have hb1:=iS cZ t.text 0 (by omega)
    rw [iQ] at hb1
    unfold aX at hfe
    split at hfe<;>cases hfe
    omega
  rw [hfe] at hrun hF
  dsimp only at hF
  by_cases h0:fe≠0
  · rw [if_pos h0] at hrun
    cases hrun
    repeat' (first|(apply aa (f:=363);exact rfl;exact rfl;(intro w' _;exact hF w'))|(refine bB (f:=207) rfl rfl (iY _ _ _ _ _ (fun _ _=>False)) ?_ ?_)|(exact fun _ _ h=>h.elim)|(rintro _ _ ⟨rfl,rfl⟩)|refine sT ?_|refine sP ?_|refine sM fun _=> ?_|(refine sC ?_ ?_<;>intro hb<;>try omega)|exact cT|fail)
    all_goals first
      |(exfalso;omega)
      | (refine cO rfl ?_
         simp only [NN,NF,NH,pB]
         exact mS)
  rw [if_neg h0] at hrun
  dsimp only at hrun
  obtain ⟨hfn1,hfn2⟩:=hfn (by omega)
  by_cases hw9:(hdT fin p.skip.l).kind≠9
  · rw [if_pos hw9] at hrun
    cases hrun
    repeat' (first|(apply aa (f:=363);exact rfl;exact rfl;(intro w' _;exact hF w'))|(apply aw (f:=292);exact rfl;exact rfl;exact hat.skip hc (c:=7) (by rw [ht];exact ht7) (by decide) (MSub.pick pK (MSub.pick pK (MSub.pick pK (MSub.refl _))));rintro _ _ ⟨rfl,lv1,h1,rfl⟩)|(refine bB (f:=350) rfl rfl (FnP.msub (xw 9 (by decide) toks A cap fin g p.skip lv1 B cb _ _ w0 hc hl (At1.at h1) (by unfold DY;rw [if_pos hw9])) (MSub.pick pK (MSub.pick pK (MSub.pick pK (MSub.refl _))))) ?_ ?_)|(rintro _ _ ⟨rfl,n,p',lv',B',cb',h,h2,rfl⟩;cases h)|(rintro _ _ ⟨e,h,rfl,h3⟩;cases h)|refine sT ?_|refine sP ?_|refine sM fun _=> ?_|(refine sC ?_ ?_<;>intro hb<;>try omega)|exact cT|fail)
    all_goals first
      |(exfalso;omega)
      | (refine cO rfl (MSub.trans ?_ h3)
         simp only [NN,NF,NH,pB]
         exact mS)
  rw [if_neg hw9] at hrun
  repeat' (first|(apply aa (f:=363);exact rfl;exact rfl;(intro w' _;exact hF w'))|(apply aw (f:=292);exact rfl;exact rfl;exact hat.skip hc (c:=7) (by rw [ht];exact ht7) (by decide) (MSub.pick pK (MSub.pick pK (MSub.pick pK (MSub.refl _))));rintro _ _ ⟨rfl,lv1,h1,rfl⟩)|(refine bB (f:=350) rfl rfl (FnP.msub (xw 9 (by decide) toks A cap fin g p.skip lv1 B cb _ _ w0 hc hl (At1.at h1) (by unfold DY;rw [if_neg hw9])) (MSub.pick pK (MSub.pick pK (MSub.pick pK (MSub.refl _))))) ?_ ?_)|(rintro _ _ ⟨rfl,n,p',lv',B',cb',h,h2,rfl⟩;cases h)|(rintro _ _ ⟨e,h,rfl,h3⟩;cases h)|(rename_i g3;refine Eb (id:=7) (ι:=Nat × PS × Value × Option Nat × Nat) [0,3,4] rfl (fun x=> [(6,.int .i64 (x.1:Int))]) (fun x=> .box g3 295 (aY t)::(pB g x.2.2.1 A cap fin toks x.2.2.2.1 x.2.2.2.2 x.2.1.out++R)) (fun x=>x.1≤x.2.1.out.length∧At toks A cap x.2.1 x.2.2.1∧dC fin t fn x.1 x.2.1=some r) ?_ ?_)|refine sT ?_|refine sP ?_|refine sM fun _=> ?_|(refine sC ?_ ?_<;>intro hb<;>try omega)|exact cT|fail)
  · obtain ⟨u,hu⟩: ∃ u,hdT fin p.skip.skip.l=u:=⟨_,rfl⟩
    rw [hu] at hrun
    by_cases h10:u.kind=10
    · rw [if_pos h10] at hrun
      repeat' (first|(apply ak;exact rfl;apply cU;exact rfl;exact rfl)|(apply aa (f:=206);exact rfl;exact rfl;(intro w' hm';exact At.head' (B:=B') (cb:=cb') (out:=p.skip.skip.out) (g:=g) (fin:=fin) h2 hu (MSub.pick pK (MSub.pick pK (MSub.pick pK (MSub.nil _)))) w' hm'))|refine bf ((0,p.skip.skip,lv',B',cb')) ?_ sB mS|refine sT ?_|refine sP ?_|refine sM fun _=> ?_|(refine sC ?_ ?_<;>intro hb<;>try omega)|exact cT|fail)
      all_goals first|(exfalso;omega)|exact ⟨NY _,h2,hrun⟩
    · rw [if_neg h10] at hrun
      obtain ⟨r1,hr1,hr2⟩:=bD hrun
      repeat' (first|(apply ak;exact rfl;apply cU;exact rfl;exact rfl)|(apply aa (f:=206);exact rfl;exact rfl;(intro w' hm';exact At.head' (B:=B') (cb:=cb') (out:=p.skip.skip.out) (g:=g) (fin:=fin) h2 hu (MSub.pick pK (MSub.pick pK (MSub.pick pK (MSub.nil _)))) w' hm'))|refine sT ?_|refine sP ?_|refine sM fun _=> ?_|(refine sC ?_ ?_<;>intro hb<;>try omega)|exact cT|fail)
      all_goals first
        |(exfalso;omega)
        |skip
      refine ay [0,3,4] rfl (fun x:Nat × Nat × PS × Value × Option Nat × Nat=> [(6,.int .i64 (x.2.1:Int))]) (fun x=> .box g3 295 (aY t)::(pB g x.2.2.2.1 A cap fin toks x.2.2.2.2.1 x.2.2.2.2.2 x.2.2.1.out++R)) (fun x=>x.1≤f∧x.2.1≤x.2.2.1.out.length∧At toks A cap x.2.2.1 x.2.2.2.1∧bE fin x.1 (.args fn x.2.1) x.2.2.1=some r1) (fun x=>x.1) (f,0,p.skip.skip,lv',B',cb') ⟨NJ _,NY _,h2,hr1⟩ sB ?_ ?_
      · simp only [NN,NF,NH,pB]
        exact mS
      rintro ⟨f',n',q,lq,Bq,cq⟩ ⟨hf',hn',hq1,hq2⟩
      dsimp only at hf' hn' hq1 hq2 ⊢
      cases f' with
      |zero=>cases hq2
      |succ f' =>
        rw [yz] at hq2
        have hn6:n' ≤1000000:=Ok hn' (At.len hq1 hl)
        obtain ⟨r2,hr3,hr4⟩:=bD hq2
        repeat' (first|(refine bB (f:=364) rfl rfl (FnP.msub (Br f' fn n' (ih f' (by omega)) toks A cap fin g q lq Bq cq r2 _ w0 hc hl hq1 hr3) (MSub.pick pK (MSub.pick pK (MSub.pick pK (MSub.refl _))))) ?_ ?_)|(rintro _ _ ⟨rfl,n2,q2,lv2,B2,cb2,rfl,h6,rfl⟩;obtain ⟨u2,hu2⟩: ∃ u,hdT fin q2.l=u:=⟨_,rfl⟩)|(rintro _ _ ⟨e,rfl,rfl,h3⟩)|(apply ak;exact rfl;apply cU;exact rfl;exact rfl)|(apply aa (f:=206);exact rfl;exact rfl;(intro w' hm';exact At.head' (B:=B2) (cb:=cb2) (out:=q2.out) (g:=g) (fin:=fin) h6 hu2 (MSub.pick pK (MSub.pick pK (MSub.pick pK (MSub.nil _)))) w' hm'))|(apply aw (f:=292);exact rfl;exact rfl;exact h6.skip hc (c:=11) (by rw [hu2];omega) (by decide) (MSub.pick pK (MSub.pick pK (MSub.pick pK (MSub.refl _))));rintro _ _ ⟨rfl,lv3,h7,rfl⟩)|refine bf ((n' +1,q2,lv2,B2,cb2)) ?_ sB mS|refine sT ?_|refine sP ?_|refine sN ?_|refine sM fun _=> ?_|(refine sC ?_ ?_<;>intro hb<;>try omega)|exact cT|fail)
        · rcases hr4 with ⟨e,h,_⟩|⟨n3,p3,h,h7⟩
          · cases h
          · cases h
            rw [hu2,if_neg (by omega)] at h7
            rcases hr2 with ⟨e,h,_⟩|⟨n4,p4,h,h8⟩
            · rw [h] at h7;cases h7
            · rw [h] at h7
              cases h7
              have:=q9 hr3
              exact ⟨by dsimp only;omega,h6,h8⟩
        · rcases hr4 with ⟨e,h,_⟩|⟨n3,p3,h,h7'⟩
          · cases h
          · cases h
            rw [hu2,if_pos (by omega)] at h7'
            have:=q9 hr3
            refine ⟨(f',n' +1,q2.skip,lv3,B2,cb2),⟨by dsimp only;omega,by dsimp only [PS.skip];omega,At1.at h7,h7'⟩,Nat.lt_succ_self _,sB,sB,?_⟩
            simp only [NN,NF,NH,pB]
            exact mS
        · rcases hr4 with ⟨e',h,h7⟩|⟨n3,p3,h,h7⟩
          · cases h
            rcases hr2 with ⟨e4,h,h8⟩|⟨n4,p4,h,h8⟩
            · rw [h] at h7
              cases h7
              exact cO h8 (MSub.trans (.drop .hd (.refl _)) h3)
            · rw [h] at h7;cases h7
          · cases h
  · rintro ⟨n,q,lq,Bq,cq⟩ ⟨hn',hq1,hq2⟩
    dsimp only at hn' hq1 hq2 ⊢
    obtain ⟨u,hu⟩: ∃ u,hdT fin q.l=u:=⟨_,rfl⟩
    have hap:=xc hfn1 hfn2
    have hA:=fun w=>vg fn w
    obtain ⟨least,most,ae,hae⟩: ∃ a b c,eQ fn=(a,b,c):=⟨_,_,_,rfl⟩
    rw [hae] at hA hap
    dsimp only at hA hap
    by_cases h10:u.kind≠10
    · simp only [dC,hu,if_pos h10] at hq2
      cases hq2
      repeat' (first|(apply ak;exact rfl;apply cU;exact rfl;exact rfl)|(apply aa (f:=206);exact rfl;exact rfl;(intro w' hm';exact At.head' (B:=Bq) (cb:=cq) (out:=q.out) (g:=g) (fin:=fin) hq1 hu (MSub.pick pK (MSub.pick pK (MSub.pick pK (MSub.nil _)))) w' hm'))|(refine bB (f:=207) rfl rfl (iY _ _ _ _ _ (fun _ _=>False)) ?_ ?_)|(exact fun _ _ h=>h.elim)|(rintro _ _ ⟨rfl,rfl⟩)|refine sT ?_|refine sP ?_|refine sM fun _=> ?_|(refine sC ?_ ?_<;>intro hb<;>try omega)|exact cT|fail)
      all_goals first
        |(exfalso;omega)
        | (refine cO rfl ?_
           simp only [NN,NF,NH,pB]
           exact mS)
    by_cases hlm:(n:Int)<least∨most<(n:Int)
    · simp only [dC,hu,if_neg h10,hae,if_pos hlm] at hq2
      cases hq2
      repeat' (first|(apply ak;exact rfl;apply cU;exact rfl;exact rfl)|(apply aa (f:=206);exact rfl;exact rfl;(intro w' hm';exact At.head' (B:=Bq) (cb:=cq) (out:=q.out) (g:=g) (fin:=fin) hq1 hu (MSub.pick pK (MSub.pick pK (MSub.pick pK (MSub.nil _)))) w' hm'))|(apply aa (f:=327);exact rfl;exact rfl;(intro w' _;exact hA w'))|(refine bB (f:=207) rfl rfl (iY _ _ _ _ _ (fun _ _=>False)) ?_ ?_)|(exact fun _ _ h=>h.elim)|(rintro _ _ ⟨rfl,rfl⟩)|refine sT ?_|refine sP ?_|refine sM fun _=> ?_|(refine sC ?_ ?_<;>intro hb<;>try omega)|exact cT|fail)
      all_goals first
        |(exfalso;omega)
        | (refine cO rfl ?_
           simp only [NN,NF,NH,pB]
           exact mS)
    have hpos:0<q.out.length:=by omega
    have hol:q.out.length≤1000000:=At.len hq1 hl
    obtain ⟨x,hx⟩: ∃ x,q.out[q.out.length - 1]? =some x:=⟨_,NE (by omega)⟩
    rw [uV hx,hu,hae,if_neg h10] at hq2
    dsimp only at hq2
    rw [if_neg hlm] at hq2
    refine gx (A:=Bq) (by simp only [NN,NF,NH,pB];exact pK) hpos fun gb hB=> ?_
    subst hB
    by_cases hkx:46≤fn∧x.kind≠2∧x.kind≠3
    · rw [if_pos hkx] at hq2
      cases hq2
      repeat' (first|(apply ak;exact rfl;apply cU;exact rfl;exact rfl)|(apply aa (f:=206);exact rfl;exact rfl;(intro w' hm';exact At.head' (B:=some gb) (cb:=cq) (out:=q.out) (g:=g) (fin:=fin) hq1 hu (MSub.pick pK (MSub.pick pK (MSub.pick pK (MSub.nil _)))) w' hm'))|(apply aa (f:=327);exact rfl;exact rfl;(intro w' _;exact hA w'))|(apply aK;exact rfl;apply dM;exact rfl;exact rfl;exact hpos;(simp only [maxLen];omega))|(apply aK;exact rfl;apply aj;exact rfl;exact rfl;omega)|(apply aK;exact rfl;apply j0 (k:=0);exact fX;exact rfl;exact pK;decide;exact hx;exact rfl)|(refine bB (f:=207) rfl rfl (iY _ _ _ _ _ (fun _ _=>False)) ?_ ?_)|(exact fun _ _ h=>h.elim)|(rintro _ _ ⟨rfl,rfl⟩)|refine sT ?_|refine sP ?_|refine sQ ?_|refine sN ?_|refine sNQ ?_|refine sD ?_|refine sM fun _=> ?_|(refine sC ?_ ?_<;>intro hb<;>try omega)|(refine sCQ ?_ ?_<;>intro hb<;>try omega)|exact cT|fail)
      all_goals first
        |(exfalso;omega)
        | (refine cO rfl ?_
           simp only [NN,NF,NH,pB]
           exact mS)
    · rw [if_neg hkx] at hq2
      cases hq2
      repeat' (first|(apply ak;exact rfl;apply cU;exact rfl;exact rfl)|(apply aa (f:=206);exact rfl;exact rfl;(intro w' hm';exact At.head' (B:=some gb) (cb:=cq) (out:=q.out) (g:=g) (fin:=fin) hq1 hu (MSub.pick pK (MSub.pick pK (MSub.pick pK (MSub.nil _)))) w' hm'))|(apply aa (f:=327);exact rfl;exact rfl;(intro w' _;exact hA w'))|(apply aK;exact rfl;apply dM;exact rfl;exact rfl;exact hpos;(simp only [maxLen];omega))|(apply aK;exact rfl;apply aj;exact rfl;exact rfl;omega)|(apply aK;exact rfl;apply j0 (k:=0);exact fX;exact rfl;exact pK;decide;exact hx;exact rfl)|(apply aw (f:=292);exact rfl;exact rfl;exact hq1.skip hc (c:=10) (by rw [hu];omega) (by decide) (MSub.pick pK (MSub.pick pK (MSub.pick pK (MSub.refl _))));rintro _ _ ⟨rfl,lv1,h1',rfl⟩)|(apply aw (f:=293);exact rfl;exact rfl;exact FnIn.msub (kp ⟨7,bK,aM,0,fn,n⟩ _ _ _ _ _ _ _ _ _ (At.len hq1 hl) _ _) (MSub.pick pK (MSub.pick pK (MSub.pick pK (MSub.refl _))));rintro _ _ ⟨rfl,B3,cb3,rfl⟩)|refine sT ?_|refine sP ?_|refine sQ ?_|refine sN ?_|refine sNQ ?_|refine sD ?_|refine sM fun _=> ?_|(refine sC ?_ ?_<;>intro hb<;>try omega)|(refine sCQ ?_ ?_<;>intro hb<;>try omega)|exact cT|fail)
      all_goals first
        |(exfalso;omega)
        | (refine ep (p' := q.skip.put ⟨7, bK, aM, 0, fn, n⟩) (B' := B3) (cb' := cb3) (by first | exact .inr rfl | exact .inl rfl) rfl rfl (h1'.put _) ?_
           simp only [NN,NF,NH,pB]
           exact mS)
theorem wH (fin:Int) (f:Nat) (p:PS) (h:(hdT fin p.l).kind=7):bE fin (f+1) .prim p=u7 f (hdT fin p.l) fin p:=by
 rw [bE]
 dsimp only
 rw [if_neg (by omega),if_neg (by omega),if_neg (by omega),if_pos h]
 rfl
set_option maxHeartbeats 4000000 in
theorem CK (f:Nat) (ih: ∀ f' ≤f,POK f' (.level 1) 205 []):POK (f+1) .prim 335 []:=by
  intro toks A cap fin g p lv B cb r R w0 hc hl hat hrun
  refine uN Tryz.func335 rfl Tryz.ntmps335 rfl ?_
  obtain ⟨t,ht⟩: ∃ t,hdT fin p.l=t:=⟨_,rfl⟩
  have hh:=fun w hm=>At.head' (fin:=fin) (g:=g) (B:=B) (cb:=cb) (out:=p.out) (H:=pB g lv A cap fin toks B cb p.out++R) (w0:=w0) hat ht (MSub.pick .hd (.pick .hd (.pick .hd (.nil _)))) w hm
  by_cases h7:t.kind=7
  · rw [wH _ _ _ (by rw [ht];exact h7),ht] at hrun
    have hcl:=Le f t ih toks A cap fin g p lv B cb r
    unfold yw at hcl
    rw [if_pos ⟨ht,h7⟩] at hcl
    repeat' (first|(apply aa (f:=206);exact rfl;exact rfl;exact hh)|(refine bB (f:=351) rfl rfl (FnP.msub (hcl _ w0 hc hl hat hrun) (MSub.pick pK (MSub.pick pK (MSub.pick pK (MSub.refl _))))) ?_ ?_)|(rintro _ _ ⟨rfl,n,p',lv',B',cb',rfl,h2,rfl⟩)|(rintro _ _ ⟨e,rfl,rfl,h3⟩)|refine sT ?_|refine sP ?_|refine sM fun _=> ?_|(refine sC ?_ ?_<;>intro hb<;>try omega)|fail)
    · refine ep (B' :=B') (cb' :=cb') (by first|exact .inr rfl|exact .inl rfl) rfl rfl h2 ?_
      simp only [NN,NF,NH,pB]
      exact mS
    · exact cO rfl (MSub.trans (.drop .hd (.refl _)) h3)
  rw [bE] at hrun
  dsimp only at hrun
  rw [ht] at hrun
  by_cases h14:1≤t.kind∧t.kind≤4
  · rw [if_pos h14] at hrun
    cases hrun
    rcases (by omega:t.kind=1∨t.kind=2∨t.kind=3∨t.kind=4) with hk|hk|hk|hk
    · repeat' (first|(apply aa (f:=206);exact rfl;exact rfl;exact hh)|(refine bB (f:=349) rfl rfl (FnP.msub (pG ⟨1,t.num,au⟩ toks A cap fin g p _ B cb (.ok (0,p.skip.put (l6 t))) _ w0 hc hl hat (by dsimp only;rw [if_neg (by rw [ht];omega)];simp [l6,hk])) (MSub.pick pK (MSub.pick pK (MSub.pick pK (MSub.refl _))))) ?_ ?_)|(rintro _ _ ⟨rfl,n,p',lv',B',cb',h,h2,rfl⟩)|(rintro _ _ ⟨e,h,rfl,h3⟩;cases h)|refine sT ?_|refine sP ?_|refine sM fun _=> ?_|(refine sC ?_ ?_<;>intro hb<;>try omega)|fail)
      all_goals first
        |(exfalso;omega)
        | (refine ep (B' := B') (cb' := cb') (by first | exact .inr rfl | exact .inl rfl) rfl h h2 ?_
           simp only [NN,NF,NH,pB]
           exact mS)
    · repeat' (first|(apply aa (f:=206);exact rfl;exact rfl;exact hh)|(refine bB (f:=349) rfl rfl (FnP.msub (pG ⟨3,0,t.text⟩ toks A cap fin g p _ B cb (.ok (0,p.skip.put (l6 t))) _ w0 hc hl hat (by dsimp only;rw [if_neg (by rw [ht];omega)];simp [l6,hk])) (MSub.pick pK (MSub.pick pK (MSub.pick pK (MSub.refl _))))) ?_ ?_)|(rintro _ _ ⟨rfl,n,p',lv',B',cb',h,h2,rfl⟩)|(rintro _ _ ⟨e,h,rfl,h3⟩;cases h)|refine sT ?_|refine sP ?_|refine sM fun _=> ?_|(refine sC ?_ ?_<;>intro hb<;>try omega)|fail)
      all_goals first
        |(exfalso;omega)
        | (refine ep (B' := B') (cb' := cb') (by first | exact .inr rfl | exact .inl rfl) rfl h h2 ?_
           simp only [NN,NF,NH,pB]
           exact mS)
    · repeat' (first|(apply aa (f:=206);exact rfl;exact rfl;exact hh)|(refine bB (f:=349) rfl rfl (FnP.msub (pG ⟨2,t.num,au⟩ toks A cap fin g p _ B cb (.ok (0,p.skip.put (l6 t))) _ w0 hc hl hat (by dsimp only;rw [if_neg (by rw [ht];omega)];simp [l6,hk])) (MSub.pick pK (MSub.pick pK (MSub.pick pK (MSub.refl _))))) ?_ ?_)|(rintro _ _ ⟨rfl,n,p',lv',B',cb',h,h2,rfl⟩)|(rintro _ _ ⟨e,h,rfl,h3⟩;cases h)|refine sT ?_|refine sP ?_|refine sM fun _=> ?_|(refine sC ?_ ?_<;>intro hb<;>try omega)|fail)
      all_goals first
        |(exfalso;omega)
        | (refine ep (B' := B') (cb' := cb') (by first | exact .inr rfl | exact .inl rfl) rfl h h2 ?_
           simp only [NN,NF,NH,pB]
           exact mS)
    · repeat' (first|(apply aa (f:=206);exact rfl;exact rfl;exact hh)|(refine bB (f:=349) rfl rfl (FnP.msub (pG ⟨4,t.num,au⟩ toks A cap fin g p _ B cb (.ok (0,p.skip.put (l6 t))) _ w0 hc hl hat (by dsimp only;rw [if_neg (by rw [ht];omega)];simp [l6,hk])) (MSub.pick pK (MSub.pick pK (MSub.pick pK (MSub.refl _))))) ?_ ?_)|(rintro _ _ ⟨rfl,n,p',lv',B',cb',h,h2,rfl⟩)|(rintro _ _ ⟨e,h,rfl,h3⟩;cases h)|refine sT ?_|refine sP ?_|refine sM fun _=> ?_|(refine sC ?_ ?_<;>intro hb<;>try omega)|fail)
      all_goals first
        |(exfalso;omega)
        | (refine ep (B' := B') (cb' := cb') (by first | exact .inr rfl | exact .inl rfl) rfl h h2 ?_
           simp only [NN,NF,NH,pB]
           exact mS)
  rw [if_neg h14] at hrun
  by_cases h5:t.kind=5
  · rw [if_pos h5] at hrun
    cases hrun
    repeat' (first|(apply aa (f:=206);exact rfl;exact rfl;exact hh)|(apply aw (f:=292);exact rfl;exact rfl;exact hat.skip hc (c:=5) (by rw [ht];exact h5) (by decide) (MSub.pick pK (MSub.pick pK (MSub.pick pK (MSub.refl _))));rintro _ _ ⟨rfl,lv1,h1,rfl⟩)|(apply aw (f:=293);exact rfl;exact rfl;exact FnIn.msub (kp ⟨2,bK,t.rect,0,0,0⟩ _ _ _ _ _ _ _ _ _ (At.len hat hl) _ _) (MSub.pick pK (MSub.pick pK (MSub.pick pK (MSub.refl _))));rintro _ _ ⟨rfl,B3,cb3,rfl⟩)|refine sT ?_|refine sP ?_|refine sM fun _=> ?_|(refine sC ?_ ?_<;>intro hb<;>try omega)|fail)
    all_goals first
      |(exfalso;omega)
      | (refine ep (p' := p.skip.put ⟨2, bK, t.rect, 0, 0, 0⟩) (B' := B3) (cb' := cb3) (by first | exact .inr rfl | exact .inl rfl) rfl rfl (h1.put _) ?_
         simp only [NN,NF,NH,pB]
         exact mS)
  rw [if_neg h5] at hrun
  by_cases h9:t.kind=9
  · rw [if_pos h9] at hrun
    obtain ⟨r1,hr1,hr2⟩:=bD hrun
    repeat' (first|(apply aa (f:=206);exact rfl;exact rfl;exact hh)|(apply aw (f:=292);exact rfl;exact rfl;exact hat.skip hc (c:=9) (by rw [ht];exact h9) (by decide) (MSub.pick pK (MSub.pick pK (MSub.pick pK (MSub.refl _))));rintro _ _ ⟨rfl,lv1,h1,rfl⟩)|(refine bB (f:=205) rfl rfl (FnP.msub (ih f (NJ _) toks A cap fin g p.skip _ B cb r1 _ w0 hc hl (At1.at h1) hr1) (MSub.pick pK (MSub.pick pK (MSub.pick pK (MSub.refl _))))) ?_ ?_)|(rintro _ _ ⟨rfl,n,p',lv',B',cb',rfl,h2,rfl⟩)|(rintro _ _ ⟨e,rfl,rfl,h3⟩)|(rcases hr2 with ⟨e,h,_⟩|⟨n1,p1,h,hw⟩;cases h;cases h;refine bB (f:=350) rfl rfl (FnP.msub (xw 10 (by decide) toks A cap fin g p' _ B' cb' r _ w0 hc hl h2 hw) (MSub.pick pK (MSub.pick pK (MSub.pick pK (MSub.refl _))))) ?_ ?_)|refine sT ?_|refine sP ?_|refine sM fun _=> ?_|(refine sC ?_ ?_<;>intro hb<;>try omega)|fail)
    · refine ep (B' :=B') (cb' :=cb') (by first|exact .inr rfl|exact .inl rfl) rfl rfl h2 ?_
      simp only [NN,NF,NH,pB]
      exact mS
    · exact cO rfl (MSub.trans (.drop .hd (.refl _)) h3)
    · rcases hr2 with ⟨e',h,h5⟩|⟨n1,p1,h,h5⟩
      · cases h
        exact cO h5 (MSub.trans (.drop .hd (.refl _)) h3)
      · cases h
  rw [if_neg h9,if_neg h7] at hrun
  cases hrun
  repeat' (first|(apply aa (f:=206);exact rfl;exact rfl;exact hh)|(refine bB (f:=207) rfl rfl (iY _ _ _ _ _ (fun _ _=>False)) ?_ ?_)|(exact fun _ _ h=>h.elim)|(rintro _ _ ⟨rfl,rfl⟩)|refine sT ?_|refine sP ?_|refine sM fun _=> ?_|(refine sC ?_ ?_<;>intro hb<;>try omega)|fail)
  all_goals first
    |(exfalso;omega)
    | (refine cO rfl ?_
       simp only [NN,NF,NH,pB]
       exact mS)
theorem FL (f:Nat):(∀ k:Int,1≤k→k≤4→POK f (.level k) 248 [.int .i64 k])∧POK f .sign 289 []∧POK f .pct 316 []∧POK f .prim 335 []∧POK f (.level 1) 205 []:=by
 induction f using Nat.strongRecOn with
 |_ f ih=>
  cases f with
  |zero=>
   refine ⟨fun k _ _=> ?_,?_,?_,?_,?_⟩
   all_goals exact fun toks A cap fin g p lv B cb r R w0 hc hl hat h=>by cases h
  |succ f=>
   have hL: ∀ k:Int,1≤k→k≤4→POK (f+1) (.level k) 248 [.int .i64 k]:=fun k h1 h4=>
    IP f k h1 h4 (fun h3 f' hf' =>(ih f' (by omega)).1 (k+1) (by omega) (by omega)) (fun f' hf' =>(ih f' (by omega)).2.1)
   refine ⟨hL,Kn f (ih f (by omega)).2.1 (ih f (by omega)).2.2.1,CN f (ih f (by omega)).2.2.2.1,CK f (fun f' hf' =>(ih f' (by omega)).2.2.2.2),Dc (f+1) (hL 1 (by omega) (by omega))⟩
end Go.SL
namespace Go.SL
open Go Go.Proofs
attribute [local irreducible] W WL WQ WG WA WX WLI WR WT VOp RW thn blk bG scp bg bi bT aQ FnIn FnP
theorem ED (p2 p3 p4:Value) (w0:World) (H:List Blk):FnD Tryz.prog 204 [p2,p3,p4] .returning w0 H H:=by
 refine Nj Tryz.func204 rfl rfl Tryz.ntmps204 rfl rfl (.inl ⟨rfl,rfl⟩) ?_
 repeat' (first|(apply ak;exact rfl;apply Kb;exact rfl)|refine sT ?_|refine sM fun _=> ?_|(refine sC ?_ ?_<;>intro hb<;>try omega)|fail)
 all_goals exact ⟨by first|exact .inl rfl|exact .inr rfl,.refl _⟩
theorem EE (g2 g3 g4:Nat) (x2 x3 x4:Value) (e:Int × Int) (w0:World) (R:List Blk):
  FnD Tryz.prog 204 [.pointer (some ⟨g2,0,none⟩),.pointer (some ⟨g3,0,none⟩),.pointer (some ⟨g4,0,none⟩)] (.panicking (jl (yp e))) w0
   (.box g2 86 [x2]:: .box g3 3 [x3]:: .box g4 30 [x4]::R)
   (.box g2 86 [.slice none 0 0]:: .box g3 3 [.int .i64 e.1]:: .box g4 30 [.int .i64 e.2]::R):=by
 refine Nj Tryz.func204 rfl rfl Tryz.ntmps204 rfl rfl (.inr rfl) ?_
 repeat' (first|(apply ak;exact rfl;apply Ka;exact rfl)|(apply ak;exact rfl;apply xA;exact rfl;exact rfl)|(rename_i g;refine y6 (id:=7) [⟨4,g2,86,x2,.slice none 0 0⟩,⟨5,g3,3,x3,.int .i64 e.1⟩,⟨6,g4,30,x4,.int .i64 e.2⟩] (.box g 290 [.int .i64 e.1,.int .i64 e.2]::R) (by kernel_rfl) (by kernel_rfl) rfl mS ?_)|(apply J4;exact rfl;exact rfl;(exact vC))|(refine nQ [] [⟨5,g3,3,x3,.int .i64 e.1⟩,⟨6,g4,30,x4,.int .i64 e.2⟩] ⟨4,g2,86,x2,.slice none 0 0⟩ rfl rfl rfl rfl rfl rfl ?_)|(refine nQ [⟨4,g2,86,x2,.slice none 0 0⟩] [⟨6,g4,30,x4,.int .i64 e.2⟩] ⟨5,g3,3,x3,.int .i64 e.1⟩ rfl rfl rfl rfl rfl rfl ?_)|(refine nQ [⟨4,g2,86,x2,.slice none 0 0⟩,⟨5,g3,3,x3,.int .i64 e.1⟩] [] ⟨6,g4,30,x4,.int .i64 e.2⟩ rfl rfl rfl rfl rfl rfl ?_)|apply xu|refine sT ?_|refine sG ?_|refine sM fun _=> ?_|(refine sC ?_ ?_<;>intro hb<;>try omega)|fail)
 refine ⟨.inr rfl,?_⟩
 simp only [Ow,Pe,BoxT.post,NF,NH]
 exact mS
def df (x:List Tk × Int × Int) (fin:Int):List Nd × Int × Int:=
 if x.2.2≠0 then ([],x.2.1,x.2.2)
 else match bE fin (20*x.1.length+40) (.level 1) ⟨x.1,[]⟩ with
  |none=>([],0,0)
  |some (.error (a,e))=>([],a,e)
  |some (.ok (_,p))=>
   if (hdT fin p.l).kind≠0 then ([],(hdT fin p.l).at_,4)
   else if kV p.out≠0 then ([],0,kV p.out)
   else (p.out,0,0)
theorem zk {tk:List Int→Option (Tk × Nat)} {l:List Int} (f:Nat): ∀ (i:Nat) (r:List Tk),ba tk l f i= .ok r→r.length≤f:=by
 induction f with
 |zero=>intro i r h;simp only [ba,Except.ok.injEq] at h;subst h;exact NJ _
 |succ f ih=>
  intro i r h
  simp only [ba] at h
  split at h
  ·
   cases h;exact NY _
  ·
   split at h
   ·
    exact Qd (ih _ _ h)
   ·
    split at h
    ·
     cases h
    ·
     rename_i t n _
     cases hr:ba tk l f (i+n) with
     |error e=>rw [hr] at h;cases h
     |ok r' =>
      rw [hr] at h
      cases h
      exact Nat.succ_le_succ (ih _ _ hr)
theorem rp (tk:List Int→Option (Tk × Nat)) (l:List Int):(bL tk l).1.length≤256:=by
 unfold bL
 split
 ·
  exact NY _
 ·
  split
  ·
   exact NY _
  ·
   split
   ·
    rename_i h
    have:=zk _ _ _ h
    dsimp only
    omega
   ·
    exact NY _
theorem At.start (toks:List Tk) (A:Option Nat) (cap:Nat):At toks A cap ⟨toks,[]⟩ (sl A toks.length cap):=
 ⟨0,NY _,rfl,NJ _,A.map fun g=>⟨g,0,none⟩,by simp [sl],fun _=>by simp⟩
def Eo (A:Option Nat) (cap:Nat) (r:List Nd × Int × Int):Value:= .tuple #[sl A r.1.length cap,.int .i64 r.2.1,.int .i64 r.2.2]
set_option maxHeartbeats 4000000 in
theorem DH (a:ByteArray) (w:World) (hW:Words w) (r:List Nd × Int × Int) (hr:r=df (bL dZ (ap a)) (a.size:Int)):
  aQ Tryz.prog 153 [.string a] w fun v H=> ∃ A cap,v=Eo A cap r∧H= [.own A 174 11 r.1.length cap (r.1.flatMap cj)]:=by
 refine KV Tryz.func153 rfl Tryz.ntmps153 rfl ?_
 have htl:=rp dZ (ap a)
 have hT:=fun w' (hm:Σ' H,Mem w w' H)=>Gz a w' (hW.next hm.2)
 obtain ⟨⟨toks,at0,e0⟩,hx⟩: ∃ x,bL dZ (ap a)=x:=⟨_,rfl⟩
 rw [hx] at hr htl
 simp only [hx,Ep] at hT
 dsimp only at htl
 refine wy 174 11 ?_
 refine wy 174 11 ?_
 refine HO (fun e a w _ h=>Jt h) ?_
 obtain ⟨r1,hr1,_⟩:=wA (a.size:Int) (20*toks.length+40) (.level 1) ⟨toks,[]⟩ ⟨by omega,by omega⟩ (by simp [Job.c])
 have hP: ∀ (A:Option Nat) (cap g:Nat) (R:List Blk),toks.length≤cap→FnP Tryz.prog 205 [.pointer (some ⟨g,0,none⟩)] w (pB g (sl A toks.length cap) A cap (a.size:Int) toks none 0 []++R) (PR toks A cap (a.size:Int) g R r1) (PD R r1):=fun A cap g R hc=>
  (FL (20*toks.length+40)).2.2.2.2 toks A cap (a.size:Int) g ⟨toks,[]⟩ (sl A toks.length cap) none 0 r1 R w hc (by omega) (At.start toks A cap) hr1
 obtain ⟨ff,hff⟩: ∃ ff,20*toks.length+40=ff:=⟨_,rfl⟩
 rw [hff] at hr1
 repeat' (first|(apply aG (f:=203);exact rfl;exact rfl;exact fun w' hm=>hT w' ⟨_,hm⟩;rintro _ _ ⟨A,cap,rfl,rfl⟩)|(rename_i g2 g3 g4;refine HP (cs:= [_,_,_]) rfl rfl ?_)|(refine HO (fun e a w _ h=>Jt h) ?_)|(refine L8 (fun e a w h=>Mx h) ?_)|(rename_i g2 g3 g4;refine y6 (id:=3) [⟨2,g2,86,.slice none 0 0,.slice none 0 0⟩,⟨3,g3,3,.int .i64 at0,.int .i64 at0⟩,⟨4,g4,30,.int .i64 e0,.int .i64 e0⟩] [.own none 174 11 0 0 []] (by kernel_rfl) (by kernel_rfl) rfl mS ?_)|(refine nQ [] [⟨3,g3,3,.int .i64 at0,.int .i64 at0⟩,⟨4,g4,30,.int .i64 e0,.int .i64 e0⟩] ⟨2,g2,86,.slice none 0 0,.slice none 0 0⟩ rfl rfl rfl rfl rfl rfl ?_)|(refine nQ [⟨2,g2,86,.slice none 0 0,.slice none 0 0⟩] [⟨4,g4,30,.int .i64 e0,.int .i64 e0⟩] ⟨3,g3,3,.int .i64 at0,.int .i64 at0⟩ rfl rfl rfl rfl rfl rfl ?_)|(refine nQ [⟨2,g2,86,.slice none 0 0,.slice none 0 0⟩,⟨3,g3,3,.int .i64 at0,.int .i64 at0⟩] [] ⟨4,g4,30,.int .i64 e0,.int .i64 e0⟩ rfl rfl rfl rfl rfl rfl ?_)|(refine DX ⟨3,g3,3,.int .i64 at0,.int .i64 at0⟩ (.tail _ (.head _)) (f:=60) (j:=3) rfl (by decide+kernel) rfl rfl rfl ?_)|(refine DX ⟨4,g4,30,.int .i64 e0,.int .i64 e0⟩ (.tail _ (.tail _ (.head _))) (f:=60) (j:=4) rfl (by decide+kernel) rfl rfl rfl ?_)|apply xu|(apply ak;exact rfl;apply lQ;exact rfl)|(apply ak;exact rfl;apply tC;exact rfl)|(apply E6 (f:=205);exact rfl;exact rfl;infer_instance;exact rfl;rename_i gp;exact FnP.own (A:=A) pK (fun hcap=>FnP.msub (hP A cap _ _ hcap) (MSub.pick pK (MSub.pick pK (MSub.pick pK (MSub.refl _))))))|(rintro _ _ ⟨rfl,n,p',lv',B',cb',rfl,h2,rfl⟩;obtain ⟨u,hu⟩: ∃ u,hdT (a.size:Int) p'.l=u:=⟨_,rfl⟩)|(rintro _ _ ⟨e,rfl,rfl,h3⟩)|(apply aa (f:=206);exact rfl;exact rfl;(intro w' hm';exact At.head' (B:=B') (cb:=cb') (out:=p'.out) (fin:=(a.size:Int)) h2 hu (MSub.pick pK (MSub.pick pK (MSub.pick pK (MSub.nil _)))) w' hm'))|(apply aa (f:=180);exact rfl;exact rfl;(intro w' hm';exact JX p'.out _ w' (Reads.of_own (A:=B') hm' pK)))|(refine bB (f:=207) rfl rfl (iY _ _ _ _ _ (fun _ _=>False)) ?_ ?_)|(exact fun _ _ h=>h.elim)|(rintro _ _ ⟨rfl,rfl⟩)|refine sT ?_|refine sP ?_|refine sG ?_|refine sM fun _=> ?_|(refine sC ?_ ?_<;>intro hb<;>try omega)|fail)
 ·
  have hr' :r=([],at0,e0):=by rw [hr];simp [df,hb]
  subst hr'
  simp only [Ow,Pe,BoxT.post,NF,NH]
  exact pU (.inl rfl) rfl rfl pK rfl pK rfl pK (H' := [.own none 174 11 0 0 []]) mS ⟨none,0,rfl,rfl⟩
 ·
  rename_i he0 gp _ u0 hu0 g1
  have hr' :r=([],u0.at_,4):=by rw [hr];simp [df,hff,hr1,hu0,hb,Classical.not_not.1 he0]
  subst hr'
  refine ⟨_,.box g2 86 [.slice none 0 0]:: .box g3 3 [.int .i64 at0]:: .box g4 30 [.int .i64 e0]:: [.own none 174 11 0 0 []],_,rfl,?_,EE g2 g3 g4 _ _ _ (u0.at_,4) w _,pU (.inl rfl) rfl rfl pK rfl pK rfl pK (H' := [.own none 174 11 0 0 []]) mS ⟨none,0,rfl,rfl⟩⟩
  simp only [NN,NF,NH,pB]
  exact mS
 ·
  rename_i he0 gp _ g1 hb1
  have hr' :r=([],0,kV p'.out):=by rw [hr];simp [df,hff,hr1,hu,Classical.not_not.1 hb1,hb,Classical.not_not.1 he0]
  subst hr'
  exact ⟨.returning,_,_,rfl,.refl _,ED _ _ _ _ _,pU (.inl rfl) rfl rfl pK rfl pK rfl pK (H' := [.own none 174 11 0 0 []]) mS ⟨none,0,rfl,rfl⟩⟩
 ·
  rename_i he0 gp _ g1 hb1
  have hr' :r=(p'.out,0,0):=by rw [hr];simp [df,hff,hr1,hu,Classical.not_not.1 hb1,Classical.not_not.1 hb,Classical.not_not.1 he0]
  subst hr'
  exact ⟨.returning,_,_,rfl,.refl _,ED _ _ _ _ _,pU (.inl rfl) rfl rfl pK rfl pK rfl pK (H' := [.own B' 174 11 p'.out.length cb' (p'.out.flatMap cj)]) mS ⟨B',cb',rfl,rfl⟩⟩
 ·
  have hr' :r=([],e.1,e.2):=by rw [hr];simp [df,hff,hr1,Classical.not_not.1 hb]
  subst hr'
  refine ⟨_,.box g2 86 [.slice none 0 0]:: .box g3 3 [.int .i64 at0]:: .box g4 30 [.int .i64 e0]:: [.own none 174 11 0 0 []],_,rfl,MSub.trans ?_ h3,EE g2 g3 g4 _ _ _ e w _,pU (.inl rfl) rfl rfl pK rfl pK rfl pK (H' := [.own none 174 11 0 0 []]) mS ⟨none,0,rfl,rfl⟩⟩
  exact mS
def qj (a b:ByteArray):ByteArray × Bool:=if (ap a).take b.size=ap b then (sub a b.size a.size,true) else (a,false)
theorem K7 (a b:ByteArray) (ha:a.size≤1000000) (w:World):ax Tryz.prog 192 [.string a,.string b] w (.tuple #[.string (qj a b).1,.bool (qj a b).2]):=by
 refine aq Tryz.func192 rfl Tryz.ntmps192 rfl ?_
 have hp:=oQ a b
 unfold qj
 by_cases h:(ap a).take b.size=ap b
 ·
  rw [if_pos h]
  rw [decide_eq_true h] at hp
  have hb:b.size≤a.size:=by
   have:=congrArg List.length h
   rw [NZ,av,av] at this
   omega
  repeat' (first|(apply aa;exact rfl;exact rfl;(intro w hm;exact hp w))|refine sT ?_|refine sT2 ?_|refine sM fun _=> ?_|(refine sC ?_ ?_<;>intro hb<;>try omega)|fail)
  all_goals exact jh eIO rfl rfl rfl (.refl _) rfl
 ·
  rw [if_neg h]
  rw [decide_eq_false h] at hp
  repeat' (first|(apply aa;exact rfl;exact rfl;(intro w hm;exact hp w))|refine sT ?_|refine sT2 ?_|refine sM fun _=> ?_|(refine sC ?_ ?_<;>intro hb<;>try omega)|fail)
  all_goals exact jh eIO rfl rfl rfl (.refl _) rfl
theorem Ju (a b:ByteArray) (ha:a.size≤1000000) (w:World):ax Tryz.prog 151 [.string a,.string b] w (.tuple #[.string (qj a b).1,.bool (qj a b).2]):=by
 refine aq Tryz.func151 rfl Tryz.ntmps151 rfl ?_
 repeat' (first|(apply aa;exact rfl;exact rfl;(intro w hm;exact K7 a b ha w))|refine sT ?_|refine sM fun _=> ?_|(refine sC ?_ ?_<;>intro hb<;>try omega)|fail)
 all_goals exact jh eIO rfl rfl rfl (.refl _) rfl
def Kk (b:ByteArray):Vl × Bool:=(bK,decide (b=au))
def uh:ByteArray:=⟨#[39]⟩
def Ki (b:ByteArray):Vl × Bool:=(⟨3,0,(qj b uh).1⟩,(qj b uh).2)
def HF (b:ByteArray):Vl × Bool:=(iE ⟨3,0,b⟩,decide ((iE ⟨3,0,b⟩).kind=2))
def Ce (b:ByteArray):Vl × Bool:=(fW (gZ b).1,decide ((gZ b).2=0) && decide ((gZ b).1≤5))
def Fm (b:ByteArray):Vl × Bool:=if (gC (ap b)).2=3 then (fW 3,true) else (uA (gC (ap b)).1,decide ((gC (ap b)).2=0))
def zf (x:Vl × Bool):Value:= .tuple #[.agg (dx x.1).toArray,.bool x.2]
theorem Kj (b:ByteArray) (g:Nat) (w:World) (hr:Ro w g 0 [.string b]):ax Tryz.prog 193 [.pointer (some ⟨g,0,none⟩)] w (zf (Kk b)):=by
 refine aq Tryz.func193 rfl Tryz.ntmps193 rfl ?_
 have hm:Mem w w []:=Mem.refl w
 repeat' (first|(rename_i g1;refine nU (id:=1) 3 [.box g1 172 (dx bK)] (by kernel_rfl) (by kernel_rfl) rfl ?_)|(apply E8;exact rfl;(intro D ht;apply aH (o:=0) (off:=0);exact hr;exact rfl;exact rfl);exact fun _=>rfl)|(apply mF;exact rfl;exact rfl;exact pK;(iterate 3 exact rfl);decide;exact .refl _)|refine sT ?_|refine sG ?_|refine sM fun _=> ?_|(refine sC ?_ ?_<;>intro hb<;>try omega)|fail)
 all_goals ((refine eV ?_);rfl)
theorem Kh (b:ByteArray) (hb:b.size≤1000000) (g:Nat) (w:World) (hr:Ro w g 0 [.string b]):ax Tryz.prog 194 [.pointer (some ⟨g,0,none⟩)] w (zf (Ki b)):=by
 refine aq Tryz.func194 rfl Tryz.ntmps194 rfl ?_
 repeat' (first|(apply ak;exact rfl;apply aH (o:=0) (off:=0);exact hr;exact rfl;exact rfl)|(apply aa;exact rfl;exact rfl;(intro w hm;exact Ju b uh hb w))|refine sT ?_|refine sM fun _=> ?_|(refine sC ?_ ?_<;>intro hb<;>try omega)|fail)
 all_goals ((refine eV ?_);rfl)
theorem Kg (b:ByteArray) (hb:b.size≤1000000) (g:Nat) (w:World) (hr:Ro w g 0 [.string b]):ax Tryz.prog 195 [.pointer (some ⟨g,0,none⟩)] w (zf (HF b)):=by
 refine aq Tryz.func195 rfl Tryz.ntmps195 rfl ?_
 have hT:=fun w' =>GA ⟨3,0,b⟩ rfl hb w'
 unfold HF
 generalize iE ⟨3,0,b⟩=v at hT
 repeat' (first|(apply ak;exact rfl;apply aH (o:=0) (off:=0);exact hr;exact rfl;exact rfl)|(apply aa;exact rfl;exact rfl;(intro w hm;exact hT w))|(rename_i g1 g2;refine xy (id:=2) (g:=g1) (T:=172) (xs' :=dx v) (R:= [.box g2 172 (dx v)]) (fun D=> [if D 4 then .int .u8 v.kind else .int .u8 0,if D 4 then .int .i64 v.num else .int .i64 0,if D 4 then .string v.text else .string au]) (by kernel_rfl) (by kernel_rfl) pK rfl (by intro D hD;simp [hD 4 (by decide),dx]) ?_)|refine sT ?_|refine sG ?_|refine sM fun _=> ?_|(refine sC ?_ ?_<;>intro hb<;>try omega)|fail)
 all_goals ((refine eV ?_);rfl)
theorem Kf (b:ByteArray) (hb:b.size≤1000000) (g:Nat) (w:World) (hr:Ro w g 0 [.string b]) (hW:Words w):ax Tryz.prog 197 [.pointer (some ⟨g,0,none⟩)] w (zf (Ce b)):=by
 refine aq Tryz.func197 rfl Tryz.ntmps197 rfl ?_
 unfold Ce
 have hC:=fun (w' :World) (h:Words w')=>Ls b hb w' h
 generalize gZ b=x at hC
 obtain ⟨c,e⟩:=x
 repeat' (first|(apply ak;exact rfl;apply aH (o:=0) (off:=0);exact hr;exact rfl;exact rfl)|(apply aa (f:=198);exact rfl;exact rfl;(intro w' hm';exact hC w' (hW.next hm')))|(apply aa (f:=199);exact rfl;exact rfl;(intro w' hm';exact mq c w'))|refine sT ?_|refine sM fun _=> ?_|(refine sC ?_ ?_<;>intro hb<;>try omega)|fail)
 all_goals ((refine eV ?_);simp_all [zf,dx])
theorem Ke (b:ByteArray) (hb:b.size≤1000000) (g:Nat) (w:World) (hr:Ro w g 0 [.string b]):ax Tryz.prog 200 [.pointer (some ⟨g,0,none⟩)] w (zf (Fm b)):=by
 refine aq Tryz.func200 rfl Tryz.ntmps200 rfl ?_
 unfold Fm
 have hC:=fun (w' :World)=>rM b hb w'
 generalize gC (ap b)=x at hC
 obtain ⟨n,e⟩:=x
 repeat' (first|(apply ak;exact rfl;apply aH (o:=0) (off:=0);exact hr;exact rfl;exact rfl)|(apply aa;exact rfl;exact rfl;(intro w hm;exact hC w))|(apply aa (f:=199);exact rfl;exact rfl;(intro w' hm';exact mq 3 w'))|(apply aa (f:=202);exact rfl;exact rfl;(intro w' hm';exact Ln n w'))|refine sT ?_|refine sM fun _=> ?_|(refine sC ?_ ?_<;>intro hb<;>try omega)|fail)
 all_goals ((refine eV ?_);simp_all [zf,dx])
def ET:List Nat:= [193,194,195,197,200]
def tO:List (ByteArray→Vl × Bool):= [Kk,Ki,HF,Ce,Fm]
def eG (b:ByteArray):List (ByteArray→Vl × Bool)→Vl
 | []=>⟨3,0,b⟩
 |t::r=>if (t b).2 then (t b).1 else eG b r
def qU (b:ByteArray):Vl:=eG b tO
theorem HH (b:ByteArray) (hb:b.size≤1000000) (g k:Nat) (hk:k<5): ∃ f t,tO.drop k=t::tO.drop (k+1)∧(ET.map fun f=>Value.func (.func f) #[] #[.pointer (some ⟨g,0,none⟩)])[k]? =some (.func (.func f) #[] #[.pointer (some ⟨g,0,none⟩)])∧Callable Tryz.prog f∧
  ∀ w,Ro w g 0 [.string b]→Words w→ax Tryz.prog f [.pointer (some ⟨g,0,none⟩)] w (zf (t b)):=by
 rcases (by omega:k=0∨k=1∨k=2∨k=3∨k=4) with rfl|rfl|rfl|rfl|rfl
 ·
  exact ⟨_,_,rfl,rfl,inferInstance,fun w hr _=>Kj b g w hr⟩
 ·
  exact ⟨_,_,rfl,rfl,inferInstance,fun w hr _=>Kh b hb g w hr⟩
 ·
  exact ⟨_,_,rfl,rfl,inferInstance,fun w hr _=>Kg b hb g w hr⟩
 ·
  exact ⟨_,_,rfl,rfl,inferInstance,fun w hr hW=>Kf b hb g w hr hW⟩
 ·
  exact ⟨_,_,rfl,rfl,inferInstance,fun w hr _=>Ke b hb g w hr⟩
set_option maxHeartbeats 1000000 in
theorem Bf (b:ByteArray) (hb:b.size≤1000000) (w:World) (hW:Words w):ax Tryz.prog 152 [.string b] w (.agg (dx (qU b)).toArray):=by
 refine aq Tryz.func152 rfl Tryz.ntmps152 rfl ?_
 repeat' (first|refine sT ?_|refine sS ?_|refine sM fun _=> ?_|(refine sC ?_ ?_<;>intro hb<;>try omega)|fail)
 rename_i g1 g2 g3
 refine ay [1,2,13,14] rfl (fun x:Nat × Vl=> [(4,.bool false),(15,.int .i64 (x.1:Int))]) (fun x=> [.own (some g3) 279 1 5 5 (ET.map fun f=>Value.func (.func f) #[] #[.pointer (some ⟨g1,0,none⟩)]),.box g2 172 (dx x.2),.box g1 9 [.string b]]) (fun x=>x.1≤5∧qU b=eG b (tO.drop x.1)) (fun x=>5 - x.1) (0,bK) ⟨by omega,rfl⟩ sB mS ?_
 rintro ⟨k,v⟩ ⟨hk,hkt⟩
 dsimp only at hk hkt ⊢
 by_cases hk5:k<5
 ·
  obtain ⟨f,t,r1,r2,r3,r4⟩:=HH b hb g1 k hk5
  rw [r1,eG] at hkt
  obtain ⟨⟨v',is⟩,ht⟩: ∃ x,t b=x:=⟨_,rfl⟩
  rw [ht] at hkt r4
  cases is with
  |true=>
   rw [if_pos rfl] at hkt
   repeat' (first|(apply ak;exact rfl;apply aj (j:=k);exact rfl;exact rfl;exact hk5)|(apply ak;exact rfl;apply bF (off:=0+k*1);exact rfl;exact pK;(rw [N7,Pw];exact r2))|(apply bH;exact rfl;exact rfl;exact r3;exact rfl;(intro w' hm;exact r4 w' (Ro.of_box hm pK) (hW.next hm)))|refine sT ?_|refine sS ?_|refine sN ?_|refine sM fun _=> ?_|(refine sC ?_ ?_<;>intro hb<;>try omega)|fail)
   all_goals (rw [hkt];(refine eRC ?_);rfl)
  |false=>
   rw [if_neg (by simp)] at hkt
   repeat' (first|(apply ak;exact rfl;apply aj (j:=k);exact rfl;exact rfl;exact hk5)|(apply ak;exact rfl;apply bF (off:=0+k*1);exact rfl;exact pK;(rw [N7,Pw];exact r2))|(apply bH;exact rfl;exact rfl;exact r3;exact rfl;(intro w' hm;exact r4 w' (Ro.of_box hm pK) (hW.next hm)))|refine sT ?_|refine sS ?_|refine sN ?_|refine sM fun _=> ?_|(refine sC ?_ ?_<;>intro hb<;>try omega)|fail)
   refine ⟨(k+1,v'),?_,(by first|omega|(dsimp only;omega)),sB,sB,mS⟩
   exact ⟨hk5,hkt⟩
 ·
  have e:k=5:=by omega
  subst e
  have hkt:qU b=⟨3,0,b⟩:=hkt
  rw [hkt]
  repeat' (first|refine sT ?_|refine sS ?_|refine sN ?_|refine sM fun _=> ?_|(refine sC ?_ ?_<;>intro hb<;>try omega)|fail)
  all_goals first|(exfalso;omega)|((refine eRC ?_);rfl)
end Go.SL
