/-
  Lemmas and walks, put together: Px3 C2 C3 C4.
-/
import Derived.Test.YthefeclkaaocnaaGreatDoorKb12
set_option linter.unusedSimpArgs false
set_option linter.unusedVariables false
set_option maxRecDepth 20000
namespace Go.SL
open Go
structure Grew (p p' :PS) (strict:Prop):Prop where
 tok: ∃ m,p'.l=p.l.drop m∧m≤p.l.length∧p'.out.length≤p.out.length+m
 out:p.out.length≤p'.out.length
 some:strict→p.out.length<p'.out.length
theorem Grew.refl (p:PS) {q:Prop} (h: ¬ q):Grew p p q:=⟨⟨0,rfl,Nat.zero_le _,Nat.le_refl _⟩,Nat.le_refl _,fun hq=>(h hq).elim⟩
theorem Grew.trans {p p' p2:PS} {q q' q2:Prop} (h:Grew p p' q) (k:Grew p' p2 q') (hq:q2→q∨q'):Grew p p2 q2:=by
 obtain ⟨⟨m,h1,h2,h3⟩,h4,h5⟩:=h
 obtain ⟨⟨n,k1,k2,k3⟩,k4,k5⟩:=k
 refine ⟨⟨m+n,by rw [k1,h1,List.drop_drop],?_,by omega⟩,by omega,fun hh=> ?_⟩
 ·
  rw [h1,List.length_drop] at k2;omega
 ·
  rcases hq hh with h|h
  ·
   have:=h5 h;omega
  ·
   have:=k5 h;omega
theorem Grew.step (p:PS) (n:Nd) (h:0<p.l.length) {q:Prop}:Grew p (p.skip.put n) q:=
 ⟨⟨1,by simp [PS.skip,PS.put],h,by simp [PS.skip,PS.put]⟩,by simp [PS.skip,PS.put],fun _=>by simp [PS.skip,PS.put]⟩
theorem Grew.skip (p:PS) (h:0<p.l.length) {q:Prop} (hq: ¬ q):Grew p p.skip q:=
 ⟨⟨1,by simp [PS.skip],h,by simp [PS.skip]⟩,by simp [PS.skip],fun hh=>(hq hh).elim⟩
theorem Grew.wrap {p p' :PS} {q q' :Prop} (h0:0<p.l.length) (h:Grew p.skip p' q) (n:Nd):Grew p (p'.put n) q' :=by
 obtain ⟨⟨m,h1,h2,h3⟩,h4,h5⟩:=h
 simp only [PS.skip] at h1 h2 h3 h4
 refine ⟨⟨1+m,?_,?_,?_⟩,?_,fun _=> ?_⟩
 ·
  simp only [PS.put];rw [h1,← List.drop_one,List.drop_drop]
 ·
  rw [List.length_tail] at h2;omega
 ·
  simp only [PS.put,List.length_append,List.length_singleton];omega
 ·
  simp only [PS.put,List.length_append,List.length_singleton];omega
 ·
  simp only [PS.put,List.length_append,List.length_singleton];omega
theorem thenP_ok {r:Option Out} {k:Nat→PS→Option Out} {x:Nat × PS} (h:thenP r k=some (.ok x)): ∃ n p',r=some (.ok (n,p'))∧k n p' =some (.ok x):=by
 unfold thenP at h
 split at h
 ·
  exact ⟨_,_,rfl,h⟩
 ·
  rename_i h1
  obtain ⟨n,p'⟩:=x
  exact absurd h (h1 n p')
theorem hdP_ne {fin:Int} {l:List Tk} {c:Int} (h:(hdT fin l).kind=c) (hc:c≠0):0<l.length:=hdT_ne (fin:=fin) (by omega)
theorem endCall_grew {fin:Int} {name:Tk} {fn:Int} {n m:Nat} {p p' :PS} {q:Prop} (h:endCall fin name fn n p=some (.ok (m,p'))):Grew p p' q:=by
 unfold endCall at h
 dsimp only at h
 split at h
 ·
  cases h
 ·
  rename_i hk
  have hpos:=hdP_ne (Decidable.not_not.1 hk) (by decide)
  split at h
  ·
   cases h
  ·
   split at h
   ·
    cases h
   ·
    cases h
    exact .step p _ hpos
theorem runP_grew (fin:Int): ∀ (f:Nat) (j:Job) (p:PS) (n:Nat) (p' :PS),runP fin f j p=some (.ok (n,p'))→Grew p p' j.eats
 |0,_,_,_,_,h=>by cases h
 |f+1,j,p,n,p',h=>by
  have ih:=runP_grew fin f
  cases j with
  |level k=>
   rw [runP] at h
   split at h
   ·
    have g:=ih .sign _ _ _ h
    exact g
   ·
    obtain ⟨n1,p1,h1,h2⟩:=thenP_ok h
    exact (ih _ _ _ _ h1).trans (ih _ _ _ _ h2) fun _=> .inl trivial
  |loop k=>
   rw [runP] at h
   try dsimp only at h
   split at h
   ·
    rename_i hk
    have hpos:=hdP_ne hk.1 (by decide)
    obtain ⟨n1,p1,h1,h2⟩:=thenP_ok h
    exact ((ih _ _ _ _ h1).wrap (q' :=True) hpos _).trans (ih _ _ _ _ h2) fun _=> .inl trivial
   ·
    cases h
    exact .refl _ fun h=>h
  |sign=>
   rw [runP] at h
   try dsimp only at h
   split at h
   ·
    rename_i hk
    have hpos:=hdP_ne hk.1 (by decide)
    obtain ⟨n1,p1,h1,h2⟩:=thenP_ok h
    cases h2
    exact (ih _ _ _ _ h1).wrap hpos _
   ·
    obtain ⟨n1,p1,h1,h2⟩:=thenP_ok h
    split at h2
    ·
     rename_i hk
     have hpos:=hdP_ne hk.1 (by decide)
     obtain ⟨n2,p2,h3,h4⟩:=thenP_ok h2
     cases h4
     exact (ih _ _ _ _ h1).trans ((ih _ _ _ _ h3).wrap (q' :=True) hpos _) fun _=> .inl trivial
    ·
     cases h2
     have g:=ih .pct _ _ _ h1
     exact g
  |pct=>
   rw [runP] at h
   obtain ⟨n1,p1,h1,h2⟩:=thenP_ok h
   exact (ih _ _ _ _ h1).trans (ih _ _ _ _ h2) fun _=> .inl trivial
  |pctl=>
   rw [runP] at h
   try dsimp only at h
   split at h
   ·
    rename_i hk
    have hpos:=hdP_ne hk.1 (by decide)
    exact (Grew.step p _ hpos (q:=True)).trans (ih _ _ _ _ h) fun h=>h.elim
   ·
    cases h
    exact .refl _ fun h=>h
  |prim=>
   rw [runP] at h
   try dsimp only at h
   split at h
   ·
    rename_i hk
    cases h
    exact .step p _ (hdT_ne (fin:=fin) (by omega))
   ·
    split at h
    ·
     rename_i hk
     cases h
     exact .step p _ (hdP_ne hk (by decide))
    ·
     split at h
     ·
      rename_i hk
      have hpos:=hdP_ne hk (by decide)
      obtain ⟨n1,p1,h1,h2⟩:=thenP_ok h
      split at h2
      ·
       cases h2
      ·
       rename_i hu
       cases h2
       exact ((Grew.skip p hpos (q:=False) (fun h=>h)).trans (ih _ _ _ _ h1) (q2:=True) fun _=> .inr trivial).trans (Grew.skip p1 (hdP_ne (Decidable.not_not.1 hu) (by decide)) (q:=False) fun h=>h) fun _=> .inl trivial
     ·
      split at h
      ·
       rename_i hk
       have hpos:=hdP_ne hk (by decide)
       split at h
       ·
        cases h
       ·
        split at h
        ·
         cases h
        ·
         rename_i hu
         have hpos2:=hdP_ne (Decidable.not_not.1 hu) (by decide)
         have g1:=(Grew.skip p hpos (q:=False) (fun h=>h)).trans (Grew.skip p.skip hpos2 (q:=False) fun h=>h) (q2:=False) fun h=>h.elim
         split at h
         ·
          exact g1.trans (endCall_grew h (q:=True)) fun _=> .inr trivial
         ·
          obtain ⟨n1,p1,h1,h2⟩:=thenP_ok h
          exact (g1.trans (ih _ _ _ _ h1) (q2:=True) fun _=> .inr trivial).trans (endCall_grew h2 (q:=True)) fun _=> .inl trivial
      ·
       cases h
  |args fn i=>
   rw [runP] at h
   try dsimp only at h
   have hgo: ∀ p0:PS,(if (hdT fin p0.l).kind=11 then runP fin f (.args fn (i+1)) p0.skip else some (.ok (i+1,p0)))=some (.ok (n,p'))→Grew p0 p' False:=by
    intro p0 h0
    split at h0
    ·
     rename_i hk
     exact (Grew.skip p0 (hdP_ne hk (by decide)) (q:=False) (fun h=>h)).trans (ih _ _ _ _ h0) fun h=>h.elim
    ·
     cases h0
     exact .refl _ fun h=>h
   split at h
   ·
    obtain ⟨n1,p1,h1,h2⟩:=thenP_ok h
    exact (ih _ _ _ _ h1).trans (hgo p1 h2) fun _=> .inl trivial
   ·
    rename_i hk
    have hpos:=hdT_ne (fin:=fin) (l:=p.l) (by omega)
    split at h
    ·
     cases h
    ·
     exact (Grew.step p _ hpos (q:=True)).trans (hgo _ h) fun _=> .inl trivial
end Go.SL
namespace Go.SL
open Go Go.Proofs
attribute [local irreducible] W WL WQ WG WA WX WLI WR WT VOp thn blk cutP scp retP retPP endB FnAt FnIn FnP
def At (toks:List Tk) (A:Option Nat) (cap:Nat) (p:PS) (lv:Value):Prop:= ∃ k,k≤toks.length∧p.l=toks.drop k∧p.out.length≤k∧TkV lv A toks.length cap k
section
variable {toks:List Tk} {A:Option Nat} {cap:Nat} {fin:Int} {g:Nat}
def PR (toks:List Tk) (A:Option Nat) (cap:Nat) (fin:Int) (g:Nat) (R:List Blk) (r:Out) (v:Value) (H:List Blk):Prop:=v= .tuple #[]∧ ∃ n p' lv' B' cb',r= .ok (n,p')∧At toks A cap p' lv' ∧H=pB g lv' A cap fin toks B' cb' p'.out++R
def PD (R:List Blk) (r:Out) (v:Value) (H:List Blk):Prop:= ∃ e,r= .error e∧v=faultV e∧MSub R H
def POK (f:Nat) (j:Job) (fid:FuncId) (args:List Value):Prop:=
 ∀ (toks:List Tk) (A:Option Nat) (cap:Nat) (fin:Int) (g:Nat) (p:PS) (lv:Value) (B:Option Nat) (cb:Nat) (r:Out) (R:List Blk) (w0:World),toks.length≤cap→toks.length≤1000→At toks A cap p lv→runP fin f j p=some r→
  FnP Tryz.prog fid (.pointer (some ⟨g,0,none⟩)::args) w0 (pB g lv A cap fin toks B cb p.out++R) (PR toks A cap fin g R r) (PD R r)
theorem thenP_inv {o:Option Out} {k:Nat→PS→Option Out} {r:Out} (h:thenP o k=some r): ∃ r1,o=some r1∧((∃ e,r1= .error e∧r= .error e)∨(∃ n p',r1= .ok (n,p')∧k n p' =some r)):=by
 unfold thenP at h
 split at h
 ·
  rename_i n p'
  exact ⟨_,rfl,.inr ⟨n,p',rfl,h⟩⟩
 ·
  rename_i h1
  cases r with
  |error e=>exact ⟨_,h,.inl ⟨e,rfl,rfl⟩⟩
  |ok x=>obtain ⟨n,p'⟩:=x;exact absurd h (h1 n p')
theorem At.head {p:PS} {lv:Value} (h:At toks A cap p lv) {B:Option Nat} {cb:Nat} {out:List Nd} {H:List Blk} {w0:World} (hH:MSub (pB g lv A cap fin toks B cb out) H) (w:World) (hm:Mem w0 w H):
  Pure Tryz.prog 206 [.pointer (some ⟨g,0,none⟩)] w (.agg (encTk (hdT fin p.l)).toArray):=by
 obtain ⟨k,h1,h2,h3,h4⟩:=h
 rw [h2]
 exact pHead_in h4 hH w hm
theorem At.is {p:PS} {lv:Value} (h:At toks A cap p lv) (op:Int) {B:Option Nat} {cb:Nat} {out:List Nd} {H:List Blk} {w0:World} (hH:MSub (pB g lv A cap fin toks B cb out) H) (w:World) (hm:Mem w0 w H):
  Pure Tryz.prog 315 [.pointer (some ⟨g,0,none⟩),.int .i64 op] w (.bool (decide ((hdT fin p.l).kind=8∧(hdT fin p.l).num=op))):=by
 obtain ⟨k,h1,h2,h3,h4⟩:=h
 rw [h2]
 exact pIs_at op h4 hH w hm
def At1 (toks:List Tk) (A:Option Nat) (cap:Nat) (p:PS) (lv:Value):Prop:= ∃ k,k≤toks.length∧p.l=toks.drop k∧p.out.length+1≤k∧TkV lv A toks.length cap k
theorem At.skip {p:PS} {lv:Value} (h:At toks A cap p lv) (hc:toks.length≤cap) {c:Int} (hk:(hdT fin p.l).kind=c) (h0:c≠0) {B:Option Nat} {cb:Nat} {out:List Nd} {H R:List Blk} {w0:World} (hH:MSub (pB g lv A cap fin toks B cb out++R) H):
  FnIn Tryz.prog 292 [.pointer (some ⟨g,0,none⟩)] w0 H fun v H=>v= .tuple #[]∧ ∃ lv',At1 toks A cap p.skip lv' ∧H=pB g lv' A cap fin toks B cb out++R:=by
 obtain ⟨k,h1,h2,h3,h4⟩:=h
 have hpos:=hdP_ne hk h0
 rw [h2,List.length_drop] at hpos
 refine (pSkip_at g lv A cap fin toks k h4 (by omega) hc B cb out R w0).msub hH|>.mono ?_
 rintro v H' ⟨rfl,lv',h5,rfl⟩
 exact ⟨rfl,lv',⟨k+1,by omega,by simp only [PS.skip];rw [h2,List.tail_drop],by simp only [PS.skip];omega,h5⟩,rfl⟩
theorem At1.at {p:PS} {lv:Value} (h:At1 toks A cap p lv):At toks A cap p lv:=let ⟨k,h1,h2,h3,h4⟩:=h;⟨k,h1,h2,by omega,h4⟩
theorem At1.put {p:PS} {lv:Value} (h:At1 toks A cap p lv) (n:Nd):At toks A cap (p.put n) lv:=let ⟨k,h1,h2,h3,h4⟩:=h;⟨k,h1,h2,by simp only [PS.put,List.length_append,List.length_singleton];exact h3,h4⟩
theorem At.len {p:PS} {lv:Value} (h:At toks A cap p lv) (hl:toks.length≤1000):p.out.length≤1000000:=let ⟨k,h1,h2,h3,h4⟩:=h;by omega
theorem At1.grew {p p' :PS} {lv lv' :Value} {q:Prop} (h:At1 toks A cap p lv) (h' :At toks A cap p' lv') (hg:Grew p p' q):At1 toks A cap p' lv' :=by
 obtain ⟨k,h1,h2,h3,h4⟩:=h
 obtain ⟨k',g1,g2,g3,g4⟩:=h'
 obtain ⟨⟨m,e1,e2,e3⟩,_,_⟩:=hg
 rw [h2,List.drop_drop] at e1
 rw [h2,List.length_drop] at e2
 have hk:k' =k+m:=by
  have:=congrArg List.length (g2.symm.trans e1)
  rw [List.length_drop,List.length_drop] at this
  omega
 exact ⟨k',g1,g2,by omega,g4⟩
theorem fin_ok {fn:Func} {fr:Fr} {w0:World} {R H:List Blk} {r:Out} {n:Nat} {p' :PS} {lv' :Value} {B' :Option Nat} {cb' :Nat} {e:Exit} {s:Slots} (he:e= .ret∨e= .normal) (hf:fn.results= #[]) (hr:r= .ok (n,p')) (hat:At toks A cap p' lv') (hs:MSub (pB g lv' A cap fin toks B' cb' p'.out++R) H):
  retPP Tryz.prog fn fr w0 (PR toks A cap fin g R r) (PD R r) e s H:=ret_v (ret0 he hf hs ⟨rfl,n,p',lv',B',cb',hr,hat,rfl⟩)
theorem fin_bad {fn:Func} {fr:Fr} {w0:World} {R H:List Blk} {r:Out} {e:Int × Int} {s:Slots} {Rok:Value→List Blk→Prop} (hr:r= .error e) (hs:MSub R H):
  retPP Tryz.prog fn fr w0 Rok (PD R r) (.panic (chain1 (faultV e))) s H:=ret_p (.refl _) ⟨e,hr,rfl,hs⟩
set_option maxHeartbeats 1000000 in
theorem sign_ok (f:Nat) (ihS:POK f .sign 289 []) (ihP:POK f .pct 316 []):POK (f+1) .sign 289 []:=by
 intro toks A cap fin g p lv B cb r R w0 hc hl hat hrun
 refine fn_p Tryz.func289 rfl Tryz.ntmps289 rfl ?_
 rw [runP] at hrun
 dsimp only at hrun
 have hi:=fun w hm=>hat.is 2 (fin:=fin) (g:=g) (B:=B) (cb:=cb) (out:=p.out) (H:=pB g lv A cap fin toks B cb p.out++R) (w0:=w0) (MSub.pick .hd (.pick .hd (.pick .hd (.nil _)))) w hm
 by_cases hs:(hdT fin p.l).kind=8∧(hdT fin p.l).num=2
 ·
  rw [if_pos hs] at hrun
  obtain ⟨r1,hr1,hr2⟩:=thenP_inv hrun
  rw [decide_eq_true hs] at hi
  repeat' (first|((with_reducible apply wl_callp (f:=315));exact rfl;exact rfl;exact hi)|((with_reducible apply wl_callin (f:=292));exact rfl;exact rfl;exact hat.skip hc hs.1 (by decide) (MSub.pick pK (MSub.pick pK (MSub.pick pK (MSub.refl _))));rintro _ _ ⟨rfl,lv1,h1,rfl⟩)|(refine wl_callP (f:=289) rfl rfl (FnP.msub (ihS toks A cap fin g p.skip _ B cb r1 _ w0 hc hl (At1.at h1) hr1) (MSub.pick pK (MSub.pick pK (MSub.pick pK (MSub.refl _))))) ?_ ?_)|(rintro _ _ ⟨rfl,n,p',lv',B',cb',rfl,h2,rfl⟩)|(rintro _ _ ⟨e,rfl,rfl,h3⟩)|((with_reducible apply wl_callin (f:=293));exact rfl;exact rfl;exact FnIn.msub (pPut_at (nodeOp 4 0) _ _ _ _ _ _ _ _ _ (At.len h2 hl) _ _) (MSub.pick pK (MSub.pick pK (MSub.pick pK (MSub.refl _))));rintro _ _ ⟨rfl,B2,cb2,rfl⟩)|refine sT ?_|refine sP ?_|refine sM fun _=> ?_|(refine sC ?_ ?_<;>intro hb<;>try omega)|fail)
  ·
   rcases hr2 with ⟨e,h,_⟩|⟨n1,p1,h,h5⟩
   ·
    cases h
   ·
    cases h
    cases h5
    exact fin_ok (p' :=p'.put (nodeOp 4 0)) (.inl rfl) rfl rfl ((h1.grew h2 (runP_grew _ _ _ _ _ _ hr1)).put _) (.refl _)
  ·
   rcases hr2 with ⟨e',h,h5⟩|⟨n1,p1,h,h5⟩
   ·
    cases h
    exact fin_bad h5 h3
   ·
    cases h
 ·
  rw [if_neg hs] at hrun
  rw [decide_eq_false hs] at hi
  obtain ⟨r1,hr1,hr2⟩:=thenP_inv hrun
  repeat' (first|((with_reducible apply wl_callp (f:=315) (d:=3));exact rfl;exact rfl;exact hi)|(refine wl_callP (f:=316) rfl rfl (FnP.msub (ihP toks A cap fin g p _ B cb r1 _ w0 hc hl hat hr1) (MSub.pick pK (MSub.pick pK (MSub.pick pK (MSub.refl _))))) ?_ ?_)|(rintro _ _ ⟨rfl,n,p',lv',B',cb',rfl,h2,rfl⟩)|(rintro _ _ ⟨e,rfl,rfl,h3⟩)|refine sT ?_|refine sP ?_|refine sM fun _=> ?_|(refine sC ?_ ?_<;>intro hb<;>try omega)|fail)
  ·
   rcases hr2 with ⟨e,h,_⟩|⟨n1,p1,h,h5⟩
   ·
    cases h
   cases h
   have hi2:=fun w hm=>h2.is 5 (fin:=fin) (g:=g) (B:=B') (cb:=cb') (out:=p'.out) (H:=pB g lv' A cap fin toks B' cb' p'.out++R) (w0:=w0) (MSub.pick .hd (.pick .hd (.pick .hd (.nil _)))) w hm
   by_cases hs5:(hdT fin p'.l).kind=8∧(hdT fin p'.l).num=5
   ·
    rw [if_pos hs5] at h5
    rw [decide_eq_true hs5] at hi2
    obtain ⟨r2,hr3,hr4⟩:=thenP_inv h5
    repeat' (first|((with_reducible apply wl_callp (f:=315) (d:=14));exact rfl;exact rfl;exact hi2)|((with_reducible apply wl_callin (f:=292));exact rfl;exact rfl;exact h2.skip hc hs5.1 (by decide) (MSub.pick pK (MSub.pick pK (MSub.pick pK (MSub.refl _))));rintro _ _ ⟨rfl,lv1,h1,rfl⟩)|(refine wl_callP (f:=289) rfl rfl (FnP.msub (ihS toks A cap fin g p'.skip _ B' cb' r2 _ w0 hc hl (At1.at h1) hr3) (MSub.pick pK (MSub.pick pK (MSub.pick pK (MSub.refl _))))) ?_ ?_)|(rintro _ _ ⟨rfl,n2,p2,lv2,B2,cb2,rfl,h6,rfl⟩)|(rintro _ _ ⟨e,rfl,rfl,h3⟩)|((with_reducible apply wl_callin (f:=293));exact rfl;exact rfl;exact FnIn.msub (pPut_at (nodeOp 6 5) _ _ _ _ _ _ _ _ _ (At.len h6 hl) _ _) (MSub.pick pK (MSub.pick pK (MSub.pick pK (MSub.refl _))));rintro _ _ ⟨rfl,B3,cb3,rfl⟩)|refine sT ?_|refine sP ?_|refine sM fun _=> ?_|(refine sC ?_ ?_<;>intro hb<;>try omega)|fail)
    ·
     rcases hr4 with ⟨e,h,_⟩|⟨n3,p3,h,h7⟩
     ·
      cases h
     ·
      cases h
      cases h7
      exact fin_ok (p' :=p2.put (nodeOp 6 5)) (.inr rfl) rfl rfl ((h1.grew h6 (runP_grew _ _ _ _ _ _ hr3)).put _) (.refl _)
    ·
     rcases hr4 with ⟨e',h,h7⟩|⟨n3,p3,h,h7⟩
     ·
      cases h
      exact fin_bad h7 h3
     ·
      cases h
   ·
    rw [if_neg hs5] at h5
    rw [decide_eq_false hs5] at hi2
    cases h5
    repeat' (first|((with_reducible apply wl_callp (f:=315) (d:=14));exact rfl;exact rfl;exact hi2)|refine sT ?_|refine sP ?_|refine sM fun _=> ?_|(refine sC ?_ ?_<;>intro hb<;>try omega)|fail)
    exact fin_ok (.inr rfl) rfl rfl h2 (.refl _)
  ·
   rcases hr2 with ⟨e',h,h5⟩|⟨n1,p1,h,h5⟩
   ·
    cases h
    exact fin_bad h5 h3
   ·
    cases h
set_option maxHeartbeats 1000000 in
theorem percent_ok (f:Nat) (ihP:POK f .prim 335 []):POK (f+1) .pct 316 []:=by
 intro toks A cap fin g p lv B cb r R w0 hc hl hat hrun
 refine fn_p Tryz.func316 rfl Tryz.ntmps316 rfl ?_
 rw [runP] at hrun
 obtain ⟨r1,hr1,hr2⟩:=thenP_inv hrun
 repeat' (first|(refine wl_callP (f:=335) rfl rfl (FnP.msub (ihP toks A cap fin g p _ B cb r1 _ w0 hc hl hat hr1) (MSub.pick pK (MSub.pick pK (MSub.pick pK (MSub.refl _))))) ?_ ?_)|(rintro _ _ ⟨rfl,n,p',lv',B',cb',rfl,h2,rfl⟩)|(rintro _ _ ⟨e,rfl,rfl,h3⟩)|refine sT ?_|refine sP ?_|refine sM fun _=> ?_|(refine sC ?_ ?_<;>intro hb<;>try omega)|fail)
 ·
  rcases hr2 with ⟨e,h,_⟩|⟨n1,p1,h,h5⟩
  ·
   cases h
  cases h
  refine w_loopK [0] rfl (fun _:Nat × PS × Value × Option Nat × Nat=> []) (fun x=>pB g x.2.2.1 A cap fin toks x.2.2.2.1 x.2.2.2.2 x.2.1.out++R) (fun x=>At toks A cap x.2.1 x.2.2.1∧runP fin x.1 .pctl x.2.1=some r) (fun x=>x.1) (f,p',lv',B',cb') ⟨h2,h5⟩ sB (.refl _) ?_
  rintro ⟨f',q,lq,Bq,cq⟩ ⟨hq1,hq2⟩
  dsimp only at hq1 hq2 ⊢
  cases f' with
  |zero=>cases hq2
  |succ f' =>
   rw [runP] at hq2
   have hi:=fun w hm=>hq1.is 13 (fin:=fin) (g:=g) (B:=Bq) (cb:=cq) (out:=q.out) (H:=pB g lq A cap fin toks Bq cq q.out++R) (w0:=w0) (MSub.pick .hd (.pick .hd (.pick .hd (.nil _)))) w hm
   by_cases hs:(hdT fin q.l).kind=8∧(hdT fin q.l).num=13
   ·
    rw [if_pos hs] at hq2
    rw [decide_eq_true hs] at hi
    repeat' (first|((with_reducible apply wl_callp (f:=315));exact rfl;exact rfl;exact hi)|((with_reducible apply wl_callin (f:=292));exact rfl;exact rfl;exact hq1.skip hc hs.1 (by decide) (MSub.pick pK (MSub.pick pK (MSub.pick pK (MSub.refl _))));rintro _ _ ⟨rfl,lv1,h1,rfl⟩)|((with_reducible apply wl_callin (f:=293));exact rfl;exact rfl;exact FnIn.msub (pPut_at (nodeOp 5 0) _ _ _ _ _ _ _ _ _ (At.len hq1 hl) _ _) (MSub.pick pK (MSub.pick pK (MSub.pick pK (MSub.refl _))));rintro _ _ ⟨rfl,B2,cb2,rfl⟩)|refine sT ?_|refine sP ?_|refine sM fun _=> ?_|(refine sC ?_ ?_<;>intro hb<;>try omega)|fail)
    refine ⟨(f',q.skip.put (nodeOp 5 0),lv1,B2,cb2),⟨h1.put _,hq2⟩,Nat.lt_succ_self _,sB,sB,.refl _⟩
   ·
    rw [if_neg hs] at hq2
    rw [decide_eq_false hs] at hi
    cases hq2
    repeat' (first|((with_reducible apply wl_callp (f:=315));exact rfl;exact rfl;exact hi)|refine sT ?_|refine sP ?_|refine sM fun _=> ?_|(refine sC ?_ ?_<;>intro hb<;>try omega)|fail)
    exact fin_ok (by first|exact .inr rfl|exact .inl rfl) rfl rfl hq1 (.refl _)
 ·
  rcases hr2 with ⟨e',h,h5⟩|⟨n1,p1,h,h5⟩
  ·
   cases h
   exact fin_bad h5 h3
  ·
   cases h
end
def capB (g g2 g3:Nat) (k:Int) (R:List Blk):List Blk:= .box g2 291 [.pointer (some ⟨g,0,none⟩)]:: .box g3 3 [.int .i64 k]::R
theorem level1_ok (f:Nat) (k:Int) (h1:1≤k) (h4:k≤3) (ih:POK f (.level (k+1)) 248 [.int .i64 (k+1)]) (toks:List Tk) (A:Option Nat) (cap:Nat) (fin:Int) (g:Nat) (p:PS) (lv:Value) (B:Option Nat) (cb:Nat) (r:Out) (R:List Blk) (w0:World) (g2 g3:Nat) (hc:toks.length≤cap) (hl:toks.length≤1000) (hat:At toks A cap p lv) (hr:runP fin f (.level (k+1)) p=some r):
  FnP Tryz.prog 290 [.pointer (some ⟨g2,0,none⟩),.pointer (some ⟨g3,0,none⟩)] w0 (pB g lv A cap fin toks B cb p.out++capB g g2 g3 k R) (PR toks A cap fin g (capB g g2 g3 k R) r) (PD (capB g g2 g3 k R) r):=by
 refine fn_p Tryz.func290 rfl Tryz.ntmps290 rfl ?_
 repeat' (first|(refine wl_callP (f:=248) rfl rfl (ih toks A cap fin g p lv B cb r _ w0 hc hl hat hr) ?_ ?_)|(rintro _ _ ⟨rfl,n,p',lv',B',cb',rfl,h2,rfl⟩)|(rintro _ _ ⟨e,rfl,rfl,h3⟩)|refine sT ?_|refine sP ?_|refine sJ ?_|refine sM fun _=> ?_|(refine sC ?_ ?_<;>intro hb<;>try omega)|exact cT|fail)
 ·
  exact fin_ok (by first|exact .inr rfl|exact .inl rfl) rfl rfl h2 (.refl _)
 ·
  exact fin_bad rfl h3
def BelowOK (f:Nat) (k:Int) (toks:List Tk) (A:Option Nat) (cap:Nat) (fin:Int) (g g2 g3:Nat) (w0:World) (bv:Value):Prop:=
 ∃ (fid:FuncId) (bs caps:List Value),bv= .func (.func fid) bs.toArray caps.toArray∧Callable Tryz.prog fid∧ ∀ (f' :Nat) (p:PS) (lv:Value) (B:Option Nat) (cb:Nat) (r:Out) (R:List Blk),f' ≤f→At toks A cap p lv→runP fin f' (.level (k+1)) p=some r→
  FnP Tryz.prog fid (bs++([]++caps)) w0 (pB g lv A cap fin toks B cb p.out++capB g g2 g3 k R) (PR toks A cap fin g (capB g g2 g3 k R) r) (PD (capB g g2 g3 k R) r)
set_option maxHeartbeats 2000000 in
theorem level_ok (f : Nat) (k : Int) (h1 : 1 ≤ k) (h4 : k ≤ 4) (ihL : k ≤ 3 → ∀ f' ≤ f, POK f' (.level (k + 1)) 248 [.int .i64 (k + 1)]) (ihS : ∀ f' ≤ f, POK f' .sign 289 []) : POK (f + 1) (.level k) 248 [.int .i64 k] := by
  intro toks A cap fin g p lv B cb r R w0 hc hl hat hrun
  refine fn_p Tryz.func248 rfl Tryz.ntmps248 rfl ?_
  rw [runP, if_neg (by omega)] at hrun
  obtain ⟨r1, hr1, hr2⟩ := thenP_inv hrun
  repeat' (first | ((with_reducible apply wl_v); exact rfl; (with_reducible apply v_makeMeth); exact rfl) | (rename_i g2 g3; refine w_cutRH (id := 2) [2, 3] rfl (ι := Value) (fun bv => [(4, bv)]) (fun bv => BelowOK f k toks A cap fin g g2 g3 w0 bv) ?_ ?_) | refine cut_n (_) ?_ sB mS | refine sT ?_ | refine sP ?_ | refine sM fun _ => ?_ | (refine sC ?_ ?_ <;> intro hb <;> try omega) | exact cT | fail)
  · exact ⟨_, [], _, rfl, inferInstance, fun f' p lv B cb r R hf' hat' hr' => level1_ok f' k h1 (by omega) (ihL (by omega) f' hf') toks A cap fin g p lv B cb r R w0 _ _ hc hl hat' hr'⟩
  · have hk : k = 4 := by omega
    subst hk
    refine ⟨_, _, [], rfl, inferInstance, fun f' p lv B cb r R hf' hat' hr' => ?_⟩
    cases f' with
    | zero => cases hr'
    | succ f'' =>
      rw [runP, if_pos (by decide)] at hr'
      exact ihS f'' (by omega) toks A cap fin g p lv B cb r _ w0 hc hl hat' hr'
  · rintro bv ⟨fid, bs, caps, rfl, hcl, hbel⟩
    repeat' (first | (refine wl_callgP (f := fid) rfl rfl hcl rfl (FnP.msub (hbel f p lv B cb r1 _ (Nat.le_refl _) hat hr1) (MSub.pick pK (MSub.pick pK (MSub.pick pK (MSub.pick pK (MSub.pick pK (MSub.refl _))))))) ?_ ?_) | (rintro _ _ ⟨rfl, n, p', lv', B', cb', rfl, h2, rfl⟩) | (rintro _ _ ⟨e, rfl, rfl, h3⟩) | refine sT ?_ | refine sP ?_ | refine sM fun _ => ?_ | (refine sC ?_ ?_ <;> intro hb <;> try omega) | exact cT | fail)
    · rcases hr2 with ⟨e, h, _⟩ | ⟨n1, p1, h, h5⟩
      · cases h
      cases h
      refine w_loopK [2, 3, 4] rfl (fun _ : Nat × PS × Value × Option Nat × Nat => []) (fun x => pB g x.2.2.1 A cap fin toks x.2.2.2.1 x.2.2.2.2 x.2.1.out ++ capB g g2 g3 k R) (fun x => x.1 ≤ f ∧ At toks A cap x.2.1 x.2.2.1 ∧ runP fin x.1 (.loop k) x.2.1 = some r) (fun x => x.1) (f, p', lv', B', cb') ⟨Nat.le_refl _, h2, h5⟩ sB (.refl _) ?_
      rintro ⟨f', q, lq, Bq, cq⟩ ⟨hf', hq1, hq2⟩
      dsimp only at hf' hq1 hq2 ⊢
      cases f' with
      | zero => cases hq2
      | succ f' =>
        rw [runP] at hq2
        have hh := fun w hm => hq1.head (fin := fin) (g := g) (B := Bq) (cb := cq) (out := q.out) (H := pB g lq A cap fin toks Bq cq q.out ++ capB g g2 g3 k R) (w0 := w0) (MSub.pick .hd (.pick .hd (.pick .hd (.nil _)))) w hm
        obtain ⟨t, ht⟩ : ∃ t, hdT fin q.l = t := ⟨_, rfl⟩
        rw [ht] at hq2 hh
        by_cases hs : t.kind = 8 ∧ bindsE t.num = k
        · rw [if_pos hs] at hq2
          obtain ⟨hs8, hsk⟩ := hs
          obtain ⟨r2, hr3, hr4⟩ := thenP_inv hq2
          repeat' (first | ((with_reducible apply wl_callp (f := 206)); exact rfl; exact rfl; exact hh) | ((with_reducible apply wl_callp (f := 291)); exact rfl; exact rfl; (intro w' _; exact pBinds_at _ w')) | ((with_reducible apply wl_callin (f := 292)); exact rfl; exact rfl; exact hq1.skip hc (ht ▸ hs8) (by decide) (MSub.pick pK (MSub.pick pK (MSub.pick pK (MSub.refl _)))); rintro _ _ ⟨rfl, lv1, h1', rfl⟩) | (refine wl_callgP (f := fid) rfl rfl hcl rfl (FnP.msub (hbel f' q.skip lv1 Bq cq r2 _ (by omega) (At1.at h1') hr3) (MSub.pick pK (MSub.pick pK (MSub.pick pK (MSub.pick pK (MSub.pick pK (MSub.refl _))))))) ?_ ?_) | (rintro _ _ ⟨rfl, n2, p2, lv2, B2, cb2, rfl, h6, rfl⟩) | (rintro _ _ ⟨e, rfl, rfl, h3⟩) | ((with_reducible apply wl_callin (f := 293)); exact rfl; exact rfl; exact FnIn.msub (pPut_at (nodeOp 6 t.num) _ _ _ _ _ _ _ _ _ (At.len h6 hl) _ _) (MSub.pick pK (MSub.pick pK (MSub.pick pK (MSub.refl _)))); rintro _ _ ⟨rfl, B3, cb3, rfl⟩) | refine sT ?_ | refine sP ?_ | refine sM fun _ => ?_ | (refine sC ?_ ?_ <;> intro hb <;> try omega) | exact cT | fail)
          · rcases hr4 with ⟨e, h, _⟩ | ⟨n3, p3, h, h7⟩
            · cases h
            · cases h
              refine ⟨(f', p2.put (nodeOp 6 t.num), lv2, B3, cb3), ⟨by omega, (h1'.grew h6 (runP_grew _ _ _ _ _ _ hr3)).put _, h7⟩, Nat.lt_succ_self _, sB, sB, ?_⟩
              dsimp only [capB, List.cons_append, List.nil_append, pB]
              exact mS
          · rcases hr4 with ⟨e', h, h7⟩ | ⟨n3, p3, h, h7⟩
            · cases h
              exact fin_bad h7 (MSub.trans (by unfold capB; exact .drop (.tl (.tl .hd)) (.drop .hd (.drop .hd (.refl _)))) h3)
            · cases h
        · rw [if_neg hs] at hq2
          cases hq2
          repeat' (first | ((with_reducible apply wl_callp (f := 206)); exact rfl; exact rfl; exact hh) | ((with_reducible apply wl_callp (f := 291)); exact rfl; exact rfl; (intro w' _; exact pBinds_at _ w')) | refine sT ?_ | refine sP ?_ | refine sM fun _ => ?_ | (refine sC ?_ ?_ <;> intro hb <;> try omega) | exact cT | fail)
          all_goals first
            | (exfalso; omega)
            | (refine fin_ok (B' := Bq) (cb' := cq) (by first | exact .inr rfl | exact .inl rfl) rfl rfl hq1 ?_
               dsimp only [capB, List.cons_append, List.nil_append, pB]
               exact mS)
    · rcases hr2 with ⟨e', h, h5⟩ | ⟨n1, p1, h, h5⟩
      · cases h
        exact fin_bad h5 (MSub.trans (by unfold capB; exact .drop .hd (.drop .hd (.refl _))) h3)
      · cases h
def POKg (F:Int→PS→Option Out) (fid:FuncId) (args:List Value):Prop:=
 ∀ (toks:List Tk) (A:Option Nat) (cap:Nat) (fin:Int) (g:Nat) (p:PS) (lv:Value) (B:Option Nat) (cb:Nat) (r:Out) (R:List Blk) (w0:World),toks.length≤cap→toks.length≤1000→At toks A cap p lv→F fin p=some r→
  FnP Tryz.prog fid (.pointer (some ⟨g,0,none⟩)::args) w0 (pB g lv A cap fin toks B cb p.out++R) (PR toks A cap fin g R r) (PD R r)
def wantP (c:Int) (fin:Int) (p:PS):Option Out:=if (hdT fin p.l).kind≠c then some (.error ((hdT fin p.l).at_,4)) else some (.ok (0,p.skip))
theorem want_ok (c : Int) (h0 : c ≠ 0) : POKg (wantP c) 350 [.int .u8 c] := by
  intro toks A cap fin g p lv B cb r R w0 hc hl hat hrun
  refine fn_p Tryz.func350 rfl Tryz.ntmps350 rfl ?_
  have hh := fun w hm => hat.head (fin := fin) (g := g) (B := B) (cb := cb) (out := p.out) (H := pB g lv A cap fin toks B cb p.out ++ R) (w0 := w0) (MSub.pick .hd (.pick .hd (.pick .hd (.nil _)))) w hm
  unfold wantP at hrun
  obtain ⟨t, ht⟩ : ∃ t, hdT fin p.l = t := ⟨_, rfl⟩
  rw [ht] at hrun hh
  by_cases hk : t.kind ≠ c
  · rw [if_pos hk] at hrun
    cases hrun
    repeat' (first | ((with_reducible apply wl_callp (f := 206)); exact rfl; exact rfl; exact hh) | (refine wl_callP (f := 207) rfl rfl (pFail_at _ _ _ _ _ (fun _ _ => False)) ?_ ?_) | (exact fun _ _ h => h.elim) | (rintro _ _ ⟨rfl, rfl⟩) | refine sT ?_ | refine sP ?_ | refine sM fun _ => ?_ | (refine sC ?_ ?_ <;> intro hb <;> try omega) | fail)
    all_goals first
      | (exfalso; omega)
      | (refine fin_bad rfl ?_
         dsimp only [List.cons_append, List.nil_append, pB]
         exact mS)
  · rw [if_neg hk] at hrun
    cases hrun
    repeat' (first | ((with_reducible apply wl_callp (f := 206)); exact rfl; exact rfl; exact hh) | ((with_reducible apply wl_callin (f := 292)); exact rfl; exact rfl; exact hat.skip hc (c := c) (by rw [ht]; omega) h0 (MSub.pick pK (MSub.pick pK (MSub.pick pK (MSub.refl _)))); rintro _ _ ⟨rfl, lv1, h1, rfl⟩) | refine sT ?_ | refine sP ?_ | refine sM fun _ => ?_ | (refine sC ?_ ?_ <;> intro hb <;> try omega) | fail)
    all_goals first
      | (exfalso; omega)
      | (refine fin_ok (B' := B) (cb' := cb) (by first | exact .inr rfl | exact .inl rfl) rfl rfl (At1.at h1) ?_
         dsimp only [List.cons_append, List.nil_append, pB]
         exact mS)
theorem value_ok (v:Vl):POKg (fun fin p=>if (hdT fin p.l).kind=0 then none else some (.ok (0,p.skip.put ⟨1,v,zeroR,0,0,0⟩))) 349 [.agg (encV v).toArray]:=by
 intro toks A cap fin g p lv B cb r R w0 hc hl hat hrun
 refine fn_p Tryz.func349 rfl Tryz.ntmps349 rfl ?_
 dsimp only at hrun
 by_cases hk:(hdT fin p.l).kind=0
 ·
  rw [if_pos hk] at hrun;cases hrun
 rw [if_neg hk] at hrun
 cases hrun
 repeat' (first|((with_reducible apply wl_callin (f:=292));exact rfl;exact rfl;exact hat.skip hc rfl hk (MSub.pick pK (MSub.pick pK (MSub.pick pK (MSub.refl _))));rintro _ _ ⟨rfl,lv1,h1,rfl⟩)|((with_reducible apply wl_callin (f:=293));exact rfl;exact rfl;exact FnIn.msub (pPut_at ⟨1,v,zeroR,0,0,0⟩ _ _ _ _ _ _ _ _ _ (At.len hat hl) _ _) (MSub.pick pK (MSub.pick pK (MSub.pick pK (MSub.refl _))));rintro _ _ ⟨rfl,B3,cb3,rfl⟩)|refine sT ?_|refine sP ?_|refine sM fun _=> ?_|(refine sC ?_ ?_<;>intro hb<;>try omega)|fail)
 all_goals
  refine fin_ok (p' :=p.skip.put ⟨1,v,zeroR,0,0,0⟩) (B' :=B3) (cb' :=cb3) (by first|exact .inr rfl|exact .inl rfl) rfl rfl (h1.put _) ?_
  dsimp only [List.cons_append,List.nil_append,pB]
  exact mS
theorem formula_ok (f:Nat) (ih:POK f (.level 1) 248 [.int .i64 1]):POK f (.level 1) 205 []:=by
 intro toks A cap fin g p lv B cb r R w0 hc hl hat hrun
 refine fn_p Tryz.func205 rfl Tryz.ntmps205 rfl ?_
 repeat' (first|(refine wl_callP (f:=248) rfl rfl (FnP.msub (ih toks A cap fin g p _ B cb r _ w0 hc hl hat hrun) (MSub.pick pK (MSub.pick pK (MSub.pick pK (MSub.refl _))))) ?_ ?_)|(rintro _ _ ⟨rfl,n,p',lv',B',cb',rfl,h2,rfl⟩)|(rintro _ _ ⟨e,rfl,rfl,h3⟩)|refine sT ?_|refine sP ?_|refine sM fun _=> ?_|(refine sC ?_ ?_<;>intro hb<;>try omega)|fail)
 ·
  exact fin_ok (by first|exact .inr rfl|exact .inl rfl) rfl rfl h2 (.refl _)
 ·
  exact fin_bad rfl h3
def argP (f:Nat) (fn:Int) (n:Nat) (fin:Int) (p:PS):Option Out:=
 if (hdT fin p.l).kind≠6 then thenP (runP fin f (.level 1) p) fun _ p=>some (.ok (0,p))
 else if (wideF fn n).1=false∨(wideF fn n).2≠0 then some (.error ((hdT fin p.l).at_,4))
 else some (.ok (0,p.skip.put ⟨3,zeroV,(hdT fin p.l).rect,0,0,0⟩))
theorem thenP_thenP {o:Option Out} {k k' :Nat→PS→Option Out}:thenP (thenP o k) k' =thenP o fun n p=>thenP (k n p) k' :=by
 match o with
 |none=>rfl
 |some (.ok (n,p))=>rfl
 |some (.error e)=>rfl
theorem args_eq (fin:Int) (f:Nat) (fn:Int) (n:Nat) (p:PS):runP fin (f+1) (.args fn n) p=thenP (argP f fn n fin p) fun _ p=>if (hdT fin p.l).kind=11 then runP fin f (.args fn (n+1)) p.skip else some (.ok (n+1,p)):=by
 rw [runP]
 unfold argP
 split
 ·
  rw [thenP_thenP];rfl
 ·
  split<;>rfl
set_option maxHeartbeats 1000000 in
theorem argument_ok (f : Nat) (fn : Int) (n : Nat) (ih : POK f (.level 1) 205 []) : POKg (argP f fn n) 364 [.int .u8 fn, .int .i64 n] := by
  intro toks A cap fin g p lv B cb r R w0 hc hl hat hrun
  refine fn_p Tryz.func364 rfl Tryz.ntmps364 rfl ?_
  have hh := fun w hm => hat.head (fin := fin) (g := g) (B := B) (cb := cb) (out := p.out) (H := pB g lv A cap fin toks B cb p.out ++ R) (w0 := w0) (MSub.pick .hd (.pick .hd (.pick .hd (.nil _)))) w hm
  unfold argP at hrun
  obtain ⟨t, ht⟩ : ∃ t, hdT fin p.l = t := ⟨_, rfl⟩
  rw [ht] at hrun hh
  by_cases hk : t.kind ≠ 6
  · rw [if_pos hk] at hrun
    obtain ⟨r1, hr1, hr2⟩ := thenP_inv hrun
    repeat' (first | ((with_reducible apply wl_callp (f := 206)); exact rfl; exact rfl; exact hh) | (refine wl_callP (f := 205) rfl rfl (FnP.msub (ih toks A cap fin g p _ B cb r1 _ w0 hc hl hat hr1) (MSub.pick pK (MSub.pick pK (MSub.pick pK (MSub.refl _))))) ?_ ?_) | (rintro _ _ ⟨rfl, n, p', lv', B', cb', rfl, h2, rfl⟩) | (rintro _ _ ⟨e, rfl, rfl, h3⟩) | refine sT ?_ | refine sP ?_ | refine sM fun _ => ?_ | (refine sC ?_ ?_ <;> intro hb <;> try omega) | fail)
    · rcases hr2 with ⟨e, h, _⟩ | ⟨n1, p1, h, h5⟩
      · cases h
      · cases h
        cases h5
        refine fin_ok (B' := B') (cb' := cb') (by first | exact .inr rfl | exact .inl rfl) rfl rfl h2 ?_
        simp only [List.append_eq, List.cons_append, List.nil_append, pB]
        exact mS
    · rcases hr2 with ⟨e', h, h5⟩ | ⟨n1, p1, h, h5⟩
      · cases h
        exact fin_bad h5 (MSub.trans (.drop .hd (.refl _)) h3)
      · cases h
  · rw [if_neg hk] at hrun
    have hw := fun w => wide_at fn n w
    obtain ⟨wb, we, hwe⟩ : ∃ wb we, wideF fn n = (wb, we) := ⟨_, _, rfl⟩
    rw [hwe] at hrun hw
    by_cases hwk : wb = false ∨ we ≠ 0
    · rw [if_pos hwk] at hrun
      cases hrun
      repeat' (first | ((with_reducible apply wl_callp (f := 206)); exact rfl; exact rfl; exact hh) | ((with_reducible apply wl_callp (f := 328)); exact rfl; exact rfl; (intro w' _; exact hw w')) | (refine wl_callP (f := 207) rfl rfl (pFail_at _ _ _ _ _ (fun _ _ => False)) ?_ ?_) | (exact fun _ _ h => h.elim) | (rintro _ _ ⟨rfl, rfl⟩) | refine sT ?_ | refine sP ?_ | refine sM fun _ => ?_ | (refine sC ?_ ?_ <;> intro hb <;> try omega) | fail)
      all_goals first
        | (exfalso; simp_all <;> omega)
        | (exfalso; omega)
        | (refine fin_bad rfl ?_
           simp only [List.append_eq, List.cons_append, List.nil_append, pB]
           exact mS)
    · rw [if_neg hwk] at hrun
      cases hrun
      repeat' (first | ((with_reducible apply wl_callp (f := 206)); exact rfl; exact rfl; exact hh) | ((with_reducible apply wl_callp (f := 328)); exact rfl; exact rfl; (intro w' _; exact hw w')) | ((with_reducible apply wl_callin (f := 292)); exact rfl; exact rfl; exact hat.skip hc (c := 6) (by rw [ht]; omega) (by decide) (MSub.pick pK (MSub.pick pK (MSub.pick pK (MSub.refl _)))); rintro _ _ ⟨rfl, lv1, h1, rfl⟩) | ((with_reducible apply wl_callin (f := 293)); exact rfl; exact rfl; exact FnIn.msub (pPut_at ⟨3, zeroV, t.rect, 0, 0, 0⟩ _ _ _ _ _ _ _ _ _ (At.len hat hl) _ _) (MSub.pick pK (MSub.pick pK (MSub.pick pK (MSub.refl _)))); rintro _ _ ⟨rfl, B3, cb3, rfl⟩) | refine sT ?_ | refine sP ?_ | refine sM fun _ => ?_ | (refine sC ?_ ?_ <;> intro hb <;> try omega) | fail)
      all_goals first
        | (exfalso; simp_all <;> omega)
        | (exfalso; omega)
        | (refine fin_ok (p' := p.skip.put ⟨3, zeroV, t.rect, 0, 0, 0⟩) (B' := B3) (cb' := cb3) (by first | exact .inr rfl | exact .inl rfl) rfl rfl (h1.put _) ?_
           simp only [List.append_eq, List.cons_append, List.nil_append, pB]
           exact mS)
end Go.SL
