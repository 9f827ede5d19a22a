/-
  Lemmas and walks, put together: C1 Px3 C2 C3 C4.
-/
import Derived.Test.YthefeclkaaocnaaGreatDoorKj12
set_option linter.unusedSimpArgs false
set_option linter.unusedVariables false
set_option maxRecDepth 20000
namespace Go.SL
open Go Go.Proofs
attribute [local irreducible] W WL WQ WG WA WX WLI WR WT VOp thn blk bG scp bg bT aQ FnIn
def TkV (v:Value) (A:Option Nat) (n cap k:Nat):Prop:= ∃ a:Option Addr,v= .slice a (n - k) (cap - k)∧(k<n→a=A.map fun g=>⟨g,k*8,none⟩)
def pB (g:Nat) (lv:Value) (A:Option Nat) (cap:Nat) (fin:Int) (toks:List Tk) (B:Option Nat) (cb:Nat) (out:List Nd):List Blk:=
 [.box g 293 [lv,.int .i64 fin,sl B out.length cb],.own A 295 8 toks.length cap (toks.flatMap aY),.own B 174 11 out.length cb (out.flatMap cj)]
theorem TkV.next {P:Program} {t e:Nat} {v:Value} {A:Option Nat} {n cap k:Nat} [ht:Und P t (.slice e)] [hz:Size P e 8] (h:TkV v A n cap k) (hk:k<n) (hc:n≤cap):
  ∃ v',TkV v' A n cap (k+1)∧v'.oneCell' =true∧(∃ a m c,v' = .slice a m c)∧ ∀ {w0:World} {s:az} {H:List Blk} {ty:TypeId} {x r:Operand} {k' :IntKind},ev s x=some v→ev s r=some (.int k' 1)→VOp P w0 s H (.slice t x (some r) none none) ty v' :=by
 obtain ⟨a,rfl,ha⟩:=h
 refine ⟨.slice (if cap - k=1 then a else a.map (·.add (1*8))) (n - k - 1) (cap - k - 1),⟨if cap - k=1 then a else a.map (·.add (1*8)),?_,fun hk1=> ?_⟩,rfl,⟨_,_,_,rfl⟩,fun hx hr=>lO (lo:=1) (hi:=n - k) hx ⟨_,hr⟩ rfl (by omega) (by omega)⟩
 ·
  congr 1
 ·
  rw [if_neg (by omega),ha hk]
  cases A with
  |none=>rfl
  |some g=>(simp [cH])<;>omega
theorem EN {fin:Int} {toks:List Tk} {k:Nat} (h:k<toks.length):hdT fin (toks.drop k)=toks[k]:=by
 rw [NL h];rfl
theorem sL {fin:Int} {toks:List Tk} {k:Nat} (h:toks.length≤k):hdT fin (toks.drop k)={ cY with at_:=fin }:=by
 rw [N0 h];rfl
theorem zY (g:Nat) (lv:Value) (A:Option Nat) (cap:Nat) (fin:Int) (toks:List Tk) (k:Nat) (hk:TkV lv A toks.length cap k) (x:Value) (w:World) (hr:Ro w g 0 [lv,.int .i64 fin,x])
  (ht:k<toks.length→ ∃ ga,A=some ga∧Ro w ga 0 (toks.flatMap aY)):ax Tryz.prog 206 [.pointer (some ⟨g,0,none⟩)] w (.agg (aY (hdT fin (toks.drop k))).toArray):=by
 refine aq Tryz.func206 rfl Tryz.ntmps206 rfl ?_
 obtain ⟨a,rfl,ha⟩:=hk
 by_cases hlt:k<toks.length
 ·
  rw [EN hlt]
  obtain ⟨ga,rfl,hra⟩:=ht hlt
  have ha' :=ha hlt
  subst ha'
  have hra' :Ro w ga (k*8) (aY toks[k]):=by
   have:=hra.elem wY k hlt
   rwa [N7] at this
  have hlen:0<toks.length - k:=by omega
  repeat' (first|(apply ak;exact rfl;apply aH (o:=0) (off:=0);exact hr;exact rfl;exact rfl)|(apply ak;exact rfl;apply aH (o:=0) (off:=1);exact hr;exact rfl;exact rfl)|(apply ak;exact rfl;apply aj (j:=0);exact rfl;exact rfl;exact hlen)|(apply ak;exact rfl;apply eX (o:=k*8) (off:=0*8);exact hra';(iterate 3 exact rfl))|refine sT ?_|refine sM fun _=> ?_|(refine sC ?_ ?_<;>intro hb<;>try omega)|fail)
  all_goals try (exfalso;omega)
  (refine eRC ?_)
  rfl
 ·
  rw [sL (by omega)]
  repeat' (first|(apply ak;exact rfl;apply aH (o:=0) (off:=0);exact hr;exact rfl;exact rfl)|(apply ak;exact rfl;apply aH (o:=0) (off:=1);exact hr;exact rfl;exact rfl)|refine sT ?_|refine sM fun _=> ?_|(refine sC ?_ ?_<;>intro hb<;>try omega)|fail)
  all_goals try (exfalso;omega)
  (refine eRC ?_)
  rfl
theorem Iu {g:Nat} {lv:Value} {A:Option Nat} {cap:Nat} {fin:Int} {toks:List Tk} {k:Nat} (hk:TkV lv A toks.length cap k) {B:Option Nat} {cb:Nat} {out:List Nd} {H:List Blk} {w0:World} (hH:MSub (pB g lv A cap fin toks B cb out) H) (w:World) (hm:Mem w0 w H):
  ax Tryz.prog 206 [.pointer (some ⟨g,0,none⟩)] w (.agg (aY (hdT fin (toks.drop k))).toArray):=by
 have hm' :=hH.use hm
 refine zY g lv A cap fin toks k hk (sl B out.length cb) w (Ro.of_box hm' .hd) fun hlt=> ?_
 obtain ⟨_,_,_,h4⟩:=(hm'.on _ (In.tl .hd:In (.own A 295 8 toks.length cap (toks.flatMap aY)) _).mem).1
 cases A with
 |none=>obtain ⟨h5,_⟩:=h4;omega
 |some ga=>exact ⟨ga,rfl,Ro.of_own hm' (In.tl .hd)⟩
theorem Ir (g:Nat) (lv:Value) (A:Option Nat) (cap:Nat) (fin:Int) (toks:List Tk) (k:Nat) (hv:TkV lv A toks.length cap k) (hk:k<toks.length) (hc:toks.length≤cap) (B:Option Nat) (cb:Nat) (out:List Nd) (R:List Blk) (w0:World):
  FnIn Tryz.prog 292 [.pointer (some ⟨g,0,none⟩)] w0 (pB g lv A cap fin toks B cb out++R) fun v H=>v= .tuple #[]∧ ∃ lv',TkV lv' A toks.length cap (k+1)∧H=pB g lv' A cap fin toks B cb out++R:=by
 refine eC Tryz.func292 rfl Tryz.ntmps292 rfl ?_
 obtain ⟨lv',h1,h3,⟨a',m',c',rfl⟩,h2⟩:=hv.next hk hc (P:=Tryz.prog) (t:=286) (e:=295)
 obtain ⟨a,rfl,ha⟩:=hv
 repeat' (first|(apply ak (d:=7);exact rfl;exact h2 rfl rfl)|refine sT ?_|refine sM fun _=> ?_|(refine sC ?_ ?_<;>intro hb<;>try omega)|fail)
 exact iX (.inr rfl) rfl (.refl _) ⟨rfl,_,h1,rfl⟩
theorem kp (n:Nd) (g:Nat) (lv:Value) (A:Option Nat) (cap:Nat) (fin:Int) (toks:List Tk) (B:Option Nat) (cb:Nat) (out:List Nd) (hlen:out.length≤1000000) (R:List Blk) (w0:World):
  FnIn Tryz.prog 293 [.pointer (some ⟨g,0,none⟩),.agg (cj n).toArray] w0 (pB g lv A cap fin toks B cb out++R) fun v H=>v= .tuple #[]∧ ∃ B' cb',H=pB g lv A cap fin toks B' cb' (out++ [n])++R:=by
 refine eC Tryz.func293 rfl Tryz.ntmps293 rfl ?_
 repeat' (first|refine sT ?_|refine sM fun _=> ?_|(refine sC ?_ ?_<;>intro hb<;>try omega)|fail)
 refine jp 11 rfl (by kernel_rfl) ?_
 ((with_reducible apply aO (i:=0));exact rfl;exact rfl;decide+kernel;decide+kernel;decide+kernel;exact nP;(intro _ _;exact vP))
 ((with_reducible apply aO (i:=1));exact rfl;exact rfl;decide+kernel;decide+kernel;decide+kernel;exact nP;(intro _ _;exact vP))
 ((with_reducible apply aO (i:=2));exact rfl;exact rfl;decide+kernel;decide+kernel;decide+kernel;exact nP;(intro _ _;exact vP))
 ((with_reducible apply aO (i:=3));exact rfl;exact rfl;decide+kernel;decide+kernel;decide+kernel;exact nP;(intro _ _;exact vP))
 repeat' (first|(apply cP (i:=4) (j:=5);exact rfl;exact rfl;decide+kernel)|(apply cP (i:=4) (j:=6);exact rfl;exact rfl;decide+kernel)|(apply aD (i:=4);exact rfl;decide+kernel)|(apply aD (i:=5);exact rfl;decide+kernel)|(apply aD (i:=6);exact rfl;decide+kernel)|(apply aD (i:=7);exact rfl;decide+kernel)|(apply aD (i:=8);exact rfl;decide+kernel)|(apply aD (i:=9);exact rfl;decide+kernel)|(apply aD (i:=10);exact rfl;decide+kernel)|(apply jo;decide+kernel)|(apply aN;(iterate 3 exact rfl);exact pK;exact pK;exact rfl;(simp [cj,Value.oneCell']);omega;(simp only [maxLen];omega);intro g8 c8)|refine sT ?_|refine sM fun _=> ?_|(refine sC ?_ ?_<;>intro hb<;>try omega)|fail)
 all_goals
  refine iX eIO rfl (H' :=pB g lv A cap fin toks (some g8) c8 (out++ [n])++R) ?_ ⟨rfl,_,_,rfl⟩
  simp only [pB,ND,NG,NR,NU,Oy,NM,NF,NH]
  exact mS
def yp (e:Int × Int):Value:= .iface 290 (.agg #[.int .i64 e.1,.int .i64 e.2])
theorem iY (x:Value) (at_ e:Int) (H:List Blk) (w0:World) (R:Value→List Blk→Prop):
  FnP Tryz.prog 207 [x,.int .i64 at_,.int .i64 e] w0 H R fun v H' =>v=yp (at_,e)∧H' =H:=by
 refine uN Tryz.func207 rfl Tryz.ntmps207 rfl ?_
 repeat' (first|(apply ak;exact rfl;apply y8;(intro m;exact fun h=>by cases h);exact rfl)|(apply GR;exact rfl)|refine sT ?_|refine sM fun _=> ?_|(refine sC ?_ ?_<;>intro hb<;>try omega)|fail)
 exact LD (.refl _) ⟨rfl,rfl⟩
theorem Me (op:Int) {g:Nat} {lv:Value} {A:Option Nat} {cap:Nat} {fin:Int} {toks:List Tk} {k:Nat} (hk:TkV lv A toks.length cap k) {B:Option Nat} {cb:Nat} {out:List Nd} {H:List Blk} {w0:World} (hH:MSub (pB g lv A cap fin toks B cb out) H) (w:World) (hm:Mem w0 w H):
  ax Tryz.prog 315 [.pointer (some ⟨g,0,none⟩),.int .i64 op] w (.bool (decide ((hdT fin (toks.drop k)).kind=8∧(hdT fin (toks.drop k)).num=op))):=by
 have hm0:=hH.use hm
 refine aq Tryz.func315 rfl Tryz.ntmps315 rfl ?_
 have hh: ∀ w' H',Mem w w' H' →ax Tryz.prog 206 [.pointer (some ⟨g,0,none⟩)] w' (.agg (aY (hdT fin (toks.drop k))).toArray):=fun w' H' hm' =>by
  refine zY g lv A cap fin toks k hk (sl B out.length cb) w' ((Ro.of_box hm0 .hd).next hm') fun hlt=> ?_
  obtain ⟨_,_,_,h4⟩:=(hm0.on _ (In.tl .hd:In (.own A 295 8 toks.length cap (toks.flatMap aY)) _).mem).1
  cases A with
  |none=>obtain ⟨h5,_⟩:=h4;omega
  |some ga=>exact ⟨ga,rfl,(Ro.of_own hm0 (In.tl .hd)).next hm'⟩
 generalize hdT fin (toks.drop k)=t at hh
 repeat' (first|(apply aa;exact rfl;exact rfl;(intro w' hm';exact hh w' _ hm'))|refine sT ?_|refine sM fun _=> ?_|(refine sC ?_ ?_<;>intro hb<;>try omega)|fail)
 all_goals ((refine rT1 ?_);simp_all)
theorem wJ (op:Int) (w:World):ax Tryz.prog 291 [.int .i64 op] w (.tuple #[.int .i64 (gD op),.bool (decide (op=5)),.int .i64 (if gD op=0 then 2 else 0)]):=by
 refine aq Tryz.func291 rfl Tryz.ntmps291 rfl ?_
 repeat' (first|refine sT ?_|refine sM fun _=> ?_|(refine sC ?_ ?_<;>intro hb<;>try omega)|fail)
 all_goals ((refine rT3 ?_);simp_all [gD];try omega)
end Go.SL
namespace Go.SL
open Go
structure Grew (p p' :PS) (strict:Prop):Prop where
 tok: ∃ m,p'.l=p.l.drop m∧m≤p.l.length∧p'.out.length≤p.out.length+m
 out:p.out.length≤p'.out.length
 some:strict→p.out.length<p'.out.length
theorem Grew.refl (p:PS) {q:Prop} (h: ¬ q):Grew p p q:=⟨⟨0,rfl,NY _,NJ _⟩,NJ _,fun hq=>(h hq).elim⟩
theorem Grew.trans {p p' p2:PS} {q q' q2:Prop} (h:Grew p p' q) (k:Grew p' p2 q') (hq:q2→q∨q'):Grew p p2 q2:=by
 obtain ⟨⟨m,h1,h2,h3⟩,h4,h5⟩:=h
 obtain ⟨⟨n,k1,k2,k3⟩,k4,k5⟩:=k
 refine ⟨⟨m+n,by rw [k1,h1,O0],?_,by omega⟩,by omega,fun hh=> ?_⟩
 ·
  rw [h1,NP] at k2;omega
 ·
  rcases hq hh with h|h
  ·
   have:=h5 h;omega
  ·
   have:=k5 h;omega
theorem Grew.step (p:PS) (n:Nd) (h:0<p.l.length) {q:Prop}:Grew p (p.skip.put n) q:=
 ⟨⟨1,by simp [PS.skip,PS.put],h,by simp [PS.skip,PS.put]⟩,by simp [PS.skip,PS.put],fun _=>by simp [PS.skip,PS.put]⟩
theorem Grew.skip (p:PS) (h:0<p.l.length) {q:Prop} (hq: ¬ q):Grew p p.skip q:=
 ⟨⟨1,by simp [PS.skip],h,by simp [PS.skip]⟩,by simp [PS.skip],fun hh=>(hq hh).elim⟩
theorem Grew.wrap {p p' :PS} {q q' :Prop} (h0:0<p.l.length) (h:Grew p.skip p' q) (n:Nd):Grew p (p'.put n) q' :=by
 obtain ⟨⟨m,h1,h2,h3⟩,h4,h5⟩:=h
 simp only [PS.skip] at h1 h2 h3 h4
 refine ⟨⟨1+m,?_,?_,?_⟩,?_,fun _=> ?_⟩
 ·
  simp only [PS.put];rw [h1,← List.drop_one,O0]
 ·
  rw [Qh] at h2;omega
 ·
  simp only [PS.put,ND,NG];omega
 ·
  simp only [PS.put,ND,NG];omega
 ·
  simp only [PS.put,ND,NG];omega
theorem cf {r:Option Out} {k:Nat→PS→Option Out} {x:Nat × PS} (h:fR r k=some (.ok x)): ∃ n p',r=some (.ok (n,p'))∧k n p' =some (.ok x):=by
 unfold fR at h
 split at h
 ·
  exact ⟨_,_,rfl,h⟩
 ·
  rename_i h1
  obtain ⟨n,p'⟩:=x
  exact absurd h (h1 n p')
theorem ji {fin:Int} {l:List Tk} {c:Int} (h:(hdT fin l).kind=c) (hc:c≠0):0<l.length:=iC (fin:=fin) (by omega)
theorem qf {fin:Int} {name:Tk} {fn:Int} {n m:Nat} {p p' :PS} {q:Prop} (h:dC fin name fn n p=some (.ok (m,p'))):Grew p p' q:=by
 unfold dC at h
 dsimp only at h
 split at h
 ·
  cases h
 ·
  rename_i hk
  have hpos:=ji (Decidable.not_not.1 hk) (by decide)
  split at h
  ·
   cases h
  ·
   split at h
   ·
    cases h
   ·
    cases h
    exact .step p _ hpos
theorem li (fin:Int): ∀ (f:Nat) (j:Job) (p:PS) (n:Nat) (p' :PS),bE fin f j p=some (.ok (n,p'))→Grew p p' j.eats
 |0,_,_,_,_,h=>by cases h
 |f+1,j,p,n,p',h=>by
  have ih:=li fin f
  cases j with
  |level k=>
   rw [bE] at h
   split at h
   ·
    have g:=ih .sign _ _ _ h
    exact g
   ·
    obtain ⟨n1,p1,h1,h2⟩:=cf h
    exact (ih _ _ _ _ h1).trans (ih _ _ _ _ h2) fun _=> .inl trivial
  |loop k=>
   rw [bE] at h
   try dsimp only at h
   split at h
   ·
    rename_i hk
    have hpos:=ji hk.1 (by decide)
    obtain ⟨n1,p1,h1,h2⟩:=cf h
    exact ((ih _ _ _ _ h1).wrap (q' :=True) hpos _).trans (ih _ _ _ _ h2) fun _=> .inl trivial
   ·
    cases h
    exact .refl _ fun h=>h
  |sign=>
   rw [bE] at h
   try dsimp only at h
   split at h
   ·
    rename_i hk
    have hpos:=ji hk.1 (by decide)
    obtain ⟨n1,p1,h1,h2⟩:=cf h
    cases h2
    exact (ih _ _ _ _ h1).wrap hpos _
   ·
    obtain ⟨n1,p1,h1,h2⟩:=cf h
    split at h2
    ·
     rename_i hk
     have hpos:=ji hk.1 (by decide)
     obtain ⟨n2,p2,h3,h4⟩:=cf h2
     cases h4
     exact (ih _ _ _ _ h1).trans ((ih _ _ _ _ h3).wrap (q' :=True) hpos _) fun _=> .inl trivial
    ·
     cases h2
     have g:=ih .pct _ _ _ h1
     exact g
  |pct=>
   rw [bE] at h
   obtain ⟨n1,p1,h1,h2⟩:=cf h
   exact (ih _ _ _ _ h1).trans (ih _ _ _ _ h2) fun _=> .inl trivial
  |pctl=>
   rw [bE] at h
   try dsimp only at h
   split at h
   ·
    rename_i hk
    have hpos:=ji hk.1 (by decide)
    exact (Grew.step p _ hpos (q:=True)).trans (ih _ _ _ _ h) fun h=>h.elim
   ·
    cases h
    exact .refl _ fun h=>h
  |prim=>
   rw [bE] at h
   try dsimp only at h
   split at h
   ·
    rename_i hk
    cases h
    exact .step p _ (iC (fin:=fin) (by omega))
   ·
    split at h
    ·
     rename_i hk
     cases h
     exact .step p _ (ji hk (by decide))
    ·
     split at h
     ·
      rename_i hk
      have hpos:=ji hk (by decide)
      obtain ⟨n1,p1,h1,h2⟩:=cf h
      split at h2
      ·
       cases h2
      ·
       rename_i hu
       cases h2
       exact ((Grew.skip p hpos (q:=False) (fun h=>h)).trans (ih _ _ _ _ h1) (q2:=True) fun _=> .inr trivial).trans (Grew.skip p1 (ji (Decidable.not_not.1 hu) (by decide)) (q:=False) fun h=>h) fun _=> .inl trivial
     ·
      split at h
      ·
       rename_i hk
       have hpos:=ji hk (by decide)
       split at h
       ·
        cases h
       ·
        split at h
        ·
         cases h
        ·
         rename_i hu
         have hpos2:=ji (Decidable.not_not.1 hu) (by decide)
         have g1:=(Grew.skip p hpos (q:=False) (fun h=>h)).trans (Grew.skip p.skip hpos2 (q:=False) fun h=>h) (q2:=False) fun h=>h.elim
         split at h
         ·
          exact g1.trans (qf h (q:=True)) fun _=> .inr trivial
         ·
          obtain ⟨n1,p1,h1,h2⟩:=cf h
          exact (g1.trans (ih _ _ _ _ h1) (q2:=True) fun _=> .inr trivial).trans (qf h2 (q:=True)) fun _=> .inl trivial
      ·
       cases h
  |args fn i=>
   rw [bE] at h
   try dsimp only at h
   have hgo: ∀ p0:PS,(if (hdT fin p0.l).kind=11 then bE fin f (.args fn (i+1)) p0.skip else some (.ok (i+1,p0)))=some (.ok (n,p'))→Grew p0 p' False:=by
    intro p0 h0
    split at h0
    ·
     rename_i hk
     exact (Grew.skip p0 (ji hk (by decide)) (q:=False) (fun h=>h)).trans (ih _ _ _ _ h0) fun h=>h.elim
    ·
     cases h0
     exact .refl _ fun h=>h
   split at h
   ·
    obtain ⟨n1,p1,h1,h2⟩:=cf h
    exact (ih _ _ _ _ h1).trans (hgo p1 h2) fun _=> .inl trivial
   ·
    rename_i hk
    have hpos:=iC (fin:=fin) (l:=p.l) (by omega)
    split at h
    ·
     cases h
    ·
     exact (Grew.step p _ hpos (q:=True)).trans (hgo _ h) fun _=> .inl trivial
end Go.SL
namespace Go.SL
open Go Go.Proofs
attribute [local irreducible] W WL WQ WG WA WX WLI WR WT VOp thn blk bG scp bg bi bT aQ FnIn FnP
def At (toks:List Tk) (A:Option Nat) (cap:Nat) (p:PS) (lv:Value):Prop:= ∃ k,k≤toks.length∧p.l=toks.drop k∧p.out.length≤k∧TkV lv A toks.length cap k
section
variable {toks:List Tk} {A:Option Nat} {cap:Nat} {fin:Int} {g:Nat}
def PR (toks:List Tk) (A:Option Nat) (cap:Nat) (fin:Int) (g:Nat) (R:List Blk) (r:Out) (v:Value) (H:List Blk):Prop:=v= .tuple #[]∧ ∃ n p' lv' B' cb',r= .ok (n,p')∧At toks A cap p' lv' ∧H=pB g lv' A cap fin toks B' cb' p'.out++R
def PD (R:List Blk) (r:Out) (v:Value) (H:List Blk):Prop:= ∃ e,r= .error e∧v=yp e∧MSub R H
def POK (f:Nat) (j:Job) (fid:FuncId) (args:List Value):Prop:=
 ∀ (toks:List Tk) (A:Option Nat) (cap:Nat) (fin:Int) (g:Nat) (p:PS) (lv:Value) (B:Option Nat) (cb:Nat) (r:Out) (R:List Blk) (w0:World),toks.length≤cap→toks.length≤1000→At toks A cap p lv→bE fin f j p=some r→
  FnP Tryz.prog fid (.pointer (some ⟨g,0,none⟩)::args) w0 (pB g lv A cap fin toks B cb p.out++R) (PR toks A cap fin g R r) (PD R r)
theorem bD {o:Option Out} {k:Nat→PS→Option Out} {r:Out} (h:fR o k=some r): ∃ r1,o=some r1∧((∃ e,r1= .error e∧r= .error e)∨(∃ n p',r1= .ok (n,p')∧k n p' =some r)):=by
 unfold fR at h
 split at h
 ·
  rename_i n p'
  exact ⟨_,rfl,.inr ⟨n,p',rfl,h⟩⟩
 ·
  rename_i h1
  cases r with
  |error e=>exact ⟨_,h,.inl ⟨e,rfl,rfl⟩⟩
  |ok x=>obtain ⟨n,p'⟩:=x;exact absurd h (h1 n p')
theorem At.head {p:PS} {lv:Value} (h:At toks A cap p lv) {B:Option Nat} {cb:Nat} {out:List Nd} {H:List Blk} {w0:World} (hH:MSub (pB g lv A cap fin toks B cb out) H) (w:World) (hm:Mem w0 w H):
  ax Tryz.prog 206 [.pointer (some ⟨g,0,none⟩)] w (.agg (aY (hdT fin p.l)).toArray):=by
 obtain ⟨k,h1,h2,h3,h4⟩:=h
 rw [h2]
 exact Iu h4 hH w hm
theorem At.is {p:PS} {lv:Value} (h:At toks A cap p lv) (op:Int) {B:Option Nat} {cb:Nat} {out:List Nd} {H:List Blk} {w0:World} (hH:MSub (pB g lv A cap fin toks B cb out) H) (w:World) (hm:Mem w0 w H):
  ax Tryz.prog 315 [.pointer (some ⟨g,0,none⟩),.int .i64 op] w (.bool (decide ((hdT fin p.l).kind=8∧(hdT fin p.l).num=op))):=by
 obtain ⟨k,h1,h2,h3,h4⟩:=h
 rw [h2]
 exact Me op h4 hH w hm
def At1 (toks:List Tk) (A:Option Nat) (cap:Nat) (p:PS) (lv:Value):Prop:= ∃ k,k≤toks.length∧p.l=toks.drop k∧p.out.length+1≤k∧TkV lv A toks.length cap k
theorem At.skip {p:PS} {lv:Value} (h:At toks A cap p lv) (hc:toks.length≤cap) {c:Int} (hk:(hdT fin p.l).kind=c) (h0:c≠0) {B:Option Nat} {cb:Nat} {out:List Nd} {H R:List Blk} {w0:World} (hH:MSub (pB g lv A cap fin toks B cb out++R) H):
  FnIn Tryz.prog 292 [.pointer (some ⟨g,0,none⟩)] w0 H fun v H=>v= .tuple #[]∧ ∃ lv',At1 toks A cap p.skip lv' ∧H=pB g lv' A cap fin toks B cb out++R:=by
 obtain ⟨k,h1,h2,h3,h4⟩:=h
 have hpos:=ji hk h0
 rw [h2,NP] at hpos
 refine (Ir g lv A cap fin toks k h4 (by omega) hc B cb out R w0).msub hH|>.mono ?_
 rintro v H' ⟨rfl,lv',h5,rfl⟩
 exact ⟨rfl,lv',⟨k+1,by omega,by simp only [PS.skip];rw [h2,P4],by simp only [PS.skip];omega,h5⟩,rfl⟩
theorem At1.at {p:PS} {lv:Value} (h:At1 toks A cap p lv):At toks A cap p lv:=let ⟨k,h1,h2,h3,h4⟩:=h;⟨k,h1,h2,by omega,h4⟩
theorem At1.put {p:PS} {lv:Value} (h:At1 toks A cap p lv) (n:Nd):At toks A cap (p.put n) lv:=let ⟨k,h1,h2,h3,h4⟩:=h;⟨k,h1,h2,by simp only [PS.put,ND,NG];exact h3,h4⟩
theorem At.len {p:PS} {lv:Value} (h:At toks A cap p lv) (hl:toks.length≤1000):p.out.length≤1000000:=let ⟨k,h1,h2,h3,h4⟩:=h;by omega
theorem At1.grew {p p' :PS} {lv lv' :Value} {q:Prop} (h:At1 toks A cap p lv) (h' :At toks A cap p' lv') (hg:Grew p p' q):At1 toks A cap p' lv' :=by
 obtain ⟨k,h1,h2,h3,h4⟩:=h
 obtain ⟨k',g1,g2,g3,g4⟩:=h'
 obtain ⟨⟨m,e1,e2,e3⟩,_,_⟩:=hg
 rw [h2,O0] at e1
 rw [h2,NP] at e2
 have hk:k' =k+m:=by
  have:=congrArg List.length (g2.symm.trans e1)
  rw [NP,NP] at this
  omega
 exact ⟨k',g1,g2,by omega,g4⟩
theorem ep {fn:Func} {fr:Fr} {w0:World} {R H:List Blk} {r:Out} {n:Nat} {p' :PS} {lv' :Value} {B' :Option Nat} {cb' :Nat} {e:Exit} {s:az} (he:e= .ret∨e= .normal) (hf:fn.results= #[]) (hr:r= .ok (n,p')) (hat:At toks A cap p' lv') (hs:MSub (pB g lv' A cap fin toks B' cb' p'.out++R) H):
  bi Tryz.prog fn fr w0 (PR toks A cap fin g R r) (PD R r) e s H:=M5 (iX he hf hs ⟨rfl,n,p',lv',B',cb',hr,hat,rfl⟩)
theorem cO {fn:Func} {fr:Fr} {w0:World} {R H:List Blk} {r:Out} {e:Int × Int} {s:az} {Rok:Value→List Blk→Prop} (hr:r= .error e) (hs:MSub R H):
  bi Tryz.prog fn fr w0 Rok (PD R r) (.panic (jl (yp e))) s H:=LD (.refl _) ⟨e,hr,rfl,hs⟩
set_option maxHeartbeats 1000000 in
theorem Kn (f:Nat) (ihS:POK f .sign 289 []) (ihP:POK f .pct 316 []):POK (f+1) .sign 289 []:=by
 intro toks A cap fin g p lv B cb r R w0 hc hl hat hrun
 refine uN Tryz.func289 rfl Tryz.ntmps289 rfl ?_
 rw [bE] at hrun
 dsimp only at hrun
 have hi:=fun w hm=>hat.is 2 (fin:=fin) (g:=g) (B:=B) (cb:=cb) (out:=p.out) (H:=pB g lv A cap fin toks B cb p.out++R) (w0:=w0) (MSub.pick .hd (.pick .hd (.pick .hd (.nil _)))) w hm
 by_cases hs:(hdT fin p.l).kind=8∧(hdT fin p.l).num=2
 ·
  rw [if_pos hs] at hrun
  obtain ⟨r1,hr1,hr2⟩:=bD hrun
  rw [decide_eq_true hs] at hi
  repeat' (first|(apply aa (f:=315);exact rfl;exact rfl;exact hi)|(apply aw (f:=292);exact rfl;exact rfl;exact hat.skip hc hs.1 (by decide) (MSub.pick pK (MSub.pick pK (MSub.pick pK (MSub.refl _))));rintro _ _ ⟨rfl,lv1,h1,rfl⟩)|(refine bB (f:=289) rfl rfl (FnP.msub (ihS toks A cap fin g p.skip _ B cb r1 _ w0 hc hl (At1.at h1) hr1) (MSub.pick pK (MSub.pick pK (MSub.pick pK (MSub.refl _))))) ?_ ?_)|(rintro _ _ ⟨rfl,n,p',lv',B',cb',rfl,h2,rfl⟩)|(rintro _ _ ⟨e,rfl,rfl,h3⟩)|(apply aw (f:=293);exact rfl;exact rfl;exact FnIn.msub (kp (dL 4 0) _ _ _ _ _ _ _ _ _ (At.len h2 hl) _ _) (MSub.pick pK (MSub.pick pK (MSub.pick pK (MSub.refl _))));rintro _ _ ⟨rfl,B2,cb2,rfl⟩)|refine sT ?_|refine sP ?_|refine sM fun _=> ?_|(refine sC ?_ ?_<;>intro hb<;>try omega)|fail)
  ·
   rcases hr2 with ⟨e,h,_⟩|⟨n1,p1,h,h5⟩
   ·
    cases h
   ·
    cases h
    cases h5
    exact ep (p' :=p'.put (dL 4 0)) (.inl rfl) rfl rfl ((h1.grew h2 (li _ _ _ _ _ _ hr1)).put _) (.refl _)
  ·
   rcases hr2 with ⟨e',h,h5⟩|⟨n1,p1,h,h5⟩
   ·
    cases h
    exact cO h5 h3
   ·
    cases h
 ·
  rw [if_neg hs] at hrun
  rw [decide_eq_false hs] at hi
  obtain ⟨r1,hr1,hr2⟩:=bD hrun
  repeat' (first|(apply aa (f:=315) (d:=3);exact rfl;exact rfl;exact hi)|(refine bB (f:=316) rfl rfl (FnP.msub (ihP toks A cap fin g p _ B cb r1 _ w0 hc hl hat hr1) (MSub.pick pK (MSub.pick pK (MSub.pick pK (MSub.refl _))))) ?_ ?_)|(rintro _ _ ⟨rfl,n,p',lv',B',cb',rfl,h2,rfl⟩)|(rintro _ _ ⟨e,rfl,rfl,h3⟩)|refine sT ?_|refine sP ?_|refine sM fun _=> ?_|(refine sC ?_ ?_<;>intro hb<;>try omega)|fail)
  ·
   rcases hr2 with ⟨e,h,_⟩|⟨n1,p1,h,h5⟩
   ·
    cases h
   cases h
   have hi2:=fun w hm=>h2.is 5 (fin:=fin) (g:=g) (B:=B') (cb:=cb') (out:=p'.out) (H:=pB g lv' A cap fin toks B' cb' p'.out++R) (w0:=w0) (MSub.pick .hd (.pick .hd (.pick .hd (.nil _)))) w hm
   by_cases hs5:(hdT fin p'.l).kind=8∧(hdT fin p'.l).num=5
   ·
    rw [if_pos hs5] at h5
    rw [decide_eq_true hs5] at hi2
    obtain ⟨r2,hr3,hr4⟩:=bD h5
    repeat' (first|(apply aa (f:=315) (d:=14);exact rfl;exact rfl;exact hi2)|(apply aw (f:=292);exact rfl;exact rfl;exact h2.skip hc hs5.1 (by decide) (MSub.pick pK (MSub.pick pK (MSub.pick pK (MSub.refl _))));rintro _ _ ⟨rfl,lv1,h1,rfl⟩)|(refine bB (f:=289) rfl rfl (FnP.msub (ihS toks A cap fin g p'.skip _ B' cb' r2 _ w0 hc hl (At1.at h1) hr3) (MSub.pick pK (MSub.pick pK (MSub.pick pK (MSub.refl _))))) ?_ ?_)|(rintro _ _ ⟨rfl,n2,p2,lv2,B2,cb2,rfl,h6,rfl⟩)|(rintro _ _ ⟨e,rfl,rfl,h3⟩)|(apply aw (f:=293);exact rfl;exact rfl;exact FnIn.msub (kp (dL 6 5) _ _ _ _ _ _ _ _ _ (At.len h6 hl) _ _) (MSub.pick pK (MSub.pick pK (MSub.pick pK (MSub.refl _))));rintro _ _ ⟨rfl,B3,cb3,rfl⟩)|refine sT ?_|refine sP ?_|refine sM fun _=> ?_|(refine sC ?_ ?_<;>intro hb<;>try omega)|fail)
    ·
     rcases hr4 with ⟨e,h,_⟩|⟨n3,p3,h,h7⟩
     ·
      cases h
     ·
      cases h
      cases h7
      exact ep (p' :=p2.put (dL 6 5)) (.inr rfl) rfl rfl ((h1.grew h6 (li _ _ _ _ _ _ hr3)).put _) (.refl _)
    ·
     rcases hr4 with ⟨e',h,h7⟩|⟨n3,p3,h,h7⟩
     ·
      cases h
      exact cO h7 h3
     ·
      cases h
   ·
    rw [if_neg hs5] at h5
    rw [decide_eq_false hs5] at hi2
    cases h5
    repeat' (first|(apply aa (f:=315) (d:=14);exact rfl;exact rfl;exact hi2)|refine sT ?_|refine sP ?_|refine sM fun _=> ?_|(refine sC ?_ ?_<;>intro hb<;>try omega)|fail)
    exact ep (.inr rfl) rfl rfl h2 (.refl _)
  ·
   rcases hr2 with ⟨e',h,h5⟩|⟨n1,p1,h,h5⟩
   ·
    cases h
    exact cO h5 h3
   ·
    cases h
set_option maxHeartbeats 1000000 in
theorem CN (f:Nat) (ihP:POK f .prim 335 []):POK (f+1) .pct 316 []:=by
 intro toks A cap fin g p lv B cb r R w0 hc hl hat hrun
 refine uN Tryz.func316 rfl Tryz.ntmps316 rfl ?_
 rw [bE] at hrun
 obtain ⟨r1,hr1,hr2⟩:=bD hrun
 repeat' (first|(refine bB (f:=335) rfl rfl (FnP.msub (ihP toks A cap fin g p _ B cb r1 _ w0 hc hl hat hr1) (MSub.pick pK (MSub.pick pK (MSub.pick pK (MSub.refl _))))) ?_ ?_)|(rintro _ _ ⟨rfl,n,p',lv',B',cb',rfl,h2,rfl⟩)|(rintro _ _ ⟨e,rfl,rfl,h3⟩)|refine sT ?_|refine sP ?_|refine sM fun _=> ?_|(refine sC ?_ ?_<;>intro hb<;>try omega)|fail)
 ·
  rcases hr2 with ⟨e,h,_⟩|⟨n1,p1,h,h5⟩
  ·
   cases h
  cases h
  refine ay [0] rfl (fun _:Nat × PS × Value × Option Nat × Nat=> []) (fun x=>pB g x.2.2.1 A cap fin toks x.2.2.2.1 x.2.2.2.2 x.2.1.out++R) (fun x=>At toks A cap x.2.1 x.2.2.1∧bE fin x.1 .pctl x.2.1=some r) (fun x=>x.1) (f,p',lv',B',cb') ⟨h2,h5⟩ sB (.refl _) ?_
  rintro ⟨f',q,lq,Bq,cq⟩ ⟨hq1,hq2⟩
  dsimp only at hq1 hq2 ⊢
  cases f' with
  |zero=>cases hq2
  |succ f' =>
   rw [bE] at hq2
   have hi:=fun w hm=>hq1.is 13 (fin:=fin) (g:=g) (B:=Bq) (cb:=cq) (out:=q.out) (H:=pB g lq A cap fin toks Bq cq q.out++R) (w0:=w0) (MSub.pick .hd (.pick .hd (.pick .hd (.nil _)))) w hm
   by_cases hs:(hdT fin q.l).kind=8∧(hdT fin q.l).num=13
   ·
    rw [if_pos hs] at hq2
    rw [decide_eq_true hs] at hi
    repeat' (first|(apply aa (f:=315);exact rfl;exact rfl;exact hi)|(apply aw (f:=292);exact rfl;exact rfl;exact hq1.skip hc hs.1 (by decide) (MSub.pick pK (MSub.pick pK (MSub.pick pK (MSub.refl _))));rintro _ _ ⟨rfl,lv1,h1,rfl⟩)|(apply aw (f:=293);exact rfl;exact rfl;exact FnIn.msub (kp (dL 5 0) _ _ _ _ _ _ _ _ _ (At.len hq1 hl) _ _) (MSub.pick pK (MSub.pick pK (MSub.pick pK (MSub.refl _))));rintro _ _ ⟨rfl,B2,cb2,rfl⟩)|refine sT ?_|refine sP ?_|refine sM fun _=> ?_|(refine sC ?_ ?_<;>intro hb<;>try omega)|fail)
    refine ⟨(f',q.skip.put (dL 5 0),lv1,B2,cb2),⟨h1.put _,hq2⟩,PQ _,sB,sB,.refl _⟩
   ·
    rw [if_neg hs] at hq2
    rw [decide_eq_false hs] at hi
    cases hq2
    repeat' (first|(apply aa (f:=315);exact rfl;exact rfl;exact hi)|refine sT ?_|refine sP ?_|refine sM fun _=> ?_|(refine sC ?_ ?_<;>intro hb<;>try omega)|fail)
    exact ep (by first|exact .inr rfl|exact .inl rfl) rfl rfl hq1 (.refl _)
 ·
  rcases hr2 with ⟨e',h,h5⟩|⟨n1,p1,h,h5⟩
  ·
   cases h
   exact cO h5 h3
  ·
   cases h
end
def rZ (g g2 g3:Nat) (k:Int) (R:List Blk):List Blk:= .box g2 291 [.pointer (some ⟨g,0,none⟩)]:: .box g3 3 [.int .i64 k]::R
theorem FV (f:Nat) (k:Int) (h1:1≤k) (h4:k≤3) (ih:POK f (.level (k+1)) 248 [.int .i64 (k+1)]) (toks:List Tk) (A:Option Nat) (cap:Nat) (fin:Int) (g:Nat) (p:PS) (lv:Value) (B:Option Nat) (cb:Nat) (r:Out) (R:List Blk) (w0:World) (g2 g3:Nat) (hc:toks.length≤cap) (hl:toks.length≤1000) (hat:At toks A cap p lv) (hr:bE fin f (.level (k+1)) p=some r):
  FnP Tryz.prog 290 [.pointer (some ⟨g2,0,none⟩),.pointer (some ⟨g3,0,none⟩)] w0 (pB g lv A cap fin toks B cb p.out++rZ g g2 g3 k R) (PR toks A cap fin g (rZ g g2 g3 k R) r) (PD (rZ g g2 g3 k R) r):=by
 refine uN Tryz.func290 rfl Tryz.ntmps290 rfl ?_
 repeat' (first|(refine bB (f:=248) rfl rfl (ih toks A cap fin g p lv B cb r _ w0 hc hl hat hr) ?_ ?_)|(rintro _ _ ⟨rfl,n,p',lv',B',cb',rfl,h2,rfl⟩)|(rintro _ _ ⟨e,rfl,rfl,h3⟩)|refine sT ?_|refine sP ?_|refine sJ ?_|refine sM fun _=> ?_|(refine sC ?_ ?_<;>intro hb<;>try omega)|exact cT|fail)
 ·
  exact ep (by first|exact .inr rfl|exact .inl rfl) rfl rfl h2 (.refl _)
 ·
  exact cO rfl h3
def Lt (f:Nat) (k:Int) (toks:List Tk) (A:Option Nat) (cap:Nat) (fin:Int) (g g2 g3:Nat) (w0:World) (bv:Value):Prop:=
 ∃ (fid:FuncId) (bs caps:List Value),bv= .func (.func fid) bs.toArray caps.toArray∧Callable Tryz.prog fid∧ ∀ (f' :Nat) (p:PS) (lv:Value) (B:Option Nat) (cb:Nat) (r:Out) (R:List Blk),f' ≤f→At toks A cap p lv→bE fin f' (.level (k+1)) p=some r→
  FnP Tryz.prog fid (bs++([]++caps)) w0 (pB g lv A cap fin toks B cb p.out++rZ g g2 g3 k R) (PR toks A cap fin g (rZ g g2 g3 k R) r) (PD (rZ g g2 g3 k R) r)
set_option maxHeartbeats 2000000 in
theorem IP (f:Nat) (k:Int) (h1:1≤k) (h4:k≤4) (ihL:k≤3→ ∀ f' ≤f,POK f' (.level (k+1)) 248 [.int .i64 (k+1)]) (ihS: ∀ f' ≤f,POK f' .sign 289 []):POK (f+1) (.level k) 248 [.int .i64 k]:=by
  intro toks A cap fin g p lv B cb r R w0 hc hl hat hrun
  refine uN Tryz.func248 rfl Tryz.ntmps248 rfl ?_
  rw [bE,if_neg (by omega)] at hrun
  obtain ⟨r1,hr1,hr2⟩:=bD hrun
  repeat' (first|(apply ak;exact rfl;apply lQ;exact rfl)|(rename_i g2 g3;refine Ec (id:=2) [2,3] rfl (ι:=Value) (fun bv=> [(4,bv)]) (fun bv=>Lt f k toks A cap fin g g2 g3 w0 bv) ?_ ?_)|refine bf (_) ?_ sB mS|refine sT ?_|refine sP ?_|refine sM fun _=> ?_|(refine sC ?_ ?_<;>intro hb<;>try omega)|exact cT|fail)
  · exact ⟨_,[],_,rfl,inferInstance,fun f' p lv B cb r R hf' hat' hr' =>FV f' k h1 (by omega) (ihL (by omega) f' hf') toks A cap fin g p lv B cb r R w0 _ _ hc hl hat' hr'⟩
  · have hk:k=4:=by omega
    subst hk
    refine ⟨_,_,[],rfl,inferInstance,fun f' p lv B cb r R hf' hat' hr' => ?_⟩
    cases f' with
    |zero=>cases hr'
    |succ f'' =>
      rw [bE,if_pos (by decide)] at hr'
      exact ihS f'' (by omega) toks A cap fin g p lv B cb r _ w0 hc hl hat' hr'
  · rintro bv ⟨fid,bs,caps,rfl,hcl,hbel⟩
    repeat' (first|(refine vY (f:=fid) rfl rfl hcl rfl (FnP.msub (hbel f p lv B cb r1 _ (NJ _) hat hr1) (MSub.pick pK (MSub.pick pK (MSub.pick pK (MSub.pick pK (MSub.pick pK (MSub.refl _))))))) ?_ ?_)|(rintro _ _ ⟨rfl,n,p',lv',B',cb',rfl,h2,rfl⟩)|(rintro _ _ ⟨e,rfl,rfl,h3⟩)|refine sT ?_|refine sP ?_|refine sM fun _=> ?_|(refine sC ?_ ?_<;>intro hb<;>try omega)|exact cT|fail)
    · rcases hr2 with ⟨e,h,_⟩|⟨n1,p1,h,h5⟩
      · cases h
      cases h
      refine ay [2,3,4] rfl (fun _:Nat × PS × Value × Option Nat × Nat=> []) (fun x=>pB g x.2.2.1 A cap fin toks x.2.2.2.1 x.2.2.2.2 x.2.1.out++rZ g g2 g3 k R) (fun x=>x.1≤f∧At toks A cap x.2.1 x.2.2.1∧bE fin x.1 (.loop k) x.2.1=some r) (fun x=>x.1) (f,p',lv',B',cb') ⟨NJ _,h2,h5⟩ sB (.refl _) ?_
      rintro ⟨f',q,lq,Bq,cq⟩ ⟨hf',hq1,hq2⟩
      dsimp only at hf' hq1 hq2 ⊢
      cases f' with
      |zero=>cases hq2
      |succ f' =>
        rw [bE] at hq2
        have hh:=fun w hm=>hq1.head (fin:=fin) (g:=g) (B:=Bq) (cb:=cq) (out:=q.out) (H:=pB g lq A cap fin toks Bq cq q.out++rZ g g2 g3 k R) (w0:=w0) (MSub.pick .hd (.pick .hd (.pick .hd (.nil _)))) w hm
        obtain ⟨t,ht⟩: ∃ t,hdT fin q.l=t:=⟨_,rfl⟩
        rw [ht] at hq2 hh
        by_cases hs:t.kind=8∧gD t.num=k
        · rw [if_pos hs] at hq2
          obtain ⟨hs8,hsk⟩:=hs
          obtain ⟨r2,hr3,hr4⟩:=bD hq2
          repeat' (first|(apply aa (f:=206);exact rfl;exact rfl;exact hh)|(apply aa (f:=291);exact rfl;exact rfl;(intro w' _;exact wJ _ w'))|(apply aw (f:=292);exact rfl;exact rfl;exact hq1.skip hc (ht ▸ hs8) (by decide) (MSub.pick pK (MSub.pick pK (MSub.pick pK (MSub.refl _))));rintro _ _ ⟨rfl,lv1,h1',rfl⟩)|(refine vY (f:=fid) rfl rfl hcl rfl (FnP.msub (hbel f' q.skip lv1 Bq cq r2 _ (by omega) (At1.at h1') hr3) (MSub.pick pK (MSub.pick pK (MSub.pick pK (MSub.pick pK (MSub.pick pK (MSub.refl _))))))) ?_ ?_)|(rintro _ _ ⟨rfl,n2,p2,lv2,B2,cb2,rfl,h6,rfl⟩)|(rintro _ _ ⟨e,rfl,rfl,h3⟩)|(apply aw (f:=293);exact rfl;exact rfl;exact FnIn.msub (kp (dL 6 t.num) _ _ _ _ _ _ _ _ _ (At.len h6 hl) _ _) (MSub.pick pK (MSub.pick pK (MSub.pick pK (MSub.refl _))));rintro _ _ ⟨rfl,B3,cb3,rfl⟩)|refine sT ?_|refine sP ?_|refine sM fun _=> ?_|(refine sC ?_ ?_<;>intro hb<;>try omega)|exact cT|fail)
          · rcases hr4 with ⟨e,h,_⟩|⟨n3,p3,h,h7⟩
            · cases h
            · cases h
              refine ⟨(f',p2.put (dL 6 t.num),lv2,B3,cb3),⟨by omega,(h1'.grew h6 (li _ _ _ _ _ _ hr3)).put _,h7⟩,PQ _,sB,sB,?_⟩
              dsimp only [rZ,List.cons_append,List.nil_append,pB]
              exact mS
          · rcases hr4 with ⟨e',h,h7⟩|⟨n3,p3,h,h7⟩
            · cases h
              exact cO h7 (MSub.trans (by unfold rZ;exact .drop (.tl (.tl .hd)) (.drop .hd (.drop .hd (.refl _)))) h3)
            · cases h
        · rw [if_neg hs] at hq2
          cases hq2
          repeat' (first|(apply aa (f:=206);exact rfl;exact rfl;exact hh)|(apply aa (f:=291);exact rfl;exact rfl;(intro w' _;exact wJ _ w'))|refine sT ?_|refine sP ?_|refine sM fun _=> ?_|(refine sC ?_ ?_<;>intro hb<;>try omega)|exact cT|fail)
          all_goals first
            |(exfalso;omega)
            | (refine ep (B' := Bq) (cb' := cq) (by first | exact .inr rfl | exact .inl rfl) rfl rfl hq1 ?_
               dsimp only [rZ,List.cons_append,List.nil_append,pB]
               exact mS)
    · rcases hr2 with ⟨e',h,h5⟩|⟨n1,p1,h,h5⟩
      · cases h
        exact cO h5 (MSub.trans (by unfold rZ;exact .drop .hd (.drop .hd (.refl _))) h3)
      · cases h
def Ll (F:Int→PS→Option Out) (fid:FuncId) (args:List Value):Prop:=
 ∀ (toks:List Tk) (A:Option Nat) (cap:Nat) (fin:Int) (g:Nat) (p:PS) (lv:Value) (B:Option Nat) (cb:Nat) (r:Out) (R:List Blk) (w0:World),toks.length≤cap→toks.length≤1000→At toks A cap p lv→F fin p=some r→
  FnP Tryz.prog fid (.pointer (some ⟨g,0,none⟩)::args) w0 (pB g lv A cap fin toks B cb p.out++R) (PR toks A cap fin g R r) (PD R r)
def DY (c:Int) (fin:Int) (p:PS):Option Out:=if (hdT fin p.l).kind≠c then some (.error ((hdT fin p.l).at_,4)) else some (.ok (0,p.skip))
theorem xw (c:Int) (h0:c≠0):Ll (DY c) 350 [.int .u8 c]:=by
  intro toks A cap fin g p lv B cb r R w0 hc hl hat hrun
  refine uN Tryz.func350 rfl Tryz.ntmps350 rfl ?_
  have hh:=fun w hm=>hat.head (fin:=fin) (g:=g) (B:=B) (cb:=cb) (out:=p.out) (H:=pB g lv A cap fin toks B cb p.out++R) (w0:=w0) (MSub.pick .hd (.pick .hd (.pick .hd (.nil _)))) w hm
  unfold DY at hrun
  obtain ⟨t,ht⟩: ∃ t,hdT fin p.l=t:=⟨_,rfl⟩
  rw [ht] at hrun hh
  by_cases hk:t.kind≠c
  · rw [if_pos hk] at hrun
    cases hrun
    repeat' (first|(apply aa (f:=206);exact rfl;exact rfl;exact hh)|(refine bB (f:=207) rfl rfl (iY _ _ _ _ _ (fun _ _=>False)) ?_ ?_)|(exact fun _ _ h=>h.elim)|(rintro _ _ ⟨rfl,rfl⟩)|refine sT ?_|refine sP ?_|refine sM fun _=> ?_|(refine sC ?_ ?_<;>intro hb<;>try omega)|fail)
    all_goals first
      |(exfalso;omega)
      | (refine cO rfl ?_
         dsimp only [List.cons_append,List.nil_append,pB]
         exact mS)
  · rw [if_neg hk] at hrun
    cases hrun
    repeat' (first|(apply aa (f:=206);exact rfl;exact rfl;exact hh)|(apply aw (f:=292);exact rfl;exact rfl;exact hat.skip hc (c:=c) (by rw [ht];omega) h0 (MSub.pick pK (MSub.pick pK (MSub.pick pK (MSub.refl _))));rintro _ _ ⟨rfl,lv1,h1,rfl⟩)|refine sT ?_|refine sP ?_|refine sM fun _=> ?_|(refine sC ?_ ?_<;>intro hb<;>try omega)|fail)
    all_goals first
      |(exfalso;omega)
      | (refine ep (B' := B) (cb' := cb) (by first | exact .inr rfl | exact .inl rfl) rfl rfl (At1.at h1) ?_
         dsimp only [List.cons_append,List.nil_append,pB]
         exact mS)
theorem pG (v:Vl):Ll (fun fin p=>if (hdT fin p.l).kind=0 then none else some (.ok (0,p.skip.put ⟨1,v,aM,0,0,0⟩))) 349 [.agg (dx v).toArray]:=by
 intro toks A cap fin g p lv B cb r R w0 hc hl hat hrun
 refine uN Tryz.func349 rfl Tryz.ntmps349 rfl ?_
 dsimp only at hrun
 by_cases hk:(hdT fin p.l).kind=0
 ·
  rw [if_pos hk] at hrun;cases hrun
 rw [if_neg hk] at hrun
 cases hrun
 repeat' (first|(apply aw (f:=292);exact rfl;exact rfl;exact hat.skip hc rfl hk (MSub.pick pK (MSub.pick pK (MSub.pick pK (MSub.refl _))));rintro _ _ ⟨rfl,lv1,h1,rfl⟩)|(apply aw (f:=293);exact rfl;exact rfl;exact FnIn.msub (kp ⟨1,v,aM,0,0,0⟩ _ _ _ _ _ _ _ _ _ (At.len hat hl) _ _) (MSub.pick pK (MSub.pick pK (MSub.pick pK (MSub.refl _))));rintro _ _ ⟨rfl,B3,cb3,rfl⟩)|refine sT ?_|refine sP ?_|refine sM fun _=> ?_|(refine sC ?_ ?_<;>intro hb<;>try omega)|fail)
 all_goals
  refine ep (p' :=p.skip.put ⟨1,v,aM,0,0,0⟩) (B' :=B3) (cb' :=cb3) (by first|exact .inr rfl|exact .inl rfl) rfl rfl (h1.put _) ?_
  dsimp only [List.cons_append,List.nil_append,pB]
  exact mS
theorem Dc (f:Nat) (ih:POK f (.level 1) 248 [.int .i64 1]):POK f (.level 1) 205 []:=by
 intro toks A cap fin g p lv B cb r R w0 hc hl hat hrun
 refine uN Tryz.func205 rfl Tryz.ntmps205 rfl ?_
 repeat' (first|(refine bB (f:=248) rfl rfl (FnP.msub (ih toks A cap fin g p _ B cb r _ w0 hc hl hat hrun) (MSub.pick pK (MSub.pick pK (MSub.pick pK (MSub.refl _))))) ?_ ?_)|(rintro _ _ ⟨rfl,n,p',lv',B',cb',rfl,h2,rfl⟩)|(rintro _ _ ⟨e,rfl,rfl,h3⟩)|refine sT ?_|refine sP ?_|refine sM fun _=> ?_|(refine sC ?_ ?_<;>intro hb<;>try omega)|fail)
 ·
  exact ep (by first|exact .inr rfl|exact .inl rfl) rfl rfl h2 (.refl _)
 ·
  exact cO rfl h3
def yA (f:Nat) (fn:Int) (n:Nat) (fin:Int) (p:PS):Option Out:=
 if (hdT fin p.l).kind≠6 then fR (bE fin f (.level 1) p) fun _ p=>some (.ok (0,p))
 else if (jK fn n).1=false∨(jK fn n).2≠0 then some (.error ((hdT fin p.l).at_,4))
 else some (.ok (0,p.skip.put ⟨3,bK,(hdT fin p.l).rect,0,0,0⟩))
theorem zn {o:Option Out} {k k' :Nat→PS→Option Out}:fR (fR o k) k' =fR o fun n p=>fR (k n p) k' :=by
 match o with
 |none=>rfl
 |some (.ok (n,p))=>rfl
 |some (.error e)=>rfl
theorem yz (fin:Int) (f:Nat) (fn:Int) (n:Nat) (p:PS):bE fin (f+1) (.args fn n) p=fR (yA f fn n fin p) fun _ p=>if (hdT fin p.l).kind=11 then bE fin f (.args fn (n+1)) p.skip else some (.ok (n+1,p)):=by
 rw [bE]
 unfold yA
 split
 ·
  rw [zn];rfl
 ·
  split<;>rfl
set_option maxHeartbeats 1000000 in
theorem Br (f:Nat) (fn:Int) (n:Nat) (ih:POK f (.level 1) 205 []):Ll (yA f fn n) 364 [.int .u8 fn,.int .i64 n]:=by
  intro toks A cap fin g p lv B cb r R w0 hc hl hat hrun
  refine uN Tryz.func364 rfl Tryz.ntmps364 rfl ?_
  have hh:=fun w hm=>hat.head (fin:=fin) (g:=g) (B:=B) (cb:=cb) (out:=p.out) (H:=pB g lv A cap fin toks B cb p.out++R) (w0:=w0) (MSub.pick .hd (.pick .hd (.pick .hd (.nil _)))) w hm
  unfold yA at hrun
  obtain ⟨t,ht⟩: ∃ t,hdT fin p.l=t:=⟨_,rfl⟩
  rw [ht] at hrun hh
  by_cases hk:t.kind≠6
  · rw [if_pos hk] at hrun
    obtain ⟨r1,hr1,hr2⟩:=bD hrun
    repeat' (first|(apply aa (f:=206);exact rfl;exact rfl;exact hh)|(refine bB (f:=205) rfl rfl (FnP.msub (ih toks A cap fin g p _ B cb r1 _ w0 hc hl hat hr1) (MSub.pick pK (MSub.pick pK (MSub.pick pK (MSub.refl _))))) ?_ ?_)|(rintro _ _ ⟨rfl,n,p',lv',B',cb',rfl,h2,rfl⟩)|(rintro _ _ ⟨e,rfl,rfl,h3⟩)|refine sT ?_|refine sP ?_|refine sM fun _=> ?_|(refine sC ?_ ?_<;>intro hb<;>try omega)|fail)
    · rcases hr2 with ⟨e,h,_⟩|⟨n1,p1,h,h5⟩
      · cases h
      · cases h
        cases h5
        refine ep (B' :=B') (cb' :=cb') (by first|exact .inr rfl|exact .inl rfl) rfl rfl h2 ?_
        simp only [NN,NF,NH,pB]
        exact mS
    · rcases hr2 with ⟨e',h,h5⟩|⟨n1,p1,h,h5⟩
      · cases h
        exact cO h5 (MSub.trans (.drop .hd (.refl _)) h3)
      · cases h
  · rw [if_neg hk] at hrun
    have hw:=fun w=>DV fn n w
    obtain ⟨wb,we,hwe⟩: ∃ wb we,jK fn n=(wb,we):=⟨_,_,rfl⟩
    rw [hwe] at hrun hw
    by_cases hwk:wb=false∨we≠0
    · rw [if_pos hwk] at hrun
      cases hrun
      repeat' (first|(apply aa (f:=206);exact rfl;exact rfl;exact hh)|(apply aa (f:=328);exact rfl;exact rfl;(intro w' _;exact hw w'))|(refine bB (f:=207) rfl rfl (iY _ _ _ _ _ (fun _ _=>False)) ?_ ?_)|(exact fun _ _ h=>h.elim)|(rintro _ _ ⟨rfl,rfl⟩)|refine sT ?_|refine sP ?_|refine sM fun _=> ?_|(refine sC ?_ ?_<;>intro hb<;>try omega)|fail)
      all_goals first
        |(exfalso;simp_all<;>omega)
        |(exfalso;omega)
        | (refine cO rfl ?_
           simp only [NN,NF,NH,pB]
           exact mS)
    · rw [if_neg hwk] at hrun
      cases hrun
      repeat' (first|(apply aa (f:=206);exact rfl;exact rfl;exact hh)|(apply aa (f:=328);exact rfl;exact rfl;(intro w' _;exact hw w'))|(apply aw (f:=292);exact rfl;exact rfl;exact hat.skip hc (c:=6) (by rw [ht];omega) (by decide) (MSub.pick pK (MSub.pick pK (MSub.pick pK (MSub.refl _))));rintro _ _ ⟨rfl,lv1,h1,rfl⟩)|(apply aw (f:=293);exact rfl;exact rfl;exact FnIn.msub (kp ⟨3,bK,t.rect,0,0,0⟩ _ _ _ _ _ _ _ _ _ (At.len hat hl) _ _) (MSub.pick pK (MSub.pick pK (MSub.pick pK (MSub.refl _))));rintro _ _ ⟨rfl,B3,cb3,rfl⟩)|refine sT ?_|refine sP ?_|refine sM fun _=> ?_|(refine sC ?_ ?_<;>intro hb<;>try omega)|fail)
      all_goals first
        |(exfalso;simp_all<;>omega)
        |(exfalso;omega)
        | (refine ep (p' := p.skip.put ⟨3, bK, t.rect, 0, 0, 0⟩) (B' := B3) (cb' := cb3) (by first | exact .inr rfl | exact .inl rfl) rfl rfl (h1.put _) ?_
           simp only [NN,NF,NH,pB]
           exact mS)
end Go.SL
