/-
  Lemmas and walks, put together: Px2 C1 Px3 C2 C3.
-/
import Derived.Test.YtoanpdoacdpgeaaGreatDoorKn12
set_option linter.unusedSimpArgs false
set_option linter.unusedVariables false
set_option maxRecDepth 20000
namespace Go.SL
open Go
def Job.c:Job→Nat
 | .level k=>(9 - k).toNat
 | .loop _=>1
 | .sign=>3
 | .pct=>2
 | .pctl=>1
 | .prim=>1
 | .args _ _=>9
def Job.fit:Job→Prop
 | .level k=>1≤k∧k≤5
 | .loop k=>1≤k∧k≤4
 |_=>True
def Job.eats:Job→Prop
 | .loop _=>False
 | .pctl=>False
 |_=>True
def FT (p:PS) (strict:Prop) (r:Out):Prop:= ∀ n p',r= .ok (n,p')→p'.l.length≤p.l.length∧(strict→p'.l.length<p.l.length)
def Da (o:Option Out) (B:Out→Prop):Prop:= ∃ r,o=some r∧B r
theorem dl {B:Out→Prop} {r:Out} (h:B r):Da (some r) B:=⟨r,rfl,h⟩
theorem cN {p:PS} {q:Prop} {e:Int × Int}:FT p q (.error e):=fun _ _ h=>by cases h
theorem iq {p p' :PS} {q:Prop} {n:Nat} (h:p'.l.length≤p.l.length) (hq:q→p'.l.length<p.l.length):FT p q (.ok (n,p')):=fun m p2 h2=>by
 cases h2
 exact ⟨h,hq⟩
theorem eY {o:Option Out} {k:Nat→PS→Option Out} {p:PS} {q:Prop} {B:Out→Prop} (h:Da o (FT p q)) (he: ∀ e,B (.error e)) (hk: ∀ n p',p'.l.length≤p.l.length→(q→p'.l.length<p.l.length)→Da (k n p') B):Da (fI o k) B:=by
 obtain ⟨r,rfl,hr⟩:=h
 cases r with
 |error e=>exact ⟨_,rfl,he e⟩
 |ok x=>
  obtain ⟨n,p'⟩:=x
  obtain ⟨h1,h2⟩:=hr n p' rfl
  exact hk n p' h1 h2
theorem gY {fin:Int} {l:List Tk} (h:(hdT fin l).kind≠0):0<l.length:=by
 cases l with
 |nil=>exact absurd rfl h
 |cons=>simp
theorem eK (p:PS):p.skip.l.length=p.l.length - 1:=by simp [PS.skip]
theorem dV (p:PS) (n:Nd):(p.put n).l=p.l:=rfl
theorem o8 {fin:Int} {name:Tk} {fn:Int} {n:Nat} {p p0:PS} {q:Prop} (h:p.l.length≤p0.l.length) (hq:0<p.l.length→q→p.l.length - 1<p0.l.length):Da (dm fin name fn n p) (FT p0 q):=by
 unfold dm
 dsimp only
 split
 ·
  exact dl cN
 ·
  rename_i hk
  have hpos:=gY (fin:=fin) (l:=p.l) (by omega)
  split
  ·
   exact dl cN
  ·
   split
   ·
    exact dl cN
   ·
    refine dl (iq ?_ fun hh=> ?_)
    ·
     rw [dV,eK];omega
    ·
     rw [dV,eK];exact hq hpos hh
theorem vK (fin:Int): ∀ (f:Nat) (j:Job) (p:PS),j.fit→20*p.l.length+j.c≤f→Da (bG fin f j p) (FT p j.eats):=by
 intro f
 induction f with
 |zero=>
  intro j p hj hf
  cases j with
  |level k=>obtain ⟨h1,h2⟩:=hj;simp only [Job.c] at hf;omega
  |_=>simp only [Job.c] at hf;omega
 |succ f ih=>
  intro j p hj hf
  cases j with
  |level k=>
   obtain ⟨h1,h2⟩:=hj
   simp only [Job.c] at hf
   rw [bG]
   split
   ·
    obtain ⟨r,hr,hl⟩:=ih .sign p trivial (by simp only [Job.c];omega)
    exact ⟨r,hr,hl⟩
   ·
    refine eY (ih (.level (k+1)) p ⟨by omega,by omega⟩ (by simp only [Job.c];omega)) (fun e=>cN) fun n p' h3 h4=> ?_
    have h5:=h4 trivial
    obtain ⟨r,hr,hl⟩:=ih (.loop k) p' ⟨h1,by omega⟩ (by simp only [Job.c];omega)
    exact ⟨r,hr,fun m q hq=>⟨by have:=(hl m q hq).1;omega,fun _=>by have:=(hl m q hq).1;omega⟩⟩
  |loop k=>
   obtain ⟨h1,h2⟩:=hj
   simp only [Job.c] at hf
   rw [bG]
   split
   ·
    rename_i hk
    have hpos:=gY (fin:=fin) (l:=p.l) (by omega)
    have hs:=eK p
    refine eY (ih (.level (k+1)) p.skip ⟨by omega,by omega⟩ (by simp only [Job.c];omega)) (fun e=>cN) fun n p' h3 h4=> ?_
    have h5:=h4 trivial
    obtain ⟨r,hr,hl⟩:=ih (.loop k) (p'.put (dF 6 (hdT fin p.l).num)) ⟨h1,h2⟩ (by rw [dV];simp only [Job.c];omega)
    exact ⟨r,hr,fun m q hq=>⟨by have:=(hl m q hq).1;rw [dV] at this;omega,fun h=>h.elim⟩⟩
   ·
    exact dl (iq (Ni _) fun h=>h.elim)
  |sign=>
   simp only [Job.c] at hf
   rw [bG]
   dsimp only
   split
   ·
    rename_i hk
    have hpos:=gY (fin:=fin) (l:=p.l) (by omega)
    have hs:=eK p
    refine eY (ih .sign p.skip trivial (by simp only [Job.c];omega)) (fun e=>cN) fun n p' h3 h4=> ?_
    have h5:=h4 trivial
    exact dl (iq (by rw [dV];omega) fun _=>by rw [dV];omega)
   ·
    refine eY (ih .pct p trivial (by simp only [Job.c];omega)) (fun e=>cN) fun n p' h3 h4=> ?_
    have h5:=h4 trivial
    split
    ·
     have hs:=eK p'
     refine eY (ih .sign p'.skip trivial (by simp only [Job.c];omega)) (fun e=>cN) fun n p2 h6 h7=> ?_
     exact dl (iq (by rw [dV];omega) fun _=>by rw [dV];omega)
    ·
     exact dl (iq h3 fun _=>h5)
  |pct=>
   simp only [Job.c] at hf
   rw [bG]
   refine eY (ih .prim p trivial (by simp only [Job.c];omega)) (fun e=>cN) fun n p' h3 h4=> ?_
   have h5:=h4 trivial
   obtain ⟨r,hr,hl⟩:=ih .pctl p' trivial (by simp only [Job.c];omega)
   exact ⟨r,hr,fun m q hq=>⟨by have:=(hl m q hq).1;omega,fun _=>by have:=(hl m q hq).1;omega⟩⟩
  |pctl=>
   simp only [Job.c] at hf
   rw [bG]
   split
   ·
    rename_i hk
    have hpos:=gY (fin:=fin) (l:=p.l) (by omega)
    have hs:=eK p
    obtain ⟨r,hr,hl⟩:=ih .pctl (p.skip.put (dF 5 0)) trivial (by rw [dV];simp only [Job.c];omega)
    exact ⟨r,hr,fun m q hq=>⟨by have:=(hl m q hq).1;rw [dV] at this;omega,fun h=>h.elim⟩⟩
   ·
    exact dl (iq (Ni _) fun h=>h.elim)
  |prim=>
   simp only [Job.c] at hf
   rw [bG]
   dsimp only
   have hs:=eK p
   have hs2:=eK p.skip
   split
   ·
    rename_i hk
    have hpos:=gY (fin:=fin) (l:=p.l) (by omega)
    exact dl (iq (by rw [dV];omega) fun _=>by rw [dV];omega)
   ·
    split
    ·
     rename_i hk
     have hpos:=gY (fin:=fin) (l:=p.l) (by omega)
     exact dl (iq (by rw [dV];omega) fun _=>by rw [dV];omega)
    ·
     split
     ·
      rename_i hk
      have hpos:=gY (fin:=fin) (l:=p.l) (by omega)
      refine eY (ih (.level 1) p.skip ⟨by omega,by omega⟩ (by simp only [Job.c];omega)) (fun e=>cN) fun n p' h3 h4=> ?_
      have h5:=h4 trivial
      have hs3:=eK p'
      split
      ·
       exact dl cN
      ·
       exact dl (iq (by omega) fun _=>by omega)
     ·
      split
      ·
       rename_i hk
       have hpos:=gY (fin:=fin) (l:=p.l) (by omega)
       split
       ·
        exact dl cN
       ·
        split
        ·
         exact dl cN
        ·
         rename_i hk2
         have hpos2:=gY (fin:=fin) (l:=p.skip.l) (by omega)
         split
         ·
          exact o8 (by omega) fun _ _=>by omega
         ·
          refine eY (ih (.args (bf (hdT fin p.l).text).1 0) p.skip.skip trivial (by simp only [Job.c];omega)) (fun e=>cN) fun n p' h3 h4=> ?_
          exact o8 (by omega) fun _ _=>by omega
      ·
       exact dl cN
  |args fn n=>
   simp only [Job.c] at hf
   rw [bG]
   dsimp only
   have hgo: ∀ p' :PS,p'.l.length<p.l.length→Da (if (hdT fin p'.l).kind=11 then bG fin f (.args fn (n+1)) p'.skip else some (.ok (n+1,p'))) (FT p (Job.args fn n).eats):=by
    intro p' hp
    have hs:=eK p'
    split
    ·
     obtain ⟨r,hr,hl⟩:=ih (.args fn (n+1)) p'.skip trivial (by simp only [Job.c];omega)
     exact ⟨r,hr,fun m q hq=>⟨by have:=(hl m q hq).1;omega,fun _=>by have:=(hl m q hq).1;omega⟩⟩
    ·
     exact dl (iq (by omega) fun _=>hp)
   split
   ·
    refine eY (ih (.level 1) p ⟨by omega,by omega⟩ (by simp only [Job.c];omega)) (fun e=>cN) fun m p' h3 h4=> ?_
    exact hgo p' (h4 trivial)
   ·
    rename_i hk
    have hpos:=gY (fin:=fin) (l:=p.l) (by omega)
    have hs:=eK p
    split
    ·
     exact dl cN
    ·
     exact hgo _ (by rw [dV];omega)
end Go.SL
namespace Go.SL
open Go Go.Proofs
attribute [local irreducible] W WL WQ WG WA WX WLI WR WT VOp thn blk bE scp ba bL aP FnIn
def TkV (v:Value) (A:Option Nat) (n cap k:Nat):Prop:= ∃ a:Option Addr,v= .slice a (n - k) (cap - k)∧(k<n→a=A.map fun g=>⟨g,k*8,none⟩)
def pB (g:Nat) (lv:Value) (A:Option Nat) (cap:Nat) (fin:Int) (toks:List Tk) (B:Option Nat) (cb:Nat) (out:List Nd):List Blk:=
 [.box g 226 [lv,.int .i64 fin,sl B out.length cb],.own A 228 8 toks.length cap (toks.flatMap bh),.own B 293 11 out.length cb (out.flatMap cv)]
theorem TkV.next {P:Program} {t e:Nat} {v:Value} {A:Option Nat} {n cap k:Nat} [ht:Und P t (.slice e)] [hz:Size P e 8] (h:TkV v A n cap k) (hk:k<n) (hc:n≤cap):
  ∃ v',TkV v' A n cap (k+1)∧v'.oneCell' =true∧(∃ a m c,v' = .slice a m c)∧ ∀ {w0:World} {s:az} {H:List Blk} {ty:TypeId} {x r:Operand} {k' :IntKind},ev s x=some v→ev s r=some (.int k' 1)→VOp P w0 s H (.slice t x (some r) none none) ty v' :=by
 obtain ⟨a,rfl,ha⟩:=h
 refine ⟨.slice (if cap - k=1 then a else a.map (·.add (1*8))) (n - k - 1) (cap - k - 1),⟨if cap - k=1 then a else a.map (·.add (1*8)),?_,fun hk1=> ?_⟩,rfl,⟨_,_,_,rfl⟩,fun hx hr=>iQ (lo:=1) (hi:=n - k) hx ⟨_,hr⟩ rfl (by omega) (by omega)⟩
 ·
  congr 1
 ·
  rw [if_neg (by omega),ha hk]
  cases A with
  |none=>rfl
  |some g=>(simp [cE])<;>omega
theorem DR {fin:Int} {toks:List Tk} {k:Nat} (h:k<toks.length):hdT fin (toks.drop k)=toks[k]:=by
 rw [Nn h];rfl
theorem rz {fin:Int} {toks:List Tk} {k:Nat} (h:toks.length≤k):hdT fin (toks.drop k)={ cU with at_:=fin }:=by
 rw [NC h];rfl
theorem zy (g:Nat) (lv:Value) (A:Option Nat) (cap:Nat) (fin:Int) (toks:List Tk) (k:Nat) (hk:TkV lv A toks.length cap k) (x:Value) (w:World) (hr:Ro w g 0 [lv,.int .i64 fin,x])
  (ht:k<toks.length→ ∃ ga,A=some ga∧Ro w ga 0 (toks.flatMap bh)):ay Tryz.prog 177 [.pointer (some ⟨g,0,none⟩)] w (.agg (bh (hdT fin (toks.drop k))).toArray):=by
 refine aq Tryz.func177 rfl Tryz.ntmps177 rfl ?_
 obtain ⟨a,rfl,ha⟩:=hk
 by_cases hlt:k<toks.length
 ·
  rw [DR hlt]
  obtain ⟨ga,rfl,hra⟩:=ht hlt
  have ha' :=ha hlt
  subst ha'
  have hra' :Ro w ga (k*8) (bh toks[k]):=by
   have:=hra.elem wo k hlt
   rwa [Ny] at this
  have hlen:0<toks.length - k:=by omega
  repeat' (first|(apply ak;exact rfl;apply aL (o:=0) (off:=0);exact hr;exact rfl;exact rfl)|(apply ak;exact rfl;apply aL (o:=0) (off:=1);exact hr;exact rfl;exact rfl)|(apply ak;exact rfl;apply aj (j:=0);exact rfl;exact rfl;exact hlen)|(apply ak;exact rfl;apply eH (o:=k*8) (off:=0*8);exact hra';(iterate 3 exact rfl))|refine sT ?_|refine sM fun _=> ?_|(refine sC ?_ ?_<;>intro hb<;>try omega)|fail)
  all_goals try (exfalso;omega)
  (refine eRC ?_)
  rfl
 ·
  rw [rz (by omega)]
  repeat' (first|(apply ak;exact rfl;apply aL (o:=0) (off:=0);exact hr;exact rfl;exact rfl)|(apply ak;exact rfl;apply aL (o:=0) (off:=1);exact hr;exact rfl;exact rfl)|refine sT ?_|refine sM fun _=> ?_|(refine sC ?_ ?_<;>intro hb<;>try omega)|fail)
  all_goals try (exfalso;omega)
  (refine eRC ?_)
  rfl
theorem Ho {g:Nat} {lv:Value} {A:Option Nat} {cap:Nat} {fin:Int} {toks:List Tk} {k:Nat} (hk:TkV lv A toks.length cap k) {B:Option Nat} {cb:Nat} {out:List Nd} {H:List Blk} {w0:World} (hH:MSub (pB g lv A cap fin toks B cb out) H) (w:World) (hm:Mem w0 w H):
  ay Tryz.prog 177 [.pointer (some ⟨g,0,none⟩)] w (.agg (bh (hdT fin (toks.drop k))).toArray):=by
 have hm' :=hH.use hm
 refine zy g lv A cap fin toks k hk (sl B out.length cb) w (Ro.of_box hm' .hd) fun hlt=> ?_
 obtain ⟨_,_,_,h4⟩:=(hm'.on _ (In.tl .hd:In (.own A 228 8 toks.length cap (toks.flatMap bh)) _).mem).1
 cases A with
 |none=>obtain ⟨h5,_⟩:=h4;omega
 |some ga=>exact ⟨ga,rfl,Ro.of_own hm' (In.tl .hd)⟩
theorem Hn (g:Nat) (lv:Value) (A:Option Nat) (cap:Nat) (fin:Int) (toks:List Tk) (k:Nat) (hv:TkV lv A toks.length cap k) (hk:k<toks.length) (hc:toks.length≤cap) (B:Option Nat) (cb:Nat) (out:List Nd) (R:List Blk) (w0:World):
  FnIn Tryz.prog 275 [.pointer (some ⟨g,0,none⟩)] w0 (pB g lv A cap fin toks B cb out++R) fun v H=>v= .tuple #[]∧ ∃ lv',TkV lv' A toks.length cap (k+1)∧H=pB g lv' A cap fin toks B cb out++R:=by
 refine dZ Tryz.func275 rfl Tryz.ntmps275 rfl ?_
 obtain ⟨lv',h1,h3,⟨a',m',c',rfl⟩,h2⟩:=hv.next hk hc (P:=Tryz.prog) (t:=219) (e:=228)
 obtain ⟨a,rfl,ha⟩:=hv
 repeat' (first|(apply ak (d:=7);exact rfl;exact h2 rfl rfl)|refine sT ?_|refine sM fun _=> ?_|(refine sC ?_ ?_<;>intro hb<;>try omega)|fail)
 exact iB (.inr rfl) rfl (.refl _) ⟨rfl,_,h1,rfl⟩
theorem jF (n:Nd) (g:Nat) (lv:Value) (A:Option Nat) (cap:Nat) (fin:Int) (toks:List Tk) (B:Option Nat) (cb:Nat) (out:List Nd) (hlen:out.length≤1000000) (R:List Blk) (w0:World):
  FnIn Tryz.prog 276 [.pointer (some ⟨g,0,none⟩),.agg (cv n).toArray] w0 (pB g lv A cap fin toks B cb out++R) fun v H=>v= .tuple #[]∧ ∃ B' cb',H=pB g lv A cap fin toks B' cb' (out++ [n])++R:=by
 refine dZ Tryz.func276 rfl Tryz.ntmps276 rfl ?_
 repeat' (first|refine sT ?_|refine sM fun _=> ?_|(refine sC ?_ ?_<;>intro hb<;>try omega)|fail)
 refine iP 11 rfl (by kernel_rfl) ?_
 ((with_reducible apply aR (i:=0));exact rfl;exact rfl;decide+kernel;decide+kernel;decide+kernel;exact nP;(intro _ _;exact vP))
 ((with_reducible apply aR (i:=1));exact rfl;exact rfl;decide+kernel;decide+kernel;decide+kernel;exact nP;(intro _ _;exact vP))
 ((with_reducible apply aR (i:=2));exact rfl;exact rfl;decide+kernel;decide+kernel;decide+kernel;exact nP;(intro _ _;exact vP))
 ((with_reducible apply aR (i:=3));exact rfl;exact rfl;decide+kernel;decide+kernel;decide+kernel;exact nP;(intro _ _;exact vP))
 repeat' (first|(apply cM (i:=4) (j:=5);exact rfl;exact rfl;decide+kernel)|(apply cM (i:=4) (j:=6);exact rfl;exact rfl;decide+kernel)|(apply aJ (i:=4);exact rfl;decide+kernel)|(apply aJ (i:=5);exact rfl;decide+kernel)|(apply aJ (i:=6);exact rfl;decide+kernel)|(apply aJ (i:=7);exact rfl;decide+kernel)|(apply aJ (i:=8);exact rfl;decide+kernel)|(apply aJ (i:=9);exact rfl;decide+kernel)|(apply aJ (i:=10);exact rfl;decide+kernel)|(apply iO;decide+kernel)|(apply aG;(iterate 3 exact rfl);exact pK;exact pK;exact rfl;(simp [cv,Value.oneCell']);omega;(simp only [maxLen];omega);intro g8 c8)|refine sT ?_|refine sM fun _=> ?_|(refine sC ?_ ?_<;>intro hb<;>try omega)|fail)
 all_goals
  refine iB eIO rfl (H' :=pB g lv A cap fin toks (some g8) c8 (out++ [n])++R) ?_ ⟨rfl,_,_,rfl⟩
  simp only [pB,Na,Nh,Nt,Np,NE,Nl,Nf,Ng]
  exact mS
def xK (e:Int × Int):Value:= .iface 223 (.agg #[.int .i64 e.1,.int .i64 e.2])
theorem iC (x:Value) (at_ e:Int) (H:List Blk) (w0:World) (R:Value→List Blk→Prop):
  FnP Tryz.prog 178 [x,.int .i64 at_,.int .i64 e] w0 H R fun v H' =>v=xK (at_,e)∧H' =H:=by
 refine tR Tryz.func178 rfl Tryz.ntmps178 rfl ?_
 repeat' (first|(apply ak;exact rfl;apply yz;(intro m;exact fun h=>by cases h);exact rfl)|(apply F7;exact rfl)|refine sT ?_|refine sM fun _=> ?_|(refine sC ?_ ?_<;>intro hb<;>try omega)|fail)
 exact KP (.refl _) ⟨rfl,rfl⟩
theorem LB (op:Int) {g:Nat} {lv:Value} {A:Option Nat} {cap:Nat} {fin:Int} {toks:List Tk} {k:Nat} (hk:TkV lv A toks.length cap k) {B:Option Nat} {cb:Nat} {out:List Nd} {H:List Blk} {w0:World} (hH:MSub (pB g lv A cap fin toks B cb out) H) (w:World) (hm:Mem w0 w H):
  ay Tryz.prog 303 [.pointer (some ⟨g,0,none⟩),.int .i64 op] w (.bool (decide ((hdT fin (toks.drop k)).kind=8∧(hdT fin (toks.drop k)).num=op))):=by
 have hm0:=hH.use hm
 refine aq Tryz.func303 rfl Tryz.ntmps303 rfl ?_
 have hh: ∀ w' H',Mem w w' H' →ay Tryz.prog 177 [.pointer (some ⟨g,0,none⟩)] w' (.agg (bh (hdT fin (toks.drop k))).toArray):=fun w' H' hm' =>by
  refine zy g lv A cap fin toks k hk (sl B out.length cb) w' ((Ro.of_box hm0 .hd).next hm') fun hlt=> ?_
  obtain ⟨_,_,_,h4⟩:=(hm0.on _ (In.tl .hd:In (.own A 228 8 toks.length cap (toks.flatMap bh)) _).mem).1
  cases A with
  |none=>obtain ⟨h5,_⟩:=h4;omega
  |some ga=>exact ⟨ga,rfl,(Ro.of_own hm0 (In.tl .hd)).next hm'⟩
 generalize hdT fin (toks.drop k)=t at hh
 repeat' (first|(apply aa;exact rfl;exact rfl;(intro w' hm';exact hh w' _ hm'))|refine sT ?_|refine sM fun _=> ?_|(refine sC ?_ ?_<;>intro hb<;>try omega)|fail)
 all_goals ((refine rT1 ?_);simp_all)
theorem vT (op:Int) (w:World):ay Tryz.prog 274 [.int .i64 op] w (.tuple #[.int .i64 (fV op),.bool (decide (op=5)),.int .i64 (if fV op=0 then 2 else 0)]):=by
 refine aq Tryz.func274 rfl Tryz.ntmps274 rfl ?_
 repeat' (first|refine sT ?_|refine sM fun _=> ?_|(refine sC ?_ ?_<;>intro hb<;>try omega)|fail)
 all_goals ((refine rT3 ?_);simp_all [fV];try omega)
end Go.SL
namespace Go.SL
open Go
structure Grew (p p' :PS) (strict:Prop):Prop where
 tok: ∃ m,p'.l=p.l.drop m∧m≤p.l.length∧p'.out.length≤p.out.length+m
 out:p.out.length≤p'.out.length
 some:strict→p.out.length<p'.out.length
theorem Grew.refl (p:PS) {q:Prop} (h: ¬ q):Grew p p q:=⟨⟨0,rfl,Ns _,Ni _⟩,Ni _,fun hq=>(h hq).elim⟩
theorem Grew.trans {p p' p2:PS} {q q' q2:Prop} (h:Grew p p' q) (k:Grew p' p2 q') (hq:q2→q∨q'):Grew p p2 q2:=by
 obtain ⟨⟨m,h1,h2,h3⟩,h4,h5⟩:=h
 obtain ⟨⟨n,k1,k2,k3⟩,k4,k5⟩:=k
 refine ⟨⟨m+n,by rw [k1,h1,Ow],?_,by omega⟩,by omega,fun hh=> ?_⟩
 ·
  rw [h1,Nq] at k2;omega
 ·
  rcases hq hh with h|h
  ·
   have:=h5 h;omega
  ·
   have:=k5 h;omega
theorem Grew.step (p:PS) (n:Nd) (h:0<p.l.length) {q:Prop}:Grew p (p.skip.put n) q:=
 ⟨⟨1,by simp [PS.skip,PS.put],h,by simp [PS.skip,PS.put]⟩,by simp [PS.skip,PS.put],fun _=>by simp [PS.skip,PS.put]⟩
theorem Grew.skip (p:PS) (h:0<p.l.length) {q:Prop} (hq: ¬ q):Grew p p.skip q:=
 ⟨⟨1,by simp [PS.skip],h,by simp [PS.skip]⟩,by simp [PS.skip],fun hh=>(hq hh).elim⟩
theorem Grew.wrap {p p' :PS} {q q' :Prop} (h0:0<p.l.length) (h:Grew p.skip p' q) (n:Nd):Grew p (p'.put n) q' :=by
 obtain ⟨⟨m,h1,h2,h3⟩,h4,h5⟩:=h
 simp only [PS.skip] at h1 h2 h3 h4
 refine ⟨⟨1+m,?_,?_,?_⟩,?_,fun _=> ?_⟩
 ·
  simp only [PS.put];rw [h1,← List.drop_one,Ow]
 ·
  rw [PO] at h2;omega
 ·
  simp only [PS.put,Na,Nh];omega
 ·
  simp only [PS.put,Na,Nh];omega
 ·
  simp only [PS.put,Na,Nh];omega
theorem cf {r:Option Out} {k:Nat→PS→Option Out} {x:Nat × PS} (h:fI r k=some (.ok x)): ∃ n p',r=some (.ok (n,p'))∧k n p' =some (.ok x):=by
 unfold fI at h
 split at h
 ·
  exact ⟨_,_,rfl,h⟩
 ·
  rename_i h1
  obtain ⟨n,p'⟩:=x
  exact absurd h (h1 n p')
theorem iK {fin:Int} {l:List Tk} {c:Int} (h:(hdT fin l).kind=c) (hc:c≠0):0<l.length:=gY (fin:=fin) (by omega)
theorem o7 {fin:Int} {name:Tk} {fn:Int} {n m:Nat} {p p' :PS} {q:Prop} (h:dm fin name fn n p=some (.ok (m,p'))):Grew p p' q:=by
 unfold dm at h
 dsimp only at h
 split at h
 ·
  cases h
 ·
  rename_i hk
  have hpos:=iK (Decidable.not_not.1 hk) (by decide)
  split at h
  ·
   cases h
  ·
   split at h
   ·
    cases h
   ·
    cases h
    exact .step p _ hpos
theorem kf (fin:Int): ∀ (f:Nat) (j:Job) (p:PS) (n:Nat) (p' :PS),bG fin f j p=some (.ok (n,p'))→Grew p p' j.eats
 |0,_,_,_,_,h=>by cases h
 |f+1,j,p,n,p',h=>by
  have ih:=kf fin f
  cases j with
  |level k=>
   rw [bG] at h
   split at h
   ·
    have g:=ih .sign _ _ _ h
    exact g
   ·
    obtain ⟨n1,p1,h1,h2⟩:=cf h
    exact (ih _ _ _ _ h1).trans (ih _ _ _ _ h2) fun _=> .inl trivial
  |loop k=>
   rw [bG] at h
   try dsimp only at h
   split at h
   ·
    rename_i hk
    have hpos:=iK hk.1 (by decide)
    obtain ⟨n1,p1,h1,h2⟩:=cf h
    exact ((ih _ _ _ _ h1).wrap (q' :=True) hpos _).trans (ih _ _ _ _ h2) fun _=> .inl trivial
   ·
    cases h
    exact .refl _ fun h=>h
  |sign=>
   rw [bG] at h
   try dsimp only at h
   split at h
   ·
    rename_i hk
    have hpos:=iK hk.1 (by decide)
    obtain ⟨n1,p1,h1,h2⟩:=cf h
    cases h2
    exact (ih _ _ _ _ h1).wrap hpos _
   ·
    obtain ⟨n1,p1,h1,h2⟩:=cf h
    split at h2
    ·
     rename_i hk
     have hpos:=iK hk.1 (by decide)
     obtain ⟨n2,p2,h3,h4⟩:=cf h2
     cases h4
     exact (ih _ _ _ _ h1).trans ((ih _ _ _ _ h3).wrap (q' :=True) hpos _) fun _=> .inl trivial
    ·
     cases h2
     have g:=ih .pct _ _ _ h1
     exact g
  |pct=>
   rw [bG] at h
   obtain ⟨n1,p1,h1,h2⟩:=cf h
   exact (ih _ _ _ _ h1).trans (ih _ _ _ _ h2) fun _=> .inl trivial
  |pctl=>
   rw [bG] at h
   try dsimp only at h
   split at h
   ·
    rename_i hk
    have hpos:=iK hk.1 (by decide)
    exact (Grew.step p _ hpos (q:=True)).trans (ih _ _ _ _ h) fun h=>h.elim
   ·
    cases h
    exact .refl _ fun h=>h
  |prim=>
   rw [bG] at h
   try dsimp only at h
   split at h
   ·
    rename_i hk
    cases h
    exact .step p _ (gY (fin:=fin) (by omega))
   ·
    split at h
    ·
     rename_i hk
     cases h
     exact .step p _ (iK hk (by decide))
    ·
     split at h
     ·
      rename_i hk
      have hpos:=iK hk (by decide)
      obtain ⟨n1,p1,h1,h2⟩:=cf h
      split at h2
      ·
       cases h2
      ·
       rename_i hu
       cases h2
       exact ((Grew.skip p hpos (q:=False) (fun h=>h)).trans (ih _ _ _ _ h1) (q2:=True) fun _=> .inr trivial).trans (Grew.skip p1 (iK (Decidable.not_not.1 hu) (by decide)) (q:=False) fun h=>h) fun _=> .inl trivial
     ·
      split at h
      ·
       rename_i hk
       have hpos:=iK hk (by decide)
       split at h
       ·
        cases h
       ·
        split at h
        ·
         cases h
        ·
         rename_i hu
         have hpos2:=iK (Decidable.not_not.1 hu) (by decide)
         have g1:=(Grew.skip p hpos (q:=False) (fun h=>h)).trans (Grew.skip p.skip hpos2 (q:=False) fun h=>h) (q2:=False) fun h=>h.elim
         split at h
         ·
          exact g1.trans (o7 h (q:=True)) fun _=> .inr trivial
         ·
          obtain ⟨n1,p1,h1,h2⟩:=cf h
          exact (g1.trans (ih _ _ _ _ h1) (q2:=True) fun _=> .inr trivial).trans (o7 h2 (q:=True)) fun _=> .inl trivial
      ·
       cases h
  |args fn i=>
   rw [bG] at h
   try dsimp only at h
   have hgo: ∀ p0:PS,(if (hdT fin p0.l).kind=11 then bG fin f (.args fn (i+1)) p0.skip else some (.ok (i+1,p0)))=some (.ok (n,p'))→Grew p0 p' False:=by
    intro p0 h0
    split at h0
    ·
     rename_i hk
     exact (Grew.skip p0 (iK hk (by decide)) (q:=False) (fun h=>h)).trans (ih _ _ _ _ h0) fun h=>h.elim
    ·
     cases h0
     exact .refl _ fun h=>h
   split at h
   ·
    obtain ⟨n1,p1,h1,h2⟩:=cf h
    exact (ih _ _ _ _ h1).trans (hgo p1 h2) fun _=> .inl trivial
   ·
    rename_i hk
    have hpos:=gY (fin:=fin) (l:=p.l) (by omega)
    split at h
    ·
     cases h
    ·
     exact (Grew.step p _ hpos (q:=True)).trans (hgo _ h) fun _=> .inl trivial
end Go.SL
namespace Go.SL
open Go Go.Proofs
attribute [local irreducible] W WL WQ WG WA WX WLI WR WT VOp thn blk bE scp ba bo bL aP FnIn FnP
def At (toks:List Tk) (A:Option Nat) (cap:Nat) (p:PS) (lv:Value):Prop:= ∃ k,k≤toks.length∧p.l=toks.drop k∧p.out.length≤k∧TkV lv A toks.length cap k
section
variable {toks:List Tk} {A:Option Nat} {cap:Nat} {fin:Int} {g:Nat}
def PR (toks:List Tk) (A:Option Nat) (cap:Nat) (fin:Int) (g:Nat) (R:List Blk) (r:Out) (v:Value) (H:List Blk):Prop:=v= .tuple #[]∧ ∃ n p' lv' B' cb',r= .ok (n,p')∧At toks A cap p' lv' ∧H=pB g lv' A cap fin toks B' cb' p'.out++R
def PD (R:List Blk) (r:Out) (v:Value) (H:List Blk):Prop:= ∃ e,r= .error e∧v=xK e∧MSub R H
def POK (f:Nat) (j:Job) (fid:FuncId) (args:List Value):Prop:=
 ∀ (toks:List Tk) (A:Option Nat) (cap:Nat) (fin:Int) (g:Nat) (p:PS) (lv:Value) (B:Option Nat) (cb:Nat) (r:Out) (R:List Blk) (w0:World),toks.length≤cap→toks.length≤1000→At toks A cap p lv→bG fin f j p=some r→
  FnP Tryz.prog fid (.pointer (some ⟨g,0,none⟩)::args) w0 (pB g lv A cap fin toks B cb p.out++R) (PR toks A cap fin g R r) (PD R r)
theorem bF {o:Option Out} {k:Nat→PS→Option Out} {r:Out} (h:fI o k=some r): ∃ r1,o=some r1∧((∃ e,r1= .error e∧r= .error e)∨(∃ n p',r1= .ok (n,p')∧k n p' =some r)):=by
 unfold fI at h
 split at h
 ·
  rename_i n p'
  exact ⟨_,rfl,.inr ⟨n,p',rfl,h⟩⟩
 ·
  rename_i h1
  cases r with
  |error e=>exact ⟨_,h,.inl ⟨e,rfl,rfl⟩⟩
  |ok x=>obtain ⟨n,p'⟩:=x;exact absurd h (h1 n p')
theorem At.head {p:PS} {lv:Value} (h:At toks A cap p lv) {B:Option Nat} {cb:Nat} {out:List Nd} {H:List Blk} {w0:World} (hH:MSub (pB g lv A cap fin toks B cb out) H) (w:World) (hm:Mem w0 w H):
  ay Tryz.prog 177 [.pointer (some ⟨g,0,none⟩)] w (.agg (bh (hdT fin p.l)).toArray):=by
 obtain ⟨k,h1,h2,h3,h4⟩:=h
 rw [h2]
 exact Ho h4 hH w hm
theorem At.is {p:PS} {lv:Value} (h:At toks A cap p lv) (op:Int) {B:Option Nat} {cb:Nat} {out:List Nd} {H:List Blk} {w0:World} (hH:MSub (pB g lv A cap fin toks B cb out) H) (w:World) (hm:Mem w0 w H):
  ay Tryz.prog 303 [.pointer (some ⟨g,0,none⟩),.int .i64 op] w (.bool (decide ((hdT fin p.l).kind=8∧(hdT fin p.l).num=op))):=by
 obtain ⟨k,h1,h2,h3,h4⟩:=h
 rw [h2]
 exact LB op h4 hH w hm
def At1 (toks:List Tk) (A:Option Nat) (cap:Nat) (p:PS) (lv:Value):Prop:= ∃ k,k≤toks.length∧p.l=toks.drop k∧p.out.length+1≤k∧TkV lv A toks.length cap k
theorem At.skip {p:PS} {lv:Value} (h:At toks A cap p lv) (hc:toks.length≤cap) {c:Int} (hk:(hdT fin p.l).kind=c) (h0:c≠0) {B:Option Nat} {cb:Nat} {out:List Nd} {H R:List Blk} {w0:World} (hH:MSub (pB g lv A cap fin toks B cb out++R) H):
  FnIn Tryz.prog 275 [.pointer (some ⟨g,0,none⟩)] w0 H fun v H=>v= .tuple #[]∧ ∃ lv',At1 toks A cap p.skip lv' ∧H=pB g lv' A cap fin toks B cb out++R:=by
 obtain ⟨k,h1,h2,h3,h4⟩:=h
 have hpos:=iK hk h0
 rw [h2,Nq] at hpos
 refine (Hn g lv A cap fin toks k h4 (by omega) hc B cb out R w0).msub hH|>.mono ?_
 rintro v H' ⟨rfl,lv',h5,rfl⟩
 exact ⟨rfl,lv',⟨k+1,by omega,by simp only [PS.skip];rw [h2,Pu],by simp only [PS.skip];omega,h5⟩,rfl⟩
theorem At1.at {p:PS} {lv:Value} (h:At1 toks A cap p lv):At toks A cap p lv:=let ⟨k,h1,h2,h3,h4⟩:=h;⟨k,h1,h2,by omega,h4⟩
theorem At1.put {p:PS} {lv:Value} (h:At1 toks A cap p lv) (n:Nd):At toks A cap (p.put n) lv:=let ⟨k,h1,h2,h3,h4⟩:=h;⟨k,h1,h2,by simp only [PS.put,Na,Nh];exact h3,h4⟩
theorem At.len {p:PS} {lv:Value} (h:At toks A cap p lv) (hl:toks.length≤1000):p.out.length≤1000000:=let ⟨k,h1,h2,h3,h4⟩:=h;by omega
theorem At1.grew {p p' :PS} {lv lv' :Value} {q:Prop} (h:At1 toks A cap p lv) (h' :At toks A cap p' lv') (hg:Grew p p' q):At1 toks A cap p' lv' :=by
 obtain ⟨k,h1,h2,h3,h4⟩:=h
 obtain ⟨k',g1,g2,g3,g4⟩:=h'
 obtain ⟨⟨m,e1,e2,e3⟩,_,_⟩:=hg
 rw [h2,Ow] at e1
 rw [h2,Nq] at e2
 have hk:k' =k+m:=by
  have:=congrArg List.length (g2.symm.trans e1)
  rw [Nq,Nq] at this
  omega
 exact ⟨k',g1,g2,by omega,g4⟩
theorem dX {fn:Func} {fr:Fr} {w0:World} {R H:List Blk} {r:Out} {n:Nat} {p' :PS} {lv' :Value} {B' :Option Nat} {cb' :Nat} {e:Exit} {s:az} (he:e= .ret∨e= .normal) (hf:fn.results= #[]) (hr:r= .ok (n,p')) (hat:At toks A cap p' lv') (hs:MSub (pB g lv' A cap fin toks B' cb' p'.out++R) H):
  bo Tryz.prog fn fr w0 (PR toks A cap fin g R r) (PD R r) e s H:=MD (iB he hf hs ⟨rfl,n,p',lv',B',cb',hr,hat,rfl⟩)
theorem cL {fn:Func} {fr:Fr} {w0:World} {R H:List Blk} {r:Out} {e:Int × Int} {s:az} {Rok:Value→List Blk→Prop} (hr:r= .error e) (hs:MSub R H):
  bo Tryz.prog fn fr w0 Rok (PD R r) (.panic (iL (xK e))) s H:=KP (.refl _) ⟨e,hr,rfl,hs⟩
set_option maxHeartbeats 1000000 in
theorem JV (f:Nat) (ihS:POK f .sign 272 []) (ihP:POK f .pct 304 []):POK (f+1) .sign 272 []:=by
 intro toks A cap fin g p lv B cb r R w0 hc hl hat hrun
 refine tR Tryz.func272 rfl Tryz.ntmps272 rfl ?_
 rw [bG] at hrun
 dsimp only at hrun
 have hi:=fun w hm=>hat.is 2 (fin:=fin) (g:=g) (B:=B) (cb:=cb) (out:=p.out) (H:=pB g lv A cap fin toks B cb p.out++R) (w0:=w0) (MSub.pick .hd (.pick .hd (.pick .hd (.nil _)))) w hm
 by_cases hs:(hdT fin p.l).kind=8∧(hdT fin p.l).num=2
 ·
  rw [if_pos hs] at hrun
  obtain ⟨r1,hr1,hr2⟩:=bF hrun
  rw [decide_eq_true hs] at hi
  repeat' (first|(apply aa (f:=303);exact rfl;exact rfl;exact hi)|(apply aw (f:=275);exact rfl;exact rfl;exact hat.skip hc hs.1 (by decide) (MSub.pick pK (MSub.pick pK (MSub.pick pK (MSub.refl _))));rintro _ _ ⟨rfl,lv1,h1,rfl⟩)|(refine bB (f:=272) rfl rfl (FnP.msub (ihS toks A cap fin g p.skip _ B cb r1 _ w0 hc hl (At1.at h1) hr1) (MSub.pick pK (MSub.pick pK (MSub.pick pK (MSub.refl _))))) ?_ ?_)|(rintro _ _ ⟨rfl,n,p',lv',B',cb',rfl,h2,rfl⟩)|(rintro _ _ ⟨e,rfl,rfl,h3⟩)|(apply aw (f:=276);exact rfl;exact rfl;exact FnIn.msub (jF (dF 4 0) _ _ _ _ _ _ _ _ _ (At.len h2 hl) _ _) (MSub.pick pK (MSub.pick pK (MSub.pick pK (MSub.refl _))));rintro _ _ ⟨rfl,B2,cb2,rfl⟩)|refine sT ?_|refine sP ?_|refine sM fun _=> ?_|(refine sC ?_ ?_<;>intro hb<;>try omega)|fail)
  ·
   rcases hr2 with ⟨e,h,_⟩|⟨n1,p1,h,h5⟩
   ·
    cases h
   ·
    cases h
    cases h5
    exact dX (p' :=p'.put (dF 4 0)) (.inl rfl) rfl rfl ((h1.grew h2 (kf _ _ _ _ _ _ hr1)).put _) (.refl _)
  ·
   rcases hr2 with ⟨e',h,h5⟩|⟨n1,p1,h,h5⟩
   ·
    cases h
    exact cL h5 h3
   ·
    cases h
 ·
  rw [if_neg hs] at hrun
  rw [decide_eq_false hs] at hi
  obtain ⟨r1,hr1,hr2⟩:=bF hrun
  repeat' (first|(apply aa (f:=303) (d:=3);exact rfl;exact rfl;exact hi)|(refine bB (f:=304) rfl rfl (FnP.msub (ihP toks A cap fin g p _ B cb r1 _ w0 hc hl hat hr1) (MSub.pick pK (MSub.pick pK (MSub.pick pK (MSub.refl _))))) ?_ ?_)|(rintro _ _ ⟨rfl,n,p',lv',B',cb',rfl,h2,rfl⟩)|(rintro _ _ ⟨e,rfl,rfl,h3⟩)|refine sT ?_|refine sP ?_|refine sM fun _=> ?_|(refine sC ?_ ?_<;>intro hb<;>try omega)|fail)
  ·
   rcases hr2 with ⟨e,h,_⟩|⟨n1,p1,h,h5⟩
   ·
    cases h
   cases h
   have hi2:=fun w hm=>h2.is 5 (fin:=fin) (g:=g) (B:=B') (cb:=cb') (out:=p'.out) (H:=pB g lv' A cap fin toks B' cb' p'.out++R) (w0:=w0) (MSub.pick .hd (.pick .hd (.pick .hd (.nil _)))) w hm
   by_cases hs5:(hdT fin p'.l).kind=8∧(hdT fin p'.l).num=5
   ·
    rw [if_pos hs5] at h5
    rw [decide_eq_true hs5] at hi2
    obtain ⟨r2,hr3,hr4⟩:=bF h5
    repeat' (first|(apply aa (f:=303) (d:=14);exact rfl;exact rfl;exact hi2)|(apply aw (f:=275);exact rfl;exact rfl;exact h2.skip hc hs5.1 (by decide) (MSub.pick pK (MSub.pick pK (MSub.pick pK (MSub.refl _))));rintro _ _ ⟨rfl,lv1,h1,rfl⟩)|(refine bB (f:=272) rfl rfl (FnP.msub (ihS toks A cap fin g p'.skip _ B' cb' r2 _ w0 hc hl (At1.at h1) hr3) (MSub.pick pK (MSub.pick pK (MSub.pick pK (MSub.refl _))))) ?_ ?_)|(rintro _ _ ⟨rfl,n2,p2,lv2,B2,cb2,rfl,h6,rfl⟩)|(rintro _ _ ⟨e,rfl,rfl,h3⟩)|(apply aw (f:=276);exact rfl;exact rfl;exact FnIn.msub (jF (dF 6 5) _ _ _ _ _ _ _ _ _ (At.len h6 hl) _ _) (MSub.pick pK (MSub.pick pK (MSub.pick pK (MSub.refl _))));rintro _ _ ⟨rfl,B3,cb3,rfl⟩)|refine sT ?_|refine sP ?_|refine sM fun _=> ?_|(refine sC ?_ ?_<;>intro hb<;>try omega)|fail)
    ·
     rcases hr4 with ⟨e,h,_⟩|⟨n3,p3,h,h7⟩
     ·
      cases h
     ·
      cases h
      cases h7
      exact dX (p' :=p2.put (dF 6 5)) (.inr rfl) rfl rfl ((h1.grew h6 (kf _ _ _ _ _ _ hr3)).put _) (.refl _)
    ·
     rcases hr4 with ⟨e',h,h7⟩|⟨n3,p3,h,h7⟩
     ·
      cases h
      exact cL h7 h3
     ·
      cases h
   ·
    rw [if_neg hs5] at h5
    rw [decide_eq_false hs5] at hi2
    cases h5
    repeat' (first|(apply aa (f:=303) (d:=14);exact rfl;exact rfl;exact hi2)|refine sT ?_|refine sP ?_|refine sM fun _=> ?_|(refine sC ?_ ?_<;>intro hb<;>try omega)|fail)
    exact dX (.inr rfl) rfl rfl h2 (.refl _)
  ·
   rcases hr2 with ⟨e',h,h5⟩|⟨n1,p1,h,h5⟩
   ·
    cases h
    exact cL h5 h3
   ·
    cases h
set_option maxHeartbeats 1000000 in
theorem Ci (f:Nat) (ihP:POK f .prim 335 []):POK (f+1) .pct 304 []:=by
 intro toks A cap fin g p lv B cb r R w0 hc hl hat hrun
 refine tR Tryz.func304 rfl Tryz.ntmps304 rfl ?_
 rw [bG] at hrun
 obtain ⟨r1,hr1,hr2⟩:=bF hrun
 repeat' (first|(refine bB (f:=335) rfl rfl (FnP.msub (ihP toks A cap fin g p _ B cb r1 _ w0 hc hl hat hr1) (MSub.pick pK (MSub.pick pK (MSub.pick pK (MSub.refl _))))) ?_ ?_)|(rintro _ _ ⟨rfl,n,p',lv',B',cb',rfl,h2,rfl⟩)|(rintro _ _ ⟨e,rfl,rfl,h3⟩)|refine sT ?_|refine sP ?_|refine sM fun _=> ?_|(refine sC ?_ ?_<;>intro hb<;>try omega)|fail)
 ·
  rcases hr2 with ⟨e,h,_⟩|⟨n1,p1,h,h5⟩
  ·
   cases h
  cases h
  refine ax [0] rfl (fun _:Nat × PS × Value × Option Nat × Nat=> []) (fun x=>pB g x.2.2.1 A cap fin toks x.2.2.2.1 x.2.2.2.2 x.2.1.out++R) (fun x=>At toks A cap x.2.1 x.2.2.1∧bG fin x.1 .pctl x.2.1=some r) (fun x=>x.1) (f,p',lv',B',cb') ⟨h2,h5⟩ sB (.refl _) ?_
  rintro ⟨f',q,lq,Bq,cq⟩ ⟨hq1,hq2⟩
  dsimp only at hq1 hq2 ⊢
  cases f' with
  |zero=>cases hq2
  |succ f' =>
   rw [bG] at hq2
   have hi:=fun w hm=>hq1.is 13 (fin:=fin) (g:=g) (B:=Bq) (cb:=cq) (out:=q.out) (H:=pB g lq A cap fin toks Bq cq q.out++R) (w0:=w0) (MSub.pick .hd (.pick .hd (.pick .hd (.nil _)))) w hm
   by_cases hs:(hdT fin q.l).kind=8∧(hdT fin q.l).num=13
   ·
    rw [if_pos hs] at hq2
    rw [decide_eq_true hs] at hi
    repeat' (first|(apply aa (f:=303);exact rfl;exact rfl;exact hi)|(apply aw (f:=275);exact rfl;exact rfl;exact hq1.skip hc hs.1 (by decide) (MSub.pick pK (MSub.pick pK (MSub.pick pK (MSub.refl _))));rintro _ _ ⟨rfl,lv1,h1,rfl⟩)|(apply aw (f:=276);exact rfl;exact rfl;exact FnIn.msub (jF (dF 5 0) _ _ _ _ _ _ _ _ _ (At.len hq1 hl) _ _) (MSub.pick pK (MSub.pick pK (MSub.pick pK (MSub.refl _))));rintro _ _ ⟨rfl,B2,cb2,rfl⟩)|refine sT ?_|refine sP ?_|refine sM fun _=> ?_|(refine sC ?_ ?_<;>intro hb<;>try omega)|fail)
    refine ⟨(f',q.skip.put (dF 5 0),lv1,B2,cb2),⟨h1.put _,hq2⟩,Pn _,sB,sB,.refl _⟩
   ·
    rw [if_neg hs] at hq2
    rw [decide_eq_false hs] at hi
    cases hq2
    repeat' (first|(apply aa (f:=303);exact rfl;exact rfl;exact hi)|refine sT ?_|refine sP ?_|refine sM fun _=> ?_|(refine sC ?_ ?_<;>intro hb<;>try omega)|fail)
    exact dX (by first|exact .inr rfl|exact .inl rfl) rfl rfl hq1 (.refl _)
 ·
  rcases hr2 with ⟨e',h,h5⟩|⟨n1,p1,h,h5⟩
  ·
   cases h
   exact cL h5 h3
  ·
   cases h
end
def qZ (g g2 g3:Nat) (k:Int) (R:List Blk):List Blk:= .box g2 224 [.pointer (some ⟨g,0,none⟩)]:: .box g3 3 [.int .i64 k]::R
theorem E8 (f:Nat) (k:Int) (h1:1≤k) (h4:k≤3) (ih:POK f (.level (k+1)) 226 [.int .i64 (k+1)]) (toks:List Tk) (A:Option Nat) (cap:Nat) (fin:Int) (g:Nat) (p:PS) (lv:Value) (B:Option Nat) (cb:Nat) (r:Out) (R:List Blk) (w0:World) (g2 g3:Nat) (hc:toks.length≤cap) (hl:toks.length≤1000) (hat:At toks A cap p lv) (hr:bG fin f (.level (k+1)) p=some r):
  FnP Tryz.prog 273 [.pointer (some ⟨g2,0,none⟩),.pointer (some ⟨g3,0,none⟩)] w0 (pB g lv A cap fin toks B cb p.out++qZ g g2 g3 k R) (PR toks A cap fin g (qZ g g2 g3 k R) r) (PD (qZ g g2 g3 k R) r):=by
 refine tR Tryz.func273 rfl Tryz.ntmps273 rfl ?_
 repeat' (first|(refine bB (f:=226) rfl rfl (ih toks A cap fin g p lv B cb r _ w0 hc hl hat hr) ?_ ?_)|(rintro _ _ ⟨rfl,n,p',lv',B',cb',rfl,h2,rfl⟩)|(rintro _ _ ⟨e,rfl,rfl,h3⟩)|refine sT ?_|refine sP ?_|refine sJ ?_|refine sM fun _=> ?_|(refine sC ?_ ?_<;>intro hb<;>try omega)|exact cT|fail)
 ·
  exact dX (by first|exact .inr rfl|exact .inl rfl) rfl rfl h2 (.refl _)
 ·
  exact cL rfl h3
def KH (f:Nat) (k:Int) (toks:List Tk) (A:Option Nat) (cap:Nat) (fin:Int) (g g2 g3:Nat) (w0:World) (bv:Value):Prop:=
 ∃ (fid:FuncId) (bs caps:List Value),bv= .func (.func fid) bs.toArray caps.toArray∧Callable Tryz.prog fid∧ ∀ (f' :Nat) (p:PS) (lv:Value) (B:Option Nat) (cb:Nat) (r:Out) (R:List Blk),f' ≤f→At toks A cap p lv→bG fin f' (.level (k+1)) p=some r→
  FnP Tryz.prog fid (bs++([]++caps)) w0 (pB g lv A cap fin toks B cb p.out++qZ g g2 g3 k R) (PR toks A cap fin g (qZ g g2 g3 k R) r) (PD (qZ g g2 g3 k R) r)
set_option maxHeartbeats 2000000 in
theorem HJ (f:Nat) (k:Int) (h1:1≤k) (h4:k≤4) (ihL:k≤3→ ∀ f' ≤f,POK f' (.level (k+1)) 226 [.int .i64 (k+1)]) (ihS: ∀ f' ≤f,POK f' .sign 272 []):POK (f+1) (.level k) 226 [.int .i64 k]:=by
  intro toks A cap fin g p lv B cb r R w0 hc hl hat hrun
  refine tR Tryz.func226 rfl Tryz.ntmps226 rfl ?_
  rw [bG,if_neg (by omega)] at hrun
  obtain ⟨r1,hr1,hr2⟩:=bF hrun
  repeat' (first|(apply ak;exact rfl;apply kG;exact rfl)|(rename_i g2 g3;refine Dn (id:=2) [2,3] rfl (ι:=Value) (fun bv=> [(4,bv)]) (fun bv=>KH f k toks A cap fin g g2 g3 w0 bv) ?_ ?_)|refine cu (_) ?_ sB mS|refine sT ?_|refine sP ?_|refine sM fun _=> ?_|(refine sC ?_ ?_<;>intro hb<;>try omega)|exact cT|fail)
  · exact ⟨_,[],_,rfl,inferInstance,fun f' p lv B cb r R hf' hat' hr' =>E8 f' k h1 (by omega) (ihL (by omega) f' hf') toks A cap fin g p lv B cb r R w0 _ _ hc hl hat' hr'⟩
  · have hk:k=4:=by omega
    subst hk
    refine ⟨_,_,[],rfl,inferInstance,fun f' p lv B cb r R hf' hat' hr' => ?_⟩
    cases f' with
    |zero=>cases hr'
    |succ f'' =>
      rw [bG,if_pos (by decide)] at hr'
      exact ihS f'' (by omega) toks A cap fin g p lv B cb r _ w0 hc hl hat' hr'
  · rintro bv ⟨fid,bs,caps,rfl,hcl,hbel⟩
    repeat' (first|(refine vn (f:=fid) rfl rfl hcl rfl (FnP.msub (hbel f p lv B cb r1 _ (Ni _) hat hr1) (MSub.pick pK (MSub.pick pK (MSub.pick pK (MSub.pick pK (MSub.pick pK (MSub.refl _))))))) ?_ ?_)|(rintro _ _ ⟨rfl,n,p',lv',B',cb',rfl,h2,rfl⟩)|(rintro _ _ ⟨e,rfl,rfl,h3⟩)|refine sT ?_|refine sP ?_|refine sM fun _=> ?_|(refine sC ?_ ?_<;>intro hb<;>try omega)|exact cT|fail)
    · rcases hr2 with ⟨e,h,_⟩|⟨n1,p1,h,h5⟩
      · cases h
      cases h
      refine ax [2,3,4] rfl (fun _:Nat × PS × Value × Option Nat × Nat=> []) (fun x=>pB g x.2.2.1 A cap fin toks x.2.2.2.1 x.2.2.2.2 x.2.1.out++qZ g g2 g3 k R) (fun x=>x.1≤f∧At toks A cap x.2.1 x.2.2.1∧bG fin x.1 (.loop k) x.2.1=some r) (fun x=>x.1) (f,p',lv',B',cb') ⟨Ni _,h2,h5⟩ sB (.refl _) ?_
      rintro ⟨f',q,lq,Bq,cq⟩ ⟨hf',hq1,hq2⟩
      dsimp only at hf' hq1 hq2 ⊢
      cases f' with
      |zero=>cases hq2
      |succ f' =>
        rw [bG] at hq2
        have hh:=fun w hm=>hq1.head (fin:=fin) (g:=g) (B:=Bq) (cb:=cq) (out:=q.out) (H:=pB g lq A cap fin toks Bq cq q.out++qZ g g2 g3 k R) (w0:=w0) (MSub.pick .hd (.pick .hd (.pick .hd (.nil _)))) w hm
        obtain ⟨t,ht⟩: ∃ t,hdT fin q.l=t:=⟨_,rfl⟩
        rw [ht] at hq2 hh
        by_cases hs:t.kind=8∧fV t.num=k
        · rw [if_pos hs] at hq2
          obtain ⟨hs8,hsk⟩:=hs
          obtain ⟨r2,hr3,hr4⟩:=bF hq2
          repeat' (first|(apply aa (f:=177);exact rfl;exact rfl;exact hh)|(apply aa (f:=274);exact rfl;exact rfl;(intro w' _;exact vT _ w'))|(apply aw (f:=275);exact rfl;exact rfl;exact hq1.skip hc (ht ▸ hs8) (by decide) (MSub.pick pK (MSub.pick pK (MSub.pick pK (MSub.refl _))));rintro _ _ ⟨rfl,lv1,h1',rfl⟩)|(refine vn (f:=fid) rfl rfl hcl rfl (FnP.msub (hbel f' q.skip lv1 Bq cq r2 _ (by omega) (At1.at h1') hr3) (MSub.pick pK (MSub.pick pK (MSub.pick pK (MSub.pick pK (MSub.pick pK (MSub.refl _))))))) ?_ ?_)|(rintro _ _ ⟨rfl,n2,p2,lv2,B2,cb2,rfl,h6,rfl⟩)|(rintro _ _ ⟨e,rfl,rfl,h3⟩)|(apply aw (f:=276);exact rfl;exact rfl;exact FnIn.msub (jF (dF 6 t.num) _ _ _ _ _ _ _ _ _ (At.len h6 hl) _ _) (MSub.pick pK (MSub.pick pK (MSub.pick pK (MSub.refl _))));rintro _ _ ⟨rfl,B3,cb3,rfl⟩)|refine sT ?_|refine sP ?_|refine sM fun _=> ?_|(refine sC ?_ ?_<;>intro hb<;>try omega)|exact cT|fail)
          · rcases hr4 with ⟨e,h,_⟩|⟨n3,p3,h,h7⟩
            · cases h
            · cases h
              refine ⟨(f',p2.put (dF 6 t.num),lv2,B3,cb3),⟨by omega,(h1'.grew h6 (kf _ _ _ _ _ _ hr3)).put _,h7⟩,Pn _,sB,sB,?_⟩
              dsimp only [qZ,List.cons_append,List.nil_append,pB]
              exact mS
          · rcases hr4 with ⟨e',h,h7⟩|⟨n3,p3,h,h7⟩
            · cases h
              exact cL h7 (MSub.trans (by unfold qZ;exact .drop (.tl (.tl .hd)) (.drop .hd (.drop .hd (.refl _)))) h3)
            · cases h
        · rw [if_neg hs] at hq2
          cases hq2
          repeat' (first|(apply aa (f:=177);exact rfl;exact rfl;exact hh)|(apply aa (f:=274);exact rfl;exact rfl;(intro w' _;exact vT _ w'))|refine sT ?_|refine sP ?_|refine sM fun _=> ?_|(refine sC ?_ ?_<;>intro hb<;>try omega)|exact cT|fail)
          all_goals first
            |(exfalso;omega)
            | (refine dX (B' := Bq) (cb' := cq) (by first | exact .inr rfl | exact .inl rfl) rfl rfl hq1 ?_
               dsimp only [qZ,List.cons_append,List.nil_append,pB]
               exact mS)
    · rcases hr2 with ⟨e',h,h5⟩|⟨n1,p1,h,h5⟩
      · cases h
        exact cL h5 (MSub.trans (by unfold qZ;exact .drop .hd (.drop .hd (.refl _))) h3)
      · cases h
end Go.SL
