/-
  Lemmas and walks, put together: Px2 C1 Pg Px3 Ia Pg2 Hc Va C2.
-/
import Derived.Deep.RegionHeld3
import Derived.Ground.SlgmProg
import Derived.Shelf.SortM.Plain
import Derived.Shelf.SortM.SortNone
import Derived.Test.YtoanpdoacdpgeaaGreatDoorKr08
set_option linter.unusedSimpArgs false
set_option linter.unusedVariables false
set_option maxRecDepth 20000
namespace Go.SL
open Go
def Job.c:Job→Nat
 | .level k=>(9 - k).toNat
 | .loop _=>1
 | .sign=>3
 | .pct=>2
 | .pctl=>1
 | .prim=>1
 | .args _ _=>9
def Job.fit:Job→Prop
 | .level k=>1≤k∧k≤5
 | .loop k=>1≤k∧k≤4
 |_=>True
def Job.eats:Job→Prop
 | .loop _=>False
 | .pctl=>False
 |_=>True
def Ai (p:PS) (strict:Prop) (r:Out):Prop:= ∀ n p',r= .ok (n,p')→p'.l.length≤p.l.length∧(strict→p'.l.length<p.l.length)
def xH (o:Option Out) (B:Out→Prop):Prop:= ∃ r,o=some r∧B r
theorem bR {B:Out→Prop} {r:Out} (h:B r):xH (some r) B:=⟨r,rfl,h⟩
theorem bA {p:PS} {q:Prop} {e:Int × Int}:Ai p q (.error e):=fun _ _ h=>by cases h
theorem eK {p p' :PS} {q:Prop} {n:Nat} (h:p'.l.length≤p.l.length) (hq:q→p'.l.length<p.l.length):Ai p q (.ok (n,p')):=fun m p2 h2=>by
 cases h2
 exact ⟨h,hq⟩
theorem db {o:Option Out} {k:Nat→PS→Option Out} {p:PS} {q:Prop} {B:Out→Prop} (h:xH o (Ai p q)) (he: ∀ e,B (.error e)) (hk: ∀ n p',p'.l.length≤p.l.length→(q→p'.l.length<p.l.length)→xH (k n p') B):xH (dq o k) B:=by
 obtain ⟨r,rfl,hr⟩:=h
 cases r with
 |error e=>exact ⟨_,rfl,he e⟩
 |ok x=>
  obtain ⟨n,p'⟩:=x
  obtain ⟨h1,h2⟩:=hr n p' rfl
  exact hk n p' h1 h2
theorem eH {fin:Int} {l:List Tk} (h:(hdT fin l).kind≠0):0<l.length:=by
 cases l with
 |nil=>exact absurd rfl h
 |cons=>simp
theorem cR (p:PS):p.skip.l.length=p.l.length - 1:=by simp [PS.skip]
theorem cv (p:PS) (n:Nd):(p.put n).l=p.l:=rfl
theorem lJ {fin:Int} {name:Tk} {fn:Int} {n:Nat} {p p0:PS} {q:Prop} (h:p.l.length≤p0.l.length) (hq:0<p.l.length→q→p.l.length - 1<p0.l.length):xH (cC fin name fn n p) (Ai p0 q):=by
 unfold cC
 dsimp only
 split
 ·
  exact bR bA
 ·
  rename_i hk
  have hpos:=eH (fin:=fin) (l:=p.l) (by omega)
  split
  ·
   exact bR bA
  ·
   split
   ·
    exact bR bA
   ·
    refine bR (eK ?_ fun hh=> ?_)
    ·
     rw [cv,cR];omega
    ·
     rw [cv,cR];exact hq hpos hh
theorem qQ (fin:Int): ∀ (f:Nat) (j:Job) (p:PS),j.fit→20*p.l.length+j.c≤f→xH (aX fin f j p) (Ai p j.eats):=by
 intro f
 induction f with
 |zero=>
  intro j p hj hf
  cases j with
  |level k=>obtain ⟨h1,h2⟩:=hj;simp only [Job.c] at hf;omega
  |_=>simp only [Job.c] at hf;omega
 |succ f ih=>
  intro j p hj hf
  cases j with
  |level k=>
   obtain ⟨h1,h2⟩:=hj
   simp only [Job.c] at hf
   rw [aX]
   split
   ·
    obtain ⟨r,hr,hl⟩:=ih .sign p trivial (by simp only [Job.c];omega)
    exact ⟨r,hr,hl⟩
   ·
    refine db (ih (.level (k+1)) p ⟨by omega,by omega⟩ (by simp only [Job.c];omega)) (fun e=>bA) fun n p' h3 h4=> ?_
    have h5:=h4 trivial
    obtain ⟨r,hr,hl⟩:=ih (.loop k) p' ⟨h1,by omega⟩ (by simp only [Job.c];omega)
    exact ⟨r,hr,fun m q hq=>⟨by have:=(hl m q hq).1;omega,fun _=>by have:=(hl m q hq).1;omega⟩⟩
  |loop k=>
   obtain ⟨h1,h2⟩:=hj
   simp only [Job.c] at hf
   rw [aX]
   split
   ·
    rename_i hk
    have hpos:=eH (fin:=fin) (l:=p.l) (by omega)
    have hs:=cR p
    refine db (ih (.level (k+1)) p.skip ⟨by omega,by omega⟩ (by simp only [Job.c];omega)) (fun e=>bA) fun n p' h3 h4=> ?_
    have h5:=h4 trivial
    obtain ⟨r,hr,hl⟩:=ih (.loop k) (p'.put (dw 6 (hdT fin p.l).num)) ⟨h1,h2⟩ (by rw [cv];simp only [Job.c];omega)
    exact ⟨r,hr,fun m q hq=>⟨by have:=(hl m q hq).1;rw [cv] at this;omega,fun h=>h.elim⟩⟩
   ·
    exact bR (eK (Ih _) fun h=>h.elim)
  |sign=>
   simp only [Job.c] at hf
   rw [aX]
   dsimp only
   split
   ·
    rename_i hk
    have hpos:=eH (fin:=fin) (l:=p.l) (by omega)
    have hs:=cR p
    refine db (ih .sign p.skip trivial (by simp only [Job.c];omega)) (fun e=>bA) fun n p' h3 h4=> ?_
    have h5:=h4 trivial
    exact bR (eK (by rw [cv];omega) fun _=>by rw [cv];omega)
   ·
    refine db (ih .pct p trivial (by simp only [Job.c];omega)) (fun e=>bA) fun n p' h3 h4=> ?_
    have h5:=h4 trivial
    split
    ·
     have hs:=cR p'
     refine db (ih .sign p'.skip trivial (by simp only [Job.c];omega)) (fun e=>bA) fun n p2 h6 h7=> ?_
     exact bR (eK (by rw [cv];omega) fun _=>by rw [cv];omega)
    ·
     exact bR (eK h3 fun _=>h5)
  |pct=>
   simp only [Job.c] at hf
   rw [aX]
   refine db (ih .prim p trivial (by simp only [Job.c];omega)) (fun e=>bA) fun n p' h3 h4=> ?_
   have h5:=h4 trivial
   obtain ⟨r,hr,hl⟩:=ih .pctl p' trivial (by simp only [Job.c];omega)
   exact ⟨r,hr,fun m q hq=>⟨by have:=(hl m q hq).1;omega,fun _=>by have:=(hl m q hq).1;omega⟩⟩
  |pctl=>
   simp only [Job.c] at hf
   rw [aX]
   split
   ·
    rename_i hk
    have hpos:=eH (fin:=fin) (l:=p.l) (by omega)
    have hs:=cR p
    obtain ⟨r,hr,hl⟩:=ih .pctl (p.skip.put (dw 5 0)) trivial (by rw [cv];simp only [Job.c];omega)
    exact ⟨r,hr,fun m q hq=>⟨by have:=(hl m q hq).1;rw [cv] at this;omega,fun h=>h.elim⟩⟩
   ·
    exact bR (eK (Ih _) fun h=>h.elim)
  |prim=>
   simp only [Job.c] at hf
   rw [aX]
   dsimp only
   have hs:=cR p
   have hs2:=cR p.skip
   split
   ·
    rename_i hk
    have hpos:=eH (fin:=fin) (l:=p.l) (by omega)
    exact bR (eK (by rw [cv];omega) fun _=>by rw [cv];omega)
   ·
    split
    ·
     rename_i hk
     have hpos:=eH (fin:=fin) (l:=p.l) (by omega)
     exact bR (eK (by rw [cv];omega) fun _=>by rw [cv];omega)
    ·
     split
     ·
      rename_i hk
      have hpos:=eH (fin:=fin) (l:=p.l) (by omega)
      refine db (ih (.level 1) p.skip ⟨by omega,by omega⟩ (by simp only [Job.c];omega)) (fun e=>bA) fun n p' h3 h4=> ?_
      have h5:=h4 trivial
      have hs3:=cR p'
      split
      ·
       exact bR bA
      ·
       exact bR (eK (by omega) fun _=>by omega)
     ·
      split
      ·
       rename_i hk
       have hpos:=eH (fin:=fin) (l:=p.l) (by omega)
       split
       ·
        exact bR bA
       ·
        split
        ·
         exact bR bA
        ·
         rename_i hk2
         have hpos2:=eH (fin:=fin) (l:=p.skip.l) (by omega)
         split
         ·
          exact lJ (by omega) fun _ _=>by omega
         ·
          refine db (ih (.args (bE (hdT fin p.l).text).1 0) p.skip.skip trivial (by simp only [Job.c];omega)) (fun e=>bA) fun n p' h3 h4=> ?_
          exact lJ (by omega) fun _ _=>by omega
      ·
       exact bR bA
  |args fn n=>
   simp only [Job.c] at hf
   rw [aX]
   dsimp only
   have hgo: ∀ p' :PS,p'.l.length<p.l.length→xH (if (hdT fin p'.l).kind=11 then aX fin f (.args fn (n+1)) p'.skip else some (.ok (n+1,p'))) (Ai p (Job.args fn n).eats):=by
    intro p' hp
    have hs:=cR p'
    split
    ·
     obtain ⟨r,hr,hl⟩:=ih (.args fn (n+1)) p'.skip trivial (by simp only [Job.c];omega)
     exact ⟨r,hr,fun m q hq=>⟨by have:=(hl m q hq).1;omega,fun _=>by have:=(hl m q hq).1;omega⟩⟩
    ·
     exact bR (eK (by omega) fun _=>hp)
   split
   ·
    refine db (ih (.level 1) p ⟨by omega,by omega⟩ (by simp only [Job.c];omega)) (fun e=>bA) fun m p' h3 h4=> ?_
    exact hgo p' (h4 trivial)
   ·
    rename_i hk
    have hpos:=eH (fin:=fin) (l:=p.l) (by omega)
    have hs:=cR p
    split
    ·
     exact bR bA
    ·
     exact hgo _ (by rw [cv];omega)
end Go.SL
namespace Go.SL
open Go Go.Proofs
attribute [local irreducible] W WL WQ WG WA WX WLI WR WT VOp thn blk bo scp aN bi aF FnIn
def TkV (v:Value) (A:Option Nat) (n cap k:Nat):Prop:= ∃ a:Option Addr,v= .slice a (n - k) (cap - k)∧(k<n→a=A.map fun g=>⟨g,k*8,none⟩)
def pB (g:Nat) (lv:Value) (A:Option Nat) (cap:Nat) (fin:Int) (toks:List Tk) (B:Option Nat) (cb:Nat) (out:List Nd):List Blk:=
 [.box g 226 [lv,.int .i64 fin,sl B out.length cb],.own A 228 8 toks.length cap (toks.flatMap cG),.own B 293 11 out.length cb (out.flatMap dD)]
theorem TkV.next {P:Program} {t e:Nat} {v:Value} {A:Option Nat} {n cap k:Nat} [ht:Und P t (.slice e)] [hz:Size P e 8] (h:TkV v A n cap k) (hk:k<n) (hc:n≤cap):
  ∃ v',TkV v' A n cap (k+1)∧v'.oneCell' =true∧(∃ a m c,v' = .slice a m c)∧ ∀ {w0:World} {s:ap} {H:List Blk} {ty:TypeId} {x r:Operand} {k' :IntKind},ev s x=some v→ev s r=some (.int k' 1)→VOp P w0 s H (.slice t x (some r) none none) ty v' :=by
 obtain ⟨a,rfl,ha⟩:=h
 refine ⟨.slice (if cap - k=1 then a else a.map (·.add (1*8))) (n - k - 1) (cap - k - 1),⟨if cap - k=1 then a else a.map (·.add (1*8)),?_,fun hk1=> ?_⟩,rfl,⟨_,_,_,rfl⟩,fun hx hr=>kY (lo:=1) (hi:=n - k) hx ⟨_,hr⟩ rfl (by omega) (by omega)⟩
 ·
  congr 1
 ·
  rw [if_neg (by omega),ha hk]
  cases A with
  |none=>rfl
  |some g=>(simp [dF])<;>omega
theorem Ed {fin:Int} {toks:List Tk} {k:Nat} (h:k<toks.length):hdT fin (toks.drop k)=toks[k]:=by
 rw [H6 h];rfl
theorem Ee {fin:Int} {toks:List Tk} {k:Nat} (h:toks.length≤k):hdT fin (toks.drop k)={ kg with at_:=fin }:=by
 rw [IG h];rfl
theorem uK (g:Nat) (lv:Value) (A:Option Nat) (cap:Nat) (fin:Int) (toks:List Tk) (k:Nat) (hk:TkV lv A toks.length cap k) (x:Value) (w:World) (hr:Ro w g 0 [lv,.int .i64 fin,x])
  (ht:k<toks.length→ ∃ ga,A=some ga∧Ro w ga 0 (toks.flatMap cG)):ay Tryz.prog 177 [.pointer (some ⟨g,0,none⟩)] w (.agg (cG (hdT fin (toks.drop k))).toArray):=by
 refine aq Tryz.func177 rfl Tryz.ntmps177 rfl ?_
 obtain ⟨a,rfl,ha⟩:=hk
 by_cases hlt:k<toks.length
 ·
  rw [Ed hlt]
  obtain ⟨ga,rfl,hra⟩:=ht hlt
  have ha' :=ha hlt
  subst ha'
  have hra' :Ro w ga (k*8) (cG toks[k]):=by
   have:=hra.elem zS k hlt
   rwa [H8] at this
  have hlen:0<toks.length - k:=by omega
  repeat' (first|(apply aj;exact rfl;apply aD (o:=0) (off:=0);exact hr;exact rfl;exact rfl)|(apply aj;exact rfl;apply aD (o:=0) (off:=1);exact hr;exact rfl;exact rfl)|(apply aj;exact rfl;apply ai (j:=0);exact rfl;exact rfl;exact hlen)|(apply aj;exact rfl;apply iC (o:=k*8) (off:=0*8);exact hra';(iterate 3 exact rfl))|refine sT ?_|refine sM fun _=> ?_|(refine sC ?_ ?_<;>intro hb<;>try omega)|fail)
  all_goals try (exfalso;omega)
  (refine eRC ?_)
  rfl
 ·
  rw [Ee (by omega)]
  repeat' (first|(apply aj;exact rfl;apply aD (o:=0) (off:=0);exact hr;exact rfl;exact rfl)|(apply aj;exact rfl;apply aD (o:=0) (off:=1);exact hr;exact rfl;exact rfl)|refine sT ?_|refine sM fun _=> ?_|(refine sC ?_ ?_<;>intro hb<;>try omega)|fail)
  all_goals try (exfalso;omega)
  (refine eRC ?_)
  rfl
theorem BN {g:Nat} {lv:Value} {A:Option Nat} {cap:Nat} {fin:Int} {toks:List Tk} {k:Nat} (hk:TkV lv A toks.length cap k) {B:Option Nat} {cb:Nat} {out:List Nd} {H:List Blk} {w0:World} (hH:MSub (pB g lv A cap fin toks B cb out) H) (w:World) (hm:Mem w0 w H):
  ay Tryz.prog 177 [.pointer (some ⟨g,0,none⟩)] w (.agg (cG (hdT fin (toks.drop k))).toArray):=by
 have hm' :=hH.use hm
 refine uK g lv A cap fin toks k hk (sl B out.length cb) w (Ro.of_box hm' .hd) fun hlt=> ?_
 obtain ⟨_,_,_,h4⟩:=(hm'.on _ (In.tl .hd:In (.own A 228 8 toks.length cap (toks.flatMap cG)) _).mem).1
 cases A with
 |none=>obtain ⟨h5,_⟩:=h4;omega
 |some ga=>exact ⟨ga,rfl,Ro.of_own hm' (In.tl .hd)⟩
theorem BM (g:Nat) (lv:Value) (A:Option Nat) (cap:Nat) (fin:Int) (toks:List Tk) (k:Nat) (hv:TkV lv A toks.length cap k) (hk:k<toks.length) (hc:toks.length≤cap) (B:Option Nat) (cb:Nat) (out:List Nd) (R:List Blk) (w0:World):
  FnIn Tryz.prog 275 [.pointer (some ⟨g,0,none⟩)] w0 (pB g lv A cap fin toks B cb out++R) fun v H=>v= .tuple #[]∧ ∃ lv',TkV lv' A toks.length cap (k+1)∧H=pB g lv' A cap fin toks B cb out++R:=by
 refine fc Tryz.func275 rfl Tryz.ntmps275 rfl ?_
 obtain ⟨lv',h1,h3,⟨a',m',c',rfl⟩,h2⟩:=hv.next hk hc (P:=Tryz.prog) (t:=219) (e:=228)
 obtain ⟨a,rfl,ha⟩:=hv
 repeat' (first|(apply aj (d:=7);exact rfl;exact h2 rfl rfl)|refine sT ?_|refine sM fun _=> ?_|(refine sC ?_ ?_<;>intro hb<;>try omega)|fail)
 exact eT (.inr rfl) rfl (.refl _) ⟨rfl,_,h1,rfl⟩
theorem gk (n:Nd) (g:Nat) (lv:Value) (A:Option Nat) (cap:Nat) (fin:Int) (toks:List Tk) (B:Option Nat) (cb:Nat) (out:List Nd) (hlen:out.length≤1000000) (R:List Blk) (w0:World):
  FnIn Tryz.prog 276 [.pointer (some ⟨g,0,none⟩),.agg (dD n).toArray] w0 (pB g lv A cap fin toks B cb out++R) fun v H=>v= .tuple #[]∧ ∃ B' cb',H=pB g lv A cap fin toks B' cb' (out++ [n])++R:=by
 refine fc Tryz.func276 rfl Tryz.ntmps276 rfl ?_
 repeat' (first|refine sT ?_|refine sM fun _=> ?_|(refine sC ?_ ?_<;>intro hb<;>try omega)|fail)
 refine rS 11 rfl (by kernel_rfl) ?_
 ((with_reducible apply bU (i:=0));exact rfl;exact rfl;decide+kernel;decide+kernel;decide+kernel;exact nP;(intro _ _;exact vP))
 ((with_reducible apply bU (i:=1));exact rfl;exact rfl;decide+kernel;decide+kernel;decide+kernel;exact nP;(intro _ _;exact vP))
 ((with_reducible apply bU (i:=2));exact rfl;exact rfl;decide+kernel;decide+kernel;decide+kernel;exact nP;(intro _ _;exact vP))
 ((with_reducible apply bU (i:=3));exact rfl;exact rfl;decide+kernel;decide+kernel;decide+kernel;exact nP;(intro _ _;exact vP))
 repeat' (first|(apply rP (i:=4) (j:=5);exact rfl;exact rfl;decide+kernel)|(apply rP (i:=4) (j:=6);exact rfl;exact rfl;decide+kernel)|(apply dJ (i:=4);exact rfl;decide+kernel)|(apply dJ (i:=5);exact rfl;decide+kernel)|(apply dJ (i:=6);exact rfl;decide+kernel)|(apply dJ (i:=7);exact rfl;decide+kernel)|(apply dJ (i:=8);exact rfl;decide+kernel)|(apply dJ (i:=9);exact rfl;decide+kernel)|(apply dJ (i:=10);exact rfl;decide+kernel)|(apply rQ;decide+kernel)|(apply fH;(iterate 3 exact rfl);exact pK;exact pK;exact rfl;(simp [dD,Value.oneCell']);omega;(simp only [maxLen];omega);intro g8 c8)|refine sT ?_|refine sM fun _=> ?_|(refine sC ?_ ?_<;>intro hb<;>try omega)|fail)
 all_goals
  refine eT eIO rfl (H' :=pB g lv A cap fin toks (some g8) c8 (out++ [n])++R) ?_ ⟨rfl,_,_,rfl⟩
  simp only [pB,HV,Ii,I2,IP,Jd,Ig,HW,HZ]
  exact mS
def s8 (e:Int × Int):Value:= .iface 223 (.agg #[.int .i64 e.1,.int .i64 e.2])
theorem eO (x:Value) (at_ e:Int) (H:List Blk) (w0:World) (R:Value→List Blk→Prop):
  FnP Tryz.prog 178 [x,.int .i64 at_,.int .i64 e] w0 H R fun v H' =>v=s8 (at_,e)∧H' =H:=by
 refine pG Tryz.func178 rfl Tryz.ntmps178 rfl ?_
 repeat' (first|(apply aj;exact rfl;apply tW;(intro m;exact fun h=>by cases h);exact rfl)|(apply AH;exact rfl)|refine sT ?_|refine sM fun _=> ?_|(refine sC ?_ ?_<;>intro hb<;>try omega)|fail)
 exact E6 (.refl _) ⟨rfl,rfl⟩
theorem FW (op:Int) {g:Nat} {lv:Value} {A:Option Nat} {cap:Nat} {fin:Int} {toks:List Tk} {k:Nat} (hk:TkV lv A toks.length cap k) {B:Option Nat} {cb:Nat} {out:List Nd} {H:List Blk} {w0:World} (hH:MSub (pB g lv A cap fin toks B cb out) H) (w:World) (hm:Mem w0 w H):
  ay Tryz.prog 303 [.pointer (some ⟨g,0,none⟩),.int .i64 op] w (.bool (decide ((hdT fin (toks.drop k)).kind=8∧(hdT fin (toks.drop k)).num=op))):=by
 have hm0:=hH.use hm
 refine aq Tryz.func303 rfl Tryz.ntmps303 rfl ?_
 have hh: ∀ w' H',Mem w w' H' →ay Tryz.prog 177 [.pointer (some ⟨g,0,none⟩)] w' (.agg (cG (hdT fin (toks.drop k))).toArray):=fun w' H' hm' =>by
  refine uK g lv A cap fin toks k hk (sl B out.length cb) w' ((Ro.of_box hm0 .hd).next hm') fun hlt=> ?_
  obtain ⟨_,_,_,h4⟩:=(hm0.on _ (In.tl .hd:In (.own A 228 8 toks.length cap (toks.flatMap cG)) _).mem).1
  cases A with
  |none=>obtain ⟨h5,_⟩:=h4;omega
  |some ga=>exact ⟨ga,rfl,(Ro.of_own hm0 (In.tl .hd)).next hm'⟩
 generalize hdT fin (toks.drop k)=t at hh
 repeat' (first|(apply ah;exact rfl;exact rfl;(intro w' hm';exact hh w' _ hm'))|refine sT ?_|refine sM fun _=> ?_|(refine sC ?_ ?_<;>intro hb<;>try omega)|fail)
 all_goals ((refine rT1 ?_);simp_all)
theorem qY (op:Int) (w:World):ay Tryz.prog 274 [.int .i64 op] w (.tuple #[.int .i64 (pX op),.bool (decide (op=5)),.int .i64 (if pX op=0 then 2 else 0)]):=by
 refine aq Tryz.func274 rfl Tryz.ntmps274 rfl ?_
 repeat' (first|refine sT ?_|refine sM fun _=> ?_|(refine sC ?_ ?_<;>intro hb<;>try omega)|fail)
 all_goals ((refine rT3 ?_);simp_all [pX];try omega)
end Go.SL
namespace Go.SL
open Go
structure Rl where
 rect:Rct
 read:BitVec 64
 write:BitVec 64
 own:BitVec 64
def bH (r:Rl):List Value:= [.int .i64 r.rect.c1,.int .i64 r.rect.r1,.int .i64 r.rect.c2,.int .i64 r.rect.r2,vS r.read,vS r.write,vS r.own]
theorem di (r:Rl):(bH r).length=7:=rfl
structure Gn where
 rect:Rct
 fns:Int
 to:BitVec 64
 by_:Int
 rev:Bool
def bB (g:Gn):List Value:= [.int .i64 g.rect.c1,.int .i64 g.rect.r1,.int .i64 g.rect.c2,.int .i64 g.rect.r2,.int .u8 g.fns,vS g.to,.int .i64 g.by_,.bool g.rev]
theorem il (g:Gn):(bB g).length=8:=rfl
def zG (x:Int):List Int→List Int
 | []=> [x]
 |y::l=>if x≤y then x::y::l else y::zG x l
def nO (l:List Int):List Int:=l.foldr zG []
def eY (l:List Int):List Int:=l.mergeSort fun x y=>decide (x≤y)
theorem mB (x:Int): ∀ l:List Int,(zG x l).Perm (x::l)
 | []=> .refl _
 |y::l=>by
  rw [zG];split
  ·
   exact .refl _
  ·
   exact ((mB x l).cons y).trans (.swap x y l)
theorem mY (x:Int): ∀ {l:List Int},l.Pairwise (· ≤ ·)→(zG x l).Pairwise (· ≤ ·)
 | [],_=>JK _ _
 |y::l,h=>by
  have h1:=Iy.1 h
  rw [zG];split
  ·
   rename_i hxy
   refine Iy.2 ⟨fun z hz=> ?_,h⟩
   rcases Ie.1 hz with rfl|hz
   ·
    exact hxy
   ·
    exact Int.le_trans hxy (h1.1 z hz)
  ·
   refine Iy.2 ⟨fun z hz=> ?_,mY x h1.2⟩
   rcases Ie.1 ((mB x l).mem_iff.1 hz) with rfl|hz
   ·
    omega
   ·
    exact h1.1 z hz
theorem lB: ∀ l:List Int,(nO l).Perm l
 | []=> .refl _
 |x::l=>(mB x _).trans ((lB l).cons x)
theorem jr: ∀ l:List Int,(nO l).Pairwise (· ≤ ·)
 | []=> .nil
 |x::l=>mY x (jr l)
theorem eD (l:List Int):(eY l).Perm l:=List.mergeSort_perm _ _
theorem lf (l:List Int):(eY l).Pairwise (· ≤ ·):=by
 have h:=List.pairwise_mergeSort (le:=fun x y:Int=>decide (x≤y)) (fun a b c h1 h2=>by simp only [decide_eq_true_eq] at*;omega) (fun a b=>by simp only [Ke,decide_eq_true_eq];omega) l
 exact h.imp fun h=>by simpa using h
theorem jW: ∀ {l m:List Int},l.Pairwise (· ≤ ·)→m.Pairwise (· ≤ ·)→l.Perm m→l=m
 | [],m,_,_,h=>(List.nil_perm.1 h).symm
 |a::l,[],_,_,h=>absurd h.length_eq (by simp)
 |a::l,b::m,h1,h2,h=>by
  have k1:=Iy.1 h1
  have k2:=Iy.1 h2
  have hab:a=b:=by
   have ha:a∈b::m:=h.mem_iff.1 H4
   have hb:b∈a::l:=h.mem_iff.2 H4
   rcases Ie.1 ha with e|ha
   ·
    exact e
   ·
    rcases Ie.1 hb with e|hb
    ·
     exact e.symm
    ·
     have:=k2.1 a ha
     have:=k1.1 b hb
     omega
  subst hab
  rw [jW k1.2 k2.2 ((List.perm_cons a).1 h)]
theorem Bu (l:List Int):eY l=nO l:=jW (lf l) (jr l) ((eD l).trans (lB l).symm)
def dE:List Int→List Int
 | []=> []
 |a::l=>if l.head? =some a then dE l else a::dE l
theorem rz (x:Int): ∀ l:List Int,dE (l++ [x])=if l.getLast? =some x then dE l else dE l++ [x]
 | []=>by simp [dE]
 | [a]=>by
  by_cases h:x=a
  ·
   subst h;simp [dE]
  ·
   have h2: ¬ a=x:=fun e=>h e.symm
   simp [dE,h,h2]
 |a::b::l=>by
  have ih:=rz x (b::l)
  have h0: ∀ l,dE (a::l)=if l.head? =some a then dE l else a::dE l:=fun _=>rfl
  have hh:(b::l++ [x]).head? =(b::l).head? :=rfl
  rw [List.getLast?_cons_cons,HW,h0,h0,hh,ih]
  by_cases h1:(b::l).head? =some a
  ·
   simp only [h1,if_true]
  ·
   simp only [h1,if_false];split<;>rfl
theorem ry {L:List Int} {j:Nat} (h:j<L.length) (h0:0<j):dE (L.take (j+1))=if L[j]=L[j - 1] then dE (L.take j) else dE (L.take j)++ [L[j]]:=by
 have h1:L.take (j+1)=L.take j++ [L[j]]:=by rw [H7 h]
 have h2:(L.take j).getLast? =some L[j - 1]:=by
  rw [Kg,IU,JX (by omega),List.getElem?_take_of_lt (by omega),HY (by omega)]
 rw [h1,rz,h2]
 simp only [Option.some.injEq,eq_comm]
theorem vE {L:List Int} (h:L.length≤1):dE L=L:=by
 match L,h with
 | [],_=>rfl
 | [a],_=>rfl
theorem jm {x:Int}: ∀ {l:List Int},x∈dE l↔x∈l
 | []=>Iff.rfl
 |a::l=>by
  rw [dE]
  split
  ·
   rename_i h
   rw [jm (l:=l),Ie]
   exact ⟨.inr,fun h2=>h2.elim (fun e=>by subst e;exact List.mem_of_mem_head? h) id⟩
  ·
   rw [Ie,Ie,jm (l:=l)]
theorem pW: ∀ l:List Int,(dE l).length≤l.length
 | []=>Ih _
 |a::l=>by
  have:=pW l
  rw [dE]
  split<;>simp only [IA]<;>omega
theorem m9: ∀ {l:List Int},l.Pairwise (· ≤ ·)→(dE l).Pairwise (· < ·)
 | [],_=> .nil
 |a::l,h=>by
  have h1:=Iy.1 h
  have ih:=m9 h1.2
  rw [dE]
  split
  ·
   exact ih
  ·
   rename_i hh
   refine Iy.2 ⟨fun y hy=> ?_,ih⟩
   have hyl:=jm.1 hy
   have h2:=h1.1 y hyl
   by_cases e:a=y
   ·
    subst e
    cases l with
    |nil=>cases hyl
    |cons b l=>
     have h3:=h1.1 b H4
     have h4:=Iy.1 h1.2
     rcases Ie.1 hyl with e|hm
     ·
      subst e;exact absurd rfl hh
     ·
      have h5:=h4.1 a hm
      have h6:b=a:=by omega
      subst h6;exact absurd rfl hh
   ·
    omega
def bZ:List Int→Int→List (Int × Int)
 | [],_=> []
 | [x],h=> [(x,h)]
 |x::y::l,h=>(x,y - 1)::bZ (y::l) h
theorem gj (x h:Int): ∀ l:List Int,bZ (l++ [x]) h=bZ l (x - 1)++ [(x,h)]
 | []=>rfl
 | [a]=>rfl
 |a::b::l=>by
  have ih:=gj x h (b::l)
  show (a,b - 1)::bZ (b::l++ [x]) h=_
  rw [ih];rfl
theorem iO (h:Int): ∀ l:List Int,(bZ l h).length=l.length
 | []=>rfl
 | [a]=>rfl
 |a::b::l=>by
  have ih:=iO h (b::l)
  show (bZ (b::l) h).length+1=_
  rw [ih];rfl
theorem uJ (l:List Int) (h h' :Int) (hl:l≠ []): ∃ f a,bZ l h=f++ [(a,h)]∧bZ l h' =f++ [(a,h')]:=by
 have e:=Jj hl
 refine ⟨bZ l.dropLast (l.getLast hl - 1),l.getLast hl,?_,?_⟩
 ·
  conv=>lhs;rw [← e]
  rw [gj]
 ·
  conv=>lhs;rw [← e]
  rw [gj]
def bJ (lo:Int) (ps:List (Int × Int)):List Int:=lo::ps.flatMap fun p=> [p.1,p.2+1]
def pV (lo hi:Int) (ps:List (Int × Int)):List Int:=(dE (eY (bJ lo ps))).filter fun x=>decide (lo≤x) && decide (x≤hi)
def bC (lo hi:Int) (ps:List (Int × Int)):List (Int × Int):=bZ (pV lo hi ps) hi
theorem mi {lo hi x:Int} {ps:List (Int × Int)}:x∈pV lo hi ps↔(x=lo∨ ∃ p∈ps,x=p.1∨x=p.2+1)∧lo≤x∧x≤hi:=by
 rw [pV,Kc,jm,(eD _).mem_iff,bJ,Ie,I6]
 simp
theorem lL (lo hi:Int) (ps:List (Int × Int)):(pV lo hi ps).Pairwise (· < ·):=(m9 (lf _)).filter _
theorem nj (lo:Int) (ps:List (Int × Int)):(bJ lo ps).length=1+2*ps.length:=by
 unfold bJ
 induction ps with
 |nil=>rfl
 |cons p ps ih=>simp only [IP,IA,HV,JY] at ih ⊢;omega
theorem eJ (lo hi:Int) (ps:List (Int × Int)):(bC lo hi ps).length≤1+2*ps.length:=by
 rw [bC,iO,pV]
 refine IW (J5 _ _) (IW (pW _) ?_)
 rw [(eD _).length_eq,nj];exact Ih _
theorem mf: ∀ {l:List Int} {h:Int},l.Pairwise (· < ·)→(∀ x∈l,x≤h)→ ∀ {p:Int × Int},p∈bZ l h→p.1∈l∧p.1≤p.2∧p.2≤h∧ ∀ x∈l,¬ (p.1<x∧x≤p.2)
 | [],h,_,_,p,hp=>by cases hp
 | [a],h,_,hx,p,hp=>by
  rw [Iz.1 hp]
  have:=hx a (by simp)
  exact ⟨by simp,this,Kd _,fun x hx=>by rw [Iz.1 hx];simp only;omega⟩
 |a::b::l,h,hs,hx,p,hp=>by
  have h1:=Iy.1 hs
  have hab:=h1.1 b H4
  rcases Ie.1 hp with rfl|hp
  ·
   refine ⟨H4,by simp only;omega,by have:=hx b (by simp);simp only;omega,fun x hm=> ?_⟩
   simp only
   rcases Ie.1 hm with rfl|hm
   ·
    omega
   ·
    rcases Ie.1 hm with rfl|hm
    ·
     omega
    ·
     have:=(Iy.1 h1.2).1 x hm;omega
  ·
   obtain ⟨k1,k2,k3,k4⟩:=mf h1.2 (fun x hm=>hx x (H9 _ hm)) hp
   refine ⟨H9 _ k1,k2,k3,fun x hm=> ?_⟩
   rcases Ie.1 hm with rfl|hm
   ·
    have:=h1.1 p.1 k1;omega
   ·
    exact k4 x hm
theorem lm: ∀ {l:List Int} {h:Int},l.Pairwise (· < ·)→(∀ x∈l,x≤h)→(bZ l h).Pairwise fun p q=>p.2<q.1
 | [],_,_,_=> .nil
 | [a],_,_,_=>JK _ _
 |a::b::l,h,hs,hx=>by
  have h1:=Iy.1 hs
  refine Iy.2 ⟨fun q hq=> ?_,lm h1.2 fun x hm=>hx x (H9 _ hm)⟩
  have hq1:=(mf h1.2 (fun x hm=>hx x (H9 _ hm)) hq).1
  simp only
  rcases Ie.1 hq1 with e|hm
  ·
   omega
  ·
   have:=(Iy.1 h1.2).1 _ hm;omega
theorem jV {lo hi:Int} {ps:List (Int × Int)} {p:Int × Int} (hp:p∈bC lo hi ps):lo≤p.1∧p.1≤p.2∧p.2≤hi:=by
 obtain ⟨h1,h2,h3,_⟩:=mf (lL lo hi ps) (fun x hx=>(mi.1 hx).2.2) hp
 exact ⟨(mi.1 h1).2.1,h2,h3⟩
theorem lQ (lo hi:Int) (ps:List (Int × Int)):(bC lo hi ps).Pairwise fun p q=>p.2<q.1:=lm (lL lo hi ps) fun x hx=>(mi.1 hx).2.2
structure Pz where
 rect:Rct
 a:Nat
 b:Nat
def bK (p:Pz):List Value:= [.int .i64 p.rect.c1,.int .i64 p.rect.r1,.int .i64 p.rect.c2,.int .i64 p.rect.r2,.int .i64 (p.a:Int),.int .i64 (p.b:Int)]
theorem bF (p:Pz):(bK p).length=6:=rfl
def nQ (a b:Rct):Bool:=(cP a b).2 && decide ((cP a b).1=a)
def lW (r:Rct) (L:List Rl):Nat→Nat
 |0=>0
 |n+1=>if nQ r ((L[n]?.map (·.rect)).getD aZ)=true then n else lW r L n
def eu (r:Rct) (L:List Rl):Nat:=lW r L L.length
theorem qy (r:Rct) (L:List Rl): ∀ n,lW r L n≤n - 1
 |0=>Ih _
 |n+1=>by
  rw [lW];split
  ·
   exact Ih _
  ·
   have:=qy r L n;omega
def aJ (r:Rct) (L:List Rl):List (Int × Int):=L.flatMap fun x=>if (cP x.rect r).2=true then [((cP x.rect r).1.c1,(cP x.rect r).1.c2)] else []
def aI (r:Rct) (L:List Rl):List (Int × Int):=L.flatMap fun x=>if (cP x.rect r).2=true then [((cP x.rect r).1.r1,(cP x.rect r).1.r2)] else []
def kF (A B:List Rl) (y x:Int × Int):Pz:=⟨⟨x.1,y.1,x.2,y.2⟩,eu ⟨x.1,y.1,x.2,y.2⟩ A,eu ⟨x.1,y.1,x.2,y.2⟩ B⟩
def fP (l:List Pz) (p:Pz):List Pz:=match l.getLast? with
 |some q=>if q.a=p.a∧q.b=p.b then l.dropLast++ [⟨⟨q.rect.c1,q.rect.r1,p.rect.c2,q.rect.r2⟩,q.a,q.b⟩] else l++ [p]
 |none=> [p]
def fK (A B:List Rl) (y:Int × Int) (xs:List (Int × Int)):List Pz:=xs.foldl (fun l x=>fP l (kF A B y x)) []
theorem gS {A B:List Rl} {y:Int × Int} {xs:List (Int × Int)} {x:Int × Int}:fK A B y (xs++ [x])=fP (fK A B y xs) (kF A B y x):=by
 unfold fK;rw [J1];rfl
def cA (r:Rct) (A B:List Rl):List Pz:=(bC r.r1 r.r2 (aI r A++aI r B)).flatMap fun y=>fK A B y (bC r.c1 r.c2 (aJ r A++aJ r B))
def qp (l:List (BitVec 64)):BitVec 64:=l.foldl (· &&& ·) (BitVec.allOnes 64)
def zu (f:Rl→BitVec 64) (r:Rct) (L:List Rl):BitVec 64:=qp ((cA r L []).map fun p=>(L[p.a]?.map f).getD 0#64)
theorem z8 {l:List (BitVec 64)} {x:BitVec 64}:qp (l++ [x])=qp l &&& x:=by unfold qp;rw [J1];rfl
structure Grew (p p' :PS) (strict:Prop):Prop where
 tok: ∃ m,p'.l=p.l.drop m∧m≤p.l.length∧p'.out.length≤p.out.length+m
 out:p.out.length≤p'.out.length
 some:strict→p.out.length<p'.out.length
theorem Grew.refl (p:PS) {q:Prop} (h: ¬ q):Grew p p q:=⟨⟨0,rfl,H5 _,Ih _⟩,Ih _,fun hq=>(h hq).elim⟩
theorem Grew.trans {p p' p2:PS} {q q' q2:Prop} (h:Grew p p' q) (k:Grew p' p2 q') (hq:q2→q∨q'):Grew p p2 q2:=by
 obtain ⟨⟨m,h1,h2,h3⟩,h4,h5⟩:=h
 obtain ⟨⟨n,k1,k2,k3⟩,k4,k5⟩:=k
 refine ⟨⟨m+n,by rw [k1,h1,JG],?_,by omega⟩,by omega,fun hh=> ?_⟩
 ·
  rw [h1,IY] at k2;omega
 ·
  rcases hq hh with h|h
  ·
   have:=h5 h;omega
  ·
   have:=k5 h;omega
theorem Grew.step (p:PS) (n:Nd) (h:0<p.l.length) {q:Prop}:Grew p (p.skip.put n) q:=
 ⟨⟨1,by simp [PS.skip,PS.put],h,by simp [PS.skip,PS.put]⟩,by simp [PS.skip,PS.put],fun _=>by simp [PS.skip,PS.put]⟩
theorem Grew.skip (p:PS) (h:0<p.l.length) {q:Prop} (hq: ¬ q):Grew p p.skip q:=
 ⟨⟨1,by simp [PS.skip],h,by simp [PS.skip]⟩,by simp [PS.skip],fun hh=>(hq hh).elim⟩
theorem Grew.wrap {p p' :PS} {q q' :Prop} (h0:0<p.l.length) (h:Grew p.skip p' q) (n:Nd):Grew p (p'.put n) q' :=by
 obtain ⟨⟨m,h1,h2,h3⟩,h4,h5⟩:=h
 simp only [PS.skip] at h1 h2 h3 h4
 refine ⟨⟨1+m,?_,?_,?_⟩,?_,fun _=> ?_⟩
 ·
  simp only [PS.put];rw [h1,← List.drop_one,JG]
 ·
  rw [List.length_tail] at h2;omega
 ·
  simp only [PS.put,HV,Ii];omega
 ·
  simp only [PS.put,HV,Ii];omega
 ·
  simp only [PS.put,HV,Ii];omega
theorem dB {r:Option Out} {k:Nat→PS→Option Out} {x:Nat × PS} (h:dq r k=some (.ok x)): ∃ n p',r=some (.ok (n,p'))∧k n p' =some (.ok x):=by
 unfold dq at h
 split at h
 ·
  exact ⟨_,_,rfl,h⟩
 ·
  rename_i h1
  obtain ⟨n,p'⟩:=x
  exact absurd h (h1 n p')
theorem eU {fin:Int} {l:List Tk} {c:Int} (h:(hdT fin l).kind=c) (hc:c≠0):0<l.length:=eH (fin:=fin) (by omega)
theorem lI {fin:Int} {name:Tk} {fn:Int} {n m:Nat} {p p' :PS} {q:Prop} (h:cC fin name fn n p=some (.ok (m,p'))):Grew p p' q:=by
 unfold cC at h
 dsimp only at h
 split at h
 ·
  cases h
 ·
  rename_i hk
  have hpos:=eU (Decidable.not_not.1 hk) (by decide)
  split at h
  ·
   cases h
  ·
   split at h
   ·
    cases h
   ·
    cases h
    exact .step p _ hpos
theorem fB (fin:Int): ∀ (f:Nat) (j:Job) (p:PS) (n:Nat) (p' :PS),aX fin f j p=some (.ok (n,p'))→Grew p p' j.eats
 |0,_,_,_,_,h=>by cases h
 |f+1,j,p,n,p',h=>by
  have ih:=fB fin f
  cases j with
  |level k=>
   rw [aX] at h
   split at h
   ·
    have g:=ih .sign _ _ _ h
    exact g
   ·
    obtain ⟨n1,p1,h1,h2⟩:=dB h
    exact (ih _ _ _ _ h1).trans (ih _ _ _ _ h2) fun _=> .inl trivial
  |loop k=>
   rw [aX] at h
   try dsimp only at h
   split at h
   ·
    rename_i hk
    have hpos:=eU hk.1 (by decide)
    obtain ⟨n1,p1,h1,h2⟩:=dB h
    exact ((ih _ _ _ _ h1).wrap (q' :=True) hpos _).trans (ih _ _ _ _ h2) fun _=> .inl trivial
   ·
    cases h
    exact .refl _ fun h=>h
  |sign=>
   rw [aX] at h
   try dsimp only at h
   split at h
   ·
    rename_i hk
    have hpos:=eU hk.1 (by decide)
    obtain ⟨n1,p1,h1,h2⟩:=dB h
    cases h2
    exact (ih _ _ _ _ h1).wrap hpos _
   ·
    obtain ⟨n1,p1,h1,h2⟩:=dB h
    split at h2
    ·
     rename_i hk
     have hpos:=eU hk.1 (by decide)
     obtain ⟨n2,p2,h3,h4⟩:=dB h2
     cases h4
     exact (ih _ _ _ _ h1).trans ((ih _ _ _ _ h3).wrap (q' :=True) hpos _) fun _=> .inl trivial
    ·
     cases h2
     have g:=ih .pct _ _ _ h1
     exact g
  |pct=>
   rw [aX] at h
   obtain ⟨n1,p1,h1,h2⟩:=dB h
   exact (ih _ _ _ _ h1).trans (ih _ _ _ _ h2) fun _=> .inl trivial
  |pctl=>
   rw [aX] at h
   try dsimp only at h
   split at h
   ·
    rename_i hk
    have hpos:=eU hk.1 (by decide)
    exact (Grew.step p _ hpos (q:=True)).trans (ih _ _ _ _ h) fun h=>h.elim
   ·
    cases h
    exact .refl _ fun h=>h
  |prim=>
   rw [aX] at h
   try dsimp only at h
   split at h
   ·
    rename_i hk
    cases h
    exact .step p _ (eH (fin:=fin) (by omega))
   ·
    split at h
    ·
     rename_i hk
     cases h
     exact .step p _ (eU hk (by decide))
    ·
     split at h
     ·
      rename_i hk
      have hpos:=eU hk (by decide)
      obtain ⟨n1,p1,h1,h2⟩:=dB h
      split at h2
      ·
       cases h2
      ·
       rename_i hu
       cases h2
       exact ((Grew.skip p hpos (q:=False) (fun h=>h)).trans (ih _ _ _ _ h1) (q2:=True) fun _=> .inr trivial).trans (Grew.skip p1 (eU (Decidable.not_not.1 hu) (by decide)) (q:=False) fun h=>h) fun _=> .inl trivial
     ·
      split at h
      ·
       rename_i hk
       have hpos:=eU hk (by decide)
       split at h
       ·
        cases h
       ·
        split at h
        ·
         cases h
        ·
         rename_i hu
         have hpos2:=eU (Decidable.not_not.1 hu) (by decide)
         have g1:=(Grew.skip p hpos (q:=False) (fun h=>h)).trans (Grew.skip p.skip hpos2 (q:=False) fun h=>h) (q2:=False) fun h=>h.elim
         split at h
         ·
          exact g1.trans (lI h (q:=True)) fun _=> .inr trivial
         ·
          obtain ⟨n1,p1,h1,h2⟩:=dB h
          exact (g1.trans (ih _ _ _ _ h1) (q2:=True) fun _=> .inr trivial).trans (lI h2 (q:=True)) fun _=> .inl trivial
      ·
       cases h
  |args fn i=>
   rw [aX] at h
   try dsimp only at h
   have hgo: ∀ p0:PS,(if (hdT fin p0.l).kind=11 then aX fin f (.args fn (i+1)) p0.skip else some (.ok (i+1,p0)))=some (.ok (n,p'))→Grew p0 p' False:=by
    intro p0 h0
    split at h0
    ·
     rename_i hk
     exact (Grew.skip p0 (eU hk (by decide)) (q:=False) (fun h=>h)).trans (ih _ _ _ _ h0) fun h=>h.elim
    ·
     cases h0
     exact .refl _ fun h=>h
   split at h
   ·
    obtain ⟨n1,p1,h1,h2⟩:=dB h
    exact (ih _ _ _ _ h1).trans (hgo p1 h2) fun _=> .inl trivial
   ·
    rename_i hk
    have hpos:=eH (fin:=fin) (l:=p.l) (by omega)
    split at h
    ·
     cases h
    ·
     exact (Grew.step p _ hpos (q:=True)).trans (hgo _ h) fun _=> .inl trivial
end Go.SL
namespace Go.SL
open Go Go.Proofs
structure Cl where
 at_:Rf
 node:Int
def lK (x:Cl):List Value:= [.int .i64 x.at_.col,.int .i64 x.at_.row,.int .i64 x.node]
structure Ev where
 step:Int
 user:Int
 kind:Int
 rect:Rct
 done:Bool
 to:BitVec 64
def ed (x:Ev):List Value:= [.int .i64 x.step,.int .i64 x.user,.int .u8 x.kind,.int .i64 x.rect.c1,.int .i64 x.rect.r1,.int .i64 x.rect.c2,.int .i64 x.rect.r2,.bool x.done,vS x.to]
theorem jR (x:Ev):(ed x).length=9:=rfl
structure Rv where
 step:Int
 call:Cl
 fn:Int
 rect:Rct
 grant:Int
 to:BitVec 64
def aH (x:Rv):List Value:= [.int .i64 x.step,.int .i64 x.call.at_.col,.int .i64 x.call.at_.row,.int .i64 x.call.node,.int .u8 x.fn,.int .i64 x.rect.c1,.int .i64 x.rect.r1,.int .i64 x.rect.c2,.int .i64 x.rect.r2,.int .i64 x.grant,vS x.to]
theorem cf (x:Rv):(aH x).length=11:=rfl
structure Ox where
 kind:Int
 user:Int
 rect:Rct
 input:ByteArray
 rd:BitVec 64
 wr:BitVec 64
 ow:BitVec 64
 fns:Int
 to:BitVec 64
 idx:Int
def Fb (x:Ox):List Value:= [.int .u8 x.kind,.int .i64 x.user,.int .i64 x.rect.c1,.int .i64 x.rect.r1,.int .i64 x.rect.c2,.int .i64 x.rect.r2,.string x.input,vS x.rd,vS x.wr,vS x.ow,.int .u8 x.fns,vS x.to,.int .i64 x.idx]
theorem sj (x y:BitVec 64):((x.toNat:Int)=(y.toNat:Int))=(x=y):=propext ⟨fun h=>J6 (by omega),fun h=>h ▸ rfl⟩
theorem si (x y:BitVec 64):(x.toNat=y.toNat)=(x=y):=propext ⟨fun h=>J6 h,fun h=>h ▸ rfl⟩
def pO (a b:Cl):Bool:=eqF a.at_ b.at_ && decide (a.node=b.node)
theorem pN {a b:Cl}:pO a b=true↔a=b:=by
 obtain ⟨a0,a1⟩:=a
 obtain ⟨b0,b1⟩:=b
 simp [pO,iQ,nT,and_assoc]
theorem oO (w:World) (d:Nat) (a b:Cl):(Op.equalIn (d+5) 60 (.agg (lK a).toArray) (.agg (lK b).toArray)).run Tryz.prog w= .ok (pO a b) w:=by
 rw [run_equalIn_agg w (d+4) 60 _ _ (by rw [Program.fieldsOf,Tryz.underlying60]) Tryz.stoodInHeld60]
 simp only [Program.fieldsOf,Tryz.underlying60]
 have hq_F: ∀ w,(Op.equalIn (d+4) 50 (.agg #[.int .i64 a.at_.col,.int .i64 a.at_.row]) (.agg #[.int .i64 b.at_.col,.int .i64 b.at_.row])).run Tryz.prog w= .ok (eqF a.at_ b.at_) w:=fun w=>sm w (d+1) a.at_ b.at_
 simp [Op.eqFields,lK,vS,part,go_sem,tz,xx,sj,si,pO,hq_F]
 by_cases h1:eqF a.at_ b.at_=true
 rotate_left
 ·
  simp [h1]
 by_cases h2:a.node=b.node
 rotate_left
 ·
  simp [h1,h2]
 simp [h1,h2]
def xm (a b:Rv):Bool:=decide (a.step=b.step) && pO a.call b.call && decide (a.fn=b.fn) && eqR a.rect b.rect && decide (a.grant=b.grant) && decide (a.to=b.to)
theorem vu {a b:Rv}:xm a b=true↔a=b:=by
 obtain ⟨a0,a1,a2,a3,a4,a5⟩:=a
 obtain ⟨b0,b1,b2,b3,b4,b5⟩:=b
 simp [xm,iQ,nT,pN,and_assoc]
instance:DecidableEq Rv:=fun a b=>decidable_of_iff (xm a b=true) vu
theorem CI (a b:Rv):xm a b=decide (a=b):=by
 rw [I4,vu,decide_eq_true_iff]
theorem BC (w:World) (d:Nat) (a b:Rv):(Op.equalIn (d+7) 62 (.agg (aH a).toArray) (.agg (aH b).toArray)).run Tryz.prog w= .ok (xm a b) w:=by
 rw [run_equalIn_agg w (d+6) 62 _ _ (by rw [Program.fieldsOf,Tryz.underlying62]) Tryz.stoodInHeld62]
 simp only [Program.fieldsOf,Tryz.underlying62]
 have hq_C: ∀ w,(Op.equalIn (d+6) 60 (.agg #[.int .i64 a.call.at_.col,.int .i64 a.call.at_.row,.int .i64 a.call.node]) (.agg #[.int .i64 b.call.at_.col,.int .i64 b.call.at_.row,.int .i64 b.call.node])).run Tryz.prog w= .ok (pO a.call b.call) w:=fun w=>oO w (d+1) a.call b.call
 have hq_R: ∀ w,(Op.equalIn (d+6) 32 (.agg #[.int .i64 a.rect.c1,.int .i64 a.rect.r1,.int .i64 a.rect.c2,.int .i64 a.rect.r2]) (.agg #[.int .i64 b.rect.c1,.int .i64 b.rect.r1,.int .i64 b.rect.c2,.int .i64 b.rect.r2])).run Tryz.prog w= .ok (eqR a.rect b.rect) w:=fun w=>lg w (d+3) a.rect b.rect
 simp [Op.eqFields,aH,vS,part,go_sem,tz,xx,sj,si,xm,hq_C,hq_R]
 by_cases h1:a.step=b.step
 rotate_left
 ·
  simp [h1]
 by_cases h2:pO a.call b.call=true
 rotate_left
 ·
  simp [h1,h2]
 by_cases h3:a.fn=b.fn
 rotate_left
 ·
  simp [h1,h2,h3]
 by_cases h4:eqR a.rect b.rect=true
 rotate_left
 ·
  simp [h1,h2,h3,h4]
 by_cases h5:a.grant=b.grant
 rotate_left
 ·
  simp [h1,h2,h3,h4,h5]
 by_cases h6:a.to=b.to
 rotate_left
 ·
  simp [h1,h2,h3,h4,h5,h6]
 simp [h1,h2,h3,h4,h5,h6]
section
variable {w0:World} {s:ap} {H:List Blk} {ty t' :TypeId} {x y:Operand}
theorem Dw {a b:Cl} (hx:ev s x=some (.agg (lK a).toArray)) (hy:ev s y=some (.agg (lK b).toArray)):VOp Tryz.prog w0 s H (.binOp .neq 60 x y t') ty (.bool (!pO a b)):=fun ρ w _ _ _ _ hρ _=>by
 have h:=oO w 9995 a b
 simp only [Nat.reduceAdd] at h
 simp only [execOp,hρ x _ hx,hρ y _ hy,Sem.run_bind,run_eqGuard_agg w _ _ _ _ _ _ Tryz.eqGuardType60,Result.andThen_ok,run_neq_struct,h,Sem.run_pure]
theorem Dv {a b:Rv} (hx:ev s x=some (.agg (aH a).toArray)) (hy:ev s y=some (.agg (aH b).toArray)):VOp Tryz.prog w0 s H (.binOp .neq 62 x y t') ty (.bool (!xm a b)):=fun ρ w _ _ _ _ hρ _=>by
 have h:=BC w 9993 a b
 simp only [Nat.reduceAdd] at h
 simp only [execOp,hρ x _ hx,hρ y _ hy,Sem.run_bind,run_eqGuard_agg w _ _ _ _ _ _ Tryz.eqGuardType62,Result.andThen_ok,run_neq_struct,h,Sem.run_pure]
end
theorem pR (L:List Rl): ∀ u∈L.flatMap bH,u.oneCell' =true:=fun u hu=>by
 obtain ⟨a,_,h⟩:=I6.1 hu
 simp only [bH,Ie,JM,or_false] at h
 rcases h with rfl|rfl|rfl|rfl|rfl|rfl|rfl<;>rfl
theorem pT (L:List Ev): ∀ u∈L.flatMap ed,u.oneCell' =true:=fun u hu=>by
 obtain ⟨a,_,h⟩:=I6.1 hu
 simp only [ed,Ie,JM,or_false] at h
 rcases h with rfl|rfl|rfl|rfl|rfl|rfl|rfl|rfl|rfl<;>rfl
theorem kP (L:List Rv): ∀ u∈L.flatMap aH,u.oneCell' =true:=fun u hu=>by
 obtain ⟨a,_,h⟩:=I6.1 hu
 simp only [aH,Ie,JM,or_false] at h
 rcases h with rfl|rfl|rfl|rfl|rfl|rfl|rfl|rfl|rfl|rfl|rfl<;>rfl
end Go.SL
namespace Go.SL
open Go
def ri (a:Rf) (L:List Rl):Nat→Nat
 |0=>0
 |n+1=>if Ef ((L[n]?.map (·.rect)).getD aZ) a=true then n else ri a L n
def fa (L:List Rl) (a:Rf):Nat:=ri a L L.length
theorem uY (a:Rf) (L:List Rl): ∀ n,ri a L n≤n - 1
 |0=>Ih _
 |n+1=>by
  rw [ri];split
  ·
   exact Ih _
  ·
   have:=uY a L n;omega
theorem Cm {a:Rf} {L:List Rl} (h:L≠ []):fa L a<L.length:=by
 have:=uY a L L.length
 have h2:0<L.length:=Jc.2 h
 unfold fa;omega
theorem yS {r:Rct} {L:List Rl} (h:L≠ []):eu r L<L.length:=by
 have:=qy r L L.length
 have h2:0<L.length:=Jc.2 h
 unfold eu;omega
theorem iM {r:Rct}:bq r=true↔1≤r.c1∧r.c1≤r.c2∧r.c2≤1024∧1≤r.r1∧r.r1≤r.r2∧r.r2≤1024:=by
 unfold bq valid
 simp only [IB,decide_eq_true_eq]
 omega
structure CellOf (r:Rct) (A B:List Rl) (y x:Int × Int):Prop where
 row:y∈bC r.r1 r.r2 (aI r A++aI r B)
 col:x∈bC r.c1 r.c2 (aJ r A++aJ r B)
def js (y x:Int × Int):Rct:=⟨x.1,y.1,x.2,y.2⟩
theorem nN {α:Type} {p:List α→Prop} (h0:p []) (h1: ∀ l a,p l→p (l++ [a])) (l:List α):p l:=by
 have h: ∀ m:List α,p m.reverse:=fun m=>by
  induction m with
  |nil=>exact h0
  |cons a m ih=>rw [List.reverse_cons];exact h1 _ _ ih
 have:=h l.reverse
 rwa [List.reverse_reverse] at this
theorem F8 {l:List Pz} {p:Pz} {k:Nat}:k∈(fP l p).map (·.a)↔k∈l.map (·.a)∨k=p.a:=by
 unfold fP
 cases h:l.getLast? with
 |none=>
  rw [List.getLast?_eq_none_iff.1 h];simp
 |some q=>
  have hne:l≠ []:=fun e=>by rw [e] at h;cases h
  have hq:l.getLast hne=q:=by rw [List.getLast?_eq_some_getLast hne] at h;exact Option.some.inj h
  have he:=Jj hne
  rw [hq] at he
  dsimp only
  split
  ·
   rename_i hs
   rw [IQ,ID]
   conv=>rhs;rw [← he]
   rw [IQ,ID]
   simp only [Iv,I5,Iz]
   rw [← hs.1]
   exact ⟨.inl,fun h=>h.elim id .inr⟩
  ·
   rw [IQ,ID];simp
theorem E5 {A B:List Rl} {y:Int × Int} {k:Nat} (xs:List (Int × Int)):k∈(fK A B y xs).map (·.a)↔ ∃ x∈xs,k=(kF A B y x).a:=by
 induction xs using nN with
 |h0=>simp [fK]
 |h1 xs x ih=>
  rw [gS,F8,ih]
  simp only [ID,Iz]
  constructor
  ·
   rintro (⟨z,hz,h⟩|h)
   ·
    exact ⟨z,.inl hz,h⟩
   ·
    exact ⟨x,.inr rfl,h⟩
  ·
   rintro ⟨z,hz|rfl,h⟩
   ·
    exact .inl ⟨z,hz,h⟩
   ·
    exact .inr h
theorem DV {r:Rct} {A B:List Rl} {k:Nat}:k∈(cA r A B).map (·.a)↔ ∃ y x,CellOf r A B y x∧k=(kF A B y x).a:=by
 unfold cA
 rw [List.map_flatMap,I6]
 constructor
 ·
  rintro ⟨y,hy,h⟩
  obtain ⟨x,hx,h2⟩:=(E5 _).1 h
  exact ⟨y,x,⟨hy,hx⟩,h2⟩
 ·
  rintro ⟨y,x,h,h2⟩
  exact ⟨y,h.row,(E5 _).2 ⟨x,h.col,h2⟩⟩
def Cg (p q:Pz):Prop:=p.rect.r1<q.rect.r1∨(p.rect.r1=q.rect.r1∧p.rect.c1<q.rect.c1)
theorem Ct {l:List Pz} {p:Pz} {y c:Int} (hp:p.rect.r1=y) (hl: ∀ q∈l,q.rect.r1=y∧q.rect.c1<p.rect.c1) (hc:p.rect.c1≤c) (hs:l.Pairwise Cg):(fP l p).Pairwise Cg∧ ∀ q∈fP l p,q.rect.r1=y∧q.rect.c1≤c:=by
 unfold fP
 cases h:l.getLast? with
 |none=>
  exact ⟨JK _ _,fun q hq=>by rw [Iz.1 hq];exact ⟨hp,hc⟩⟩
 |some q=>
  have hne:l≠ []:=fun e=>by rw [e] at h;cases h
  have hq:l.getLast hne=q:=by rw [List.getLast?_eq_some_getLast hne] at h;exact Option.some.inj h
  have he:=Jj hne
  rw [hq] at he
  have hql:q∈l:=by rw [← hq];exact List.getLast_mem hne
  dsimp only
  split
  ·
   rw [← he] at hs
   obtain ⟨s1,_,s3⟩:=Je.1 hs
   refine ⟨Je.2 ⟨s1,JK _ _,fun a ha b hb=> ?_⟩,fun a ha=> ?_⟩
   ·
    rw [Iz.1 hb]
    exact s3 a ha q (Iz.2 rfl)
   ·
    rcases ID.1 ha with ha|ha
    ·
     have:=hl a (List.dropLast_subset l ha);omega
    ·
     rw [Iz.1 ha]
     have:=hl q hql;simp only;omega
  ·
   refine ⟨Je.2 ⟨hs,JK _ _,fun a ha b hb=> ?_⟩,fun a ha=> ?_⟩
   ·
    rw [Iz.1 hb]
    have:=hl a ha
    exact .inr ⟨by omega,this.2⟩
   ·
    rcases ID.1 ha with ha|ha
    ·
     have:=hl a ha;omega
    ·
     rw [Iz.1 ha];exact ⟨hp,hc⟩
theorem kv {A B:List Rl} {y:Int × Int} (xs:List (Int × Int)) (hs:xs.Pairwise fun p q=>p.1<q.1):(fK A B y xs).Pairwise Cg∧ ∀ q∈fK A B y xs,q.rect.r1=y.1∧ ∃ x∈xs,q.rect.c1≤x.1:=by
 induction xs using nN with
 |h0=>exact ⟨.nil,fun q hq=>by cases hq⟩
 |h1 xs x ih=>
  obtain ⟨s1,_,s3⟩:=Je.1 hs
  obtain ⟨i1,i2⟩:=ih s1
  rw [gS]
  have:=Ct (l:=fK A B y xs) (p:=kF A B y x) (y:=y.1) (c:=x.1) rfl (fun q hq=>by
   obtain ⟨h1,z,hz,h2⟩:=i2 q hq
   have:=s3 z hz x (Iz.2 rfl)
   exact ⟨h1,by show q.rect.c1<x.1;omega⟩) (Kd _) i1
  exact ⟨this.1,fun q hq=>⟨(this.2 q hq).1,x,by simp,(this.2 q hq).2⟩⟩
theorem su (r:Rct) (A B:List Rl):(cA r A B).Pairwise Cg:=by
 unfold cA
 have hx:(bC r.c1 r.c2 (aJ r A++aJ r B)).Pairwise fun p q=>p.1<q.1:=by
  refine (lQ _ _ _).imp_of_mem fun {p q} hp _ h=> ?_
  have:=jV hp;omega
 have hy:(bC r.r1 r.r2 (aI r A++aI r B)).Pairwise fun p q=>p.1<q.1:=by
  refine (lQ _ _ _).imp_of_mem fun {p q} hp _ h=> ?_
  have:=jV hp;omega
 generalize bC r.r1 r.r2 (aI r A++aI r B)=ys at hy
 generalize bC r.c1 r.c2 (aJ r A++aJ r B)=xs at hx
 induction ys with
 |nil=>exact .nil
 |cons y ys ih=>
  obtain ⟨k1,k2⟩:=Iy.1 hy
  rw [IP]
  refine Je.2 ⟨(kv xs hx).1,ih k2,fun p hp q hq=> ?_⟩
  obtain ⟨z,hz,hq⟩:=I6.1 hq
  have h1:=((kv (A:=A) (B:=B) (y:=y) xs hx).2 p hp).1
  have h2:=((kv (A:=A) (B:=B) (y:=z) xs hx).2 q hq).1
  have h3:=k1 z hz
  exact .inl (by omega)
end Go.SL
namespace Go.Proofs
open Go Go.Shelf Go.RowKit Go.Lib Go.Sort Go.SL
def Tryz.sortIn_ren:Go.Shelf.Ren:=⟨fun|5=>230|8=>202|7=>278|19=>252|20=>253|10=>308|11=>309|12=>310|13=>311|14=>312|15=>313|16=>314|17=>315|18=>316|30=>339|31=>293|32=>294|33=>340|34=>341|35=>342|40=>358|n=>n,fun|23=>75|25=>3|3=>3|32=>196|22=>75|0=>0|44=>310|46=>33|4=>4|36=>303|35=>302|41=>307|5=>5|9=>9|53=>340|57=>344|63=>370|64=>367|n=>n,fun|n=>n⟩
theorem Tryz.sortIn:Go.Proofs.SlLaysM.n5 Tryz.prog Tryz.sortIn_ren:={
 mixed:=by kernel_rfl
 f5:=⟨Tryz.f230.name,by decide,Tryz.func230.trans (congrArg some (by kernel_rfl))⟩
 f7:=⟨Tryz.f278.name,by decide,Tryz.func278.trans (congrArg some (by kernel_rfl))⟩
 f8:=Tryz.func202.trans (congrArg some (by kernel_rfl))
 f10:=⟨Tryz.f308.name,by decide,Tryz.func308.trans (congrArg some (by kernel_rfl))⟩
 f11:=⟨Tryz.f309.name,by decide,Tryz.func309.trans (congrArg some (by kernel_rfl))⟩
 f12:=⟨Tryz.f310.name,by decide,Tryz.func310.trans (congrArg some (by kernel_rfl))⟩
 f13:=⟨Tryz.f311.name,by decide,Tryz.func311.trans (congrArg some (by kernel_rfl))⟩
 f14:=⟨Tryz.f312.name,by decide,Tryz.func312.trans (congrArg some (by kernel_rfl))⟩
 f15:=⟨Tryz.f313.name,by decide,Tryz.func313.trans (congrArg some (by kernel_rfl))⟩
 f16:=⟨Tryz.f314.name,by decide,Tryz.func314.trans (congrArg some (by kernel_rfl))⟩
 f17:=⟨Tryz.f315.name,by decide,Tryz.func315.trans (congrArg some (by kernel_rfl))⟩
 f18:=⟨Tryz.f316.name,by decide,Tryz.func316.trans (congrArg some (by kernel_rfl))⟩
 f19:=Tryz.func252.trans (congrArg some (by kernel_rfl))
 f20:=Tryz.func253.trans (congrArg some (by kernel_rfl))
 f30:=⟨Tryz.f339.name,by decide,Tryz.func339.trans (congrArg some (by kernel_rfl))⟩
 f31:=Tryz.func293.trans (congrArg some (by kernel_rfl))
 f32:=Tryz.func294.trans (congrArg some (by kernel_rfl))
 f33:=⟨Tryz.f340.name,by decide,Tryz.func340.trans (congrArg some (by kernel_rfl))⟩
 f34:=⟨Tryz.f341.name,by decide,Tryz.func341.trans (congrArg some (by kernel_rfl))⟩
 f35:=⟨Tryz.f342.name,by decide,Tryz.func342.trans (congrArg some (by kernel_rfl))⟩
 f40:=⟨Tryz.f358.name,by decide,Tryz.func358.trans (congrArg some (by kernel_rfl))⟩
 t0:=Tryz.underlying0
 a0:=Tryz.isAgg0
 z0:=Tryz.sizeOf0
 v0:=Tryz.zeroValue0
 t3:=Tryz.underlying3
 a3:=Tryz.isAgg3
 z3:=Tryz.sizeOf3
 v3:=Tryz.zeroValue3
 t4:=Tryz.underlying4
 a4:=Tryz.isAgg4
 z4:=Tryz.sizeOf4
 v4:=Tryz.zeroValue4
 t5:=Tryz.underlying5
 a5:=Tryz.isAgg5
 z5:=Tryz.sizeOf5
 v5:=Tryz.zeroValue5
 t9:=Tryz.underlying9
 a9:=Tryz.isAgg9
 z9:=Tryz.sizeOf9
 v9:=Tryz.zeroValue9
 t22:=Tryz.underlying75
 a22:=Tryz.isAgg75
 z22:=Tryz.sizeOf75
 v22:=Tryz.zeroValue75
 t23:=Tryz.underlying75
 a23:=Tryz.isAgg75
 z23:=Tryz.sizeOf75
 v23:=Tryz.zeroValue75
 t25:=Tryz.underlying3
 a25:=Tryz.isAgg3
 z25:=Tryz.sizeOf3
 v25:=Tryz.zeroValue3
 t32:=Tryz.underlying196
 a32:=Tryz.isAgg196
 z32:=Tryz.sizeOf196
 v32:=Tryz.zeroValue196
 t35:=Tryz.underlying302
 a35:=Tryz.isAgg302
 z35:=Tryz.sizeOf302
 v35:=Tryz.zeroValue302
 t36:=Tryz.underlying303
 a36:=Tryz.isAgg303
 z36:=Tryz.sizeOf303
 v36:=Tryz.zeroValue303
 t41:=Tryz.underlying307
 a41:=Tryz.isAgg307
 z41:=Tryz.sizeOf307
 v41:=Tryz.zeroValue307
 t44:=Tryz.underlying310
 a44:=Tryz.isAgg310
 z44:=Tryz.sizeOf310
 v44:=Tryz.zeroValue310
 t46:=Tryz.underlying33
 a46:=Tryz.isAgg33
 z46:=Tryz.sizeOf33
 v46:=Tryz.zeroValue33
 t53:=Tryz.underlying340
 a53:=Tryz.isAgg340
 z53:=Tryz.sizeOf340
 v53:=Tryz.zeroValue340
 t57:=Tryz.underlying344
 a57:=Tryz.isAgg344
 z57:=Tryz.sizeOf344
 v57:=Tryz.zeroValue344
 t63:=Tryz.underlying370
 a63:=Tryz.isAgg370
 z63:=Tryz.sizeOf370
 v63:=Tryz.zeroValue370
 t64:=Tryz.underlying367
 a64:=Tryz.isAgg367
 z64:=Tryz.sizeOf367
 v64:=Tryz.zeroValue367 }
end Go.Proofs
namespace Go.SL
open Go Go.Proofs Go.Sort Go.Shelf
theorem ur {α:Type} [Inhabited α] {enc:α→Value} (w:World) (g n:Nat) (d:Array α) (os:Array Obj):w.grownBy (grow (putRow enc (Sort.ahead w n) g 0 d) os) (some g):={
 os:=rfl
 tape:=rfl
 output:=rfl
 size:=by
  show w.heap.size≤((w.heap.modify g _)++os).size
  rw [Array.size_append,JQ]
  omega
 block k hk hne:=by
  show ((w.heap.modify g _)++os)[k]? =_
  rw [I1 (by rw [JQ];exact hk),JF,if_neg (fun e=>hne (by rw [e]))] }
theorem wI {α:Type} [Inhabited α] {enc:α→Value} (w:World) (g n:Nat) (d:Array α) (os:Array Obj) (c:Array Value) (T:TypeId) (fr:Nat × Nat) (h:w.heap[g]? =some (.cells c T fr)):
  (grow (putRow enc (Sort.ahead w n) g 0 d) os).heap[g]? =some (.cells (putCells enc 0 d c) T fr):=by
 have hlt:g<w.heap.size:=(Io.1 h).1
 show ((w.heap.modify g _)++os)[g]? =_
 rw [I1 (by rw [JQ];exact hlt),JF,if_pos rfl,h]
 rfl
theorem wO (L:List Int) (xs junk:List Value) (hl:xs.length=L.length):putCells du 0 L.toArray (xs++junk).toArray=(L.map du++junk).toArray:=by
 apply Array.ext_getElem?
 intro j
 simp only [putCells,Array.getElem?_mapIdx,IE,JH,H5,true_and,H8,Jo]
 by_cases hj:j<L.length
 ·
  rw [I9 (by omega),I9 (by rw [IJ];omega),II,HY (by omega),HY hj]
  simp [hj]
 ·
  rw [Jp (by omega),Jp (by rw [IJ];omega),hl,IJ]
  simp [hj]
set_option maxHeartbeats 1000000 in
theorem uo (L:List Int) (A:Option Nat) (cap:Nat) (hL:L.length≤1000000) (R:List Blk) (w0:World):
  FnIn Tryz.prog 230 [sl A L.length cap] w0 (.own A 3 1 L.length cap (L.map du)::R) fun v H=>v= .tuple #[]∧H= .own A 3 1 L.length cap ((eY L).map du)::R:=by
 have hl:(eY L).length=L.length:=(eD L).length_eq
 cases A with
 |none=>
  intro w hm
  obtain ⟨⟨h1,h2,h3,h4⟩,_⟩:=hm.on _ H4
  obtain ⟨h5,h6⟩:=h4
  have hnil:L= []:=Jz.1 h5
  subst hnil
  subst h6
  have he:eY []= []:=Jz.1 hl
  refine Calls.mono (AnyM.slices_Sort_int_none Tryz.sortIn none 0 w) ?_
  rintro e w' ⟨rfl,rfl⟩
  exact ⟨_,_,rfl,hm,rfl,by rw [he]⟩
 |some g=>
  intro w hm
  obtain ⟨⟨h1,h2,h3,junk,h4,h5⟩,hkk⟩:=hm.on _ H4
  have hlt:g<w.heap.size:=(Io.1 h5).1
  have hH:Holds du w g 0 L.toArray:=by
   intro j hj
   simp only [JH] at hj
   have hc:(L.map du++junk).toArray[j]? =some (du L.toArray[j]!):=by
    rw [IE,I9 (by rw [IJ];exact hj),II,HY hj]
    simp [hj]
   constructor
   ·
    simp only [World.cell?,H8,h5]
    exact hc
   ·
    simp [World.frozen?,h5]
  have hs:=AnyM.slices_Sort_int Tryz.sortIn g 0 cap L w hH hlt (by omega)
  refine hs.mono ?_
  rintro e w' ⟨rfl,n,os,rfl⟩
  refine ⟨_,_,rfl,hm.upd (ur _ _ _ _ _) (b' := .own (some g) 3 1 L.length cap ((eY L).map du)) ?_ fun k hk=> .inl hk,rfl,rfl⟩
  refine ⟨by rw [IJ,hl,Jt],h2,h3,junk,by rw [HV,IJ,hl,← Jt L.length,← h1,← HV];exact h4,?_⟩
  have h6:=wI (enc:=du) w g n (eY L).toArray os _ _ _ h5
  rw [wO (eY L) _ _ (by rw [hl,h1,Jt])] at h6
  exact h6
end Go.SL
namespace Go.SL
open Go Go.Proofs
structure Ky where
 call:Cl
 fn:Int
 rect:Rct
 grant:Int
def jx (x:Ky):List Value:= [.int .i64 x.call.at_.col,.int .i64 x.call.at_.row,.int .i64 x.call.node,.int .u8 x.fn,.int .i64 x.rect.c1,.int .i64 x.rect.r1,.int .i64 x.rect.c2,.int .i64 x.rect.r2,.int .i64 x.grant]
@[reducible] def u4 (a:Ky):Value:= .agg (jx a).toArray
def abt (x:Rv):Ky:=⟨x.call,x.fn,x.rect,x.grant⟩
def zO (a b:Ky):Bool:=pO a.call b.call && decide (a.fn=b.fn) && eqR a.rect b.rect && decide (a.grant=b.grant)
theorem vv {a b:Ky}:zO a b=true↔a=b:=by
 obtain ⟨a0,a1,a2,a3⟩:=a
 obtain ⟨b0,b1,b2,b3⟩:=b
 simp [zO,iQ,pN,and_assoc]
instance:DecidableEq Ky:=fun a b=>decidable_of_iff (zO a b=true) vv
theorem CJ (a b:Ky):zO a b=decide (a=b):=by
 rw [I4,vv,decide_eq_true_iff]
theorem BD (w:World) (d:Nat) (a b:Ky):(Op.equalIn (d+7) 173 (.agg (jx a).toArray) (.agg (jx b).toArray)).run Tryz.prog w= .ok (zO a b) w:=by
 rw [run_equalIn_agg w (d+6) 173 _ _ (by rw [Program.fieldsOf,Tryz.underlying173]) Tryz.stoodInHeld173]
 simp only [Program.fieldsOf,Tryz.underlying173]
 have hq_C: ∀ w,(Op.equalIn (d+6) 60 (.agg #[.int .i64 a.call.at_.col,.int .i64 a.call.at_.row,.int .i64 a.call.node]) (.agg #[.int .i64 b.call.at_.col,.int .i64 b.call.at_.row,.int .i64 b.call.node])).run Tryz.prog w= .ok (pO a.call b.call) w:=fun w=>oO w (d+1) a.call b.call
 have hq_R: ∀ w,(Op.equalIn (d+6) 32 (.agg #[.int .i64 a.rect.c1,.int .i64 a.rect.r1,.int .i64 a.rect.c2,.int .i64 a.rect.r2]) (.agg #[.int .i64 b.rect.c1,.int .i64 b.rect.r1,.int .i64 b.rect.c2,.int .i64 b.rect.r2])).run Tryz.prog w= .ok (eqR a.rect b.rect) w:=fun w=>lg w (d+3) a.rect b.rect
 simp [Op.eqFields,jx,part,go_sem,tz,xx,sj,si,zO,hq_C,hq_R]
 by_cases h1:pO a.call b.call=true
 rotate_left
 ·
  simp [h1]
 by_cases h2:a.fn=b.fn
 rotate_left
 ·
  simp [h1,h2]
 by_cases h3:eqR a.rect b.rect=true
 rotate_left
 ·
  simp [h1,h2,h3]
 by_cases h4:a.grant=b.grant
 rotate_left
 ·
  simp [h1,h2,h3,h4]
 simp [h1,h2,h3,h4]
instance klaw_K:KLaw Tryz.prog 173 u4:={
 check:=fun e k w=>by
  have h: ∀ m,(Instr.checkKey e (m+4) 173 (.agg (jx k).toArray)).run Tryz.prog w= .ok () w:=fun m=>by
   simp [Instr.checkKey,jx,part,go_sem,Tryz.underlying173,Tryz.underlying32,Tryz.underlying60,Tryz.underlying50]
  exact h 9996
 find:=fun k es w=>by
  refine G8 Tryz.underlying173 (fun k e w=>by have h:=BD w 9993 k e;rw [CJ] at h;exact h) (fun k es w h=> ?_) k es w
  have hu:=run_underlying (P:=Tryz.prog) (w:=w) Tryz.underlying173
  cases es with
  |nil=>simp only [Instr.findKey,I5,Instr.findNow,Sem.run_bind,hu,Result.andThen_ok,Sem.run_pure,bh]
  |cons e es=>
   simp only [Iv] at h ⊢
   simp only [Instr.findKey,Instr.findNow,cE,Instr.sameNow,Sem.run_bind,hu,Result.andThen_ok]
   exact h
 stays:=fun k w=>by
  have h:Instr.sameBits 10000 (.agg (jx k).toArray) (.agg (jx k).toArray)=true:=by
   have h: ∀ m,Instr.sameBits (m+1) (.agg (jx k).toArray) (.agg (jx k).toArray)=true:=fun m=>by simp [Instr.sameBits,jx]
   exact h 9999
  simp only [Instr.keyThatStays,h,if_true,Sem.run_pure] }
structure SetK {κ:Type} (es:List (κ × Value × Nat)) (S:List κ):Prop where
 mem: ∀ k,k∈es.map (fun e=>e.1)↔k∈S
 val: ∀ e∈es,e.2.1= .bool true
theorem mA {κ:Type} [DecidableEq κ] (k:κ): ∀ (es:List (κ × Value × Nat)) (i:Nat),k∈es.map (fun e=>e.1)→ ∃ j v,bh k es i=some (j,v)∧ ∃ e∈es,e.2.1=v
 | [],_,h=>by cases h
 |e::es,i,h=>by
  rw [bh]
  by_cases he:k=e.1
  ·
   rw [if_pos he];exact ⟨_,_,rfl,e,H4 ..,rfl⟩
  ·
   rw [if_neg he]
   rw [Iv,Ie] at h
   obtain ⟨j,v,h1,e',h2,h3⟩:=mA k es (i+1) (h.resolve_left he)
   exact ⟨j,v,h1,e',H9 _ h2,h3⟩
theorem mz {κ:Type} [DecidableEq κ] (k:κ): ∀ (es:List (κ × Value × Nat)) (i:Nat),k∉es.map (fun e=>e.1)→bh k es i=none
 | [],_,_=>rfl
 |e::es,i,h=>by
  rw [Iv,Ie,not_or] at h
  rw [bh,if_neg h.1]
  exact mz k es (i+1) h.2
theorem SetK.nil {κ:Type}:SetK ([]:List (κ × Value × Nat)) []:=⟨fun _=>Iff.rfl,fun _ h=>by cases h⟩
theorem SetK.look {κ:Type} [DecidableEq κ] {es:List (κ × Value × Nat)} {S:List κ} (h:SetK es S) (k:κ):(match bh k es 0 with|some (_,v)=>v|none=>Value.bool false)= .bool (decide (k∈S)):=by
 by_cases hk:k∈S
 ·
  obtain ⟨j,v,h1,e,h2,h3⟩:=mA k es 0 ((h.mem k).2 hk)
  rw [h1,decide_eq_true hk]
  dsimp only
  rw [← h3,h.val e h2]
 ·
  rw [mz k es 0 (fun hm=>hk ((h.mem k).1 hm)),decide_eq_false hk]
theorem SetK.put {κ:Type} [DecidableEq κ] {es:List (κ × Value × Nat)} {S:List κ} (h:SetK es S) (k:κ) (clock:Nat):SetK (jp k (.bool true) clock es).1 (S++ [k]):=by
 unfold jp
 by_cases hk:k∈es.map (fun e=>e.1)
 ·
  obtain ⟨j,v,h1, -⟩:=mA k es 0 hk
  rw [h1]
  dsimp only
  obtain ⟨b,_,hb⟩:=ia h1
  rw [Jo] at hb
  have hmap:(es.modify j fun e=>(k,Value.bool true,e.2.2)).map (fun e=>e.1)=es.map (fun e=>e.1):=by
   apply J2
   intro i
   rw [II,II,J8]
   by_cases e:j=i
   ·
    subst e;rw [hb];simp
   ·
    simp [e]
  refine ⟨fun x=> ?_,fun e he=> ?_⟩
  ·
   rw [hmap,h.mem,ID,Iz]
   exact ⟨.inl,fun hh=>hh.elim id fun e=>e ▸ (h.mem k).1 hk⟩
  ·
   obtain ⟨i,hi,rfl⟩:=List.mem_iff_getElem.1 he
   rw [List.getElem_modify]
   split
   ·
    rfl
   ·
    exact h.val _ (I7 _)
 ·
  rw [mz k es 0 hk]
  dsimp only
  refine ⟨fun x=> ?_,fun e he=> ?_⟩
  ·
   rw [IQ,ID,h.mem,ID]
   exact Iff.rfl
  ·
   rcases ID.1 he with he|he
   ·
    exact h.val e he
   ·
    rw [Iz.1 he]
def dO (L M:List Rv):List Rv:=L.filter fun x=> !decide (abt x∈M.map abt)
end Go.SL
namespace Go.SL
open Go Go.Proofs
attribute [local irreducible] W WL WQ WG WA WX WLI WR WT VOp thn blk bo scp aN bf bi aF FnIn FnP
def At (toks:List Tk) (A:Option Nat) (cap:Nat) (p:PS) (lv:Value):Prop:= ∃ k,k≤toks.length∧p.l=toks.drop k∧p.out.length≤k∧TkV lv A toks.length cap k
section
variable {toks:List Tk} {A:Option Nat} {cap:Nat} {fin:Int} {g:Nat}
def PR (toks:List Tk) (A:Option Nat) (cap:Nat) (fin:Int) (g:Nat) (R:List Blk) (r:Out) (v:Value) (H:List Blk):Prop:=v= .tuple #[]∧ ∃ n p' lv' B' cb',r= .ok (n,p')∧At toks A cap p' lv' ∧H=pB g lv' A cap fin toks B' cb' p'.out++R
def PD (R:List Blk) (r:Out) (v:Value) (H:List Blk):Prop:= ∃ e,r= .error e∧v=s8 e∧MSub R H
def POK (f:Nat) (j:Job) (fid:FuncId) (args:List Value):Prop:=
 ∀ (toks:List Tk) (A:Option Nat) (cap:Nat) (fin:Int) (g:Nat) (p:PS) (lv:Value) (B:Option Nat) (cb:Nat) (r:Out) (R:List Blk) (w0:World),toks.length≤cap→toks.length≤1000→At toks A cap p lv→aX fin f j p=some r→
  FnP Tryz.prog fid (.pointer (some ⟨g,0,none⟩)::args) w0 (pB g lv A cap fin toks B cb p.out++R) (PR toks A cap fin g R r) (PD R r)
theorem bX {o:Option Out} {k:Nat→PS→Option Out} {r:Out} (h:dq o k=some r): ∃ r1,o=some r1∧((∃ e,r1= .error e∧r= .error e)∨(∃ n p',r1= .ok (n,p')∧k n p' =some r)):=by
 unfold dq at h
 split at h
 ·
  rename_i n p'
  exact ⟨_,rfl,.inr ⟨n,p',rfl,h⟩⟩
 ·
  rename_i h1
  cases r with
  |error e=>exact ⟨_,h,.inl ⟨e,rfl,rfl⟩⟩
  |ok x=>obtain ⟨n,p'⟩:=x;exact absurd h (h1 n p')
theorem At.head {p:PS} {lv:Value} (h:At toks A cap p lv) {B:Option Nat} {cb:Nat} {out:List Nd} {H:List Blk} {w0:World} (hH:MSub (pB g lv A cap fin toks B cb out) H) (w:World) (hm:Mem w0 w H):
  ay Tryz.prog 177 [.pointer (some ⟨g,0,none⟩)] w (.agg (cG (hdT fin p.l)).toArray):=by
 obtain ⟨k,h1,h2,h3,h4⟩:=h
 rw [h2]
 exact BN h4 hH w hm
theorem At.is {p:PS} {lv:Value} (h:At toks A cap p lv) (op:Int) {B:Option Nat} {cb:Nat} {out:List Nd} {H:List Blk} {w0:World} (hH:MSub (pB g lv A cap fin toks B cb out) H) (w:World) (hm:Mem w0 w H):
  ay Tryz.prog 303 [.pointer (some ⟨g,0,none⟩),.int .i64 op] w (.bool (decide ((hdT fin p.l).kind=8∧(hdT fin p.l).num=op))):=by
 obtain ⟨k,h1,h2,h3,h4⟩:=h
 rw [h2]
 exact FW op h4 hH w hm
def At1 (toks:List Tk) (A:Option Nat) (cap:Nat) (p:PS) (lv:Value):Prop:= ∃ k,k≤toks.length∧p.l=toks.drop k∧p.out.length+1≤k∧TkV lv A toks.length cap k
theorem At.skip {p:PS} {lv:Value} (h:At toks A cap p lv) (hc:toks.length≤cap) {c:Int} (hk:(hdT fin p.l).kind=c) (h0:c≠0) {B:Option Nat} {cb:Nat} {out:List Nd} {H R:List Blk} {w0:World} (hH:MSub (pB g lv A cap fin toks B cb out++R) H):
  FnIn Tryz.prog 275 [.pointer (some ⟨g,0,none⟩)] w0 H fun v H=>v= .tuple #[]∧ ∃ lv',At1 toks A cap p.skip lv' ∧H=pB g lv' A cap fin toks B cb out++R:=by
 obtain ⟨k,h1,h2,h3,h4⟩:=h
 have hpos:=eU hk h0
 rw [h2,IY] at hpos
 refine (BM g lv A cap fin toks k h4 (by omega) hc B cb out R w0).msub hH|>.mono ?_
 rintro v H' ⟨rfl,lv',h5,rfl⟩
 exact ⟨rfl,lv',⟨k+1,by omega,by simp only [PS.skip];rw [h2,List.tail_drop],by simp only [PS.skip];omega,h5⟩,rfl⟩
theorem At1.at {p:PS} {lv:Value} (h:At1 toks A cap p lv):At toks A cap p lv:=let ⟨k,h1,h2,h3,h4⟩:=h;⟨k,h1,h2,by omega,h4⟩
theorem At1.put {p:PS} {lv:Value} (h:At1 toks A cap p lv) (n:Nd):At toks A cap (p.put n) lv:=let ⟨k,h1,h2,h3,h4⟩:=h;⟨k,h1,h2,by simp only [PS.put,HV,Ii];exact h3,h4⟩
theorem At.len {p:PS} {lv:Value} (h:At toks A cap p lv) (hl:toks.length≤1000):p.out.length≤1000000:=let ⟨k,h1,h2,h3,h4⟩:=h;by omega
theorem At1.grew {p p' :PS} {lv lv' :Value} {q:Prop} (h:At1 toks A cap p lv) (h' :At toks A cap p' lv') (hg:Grew p p' q):At1 toks A cap p' lv' :=by
 obtain ⟨k,h1,h2,h3,h4⟩:=h
 obtain ⟨k',g1,g2,g3,g4⟩:=h'
 obtain ⟨⟨m,e1,e2,e3⟩,_,_⟩:=hg
 rw [h2,JG] at e1
 rw [h2,IY] at e2
 have hk:k' =k+m:=by
  have:=congrArg List.length (g2.symm.trans e1)
  rw [IY,IY] at this
  omega
 exact ⟨k',g1,g2,by omega,g4⟩
theorem cB {fn:Func} {fr:Fr} {w0:World} {R H:List Blk} {r:Out} {n:Nat} {p' :PS} {lv' :Value} {B' :Option Nat} {cb' :Nat} {e:Exit} {s:ap} (he:e= .ret∨e= .normal) (hf:fn.results= #[]) (hr:r= .ok (n,p')) (hat:At toks A cap p' lv') (hs:MSub (pB g lv' A cap fin toks B' cb' p'.out++R) H):
  bf Tryz.prog fn fr w0 (PR toks A cap fin g R r) (PD R r) e s H:=G0 (eT he hf hs ⟨rfl,n,p',lv',B',cb',hr,hat,rfl⟩)
theorem bz {fn:Func} {fr:Fr} {w0:World} {R H:List Blk} {r:Out} {e:Int × Int} {s:ap} {Rok:Value→List Blk→Prop} (hr:r= .error e) (hs:MSub R H):
  bf Tryz.prog fn fr w0 Rok (PD R r) (.panic (eW (s8 e))) s H:=E6 (.refl _) ⟨e,hr,rfl,hs⟩
set_option maxHeartbeats 1000000 in
theorem DK (f:Nat) (ihS:POK f .sign 272 []) (ihP:POK f .pct 304 []):POK (f+1) .sign 272 []:=by
 intro toks A cap fin g p lv B cb r R w0 hc hl hat hrun
 refine pG Tryz.func272 rfl Tryz.ntmps272 rfl ?_
 rw [aX] at hrun
 dsimp only at hrun
 have hi:=fun w hm=>hat.is 2 (fin:=fin) (g:=g) (B:=B) (cb:=cb) (out:=p.out) (H:=pB g lv A cap fin toks B cb p.out++R) (w0:=w0) (MSub.pick .hd (.pick .hd (.pick .hd (.nil _)))) w hm
 by_cases hs:(hdT fin p.l).kind=8∧(hdT fin p.l).num=2
 ·
  rw [if_pos hs] at hrun
  obtain ⟨r1,hr1,hr2⟩:=bX hrun
  rw [decide_eq_true hs] at hi
  repeat' (first|(apply ah (f:=303);exact rfl;exact rfl;exact hi)|(apply aB (f:=275);exact rfl;exact rfl;exact hat.skip hc hs.1 (by decide) (MSub.pick pK (MSub.pick pK (MSub.pick pK (MSub.refl _))));rintro _ _ ⟨rfl,lv1,h1,rfl⟩)|(refine aL (f:=272) rfl rfl (FnP.msub (ihS toks A cap fin g p.skip _ B cb r1 _ w0 hc hl (At1.at h1) hr1) (MSub.pick pK (MSub.pick pK (MSub.pick pK (MSub.refl _))))) ?_ ?_)|(rintro _ _ ⟨rfl,n,p',lv',B',cb',rfl,h2,rfl⟩)|(rintro _ _ ⟨e,rfl,rfl,h3⟩)|(apply aB (f:=276);exact rfl;exact rfl;exact FnIn.msub (gk (dw 4 0) _ _ _ _ _ _ _ _ _ (At.len h2 hl) _ _) (MSub.pick pK (MSub.pick pK (MSub.pick pK (MSub.refl _))));rintro _ _ ⟨rfl,B2,cb2,rfl⟩)|refine sT ?_|refine sP ?_|refine sM fun _=> ?_|(refine sC ?_ ?_<;>intro hb<;>try omega)|fail)
  ·
   rcases hr2 with ⟨e,h,_⟩|⟨n1,p1,h,h5⟩
   ·
    cases h
   ·
    cases h
    cases h5
    exact cB (p' :=p'.put (dw 4 0)) (.inl rfl) rfl rfl ((h1.grew h2 (fB _ _ _ _ _ _ hr1)).put _) (.refl _)
  ·
   rcases hr2 with ⟨e',h,h5⟩|⟨n1,p1,h,h5⟩
   ·
    cases h
    exact bz h5 h3
   ·
    cases h
 ·
  rw [if_neg hs] at hrun
  rw [decide_eq_false hs] at hi
  obtain ⟨r1,hr1,hr2⟩:=bX hrun
  repeat' (first|(apply ah (f:=303) (d:=3);exact rfl;exact rfl;exact hi)|(refine aL (f:=304) rfl rfl (FnP.msub (ihP toks A cap fin g p _ B cb r1 _ w0 hc hl hat hr1) (MSub.pick pK (MSub.pick pK (MSub.pick pK (MSub.refl _))))) ?_ ?_)|(rintro _ _ ⟨rfl,n,p',lv',B',cb',rfl,h2,rfl⟩)|(rintro _ _ ⟨e,rfl,rfl,h3⟩)|refine sT ?_|refine sP ?_|refine sM fun _=> ?_|(refine sC ?_ ?_<;>intro hb<;>try omega)|fail)
  ·
   rcases hr2 with ⟨e,h,_⟩|⟨n1,p1,h,h5⟩
   ·
    cases h
   cases h
   have hi2:=fun w hm=>h2.is 5 (fin:=fin) (g:=g) (B:=B') (cb:=cb') (out:=p'.out) (H:=pB g lv' A cap fin toks B' cb' p'.out++R) (w0:=w0) (MSub.pick .hd (.pick .hd (.pick .hd (.nil _)))) w hm
   by_cases hs5:(hdT fin p'.l).kind=8∧(hdT fin p'.l).num=5
   ·
    rw [if_pos hs5] at h5
    rw [decide_eq_true hs5] at hi2
    obtain ⟨r2,hr3,hr4⟩:=bX h5
    repeat' (first|(apply ah (f:=303) (d:=14);exact rfl;exact rfl;exact hi2)|(apply aB (f:=275);exact rfl;exact rfl;exact h2.skip hc hs5.1 (by decide) (MSub.pick pK (MSub.pick pK (MSub.pick pK (MSub.refl _))));rintro _ _ ⟨rfl,lv1,h1,rfl⟩)|(refine aL (f:=272) rfl rfl (FnP.msub (ihS toks A cap fin g p'.skip _ B' cb' r2 _ w0 hc hl (At1.at h1) hr3) (MSub.pick pK (MSub.pick pK (MSub.pick pK (MSub.refl _))))) ?_ ?_)|(rintro _ _ ⟨rfl,n2,p2,lv2,B2,cb2,rfl,h6,rfl⟩)|(rintro _ _ ⟨e,rfl,rfl,h3⟩)|(apply aB (f:=276);exact rfl;exact rfl;exact FnIn.msub (gk (dw 6 5) _ _ _ _ _ _ _ _ _ (At.len h6 hl) _ _) (MSub.pick pK (MSub.pick pK (MSub.pick pK (MSub.refl _))));rintro _ _ ⟨rfl,B3,cb3,rfl⟩)|refine sT ?_|refine sP ?_|refine sM fun _=> ?_|(refine sC ?_ ?_<;>intro hb<;>try omega)|fail)
    ·
     rcases hr4 with ⟨e,h,_⟩|⟨n3,p3,h,h7⟩
     ·
      cases h
     ·
      cases h
      cases h7
      exact cB (p' :=p2.put (dw 6 5)) (.inr rfl) rfl rfl ((h1.grew h6 (fB _ _ _ _ _ _ hr3)).put _) (.refl _)
    ·
     rcases hr4 with ⟨e',h,h7⟩|⟨n3,p3,h,h7⟩
     ·
      cases h
      exact bz h7 h3
     ·
      cases h
   ·
    rw [if_neg hs5] at h5
    rw [decide_eq_false hs5] at hi2
    cases h5
    repeat' (first|(apply ah (f:=303) (d:=14);exact rfl;exact rfl;exact hi2)|refine sT ?_|refine sP ?_|refine sM fun _=> ?_|(refine sC ?_ ?_<;>intro hb<;>try omega)|fail)
    exact cB (.inr rfl) rfl rfl h2 (.refl _)
  ·
   rcases hr2 with ⟨e',h,h5⟩|⟨n1,p1,h,h5⟩
   ·
    cases h
    exact bz h5 h3
   ·
    cases h
set_option maxHeartbeats 1000000 in
theorem wS (f:Nat) (ihP:POK f .prim 335 []):POK (f+1) .pct 304 []:=by
 intro toks A cap fin g p lv B cb r R w0 hc hl hat hrun
 refine pG Tryz.func304 rfl Tryz.ntmps304 rfl ?_
 rw [aX] at hrun
 obtain ⟨r1,hr1,hr2⟩:=bX hrun
 repeat' (first|(refine aL (f:=335) rfl rfl (FnP.msub (ihP toks A cap fin g p _ B cb r1 _ w0 hc hl hat hr1) (MSub.pick pK (MSub.pick pK (MSub.pick pK (MSub.refl _))))) ?_ ?_)|(rintro _ _ ⟨rfl,n,p',lv',B',cb',rfl,h2,rfl⟩)|(rintro _ _ ⟨e,rfl,rfl,h3⟩)|refine sT ?_|refine sP ?_|refine sM fun _=> ?_|(refine sC ?_ ?_<;>intro hb<;>try omega)|fail)
 ·
  rcases hr2 with ⟨e,h,_⟩|⟨n1,p1,h,h5⟩
  ·
   cases h
  cases h
  refine ax [0] rfl (fun _:Nat × PS × Value × Option Nat × Nat=> []) (fun x=>pB g x.2.2.1 A cap fin toks x.2.2.2.1 x.2.2.2.2 x.2.1.out++R) (fun x=>At toks A cap x.2.1 x.2.2.1∧aX fin x.1 .pctl x.2.1=some r) (fun x=>x.1) (f,p',lv',B',cb') ⟨h2,h5⟩ sB (.refl _) ?_
  rintro ⟨f',q,lq,Bq,cq⟩ ⟨hq1,hq2⟩
  dsimp only at hq1 hq2 ⊢
  cases f' with
  |zero=>cases hq2
  |succ f' =>
   rw [aX] at hq2
   have hi:=fun w hm=>hq1.is 13 (fin:=fin) (g:=g) (B:=Bq) (cb:=cq) (out:=q.out) (H:=pB g lq A cap fin toks Bq cq q.out++R) (w0:=w0) (MSub.pick .hd (.pick .hd (.pick .hd (.nil _)))) w hm
   by_cases hs:(hdT fin q.l).kind=8∧(hdT fin q.l).num=13
   ·
    rw [if_pos hs] at hq2
    rw [decide_eq_true hs] at hi
    repeat' (first|(apply ah (f:=303);exact rfl;exact rfl;exact hi)|(apply aB (f:=275);exact rfl;exact rfl;exact hq1.skip hc hs.1 (by decide) (MSub.pick pK (MSub.pick pK (MSub.pick pK (MSub.refl _))));rintro _ _ ⟨rfl,lv1,h1,rfl⟩)|(apply aB (f:=276);exact rfl;exact rfl;exact FnIn.msub (gk (dw 5 0) _ _ _ _ _ _ _ _ _ (At.len hq1 hl) _ _) (MSub.pick pK (MSub.pick pK (MSub.pick pK (MSub.refl _))));rintro _ _ ⟨rfl,B2,cb2,rfl⟩)|refine sT ?_|refine sP ?_|refine sM fun _=> ?_|(refine sC ?_ ?_<;>intro hb<;>try omega)|fail)
    refine ⟨(f',q.skip.put (dw 5 0),lv1,B2,cb2),⟨h1.put _,hq2⟩,Kl _,sB,sB,.refl _⟩
   ·
    rw [if_neg hs] at hq2
    rw [decide_eq_false hs] at hi
    cases hq2
    repeat' (first|(apply ah (f:=303);exact rfl;exact rfl;exact hi)|refine sT ?_|refine sP ?_|refine sM fun _=> ?_|(refine sC ?_ ?_<;>intro hb<;>try omega)|fail)
    exact cB (by first|exact .inr rfl|exact .inl rfl) rfl rfl hq1 (.refl _)
 ·
  rcases hr2 with ⟨e',h,h5⟩|⟨n1,p1,h,h5⟩
  ·
   cases h
   exact bz h5 h3
  ·
   cases h
end
end Go.SL
