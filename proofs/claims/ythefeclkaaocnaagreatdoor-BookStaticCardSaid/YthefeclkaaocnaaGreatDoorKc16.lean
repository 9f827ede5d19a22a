/-
  Lemmas and walks, put together: Lr Q1 Q2 Q3 Q4.
-/
import Derived.Test.YthefeclkaaocnaaGreatDoorKc15
set_option linter.unusedSimpArgs false
set_option linter.unusedVariables false
set_option maxRecDepth 20000
namespace Go.SL
open Go
def Chain:List Tk→Prop
 | []=>True
 |t::r=>(1≤t.kind∧t.kind≤11)∧(t.kind=7→(r.headD cK).kind=9)∧Chain r
theorem BR {l:List Int} {t:Tk} {n:Nat} (h:jw l=some (t,n)):t.kind=4:=by
 unfold jw at h
 obtain ⟨x,_,hx⟩:=NQ.1 h
 cases hx;rfl
theorem AW {l:List Int} {t:Tk} {n:Nat} (h:gx l=some (t,n)):8≤t.kind∧t.kind≤11:=by
 unfold gx at h
 split at h
 ·
  cases h;simp
 ·
  split at h
  ·
   cases h;simp
  ·
   split at h
   ·
    cases h;simp
   ·
    split at h
    ·
     cases h;simp
    ·
     cases h
theorem AV {l:List Int} {t:Tk} {n:Nat} (h:iG l=some (t,n)):(1≤t.kind∧t.kind≤11)∧t.kind≠7:=by
 unfold iG at h
 split at h
 ·
  rename_i x hx
  cases h
  have:=BR hx
  omega
 ·
  have:=AW h
  omega
theorem Ac {l:List Int} {t:Tk} {n:Nat} (h:fQ l=some (t,n)):(1≤t.kind∧t.kind≤11)∧(t.kind=7→(l.drop n).headD 0=40):=by
 unfold fQ at h
 split at h
 ·
  cases h
 ·
  split at h
  ·
   rename_i h1
   cases h
   exact ⟨by simp,fun _=>h1⟩
  ·
   split at h
   ·
    cases h;simp
   ·
    split at h
    ·
     cases h;simp
    ·
     split at h
     ·
      cases h
     ·
      split at h
      ·
       cases h
       simp only
       split<;>simp
      ·
       cases h;simp
theorem x9 {l:List Int} {t:Tk} {n:Nat} (h:bp l=some (t,n)):(1≤t.kind∧t.kind≤11)∧(t.kind=7→(l.drop n).headD 0=40):=by
 unfold bp at h
 split at h
 ·
  obtain ⟨x,_,hx⟩:=NQ.1 h
  cases hx;simp
 ·
  split at h
  ·
   obtain ⟨x,_,hx⟩:=NQ.1 h
   cases hx;simp
  ·
   split at h
   ·
    exact Ac h
   ·
    have:=AV h
    exact ⟨this.1,fun e=>absurd e this.2⟩
theorem lj (l:List Int):Fits l (bp l):=by
 intro t n h
 by_cases hd:aD (l.headD 0)=true
 ·
  unfold bp at h
  rw [if_pos hd,← rU] at h
  exact pT l t n h
 ·
  unfold bp at h
  rw [if_neg hd] at h
  split at h
  ·
   rename_i hq
   cases l with
   |nil=>cases hq
   |cons c r=>
    obtain ⟨⟨x,m⟩,hx,he⟩:=NQ.1 h
    cases he
    rw [List.tail_cons,yd r.length r (MZ _)] at hx
    obtain ⟨k,hk,hk2⟩:=Option.bind_eq_some_iff.1 hx
    obtain ⟨y,_,hy⟩:=NQ.1 hk2
    cases hy
    have:=mA r.length r k (MZ _) hk
    simp only [Nq]
    omega
  ·
   split at h
   ·
    exact ux l t n h
   ·
    unfold iG at h
    split at h
    ·
     rename_i x hx
     cases h
     exact vv l t n hx
    ·
     exact uM l t n h
theorem x8 {l:List Int} (h:l.headD 0=40): ∃ n,bp l=some (⟨9,0,av,aL,0⟩,n):=by
 unfold bp
 rw [h,if_neg (by decide),if_neg (by decide),if_neg (by decide),iG,kP (by omega)]
 simp only
 unfold gx
 rw [rS (by rw [h];decide) dX (by decide)]
 simp only [h,if_true]
 exact ⟨1,rfl⟩
theorem wy {l:List Int} {f i:Nat} {r:List Tk} (h:aZ bp l (f+1) i= .ok r) (h1:(l.drop i).headD 0=40):(r.headD cK).kind=9:=by
 simp only [aZ] at h
 cases hd:l.drop i with
 |nil=>rw [hd] at h1;cases h1
 |cons c q=>
  rw [hd] at h1 h
  simp only [Og] at h1
  subst h1
  obtain ⟨n,hn⟩:=x8 (l:=40::q) rfl
  simp only [hn] at h
  rw [if_neg (by decide)] at h
  cases hr:aZ bp l f (i+n) with
  |error e=>rw [hr] at h;cases h
  |ok r' =>rw [hr] at h;cases h;rfl
theorem tV {l:List Int}: ∀ (f i:Nat) (r:List Tk),l.length - i≤f→aZ bp l f i= .ok r→Chain r:=by
 intro f
 induction f with
 |zero=>intro i r _ h;cases h;trivial
 |succ f ih=>
  intro i r hf h
  simp only [aZ] at h
  cases hd:l.drop i with
  |nil=>rw [hd] at h;cases h;trivial
  |cons c q=>
   rw [hd] at h
   have hlen:(l.drop i).length=q.length+1:=by rw [hd];rfl
   rw [M6] at hlen
   simp only at h
   split at h
   ·
    exact ih (i+1) r (by omega) h
   ·
    cases ht:bp (c::q) with
    |none=>rw [ht] at h;cases h
    |some x=>
     obtain ⟨t,n⟩:=x
     rw [ht] at h
     simp only at h
     have hfit:=lj _ t n ht
     cases hr:aZ bp l f (i+n) with
     |error e=>rw [hr] at h;cases h
     |ok r' =>
      rw [hr] at h
      cases h
      have hk:=x9 ht
      refine ⟨hk.1,fun h7=> ?_,ih (i+n) r' (by omega) hr⟩
      have h40:=hk.2 h7
      rw [← hd,N8] at h40
      cases f with
      |zero=>
       have:l.drop (i+n)= []:=by rw [List.drop_eq_nil_iff];omega
       rw [this] at h40;cases h40
      |succ f=>exact wy hr h40
theorem tU (l:List Int):Chain (bF bp l).1:=by
 unfold bF
 split
 ·
  trivial
 ·
  split
  ·
   trivial
  ·
   split
   ·
    rename_i r hr
    exact tV _ _ _ (by omega) hr
   ·
    trivial
theorem Chain.drop: ∀ {l:List Tk} (k:Nat),Chain l→Chain (l.drop k)
 |l,0,h=>h
 | [],k+1,h=>h
 |_::_,k+1,h=>Chain.drop k h.2.2
theorem Chain.name {l:List Tk} {fin:Int} (h:Chain l) (h7:(hdT fin l).kind=7):(hdT fin l.tail).kind=9:=by
 cases l with
 |nil=>cases h7
 |cons t r=>
  have h9:=h.2.1 h7
  cases r with
  |nil=>cases h9
  |cons u r=>exact h9
theorem Chain.kind {l:List Tk} {fin:Int} (h:Chain l):(hdT fin l).kind=0↔l= []:=by
 cases l with
 |nil=>exact ⟨fun _=>rfl,fun _=>rfl⟩
 |cons t r=>
  have:=h.1
  constructor
  ·
   intro e
   simp only [hdT,Og] at e
   omega
  ·
   intro e;cases e
end Go.SL
namespace Go.SL
open Go Go.Proofs
attribute [local irreducible] W WL WQ WG WA WX WLI WR WT WC VOp RW thn blk bL scp bi bz bY aQ FnIn FnP ceP
instance fldTk1:FldT Tryz.prog 295 1 2 1:=⟨_,_,Tryz.underlying295,rfl,rfl,rfl⟩
instance fldTk4:FldT Tryz.prog 295 4 3 7:=⟨_,_,Tryz.underlying295,rfl,rfl,rfl⟩
def rC (sa:ByteArray) (A:Option Nat) (n cap k:Nat) (B:Option Nat) (m cb:Nat) (at_ e:Int):List Value:= [.string sa,sl A n cap,.int .i64 (k:Int),sl B m cb,.int .i64 at_,.int .i64 e]
def rB (g:Nat) (sa:ByteArray) (A:Option Nat) (cap:Nat) (toks:List Tk) (k:Nat) (B:Option Nat) (cb:Nat) (out:List Nd) (at_ e:Int):List Blk:=
 [.box g 342 (rC sa A toks.length cap k B out.length cb at_ e),.own A 295 8 toks.length cap (toks.flatMap aX),.own B 174 11 out.length cb (out.flatMap bW)]
theorem Mr {A:Option Nat} {cap:Nat} {toks:List Tk} {w0 w:World} {H:List Blk} (hm:Mem w0 w H) (hi:In (.own A 295 8 toks.length cap (toks.flatMap aX)) H) {k:Nat} (hk:k<toks.length): ∃ ga,A=some ga∧Ro w ga 0 (toks.flatMap aX):=by
 obtain ⟨_,_,_,h4⟩:=(hm.on _ hi.mem).1
 cases A with
 |none=>obtain ⟨h5,_⟩:=h4;omega
 |some ga=>exact ⟨ga,rfl,Ro.of_own hm hi⟩
theorem yO (g:Nat) (sa:ByteArray) (hsa:sa.size≤1000) (A:Option Nat) (cap:Nat) (toks:List Tk) (ht1:toks.length≤1000) (k:Nat) (B:Option Nat) (m cb:Nat) (at_ e:Int) (w:World) (hr:Ro w g 0 (rC sa A toks.length cap k B m cb at_ e))
  (ht:k<toks.length→ ∃ ga,A=some ga∧Ro w ga 0 (toks.flatMap aX)):ax Tryz.prog 258 [.pointer (some ⟨g,0,none⟩)] w (.agg (aX (hdT (sa.size:Int) (toks.drop k))).toArray):=by
 refine aq Tryz.func258 rfl Tryz.ntmps258 rfl ?_
 unfold rC at hr
 by_cases hlt:k<toks.length
 ·
  rw [Df hlt]
  obtain ⟨ga,rfl,hra⟩:=ht hlt
  have hra' :=hra.elem vz k hlt
  repeat' (first|(apply fU (id:=1);kernel_rfl;kernel_rfl)|(apply aP;exact rfl;apply aH (o:=0) (off:=1);exact hr;exact rfl;exact rfl)|(apply aP;exact rfl;apply aH (o:=0) (off:=2);exact hr;exact rfl;exact rfl)|refine sT ?_|refine sS ?_|refine sQ ?_|refine sM fun _=> ?_|(refine sC ?_ ?_<;>intro hb<;>try omega)|(refine sCQ ?_ ?_<;>intro hb<;>try omega)|fail)
  all_goals try (exfalso;omega)
  rename_i g2
  refine l8 (id:=2) [10] [] [] (by kernel_rfl) (by kernel_rfl) (by kernel_rfl) mS ?_
  repeat' (first|(apply dO;(iterate 3 exact rfl);apply aH (o:=0) (off:=1);exact hr;exact rfl;exact rfl)|(apply dO;(iterate 3 exact rfl);apply aH (o:=0) (off:=2);exact hr;exact rfl;exact rfl)|(apply dO;(iterate 3 exact rfl);apply ak (j:=k);exact rfl;exact rfl;exact hlt)|(apply dO;(iterate 3 exact rfl);apply aA;exact rfl;exact hra';exact rfl)|refine sT ?_|refine sS ?_|refine sW ?_|refine sM fun _=> ?_|(refine sC ?_ ?_<;>intro hb<;>try omega)|(refine sCW ?_ ?_<;>intro hb<;>try omega)|fail)
  all_goals try (exfalso;omega)
  (refine eRC ?_)
  rfl
 ·
  rw [qE (by omega)]
  repeat' (first|(apply fU (id:=1);kernel_rfl;kernel_rfl)|(apply aP;exact rfl;apply aH (o:=0) (off:=1);exact hr;exact rfl;exact rfl)|(apply aP;exact rfl;apply aH (o:=0) (off:=2);exact hr;exact rfl;exact rfl)|(apply aj;exact rfl;apply aH (o:=0) (off:=0);exact hr;exact rfl;exact rfl)|refine sT ?_|refine sS ?_|refine sQ ?_|refine sM fun _=> ?_|(refine sC ?_ ?_<;>intro hb<;>try omega)|(refine sCQ ?_ ?_<;>intro hb<;>try omega)|fail)
  all_goals try (exfalso;omega)
  (refine eRC ?_)
  rfl
theorem rN {g:Nat} {sa:ByteArray} (hsa:sa.size≤1000) {A:Option Nat} {cap:Nat} {toks:List Tk} (ht1:toks.length≤1000) {k:Nat} {B:Option Nat} {cb:Nat} {out:List Nd} {at_ e:Int} {t:Tk} (hd:hdT (sa.size:Int) (toks.drop k)=t) {H:List Blk} {w0:World} (hH:MSub (rB g sa A cap toks k B cb out at_ e) H) (w:World) (hm:Mem w0 w H):
  ax Tryz.prog 258 [.pointer (some ⟨g,0,none⟩)] w (.agg (aX t).toArray):=by
 have hm' :=hH.use hm
 rw [← hd]
 exact yO g sa hsa A cap toks ht1 k B out.length cb at_ e w (Ro.of_box hm' .hd) fun hlt=>Mr hm' (.tl .hd) hlt
theorem Ef (op:Int) (w:World):ax Tryz.prog 324 [.int .i64 op] w (.tuple #[.int .i64 (fJ op),.bool (decide (op=5)),.int .i64 (if fJ op=0 then 2 else 0)]):=by
 refine aq Tryz.func324 rfl Tryz.ntmps324 rfl ?_
 repeat' (first|refine sT ?_|refine sM fun _=> ?_|(refine sC ?_ ?_<;>intro hb<;>try omega)|fail)
 all_goals ((refine rT3 ?_);simp_all [fJ];try omega)
theorem K5 (q:Int) {g:Nat} {sa:ByteArray} (hsa:sa.size≤1000) {A:Option Nat} {cap:Nat} {toks:List Tk} (ht1:toks.length≤1000) {k:Nat} {B:Option Nat} {cb:Nat} {out:List Nd} {at_ e:Int} {t:Tk} (hd:hdT (sa.size:Int) (toks.drop k)=t) {H:List Blk} {w0:World} (hH:MSub (rB g sa A cap toks k B cb out at_ e) H) (w:World) (hm:Mem w0 w H):
  ax Tryz.prog 301 [.pointer (some ⟨g,0,none⟩),.int .i64 q] w (.bool (decide (t.kind=8∧fJ t.num=q))):=by
 have hm0:=hH.use hm
 refine aq Tryz.func301 rfl Tryz.ntmps301 rfl ?_
 have hh: ∀ w' H',Mem w w' H' →ax Tryz.prog 258 [.pointer (some ⟨g,0,none⟩)] w' (.agg (aX t).toArray):=fun w' H' hm' =>by
  rw [← hd]
  refine yO g sa hsa A cap toks ht1 k B out.length cb at_ e w' ((Ro.of_box hm0 .hd).next hm') fun hlt=> ?_
  obtain ⟨ga,h1,h2⟩:=Mr hm0 (.tl .hd) hlt
  exact ⟨ga,h1,h2.next hm'⟩
 repeat' (first|(apply aa (f:=258);exact rfl;exact rfl;(intro w' hm';exact hh w' _ hm'))|(apply aa (f:=324);exact rfl;exact rfl;(intro w' _;exact Ef _ w'))|refine sT ?_|refine sS ?_|refine sM fun _=> ?_|(refine sC ?_ ?_<;>intro hb<;>try omega)|fail)
 all_goals ((refine rT1 ?_);simp_all)
theorem eK (g:Nat) (sa:ByteArray) (A:Option Nat) (n cap k:Nat) (B:Option Nat) (m cb:Nat) (at_ e a2 e2:Int) (R:List Blk) (w0:World):
  FnIn Tryz.prog 257 [.pointer (some ⟨g,0,none⟩),.int .i64 a2,.int .i64 e2] w0 (.box g 342 (rC sa A n cap k B m cb at_ e)::R) fun v H=>v= .tuple #[]∧H= .box g 342 (rC sa A n cap k B m cb (if e=0 then a2 else at_) (if e=0 then e2 else e))::R:=by
 refine dP Tryz.func257 rfl Tryz.ntmps257 rfl ?_
 unfold rC
 by_cases he:e=0
 ·
  subst he
  rw [if_pos rfl,if_pos rfl]
  repeat' (first|refine sT ?_|refine sS ?_|refine sM fun _=> ?_|(refine sC ?_ ?_<;>intro hb<;>try omega)|fail)
  all_goals first|(exfalso;omega)|exact ij eIO rfl mS ⟨rfl,rfl⟩
 ·
  rw [if_neg he,if_neg he]
  repeat' (first|refine sT ?_|refine sS ?_|refine sM fun _=> ?_|(refine sC ?_ ?_<;>intro hb<;>try omega)|fail)
  all_goals first|(exfalso;omega)|exact ij eIO rfl mS ⟨rfl,rfl⟩
theorem j6 (c:Int) {g:Nat} {sa:ByteArray} (hsa:sa.size≤1000) {A:Option Nat} {cap:Nat} {toks:List Tk} (ht1:toks.length≤1000) {k:Nat} (hk1:k≤2000) {B:Option Nat} {cb:Nat} {out:List Nd} {at_ e:Int} {t:Tk} (hd:hdT (sa.size:Int) (toks.drop k)=t) (hc:t.kind=c) (R:List Blk) (w0:World):
  FnIn Tryz.prog 355 [.pointer (some ⟨g,0,none⟩),.int .u8 c] w0 (rB g sa A cap toks k B cb out at_ e++R) fun v H=>v= .tuple #[]∧H=rB g sa A cap toks (k+1) B cb out at_ e++R:=by
 refine dP Tryz.func355 rfl Tryz.ntmps355 rfl ?_
 have hh:=fun w hm=>rN (g:=g) hsa ht1 hd (B:=B) (cb:=cb) (out:=out) (at_:=at_) (e:=e) (A:=A) (cap:=cap) (w0:=w0) (H:=rB g sa A cap toks k B cb out at_ e++R) ⟨R,.refl _⟩ w hm
 unfold rB rC at hh ⊢
 repeat' (first|(apply aj;exact rfl;apply cH;exact rfl;exact rfl)|(apply aa (f:=258);exact rfl;exact rfl;exact hh)|refine sT ?_|refine sS ?_|refine sN ?_|refine sM fun _=> ?_|(refine sC ?_ ?_<;>intro hb<;>try omega)|fail)
 all_goals first
  |(exfalso;omega)
  |exact ij eIO rfl (.refl _) ⟨rfl,rfl⟩
theorem rM (c:Int) {g:Nat} {sa:ByteArray} (hsa:sa.size≤1000) {A:Option Nat} {cap:Nat} {toks:List Tk} (ht1:toks.length≤1000) {k:Nat} {B:Option Nat} {cb:Nat} {out:List Nd} {at_ e:Int} {t:Tk} (hd:hdT (sa.size:Int) (toks.drop k)=t) (hc:t.kind≠c) (R:List Blk) (w0:World):
  FnIn Tryz.prog 355 [.pointer (some ⟨g,0,none⟩),.int .u8 c] w0 (rB g sa A cap toks k B cb out at_ e++R) fun v H=>v= .tuple #[]∧H=rB g sa A cap toks k B cb out (if e=0 then t.at_ else at_) (if e=0 then 4 else e)++R:=by
 refine dP Tryz.func355 rfl Tryz.ntmps355 rfl ?_
 have hh:=fun w hm=>rN (g:=g) hsa ht1 hd (B:=B) (cb:=cb) (out:=out) (at_:=at_) (e:=e) (A:=A) (cap:=cap) (w0:=w0) (H:=rB g sa A cap toks k B cb out at_ e++R) ⟨R,.refl _⟩ w hm
 unfold rB at hh ⊢
 repeat' (first|(apply aj;exact rfl;apply cH;exact rfl;exact rfl)|(apply aa (f:=258);exact rfl;exact rfl;exact hh)|(apply aw (f:=257);exact rfl;exact rfl;exact FnIn.msub (eK g sa A _ cap k B _ cb at_ e _ _ _ _) (MSub.pick .hd (.refl _));rintro _ _ ⟨rfl,rfl⟩)|refine sT ?_|refine sS ?_|refine sN ?_|refine sM fun _=> ?_|(refine sC ?_ ?_<;>intro hb<;>try omega)|fail)
 all_goals first
  |(exfalso;omega)
  |exact ij eIO rfl (.refl _) ⟨rfl,rfl⟩
structure Cx where
 g:Nat
 sa:ByteArray
 A:Option Nat
 cap:Nat
 toks:List Tk
 hsa:sa.size≤256
 ht:toks.length≤256
 hc:Chain toks
def Cx.fin (x:Cx):Int:=(x.sa.size:Int)
def Cx.B (x:Cx) (k:Nat) (B:Option Nat) (cb:Nat) (out:List Nd) (at_ e:Int):List Blk:=rB x.g x.sa x.A x.cap x.toks k B cb out at_ e
def RR (x:Cx) (j m:Nat) (R:List Blk) (r:Out) (v:Value) (H:List Blk):Prop:=v= .tuple #[]∧match r with
 | .ok (_,p')=> ∃ k' B' cb',k' ≤x.toks.length∧p'.l=x.toks.drop k' ∧j≤k' ∧p'.out.length+j≤m+k' ∧H=x.B k' B' cb' p'.out 0 0++R
 | .error e=> ∃ k' B' cb' out',e.2≠0∧k' ≤x.toks.length+1∧j≤k' ∧out'.length+j≤m+k' ∧H=x.B k' B' cb' out' e.1 e.2++R
def Kv (F:Int→PS→Option Out) (fid:FuncId) (args:List Value):Prop:=
 ∀ (x:Cx) (k:Nat) (p:PS) (B:Option Nat) (cb:Nat) (r:Out) (R:List Blk) (w0:World),k≤x.toks.length→p.l=x.toks.drop k→p.out.length≤k→F x.fin p=some r→
  FnIn Tryz.prog fid (.pointer (some ⟨x.g,0,none⟩)::args) w0 (x.B k B cb p.out 0 0++R) (RR x k p.out.length R r)
def mE (f:Nat) (j:Job) (fid:FuncId) (args:List Value):Prop:=Kv (fun fin p=>bu fin f j p) fid args
theorem Cx.lt {x:Cx} {k:Nat} {t:Tk} (hd:hdT x.fin (x.toks.drop k)=t) (h:t.kind≠0):k<x.toks.length:=by
 rcases Ow k x.toks.length with h1|h1
 ·
  exact h1
 ·
  rw [qE h1] at hd
  subst hd
  exact absurd rfl h
theorem Cx.skip {x:Cx} {k:Nat} {p:PS} (h:p.l=x.toks.drop k):p.skip.l=x.toks.drop (k+1):=by
 simp only [PS.skip];rw [h,Ph]
theorem Cx.next {x:Cx} {k:Nat} {t:Tk} (hd:hdT x.fin (x.toks.drop k)=t) {B:Option Nat} {cb:Nat} {out:List Nd} {at_ e:Int} {H:List Blk} {w0:World} (hH:MSub (x.B k B cb out at_ e) H) (w:World) (hm:Mem w0 w H):
  ax Tryz.prog 258 [.pointer (some ⟨x.g,0,none⟩)] w (.agg (aX t).toArray):=rN (Nt x.hsa (by decide)) (Nt x.ht (by decide)) hd hH w hm
theorem Cx.op {x:Cx} {k:Nat} {t:Tk} (hd:hdT x.fin (x.toks.drop k)=t) (q:Int) {B:Option Nat} {cb:Nat} {out:List Nd} {at_ e:Int} {H:List Blk} {w0:World} (hH:MSub (x.B k B cb out at_ e) H) (w:World) (hm:Mem w0 w H):
  ax Tryz.prog 301 [.pointer (some ⟨x.g,0,none⟩),.int .i64 q] w (.bool (decide (t.kind=8∧fJ t.num=q))):=K5 q (Nt x.hsa (by decide)) (Nt x.ht (by decide)) hd hH w hm
theorem Ce (q:Int):(fJ q=6)↔(q=5):=by
 unfold fJ
 repeat' split
 all_goals omega
theorem Io (q:Int):(fJ q=7)↔(q=13):=by
 unfold fJ
 repeat' split
 all_goals omega
theorem jd {fn:Func} {fr:Fr} {w0:World} {R H:List Blk} {x:Cx} {j m n k' :Nat} {p' :PS} {B' :Option Nat} {cb' :Nat} {e:Exit} {s:az} (he:e= .ret∨e= .normal) (hf:fn.results= #[]) (h1:k' ≤x.toks.length) (h2:p'.l=x.toks.drop k') (h3:j≤k') (h4:p'.out.length+j≤m+k') (hs:MSub (x.B k' B' cb' p'.out 0 0++R) H):
  bi Tryz.prog fn fr w0 (RR x j m R (.ok (n,p'))) e s H:=ij he hf hs ⟨rfl,k',B',cb',h1,h2,h3,h4,rfl⟩
theorem eB {fn:Func} {fr:Fr} {w0:World} {R H:List Blk} {x:Cx} {j m k' :Nat} {x' :Int × Int} {out' :List Nd} {B' :Option Nat} {cb' :Nat} {e:Exit} {s:az} (he:e= .ret∨e= .normal) (hf:fn.results= #[]) (h0:x'.2≠0) (h1:k' ≤x.toks.length+1) (h3:j≤k') (h4:out'.length+j≤m+k') (hs:MSub (x.B k' B' cb' out' x'.1 x'.2++R) H):
  bi Tryz.prog fn fr w0 (RR x j m R (.error x')) e s H:=ij he hf hs ⟨rfl,k',B',cb',out',h0,h1,h3,h4,rfl⟩
set_option maxHeartbeats 2000000 in
theorem Gc (f:Nat) (ihS:mE f .sign 300 []) (ihP:mE f .pct 323 []):mE (f+1) .sign 300 []:=by
  intro x k p B cb r R w0 hk hp hout hrun
  refine dP Tryz.func300 rfl Tryz.ntmps300 rfl ?_
  have hxt:=x.ht
  dsimp only at hrun
  rw [bu] at hrun
  dsimp only at hrun
  obtain ⟨t,ht⟩: ∃ t,hdT x.fin p.l=t:=⟨_,rfl⟩
  rw [ht] at hrun
  have hd:hdT x.fin (x.toks.drop k)=t:=hp ▸ ht
  have hN:=fun w hm=>Cx.next hd (B:=B) (cb:=cb) (out:=p.out) (at_:=0) (e:=0) (w0:=w0) (H:=x.B k B cb p.out 0 0++R) ⟨R,.refl _⟩ w hm
  by_cases hk2:t.kind=8∧t.num=2
  · rw [if_pos hk2] at hrun
    have hlt:=Cx.lt hd (by omega)
    obtain ⟨r1,hr1,⟨e,rfl,rfl⟩|⟨n1,p1,rfl,hr2⟩⟩:=bq hrun
    · repeat' (first|(apply aa (f:=258);exact rfl;exact rfl;exact hN)|(apply aw (f:=300);exact rfl;exact rfl;exact FnIn.msub (ihS x (k+1) p.skip B cb _ _ w0 hlt (Cx.skip hp) (Ps hout) hr1) (MSub.pick pK (MSub.pick pK (MSub.pick pK (MSub.refl _))));rintro _ _ ⟨rfl,k1,B1,cb1,o1,h1,h2,h3,h4,rfl⟩;replace h4:o1.length+(k+1)≤p.out.length+k1:=h4)|(apply aM;(iterate 3 exact rfl);exact pK;exact pK;exact rfl;(simp [bW,Value.oneCell']);omega;(simp only [maxLen];omega);intro g8 c8)|refine sT ?_|refine sS ?_|refine sN ?_|refine sM fun _=> ?_|(refine sC ?_ ?_<;>intro hb<;>try omega)|fail)
      all_goals first
        |(exfalso;omega)
        | (refine eB (k' := k1) (out' := o1 ++ [dr 4 0]) (B' := some g8) (cb' := c8) eIO rfl h1 h2 (by omega) (by rw [MT, MX]; omega) ?_
           simp only [Cx.B,rB,MT,MX,Nk,Nc,NB,M4,MU,MW]
           exact mS)
    · cases hr2
      repeat' (first|(apply aa (f:=258);exact rfl;exact rfl;exact hN)|(apply aw (f:=300);exact rfl;exact rfl;exact FnIn.msub (ihS x (k+1) p.skip B cb _ _ w0 hlt (Cx.skip hp) (Ps hout) hr1) (MSub.pick pK (MSub.pick pK (MSub.pick pK (MSub.refl _))));rintro _ _ ⟨rfl,k1,B1,cb1,h1,h2,h3,h4,rfl⟩;replace h4:p1.out.length+(k+1)≤p.out.length+k1:=h4)|(apply aM;(iterate 3 exact rfl);exact pK;exact pK;exact rfl;(simp [bW,Value.oneCell']);omega;(simp only [maxLen];omega);intro g8 c8)|refine sT ?_|refine sS ?_|refine sN ?_|refine sM fun _=> ?_|(refine sC ?_ ?_<;>intro hb<;>try omega)|fail)
      all_goals first
        |(exfalso;omega)
        | (refine jd (k' := k1) (p' := p1.put (dr 4 0)) (B' := some g8) (cb' := c8) eIO rfl h1 h2 (by omega) (by simp only [PS.put, MT, MX]; omega) ?_
           simp only [PS.put,Cx.B,rB,MT,MX,Nk,Nc,NB,M4,MU,MW]
           exact mS)
  rw [if_neg hk2] at hrun
  obtain ⟨r1,hr1,⟨e,rfl,rfl⟩|⟨n1,p1,rfl,hr2⟩⟩:=bq hrun
  · repeat' (first|(apply aa (f:=258);exact rfl;exact rfl;exact hN)|(apply aw (f:=323);exact rfl;exact rfl;exact FnIn.msub (ihP x k p B cb _ _ w0 hk hp hout hr1) (MSub.pick pK (MSub.pick pK (MSub.pick pK (MSub.refl _))));rintro _ _ ⟨rfl,k1,B1,cb1,o1,h1,h2,h3,h4,rfl⟩)|refine sT ?_|refine sS ?_|refine sN ?_|refine sM fun _=> ?_|(refine sC ?_ ?_<;>intro hb<;>try omega)|fail)
    all_goals first
      |(exfalso;omega)
      |exact absurd (by assumption) h1
      | (refine eB (k' := k1) (out' := o1) (B' := B1) (cb' := cb1) eIO rfl h1 h2 h3 h4 ?_
         simp only [Cx.B,rB,MU,MW]
         exact mS)
  · obtain ⟨u,hu⟩: ∃ u,hdT x.fin p1.l=u:=⟨_,rfl⟩
    rw [hu] at hr2
    by_cases hk3:u.kind=8∧u.num=5
    · rw [if_pos hk3] at hr2
      obtain ⟨r2,hr3,⟨e,rfl,rfl⟩|⟨n2,p2,rfl,hr4⟩⟩:=bq hr2
      · repeat' (first|(apply aa (f:=258);exact rfl;exact rfl;exact hN)|(apply aw (f:=323);exact rfl;exact rfl;exact FnIn.msub (ihP x k p B cb _ _ w0 hk hp hout hr1) (MSub.pick pK (MSub.pick pK (MSub.pick pK (MSub.refl _))));rintro _ _ ⟨rfl,k1,B1,cb1,h1,h2,h3,h4,rfl⟩;have hd1:hdT x.fin (x.toks.drop k1)=u:=h2 ▸ hu;have hlt1:=Cx.lt hd1 (by omega))|(apply aa (f:=301);exact rfl;exact rfl;exact fun w hm=>Cx.op hd1 6 (B:=B1) (cb:=cb1) (out:=p1.out) (at_:=0) (e:=0) (MSub.pick pK (MSub.pick pK (MSub.pick pK (MSub.nil _)))) w hm)|(apply aw (f:=300);exact rfl;exact rfl;exact FnIn.msub (ihS x (k1+1) p1.skip B1 cb1 _ _ w0 hlt1 (Cx.skip h2) (by simp only [PS.skip];omega) hr3) (MSub.pick pK (MSub.pick pK (MSub.pick pK (MSub.refl _))));rintro _ _ ⟨rfl,k2,B2,cb2,o2,j1,j2,j3,j4,rfl⟩;replace j4:o2.length+(k1+1)≤p1.out.length+k2:=j4)|(apply aM;(iterate 3 exact rfl);exact pK;exact pK;exact rfl;(simp [bW,Value.oneCell']);omega;(simp only [maxLen];omega);intro g8 c8)|refine sT ?_|refine sS ?_|refine sN ?_|refine sM fun _=> ?_|(refine sC ?_ ?_<;>intro hb<;>try omega)|fail)
        all_goals first
          |(exfalso;omega)
          |(exfalso;simp_all [Ce];done)
          | (refine eB (k' := k2) (out' := o2 ++ [dr 6 5]) (B' := some g8) (cb' := c8) eIO rfl j1 j2 (by omega) (by rw [MT, MX]; omega) ?_
             simp only [Cx.B,rB,MT,MX,Nk,Nc,NB,M4,MU,MW]
             exact mS)
      · cases hr4
        repeat' (first|(apply aa (f:=258);exact rfl;exact rfl;exact hN)|(apply aw (f:=323);exact rfl;exact rfl;exact FnIn.msub (ihP x k p B cb _ _ w0 hk hp hout hr1) (MSub.pick pK (MSub.pick pK (MSub.pick pK (MSub.refl _))));rintro _ _ ⟨rfl,k1,B1,cb1,h1,h2,h3,h4,rfl⟩;have hd1:hdT x.fin (x.toks.drop k1)=u:=h2 ▸ hu;have hlt1:=Cx.lt hd1 (by omega))|(apply aa (f:=301);exact rfl;exact rfl;exact fun w hm=>Cx.op hd1 6 (B:=B1) (cb:=cb1) (out:=p1.out) (at_:=0) (e:=0) (MSub.pick pK (MSub.pick pK (MSub.pick pK (MSub.nil _)))) w hm)|(apply aw (f:=300);exact rfl;exact rfl;exact FnIn.msub (ihS x (k1+1) p1.skip B1 cb1 _ _ w0 hlt1 (Cx.skip h2) (by simp only [PS.skip];omega) hr3) (MSub.pick pK (MSub.pick pK (MSub.pick pK (MSub.refl _))));rintro _ _ ⟨rfl,k2,B2,cb2,j1,j2,j3,j4,rfl⟩;replace j4:p2.out.length+(k1+1)≤p1.out.length+k2:=j4)|(apply aM;(iterate 3 exact rfl);exact pK;exact pK;exact rfl;(simp [bW,Value.oneCell']);omega;(simp only [maxLen];omega);intro g8 c8)|refine sT ?_|refine sS ?_|refine sN ?_|refine sM fun _=> ?_|(refine sC ?_ ?_<;>intro hb<;>try omega)|fail)
        all_goals first
          |(exfalso;omega)
          |(exfalso;simp_all [Ce];done)
          | (refine jd (k' := k2) (p' := p2.put (dr 6 5)) (B' := some g8) (cb' := c8) eIO rfl j1 j2 (by omega) (by simp only [PS.put, MT, MX]; omega) ?_
             simp only [PS.put,Cx.B,rB,MT,MX,Nk,Nc,NB,M4,MU,MW]
             exact mS)
    · rw [if_neg hk3] at hr2
      cases hr2
      repeat' (first|(apply aa (f:=258);exact rfl;exact rfl;exact hN)|(apply aw (f:=323);exact rfl;exact rfl;exact FnIn.msub (ihP x k p B cb _ _ w0 hk hp hout hr1) (MSub.pick pK (MSub.pick pK (MSub.pick pK (MSub.refl _))));rintro _ _ ⟨rfl,k1,B1,cb1,h1,h2,h3,h4,rfl⟩;have hd1:hdT x.fin (x.toks.drop k1)=u:=h2 ▸ hu)|(apply aa (f:=301);exact rfl;exact rfl;exact fun w hm=>Cx.op hd1 6 (B:=B1) (cb:=cb1) (out:=p1.out) (at_:=0) (e:=0) (MSub.pick pK (MSub.pick pK (MSub.pick pK (MSub.nil _)))) w hm)|refine sT ?_|refine sS ?_|refine sN ?_|refine sM fun _=> ?_|(refine sC ?_ ?_<;>intro hb<;>try omega)|fail)
      all_goals first
        |(exfalso;omega)
        |(exfalso;simp_all [Ce];done)
        | (refine jd (k' := k1) (p' := p1) (B' := B1) (cb' := cb1) eIO rfl h1 h2 h3 h4 ?_
           simp only [Cx.B,rB,MU,MW]
           exact mS)
set_option maxHeartbeats 2000000 in
theorem yN (f:Nat) (ihP:mE f .prim 342 []):mE (f+1) .pct 323 []:=by
  intro x k p B cb r R w0 hk hp hout hrun
  refine dP Tryz.func323 rfl Tryz.ntmps323 rfl ?_
  have hxt:=x.ht
  dsimp only at hrun
  rw [bu] at hrun
  obtain ⟨r1,hr1,⟨e,rfl,rfl⟩|⟨n1,p1,rfl,hr2⟩⟩:=bq hrun
  · repeat' (first|(apply aw (f:=342);exact rfl;exact rfl;exact FnIn.msub (ihP x k p B cb _ _ w0 hk hp hout hr1) (MSub.pick pK (MSub.pick pK (MSub.pick pK (MSub.refl _))));rintro _ _ ⟨rfl,k1,B1,cb1,o1,h1,h2,h3,h4,rfl⟩)|refine sT ?_|refine sS ?_|refine sN ?_|refine sM fun _=> ?_|(refine sC ?_ ?_<;>intro hb<;>try omega)|fail)
    refine ay [0] rfl (fun _:Unit=> []) (fun _=>x.B k1 B1 cb1 o1 e.1 e.2++R) (fun _=>True) (fun _=>0) () trivial sB (MSub.refl _) ?_
    rintro ⟨⟩ _
    repeat' (first|refine sT ?_|refine sS ?_|refine sN ?_|refine sM fun _=> ?_|(refine sC ?_ ?_<;>intro hb<;>try omega)|fail)
    all_goals first
      |(exfalso;omega)
      |exact absurd (by assumption) h1
      |exact eB eIO rfl h1 h2 h3 h4 (MSub.refl _)
  · repeat' (first|(apply aw (f:=342);exact rfl;exact rfl;exact FnIn.msub (ihP x k p B cb _ _ w0 hk hp hout hr1) (MSub.pick pK (MSub.pick pK (MSub.pick pK (MSub.refl _))));rintro _ _ ⟨rfl,k1,B1,cb1,h1,h2,h3,h4,rfl⟩)|refine sT ?_|refine sS ?_|refine sN ?_|refine sM fun _=> ?_|(refine sC ?_ ?_<;>intro hb<;>try omega)|fail)
    refine ay [0] rfl (fun _:Nat × PS × Nat × Option Nat × Nat=> []) (fun y=>x.B y.2.2.1 y.2.2.2.1 y.2.2.2.2 y.2.1.out 0 0++R) (fun y=>y.2.2.1≤x.toks.length∧y.2.1.l=x.toks.drop y.2.2.1∧k≤y.2.2.1∧y.2.1.out.length+k≤p.out.length+y.2.2.1∧bu x.fin y.1 .pctl y.2.1=some r) (fun y=>y.1) (f,p1,k1,B1,cb1) ⟨h1,h2,h3,h4,hr2⟩ sB (MSub.refl _) ?_
    clear hr1 hr2 h1 h2 h3 h4
    rintro ⟨f',q,k2,B2,cb2⟩ ⟨h1,h2,h3,h4,hr2⟩
    dsimp only at h1 h2 h3 h4 hr2 ⊢
    cases f' with
    |zero=>cases hr2
    |succ f' =>
      rw [bu] at hr2
      try dsimp only at hr2
      obtain ⟨u,hu⟩: ∃ u,hdT x.fin q.l=u:=⟨_,rfl⟩
      rw [hu] at hr2
      have hd1:hdT x.fin (x.toks.drop k2)=u:=h2 ▸ hu
      by_cases hk3:u.kind=8∧u.num=13
      · rw [if_pos hk3] at hr2
        have hlt1:=Cx.lt hd1 (by omega)
        repeat' (first|(apply aa (f:=301);exact rfl;exact rfl;exact fun w hm=>Cx.op hd1 7 (B:=B2) (cb:=cb2) (out:=q.out) (at_:=0) (e:=0) (MSub.pick pK (MSub.pick pK (MSub.pick pK (MSub.nil _)))) w hm)|(apply aM;(iterate 3 exact rfl);exact pK;exact pK;exact rfl;(simp [bW,Value.oneCell']);omega;(simp only [maxLen];omega);intro g8 c8)|refine sT ?_|refine sS ?_|refine sN ?_|refine sM fun _=> ?_|(refine sC ?_ ?_<;>intro hb<;>try omega)|fail)
        all_goals first
          |(exfalso;omega)
          |(exfalso;simp_all [Io];done)
          | (refine ⟨(f', q.skip.put (dr 5 0), k2 + 1, some g8, c8), ⟨hlt1, Cx.skip h2, by dsimp only; omega, by simp only [PS.put, PS.skip, List.length_append, List.length_singleton]; omega, hr2⟩, Nat.lt_succ_self _, sB, sB, ?_⟩
             simp only [PS.put,PS.skip,Cx.B,rB,MT,MX,Nk,Nc,NB,M4,MU,MW]
             exact mS)
      · rw [if_neg hk3] at hr2
        cases hr2
        repeat' (first|(apply aa (f:=301);exact rfl;exact rfl;exact fun w hm=>Cx.op hd1 7 (B:=B2) (cb:=cb2) (out:=q.out) (at_:=0) (e:=0) (MSub.pick pK (MSub.pick pK (MSub.pick pK (MSub.nil _)))) w hm)|refine sT ?_|refine sS ?_|refine sN ?_|refine sM fun _=> ?_|(refine sC ?_ ?_<;>intro hb<;>try omega)|fail)
        all_goals first
          |(exfalso;omega)
          |(exfalso;simp_all [Io];done)
          |exact jd eIO rfl h1 h2 h3 h4 (MSub.refl _)
structure Lv where
 f:Nat
 k:Nat
 B:Option Nat
 cb:Nat
 out:List Nd
 a:Int
 e:Int
def Lv.H (y:Lv) (x:Cx) (R:List Blk):List Blk:=x.B y.k y.B y.cb y.out y.a y.e++R
def Lv.ok (y:Lv) (x:Cx) (j:Nat→PS→Option Out) (k m:Nat) (r:Out) (f:Nat):Prop:=y.f≤f∧k≤y.k∧y.out.length+k≤m+y.k∧
 ((y.a=0∧y.e=0∧y.k≤x.toks.length∧j y.f ⟨x.toks.drop y.k,y.out⟩=some r)∨(y.e≠0∧y.k≤x.toks.length+1∧r= .error (y.a,y.e)))
def Lv.m (y:Lv):Nat:=if y.e=0 then y.f+1 else 0
theorem y6 {x:Cx} {R H:List Blk} {v:Value} {f k m k0 m0:Nat} {r r1:Out} {j:Nat→PS→Option Out} (hr2:(∃ e,r1= .error e∧r= .error e)∨(∃ n p',r1= .ok (n,p')∧j f p' =some r)) (hR:RR x k0 m0 R r1 v H) (hk:k≤k0) (hm:m0+k≤m+k0): ∃ f2 k2 B2 cb2 o2 a2 e2,(Lv.mk f2 k2 B2 cb2 o2 a2 e2).ok x j k m r f∧H=x.B k2 B2 cb2 o2 a2 e2++R:=by
 obtain ⟨_,hR⟩:=hR
 rcases hr2 with ⟨e,rfl,rfl⟩|⟨n1,p1,rfl,hr2⟩
 ·
  obtain ⟨k1,B1,cb1,o1,h1,h2,h3,h4,rfl⟩:=hR
  exact ⟨f,k1,B1,cb1,o1,e.1,e.2,⟨Nat.le_refl _,by dsimp only;omega,by dsimp only;omega,.inr ⟨h1,h2,rfl⟩⟩,rfl⟩
 ·
  obtain ⟨k1,B1,cb1,h1,h2,h3,h4,rfl⟩:=hR
  refine ⟨f,k1,B1,cb1,p1.out,0,0,⟨Nat.le_refl _,by dsimp only;omega,by dsimp only;omega,.inl ⟨rfl,rfl,h1,?_⟩⟩,rfl⟩
  dsimp only
  rw [← h2];exact hr2
set_option maxHeartbeats 4000000 in
theorem Ee (f:Nat) (q:Int) (h1q:1≤q) (h5q:q≤5) (ihL:q≤4→ ∀ f' ≤f,mE f' (.level (q+1)) 256 [.int .i64 (q+1)]) (ihS:mE f .sign 300 []):mE (f+1) (.level q) 256 [.int .i64 q]:=by
 intro x k p B cb r R w0 hk hp hout hrun
 refine dP Tryz.func256 rfl Tryz.ntmps256 rfl ?_
 have hxt:=x.ht
 dsimp only at hrun
 rw [bu] at hrun
 by_cases hq5:q=5
 ·
  rw [if_pos hq5] at hrun
  subst hq5
  repeat' (first|(apply aw (f:=300);exact rfl;exact rfl;exact FnIn.msub (ihS x k p B cb _ _ w0 hk hp hout hrun) (MSub.pick pK (MSub.pick pK (MSub.pick pK (MSub.refl _))));rintro _ _ ⟨rfl,hR⟩)|refine sT ?_|refine sS ?_|refine sN ?_|refine sM fun _=> ?_|(refine sC ?_ ?_<;>intro hb<;>try omega)|fail)
  all_goals exact ij eIO rfl (MSub.refl _) ⟨rfl,hR⟩
 rw [if_neg hq5] at hrun
 have ihL:=ihL (by omega)
 obtain ⟨r1,hr1,hr2⟩:=bq hrun
 repeat' (first|(apply aj (d:=11);exact rfl;apply ep;exact rfl;exact rfl;exact ⟨by omega,by omega⟩)|(apply aw (f:=256);exact rfl;exact rfl;exact FnIn.msub (ihL f (MZ _) x k p B cb r1 _ w0 hk hp hout hr1) (MSub.pick pK (MSub.pick pK (MSub.pick pK (MSub.refl _))));rintro v1 H1 hR)|refine sT ?_|refine sS ?_|refine sN ?_|refine sM fun _=> ?_|(refine sC ?_ ?_<;>intro hb<;>try omega)|fail)
 all_goals try (exfalso;omega)
 obtain ⟨f0,k0,B0,cb0,o0,a0,e0,hy0,rfl⟩:=y6 (j:=fun f p=>bu x.fin f (.loop q) p) hr2 hR (MZ k) (MZ _)
 clear hr1 hr2 hR hrun
 refine ay [0,1] rfl (fun _:Lv=> []) (fun y=>y.H x R) (fun y=>y.ok x (fun f p=>bu x.fin f (.loop q) p) k p.out.length r f) Lv.m ⟨f0,k0,B0,cb0,o0,a0,e0⟩ hy0 sB (MSub.refl _) ?_
 rintro ⟨f',k1,B1,cb1,o1,a,e⟩ ⟨hf',h3,h4,hor⟩
 dsimp only at hf' h3 h4 hor
 simp only [Lv.H]
 rcases hor with ⟨rfl,rfl,h1,hr2⟩|⟨h1,h2,rfl⟩
 ·
  cases f' with
  |zero=>cases hr2
  |succ f' =>
   rw [bu] at hr2
   try dsimp only at hr2
   obtain ⟨u,hd1⟩: ∃ u,hdT x.fin (x.toks.drop k1)=u:=⟨_,rfl⟩
   rw [hd1] at hr2
   by_cases hk3:u.kind=8∧fJ u.num=q
   ·
    rw [if_pos hk3] at hr2
    have hlt1:=Cx.lt hd1 (by omega)
    obtain ⟨r2,hr3,hr4⟩:=bq hr2
    repeat' (first|(apply aa (f:=301);exact rfl;exact rfl;exact fun w hm=>Cx.op hd1 q (B:=B1) (cb:=cb1) (out:=o1) (at_:=0) (e:=0) (MSub.pick pK (MSub.pick pK (MSub.pick pK (MSub.nil _)))) w hm)|(apply aa (f:=258);exact rfl;exact rfl;exact fun w hm=>Cx.next hd1 (B:=B1) (cb:=cb1) (out:=o1) (at_:=0) (e:=0) (MSub.pick pK (MSub.pick pK (MSub.pick pK (MSub.nil _)))) w hm)|(apply aj;exact rfl;apply cH;exact rfl;exact rfl)|(apply aj (d:=35);exact rfl;apply ep;exact rfl;exact rfl;exact ⟨by omega,by omega⟩)|(apply aw (f:=256);exact rfl;exact rfl;exact FnIn.msub (ihL f' (by omega) x (k1+1) ⟨x.toks.drop (k1+1),o1⟩ B1 cb1 r2 _ w0 hlt1 rfl (by dsimp only;omega) (by rw [← List.tail_drop];exact hr3)) (MSub.pick pK (MSub.pick pK (MSub.pick pK (MSub.refl _))));rintro v1 H1 hR;obtain ⟨f2,k2,B2,cb2,o2,a2,e2,⟨hy1,hy2,hy3,hy4⟩,rfl⟩:=y6 (k:=k+1) (m:=p.out.length) (j:=fun f p=>bu x.fin f (.loop q) (p.put (dr 6 u.num))) hr4 hR (by omega) (by dsimp only;omega);dsimp only at hy1 hy2 hy3 hy4;have hkb:k2≤257:=by { rcases hy4 with ⟨_,_,h,_⟩|⟨_,h,_⟩<;>omega })|(apply aM;(iterate 3 exact rfl);exact pK;exact pK;exact rfl;(simp [bW,Value.oneCell']);omega;(simp only [maxLen];omega);intro g8 c8)|refine sT ?_|refine sS ?_|refine sN ?_|refine sM fun _=> ?_|(refine sC ?_ ?_<;>intro hb<;>try omega)|fail)
    all_goals first
     |(exfalso;omega)
     |(exfalso;simp_all;done)
     |skip
    refine ⟨⟨f2,k2,some g8,c8,o2++ [dr 6 u.num],a2,e2⟩,⟨by dsimp only;omega,by dsimp only;omega,by simp only [List.length_append,List.length_singleton];omega,hy4⟩,(by simp only [Lv.m,if_true];split<;>omega),sB,sB,?_⟩
    simp only [Lv.H,Cx.B,rB,MT,MX,Nk,Nc,NB,M4,MU,MW]
    exact mS
   ·
    rw [if_neg hk3] at hr2
    cases hr2
    repeat' (first|(apply aa (f:=301);exact rfl;exact rfl;exact fun w hm=>Cx.op hd1 q (B:=B1) (cb:=cb1) (out:=o1) (at_:=0) (e:=0) (MSub.pick pK (MSub.pick pK (MSub.pick pK (MSub.nil _)))) w hm)|refine sT ?_|refine sS ?_|refine sN ?_|refine sM fun _=> ?_|(refine sC ?_ ?_<;>intro hb<;>try omega)|fail)
    all_goals first
     |(exfalso;omega)
     |(exfalso;simp_all;done)
     |exact jd (p' :=⟨x.toks.drop k1,o1⟩) eIO rfl h1 rfl h3 h4 (MSub.refl _)
 ·
  repeat' (first|refine sT ?_|refine sS ?_|refine sN ?_|refine sM fun _=> ?_|(refine sC ?_ ?_<;>intro hb<;>try omega)|fail)
  all_goals first
   |(exfalso;omega)
   |exact absurd (by assumption) h1
   |exact eB (x' :=(a,e)) eIO rfl h1 h2 h3 h4 (MSub.refl _)
set_option maxHeartbeats 2000000 in
theorem nX (f:Nat) (fn:Int) (n:Nat) (h0:1≤fn) (h5:fn≤50) (ih:mE f (.level 1) 256 [.int .i64 1]):Kv (xd f fn n) 371 [.int .u8 fn,.int .i64 n]:=by
  intro x k p B cb r R w0 hk hp hout hrun
  refine dP Tryz.func371 rfl Tryz.ntmps371 rfl ?_
  have hxt:=x.ht
  unfold xd at hrun
  obtain ⟨t,ht⟩: ∃ t,hdT x.fin p.l=t:=⟨_,rfl⟩
  rw [ht] at hrun
  have hd:hdT x.fin (x.toks.drop k)=t:=hp ▸ ht
  have hN:=fun w hm=>Cx.next hd (B:=B) (cb:=cb) (out:=p.out) (at_:=0) (e:=0) (w0:=w0) (H:=x.B k B cb p.out 0 0++R) ⟨R,.refl _⟩ w hm
  by_cases hk2:t.kind≠6
  · rw [if_pos hk2] at hrun
    obtain ⟨r1,hr1,hr2⟩:=bq hrun
    have hrr: ∀ v H,RR x k p.out.length R r1 v H→RR x k p.out.length R r v H:=by
      rintro v H ⟨hv,h⟩
      rcases hr2 with ⟨e,rfl,rfl⟩|⟨n1,p1,rfl,hr2⟩
      · exact ⟨hv,h⟩
      · cases hr2;exact ⟨hv,h⟩
    repeat' (first|(apply aa (f:=258);exact rfl;exact rfl;exact hN)|(apply aw (f:=256);exact rfl;exact rfl;exact FnIn.msub (ih x k p B cb r1 _ w0 hk hp hout hr1) (MSub.pick pK (MSub.pick pK (MSub.pick pK (MSub.refl _))));rintro v1 H1 hR)|refine sT ?_|refine sS ?_|refine sN ?_|refine sM fun _=> ?_|(refine sC ?_ ?_<;>intro hb<;>try omega)|fail)
    all_goals try (exfalso;omega)
    obtain ⟨rfl,hR⟩:=hR
    rcases hr2 with ⟨e,rfl,rfl⟩|⟨n1,p1,rfl,hr2⟩
    · obtain ⟨k1,B1,cb1,o1,j1,j2,j3,j4,rfl⟩:=hR
      refine eB (k' :=k1) (out' :=o1) (B' :=B1) (cb' :=cb1) eIO rfl j1 j2 j3 j4 ?_
      simp only [Cx.B,rB,M5,MU,MW]
      exact mS
    · cases hr2
      obtain ⟨k1,B1,cb1,j1,j2,j3,j4,rfl⟩:=hR
      refine jd (k' :=k1) (p' :=p1) (B' :=B1) (cb' :=cb1) eIO rfl j1 j2 j3 j4 ?_
      simp only [Cx.B,rB,M5,MU,MW]
      exact mS
  rw [if_neg hk2] at hrun
  have hlt:=Cx.lt hd (by omega)
  have hW:=fun w=>rJ fn (n:Int) w
  have hwk:=qQ (fn:=fn) (by simp [cM,h0,h5]) (n:Int)
  have hwe:((i9 fn n).1=false∨(i9 fn n).2≠0)↔eC fn n=false:=by
    rw [hwk]
    dsimp only
    constructor
    · rintro (h|h)
      · exact h
      · have h2:(n:Int)<0∨(bB fn).2≤(n:Int):=Classical.byContradiction fun hn=>h (if_neg hn)
        unfold eC
        rw [if_pos h2]
    · exact .inl
  clear hwk
  by_cases hwk:(i9 fn n).1=false∨(i9 fn n).2≠0
  · rw [if_pos hwk] at hrun
    cases hrun
    rw [hwe.1 hwk] at hW
    repeat' (first|(apply aa (f:=258);exact rfl;exact rfl;exact hN)|(apply aa (f:=360);exact rfl;exact rfl;(intro w' _;exact hW w'))|(apply aw (f:=257);exact rfl;exact rfl;exact FnIn.msub (eK x.g x.sa x.A _ x.cap k B _ cb 0 0 _ _ _ _) (MSub.pick pK (.refl _));rintro _ _ ⟨rfl,rfl⟩)|refine sT ?_|refine sS ?_|refine sN ?_|refine sM fun _=> ?_|(refine sC ?_ ?_<;>intro hb<;>try omega)|fail)
    all_goals first
      |(exfalso;omega)
      | (refine eB (x' := (t.at_, 4)) (k' := k) (out' := p.out) (B' := B) (cb' := cb) eIO rfl (by simp) (by omega) (MZ _) (MZ _) ?_
         simp only [Cx.B,rB,M5,MU,MW]
         exact mS)
  · rw [if_neg hwk] at hrun
    cases hrun
    have hwt:eC fn n=true:=by
      cases h:eC fn n with
      |true=>rfl
      |false=>exact absurd (hwe.2 h) hwk
    rw [hwt] at hW
    repeat' (first|(apply aa (f:=258);exact rfl;exact rfl;exact hN)|(apply aa (f:=360);exact rfl;exact rfl;(intro w' _;exact hW w'))|refine sT ?_|refine sS ?_|refine sN ?_|refine sM fun _=> ?_|(refine sC ?_ ?_<;>intro hb<;>try omega)|fail)
    all_goals try (exfalso;omega)
    refine iI 13 rfl (by kernel_rfl) ?_
    ((with_reducible apply aN (i:=0));exact rfl;exact rfl;decide+kernel;decide+kernel;decide+kernel;exact nP;(intro _ _;exact vP))
    ((with_reducible apply aN (i:=1));exact rfl;exact rfl;decide+kernel;decide+kernel;decide+kernel;exact nP;(intro _ _;exact vP))
    ((with_reducible apply aN (i:=2));exact rfl;exact rfl;decide+kernel;decide+kernel;decide+kernel;exact nP;(intro _ _;exact vP))
    ((with_reducible apply aN (i:=3));exact rfl;exact rfl;decide+kernel;decide+kernel;decide+kernel;exact nP;(intro _ _;exact vP))
    ((with_reducible apply aN (i:=5));exact rfl;exact rfl;decide+kernel;decide+kernel;decide+kernel;exact nP;(intro _ _;exact vP))
    repeat' (first|(apply cE (i:=4) (j:=6);exact rfl;exact rfl;decide+kernel)|(apply cE (i:=4) (j:=7);exact rfl;exact rfl;decide+kernel)|(apply cE (i:=4) (j:=8);exact rfl;exact rfl;decide+kernel)|(apply aF (i:=4);exact rfl;decide+kernel)|(apply aF (i:=5);exact rfl;decide+kernel)|(apply aF (i:=6);exact rfl;decide+kernel)|(apply aF (i:=7);exact rfl;decide+kernel)|(apply aF (i:=8);exact rfl;decide+kernel)|(apply aF (i:=9);exact rfl;decide+kernel)|(apply aF (i:=10);exact rfl;decide+kernel)|(apply aF (i:=11);exact rfl;decide+kernel)|(apply aF (i:=12);exact rfl;decide+kernel)|(apply iH;decide+kernel)|(apply aM;(iterate 3 exact rfl);exact pK;exact pK;exact rfl;(simp [bW,Value.oneCell']);omega;(simp only [maxLen];omega);intro g8 c8)|refine sT ?_|refine sS ?_|refine sN ?_|refine sM fun _=> ?_|(refine sC ?_ ?_<;>intro hb<;>try omega)|fail)
    all_goals first
      |(exfalso;omega)
      | (refine jd (k' := k + 1) (p' := p.skip.put ⟨3, bD, t.rect, 0, 0, 0⟩) (B' := some g8) (cb' := c8) eIO rfl hlt (Cx.skip hp) (PH k) (by simp only [PS.put, PS.skip, MT, MX]; omega) ?_
         simp only [PS.put,PS.skip,Cx.B,rB,MT,MX,Nk,Nc,NB,M4,M5,MU,MW]
         exact mS)
end Go.SL
