/-
  Lemmas and walks, put together: Lr R1 R4 R2 Q2 R6 Q4 Q3.
-/
import Derived.Test.YtpoafcnhplbkmaaGreatDoorKs14
set_option linter.unusedSimpArgs false
set_option linter.unusedVariables false
set_option maxRecDepth 20000
set_option maxHeartbeats 16000000
namespace Go.SL
open Go
def Chain:List Tk→Prop
 | []=>True
 |t::r=>(1≤t.kind∧t.kind≤11)∧(t.kind=7→(r.headD dA).kind=9)∧Chain r
theorem F5 {l:List Int} {t:Tk} {n:Nat} (h:lI l=some (t,n)):t.kind=4:=by
 unfold lI at h;obtain ⟨x,_,hx⟩:=Sr.1 h;cases hx;rfl
theorem E5 {l:List Int} {t:Tk} {n:Nat} (h:i9 l=some (t,n)):8≤t.kind∧t.kind≤11:=by
 unfold i9 at h;split at h
 ·cases h;simp
 ·split at h
  ·cases h;simp
  ·split at h
   ·cases h;simp
   ·split at h
    ·cases h;simp
    ·cases h
theorem E4 {l:List Int} {t:Tk} {n:Nat} (h:jQ l=some (t,n)):(1≤t.kind∧t.kind≤11)∧t.kind≠7:=by
 unfold jQ at h;split at h
 ·rename_i x hx;cases h;have:=F5 hx;omega
 ·have:=E5 h;omega
theorem Ez {l:List Int} {t:Tk} {n:Nat} (h:iI l=some (t,n)):(1≤t.kind∧t.kind≤11)∧(t.kind=7→(l.drop n).headD 0=40):=by
 unfold iI at h;split at h
 ·cases h
 ·split at h
  ·rename_i h1;cases h;exact ⟨by simp,fun _=>h1⟩
  ·split at h
   ·cases h;simp
   ·split at h
    ·cases h;simp
    ·split at h
     ·cases h
     ·split at h
      ·cases h;simp only;split<;>simp
      ·cases h;simp
theorem BZ {l:List Int} {t:Tk} {n:Nat} (h:bC l=some (t,n)):(1≤t.kind∧t.kind≤11)∧(t.kind=7→(l.drop n).headD 0=40):=by
 unfold bC at h;split at h
 ·obtain ⟨x,_,hx⟩:=Sr.1 h;cases hx;simp
 ·split at h
  ·obtain ⟨x,_,hx⟩:=Sr.1 h;cases hx;simp
  ·split at h
   ·exact Ez h
   ·have:=E4 h;exact ⟨this.1,fun e=>absurd e this.2⟩
theorem nW (l:List Int):Fits l (bC l):=by
 intro t n h;by_cases hd:aH (l.headD 0)=true
 ·unfold bC at h;rw [if_pos hd,← wC] at h;exact tL l t n h
 ·unfold bC at h;rw [if_neg hd] at h;split at h
  ·rename_i hq
   cases l with
   |nil=>cases hq
   |cons c r=>
    obtain ⟨⟨x,m⟩,hx,he⟩:=Sr.1 h;cases he;rw [List.tail_cons,Ch r.length r (Rg _)] at hx;obtain ⟨k,hk,hk2⟩:=Option.bind_eq_some_iff.1 hx;obtain ⟨y,_,hy⟩:=Sr.1 hk2;cases hy;have:=o8 r.length r k (Rg _) hk;simp only [Rk];omega
  ·split at h
   ·exact yn l t n h
   ·unfold jQ at h;split at h
    ·rename_i x hx;cases h;exact zg l t n hx
    ·exact yM l t n h
theorem BX {l:List Int} (h:l.headD 0=40): ∃ n,bC l=some (⟨9,0,ax,aS,0⟩,n):=by
 unfold bC;rw [h,if_neg (by decide),if_neg (by decide),if_neg (by decide),jQ,nH (by omega)];simp only;unfold i9;rw [wy (by rw [h];decide) fK (by decide)];simp only [h,if_true];exact ⟨1,rfl⟩
theorem zV {l:List Int} {f i:Nat} {r:List Tk} (h:bk bC l (f+1) i= .ok r) (h1:(l.drop i).headD 0=40):(r.headD dA).kind=9:=by
 simp only [bk] at h
 cases hd:l.drop i with
 |nil=>rw [hd] at h1;cases h1
 |cons c q=>
  rw [hd] at h1 h;simp only [SU] at h1;subst h1;obtain ⟨n,hn⟩:=BX (l:=40::q) rfl;simp only [hn] at h;rw [if_neg (by decide)] at h
  cases hr:bk bC l f (i+n) with
  |error e=>rw [hr] at h;cases h
  |ok r' =>rw [hr] at h;cases h;rfl
theorem xU {l:List Int}: ∀ (f i:Nat) (r:List Tk),l.length - i≤f→bk bC l f i= .ok r→Chain r:=by
 intro f
 induction f with
 |zero=>intro i r _ h;cases h;trivial
 |succ f ih=>
  intro i r hf h;simp only [bk] at h
  cases hd:l.drop i with
  |nil=>rw [hd] at h;cases h;trivial
  |cons c q=>
   rw [hd] at h;have hlen:(l.drop i).length=q.length+1:=by rw [hd];rfl
   rw [RE] at hlen;simp only at h;split at h
   ·exact ih (i+1) r (by omega) h
   ·cases ht:bC (c::q) with
    |none=>rw [ht] at h;cases h
    |some x=>
     obtain ⟨t,n⟩:=x;rw [ht] at h;simp only at h;have hfit:=nW _ t n ht
     cases hr:bk bC l f (i+n) with
     |error e=>rw [hr] at h;cases h
     |ok r' =>
      rw [hr] at h;cases h;have hk:=BZ ht;refine ⟨hk.1,fun h7=> ?_,ih (i+n) r' (by omega) hr⟩;have h40:=hk.2 h7;rw [← hd,SV] at h40
      cases f with
      |zero=>
       have:l.drop (i+n)= []:=by rw [UI];omega
       rw [this] at h40;cases h40
      |succ f=>exact zV hr h40
theorem xT (l:List Int):Chain (bq bC l).1:=by
 unfold bq;split
 ·trivial
 ·split
  ·trivial
  ·split
   ·rename_i r hr;exact xU _ _ _ (by omega) hr
   ·trivial
theorem Chain.drop: ∀ {l:List Tk} (k:Nat),Chain l→Chain (l.drop k)
 |l,0,h=>h
 | [],k+1,h=>h
 |_::_,k+1,h=>Chain.drop k h.2.2
theorem Chain.name {l:List Tk} {fin:Int} (h:Chain l) (h7:(hdT fin l).kind=7):(hdT fin l.tail).kind=9:=by
 cases l with
 |nil=>cases h7
 |cons t r=>
  have h9:=h.2.1 h7
  cases r with
  |nil=>cases h9
  |cons u r=>exact h9
theorem Chain.kind {l:List Tk} {fin:Int} (h:Chain l):(hdT fin l).kind=0↔l= []:=by
 cases l with
 |nil=>exact ⟨fun _=>rfl,fun _=>rfl⟩
 |cons t r=>
  have:=h.1;constructor
  ·intro e;simp only [hdT,SU] at e;omega
  ·intro e;cases e
end Go.SL
namespace Go.SL
open Go Go.Proofs
attribute [local irreducible] W WL WQ WG WA WX WLI WR WT WC VOp RW thn blk bH scp aV bz bP FnAt FnIn FnP ceP
section
variable {w0:World} {s:az} {H:List Blk} {ty t' :TypeId} {x y:Operand}
theorem Ia {a b:Vl} {c:Bool} (h:decide (a=b)=c) (hx:ev s x=some (.agg (d9 a).toArray)) (hy:ev s y=some (.agg (d9 b).toArray)):VOp Tryz.prog w0 s H (.binOp .eql 90 x y t') ty (.bool c):=by
 have h1:=EM (w0:=w0) (H:=H) (ty:=ty) (t' :=t') hx hy;rwa [Hy,h] at h1
theorem Ib {a b:Rf} {c:Bool} (h:decide (a=b)=c) (hx:ev s x=some (.agg (aB a).toArray)) (hy:ev s y=some (.agg (aB b).toArray)):VOp Tryz.prog w0 s H (.binOp .eql 28 x y t') ty (.bool c):=by
 have h1:=Ks (w0:=w0) (H:=H) (ty:=ty) (t' :=t') hx hy;rwa [o5,h] at h1
end
theorem v6 (a b:Rf) (w:World):aC Tryz.prog 98 [.agg (aB a).toArray,.agg (aB b).toArray] w (.bool (bo a b)):=by
 refine ay Tryz.func98 rfl Tryz.ntmps98 rfl ?_;repeat' (first|refine sT ?_|refine sM fun _=>?_|(refine sC ?_ ?_<;>intro hb<;>try omega)|fail)
 all_goals ((refine rT1 ?_);((try simp only [← Int.not_lt] at*);simp_all [bo, -Int.not_lt, -Int.not_le,← Int.not_lt]))
theorem gF (a:Rf) (w:World):aC Tryz.prog 100 [.agg (aB a).toArray] w (.agg (jp (kN a.col a.row)).toArray):=by
 refine ay Tryz.func100 rfl Tryz.ntmps100 rfl ?_;repeat' (first|refine sT ?_|refine sM fun _=>?_|(refine sC ?_ ?_<;>intro hb<;>try omega)|fail)
 all_goals ((refine eRC ?_);rfl)
theorem jz {a:ByteArray} {i:Nat} (h:a.size≤i):bat a i=0:=by
 rw [bat,RJ,Ry (by rw [av];exact h)];rfl
theorem oh (a:ByteArray) (ha:a.size≤1000000) (i:Nat) (w:World):aC Tryz.prog 282 [.string a,.int .i64 (i:Int)] w (.bool (aH (bat a i))):=by
 refine ay Tryz.func282 rfl Tryz.ntmps282 rfl ?_;have h0:=fun h:a.size≤i=>jz h;generalize hc:bat a i=c at h0;repeat' (first|(apply ai;exact rfl;apply aX (j:=i);exact rfl;exact rfl;omega)|(rw [hc])|refine zZE ?_|refine sM fun _=>?_|(refine sC ?_ ?_<;>intro hb<;>try omega)|fail)
 all_goals ((refine rT1 ?_);(try rw [h0 (by omega)]);simp_all [aH];try omega)
theorem nj (a:ByteArray) (ha:a.size≤1000000) (i:Nat) (w:World):aC Tryz.prog 285 [.string a,.int .i64 (i:Int)] w (.bool (bT (bat a i))):=by
 refine ay Tryz.func285 rfl Tryz.ntmps285 rfl ?_;have h0:=fun h:a.size≤i=>jz h;generalize hc:bat a i=c at h0;repeat' (first|(apply ai;exact rfl;apply aX (j:=i);exact rfl;exact rfl;omega)|(rw [hc])|refine zZE ?_|refine sM fun _=>?_|(refine sC ?_ ?_<;>intro hb<;>try omega)|fail)
 all_goals ((refine rT1 ?_);(try rw [h0 (by omega)]);simp_all [bT];try omega)
def Dq (c:Int):Int:=if bT c then upC c - 64 else 0
theorem qb (c:Int) (h0:0≤c) (h1:c<256) (w:World):aC Tryz.prog 326 [.int .u8 c] w (.int .i64 (Dq c)):=by
 refine ay Tryz.func326 rfl Tryz.ntmps326 rfl ?_;repeat' (first|(apply ai (d:=10);exact rfl;apply eB (c:=c - 65);exact rfl;exact rfl;exact fI (by omega) (by omega))|(apply ai (d:=20);exact rfl;apply eB (c:=c - 97);exact rfl;exact rfl;exact fI (by omega) (by omega))|(apply ai (d:=11);exact rfl;apply cR (c:=c - 65);exact rfl;exact I64.wrap ⟨by omega,by omega⟩)|(apply ai (d:=21);exact rfl;apply cR (c:=c - 97);exact rfl;exact I64.wrap ⟨by omega,by omega⟩)|(apply ai (d:=12);exact rfl;apply lh;exact rfl;exact rfl;exact ⟨by omega,by omega⟩)|(apply ai (d:=22);exact rfl;apply lh;exact rfl;exact rfl;exact ⟨by omega,by omega⟩)|refine sT ?_|refine sM fun _=>?_|(refine sC ?_ ?_<;>intro hb<;>try omega)|fail)
 all_goals
  (refine rT1 ?_);unfold Dq upC
  first
   |(rw [if_pos ((iR c).2 (by omega)),if_pos (by omega)];congr 1;omega)
   |(rw [if_pos ((iR c).2 (by omega)),if_neg (by omega)];congr 1;omega)
   |(rw [if_neg (by rw [iR];omega)])
theorem lp (a:ByteArray) (ha:a.size≤1000000) (w:World):aC Tryz.prog 198 [.string a] w (.string (upB a)):=by
 refine ay Tryz.func198 rfl Tryz.ntmps198 rfl ?_;repeat' (first|(apply mM;exact rfl;exact rfl;intro gb cap)|refine sT ?_|refine sM fun _=>?_|(refine sC ?_ ?_<;>intro hb<;>try omega)|fail)
 refine aw [3] rfl (fun i:Nat=> [(4,.int .i64 (i:Int))]) (fun i=> [.byt gb 5 a.size cap ((((ap a).take i).map upC++(ap a).drop i).map (Value.int .u8))]) (fun i=>i≤a.size) (fun i=>a.size - i) 0 (by omega) sB ?_ ?_
 ·rw [o9];simp only [SK,SE,QW,SP];exact mS
 intro i hi;have hl:=av a;by_cases hlt:i<a.size
 ·have hil:i<(ap a).length:=by omega
  have hok:=nD a (ap a)[i] (RL hil);have hget:((((ap a).take i).map upC++(ap a).drop i).map (Value.int .u8))[0+i*1]? =some (.int .u8 (ap a)[i]):=by
   rw [Rj,show 0+i*1=i by omega,RM (by simp;omega)];simp [Tm (Nat.le_of_lt hil),Sw]
  have hstep:97≤(ap a)[i]∧(ap a)[i]≤122→upC (ap a)[i]=(ap a)[i] - 32:=fun h=>by rw [upC,if_pos h]
  have hsame: ¬ (97≤(ap a)[i]∧(ap a)[i]≤122)→upC (ap a)[i]=(ap a)[i]:=fun h=>by rw [upC,if_neg h]
  have hupd:=vE upC (Value.int .u8) (ap a) i hil;have hkeep: ∀ v,(((ap a).take i).map upC++(ap a).drop i).map (Value.int .u8)=v→upC (ap a)[i]=(ap a)[i]→v=(((ap a).take (i+1)).map upC++(ap a).drop (i+1)).map (Value.int .u8):=fun v hv hs=>by
   rw [← hupd,hs,← hv];rw [show 0+i*1=i by omega] at hget;obtain ⟨h1,h2⟩:=Rm.1 hget;rw [← h2,U0]
  generalize (ap a)[i]=c at hget hok hstep hsame hupd hkeep;repeat' (first|(apply ai;exact rfl;apply ag;exact rfl;exact rfl;exact hlt)|(apply ai;exact rfl;apply kE;exact rfl;exact pK;exact hget)|(apply ai (d:=31);exact rfl;apply eB (c:=c - 32);exact rfl;exact rfl;exact fI (by omega) (by omega))|(apply mO;exact rfl;exact rfl;exact pK;exact rfl;(simp;omega))|refine zZK ?_|refine sM fun _=>?_|(refine sC ?_ ?_<;>intro hb<;>try omega)|(refine sCW ?_ ?_<;>intro hb<;>try omega)|fail)
  ·rw [show 0+i*1=i by omega,← hstep ⟨by assumption,by assumption⟩,hupd];exact ⟨i+1,hlt,by omega,sB,sB,mS⟩
  ·exact ⟨i+1,hlt,by omega,sB,sB,(by rw [← hkeep _ rfl (hsame (by omega))];exact mS)⟩
  ·exact ⟨i+1,hlt,by omega,sB,sB,(by rw [← hkeep _ rfl (hsame (by omega))];exact mS)⟩
 ·have e2:i=a.size:=by omega
  subst e2;rw [Sf (by omega),RK (by omega),Rc];repeat' (first|(apply ai (d:=34);exact rfl;apply rO;exact rfl;exact pK;(rw [RA];omega))|refine zZB ?_|refine sM fun _=>?_|(refine sC ?_ ?_<;>intro hb<;>try omega)|fail)
  (refine rT1 ?_)
  rfl
structure DecP (l:List Int) (neg:Bool) (fr n:Nat) (D:List Int) (r:Int):Prop where
 negE:neg=decide (l.head? =some 45)
 frE:fr=if neg then 1 else 0
 nE:n=aG aH (l.drop fr)
 pos:n≠0
 len:D.length=n+4
 at1: ∀ k,k<n→D[k]? =l[fr+k]?
 at2: ∀ k,n≤k→k<n+4→D[k]? =some (l.getD (fr+k+1) 48)
 rnd:r=l.getD (fr+n+5) 48
 end_: ∀ k,fr+n<k→k<l.length→aH (l.getD k 0)=true
 res:iB l=if cN<bE D 0+(if 53≤r then 1 else 0) then (0,3) else (if neg then -(bE D 0+(if 53≤r then 1 else 0)) else bE D 0+(if 53≤r then 1 else 0),0)
theorem FZ (l:List Int) (i k:Nat) (d:Int):(l.drop i).getD k d=l.getD (i+k) d:=by
 rw [RJ,RJ,Sw]
theorem DecP.dig {l:List Int} {neg:Bool} {fr n:Nat} {D:List Int} {r:Int} (h:DecP l neg fr n D r) {k:Nat} {c:Int} (hk:D[k]? =some c):48≤c∧c≤57:=by
 have hlt:k<n+4:=by
  have:=(Rm.1 hk).1;rw [h.len] at this;exact this
 rcases SW k n with h1|h1
 ·rw [h.at1 k h1] at hk;refine (fC c).1 (kG (l.drop fr) k c (by rw [← h.nE];exact h1) ?_);rw [Sw];exact hk
 ·rw [h.at2 k h1 hlt] at hk;injection hk with hk;rcases SW (fr+k+1) l.length with h2|h2
  ·have:=h.end_ (fr+k+1) (by omega) h2;rw [RJ,QU h2] at this hk;simp only [TJ] at this hk;rw [hk] at this;exact (fC c).1 this
  ·rw [RJ,Ry h2] at hk;simp only [Option.getD_none] at hk;omega
theorem JJ (l:List Int) (neg:Bool) (hneg:neg=decide (l.head? =some 45)) (fr:Nat) (hfr:fr=if neg then 1 else 0) (n:Nat) (hn:n=aG aH (l.drop fr)) (e:Nat) (he:e=if l[fr+n]? =some 46 then fr+n+1+aG aH (l.drop (fr+n+1)) else fr+n):
 ((n=0∨e≠l.length∨e=fr+n+1)∧iB l=(0,4))∨(n≠0∧e=l.length∧e≠fr+n+1∧ ∃ D r,DecP l neg fr n D r):=by
 have hls:(if neg then l.tail else l)=l.drop fr:=by
  subst hfr;cases neg<;>simp
 have hnl:n≤(l.drop fr).length:=hn ▸ bY aH _;rw [RE] at hnl;have hfl:fr≤l.length:=by
  subst hfr
  cases neg with
  |false=>simp
  |true=>
   have:l.head? =some 45:=of_decide_eq_true hneg.symm
   cases l with
   |nil=>cases this
   |cons=>simp
 obtain ⟨rest,hrest⟩: ∃ rest,(l.drop fr).drop n=rest:=⟨_,rfl⟩;have hr2:l.drop (fr+n)=rest:=by rw [← SV];exact hrest
 have hrl:rest.length=l.length - (fr+n):=by rw [← hr2,RE]
 have hhead:rest.head? =l[fr+n]? :=by rw [← hr2,List.head?_drop]
 have htail:rest.tail=l.drop (fr+n+1):=by rw [← hr2,Uh]
 have hrt:aG aH rest.tail≤rest.tail.length:=bY _ _;rw [UF] at hrt;rw [← hhead,← htail] at he;obtain ⟨q,hq⟩: ∃ q,aG aH rest.tail=q:=⟨_,rfl⟩;rw [hq] at he hrt
 have hdec: ∀ fc,(decide (1<rest.length) && (decide (rest.head? =some 46) && decide (q+1=rest.length)))=fc→iB l=if n=0∨(fc=false∧rest≠ []) then (0,4)
  else if cN<bE ((l.drop fr).take n++((if fc then rest.tail else [])++ [48,48,48,48,48]).take 4) 0+(if 53≤((if fc then rest.tail else [])++ [48,48,48,48,48]).getD 4 0 then 1 else 0) then (0,3)
  else (if neg then -(bE ((l.drop fr).take n++((if fc then rest.tail else [])++ [48,48,48,48,48]).take 4) 0+(if 53≤((if fc then rest.tail else [])++ [48,48,48,48,48]).getD 4 0 then 1 else 0)) else bE ((l.drop fr).take n++((if fc then rest.tail else [])++ [48,48,48,48,48]).take 4) 0+(if 53≤((if fc then rest.tail else [])++ [48,48,48,48,48]).getD 4 0 then 1 else 0),0):=by
  intro fc hfc;unfold iB;rw [← hneg];simp only [hls,← hn,hrest,hq,hfc]
 by_cases h0:n=0
 ·left
  refine ⟨.inl h0,?_⟩;rw [hdec _ rfl,if_pos (.inl h0)]
 by_cases h46:rest.head? =some 46
 ·rw [if_pos h46] at he;have hpos:0<rest.length:=by
   cases rest with
   |nil=>cases h46
   |cons=>simp
  by_cases hfin:1<rest.length∧q+1=rest.length
  ·right
   refine ⟨h0,by omega,by omega,?_⟩;have hfrac:(decide (1<rest.length) && (decide (rest.head? =some 46) && decide (q+1=rest.length)))=true:=by simp [h46,hfin.1,hfin.2]
   have hd:=hdec _ hfrac;simp only [if_true] at hd;rw [if_neg (by simp [h0])] at hd;have hall: ∀ k,fr+n<k→k<l.length→aH (l.getD k 0)=true:=fun k h1 h2=>by
    obtain ⟨j,rfl⟩: ∃ j,k=fr+n+1+j:=⟨k - (fr+n+1),by omega⟩;have hj:j<aG aH rest.tail:=by omega
    refine kG rest.tail j _ hj ?_;rw [htail,Sw,RJ,QU h2];rfl
   have hp5: ∀ k,k<5→(rest.tail++ [48,48,48,48,48])[k]? =some (l.getD (fr+n+k+1) 48):=fun k hk=>by
    rw [show fr+n+k+1=fr+n+1+k by omega,← FZ,← htail];rw [RJ];rcases SW k rest.tail.length with h|h
    ·rw [RC h,QU h];rfl
    ·rw [RM h,Ry h];have:k - rest.tail.length<5:=by omega
     rcases (by omega:k - rest.tail.length=0∨k - rest.tail.length=1∨k - rest.tail.length=2∨k - rest.tail.length=3∨k - rest.tail.length=4) with h|h|h|h|h<;>rw [h]<;>rfl
   refine ⟨(l.drop fr).take n++(rest.tail++ [48,48,48,48,48]).take 4,(rest.tail++ [48,48,48,48,48]).getD 4 0,hneg,hfr,hn,h0,?_,?_,?_,?_,hall,hd⟩
   ·simp only [QT,RI,RE,Rk,Ta];omega
   ·intro k hk;rw [RC (by simp;omega),Tl hk,Sw]
   ·intro k h1 h2;rw [RM (by simp;omega)];rw [RI,RE,Tm (by omega),Tl (by omega),hp5 _ (by omega)];congr 2;omega
   ·rw [RJ,hp5 4 (by omega)];rfl
  ·left
   have hfrac:(decide (1<rest.length) && (decide (rest.head? =some 46) && decide (q+1=rest.length)))=false:=by
    simp only [h46,decide_true,Ss,Tc,decide_eq_false_iff_not];omega
   refine ⟨by omega,?_⟩;rw [hdec _ hfrac,if_pos (.inr ⟨rfl,fun h=>by rw [h] at hpos;exact SS _ hpos⟩)]
 ·rw [if_neg h46] at he;have hfrac:(decide (1<rest.length) && (decide (rest.head? =some 46) && decide (q+1=rest.length)))=false:=by simp [h46]
  have hd:=hdec _ hfrac;simp only [RY,if_false] at hd;by_cases hnil:rest= []
  ·right
   have hlen:fr+n=l.length:=by rw [hnil] at hrl;simp at hrl;omega
   refine ⟨h0,by omega,by omega,?_⟩;rw [if_neg (by simp [h0,hnil])] at hd;have hp5: ∀ k,k<5→(([]:List Int)++ [48,48,48,48,48])[k]? =some (l.getD (fr+n+k+1) 48):=fun k hk=>by
    have e0:l.getD (fr+n+k+1) 48=48:=by rw [RJ,Ry (by omega)];rfl
    rw [e0];rcases (by omega:k=0∨k=1∨k=2∨k=3∨k=4) with h|h|h|h|h<;>rw [h]<;>rfl
   refine ⟨(l.drop fr).take n++(([]:List Int)++ [48,48,48,48,48]).take 4,(([]:List Int)++ [48,48,48,48,48]).getD 4 0,hneg,hfr,hn,h0,?_,?_,?_,?_,fun k h1 h2=>by omega,hd⟩
   ·simp;omega
   ·intro k hk;rw [RC (by simp;omega),Tl hk,Sw]
   ·intro k h1 h2;rw [RM (by simp;omega)];rw [RI,RE,Tm (by omega),Tl (by omega),hp5 _ (by omega)];congr 2;omega
   ·rw [RJ,hp5 4 (by omega)];rfl
  ·left
   have:0<rest.length:=TW.2 hnil;refine ⟨by omega,?_⟩;rw [hd,if_pos (.inr ⟨trivial,hnil⟩)]
theorem CD (b:Bool) (w:World):aC Tryz.prog 199 [.bool b] w (.agg (d9 (mW b)).toArray):=by
 refine ay Tryz.func199 rfl Tryz.ntmps199 rfl ?_;repeat' (first|refine sT ?_|refine sM fun _=>?_|(refine sC ?_ ?_<;>intro hb<;>try omega)|fail)
 all_goals ((refine eRC ?_);simp_all [mW,d9,ax])
theorem qd (c:Int) (w:World):aC Tryz.prog 201 [.int .i64 c] w (.agg (d9 (ig c)).toArray):=by
 refine ay Tryz.func201 rfl Tryz.ntmps201 rfl ?_;repeat' (first|refine sT ?_|refine sM fun _=>?_|(refine sC ?_ ?_<;>intro hb<;>try omega)|fail)
 all_goals ((refine eRC ?_);simp only [ig];(first|rw [if_pos (by omega)]|rw [if_neg (by omega)]);rfl)
theorem Fp (n:Int) (h: -9223372036854775808≤n) (w:World):aC Tryz.prog 203 [.int .i64 n] w (.agg (d9 (wN n)).toArray):=by
 refine ay Tryz.func203 rfl Tryz.ntmps203 rfl ?_;have hf: ∀ w,aC Tryz.prog 201 [.int .i64 3] w (.agg #[.int .u8 4,.int .i64 3,.string ax]):=fun w=>qd 3 w;repeat' (first|(apply aa;exact rfl;exact rfl;(intro w hm;exact hf w))|refine sT ?_|refine sM fun _=>?_|(refine sC ?_ ?_<;>intro hb<;>try omega)|fail)
 ·(refine eRC ?_);rw [wN,if_pos (by omega)];rfl
 ·(refine eRC ?_);rw [wN,if_neg (by omega)];rfl
def NS (c:Int):ByteArray:=if 1≤c∧c≤7 then cJ.getD c.toNat ax else ax
theorem yS (c:Int) (w:World):aC Tryz.prog 254 [.int .i64 c] w (.string (NS c)):=by
 refine ay Tryz.func254 rfl Tryz.ntmps254 rfl ?_;repeat' (first|refine zZB ?_|refine sM fun _=>?_|(refine sC ?_ ?_<;>intro hb<;>try omega)|fail)
 all_goals first
  |((refine rT1 ?_);subst_vars;rfl)
  |((refine rT1 ?_);rw [NS,if_neg (by omega)];rfl)
theorem Ft (a:ByteArray) (ha:a.size≤1000000) (w:World):aC Tryz.prog 200 [.string a] w (.tuple #[.int .i64 (jc a).1,.int .i64 (jc a).2]):=by
 refine ay Tryz.func200 rfl Tryz.ntmps200 rfl ?_;have hU:=fun w=>lp a ha w;unfold jc;generalize upB a=u at hU;obtain ⟨X,hX⟩: ∃ X,jG u (cJ.drop 1) 1=X:=⟨_,rfl⟩;rw [hX];repeat' (first|refine zZB ?_|refine sM fun _=>?_|(refine sC ?_ ?_<;>intro hb<;>try omega)|fail)
 refine aw [0,2,3] rfl (fun i:Nat=> [(4,.int .i64 ((i:Int)+1))]) (fun _=> []) (fun i=>i≤7∧X=jG u (cJ.drop (i+1)) ((i:Int)+1)) (fun i=>7 - i) 0 ⟨by omega,hX.symm⟩ sB (.refl _) ?_;rintro i ⟨hi,hc⟩;by_cases hlt:i<7
 ·rw [tj (by omega),jG] at hc;have hN: ∀ w,aC Tryz.prog 254 [.int .i64 ((i:Int)+1)] w (.string (cJ.getD (i+1) ax)):=fun w=>by
   have:=yS ((i:Int)+1) w;rw [NS,if_pos (by omega)] at this;exact this
  generalize cJ.getD (i+1) ax=x at hN hc;repeat' (first|(apply aa (f:=254);exact rfl;exact rfl;(intro w' hm;exact hN w'))|(apply aa;exact rfl;exact rfl;(intro w hm;exact hU w))|refine sT ?_|refine sS ?_|refine sJ ?_|refine sM fun _=>?_|(refine sC ?_ ?_<;>intro hb<;>try omega)|fail)
  all_goals first
   |(refine dB eIO rfl rfl rfl (.nil _) ?_;rw [hc,if_pos (by assumption)];done)
   | (refine ⟨i + 1, ⟨by omega, ?_⟩, by omega, ?_, ?_, .nil _⟩
      ·rw [hc,if_neg (by assumption)];rfl
      ·exact sB
      ·exact sB)
 ·have e:i=7:=by omega
  subst e;repeat' (first|refine zZB ?_|refine sM fun _=>?_|(refine sC ?_ ?_<;>intro hb<;>try omega)|fail)
  all_goals (refine dB eIO rfl rfl rfl (.nil _) ?_;rw [hc];rfl)
theorem Fk (c:Int) (h1:1≤c) (h2:c≤5) (w:World):aC Tryz.prog 302 [.agg (d9 ⟨4,c,ax⟩).toArray] w (.string (cJ.getD c.toNat ax)):=by
 refine ay Tryz.func302 rfl Tryz.ntmps302 rfl ?_;have he:decide ((⟨4,c,ax⟩:Vl)=ig 7)=false:=by rw [← Hy];simp [eqV,ig];omega
 have hv:pX ⟨4,c,ax⟩=0:=by
  have h6:decide (c≤6)=true:=decide_eq_true (by omega);simp [pX,vp,h1,h6]
 have hc:=fun w=>yR ⟨4,c,ax⟩ (by dsimp only;omega) w;rw [hv] at hc;have hN:=fun w=>yS c w;rw [show NS c=cJ.getD c.toNat ax from if_pos ⟨h1,by omega⟩] at hN;repeat' (first|(apply (lZ (id:=1) [1] []);kernel_rfl;kernel_rfl;kernel_rfl)|(apply aa;exact rfl;exact rfl;(intro w hm;exact qd 7 w))|(apply fq;(iterate 3 exact rfl);apply Ia (a:=⟨4,c,ax⟩) (b:=ig 7) he;exact rfl;exact rfl)|(apply aa;exact rfl;exact rfl;(intro w hm;exact hc w))|(apply aa;exact rfl;exact rfl;(intro w hm;exact hN w))|refine sT ?_|refine sW ?_|refine sM fun _=>?_|(refine sC ?_ ?_<;>intro hb<;>try omega)|(refine sCW ?_ ?_<;>intro hb<;>try omega)|fail)
 all_goals ((refine rT1 ?_);rfl)
structure Cx where
 g:Nat
 sa:ByteArray
 A:Option Nat
 cap:Nat
 toks:List Tk
 hsa:sa.size≤256
 ht:toks.length≤256
 hc:Chain toks
def Cx.fin (x:Cx):Int:=(x.sa.size:Int)
def Cx.B (x:Cx) (k:Nat) (B:Option Nat) (cb:Nat) (out:List Nd) (at_ e:Int):List Blk:=rB x.g x.sa x.A x.cap x.toks k B cb out at_ e
def RR (x:Cx) (j m:Nat) (R:List Blk) (r:Out) (v:Value) (H:List Blk):Prop:=v= .tuple #[]∧match r with
 | .ok (_,p')=> ∃ k' B' cb',k' ≤x.toks.length∧p'.l=x.toks.drop k' ∧j≤k' ∧p'.out.length+j≤m+k' ∧H=x.B k' B' cb' p'.out 0 0++R
 | .error e=> ∃ k' B' cb' out',e.2≠0∧k' ≤x.toks.length+1∧j≤k' ∧out'.length+j≤m+k' ∧H=x.B k' B' cb' out' e.1 e.2++R
def OE (F:Int→PS→Option Out) (fid:FuncId) (args:List Value):Prop:=
 ∀ (x:Cx) (k:Nat) (p:PS) (B:Option Nat) (cb:Nat) (r:Out) (R:List Blk) (w0:World),k≤x.toks.length→p.l=x.toks.drop k→p.out.length≤k→F x.fin p=some r→
  FnIn Tryz.prog fid (.pointer (some ⟨x.g,0,none⟩)::args) w0 (x.B k B cb p.out 0 0++R) (RR x k p.out.length R r)
def px (f:Nat) (j:Job) (fid:FuncId) (args:List Value):Prop:=OE (fun fin p=>bw fin f j p) fid args
theorem Cx.lt {x:Cx} {k:Nat} {t:Tk} (hd:hdT x.fin (x.toks.drop k)=t) (h:t.kind≠0):k<x.toks.length:=by
 rcases SW k x.toks.length with h1|h1
 ·exact h1
 ·rw [uN h1] at hd;subst hd;exact absurd rfl h
theorem Cx.skip {x:Cx} {k:Nat} {p:PS} (h:p.l=x.toks.drop k):p.skip.l=x.toks.drop (k+1):=by
 simp only [PS.skip];rw [h,Uh]
theorem Cx.next {x:Cx} {k:Nat} {t:Tk} (hd:hdT x.fin (x.toks.drop k)=t) {B:Option Nat} {cb:Nat} {out:List Nd} {at_ e:Int} {H:List Blk} {w0:World} (hH:MSub (x.B k B cb out at_ e) H) (w:World) (hm:Mem w0 w H):
 aC Tryz.prog 207 [.pointer (some ⟨x.g,0,none⟩)] w (.agg (bh t).toArray):=wh (RD x.hsa (by decide)) (RD x.ht (by decide)) hd hH w hm
theorem Cx.op {x:Cx} {k:Nat} {t:Tk} (hd:hdT x.fin (x.toks.drop k)=t) (q:Int) {B:Option Nat} {cb:Nat} {out:List Nd} {at_ e:Int} {H:List Blk} {w0:World} (hH:MSub (x.B k B cb out at_ e) H) (w:World) (hm:Mem w0 w H):
 aC Tryz.prog 261 [.pointer (some ⟨x.g,0,none⟩),.int .i64 q] w (.bool (decide (t.kind=8∧iC t.num=q))):=Ph q (RD x.hsa (by decide)) (RD x.ht (by decide)) hd hH w hm
theorem Gi (q:Int):(iC q=6)↔(q=5):=by
 unfold iC;repeat' split
 all_goals omega
theorem Mi (q:Int):(iC q=7)↔(q=13):=by
 unfold iC;repeat' split
 all_goals omega
theorem kH {fn:Func} {fr:Fr} {w0:World} {R H:List Blk} {x:Cx} {j m n k' :Nat} {p' :PS} {B' :Option Nat} {cb' :Nat} {e:Exit} {s:az} (he:e= .ret∨e= .normal) (hf:fn.results= #[]) (h1:k' ≤x.toks.length) (h2:p'.l=x.toks.drop k') (h3:j≤k') (h4:p'.out.length+j≤m+k') (hs:MSub (x.B k' B' cb' p'.out 0 0++R) H):
 aV Tryz.prog fn fr w0 (RR x j m R (.ok (n,p'))) e s H:=iP he hf hs ⟨rfl,k',B',cb',h1,h2,h3,h4,rfl⟩
theorem fW {fn:Func} {fr:Fr} {w0:World} {R H:List Blk} {x:Cx} {j m k' :Nat} {x' :Int × Int} {out' :List Nd} {B' :Option Nat} {cb' :Nat} {e:Exit} {s:az} (he:e= .ret∨e= .normal) (hf:fn.results= #[]) (h0:x'.2≠0) (h1:k' ≤x.toks.length+1) (h3:j≤k') (h4:out'.length+j≤m+k') (hs:MSub (x.B k' B' cb' out' x'.1 x'.2++R) H):
 aV Tryz.prog fn fr w0 (RR x j m R (.error x')) e s H:=iP he hf hs ⟨rfl,k',B',cb',out',h0,h1,h3,h4,rfl⟩
theorem KW (f:Nat) (ihS:px f .sign 260 []) (ihP:px f .pct 288 []):px (f+1) .sign 260 []:=by
 intro x k p B cb r R w0 hk hp hout hrun;refine bF Tryz.func260 rfl Tryz.ntmps260 rfl ?_;have hxt:=x.ht;dsimp only at hrun;rw [bw] at hrun;dsimp only at hrun;obtain ⟨t,ht⟩: ∃ t,hdT x.fin p.l=t:=⟨_,rfl⟩;rw [ht] at hrun;have hd:hdT x.fin (x.toks.drop k)=t:=hp ▸ ht;have hN:=fun w hm=>Cx.next hd (B:=B) (cb:=cb) (out:=p.out) (at_:=0) (e:=0) (w0:=w0) (H:=x.B k B cb p.out 0 0++R) ⟨R,.refl _⟩ w hm;by_cases hk2:t.kind=8∧t.num=2
 ·rw [if_pos hk2] at hrun;have hlt:=Cx.lt hd (by omega);obtain ⟨r1,hr1,⟨e,rfl,rfl⟩|⟨n1,p1,rfl,hr2⟩⟩:=bI hrun
  ·repeat' (first|(apply aa (f:=207);exact rfl;exact rfl;exact hN)|(apply ak (f:=260);exact rfl;exact rfl;exact FnIn.msub (ihS x (k+1) p.skip B cb _ _ w0 hlt (Cx.skip hp) (Ua hout) hr1) (MSub.pick pK (MSub.pick pK (MSub.pick pK (MSub.refl _))));rintro _ _ ⟨rfl,k1,B1,cb1,o1,h1,h2,h3,h4,rfl⟩;replace h4:o1.length+(k+1)≤p.out.length+k1:=h4)|(apply aD;(iterate 3 exact rfl);exact pK;exact pK;exact rfl;(simp [bf,Value.oneCell']);omega;(simp only [maxLen];omega);intro g8 c8)|refine zZA ?_|refine sM fun _=>?_|(refine sC ?_ ?_<;>intro hb<;>try omega)|fail)
   all_goals first
    |(exfalso;omega)
    | (refine fW (k' := k1) (out' := o1 ++ [dY 4 0]) (B' := some g8) (cb' := c8) eIO rfl h1 h2 (by omega) (by rw [QT, QX]; omega) ?_
       simp only [Cx.B,rB,QT,QX,Rp,Rl,RN,Rc,QV,QW];exact mS)
  ·cases hr2;repeat' (first|(apply aa (f:=207);exact rfl;exact rfl;exact hN)|(apply ak (f:=260);exact rfl;exact rfl;exact FnIn.msub (ihS x (k+1) p.skip B cb _ _ w0 hlt (Cx.skip hp) (Ua hout) hr1) (MSub.pick pK (MSub.pick pK (MSub.pick pK (MSub.refl _))));rintro _ _ ⟨rfl,k1,B1,cb1,h1,h2,h3,h4,rfl⟩;replace h4:p1.out.length+(k+1)≤p.out.length+k1:=h4)|(apply aD;(iterate 3 exact rfl);exact pK;exact pK;exact rfl;(simp [bf,Value.oneCell']);omega;(simp only [maxLen];omega);intro g8 c8)|refine zZA ?_|refine sM fun _=>?_|(refine sC ?_ ?_<;>intro hb<;>try omega)|fail)
   all_goals first
    |(exfalso;omega)
    | (refine kH (k' := k1) (p' := p1.put (dY 4 0)) (B' := some g8) (cb' := c8) eIO rfl h1 h2 (by omega) (by simp only [PS.put, QT, QX]; omega) ?_
       simp only [PS.put,Cx.B,rB,QT,QX,Rp,Rl,RN,Rc,QV,QW];exact mS)
 rw [if_neg hk2] at hrun;obtain ⟨r1,hr1,⟨e,rfl,rfl⟩|⟨n1,p1,rfl,hr2⟩⟩:=bI hrun
 ·repeat' (first|(apply aa (f:=207);exact rfl;exact rfl;exact hN)|(apply ak (f:=288);exact rfl;exact rfl;exact FnIn.msub (ihP x k p B cb _ _ w0 hk hp hout hr1) (MSub.pick pK (MSub.pick pK (MSub.pick pK (MSub.refl _))));rintro _ _ ⟨rfl,k1,B1,cb1,o1,h1,h2,h3,h4,rfl⟩)|refine zZA ?_|refine sM fun _=>?_|(refine sC ?_ ?_<;>intro hb<;>try omega)|fail)
  all_goals first
   |(exfalso;omega)
   |exact absurd (by assumption) h1
   | (refine fW (k' := k1) (out' := o1) (B' := B1) (cb' := cb1) eIO rfl h1 h2 h3 h4 ?_
      simp only [Cx.B,rB,QV,QW];exact mS)
 ·obtain ⟨u,hu⟩: ∃ u,hdT x.fin p1.l=u:=⟨_,rfl⟩;rw [hu] at hr2;by_cases hk3:u.kind=8∧u.num=5
  ·rw [if_pos hk3] at hr2;obtain ⟨r2,hr3,⟨e,rfl,rfl⟩|⟨n2,p2,rfl,hr4⟩⟩:=bI hr2
   ·repeat' (first|(apply aa (f:=207);exact rfl;exact rfl;exact hN)|(apply ak (f:=288);exact rfl;exact rfl;exact FnIn.msub (ihP x k p B cb _ _ w0 hk hp hout hr1) (MSub.pick pK (MSub.pick pK (MSub.pick pK (MSub.refl _))));rintro _ _ ⟨rfl,k1,B1,cb1,h1,h2,h3,h4,rfl⟩;have hd1:hdT x.fin (x.toks.drop k1)=u:=h2 ▸ hu;have hlt1:=Cx.lt hd1 (by omega))|(apply aa (f:=261);exact rfl;exact rfl;exact fun w hm=>Cx.op hd1 6 (B:=B1) (cb:=cb1) (out:=p1.out) (at_:=0) (e:=0) (MSub.pick pK (MSub.pick pK (MSub.pick pK (MSub.nil _)))) w hm)|(apply ak (f:=260);exact rfl;exact rfl;exact FnIn.msub (ihS x (k1+1) p1.skip B1 cb1 _ _ w0 hlt1 (Cx.skip h2) (by simp only [PS.skip];omega) hr3) (MSub.pick pK (MSub.pick pK (MSub.pick pK (MSub.refl _))));rintro _ _ ⟨rfl,k2,B2,cb2,o2,j1,j2,j3,j4,rfl⟩;replace j4:o2.length+(k1+1)≤p1.out.length+k2:=j4)|(apply aD;(iterate 3 exact rfl);exact pK;exact pK;exact rfl;(simp [bf,Value.oneCell']);omega;(simp only [maxLen];omega);intro g8 c8)|refine zZA ?_|refine sM fun _=>?_|(refine sC ?_ ?_<;>intro hb<;>try omega)|fail)
    all_goals first
     |(exfalso;omega)
     |(exfalso;simp_all [Gi];done)
     | (refine fW (k' := k2) (out' := o2 ++ [dY 6 5]) (B' := some g8) (cb' := c8) eIO rfl j1 j2 (by omega) (by rw [QT, QX]; omega) ?_
        simp only [Cx.B,rB,QT,QX,Rp,Rl,RN,Rc,QV,QW];exact mS)
   ·cases hr4;repeat' (first|(apply aa (f:=207);exact rfl;exact rfl;exact hN)|(apply ak (f:=288);exact rfl;exact rfl;exact FnIn.msub (ihP x k p B cb _ _ w0 hk hp hout hr1) (MSub.pick pK (MSub.pick pK (MSub.pick pK (MSub.refl _))));rintro _ _ ⟨rfl,k1,B1,cb1,h1,h2,h3,h4,rfl⟩;have hd1:hdT x.fin (x.toks.drop k1)=u:=h2 ▸ hu;have hlt1:=Cx.lt hd1 (by omega))|(apply aa (f:=261);exact rfl;exact rfl;exact fun w hm=>Cx.op hd1 6 (B:=B1) (cb:=cb1) (out:=p1.out) (at_:=0) (e:=0) (MSub.pick pK (MSub.pick pK (MSub.pick pK (MSub.nil _)))) w hm)|(apply ak (f:=260);exact rfl;exact rfl;exact FnIn.msub (ihS x (k1+1) p1.skip B1 cb1 _ _ w0 hlt1 (Cx.skip h2) (by simp only [PS.skip];omega) hr3) (MSub.pick pK (MSub.pick pK (MSub.pick pK (MSub.refl _))));rintro _ _ ⟨rfl,k2,B2,cb2,j1,j2,j3,j4,rfl⟩;replace j4:p2.out.length+(k1+1)≤p1.out.length+k2:=j4)|(apply aD;(iterate 3 exact rfl);exact pK;exact pK;exact rfl;(simp [bf,Value.oneCell']);omega;(simp only [maxLen];omega);intro g8 c8)|refine zZA ?_|refine sM fun _=>?_|(refine sC ?_ ?_<;>intro hb<;>try omega)|fail)
    all_goals first
     |(exfalso;omega)
     |(exfalso;simp_all [Gi];done)
     | (refine kH (k' := k2) (p' := p2.put (dY 6 5)) (B' := some g8) (cb' := c8) eIO rfl j1 j2 (by omega) (by simp only [PS.put, QT, QX]; omega) ?_
        simp only [PS.put,Cx.B,rB,QT,QX,Rp,Rl,RN,Rc,QV,QW];exact mS)
  ·rw [if_neg hk3] at hr2;cases hr2;repeat' (first|(apply aa (f:=207);exact rfl;exact rfl;exact hN)|(apply ak (f:=288);exact rfl;exact rfl;exact FnIn.msub (ihP x k p B cb _ _ w0 hk hp hout hr1) (MSub.pick pK (MSub.pick pK (MSub.pick pK (MSub.refl _))));rintro _ _ ⟨rfl,k1,B1,cb1,h1,h2,h3,h4,rfl⟩;have hd1:hdT x.fin (x.toks.drop k1)=u:=h2 ▸ hu)|(apply aa (f:=261);exact rfl;exact rfl;exact fun w hm=>Cx.op hd1 6 (B:=B1) (cb:=cb1) (out:=p1.out) (at_:=0) (e:=0) (MSub.pick pK (MSub.pick pK (MSub.pick pK (MSub.nil _)))) w hm)|refine zZA ?_|refine sM fun _=>?_|(refine sC ?_ ?_<;>intro hb<;>try omega)|fail)
   all_goals first
    |(exfalso;omega)
    |(exfalso;simp_all [Gi];done)
    | (refine kH (k' := k1) (p' := p1) (B' := B1) (cb' := cb1) eIO rfl h1 h2 h3 h4 ?_
       simp only [Cx.B,rB,QV,QW];exact mS)
theorem jt (p:Int→Bool): ∀ l:List Int,l.takeWhile p=l.take (aG p l)∧l.dropWhile p=l.drop (aG p l)
 | []=>⟨rfl,rfl⟩
 |c::r=>by
  simp only [List.takeWhile_cons,List.dropWhile_cons,aG];split
  ·exact ⟨by rw [(jt p r).1];rfl,by rw [(jt p r).2];rfl⟩
  ·exact ⟨rfl,rfl⟩
theorem z6 (a:ByteArray) (ha:a.size≤1000000) (h0:0<a.size) (hlet: ∀ c∈ap a,bT c=true) (w:World):aC Tryz.prog 327 [.string a] w (.tuple #[.int .i64 (if 1024<bu (ap a) 0 then 0 else bu (ap a) 0),.int .i64 (if 1024<bu (ap a) 0 then 3 else 0)]):=by
 refine ay Tryz.func327 rfl Tryz.ntmps327 rfl ?_;have hl:=av a;have hpos:=nB (ap a) hlet (TG 0) (.inl (fun h=>by rw [h] at hl;simp at hl;omega));obtain ⟨X,hX⟩: ∃ X,bu (ap a) 0=X:=⟨_,rfl⟩;rw [hX] at hpos ⊢;repeat' (first|refine zZF ?_|refine sM fun _=>?_|(refine sC ?_ ?_<;>intro hb<;>try omega)|fail)
 refine aw [0] rfl (fun x:Nat × Int=> [(5,.int .i64 (x.1:Int)),(4,.int .i64 x.2)]) (fun _=> []) (fun x=>x.1≤a.size∧0≤x.2∧x.2≤1025∧X=bu ((ap a).drop x.1) x.2) (fun x=>a.size - x.1) (0,0) ⟨by simp,by simp,by simp,hX.symm⟩ sB (.refl _) ?_;rintro ⟨i,v⟩ ⟨hi,hv0,hv1,hx⟩;dsimp only at hi hv0 hv1 hx ⊢;by_cases hlt:i<a.size
 ·have hc:=hlet (bat a i) (Uf (il hlt));have hok:=s5 a i;rw [bi hlt,bu] at hx;have hN:=fun w=>qb (bat a i) hok.1 hok.2 w;have hN1:Dq (bat a i)=upC (bat a i) - 64:=by rw [Dq,if_pos hc]
  have hN2:1≤upC (bat a i) - 64∧upC (bat a i) - 64≤26:=by
   have:=(iR _).1 hc;unfold upC;split<;>omega
  rw [hN1] at hN;obtain ⟨d,hd⟩: ∃ d,upC (bat a i) - 64=d:=⟨_,rfl⟩;rw [hd] at hx hN hN2;repeat' (first|(apply ai (d:=14);exact rfl;apply aX (j:=i);exact rfl;exact rfl;exact hlt)|(apply ai (d:=21);exact rfl;apply aX (j:=i);exact rfl;exact rfl;exact hlt)|(apply aa (f:=326);exact rfl;exact rfl;(intro w' hm;exact hN w'))|(apply ai (d:=18);exact rfl;apply yw;exact rfl;exact rfl;exact ⟨by omega,by omega⟩)|(apply ai (d:=23);exact rfl;apply lh;exact rfl;exact rfl;exact ⟨by omega,by omega⟩)|refine zZC ?_|refine sM fun _=>?_|(refine sC ?_ ?_<;>intro hb<;>try omega)|fail)
  all_goals first
   |(exfalso;omega)
   |(rw [Ay];exact ⟨(i+1,min (26*v+d) 1025),⟨hlt,by dsimp only;omega,by dsimp only;omega,hx⟩,by dsimp only;omega,sB,sB,.nil _⟩)
 ·have e:i=a.size:=by omega
  subst e;rw [RK (by omega),bu] at hx;subst hx;repeat' (first|refine zZF ?_|refine sM fun _=>?_|(refine sC ?_ ?_<;>intro hb<;>try omega)|fail)
  all_goals first
   |(exfalso;omega)
   |((refine rT2 ?_);first|(rw [if_pos (by omega),if_pos (by omega)])|(rw [if_neg (by omega),if_neg (by omega)]))
theorem JV (l:List Int):cy l=if l.take (aG bT l)= []∨l.drop (aG bT l)= []∨(l.drop (aG bT l)).head? =some 48∨(l.drop (aG bT l)).all aH=false then (0,0,4)
 else if 1024<bu (l.take (aG bT l)) 0∨1024<nK (l.drop (aG bT l)) 0 then (0,0,3) else (bu (l.take (aG bT l)) 0,nK (l.drop (aG bT l)) 0,0):=by
 unfold cy;rw [(jt bT l).1,(jt bT l).2]
theorem Dp {c:Int}:(0<Dq c)↔bT c=true:=by
 unfold Dq upC
 cases h:bT c with
 |false=>simp
 |true=>
  have:=(iR c).1 h;simp only [if_true,iff_true];by_cases h2:97≤c∧c≤122
  ·rw [if_pos h2];omega
  ·rw [if_neg h2];omega
theorem Fu (a:ByteArray) (ha:a.size≤100000) (w:World):aC Tryz.prog 314 [.string a] w (.tuple #[.agg (aB ⟨(cy (ap a)).1,(cy (ap a)).2.1⟩).toArray,.int .i64 (cy (ap a)).2.2]):=by
 refine ay Tryz.func314 rfl Tryz.ntmps314 rfl ?_;have hl:=av a;have hA:=JV (ap a);obtain ⟨A,hAr⟩: ∃ A,aG bT (ap a)=A:=⟨_,rfl⟩;have hAle:A≤a.size:=by have:=bY bT (ap a);omega
 rw [hAr] at hA;repeat' (first|refine zZF ?_|refine sM fun _=>?_|(refine sC ?_ ?_<;>intro hb<;>try omega)|fail)
 rename_i g2;refine aw [0,2] rfl (fun i:Nat=> [(4,.int .i64 (i:Int))]) (fun _=> [.box g2 28 [.int .i64 0,.int .i64 0]]) (fun i=>i≤a.size∧A=i+aG bT ((ap a).drop i)) (fun i=>a.size - i) 0 ⟨by omega,by rw [SP,Rv,hAr]⟩ sB (.refl _) ?_;rintro i ⟨hi,hx⟩;by_cases hlt:i<a.size∧bT (bat a i)=true
 ·have hok:=s5 a i;have hN:=fun w=>qb (bat a i) hok.1 hok.2 w;have hp:=Dp.2 hlt.2;rw [bi hlt.1,aG,if_pos hlt.2] at hx;repeat' (first|(apply ai (d:=16);exact rfl;apply aX (j:=i);exact rfl;exact rfl;omega)|(apply aa (f:=326);exact rfl;exact rfl;(intro w' hm;exact hN w'))|refine zZC ?_|refine sM fun _=>?_|(refine sC ?_ ?_<;>intro hb<;>try omega)|fail)
  all_goals first
   |(exfalso;omega)
   |exact ⟨i+1,⟨by omega,by omega⟩,by omega,sB,sB,.refl _⟩
 have hAi:A=i:=by
  rw [hx];by_cases h:i<a.size
  ·rw [bi h,aG,if_neg (fun h2=>hlt ⟨h,h2⟩)];rfl
  ·rw [qK (by omega)];rfl
 subst hAi;have hexit:A<a.size→Dq (bat a A)≤0:=fun h=>by
  have: ¬ 0<Dq (bat a A):=fun h2=>hlt ⟨h,Dp.1 h2⟩;omega
 have hN:=fun w=>qb (bat a A) (s5 a A).1 (s5 a A).2 w;have htk:(ap a).take A= []↔A=0:=by
  rw [List.take_eq_nil_iff];constructor
  ·rintro (h|h)
   ·exact h
   ·rw [h] at hl;simp at hl;omega
  ·exact .inl
 have hdr:(ap a).drop A= []↔A=a.size:=by rw [UI];omega
 have hhd:A<a.size→(((ap a).drop A).head? =some 48↔bat a A=48):=fun h=>by rw [bi h];simp
 by_cases hbad:A=0∨A=a.size∨bat a A=48
 ·have hres:cy (ap a)=(0,0,4):=by
   rw [hA,if_pos];rcases hbad with h|h|h
   ·exact .inl (htk.2 h)
   ·exact .inr (.inl (hdr.2 h))
   ·by_cases hA2:A<a.size
    ·exact .inr (.inr (.inl ((hhd hA2).2 h)))
    ·exact .inr (.inl (hdr.2 (by omega)))
  rw [hres];repeat' (first|(apply ai (d:=16);exact rfl;apply aX (j:=A);exact rfl;exact rfl;omega)|(apply ai (d:=33);exact rfl;apply aX (j:=A);exact rfl;exact rfl;omega)|(apply aa (f:=326);exact rfl;exact rfl;(intro w' hm;exact hN w'))|refine zZC ?_|refine sM fun _=>?_|(refine sC ?_ ?_<;>intro hb<;>try omega)|fail)
  all_goals first
   |(exfalso;omega)
   |((refine lU ?_);rfl)
 have hA1:0<A:=by omega
 have hA2:A<a.size:=by omega
 have hn48:bat a A≠48:=fun h=>hbad (.inr (.inr h));simp only [htk,hdr,hhd hA2,show ¬ A=0 by omega,show ¬ A=a.size by omega,hn48,false_or] at hA;repeat' (first|(apply ai (d:=16);exact rfl;apply aX (j:=A);exact rfl;exact rfl;omega)|(apply ai (d:=33);exact rfl;apply aX (j:=A);exact rfl;exact rfl;omega)|(apply aa (f:=326);exact rfl;exact rfl;(intro w' hm;exact hN w'))|refine zZC ?_|refine sM fun _=>?_|(refine sC ?_ ?_<;>intro hb<;>try omega)|fail)
 all_goals try (exfalso;omega)
 refine aw [0,2,4] rfl (fun x:Nat × Int=> [(6,.int .i64 (x.1:Int)),(5,.int .i64 x.2)]) (fun _=> [.box g2 28 [.int .i64 0,.int .i64 0]]) (fun x=>A≤x.1∧x.1≤a.size∧0≤x.2∧x.2≤1025∧nK ((ap a).drop A) 0=nK ((ap a).drop x.1) x.2∧((ap a).drop A).all aH=((ap a).drop x.1).all aH) (fun x=>a.size - x.1) (A,0) ⟨by simp,by dsimp only;omega,by simp,by simp,rfl,rfl⟩ sB (.refl _) ?_;rintro ⟨i,v⟩ ⟨hi0,hi,hv0,hv1,hr,hall⟩;dsimp only at hi0 hi hv0 hv1 hr hall ⊢;by_cases hlt2:i<a.size
 ·have hok:=s5 a i;rw [bi hlt2] at hr hall;rw [nK] at hr;rw [Uu] at hall;have hd:=fC (bat a i);by_cases hdg:aH (bat a i)=true
  ·obtain ⟨hd1,hd2⟩:=hd.1 hdg;rw [hdg,Ss] at hall;obtain ⟨d,hdd⟩: ∃ d,bat a i - 48=d:=⟨_,rfl⟩;rw [hdd] at hr;repeat' (first|(apply ai (d:=46);exact rfl;apply aX (j:=i);exact rfl;exact rfl;exact hlt2)|(apply ai (d:=51);exact rfl;apply aX (j:=i);exact rfl;exact rfl;exact hlt2)|(apply ai (d:=59);exact rfl;apply aX (j:=i);exact rfl;exact rfl;exact hlt2)|(apply ai (d:=56);exact rfl;apply yw;exact rfl;exact rfl;exact ⟨by omega,by omega⟩)|(apply ai (d:=60);exact rfl;apply eB (c:=d);exact rfl;exact rfl;(rw [hdd];exact fI (by omega) (by omega)))|(apply ai (d:=61);exact rfl;apply cR (c:=d);exact rfl;exact I64.wrap ⟨by omega,by omega⟩)|(apply ai (d:=62);exact rfl;apply lh;exact rfl;exact rfl;exact ⟨by omega,by omega⟩)|refine zZC ?_|refine sM fun _=>?_|(refine sC ?_ ?_<;>intro hb<;>try omega)|fail)
   all_goals first
    |(exfalso;omega)
    |(rw [Ay];exact ⟨(i+1,min (10*v+d) 1025),⟨by dsimp only;omega,hlt2,by dsimp only;omega,by dsimp only;omega,hr,hall⟩,by dsimp only;omega,sB,sB,.refl _⟩)
  ·have hdf:aH (bat a i)=false:=by simpa using hdg
   rw [hdf,SG] at hall;rw [if_pos hall] at hA;have hno: ¬ (48≤bat a i∧bat a i≤57):=fun h=>hdg (hd.2 h);rw [hA];repeat' (first|(apply ai (d:=46);exact rfl;apply aX (j:=i);exact rfl;exact rfl;exact hlt2)|(apply ai (d:=51);exact rfl;apply aX (j:=i);exact rfl;exact rfl;exact hlt2)|(apply ai (d:=59);exact rfl;apply aX (j:=i);exact rfl;exact rfl;exact hlt2)|(apply ai (d:=56);exact rfl;apply yw;exact rfl;exact rfl;exact ⟨by omega,by omega⟩)|refine zZC ?_|refine sM fun _=>?_|(refine sC ?_ ?_<;>intro hb<;>try omega)|fail)
   all_goals first
    |(exfalso;omega)
    |((refine lU ?_);rfl)
 ·have e2:i=a.size:=by omega
  subst e2;have e3:(ap a).drop a.size= []:=RK (by omega);rw [e3,List.all_nil] at hall;rw [e3,nK] at hr;rw [hall,hr] at hA;simp only [Bool.true_eq_false,if_false] at hA;have hsub:ap (sub a 0 A)=(ap a).take A:=uM a A
  have hC:=fun w=>z6 (sub a 0 A) (by rw [co a hAle];omega) (by rw [co a hAle];omega) (fun c hc=>by
   rw [hsub] at hc;obtain ⟨k,hk⟩:=UC.1 hc;have hkl:k<A:=by
    have:=(Rm.1 hk).1;rw [RI] at this;omega
   rw [Tl hkl] at hk;exact kG (ap a) k c (by omega) hk) w
  rw [hsub] at hC;generalize bu ((ap a).take A) 0=L at hC hA;rw [hA];repeat' (first|(apply ai (d:=67);exact rfl;apply EF (hi:=A);exact rfl;exact rfl;exact hAle)|(apply aa (f:=327);exact rfl;exact rfl;(intro w' hm;exact hC w'))|refine zZC ?_|refine sM fun _=>?_|(refine sC ?_ ?_<;>intro hb<;>try omega)|fail)
  all_goals
   (refine lU ?_);by_cases h1:1024<L<;>by_cases h2:1024<v<;>first|(exfalso;simp only [h1,if_true,if_false] at*;omega)|(simp only [h1,h2,if_true,if_false,or_true,true_or,or_self];rfl)
theorem qO (f:Nat) (fn:Int) (n:Nat) (h0:1≤fn) (h5:fn≤50) (ih:px f (.level 1) 205 [.int .i64 1]):OE (Bd f fn n) 332 [.int .u8 fn,.int .i64 n]:=by
 intro x k p B cb r R w0 hk hp hout hrun;refine bF Tryz.func332 rfl Tryz.ntmps332 rfl ?_;have hxt:=x.ht;unfold Bd at hrun;obtain ⟨t,ht⟩: ∃ t,hdT x.fin p.l=t:=⟨_,rfl⟩;rw [ht] at hrun;have hd:hdT x.fin (x.toks.drop k)=t:=hp ▸ ht;have hN:=fun w hm=>Cx.next hd (B:=B) (cb:=cb) (out:=p.out) (at_:=0) (e:=0) (w0:=w0) (H:=x.B k B cb p.out 0 0++R) ⟨R,.refl _⟩ w hm;by_cases hk2:t.kind≠6
 ·rw [if_pos hk2] at hrun;obtain ⟨r1,hr1,hr2⟩:=bI hrun;have hrr: ∀ v H,RR x k p.out.length R r1 v H→RR x k p.out.length R r v H:=by
   rintro v H ⟨hv,h⟩;rcases hr2 with ⟨e,rfl,rfl⟩|⟨n1,p1,rfl,hr2⟩
   ·exact ⟨hv,h⟩
   ·cases hr2;exact ⟨hv,h⟩
  repeat' (first|(apply aa (f:=207);exact rfl;exact rfl;exact hN)|(apply ak (f:=205);exact rfl;exact rfl;exact FnIn.msub (ih x k p B cb r1 _ w0 hk hp hout hr1) (MSub.pick pK (MSub.pick pK (MSub.pick pK (MSub.refl _))));rintro v1 H1 hR)|refine zZA ?_|refine sM fun _=>?_|(refine sC ?_ ?_<;>intro hb<;>try omega)|fail)
  all_goals try (exfalso;omega)
  obtain ⟨rfl,hR⟩:=hR;rcases hr2 with ⟨e,rfl,rfl⟩|⟨n1,p1,rfl,hr2⟩
  ·obtain ⟨k1,B1,cb1,o1,j1,j2,j3,j4,rfl⟩:=hR;refine fW (k' :=k1) (out' :=o1) (B' :=B1) (cb' :=cb1) eIO rfl j1 j2 j3 j4 ?_;simp only [Cx.B,rB,Re,QV,QW];exact mS
  ·cases hr2;obtain ⟨k1,B1,cb1,j1,j2,j3,j4,rfl⟩:=hR;refine kH (k' :=k1) (p' :=p1) (B' :=B1) (cb' :=cb1) eIO rfl j1 j2 j3 j4 ?_;simp only [Cx.B,rB,Re,QV,QW];exact mS
 rw [if_neg hk2] at hrun;have hlt:=Cx.lt hd (by omega);have hW:=fun w=>vY fn (n:Int) w;have hwk:=u6 (fn:=fn) (by simp [cV,h0,h5]) (n:Int);have hwe:((kB fn n).1=false∨(kB fn n).2≠0)↔fX fn n=false:=by
  rw [hwk];dsimp only;constructor
  ·rintro (h|h)
   ·exact h
   ·have h2:(n:Int)<0∨(bQ fn).2≤(n:Int):=Classical.byContradiction fun hn=>h (if_neg hn);unfold fX;rw [if_pos h2]
  ·exact .inl
 clear hwk;by_cases hwk:(kB fn n).1=false∨(kB fn n).2≠0
 ·rw [if_pos hwk] at hrun;cases hrun;rw [hwe.1 hwk] at hW;repeat' (first|(apply aa (f:=207);exact rfl;exact rfl;exact hN)|(apply aa (f:=321);exact rfl;exact rfl;(intro w' _;exact hW w'))|(apply ak (f:=206);exact rfl;exact rfl;exact FnIn.msub (gH x.g x.sa x.A _ x.cap k B _ cb 0 0 _ _ _ _) (MSub.pick pK (.refl _));rintro _ _ ⟨rfl,rfl⟩)|refine zZA ?_|refine sM fun _=>?_|(refine sC ?_ ?_<;>intro hb<;>try omega)|fail)
  all_goals first
   |(exfalso;omega)
   | (refine fW (x' := (t.at_, 4)) (k' := k) (out' := p.out) (B' := B) (cb' := cb) eIO rfl (by simp) (by omega) (Rg _) (Rg _) ?_
      simp only [Cx.B,rB,Re,QV,QW];exact mS)
 ·rw [if_neg hwk] at hrun;cases hrun;have hwt:fX fn n=true:=by
   cases h:fX fn n with
   |true=>rfl
   |false=>exact absurd (hwe.2 h) hwk
  rw [hwt] at hW;repeat' (first|(apply aa (f:=207);exact rfl;exact rfl;exact hN)|(apply aa (f:=321);exact rfl;exact rfl;(intro w' _;exact hW w'))|refine zZA ?_|refine sM fun _=>?_|(refine sC ?_ ?_<;>intro hb<;>try omega)|fail)
  all_goals try (exfalso;omega)
  refine jX 13 rfl (by kernel_rfl) ?_;((with_reducible apply aR (i:=0));exact rfl;exact rfl;(iterate 3 decide+kernel);exact nP;(intro _ _;exact vP));((with_reducible apply aR (i:=1));exact rfl;exact rfl;(iterate 3 decide+kernel);exact nP;(intro _ _;exact vP));((with_reducible apply aR (i:=2));exact rfl;exact rfl;(iterate 3 decide+kernel);exact nP;(intro _ _;exact vP));((with_reducible apply aR (i:=3));exact rfl;exact rfl;(iterate 3 decide+kernel);exact nP;(intro _ _;exact vP));((with_reducible apply aR (i:=5));exact rfl;exact rfl;(iterate 3 decide+kernel);exact nP;(intro _ _;exact vP));repeat' (first|(apply dh (i:=4) (j:=6);exact rfl;exact rfl;decide+kernel)|(apply dh (i:=4) (j:=7);exact rfl;exact rfl;decide+kernel)|(apply dh (i:=4) (j:=8);exact rfl;exact rfl;decide+kernel)|(apply aJ (i:=4);exact rfl;decide+kernel)|(apply aJ (i:=5);exact rfl;decide+kernel)|(apply aJ (i:=6);exact rfl;decide+kernel)|(apply aJ (i:=7);exact rfl;decide+kernel)|(apply aJ (i:=8);exact rfl;decide+kernel)|(apply aJ (i:=9);exact rfl;decide+kernel)|(apply aJ (i:=10);exact rfl;decide+kernel)|(apply aJ (i:=11);exact rfl;decide+kernel)|(apply aJ (i:=12);exact rfl;decide+kernel)|(apply jV;decide+kernel)|(apply aD;(iterate 3 exact rfl);exact pK;exact pK;exact rfl;(simp [bf,Value.oneCell']);omega;(simp only [maxLen];omega);intro g8 c8)|refine zZA ?_|refine sM fun _=>?_|(refine sC ?_ ?_<;>intro hb<;>try omega)|fail)
  all_goals first
   |(exfalso;omega)
   | (refine kH (k' := k + 1) (p' := p.skip.put ⟨3, bK, t.rect, 0, 0, 0⟩) (B' := some g8) (cb' := c8) eIO rfl hlt (Cx.skip hp) (TP k) (by simp only [PS.put, PS.skip, QT, QX]; omega) ?_
      simp only [PS.put,PS.skip,Cx.B,rB,QT,QX,Rp,Rl,RN,Rc,Re,QV,QW];exact mS)
theorem CU (f:Nat) (ihP:px f .prim 305 []):px (f+1) .pct 288 []:=by
 intro x k p B cb r R w0 hk hp hout hrun;refine bF Tryz.func288 rfl Tryz.ntmps288 rfl ?_;have hxt:=x.ht;dsimp only at hrun;rw [bw] at hrun;obtain ⟨r1,hr1,⟨e,rfl,rfl⟩|⟨n1,p1,rfl,hr2⟩⟩:=bI hrun
 ·repeat' (first|(apply ak (f:=305);exact rfl;exact rfl;exact FnIn.msub (ihP x k p B cb _ _ w0 hk hp hout hr1) (MSub.pick pK (MSub.pick pK (MSub.pick pK (MSub.refl _))));rintro _ _ ⟨rfl,k1,B1,cb1,o1,h1,h2,h3,h4,rfl⟩)|refine zZA ?_|refine sM fun _=>?_|(refine sC ?_ ?_<;>intro hb<;>try omega)|fail)
  refine aw [0] rfl (fun _:Unit=> []) (fun _=>x.B k1 B1 cb1 o1 e.1 e.2++R) (fun _=>True) (fun _=>0) () trivial sB (MSub.refl _) ?_;rintro ⟨⟩ _;repeat' (first|refine zZA ?_|refine sM fun _=>?_|(refine sC ?_ ?_<;>intro hb<;>try omega)|fail)
  all_goals first
   |(exfalso;omega)
   |exact absurd (by assumption) h1
   |exact fW eIO rfl h1 h2 h3 h4 (MSub.refl _)
 ·repeat' (first|(apply ak (f:=305);exact rfl;exact rfl;exact FnIn.msub (ihP x k p B cb _ _ w0 hk hp hout hr1) (MSub.pick pK (MSub.pick pK (MSub.pick pK (MSub.refl _))));rintro _ _ ⟨rfl,k1,B1,cb1,h1,h2,h3,h4,rfl⟩)|refine zZA ?_|refine sM fun _=>?_|(refine sC ?_ ?_<;>intro hb<;>try omega)|fail)
  refine aw [0] rfl (fun _:Nat × PS × Nat × Option Nat × Nat=> []) (fun y=>x.B y.2.2.1 y.2.2.2.1 y.2.2.2.2 y.2.1.out 0 0++R) (fun y=>y.2.2.1≤x.toks.length∧y.2.1.l=x.toks.drop y.2.2.1∧k≤y.2.2.1∧y.2.1.out.length+k≤p.out.length+y.2.2.1∧bw x.fin y.1 .pctl y.2.1=some r) (fun y=>y.1) (f,p1,k1,B1,cb1) ⟨h1,h2,h3,h4,hr2⟩ sB (MSub.refl _) ?_;clear hr1 hr2 h1 h2 h3 h4;rintro ⟨f',q,k2,B2,cb2⟩ ⟨h1,h2,h3,h4,hr2⟩;dsimp only at h1 h2 h3 h4 hr2 ⊢
  cases f' with
  |zero=>cases hr2
  |succ f' =>
    rw [bw] at hr2;try dsimp only at hr2
    obtain ⟨u,hu⟩: ∃ u,hdT x.fin q.l=u:=⟨_,rfl⟩;rw [hu] at hr2;have hd1:hdT x.fin (x.toks.drop k2)=u:=h2 ▸ hu;by_cases hk3:u.kind=8∧u.num=13
    ·rw [if_pos hk3] at hr2;have hlt1:=Cx.lt hd1 (by omega);repeat' (first|(apply aa (f:=261);exact rfl;exact rfl;exact fun w hm=>Cx.op hd1 7 (B:=B2) (cb:=cb2) (out:=q.out) (at_:=0) (e:=0) (MSub.pick pK (MSub.pick pK (MSub.pick pK (MSub.nil _)))) w hm)|(apply aD;(iterate 3 exact rfl);exact pK;exact pK;exact rfl;(simp [bf,Value.oneCell']);omega;(simp only [maxLen];omega);intro g8 c8)|refine zZA ?_|refine sM fun _=>?_|(refine sC ?_ ?_<;>intro hb<;>try omega)|fail)
     all_goals first
      |(exfalso;omega)
      |(exfalso;simp_all [Mi];done)
      | (refine ⟨(f', q.skip.put (dY 5 0), k2 + 1, some g8, c8), ⟨hlt1, Cx.skip h2, by dsimp only; omega, by simp only [PS.put, PS.skip, List.length_append, List.length_singleton]; omega, hr2⟩, Nat.lt_succ_self _, sB, sB, ?_⟩
         simp only [PS.put,PS.skip,Cx.B,rB,QT,QX,Rp,Rl,RN,Rc,QV,QW];exact mS)
    ·rw [if_neg hk3] at hr2;cases hr2;repeat' (first|(apply aa (f:=261);exact rfl;exact rfl;exact fun w hm=>Cx.op hd1 7 (B:=B2) (cb:=cb2) (out:=q.out) (at_:=0) (e:=0) (MSub.pick pK (MSub.pick pK (MSub.pick pK (MSub.nil _)))) w hm)|refine zZA ?_|refine sM fun _=>?_|(refine sC ?_ ?_<;>intro hb<;>try omega)|fail)
     all_goals first
      |(exfalso;omega)
      |(exfalso;simp_all [Mi];done)
      |exact kH eIO rfl h1 h2 h3 h4 (MSub.refl _)
structure Lv where
 f:Nat
 k:Nat
 B:Option Nat
 cb:Nat
 out:List Nd
 a:Int
 e:Int
def Lv.H (y:Lv) (x:Cx) (R:List Blk):List Blk:=x.B y.k y.B y.cb y.out y.a y.e++R
def Lv.ok (y:Lv) (x:Cx) (j:Nat→PS→Option Out) (k m:Nat) (r:Out) (f:Nat):Prop:=y.f≤f∧k≤y.k∧y.out.length+k≤m+y.k∧
 ((y.a=0∧y.e=0∧y.k≤x.toks.length∧j y.f ⟨x.toks.drop y.k,y.out⟩=some r)∨(y.e≠0∧y.k≤x.toks.length+1∧r= .error (y.a,y.e)))
def Lv.m (y:Lv):Nat:=if y.e=0 then y.f+1 else 0
theorem Dm {x:Cx} {R H:List Blk} {v:Value} {f k m k0 m0:Nat} {r r1:Out} {j:Nat→PS→Option Out} (hr2:(∃ e,r1= .error e∧r= .error e)∨(∃ n p',r1= .ok (n,p')∧j f p' =some r)) (hR:RR x k0 m0 R r1 v H) (hk:k≤k0) (hm:m0+k≤m+k0): ∃ f2 k2 B2 cb2 o2 a2 e2,(Lv.mk f2 k2 B2 cb2 o2 a2 e2).ok x j k m r f∧H=x.B k2 B2 cb2 o2 a2 e2++R:=by
 obtain ⟨_,hR⟩:=hR;rcases hr2 with ⟨e,rfl,rfl⟩|⟨n1,p1,rfl,hr2⟩
 ·obtain ⟨k1,B1,cb1,o1,h1,h2,h3,h4,rfl⟩:=hR;exact ⟨f,k1,B1,cb1,o1,e.1,e.2,⟨Nat.le_refl _,by dsimp only;omega,by dsimp only;omega,.inr ⟨h1,h2,rfl⟩⟩,rfl⟩
 ·obtain ⟨k1,B1,cb1,h1,h2,h3,h4,rfl⟩:=hR;refine ⟨f,k1,B1,cb1,p1.out,0,0,⟨Nat.le_refl _,by dsimp only;omega,by dsimp only;omega,.inl ⟨rfl,rfl,h1,?_⟩⟩,rfl⟩;dsimp only;rw [← h2];exact hr2
theorem IQ (f:Nat) (q:Int) (h1q:1≤q) (h5q:q≤5) (ihL:q≤4→ ∀ f' ≤f,px f' (.level (q+1)) 205 [.int .i64 (q+1)]) (ihS:px f .sign 260 []):px (f+1) (.level q) 205 [.int .i64 q]:=by
 intro x k p B cb r R w0 hk hp hout hrun;refine bF Tryz.func205 rfl Tryz.ntmps205 rfl ?_;have hxt:=x.ht;dsimp only at hrun;rw [bw] at hrun;by_cases hq5:q=5
 ·rw [if_pos hq5] at hrun;subst hq5;repeat' (first|(apply ak (f:=260);exact rfl;exact rfl;exact FnIn.msub (ihS x k p B cb _ _ w0 hk hp hout hrun) (MSub.pick pK (MSub.pick pK (MSub.pick pK (MSub.refl _))));rintro _ _ ⟨rfl,hR⟩)|refine zZA ?_|refine sM fun _=>?_|(refine sC ?_ ?_<;>intro hb<;>try omega)|fail)
  all_goals exact iP eIO rfl (MSub.refl _) ⟨rfl,hR⟩
 rw [if_neg hq5] at hrun;have ihL:=ihL (by omega);obtain ⟨r1,hr1,hr2⟩:=bI hrun;repeat' (first|(apply ai (d:=11);exact rfl;apply lh;exact rfl;exact rfl;exact ⟨by omega,by omega⟩)|(apply ak (f:=205);exact rfl;exact rfl;exact FnIn.msub (ihL f (Rg _) x k p B cb r1 _ w0 hk hp hout hr1) (MSub.pick pK (MSub.pick pK (MSub.pick pK (MSub.refl _))));rintro v1 H1 hR)|refine zZA ?_|refine sM fun _=>?_|(refine sC ?_ ?_<;>intro hb<;>try omega)|fail)
 all_goals try (exfalso;omega)
 obtain ⟨f0,k0,B0,cb0,o0,a0,e0,hy0,rfl⟩:=Dm (j:=fun f p=>bw x.fin f (.loop q) p) hr2 hR (Rg k) (Rg _);clear hr1 hr2 hR hrun;refine aw [0,1] rfl (fun _:Lv=> []) (fun y=>y.H x R) (fun y=>y.ok x (fun f p=>bw x.fin f (.loop q) p) k p.out.length r f) Lv.m ⟨f0,k0,B0,cb0,o0,a0,e0⟩ hy0 sB (MSub.refl _) ?_;rintro ⟨f',k1,B1,cb1,o1,a,e⟩ ⟨hf',h3,h4,hor⟩;dsimp only at hf' h3 h4 hor;simp only [Lv.H];rcases hor with ⟨rfl,rfl,h1,hr2⟩|⟨h1,h2,rfl⟩
 ·cases f' with
  |zero=>cases hr2
  |succ f' =>
   rw [bw] at hr2;try dsimp only at hr2
   obtain ⟨u,hd1⟩: ∃ u,hdT x.fin (x.toks.drop k1)=u:=⟨_,rfl⟩;rw [hd1] at hr2;by_cases hk3:u.kind=8∧iC u.num=q
   ·rw [if_pos hk3] at hr2;have hlt1:=Cx.lt hd1 (by omega);obtain ⟨r2,hr3,hr4⟩:=bI hr2;repeat' (first|(apply aa (f:=261);exact rfl;exact rfl;exact fun w hm=>Cx.op hd1 q (B:=B1) (cb:=cb1) (out:=o1) (at_:=0) (e:=0) (MSub.pick pK (MSub.pick pK (MSub.pick pK (MSub.nil _)))) w hm)|(apply aa (f:=207);exact rfl;exact rfl;exact fun w hm=>Cx.next hd1 (B:=B1) (cb:=cb1) (out:=o1) (at_:=0) (e:=0) (MSub.pick pK (MSub.pick pK (MSub.pick pK (MSub.nil _)))) w hm)|(apply ai;exact rfl;apply ee;exact rfl;exact rfl)|(apply ai (d:=35);exact rfl;apply lh;exact rfl;exact rfl;exact ⟨by omega,by omega⟩)|(apply ak (f:=205);exact rfl;exact rfl;exact FnIn.msub (ihL f' (by omega) x (k1+1) ⟨x.toks.drop (k1+1),o1⟩ B1 cb1 r2 _ w0 hlt1 rfl (by dsimp only;omega) (by rw [← List.tail_drop];exact hr3)) (MSub.pick pK (MSub.pick pK (MSub.pick pK (MSub.refl _))));rintro v1 H1 hR;obtain ⟨f2,k2,B2,cb2,o2,a2,e2,⟨hy1,hy2,hy3,hy4⟩,rfl⟩:=Dm (k:=k+1) (m:=p.out.length) (j:=fun f p=>bw x.fin f (.loop q) (p.put (dY 6 u.num))) hr4 hR (by omega) (by dsimp only;omega);dsimp only at hy1 hy2 hy3 hy4;have hkb:k2≤257:=by { rcases hy4 with ⟨_,_,h,_⟩|⟨_,h,_⟩<;>omega })|(apply aD;(iterate 3 exact rfl);exact pK;exact pK;exact rfl;(simp [bf,Value.oneCell']);omega;(simp only [maxLen];omega);intro g8 c8)|refine zZA ?_|refine sM fun _=>?_|(refine sC ?_ ?_<;>intro hb<;>try omega)|fail)
    all_goals first
     |(exfalso;omega)
     |(exfalso;simp_all;done)
     |skip
    refine ⟨⟨f2,k2,some g8,c8,o2++ [dY 6 u.num],a2,e2⟩,⟨by dsimp only;omega,by dsimp only;omega,by simp only [List.length_append,List.length_singleton];omega,hy4⟩,(by simp only [Lv.m,if_true];split<;>omega),sB,sB,?_⟩;simp only [Lv.H,Cx.B,rB,QT,QX,Rp,Rl,RN,Rc,QV,QW];exact mS
   ·rw [if_neg hk3] at hr2;cases hr2;repeat' (first|(apply aa (f:=261);exact rfl;exact rfl;exact fun w hm=>Cx.op hd1 q (B:=B1) (cb:=cb1) (out:=o1) (at_:=0) (e:=0) (MSub.pick pK (MSub.pick pK (MSub.pick pK (MSub.nil _)))) w hm)|refine zZA ?_|refine sM fun _=>?_|(refine sC ?_ ?_<;>intro hb<;>try omega)|fail)
    all_goals first
     |(exfalso;omega)
     |(exfalso;simp_all;done)
     |exact kH (p' :=⟨x.toks.drop k1,o1⟩) eIO rfl h1 rfl h3 h4 (MSub.refl _)
 ·repeat' (first|refine zZA ?_|refine sM fun _=>?_|(refine sC ?_ ?_<;>intro hb<;>try omega)|fail)
  all_goals first
   |(exfalso;omega)
   |exact absurd (by assumption) h1
   |exact fW (x' :=(a,e)) eIO rfl h1 h2 h3 h4 (MSub.refl _)
end Go.SL
