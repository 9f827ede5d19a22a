/-
  Lemmas and walks, put together: R4 R1 R2 Ha R6.
-/
import Derived.Test.YtoanpdoacdpgeaaGreatDoorKn16
import Derived.Test.YtoanpdoacdpgeaaGreatDoorKn27
set_option linter.unusedSimpArgs false
set_option linter.unusedVariables false
set_option maxRecDepth 20000
namespace Go.SL
open Go Go.Proofs
attribute [local irreducible] W WL WQ WG WA WX WLI WR WT WC VOp RW thn blk bE scp ba bo bL aP FnIn FnP ceP
structure DecP (l:List Int) (neg:Bool) (fr n:Nat) (D:List Int) (r:Int):Prop where
 negE:neg=decide (l.head? =some 45)
 frE:fr=if neg then 1 else 0
 nE:n=aF aH (l.drop fr)
 pos:n≠0
 len:D.length=n+4
 at1: ∀ k,k<n→D[k]? =l[fr+k]?
 at2: ∀ k,n≤k→k<n+4→D[k]? =some (l.getD (fr+k+1) 48)
 rnd:r=l.getD (fr+n+5) 48
 end_: ∀ k,fr+n<k→k<l.length→aH (l.getD k 0)=true
 res:fU l=if cC<bu D 0+(if 53≤r then 1 else 0) then (0,3) else (if neg then -(bu D 0+(if 53≤r then 1 else 0)) else bu D 0+(if 53≤r then 1 else 0),0)
theorem CA (l:List Int) (i k:Nat) (d:Int):(l.drop i).getD k d=l.getD (i+k) d:=by
 rw [Nx,Nx,OE]
theorem DecP.dig {l:List Int} {neg:Bool} {fr n:Nat} {D:List Int} {r:Int} (h:DecP l neg fr n D r) {k:Nat} {c:Int} (hk:D[k]? =some c):48≤c∧c≤57:=by
 have hlt:k<n+4:=by
  have:=(Nw.1 hk).1
  rw [h.len] at this;exact this
 rcases OO k n with h1|h1
 ·
  rw [h.at1 k h1] at hk
  refine (d9 c).1 (jn (l.drop fr) k c (by rw [← h.nE];exact h1) ?_)
  rw [OE];exact hk
 ·
  rw [h.at2 k h1 hlt] at hk
  injection hk with hk
  rcases OO (fr+k+1) l.length with h2|h2
  ·
   have:=h.end_ (fr+k+1) (by omega) h2
   rw [Nx,Nc h2] at this hk
   simp only [Pv] at this hk
   rw [hk] at this
   exact (d9 c).1 this
  ·
   rw [Nx,Oy h2] at hk
   simp only [Option.getD_none] at hk
   omega
theorem Fy (l:List Int) (neg:Bool) (hneg:neg=decide (l.head? =some 45)) (fr:Nat) (hfr:fr=if neg then 1 else 0) (n:Nat) (hn:n=aF aH (l.drop fr)) (e:Nat) (he:e=if l[fr+n]? =some 46 then fr+n+1+aF aH (l.drop (fr+n+1)) else fr+n):
  ((n=0∨e≠l.length∨e=fr+n+1)∧fU l=(0,4))∨(n≠0∧e=l.length∧e≠fr+n+1∧ ∃ D r,DecP l neg fr n D r):=by
 have hls:(if neg then l.tail else l)=l.drop fr:=by
  subst hfr
  cases neg<;>simp
 have hnl:n≤(l.drop fr).length:=hn ▸ bR aH _
 rw [Nq] at hnl
 have hfl:fr≤l.length:=by
  subst hfr
  cases neg with
  |false=>simp
  |true=>
   have:l.head? =some 45:=of_decide_eq_true hneg.symm
   cases l with
   |nil=>cases this
   |cons=>simp
 obtain ⟨rest,hrest⟩: ∃ rest,(l.drop fr).drop n=rest:=⟨_,rfl⟩
 have hr2:l.drop (fr+n)=rest:=by rw [← Ow];exact hrest
 have hrl:rest.length=l.length - (fr+n):=by rw [← hr2,Nq]
 have hhead:rest.head? =l[fr+n]? :=by rw [← hr2,List.head?_drop]
 have htail:rest.tail=l.drop (fr+n+1):=by rw [← hr2,Pu]
 have hrt:aF aH rest.tail≤rest.tail.length:=bR _ _
 rw [PO] at hrt
 rw [← hhead,← htail] at he
 obtain ⟨q,hq⟩: ∃ q,aF aH rest.tail=q:=⟨_,rfl⟩
 rw [hq] at he hrt
 have hdec: ∀ fc,(decide (1<rest.length) && (decide (rest.head? =some 46) && decide (q+1=rest.length)))=fc→fU l=if n=0∨(fc=false∧rest≠ []) then (0,4)
   else if cC<bu ((l.drop fr).take n++((if fc then rest.tail else [])++ [48,48,48,48,48]).take 4) 0+(if 53≤((if fc then rest.tail else [])++ [48,48,48,48,48]).getD 4 0 then 1 else 0) then (0,3)
   else (if neg then -(bu ((l.drop fr).take n++((if fc then rest.tail else [])++ [48,48,48,48,48]).take 4) 0+(if 53≤((if fc then rest.tail else [])++ [48,48,48,48,48]).getD 4 0 then 1 else 0)) else bu ((l.drop fr).take n++((if fc then rest.tail else [])++ [48,48,48,48,48]).take 4) 0+(if 53≤((if fc then rest.tail else [])++ [48,48,48,48,48]).getD 4 0 then 1 else 0),0):=by
  intro fc hfc
  unfold fU
  rw [← hneg]
  simp only [hls,← hn,hrest,hq,hfc]
 by_cases h0:n=0
 ·
  left
  refine ⟨.inl h0,?_⟩
  rw [hdec _ rfl,if_pos (.inl h0)]
 by_cases h46:rest.head? =some 46
 ·
  rw [if_pos h46] at he
  have hpos:0<rest.length:=by
   cases rest with
   |nil=>cases h46
   |cons=>simp
  by_cases hfin:1<rest.length∧q+1=rest.length
  ·
   right
   refine ⟨h0,by omega,by omega,?_⟩
   have hfrac:(decide (1<rest.length) && (decide (rest.head? =some 46) && decide (q+1=rest.length)))=true:=by simp [h46,hfin.1,hfin.2]
   have hd:=hdec _ hfrac
   simp only [if_true] at hd
   rw [if_neg (by simp [h0])] at hd
   have hall: ∀ k,fr+n<k→k<l.length→aH (l.getD k 0)=true:=fun k h1 h2=>by
    obtain ⟨j,rfl⟩: ∃ j,k=fr+n+1+j:=⟨k - (fr+n+1),by omega⟩
    have hj:j<aF aH rest.tail:=by omega
    refine jn rest.tail j _ hj ?_
    rw [htail,OE,Nx,Nc h2];rfl
   have hp5: ∀ k,k<5→(rest.tail++ [48,48,48,48,48])[k]? =some (l.getD (fr+n+k+1) 48):=fun k hk=>by
    rw [show fr+n+k+1=fr+n+1+k by omega,← CA,← htail]
    rw [Nx]
    rcases OO k rest.tail.length with h|h
    ·
     rw [OB h,Nc h];rfl
    ·
     rw [Ol h,Oy h]
     have:k - rest.tail.length<5:=by omega
     rcases (by omega:k - rest.tail.length=0∨k - rest.tail.length=1∨k - rest.tail.length=2∨k - rest.tail.length=3∨k - rest.tail.length=4) with h|h|h|h|h<;>rw [h]<;>rfl
   refine ⟨(l.drop fr).take n++(rest.tail++ [48,48,48,48,48]).take 4,(rest.tail++ [48,48,48,48,48]).getD 4 0,hneg,hfr,hn,h0,?_,?_,?_,?_,hall,hd⟩
   ·
    simp only [Na,Nu,Nq,NB,O4]
    omega
   ·
    intro k hk
    rw [OB (by simp;omega),O5 hk,OE]
   ·
    intro k h1 h2
    rw [Ol (by simp;omega)]
    rw [Nu,Nq,O1 (by omega),O5 (by omega),hp5 _ (by omega)]
    congr 2;omega
   ·
    rw [Nx,hp5 4 (by omega)];rfl
  ·
   left
   have hfrac:(decide (1<rest.length) && (decide (rest.head? =some 46) && decide (q+1=rest.length)))=false:=by
    simp only [h46,decide_true,NI,Oj,decide_eq_false_iff_not]
    omega
   refine ⟨by omega,?_⟩
   rw [hdec _ hfrac,if_pos (.inr ⟨rfl,fun h=>by rw [h] at hpos;exact Nat.lt_irrefl _ hpos⟩)]
 ·
  rw [if_neg h46] at he
  have hfrac:(decide (1<rest.length) && (decide (rest.head? =some 46) && decide (q+1=rest.length)))=false:=by simp [h46]
  have hd:=hdec _ hfrac
  simp only [Oo,if_false] at hd
  by_cases hnil:rest= []
  ·
   right
   have hlen:fr+n=l.length:=by rw [hnil] at hrl;simp at hrl;omega
   refine ⟨h0,by omega,by omega,?_⟩
   rw [if_neg (by simp [h0,hnil])] at hd
   have hp5: ∀ k,k<5→(([]:List Int)++ [48,48,48,48,48])[k]? =some (l.getD (fr+n+k+1) 48):=fun k hk=>by
    have e0:l.getD (fr+n+k+1) 48=48:=by rw [Nx,Oy (by omega)];rfl
    rw [e0]
    rcases (by omega:k=0∨k=1∨k=2∨k=3∨k=4) with h|h|h|h|h<;>rw [h]<;>rfl
   refine ⟨(l.drop fr).take n++(([]:List Int)++ [48,48,48,48,48]).take 4,(([]:List Int)++ [48,48,48,48,48]).getD 4 0,hneg,hfr,hn,h0,?_,?_,?_,?_,fun k h1 h2=>by omega,hd⟩
   ·
    simp;omega
   ·
    intro k hk
    rw [OB (by simp;omega),O5 hk,OE]
   ·
    intro k h1 h2
    rw [Ol (by simp;omega)]
    rw [Nu,Nq,O1 (by omega),O5 (by omega),hp5 _ (by omega)]
    congr 2;omega
   ·
    rw [Nx,hp5 4 (by omega)];rfl
  ·
   left
   have:0<rest.length:=OM.2 hnil
   refine ⟨by omega,?_⟩
   rw [hd,if_pos (.inr ⟨trivial,hnil⟩)]
section
variable {w0:World} {s:az} {H:List Blk} {ty t' :TypeId} {x y:Operand}
theorem Ew {a b:Vl} {c:Bool} (h:decide (a=b)=c) (hx:ev s x=some (.agg (di a).toArray)) (hy:ev s y=some (.agg (di b).toArray)):VOp Tryz.prog w0 s H (.binOp .eql 127 x y t') ty (.bool c):=by
 have h1:=Bx (w0:=w0) (H:=H) (ty:=ty) (t' :=t') hx hy
 rwa [DS,h] at h1
theorem Ey {a b:Rct} {c:Bool} (h:decide (a=b)=c) (hx:ev s x=some (.agg (bH a).toArray)) (hy:ev s y=some (.agg (bH b).toArray)):VOp Tryz.prog w0 s H (.binOp .eql 32 x y t') ty (.bool c):=by
 have h1:=Ll (w0:=w0) (H:=H) (ty:=ty) (t' :=t') hx hy
 rwa [DT,h] at h1
theorem mA {a b:Rct} {c:Bool} (h:decide (a=b)=c) (hx:ev s x=some (.agg (bH a).toArray)) (hy:ev s y=some (.agg (bH b).toArray)):VOp Tryz.prog w0 s H (.binOp .neq 32 x y t') ty (.bool (!c)):=by
 have h1:=Lf (w0:=w0) (H:=H) (ty:=ty) (t' :=t') hx hy
 rwa [DT,h] at h1
theorem vz {a b:Rf} {c:Bool} (h:decide (a=b)=c) (hx:ev s x=some (.agg (cw a).toArray)) (hy:ev s y=some (.agg (cw b).toArray)):VOp Tryz.prog w0 s H (.binOp .eql 50 x y t') ty (.bool c):=by
 have h1:=Gy (w0:=w0) (H:=H) (ty:=ty) (t' :=t') hx hy
 rwa [DW,h] at h1
end
theorem sK (a b:Rf) (w:World):ay Tryz.prog 114 [.agg (cw a).toArray,.agg (cw b).toArray] w (.bool (eQ a b)):=by
 refine aq Tryz.func114 rfl Tryz.ntmps114 rfl ?_
 repeat' (first|refine sT ?_|refine sM fun _=> ?_|(refine sC ?_ ?_<;>intro hb<;>try omega)|fail)
 all_goals ((refine rT1 ?_);((try simp only [← Int.not_lt] at*);simp_all [eQ, -Int.not_lt, -Int.not_le,← Int.not_lt]))
theorem gT (a:Rf) (w:World):ay Tryz.prog 320 [.agg (cw a).toArray] w (.agg (bH (oU a.col a.row)).toArray):=by
 refine aq Tryz.func320 rfl Tryz.ntmps320 rfl ?_
 repeat' (first|refine sT ?_|refine sM fun _=> ?_|(refine sC ?_ ?_<;>intro hb<;>try omega)|fail)
 all_goals ((refine eRC ?_);rfl)
theorem iy {a:ByteArray} {i:Nat} (h:a.size≤i):bat a i=0:=by
 rw [bat,Nx,Oy (by rw [av];exact h)];rfl
theorem lL (a:ByteArray) (ha:a.size≤1000000) (i:Nat) (w:World):ay Tryz.prog 281 [.string a,.int .i64 (i:Int)] w (.bool (aH (bat a i))):=by
 refine aq Tryz.func281 rfl Tryz.ntmps281 rfl ?_
 have h0:=fun h:a.size≤i=>iy h
 generalize hc:bat a i=c at h0
 repeat' (first|(apply ak;exact rfl;apply aZ (j:=i);exact rfl;exact rfl;omega)|(rw [hc])|refine sT ?_|refine sT2 ?_|refine sM fun _=> ?_|(refine sC ?_ ?_<;>intro hb<;>try omega)|fail)
 all_goals ((refine rT1 ?_);(try rw [h0 (by omega)]);simp_all [aH];try omega)
theorem kN (a:ByteArray) (ha:a.size≤1000000) (i:Nat) (w:World):ay Tryz.prog 284 [.string a,.int .i64 (i:Int)] w (.bool (bO (bat a i))):=by
 refine aq Tryz.func284 rfl Tryz.ntmps284 rfl ?_
 have h0:=fun h:a.size≤i=>iy h
 generalize hc:bat a i=c at h0
 repeat' (first|(apply ak;exact rfl;apply aZ (j:=i);exact rfl;exact rfl;omega)|(rw [hc])|refine sT ?_|refine sT2 ?_|refine sM fun _=> ?_|(refine sC ?_ ?_<;>intro hb<;>try omega)|fail)
 all_goals ((refine rT1 ?_);(try rw [h0 (by omega)]);simp_all [bO];try omega)
def zJ (c:Int):Int:=if bO c then upC c - 64 else 0
theorem nK (c:Int) (h0:0≤c) (h1:c<256) (w:World):ay Tryz.prog 359 [.int .u8 c] w (.int .i64 (zJ c)):=by
 refine aq Tryz.func359 rfl Tryz.ntmps359 rfl ?_
 repeat' (first|(apply ak (d:=10);exact rfl;apply dw (c:=c - 65);exact rfl;exact rfl;exact eC (by omega) (by omega))|(apply ak (d:=20);exact rfl;apply dw (c:=c - 97);exact rfl;exact rfl;exact eC (by omega) (by omega))|(apply ak (d:=11);exact rfl;apply bP (c:=c - 65);exact rfl;exact I64.wrap ⟨by omega,by omega⟩)|(apply ak (d:=21);exact rfl;apply bP (c:=c - 97);exact rfl;exact I64.wrap ⟨by omega,by omega⟩)|(apply ak (d:=12);exact rfl;apply da;exact rfl;exact rfl;exact ⟨by omega,by omega⟩)|(apply ak (d:=22);exact rfl;apply da;exact rfl;exact rfl;exact ⟨by omega,by omega⟩)|refine sT ?_|refine sM fun _=> ?_|(refine sC ?_ ?_<;>intro hb<;>try omega)|fail)
 all_goals
  (refine rT1 ?_)
  unfold zJ upC
  first
   |(rw [if_pos ((gD c).2 (by omega)),if_pos (by omega)];congr 1;omega)
   |(rw [if_pos ((gD c).2 (by omega)),if_neg (by omega)];congr 1;omega)
   |(rw [if_neg (by rw [gD];omega)])
set_option maxHeartbeats 1000000 in
theorem jB (a:ByteArray) (ha:a.size≤1000000) (w:World):ay Tryz.prog 188 [.string a] w (.string (upB a)):=by
 refine aq Tryz.func188 rfl Tryz.ntmps188 rfl ?_
 repeat' (first|(apply kE;exact rfl;exact rfl;intro gb cap)|refine sT ?_|refine sM fun _=> ?_|(refine sC ?_ ?_<;>intro hb<;>try omega)|fail)
 refine ax [3] rfl (fun i:Nat=> [(4,.int .i64 (i:Int))]) (fun i=> [.byt gb 5 a.size cap ((((ap a).take i).map upC++(ap a).drop i).map (Value.int .u8))]) (fun i=>i≤a.size) (fun i=>a.size - i) 0 (by omega) sB ?_ ?_
 ·
  rw [mJ];simp only [OA,OD,Ng,OC];exact mS
 intro i hi
 have hl:=av a
 by_cases hlt:i<a.size
 ·
  have hil:i<(ap a).length:=by omega
  have hok:=kU a (ap a)[i] (NW hil)
  have hget:((((ap a).take i).map upC++(ap a).drop i).map (Value.int .u8))[0+i*1]? =some (.int .u8 (ap a)[i]):=by
   rw [Om,show 0+i*1=i by omega,Ol (by simp;omega)]
   simp [O1 (Nat.le_of_lt hil),OE]
  have hstep:97≤(ap a)[i]∧(ap a)[i]≤122→upC (ap a)[i]=(ap a)[i] - 32:=fun h=>by rw [upC,if_pos h]
  have hsame: ¬ (97≤(ap a)[i]∧(ap a)[i]≤122)→upC (ap a)[i]=(ap a)[i]:=fun h=>by rw [upC,if_neg h]
  have hupd:=rZ upC (Value.int .u8) (ap a) i hil
  have hkeep: ∀ v,(((ap a).take i).map upC++(ap a).drop i).map (Value.int .u8)=v→upC (ap a)[i]=(ap a)[i]→v=(((ap a).take (i+1)).map upC++(ap a).drop (i+1)).map (Value.int .u8):=fun v hv hs=>by
   rw [← hupd,hs,← hv]
   rw [show 0+i*1=i by omega] at hget
   obtain ⟨h1,h2⟩:=Nw.1 hget
   rw [← h2,List.set_getElem_self]
  generalize (ap a)[i]=c at hget hok hstep hsame hupd hkeep
  repeat' (first|(apply ak;exact rfl;apply aj;exact rfl;exact rfl;exact hlt)|(apply ak;exact rfl;apply ji;exact rfl;exact pK;exact hget)|(apply ak (d:=31);exact rfl;apply dw (c:=c - 32);exact rfl;exact rfl;exact eC (by omega) (by omega))|(apply kF;exact rfl;exact rfl;exact pK;exact rfl;(simp;omega))|refine sT ?_|refine sS ?_|refine sW ?_|refine sN ?_|refine sWN ?_|refine sM fun _=> ?_|(refine sC ?_ ?_<;>intro hb<;>try omega)|(refine sCW ?_ ?_<;>intro hb<;>try omega)|fail)
  ·
   rw [show 0+i*1=i by omega,← hstep ⟨by assumption,by assumption⟩,hupd]
   exact ⟨i+1,hlt,by omega,sB,sB,mS⟩
  ·
   exact ⟨i+1,hlt,by omega,sB,sB,(by rw [← hkeep _ rfl (hsame (by omega))];exact mS)⟩
  ·
   exact ⟨i+1,hlt,by omega,sB,sB,(by rw [← hkeep _ rfl (hsame (by omega))];exact mS)⟩
 ·
  have e2:i=a.size:=by omega
  subst e2
  rw [NQ (by omega),NC (by omega),Nl]
  repeat' (first|(apply ak (d:=34);exact rfl;apply pO;exact rfl;exact pK;(rw [Oi];omega))|refine sT ?_|refine sS ?_|refine sM fun _=> ?_|(refine sC ?_ ?_<;>intro hb<;>try omega)|fail)
  (refine rT1 ?_)
  rfl
theorem y7 (b:Bool) (w:World):ay Tryz.prog 189 [.bool b] w (.agg (di (kH b)).toArray):=by
 refine aq Tryz.func189 rfl Tryz.ntmps189 rfl ?_
 repeat' (first|refine sT ?_|refine sM fun _=> ?_|(refine sC ?_ ?_<;>intro hb<;>try omega)|fail)
 all_goals ((refine eRC ?_);simp_all [kH,di,au])
theorem nN (c:Int) (w:World):ay Tryz.prog 191 [.int .i64 c] w (.agg (di (fM c)).toArray):=by
 refine aq Tryz.func191 rfl Tryz.ntmps191 rfl ?_
 repeat' (first|refine sT ?_|refine sM fun _=> ?_|(refine sC ?_ ?_<;>intro hb<;>try omega)|fail)
 all_goals ((refine eRC ?_);simp only [fM];(first|rw [if_pos (by omega)]|rw [if_neg (by omega)]);rfl)
theorem B6 (n:Int) (h: -9223372036854775808≤n) (w:World):ay Tryz.prog 193 [.int .i64 n] w (.agg (di (tE n)).toArray):=by
 refine aq Tryz.func193 rfl Tryz.ntmps193 rfl ?_
 have hf: ∀ w,ay Tryz.prog 191 [.int .i64 3] w (.agg #[.int .u8 4,.int .i64 3,.string au]):=fun w=>nN 3 w
 repeat' (first|(apply aa;exact rfl;exact rfl;(intro w hm;exact hf w))|refine sT ?_|refine sM fun _=> ?_|(refine sC ?_ ?_<;>intro hb<;>try omega)|fail)
 ·
  (refine eRC ?_)
  rw [tE,if_pos (by omega)];rfl
 ·
  (refine eRC ?_)
  rw [tE,if_neg (by omega)];rfl
def Km (c:Int):ByteArray:=if 1≤c∧c≤7 then cy.getD c.toNat au else au
theorem vM (c:Int) (w:World):ay Tryz.prog 234 [.int .i64 c] w (.string (Km c)):=by
 refine aq Tryz.func234 rfl Tryz.ntmps234 rfl ?_
 repeat' (first|refine sT ?_|refine sS ?_|refine sM fun _=> ?_|(refine sC ?_ ?_<;>intro hb<;>try omega)|fail)
 all_goals first
  |((refine rT1 ?_);subst_vars;rfl)
  |((refine rT1 ?_);rw [Km,if_neg (by omega)];rfl)
theorem Cc (a:ByteArray) (ha:a.size≤1000000) (w:World):ay Tryz.prog 190 [.string a] w (.tuple #[.int .i64 (gM a).1,.int .i64 (gM a).2]):=by
  refine aq Tryz.func190 rfl Tryz.ntmps190 rfl ?_
  have hU:=fun w=>jB a ha w
  unfold gM
  generalize upB a=u at hU
  obtain ⟨X,hX⟩: ∃ X,iD u (cy.drop 1) 1=X:=⟨_,rfl⟩
  rw [hX]
  repeat' (first|refine sT ?_|refine sS ?_|refine sM fun _=> ?_|(refine sC ?_ ?_<;>intro hb<;>try omega)|fail)
  refine ax [0,2,3] rfl (fun i:Nat=> [(4,.int .i64 ((i:Int)+1))]) (fun _=> []) (fun i=>i≤7∧X=iD u (cy.drop (i+1)) ((i:Int)+1)) (fun i=>7 - i) 0 ⟨by omega,hX.symm⟩ sB (.refl _) ?_
  rintro i ⟨hi,hc⟩
  by_cases hlt:i<7
  · rw [qf (by omega),iD] at hc
    have hN: ∀ w,ay Tryz.prog 234 [.int .i64 ((i:Int)+1)] w (.string (cy.getD (i+1) au)):=fun w=>by
      have:=vM ((i:Int)+1) w
      rw [Km,if_pos (by omega)] at this
      exact this
    generalize cy.getD (i+1) au=x at hN hc
    repeat' (first|(apply aa (f:=234);exact rfl;exact rfl;(intro w' hm;exact hN w'))|(apply aa;exact rfl;exact rfl;(intro w hm;exact hU w))|refine sT ?_|refine sS ?_|refine sJ ?_|refine sM fun _=> ?_|(refine sC ?_ ?_<;>intro hb<;>try omega)|fail)
    all_goals first
      |(refine iJ eIO rfl rfl rfl (.nil _) ?_;rw [hc,if_pos (by assumption)];done)
      | (refine ⟨i + 1, ⟨by omega, ?_⟩, by omega, ?_, ?_, .nil _⟩
         · rw [hc,if_neg (by assumption)];rfl
         · exact sB
         · exact sB)
  · have e:i=7:=by omega
    subst e
    repeat' (first|refine sT ?_|refine sS ?_|refine sM fun _=> ?_|(refine sC ?_ ?_<;>intro hb<;>try omega)|fail)
    all_goals (refine iJ eIO rfl rfl rfl (.nil _) ?_;rw [hc];rfl)
theorem BW (c:Int) (h1:1≤c) (h2:c≤5) (w:World):ay Tryz.prog 321 [.agg (di ⟨4,c,au⟩).toArray] w (.string (cy.getD c.toNat au)):=by
 refine aq Tryz.func321 rfl Tryz.ntmps321 rfl ?_
 have he:decide ((⟨4,c,au⟩:Vl)=fM 7)=false:=by rw [← DS];simp [eqV,fM];omega
 have hv:nB ⟨4,c,au⟩=0:=by
  have h6:decide (c≤6)=true:=decide_eq_true (by omega)
  simp [nB,rP,h1,h6]
 have hc:=fun w=>vL ⟨4,c,au⟩ (by dsimp only;omega) w
 rw [hv] at hc
 have hN:=fun w=>vM c w
 rw [show Km c=cy.getD c.toNat au from if_pos ⟨h1,by omega⟩] at hN
 repeat' (first|(apply (bp (id:=1) [1] []);kernel_rfl;kernel_rfl;kernel_rfl)|(apply aa;exact rfl;exact rfl;(intro w hm;exact nN 7 w))|(apply bZ;(iterate 3 exact rfl);apply Ew (a:=⟨4,c,au⟩) (b:=fM 7) he;exact rfl;exact rfl)|(apply aa;exact rfl;exact rfl;(intro w hm;exact hc w))|(apply aa;exact rfl;exact rfl;(intro w hm;exact hN w))|refine sT ?_|refine sW ?_|refine sM fun _=> ?_|(refine sC ?_ ?_<;>intro hb<;>try omega)|(refine sCW ?_ ?_<;>intro hb<;>try omega)|fail)
 all_goals ((refine rT1 ?_);rfl)
end Go.SL
namespace Go.SL
open Go Go.Proofs
attribute [local irreducible] W WL WQ WG WA WX WLI WR WT WC WE VOp RW thn blk bE scp ba bo bL aP FnIn FnP ceP
def df (n:Int):BitVec 64 × Int:=if n<0∨64<n then (0#64,3) else (xT n.toNat,0)
theorem x9 (n:Int) (w:World):ay Tryz.prog 87 [.int .i64 n] w (.tuple #[vS (df n).1,.int .i64 (df n).2]):=by
 refine aq Tryz.func87 rfl Tryz.ntmps87 rfl ?_
 by_cases h:n<0∨64<n
 ·
  rw [df,if_pos h]
  repeat' (first|refine sT ?_|refine sM fun _=> ?_|(refine sC ?_ ?_<;>intro hb<;>try omega)|fail)
  all_goals first|(exfalso;omega)|((refine rT2 ?_);rfl)|trace_state
 ·
  rw [df,if_neg h]
  obtain ⟨m,rfl⟩: ∃ m:Nat,n=(m:Int):=⟨n.toNat,by omega⟩
  repeat' (first|(apply ak;exact rfl;apply wT (a:=1#64) (m:=m);exact rfl;exact rfl;omega)|(apply ak;exact rfl;apply Jy (b:=1#64);exact rfl;exact rfl)|refine sT ?_|refine sM fun _=> ?_|(refine sC ?_ ?_<;>intro hb<;>try omega)|fail)
  all_goals first|(exfalso;omega)|((refine rT2 ?_);rfl)|trace_state
theorem pG (x:BitVec 64) (u:Int) (w:World):ay Tryz.prog 118 [vS x,.int .i64 u] w (.bool (fE x u)):=by
 refine aq Tryz.func118 rfl Tryz.ntmps118 rfl ?_
 by_cases h:0≤u∧u<64
 ·
  obtain ⟨m,rfl⟩: ∃ m:Nat,u=(m:Int):=⟨u.toNat,by omega⟩
  have hs:=JX x m
  have he:fE x (m:Int)=x.getLsbD m:=by simp [fE];omega
  rw [he]
  repeat' (first|(apply ak;exact rfl;apply JA (a:=x) (m:=m);exact rfl;exact rfl;omega)|(apply ak;exact rfl;apply ou (b:=1#64);exact rfl;exact rfl)|(apply ak;exact rfl;apply Dr (b:=1#64);exact rfl;exact rfl)|refine sT ?_|refine sM fun _=> ?_|(refine sC ?_ ?_<;>intro hb<;>try omega)|fail)
  all_goals first|(exfalso;omega)|((refine rT1 ?_);exact congrArg Value.bool hs)|trace_state
 ·
  have he:fE x u=false:=by
   unfold fE
   by_cases h1:0≤u
   ·
    have h2: ¬ u<64:=fun h2=>h ⟨h1,h2⟩
    simp [h2]
   ·
    simp [h1]
  rw [he]
  repeat' (first|refine sT ?_|refine sM fun _=> ?_|(refine sC ?_ ?_<;>intro hb<;>try omega)|fail)
  all_goals first|(exfalso;omega)|((refine rT1 ?_);rfl)|trace_state
theorem FR (L:List (BitVec 64)) (lv:Value) (w:World) (hl:Reads w lv L.length (L.map vS)):ay Tryz.prog 142 [lv] w (vS (ja L)):=by
 obtain ⟨Al,cl,rfl,hl1,hl2,hl3⟩:=hl
 refine aq Tryz.func142 rfl Tryz.ntmps142 rfl ?_
 repeat' (first|refine sT ?_|refine sM fun _=> ?_|(refine sC ?_ ?_<;>intro hb<;>try omega)|fail)
 refine ax [6,7] rfl (fun i:Nat=> [(3,vS (ja (L.take i))),(8,.int .i64 (i:Int))]) (fun _=> []) (fun i=>i≤L.length) (fun i=>L.length - i) 0 (Ns _) sB mS ?_
 rintro i hi
 by_cases hlt:i<L.length
 ·
  obtain ⟨gl,ol,rfl,hrl⟩:=hl3 (by omega)
  have he1:=hrl.cellV i (v:=vS L[i]) (by rw [Om,Nc hlt];rfl)
  have hs:ja (L.take (i+1))=ja (L.take i) &&& L[i]:=by rw [Nk hlt,wE]
  repeat' (first|(apply ak;exact rfl;apply ou;exact rfl;exact rfl)|refine sT ?_|refine sN ?_|refine sO ?_|refine sM fun _=> ?_|(refine sC ?_ ?_<;>intro hb<;>try omega)|fail)
  all_goals first
   |(exfalso;omega)
   |(refine ⟨i+1,hlt,by omega,?_,by exact sB,by exact mS⟩;rw [hs];exact sB)
   |trace_state
 ·
  have e:i=L.length:=by omega
  subst e
  repeat' (first|refine sT ?_|refine sM fun _=> ?_|(refine sC ?_ ?_<;>intro hb<;>try omega)|fail)
  all_goals first
   |(exfalso;omega)
   |((refine rT1 ?_);rw [N0])
   |trace_state
theorem gU {r:Rct} (h:eP r≠0):aI r=false:=by
 cases hq:aI r
 ·
  rfl
 ·
  exact absurd (by rw [eP,hq];rfl) h
theorem eO {r:Rct} (h: ¬ eP r≠0): ¬ aI r=false:=fun hq=>h (by rw [eP,hq];decide)
def lH:Rct:=⟨1,1,1024,1024⟩
def fS (u:Int):List Rl→Int→Int × Int
 | [],_=>(0,0)
 |r::L,i=>if aI r.rect=false then (i,3) else if (r.read|||r.write|||r.own) &&& ~~~(df u).1≠0#64 then (i,2) else fS u L (i+1)
def iF (u:Int) (L:List Rl):Int × Int:=
 if u<0∨64<u∨u=0∨L= [] then (0,2) else if 64<L.length then (64,5) else if (L.head?.map (·.rect))≠some lH then (0,2) else fS u L 0
theorem GJ (w:World):ay Tryz.prog 117 [] w (.agg (bH lH).toArray):=by
 refine aq Tryz.func117 rfl Tryz.ntmps117 rfl ?_
 repeat' (first|refine sT ?_|refine sM fun _=> ?_|(refine sC ?_ ?_<;>intro hb<;>try omega)|fail)
 (refine eRC ?_)
 rfl
theorem Rl.ro {w:World} {g o:Nat} {r:Rl} (h:Ro w g o (aV r)):Ro w g o (bH r.rect)∧Ro w g (o+4) [vS r.read]∧Ro w g (o+5) [vS r.write]∧Ro w g (o+6) [vS r.own]∧Ro w g (o+4) [vS r.read,vS r.write,vS r.own]:=
 ⟨h.take (k:=4),(h.drop (k:=4)).take (k:=1),(h.drop (k:=5)).take (k:=1),h.drop (k:=6),h.drop (k:=4)⟩
set_option maxHeartbeats 4000000 in
theorem mf (u:Int) (L:List Rl) (lv:Value) (w:World) (hl:Reads w lv L.length (L.flatMap aV)):ay Tryz.prog 60 [.int .i64 u,lv] w (.tuple #[.int .i64 (iF u L).1,.int .i64 (iF u L).2]):=by
 obtain ⟨Al,cl,rfl,hl1,hl2,hl3⟩:=hl
 refine aq Tryz.func60 rfl Tryz.ntmps60 rfl ?_
 have hA:=fun w=>x9 u w
 unfold iF
 have hE:(df u).2=if u<0∨64<u then 3 else 0:=by unfold df;split<;>rfl
 by_cases h1:u<0∨64<u∨u=0∨L= []
 ·
  rw [if_pos h1]
  generalize df u=ae at hA hE
  obtain ⟨sa,ee⟩:=ae
  dsimp only at hA hE
  subst hE
  have h1' : ¬ (u<0∨64<u)→u≠0→L.length=0:=fun h2 h3=>by
   rcases h1 with h|h|h|h
   ·
    exact absurd (.inl h) h2
   ·
    exact absurd (.inr h) h2
   ·
    exact absurd h h3
   ·
    rw [h];rfl
  clear h1
  by_cases h2:u<0∨64<u
  ·
   rw [if_pos h2] at hA
   repeat' (first|(apply aa;exact rfl;exact rfl;(intro w hm;exact hA w))|refine sT ?_|refine sM fun _=> ?_|(refine sC ?_ ?_<;>intro hb<;>try omega)|fail)
   all_goals first|(exfalso;omega)|((refine rT2 ?_);rfl)|trace_state
  ·
   rw [if_neg h2] at hA
   have h3:=h1' h2
   repeat' (first|(apply aa;exact rfl;exact rfl;(intro w hm;exact hA w))|refine sT ?_|refine sM fun _=> ?_|(refine sC ?_ ?_<;>intro hb<;>try omega)|fail)
   all_goals first|(exfalso;omega)|((refine rT2 ?_);rfl)|trace_state
 rw [if_neg h1]
 have hu: ¬ (u<0∨64<u)∧u≠0:=⟨fun h=>h1 (h.elim .inl fun h=> .inr (.inl h)),fun h=>h1 (.inr (.inr (.inl h)))⟩
 have hpos:0<L.length:=OM.2 fun h=>h1 (.inr (.inr (.inr h)))
 rw [if_neg hu.1] at hE
 rw [hE] at hA
 obtain ⟨sa,has⟩: ∃ sa,sa=(df u).1:=⟨_,rfl⟩
 rw [← has] at hA
 obtain ⟨gl,ol,rfl,hrl⟩:=hl3 hpos
 by_cases h64:64<L.length
 ·
  rw [if_pos h64]
  repeat' (first|(apply aa;exact rfl;exact rfl;(intro w hm;exact hA w))|refine sT ?_|refine sM fun _=> ?_|(refine sC ?_ ?_<;>intro hb<;>try omega)|fail)
  all_goals first|(exfalso;omega)|((refine rT2 ?_);rfl)|trace_state
 rw [if_neg h64]
 obtain ⟨h0a,_⟩:=Rl.ro (hrl.elem cI 0 hpos)
 have hsh:=fun w=>GJ w
 have hhd:L.head?.map (·.rect)=some L[0].rect:=by rw [List.head?_eq_getElem?,Nc hpos];rfl
 rw [hhd]
 obtain ⟨c,hc⟩: ∃ c,decide (L[0].rect=lH)=c:=⟨_,rfl⟩
 have hcs:(some L[0].rect≠some lH)↔c=false:=by rw [← hc];simp
 generalize L[0].rect=r0 at h0a hc hcs ⊢
 simp only [hcs]
 clear hhd hcs
 cases c with
 |false=>
  repeat' (first|(apply aa;exact rfl;exact rfl;(intro w hm;exact hA w))|(apply eF (f:=117);exact rfl;exact rfl;(intro w' _;exact hsh w'))|(apply aS;exact rfl;apply aj (j:=0);exact rfl;exact rfl;exact hpos)|(apply aS;exact rfl;apply aA (xs:=bH r0);exact rfl;exact h0a;exact rfl)|(apply aS;exact rfl;apply mA hc;exact rfl;exact rfl)|refine sT ?_|refine sQ ?_|refine sN ?_|refine sNQ ?_|refine sO ?_|refine sOQ ?_|refine sD ?_|refine sM fun _=> ?_|(refine sC ?_ ?_<;>intro hb<;>try omega)|(refine sCQ ?_ ?_<;>intro hb<;>try omega)|fail)
  all_goals first|(exfalso;omega)|((refine rT2 ?_);rfl)|trace_state
 |true=>
  repeat' (first|(apply aa;exact rfl;exact rfl;(intro w hm;exact hA w))|(apply eF (f:=117);exact rfl;exact rfl;(intro w' _;exact hsh w'))|(apply aS;exact rfl;apply aj (j:=0);exact rfl;exact rfl;exact hpos)|(apply aS;exact rfl;apply aA (xs:=bH r0);exact rfl;exact h0a;exact rfl)|(apply aS;exact rfl;apply mA hc;exact rfl;exact rfl)|refine sT ?_|refine sQ ?_|refine sN ?_|refine sNQ ?_|refine sO ?_|refine sOQ ?_|refine sD ?_|refine sM fun _=> ?_|(refine sC ?_ ?_<;>intro hb<;>try omega)|(refine sCQ ?_ ?_<;>intro hb<;>try omega)|fail)
  all_goals try (exfalso;omega)
  refine ax [1,6,37,38] rfl (fun i:Nat=> [(39,.int .i64 (i:Int))]) (fun _=> []) (fun i=>i≤L.length∧fS u L 0=fS u (L.drop i) (i:Int)) (fun i=>L.length - i) 0 ⟨Ns _,rfl⟩ sB mS ?_
  rintro i ⟨hi,hrec⟩
  by_cases hlt:i<L.length
  ·
   have he1:=hrl.elem cI i hlt
   rw [Nn hlt,fS,← has] at hrec
   generalize L[i]=r at hrec he1
   have hck:=fun w=>gA r.rect w
   repeat' (first|(apply aa;exact rfl;exact rfl;(intro w hm;exact hck w))|(apply ak;exact rfl;apply dg;exact rfl;exact rfl)|(apply ak;exact rfl;apply dR (b:=sa);exact rfl;exact rfl)|(apply ak;exact rfl;apply ib (b:=0#64);exact rfl;exact rfl)|refine sT ?_|refine sN ?_|refine sO ?_|refine sM fun _=> ?_|(refine sC ?_ ?_<;>intro hb<;>try omega)|fail)
   all_goals first
    |(exfalso;omega)
    |((refine rT2 ?_);rw [if_neg (by decide),hrec,if_pos (gU hb)];done)
    |((refine rT2 ?_);rw [if_neg (by decide),hrec,if_neg (eO ‹_›),if_pos hb];done)
    |(refine ⟨i+1,⟨hlt,by rw [hrec,if_neg (eO ‹_›),if_neg (fun h=>h hb)];rfl⟩,by omega,by exact sB,by exact sB,by exact mS⟩;done)
    |trace_state
  ·
   have e:i=L.length:=by omega
   subst e
   rw [NF,fS] at hrec
   rw [if_neg (by decide),hrec]
   repeat' (first|refine sT ?_|refine sM fun _=> ?_|(refine sC ?_ ?_<;>intro hb<;>try omega)|fail)
   all_goals first|(exfalso;omega)|((refine rT2 ?_);rfl)|trace_state
end Go.SL
namespace Go.SL
open Go Go.Proofs
attribute [local irreducible] W WL WQ WG WA WX WLI WR WT WC VOp RW thn blk bE scp ba bo bL aP FnIn FnP ceP
theorem ig (p:Int→Bool): ∀ l:List Int,l.takeWhile p=l.take (aF p l)∧l.dropWhile p=l.drop (aF p l)
 | []=>⟨rfl,rfl⟩
 |c::r=>by
  simp only [PU,List.dropWhile_cons,aF]
  split
  ·
   exact ⟨by rw [(ig p r).1];rfl,by rw [(ig p r).2];rfl⟩
  ·
   exact ⟨rfl,rfl⟩
theorem xa (a:ByteArray) (ha:a.size≤1000000) (h0:0<a.size) (hlet: ∀ c∈ap a,bO c=true) (w:World):ay Tryz.prog 360 [.string a] w (.tuple #[.int .i64 (if 1024<bq (ap a) 0 then 0 else bq (ap a) 0),.int .i64 (if 1024<bq (ap a) 0 then 3 else 0)]):=by
 refine aq Tryz.func360 rfl Tryz.ntmps360 rfl ?_
 have hl:=av a
 have hpos:=kT (ap a) hlet (OH 0) (.inl (fun h=>by rw [h] at hl;simp at hl;omega))
 obtain ⟨X,hX⟩: ∃ X,bq (ap a) 0=X:=⟨_,rfl⟩
 rw [hX] at hpos ⊢
 repeat' (first|refine sT ?_|refine sS ?_|refine sT2 ?_|refine sM fun _=> ?_|(refine sC ?_ ?_<;>intro hb<;>try omega)|fail)
 refine ax [0] rfl (fun x:Nat × Int=> [(5,.int .i64 (x.1:Int)),(4,.int .i64 x.2)]) (fun _=> []) (fun x=>x.1≤a.size∧0≤x.2∧x.2≤1025∧X=bq ((ap a).drop x.1) x.2) (fun x=>a.size - x.1) (0,0) ⟨by simp,by simp,by simp,hX.symm⟩ sB (.refl _) ?_
 rintro ⟨i,v⟩ ⟨hi,hv0,hv1,hx⟩
 dsimp only at hi hv0 hv1 hx ⊢
 by_cases hlt:i<a.size
 ·
  have hc:=hlet (bat a i) (List.mem_of_getElem? (fR hlt))
  have hok:=qc a i
  rw [bk hlt,bq] at hx
  have hN:=fun w=>nK (bat a i) hok.1 hok.2 w
  have hN1:zJ (bat a i)=upC (bat a i) - 64:=by rw [zJ,if_pos hc]
  have hN2:1≤upC (bat a i) - 64∧upC (bat a i) - 64≤26:=by
   have:=(gD _).1 hc
   unfold upC
   split<;>omega
  rw [hN1] at hN
  obtain ⟨d,hd⟩: ∃ d,upC (bat a i) - 64=d:=⟨_,rfl⟩
  rw [hd] at hx hN hN2
  repeat' (first|(apply ak (d:=14);exact rfl;apply aZ (j:=i);exact rfl;exact rfl;exact hlt)|(apply ak (d:=21);exact rfl;apply aZ (j:=i);exact rfl;exact rfl;exact hlt)|(apply aa (f:=359);exact rfl;exact rfl;(intro w' hm;exact hN w'))|(apply ak (d:=18);exact rfl;apply qi;exact rfl;exact rfl;exact ⟨by omega,by omega⟩)|(apply ak (d:=23);exact rfl;apply da;exact rfl;exact rfl;exact ⟨by omega,by omega⟩)|refine sT ?_|refine sS ?_|refine sT2 ?_|refine sN ?_|refine sM fun _=> ?_|(refine sC ?_ ?_<;>intro hb<;>try omega)|fail)
  all_goals first
   |(exfalso;omega)
   |(rw [xA];exact ⟨(i+1,min (26*v+d) 1025),⟨hlt,by dsimp only;omega,by dsimp only;omega,hx⟩,by dsimp only;omega,sB,sB,.nil _⟩)
 ·
  have e:i=a.size:=by omega
  subst e
  rw [NC (by omega),bq] at hx
  subst hx
  repeat' (first|refine sT ?_|refine sS ?_|refine sT2 ?_|refine sM fun _=> ?_|(refine sC ?_ ?_<;>intro hb<;>try omega)|fail)
  all_goals first
   |(exfalso;omega)
   |((refine rT2 ?_);first|(rw [if_pos (by omega),if_pos (by omega)])|(rw [if_neg (by omega),if_neg (by omega)]))
theorem FM (l:List Int):bY l=if l.take (aF bO l)= []∨l.drop (aF bO l)= []∨(l.drop (aF bO l)).head? =some 48∨(l.drop (aF bO l)).all aH=false then (0,0,4)
  else if 1024<bq (l.take (aF bO l)) 0∨1024<lh (l.drop (aF bO l)) 0 then (0,0,3) else (bq (l.take (aF bO l)) 0,lh (l.drop (aF bO l)) 0,0):=by
 unfold bY
 rw [(ig bO l).1,(ig bO l).2]
theorem zI {c:Int}:(0<zJ c)↔bO c=true:=by
 unfold zJ upC
 cases h:bO c with
 |false=>simp
 |true=>
  have:=(gD c).1 h
  simp only [if_true,iff_true]
  by_cases h2:97≤c∧c≤122
  ·
   rw [if_pos h2];omega
  ·
   rw [if_neg h2];omega
set_option maxHeartbeats 1000000 in
theorem Cd (a:ByteArray) (ha:a.size≤100000) (w:World):ay Tryz.prog 344 [.string a] w (.tuple #[.agg (cw ⟨(bY (ap a)).1,(bY (ap a)).2.1⟩).toArray,.int .i64 (bY (ap a)).2.2]):=by
 refine aq Tryz.func344 rfl Tryz.ntmps344 rfl ?_
 have hl:=av a
 have hA:=FM (ap a)
 obtain ⟨A,hAr⟩: ∃ A,aF bO (ap a)=A:=⟨_,rfl⟩
 have hAle:A≤a.size:=by have:=bR bO (ap a);omega
 rw [hAr] at hA
 repeat' (first|refine sT ?_|refine sS ?_|refine sT2 ?_|refine sM fun _=> ?_|(refine sC ?_ ?_<;>intro hb<;>try omega)|fail)
 rename_i g2
 refine ax [0,2] rfl (fun i:Nat=> [(4,.int .i64 (i:Int))]) (fun _=> [.box g2 50 [.int .i64 0,.int .i64 0]]) (fun i=>i≤a.size∧A=i+aF bO ((ap a).drop i)) (fun i=>a.size - i) 0 ⟨by omega,by rw [OC,Ny,hAr]⟩ sB (.refl _) ?_
 rintro i ⟨hi,hx⟩
 by_cases hlt:i<a.size∧bO (bat a i)=true
 ·
  have hok:=qc a i
  have hN:=fun w=>nK (bat a i) hok.1 hok.2 w
  have hp:=zI.2 hlt.2
  rw [bk hlt.1,aF,if_pos hlt.2] at hx
  repeat' (first|(apply ak (d:=16);exact rfl;apply aZ (j:=i);exact rfl;exact rfl;omega)|(apply aa (f:=359);exact rfl;exact rfl;(intro w' hm;exact hN w'))|refine sT ?_|refine sS ?_|refine sT2 ?_|refine sN ?_|refine sM fun _=> ?_|(refine sC ?_ ?_<;>intro hb<;>try omega)|fail)
  all_goals first
   |(exfalso;omega)
   |exact ⟨i+1,⟨by omega,by omega⟩,by omega,sB,sB,.refl _⟩
 have hAi:A=i:=by
  rw [hx]
  by_cases h:i<a.size
  ·
   rw [bk h,aF,if_neg (fun h2=>hlt ⟨h,h2⟩)];rfl
  ·
   rw [oI (by omega)];rfl
 subst hAi
 have hexit:A<a.size→zJ (bat a A)≤0:=fun h=>by
  have: ¬ 0<zJ (bat a A):=fun h2=>hlt ⟨h,zI.1 h2⟩
  omega
 have hN:=fun w=>nK (bat a A) (qc a A).1 (qc a A).2 w
 have htk:(ap a).take A= []↔A=0:=by
  rw [List.take_eq_nil_iff]
  constructor
  ·
   rintro (h|h)
   ·
    exact h
   ·
    rw [h] at hl;simp at hl;omega
  ·
   exact .inl
 have hdr:(ap a).drop A= []↔A=a.size:=by rw [List.drop_eq_nil_iff];omega
 have hhd:A<a.size→(((ap a).drop A).head? =some 48↔bat a A=48):=fun h=>by rw [bk h];simp
 by_cases hbad:A=0∨A=a.size∨bat a A=48
 ·
  have hres:bY (ap a)=(0,0,4):=by
   rw [hA,if_pos]
   rcases hbad with h|h|h
   ·
    exact .inl (htk.2 h)
   ·
    exact .inr (.inl (hdr.2 h))
   ·
    by_cases hA2:A<a.size
    ·
     exact .inr (.inr (.inl ((hhd hA2).2 h)))
    ·
     exact .inr (.inl (hdr.2 (by omega)))
  rw [hres]
  repeat' (first|(apply ak (d:=16);exact rfl;apply aZ (j:=A);exact rfl;exact rfl;omega)|(apply ak (d:=33);exact rfl;apply aZ (j:=A);exact rfl;exact rfl;omega)|(apply aa (f:=359);exact rfl;exact rfl;(intro w' hm;exact hN w'))|refine sT ?_|refine sS ?_|refine sT2 ?_|refine sN ?_|refine sM fun _=> ?_|(refine sC ?_ ?_<;>intro hb<;>try omega)|fail)
  all_goals first
   |(exfalso;omega)
   |((refine du ?_);rfl)
 have hA1:0<A:=by omega
 have hA2:A<a.size:=by omega
 have hn48:bat a A≠48:=fun h=>hbad (.inr (.inr h))
 simp only [htk,hdr,hhd hA2,show ¬ A=0 by omega,show ¬ A=a.size by omega,hn48,false_or] at hA
 repeat' (first|(apply ak (d:=16);exact rfl;apply aZ (j:=A);exact rfl;exact rfl;omega)|(apply ak (d:=33);exact rfl;apply aZ (j:=A);exact rfl;exact rfl;omega)|(apply aa (f:=359);exact rfl;exact rfl;(intro w' hm;exact hN w'))|refine sT ?_|refine sS ?_|refine sT2 ?_|refine sN ?_|refine sM fun _=> ?_|(refine sC ?_ ?_<;>intro hb<;>try omega)|fail)
 all_goals try (exfalso;omega)
 refine ax [0,2,4] rfl (fun x:Nat × Int=> [(6,.int .i64 (x.1:Int)),(5,.int .i64 x.2)]) (fun _=> [.box g2 50 [.int .i64 0,.int .i64 0]]) (fun x=>A≤x.1∧x.1≤a.size∧0≤x.2∧x.2≤1025∧lh ((ap a).drop A) 0=lh ((ap a).drop x.1) x.2∧((ap a).drop A).all aH=((ap a).drop x.1).all aH) (fun x=>a.size - x.1) (A,0) ⟨by simp,by dsimp only;omega,by simp,by simp,rfl,rfl⟩ sB (.refl _) ?_
 rintro ⟨i,v⟩ ⟨hi0,hi,hv0,hv1,hr,hall⟩
 dsimp only at hi0 hi hv0 hv1 hr hall ⊢
 by_cases hlt2:i<a.size
 ·
  have hok:=qc a i
  rw [bk hlt2] at hr hall
  rw [lh] at hr
  rw [Pm] at hall
  have hd:=d9 (bat a i)
  by_cases hdg:aH (bat a i)=true
  ·
   obtain ⟨hd1,hd2⟩:=hd.1 hdg
   rw [hdg,NI] at hall
   obtain ⟨d,hdd⟩: ∃ d,bat a i - 48=d:=⟨_,rfl⟩
   rw [hdd] at hr
   repeat' (first|(apply ak (d:=46);exact rfl;apply aZ (j:=i);exact rfl;exact rfl;exact hlt2)|(apply ak (d:=51);exact rfl;apply aZ (j:=i);exact rfl;exact rfl;exact hlt2)|(apply ak (d:=59);exact rfl;apply aZ (j:=i);exact rfl;exact rfl;exact hlt2)|(apply ak (d:=56);exact rfl;apply qi;exact rfl;exact rfl;exact ⟨by omega,by omega⟩)|(apply ak (d:=60);exact rfl;apply dw (c:=d);exact rfl;exact rfl;(rw [hdd];exact eC (by omega) (by omega)))|(apply ak (d:=61);exact rfl;apply bP (c:=d);exact rfl;exact I64.wrap ⟨by omega,by omega⟩)|(apply ak (d:=62);exact rfl;apply da;exact rfl;exact rfl;exact ⟨by omega,by omega⟩)|refine sT ?_|refine sS ?_|refine sT2 ?_|refine sN ?_|refine sM fun _=> ?_|(refine sC ?_ ?_<;>intro hb<;>try omega)|fail)
   all_goals first
    |(exfalso;omega)
    |(rw [xA];exact ⟨(i+1,min (10*v+d) 1025),⟨by dsimp only;omega,hlt2,by dsimp only;omega,by dsimp only;omega,hr,hall⟩,by dsimp only;omega,sB,sB,.refl _⟩)
  ·
   have hdf:aH (bat a i)=false:=by simpa using hdg
   rw [hdf,NY] at hall
   rw [if_pos hall] at hA
   have hno: ¬ (48≤bat a i∧bat a i≤57):=fun h=>hdg (hd.2 h)
   rw [hA]
   repeat' (first|(apply ak (d:=46);exact rfl;apply aZ (j:=i);exact rfl;exact rfl;exact hlt2)|(apply ak (d:=51);exact rfl;apply aZ (j:=i);exact rfl;exact rfl;exact hlt2)|(apply ak (d:=59);exact rfl;apply aZ (j:=i);exact rfl;exact rfl;exact hlt2)|(apply ak (d:=56);exact rfl;apply qi;exact rfl;exact rfl;exact ⟨by omega,by omega⟩)|refine sT ?_|refine sS ?_|refine sT2 ?_|refine sN ?_|refine sM fun _=> ?_|(refine sC ?_ ?_<;>intro hb<;>try omega)|fail)
   all_goals first
    |(exfalso;omega)
    |((refine du ?_);rfl)
 ·
  have e2:i=a.size:=by omega
  subst e2
  have e3:(ap a).drop a.size= []:=NC (by omega)
  rw [e3,List.all_nil] at hall
  rw [e3,lh] at hr
  rw [hall,hr] at hA
  simp only [Bool.true_eq_false,if_false] at hA
  have hsub:ap (sub a 0 A)=(ap a).take A:=ru a A
  have hC:=fun w=>xa (sub a 0 A) (by rw [bV a hAle];omega) (by rw [bV a hAle];omega) (fun c hc=>by
   rw [hsub] at hc
   obtain ⟨k,hk⟩:=List.mem_iff_getElem?.1 hc
   have hkl:k<A:=by
    have:=(Nw.1 hk).1
    rw [Nu] at this;omega
   rw [O5 hkl] at hk
   exact jn (ap a) k c (by omega) hk) w
  rw [hsub] at hC
  generalize bq ((ap a).take A) 0=L at hC hA
  rw [hA]
  repeat' (first|(apply ak (d:=67);exact rfl;apply Bn (hi:=A);exact rfl;exact rfl;exact hAle)|(apply aa (f:=360);exact rfl;exact rfl;(intro w' hm;exact hC w'))|refine sT ?_|refine sS ?_|refine sT2 ?_|refine sN ?_|refine sM fun _=> ?_|(refine sC ?_ ?_<;>intro hb<;>try omega)|fail)
  all_goals
   (refine du ?_)
   by_cases h1:1024<L<;>by_cases h2:1024<v<;>first|(exfalso;simp only [h1,if_true,if_false] at*;omega)|(simp only [h1,h2,if_true,if_false,or_true,true_or,or_self];rfl)
end Go.SL
