/-
  Lemmas and walks, put together: R5 Q11 R7 R8 R9 R10 Q8.
-/
import Derived.Test.YtpoafcnhplbkmaaGreatDoorKs16
import Derived.Test.YtpoafcnhplbkmaaGreatDoorKs17
import Derived.Test.YtpoafcnhplbkmaaGreatDoorKs18
set_option linter.unusedSimpArgs false
set_option linter.unusedVariables false
set_option maxRecDepth 20000
set_option maxHeartbeats 16000000
namespace Go.SL
open Go Go.Proofs
attribute [local irreducible] W WL WQ WG WA WX WLI WR WT WC VOp RW thn blk bH scp aV bz bP FnAt FnIn FnP ceP
theorem wG {D:List Int} {k:Nat} {c:Int} (h:D[k]? =some c):bE (D.take (k+1)) 0=10*bE (D.take k) 0+(c - 48):=by
 obtain ⟨h1,rfl⟩:=Rm.1 h;rw [Ra h1,qh]
theorem pJ {D:List Int} (hd: ∀ (k:Nat) c,D[k]? =some c→48≤c∧c≤57) (k:Nat):0≤bE (D.take k) 0∧bE (D.take k) 0≤bE D 0:=by
 have h48: ∀ c∈D,48≤c:=fun c hc=>by
  obtain ⟨i,hi,rfl⟩:=Tb hc;exact (hd i _ (QU hi)).1
 have h1:0≤bE (D.take k) 0:=mh _ (fun c hc=>h48 c (SF hc)) (TG _);refine ⟨h1,?_⟩;conv=>rhs;rw [← Sd k D,qV]
 exact mh _ (fun c hc=>h48 c (TC hc)) h1
theorem IM (a:ByteArray) (ha:a.size≤1000000) (w:World):aC Tryz.prog 202 [.string a] w (.tuple #[.int .i64 (iB (ap a)).1,.int .i64 (iB (ap a)).2]):=by
 refine ay Tryz.func202 rfl Tryz.ntmps202 rfl ?_;have hl:=av a;have hm:cN=9223372036854775807:=rfl;obtain ⟨neg,hneg⟩: ∃ neg,neg=decide ((ap a).head? =some 45):=⟨_,rfl⟩;have hb0:=rj a 45;obtain ⟨fr,hfr⟩: ∃ fr,fr=if neg then 1 else 0:=⟨_,rfl⟩;obtain ⟨n,hn⟩: ∃ n,n=aG aH ((ap a).drop fr):=⟨_,rfl⟩;obtain ⟨e,he⟩: ∃ e,e=if (ap a)[fr+n]? =some 46 then fr+n+1+aG aH ((ap a).drop (fr+n+1)) else fr+n:=⟨_,rfl⟩;have hcase:=JJ (ap a) neg hneg fr hfr n hn e he;have hfrl:fr≤a.size:=by
  rw [hfr]
  cases neg with
  |false=>exact QZ _
  |true=>have:=(hb0.1 (of_decide_eq_true hneg.symm)).1;simp only [if_true];omega
 have hnl:fr+n≤a.size:=by
  have:=bY aH ((ap a).drop fr);rw [RE] at this;omega
 have hD1:=qN a ha fr;rw [← hn] at hD1;have hD2:=qN a ha (fr+n+1);have hyes:0<a.size→bat a 0=45→fr=1:=fun h1 h2=>by
  have:neg=true:=by rw [hneg];exact decide_eq_true (hb0.2 ⟨h1,h2⟩)
  rw [hfr,this];rfl
 have hno:(0<a.size→bat a 0≠45)→fr=0:=fun h=>by
  have:neg=false:=by rw [hneg];exact decide_eq_false (fun h' =>h (hb0.1 h').1 (hb0.1 h').2)
  rw [hfr,this];rfl
 have hnegE:decide ((fr:Int)=1)=neg:=by
  rw [hfr];cases neg<;>rfl
 have h46: ∀ j,j<a.size→((ap a)[j]? =some 46↔bat a j=46):=fun j hj=>by rw [il hj];simp
 have h46' :a.size≤fr+n→ ¬ (ap a)[fr+n]? =some 46:=fun h=>by rw [Ry (by omega)];simp
 repeat' (first|(refine zR (id:=2) (ι:=Unit) (fun _=> [(0,.string a),(4,.int .i64 (fr:Int))]) (fun _=> []) (fun _=>True) ?_ ?_)|refine zZF ?_|refine sM fun _=>?_|(refine sC ?_ ?_<;>intro hb<;>try omega)|exact cT|fail)
 ·rw [hyes (by omega) (by assumption)];refine cX (()) ?_ sB mS
  trivial
 ·rw [hno (fun _=>by assumption)];refine cX (()) ?_ sB mS
  trivial
 ·rw [hno (fun h=>by omega)];refine cX (()) ?_ sB mS
  trivial
 rintro ⟨⟩ -;repeat' (first|(apply aa (d:=22);exact rfl;exact rfl;(intro w' hm;exact hD1 w'))|(refine zR (id:=6) (ι:=Unit) (fun _=> [(0,.string a),(4,.int .i64 (fr:Int)),(5,.int .i64 ((fr+n:Nat):Int)),(6,.int .i64 (e:Int))]) (fun _=> []) (fun _=>True) ?_ ?_)|(apply ai;exact rfl;apply aX (j:=fr+n);exact rfl;exact rfl;omega)|(apply aa (d:=37);exact rfl;exact rfl;(intro w' hm;exact hD2 w'))|refine zZC ?_|refine sM fun _=>?_|(refine sC ?_ ?_<;>intro hb<;>try omega)|exact cT|fail)
 ·rw [he,if_pos ((h46 _ (by omega)).2 (by assumption))];refine cX (()) ?_ sB mS
  trivial
 ·rw [he,if_neg (fun h=>absurd ((h46 _ (by omega)).1 h) (by assumption))];refine cX (()) ?_ sB mS
  trivial
 ·rw [he,if_neg (h46' (by omega))];refine cX (()) ?_ sB mS
  trivial
 rintro ⟨⟩ -;clear hD1 hD2 hyes hno h46 h46' hb0;rcases hcase with ⟨hbad,hd⟩|⟨h0,he1,he2,D,r,hP⟩
 ·repeat' (first|refine zZC ?_|refine sM fun _=>?_|(refine sC ?_ ?_<;>intro hb<;>try omega)|exact cT|fail)
  all_goals first
   |((refine rT2 ?_);rw [hd];done)
   |(exfalso;omega)
 have hD4:=hP.len;have hat: ∀ i,fr≤i→i<fr+n+5→i≠fr+n→ ∃ c,D[if i<fr+n then i - fr else i - fr - 1]? =some c∧48≤c∧c≤57∧(i<a.size→bat a i=c)∧(a.size≤i→c=48):=fun i h1 h2 h3=>by
  by_cases h:i<fr+n
  ·rw [if_pos h];have hk:=hP.at1 (i - fr) (by omega);rw [show fr+(i - fr)=i by omega,il (by omega)] at hk;exact ⟨_,hk,(hP.dig hk).1,(hP.dig hk).2,fun _=>rfl,fun h=>by omega⟩
  ·rw [if_neg h];have hk:=hP.at2 (i - fr - 1) (by omega) (by omega);rw [show fr+(i - fr - 1)+1=i by omega] at hk;refine ⟨_,hk,(hP.dig hk).1,(hP.dig hk).2,fun h4=> ?_,fun h4=> ?_⟩
   ·rw [RJ,il h4];rfl
   ·rw [RJ,Ry (by omega)];rfl
 have hge:=pJ (fun k c h=>hP.dig (k:=k) h);have hres:=hP.res;have hr:=hP.rnd;repeat' (first|refine zZC ?_|refine sM fun _=>?_|(refine sC ?_ ?_<;>intro hb<;>try omega)|exact cT|fail)
 all_goals try (exfalso;omega)
 rename_i g7;refine aw [0,4,5,7] rfl (fun i:Nat=> [(8,.int .i64 (i:Int))]) (fun i=> [.box g7 324 (gL (bE (D.take (if i≤fr+n then i - fr else i - fr - 1)) 0))]) (fun i=>fr≤i∧i≤fr+n+5∧bE (D.take (if i≤fr+n then i - fr else i - fr - 1)) 0≤10*cN+9) (fun i=>fr+n+5 - i) fr ⟨by omega,by omega,?_⟩ sB ?_ ?_
 ·rw [if_pos (by omega),Nat.sub_self,SK];decide
 ·rw [if_pos (by omega),Nat.sub_self,SK];exact .refl _
 rintro i ⟨h1,h2,h3⟩;obtain ⟨k,hk⟩: ∃ k,(if i≤fr+n then i - fr else i - fr - 1)=k:=⟨_,rfl⟩;rw [hk] at h3 ⊢;have hgk:=hge k;obtain ⟨V,hV⟩: ∃ V,bE (D.take k) 0=V:=⟨_,rfl⟩;rw [hV] at h3 hgk ⊢;by_cases hend:i=fr+n+5
 ·have hVD:V=bE D 0:=by
   rw [← hV,Sf];rw [hD4,← hk,if_neg (by omega)];omega
  have hsi:=fun v neg h h' w=>m8 v neg h h' w;subst hend;have hpl: ∀ w,aC Tryz.prog 256 [.agg (gL V).toArray,.agg #[.int .u64 0,.int .u64 1]] w (.agg (gL (V+1)).toArray):=fun w=>by
   have:=uK V 1 hgk.1 (by omega) (by omega) w;rwa [lY (v:=1) (by omega) (by omega)] at this
  have hS0:=fun w=>m8 V neg hgk.1 (by omega) w;have hS1:=fun w=>m8 (V+1) neg (by omega) (by omega) w;rw [← hVD] at hres;have hrin:fr+n+5<a.size→bat a (fr+n+5)=r:=fun hin=>by
   rw [hr,RJ,il hin];rfl
  have hrout:a.size≤fr+n+5→r=48:=fun h=>by
   rw [hr,RJ,Ry (by omega)];rfl
  clear hr hP hat hge hV hVD;repeat' (first|(apply ai (d:=57);exact rfl;apply fT (b:=5);exact rfl;exact rfl;(simp only [maxLen] at*;omega))|(apply ai (d:=93);exact rfl;apply fT (b:=5);exact rfl;exact rfl;(simp only [maxLen] at*;omega))|(apply ai (d:=100);exact rfl;apply fT (b:=5);exact rfl;exact rfl;(simp only [maxLen] at*;omega))|(apply ai (d:=101);exact rfl;apply aX (j:=fr+n+5);exact rfl;exact rfl;omega)|(rw [hrin (by omega)])|(apply aa (f:=256);exact rfl;exact rfl;(intro w' hm;exact hpl w'))|(rw [hnegE])|(apply aa (f:=258);exact rfl;exact rfl;(intro w' hm;first|exact hS1 w' |exact hS0 w'))|refine zZC ?_|refine sM fun _=>?_|(refine sC ?_ ?_<;>intro hb<;>try omega)|exact cT|fail)
  all_goals first
   |(exfalso;omega)
   | ((refine rT2 ?_)
      rw [hres];by_cases h53:53≤r
      ·rw [if_pos h53];first|(exfalso;omega)|(rw [if_pos (by omega)];done)|(have hnb: ¬ cN<V+1:=(by omega);simp only [if_neg hnb];done)
      ·rw [if_neg h53,Int.add_zero];first|(exfalso;omega)|(rw [if_pos (by omega)];done)|(have hnb: ¬ cN<V:=(by omega);simp only [if_neg hnb];done))
 ·have hlt5:i<fr+n+5:=by omega
  have hgeD:=hgk.2;by_cases hbig:cN<V
  ·have hout:iB (ap a)=(0,3):=by
    rw [hres,if_pos];split<;>omega
   obtain ⟨vh,hvh⟩: ∃ z,V / 18446744073709551616=z:=⟨_,rfl⟩;obtain ⟨vl,hvl⟩: ∃ z,V % 18446744073709551616=z:=⟨_,rfl⟩;have hat' :=hat i h1 hlt5;unfold gL;rw [hvh,hvl];clear hres hP hat hge;repeat' (first|(apply ai (d:=57);exact rfl;apply fT (b:=5);exact rfl;exact rfl;(simp only [maxLen] at*;omega))|(apply ai (d:=72);exact rfl;apply aX (j:=i);exact rfl;exact rfl;omega)|(apply ai (d:=73);exact rfl;apply eB (c:=bat a i - 48);exact rfl;exact rfl;(obtain ⟨c,_,hc1,hc2,hc3,_⟩:=hat' (by omega);rw [hc3 (by omega)];exact fI (by omega) (by omega)))|(apply ai (d:=74);exact rfl;apply EO;exact rfl)|refine zZC ?_|refine sM fun _=>?_|(refine sC ?_ ?_<;>intro hb<;>try omega)|exact cT|fail)
   all_goals first
    |(exfalso;omega)
    |((refine rT2 ?_);rw [hout];done)
  ·have hsm:gL V= [.int .u64 0,.int .u64 V]:=lY hgk.1 (by omega);by_cases hip:i=fr+n
   ·subst hip;rw [hsm];repeat' (first|(apply ai (d:=57);exact rfl;apply fT (b:=5);exact rfl;exact rfl;(simp only [maxLen] at*;omega))|(apply ai (d:=60);exact rfl;apply fT (b:=1);exact rfl;exact rfl;(simp only [maxLen] at*;omega))|refine zZC ?_|refine sM fun _=>?_|(refine sC ?_ ?_<;>intro hb<;>try omega)|exact cT|fail)
    all_goals first
     |(exfalso;omega)
     |skip
    have hk2:(if fr+n+1≤fr+n then fr+n+1 - fr else fr+n+1 - fr - 1)=k:=by
     rw [← hk,if_neg (by omega),if_pos (by omega)];omega
    refine ⟨fr+n+1,⟨by omega,by omega,?_⟩,by omega,sB,sB,?_⟩
    ·rw [hk2,hV];exact h3
    ·rw [hk2,hV,hsm];exact mS
   ·obtain ⟨c,hc0,hc1,hc2,hc3,hc4⟩:=hat i h1 hlt5 hip;have hkk:(if i<fr+n then i - fr else i - fr - 1)=k:=by
     rw [← hk];by_cases h:i<fr+n
     ·rw [if_pos h,if_pos (by omega)]
     ·rw [if_neg h,if_neg (by omega)]
    have hk2:(if i+1≤fr+n then i+1 - fr else i+1 - fr - 1)=k+1:=by
     rw [← hkk];by_cases h:i<fr+n
     ·rw [if_pos h,if_pos (by omega)];omega
     ·rw [if_neg h,if_neg (by omega)];omega
    rw [hkk] at hc0;have hnext:=wG hc0;rw [hV] at hnext;obtain ⟨d,hd⟩: ∃ d,c - 48=d:=⟨_,rfl⟩;rw [hd] at hnext;have hT:=fun w=>EX V hgk.1 (by omega) w;have hP2: ∀ w,aC Tryz.prog 256 [.agg (gL (10*V)).toArray,.agg #[.int .u64 0,.int .u64 d]] w (.agg (gL (10*V+d)).toArray):=fun w=>by
     have:=uK (10*V) d (by omega) (by omega) (by omega) w;rwa [lY (v:=d) (by omega) (by omega)] at this
    have hend2: ∀ (s:az) (H:List Blk),Sub [(8,.int .i64 ((i+1:Nat):Int))] s→Sub [(0,.string a),(4,.int .i64 (fr:Int)),(5,.int .i64 ((fr+n:Nat):Int)),(7,.pointer (some ⟨g7,0,none⟩))] s→MSub [.box g7 324 (gL (10*V+d))] H→ ∃ i',(fr≤i' ∧i' ≤fr+n+5∧bE (D.take (if i' ≤fr+n then i' - fr else i' - fr - 1)) 0≤10*cN+9)∧fr+n+5 - i' <fr+n+5 - i∧Sub [(8,.int .i64 (i' :Int))] s∧Sub [(0,.string a),(4,.int .i64 (fr:Int)),(5,.int .i64 ((fr+n:Nat):Int)),(7,.pointer (some ⟨g7,0,none⟩))] s∧MSub [.box g7 324 (gL (bE (D.take (if i' ≤fr+n then i' - fr else i' - fr - 1)) 0))] H:=fun s H a1 a2 a3=>by
     refine ⟨i+1,⟨by omega,by omega,?_⟩,by omega,a1,a2,?_⟩
     ·rw [hk2,hnext];omega
     ·rw [hk2,hnext];exact a3
    clear hres hP hat hge hr;rw [hsm];by_cases hin:i<a.size
    ·have hbc:=hc3 hin;repeat' (first|(apply ai (d:=57);exact rfl;apply fT (b:=5);exact rfl;exact rfl;(simp only [maxLen] at*;omega))|(apply ai (d:=60);exact rfl;apply fT (b:=1);exact rfl;exact rfl;(simp only [maxLen] at*;omega))|(apply ai (d:=72);exact rfl;apply aX (j:=i);exact rfl;exact rfl;exact hin)|(rw [hbc])|(apply ai (d:=73);exact rfl;apply eB (c:=d);exact rfl;exact rfl;(rw [hd];exact fI (by omega) (by omega)))|(apply ai (d:=74);exact rfl;apply cR (c:=d);exact rfl;(rw [IntKind.wrap_u64];omega))|(apply aa (f:=257);exact rfl;exact rfl;(intro w' hm;exact hT w'))|(apply aa (f:=256);exact rfl;exact rfl;(intro w' hm;exact hP2 w'))|refine zZC ?_|refine sM fun _=>?_|(refine sC ?_ ?_<;>intro hb<;>try omega)|exact cT|fail)
     all_goals first
      |(exfalso;omega)
      |exact hend2 _ _ sB sB mS
    ·have hd0:d=0:=by have:=hc4 (by omega);omega
     subst hd0;repeat' (first|(apply ai (d:=57);exact rfl;apply fT (b:=5);exact rfl;exact rfl;(simp only [maxLen] at*;omega))|(apply ai (d:=60);exact rfl;apply fT (b:=1);exact rfl;exact rfl;(simp only [maxLen] at*;omega))|(apply aa (f:=257);exact rfl;exact rfl;(intro w' hm;exact hT w'))|(apply aa (f:=256);exact rfl;exact rfl;(intro w' hm;exact hP2 w'))|refine zZC ?_|refine sM fun _=>?_|(refine sC ?_ ?_<;>intro hb<;>try omega)|exact cT|fail)
     all_goals first
      |(exfalso;omega)
      |exact hend2 _ _ sB sB mS
def eQ (a:Rf) (x:En) (st:List En × Bool) (e:En):List En × Bool:=
 let st1:=if st.2=false∧bo a e.at_=true then (st.1++ [x],true) else st
 (if e.at_≠a then st1.1++ [e] else st1.1,st1.2)
def F8 (x:En) (st:List En × Bool):List En:=if st.2 then st.1 else st.1++ [x]
def xY (a:Rf) (x:En) (d:Bool) (L:List En):List En:=F8 x (L.foldl (eQ a x) ([],d))
theorem xb (a:Rf) (x:En): ∀ (L:List En) (O:List En),L.foldl (eQ a x) (O,true)=(O++L.filter (fun e=>decide (e.at_≠a)),true)
 | [],O=>by simp
 |e::r,O=>by
  rw [SB];have:eQ a x (O,true) e=(if e.at_≠a then O++ [e] else O,true):=by simp [eQ]
  rw [this,xb a x r,Tq];by_cases h:e.at_≠a
  ·simp [h]
  ·simp [h]
theorem KJ (a:Rf) (x:En) (L:List En):(xY a x true L).map En.abs=ye (L.map En.abs) a:=by
 unfold xY;rw [xb];simp only [F8,if_true,QW,ye,Ut]
 rfl
theorem w9 {a:Rf} {x:En}: ∀ (L:List En) (O:List En),SortG (L.map En.abs)→
 F8 x (L.foldl (eQ a x) (O,false))=O++(L.filter (fun e=>bo e.at_ a)++x::L.filter fun e=>bo a e.at_)
 | [],O,_=>by simp [F8]
 |e::r,O,hs=>by
  rw [RP] at hs;obtain ⟨h1,h2⟩:=SJ.1 hs;rw [SB,Tq,Tq]
  cases hl:bo a e.at_ with
  |true=>
   have hne:e.at_≠a:=(mz hl).symm;have hge:bo e.at_ a=false:=lH hl;have hst:eQ a x (O,false) e=(O++ [x]++ [e],true):=by simp [eQ,hl,hne]
   have hall: ∀ f∈r,bo a f.at_=true:=fun f hf=>tQ hl (h1 f.abs (RG.2 ⟨f,hf,rfl⟩));have e1:r.filter (fun f=>decide (f.at_≠a))=r:=List.filter_eq_self.2 fun f hf=>by simpa using (mz (hall f hf)).symm
   have e2:r.filter (fun f=>bo f.at_ a)= []:=List.filter_eq_nil_iff.2 fun f hf=>by rw [lH (hall f hf)];simp
   have e3:r.filter (fun f=>bo a f.at_)=r:=List.filter_eq_self.2 hall;rw [hst,xb,hge,e1,e2,e3];simp [F8]
  |false=>
   by_cases hne:e.at_=a
   ·have hst:eQ a x (O,false) e=(O,false):=by simp [eQ,hne,oV]
    have hle:bo e.at_ a=false:=by rw [hne];exact oV a
    rw [hst,w9 r O h2,hle];simp
   ·have hst:eQ a x (O,false) e=(O++ [e],false):=by simp [eQ,hl,hne]
    have hle:bo e.at_ a=true:=by
     rcases Dt hne with h|h
     ·exact h
     ·rw [hl] at h;cases h
    rw [hst,w9 r _ h2,hle];simp
theorem KI {a:Rf} {x:En} (hx:x.at_=a) {L:List En} (hs:SortG (L.map En.abs)):(xY a x false L).map En.abs=uq (L.map En.abs) a (x.tree,x.uses):=by
 unfold xY;rw [w9 L [] hs,QW,Sh,RP,uq,Ut,Ut];subst hx
 rfl
theorem Iq {a:Rf} {x:En} {st:List En × Bool} {e f:En} (h:f∈(eQ a x st e).1):f∈st.1∨f=x∨f=e:=by
 have h1: ∀ q:List En,f∈(if e.at_≠a then q++ [e] else q)→f∈q∨f=e:=by
  intro q hq;split at hq
  ·rcases Rz.1 hq with hq|hq
   ·exact .inl hq
   ·exact .inr (Rd.1 hq)
  ·exact .inl hq
 unfold eQ at h;dsimp only at h;rcases h1 _ h with h|h
 ·split at h
  ·rcases Rz.1 h with h|h
   ·exact .inl h
   ·exact .inr (.inl (Rd.1 h))
  ·exact .inl h
 ·exact .inr (.inr h)
theorem w8 {a:Rf} {x:En}: ∀ (L:List En) (st:List En × Bool) {f:En},f∈(L.foldl (eQ a x) st).1→f∈st.1∨f=x∨f∈L
 | [],_,_,h=> .inl h
 |e::r,st,f,h=>by
  rw [SB] at h;rcases w8 r _ h with h|h|h
  ·rcases Iq h with h|h|h
   ·exact .inl h
   ·exact .inr (.inl h)
   ·exact .inr (.inr (h ▸ QY))
  ·exact .inr (.inl h)
  ·exact .inr (.inr (Rh _ h))
theorem KH {a:Rf} {x:En} {d:Bool} {L:List En} {f:En} (h:f∈xY a x d L):f=x∨f∈L:=by
 unfold xY F8 at h;split at h
 ·rcases w8 L _ h with h|h|h
  ·cases h
  ·exact .inl h
  ·exact .inr h
 ·rcases Rz.1 h with h|h
  ·rcases w8 L _ h with h|h|h
   ·cases h
   ·exact .inl h
   ·exact .inr h
  ·exact .inl (Rd.1 h)
theorem DE {l:List Int} {fin:Int}: ∀ n∈(bM (bq bC l) fin).1,wfN n:=by
 have hnum:=tB l;generalize bq bC l=x at hnum;unfold bM;split
 ·exact fun _ h=>by cases h
 ·split
  ·exact fun _ h=>by cases h
  ·exact fun _ h=>by cases h
  ·rename_i n p hp;have hwf:=zY _ _ _ _ _ _ hp (⟨hnum,fun _ h=>by cases h⟩:Wf ⟨x.1,[]⟩);split
   ·exact fun _ h=>by cases h
   ·split
    ·exact fun _ h=>by cases h
    ·exact hwf.2
theorem Pp (b:ByteArray): ∀ n∈(ofP b).1.tree,wfN n:=by
 rw [K8];unfold ofR;split
 ·exact fun _ h=>by cases h
 ·split
  ·exact fun _ h=>by cases h
  ·split
   ·exact fun _ h=>by cases h
   ·have h:=DE (l:=ap (sub b 1 b.size)) (fin:=((sub b 1 b.size).size:Int));generalize bM (bq bC (ap (sub b 1 b.size))) ((sub b 1 b.size).size:Int)=r at h;obtain ⟨t,a,e⟩:=r;dsimp only at h ⊢;split
    ·exact fun _ h=>by cases h
    ·exact h
def TokR (i:Nat) (o:Option (Tk × Nat)) (v:Value):Prop:=match o with
 |some (t,n)=>v= .tuple #[.agg (bh { t with at_:=(i:Int) }).toArray,.int .i64 ((i+n:Nat):Int),.bool true]
 |none=> ∃ (t:Tk) (e:Int),v= .tuple #[.agg (bh t).toArray,.int .i64 e,.bool false]
theorem iO {p:Int→Bool} {a:ByteArray} {i:Nat} (h:i<a.size):aG p ((ap a).drop i)=if p (bat a i) then aG p ((ap a).drop (i+1))+1 else 0:=by
 rw [bi h,aG]
theorem Cw {p:Int→Bool} {l:List Int} {n:Nat} (h:n=aG p l) {c:Int} (hc:c∈l.take n):p c=true:=by
 obtain ⟨k,hk,rfl⟩:=Tb hc;rw [RI] at hk;rw [Ub];exact kG l k _ (by omega) (QU (by omega))
theorem z2 (a:ByteArray) (ha:a.size≤256) (i:Nat) (hi:i<a.size) (hdi:aH (bat a i)=true) (w:World):
 FnAt Tryz.prog 283 [.string a,.int .i64 (i:Int)] w fun v H=>H= []∧TokR i ((lC ((ap a).drop i)).map fun x=>(⟨1,x.1,ax,aS,0⟩,x.2)) v:=by
 refine ay Tryz.func283 rfl Tryz.ntmps283 rfl ?_;have hl:=av a;have hm:cN=9223372036854775807:=rfl;obtain ⟨W1,hW1⟩: ∃ W1,aG aH ((ap a).drop i)=W1:=⟨_,rfl⟩;have hw0:W1≠0:=by rw [← hW1,iO hi,if_pos hdi];omega
 have hwl:i+W1≤a.size:=by
  have:=bY aH ((ap a).drop i);rw [RE] at this;omega
 obtain ⟨p,hp⟩: ∃ p,bZ ((ap a).drop (i+W1))=p:=⟨_,rfl⟩;have hnum:lC ((ap a).drop i)=if 4<p then none else if cN<bE (((ap a).drop i).take W1++((ap a).drop (i+W1+1)).take p++List.replicate (4 - p) 48) 0 then none else some (bE (((ap a).drop i).take W1++((ap a).drop (i+W1+1)).take p++List.replicate (4 - p) 48) 0,if p=0 then W1 else W1+1+p):=by
  unfold lC;simp only [hW1,SV,hp];by_cases h4:4<p
  ·rw [if_pos (.inr h4),if_pos h4]
  ·rw [if_neg (by omega),if_neg h4]
   rfl
 rw [hnum];clear hnum;have hD:=fun j w=>oh a (by omega) j w;repeat' (first|refine zZF ?_|refine sM fun _=>?_|(refine sC ?_ ?_<;>intro hb<;>try omega)|exact cT|fail)
 rename_i g4 g7;refine aw [0,1,4,7] rfl (fun j:Nat=> [(8,.int .i64 ((i+j:Nat):Int))]) (fun _=> [.box g7 228 (bh ⟨1,0,ax,aS,i⟩),.box g4 228 (bh dA)]) (fun j=>j≤W1∧W1=j+aG aH ((ap a).drop (i+j))) (fun j=>W1 - j) 0 ⟨by omega,by rw [Tw,hW1];omega⟩ sB mS ?_;rintro j ⟨hj,hx⟩;by_cases hjw:j<W1
 ·have hji:i+j<a.size:=by omega
  have hdj:aH (bat a (i+j))=true:=by
   rw [iO hji] at hx;split at hx
   ·assumption
   ·omega
  have hx2:W1=(j+1)+aG aH ((ap a).drop (i+(j+1))):=by
   rw [iO hji,if_pos hdj] at hx;rw [← SC i j 1];omega
  have hDj:=fun w=>hD (i+j) w;rw [hdj] at hDj;repeat' (first|(apply aa (f:=282);exact rfl;exact rfl;(intro w' hm;exact hDj w'))|refine zZC ?_|refine sM fun _=>?_|(refine sC ?_ ?_<;>intro hb<;>try omega)|exact cT|fail)
  exact ⟨j+1,⟨hjw,hx2⟩,by omega,sB,sB,.refl _⟩
 have ejw:j=W1:=by omega
 subst ejw;have hdj:aH (bat a (i+j))=false:=by
  by_cases hji:i+j<a.size
  ·rw [iO hji] at hx;split at hx
   ·omega
   ·rename_i h;simpa using h
  ·rw [jz (by omega)];rfl
 have hDj:=fun w=>hD (i+j) w;rw [hdj] at hDj;have hDk:=fun w=>hD (i+j+1) w;have hp1:i+j<a.size→bat a (i+j)=46→p=aG aH ((ap a).drop (i+j+1)):=fun h1 h2=>by
  rw [← hp,bi h1,h2];rfl
 have hp2:(i+j<a.size→bat a (i+j)≠46)→p=0:=fun h=>by
  rw [← hp];by_cases h1:i+j<a.size
  ·rw [bi h1];exact nk (h h1)
  ·rw [RK (by omega)];rfl
 have hp0:aH (bat a (i+j+1))=false→aG aH ((ap a).drop (i+j+1))=0:=fun h=>by
  by_cases h1:i+j+1<a.size
  ·rw [iO h1,if_neg (by rw [h];simp)]
  ·exact qK (by omega)
 have hpl:p≠0→i+j+1+p≤a.size:=fun h=>by
  by_cases h1:i+j<a.size∧bat a (i+j)=46
  ·have:=hp1 h1.1 h1.2;have h2:=bY aH ((ap a).drop (i+j+1));rw [RE] at h2;omega
  ·exact absurd (hp2 fun h3 h4=>h1 ⟨h3,h4⟩) h
 obtain ⟨E,hE⟩: ∃ E,(if p=0 then j else j+1+p)=E:=⟨_,rfl⟩;repeat' (first|(apply aa (d:=20);exact rfl;exact rfl;(intro w' hm;exact hDj w'))|(apply ai (d:=26);exact rfl;apply gM (lo:=i) (hi:=i+j);(iterate 3 exact rfl);exact ⟨by omega,by omega⟩)|(refine zR (id:=6) (ι:=ByteArray) (fun pl=> [(0,.string a),(1,.int .i64 (i:Int)),(4,.pointer (some ⟨g4,0,none⟩)),(7,.pointer (some ⟨g7,0,none⟩)),(8,.int .i64 ((i+E:Nat):Int)),(9,.string (sub a i (i+j))),(10,.string pl)]) (fun _=> [.box g7 228 (bh ⟨1,0,ax,aS,i⟩),.box g4 228 (bh dA)]) (fun pl=>ap pl=((ap a).drop (i+j+1)).take p) ?_ ?_)|(apply ai (d:=34);exact rfl;apply aX (j:=i+j);exact rfl;exact rfl;omega)|(apply aa (d:=41);exact rfl;exact rfl;(intro w' hm;exact hDk w'))|refine zZC ?_|refine sM fun _=>?_|(refine sC ?_ ?_<;>intro hb<;>try omega)|exact cT|fail)
 ·-- the places
  have hdd:aH (bat a (i+j+1))=true:=by assumption
  have e46:bat a (i+j)=46:=by assumption
  have hpp:=hp1 (by omega) e46;have hp0' :p≠0:=by
   rw [hpp];by_cases h1:i+j+1<a.size
   ·rw [iO h1,if_pos hdd];omega
   ·rw [jz (by omega)] at hdd;simp [aH] at hdd
  rw [if_neg hp0'] at hE;subst hE;refine aw [0,1,4,7,9,10,11] rfl (fun k:Nat=> [(8,.int .i64 ((i+j+1+k:Nat):Int))]) (fun _=> [.box g7 228 (bh ⟨1,0,ax,aS,i⟩),.box g4 228 (bh dA)]) (fun k=>k≤p∧p=k+aG aH ((ap a).drop (i+j+1+k))) (fun k=>p - k) 0 ⟨by omega,by rw [Tw,Rv];exact hpp⟩ sB mS ?_;rintro k ⟨hk,hkx⟩;have hpl' :=hpl hp0';by_cases hkp:k<p
  ·have hki:i+j+1+k<a.size:=by omega
   have hdk:aH (bat a (i+j+1+k))=true:=by
    rw [iO hki] at hkx;split at hkx
    ·assumption
    ·omega
   have hkx2:p=(k+1)+aG aH ((ap a).drop (i+j+1+(k+1))):=by
    rw [iO hki,if_pos hdk] at hkx;rw [← SC _ k 1];omega
   have hDl:=fun w=>hD (i+j+1+k) w;rw [hdk] at hDl;repeat' (first|(apply aa (d:=48);exact rfl;exact rfl;(intro w' hm;exact hDl w'))|refine zZC ?_|refine sM fun _=>?_|(refine sC ?_ ?_<;>intro hb<;>try omega)|exact cT|fail)
   exact ⟨k+1,⟨hkp,hkx2⟩,by omega,sB,sB,.refl _⟩
  have ekp:k=p:=by omega
  subst ekp;have hdk:aH (bat a (i+j+1+k))=false:=by
   by_cases hki:i+j+1+k<a.size
   ·rw [iO hki] at hkx;split at hkx
    ·omega
    ·rename_i h;simpa using h
   ·rw [jz (by omega)];rfl
  have hDl:=fun w=>hD (i+j+1+k) w;rw [hdk] at hDl;have es:ap (sub a (i+j+1) (i+j+1+k))=((ap a).drop (i+j+1)).take k:=by
   rw [eU];congr 1;omega
  rw [show i+(j+1+k)=i+j+1+k by omega];repeat' (first|(apply aa (d:=48);exact rfl;exact rfl;(intro w' hm;exact hDl w'))|(apply ai (d:=54);exact rfl;apply gM (lo:=i+j+1) (hi:=i+j+1+k);(iterate 3 exact rfl);exact ⟨by omega,by omega⟩)|refine zZC ?_|refine sM fun _=>?_|(refine sC ?_ ?_<;>intro hb<;>try omega)|exact cT|fail)
  refine cX (sub a (i+j+1) (i+j+1+k)) es sB mS
 ·-- a dot without a digit
  have hdd:aH (bat a (i+j+1))=false:=by assumption
  have hpp:=(hp1 (by omega) (by assumption)).trans (hp0 hdd);rw [if_pos hpp] at hE;subst hE hpp;refine cX ax rfl sB mS
 ·have hpp:=hp2 (fun _=>by assumption);rw [if_pos hpp] at hE;subst hE hpp;refine cX ax rfl sB mS
 ·have hpp:=hp2 (fun h=>by omega);rw [if_pos hpp] at hE;subst hE hpp;refine cX ax rfl sB mS
 rintro pl hpl2;have hps:pl.size=p:=by
  rw [← av,hpl2,RI,RE,hl];by_cases h:p=0
  ·omega
  ·have:=hpl h;omega
 clear hp1 hp2 hp0 hD hDj hDk;by_cases h4:4<p
 ·rw [if_pos h4];repeat' (first|refine zZC ?_|refine sM fun _=>?_|(refine sC ?_ ?_<;>intro hb<;>try omega)|exact cT|fail)
  all_goals first
   |(exfalso;omega)
   |(refine gO (.inl rfl) rfl rfl pK rfl rfl rfl (MSub.nil _) ?_;exact ⟨rfl,⟨1,0,ax,aS,i⟩,_,rfl⟩)
 rw [if_neg h4];repeat' (first|refine zZC ?_|refine sM fun _=>?_|(refine sC ?_ ?_<;>intro hb<;>try omega)|exact cT|fail)
 all_goals try (exfalso;omega)
 refine aw [0,1,4,7,8,9] rfl (fun q:ByteArray × Nat=> [(10,.string q.1)]) (fun _=> [.box g7 228 (bh ⟨1,0,ax,aS,i⟩),.box g4 228 (bh dA)]) (fun q=>ap q.1=((ap a).drop (i+j+1)).take p++List.replicate q.2 48∧p+q.2≤4∧q.1.size=p+q.2) (fun q=>4 - q.2) (pl,0) ⟨by rw [hpl2];simp,by dsimp only;omega,hps⟩ sB mS ?_;rintro ⟨q,z⟩ ⟨hq1,hq2,hq3⟩;dsimp only at hq1 hq2 hq3 ⊢;by_cases hz:p+z<4
 ·obtain ⟨B,hB⟩: ∃ B,B=q++({ data:= #[48] }:ByteArray):=⟨_,rfl⟩;have hB1:ap B=((ap a).drop (i+j+1)).take p++List.replicate (z+1) 48:=by
   rw [hB,iH,hq1,List.replicate_succ',Rx];rfl
  have hB2:B.size=p+(z+1):=by
   rw [hB,TM,hq3];rfl
  repeat' (first|(apply ai (d:=63);exact rfl;apply kr (c:=B);exact rfl;exact rfl;exact hB.symm;(simp only [hq3];have:({ data:= #[48] }:ByteArray).size=1:=rfl;omega))|refine zZC ?_|refine sM fun _=>?_|(refine sC ?_ ?_<;>intro hb<;>try omega)|exact cT|fail)
  all_goals first
   |(exfalso;omega)
   |exact ⟨(B,z+1),⟨hB1,by dsimp only;omega,hB2⟩,by dsimp only;omega,sB,sB,.refl _⟩
 have ez:z=4 - p:=by omega
 subst ez;obtain ⟨X,hX⟩: ∃ X,X=sub a i (i+j)++q:=⟨_,rfl⟩;obtain ⟨D,hD⟩: ∃ D,D=((ap a).drop i).take j++((ap a).drop (i+j+1)).take p++List.replicate (4 - p) 48:=⟨_,rfl⟩;have hXD:ap X=D:=by
  rw [hX,iH,eU,hq1,hD,← Rx];congr 3;omega
 rw [← hD];have hsz1:(sub a i (i+j)).size=j:=by rw [co a (by omega)];omega
 have hXs:X.size=j+4:=by rw [hX,TM,hsz1,hq3];omega
 have hDl:D.length=j+4:=by rw [← hXD,av,hXs]
 have hdig: ∀ (k:Nat) c,D[k]? =some c→48≤c∧c≤57:=fun k c hk=>by
  have hc:=Uf hk;rw [hD,Rz,Rz] at hc;refine (fC c).1 ?_;rcases hc with (hc|hc)|hc
  ·exact Cw hW1.symm hc
  ·by_cases h0:p=0
   ·rw [h0] at hc;simp at hc
   ·obtain ⟨r,hr,hr2⟩:=ow (l:=(ap a).drop (i+j)) (by rw [hp];exact h0);rw [hp] at hr2;have:(ap a).drop (i+j+1)=r:=by rw [← SV,hr];rfl
    rw [this] at hc;exact Cw hr2 hc
  ·rw [List.eq_of_mem_replicate hc];rfl
 repeat' (first|(apply ai (d:=66);exact rfl;apply kr (c:=X);exact rfl;exact rfl;exact hX.symm;omega)|refine zZC ?_|refine sM fun _=>?_|(refine sC ?_ ?_<;>intro hb<;>try omega)|exact cT|fail)
 all_goals try (exfalso;omega)
 have hge:=pJ hdig;refine aw [0,1,4,7,8,12] rfl (fun k:Nat=> [(13,.int .i64 (k:Int))]) (fun k=> [.box g7 228 (bh ⟨1,bE (D.take k) 0,ax,aS,i⟩),.box g4 228 (bh dA)]) (fun k=>k≤j+4∧bE (D.take k) 0≤cN) (fun k=>j+4 - k) 0 ⟨by omega,by rw [SK];decide⟩ sB mS ?_;rintro k ⟨hk1,hk2⟩;have hgk:=hge k;by_cases hkl:k<j+4
 ·obtain ⟨c,hc⟩: ∃ c,D[k]? =some c:=⟨_,QU (by omega)⟩;have hcd:=hdig k c hc;have hbc:bat X k=c:=by
   have:=il (a:=X) (i:=k) (by omega);rw [hXD,hc] at this;exact (Option.some.inj this).symm
  have hnx:=wG hc;have hgk1:=hge (k+1);obtain ⟨V,hV⟩: ∃ V,bE (D.take k) 0=V:=⟨_,rfl⟩;rw [hV] at hk2 hgk hnx ⊢;have hq10:IntKind.i64.wrap ((9223372036854775807 - (c - 48)).tdiv 10)=(9223372036854775807 - (c - 48)) / 10:=by
   rw [UK (by omega)];exact I64.wrap ⟨by omega,by omega⟩
  rw [show bh ⟨1,V,ax,aS,i⟩= [.int .u8 1,.int .i64 V,.string ax,.int .i64 0,.int .i64 0,.int .i64 0,.int .i64 0,.int .i64 (i:Int)] from rfl];repeat' (first|(apply ai (d:=75);exact rfl;apply aX (j:=k);exact rfl;exact rfl;omega)|(rw [hbc])|(apply ai (d:=76);exact rfl;apply eB (c:=c - 48);exact rfl;exact rfl;(exact fI (by omega) (by omega)))|(apply ai (d:=77);exact rfl;apply cR (c:=c - 48);exact rfl;exact I64.wrap ⟨by omega,by omega⟩)|(apply ai (d:=81);exact rfl;apply yt;exact rfl;exact rfl;exact ⟨by omega,by omega⟩)|(apply ai (d:=82);exact rfl;apply jB;exact rfl;exact rfl;exact (by decide);exact hq10)|(apply ai (d:=87);exact rfl;apply yw;exact rfl;exact rfl;exact ⟨by omega,by omega⟩)|(apply ai (d:=89);exact rfl;apply lh;exact rfl;exact rfl;exact ⟨by omega,by omega⟩)|refine zZC ?_|refine sM fun _=>?_|(refine sC ?_ ?_<;>intro hb<;>try omega)|exact cT|fail)
  all_goals first
   |(rw [if_pos (show cN<bE D 0 by omega)];refine gO (.inl rfl) rfl rfl pK rfl rfl rfl (MSub.nil _) ?_;exact ⟨rfl,⟨1,V,ax,aS,i⟩,_,rfl⟩)
   | (have hle : 10 * V + (c - 48) ≤ cN := (by omega)
      rw [← hnx] at hle;refine ⟨k+1,⟨by omega,hle⟩,by omega,sB,sB,?_⟩;rw [hnx];exact mS)
 ·have ek:k=j+4:=by omega
  subst ek;rw [Sf (by omega)] at hk2 hgk ⊢;repeat' (first|refine zZC ?_|refine sM fun _=>?_|(refine sC ?_ ?_<;>intro hb<;>try omega)|exact cT|fail)
  all_goals first
   |(exfalso;omega)
   |(rw [if_neg (by omega),hE];refine gO (.inl rfl) rfl rfl pK rfl rfl rfl (MSub.nil _) ?_;exact ⟨rfl,rfl⟩)
theorem rG {a:ByteArray} {i:Nat} (h:a.size≤i):(ap a).drop i= []:=RK (by rw [av];exact h)
theorem Fh (a:ByteArray) (ha:a.size≤256) (i:Nat) (hi:i<a.size) (w:World):
 FnAt Tryz.prog 284 [.string a,.int .i64 (i:Int)] w fun v H=>H= []∧TokR i ((lj ((ap a).drop (i+1))).map fun x=>(⟨2,0,mkB x.1,aS,0⟩,x.2+1)) v:=by
 refine ay Tryz.func284 rfl Tryz.ntmps284 rfl ?_;have hl:=av a;obtain ⟨X,hX⟩: ∃ X,lj ((ap a).drop (i+1))=X:=⟨_,rfl⟩;rw [hX];repeat' (first|refine zZC ?_|refine sM fun _=>?_|(refine sC ?_ ?_<;>intro hb<;>try omega)|fail)
 rename_i g4 g7;refine aw [0,1,4,7] rfl (fun x:Nat × ByteArray=> [(8,.int .i64 (x.1:Int))]) (fun x=> [.box g7 228 (bh ⟨2,0,x.2,aS,i⟩),.box g4 228 (bh dA)]) (fun x=>i+1≤x.1∧x.1≤a.size∧x.2.size≤x.1∧X=(lj ((ap a).drop x.1)).map fun y=>(ap x.2++y.1,y.2+(x.1 - (i+1)))) (fun x=>a.size - x.1) (i+1,ax) ⟨Rg _,hi,QZ _,by rw [hX];cases X<;>simp [wV]⟩ sB mS ?_;rintro ⟨k,T⟩ ⟨hk1,hk2,hT,hXk⟩;dsimp only at hk1 hk2 hT hXk ⊢;rw [show bh ⟨2,0,T,aS,i⟩= [.int .u8 2,.int .i64 0,.string T,.int .i64 0,.int .i64 0,.int .i64 0,.int .i64 0,.int .i64 (i:Int)] from rfl];by_cases hend:k=a.size
 ·subst hend;rw [rG (Rg _)] at hXk;simp only [lj,UX] at hXk;subst hXk;repeat' (first|refine zZC ?_|refine sM fun _=>?_|(refine sC ?_ ?_<;>intro hb<;>try omega)|fail)
  all_goals first
   |(exfalso;omega)
   |((refine cQ ?_);exact ⟨rfl,⟨2,0,T,aS,i⟩,_,rfl⟩)
 have hlt:k<a.size:=by omega
 rw [bi hlt,lj.eq_def] at hXk;dsimp only at hXk;obtain ⟨T1,hT1⟩: ∃ T1,T1=T++sub a k (k+1):=⟨_,rfl⟩;obtain ⟨T2,hT2⟩: ∃ T2,T2=T++({ data:= #[34] }:ByteArray):=⟨_,rfl⟩;have hs1:(sub a k (k+1)).size=1:=by rw [co a (by omega)];omega
 have hs2:({ data:= #[34] }:ByteArray).size=1:=rfl;have hT1s:T1.size=T.size+1:=by rw [hT1,TM,hs1]
 have hT2s:T2.size=T.size+1:=by rw [hT2,TM,hs2]
 have hT1i:ap T1=ap T++ [bat a k]:=by rw [hT1,iH,eU,bi hlt,show k+1 - k=1 by omega];rfl
 have hT2i:ap T2=ap T++ [34]:=by rw [hT2,iH];rfl
 repeat' (first|(refine gy (id:=6) [9] [1] [Blk.box g4 228 (bh dA)] (by kernel_rfl) (by kernel_rfl) (by kernel_rfl) mS ?_)|(apply ai;exact rfl;apply aX (j:=k);exact rfl;exact rfl;omega)|(apply ai;exact rfl;apply aX (j:=k+1);exact rfl;exact rfl;omega)|(apply fq (d:=29);(iterate 3 exact rfl);apply gM (lo:=k) (hi:=k+1);(iterate 3 exact rfl);exact ⟨by omega,by omega⟩)|(apply fq (d:=30);(iterate 3 exact rfl);apply kr (c:=T1);exact rfl;exact rfl;exact hT1.symm;omega)|(apply ai (d:=46);exact rfl;apply kr (c:=T2);exact rfl;exact rfl;exact hT2.symm;omega)|refine sT ?_|refine sS ?_|refine sW ?_|refine sT2 ?_|refine sW2 ?_|refine sN ?_|refine sWN ?_|refine sM fun _=>?_|(refine sC ?_ ?_<;>intro hb<;>try omega)|(refine sCW ?_ ?_<;>intro hb<;>try omega)|fail)
 ·rw [if_pos (by assumption),Ug] at hXk;refine ⟨(k+1,T1),⟨by dsimp only;omega,hlt,by dsimp only;omega,?_⟩,by dsimp only;omega,sB,sB,by exact mS⟩;rw [hXk];congr 1;funext y;simp only [Function.comp,hT1i,Rx,UZ];congr 1;omega
 ·have h34:bat a (k+1)=34:=by assumption
  rw [if_neg (by assumption),bi (by omega),h34] at hXk;simp only [if_true,Ug] at hXk;refine ⟨(k+1+1,T2),⟨by dsimp only;omega,by dsimp only;omega,by dsimp only;omega,?_⟩,by dsimp only;omega,sB,sB,by exact mS⟩;rw [hXk];congr 1;funext y;simp only [Function.comp,hT2i,Rx,UZ];congr 1;omega
 ·have h34: ¬ bat a (k+1)=34:=by assumption
  rw [if_neg (by assumption),bi (by omega)] at hXk;simp only [if_neg h34,Sq,Rc] at hXk;subst hXk;(refine cQ ?_);refine ⟨rfl,?_⟩;simp only [Sq,TokR,mi];rw [show i+(1+(k - (i+1))+1)=k+1 by omega]
  rfl
 ·rw [if_neg (by assumption),rG (by omega)] at hXk;simp only [Sq,Rc] at hXk;subst hXk;(refine cQ ?_);refine ⟨rfl,?_⟩;simp only [Sq,TokR,mi];rw [show i+(1+(k - (i+1))+1)=k+1 by omega]
  rfl
theorem oH {a:ByteArray} {i:Nat}:((ap a).drop i).headD 0=bat a i:=by
 by_cases h:i<a.size
 ·rw [bi h];rfl
 ·rw [rG (by omega),jz (by omega)];rfl
theorem pF (a:ByteArray) (ha:a.size≤256) (i:Nat) (hi:i≤a.size) (w:World):aC Tryz.prog 300 [.string a,.int .i64 (i:Int)] w (.int .i64 ((i+aG cY ((ap a).drop i):Nat):Int)):=by
 refine ay Tryz.func300 rfl Tryz.ntmps300 rfl ?_;have hl:=av a;obtain ⟨X,hX⟩: ∃ X,i+aG cY ((ap a).drop i)=X:=⟨_,rfl⟩;rw [hX];repeat' (first|refine zZB ?_|refine sM fun _=>?_|(refine sC ?_ ?_<;>intro hb<;>try omega)|fail)
 refine aw [0] rfl (fun j:Nat=> [(1,.int .i64 (j:Int))]) (fun _=> []) (fun j=>j≤a.size∧X=j+aG cY ((ap a).drop j)) (fun j=>a.size - j) i ⟨hi,hX.symm⟩ sB (.refl _) ?_;rintro j ⟨hj,hx⟩;have hL:=fun w=>nj a (by omega) j w;have hD:=fun w=>oh a (by omega) j w;by_cases hw:cY (bat a j)=true
 ·have hlt:j<a.size:=by
   rcases SW j a.size with h|h
   ·exact h
   ·rw [jz h] at hw;cases hw
  rw [iO hlt,if_pos hw] at hx;obtain ⟨b1,hb1⟩: ∃ b,bT (bat a j)=b:=⟨_,rfl⟩;obtain ⟨b2,hb2⟩: ∃ b,aH (bat a j)=b:=⟨_,rfl⟩;rw [hb1] at hL;rw [hb2] at hD;have h12:(b1||b2)=true:=by rw [← hb1,← hb2];exact hw
  cases b1<;>cases b2<;>first|(exact absurd h12 (by decide))|skip
  all_goals
   repeat' (first|(apply aa (f:=285);exact rfl;exact rfl;(intro w' hm;exact hL w'))|(apply aa (f:=282);exact rfl;exact rfl;(intro w' hm;exact hD w'))|refine zZA ?_|refine sM fun _=>?_|(refine sC ?_ ?_<;>intro hb<;>try omega)|fail)
   exact ⟨j+1,⟨hlt,by omega⟩,by omega,sB,sB,.nil _⟩
 ·have hr:aG cY ((ap a).drop j)=0:=by
   by_cases hlt:j<a.size
   ·rw [iO hlt,if_neg hw]
   ·rw [rG (by omega)];rfl
  rw [hr,Tw] at hx;subst hx;have h1:bT (bat a X)=false:=by unfold cY at hw;revert hw;cases bT (bat a X)<;>simp
  have h2:aH (bat a X)=false:=by unfold cY at hw;revert hw;cases aH (bat a X)<;>simp
  rw [h1] at hL;rw [h2] at hD;repeat' (first|(apply aa (f:=285);exact rfl;exact rfl;(intro w' hm;exact hL w'))|(apply aa (f:=282);exact rfl;exact rfl;(intro w' hm;exact hD w'))|(refine rT1 ?_)|refine zZA ?_|refine sM fun _=>?_|(refine sC ?_ ?_<;>intro hb<;>try omega)|fail)
  rfl
theorem qH (a:ByteArray) (i W:Nat):ap (sub a i (i+W))=((ap a).drop i).take W:=by
 rw [eU];congr 1;omega
def PN (a:ByteArray) (i:Nat):Value:=
 if bT (bat a i)=false then .tuple #[.agg (aB ⟨0,0⟩).toArray,.int .i64 0,.bool false]
 else .tuple #[.agg (aB ⟨(cy (upW ((ap a).drop i))).1,(cy (upW ((ap a).drop i))).2.1⟩).toArray,.int .i64 ((i+aG cY ((ap a).drop i):Nat):Int),.bool (decide ((cy (upW ((ap a).drop i))).2.2=0∧bat a (i+aG cY ((ap a).drop i))≠40))]
theorem pH (a:ByteArray) (ha:a.size≤256) (i:Nat) (hi:i≤a.size) (w:World):aC Tryz.prog 301 [.string a,.int .i64 (i:Int)] w (PN a i):=by
 refine ay Tryz.func301 rfl Tryz.ntmps301 rfl ?_;have hl:=av a;have hL:=fun w=>nj a (by omega) i w;have hW:=fun w=>pF a ha i hi w;obtain ⟨W,hWe⟩: ∃ W,aG cY ((ap a).drop i)=W:=⟨_,rfl⟩;have hWl:i+W≤a.size:=by
  have:=bY cY ((ap a).drop i);rw [RE] at this;omega
 have hP:=fun w=>Fu (sub a i (i+W)) (by rw [co a (by omega)];omega) w;rw [qH] at hP;unfold PN;rw [QI];rw [hWe] at hW ⊢;obtain ⟨c,r,e,hA⟩: ∃ c r e,cy (((ap a).drop i).take W)=(c,r,e):=⟨_,_,_,rfl⟩;rw [hA] at hP ⊢;dsimp only at hP ⊢;obtain ⟨b,hb⟩: ∃ b,bT (bat a i)=b:=⟨_,rfl⟩;rw [hb] at hL ⊢;have hout:a.size≤i+W→bat a (i+W)≠40:=fun h=>by rw [jz h];decide
 cases b with
 |false=>
  repeat' (first|(apply aa (f:=285);exact rfl;exact rfl;(intro w' hm;exact hL w'))|refine zZC ?_|refine sM fun _=>?_|(refine sC ?_ ?_<;>intro hb<;>try omega)|fail)
  all_goals ((refine cQ ?_);rfl)
 |true=>
  rw [if_neg (by simp)];repeat' (first|(apply aa (f:=285);exact rfl;exact rfl;(intro w' hm;exact hL w'))|(apply aa (f:=300);exact rfl;exact rfl;(intro w' hm;exact hW w'))|(apply aa (f:=314);exact rfl;exact rfl;(intro w' hm;exact hP w'))|(apply ai (d:=22);exact rfl;apply gM (lo:=i) (hi:=i+W);(iterate 3 exact rfl);exact ⟨by omega,by omega⟩)|(rename_i g4 g8;refine gy (id:=5) [16] [] [Blk.box g8 28 (aB ⟨c,r⟩)] (by kernel_rfl) (by kernel_rfl) (by kernel_rfl) mS ?_)|(apply fq (d:=38);(iterate 3 exact rfl);apply aX (j:=i+W);exact rfl;exact rfl;omega)|refine sT ?_|refine sS ?_|refine sW ?_|refine sT2 ?_|refine sW2 ?_|refine sN ?_|refine sWN ?_|refine sM fun _=>?_|(refine sC ?_ ?_<;>intro hb<;>try omega)|(refine sCW ?_ ?_<;>intro hb<;>try omega)|fail)
  ·(refine cQ ?_);rw [decide_eq_true (show e=0∧bat a (i+W)≠40 from ⟨by assumption,hout (by omega)⟩)]
   rfl
  ·(refine cQ ?_);have he:e=0:=by assumption
   subst he;simp only [true_and]
   rfl
  ·(refine cQ ?_);rw [decide_eq_false (show ¬ (e=0∧bat a (i+W)≠40) from fun h=>absurd h.1 (by assumption))]
   rfl
theorem Ff (a:ByteArray) (ha:a.size≤256) (i:Nat) (hi:i<a.size) (hli:bT (bat a i)=true) (w:World):FnAt Tryz.prog 286 [.string a,.int .i64 (i:Int)] w fun v H=>H= []∧TokR i (iI ((ap a).drop i)) v:=by
 refine ay Tryz.func286 rfl Tryz.ntmps286 rfl ?_;have hl:=av a;have hW:=fun w=>pF a ha i (by omega) w;obtain ⟨W,hWe⟩: ∃ W,aG cY ((ap a).drop i)=W:=⟨_,rfl⟩;have hWl:i+W≤a.size:=by
  have:=bY cY ((ap a).drop i);rw [RE] at this;omega
 have hA1:=fun w=>pH a ha i (by omega) w;have hA2:=fun (h:i+W<a.size) w=>pH a ha (i+W+1) h w;have hU:=fun w=>lp (sub a i (i+W)) (by rw [co a (by omega)];omega) w;obtain ⟨U,hUe⟩: ∃ U,upB (sub a i (i+W))=U:=⟨_,rfl⟩;have hUm:mkB (upW ((ap a).drop i))=U:=by
  rw [← hUe,Kx,hWe,← mi (upB _),q9,qH]
 have hl0:((ap a).drop i).headD 0=bat a i:=oH;have hl1:(((ap a).drop i).drop W).headD 0=bat a (i+W):=by rw [SV,oH]
 have hd2:((ap a).drop i).drop (W+1)=(ap a).drop (i+W+1):=by rw [SV,SC]
 have hl2:((ap a).drop (i+W+1)).headD 0=bat a (i+W+1):=oH;obtain ⟨W2,hW2⟩: ∃ W2,aG cY ((ap a).drop (i+W+1))=W2:=⟨_,rfl⟩;have hl3:(((ap a).drop i).drop (W+1+W2)).headD 0=bat a (i+W+1+W2):=by rw [SV,oH];congr 1;omega
 have hW2l:i+W<a.size→i+W+1+W2≤a.size:=fun h=>by
  have:=bY cY ((ap a).drop (i+W+1));rw [RE] at this;omega
 unfold iI;unfold PN at hA1 hA2;rw [hl0,hli,if_neg (by simp)];rw [hWe] at hW hA1 ⊢;rw [hd2,hl1,hl2,hW2,hl3];rw [hli,if_neg (by simp)] at hA1;rw [hW2] at hA2;rw [hUm];rw [hUe] at hU;obtain ⟨c1,r1,e1,hx1⟩: ∃ c r e,cy (upW ((ap a).drop i))=(c,r,e):=⟨_,_,_,rfl⟩;obtain ⟨c2,r2,e2,hx2⟩: ∃ c r e,cy (upW ((ap a).drop (i+W+1)))=(c,r,e):=⟨_,_,_,rfl⟩;rw [hx1] at hA1 ⊢;rw [hx2] at hA2 ⊢;dsimp only at hA1 hA2 ⊢;have hout:a.size≤i+W→bat a (i+W)≠40∧bat a (i+W)≠58:=fun h=>by rw [jz h];decide
 by_cases h40:bat a (i+W)=40
 ·rw [if_pos h40];have hlt:i+W<a.size:=by
   rcases SW (i+W) a.size with h|h
   ·exact h
   ·exact absurd h40 (hout h).1
  repeat' (first|(apply aa (f:=300);exact rfl;exact rfl;(intro w' hm;exact hW w'))|(apply aa (f:=198);exact rfl;exact rfl;(intro w' hm;exact hU w'))|(apply ai (d:=22);exact rfl;apply gM (lo:=i) (hi:=i+W);(iterate 3 exact rfl);exact ⟨by omega,by omega⟩)|(apply ai (d:=31);exact rfl;apply aX (j:=i+W);exact rfl;exact rfl;omega)|refine zZC ?_|refine sM fun _=>?_|(refine sC ?_ ?_<;>intro hb<;>try omega)|fail)
  all_goals
   first
   |(exfalso;omega)
   |((refine cQ ?_);exact ⟨rfl,rfl⟩)
 rw [if_neg h40];clear hli hUm hUe hl0 hl1 hd2 hl2 hl3;by_cases hT:U=nU
 ·rw [if_pos hT];subst hT;repeat' (first|(apply aa (f:=300);exact rfl;exact rfl;(intro w' hm;exact hW w'))|(apply aa (f:=198);exact rfl;exact rfl;(intro w' hm;exact hU w'))|(apply ai (d:=22);exact rfl;apply gM (lo:=i) (hi:=i+W);(iterate 3 exact rfl);exact ⟨by omega,by omega⟩)|(apply ai (d:=31);exact rfl;apply aX (j:=i+W);exact rfl;exact rfl;omega)|(apply ai (d:=70);exact rfl;apply aX (j:=i+W);exact rfl;exact rfl;omega)|(apply aa (d:=51);exact rfl;exact rfl;(intro w' hm;exact hA1 w'))|(apply aa (d:=76);exact rfl;exact rfl;(intro w' hm;exact hA2 w'))|(apply aa (f:=100);exact rfl;exact rfl;(intro w' hm;exact gF ⟨c1,r1⟩ w'))|(apply ai (d:=85);exact rfl;exact gP _ _ ▸ iX rfl rfl)|(apply ai (d:=90);exact rfl;exact gP _ _ ▸ iX rfl rfl)|(apply ai (d:=95);exact rfl;exact gQ _ _ ▸ iY rfl rfl)|(apply ai (d:=100);exact rfl;exact gQ _ _ ▸ iY rfl rfl)|(apply ai (d:=105);exact rfl;exact eC (a:=⟨c1,r1⟩) (b:=⟨c2,r2⟩) rfl rfl rfl)|refine zZC ?_|refine sM fun _=>?_|(refine sC ?_ ?_<;>intro hb<;>try omega)|fail)
  all_goals
   first
   |(exfalso;omega)
   |(exact absurd rfl (by assumption))
   |((refine cQ ?_);exact ⟨rfl,rfl⟩)
 rw [if_neg hT];by_cases hF:U=lT
 ·rw [if_pos hF];subst hF;repeat' (first|(apply aa (f:=300);exact rfl;exact rfl;(intro w' hm;exact hW w'))|(apply aa (f:=198);exact rfl;exact rfl;(intro w' hm;exact hU w'))|(apply ai (d:=22);exact rfl;apply gM (lo:=i) (hi:=i+W);(iterate 3 exact rfl);exact ⟨by omega,by omega⟩)|(apply ai (d:=31);exact rfl;apply aX (j:=i+W);exact rfl;exact rfl;omega)|(apply ai (d:=70);exact rfl;apply aX (j:=i+W);exact rfl;exact rfl;omega)|(apply aa (d:=51);exact rfl;exact rfl;(intro w' hm;exact hA1 w'))|(apply aa (d:=76);exact rfl;exact rfl;(intro w' hm;exact hA2 w'))|(apply aa (f:=100);exact rfl;exact rfl;(intro w' hm;exact gF ⟨c1,r1⟩ w'))|(apply ai (d:=85);exact rfl;exact gP _ _ ▸ iX rfl rfl)|(apply ai (d:=90);exact rfl;exact gP _ _ ▸ iX rfl rfl)|(apply ai (d:=95);exact rfl;exact gQ _ _ ▸ iY rfl rfl)|(apply ai (d:=100);exact rfl;exact gQ _ _ ▸ iY rfl rfl)|(apply ai (d:=105);exact rfl;exact eC (a:=⟨c1,r1⟩) (b:=⟨c2,r2⟩) rfl rfl rfl)|refine zZC ?_|refine sM fun _=>?_|(refine sC ?_ ?_<;>intro hb<;>try omega)|fail)
  all_goals
   first
   |(exfalso;omega)
   |(exact absurd (by assumption) hT)
   |(exact absurd rfl (by assumption))
   |((refine cQ ?_);exact ⟨rfl,rfl⟩)
 rw [if_neg hF];have hT' : ¬ U=({ data:= #[84,82,85,69] }:ByteArray):=hT;have hF' : ¬ U=({ data:= #[70,65,76,83,69] }:ByteArray):=hF;simp only [ne_eq,h40,not_false_eq_true,and_true] at hA1;by_cases he1:e1=0
 ·rw [if_neg (fun h=>h he1)];rw [decide_eq_true he1] at hA1;by_cases h58:bat a (i+W)=58
  ·have hlt:i+W<a.size:=by
    rcases SW (i+W) a.size with h|h
    ·exact h
    ·exact absurd h58 (hout h).2
   replace hA2:=hA2 hlt;by_cases hl2:bT (bat a (i+W+1))=true
   ·rw [hl2,if_neg (by simp)] at hA2;by_cases hok:e2=0∧bat a (i+W+1+W2)≠40
    ·rw [if_pos ⟨h58,hl2,hok⟩];rw [decide_eq_true hok] at hA2;repeat' (first|(apply aa (f:=300);exact rfl;exact rfl;(intro w' hm;exact hW w'))|(apply aa (f:=198);exact rfl;exact rfl;(intro w' hm;exact hU w'))|(apply ai (d:=22);exact rfl;apply gM (lo:=i) (hi:=i+W);(iterate 3 exact rfl);exact ⟨by omega,by omega⟩)|(apply ai (d:=31);exact rfl;apply aX (j:=i+W);exact rfl;exact rfl;omega)|(apply ai (d:=70);exact rfl;apply aX (j:=i+W);exact rfl;exact rfl;omega)|(apply aa (d:=51);exact rfl;exact rfl;(intro w' hm;exact hA1 w'))|(apply aa (d:=76);exact rfl;exact rfl;(intro w' hm;exact hA2 w'))|(apply aa (f:=100);exact rfl;exact rfl;(intro w' hm;exact gF ⟨c1,r1⟩ w'))|(apply ai (d:=85);exact rfl;exact gP _ _ ▸ iX rfl rfl)|(apply ai (d:=90);exact rfl;exact gP _ _ ▸ iX rfl rfl)|(apply ai (d:=95);exact rfl;exact gQ _ _ ▸ iY rfl rfl)|(apply ai (d:=100);exact rfl;exact gQ _ _ ▸ iY rfl rfl)|(apply ai (d:=105);exact rfl;exact eC (a:=⟨c1,r1⟩) (b:=⟨c2,r2⟩) rfl rfl rfl)|refine zZC ?_|refine sM fun _=>?_|(refine sC ?_ ?_<;>intro hb<;>try omega)|fail)
     all_goals
      first
      |(exfalso;omega)
      |(exact absurd (by assumption) hT')
      |(exact absurd (by assumption) hF')
      |((refine cQ ?_);exact ⟨rfl,dA,_,rfl⟩)
      |((refine cQ ?_);exact ⟨rfl,rfl⟩)
      | ((refine cQ ?_)
         refine ⟨rfl,?_⟩;have hne: ¬ (c1=c2∧r1=r2):=fun h=>(by assumption:(⟨c1,r1⟩:Rf)≠⟨c2,r2⟩) (by rw [h.1,h.2]);simp only [TokR,if_neg hne];rw [show i+(W+1+W2)=i+W+1+W2 by omega]
         rfl)
      | ((refine cQ ?_)
         refine ⟨rfl,?_⟩;have heq:c1=c2∧r1=r2:=by
          have:(⟨c1,r1⟩:Rf)=⟨c2,r2⟩:=Classical.not_not.1 (by assumption);cases this;exact ⟨rfl,rfl⟩
         simp only [TokR,if_pos heq];rw [show i+(W+1+W2)=i+W+1+W2 by omega]
         rfl)
    ·rw [if_neg fun h=>hok h.2.2];rw [decide_eq_false hok] at hA2;repeat' (first|(apply aa (f:=300);exact rfl;exact rfl;(intro w' hm;exact hW w'))|(apply aa (f:=198);exact rfl;exact rfl;(intro w' hm;exact hU w'))|(apply ai (d:=22);exact rfl;apply gM (lo:=i) (hi:=i+W);(iterate 3 exact rfl);exact ⟨by omega,by omega⟩)|(apply ai (d:=31);exact rfl;apply aX (j:=i+W);exact rfl;exact rfl;omega)|(apply ai (d:=70);exact rfl;apply aX (j:=i+W);exact rfl;exact rfl;omega)|(apply aa (d:=51);exact rfl;exact rfl;(intro w' hm;exact hA1 w'))|(apply aa (d:=76);exact rfl;exact rfl;(intro w' hm;exact hA2 w'))|(apply aa (f:=100);exact rfl;exact rfl;(intro w' hm;exact gF ⟨c1,r1⟩ w'))|(apply ai (d:=85);exact rfl;exact gP _ _ ▸ iX rfl rfl)|(apply ai (d:=90);exact rfl;exact gP _ _ ▸ iX rfl rfl)|(apply ai (d:=95);exact rfl;exact gQ _ _ ▸ iY rfl rfl)|(apply ai (d:=100);exact rfl;exact gQ _ _ ▸ iY rfl rfl)|(apply ai (d:=105);exact rfl;exact eC (a:=⟨c1,r1⟩) (b:=⟨c2,r2⟩) rfl rfl rfl)|refine zZC ?_|refine sM fun _=>?_|(refine sC ?_ ?_<;>intro hb<;>try omega)|fail)
     all_goals
      first
      |(exfalso;omega)
      |(exact absurd (by assumption) hT')
      |(exact absurd (by assumption) hF')
      |((refine cQ ?_);exact ⟨rfl,dA,_,rfl⟩)
      |((refine cQ ?_);exact ⟨rfl,rfl⟩)
      | ((refine cQ ?_)
         refine ⟨rfl,?_⟩;have hne: ¬ (c1=c2∧r1=r2):=fun h=>(by assumption:(⟨c1,r1⟩:Rf)≠⟨c2,r2⟩) (by rw [h.1,h.2]);simp only [TokR,if_neg hne];rw [show i+(W+1+W2)=i+W+1+W2 by omega]
         rfl)
      | ((refine cQ ?_)
         refine ⟨rfl,?_⟩;have heq:c1=c2∧r1=r2:=by
          have:(⟨c1,r1⟩:Rf)=⟨c2,r2⟩:=Classical.not_not.1 (by assumption);cases this;exact ⟨rfl,rfl⟩
         simp only [TokR,if_pos heq];rw [show i+(W+1+W2)=i+W+1+W2 by omega]
         rfl)
   ·rw [if_neg fun h=>hl2 h.2.1];rw [if_pos (by simpa using hl2)] at hA2;repeat' (first|(apply aa (f:=300);exact rfl;exact rfl;(intro w' hm;exact hW w'))|(apply aa (f:=198);exact rfl;exact rfl;(intro w' hm;exact hU w'))|(apply ai (d:=22);exact rfl;apply gM (lo:=i) (hi:=i+W);(iterate 3 exact rfl);exact ⟨by omega,by omega⟩)|(apply ai (d:=31);exact rfl;apply aX (j:=i+W);exact rfl;exact rfl;omega)|(apply ai (d:=70);exact rfl;apply aX (j:=i+W);exact rfl;exact rfl;omega)|(apply aa (d:=51);exact rfl;exact rfl;(intro w' hm;exact hA1 w'))|(apply aa (d:=76);exact rfl;exact rfl;(intro w' hm;exact hA2 w'))|(apply aa (f:=100);exact rfl;exact rfl;(intro w' hm;exact gF ⟨c1,r1⟩ w'))|(apply ai (d:=85);exact rfl;exact gP _ _ ▸ iX rfl rfl)|(apply ai (d:=90);exact rfl;exact gP _ _ ▸ iX rfl rfl)|(apply ai (d:=95);exact rfl;exact gQ _ _ ▸ iY rfl rfl)|(apply ai (d:=100);exact rfl;exact gQ _ _ ▸ iY rfl rfl)|(apply ai (d:=105);exact rfl;exact eC (a:=⟨c1,r1⟩) (b:=⟨c2,r2⟩) rfl rfl rfl)|refine zZC ?_|refine sM fun _=>?_|(refine sC ?_ ?_<;>intro hb<;>try omega)|fail)
    all_goals
     first
     |(exfalso;omega)
     |(exact absurd (by assumption) hT')
     |(exact absurd (by assumption) hF')
     |((refine cQ ?_);exact ⟨rfl,dA,_,rfl⟩)
     |((refine cQ ?_);exact ⟨rfl,rfl⟩)
     | ((refine cQ ?_)
        refine ⟨rfl,?_⟩;have hne: ¬ (c1=c2∧r1=r2):=fun h=>(by assumption:(⟨c1,r1⟩:Rf)≠⟨c2,r2⟩) (by rw [h.1,h.2]);simp only [TokR,if_neg hne];rw [show i+(W+1+W2)=i+W+1+W2 by omega]
        rfl)
     | ((refine cQ ?_)
        refine ⟨rfl,?_⟩;have heq:c1=c2∧r1=r2:=by
         have:(⟨c1,r1⟩:Rf)=⟨c2,r2⟩:=Classical.not_not.1 (by assumption);cases this;exact ⟨rfl,rfl⟩
        simp only [TokR,if_pos heq];rw [show i+(W+1+W2)=i+W+1+W2 by omega]
        rfl)
  ·rw [if_neg fun h=>h58 h.1];repeat' (first|(apply aa (f:=300);exact rfl;exact rfl;(intro w' hm;exact hW w'))|(apply aa (f:=198);exact rfl;exact rfl;(intro w' hm;exact hU w'))|(apply ai (d:=22);exact rfl;apply gM (lo:=i) (hi:=i+W);(iterate 3 exact rfl);exact ⟨by omega,by omega⟩)|(apply ai (d:=31);exact rfl;apply aX (j:=i+W);exact rfl;exact rfl;omega)|(apply ai (d:=70);exact rfl;apply aX (j:=i+W);exact rfl;exact rfl;omega)|(apply aa (d:=51);exact rfl;exact rfl;(intro w' hm;exact hA1 w'))|(apply aa (d:=76);exact rfl;exact rfl;(intro w' hm;exact hA2 w'))|(apply aa (f:=100);exact rfl;exact rfl;(intro w' hm;exact gF ⟨c1,r1⟩ w'))|(apply ai (d:=85);exact rfl;exact gP _ _ ▸ iX rfl rfl)|(apply ai (d:=90);exact rfl;exact gP _ _ ▸ iX rfl rfl)|(apply ai (d:=95);exact rfl;exact gQ _ _ ▸ iY rfl rfl)|(apply ai (d:=100);exact rfl;exact gQ _ _ ▸ iY rfl rfl)|(apply ai (d:=105);exact rfl;exact eC (a:=⟨c1,r1⟩) (b:=⟨c2,r2⟩) rfl rfl rfl)|refine zZC ?_|refine sM fun _=>?_|(refine sC ?_ ?_<;>intro hb<;>try omega)|fail)
   all_goals
    first
    |(exfalso;omega)
    |(exact absurd (by assumption) hT')
    |(exact absurd (by assumption) hF')
    |((refine cQ ?_);exact ⟨rfl,dA,_,rfl⟩)
    |((refine cQ ?_);exact ⟨rfl,rfl⟩)
    | ((refine cQ ?_)
       refine ⟨rfl,?_⟩;have hne: ¬ (c1=c2∧r1=r2):=fun h=>(by assumption:(⟨c1,r1⟩:Rf)≠⟨c2,r2⟩) (by rw [h.1,h.2]);simp only [TokR,if_neg hne];rw [show i+(W+1+W2)=i+W+1+W2 by omega]
       rfl)
    | ((refine cQ ?_)
       refine ⟨rfl,?_⟩;have heq:c1=c2∧r1=r2:=by
        have:(⟨c1,r1⟩:Rf)=⟨c2,r2⟩:=Classical.not_not.1 (by assumption);cases this;exact ⟨rfl,rfl⟩
       simp only [TokR,if_pos heq];rw [show i+(W+1+W2)=i+W+1+W2 by omega]
       rfl)
 ·rw [if_pos he1];rw [decide_eq_false he1] at hA1;repeat' (first|(apply aa (f:=300);exact rfl;exact rfl;(intro w' hm;exact hW w'))|(apply aa (f:=198);exact rfl;exact rfl;(intro w' hm;exact hU w'))|(apply ai (d:=22);exact rfl;apply gM (lo:=i) (hi:=i+W);(iterate 3 exact rfl);exact ⟨by omega,by omega⟩)|(apply ai (d:=31);exact rfl;apply aX (j:=i+W);exact rfl;exact rfl;omega)|(apply ai (d:=70);exact rfl;apply aX (j:=i+W);exact rfl;exact rfl;omega)|(apply aa (d:=51);exact rfl;exact rfl;(intro w' hm;exact hA1 w'))|(apply aa (d:=76);exact rfl;exact rfl;(intro w' hm;exact hA2 w'))|(apply aa (f:=100);exact rfl;exact rfl;(intro w' hm;exact gF ⟨c1,r1⟩ w'))|(apply ai (d:=85);exact rfl;exact gP _ _ ▸ iX rfl rfl)|(apply ai (d:=90);exact rfl;exact gP _ _ ▸ iX rfl rfl)|(apply ai (d:=95);exact rfl;exact gQ _ _ ▸ iY rfl rfl)|(apply ai (d:=100);exact rfl;exact gQ _ _ ▸ iY rfl rfl)|(apply ai (d:=105);exact rfl;exact eC (a:=⟨c1,r1⟩) (b:=⟨c2,r2⟩) rfl rfl rfl)|refine zZC ?_|refine sM fun _=>?_|(refine sC ?_ ?_<;>intro hb<;>try omega)|fail)
  all_goals
   first
   |(exfalso;omega)
   |(exact absurd (by assumption) hT')
   |(exact absurd (by assumption) hF')
   |((refine cQ ?_);exact ⟨rfl,dA,_,rfl⟩)
   |((refine cQ ?_);exact ⟨rfl,rfl⟩)
   | ((refine cQ ?_)
      refine ⟨rfl,?_⟩;have hne: ¬ (c1=c2∧r1=r2):=fun h=>(by assumption:(⟨c1,r1⟩:Rf)≠⟨c2,r2⟩) (by rw [h.1,h.2]);simp only [TokR,if_neg hne];rw [show i+(W+1+W2)=i+W+1+W2 by omega]
      rfl)
   | ((refine cQ ?_)
      refine ⟨rfl,?_⟩;have heq:c1=c2∧r1=r2:=by
       have:(⟨c1,r1⟩:Rf)=⟨c2,r2⟩:=Classical.not_not.1 (by assumption);cases this;exact ⟨rfl,rfl⟩
      simp only [TokR,if_pos heq];rw [show i+(W+1+W2)=i+W+1+W2 by omega]
      rfl)
def opB (k:Int):ByteArray:=
 if k=1 then ⟨#[43]⟩ else if k=2 then ⟨#[45]⟩ else if k=3 then ⟨#[42]⟩ else if k=4 then ⟨#[47]⟩ else if k=5 then ⟨#[94]⟩ else if k=6 then ⟨#[38]⟩ else if k=7 then ⟨#[61]⟩
 else if k=8 then ⟨#[60,62]⟩ else if k=9 then ⟨#[60]⟩ else if k=10 then ⟨#[60,61]⟩ else if k=11 then ⟨#[62]⟩ else if k=12 then ⟨#[62,61]⟩ else if k=13 then ⟨#[37]⟩ else ⟨#[]⟩
theorem vZ (k:Int) (w:World):aC Tryz.prog 304 [.int .i64 k] w (.string (opB k)):=by
 refine ay Tryz.func304 rfl Tryz.ntmps304 rfl ?_;repeat' (first|(refine rT1 ?_)|refine zZB ?_|refine sM fun _=>?_|(refine sC ?_ ?_<;>intro hb<;>try omega)|fail)
 all_goals
  unfold opB;repeat (first|rw [if_pos (by assumption)]|rw [if_neg (by assumption)])
theorem z7 (a:ByteArray) (ha:a.size≤256) (i:Nat) (hi:i≤a.size) (s:ByteArray) (hs:s.size≤1000) (w:World):aC Tryz.prog 303 [.string a,.int .i64 (i:Int),.string s] w (.bool (decide ((((ap a).drop i).take s.size).map upC=ap s))):=by
 refine ay Tryz.func303 rfl Tryz.ntmps303 rfl ?_;have hl:=av a;have hU:=fun h:i+s.size≤a.size=>fun w=>lp (sub a i (i+s.size)) (by rw [co a h];omega) w;repeat' (first|(apply aa (f:=198);exact rfl;exact rfl;(intro w' hm;exact hU (by omega) w'))|(apply ai (d:=21);exact rfl;apply gM (lo:=i) (hi:=i+s.size);(iterate 3 exact rfl);exact ⟨by omega,by omega⟩)|(refine rT1 ?_)|refine zZC ?_|refine sM fun _=>?_|(refine sC ?_ ?_<;>intro hb<;>try omega)|fail)
 ·have:(upB (sub a i (i+s.size))=s)=((((ap a).drop i).take s.size).map upC=ap s):=by
   rw [eq_iff_iff];constructor
   ·intro h;rw [← h,q9,qH,h]
   ·intro h;apply wU;rw [q9,qH,h]
  simp only [this]
 ·rw [decide_eq_false];intro h;have:=congrArg List.length h;rw [RA,RI,RE,hl,av] at this;omega
theorem E7 {p:Int→Bool} {l:List Int} (h:aG p l=l.length): ∀ c∈l,p c=true:=by
 intro c hc;have:c∈l.take (aG p l):=by rw [h,RS];exact hc
 exact l6 this
theorem N7 (l0:List Int): -9223372036854775808≤(iB l0).1:=by
 unfold iB
 extract_lets neg l n rest frac p5
 split
 ·show (-9223372036854775808:Int)≤0;omega
 ·rename_i v _hc;have h0:0≤bE (l.take n++p5.take 4) 0:=by
   refine sq _ (fun c hc=> ?_) (TG _);rcases Rz.1 hc with hc|hc
   ·have:=l6 (p:=aH) hc;rw [fC] at this;exact this.1
   ·have hc:=SF hc;rcases Rz.1 hc with hc|hc
    ·by_cases hf:frac=true
     ·rw [if_pos hf] at hc;simp only [frac,RB,decide_eq_true_eq] at hf;have hl:rest.tail.length=rest.length - 1:=UF;have:=E7 (p:=aH) (l:=rest.tail) (by omega) c hc;rw [fC] at this;exact this.1
     ·rw [if_neg hf] at hc;cases hc
    ·simp only [RF,TK,or_false,or_self] at hc;omega
  have hv0:0≤v:=by
   show 0≤bE (l.take n++p5.take 4) 0+(if 53≤p5.getD 4 0 then 1 else 0);split<;>omega
  split
  ·show (-9223372036854775808:Int)≤0;omega
  ·rename_i hv;simp only [cN] at hv;split
   ·show (-9223372036854775808:Int)≤ -v;omega
   ·show (-9223372036854775808:Int)≤v;omega
theorem CL (b:ByteArray) (hb:b.size≤1000000) (w:World):aC Tryz.prog 155 [.string b] w (.agg (d9 (xz b)).toArray):=by
 refine ay Tryz.func155 rfl Tryz.ntmps155 rfl ?_;by_cases h0:b=ax
 ·subst h0;repeat' (first|refine zZF ?_|refine sM fun _=>?_|(refine sC ?_ ?_<;>intro hb<;>try omega)|fail)
  all_goals first
   |((refine eRC ?_);rfl)
   |(exfalso;rename_i hb;exact hb rfl)
 have hpos:0<b.size:=by
  rcases SY b.size with h|h
  ·exact absurd (ByteArray.ext (UD h)) h0
  ·exact h
 have hU:=fun w=>lp b hb w;have hC:=fun w=>Ft b hb w;have hD:=fun w=>IM b hb w;have hge:=N7 (ap b);have hM:=fun w=>Fp _ hge w;have hF:=fun c w=>qd c w;have hTr:=fun c w=>CD c w;have hhd:(ap b).headD 0=bat b 0:=by have:=oH (a:=b) (i:=0);rwa [SP] at this
 have hsub:sub b 1 b.size=mkB (ap b).tail:=by
  refine Lm ?_;rw [eU,List.drop_one,Sf];rw [UF,av];exact Rg _
 unfold xz;rw [if_neg h0,hhd];obtain ⟨u,hu⟩: ∃ u,upB b=u:=⟨_,rfl⟩;obtain ⟨⟨cn,ce⟩,hce⟩: ∃ u,jc b=u:=⟨_,rfl⟩;obtain ⟨⟨dn,de⟩,hde⟩: ∃ u,iB (ap b)=u:=⟨_,rfl⟩;rw [hu] at hU ⊢;rw [hce] at hC ⊢;rw [hde] at hD hM hge ⊢;dsimp only at hC hD hM hge ⊢;by_cases h1:bat b 0=39
 ·rw [if_pos h1];repeat' (first|(apply ai (d:=7);exact rfl;apply eO;exact rfl;exact rfl;exact h0)|(apply ai (d:=10);exact rfl;apply aX (j:=0);exact rfl;exact rfl;exact hpos)|(apply ai (d:=13);exact rfl;apply vq (lo:=1);exact rfl;exact rfl;omega)|refine zZF ?_|refine sM fun _=>?_|(refine sC ?_ ?_<;>intro hb<;>try omega)|fail)
  all_goals first
   |(exfalso;omega)
   |((refine eRC ?_);rw [hsub];rfl)
 rw [if_neg h1];by_cases h2:u=nU
 ·rw [if_pos (.inl h2),decide_eq_true h2];repeat' (first|(apply ai (d:=7);exact rfl;apply eO;exact rfl;exact rfl;exact h0)|(apply ai (d:=10);exact rfl;apply aX (j:=0);exact rfl;exact rfl;exact hpos)|(apply aa;exact rfl;exact rfl;(intro w hm;exact hU w))|(apply ai (d:=17);exact rfl;apply nS;exact rfl;exact rfl;exact h2)|(apply ai (d:=25);exact rfl;apply nS;exact rfl;exact rfl;exact h2)|(apply aa (f:=199);exact rfl;exact rfl;(intro w' _;exact hTr true w'))|refine zZF ?_|refine sM fun _=>?_|(refine sC ?_ ?_<;>intro hb<;>try omega)|fail)
  all_goals first
   |(exfalso;omega)
   |((refine eRC ?_);rfl)
 by_cases h3:u=lT
 ·rw [if_pos (.inr h3),decide_eq_false h2];repeat' (first|(apply ai (d:=7);exact rfl;apply eO;exact rfl;exact rfl;exact h0)|(apply ai (d:=10);exact rfl;apply aX (j:=0);exact rfl;exact rfl;exact hpos)|(apply aa;exact rfl;exact rfl;(intro w hm;exact hU w))|(apply ai (d:=17);exact rfl;apply eO;exact rfl;exact rfl;exact h2)|(apply ai (d:=21);exact rfl;apply nS;exact rfl;exact rfl;exact h3)|(apply ai (d:=25);exact rfl;apply eO;exact rfl;exact rfl;exact h2)|(apply aa (f:=199);exact rfl;exact rfl;(intro w' _;exact hTr false w'))|refine zZF ?_|refine sM fun _=>?_|(refine sC ?_ ?_<;>intro hb<;>try omega)|fail)
  all_goals first
   |(exfalso;omega)
   |((refine eRC ?_);rfl)
 rw [if_neg (by simp [h2,h3])];repeat' (first|(apply ai (d:=7);exact rfl;apply eO;exact rfl;exact rfl;exact h0)|(apply ai (d:=10);exact rfl;apply aX (j:=0);exact rfl;exact rfl;exact hpos)|(apply aa;exact rfl;exact rfl;(intro w hm;exact hU w))|(apply ai (d:=17);exact rfl;apply eO;exact rfl;exact rfl;exact h2)|(apply ai (d:=21);exact rfl;apply eO;exact rfl;exact rfl;exact h3)|(apply aa;exact rfl;exact rfl;(intro w hm;exact hC w))|(apply aa;exact rfl;exact rfl;(intro w hm;exact hD w))|(apply aa;exact rfl;exact rfl;(intro w hm;exact hM w))|(apply aa (f:=201);exact rfl;exact rfl;(intro w' _;exact hF _ w'))|refine zZF ?_|refine sM fun _=>?_|(refine sC ?_ ?_<;>intro hb<;>try omega)|fail)
 all_goals first
  |(exfalso;omega)
  | ((refine eRC ?_)
     (repeat (first|rw [if_pos (by first|assumption|omega)]|rw [if_neg (by first|assumption|omega)]))
     rfl)
end Go.SL
