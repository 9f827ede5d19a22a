/-
  Lemmas and walks, put together: R4 R5 R6.
-/
import Derived.Test.YthefeclkaaocnaaGreatDoorKf21
set_option linter.unusedSimpArgs false
set_option linter.unusedVariables false
set_option maxRecDepth 20000
namespace Go.SL
open Go Go.Proofs
attribute [local irreducible] W WL WQ WG WA WX WLI WR WT WC VOp RW thn blk bF scp ba aZ bC FnAt FnIn FnP ceP
structure DecP (l:List Int) (neg:Bool) (fr n:Nat) (D:List Int) (r:Int):Prop where
 negE:neg=decide (l.head? =some 45)
 frE:fr=if neg then 1 else 0
 nE:n=aG aJ (l.drop fr)
 pos:n≠0
 len:D.length=n+4
 at1: ∀ k,k<n→D[k]? =l[fr+k]?
 at2: ∀ k,n≤k→k<n+4→D[k]? =some (l.getD (fr+k+1) 48)
 rnd:r=l.getD (fr+n+5) 48
 end_: ∀ k,fr+n<k→k<l.length→aJ (l.getD k 0)=true
 res:iB l=if cZ<bQ D 0+(if 53≤r then 1 else 0) then (0,3) else (if neg then -(bQ D 0+(if 53≤r then 1 else 0)) else bQ D 0+(if 53≤r then 1 else 0),0)
theorem H9 (l:List Int) (i k:Nat) (d:Int):(l.drop i).getD k d=l.getD (i+k) d:=by
 rw [Ui,Ui,UR]
theorem DecP.dig {l:List Int} {neg:Bool} {fr n:Nat} {D:List Int} {r:Int} (h:DecP l neg fr n D r) {k:Nat} {c:Int} (hk:D[k]? =some c):48≤c∧c≤57:=by
 have hlt:k<n+4:=by
  have:=(TV.1 hk).1
  rw [h.len] at this;exact this
 rcases Vq k n with h1|h1
 ·
  rw [h.at1 k h1] at hk
  refine (fI c).1 (kN (l.drop fr) k c (by rw [← h.nE];exact h1) ?_)
  rw [UR];exact hk
 ·
  rw [h.at2 k h1 hlt] at hk
  injection hk with hk
  rcases Vq (fr+k+1) l.length with h2|h2
  ·
   have:=h.end_ (fr+k+1) (by omega) h2
   rw [Ui,TJ h2] at this hk
   simp only [VI] at this hk
   rw [hk] at this
   exact (fI c).1 this
  ·
   rw [Ui,UN h2] at hk
   simp only [Option.getD_none] at hk
   omega
theorem LA (l:List Int) (neg:Bool) (hneg:neg=decide (l.head? =some 45)) (fr:Nat) (hfr:fr=if neg then 1 else 0) (n:Nat) (hn:n=aG aJ (l.drop fr)) (e:Nat) (he:e=if l[fr+n]? =some 46 then fr+n+1+aG aJ (l.drop (fr+n+1)) else fr+n):
  ((n=0∨e≠l.length∨e=fr+n+1)∧iB l=(0,4))∨(n≠0∧e=l.length∧e≠fr+n+1∧ ∃ D r,DecP l neg fr n D r):=by
 have hls:(if neg then l.tail else l)=l.drop fr:=by
  subst hfr
  cases neg<;>simp
 have hnl:n≤(l.drop fr).length:=hn ▸ cB aJ _
 rw [Ug] at hnl
 have hfl:fr≤l.length:=by
  subst hfr
  cases neg with
  |false=>simp
  |true=>
   have:l.head? =some 45:=of_decide_eq_true hneg.symm
   cases l with
   |nil=>cases this
   |cons=>simp
 obtain ⟨rest,hrest⟩: ∃ rest,(l.drop fr).drop n=rest:=⟨_,rfl⟩
 have hr2:l.drop (fr+n)=rest:=by rw [← U0];exact hrest
 have hrl:rest.length=l.length - (fr+n):=by rw [← hr2,Ug]
 have hhead:rest.head? =l[fr+n]? :=by rw [← hr2,List.head?_drop]
 have htail:rest.tail=l.drop (fr+n+1):=by rw [← hr2,V2]
 have hrt:aG aJ rest.tail≤rest.tail.length:=cB _ _
 rw [Wo] at hrt
 rw [← hhead,← htail] at he
 obtain ⟨q,hq⟩: ∃ q,aG aJ rest.tail=q:=⟨_,rfl⟩
 rw [hq] at he hrt
 have hdec: ∀ fc,(decide (1<rest.length) && (decide (rest.head? =some 46) && decide (q+1=rest.length)))=fc→iB l=if n=0∨(fc=false∧rest≠ []) then (0,4)
   else if cZ<bQ ((l.drop fr).take n++((if fc then rest.tail else [])++ [48,48,48,48,48]).take 4) 0+(if 53≤((if fc then rest.tail else [])++ [48,48,48,48,48]).getD 4 0 then 1 else 0) then (0,3)
   else (if neg then -(bQ ((l.drop fr).take n++((if fc then rest.tail else [])++ [48,48,48,48,48]).take 4) 0+(if 53≤((if fc then rest.tail else [])++ [48,48,48,48,48]).getD 4 0 then 1 else 0)) else bQ ((l.drop fr).take n++((if fc then rest.tail else [])++ [48,48,48,48,48]).take 4) 0+(if 53≤((if fc then rest.tail else [])++ [48,48,48,48,48]).getD 4 0 then 1 else 0),0):=by
  intro fc hfc
  unfold iB
  rw [← hneg]
  simp only [hls,← hn,hrest,hq,hfc]
 by_cases h0:n=0
 ·
  left
  refine ⟨.inl h0,?_⟩
  rw [hdec _ rfl,if_pos (.inl h0)]
 by_cases h46:rest.head? =some 46
 ·
  rw [if_pos h46] at he
  have hpos:0<rest.length:=by
   cases rest with
   |nil=>cases h46
   |cons=>simp
  by_cases hfin:1<rest.length∧q+1=rest.length
  ·
   right
   refine ⟨h0,by omega,by omega,?_⟩
   have hfrac:(decide (1<rest.length) && (decide (rest.head? =some 46) && decide (q+1=rest.length)))=true:=by simp [h46,hfin.1,hfin.2]
   have hd:=hdec _ hfrac
   simp only [if_true] at hd
   rw [if_neg (by simp [h0])] at hd
   have hall: ∀ k,fr+n<k→k<l.length→aJ (l.getD k 0)=true:=fun k h1 h2=>by
    obtain ⟨j,rfl⟩: ∃ j,k=fr+n+1+j:=⟨k - (fr+n+1),by omega⟩
    have hj:j<aG aJ rest.tail:=by omega
    refine kN rest.tail j _ hj ?_
    rw [htail,UR,Ui,TJ h2];rfl
   have hp5: ∀ k,k<5→(rest.tail++ [48,48,48,48,48])[k]? =some (l.getD (fr+n+k+1) 48):=fun k hk=>by
    rw [show fr+n+k+1=fr+n+1+k by omega,← H9,← htail]
    rw [Ui]
    rcases Vq k rest.tail.length with h|h
    ·
     rw [Uh h,TJ h];rfl
    ·
     rw [Uj h,UN h]
     have:k - rest.tail.length<5:=by omega
     rcases (by omega:k - rest.tail.length=0∨k - rest.tail.length=1∨k - rest.tail.length=2∨k - rest.tail.length=3∨k - rest.tail.length=4) with h|h|h|h|h<;>rw [h]<;>rfl
   refine ⟨(l.drop fr).take n++(rest.tail++ [48,48,48,48,48]).take 4,(rest.tail++ [48,48,48,48,48]).getD 4 0,hneg,hfr,hn,h0,?_,?_,?_,?_,hall,hd⟩
   ·
    simp only [TG,Ue,Ug,TZ,U2]
    omega
   ·
    intro k hk
    rw [Uh (by simp;omega),Vj hk,UR]
   ·
    intro k h1 h2
    rw [Uj (by simp;omega)]
    rw [Ue,Ug,Vn (by omega),Vj (by omega),hp5 _ (by omega)]
    congr 2;omega
   ·
    rw [Ui,hp5 4 (by omega)];rfl
  ·
   left
   have hfrac:(decide (1<rest.length) && (decide (rest.head? =some 46) && decide (q+1=rest.length)))=false:=by
    simp only [h46,decide_true,VB,U3,decide_eq_false_iff_not]
    omega
   refine ⟨by omega,?_⟩
   rw [hdec _ hfrac,if_pos (.inr ⟨rfl,fun h=>by rw [h] at hpos;exact Nat.lt_irrefl _ hpos⟩)]
 ·
  rw [if_neg h46] at he
  have hfrac:(decide (1<rest.length) && (decide (rest.head? =some 46) && decide (q+1=rest.length)))=false:=by simp [h46]
  have hd:=hdec _ hfrac
  simp only [Ur,if_false] at hd
  by_cases hnil:rest= []
  ·
   right
   have hlen:fr+n=l.length:=by rw [hnil] at hrl;simp at hrl;omega
   refine ⟨h0,by omega,by omega,?_⟩
   rw [if_neg (by simp [h0,hnil])] at hd
   have hp5: ∀ k,k<5→(([]:List Int)++ [48,48,48,48,48])[k]? =some (l.getD (fr+n+k+1) 48):=fun k hk=>by
    have e0:l.getD (fr+n+k+1) 48=48:=by rw [Ui,UN (by omega)];rfl
    rw [e0]
    rcases (by omega:k=0∨k=1∨k=2∨k=3∨k=4) with h|h|h|h|h<;>rw [h]<;>rfl
   refine ⟨(l.drop fr).take n++(([]:List Int)++ [48,48,48,48,48]).take 4,(([]:List Int)++ [48,48,48,48,48]).getD 4 0,hneg,hfr,hn,h0,?_,?_,?_,?_,fun k h1 h2=>by omega,hd⟩
   ·
    simp;omega
   ·
    intro k hk
    rw [Uh (by simp;omega),Vj hk,UR]
   ·
    intro k h1 h2
    rw [Uj (by simp;omega)]
    rw [Ue,Ug,Vn (by omega),Vj (by omega),hp5 _ (by omega)]
    congr 2;omega
   ·
    rw [Ui,hp5 4 (by omega)];rfl
  ·
   left
   have:0<rest.length:=UX.2 hnil
   refine ⟨by omega,?_⟩
   rw [hd,if_pos (.inr ⟨trivial,hnil⟩)]
theorem xZ {D:List Int} {k:Nat} {c:Int} (h:D[k]? =some c):bQ (D.take (k+1)) 0=10*bQ (D.take k) 0+(c - 48):=by
 obtain ⟨h1,rfl⟩:=TV.1 h
 rw [TP h1,rD]
theorem qO {D:List Int} (hd: ∀ (k:Nat) c,D[k]? =some c→48≤c∧c≤57) (k:Nat):0≤bQ (D.take k) 0∧bQ (D.take k) 0≤bQ D 0:=by
 have h48: ∀ c∈D,48≤c:=fun c hc=>by
  obtain ⟨i,hi,rfl⟩:=UY hc
  exact (hd i _ (TJ hi)).1
 have h1:0≤bQ (D.take k) 0:=mG _ (fun c hc=>h48 c (U1 hc)) (Vw _)
 refine ⟨h1,?_⟩
 conv=>rhs;rw [← UF k D,s5]
 exact mG _ (fun c hc=>h48 c (VF hc)) h1
set_option maxHeartbeats 2000000 in
theorem KF (a:ByteArray) (ha:a.size≤1000000) (w:World):aD Tryz.prog 253 [.string a] w (.tuple #[.int .i64 (iB (ap a)).1,.int .i64 (iB (ap a)).2]):=by
  refine ax Tryz.func253 rfl Tryz.ntmps253 rfl ?_
  have hl:=aw a
  have hm:cZ=9223372036854775807:=rfl
  obtain ⟨neg,hneg⟩: ∃ neg,neg=decide ((ap a).head? =some 45):=⟨_,rfl⟩
  have hb0:=tr a 45
  obtain ⟨fr,hfr⟩: ∃ fr,fr=if neg then 1 else 0:=⟨_,rfl⟩
  obtain ⟨n,hn⟩: ∃ n,n=aG aJ ((ap a).drop fr):=⟨_,rfl⟩
  obtain ⟨e,he⟩: ∃ e,e=if (ap a)[fr+n]? =some 46 then fr+n+1+aG aJ ((ap a).drop (fr+n+1)) else fr+n:=⟨_,rfl⟩
  have hcase:=LA (ap a) neg hneg fr hfr n hn e he
  have hfrl:fr≤a.size:=by
    rw [hfr]
    cases neg with
    |false=>exact TW _
    |true=>have:=(hb0.1 (of_decide_eq_true hneg.symm)).1;simp only [if_true];omega
  have hnl:fr+n≤a.size:=by
    have:=cB aJ ((ap a).drop fr)
    rw [Ug] at this
    omega
  have hD1:=sL a ha fr
  rw [← hn] at hD1
  have hD2:=sL a ha (fr+n+1)
  have hyes:0<a.size→bat a 0=45→fr=1:=fun h1 h2=>by
    have:neg=true:=by rw [hneg];exact decide_eq_true (hb0.2 ⟨h1,h2⟩)
    rw [hfr,this];rfl
  have hno:(0<a.size→bat a 0≠45)→fr=0:=fun h=>by
    have:neg=false:=by rw [hneg];exact decide_eq_false (fun h' =>h (hb0.1 h').1 (hb0.1 h').2)
    rw [hfr,this];rfl
  have hnegE:decide ((fr:Int)=1)=neg:=by
    rw [hfr]
    cases neg<;>rfl
  have h46: ∀ j,j<a.size→((ap a)[j]? =some 46↔bat a j=46):=fun j hj=>by rw [ig hj];simp
  have h46' :a.size≤fr+n→ ¬ (ap a)[fr+n]? =some 46:=fun h=>by rw [UN (by omega)];simp
  repeat' (first|(refine BB (id:=2) (ι:=Unit) (fun _=> [(0,.string a),(4,.int .i64 (fr:Int))]) (fun _=> []) (fun _=>True) ?_ ?_)|refine sT ?_|refine sS ?_|refine sT2 ?_|refine sM fun _=> ?_|(refine sC ?_ ?_<;>intro hb<;>try omega)|exact cT|fail)
  · rw [hyes (by omega) (by assumption)]
    refine cO (()) ?_ sB mS
    trivial
  · rw [hno (fun _=>by assumption)]
    refine cO (()) ?_ sB mS
    trivial
  · rw [hno (fun h=>by omega)]
    refine cO (()) ?_ sB mS
    trivial
  rintro ⟨⟩ -
  repeat' (first|(apply aa (d:=22);exact rfl;exact rfl;(intro w' hm;exact hD1 w'))|(refine BB (id:=6) (ι:=Unit) (fun _=> [(0,.string a),(4,.int .i64 (fr:Int)),(5,.int .i64 ((fr+n:Nat):Int)),(6,.int .i64 (e:Int))]) (fun _=> []) (fun _=>True) ?_ ?_)|(apply ak;exact rfl;apply bh (j:=fr+n);exact rfl;exact rfl;omega)|(apply aa (d:=37);exact rfl;exact rfl;(intro w' hm;exact hD2 w'))|refine sT ?_|refine sS ?_|refine sT2 ?_|refine sN ?_|refine sM fun _=> ?_|(refine sC ?_ ?_<;>intro hb<;>try omega)|exact cT|fail)
  · rw [he,if_pos ((h46 _ (by omega)).2 (by assumption))]
    refine cO (()) ?_ sB mS
    trivial
  · rw [he,if_neg (fun h=>absurd ((h46 _ (by omega)).1 h) (by assumption))]
    refine cO (()) ?_ sB mS
    trivial
  · rw [he,if_neg (h46' (by omega))]
    refine cO (()) ?_ sB mS
    trivial
  rintro ⟨⟩ -
  clear hD1 hD2 hyes hno h46 h46' hb0
  rcases hcase with ⟨hbad,hd⟩|⟨h0,he1,he2,D,r,hP⟩
  · repeat' (first|refine sT ?_|refine sS ?_|refine sT2 ?_|refine sN ?_|refine sM fun _=> ?_|(refine sC ?_ ?_<;>intro hb<;>try omega)|exact cT|fail)
    all_goals first
      |((refine rT2 ?_);rw [hd];done)
      |(exfalso;omega)
  have hD4:=hP.len
  have hat: ∀ i,fr≤i→i<fr+n+5→i≠fr+n→ ∃ c,D[if i<fr+n then i - fr else i - fr - 1]? =some c∧48≤c∧c≤57∧(i<a.size→bat a i=c)∧(a.size≤i→c=48):=fun i h1 h2 h3=>by
    by_cases h:i<fr+n
    · rw [if_pos h]
      have hk:=hP.at1 (i - fr) (by omega)
      rw [show fr+(i - fr)=i by omega,ig (by omega)] at hk
      exact ⟨_,hk,(hP.dig hk).1,(hP.dig hk).2,fun _=>rfl,fun h=>by omega⟩
    · rw [if_neg h]
      have hk:=hP.at2 (i - fr - 1) (by omega) (by omega)
      rw [show fr+(i - fr - 1)+1=i by omega] at hk
      refine ⟨_,hk,(hP.dig hk).1,(hP.dig hk).2,fun h4=> ?_,fun h4=> ?_⟩
      · rw [Ui,ig h4];rfl
      · rw [Ui,UN (by omega)];rfl
  have hge:=qO (fun k c h=>hP.dig (k:=k) h)
  have hres:=hP.res
  have hr:=hP.rnd
  repeat' (first|refine sT ?_|refine sS ?_|refine sT2 ?_|refine sN ?_|refine sM fun _=> ?_|(refine sC ?_ ?_<;>intro hb<;>try omega)|exact cT|fail)
  all_goals try (exfalso;omega)
  rename_i g7
  refine ay [0,4,5,7] rfl (fun i:Nat=> [(8,.int .i64 (i:Int))]) (fun i=> [.box g7 377 (gJ (bQ (D.take (if i≤fr+n then i - fr else i - fr - 1)) 0))]) (fun i=>fr≤i∧i≤fr+n+5∧bQ (D.take (if i≤fr+n then i - fr else i - fr - 1)) 0≤10*cZ+9) (fun i=>fr+n+5 - i) fr ⟨by omega,by omega,?_⟩ sB ?_ ?_
  · rw [if_pos (by omega),Nat.sub_self,U7];decide
  · rw [if_pos (by omega),Nat.sub_self,U7]
    exact .refl _
  rintro i ⟨h1,h2,h3⟩
  obtain ⟨k,hk⟩: ∃ k,(if i≤fr+n then i - fr else i - fr - 1)=k:=⟨_,rfl⟩
  rw [hk] at h3 ⊢
  have hgk:=hge k
  obtain ⟨V,hV⟩: ∃ V,bQ (D.take k) 0=V:=⟨_,rfl⟩
  rw [hV] at h3 hgk ⊢
  by_cases hend:i=fr+n+5
  · have hVD:V=bQ D 0:=by
      rw [← hV,UE]
      rw [hD4,← hk,if_neg (by omega)];omega
    have hsi:=fun v neg h h' w=>ny v neg h h' w
    subst hend
    have hpl: ∀ w,aD Tryz.prog 296 [.agg (gJ V).toArray,.agg #[.int .u64 0,.int .u64 1]] w (.agg (gJ (V+1)).toArray):=fun w=>by
      have:=wD V 1 hgk.1 (by omega) (by omega) w
      rwa [mf (v:=1) (by omega) (by omega)] at this
    have hS0:=fun w=>ny V neg hgk.1 (by omega) w
    have hS1:=fun w=>ny (V+1) neg (by omega) (by omega) w
    rw [← hVD] at hres
    have hrin:fr+n+5<a.size→bat a (fr+n+5)=r:=fun hin=>by
      rw [hr,Ui,ig hin];rfl
    have hrout:a.size≤fr+n+5→r=48:=fun h=>by
      rw [hr,Ui,UN (by omega)];rfl
    clear hr hP hat hge hV hVD
    repeat' (first|(apply ak (d:=57);exact rfl;apply dP (b:=5);exact rfl;exact rfl;(simp only [maxLen] at*;omega))|(apply ak (d:=93);exact rfl;apply dP (b:=5);exact rfl;exact rfl;(simp only [maxLen] at*;omega))|(apply ak (d:=100);exact rfl;apply dP (b:=5);exact rfl;exact rfl;(simp only [maxLen] at*;omega))|(apply ak (d:=101);exact rfl;apply bh (j:=fr+n+5);exact rfl;exact rfl;omega)|(rw [hrin (by omega)])|(apply aa (f:=296);exact rfl;exact rfl;(intro w' hm;exact hpl w'))|(rw [hnegE])|(apply aa (f:=298);exact rfl;exact rfl;(intro w' hm;first|exact hS1 w' |exact hS0 w'))|refine sT ?_|refine sS ?_|refine sT2 ?_|refine sN ?_|refine sM fun _=> ?_|(refine sC ?_ ?_<;>intro hb<;>try omega)|exact cT|fail)
    all_goals first
      |(exfalso;omega)
      | ((refine rT2 ?_)
         rw [hres]
         by_cases h53:53≤r
         · rw [if_pos h53]
           first|(exfalso;omega)|(rw [if_pos (by omega)];done)|(have hnb: ¬ cZ<V+1:=(by omega);simp only [if_neg hnb];done)
         · rw [if_neg h53,Int.add_zero]
           first|(exfalso;omega)|(rw [if_pos (by omega)];done)|(have hnb: ¬ cZ<V:=(by omega);simp only [if_neg hnb];done))
  · have hlt5:i<fr+n+5:=by omega
    have hgeD:=hgk.2
    by_cases hbig:cZ<V
    · have hout:iB (ap a)=(0,3):=by
        rw [hres,if_pos]
        split<;>omega
      obtain ⟨vh,hvh⟩: ∃ z,V / 18446744073709551616=z:=⟨_,rfl⟩
      obtain ⟨vl,hvl⟩: ∃ z,V % 18446744073709551616=z:=⟨_,rfl⟩
      have hat' :=hat i h1 hlt5
      unfold gJ
      rw [hvh,hvl]
      clear hres hP hat hge
      repeat' (first|(apply ak (d:=57);exact rfl;apply dP (b:=5);exact rfl;exact rfl;(simp only [maxLen] at*;omega))|(apply ak (d:=72);exact rfl;apply bh (j:=i);exact rfl;exact rfl;omega)|(apply ak (d:=73);exact rfl;apply d9 (c:=bat a i - 48);exact rfl;exact rfl;(obtain ⟨c,_,hc1,hc2,hc3,_⟩:=hat' (by omega);rw [hc3 (by omega)];exact wrap_u8 (by omega) (by omega)))|(apply ak (d:=74);exact rfl;apply Gw;exact rfl)|refine sT ?_|refine sS ?_|refine sT2 ?_|refine sN ?_|refine sM fun _=> ?_|(refine sC ?_ ?_<;>intro hb<;>try omega)|exact cT|fail)
      all_goals first
        |(exfalso;omega)
        |((refine rT2 ?_);rw [hout];done)
    · have hsm:gJ V= [.int .u64 0,.int .u64 V]:=mf hgk.1 (by omega)
      by_cases hip:i=fr+n
      · subst hip
        rw [hsm]
        repeat' (first|(apply ak (d:=57);exact rfl;apply dP (b:=5);exact rfl;exact rfl;(simp only [maxLen] at*;omega))|(apply ak (d:=60);exact rfl;apply dP (b:=1);exact rfl;exact rfl;(simp only [maxLen] at*;omega))|refine sT ?_|refine sS ?_|refine sT2 ?_|refine sN ?_|refine sM fun _=> ?_|(refine sC ?_ ?_<;>intro hb<;>try omega)|exact cT|fail)
        all_goals first
          |(exfalso;omega)
          |skip
        have hk2:(if fr+n+1≤fr+n then fr+n+1 - fr else fr+n+1 - fr - 1)=k:=by
          rw [← hk,if_neg (by omega),if_pos (by omega)];omega
        refine ⟨fr+n+1,⟨by omega,by omega,?_⟩,by omega,sB,sB,?_⟩
        · rw [hk2,hV];exact h3
        · rw [hk2,hV,hsm]
          exact mS
      · obtain ⟨c,hc0,hc1,hc2,hc3,hc4⟩:=hat i h1 hlt5 hip
        have hkk:(if i<fr+n then i - fr else i - fr - 1)=k:=by
          rw [← hk]
          by_cases h:i<fr+n
          · rw [if_pos h,if_pos (by omega)]
          · rw [if_neg h,if_neg (by omega)]
        have hk2:(if i+1≤fr+n then i+1 - fr else i+1 - fr - 1)=k+1:=by
          rw [← hkk]
          by_cases h:i<fr+n
          · rw [if_pos h,if_pos (by omega)];omega
          · rw [if_neg h,if_neg (by omega)];omega
        rw [hkk] at hc0
        have hnext:=xZ hc0
        rw [hV] at hnext
        obtain ⟨d,hd⟩: ∃ d,c - 48=d:=⟨_,rfl⟩
        rw [hd] at hnext
        have hT:=fun w=>GJ V hgk.1 (by omega) w
        have hP2: ∀ w,aD Tryz.prog 296 [.agg (gJ (10*V)).toArray,.agg #[.int .u64 0,.int .u64 d]] w (.agg (gJ (10*V+d)).toArray):=fun w=>by
          have:=wD (10*V) d (by omega) (by omega) (by omega) w
          rwa [mf (v:=d) (by omega) (by omega)] at this
        have hend2: ∀ (s:aB) (H:List Blk),Sub [(8,.int .i64 ((i+1:Nat):Int))] s→Sub [(0,.string a),(4,.int .i64 (fr:Int)),(5,.int .i64 ((fr+n:Nat):Int)),(7,.pointer (some ⟨g7,0,none⟩))] s→MSub [.box g7 377 (gJ (10*V+d))] H→ ∃ i',(fr≤i' ∧i' ≤fr+n+5∧bQ (D.take (if i' ≤fr+n then i' - fr else i' - fr - 1)) 0≤10*cZ+9)∧fr+n+5 - i' <fr+n+5 - i∧Sub [(8,.int .i64 (i' :Int))] s∧Sub [(0,.string a),(4,.int .i64 (fr:Int)),(5,.int .i64 ((fr+n:Nat):Int)),(7,.pointer (some ⟨g7,0,none⟩))] s∧MSub [.box g7 377 (gJ (bQ (D.take (if i' ≤fr+n then i' - fr else i' - fr - 1)) 0))] H:=fun s H a1 a2 a3=>by
          refine ⟨i+1,⟨by omega,by omega,?_⟩,by omega,a1,a2,?_⟩
          · rw [hk2,hnext];omega
          · rw [hk2,hnext];exact a3
        clear hres hP hat hge hr
        rw [hsm]
        by_cases hin:i<a.size
        · have hbc:=hc3 hin
          repeat' (first|(apply ak (d:=57);exact rfl;apply dP (b:=5);exact rfl;exact rfl;(simp only [maxLen] at*;omega))|(apply ak (d:=60);exact rfl;apply dP (b:=1);exact rfl;exact rfl;(simp only [maxLen] at*;omega))|(apply ak (d:=72);exact rfl;apply bh (j:=i);exact rfl;exact rfl;exact hin)|(rw [hbc])|(apply ak (d:=73);exact rfl;apply d9 (c:=d);exact rfl;exact rfl;(rw [hd];exact wrap_u8 (by omega) (by omega)))|(apply ak (d:=74);exact rfl;apply bB (c:=d);exact rfl;(rw [IntKind.wrap_u64];omega))|(apply aa (f:=297);exact rfl;exact rfl;(intro w' hm;exact hT w'))|(apply aa (f:=296);exact rfl;exact rfl;(intro w' hm;exact hP2 w'))|refine sT ?_|refine sS ?_|refine sT2 ?_|refine sN ?_|refine sM fun _=> ?_|(refine sC ?_ ?_<;>intro hb<;>try omega)|exact cT|fail)
          all_goals first
            |(exfalso;omega)
            |exact hend2 _ _ sB sB mS
        · have hd0:d=0:=by have:=hc4 (by omega);omega
          subst hd0
          repeat' (first|(apply ak (d:=57);exact rfl;apply dP (b:=5);exact rfl;exact rfl;(simp only [maxLen] at*;omega))|(apply ak (d:=60);exact rfl;apply dP (b:=1);exact rfl;exact rfl;(simp only [maxLen] at*;omega))|(apply aa (f:=297);exact rfl;exact rfl;(intro w' hm;exact hT w'))|(apply aa (f:=296);exact rfl;exact rfl;(intro w' hm;exact hP2 w'))|refine sT ?_|refine sS ?_|refine sT2 ?_|refine sN ?_|refine sM fun _=> ?_|(refine sC ?_ ?_<;>intro hb<;>try omega)|exact cT|fail)
          all_goals first
            |(exfalso;omega)
            |exact hend2 _ _ sB sB mS
theorem jA (p:Int→Bool): ∀ l:List Int,l.takeWhile p=l.take (aG p l)∧l.dropWhile p=l.drop (aG p l)
 | []=>⟨rfl,rfl⟩
 |c::r=>by
  simp only [List.takeWhile_cons,List.dropWhile_cons,aG]
  split
  ·
   exact ⟨by rw [(jA p r).1];rfl,by rw [(jA p r).2];rfl⟩
  ·
   exact ⟨rfl,rfl⟩
theorem BT (a:ByteArray) (ha:a.size≤1000000) (h0:0<a.size) (hlet: ∀ c∈ap a,cy c=true) (w:World):aD Tryz.prog 366 [.string a] w (.tuple #[.int .i64 (if 1024<bI (ap a) 0 then 0 else bI (ap a) 0),.int .i64 (if 1024<bI (ap a) 0 then 3 else 0)]):=by
 refine ax Tryz.func366 rfl Tryz.ntmps366 rfl ?_
 have hl:=aw a
 have hpos:=nQ (ap a) hlet (Vw 0) (.inl (fun h=>by rw [h] at hl;simp at hl;omega))
 obtain ⟨X,hX⟩: ∃ X,bI (ap a) 0=X:=⟨_,rfl⟩
 rw [hX] at hpos ⊢
 repeat' (first|refine sT ?_|refine sS ?_|refine sT2 ?_|refine sM fun _=> ?_|(refine sC ?_ ?_<;>intro hb<;>try omega)|fail)
 refine ay [0] rfl (fun x:Nat × Int=> [(5,.int .i64 (x.1:Int)),(4,.int .i64 x.2)]) (fun _=> []) (fun x=>x.1≤a.size∧0≤x.2∧x.2≤1025∧X=bI ((ap a).drop x.1) x.2) (fun x=>a.size - x.1) (0,0) ⟨by simp,by simp,by simp,hX.symm⟩ sB (.refl _) ?_
 rintro ⟨i,v⟩ ⟨hi,hv0,hv1,hx⟩
 dsimp only at hi hv0 hv1 hx ⊢
 by_cases hlt:i<a.size
 ·
  have hc:=hlet (bat a i) (Vp (ig hlt))
  have hok:=uO a i
  rw [bz hlt,bI] at hx
  have hN:=fun w=>rr (bat a i) hok.1 hok.2 w
  have hN1:ES (bat a i)=upC (bat a i) - 64:=by rw [ES,if_pos hc]
  have hN2:1≤upC (bat a i) - 64∧upC (bat a i) - 64≤26:=by
   have:=(iP _).1 hc
   unfold upC
   split<;>omega
  rw [hN1] at hN
  obtain ⟨d,hd⟩: ∃ d,upC (bat a i) - 64=d:=⟨_,rfl⟩
  rw [hd] at hx hN hN2
  repeat' (first|(apply ak (d:=14);exact rfl;apply bh (j:=i);exact rfl;exact rfl;exact hlt)|(apply ak (d:=21);exact rfl;apply bh (j:=i);exact rfl;exact rfl;exact hlt)|(apply aa (f:=365);exact rfl;exact rfl;(intro w' hm;exact hN w'))|(apply ak (d:=18);exact rfl;apply zN;exact rfl;exact rfl;exact ⟨by omega,by omega⟩)|(apply ak (d:=23);exact rfl;apply mh;exact rfl;exact rfl;exact ⟨by omega,by omega⟩)|refine sT ?_|refine sS ?_|refine sT2 ?_|refine sN ?_|refine sM fun _=> ?_|(refine sC ?_ ?_<;>intro hb<;>try omega)|fail)
  all_goals first
   |(exfalso;omega)
   |(rw [Cn];exact ⟨(i+1,min (26*v+d) 1025),⟨hlt,by dsimp only;omega,by dsimp only;omega,hx⟩,by dsimp only;omega,sB,sB,.nil _⟩)
 ·
  have e:i=a.size:=by omega
  subst e
  rw [Uk (by omega),bI] at hx
  subst hx
  repeat' (first|refine sT ?_|refine sS ?_|refine sT2 ?_|refine sM fun _=> ?_|(refine sC ?_ ?_<;>intro hb<;>try omega)|fail)
  all_goals first
   |(exfalso;omega)
   |((refine rT2 ?_);first|(rw [if_pos (by omega),if_pos (by omega)])|(rw [if_neg (by omega),if_neg (by omega)]))
theorem LO (l:List Int):cL l=if l.take (aG cy l)= []∨l.drop (aG cy l)= []∨(l.drop (aG cy l)).head? =some 48∨(l.drop (aG cy l)).all aJ=false then (0,0,4)
  else if 1024<bI (l.take (aG cy l)) 0∨1024<oq (l.drop (aG cy l)) 0 then (0,0,3) else (bI (l.take (aG cy l)) 0,oq (l.drop (aG cy l)) 0,0):=by
 unfold cL
 rw [(jA cy l).1,(jA cy l).2]
theorem ER {c:Int}:(0<ES c)↔cy c=true:=by
 unfold ES upC
 cases h:cy c with
 |false=>simp
 |true=>
  have:=(iP c).1 h
  simp only [if_true,iff_true]
  by_cases h2:97≤c∧c≤122
  ·
   rw [if_pos h2];omega
  ·
   rw [if_neg h2];omega
set_option maxHeartbeats 1000000 in
theorem HH (a:ByteArray) (ha:a.size≤100000) (w:World):aD Tryz.prog 352 [.string a] w (.tuple #[.agg (aC ⟨(cL (ap a)).1,(cL (ap a)).2.1⟩).toArray,.int .i64 (cL (ap a)).2.2]):=by
 refine ax Tryz.func352 rfl Tryz.ntmps352 rfl ?_
 have hl:=aw a
 have hA:=LO (ap a)
 obtain ⟨A,hAr⟩: ∃ A,aG cy (ap a)=A:=⟨_,rfl⟩
 have hAle:A≤a.size:=by have:=cB cy (ap a);omega
 rw [hAr] at hA
 repeat' (first|refine sT ?_|refine sS ?_|refine sT2 ?_|refine sM fun _=> ?_|(refine sC ?_ ?_<;>intro hb<;>try omega)|fail)
 rename_i g2
 refine ay [0,2] rfl (fun i:Nat=> [(4,.int .i64 (i:Int))]) (fun _=> [.box g2 51 [.int .i64 0,.int .i64 0]]) (fun i=>i≤a.size∧A=i+aG cy ((ap a).drop i)) (fun i=>a.size - i) 0 ⟨by omega,by rw [UZ,Uc,hAr]⟩ sB (.refl _) ?_
 rintro i ⟨hi,hx⟩
 by_cases hlt:i<a.size∧cy (bat a i)=true
 ·
  have hok:=uO a i
  have hN:=fun w=>rr (bat a i) hok.1 hok.2 w
  have hp:=ER.2 hlt.2
  rw [bz hlt.1,aG,if_pos hlt.2] at hx
  repeat' (first|(apply ak (d:=16);exact rfl;apply bh (j:=i);exact rfl;exact rfl;omega)|(apply aa (f:=365);exact rfl;exact rfl;(intro w' hm;exact hN w'))|refine sT ?_|refine sS ?_|refine sT2 ?_|refine sN ?_|refine sM fun _=> ?_|(refine sC ?_ ?_<;>intro hb<;>try omega)|fail)
  all_goals first
   |(exfalso;omega)
   |exact ⟨i+1,⟨by omega,by omega⟩,by omega,sB,sB,.refl _⟩
 have hAi:A=i:=by
  rw [hx]
  by_cases h:i<a.size
  ·
   rw [bz h,aG,if_neg (fun h2=>hlt ⟨h,h2⟩)];rfl
  ·
   rw [sx (by omega)];rfl
 subst hAi
 have hexit:A<a.size→ES (bat a A)≤0:=fun h=>by
  have: ¬ 0<ES (bat a A):=fun h2=>hlt ⟨h,ER.1 h2⟩
  omega
 have hN:=fun w=>rr (bat a A) (uO a A).1 (uO a A).2 w
 have htk:(ap a).take A= []↔A=0:=by
  rw [List.take_eq_nil_iff]
  constructor
  ·
   rintro (h|h)
   ·
    exact h
   ·
    rw [h] at hl;simp at hl;omega
  ·
   exact .inl
 have hdr:(ap a).drop A= []↔A=a.size:=by rw [List.drop_eq_nil_iff];omega
 have hhd:A<a.size→(((ap a).drop A).head? =some 48↔bat a A=48):=fun h=>by rw [bz h];simp
 by_cases hbad:A=0∨A=a.size∨bat a A=48
 ·
  have hres:cL (ap a)=(0,0,4):=by
   rw [hA,if_pos]
   rcases hbad with h|h|h
   ·
    exact .inl (htk.2 h)
   ·
    exact .inr (.inl (hdr.2 h))
   ·
    by_cases hA2:A<a.size
    ·
     exact .inr (.inr (.inl ((hhd hA2).2 h)))
    ·
     exact .inr (.inl (hdr.2 (by omega)))
  rw [hres]
  repeat' (first|(apply ak (d:=16);exact rfl;apply bh (j:=A);exact rfl;exact rfl;omega)|(apply ak (d:=33);exact rfl;apply bh (j:=A);exact rfl;exact rfl;omega)|(apply aa (f:=365);exact rfl;exact rfl;(intro w' hm;exact hN w'))|refine sT ?_|refine sS ?_|refine sT2 ?_|refine sN ?_|refine sM fun _=> ?_|(refine sC ?_ ?_<;>intro hb<;>try omega)|fail)
  all_goals first
   |(exfalso;omega)
   |((refine jU ?_);rfl)
 have hA1:0<A:=by omega
 have hA2:A<a.size:=by omega
 have hn48:bat a A≠48:=fun h=>hbad (.inr (.inr h))
 simp only [htk,hdr,hhd hA2,show ¬ A=0 by omega,show ¬ A=a.size by omega,hn48,false_or] at hA
 repeat' (first|(apply ak (d:=16);exact rfl;apply bh (j:=A);exact rfl;exact rfl;omega)|(apply ak (d:=33);exact rfl;apply bh (j:=A);exact rfl;exact rfl;omega)|(apply aa (f:=365);exact rfl;exact rfl;(intro w' hm;exact hN w'))|refine sT ?_|refine sS ?_|refine sT2 ?_|refine sN ?_|refine sM fun _=> ?_|(refine sC ?_ ?_<;>intro hb<;>try omega)|fail)
 all_goals try (exfalso;omega)
 refine ay [0,2,4] rfl (fun x:Nat × Int=> [(6,.int .i64 (x.1:Int)),(5,.int .i64 x.2)]) (fun _=> [.box g2 51 [.int .i64 0,.int .i64 0]]) (fun x=>A≤x.1∧x.1≤a.size∧0≤x.2∧x.2≤1025∧oq ((ap a).drop A) 0=oq ((ap a).drop x.1) x.2∧((ap a).drop A).all aJ=((ap a).drop x.1).all aJ) (fun x=>a.size - x.1) (A,0) ⟨by simp,by dsimp only;omega,by simp,by simp,rfl,rfl⟩ sB (.refl _) ?_
 rintro ⟨i,v⟩ ⟨hi0,hi,hv0,hv1,hr,hall⟩
 dsimp only at hi0 hi hv0 hv1 hr hall ⊢
 by_cases hlt2:i<a.size
 ·
  have hok:=uO a i
  rw [bz hlt2] at hr hall
  rw [oq] at hr
  rw [VA] at hall
  have hd:=fI (bat a i)
  by_cases hdg:aJ (bat a i)=true
  ·
   obtain ⟨hd1,hd2⟩:=hd.1 hdg
   rw [hdg,VB] at hall
   obtain ⟨d,hdd⟩: ∃ d,bat a i - 48=d:=⟨_,rfl⟩
   rw [hdd] at hr
   repeat' (first|(apply ak (d:=46);exact rfl;apply bh (j:=i);exact rfl;exact rfl;exact hlt2)|(apply ak (d:=51);exact rfl;apply bh (j:=i);exact rfl;exact rfl;exact hlt2)|(apply ak (d:=59);exact rfl;apply bh (j:=i);exact rfl;exact rfl;exact hlt2)|(apply ak (d:=56);exact rfl;apply zN;exact rfl;exact rfl;exact ⟨by omega,by omega⟩)|(apply ak (d:=60);exact rfl;apply d9 (c:=d);exact rfl;exact rfl;(rw [hdd];exact wrap_u8 (by omega) (by omega)))|(apply ak (d:=61);exact rfl;apply bB (c:=d);exact rfl;exact I64.wrap ⟨by omega,by omega⟩)|(apply ak (d:=62);exact rfl;apply mh;exact rfl;exact rfl;exact ⟨by omega,by omega⟩)|refine sT ?_|refine sS ?_|refine sT2 ?_|refine sN ?_|refine sM fun _=> ?_|(refine sC ?_ ?_<;>intro hb<;>try omega)|fail)
   all_goals first
    |(exfalso;omega)
    |(rw [Cn];exact ⟨(i+1,min (10*v+d) 1025),⟨by dsimp only;omega,hlt2,by dsimp only;omega,by dsimp only;omega,hr,hall⟩,by dsimp only;omega,sB,sB,.refl _⟩)
  ·
   have hdf:aJ (bat a i)=false:=by simpa using hdg
   rw [hdf,Bool.false_and] at hall
   rw [if_pos hall] at hA
   have hno: ¬ (48≤bat a i∧bat a i≤57):=fun h=>hdg (hd.2 h)
   rw [hA]
   repeat' (first|(apply ak (d:=46);exact rfl;apply bh (j:=i);exact rfl;exact rfl;exact hlt2)|(apply ak (d:=51);exact rfl;apply bh (j:=i);exact rfl;exact rfl;exact hlt2)|(apply ak (d:=59);exact rfl;apply bh (j:=i);exact rfl;exact rfl;exact hlt2)|(apply ak (d:=56);exact rfl;apply zN;exact rfl;exact rfl;exact ⟨by omega,by omega⟩)|refine sT ?_|refine sS ?_|refine sT2 ?_|refine sN ?_|refine sM fun _=> ?_|(refine sC ?_ ?_<;>intro hb<;>try omega)|fail)
   all_goals first
    |(exfalso;omega)
    |((refine jU ?_);rfl)
 ·
  have e2:i=a.size:=by omega
  subst e2
  have e3:(ap a).drop a.size= []:=Uk (by omega)
  rw [e3,List.all_nil] at hall
  rw [e3,oq] at hr
  rw [hall,hr] at hA
  simp only [Bool.true_eq_false,if_false] at hA
  have hsub:ap (sub a 0 A)=(ap a).take A:=wF a A
  have hC:=fun w=>BT (sub a 0 A) (by rw [cI a hAle];omega) (by rw [cI a hAle];omega) (fun c hc=>by
   rw [hsub] at hc
   obtain ⟨k,hk⟩:=Wk.1 hc
   have hkl:k<A:=by
    have:=(TV.1 hk).1
    rw [Ue] at this;omega
   rw [Vj hkl] at hk
   exact kN (ap a) k c (by omega) hk) w
  rw [hsub] at hC
  generalize bI ((ap a).take A) 0=L at hC hA
  rw [hA]
  repeat' (first|(apply ak (d:=67);exact rfl;apply Gg (hi:=A);exact rfl;exact rfl;exact hAle)|(apply aa (f:=366);exact rfl;exact rfl;(intro w' hm;exact hC w'))|refine sT ?_|refine sS ?_|refine sT2 ?_|refine sN ?_|refine sM fun _=> ?_|(refine sC ?_ ?_<;>intro hb<;>try omega)|fail)
  all_goals
   (refine jU ?_)
   by_cases h1:1024<L<;>by_cases h2:1024<v<;>first|(exfalso;simp only [h1,if_true,if_false] at*;omega)|(simp only [h1,h2,if_true,if_false,or_true,true_or,or_self];rfl)
end Go.SL
