/-
  Lemmas and walks, put together: R5 R7 R8.
-/
import Derived.Test.YtoanpdoacdpgeaaGreatDoorKn29
import Derived.Test.YtoanpdoacdpgeaaGreatDoorKn31
set_option linter.unusedSimpArgs false
set_option linter.unusedVariables false
set_option maxRecDepth 20000
namespace Go.SL
open Go Go.Proofs
attribute [local irreducible] W WL WQ WG WA WX WLI WR WT WC VOp RW thn blk bE scp ba bo bL aP FnIn FnP ceP
theorem tA {D:List Int} {k:Nat} {c:Int} (h:D[k]? =some c):bu (D.take (k+1)) 0=10*bu (D.take k) 0+(c - 48):=by
 obtain ⟨h1,rfl⟩:=Nw.1 h
 rw [Nk h1,nO]
theorem mY {D:List Int} (hd: ∀ (k:Nat) c,D[k]? =some c→48≤c∧c≤57) (k:Nat):0≤bu (D.take k) 0∧bu (D.take k) 0≤bu D 0:=by
 have h48: ∀ c∈D,48≤c:=fun c hc=>by
  obtain ⟨i,hi,rfl⟩:=O7 hc
  exact (hd i _ (Nc hi)).1
 have h1:0≤bu (D.take k) 0:=kv _ (fun c hc=>h48 c (Ot hc)) (OH _)
 refine ⟨h1,?_⟩
 conv=>rhs;rw [← N8 k D,oV]
 exact kv _ (fun c hc=>h48 c (Pe hc)) h1
set_option maxHeartbeats 2000000 in
theorem EP (a:ByteArray) (ha:a.size≤1000000) (w:World):ay Tryz.prog 192 [.string a] w (.tuple #[.int .i64 (fU (ap a)).1,.int .i64 (fU (ap a)).2]):=by
  refine aq Tryz.func192 rfl Tryz.ntmps192 rfl ?_
  have hl:=av a
  have hm:cC=9223372036854775807:=rfl
  obtain ⟨neg,hneg⟩: ∃ neg,neg=decide ((ap a).head? =some 45):=⟨_,rfl⟩
  have hb0:=o4 a 45
  obtain ⟨fr,hfr⟩: ∃ fr,fr=if neg then 1 else 0:=⟨_,rfl⟩
  obtain ⟨n,hn⟩: ∃ n,n=aF aH ((ap a).drop fr):=⟨_,rfl⟩
  obtain ⟨e,he⟩: ∃ e,e=if (ap a)[fr+n]? =some 46 then fr+n+1+aF aH ((ap a).drop (fr+n+1)) else fr+n:=⟨_,rfl⟩
  have hcase:=Fy (ap a) neg hneg fr hfr n hn e he
  have hfrl:fr≤a.size:=by
    rw [hfr]
    cases neg with
    |false=>exact Ns _
    |true=>have:=(hb0.1 (of_decide_eq_true hneg.symm)).1;simp only [if_true];omega
  have hnl:fr+n≤a.size:=by
    have:=bR aH ((ap a).drop fr)
    rw [Nq] at this
    omega
  have hD1:=oM a ha fr
  rw [← hn] at hD1
  have hD2:=oM a ha (fr+n+1)
  have hyes:0<a.size→bat a 0=45→fr=1:=fun h1 h2=>by
    have:neg=true:=by rw [hneg];exact decide_eq_true (hb0.2 ⟨h1,h2⟩)
    rw [hfr,this];rfl
  have hno:(0<a.size→bat a 0≠45)→fr=0:=fun h=>by
    have:neg=false:=by rw [hneg];exact decide_eq_false (fun h' =>h (hb0.1 h').1 (hb0.1 h').2)
    rw [hfr,this];rfl
  have hnegE:decide ((fr:Int)=1)=neg:=by
    rw [hfr]
    cases neg<;>rfl
  have h46: ∀ j,j<a.size→((ap a)[j]? =some 46↔bat a j=46):=fun j hj=>by rw [fR hj];simp
  have h46' :a.size≤fr+n→ ¬ (ap a)[fr+n]? =some 46:=fun h=>by rw [Oy (by omega)];simp
  repeat' (first|(refine wQ (id:=2) (ι:=Unit) (fun _=> [(0,.string a),(4,.int .i64 (fr:Int))]) (fun _=> []) (fun _=>True) ?_ ?_)|refine sT ?_|refine sS ?_|refine sT2 ?_|refine sM fun _=> ?_|(refine sC ?_ ?_<;>intro hb<;>try omega)|exact cT|fail)
  · rw [hyes (by omega) (by assumption)]
    refine cu (()) ?_ sB mS
    trivial
  · rw [hno (fun _=>by assumption)]
    refine cu (()) ?_ sB mS
    trivial
  · rw [hno (fun h=>by omega)]
    refine cu (()) ?_ sB mS
    trivial
  rintro ⟨⟩ -
  repeat' (first|(apply aa (d:=22);exact rfl;exact rfl;(intro w' hm;exact hD1 w'))|(refine wQ (id:=6) (ι:=Unit) (fun _=> [(0,.string a),(4,.int .i64 (fr:Int)),(5,.int .i64 ((fr+n:Nat):Int)),(6,.int .i64 (e:Int))]) (fun _=> []) (fun _=>True) ?_ ?_)|(apply ak;exact rfl;apply aZ (j:=fr+n);exact rfl;exact rfl;omega)|(apply aa (d:=37);exact rfl;exact rfl;(intro w' hm;exact hD2 w'))|refine sT ?_|refine sS ?_|refine sT2 ?_|refine sN ?_|refine sM fun _=> ?_|(refine sC ?_ ?_<;>intro hb<;>try omega)|exact cT|fail)
  · rw [he,if_pos ((h46 _ (by omega)).2 (by assumption))]
    refine cu (()) ?_ sB mS
    trivial
  · rw [he,if_neg (fun h=>absurd ((h46 _ (by omega)).1 h) (by assumption))]
    refine cu (()) ?_ sB mS
    trivial
  · rw [he,if_neg (h46' (by omega))]
    refine cu (()) ?_ sB mS
    trivial
  rintro ⟨⟩ -
  clear hD1 hD2 hyes hno h46 h46' hb0
  rcases hcase with ⟨hbad,hd⟩|⟨h0,he1,he2,D,r,hP⟩
  · repeat' (first|refine sT ?_|refine sS ?_|refine sT2 ?_|refine sN ?_|refine sM fun _=> ?_|(refine sC ?_ ?_<;>intro hb<;>try omega)|exact cT|fail)
    all_goals first
      |((refine rT2 ?_);rw [hd];done)
      |(exfalso;omega)
  have hD4:=hP.len
  have hat: ∀ i,fr≤i→i<fr+n+5→i≠fr+n→ ∃ c,D[if i<fr+n then i - fr else i - fr - 1]? =some c∧48≤c∧c≤57∧(i<a.size→bat a i=c)∧(a.size≤i→c=48):=fun i h1 h2 h3=>by
    by_cases h:i<fr+n
    · rw [if_pos h]
      have hk:=hP.at1 (i - fr) (by omega)
      rw [show fr+(i - fr)=i by omega,fR (by omega)] at hk
      exact ⟨_,hk,(hP.dig hk).1,(hP.dig hk).2,fun _=>rfl,fun h=>by omega⟩
    · rw [if_neg h]
      have hk:=hP.at2 (i - fr - 1) (by omega) (by omega)
      rw [show fr+(i - fr - 1)+1=i by omega] at hk
      refine ⟨_,hk,(hP.dig hk).1,(hP.dig hk).2,fun h4=> ?_,fun h4=> ?_⟩
      · rw [Nx,fR h4];rfl
      · rw [Nx,Oy (by omega)];rfl
  have hge:=mY (fun k c h=>hP.dig (k:=k) h)
  have hres:=hP.res
  have hr:=hP.rnd
  repeat' (first|refine sT ?_|refine sS ?_|refine sT2 ?_|refine sN ?_|refine sM fun _=> ?_|(refine sC ?_ ?_<;>intro hb<;>try omega)|exact cT|fail)
  all_goals try (exfalso;omega)
  rename_i g7
  refine ax [0,4,5,7] rfl (fun i:Nat=> [(8,.int .i64 (i:Int))]) (fun i=> [.box g7 286 (fp (bu (D.take (if i≤fr+n then i - fr else i - fr - 1)) 0))]) (fun i=>fr≤i∧i≤fr+n+5∧bu (D.take (if i≤fr+n then i - fr else i - fr - 1)) 0≤10*cC+9) (fun i=>fr+n+5 - i) fr ⟨by omega,by omega,?_⟩ sB ?_ ?_
  · rw [if_pos (by omega),Nat.sub_self,OA];decide
  · rw [if_pos (by omega),Nat.sub_self,OA]
    exact .refl _
  rintro i ⟨h1,h2,h3⟩
  obtain ⟨k,hk⟩: ∃ k,(if i≤fr+n then i - fr else i - fr - 1)=k:=⟨_,rfl⟩
  rw [hk] at h3 ⊢
  have hgk:=hge k
  obtain ⟨V,hV⟩: ∃ V,bu (D.take k) 0=V:=⟨_,rfl⟩
  rw [hV] at h3 hgk ⊢
  by_cases hend:i=fr+n+5
  · have hVD:V=bu D 0:=by
      rw [← hV,NQ]
      rw [hD4,← hk,if_neg (by omega)];omega
    have hsi:=fun v neg h h' w=>kL v neg h h' w
    subst hend
    have hpl: ∀ w,ay Tryz.prog 236 [.agg (fp V).toArray,.agg #[.int .u64 0,.int .u64 1]] w (.agg (fp (V+1)).toArray):=fun w=>by
      have:=rq V 1 hgk.1 (by omega) (by omega) w
      rwa [j5 (v:=1) (by omega) (by omega)] at this
    have hS0:=fun w=>kL V neg hgk.1 (by omega) w
    have hS1:=fun w=>kL (V+1) neg (by omega) (by omega) w
    rw [← hVD] at hres
    have hrin:fr+n+5<a.size→bat a (fr+n+5)=r:=fun hin=>by
      rw [hr,Nx,fR hin];rfl
    have hrout:a.size≤fr+n+5→r=48:=fun h=>by
      rw [hr,Nx,Oy (by omega)];rfl
    clear hr hP hat hge hV hVD
    repeat' (first|(apply ak (d:=57);exact rfl;apply dr (b:=5);exact rfl;exact rfl;(simp only [maxLen] at*;omega))|(apply ak (d:=93);exact rfl;apply dr (b:=5);exact rfl;exact rfl;(simp only [maxLen] at*;omega))|(apply ak (d:=100);exact rfl;apply dr (b:=5);exact rfl;exact rfl;(simp only [maxLen] at*;omega))|(apply ak (d:=101);exact rfl;apply aZ (j:=fr+n+5);exact rfl;exact rfl;omega)|(rw [hrin (by omega)])|(apply aa (f:=236);exact rfl;exact rfl;(intro w' hm;exact hpl w'))|(rw [hnegE])|(apply aa (f:=238);exact rfl;exact rfl;(intro w' hm;first|exact hS1 w' |exact hS0 w'))|refine sT ?_|refine sS ?_|refine sT2 ?_|refine sN ?_|refine sM fun _=> ?_|(refine sC ?_ ?_<;>intro hb<;>try omega)|exact cT|fail)
    all_goals first
      |(exfalso;omega)
      | ((refine rT2 ?_)
         rw [hres]
         by_cases h53:53≤r
         · rw [if_pos h53]
           first|(exfalso;omega)|(rw [if_pos (by omega)];done)|(have hnb: ¬ cC<V+1:=(by omega);simp only [if_neg hnb];done)
         · rw [if_neg h53,P9]
           first|(exfalso;omega)|(rw [if_pos (by omega)];done)|(have hnb: ¬ cC<V:=(by omega);simp only [if_neg hnb];done))
  · have hlt5:i<fr+n+5:=by omega
    have hgeD:=hgk.2
    by_cases hbig:cC<V
    · have hout:fU (ap a)=(0,3):=by
        rw [hres,if_pos]
        split<;>omega
      obtain ⟨vh,hvh⟩: ∃ z,V / 18446744073709551616=z:=⟨_,rfl⟩
      obtain ⟨vl,hvl⟩: ∃ z,V % 18446744073709551616=z:=⟨_,rfl⟩
      have hat' :=hat i h1 hlt5
      unfold fp
      rw [hvh,hvl]
      clear hres hP hat hge
      repeat' (first|(apply ak (d:=57);exact rfl;apply dr (b:=5);exact rfl;exact rfl;(simp only [maxLen] at*;omega))|(apply ak (d:=72);exact rfl;apply aZ (j:=i);exact rfl;exact rfl;omega)|(apply ak (d:=73);exact rfl;apply dw (c:=bat a i - 48);exact rfl;exact rfl;(obtain ⟨c,_,hc1,hc2,hc3,_⟩:=hat' (by omega);rw [hc3 (by omega)];exact eC (by omega) (by omega)))|(apply ak (d:=74);exact rfl;apply BA;exact rfl)|refine sT ?_|refine sS ?_|refine sT2 ?_|refine sN ?_|refine sM fun _=> ?_|(refine sC ?_ ?_<;>intro hb<;>try omega)|exact cT|fail)
      all_goals first
        |(exfalso;omega)
        |((refine rT2 ?_);rw [hout];done)
    · have hsm:fp V= [.int .u64 0,.int .u64 V]:=j5 hgk.1 (by omega)
      by_cases hip:i=fr+n
      · subst hip
        rw [hsm]
        repeat' (first|(apply ak (d:=57);exact rfl;apply dr (b:=5);exact rfl;exact rfl;(simp only [maxLen] at*;omega))|(apply ak (d:=60);exact rfl;apply dr (b:=1);exact rfl;exact rfl;(simp only [maxLen] at*;omega))|refine sT ?_|refine sS ?_|refine sT2 ?_|refine sN ?_|refine sM fun _=> ?_|(refine sC ?_ ?_<;>intro hb<;>try omega)|exact cT|fail)
        all_goals first
          |(exfalso;omega)
          |skip
        have hk2:(if fr+n+1≤fr+n then fr+n+1 - fr else fr+n+1 - fr - 1)=k:=by
          rw [← hk,if_neg (by omega),if_pos (by omega)];omega
        refine ⟨fr+n+1,⟨by omega,by omega,?_⟩,by omega,sB,sB,?_⟩
        · rw [hk2,hV];exact h3
        · rw [hk2,hV,hsm]
          exact mS
      · obtain ⟨c,hc0,hc1,hc2,hc3,hc4⟩:=hat i h1 hlt5 hip
        have hkk:(if i<fr+n then i - fr else i - fr - 1)=k:=by
          rw [← hk]
          by_cases h:i<fr+n
          · rw [if_pos h,if_pos (by omega)]
          · rw [if_neg h,if_neg (by omega)]
        have hk2:(if i+1≤fr+n then i+1 - fr else i+1 - fr - 1)=k+1:=by
          rw [← hkk]
          by_cases h:i<fr+n
          · rw [if_pos h,if_pos (by omega)];omega
          · rw [if_neg h,if_neg (by omega)];omega
        rw [hkk] at hc0
        have hnext:=tA hc0
        rw [hV] at hnext
        obtain ⟨d,hd⟩: ∃ d,c - 48=d:=⟨_,rfl⟩
        rw [hd] at hnext
        have hT:=fun w=>BK V hgk.1 (by omega) w
        have hP2: ∀ w,ay Tryz.prog 236 [.agg (fp (10*V)).toArray,.agg #[.int .u64 0,.int .u64 d]] w (.agg (fp (10*V+d)).toArray):=fun w=>by
          have:=rq (10*V) d (by omega) (by omega) (by omega) w
          rwa [j5 (v:=d) (by omega) (by omega)] at this
        have hend2: ∀ (s:az) (H:List Blk),Sub [(8,.int .i64 ((i+1:Nat):Int))] s→Sub [(0,.string a),(4,.int .i64 (fr:Int)),(5,.int .i64 ((fr+n:Nat):Int)),(7,.pointer (some ⟨g7,0,none⟩))] s→MSub [.box g7 286 (fp (10*V+d))] H→ ∃ i',(fr≤i' ∧i' ≤fr+n+5∧bu (D.take (if i' ≤fr+n then i' - fr else i' - fr - 1)) 0≤10*cC+9)∧fr+n+5 - i' <fr+n+5 - i∧Sub [(8,.int .i64 (i' :Int))] s∧Sub [(0,.string a),(4,.int .i64 (fr:Int)),(5,.int .i64 ((fr+n:Nat):Int)),(7,.pointer (some ⟨g7,0,none⟩))] s∧MSub [.box g7 286 (fp (bu (D.take (if i' ≤fr+n then i' - fr else i' - fr - 1)) 0))] H:=fun s H a1 a2 a3=>by
          refine ⟨i+1,⟨by omega,by omega,?_⟩,by omega,a1,a2,?_⟩
          · rw [hk2,hnext];omega
          · rw [hk2,hnext];exact a3
        clear hres hP hat hge hr
        rw [hsm]
        by_cases hin:i<a.size
        · have hbc:=hc3 hin
          repeat' (first|(apply ak (d:=57);exact rfl;apply dr (b:=5);exact rfl;exact rfl;(simp only [maxLen] at*;omega))|(apply ak (d:=60);exact rfl;apply dr (b:=1);exact rfl;exact rfl;(simp only [maxLen] at*;omega))|(apply ak (d:=72);exact rfl;apply aZ (j:=i);exact rfl;exact rfl;exact hin)|(rw [hbc])|(apply ak (d:=73);exact rfl;apply dw (c:=d);exact rfl;exact rfl;(rw [hd];exact eC (by omega) (by omega)))|(apply ak (d:=74);exact rfl;apply bP (c:=d);exact rfl;(rw [IntKind.wrap_u64];omega))|(apply aa (f:=237);exact rfl;exact rfl;(intro w' hm;exact hT w'))|(apply aa (f:=236);exact rfl;exact rfl;(intro w' hm;exact hP2 w'))|refine sT ?_|refine sS ?_|refine sT2 ?_|refine sN ?_|refine sM fun _=> ?_|(refine sC ?_ ?_<;>intro hb<;>try omega)|exact cT|fail)
          all_goals first
            |(exfalso;omega)
            |exact hend2 _ _ sB sB mS
        · have hd0:d=0:=by have:=hc4 (by omega);omega
          subst hd0
          repeat' (first|(apply ak (d:=57);exact rfl;apply dr (b:=5);exact rfl;exact rfl;(simp only [maxLen] at*;omega))|(apply ak (d:=60);exact rfl;apply dr (b:=1);exact rfl;exact rfl;(simp only [maxLen] at*;omega))|(apply aa (f:=237);exact rfl;exact rfl;(intro w' hm;exact hT w'))|(apply aa (f:=236);exact rfl;exact rfl;(intro w' hm;exact hP2 w'))|refine sT ?_|refine sS ?_|refine sT2 ?_|refine sN ?_|refine sM fun _=> ?_|(refine sC ?_ ?_<;>intro hb<;>try omega)|exact cT|fail)
          all_goals first
            |(exfalso;omega)
            |exact hend2 _ _ sB sB mS
def TokR (i:Nat) (o:Option (Tk × Nat)) (v:Value):Prop:=match o with
 |some (t,n)=>v= .tuple #[.agg (bh { t with at_:=(i:Int) }).toArray,.int .i64 ((i+n:Nat):Int),.bool true]
 |none=> ∃ (t:Tk) (e:Int),v= .tuple #[.agg (bh t).toArray,.int .i64 e,.bool false]
theorem gx {p:Int→Bool} {a:ByteArray} {i:Nat} (h:i<a.size):aF p ((ap a).drop i)=if p (bat a i) then aF p ((ap a).drop (i+1))+1 else 0:=by
 rw [bk h,aF]
theorem yX {p:Int→Bool} {l:List Int} {n:Nat} (h:n=aF p l) {c:Int} (hc:c∈l.take n):p c=true:=by
 obtain ⟨k,hk,rfl⟩:=O7 hc
 rw [Nu] at hk
 rw [P1]
 exact jn l k _ (by omega) (Nc (by omega))
set_option maxHeartbeats 4000000 in
theorem w9 (a:ByteArray) (ha:a.size≤256) (i:Nat) (hi:i<a.size) (hdi:aH (bat a i)=true) (w:World):
    aP Tryz.prog 282 [.string a,.int .i64 (i:Int)] w fun v H=>H= []∧TokR i ((jG ((ap a).drop i)).map fun x=>(⟨1,x.1,au,aO,0⟩,x.2)) v:=by
  refine aq Tryz.func282 rfl Tryz.ntmps282 rfl ?_
  have hl:=av a
  have hm:cC=9223372036854775807:=rfl
  obtain ⟨W1,hW1⟩: ∃ W1,aF aH ((ap a).drop i)=W1:=⟨_,rfl⟩
  have hw0:W1≠0:=by rw [← hW1,gx hi,if_pos hdi];omega
  have hwl:i+W1≤a.size:=by
    have:=bR aH ((ap a).drop i)
    rw [Nq] at this
    omega
  obtain ⟨p,hp⟩: ∃ p,bS ((ap a).drop (i+W1))=p:=⟨_,rfl⟩
  have hnum:jG ((ap a).drop i)=if 4<p then none else if cC<bu (((ap a).drop i).take W1++((ap a).drop (i+W1+1)).take p++List.replicate (4 - p) 48) 0 then none else some (bu (((ap a).drop i).take W1++((ap a).drop (i+W1+1)).take p++List.replicate (4 - p) 48) 0,if p=0 then W1 else W1+1+p):=by
    unfold jG
    simp only [hW1,Ow,hp]
    by_cases h4:4<p
    · rw [if_pos (.inr h4),if_pos h4]
    · rw [if_neg (by omega),if_neg h4]
      rfl
  rw [hnum]
  clear hnum
  have hD:=fun j w=>lL a (by omega) j w
  repeat' (first|refine sT ?_|refine sS ?_|refine sT2 ?_|refine sM fun _=> ?_|(refine sC ?_ ?_<;>intro hb<;>try omega)|exact cT|fail)
  rename_i g4 g7
  refine ax [0,1,4,7] rfl (fun j:Nat=> [(8,.int .i64 ((i+j:Nat):Int))]) (fun _=> [.box g7 228 (bh ⟨1,0,au,aO,i⟩),.box g4 228 (bh cU)]) (fun j=>j≤W1∧W1=j+aF aH ((ap a).drop (i+j))) (fun j=>W1 - j) 0 ⟨by omega,by rw [O2,hW1];omega⟩ sB mS ?_
  rintro j ⟨hj,hx⟩
  by_cases hjw:j<W1
  · have hji:i+j<a.size:=by omega
    have hdj:aH (bat a (i+j))=true:=by
      rw [gx hji] at hx
      split at hx
      · assumption
      · omega
    have hx2:W1=(j+1)+aF aH ((ap a).drop (i+(j+1))):=by
      rw [gx hji,if_pos hdj] at hx
      rw [← OK i j 1];omega
    have hDj:=fun w=>hD (i+j) w
    rw [hdj] at hDj
    repeat' (first|(apply aa (f:=281);exact rfl;exact rfl;(intro w' hm;exact hDj w'))|refine sT ?_|refine sS ?_|refine sT2 ?_|refine sN ?_|refine sM fun _=> ?_|(refine sC ?_ ?_<;>intro hb<;>try omega)|exact cT|fail)
    exact ⟨j+1,⟨hjw,hx2⟩,by omega,sB,sB,.refl _⟩
  have ejw:j=W1:=by omega
  subst ejw
  have hdj:aH (bat a (i+j))=false:=by
    by_cases hji:i+j<a.size
    · rw [gx hji] at hx
      split at hx
      · omega
      · rename_i h;simpa using h
    · rw [iy (by omega)];rfl
  have hDj:=fun w=>hD (i+j) w
  rw [hdj] at hDj
  have hDk:=fun w=>hD (i+j+1) w
  have hp1:i+j<a.size→bat a (i+j)=46→p=aF aH ((ap a).drop (i+j+1)):=fun h1 h2=>by
    rw [← hp,bk h1,h2];rfl
  have hp2:(i+j<a.size→bat a (i+j)≠46)→p=0:=fun h=>by
    rw [← hp]
    by_cases h1:i+j<a.size
    · rw [bk h1];exact kO (h h1)
    · rw [NC (by omega)];rfl
  have hp0:aH (bat a (i+j+1))=false→aF aH ((ap a).drop (i+j+1))=0:=fun h=>by
    by_cases h1:i+j+1<a.size
    · rw [gx h1,if_neg (by rw [h];simp)]
    · exact oI (by omega)
  have hpl:p≠0→i+j+1+p≤a.size:=fun h=>by
    by_cases h1:i+j<a.size∧bat a (i+j)=46
    · have:=hp1 h1.1 h1.2
      have h2:=bR aH ((ap a).drop (i+j+1))
      rw [Nq] at h2
      omega
    · exact absurd (hp2 fun h3 h4=>h1 ⟨h3,h4⟩) h
  obtain ⟨E,hE⟩: ∃ E,(if p=0 then j else j+1+p)=E:=⟨_,rfl⟩
  repeat' (first|(apply aa (d:=20);exact rfl;exact rfl;(intro w' hm;exact hDj w'))|(apply ak (d:=26);exact rfl;apply fu (lo:=i) (hi:=i+j);(iterate 3 exact rfl);exact ⟨by omega,by omega⟩)|(refine wQ (id:=6) (ι:=ByteArray) (fun pl=> [(0,.string a),(1,.int .i64 (i:Int)),(4,.pointer (some ⟨g4,0,none⟩)),(7,.pointer (some ⟨g7,0,none⟩)),(8,.int .i64 ((i+E:Nat):Int)),(9,.string (sub a i (i+j))),(10,.string pl)]) (fun _=> [.box g7 228 (bh ⟨1,0,au,aO,i⟩),.box g4 228 (bh cU)]) (fun pl=>ap pl=((ap a).drop (i+j+1)).take p) ?_ ?_)|(apply ak (d:=34);exact rfl;apply aZ (j:=i+j);exact rfl;exact rfl;omega)|(apply aa (d:=41);exact rfl;exact rfl;(intro w' hm;exact hDk w'))|refine sT ?_|refine sS ?_|refine sT2 ?_|refine sN ?_|refine sM fun _=> ?_|(refine sC ?_ ?_<;>intro hb<;>try omega)|exact cT|fail)
  · -- the places
    have hdd:aH (bat a (i+j+1))=true:=by assumption
    have e46:bat a (i+j)=46:=by assumption
    have hpp:=hp1 (by omega) e46
    have hp0' :p≠0:=by
      rw [hpp]
      by_cases h1:i+j+1<a.size
      · rw [gx h1,if_pos hdd];omega
      · rw [iy (by omega)] at hdd;simp [aH] at hdd
    rw [if_neg hp0'] at hE
    subst hE
    refine ax [0,1,4,7,9,10,11] rfl (fun k:Nat=> [(8,.int .i64 ((i+j+1+k:Nat):Int))]) (fun _=> [.box g7 228 (bh ⟨1,0,au,aO,i⟩),.box g4 228 (bh cU)]) (fun k=>k≤p∧p=k+aF aH ((ap a).drop (i+j+1+k))) (fun k=>p - k) 0 ⟨by omega,by rw [O2,Ny];exact hpp⟩ sB mS ?_
    rintro k ⟨hk,hkx⟩
    have hpl' :=hpl hp0'
    by_cases hkp:k<p
    · have hki:i+j+1+k<a.size:=by omega
      have hdk:aH (bat a (i+j+1+k))=true:=by
        rw [gx hki] at hkx
        split at hkx
        · assumption
        · omega
      have hkx2:p=(k+1)+aF aH ((ap a).drop (i+j+1+(k+1))):=by
        rw [gx hki,if_pos hdk] at hkx
        rw [← OK _ k 1];omega
      have hDl:=fun w=>hD (i+j+1+k) w
      rw [hdk] at hDl
      repeat' (first|(apply aa (d:=48);exact rfl;exact rfl;(intro w' hm;exact hDl w'))|refine sT ?_|refine sS ?_|refine sT2 ?_|refine sN ?_|refine sM fun _=> ?_|(refine sC ?_ ?_<;>intro hb<;>try omega)|exact cT|fail)
      exact ⟨k+1,⟨hkp,hkx2⟩,by omega,sB,sB,.refl _⟩
    have ekp:k=p:=by omega
    subst ekp
    have hdk:aH (bat a (i+j+1+k))=false:=by
      by_cases hki:i+j+1+k<a.size
      · rw [gx hki] at hkx
        split at hkx
        · omega
        · rename_i h;simpa using h
      · rw [iy (by omega)];rfl
    have hDl:=fun w=>hD (i+j+1+k) w
    rw [hdk] at hDl
    have es:ap (sub a (i+j+1) (i+j+1+k))=((ap a).drop (i+j+1)).take k:=by
      rw [dO];congr 1;omega
    rw [show i+(j+1+k)=i+j+1+k by omega]
    repeat' (first|(apply aa (d:=48);exact rfl;exact rfl;(intro w' hm;exact hDl w'))|(apply ak (d:=54);exact rfl;apply fu (lo:=i+j+1) (hi:=i+j+1+k);(iterate 3 exact rfl);exact ⟨by omega,by omega⟩)|refine sT ?_|refine sS ?_|refine sT2 ?_|refine sN ?_|refine sM fun _=> ?_|(refine sC ?_ ?_<;>intro hb<;>try omega)|exact cT|fail)
    refine cu (sub a (i+j+1) (i+j+1+k)) es sB mS
  · -- a dot without a digit
    have hdd:aH (bat a (i+j+1))=false:=by assumption
    have hpp:=(hp1 (by omega) (by assumption)).trans (hp0 hdd)
    rw [if_pos hpp] at hE
    subst hE hpp
    refine cu au rfl sB mS
  · have hpp:=hp2 (fun _=>by assumption)
    rw [if_pos hpp] at hE
    subst hE hpp
    refine cu au rfl sB mS
  · have hpp:=hp2 (fun h=>by omega)
    rw [if_pos hpp] at hE
    subst hE hpp
    refine cu au rfl sB mS
  rintro pl hpl2
  have hps:pl.size=p:=by
    rw [← av,hpl2,Nu,Nq,hl]
    by_cases h:p=0
    · omega
    · have:=hpl h;omega
  clear hp1 hp2 hp0 hD hDj hDk
  by_cases h4:4<p
  · rw [if_pos h4]
    repeat' (first|refine sT ?_|refine sS ?_|refine sT2 ?_|refine sN ?_|refine sM fun _=> ?_|(refine sC ?_ ?_<;>intro hb<;>try omega)|exact cT|fail)
    all_goals first
      |(exfalso;omega)
      |(refine fB (.inl rfl) rfl rfl pK rfl rfl rfl (MSub.nil _) ?_;exact ⟨rfl,⟨1,0,au,aO,i⟩,_,rfl⟩)
  rw [if_neg h4]
  repeat' (first|refine sT ?_|refine sS ?_|refine sT2 ?_|refine sN ?_|refine sM fun _=> ?_|(refine sC ?_ ?_<;>intro hb<;>try omega)|exact cT|fail)
  all_goals try (exfalso;omega)
  refine ax [0,1,4,7,8,9] rfl (fun q:ByteArray × Nat=> [(10,.string q.1)]) (fun _=> [.box g7 228 (bh ⟨1,0,au,aO,i⟩),.box g4 228 (bh cU)]) (fun q=>ap q.1=((ap a).drop (i+j+1)).take p++List.replicate q.2 48∧p+q.2≤4∧q.1.size=p+q.2) (fun q=>4 - q.2) (pl,0) ⟨by rw [hpl2];simp,by dsimp only;omega,hps⟩ sB mS ?_
  rintro ⟨q,z⟩ ⟨hq1,hq2,hq3⟩
  dsimp only at hq1 hq2 hq3 ⊢
  by_cases hz:p+z<4
  · obtain ⟨B,hB⟩: ∃ B,B=q++({ data:= #[48] }:ByteArray):=⟨_,rfl⟩
    have hB1:ap B=((ap a).drop (i+j+1)).take p++List.replicate (z+1) 48:=by
      rw [hB,f4,hq1,List.replicate_succ',NG];rfl
    have hB2:B.size=p+(z+1):=by
      rw [hB,Pd,hq3];rfl
    repeat' (first|(apply ak (d:=63);exact rfl;apply jb (c:=B);exact rfl;exact rfl;exact hB.symm;(simp only [hq3];have:({ data:= #[48] }:ByteArray).size=1:=rfl;omega))|refine sT ?_|refine sS ?_|refine sT2 ?_|refine sN ?_|refine sM fun _=> ?_|(refine sC ?_ ?_<;>intro hb<;>try omega)|exact cT|fail)
    all_goals first
      |(exfalso;omega)
      |exact ⟨(B,z+1),⟨hB1,by dsimp only;omega,hB2⟩,by dsimp only;omega,sB,sB,.refl _⟩
  have ez:z=4 - p:=by omega
  subst ez
  obtain ⟨X,hX⟩: ∃ X,X=sub a i (i+j)++q:=⟨_,rfl⟩
  obtain ⟨D,hD⟩: ∃ D,D=((ap a).drop i).take j++((ap a).drop (i+j+1)).take p++List.replicate (4 - p) 48:=⟨_,rfl⟩
  have hXD:ap X=D:=by
    rw [hX,f4,dO,hq1,hD,← NG]
    congr 3;omega
  rw [← hD]
  have hsz1:(sub a i (i+j)).size=j:=by rw [bV a (by omega)];omega
  have hXs:X.size=j+4:=by rw [hX,Pd,hsz1,hq3];omega
  have hDl:D.length=j+4:=by rw [← hXD,av,hXs]
  have hdig: ∀ (k:Nat) c,D[k]? =some c→48≤c∧c≤57:=fun k c hk=>by
    have hc:=List.mem_of_getElem? hk
    rw [hD,NJ,NJ] at hc
    refine (d9 c).1 ?_
    rcases hc with (hc|hc)|hc
    · exact yX hW1.symm hc
    · by_cases h0:p=0
      · rw [h0] at hc;simp at hc
      · obtain ⟨r,hr,hr2⟩:=lQ (l:=(ap a).drop (i+j)) (by rw [hp];exact h0)
        rw [hp] at hr2
        have:(ap a).drop (i+j+1)=r:=by rw [← Ow,hr];rfl
        rw [this] at hc
        exact yX hr2 hc
    · rw [List.eq_of_mem_replicate hc];rfl
  repeat' (first|(apply ak (d:=66);exact rfl;apply jb (c:=X);exact rfl;exact rfl;exact hX.symm;omega)|refine sT ?_|refine sS ?_|refine sT2 ?_|refine sN ?_|refine sM fun _=> ?_|(refine sC ?_ ?_<;>intro hb<;>try omega)|exact cT|fail)
  all_goals try (exfalso;omega)
  have hge:=mY hdig
  refine ax [0,1,4,7,8,12] rfl (fun k:Nat=> [(13,.int .i64 (k:Int))]) (fun k=> [.box g7 228 (bh ⟨1,bu (D.take k) 0,au,aO,i⟩),.box g4 228 (bh cU)]) (fun k=>k≤j+4∧bu (D.take k) 0≤cC) (fun k=>j+4 - k) 0 ⟨by omega,by rw [OA];decide⟩ sB mS ?_
  rintro k ⟨hk1,hk2⟩
  have hgk:=hge k
  by_cases hkl:k<j+4
  · obtain ⟨c,hc⟩: ∃ c,D[k]? =some c:=⟨_,Nc (by omega)⟩
    have hcd:=hdig k c hc
    have hbc:bat X k=c:=by
      have:=fR (a:=X) (i:=k) (by omega)
      rw [hXD,hc] at this
      exact (Option.some.inj this).symm
    have hnx:=tA hc
    have hgk1:=hge (k+1)
    obtain ⟨V,hV⟩: ∃ V,bu (D.take k) 0=V:=⟨_,rfl⟩
    rw [hV] at hk2 hgk hnx ⊢
    have hq10:IntKind.i64.wrap ((9223372036854775807 - (c - 48)).tdiv 10)=(9223372036854775807 - (c - 48)) / 10:=by
      rw [PV (by omega)]
      exact I64.wrap ⟨by omega,by omega⟩
    rw [show bh ⟨1,V,au,aO,i⟩= [.int .u8 1,.int .i64 V,.string au,.int .i64 0,.int .i64 0,.int .i64 0,.int .i64 0,.int .i64 (i:Int)] from rfl]
    repeat' (first|(apply ak (d:=75);exact rfl;apply aZ (j:=k);exact rfl;exact rfl;omega)|(rw [hbc])|(apply ak (d:=76);exact rfl;apply dw (c:=c - 48);exact rfl;exact rfl;(exact eC (by omega) (by omega)))|(apply ak (d:=77);exact rfl;apply bP (c:=c - 48);exact rfl;exact I64.wrap ⟨by omega,by omega⟩)|(apply ak (d:=81);exact rfl;apply Dp;exact rfl;exact rfl;exact ⟨by omega,by omega⟩)|(apply ak (d:=82);exact rfl;apply lw;exact rfl;exact rfl;exact (by decide);exact hq10)|(apply ak (d:=87);exact rfl;apply qi;exact rfl;exact rfl;exact ⟨by omega,by omega⟩)|(apply ak (d:=89);exact rfl;apply da;exact rfl;exact rfl;exact ⟨by omega,by omega⟩)|refine sT ?_|refine sS ?_|refine sT2 ?_|refine sN ?_|refine sM fun _=> ?_|(refine sC ?_ ?_<;>intro hb<;>try omega)|exact cT|fail)
    all_goals first
      |(rw [if_pos (show cC<bu D 0 by omega)];refine fB (.inl rfl) rfl rfl pK rfl rfl rfl (MSub.nil _) ?_;exact ⟨rfl,⟨1,V,au,aO,i⟩,_,rfl⟩)
      | (have hle : 10 * V + (c - 48) ≤ cC := (by omega)
         rw [← hnx] at hle
         refine ⟨k+1,⟨by omega,hle⟩,by omega,sB,sB,?_⟩
         rw [hnx]
         exact mS)
  · have ek:k=j+4:=by omega
    subst ek
    rw [NQ (by omega)] at hk2 hgk ⊢
    repeat' (first|refine sT ?_|refine sS ?_|refine sT2 ?_|refine sN ?_|refine sM fun _=> ?_|(refine sC ?_ ?_<;>intro hb<;>try omega)|exact cT|fail)
    all_goals first
      |(exfalso;omega)
      |(rw [if_neg (by omega),hE];refine fB (.inl rfl) rfl rfl pK rfl rfl rfl (MSub.nil _) ?_;exact ⟨rfl,rfl⟩)
theorem pz {a:ByteArray} {i:Nat} (h:a.size≤i):(ap a).drop i= []:=NC (by rw [av];exact h)
set_option maxHeartbeats 2000000 in
theorem BU (a:ByteArray) (ha:a.size≤256) (i:Nat) (hi:i<a.size) (w:World):
  aP Tryz.prog 283 [.string a,.int .i64 (i:Int)] w fun v H=>H= []∧TokR i ((jz ((ap a).drop (i+1))).map fun x=>(⟨2,0,mkB x.1,aO,0⟩,x.2+1)) v:=by
 refine aq Tryz.func283 rfl Tryz.ntmps283 rfl ?_
 have hl:=av a
 obtain ⟨X,hX⟩: ∃ X,jz ((ap a).drop (i+1))=X:=⟨_,rfl⟩
 rw [hX]
 repeat' (first|refine sT ?_|refine sS ?_|refine sT2 ?_|refine sN ?_|refine sM fun _=> ?_|(refine sC ?_ ?_<;>intro hb<;>try omega)|fail)
 rename_i g4 g7
 refine ax [0,1,4,7] rfl (fun x:Nat × ByteArray=> [(8,.int .i64 (x.1:Int))]) (fun x=> [.box g7 228 (bh ⟨2,0,x.2,aO,i⟩),.box g4 228 (bh cU)]) (fun x=>i+1≤x.1∧x.1≤a.size∧x.2.size≤x.1∧X=(jz ((ap a).drop x.1)).map fun y=>(ap x.2++y.1,y.2+(x.1 - (i+1)))) (fun x=>a.size - x.1) (i+1,au) ⟨Ni _,hi,Ns _,by rw [hX];cases X<;>simp [tM]⟩ sB mS ?_
 rintro ⟨k,T⟩ ⟨hk1,hk2,hT,hXk⟩
 dsimp only at hk1 hk2 hT hXk ⊢
 rw [show bh ⟨2,0,T,aO,i⟩= [.int .u8 2,.int .i64 0,.string T,.int .i64 0,.int .i64 0,.int .i64 0,.int .i64 0,.int .i64 (i:Int)] from rfl]
 by_cases hend:k=a.size
 ·
  subst hend
  rw [pz (Ni _)] at hXk
  simp only [jz,P6] at hXk
  subst hXk
  repeat' (first|refine sT ?_|refine sS ?_|refine sT2 ?_|refine sN ?_|refine sM fun _=> ?_|(refine sC ?_ ?_<;>intro hb<;>try omega)|fail)
  all_goals first
   |(exfalso;omega)
   |((refine cD ?_);exact ⟨rfl,⟨2,0,T,aO,i⟩,_,rfl⟩)
 have hlt:k<a.size:=by omega
 rw [bk hlt,jz.eq_def] at hXk
 dsimp only at hXk
 obtain ⟨T1,hT1⟩: ∃ T1,T1=T++sub a k (k+1):=⟨_,rfl⟩
 obtain ⟨T2,hT2⟩: ∃ T2,T2=T++({ data:= #[34] }:ByteArray):=⟨_,rfl⟩
 have hs1:(sub a k (k+1)).size=1:=by rw [bV a (by omega)];omega
 have hs2:({ data:= #[34] }:ByteArray).size=1:=rfl
 have hT1s:T1.size=T.size+1:=by rw [hT1,Pd,hs1]
 have hT2s:T2.size=T.size+1:=by rw [hT2,Pd,hs2]
 have hT1i:ap T1=ap T++ [bat a k]:=by rw [hT1,f4,dO,bk hlt,show k+1 - k=1 by omega];rfl
 have hT2i:ap T2=ap T++ [34]:=by rw [hT2,f4];rfl
 repeat' (first|(refine fP (id:=6) [9] [1] [Blk.box g4 228 (bh cU)] (by kernel_rfl) (by kernel_rfl) (by kernel_rfl) mS ?_)|(apply ak;exact rfl;apply aZ (j:=k);exact rfl;exact rfl;omega)|(apply ak;exact rfl;apply aZ (j:=k+1);exact rfl;exact rfl;omega)|(apply bZ (d:=29);(iterate 3 exact rfl);apply fu (lo:=k) (hi:=k+1);(iterate 3 exact rfl);exact ⟨by omega,by omega⟩)|(apply bZ (d:=30);(iterate 3 exact rfl);apply jb (c:=T1);exact rfl;exact rfl;exact hT1.symm;omega)|(apply ak (d:=46);exact rfl;apply jb (c:=T2);exact rfl;exact rfl;exact hT2.symm;omega)|refine sT ?_|refine sS ?_|refine sW ?_|refine sT2 ?_|refine sW2 ?_|refine sN ?_|refine sWN ?_|refine sM fun _=> ?_|(refine sC ?_ ?_<;>intro hb<;>try omega)|(refine sCW ?_ ?_<;>intro hb<;>try omega)|fail)
 ·
  rw [if_pos (by assumption),PJ] at hXk
  refine ⟨(k+1,T1),⟨by dsimp only;omega,hlt,by dsimp only;omega,?_⟩,by dsimp only;omega,sB,sB,by exact mS⟩
  rw [hXk]
  congr 1
  funext y
  simp only [Function.comp,hT1i,NG,List.singleton_append]
  congr 1
  omega
 ·
  have h34:bat a (k+1)=34:=by assumption
  rw [if_neg (by assumption),bk (by omega),h34] at hXk
  simp only [if_true,PJ] at hXk
  refine ⟨(k+1+1,T2),⟨by dsimp only;omega,by dsimp only;omega,by dsimp only;omega,?_⟩,by dsimp only;omega,sB,sB,by exact mS⟩
  rw [hXk]
  congr 1
  funext y
  simp only [Function.comp,hT2i,NG,List.singleton_append]
  congr 1
  omega
 ·
  have h34: ¬ bat a (k+1)=34:=by assumption
  rw [if_neg (by assumption),bk (by omega)] at hXk
  simp only [if_neg h34,Oh,Nl] at hXk
  subst hXk
  (refine cD ?_)
  refine ⟨rfl,?_⟩
  simp only [Oh,TokR,kw]
  rw [show i+(1+(k - (i+1))+1)=k+1 by omega]
  rfl
 ·
  rw [if_neg (by assumption),pz (by omega)] at hXk
  simp only [Oh,Nl] at hXk
  subst hXk
  (refine cD ?_)
  refine ⟨rfl,?_⟩
  simp only [Oh,TokR,kw]
  rw [show i+(1+(k - (i+1))+1)=k+1 by omega]
  rfl
end Go.SL
