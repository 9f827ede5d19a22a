/-
  Lemmas and walks, put together: Q8 R11 R12 Q7 Q9 Q12 Q15 Nb.
-/
import Derived.Test.YtoanpdoacdpgeaaGreatDoorKo23
import Derived.Test.YtoanpdoacdpgeaaGreatDoorKo25
import Derived.Test.YtoanpdoacdpgeaaGreatDoorKo26
set_option linter.unusedSimpArgs false
set_option linter.unusedVariables false
set_option maxRecDepth 20000
namespace Go.SL
open Go Go.Proofs
attribute [local irreducible] W WL WQ WG WA WX WLI WR WT WC VOp RW thn blk bp scp aR ba bE aF FnIn FnP ceP
theorem E9 {p:Int→Bool} {l:List Int} (h:aD p l=l.length): ∀ c∈l,p c=true:=by
 intro c hc
 have:c∈l.take (aD p l):=by rw [h,RJ];exact hc
 exact lL this
theorem Od (l0:List Int): -9223372036854775808≤(gQ l0).1:=by
 unfold gQ
 extract_lets neg l n rest frac p5
 split
 ·
  show (-9223372036854775808:Int)≤0
  omega
 ·
  rename_i v _hc
  have h0:0≤bD (l.take n++p5.take 4) 0:=by
   refine s8 _ (fun c hc=> ?_) (SQ _)
   rcases Ru.1 hc with hc|hc
   ·
    have:=lL (p:=aG) hc
    rw [fg] at this
    exact this.1
   ·
    have hc:=Sy hc
    rcases Ru.1 hc with hc|hc
    ·
     by_cases hf:frac=true
     ·
      rw [if_pos hf] at hc
      simp only [frac,Rk,decide_eq_true_eq] at hf
      have hl:rest.tail.length=rest.length - 1:=TZ
      have:=E9 (p:=aG) (l:=rest.tail) (by omega) c hc
      rw [fg] at this
      exact this.1
     ·
      rw [if_neg hf] at hc
      cases hc
    ·
     simp only [Rs,SK,or_false,or_self] at hc
     omega
  have hv0:0≤v:=by
   show 0≤bD (l.take n++p5.take 4) 0+(if 53≤p5.getD 4 0 then 1 else 0)
   split<;>omega
  split
  ·
   show (-9223372036854775808:Int)≤0
   omega
  ·
   rename_i hv
   simp only [cK] at hv
   split
   ·
    show (-9223372036854775808:Int)≤ -v
    omega
   ·
    show (-9223372036854775808:Int)≤v
    omega
set_option maxHeartbeats 2000000 in
theorem CG (b:ByteArray) (hb:b.size≤1000000) (w:World):aA Tryz.prog 146 [.string b] w (.agg (dH (xw b)).toArray):=by
  refine aq Tryz.func146 rfl Tryz.ntmps146 rfl ?_
  by_cases h0:b=av
  · subst h0
    repeat' (first|refine sT ?_|refine sS ?_|refine sT2 ?_|refine sM fun _=> ?_|(refine sC ?_ ?_<;>intro hb<;>try omega)|fail)
    all_goals first
      |((refine eRC ?_);rfl)
      |(exfalso;rename_i hb;exact hb rfl)
  have hpos:0<b.size:=by
    rcases Sx b.size with h|h
    · exact absurd (ByteArray.ext (TY h)) h0
    · exact h
  have hU:=fun w=>kM b hb w
  have hC:=fun w=>Fu b hb w
  have hD:=fun w=>I0 b hb w
  have hge:=Od (ap b)
  have hM:=fun w=>Fq _ hge w
  have hF:=fun c w=>qo c w
  have hTr:=fun c w=>Cy c w
  have hhd:(ap b).headD 0=bat b 0:=by have:=oq (a:=b) (i:=0);rwa [SG] at this
  have hsub:sub b 1 b.size=mkB (ap b).tail:=by
    refine LG ?_
    rw [eM,List.drop_one,Sg]
    rw [TZ,au];exact Re _
  unfold xw
  rw [if_neg h0,hhd]
  obtain ⟨u,hu⟩: ∃ u,upB b=u:=⟨_,rfl⟩
  obtain ⟨⟨cn,ce⟩,hce⟩: ∃ u,iL b=u:=⟨_,rfl⟩
  obtain ⟨⟨dn,de⟩,hde⟩: ∃ u,gQ (ap b)=u:=⟨_,rfl⟩
  rw [hu] at hU ⊢
  rw [hce] at hC ⊢
  rw [hde] at hD hM hge ⊢
  dsimp only at hC hD hM hge ⊢
  by_cases h1:bat b 0=39
  · rw [if_pos h1]
    repeat' (first|(apply ak (d:=7);exact rfl;apply eF;exact rfl;exact rfl;exact h0)|(apply ak (d:=10);exact rfl;apply bf (j:=0);exact rfl;exact rfl;exact hpos)|(apply ak (d:=13);exact rfl;apply vw (lo:=1);exact rfl;exact rfl;omega)|refine sT ?_|refine sS ?_|refine sT2 ?_|refine sM fun _=> ?_|(refine sC ?_ ?_<;>intro hb<;>try omega)|fail)
    all_goals first
      |(exfalso;omega)
      |((refine eRC ?_);rw [hsub];rfl)
  rw [if_neg h1]
  by_cases h2:u=nn
  · rw [if_pos (.inl h2),decide_eq_true h2]
    repeat' (first|(apply ak (d:=7);exact rfl;apply eF;exact rfl;exact rfl;exact h0)|(apply ak (d:=10);exact rfl;apply bf (j:=0);exact rfl;exact rfl;exact hpos)|(apply aa;exact rfl;exact rfl;(intro w hm;exact hU w))|(apply ak (d:=17);exact rfl;apply nk;exact rfl;exact rfl;exact h2)|(apply ak (d:=25);exact rfl;apply nk;exact rfl;exact rfl;exact h2)|(apply aa (f:=189);exact rfl;exact rfl;(intro w' _;exact hTr true w'))|refine sT ?_|refine sS ?_|refine sT2 ?_|refine sM fun _=> ?_|(refine sC ?_ ?_<;>intro hb<;>try omega)|fail)
    all_goals first
      |(exfalso;omega)
      |((refine eRC ?_);rfl)
  by_cases h3:u=lu
  · rw [if_pos (.inr h3),decide_eq_false h2]
    repeat' (first|(apply ak (d:=7);exact rfl;apply eF;exact rfl;exact rfl;exact h0)|(apply ak (d:=10);exact rfl;apply bf (j:=0);exact rfl;exact rfl;exact hpos)|(apply aa;exact rfl;exact rfl;(intro w hm;exact hU w))|(apply ak (d:=17);exact rfl;apply eF;exact rfl;exact rfl;exact h2)|(apply ak (d:=21);exact rfl;apply nk;exact rfl;exact rfl;exact h3)|(apply ak (d:=25);exact rfl;apply eF;exact rfl;exact rfl;exact h2)|(apply aa (f:=189);exact rfl;exact rfl;(intro w' _;exact hTr false w'))|refine sT ?_|refine sS ?_|refine sT2 ?_|refine sM fun _=> ?_|(refine sC ?_ ?_<;>intro hb<;>try omega)|fail)
    all_goals first
      |(exfalso;omega)
      |((refine eRC ?_);rfl)
  rw [if_neg (by simp [h2,h3])]
  repeat' (first|(apply ak (d:=7);exact rfl;apply eF;exact rfl;exact rfl;exact h0)|(apply ak (d:=10);exact rfl;apply bf (j:=0);exact rfl;exact rfl;exact hpos)|(apply aa;exact rfl;exact rfl;(intro w hm;exact hU w))|(apply ak (d:=17);exact rfl;apply eF;exact rfl;exact rfl;exact h2)|(apply ak (d:=21);exact rfl;apply eF;exact rfl;exact rfl;exact h3)|(apply aa;exact rfl;exact rfl;(intro w hm;exact hC w))|(apply aa;exact rfl;exact rfl;(intro w hm;exact hD w))|(apply aa;exact rfl;exact rfl;(intro w hm;exact hM w))|(apply aa (f:=191);exact rfl;exact rfl;(intro w' _;exact hF _ w'))|refine sT ?_|refine sS ?_|refine sT2 ?_|refine sM fun _=> ?_|(refine sC ?_ ?_<;>intro hb<;>try omega)|fail)
  all_goals first
    |(exfalso;omega)
    | ((refine eRC ?_)
       (repeat (first|rw [if_pos (by first|assumption|omega)]|rw [if_neg (by first|assumption|omega)]))
       rfl)
def FG (z:Nat) (k:Nat):List (List Int × Int):=((List.range' k (14 - k)).map fun (j:Nat)=>(ap (opB (j:Int)),(j:Int))).filter fun x=>decide (x.1.length=z)
def ND:Nat→List (List Int × Int)
 |0=> []
 |z+1=>FG (z+1) 1++ND z
theorem Ls:ND 2=fu:=by decide+kernel
theorem Jd {z k:Nat} (h:k≤13):FG z k=if (opB (k:Int)).size=z then (ap (opB (k:Int)),(k:Int))::FG z (k+1) else FG z (k+1):=by
 unfold FG
 rw [show 14 - k=(13 - k)+1 by omega,List.range'_succ,RA,Tx,show 14 - (k+1)=13 - k by omega]
 simp only [au,decide_eq_true_eq]
theorem Lo (z:Nat):FG z 14= []:=rfl
theorem NE {l:List Int} {s:List Int} {k:Int} {r:List (List Int × Int)} (h:l.take s.length=s):opL l ((s,k)::r)=some (k,s.length):=by
 rw [opL,if_pos h]
theorem PB (k:Nat) (h:k≤13): ∀ c∈ap (opB (k:Int)),¬ (65≤c∧c≤90)∧ ¬ (97≤c∧c≤122):=by
 rcases (by omega:k=0∨k=1∨k=2∨k=3∨k=4∨k=5∨k=6∨k=7∨k=8∨k=9∨k=10∨k=11∨k=12∨k=13) with rfl|rfl|rfl|rfl|rfl|rfl|rfl|rfl|rfl|rfl|rfl|rfl|rfl|rfl<;>decide+kernel
theorem G0 {s:List Int} (hs: ∀ c∈s,¬ (65≤c∧c≤90)∧ ¬ (97≤c∧c≤122)): ∀ l:List Int,l.map upC=s↔l=s:=by
 induction s with
 |nil=>intro l;simp
 |cons d s ih=>
  intro l
  cases l with
  |nil=>simp
  |cons c l=>
   simp only [RA,List.cons.injEq,ih (fun c hc=>hs c (Rq _ hc)) l]
   have hd:=hs d QY
   have:upC c=d↔c=d:=by
    unfold upC
    split<;>omega
   rw [this]
theorem zA {k:Nat} (h:k<5):ap (cH.getD (k+1) av)=dV.getD k []∧dV.drop k=dV.getD k []::dV.drop (k+1)∧(cH.getD (k+1) av).size≤10:=by
 rcases (by omega:k=0∨k=1∨k=2∨k=3∨k=4) with rfl|rfl|rfl|rfl|rfl<;>decide+kernel
set_option maxHeartbeats 2000000 in
theorem Fj (a:ByteArray) (ha:a.size≤256) (i:Nat) (hi:i<a.size) (w:World):aF Tryz.prog 286 [.string a,.int .i64 (i:Int)] w fun v H=>H= []∧TokR i (jD ((ap a).drop i)) v:=by
  refine aq Tryz.func286 rfl Tryz.ntmps286 rfl ?_
  have hl:=au a
  have hh:((ap a).drop i).headD 0=bat a i:=oq
  have hB:=fun s hs w=>z6 a ha i (by omega) s hs w
  obtain ⟨l,hll⟩: ∃ l,(ap a).drop i=l:=⟨_,rfl⟩
  rw [hll] at hh hB ⊢
  obtain ⟨F,hF⟩: ∃ F,kA l dV 1=F:=⟨_,rfl⟩
  repeat' (first|refine sT ?_|refine sS ?_|refine sT2 ?_|refine sM fun _=> ?_|(refine sC ?_ ?_<;>intro hb<;>try omega)|fail)
  rename_i g4
  refine aw [0,1,4] rfl (fun k:Nat=> [(7,.int .i64 ((k+1:Nat):Int))]) (fun _=> [.box g4 228 (bi dl)]) (fun k=>k≤5∧F=kA l (dV.drop k) ((k+1:Nat):Int)) (fun k=>5 - k) 0 ⟨by omega,hF.symm⟩ sB mS ?_
  rintro k ⟨hk,hFk⟩
  by_cases hk5:k<5
  · obtain ⟨hn1,hn2,hn3⟩:=zA hk5
    have hS:=fun w=>Fl ((k+1:Nat):Int) (by omega) (by omega) w
    rw [TB] at hS
    obtain ⟨s,hs⟩: ∃ s,cH.getD (k+1) av=s:=⟨_,rfl⟩
    rw [hs] at hS hn1 hn3
    have hBs:=hB s (by omega)
    rw [hn2,kA,← hn1,au] at hFk
    by_cases hb:(l.take s.size).map upC=ap s
    · rw [if_pos hb] at hFk
      rw [decide_eq_true hb] at hBs
      repeat' (first|(apply aa (f:=321);exact rfl;exact rfl;(intro w' hm;exact hS w'))|(apply aa (f:=322);exact rfl;exact rfl;(intro w' hm;exact hBs w'))|refine sT ?_|refine sS ?_|refine sT2 ?_|refine sN ?_|refine sM fun _=> ?_|(refine sC ?_ ?_<;>intro hb<;>try omega)|fail)
      all_goals
        first
        |(exfalso;omega)
        |((refine cL ?_);refine ⟨rfl,?_⟩;rw [jD,kW,hF,hFk];rfl)
    · rw [if_neg hb] at hFk
      rw [decide_eq_false hb] at hBs
      repeat' (first|(apply aa (f:=321);exact rfl;exact rfl;(intro w' hm;exact hS w'))|(apply aa (f:=322);exact rfl;exact rfl;(intro w' hm;exact hBs w'))|refine sT ?_|refine sS ?_|refine sT2 ?_|refine sN ?_|refine sM fun _=> ?_|(refine sC ?_ ?_<;>intro hb<;>try omega)|fail)
      all_goals
        first
        |(exfalso;omega)
        |exact ⟨k+1,⟨by omega,hFk⟩,by omega,sB,sB,.refl _⟩
  have ek:k=5:=by omega
  subst ek
  have hsr:jD l=iI l:=by
    rw [jD,kW,hF,hFk];rfl
  rw [hsr]
  clear hF hFk hsr hk hk5
  obtain ⟨O,hO⟩: ∃ O,opL l fu=O:=⟨_,rfl⟩
  repeat' (first|refine sT ?_|refine sS ?_|refine sT2 ?_|refine sM fun _=> ?_|(refine sC ?_ ?_<;>intro hb<;>try omega)|fail)
  refine aw [0,1,4] rfl (fun z:Nat=> [(9,.int .i64 (z:Int))]) (fun _=> [.box g4 228 (bi dl)]) (fun z=>z≤2∧O=opL l (ND z)) (fun z=>z) 2 ⟨by omega,by rw [Ls,hO]⟩ sB mS ?_
  rintro z ⟨hz,hOz⟩
  cases z with
  |zero=>
    have hOn:O=none:=hOz
    subst hOn
    have hsp:iI l=if bat a i=40 then some (⟨9,0,av,aN,0⟩,1) else if bat a i=41 then some (⟨10,0,av,aN,0⟩,1) else if bat a i=44 then some (⟨11,0,av,aN,0⟩,1) else none:=by
      unfold iI
      rw [hO,hh]
    rw [hsp]
    repeat' (first|(apply ak (d:=58);exact rfl;apply bf (j:=i);exact rfl;exact rfl;omega)|refine sT ?_|refine sS ?_|refine sT2 ?_|refine sN ?_|refine sM fun _=> ?_|(refine sC ?_ ?_<;>intro hb<;>try omega)|fail)
    all_goals
      first
      |(exfalso;omega)
      | ((refine cL ?_)
         refine ⟨rfl,?_⟩
         repeat (first|rw [if_pos (by assumption)]|rw [if_neg (by assumption)])
         first|exact rfl|exact ⟨dl,_,rfl⟩)
  |succ z=>
    repeat' (first|refine sT ?_|refine sS ?_|refine sT2 ?_|refine sM fun _=> ?_|(refine sC ?_ ?_<;>intro hb<;>try omega)|fail)
    all_goals try (exfalso;omega)
    refine aw [0,1,4,9] rfl (fun k:Nat=> [(10,.int .i64 (k:Int))]) (fun _=> [.box g4 228 (bi dl)]) (fun k=>1≤k∧k≤14∧O=opL l (FG (z+1) k++ND z)) (fun k=>14 - k) 1 ⟨by omega,by omega,hOz⟩ sB mS ?_
    rintro k ⟨hk1,hk2,hOk⟩
    by_cases hk14:k=14
    · subst hk14
      rw [Lo,QW] at hOk
      repeat' (first|refine sT ?_|refine sS ?_|refine sT2 ?_|refine sN ?_|refine sM fun _=> ?_|(refine sC ?_ ?_<;>intro hb<;>try omega)|fail)
      all_goals
        first
        |(exfalso;omega)
        |exact ⟨z,⟨by omega,hOk⟩,by omega,sB,sB,.refl _⟩
    rw [Jd (by omega)] at hOk
    obtain ⟨s,hs⟩: ∃ s,opB (k:Int)=s:=⟨_,rfl⟩
    have hu:=PB k (by omega)
    have hP:=fun w=>wh (k:Int) w
    rw [hs] at hOk hu hP
    by_cases hsz:s.size=z+1
    · rw [if_pos hsz] at hOk
      have hBs:=hB s (by omega)
      by_cases hb:(l.take s.size).map upC=ap s
      · have hb2:=(G0 hu _).1 hb
        rw [← au] at hb2
        rw [QU,NE hb2,au,hsz] at hOk
        rw [decide_eq_true hb] at hBs
        have hsp:iI l=some (⟨8,k,av,aN,0⟩,z+1):=by
          unfold iI
          rw [hO,hOk]
        rw [hsp]
        repeat' (first|(apply aa (f:=323);exact rfl;exact rfl;(intro w' hm;exact hP w'))|(apply aa (f:=322);exact rfl;exact rfl;(intro w' hm;exact hBs w'))|refine sT ?_|refine sS ?_|refine sT2 ?_|refine sN ?_|refine sM fun _=> ?_|(refine sC ?_ ?_<;>intro hb<;>try omega)|fail)
        all_goals
          first
          |(exfalso;omega)
          |((refine cL ?_);exact ⟨rfl,rfl⟩)
      · have hb2: ¬ l.take s.size=ap s:=fun h=>hb ((G0 hu _).2 h)
        rw [← au] at hb2
        rw [QU,opL,if_neg hb2] at hOk
        rw [decide_eq_false hb] at hBs
        repeat' (first|(apply aa (f:=323);exact rfl;exact rfl;(intro w' hm;exact hP w'))|(apply aa (f:=322);exact rfl;exact rfl;(intro w' hm;exact hBs w'))|refine sT ?_|refine sS ?_|refine sT2 ?_|refine sN ?_|refine sM fun _=> ?_|(refine sC ?_ ?_<;>intro hb<;>try omega)|fail)
        all_goals
          first
          |(exfalso;omega)
          |exact ⟨k+1,⟨by omega,by omega,hOk⟩,by omega,sB,sB,.refl _⟩
    · rw [if_neg hsz] at hOk
      repeat' (first|(apply aa (f:=323);exact rfl;exact rfl;(intro w' hm;exact hP w'))|refine sT ?_|refine sS ?_|refine sT2 ?_|refine sN ?_|refine sM fun _=> ?_|(refine sC ?_ ?_<;>intro hb<;>try omega)|fail)
      all_goals
        first
        |(exfalso;omega)
        |exact ⟨k+1,⟨by omega,by omega,hOk⟩,by omega,sB,sB,.refl _⟩
theorem TokR.form {i:Nat} {o:Option (Tk × Nat)} {v:Value} (h:TokR i o v): ∃ (t:Tk) (n:Int) (b:Bool),v= .tuple #[.agg (bi t).toArray,.int .i64 n,.bool b]:=by
 cases o with
 |none=>
  obtain ⟨t,e,rfl⟩:=h
  exact ⟨t,e,false,rfl⟩
 |some x=>
  obtain ⟨t,n⟩:=x
  exact ⟨_,_,_,h⟩
set_option maxHeartbeats 2000000 in
theorem Cz (a:ByteArray) (ha:a.size≤256) (i:Nat) (hi:i<a.size) (w:World):aF Tryz.prog 239 [.string a,.int .i64 (i:Int)] w fun v H=>H= []∧TokR i (bB ((ap a).drop i)) v:=by
 refine aq Tryz.func239 rfl Tryz.ntmps239 rfl ?_
 have hl:=au a
 have hD:=fun w=>nJ a (by omega) i w
 have hL:=fun w=>mE a (by omega) i w
 have hN:=fun h w=>zZ a ha i hi h w
 have hT:=fun w=>Fh a ha i hi w
 have hWd:=fun h w=>Ff a ha i hi h w
 have hS:=fun w=>Fj a ha i hi w
 unfold bB
 rw [oq,show ((ap a).drop i).tail=(ap a).drop (i+1) by rw [TE]]
 by_cases h1:aG (bat a i)=true
 ·
  rw [if_pos h1]
  rw [h1] at hD
  replace hN:=hN h1
  repeat' (first|(apply aa (f:=281);exact rfl;exact rfl;(intro w' hm;exact hD w'))|(apply ay (f:=282);exact rfl;exact rfl;(intro w' hm;exact hN w');(rintro _ _ ⟨rfl,h⟩;obtain ⟨t,n,b,rfl⟩:=h.form))|refine sT ?_|refine sS ?_|refine sT2 ?_|refine sN ?_|refine sM fun _=> ?_|(refine sC ?_ ?_<;>intro hb<;>try omega)|fail)
  all_goals ((refine cL ?_);exact ⟨rfl,by assumption⟩)
 rw [if_neg h1]
 replace h1:aG (bat a i)=false:=by simpa using h1
 rw [h1] at hD
 by_cases h2:bat a i=34
 ·
  rw [if_pos h2]
  repeat' (first|(apply aa (f:=281);exact rfl;exact rfl;(intro w' hm;exact hD w'))|(apply ay (f:=283);exact rfl;exact rfl;(intro w' hm;exact hT w');(rintro _ _ ⟨rfl,h⟩;obtain ⟨t,n,b,rfl⟩:=h.form))|(apply ak (d:=20);exact rfl;apply bf (j:=i);exact rfl;exact rfl;omega)|refine sT ?_|refine sS ?_|refine sT2 ?_|refine sN ?_|refine sM fun _=> ?_|(refine sC ?_ ?_<;>intro hb<;>try omega)|fail)
  all_goals
   first
   |(exact absurd h2 (by assumption))
   |((refine cL ?_);exact ⟨rfl,by assumption⟩)
 rw [if_neg h2]
 by_cases h3:bT (bat a i)=true
 ·
  rw [if_pos h3]
  rw [h3] at hL
  replace hWd:=hWd h3
  repeat' (first|(apply aa (f:=281);exact rfl;exact rfl;(intro w' hm;exact hD w'))|(apply aa (f:=284);exact rfl;exact rfl;(intro w' hm;exact hL w'))|(apply ay (f:=285);exact rfl;exact rfl;(intro w' hm;exact hWd w');(rintro _ _ ⟨rfl,h⟩;obtain ⟨t,n,b,rfl⟩:=h.form))|(apply ak (d:=20);exact rfl;apply bf (j:=i);exact rfl;exact rfl;omega)|refine sT ?_|refine sS ?_|refine sT2 ?_|refine sN ?_|refine sM fun _=> ?_|(refine sC ?_ ?_<;>intro hb<;>try omega)|fail)
  all_goals
   first
   |(exact absurd (by assumption) h2)
   |((refine cL ?_);exact ⟨rfl,by assumption⟩)
 rw [if_neg h3]
 replace h3:bT (bat a i)=false:=by simpa using h3
 rw [h3] at hL
 repeat' (first|(apply aa (f:=281);exact rfl;exact rfl;(intro w' hm;exact hD w'))|(apply aa (f:=284);exact rfl;exact rfl;(intro w' hm;exact hL w'))|(apply ay (f:=286);exact rfl;exact rfl;(intro w' hm;exact hS w');(rintro _ _ ⟨rfl,h⟩;obtain ⟨t,n,b,rfl⟩:=h.form))|(apply ak (d:=20);exact rfl;apply bf (j:=i);exact rfl;exact rfl;omega)|refine sT ?_|refine sS ?_|refine sT2 ?_|refine sN ?_|refine sM fun _=> ?_|(refine sC ?_ ?_<;>intro hb<;>try omega)|fail)
 all_goals
  first
  |(exact absurd (by assumption) h2)
  |((refine cL ?_);exact ⟨rfl,by assumption⟩)
set_option maxHeartbeats 4000000 in
theorem zY (a:ByteArray) (w:World):
    aF Tryz.prog 194 [.string a] w fun v H=> ∃ A cap,v=G6 A cap (bq bB (ap a))∧H= [.own A 228 8 (bq bB (ap a)).1.length cap ((bq bB (ap a)).1.flatMap bi)]:=by
  refine aq Tryz.func194 rfl Tryz.ntmps194 rfl ?_
  have hl:=au a
  unfold bq
  refine aB 228 8 ?_
  by_cases hlen:256<(ap a).length
  · rw [if_pos hlen]
    repeat' (first|refine sT ?_|refine sS ?_|refine sT2 ?_|refine sM fun _=> ?_|(refine sC ?_ ?_<;>intro hb<;>try omega)|fail)
    all_goals try (exfalso;omega)
    exact li (.inl rfl) rfl rfl rfl rfl (.refl _) ⟨none,0,rfl,rfl⟩
  rw [if_neg hlen]
  repeat' (first|refine sT ?_|refine sS ?_|refine sT2 ?_|refine sM fun _=> ?_|(refine sC ?_ ?_<;>intro hb<;>try omega)|fail)
  all_goals try (exfalso;omega)
  refine aw [0] rfl (fun i:Nat=> [(5,.int .i64 (i:Int))]) (fun _=> [.own none 228 8 0 0 []]) (fun i=>i≤a.size∧ ∀ j,j<i→bF (bat a j)=true) (fun i=>a.size - i) 0 ⟨by omega,fun j h=>by omega⟩ sB mS ?_
  rintro i ⟨hi,hpl⟩
  by_cases hlt:i<a.size
  · repeat' (first|(apply ak (d:=22);exact rfl;apply bf (j:=i);exact rfl;exact rfl;omega)|(apply ak (d:=27);exact rfl;apply bf (j:=i);exact rfl;exact rfl;omega)|refine sT ?_|refine sS ?_|refine sT2 ?_|refine sN ?_|refine sM fun _=> ?_|(refine sC ?_ ?_<;>intro hb<;>try omega)|fail)
    all_goals first
      |(exfalso;omega)
      | (have hf : (ap a).findIdx? (fun c => !bF c) = some i := by
           refine oD hlt ?_ fun j hj=>by rw [hpl j hj];rfl
           simp only [bF,Bool.not_eq_true',Sw,decide_eq_false_iff_not]
           omega
         rw [hf]
         exact li (.inl rfl) rfl rfl rfl rfl (.refl _) ⟨none,0,rfl,rfl⟩)
      | (refine ⟨i + 1, ?_, (by first | omega | (dsimp only; omega)), sB, sB, mS⟩
         refine ⟨hlt,fun j hj=> ?_⟩
         rcases (by omega:j<i∨j=i) with h|rfl
         · exact hpl j h
         · simp only [bF,Rk,decide_eq_true_eq]
           omega)
  have e:i=a.size:=by omega
  subst e
  have hf:(ap a).findIdx? (fun c=> !bF c)=none:=mI fun j hj=>by rw [hpl j hj];rfl
  rw [hf]
  dsimp only
  repeat' (first|refine sT ?_|refine sS ?_|refine sT2 ?_|refine sN ?_|refine sM fun _=> ?_|(refine sC ?_ ?_<;>intro hb<;>try omega)|fail)
  all_goals try (exfalso;omega)
  generalize hT:bn bB (ap a) (ap a).length 0=T
  refine aw [0] rfl (fun x:Nat × List Tk × Option Nat × Nat=> [(6,sl x.2.2.1 x.2.1.length x.2.2.2),(7,.int .i64 (x.1:Int))]) (fun x=> [.own x.2.2.1 228 8 x.2.1.length x.2.2.2 (x.2.1.flatMap bi)])
    (fun x=>x.1≤a.size∧x.2.1.length≤x.1∧T=(bn bB (ap a) (a.size - x.1) x.1).map (x.2.1++ ·)) (fun x=>a.size - x.1) (0,[],none,0) ⟨by omega,by simp,by rw [← hT,hl];cases bn bB (ap a) a.size 0<;>rfl⟩ sB mS ?_
  rintro ⟨i,toks,A,cap⟩ ⟨hi2,hi3,hi4⟩
  dsimp only at hi2 hi3 hi4 ⊢
  by_cases hlt2:i<a.size
  · obtain ⟨f,hf1⟩: ∃ f,a.size - i=f+1:=⟨a.size - i - 1,by omega⟩
    rw [hf1] at hi4
    simp only [bn] at hi4
    have hdr:=bk hlt2
    have hK:=Cz a (by omega) i hlt2
    generalize hld:(ap a).drop i=ld at hi4 hdr hK
    rw [hdr] at hi4
    dsimp only at hi4
    by_cases h32:bat a i=32
    · rw [if_pos h32] at hi4
      repeat' (first|(apply ak (d:=37);exact rfl;apply bf (j:=i);exact rfl;exact rfl;omega)|refine sT ?_|refine sS ?_|refine sT2 ?_|refine sN ?_|refine sM fun _=> ?_|(refine sC ?_ ?_<;>intro hb<;>try omega)|fail)
      all_goals try (exfalso;omega)
      refine ⟨(i+1,toks,A,cap),?_,(by first|omega|(dsimp only;omega)),sB,sB,mS⟩
      exact ⟨hlt2,by dsimp only;omega,by dsimp only;rw [show a.size - (i+1)=f by omega];exact hi4⟩
    · rw [if_neg h32,← hdr] at hi4
      have hldl:ld.length=a.size - i:=by rw [← hld,RC,hl]
      cases ho:bB ld with
      |none=>
        rw [ho] at hi4 hK
        dsimp only [Except.map] at hi4
        rw [hi4]
        refine aB 228 8 ?_
        repeat' (first|(apply ak (d:=37);exact rfl;apply bf (j:=i);exact rfl;exact rfl;omega)|(apply ay (f:=239);exact rfl;exact rfl;(intro w' hm;exact hK w');(rintro _ _ ⟨rfl,t,n,rfl⟩))|refine sT ?_|refine sS ?_|refine sT2 ?_|refine sN ?_|refine sM fun _=> ?_|(refine sC ?_ ?_<;>intro hb<;>try omega)|fail)
        all_goals try (exfalso;omega)
        exact li (.inl rfl) rfl rfl rfl rfl (H' := [.own none 228 8 0 0 []]) mS ⟨none,0,rfl,rfl⟩
      |some x=>
        obtain ⟨t,m⟩:=x
        rw [ho] at hi4 hK
        dsimp only at hi4
        have hfit:=nu ld t m ho
        have hm0:0<m:=hfit.1
        repeat' (first|(apply ak (d:=37);exact rfl;apply bf (j:=i);exact rfl;exact rfl;omega)|(apply ay (f:=239);exact rfl;exact rfl;(intro w' hm;exact hK w');(rintro _ _ ⟨rfl,rfl⟩))|(apply aU;(iterate 3 exact rfl);exact pK;exact pK;exact rfl;(simp [bi,Value.oneCell']);omega;(simp only [maxLen];omega);intro g8 c8)|refine sT ?_|refine sS ?_|refine sT2 ?_|refine sN ?_|refine sM fun _=> ?_|(refine sC ?_ ?_<;>intro hb<;>try omega)|fail)
        all_goals try (exfalso;omega)
        refine ⟨(i+m,toks++ [{ t with at_:=(i:Int) }],some g8,c8),⟨by dsimp only;omega,by simp;omega,?_⟩,(by dsimp only;omega),?_,sB,?_⟩
        · dsimp only
          rw [hi4,qN nu f (a.size - (i+m)) f (i+m) (by omega) (by omega) (by omega)]
          cases bn bB (ap a) (a.size - (i+m)) (i+m)<;>simp [Except.map]
        · simp only [QT,QX]
          exact sB
        · simp only [QT,QX,Rn,Rm,Ry,QZ]
          exact mS
  · have e:i=a.size:=by omega
    subst e
    rw [show a.size - a.size=0 by omega] at hi4
    simp only [bn,Except.map,QZ] at hi4
    rw [hi4]
    repeat' (first|refine sT ?_|refine sS ?_|refine sT2 ?_|refine sN ?_|refine sM fun _=> ?_|(refine sC ?_ ?_<;>intro hb<;>try omega)|fail)
    all_goals try (exfalso;omega)
    exact li (.inl rfl) rfl rfl rfl rfl (H' := [.own A 228 8 toks.length cap (toks.flatMap bi)]) mS ⟨A,cap,rfl,rfl⟩
theorem zR {tk:List Int→Option (Tk × Nat)} {a:ByteArray} (h:(bq tk (ap a)).2.2=0):a.size≤256:=by
 unfold bq at h
 split at h
 ·
  cases h
 ·
  rename_i h1
  rw [au] at h1
  omega
set_option maxHeartbeats 4000000 in
theorem xW (a:ByteArray) (w:World) (r:List Nd × Int × Int) (hr:r=bK (bq bB (ap a)) (a.size:Int)):
  aF Tryz.prog 147 [.string a] w fun v H=> ∃ A cap,v=G5 A cap r∧H= [.own A 293 11 r.1.length cap (r.1.flatMap bN)]:=by
 refine aq Tryz.func147 rfl Tryz.ntmps147 rfl ?_
 have hT:=fun w' =>zY a w'
 have htl:=nr bB (ap a)
 have hch:=xR (ap a)
 have hnum:=tP (ap a)
 have hsz:=zR (tk:=bB) (a:=a)
 obtain ⟨⟨toks,at0,e0⟩,hx⟩: ∃ x,bq bB (ap a)=x:=⟨_,rfl⟩
 rw [hx] at hr htl hch hnum hsz
 simp only [hx,G6] at hT
 dsimp only at htl hch hnum hsz
 refine aB 293 11 ?_
 refine aB 293 11 ?_
 by_cases he0:e0≠0
 ·
  have hr' :r=([],at0,e0):=by rw [hr];simp [bK,he0]
  subst hr'
  repeat' (first|(apply ay (f:=194);exact rfl;exact rfl;exact fun w' _=>hT w';rintro _ _ ⟨A,cap,rfl,rfl⟩)|refine sT ?_|refine sS ?_|refine sN ?_|refine sM fun _=> ?_|(refine sC ?_ ?_<;>intro hb<;>try omega)|fail)
  all_goals first
   |(exfalso;omega)
   |exact li eIO rfl rfl rfl rfl (H' := [.own none 293 11 0 0 []]) mS ⟨none,0,rfl,rfl⟩
 have he0:e0=0:=Classical.not_not.1 he0
 subst he0
 replace hsz:=hsz rfl
 obtain ⟨r1,hr1,_⟩:=sV (a.size:Int) (20*toks.length+40) (.level 1) ⟨toks,[]⟩ ⟨by omega,by omega⟩ (by simp [Job.c])
 have hL:=(Fb (20*toks.length+40)).1 1 (by decide) (by decide)
 obtain ⟨ff,hff⟩: ∃ ff,20*toks.length+40=ff:=⟨_,rfl⟩
 rw [hff] at hr1 hL
 cases r1 with
 |error e=>
  have hr' :r=([],e.1,e.2):=by rw [hr];simp [bK,hff,hr1]
  subst hr'
  repeat' (first|(apply ay (f:=194);exact rfl;exact rfl;exact fun w' _=>hT w';rintro _ _ ⟨A,cap,rfl,rfl⟩)|(apply ax (f:=195);exact rfl;exact rfl;rename_i g;exact FnIn.msub (hL ⟨g,a,A,cap,toks,hsz,htl,hch⟩ 0 ⟨toks,[]⟩ none 0 _ _ w (Nat.zero_le _) rfl (Nat.le_refl 0) hr1) (MSub.pick pK (MSub.pick pK (MSub.pick pK (MSub.refl _))));rintro _ _ ⟨rfl,k1,B1,cb1,o1,j1,j2,j3,j4,rfl⟩;dsimp only at j2;obtain ⟨u,hd1⟩: ∃ u,hdT (a.size:Int) (toks.drop k1)=u:=⟨_,rfl⟩)|(apply ak;exact rfl;apply dR;exact rfl;exact rfl)|(apply aa (f:=197);exact rfl;exact rfl;exact fun w' hm=>Cx.next (x:=⟨_,a,A,cap,toks,hsz,htl,hch⟩) hd1 (B:=B1) (cb:=cb1) (out:=o1) (at_:=e.1) (e:=e.2) (MSub.pick pK (MSub.pick pK (MSub.pick pK (MSub.nil _)))) w' hm)|(apply ax (f:=196);exact rfl;exact rfl;exact FnIn.msub (fQ _ a A toks.length cap k1 B1 o1.length cb1 e.1 e.2 _ _ _ _) (MSub.pick pK (.refl _));rw [if_neg j1,if_neg j1];rintro _ _ ⟨rfl,rfl⟩)|refine sT ?_|refine sS ?_|refine sQ ?_|refine sN ?_|refine sNQ ?_|refine sD ?_|refine sM fun _=> ?_|(refine sC ?_ ?_<;>intro hb<;>try omega)|(refine sCQ ?_ ?_<;>intro hb<;>try omega)|fail)
  all_goals first
   |(exfalso;omega)
   |exact absurd (by assumption) j1
   |exact li eIO rfl rfl rfl rfl (H' := [.own none 293 11 0 0 []]) mS ⟨none,0,rfl,rfl⟩
 |ok y=>
  obtain ⟨n,p'⟩:=y
  have hwf:=zU _ _ _ _ _ _ hr1 (⟨hnum,fun _ h=>by cases h⟩:Wf ⟨toks,[]⟩)
  have hD:=fun (tv:Value) (w' :World) (h:Reads w' tv p'.out.length (p'.out.flatMap bN))=>tU p'.out hwf.2 tv w' h
  have hde:(lz p'.out).2=d9 p'.out:=by
   unfold lz
   split
   ·
    rfl
   ·
    rename_i h;simp at h;simp [h]
  obtain ⟨dd,de,hdd⟩: ∃ a b,lz p'.out=(a,b):=⟨_,_,rfl⟩
  rw [hdd] at hD hde
  dsimp only at hD hde
  repeat' (first|(apply ay (f:=194);exact rfl;exact rfl;exact fun w' _=>hT w';rintro _ _ ⟨A,cap,rfl,rfl⟩)|(apply ax (f:=195);exact rfl;exact rfl;rename_i g;exact FnIn.msub (hL ⟨g,a,A,cap,toks,hsz,htl,hch⟩ 0 ⟨toks,[]⟩ none 0 _ _ w (Nat.zero_le _) rfl (Nat.le_refl 0) hr1) (MSub.pick pK (MSub.pick pK (MSub.pick pK (MSub.refl _))));rintro _ _ ⟨rfl,k1,B1,cb1,j1,j2,j3,j4,rfl⟩;dsimp only at j1 j2;obtain ⟨u,hd1⟩: ∃ u,hdT (a.size:Int) (toks.drop k1)=u:=⟨_,rfl⟩)|(apply ak;exact rfl;apply dR;exact rfl;exact rfl)|(apply aa (f:=197);exact rfl;exact rfl;exact fun w' hm=>Cx.next (x:=⟨_,a,A,cap,toks,hsz,htl,hch⟩) hd1 (B:=B1) (cb:=cb1) (out:=p'.out) (at_:=0) (e:=0) (MSub.pick pK (MSub.pick pK (MSub.pick pK (MSub.nil _)))) w' hm)|(apply ax (f:=196);exact rfl;exact rfl;exact FnIn.msub (fQ _ a A toks.length cap k1 B1 p'.out.length cb1 0 0 _ _ _ _) (MSub.pick pK (.refl _));rintro _ _ ⟨rfl,rfl⟩)|(apply aa (f:=198);exact rfl;exact rfl;(intro w' hm';exact hD _ w' (Reads.of_own (A:=B1) hm' pK)))|refine sT ?_|refine sS ?_|refine sQ ?_|refine sN ?_|refine sNQ ?_|refine sD ?_|refine sM fun _=> ?_|(refine sC ?_ ?_<;>intro hb<;>try omega)|(refine sCQ ?_ ?_<;>intro hb<;>try omega)|fail)
  all_goals try (exfalso;omega)
  ·
   have hk1:k1<toks.length:=by
    have:(k1:Int)<(toks.length:Int):=by assumption
    omega
   have hu0:u.kind≠0:=fun h=>by
    have h2:=(hch.drop k1).kind (fin:=(a.size:Int))
    rw [hd1] at h2
    have:=congrArg List.length (h2.1 h)
    rw [RC,SP] at this
    omega
   have hr' :r=([],u.at_,4):=by rw [hr];simp [bK,hff,hr1,j2,hd1,hu0]
   subst hr'
   exact li eIO rfl rfl rfl rfl (H' := [.own none 293 11 0 0 []]) mS ⟨none,0,rfl,rfl⟩
  all_goals
   have hk1:toks.length≤k1:=by
    have:(toks.length:Int)≤(k1:Int):=by assumption
    omega
   have hu0:u.kind=0:=by rw [← hd1,uW hk1];rfl
  ·
   have hr' :r=([],0,de):=by
    have hb' :de≠0:=by assumption
    rw [hr];rw [hde] at hb' ⊢;simp [bK,hff,hr1,j2,hd1,hu0,hb']
   subst hr'
   exact li eIO rfl rfl rfl rfl (H' := [.own none 293 11 0 0 []]) mS ⟨none,0,rfl,rfl⟩
  ·
   have hr' :r=(p'.out,0,0):=by
    have hb' :d9 p'.out=0:=hde ▸ Classical.not_not.1 (by assumption)
    rw [hr];simp [bK,hff,hr1,j2,hd1,hu0,hb']
   subst hr'
   exact li eIO rfl rfl rfl rfl (H' := [.own B1 293 11 p'.out.length cb1 (p'.out.flatMap bN)]) mS ⟨B1,cb1,rfl,rfl⟩
set_option maxHeartbeats 2000000 in
theorem CB (b:ByteArray) (w:World):aF Tryz.prog 108 [.string b] w fun v H=> ∃ A cap,v=ofV A cap (ofP b)∧H= [.own A 293 11 (ofP b).1.tree.length cap ((ofP b).1.tree.flatMap bN)]:=by
 refine aq Tryz.func108 rfl Tryz.ntmps108 rfl ?_
 refine aB 293 11 ?_
 rw [Ly]
 unfold ofR
 by_cases hlen:256<b.size
 ·
  rw [if_pos hlen]
  repeat' (first|refine sT ?_|refine sS ?_|refine sT2 ?_|refine sM fun _=> ?_|(refine sC ?_ ?_<;>intro hb<;>try omega)|fail)
  all_goals first
   |(exfalso;omega)
   |exact fY eIO rfl rfl pK rfl rfl rfl (H' := [.own none 293 11 0 0 []]) mS ⟨none,0,rfl,rfl⟩
 rw [if_neg hlen]
 repeat' (first|refine sT ?_|refine sS ?_|refine sT2 ?_|refine sM fun _=> ?_|(refine sC ?_ ?_<;>intro hb<;>try omega)|fail)
 all_goals try (exfalso;omega)
 rename_i g2
 refine aw [0,2] rfl (fun i:Nat=> [(5,.int .i64 (i:Int))]) (fun _=> [.box g2 130 [.bool false,.int .u8 0,.int .i64 0,.string av,.slice none 0 0],.own none 293 11 0 0 []]) (fun i=>i≤b.size∧ ∀ j,j<i→bF (bat b j)=true) (fun i=>b.size - i) 0 ⟨by omega,fun j h=>by omega⟩ sB mS ?_
 rintro i ⟨hi,hpl⟩
 by_cases hlt:i<b.size
 ·
  by_cases hc:bF (bat b i)=true
  ·
   have hc' :=hc
   simp only [bF,Rk,decide_eq_true_eq] at hc'
   repeat' (first|(apply ak (d:=21);exact rfl;apply bf (j:=i);exact rfl;exact rfl;omega)|(apply ak (d:=26);exact rfl;apply bf (j:=i);exact rfl;exact rfl;omega)|refine sT ?_|refine sS ?_|refine sT2 ?_|refine sN ?_|refine sM fun _=> ?_|(refine sC ?_ ?_<;>intro hb<;>try omega)|fail)
   all_goals try (exfalso;omega)
   refine ⟨i+1,?_,(by first|omega|(dsimp only;omega)),sB,sB,mS⟩
   refine ⟨hlt,fun j hj=> ?_⟩
   rcases (by omega:j<i∨j=i) with h|rfl
   ·
    exact hpl j h
   ·
    exact hc
  ·
   have hc' :=hc
   simp only [bF,Rk,decide_eq_true_eq] at hc'
   have hf:(ap b).findIdx? (fun c=> !bF c)=some i:=oD hlt (by simp [hc]) fun j hj=>by rw [hpl j hj];rfl
   rw [hf]
   repeat' (first|(apply ak (d:=21);exact rfl;apply bf (j:=i);exact rfl;exact rfl;omega)|(apply ak (d:=26);exact rfl;apply bf (j:=i);exact rfl;exact rfl;omega)|refine sT ?_|refine sS ?_|refine sT2 ?_|refine sN ?_|refine sM fun _=> ?_|(refine sC ?_ ?_<;>intro hb<;>try omega)|fail)
   all_goals first
    |(exfalso;omega)
    |exact fY eIO rfl rfl pK rfl rfl rfl (H' := [.own none 293 11 0 0 []]) mS ⟨none,0,rfl,rfl⟩
 ·
  have e:i=b.size:=by omega
  subst e
  have hf:(ap b).findIdx? (fun c=> !bF c)=none:=mI fun j hj=>by rw [hpl j hj];rfl
  rw [hf]
  dsimp only
  have hhd:(ap b).headD 0=bat b 0:=by have:=oq (a:=b) (i:=0);rwa [SG] at this
  rw [hhd]
  have hC:=fun w=>CG b (by omega) w
  by_cases h61:bat b 0≠61
  ·
   rw [if_pos h61]
   by_cases h0:b=av
   ·
    repeat' (first|(apply ak (d:=32);exact rfl;apply nk;exact rfl;exact rfl;exact h0)|(apply aa;exact rfl;exact rfl;(intro w hm;exact hC w))|refine sT ?_|refine sS ?_|refine sT2 ?_|refine sN ?_|refine sM fun _=> ?_|(refine sC ?_ ?_<;>intro hb<;>try omega)|fail)
    all_goals first
     |(exfalso;omega)
     |exact fY eIO rfl rfl pK rfl rfl rfl (H' := [.own none 293 11 0 0 []]) mS ⟨none,0,rfl,rfl⟩
   ·
    have hpos:0<b.size:=by
     rcases Sx b.size with h|h
     ·
      exact absurd (ByteArray.ext (TY h)) h0
     ·
      exact h
    repeat' (first|(apply ak (d:=32);exact rfl;apply eF;exact rfl;exact rfl;exact h0)|(apply ak (d:=35);exact rfl;apply bf (j:=0);exact rfl;exact rfl;exact hpos)|(apply aa;exact rfl;exact rfl;(intro w hm;exact hC w))|refine sT ?_|refine sS ?_|refine sT2 ?_|refine sN ?_|refine sM fun _=> ?_|(refine sC ?_ ?_<;>intro hb<;>try omega)|fail)
    all_goals first
     |(exfalso;omega)
     |exact fY eIO rfl rfl pK rfl rfl rfl (H' := [.own none 293 11 0 0 []]) mS ⟨none,0,rfl,rfl⟩
  ·
   rw [if_neg h61]
   have h61:bat b 0=61:=Classical.not_not.1 h61
   have hpos:0<b.size:=by
    rcases Sx b.size with h|h
    ·
     rw [jn (by omega)] at h61;cases h61
    ·
     exact h
   have h0:b≠av:=by
    rintro rfl
    exact absurd hpos (by decide)
   have hF:=fun (w' :World)=>xW (sub b 1 b.size) w' _ rfl
   obtain ⟨⟨t,at0,e0⟩,hr⟩: ∃ x,bK (bq bB (ap (sub b 1 b.size))) ((sub b 1 b.size).size:Int)=x:=⟨_,rfl⟩
   simp only [hr,G5] at hF
   rw [hr]
   dsimp only
   by_cases he:e0≠0
   ·
    rw [if_pos he]
    repeat' (first|(apply ak (d:=32);exact rfl;apply eF;exact rfl;exact rfl;exact h0)|(apply ak (d:=35);exact rfl;apply bf (j:=0);exact rfl;exact rfl;exact hpos)|(apply ak (d:=43);exact rfl;apply vw (lo:=1);exact rfl;exact rfl;omega)|(apply ay (f:=147);exact rfl;exact rfl;(intro w' hm';exact hF w');rintro _ _ ⟨A,cap,rfl,rfl⟩)|(apply ak;exact rfl;apply vK;exact rfl;exact rfl)|refine sT ?_|refine sS ?_|refine sT2 ?_|refine sN ?_|refine sM fun _=> ?_|(refine sC ?_ ?_<;>intro hb<;>try omega)|fail)
    all_goals first
     |(exfalso;omega)
     |exact fY eIO rfl rfl pK rfl rfl rfl (H' := [.own none 293 11 0 0 []]) mS ⟨none,0,rfl,rfl⟩
   ·
    rw [if_neg he]
    repeat' (first|(apply ak (d:=32);exact rfl;apply eF;exact rfl;exact rfl;exact h0)|(apply ak (d:=35);exact rfl;apply bf (j:=0);exact rfl;exact rfl;exact hpos)|(apply ak (d:=43);exact rfl;apply vw (lo:=1);exact rfl;exact rfl;omega)|(apply ay (f:=147);exact rfl;exact rfl;(intro w' hm';exact hF w');rintro _ _ ⟨A,cap,rfl,rfl⟩)|(apply ak;exact rfl;apply vK;exact rfl;exact rfl)|refine sT ?_|refine sS ?_|refine sT2 ?_|refine sN ?_|refine sM fun _=> ?_|(refine sC ?_ ?_<;>intro hb<;>try omega)|fail)
    all_goals first
     |(exfalso;omega)
     |exact fY eIO rfl rfl pK rfl rfl rfl (H' := [.own A 293 11 t.length cap (t.flatMap bN)]) mS ⟨A,cap,rfl,rfl⟩
set_option maxHeartbeats 2000000 in
theorem CE (L:List Et) (tv:Value) (w:World) (ht:Reads w tv L.length (L.flatMap cF)) (i:Nat) (hlt:i<L.length):
  aA Tryz.prog 119 [tv,.int .i64 (i:Int)] w (.int .i64 (jS (jv L i) L[i])):=by
 obtain ⟨Al,cl,rfl,hl1,hl2,hl3⟩:=ht
 refine aq Tryz.func119 rfl Tryz.ntmps119 rfl ?_
 obtain ⟨gl,ol,rfl,hrl⟩:=hl3 (by omega)
 have he:=hrl.elem di i hlt
 have hprev: ∀ h:0<i,Ro w gl (ol+(i - 1)*3) (cF L[i - 1]):=fun h=>hrl.elem di (i - 1) (by omega)
 have hbef: ∀ h:0<i,jv L i=some L[i - 1].at_:=fun h=>by unfold jv;rw [if_neg (by omega),QV (by omega)];rfl
 have hbef0:i=0→jv L i=none:=fun h=>by unfold jv;rw [if_pos h]
 generalize L[i]=e at he ⊢
 obtain ⟨fo,hfo⟩: ∃ fo,jS (jv L i) e=fo:=⟨_,rfl⟩
 rw [hfo]
 have hV: ∀ w',aA Tryz.prog 151 [.agg (aS e.at_).toArray] w' (.bool e.at_.valid):=fun w' =>kL e.at_.col e.at_.row w'
 have hO:=fun (w' :World)=>CB e.input w'
 have hofV: ∀ (A:Option Nat) (cap:Nat),ofV A cap (ofP e.input)= .tuple #[.agg (AY (ofP e.input).1 (sl A (ofP e.input).1.tree.length cap)).toArray,.int .i64 (ofP e.input).2.1,.int .i64 (ofP e.input).2.2]:=fun _ _=>rfl
 simp only [hofV] at hO
 unfold jS at hfo
 generalize ofP e.input=o at hO hfo
 obtain ⟨⟨f1,f2,f3⟩,oa,oe⟩:=o
 simp only [AY] at hO
 generalize e.at_.valid=vd at hV hfo
 have hle: ∀ (w' :World),True:=fun _=>trivial
 by_cases h0:0<i
 ·
  have hp:=hprev h0
  rw [hbef h0] at hfo
  generalize L[i - 1]=b at hp hfo
  have hL:=fun w' =>wj b.at_ e.at_ w'
  replace hfo:(if vd=false then (3:Int) else if bw b.at_ e.at_=false then 12 else if e.input=av then 2 else oe)=fo:=hfo
  generalize bw b.at_ e.at_=ls at hL hfo
  repeat' (first|(apply ak (d:=10);exact rfl;apply aj;exact rfl;exact rfl;exact hlt)|(apply ak (d:=12);exact rfl;apply dq (off:=0) (ys:=aS e.at_) he;(iterate 3 exact rfl))|(apply aK (d:=20);exact rfl;apply eC;exact rfl;exact rfl;exact h0;(simp only [maxLen] at*;omega))|(apply aK (d:=21);exact rfl;apply aj (j:=i - 1);exact rfl;exact rfl;omega)|(apply aK (d:=23);exact rfl;apply dq (off:=0) (ys:=aS b.at_) hp;(iterate 3 exact rfl))|(apply aK (d:=26);exact rfl;apply aj (j:=i);exact rfl;exact rfl;exact hlt)|(apply aK (d:=28);exact rfl;apply dq (off:=0) (ys:=aS e.at_) he;(iterate 3 exact rfl))|(apply ak (d:=34);exact rfl;apply aj;exact rfl;exact rfl;exact hlt)|(apply ak (d:=36);exact rfl;apply dE (off:=2);exact rfl;exact he;exact rfl)|(apply ak (d:=41);exact rfl;apply aj;exact rfl;exact rfl;exact hlt)|(apply ak (d:=43);exact rfl;apply dE (off:=2);exact rfl;exact he;exact rfl)|(apply aa;exact rfl;exact rfl;(intro w hm;exact hV w))|(apply cB;exact rfl;exact rfl;(intro w hm;exact hL w))|(apply ay (f:=108);exact rfl;exact rfl;(intro w' hm;exact hO w');rintro _ _ ⟨A,cap,rfl,rfl⟩)|refine sT ?_|refine sS ?_|refine sQ ?_|refine sN ?_|refine sNQ ?_|refine sD ?_|refine sM fun _=> ?_|(refine sC ?_ ?_<;>intro hb<;>try omega)|(refine sCQ ?_ ?_<;>intro hb<;>try omega)|fail)
  all_goals (refine cA eIO rfl rfl (.nil _) ?_;simp_all [av];done)
 ·
  rw [hbef0 (by omega)] at hfo
  repeat' (first|(apply ak (d:=10);exact rfl;apply aj;exact rfl;exact rfl;exact hlt)|(apply ak (d:=12);exact rfl;apply dq (off:=0) (ys:=aS e.at_) he;(iterate 3 exact rfl))|(apply ak (d:=34);exact rfl;apply aj;exact rfl;exact rfl;exact hlt)|(apply ak (d:=36);exact rfl;apply dE (off:=2);exact rfl;exact he;exact rfl)|(apply ak (d:=41);exact rfl;apply aj;exact rfl;exact rfl;exact hlt)|(apply ak (d:=43);exact rfl;apply dE (off:=2);exact rfl;exact he;exact rfl)|(apply aa;exact rfl;exact rfl;(intro w hm;exact hV w))|(apply ay (f:=108);exact rfl;exact rfl;(intro w' hm;exact hO w');rintro _ _ ⟨A,cap,rfl,rfl⟩)|refine sT ?_|refine sS ?_|refine sQ ?_|refine sN ?_|refine sNQ ?_|refine sD ?_|refine sM fun _=> ?_|(refine sC ?_ ?_<;>intro hb<;>try omega)|(refine sCQ ?_ ?_<;>intro hb<;>try omega)|fail)
  all_goals first
   |(exfalso;omega)
   |(refine cA eIO rfl rfl (.nil _) ?_;simp_all [av];done)
theorem pL (L:List Et) (tv:Value) (w:World) (ht:Reads w tv L.length (L.flatMap cF)) (hlen:L.length≤1000000):
    aA Tryz.prog 63 [tv] w (.tuple #[.int .i64 (dM L).1,.int .i64 (dM L).2]):=by
  have hF:=fun (w' :World) (H' :List Blk) (hm:Mem w w' H') (i:Nat) (hi:i<L.length)=>CE L tv w' (ht.of_w0 hm) i hi
  obtain ⟨Al,cl,rfl,hl1,hl2,hl3⟩:=ht
  refine aq Tryz.func63 rfl Tryz.ntmps63 rfl ?_
  repeat' (first|refine sT ?_|refine sS ?_|refine sM fun _=> ?_|(refine sC ?_ ?_<;>intro hb<;>try omega)|fail)
  refine aw [0] rfl (fun i:Nat=> [(4,.int .i64 (i:Int))]) (fun _=> []) (fun i=>i≤L.length∧dM L=fk i (jv L i) (L.drop i)) (fun i=>L.length - i) 0 ⟨by omega,rfl⟩ sB (.refl _) ?_
  rintro i ⟨hi,hck⟩
  by_cases hlt:i<L.length
  · have hF:=fun w' H' hm=>hF w' H' hm i hlt
    have hnext:jv L (i+1)=some L[i].at_:=by unfold jv;rw [if_neg (by omega),ST,QV hlt];rfl
    rw [Rc hlt,fk,← hnext] at hck
    generalize jS (jv L i) L[i]=e at hF hck
    repeat' (first|(apply aa (f:=119);exact rfl;exact rfl;(intro w' hm;exact hF w' _ hm))|refine sT ?_|refine sS ?_|refine sN ?_|refine sM fun _=> ?_|(refine sC ?_ ?_<;>intro hb<;>try omega)|fail)
    all_goals first
      |(exfalso;omega)
      |(refine dS eIO rfl rfl rfl (.nil _) ?_;rw [hck,if_pos (by assumption)];done)
      | (rw [if_neg (by assumption)] at hck
         refine ⟨i+1,⟨hlt,hck⟩,by omega,?_,?_,.nil _⟩
         · exact sB
         · exact sB)
  · have e2:i=L.length:=by omega
    subst e2
    rw [RK,fk] at hck
    repeat' (first|refine sT ?_|refine sS ?_|refine sM fun _=> ?_|(refine sC ?_ ?_<;>intro hb<;>try omega)|fail)
    all_goals first
      |(exfalso;omega)
      |(refine dS eIO rfl rfl rfl (.nil _) ?_;rw [hck])
theorem JH {L:List En} {i:Nat} (h:i<L.length):((L.flatMap kB).drop (0+i*4+0)).take 2=aS L[i].at_:=by
 have he:=congrArg (List.take 2) (dD DM L i h)
 rw [List.take_take] at he
 rw [Rt]
 exact he
theorem DN {L:List En} {i:Nat} (h:i<L.length):((L.flatMap kB).drop (0+i*4)).take 4=kB L[i]:=by
 rw [Rt];exact dD DM L i h
theorem ER (L:List Nd):(iH L).1.length≤L.length:=by
 unfold iH
 split
 ·
  exact Rd _
 ·
  exact ic L 0
set_option maxHeartbeats 4000000 in
theorem Ld (g:Nat) (A:Option Nat) (cap:Nat) (L:List En) (G:Gr) (a:Rf) (b:ByteArray) (R F:List Blk) (w0:World) (hR:RGOk R L G) (hs:SortG G) (hlen:L.length≤1000):
    FnIn Tryz.prog 159 [.pointer (some ⟨g,0,none⟩),mY a,.string b] w0 (rgB g A cap L++(R++F)) fun v H=>v= .int .i64 (jp G a b).2∧ ∃ A' cap' L' R',H=rgB g A' cap' L' ++(R' ++F)∧MSub R R' ∧RGOk R' L' (jp G a b).1:=by
  refine eQ Tryz.func159 rfl Tryz.ntmps159 rfl ?_
  have hV:=fun (w' :World)=>(kL a.col a.row w' :aA Tryz.prog 151 [mY a] w' (.bool (valid a.col a.row)))
  have hO:=fun (w' :World)=>CB b w'
  unfold jp
  by_cases hv:a.valid=false
  · rw [if_pos hv]
    have hv' :valid a.col a.row=false:=hv
    rw [hv'] at hV
    repeat' (first|(apply aa;exact rfl;exact rfl;(intro w hm;exact hV w))|refine sT ?_|refine sS ?_|refine sM fun _=> ?_|(refine sC ?_ ?_<;>intro hb<;>try omega)|fail)
    all_goals exact cA eIO rfl rfl (by unfold rgB;exact mS) ⟨rfl,A,cap,L,R,rfl,MSub.refl _,hR⟩
  rw [if_neg hv]
  have hv' :valid a.col a.row=true:=by
    have:a.valid=valid a.col a.row:=rfl
    rw [this] at hv
    simpa using hv
  rw [hv'] at hV
  have hlen2:=Ay b
  have htree:=wC (b:=b)
  have hwf:=PF b
  generalize ofP b=r at hO hlen2 htree hwf
  obtain ⟨⟨fm,v,t⟩,at_,e⟩:=r
  simp only [ofV,AY] at hO
  dsimp only at hlen2 htree hwf ⊢
  by_cases he:e≠0
  · rw [if_pos he]
    repeat' (first|(apply aa;exact rfl;exact rfl;(intro w hm;exact hV w))|(apply ay (f:=108);exact rfl;exact rfl;(intro w' hm;exact hO w');rintro _ _ ⟨A0,cap0,rfl,rfl⟩)|refine sT ?_|refine sS ?_|refine sM fun _=> ?_|(refine sC ?_ ?_<;>intro hb<;>try omega)|fail)
    all_goals exact cA eIO rfl rfl (by unfold rgB;exact mS) ⟨rfl,A,cap,L,R,rfl,MSub.refl _,hR⟩
  rw [if_neg he]
  have he0:e=0:=by omega
  subst he0
  have hU:=fun (w' :World) (A:Option Nat) (cap:Nat) (H' :List Blk) (hi:In (.own A 293 11 t.length cap (t.flatMap bN)) H') (hm:Mem w0 w' H')=>Fg t hwf (sl A t.length cap) w' (Reads.of_own hm hi)
  have hul:(iH t).1.length≤256:=RB (ER t) hlen2
  have hus:fm=true→ed t=(iH t).1:=fun h=>by unfold iH;rw [htree rfl h];rfl
  obtain ⟨⟨us,ue⟩,hue⟩: ∃ x,iH t=x:=⟨_,rfl⟩
  rw [hue] at hU hul hus
  dsimp only at hU hul hus
  refine aB 169 4 ?_
  repeat' (first|(apply aa;exact rfl;exact rfl;(intro w hm;exact hV w))|(apply ay (f:=108);exact rfl;exact rfl;(intro w' hm;exact hO w');rintro _ _ ⟨A0,cap0,rfl,rfl⟩)|(apply ay (f:=207);exact rfl;exact rfl;(intro w' hm;exact hU w' _ _ _ pK hm);rintro _ _ ⟨A2,cap2,rfl,rfl⟩)|refine sT ?_|refine sS ?_|refine sM fun _=> ?_|(refine sC ?_ ?_<;>intro hb<;>try omega)|fail)
  all_goals try (exfalso;omega)
  rename_i g4 g7
  obtain ⟨x,hxd⟩: ∃ x:En,x=⟨a,A0.map fun g=>⟨g,0,none⟩,cap0,A2.map fun g=>⟨g,0,none⟩,cap2,t,us,0⟩:=⟨_,rfl⟩
  have hxe:kB x= [.int .i64 a.col,.int .i64 a.row,sl A0 t.length cap0,sl A2 us.length cap2]:=by rw [hxd];rfl
  obtain ⟨d0,hd0⟩: ∃ d0,(!fm)=d0:=⟨_,rfl⟩
  have hfin:(xV a x d0 L).map En.abs=(if fm=false then (yf G a,(0:Int)) else (uJ G a (t,ed t),0)).1:=by
    rw [← hd0]
    cases fm with
    |false=>rw [if_pos rfl,← hR.rel];exact KP a x L
    |true=>
      rw [if_neg (by simp),hus rfl,← hR.rel]
      have:=KO (x:=x) (a:=a) (by rw [hxd]) (L:=L) (by rw [hR.rel];exact hs)
      rw [hxd] at this ⊢
      exact this
  have hfin2:(if fm=false then (yf G a,(0:Int)) else (uJ G a (t,ed t),0)).2=0:=by cases fm<;>rfl
  have hRx:RGOk (.own A0 293 11 t.length cap0 (t.flatMap bN):: .own A2 159 6 us.length cap2 (us.flatMap dI)::R) (xV a x d0 L) (if fm=false then (yf G a,(0:Int)) else (uJ G a (t,ed t),0)).1:=by
    refine ⟨fun f hf=> ?_,hfin⟩
    rcases KN hf with rfl|hf
    · rw [hxd]
      exact ⟨rdIn.own (A:=A0) pK,rdIn.own (A:=A2) pK,by dsimp only;omega,by dsimp only;omega⟩
    · exact (hR.en f hf).sub mS
  refine aw [0,4,7,10] rfl (fun y:Nat × List En × Bool × Option Nat × Nat=> [(12,sl y.2.2.2.1 y.2.1.length y.2.2.2.2),(13,.bool y.2.2.1),(14,.int .i64 (y.1:Int))]) (fun y=> .own y.2.2.2.1 169 4 y.2.1.length y.2.2.2.2 (y.2.1.flatMap kB):: .own A2 159 6 us.length cap2 (us.flatMap dI):: .box g7 130 [.bool fm,.int .u8 v.kind,.int .i64 v.num,.string v.text,sl A0 t.length cap0]:: .own A0 293 11 t.length cap0 (t.flatMap bN):: .box g4 50 (aS a):: .box g 167 [sl A L.length cap]:: .own A 169 4 L.length cap (L.flatMap kB)::(R++F)) (fun y=>y.1≤L.length∧(L.take y.1).foldl (eJ a x) ([],d0)=(y.2.1,y.2.2.1)∧y.2.1.length≤2*y.1) (fun y=>L.length - y.1) (0,[],d0,none,0) ⟨Rd _,rfl,Re _⟩ (by subst hd0;exact sB) (by unfold rgB;simp only [Rj,QU,QW];exact mS) ?_
  clear hU hO
  rintro ⟨i,O,d,A3,c3⟩ ⟨hi,hf,hOl⟩
  dsimp only at hi hf hOl ⊢
  by_cases hlt:i<L.length
  · refine dN (A:=A) pK (by omega) fun gl hA=> ?_
    subst hA
    have hnx:(L.take (i+1)).foldl (eJ a x) ([],d0)=eJ a x (O,d) L[i]:=by
      rw [Ra hlt,Tu,hf];rfl
    have hc:=JH hlt
    have ha:=DN hlt
    have hL:=fun w' =>wj a L[i].at_ w'
    generalize L[i]=e at hc ha hL hnx
    obtain ⟨c1,hc1⟩: ∃ c1,bw a e.at_=c1:=⟨_,rfl⟩
    obtain ⟨c2,hc2⟩: ∃ c2,decide (e.at_≠a)=c2:=⟨_,rfl⟩
    rw [hc1] at hL
    have hc2' :c2=true↔e.at_≠a:=by rw [← hc2];simp
    cases d with
    |false=>
      cases c1 with
      |true=>
        have hne:e.at_≠a:=(lX hc1).symm
        obtain rfl:c2=true:=hc2'.2 hne
        have hst:eJ a x (O,false) e=(O++ [x]++ [e],true):=by simp [eJ,hc1,hne]
        repeat' (first|(apply aK;exact rfl;apply aj (j:=i);exact rfl;exact rfl;exact hlt)|(apply ak;exact rfl;apply aj (j:=i);exact rfl;exact rfl;exact hlt)|(apply aK;exact rfl;apply aW (ys:=aS e.at_);exact rfl;exact pK;exact hc;exact rfl)|(apply ak;exact rfl;apply aW (ys:=kB e);exact rfl;exact pK;exact ha;exact rfl)|(apply aK;exact rfl;apply dQ;exact hc2;exact rfl;exact rfl)|(apply cB;exact rfl;exact rfl;(intro w hm;exact hL w))|(apply aU;(iterate 3 exact rfl);exact pK;exact pK;exact rfl;(simp [kB,En.tv,En.uv,sl,Value.oneCell']);omega;(simp only [maxLen];omega);intro g8 c8)|refine sT ?_|refine sS ?_|refine sQ ?_|refine sN ?_|refine sNQ ?_|refine sD ?_|refine sM fun _=> ?_|(refine sC ?_ ?_<;>intro hb<;>try omega)|(refine sCQ ?_ ?_<;>intro hb<;>try omega)|fail)
        all_goals first
          |(exfalso;omega)
          | (refine ⟨(i + 1, O ++ [x] ++ [e], true, some g8, c8), ⟨hlt, (hnx.trans hst), (by (try simp only [List.length_append, List.length_singleton]); omega)⟩, (by dsimp only; omega), (by (try simp only [List.length_append, List.length_singleton]); exact sB), sB, ?_⟩
             simp only [QT,QX,Rn,Rm,Ry,QZ,Rj,QU,QW,hxe]
             exact mS)
      |false=>
        by_cases hne:e.at_≠a
        · obtain rfl:c2=true:=hc2'.2 hne
          have hst:eJ a x (O,false) e=(O++ [e],false):=by simp [eJ,hc1,hne]
          repeat' (first|(apply aK;exact rfl;apply aj (j:=i);exact rfl;exact rfl;exact hlt)|(apply ak;exact rfl;apply aj (j:=i);exact rfl;exact rfl;exact hlt)|(apply aK;exact rfl;apply aW (ys:=aS e.at_);exact rfl;exact pK;exact hc;exact rfl)|(apply ak;exact rfl;apply aW (ys:=kB e);exact rfl;exact pK;exact ha;exact rfl)|(apply aK;exact rfl;apply dQ;exact hc2;exact rfl;exact rfl)|(apply cB;exact rfl;exact rfl;(intro w hm;exact hL w))|(apply aU;(iterate 3 exact rfl);exact pK;exact pK;exact rfl;(simp [kB,En.tv,En.uv,sl,Value.oneCell']);omega;(simp only [maxLen];omega);intro g8 c8)|refine sT ?_|refine sS ?_|refine sQ ?_|refine sN ?_|refine sNQ ?_|refine sD ?_|refine sM fun _=> ?_|(refine sC ?_ ?_<;>intro hb<;>try omega)|(refine sCQ ?_ ?_<;>intro hb<;>try omega)|fail)
          all_goals first
            |(exfalso;omega)
            | (refine ⟨(i + 1, O ++ [e], false, some g8, c8), ⟨hlt, (hnx.trans hst), (by (try simp only [List.length_append, List.length_singleton]); omega)⟩, (by dsimp only; omega), (by (try simp only [List.length_append, List.length_singleton]); exact sB), sB, ?_⟩
               simp only [QT,QX,Rn,Rm,Ry,QZ,Rj,QU,QW,hxe]
               exact mS)
        · obtain rfl:c2=false:=by cases c2 with|false=>rfl|true=>exact absurd (hc2'.1 rfl) hne
          have hst:eJ a x (O,false) e=(O,false):=by
            have:=Classical.not_not.1 hne
            simp [eJ,this,o6]
          repeat' (first|(apply aK;exact rfl;apply aj (j:=i);exact rfl;exact rfl;exact hlt)|(apply ak;exact rfl;apply aj (j:=i);exact rfl;exact rfl;exact hlt)|(apply aK;exact rfl;apply aW (ys:=aS e.at_);exact rfl;exact pK;exact hc;exact rfl)|(apply ak;exact rfl;apply aW (ys:=kB e);exact rfl;exact pK;exact ha;exact rfl)|(apply aK;exact rfl;apply dQ;exact hc2;exact rfl;exact rfl)|(apply cB;exact rfl;exact rfl;(intro w hm;exact hL w))|(apply aU;(iterate 3 exact rfl);exact pK;exact pK;exact rfl;(simp [kB,En.tv,En.uv,sl,Value.oneCell']);omega;(simp only [maxLen];omega);intro g8 c8)|refine sT ?_|refine sS ?_|refine sQ ?_|refine sN ?_|refine sNQ ?_|refine sD ?_|refine sM fun _=> ?_|(refine sC ?_ ?_<;>intro hb<;>try omega)|(refine sCQ ?_ ?_<;>intro hb<;>try omega)|fail)
          all_goals first
            |(exfalso;omega)
            | (refine ⟨(i + 1, O, false, A3, c3), ⟨hlt, (hnx.trans hst), (by (try simp only [List.length_append, List.length_singleton]); omega)⟩, (by dsimp only; omega), (by (try simp only [List.length_append, List.length_singleton]); exact sB), sB, ?_⟩
               simp only [QT,QX,Rn,Rm,Ry,QZ,Rj,QU,QW,hxe]
               exact mS)
    |true=>
      by_cases hne:e.at_≠a
      · obtain rfl:c2=true:=hc2'.2 hne
        have hst:eJ a x (O,true) e=(O++ [e],true):=by simp [eJ,hne]
        repeat' (first|(apply aK;exact rfl;apply aj (j:=i);exact rfl;exact rfl;exact hlt)|(apply ak;exact rfl;apply aj (j:=i);exact rfl;exact rfl;exact hlt)|(apply aK;exact rfl;apply aW (ys:=aS e.at_);exact rfl;exact pK;exact hc;exact rfl)|(apply ak;exact rfl;apply aW (ys:=kB e);exact rfl;exact pK;exact ha;exact rfl)|(apply aK;exact rfl;apply dQ;exact hc2;exact rfl;exact rfl)|(apply cB;exact rfl;exact rfl;(intro w hm;exact hL w))|(apply aU;(iterate 3 exact rfl);exact pK;exact pK;exact rfl;(simp [kB,En.tv,En.uv,sl,Value.oneCell']);omega;(simp only [maxLen];omega);intro g8 c8)|refine sT ?_|refine sS ?_|refine sQ ?_|refine sN ?_|refine sNQ ?_|refine sD ?_|refine sM fun _=> ?_|(refine sC ?_ ?_<;>intro hb<;>try omega)|(refine sCQ ?_ ?_<;>intro hb<;>try omega)|fail)
        all_goals first
          |(exfalso;omega)
          | (refine ⟨(i + 1, O ++ [e], true, some g8, c8), ⟨hlt, (hnx.trans hst), (by (try simp only [List.length_append, List.length_singleton]); omega)⟩, (by dsimp only; omega), (by (try simp only [List.length_append, List.length_singleton]); exact sB), sB, ?_⟩
             simp only [QT,QX,Rn,Rm,Ry,QZ,Rj,QU,QW,hxe]
             exact mS)
      · obtain rfl:c2=false:=by cases c2 with|false=>rfl|true=>exact absurd (hc2'.1 rfl) hne
        have hst:eJ a x (O,true) e=(O,true):=by
          have:=Classical.not_not.1 hne
          simp [eJ,this]
        repeat' (first|(apply aK;exact rfl;apply aj (j:=i);exact rfl;exact rfl;exact hlt)|(apply ak;exact rfl;apply aj (j:=i);exact rfl;exact rfl;exact hlt)|(apply aK;exact rfl;apply aW (ys:=aS e.at_);exact rfl;exact pK;exact hc;exact rfl)|(apply ak;exact rfl;apply aW (ys:=kB e);exact rfl;exact pK;exact ha;exact rfl)|(apply aK;exact rfl;apply dQ;exact hc2;exact rfl;exact rfl)|(apply cB;exact rfl;exact rfl;(intro w hm;exact hL w))|(apply aU;(iterate 3 exact rfl);exact pK;exact pK;exact rfl;(simp [kB,En.tv,En.uv,sl,Value.oneCell']);omega;(simp only [maxLen];omega);intro g8 c8)|refine sT ?_|refine sS ?_|refine sQ ?_|refine sN ?_|refine sNQ ?_|refine sD ?_|refine sM fun _=> ?_|(refine sC ?_ ?_<;>intro hb<;>try omega)|(refine sCQ ?_ ?_<;>intro hb<;>try omega)|fail)
        all_goals first
          |(exfalso;omega)
          | (refine ⟨(i + 1, O, true, A3, c3), ⟨hlt, (hnx.trans hst), (by (try simp only [List.length_append, List.length_singleton]); omega)⟩, (by dsimp only; omega), (by (try simp only [List.length_append, List.length_singleton]); exact sB), sB, ?_⟩
             simp only [QT,QX,Rn,Rm,Ry,QZ,Rj,QU,QW,hxe]
             exact mS)
  · have e2:i=L.length:=by omega
    subst e2
    rw [RJ] at hf
    have hset:xV a x d0 L=Ga x (O,d):=by unfold xV;rw [hf]
    rw [hset] at hRx
    cases d
    · repeat' (first|(apply aU;(iterate 3 exact rfl);exact pK;exact pK;exact rfl;(simp [kB,En.tv,En.uv,sl,Value.oneCell']);omega;(simp only [maxLen];omega);intro g8 c8)|refine sT ?_|refine sS ?_|refine sN ?_|refine sM fun _=> ?_|(refine sC ?_ ?_<;>intro hb<;>try omega)|fail)
      all_goals first
        |(exfalso;omega)
        | (refine cA eIO rfl rfl (H' := rgB g (some g8) c8 (O ++ [x]) ++ ((.own A0 293 11 t.length cap0 (t.flatMap bN) :: .own A2 159 6 us.length cap2 (us.flatMap dI) :: R) ++ F)) ?_ ⟨by rw [hfin2], some g8, c8, O ++ [x], _, rfl, mS, hRx⟩
           simp only [rgB,QT,QX,Rn,Rm,Ry,QZ,Rj,QU,QW,hxe]
           exact mS)
    · repeat' (first|refine sT ?_|refine sS ?_|refine sN ?_|refine sM fun _=> ?_|(refine sC ?_ ?_<;>intro hb<;>try omega)|fail)
      all_goals first
        |(exfalso;omega)
        | (refine cA eIO rfl rfl (H' := rgB g A3 c3 O ++ ((.own A0 293 11 t.length cap0 (t.flatMap bN) :: .own A2 159 6 us.length cap2 (us.flatMap dI) :: R) ++ F)) ?_ ⟨by rw [hfin2], A3, c3, O, _, rfl, mS, hRx⟩
           simp only [rgB,Rj,QU,QW]
           exact mS)
theorem NA (g:Nat) (A:Option Nat) (cap:Nat) (L:List En) (G:Gr) (a:Rf) (b:ByteArray) (R:List Blk) (w0:World) (hR:RGOk R L G) (hs:SortG G) (hlen:L.length≤1000):
  FnIn Tryz.prog 159 [.pointer (some ⟨g,0,none⟩),mY a,.string b] w0 (rgB g A cap L++R) fun v H=>v= .int .i64 (jp G a b).2∧ ∃ A' cap' L' R',H=rgB g A' cap' L' ++R' ∧MSub R R' ∧RGOk R' L' (jp G a b).1:=by
 have h:=Ld g A cap L G a b R [] w0 hR hs hlen
 simp only [QZ] at h
 exact h
def QJ (r:Option Gr × Int) (v:Value) (H:List Blk):Prop:=match r with
 |(none,e)=>v= .tuple #[.pointer none,.int .i64 e]∧H= []
 |(some G,_)=> ∃ g A cap L R,v= .tuple #[.pointer (some ⟨g,0,none⟩),.int .i64 0]∧H=rgB g A cap L++R∧RGOk R L G
def rL (G:Gr) (L:List Et):Gr:=L.foldl (fun G e=>(jp G e.at_ e.input).1) G
theorem FZ {b:Option Rf} {e:Et} (h:jS b e=0):e.at_.valid=true∧(ofP e.input).2.2=0:=by
 have hg: ∀ (c1 c2 c3:Prop) [Decidable c1] [Decidable c2] [Decidable c3] (z:Int),(if c1 then (3:Int) else if c2 then 12 else if c3 then 2 else z)=0→ ¬ c1∧z=0:=by
  intro c1 c2 c3 _ _ _ z hz
  by_cases h1:c1
  ·
   rw [if_pos h1] at hz;cases hz
  ·
   rw [if_neg h1] at hz
   by_cases h2:c2
   ·
    rw [if_pos h2] at hz;cases hz
   ·
    rw [if_neg h2] at hz
    by_cases h3:c3
    ·
     rw [if_pos h3] at hz;cases hz
    ·
     rw [if_neg h3] at hz;exact ⟨h1,hz⟩
 obtain ⟨h1,h2⟩:=hg _ _ _ _ h
 exact ⟨by simpa using h1,h2⟩
theorem rW: ∀ (L:List Et) (i:Nat) (b:Option Rf),(fk i b L).2=0→ ∀ e∈L,e.at_.valid=true∧(ofP e.input).2.2=0
 | [],_,_,_,e,he=>by cases he
 |x::r,i,b,h,e,he=>by
  rw [fk] at h
  split at h
  ·
   rename_i hf
   exact absurd h hf
  ·
   rename_i hf
   rcases Rs.1 he with rfl|he
   ·
    exact FZ (Classical.not_not.1 hf)
   ·
    exact rW r _ _ h e he
theorem HC: ∀ (L:List Et) (G:Gr),(∀ e∈L,e.at_.valid=true∧(ofP e.input).2.2=0)→C9 G L=(some (rL G L),0)
 | [],G,_=>rfl
 |e::r,G,h=>by
  have he:(jp G e.at_ e.input).2=0:=by
   obtain ⟨h1,h2⟩:=h e QY
   unfold jp
   rw [if_neg (by rw [h1];simp),if_neg (by rw [h2];simp)]
   split<;>rfl
  rw [C9,if_neg (by rw [he];simp),HC r _ fun f hf=>h f (Rq _ hf)]
  rfl
theorem AC (L:List Et):uI L=if (dM L).2≠0 then (none,(dM L).2) else (some (rL [] L),0):=by
 unfold uI
 split
 ·
  rfl
 ·
  rename_i h
  exact HC L [] (rW L 0 none (Classical.not_not.1 h))
theorem Dv: ∀ (L:List Et) {G:Gr},GrOk G→GrOk (rL G L)
 | [],_,h=>h
 |e::r,_,h=>Dv r (h.set e.at_ e.input)
theorem zb: ∀ (L:List Et) (G:Gr),(rL G L).length≤G.length+L.length
 | [],G=>Re _
 |e::r,G=>by
  have h1:=zb r (jp G e.at_ e.input).1
  have h2:=Ck G e.at_ e.input
  simp only [Rx]
  exact RB h1 (by omega)
set_option maxHeartbeats 2000000 in
theorem NB (L:List Et) (tv:Value) (w:World) (ht:Reads w tv L.length (L.flatMap cF)) (hlen:L.length≤900):
  aF Tryz.prog 127 [tv] w (QJ (uI L)):=by
 have hC:=fun (w' :World) (H:List Blk) (hm:Mem w w' H)=>pL L tv w' (ht.of_w0 hm) (by omega)
 obtain ⟨Al,cl,rfl,hl1,hl2,hl3⟩:=ht
 refine aq Tryz.func127 rfl Tryz.ntmps127 rfl ?_
 rw [AC]
 generalize dM L=c at hC
 obtain ⟨ci,ce⟩:=c
 dsimp only at hC ⊢
 by_cases hce:ce≠0
 ·
  rw [if_pos hce]
  repeat' (first|(apply aa (f:=63);exact rfl;exact rfl;(intro w' hm;exact hC w' _ hm))|refine sT ?_|refine sS ?_|refine sM fun _=> ?_|(refine sC ?_ ?_<;>intro hb<;>try omega)|fail)
  all_goals first
   |(exfalso;omega)
   |exact dS eIO rfl rfl rfl (.nil _) ⟨rfl,rfl⟩
 rw [if_neg hce]
 have hce0:ce=0:=Classical.not_not.1 hce
 subst hce0
 refine aB 169 4 ?_
 repeat' (first|(apply aa (f:=63);exact rfl;exact rfl;(intro w' hm;exact hC w' _ hm))|refine sT ?_|refine sS ?_|refine sM fun _=> ?_|(refine sC ?_ ?_<;>intro hb<;>try omega)|fail)
 all_goals try (exfalso;omega)
 rename_i g
 refine aw [0,6] rfl (fun x:Nat × Option Nat × Nat × List En × Gr × List Blk=> [(7,.int .i64 (x.1:Int))]) (fun x=>rgB g x.2.1 x.2.2.1 x.2.2.2.1++x.2.2.2.2.2) (fun x=>x.1≤L.length∧GrOk x.2.2.2.2.1∧x.2.2.2.2.1.length≤x.1∧RGOk x.2.2.2.2.2 x.2.2.2.1 x.2.2.2.2.1∧rL [] L=rL x.2.2.2.2.1 (L.drop x.1)) (fun x=>L.length - x.1) (0,none,0,[],[],[]) ⟨by simp,Dp,Re _,⟨(fun _ h=>by cases h),rfl⟩,rfl⟩ sB (by unfold rgB;exact mS) ?_
 rintro ⟨i,A,cap,Q,G,R⟩ ⟨hi,hG,hGl,hR,hnew⟩
 dsimp only at hi hG hGl hR hnew ⊢
 by_cases hlt:i<L.length
 ·
  obtain ⟨gl,ol,rfl,hrl⟩:=hl3 (by omega)
  have he:=hrl.elem di i hlt
  rw [Rc hlt] at hnew
  generalize L[i]=e at he hnew
  have hS:=NA g A cap Q G e.at_ e.input R w hR hG.sort (by rw [hR.len];omega)
  have hG' :=hG.set e.at_ e.input
  have hGl' :=Ck G e.at_ e.input
  rw [show rL G (e::L.drop (i+1))=rL (jp G e.at_ e.input).1 (L.drop (i+1)) from rfl] at hnew
  generalize jp G e.at_ e.input=sg at hS hnew hG' hGl'
  obtain ⟨G',se⟩:=sg
  dsimp only at hS hnew hG' hGl'
  repeat' (first|refine sT ?_|refine sS ?_|refine sN ?_|refine sM fun _=> ?_|(refine sC ?_ ?_<;>intro hb<;>try omega)|fail)
  all_goals try (exfalso;omega)
  refine ia (id:=8) [11] [] [] (by kernel_rfl) (by kernel_rfl) (by kernel_rfl) (MSub.nil _) ?_
  repeat' (first|(apply dm (d:=27);(iterate 3 exact rfl);apply aj (j:=i);exact rfl;exact rfl;exact hlt)|(apply dm (d:=32);(iterate 3 exact rfl);apply aj (j:=i);exact rfl;exact rfl;exact hlt)|(apply dm (d:=29);(iterate 3 exact rfl);apply dq (off:=0) (ys:=aS e.at_) he;(iterate 3 exact rfl))|(apply dm (d:=34);(iterate 3 exact rfl);apply dE (off:=2);exact rfl;exact he;exact rfl)|(apply ax (f:=159);exact rfl;exact rfl;exact FnIn.msub hS (MSub.refl _);rintro _ _ ⟨rfl,A',cap',Q',R',rfl,hsub,hR'⟩)|refine sT ?_|refine sS ?_|refine sW ?_|refine sN ?_|refine sWN ?_|refine sM fun _=> ?_|(refine sC ?_ ?_<;>intro hb<;>try omega)|(refine sCW ?_ ?_<;>intro hb<;>try omega)|fail)
  all_goals first
   |(exfalso;omega)
   |(refine ⟨(i+1,A',cap',Q',G',R'),⟨hlt,hG',(by dsimp only;omega),hR',hnew⟩,(by dsimp only;omega),sB,sB,MSub.refl _⟩)
 ·
  have e2:i=L.length:=by omega
  subst e2
  rw [RK,show rL G []=G from rfl] at hnew
  rw [hnew]
  repeat' (first|refine sT ?_|refine sS ?_|refine sN ?_|refine sM fun _=> ?_|(refine sC ?_ ?_<;>intro hb<;>try omega)|fail)
  all_goals first
   |(exfalso;omega)
   |exact dS eIO rfl rfl rfl (MSub.refl _) ⟨g,A,cap,Q,R,rfl,rfl,hR⟩
end Go.SL
namespace Go.SL
open Go Go.Proofs
attribute [local irreducible] W WL WQ WG WA WX WLI WR WT WC WE VOp RW thn blk bp scp aR ba bE aF FnIn FnP ceP
theorem Mu (n:Nat) (h:n≤64) (i:Nat):(Be n).getLsbD i=decide (i<n):=by
 have h1: ∀ n:Fin 65,∀ i:Fin 64,(Be n.val).getLsbD i.val=decide (i.val<n.val):=by decide+kernel
 by_cases hi:i<64
 ·
  exact h1 ⟨n,by omega⟩ ⟨i,hi⟩
 ·
  rw [BitVec.getLsbD_of_ge _ _ (by omega),decide_eq_false (by omega)]
theorem wW {u b:Int} (h: ¬ (u<0∨64<u∨u=0)):jz (eB u).1 b=(decide (0≤b) && decide (b<u)):=by
 unfold eB jz
 rw [if_neg (by omega)]
 rw [Mu _ (by omega),RQ]
 simp only [Rk,decide_eq_true_eq]
 omega
set_option maxHeartbeats 8000000 in
theorem lj (u:Int) (L:List Gn) (lv:Value) (w:World) (hl:Reads w lv L.length (L.flatMap bX)):aA Tryz.prog 64 [.int .i64 u,lv] w (.tuple #[.int .i64 (i9 u L).1,.int .i64 (i9 u L).2]):=by
 obtain ⟨Al,cl,rfl,hl1,hl2,hl3⟩:=hl
 refine aq Tryz.func64 rfl Tryz.ntmps64 rfl ?_
 unfold i9
 by_cases h1:u<0∨64<u∨u=0
 ·
  rw [if_pos h1]
  repeat' (first|refine sT ?_|refine sM fun _=> ?_|(refine sC ?_ ?_<;>intro hb<;>try omega)|fail)
  all_goals first|(exfalso;omega)|((refine rT2 ?_);rfl)
 rw [if_neg h1]
 by_cases h64:64<L.length
 ·
  rw [if_pos h64]
  repeat' (first|refine sT ?_|refine sM fun _=> ?_|(refine sC ?_ ?_<;>intro hb<;>try omega)|fail)
  all_goals first|(exfalso;omega)|((refine rT2 ?_);rfl)
 rw [if_neg h64]
 obtain ⟨ac,hac⟩: ∃ ac,gK u L 0=ac:=⟨_,rfl⟩
 rw [hac]
 repeat' (first|refine sT ?_|refine sS ?_|refine sM fun _=> ?_|(refine sC ?_ ?_<;>intro hb<;>try omega)|fail)
 all_goals try (exfalso;omega)
 refine aw [0,1] rfl (fun i:Nat=> [(6,.int .i64 (i:Int))]) (fun _=> []) (fun i=>i≤L.length∧ac=gK u (L.drop i) (i:Int)) (fun i=>L.length - i) 0 ⟨by omega,hac.symm⟩ sB mS ?_
 rintro i ⟨hi,hrec⟩
 by_cases hlt:i<L.length
 ·
  obtain ⟨gl,ol,rfl,hrl⟩:=hl3 (by omega)
  have he1:=hrl.elem eO i hlt
  rw [Rc hlt,gK,FV,wW h1] at hrec
  generalize L[i]=r at he1 hrec
  have hR:=fun w=>gU r.rect w
  have hW:=fun w=>jK r.to u w
  generalize aO r.rect=ro at hR hrec
  generalize (eB u).1=sa at hW hrec
  obtain ⟨wi,hwi⟩: ∃ wi,decide (r.to &&& ~~~sa=0#64)=wi:=⟨_,rfl⟩
  rw [hwi] at hW hrec
  cases ro with
  |false=>
   rw [if_pos rfl] at hrec
   repeat' (first|(apply ak;exact rfl;apply aj (j:=i);exact rfl;exact rfl;omega)|(apply aa;exact rfl;exact rfl;(intro w hm;exact hR w))|refine sT ?_|refine sS ?_|refine sO ?_|refine sM fun _=> ?_|(refine sC ?_ ?_<;>intro hb<;>try omega)|fail)
   all_goals first|(exfalso;omega)|((refine rT2 ?_);rw [hrec];done)
  |true=>
   rw [if_neg (by decide)] at hrec
   by_cases hg:1≤r.fns∧r.fns≤31∧wi=true∧0≤r.by_∧r.by_<u
   ·
    obtain ⟨g1,g2,rfl,g4,g5⟩:=hg
    rw [decide_eq_true g1,decide_eq_true g2,decide_eq_true g4,decide_eq_true g5] at hrec
    rw [if_neg (by decide)] at hrec
    repeat' (first|(apply ak;exact rfl;apply aj (j:=i);exact rfl;exact rfl;omega)|(apply aa;exact rfl;exact rfl;(intro w hm;exact hR w))|(apply aa;exact rfl;exact rfl;(intro w hm;exact hW w))|refine sT ?_|refine sS ?_|refine sN ?_|refine sO ?_|refine sM fun _=> ?_|(refine sC ?_ ?_<;>intro hb<;>try omega)|fail)
    all_goals first
     |(exfalso;omega)
     |(refine ⟨i+1,⟨hlt,by rw [hrec];rfl⟩,by omega,by exact sB,by exact sB,by exact mS⟩;done)
   ·
    rw [if_pos (by rw [← T9,Rk,Rk,Rk,Rk,decide_eq_true_eq,decide_eq_true_eq,decide_eq_true_eq,decide_eq_true_eq];rintro ⟨⟨⟨a1,a2⟩,a3⟩,a4,a5⟩;exact hg ⟨a1,a2,a3,a4,a5⟩)] at hrec
    cases wi
    all_goals
     repeat' (first|(apply ak;exact rfl;apply aj (j:=i);exact rfl;exact rfl;omega)|(apply aa;exact rfl;exact rfl;(intro w hm;exact hR w))|(apply aa;exact rfl;exact rfl;(intro w hm;exact hW w))|refine sT ?_|refine sS ?_|refine sN ?_|refine sO ?_|refine sM fun _=> ?_|(refine sC ?_ ?_<;>intro hb<;>try omega)|fail)
    all_goals first
     |(exfalso;omega)
     |(exfalso;exact hg ⟨by omega,by omega,rfl,by omega,by omega⟩)
     |((refine rT2 ?_);rw [hrec];done)
 ·
  have e:i=L.length:=by omega
  subst e
  rw [RK,gK] at hrec
  rw [hrec]
  repeat' (first|refine sT ?_|refine sS ?_|refine sM fun _=> ?_|(refine sC ?_ ?_<;>intro hb<;>try omega)|fail)
  all_goals first|(exfalso;omega)|((refine rT2 ?_);rfl)
theorem LA (L:List Et):(∃ e,e≠0∧uI L=(none,e))∨ ∃ G,uI L=(some G,0)∧GrOk G∧G.length≤L.length:=by
 rw [AC]
 split
 ·
  rename_i h;exact .inl ⟨_,h,rfl⟩
 ·
  refine .inr ⟨_,rfl,Dv L Dp,?_⟩
  have:=zb L []
  rw [SP] at this
  omega
end Go.SL
