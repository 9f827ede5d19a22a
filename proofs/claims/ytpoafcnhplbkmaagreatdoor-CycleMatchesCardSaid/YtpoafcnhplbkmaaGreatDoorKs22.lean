/-
  Lemmas and walks, put together: R11 R12 Q7 Q9 Q12 G1 Q14 Rt Zd.
-/
import Derived.Test.YtpoafcnhplbkmaaGreatDoorKs19
import Derived.Test.YtpoafcnhplbkmaaGreatDoorKs20
import Derived.Test.YtpoafcnhplbkmaaGreatDoorKs21
set_option linter.unusedSimpArgs false
set_option linter.unusedVariables false
set_option maxRecDepth 20000
set_option maxHeartbeats 16000000
namespace Go.SL
open Go Go.Proofs
attribute [local irreducible] W WL WQ WG WA WX WLI WR WT WC VOp RW thn blk bH scp aV bz bP FnAt FnIn FnP ceP
def FJ (z:Nat) (k:Nat):List (List Int × Int):=((List.range' k (14 - k)).map fun (j:Nat)=>(ap (opB (j:Int)),(j:Int))).filter fun x=>decide (x.1.length=z)
def Nt:Nat→List (List Int × Int)
 |0=> []
 |z+1=>FJ (z+1) 1++Nt z
theorem K6:Nt 2=fK:=by decide+kernel
theorem I3 {z k:Nat} (h:k≤13):FJ z k=if (opB (k:Int)).size=z then (ap (opB (k:Int)),(k:Int))::FJ z (k+1) else FJ z (k+1):=by
 unfold FJ;rw [show 14 - k=(13 - k)+1 by omega,List.range'_succ,RP,Tq,show 14 - (k+1)=13 - k by omega];simp only [av,decide_eq_true_eq]
theorem K5 (z:Nat):FJ z 14= []:=rfl
theorem Nu {l:List Int} {s:List Int} {k:Int} {r:List (List Int × Int)} (h:l.take s.length=s):opL l ((s,k)::r)=some (k,s.length):=by
 rw [opL,if_pos h]
theorem Pn (k:Nat) (h:k≤13): ∀ c∈ap (opB (k:Int)),¬ (65≤c∧c≤90)∧ ¬ (97≤c∧c≤122):=by
 rcases (by omega:k=0∨k=1∨k=2∨k=3∨k=4∨k=5∨k=6∨k=7∨k=8∨k=9∨k=10∨k=11∨k=12∨k=13) with rfl|rfl|rfl|rfl|rfl|rfl|rfl|rfl|rfl|rfl|rfl|rfl|rfl|rfl<;>decide+kernel
theorem GU {s:List Int} (hs: ∀ c∈s,¬ (65≤c∧c≤90)∧ ¬ (97≤c∧c≤122)): ∀ l:List Int,l.map upC=s↔l=s:=by
 induction s with
 |nil=>intro l;simp
 |cons d s ih=>
  intro l
  cases l with
  |nil=>simp
  |cons c l=>
   simp only [RP,List.cons.injEq,ih (fun c hc=>hs c (Rh _ hc)) l];have hd:=hs d QY;have:upC c=d↔c=d:=by
    unfold upC;split<;>omega
   rw [this]
theorem zG {k:Nat} (h:k<5):ap (cJ.getD (k+1) ax)=eH.getD k []∧eH.drop k=eH.getD k []::eH.drop (k+1)∧(cJ.getD (k+1) ax).size≤10:=by
 rcases (by omega:k=0∨k=1∨k=2∨k=3∨k=4) with rfl|rfl|rfl|rfl|rfl<;>decide+kernel
theorem Fj (a:ByteArray) (ha:a.size≤256) (i:Nat) (hi:i<a.size) (w:World):FnAt Tryz.prog 287 [.string a,.int .i64 (i:Int)] w fun v H=>H= []∧TokR i (jQ ((ap a).drop i)) v:=by
 refine ay Tryz.func287 rfl Tryz.ntmps287 rfl ?_;have hl:=av a;have hh:((ap a).drop i).headD 0=bat a i:=oH;have hB:=fun s hs w=>z7 a ha i (by omega) s hs w;obtain ⟨l,hll⟩: ∃ l,(ap a).drop i=l:=⟨_,rfl⟩;rw [hll] at hh hB ⊢;obtain ⟨F,hF⟩: ∃ F,kV l eH 1=F:=⟨_,rfl⟩;repeat' (first|refine zZF ?_|refine sM fun _=>?_|(refine sC ?_ ?_<;>intro hb<;>try omega)|fail)
 rename_i g4;refine aw [0,1,4] rfl (fun k:Nat=> [(7,.int .i64 ((k+1:Nat):Int))]) (fun _=> [.box g4 228 (bh dA)]) (fun k=>k≤5∧F=kV l (eH.drop k) ((k+1:Nat):Int)) (fun k=>5 - k) 0 ⟨by omega,hF.symm⟩ sB mS ?_;rintro k ⟨hk,hFk⟩;by_cases hk5:k<5
 ·obtain ⟨hn1,hn2,hn3⟩:=zG hk5;have hS:=fun w=>Fk ((k+1:Nat):Int) (by omega) (by omega) w;rw [Ud] at hS;obtain ⟨s,hs⟩: ∃ s,cJ.getD (k+1) ax=s:=⟨_,rfl⟩;rw [hs] at hS hn1 hn3;have hBs:=hB s (by omega);rw [hn2,kV,← hn1,av] at hFk;by_cases hb:(l.take s.size).map upC=ap s
  ·rw [if_pos hb] at hFk;rw [decide_eq_true hb] at hBs;repeat' (first|(apply aa (f:=302);exact rfl;exact rfl;(intro w' hm;exact hS w'))|(apply aa (f:=303);exact rfl;exact rfl;(intro w' hm;exact hBs w'))|refine zZC ?_|refine sM fun _=>?_|(refine sC ?_ ?_<;>intro hb<;>try omega)|fail)
   all_goals
    first
    |(exfalso;omega)
    |((refine cQ ?_);refine ⟨rfl,?_⟩;rw [jQ,lI,hF,hFk];rfl)
  ·rw [if_neg hb] at hFk;rw [decide_eq_false hb] at hBs;repeat' (first|(apply aa (f:=302);exact rfl;exact rfl;(intro w' hm;exact hS w'))|(apply aa (f:=303);exact rfl;exact rfl;(intro w' hm;exact hBs w'))|refine zZC ?_|refine sM fun _=>?_|(refine sC ?_ ?_<;>intro hb<;>try omega)|fail)
   all_goals
    first
    |(exfalso;omega)
    |exact ⟨k+1,⟨by omega,hFk⟩,by omega,sB,sB,.refl _⟩
 have ek:k=5:=by omega
 subst ek;have hsr:jQ l=i9 l:=by
  rw [jQ,lI,hF,hFk];rfl
 rw [hsr];clear hF hFk hsr hk hk5;obtain ⟨O,hO⟩: ∃ O,opL l fK=O:=⟨_,rfl⟩;repeat' (first|refine zZF ?_|refine sM fun _=>?_|(refine sC ?_ ?_<;>intro hb<;>try omega)|fail)
 refine aw [0,1,4] rfl (fun z:Nat=> [(9,.int .i64 (z:Int))]) (fun _=> [.box g4 228 (bh dA)]) (fun z=>z≤2∧O=opL l (Nt z)) (fun z=>z) 2 ⟨by omega,by rw [K6,hO]⟩ sB mS ?_;rintro z ⟨hz,hOz⟩
 cases z with
 |zero=>
   have hOn:O=none:=hOz;subst hOn;have hsp:i9 l=if bat a i=40 then some (⟨9,0,ax,aS,0⟩,1) else if bat a i=41 then some (⟨10,0,ax,aS,0⟩,1) else if bat a i=44 then some (⟨11,0,ax,aS,0⟩,1) else none:=by
    unfold i9;rw [hO,hh]
   rw [hsp];repeat' (first|(apply ai (d:=58);exact rfl;apply aX (j:=i);exact rfl;exact rfl;omega)|refine zZC ?_|refine sM fun _=>?_|(refine sC ?_ ?_<;>intro hb<;>try omega)|fail)
   all_goals
    first
    |(exfalso;omega)
    | ((refine cQ ?_)
       refine ⟨rfl,?_⟩;repeat (first|rw [if_pos (by assumption)]|rw [if_neg (by assumption)])
       first|exact rfl|exact ⟨dA,_,rfl⟩)
 |succ z=>
   repeat' (first|refine zZF ?_|refine sM fun _=>?_|(refine sC ?_ ?_<;>intro hb<;>try omega)|fail)
   all_goals try (exfalso;omega)
   refine aw [0,1,4,9] rfl (fun k:Nat=> [(10,.int .i64 (k:Int))]) (fun _=> [.box g4 228 (bh dA)]) (fun k=>1≤k∧k≤14∧O=opL l (FJ (z+1) k++Nt z)) (fun k=>14 - k) 1 ⟨by omega,by omega,hOz⟩ sB mS ?_;rintro k ⟨hk1,hk2,hOk⟩;by_cases hk14:k=14
   ·subst hk14;rw [K5,QW] at hOk;repeat' (first|refine zZC ?_|refine sM fun _=>?_|(refine sC ?_ ?_<;>intro hb<;>try omega)|fail)
    all_goals
     first
     |(exfalso;omega)
     |exact ⟨z,⟨by omega,hOk⟩,by omega,sB,sB,.refl _⟩
   rw [I3 (by omega)] at hOk;obtain ⟨s,hs⟩: ∃ s,opB (k:Int)=s:=⟨_,rfl⟩;have hu:=Pn k (by omega);have hP:=fun w=>vZ (k:Int) w;rw [hs] at hOk hu hP;by_cases hsz:s.size=z+1
   ·rw [if_pos hsz] at hOk;have hBs:=hB s (by omega);by_cases hb:(l.take s.size).map upC=ap s
    ·have hb2:=(GU hu _).1 hb;rw [← av] at hb2;rw [QV,Nu hb2,av,hsz] at hOk;rw [decide_eq_true hb] at hBs;have hsp:i9 l=some (⟨8,k,ax,aS,0⟩,z+1):=by
      unfold i9;rw [hO,hOk]
     rw [hsp];repeat' (first|(apply aa (f:=304);exact rfl;exact rfl;(intro w' hm;exact hP w'))|(apply aa (f:=303);exact rfl;exact rfl;(intro w' hm;exact hBs w'))|refine zZC ?_|refine sM fun _=>?_|(refine sC ?_ ?_<;>intro hb<;>try omega)|fail)
     all_goals
      first
      |(exfalso;omega)
      |((refine cQ ?_);exact ⟨rfl,rfl⟩)
    ·have hb2: ¬ l.take s.size=ap s:=fun h=>hb ((GU hu _).2 h);rw [← av] at hb2;rw [QV,opL,if_neg hb2] at hOk;rw [decide_eq_false hb] at hBs;repeat' (first|(apply aa (f:=304);exact rfl;exact rfl;(intro w' hm;exact hP w'))|(apply aa (f:=303);exact rfl;exact rfl;(intro w' hm;exact hBs w'))|refine zZC ?_|refine sM fun _=>?_|(refine sC ?_ ?_<;>intro hb<;>try omega)|fail)
     all_goals
      first
      |(exfalso;omega)
      |exact ⟨k+1,⟨by omega,by omega,hOk⟩,by omega,sB,sB,.refl _⟩
   ·rw [if_neg hsz] at hOk;repeat' (first|(apply aa (f:=304);exact rfl;exact rfl;(intro w' hm;exact hP w'))|refine zZC ?_|refine sM fun _=>?_|(refine sC ?_ ?_<;>intro hb<;>try omega)|fail)
    all_goals
     first
     |(exfalso;omega)
     |exact ⟨k+1,⟨by omega,by omega,hOk⟩,by omega,sB,sB,.refl _⟩
theorem TokR.form {i:Nat} {o:Option (Tk × Nat)} {v:Value} (h:TokR i o v): ∃ (t:Tk) (n:Int) (b:Bool),v= .tuple #[.agg (bh t).toArray,.int .i64 n,.bool b]:=by
 cases o with
 |none=>
  obtain ⟨t,e,rfl⟩:=h;exact ⟨t,e,false,rfl⟩
 |some x=>
  obtain ⟨t,n⟩:=x;exact ⟨_,_,_,h⟩
theorem CE (a:ByteArray) (ha:a.size≤256) (i:Nat) (hi:i<a.size) (w:World):FnAt Tryz.prog 259 [.string a,.int .i64 (i:Int)] w fun v H=>H= []∧TokR i (bC ((ap a).drop i)) v:=by
 refine ay Tryz.func259 rfl Tryz.ntmps259 rfl ?_;have hl:=av a;have hD:=fun w=>oh a (by omega) i w;have hL:=fun w=>nj a (by omega) i w;have hN:=fun h w=>z2 a ha i hi h w;have hT:=fun w=>Fh a ha i hi w;have hWd:=fun h w=>Ff a ha i hi h w;have hS:=fun w=>Fj a ha i hi w;unfold bC;rw [oH,show ((ap a).drop i).tail=(ap a).drop (i+1) by rw [Uh]];by_cases h1:aH (bat a i)=true
 ·rw [if_pos h1];rw [h1] at hD;replace hN:=hN h1;repeat' (first|(apply aa (f:=282);exact rfl;exact rfl;(intro w' hm;exact hD w'))|(apply aK (f:=283);exact rfl;exact rfl;(intro w' hm;exact hN w');(rintro _ _ ⟨rfl,h⟩;obtain ⟨t,n,b,rfl⟩:=h.form))|refine zZC ?_|refine sM fun _=>?_|(refine sC ?_ ?_<;>intro hb<;>try omega)|fail)
  all_goals ((refine cQ ?_);exact ⟨rfl,by assumption⟩)
 rw [if_neg h1];replace h1:aH (bat a i)=false:=by simpa using h1
 rw [h1] at hD;by_cases h2:bat a i=34
 ·rw [if_pos h2];repeat' (first|(apply aa (f:=282);exact rfl;exact rfl;(intro w' hm;exact hD w'))|(apply aK (f:=284);exact rfl;exact rfl;(intro w' hm;exact hT w');(rintro _ _ ⟨rfl,h⟩;obtain ⟨t,n,b,rfl⟩:=h.form))|(apply ai (d:=20);exact rfl;apply aX (j:=i);exact rfl;exact rfl;omega)|refine zZC ?_|refine sM fun _=>?_|(refine sC ?_ ?_<;>intro hb<;>try omega)|fail)
  all_goals
   first
   |(exact absurd h2 (by assumption))
   |((refine cQ ?_);exact ⟨rfl,by assumption⟩)
 rw [if_neg h2];by_cases h3:bT (bat a i)=true
 ·rw [if_pos h3];rw [h3] at hL;replace hWd:=hWd h3;repeat' (first|(apply aa (f:=282);exact rfl;exact rfl;(intro w' hm;exact hD w'))|(apply aa (f:=285);exact rfl;exact rfl;(intro w' hm;exact hL w'))|(apply aK (f:=286);exact rfl;exact rfl;(intro w' hm;exact hWd w');(rintro _ _ ⟨rfl,h⟩;obtain ⟨t,n,b,rfl⟩:=h.form))|(apply ai (d:=20);exact rfl;apply aX (j:=i);exact rfl;exact rfl;omega)|refine zZC ?_|refine sM fun _=>?_|(refine sC ?_ ?_<;>intro hb<;>try omega)|fail)
  all_goals
   first
   |(exact absurd (by assumption) h2)
   |((refine cQ ?_);exact ⟨rfl,by assumption⟩)
 rw [if_neg h3];replace h3:bT (bat a i)=false:=by simpa using h3
 rw [h3] at hL;repeat' (first|(apply aa (f:=282);exact rfl;exact rfl;(intro w' hm;exact hD w'))|(apply aa (f:=285);exact rfl;exact rfl;(intro w' hm;exact hL w'))|(apply aK (f:=287);exact rfl;exact rfl;(intro w' hm;exact hS w');(rintro _ _ ⟨rfl,h⟩;obtain ⟨t,n,b,rfl⟩:=h.form))|(apply ai (d:=20);exact rfl;apply aX (j:=i);exact rfl;exact rfl;omega)|refine zZC ?_|refine sM fun _=>?_|(refine sC ?_ ?_<;>intro hb<;>try omega)|fail)
 all_goals
  first
  |(exact absurd (by assumption) h2)
  |((refine cQ ?_);exact ⟨rfl,by assumption⟩)
theorem z1 (a:ByteArray) (w:World):
 FnAt Tryz.prog 204 [.string a] w fun v H=> ∃ A cap,v=GY A cap (bq bC (ap a))∧H= [.own A 228 8 (bq bC (ap a)).1.length cap ((bq bC (ap a)).1.flatMap bh)]:=by
 refine ay Tryz.func204 rfl Tryz.ntmps204 rfl ?_;have hl:=av a;unfold bq;refine aI 228 8 ?_;by_cases hlen:256<(ap a).length
 ·rw [if_pos hlen];repeat' (first|refine zZF ?_|refine sM fun _=>?_|(refine sC ?_ ?_<;>intro hb<;>try omega)|fail)
  all_goals try (exfalso;omega)
  exact qa (.inl rfl) rfl rfl rfl rfl (.refl _) ⟨none,0,rfl,rfl⟩
 rw [if_neg hlen];repeat' (first|refine zZF ?_|refine sM fun _=>?_|(refine sC ?_ ?_<;>intro hb<;>try omega)|fail)
 all_goals try (exfalso;omega)
 refine aw [0] rfl (fun i:Nat=> [(5,.int .i64 (i:Int))]) (fun _=> [.own none 228 8 0 0 []]) (fun i=>i≤a.size∧ ∀ j,j<i→bG (bat a j)=true) (fun i=>a.size - i) 0 ⟨by omega,fun j h=>by omega⟩ sB mS ?_;rintro i ⟨hi,hpl⟩;by_cases hlt:i<a.size
 ·repeat' (first|(apply ai (d:=22);exact rfl;apply aX (j:=i);exact rfl;exact rfl;omega)|(apply ai (d:=27);exact rfl;apply aX (j:=i);exact rfl;exact rfl;omega)|refine zZC ?_|refine sM fun _=>?_|(refine sC ?_ ?_<;>intro hb<;>try omega)|fail)
  all_goals first
   |(exfalso;omega)
   | (have hf : (ap a).findIdx? (fun c => !bG c) = some i := by
       refine oK hlt ?_ fun j hj=>by rw [hpl j hj];rfl
       simp only [bG,UT,Tc,decide_eq_false_iff_not];omega
      rw [hf];exact qa (.inl rfl) rfl rfl rfl rfl (.refl _) ⟨none,0,rfl,rfl⟩)
   | (refine ⟨i + 1, ?_, (by first | omega | (dsimp only; omega)), sB, sB, mS⟩
      refine ⟨hlt,fun j hj=> ?_⟩;rcases (by omega:j<i∨j=i) with h|rfl
      ·exact hpl j h
      ·simp only [bG,RB,decide_eq_true_eq];omega)
 have e:i=a.size:=by omega
 subst e;have hf:(ap a).findIdx? (fun c=> !bG c)=none:=nr fun j hj=>by rw [hpl j hj];rfl
 rw [hf];dsimp only;repeat' (first|refine zZC ?_|refine sM fun _=>?_|(refine sC ?_ ?_<;>intro hb<;>try omega)|fail)
 all_goals try (exfalso;omega)
 generalize hT:bk bC (ap a) (ap a).length 0=T
 refine aw [0] rfl (fun x:Nat × List Tk × Option Nat × Nat=> [(6,sl x.2.2.1 x.2.1.length x.2.2.2),(7,.int .i64 (x.1:Int))]) (fun x=> [.own x.2.2.1 228 8 x.2.1.length x.2.2.2 (x.2.1.flatMap bh)])
  (fun x=>x.1≤a.size∧x.2.1.length≤x.1∧T=(bk bC (ap a) (a.size - x.1) x.1).map (x.2.1++ ·)) (fun x=>a.size - x.1) (0,[],none,0) ⟨by omega,by simp,by rw [← hT,hl];cases bk bC (ap a) a.size 0<;>rfl⟩ sB mS ?_
 rintro ⟨i,toks,A,cap⟩ ⟨hi2,hi3,hi4⟩;dsimp only at hi2 hi3 hi4 ⊢;by_cases hlt2:i<a.size
 ·obtain ⟨f,hf1⟩: ∃ f,a.size - i=f+1:=⟨a.size - i - 1,by omega⟩;rw [hf1] at hi4;simp only [bk] at hi4;have hdr:=bi hlt2;have hK:=CE a (by omega) i hlt2;generalize hld:(ap a).drop i=ld at hi4 hdr hK;rw [hdr] at hi4;dsimp only at hi4;by_cases h32:bat a i=32
  ·rw [if_pos h32] at hi4;repeat' (first|(apply ai (d:=37);exact rfl;apply aX (j:=i);exact rfl;exact rfl;omega)|refine zZC ?_|refine sM fun _=>?_|(refine sC ?_ ?_<;>intro hb<;>try omega)|fail)
   all_goals try (exfalso;omega)
   refine ⟨(i+1,toks,A,cap),?_,(by first|omega|(dsimp only;omega)),sB,sB,mS⟩;exact ⟨hlt2,by dsimp only;omega,by dsimp only;rw [show a.size - (i+1)=f by omega];exact hi4⟩
  ·rw [if_neg h32,← hdr] at hi4;have hldl:ld.length=a.size - i:=by rw [← hld,RE,hl]
   cases ho:bC ld with
   |none=>
     rw [ho] at hi4 hK;dsimp only [Except.map] at hi4;rw [hi4];refine aI 228 8 ?_;repeat' (first|(apply ai (d:=37);exact rfl;apply aX (j:=i);exact rfl;exact rfl;omega)|(apply aK (f:=259);exact rfl;exact rfl;(intro w' hm;exact hK w');(rintro _ _ ⟨rfl,t,n,rfl⟩))|refine zZC ?_|refine sM fun _=>?_|(refine sC ?_ ?_<;>intro hb<;>try omega)|fail)
     all_goals try (exfalso;omega)
     exact qa (.inl rfl) rfl rfl rfl rfl (H' := [.own none 228 8 0 0 []]) mS ⟨none,0,rfl,rfl⟩
   |some x=>
     obtain ⟨t,m⟩:=x;rw [ho] at hi4 hK;dsimp only at hi4;have hfit:=nW ld t m ho;have hm0:0<m:=hfit.1;repeat' (first|(apply ai (d:=37);exact rfl;apply aX (j:=i);exact rfl;exact rfl;omega)|(apply aK (f:=259);exact rfl;exact rfl;(intro w' hm;exact hK w');(rintro _ _ ⟨rfl,rfl⟩))|(apply aD;(iterate 3 exact rfl);exact pK;exact pK;exact rfl;(simp [bh,Value.oneCell']);omega;(simp only [maxLen];omega);intro g8 c8)|refine zZC ?_|refine sM fun _=>?_|(refine sC ?_ ?_<;>intro hb<;>try omega)|fail)
     all_goals try (exfalso;omega)
     refine ⟨(i+m,toks++ [{ t with at_:=(i:Int) }],some g8,c8),⟨by dsimp only;omega,by simp;omega,?_⟩,(by dsimp only;omega),?_,sB,?_⟩
     ·dsimp only;rw [hi4,qF nW f (a.size - (i+m)) f (i+m) (by omega) (by omega) (by omega)];cases bk bC (ap a) (a.size - (i+m)) (i+m)<;>simp [Except.map]
     ·simp only [QT,QX];exact sB
     ·simp only [QT,QX,Rp,Rl,RN,Rc];exact mS
 ·have e:i=a.size:=by omega
  subst e;rw [show a.size - a.size=0 by omega] at hi4;simp only [bk,Except.map,Rc] at hi4;rw [hi4];repeat' (first|refine zZC ?_|refine sM fun _=>?_|(refine sC ?_ ?_<;>intro hb<;>try omega)|fail)
  all_goals try (exfalso;omega)
  exact qa (.inl rfl) rfl rfl rfl rfl (H' := [.own A 228 8 toks.length cap (toks.flatMap bh)]) mS ⟨A,cap,rfl,rfl⟩
theorem zU {tk:List Int→Option (Tk × Nat)} {a:ByteArray} (h:(bq tk (ap a)).2.2=0):a.size≤256:=by
 unfold bq at h;split at h
 ·cases h
 ·rename_i h1;rw [av] at h1;omega
theorem xZ (a:ByteArray) (w:World) (r:List Nd × Int × Int) (hr:r=bM (bq bC (ap a)) (a.size:Int)):
 FnAt Tryz.prog 156 [.string a] w fun v H=> ∃ A cap,v=GW A cap r∧H= [.own A 123 11 r.1.length cap (r.1.flatMap bf)]:=by
 refine ay Tryz.func156 rfl Tryz.ntmps156 rfl ?_;have hT:=fun w' =>z1 a w';have htl:=nV bC (ap a);have hch:=xT (ap a);have hnum:=tB (ap a);have hsz:=zU (tk:=bC) (a:=a);obtain ⟨⟨toks,at0,e0⟩,hx⟩: ∃ x,bq bC (ap a)=x:=⟨_,rfl⟩;rw [hx] at hr htl hch hnum hsz;simp only [hx,GY] at hT;dsimp only at htl hch hnum hsz;refine aI 123 11 ?_;refine aI 123 11 ?_;by_cases he0:e0≠0
 ·have hr' :r=([],at0,e0):=by rw [hr];simp [bM,he0]
  subst hr';repeat' (first|(apply aK (f:=204);exact rfl;exact rfl;exact fun w' _=>hT w';rintro _ _ ⟨A,cap,rfl,rfl⟩)|refine zZA ?_|refine sM fun _=>?_|(refine sC ?_ ?_<;>intro hb<;>try omega)|fail)
  all_goals first
   |(exfalso;omega)
   |exact qa eIO rfl rfl rfl rfl (H' := [.own none 123 11 0 0 []]) mS ⟨none,0,rfl,rfl⟩
 have he0:e0=0:=Classical.not_not.1 he0;subst he0;replace hsz:=hsz rfl;obtain ⟨r1,hr1,_⟩:=rX (a.size:Int) (20*toks.length+40) (.level 1) ⟨toks,[]⟩ ⟨by omega,by omega⟩ (by simp [Job.c]);have hL:=(Fa (20*toks.length+40)).1 1 (by decide) (by decide);obtain ⟨ff,hff⟩: ∃ ff,20*toks.length+40=ff:=⟨_,rfl⟩;rw [hff] at hr1 hL
 cases r1 with
 |error e=>
  have hr' :r=([],e.1,e.2):=by rw [hr];simp [bM,hff,hr1]
  subst hr';repeat' (first|(apply aK (f:=204);exact rfl;exact rfl;exact fun w' _=>hT w';rintro _ _ ⟨A,cap,rfl,rfl⟩)|(apply ak (f:=205);exact rfl;exact rfl;rename_i g;exact FnIn.msub (hL ⟨g,a,A,cap,toks,hsz,htl,hch⟩ 0 ⟨toks,[]⟩ none 0 _ _ w (Nat.zero_le _) rfl (Nat.le_refl 0) hr1) (MSub.pick pK (MSub.pick pK (MSub.pick pK (MSub.refl _))));rintro _ _ ⟨rfl,k1,B1,cb1,o1,j1,j2,j3,j4,rfl⟩;dsimp only at j2;obtain ⟨u,hd1⟩: ∃ u,hdT (a.size:Int) (toks.drop k1)=u:=⟨_,rfl⟩)|(apply ai;exact rfl;apply ee;exact rfl;exact rfl)|(apply aa (f:=207);exact rfl;exact rfl;exact fun w' hm=>Cx.next (x:=⟨_,a,A,cap,toks,hsz,htl,hch⟩) hd1 (B:=B1) (cb:=cb1) (out:=o1) (at_:=e.1) (e:=e.2) (MSub.pick pK (MSub.pick pK (MSub.pick pK (MSub.nil _)))) w' hm)|(apply ak (f:=206);exact rfl;exact rfl;exact FnIn.msub (gH _ a A toks.length cap k1 B1 o1.length cb1 e.1 e.2 _ _ _ _) (MSub.pick pK (.refl _));rw [if_neg j1,if_neg j1];rintro _ _ ⟨rfl,rfl⟩)|refine zZH ?_|refine sM fun _=>?_|(refine sC ?_ ?_<;>intro hb<;>try omega)|(refine sCQ ?_ ?_<;>intro hb<;>try omega)|fail)
  all_goals first
   |(exfalso;omega)
   |exact absurd (by assumption) j1
   |exact qa eIO rfl rfl rfl rfl (H' := [.own none 123 11 0 0 []]) mS ⟨none,0,rfl,rfl⟩
 |ok y=>
  obtain ⟨n,p'⟩:=y;have hwf:=zY _ _ _ _ _ _ hr1 (⟨hnum,fun _ h=>by cases h⟩:Wf ⟨toks,[]⟩);have hD:=fun (tv:Value) (w' :World) (h:Reads w' tv p'.out.length (p'.out.flatMap bf))=>tG p'.out hwf.2 tv w' h;have hde:(lW p'.out).2=dM p'.out:=by
   unfold lW;split
   ·rfl
   ·rename_i h;simp at h;simp [h]
  obtain ⟨dd,de,hdd⟩: ∃ a b,lW p'.out=(a,b):=⟨_,_,rfl⟩;rw [hdd] at hD hde;dsimp only at hD hde;repeat' (first|(apply aK (f:=204);exact rfl;exact rfl;exact fun w' _=>hT w';rintro _ _ ⟨A,cap,rfl,rfl⟩)|(apply ak (f:=205);exact rfl;exact rfl;rename_i g;exact FnIn.msub (hL ⟨g,a,A,cap,toks,hsz,htl,hch⟩ 0 ⟨toks,[]⟩ none 0 _ _ w (Nat.zero_le _) rfl (Nat.le_refl 0) hr1) (MSub.pick pK (MSub.pick pK (MSub.pick pK (MSub.refl _))));rintro _ _ ⟨rfl,k1,B1,cb1,j1,j2,j3,j4,rfl⟩;dsimp only at j1 j2;obtain ⟨u,hd1⟩: ∃ u,hdT (a.size:Int) (toks.drop k1)=u:=⟨_,rfl⟩)|(apply ai;exact rfl;apply ee;exact rfl;exact rfl)|(apply aa (f:=207);exact rfl;exact rfl;exact fun w' hm=>Cx.next (x:=⟨_,a,A,cap,toks,hsz,htl,hch⟩) hd1 (B:=B1) (cb:=cb1) (out:=p'.out) (at_:=0) (e:=0) (MSub.pick pK (MSub.pick pK (MSub.pick pK (MSub.nil _)))) w' hm)|(apply ak (f:=206);exact rfl;exact rfl;exact FnIn.msub (gH _ a A toks.length cap k1 B1 p'.out.length cb1 0 0 _ _ _ _) (MSub.pick pK (.refl _));rintro _ _ ⟨rfl,rfl⟩)|(apply aa (f:=208);exact rfl;exact rfl;(intro w' hm';exact hD _ w' (Reads.of_own (A:=B1) hm' pK)))|refine zZH ?_|refine sM fun _=>?_|(refine sC ?_ ?_<;>intro hb<;>try omega)|(refine sCQ ?_ ?_<;>intro hb<;>try omega)|fail)
  all_goals try (exfalso;omega)
  ·have hk1:k1<toks.length:=by
    have:(k1:Int)<(toks.length:Int):=by assumption
    omega
   have hu0:u.kind≠0:=fun h=>by
    have h2:=(hch.drop k1).kind (fin:=(a.size:Int));rw [hd1] at h2;have:=congrArg List.length (h2.1 h);rw [RE,Ta] at this;omega
   have hr' :r=([],u.at_,4):=by rw [hr];simp [bM,hff,hr1,j2,hd1,hu0]
   subst hr';exact qa eIO rfl rfl rfl rfl (H' := [.own none 123 11 0 0 []]) mS ⟨none,0,rfl,rfl⟩
  all_goals
   have hk1:toks.length≤k1:=by
    have:(toks.length:Int)≤(k1:Int):=by assumption
    omega
   have hu0:u.kind=0:=by rw [← hd1,uN hk1];rfl
  ·have hr' :r=([],0,de):=by
    have hb' :de≠0:=by assumption
    rw [hr];rw [hde] at hb' ⊢;simp [bM,hff,hr1,j2,hd1,hu0,hb']
   subst hr';exact qa eIO rfl rfl rfl rfl (H' := [.own none 123 11 0 0 []]) mS ⟨none,0,rfl,rfl⟩
  ·have hr' :r=(p'.out,0,0):=by
    have hb' :dM p'.out=0:=hde ▸ Classical.not_not.1 (by assumption);rw [hr];simp [bM,hff,hr1,j2,hd1,hu0,hb']
   subst hr';exact qa eIO rfl rfl rfl rfl (H' := [.own B1 123 11 p'.out.length cb1 (p'.out.flatMap bf)]) mS ⟨B1,cb1,rfl,rfl⟩
theorem CG (b:ByteArray) (w:World):FnAt Tryz.prog 96 [.string b] w fun v H=> ∃ A cap,v=ofV A cap (ofP b)∧H= [.own A 123 11 (ofP b).1.tree.length cap ((ofP b).1.tree.flatMap bf)]:=by
 refine ay Tryz.func96 rfl Tryz.ntmps96 rfl ?_;refine aI 123 11 ?_;rw [K8];unfold ofR;by_cases hlen:256<b.size
 ·rw [if_pos hlen];repeat' (first|refine zZF ?_|refine sM fun _=>?_|(refine sC ?_ ?_<;>intro hb<;>try omega)|fail)
  all_goals first
   |(exfalso;omega)
   |exact gO eIO rfl rfl pK rfl rfl rfl (H' := [.own none 123 11 0 0 []]) mS ⟨none,0,rfl,rfl⟩
 rw [if_neg hlen];repeat' (first|refine zZF ?_|refine sM fun _=>?_|(refine sC ?_ ?_<;>intro hb<;>try omega)|fail)
 all_goals try (exfalso;omega)
 rename_i g2;refine aw [0,2] rfl (fun i:Nat=> [(5,.int .i64 (i:Int))]) (fun _=> [.box g2 93 [.bool false,.int .u8 0,.int .i64 0,.string ax,.slice none 0 0],.own none 123 11 0 0 []]) (fun i=>i≤b.size∧ ∀ j,j<i→bG (bat b j)=true) (fun i=>b.size - i) 0 ⟨by omega,fun j h=>by omega⟩ sB mS ?_;rintro i ⟨hi,hpl⟩;by_cases hlt:i<b.size
 ·by_cases hc:bG (bat b i)=true
  ·have hc' :=hc;simp only [bG,RB,decide_eq_true_eq] at hc';repeat' (first|(apply ai (d:=21);exact rfl;apply aX (j:=i);exact rfl;exact rfl;omega)|(apply ai (d:=26);exact rfl;apply aX (j:=i);exact rfl;exact rfl;omega)|refine zZC ?_|refine sM fun _=>?_|(refine sC ?_ ?_<;>intro hb<;>try omega)|fail)
   all_goals try (exfalso;omega)
   refine ⟨i+1,?_,(by first|omega|(dsimp only;omega)),sB,sB,mS⟩;refine ⟨hlt,fun j hj=> ?_⟩;rcases (by omega:j<i∨j=i) with h|rfl
   ·exact hpl j h
   ·exact hc
  ·have hc' :=hc;simp only [bG,RB,decide_eq_true_eq] at hc';have hf:(ap b).findIdx? (fun c=> !bG c)=some i:=oK hlt (by simp [hc]) fun j hj=>by rw [hpl j hj];rfl
   rw [hf];repeat' (first|(apply ai (d:=21);exact rfl;apply aX (j:=i);exact rfl;exact rfl;omega)|(apply ai (d:=26);exact rfl;apply aX (j:=i);exact rfl;exact rfl;omega)|refine zZC ?_|refine sM fun _=>?_|(refine sC ?_ ?_<;>intro hb<;>try omega)|fail)
   all_goals first
    |(exfalso;omega)
    |exact gO eIO rfl rfl pK rfl rfl rfl (H' := [.own none 123 11 0 0 []]) mS ⟨none,0,rfl,rfl⟩
 ·have e:i=b.size:=by omega
  subst e;have hf:(ap b).findIdx? (fun c=> !bG c)=none:=nr fun j hj=>by rw [hpl j hj];rfl
  rw [hf];dsimp only;have hhd:(ap b).headD 0=bat b 0:=by have:=oH (a:=b) (i:=0);rwa [SP] at this
  rw [hhd];have hC:=fun w=>CL b (by omega) w;by_cases h61:bat b 0≠61
  ·rw [if_pos h61];by_cases h0:b=ax
   ·repeat' (first|(apply ai (d:=32);exact rfl;apply nS;exact rfl;exact rfl;exact h0)|(apply aa;exact rfl;exact rfl;(intro w hm;exact hC w))|refine zZC ?_|refine sM fun _=>?_|(refine sC ?_ ?_<;>intro hb<;>try omega)|fail)
    all_goals first
     |(exfalso;omega)
     |exact gO eIO rfl rfl pK rfl rfl rfl (H' := [.own none 123 11 0 0 []]) mS ⟨none,0,rfl,rfl⟩
   ·have hpos:0<b.size:=by
     rcases SY b.size with h|h
     ·exact absurd (ByteArray.ext (UD h)) h0
     ·exact h
    repeat' (first|(apply ai (d:=32);exact rfl;apply eO;exact rfl;exact rfl;exact h0)|(apply ai (d:=35);exact rfl;apply aX (j:=0);exact rfl;exact rfl;exact hpos)|(apply aa;exact rfl;exact rfl;(intro w hm;exact hC w))|refine zZC ?_|refine sM fun _=>?_|(refine sC ?_ ?_<;>intro hb<;>try omega)|fail)
    all_goals first
     |(exfalso;omega)
     |exact gO eIO rfl rfl pK rfl rfl rfl (H' := [.own none 123 11 0 0 []]) mS ⟨none,0,rfl,rfl⟩
  ·rw [if_neg h61];have h61:bat b 0=61:=Classical.not_not.1 h61;have hpos:0<b.size:=by
    rcases SY b.size with h|h
    ·rw [jz (by omega)] at h61;cases h61
    ·exact h
   have h0:b≠ax:=by
    rintro rfl;exact absurd hpos (by decide)
   have hF:=fun (w' :World)=>xZ (sub b 1 b.size) w' _ rfl;obtain ⟨⟨t,at0,e0⟩,hr⟩: ∃ x,bM (bq bC (ap (sub b 1 b.size))) ((sub b 1 b.size).size:Int)=x:=⟨_,rfl⟩;simp only [hr,GW] at hF;rw [hr];dsimp only;by_cases he:e0≠0
   ·rw [if_pos he];repeat' (first|(apply ai (d:=32);exact rfl;apply eO;exact rfl;exact rfl;exact h0)|(apply ai (d:=35);exact rfl;apply aX (j:=0);exact rfl;exact rfl;exact hpos)|(apply ai (d:=43);exact rfl;apply vq (lo:=1);exact rfl;exact rfl;omega)|(apply aK (f:=156);exact rfl;exact rfl;(intro w' hm';exact hF w');rintro _ _ ⟨A,cap,rfl,rfl⟩)|(apply ai;exact rfl;apply vD;exact rfl;exact rfl)|refine zZC ?_|refine sM fun _=>?_|(refine sC ?_ ?_<;>intro hb<;>try omega)|fail)
    all_goals first
     |(exfalso;omega)
     |exact gO eIO rfl rfl pK rfl rfl rfl (H' := [.own none 123 11 0 0 []]) mS ⟨none,0,rfl,rfl⟩
   ·rw [if_neg he];repeat' (first|(apply ai (d:=32);exact rfl;apply eO;exact rfl;exact rfl;exact h0)|(apply ai (d:=35);exact rfl;apply aX (j:=0);exact rfl;exact rfl;exact hpos)|(apply ai (d:=43);exact rfl;apply vq (lo:=1);exact rfl;exact rfl;omega)|(apply aK (f:=156);exact rfl;exact rfl;(intro w' hm';exact hF w');rintro _ _ ⟨A,cap,rfl,rfl⟩)|(apply ai;exact rfl;apply vD;exact rfl;exact rfl)|refine zZC ?_|refine sM fun _=>?_|(refine sC ?_ ?_<;>intro hb<;>try omega)|fail)
    all_goals first
     |(exfalso;omega)
     |exact gO eIO rfl rfl pK rfl rfl rfl (H' := [.own A 123 11 t.length cap (t.flatMap bf)]) mS ⟨A,cap,rfl,rfl⟩
theorem CJ (L:List Et) (tv:Value) (w:World) (ht:Reads w tv L.length (L.flatMap pP)) (i:Nat) (hlt:i<L.length):
 aC Tryz.prog 154 [tv,.int .i64 (i:Int)] w (.int .i64 (kg (jI L i) L[i])):=by
 obtain ⟨Al,cl,rfl,hl1,hl2,hl3⟩:=ht;refine ay Tryz.func154 rfl Tryz.ntmps154 rfl ?_;obtain ⟨gl,ol,rfl,hrl⟩:=hl3 (by omega);have he:=hrl.elem kz i hlt;have hprev: ∀ h:0<i,Ro w gl (ol+(i - 1)*3) (pP L[i - 1]):=fun h=>hrl.elem kz (i - 1) (by omega);have hbef: ∀ h:0<i,jI L i=some L[i - 1].at_:=fun h=>by unfold jI;rw [if_neg (by omega),QU (by omega)];rfl
 have hbef0:i=0→jI L i=none:=fun h=>by unfold jI;rw [if_pos h]
 generalize L[i]=e at he ⊢;obtain ⟨fo,hfo⟩: ∃ fo,kg (jI L i) e=fo:=⟨_,rfl⟩;rw [hfo];have hV: ∀ w',aC Tryz.prog 65 [.agg (aB e.at_).toArray] w' (.bool e.at_.valid):=fun w' =>lm e.at_.col e.at_.row w';have hO:=fun (w' :World)=>CG e.input w';have hofV: ∀ (A:Option Nat) (cap:Nat),ofV A cap (ofP e.input)= .tuple #[.agg (AY (ofP e.input).1 (sl A (ofP e.input).1.tree.length cap)).toArray,.int .i64 (ofP e.input).2.1,.int .i64 (ofP e.input).2.2]:=fun _ _=>rfl;simp only [hofV] at hO;unfold kg at hfo;generalize ofP e.input=o at hO hfo;obtain ⟨⟨f1,f2,f3⟩,oa,oe⟩:=o;simp only [AY] at hO;generalize e.at_.valid=vd at hV hfo;have hle: ∀ (w' :World),True:=fun _=>trivial;by_cases h0:0<i
 ·have hp:=hprev h0;rw [hbef h0] at hfo;generalize L[i - 1]=b at hp hfo;have hL:=fun w' =>v6 b.at_ e.at_ w';replace hfo:(if vd=false then (3:Int) else if bo b.at_ e.at_=false then 12 else if e.input=ax then 2 else oe)=fo:=hfo;generalize bo b.at_ e.at_=ls at hL hfo;repeat' (first|(apply ai (d:=10);exact rfl;apply ag;exact rfl;exact rfl;exact hlt)|(apply ai (d:=12);exact rfl;apply cD (off:=0) (ys:=aB e.at_) he;(iterate 3 exact rfl))|(apply aZ (d:=20);exact rfl;apply ij;exact rfl;exact rfl;exact h0;(simp only [maxLen] at*;omega))|(apply aZ (d:=21);exact rfl;apply ag (j:=i - 1);exact rfl;exact rfl;omega)|(apply aZ (d:=23);exact rfl;apply cD (off:=0) (ys:=aB b.at_) hp;(iterate 3 exact rfl))|(apply aZ (d:=26);exact rfl;apply ag (j:=i);exact rfl;exact rfl;exact hlt)|(apply aZ (d:=28);exact rfl;apply cD (off:=0) (ys:=aB e.at_) he;(iterate 3 exact rfl))|(apply ai (d:=34);exact rfl;apply ag;exact rfl;exact rfl;exact hlt)|(apply ai (d:=36);exact rfl;apply dS (off:=2);exact rfl;exact he;exact rfl)|(apply ai (d:=41);exact rfl;apply ag;exact rfl;exact rfl;exact hlt)|(apply ai (d:=43);exact rfl;apply dS (off:=2);exact rfl;exact he;exact rfl)|(apply aa;exact rfl;exact rfl;(intro w hm;exact hV w))|(apply cM;exact rfl;exact rfl;(intro w hm;exact hL w))|(apply aK (f:=96);exact rfl;exact rfl;(intro w' hm;exact hO w');rintro _ _ ⟨A,cap,rfl,rfl⟩)|refine zZH ?_|refine sM fun _=>?_|(refine sC ?_ ?_<;>intro hb<;>try omega)|(refine sCQ ?_ ?_<;>intro hb<;>try omega)|fail)
  all_goals (refine bJ eIO rfl rfl (.nil _) ?_;simp_all [ax];done)
 ·rw [hbef0 (by omega)] at hfo;repeat' (first|(apply ai (d:=10);exact rfl;apply ag;exact rfl;exact rfl;exact hlt)|(apply ai (d:=12);exact rfl;apply cD (off:=0) (ys:=aB e.at_) he;(iterate 3 exact rfl))|(apply ai (d:=34);exact rfl;apply ag;exact rfl;exact rfl;exact hlt)|(apply ai (d:=36);exact rfl;apply dS (off:=2);exact rfl;exact he;exact rfl)|(apply ai (d:=41);exact rfl;apply ag;exact rfl;exact rfl;exact hlt)|(apply ai (d:=43);exact rfl;apply dS (off:=2);exact rfl;exact he;exact rfl)|(apply aa;exact rfl;exact rfl;(intro w hm;exact hV w))|(apply aK (f:=96);exact rfl;exact rfl;(intro w' hm;exact hO w');rintro _ _ ⟨A,cap,rfl,rfl⟩)|refine zZH ?_|refine sM fun _=>?_|(refine sC ?_ ?_<;>intro hb<;>try omega)|(refine sCQ ?_ ?_<;>intro hb<;>try omega)|fail)
  all_goals first
   |(exfalso;omega)
   |(refine bJ eIO rfl rfl (.nil _) ?_;simp_all [ax];done)
theorem x5 (L:List Et) (tv:Value) (w:World) (ht:Reads w tv L.length (L.flatMap pP)) (hlen:L.length≤1000000):
 aC Tryz.prog 94 [tv] w (.tuple #[.int .i64 (ik L).1,.int .i64 (ik L).2]):=by
 have hF:=fun (w' :World) (H' :List Blk) (hm:Mem w w' H') (i:Nat) (hi:i<L.length)=>CJ L tv w' (ht.of_w0 hm) i hi;obtain ⟨Al,cl,rfl,hl1,hl2,hl3⟩:=ht;refine ay Tryz.func94 rfl Tryz.ntmps94 rfl ?_;repeat' (first|refine zZB ?_|refine sM fun _=>?_|(refine sC ?_ ?_<;>intro hb<;>try omega)|fail)
 refine aw [0] rfl (fun i:Nat=> [(4,.int .i64 (i:Int))]) (fun _=> []) (fun i=>i≤L.length∧ik L=fF i (jI L i) (L.drop i)) (fun i=>L.length - i) 0 ⟨by omega,rfl⟩ sB (.refl _) ?_;rintro i ⟨hi,hck⟩;by_cases hlt:i<L.length
 ·have hF:=fun w' H' hm=>hF w' H' hm i hlt;have hnext:jI L (i+1)=some L[i].at_:=by unfold jI;rw [if_neg (by omega),TZ,QU hlt];rfl
  rw [Rn hlt,fF,← hnext] at hck;generalize kg (jI L i) L[i]=e at hF hck;repeat' (first|(apply aa (f:=154);exact rfl;exact rfl;(intro w' hm;exact hF w' _ hm))|refine zZA ?_|refine sM fun _=>?_|(refine sC ?_ ?_<;>intro hb<;>try omega)|fail)
  all_goals first
   |(exfalso;omega)
   |(refine dB eIO rfl rfl rfl (.nil _) ?_;rw [hck,if_pos (by assumption)];done)
   | (rw [if_neg (by assumption)] at hck
      refine ⟨i+1,⟨hlt,hck⟩,by omega,?_,?_,.nil _⟩
      ·exact sB
      ·exact sB)
 ·have e2:i=L.length:=by omega
  subst e2;rw [Sn,fF] at hck;repeat' (first|refine zZB ?_|refine sM fun _=>?_|(refine sC ?_ ?_<;>intro hb<;>try omega)|fail)
  all_goals first
   |(exfalso;omega)
   |(refine dB eIO rfl rfl rfl (.nil _) ?_;rw [hck])
theorem jq {L:List En} {i:Nat} (h:i<L.length):((L.flatMap cz).drop (0+i*4+0)).take 2=aB L[i].at_:=by
 have he:=congrArg (List.take 2) (fD xu L i h);rw [List.take_take] at he;rw [Rv];exact he
theorem oL {L:List En} {i:Nat} (h:i<L.length):((L.flatMap cz).drop (0+i*4)).take 4=cz L[i]:=by
 rw [Rv];exact fD xu L i h
theorem EP (L:List Nd):(iZ L).1.length≤L.length:=by
 unfold iZ;split
 ·exact QZ _
 ·exact iK L 0
theorem CS (g:Nat) (A:Option Nat) (cap:Nat) (L:List En) (G:Gr) (a:Rf) (b:ByteArray) (R F:List Blk) (w0:World) (hR:RGOk R L G) (hs:SortG G) (hlen:L.length≤1000):
 FnIn Tryz.prog 49 [.pointer (some ⟨g,0,none⟩),dm a,.string b] w0 (rgB g A cap L++(R++F)) fun v H=>v= .int .i64 (fN G a b).2∧ ∃ A' cap' L' R',H=rgB g A' cap' L' ++(R' ++F)∧MSub R R' ∧RGOk R' L' (fN G a b).1:=by
 refine bF Tryz.func49 rfl Tryz.ntmps49 rfl ?_;have hV:=fun (w' :World)=>(lm a.col a.row w' :aC Tryz.prog 65 [dm a] w' (.bool (valid a.col a.row)));have hO:=fun (w' :World)=>CG b w';unfold fN;by_cases hv:a.valid=false
 ·rw [if_pos hv];have hv' :valid a.col a.row=false:=hv;rw [hv'] at hV;repeat' (first|(apply aa;exact rfl;exact rfl;(intro w hm;exact hV w))|refine zZB ?_|refine sM fun _=>?_|(refine sC ?_ ?_<;>intro hb<;>try omega)|fail)
  all_goals exact bJ eIO rfl rfl (by unfold rgB;exact mS) ⟨rfl,A,cap,L,R,rfl,MSub.refl _,hR⟩
 rw [if_neg hv];have hv' :valid a.col a.row=true:=by
  have:a.valid=valid a.col a.row:=rfl;rw [this] at hv;simpa using hv
 rw [hv'] at hV;have hlen2:=Ae b;have htree:=wz (b:=b);have hwf:=Pp b;generalize ofP b=r at hO hlen2 htree hwf;obtain ⟨⟨fm,v,t⟩,at_,e⟩:=r;simp only [ofV,AY] at hO;dsimp only at hlen2 htree hwf ⊢;by_cases he:e≠0
 ·rw [if_pos he];repeat' (first|(apply aa;exact rfl;exact rfl;(intro w hm;exact hV w))|(apply aK (f:=96);exact rfl;exact rfl;(intro w' hm;exact hO w');rintro _ _ ⟨A0,cap0,rfl,rfl⟩)|refine zZB ?_|refine sM fun _=>?_|(refine sC ?_ ?_<;>intro hb<;>try omega)|fail)
  all_goals exact bJ eIO rfl rfl (by unfold rgB;exact mS) ⟨rfl,A,cap,L,R,rfl,MSub.refl _,hR⟩
 rw [if_neg he];have he0:e=0:=by omega
 subst he0;have hU:=fun (w' :World) (A:Option Nat) (cap:Nat) (H' :List Blk) (hi:In (.own A 123 11 t.length cap (t.flatMap bf)) H') (hm:Mem w0 w' H')=>Fg t hwf (sl A t.length cap) w' (Reads.of_own hm hi);have hul:(iZ t).1.length≤256:=RD (EP t) hlen2;have hus:fm=true→eE t=(iZ t).1:=fun h=>by unfold iZ;rw [htree rfl h];rfl
 obtain ⟨⟨us,ue⟩,hue⟩: ∃ x,iZ t=x:=⟨_,rfl⟩;rw [hue] at hU hul hus;dsimp only at hU hul hus;refine aI 172 4 ?_;repeat' (first|(apply aa;exact rfl;exact rfl;(intro w hm;exact hV w))|(apply aK (f:=96);exact rfl;exact rfl;(intro w' hm;exact hO w');rintro _ _ ⟨A0,cap0,rfl,rfl⟩)|(apply aK (f:=97);exact rfl;exact rfl;(intro w' hm;exact hU w' _ _ _ pK hm);rintro _ _ ⟨A2,cap2,rfl,rfl⟩)|refine zZB ?_|refine sM fun _=>?_|(refine sC ?_ ?_<;>intro hb<;>try omega)|fail)
 all_goals try (exfalso;omega)
 rename_i g4 g7;obtain ⟨x,hxd⟩: ∃ x:En,x=⟨a,A0.map fun g=>⟨g,0,none⟩,cap0,A2.map fun g=>⟨g,0,none⟩,cap2,t,us,0⟩:=⟨_,rfl⟩;have hxe:cz x= [.int .i64 a.col,.int .i64 a.row,sl A0 t.length cap0,sl A2 us.length cap2]:=by rw [hxd];rfl
 obtain ⟨d0,hd0⟩: ∃ d0,(!fm)=d0:=⟨_,rfl⟩;have hfin:(xY a x d0 L).map En.abs=(if fm=false then (ye G a,(0:Int)) else (uq G a (t,eE t),0)).1:=by
  rw [← hd0]
  cases fm with
  |false=>rw [if_pos rfl,← hR.rel];exact KJ a x L
  |true=>
    rw [if_neg (by simp),hus rfl,← hR.rel];have:=KI (x:=x) (a:=a) (by rw [hxd]) (L:=L) (by rw [hR.rel];exact hs);rw [hxd] at this ⊢;exact this
 have hfin2:(if fm=false then (ye G a,(0:Int)) else (uq G a (t,eE t),0)).2=0:=by cases fm<;>rfl
 have hRx:RGOk (.own A0 123 11 t.length cap0 (t.flatMap bf):: .own A2 121 6 us.length cap2 (us.flatMap cP)::R) (xY a x d0 L) (if fm=false then (ye G a,(0:Int)) else (uq G a (t,eE t),0)).1:=by
  refine ⟨fun f hf=> ?_,hfin⟩;rcases KH hf with rfl|hf
  ·rw [hxd];exact ⟨rdIn.own (A:=A0) pK,rdIn.own (A:=A2) pK,by dsimp only;omega,by dsimp only;omega⟩
  ·exact (hR.en f hf).sub mS
 refine aw [0,4,7,10] rfl (fun y:Nat × List En × Bool × Option Nat × Nat=> [(12,sl y.2.2.2.1 y.2.1.length y.2.2.2.2),(13,.bool y.2.2.1),(14,.int .i64 (y.1:Int))]) (fun y=> .own y.2.2.2.1 172 4 y.2.1.length y.2.2.2.2 (y.2.1.flatMap cz):: .own A2 121 6 us.length cap2 (us.flatMap cP):: .box g7 93 [.bool fm,.int .u8 v.kind,.int .i64 v.num,.string v.text,sl A0 t.length cap0]:: .own A0 123 11 t.length cap0 (t.flatMap bf):: .box g4 28 (aB a):: .box g 126 [sl A L.length cap]:: .own A 172 4 L.length cap (L.flatMap cz)::(R++F)) (fun y=>y.1≤L.length∧(L.take y.1).foldl (eQ a x) ([],d0)=(y.2.1,y.2.2.1)∧y.2.1.length≤2*y.1) (fun y=>L.length - y.1) (0,[],d0,none,0) ⟨QZ _,rfl,Rg _⟩ (by subst hd0;exact sB) (by unfold rgB;simp only [Re,QV,QW];exact mS) ?_;clear hU hO;rintro ⟨i,O,d,A3,c3⟩ ⟨hi,hf,hOl⟩;dsimp only at hi hf hOl ⊢;by_cases hlt:i<L.length
 ·refine bg (A:=A) pK (by omega) fun gl hA=> ?_;subst hA;have hnx:(L.take (i+1)).foldl (eQ a x) ([],d0)=eQ a x (O,d) L[i]:=by
   rw [Ra hlt,UQ,hf];rfl
  have hc:=jq hlt;have ha:=oL hlt;have hL:=fun w' =>v6 a L[i].at_ w';generalize L[i]=e at hc ha hL hnx;obtain ⟨c1,hc1⟩: ∃ c1,bo a e.at_=c1:=⟨_,rfl⟩;obtain ⟨c2,hc2⟩: ∃ c2,decide (e.at_≠a)=c2:=⟨_,rfl⟩;rw [hc1] at hL;have hc2' :c2=true↔e.at_≠a:=by rw [← hc2];simp
  cases d with
  |false=>
    cases c1 with
    |true=>
      have hne:e.at_≠a:=(mz hc1).symm;obtain rfl:c2=true:=hc2'.2 hne;have hst:eQ a x (O,false) e=(O++ [x]++ [e],true):=by simp [eQ,hc1,hne]
      repeat' (first|(apply aZ;exact rfl;apply ag (j:=i);exact rfl;exact rfl;exact hlt)|(apply ai;exact rfl;apply ag (j:=i);exact rfl;exact rfl;exact hlt)|(apply aZ;exact rfl;apply aO (ys:=aB e.at_);exact rfl;exact pK;exact hc;exact rfl)|(apply ai;exact rfl;apply aO (ys:=cz e);exact rfl;exact pK;exact ha;exact rfl)|(apply aZ;exact rfl;apply eC;exact hc2;exact rfl;exact rfl)|(apply cM;exact rfl;exact rfl;(intro w hm;exact hL w))|(apply aD;(iterate 3 exact rfl);exact pK;exact pK;exact rfl;(simp [cz,En.tv,En.uv,sl,Value.oneCell']);omega;(simp only [maxLen];omega);intro g8 c8)|refine zZH ?_|refine sM fun _=>?_|(refine sC ?_ ?_<;>intro hb<;>try omega)|(refine sCQ ?_ ?_<;>intro hb<;>try omega)|fail)
      all_goals first
       |(exfalso;omega)
       | (refine ⟨(i + 1, O ++ [x] ++ [e], true, some g8, c8), ⟨hlt, (hnx.trans hst), (by (try simp only [List.length_append, List.length_singleton]); omega)⟩, (by dsimp only; omega), (by (try simp only [List.length_append, List.length_singleton]); exact sB), sB, ?_⟩
          simp only [QT,QX,Rp,Rl,RN,Rc,Re,QV,QW,hxe];exact mS)
    |false=>
      by_cases hne:e.at_≠a
      ·obtain rfl:c2=true:=hc2'.2 hne;have hst:eQ a x (O,false) e=(O++ [e],false):=by simp [eQ,hc1,hne]
       repeat' (first|(apply aZ;exact rfl;apply ag (j:=i);exact rfl;exact rfl;exact hlt)|(apply ai;exact rfl;apply ag (j:=i);exact rfl;exact rfl;exact hlt)|(apply aZ;exact rfl;apply aO (ys:=aB e.at_);exact rfl;exact pK;exact hc;exact rfl)|(apply ai;exact rfl;apply aO (ys:=cz e);exact rfl;exact pK;exact ha;exact rfl)|(apply aZ;exact rfl;apply eC;exact hc2;exact rfl;exact rfl)|(apply cM;exact rfl;exact rfl;(intro w hm;exact hL w))|(apply aD;(iterate 3 exact rfl);exact pK;exact pK;exact rfl;(simp [cz,En.tv,En.uv,sl,Value.oneCell']);omega;(simp only [maxLen];omega);intro g8 c8)|refine zZH ?_|refine sM fun _=>?_|(refine sC ?_ ?_<;>intro hb<;>try omega)|(refine sCQ ?_ ?_<;>intro hb<;>try omega)|fail)
       all_goals first
        |(exfalso;omega)
        | (refine ⟨(i + 1, O ++ [e], false, some g8, c8), ⟨hlt, (hnx.trans hst), (by (try simp only [List.length_append, List.length_singleton]); omega)⟩, (by dsimp only; omega), (by (try simp only [List.length_append, List.length_singleton]); exact sB), sB, ?_⟩
           simp only [QT,QX,Rp,Rl,RN,Rc,Re,QV,QW,hxe];exact mS)
      ·obtain rfl:c2=false:=by cases c2 with|false=>rfl|true=>exact absurd (hc2'.1 rfl) hne
       have hst:eQ a x (O,false) e=(O,false):=by
        have:=Classical.not_not.1 hne;simp [eQ,this,oV]
       repeat' (first|(apply aZ;exact rfl;apply ag (j:=i);exact rfl;exact rfl;exact hlt)|(apply ai;exact rfl;apply ag (j:=i);exact rfl;exact rfl;exact hlt)|(apply aZ;exact rfl;apply aO (ys:=aB e.at_);exact rfl;exact pK;exact hc;exact rfl)|(apply ai;exact rfl;apply aO (ys:=cz e);exact rfl;exact pK;exact ha;exact rfl)|(apply aZ;exact rfl;apply eC;exact hc2;exact rfl;exact rfl)|(apply cM;exact rfl;exact rfl;(intro w hm;exact hL w))|(apply aD;(iterate 3 exact rfl);exact pK;exact pK;exact rfl;(simp [cz,En.tv,En.uv,sl,Value.oneCell']);omega;(simp only [maxLen];omega);intro g8 c8)|refine zZH ?_|refine sM fun _=>?_|(refine sC ?_ ?_<;>intro hb<;>try omega)|(refine sCQ ?_ ?_<;>intro hb<;>try omega)|fail)
       all_goals first
        |(exfalso;omega)
        | (refine ⟨(i + 1, O, false, A3, c3), ⟨hlt, (hnx.trans hst), (by (try simp only [List.length_append, List.length_singleton]); omega)⟩, (by dsimp only; omega), (by (try simp only [List.length_append, List.length_singleton]); exact sB), sB, ?_⟩
           simp only [QT,QX,Rp,Rl,RN,Rc,Re,QV,QW,hxe];exact mS)
  |true=>
    by_cases hne:e.at_≠a
    ·obtain rfl:c2=true:=hc2'.2 hne;have hst:eQ a x (O,true) e=(O++ [e],true):=by simp [eQ,hne]
     repeat' (first|(apply aZ;exact rfl;apply ag (j:=i);exact rfl;exact rfl;exact hlt)|(apply ai;exact rfl;apply ag (j:=i);exact rfl;exact rfl;exact hlt)|(apply aZ;exact rfl;apply aO (ys:=aB e.at_);exact rfl;exact pK;exact hc;exact rfl)|(apply ai;exact rfl;apply aO (ys:=cz e);exact rfl;exact pK;exact ha;exact rfl)|(apply aZ;exact rfl;apply eC;exact hc2;exact rfl;exact rfl)|(apply cM;exact rfl;exact rfl;(intro w hm;exact hL w))|(apply aD;(iterate 3 exact rfl);exact pK;exact pK;exact rfl;(simp [cz,En.tv,En.uv,sl,Value.oneCell']);omega;(simp only [maxLen];omega);intro g8 c8)|refine zZH ?_|refine sM fun _=>?_|(refine sC ?_ ?_<;>intro hb<;>try omega)|(refine sCQ ?_ ?_<;>intro hb<;>try omega)|fail)
     all_goals first
      |(exfalso;omega)
      | (refine ⟨(i + 1, O ++ [e], true, some g8, c8), ⟨hlt, (hnx.trans hst), (by (try simp only [List.length_append, List.length_singleton]); omega)⟩, (by dsimp only; omega), (by (try simp only [List.length_append, List.length_singleton]); exact sB), sB, ?_⟩
         simp only [QT,QX,Rp,Rl,RN,Rc,Re,QV,QW,hxe];exact mS)
    ·obtain rfl:c2=false:=by cases c2 with|false=>rfl|true=>exact absurd (hc2'.1 rfl) hne
     have hst:eQ a x (O,true) e=(O,true):=by
      have:=Classical.not_not.1 hne;simp [eQ,this]
     repeat' (first|(apply aZ;exact rfl;apply ag (j:=i);exact rfl;exact rfl;exact hlt)|(apply ai;exact rfl;apply ag (j:=i);exact rfl;exact rfl;exact hlt)|(apply aZ;exact rfl;apply aO (ys:=aB e.at_);exact rfl;exact pK;exact hc;exact rfl)|(apply ai;exact rfl;apply aO (ys:=cz e);exact rfl;exact pK;exact ha;exact rfl)|(apply aZ;exact rfl;apply eC;exact hc2;exact rfl;exact rfl)|(apply cM;exact rfl;exact rfl;(intro w hm;exact hL w))|(apply aD;(iterate 3 exact rfl);exact pK;exact pK;exact rfl;(simp [cz,En.tv,En.uv,sl,Value.oneCell']);omega;(simp only [maxLen];omega);intro g8 c8)|refine zZH ?_|refine sM fun _=>?_|(refine sC ?_ ?_<;>intro hb<;>try omega)|(refine sCQ ?_ ?_<;>intro hb<;>try omega)|fail)
     all_goals first
      |(exfalso;omega)
      | (refine ⟨(i + 1, O, true, A3, c3), ⟨hlt, (hnx.trans hst), (by (try simp only [List.length_append, List.length_singleton]); omega)⟩, (by dsimp only; omega), (by (try simp only [List.length_append, List.length_singleton]); exact sB), sB, ?_⟩
         simp only [QT,QX,Rp,Rl,RN,Rc,Re,QV,QW,hxe];exact mS)
 ·have e2:i=L.length:=by omega
  subst e2;rw [RS] at hf;have hset:xY a x d0 L=F8 x (O,d):=by unfold xY;rw [hf]
  rw [hset] at hRx;cases d
  ·repeat' (first|(apply aD;(iterate 3 exact rfl);exact pK;exact pK;exact rfl;(simp [cz,En.tv,En.uv,sl,Value.oneCell']);omega;(simp only [maxLen];omega);intro g8 c8)|refine zZA ?_|refine sM fun _=>?_|(refine sC ?_ ?_<;>intro hb<;>try omega)|fail)
   all_goals first
    |(exfalso;omega)
    | (refine bJ eIO rfl rfl (H' := rgB g (some g8) c8 (O ++ [x]) ++ ((.own A0 123 11 t.length cap0 (t.flatMap bf) :: .own A2 121 6 us.length cap2 (us.flatMap cP) :: R) ++ F)) ?_ ⟨by rw [hfin2], some g8, c8, O ++ [x], _, rfl, mS, hRx⟩
       simp only [rgB,QT,QX,Rp,Rl,RN,Rc,Re,QV,QW,hxe];exact mS)
  ·repeat' (first|refine zZA ?_|refine sM fun _=>?_|(refine sC ?_ ?_<;>intro hb<;>try omega)|fail)
   all_goals first
    |(exfalso;omega)
    | (refine bJ eIO rfl rfl (H' := rgB g A3 c3 O ++ ((.own A0 123 11 t.length cap0 (t.flatMap bf) :: .own A2 121 6 us.length cap2 (us.flatMap cP) :: R) ++ F)) ?_ ⟨by rw [hfin2], A3, c3, O, _, rfl, mS, hRx⟩
       simp only [rgB,Re,QV,QW];exact mS)
theorem Nm (g:Nat) (A:Option Nat) (cap:Nat) (L:List En) (G:Gr) (a:Rf) (b:ByteArray) (R:List Blk) (w0:World) (hR:RGOk R L G) (hs:SortG G) (hlen:L.length≤1000):
 FnIn Tryz.prog 49 [.pointer (some ⟨g,0,none⟩),dm a,.string b] w0 (rgB g A cap L++R) fun v H=>v= .int .i64 (fN G a b).2∧ ∃ A' cap' L' R',H=rgB g A' cap' L' ++R' ∧MSub R R' ∧RGOk R' L' (fN G a b).1:=by
 have h:=CS g A cap L G a b R [] w0 hR hs hlen;simp only [Rc] at h;exact h
end Go.SL
namespace Go.SL
open Go Go.Proofs
attribute [local irreducible] W WL WQ WG WA WX WLI WR WT WC VOp RW thn blk bH scp aV bz bP FnAt FnP ceP
structure Gs where
 gg:Nat
 gm:Nat
 E:List En
 clock:Nat
 R1:List Blk
 gr:Nat
 A:Option Nat
 cap:Nat
 Q:List En
 R2:List Blk
def Gs.a (x:Gs):List Blk:=gB x.gg x.gm (x.E.map En.m) x.clock
def Gs.b (x:Gs):List Blk:=rgB x.gr x.A x.cap x.Q
def Gs.H (x:Gs):List Blk:=x.a++(x.b++(x.R1++x.R2))
def Gs.pa (x:Gs):Value:= .pointer (some ⟨x.gg,0,none⟩)
def Gs.pb (x:Gs):Value:= .pointer (some ⟨x.gr,0,none⟩)
structure Gs.ok (x:Gs) (G:Gr):Prop where
 a:GOk x.R1 x.E x.clock G
 b:RGOk x.R2 x.Q G
 g:GrOk G
theorem Gs.permA (x:Gs) (F:List Blk):(F++x.H).Perm (x.a++(x.R1++(x.b++(x.R2++F)))):=by
 refine RO.trans ?_;unfold Gs.H;simp only [Rx];exact (SN x.b x.R1 (x.R2++F)).append_left x.a
theorem Gs.permB (x:Gs) (F:List Blk):(F++x.H).Perm (x.b++(x.R2++(x.a++(x.R1++F)))):=by
 refine RO.trans ?_;unfold Gs.H;simp only [Rx];refine (SN x.a x.b _).trans (List.Perm.append_left x.b ?_);refine (List.Perm.append_left x.a (SN x.R1 x.R2 F)).trans ?_;exact SN x.a x.R2 _
theorem Gs.set (x:Gs) (G:Gr) (h:x.ok G) (c:Rf) (i:ByteArray) (F:List Blk) (w0:World) (hW:Words w0):
 FnIn Tryz.prog 15 [x.pa,dm c,.string i] w0 (F++x.H) fun v H=>v= .int .i64 (fN G c i).2∧ ∃ E' clock' R',H=F++({ x with E:=E',clock:=clock',R1:=R' }:Gs).H∧MSub x.R1 R' ∧GOk R' E' clock' (fN G c i).1:=by
 refine (FnIn.msub (Bf x.gg x.gm x.clock x.E G c i x.R1 (x.b++(x.R2++F)) w0 h.a hW) (MSub.of_perm (x.permA F))).re ?_;rintro v H ⟨hv,E',clock',R',rfl,hs,hG⟩;exact ⟨F++({ x with E:=E',clock:=clock',R1:=R' }:Gs).H,MSub.of_perm (Gs.permA { x with E:=E',clock:=clock',R1:=R' } F).symm,hv,E',clock',R',rfl,hs,hG⟩
theorem Gs.rset (x:Gs) (G:Gr) (h:RGOk x.R2 x.Q G) (hs:SortG G) (hl:G.length≤900) (c:Rf) (i:ByteArray) (F:List Blk) (w0:World):
 FnIn Tryz.prog 49 [x.pb,dm c,.string i] w0 (F++x.H) fun v H=>v= .int .i64 (fN G c i).2∧ ∃ A' cap' Q' R',H=F++({ x with A:=A',cap:=cap',Q:=Q',R2:=R' }:Gs).H∧MSub x.R2 R' ∧RGOk R' Q' (fN G c i).1:=by
 refine (FnIn.msub (CS x.gr x.A x.cap x.Q G c i x.R2 (x.a++(x.R1++F)) w0 h hs (by rw [h.len];omega)) (MSub.of_perm (x.permB F))).re ?_;rintro v H ⟨hv,A',cap',Q',R',rfl,hss,hG⟩;exact ⟨F++({ x with A:=A',cap:=cap',Q:=Q',R2:=R' }:Gs).H,MSub.of_perm (Gs.permB { x with A:=A',cap:=cap',Q:=Q',R2:=R' } F).symm,hv,A',cap',Q',R',rfl,hss,hG⟩
end Go.SL
namespace Go.SL
open Go Go.Proofs
attribute [local irreducible] W WL WQ WG WA WX WLI WR WT WC VOp RW thn blk bH scp aV bz bP FnAt FnIn FnP ceP
theorem RGOk.keys {R:List Blk} {L:List En} {G:Gr} (h:RGOk R L G):L.map En.at_=aA G:=by
 rw [aA,← h.rel,SZ];rfl
theorem z8 (g:Nat) (A:Option Nat) (cap:Nat) (L:List En) (R:List Blk) (w0:World) (hlen:L.length≤1000):
 FnIn Tryz.prog 56 [.pointer (some ⟨g,0,none⟩)] w0 (rgB g A cap L++R) fun v H=> ∃ A' cap',v=sl A' (L.map En.at_).length cap' ∧H= .own A' 28 2 (L.map En.at_).length cap' ((L.map En.at_).flatMap aB)::(rgB g A cap L++R):=by
 refine bF Tryz.func56 rfl Tryz.ntmps56 rfl ?_;refine aI 28 2 ?_;unfold rgB;rw [RA];repeat' (first|refine zZB ?_|refine sM fun _=>?_|(refine sC ?_ ?_<;>intro hb<;>try omega)|fail)
 refine aw [0] rfl (fun y:Nat × Option Nat × Nat=> [(3,sl y.2.1 y.1 y.2.2),(4,.int .i64 (y.1:Int))]) (fun y=> .own y.2.1 28 2 y.1 y.2.2 (((L.take y.1).map En.at_).flatMap aB):: .box g 126 [sl A L.length cap]:: .own A 172 4 L.length cap (L.flatMap cz)::R) (fun y=>y.1≤L.length) (fun y=>L.length - y.1) (0,none,0) (QZ _) sB (by simp only [Re,QV,QW,SK,SE,RN];exact mS) ?_;rintro ⟨i,A3,c3⟩ hi;dsimp only at hi ⊢;by_cases hlt:i<L.length
 ·refine bg (A:=A) pK (by omega) fun gl hA=> ?_;subst hA;have hc:=jq hlt;have hnx:(L.take (i+1)).map En.at_=(L.take i).map En.at_++ [L[i].at_]:=by rw [Ra hlt,Sh];rfl
  generalize L[i]=e at hc hnx;repeat' (first|(apply ai;exact rfl;apply ag (j:=i);exact rfl;exact rfl;exact hlt)|(apply ai;exact rfl;apply aO (ys:=aB e.at_);exact rfl;exact pK;exact hc;exact rfl)|(apply aD;(iterate 3 exact rfl);exact pK;exact pK;exact rfl;(simp [aB,Value.oneCell']);omega;(simp only [maxLen];omega);intro g8 c8)|refine zZA ?_|refine sM fun _=>?_|(refine sC ?_ ?_<;>intro hb<;>try omega)|fail)
  all_goals first
   |(exfalso;omega)
   | (refine ⟨(i + 1, some g8, c8), hlt, (by dsimp only; omega), sB, sB, ?_⟩
      dsimp only;rw [hnx];simp only [Rp,Rl,RN,Rc,Re,QV,QW];exact mS)
 ·have e2:i=L.length:=by omega
  subst e2;rw [RS];repeat' (first|refine zZA ?_|refine sM fun _=>?_|(refine sC ?_ ?_<;>intro hb<;>try omega)|fail)
  all_goals first
   |(exfalso;omega)
   |exact bJ eIO rfl rfl (H' := .own A3 28 2 L.length c3 ((L.map En.at_).flatMap aB)::(rgB g A cap L++R)) (by unfold rgB;simp only [Re,QV,QW];exact mS) ⟨A3,c3,rfl,rfl⟩
end Go.SL
namespace Go.SL
open Go Go.Proofs Go.Sort Go.Shelf
attribute [local irreducible] W WL WQ WG WA WX WLI WR WT WC WE VOp RW thn blk bH scp aV bz bP FnAt FnIn FnP ceP
def aF (n:Nat) (f:Nat→Bool):List Value:=(List.range n).map fun k=> .bool (f k)
theorem eD (n:Nat) (f:Nat→Bool):(aF n f).length=n:=by simp [aF]
theorem bN {n:Nat} {f:Nat→Bool} {k:Nat} (h:k<n):(aF n f)[0+k*1]? =some (.bool (f k)):=by
 unfold aF;rw [Rv,RV,Rj,RT h];rfl
theorem eY {n:Nat} {f:Nat→Bool} {k:Nat} {v:Bool}:(aF n f).set (0+k*1) (.bool v)=aF n (fun j=>if j=k then v else f j):=by
 rw [Rv,RV];apply Sz;intro j;unfold aF;by_cases hj:j<n
 ·by_cases e:k=j
  ·subst e;rw [List.getElem?_set_self (by simpa using hj),Rj,RT hj];simp
  ·rw [List.getElem?_set_ne e,Rj,Rj,RT hj];have e2: ¬ j=k:=fun h=>e h.symm;simp [e2]
 ·rw [Ry (by simp;omega),Ry (by simp;omega)]
theorem aP {n:Nat} {f g:Nat→Bool} (h: ∀ k,k<n→f k=g k):aF n f=aF n g:=by
 unfold aF;exact Sx fun k hk=>by rw [h k (RH.1 hk)]
def fO (n A:Nat) (f:Nat→Bool):Blk:= .own (some A) 4 1 n n (aF n f)
def gR (n:Nat):List Nat→(Nat→Nat→Bool)→Nat→List Blk
 | [],_,_=> []
 |A::As,M,j=>fO n A (M j)::gR n As M (j+1)
theorem qi {n:Nat}: ∀ (As:List Nat) {M M' :Nat→Nat→Bool} (j:Nat),(∀ i k,j≤i→i<j+As.length→k<n→M i k=M' i k)→gR n As M j=gR n As M' j
 | [],_,_,_,_=>rfl
 |A::As,M,M',j,h=>by
  rw [gR,gR,qi As (j+1) fun i k h1 h2=>h i k (by omega) (by rw [Rk];omega),fO,fO,aP fun k hk=>h j k (Rg _) (by rw [Rk];omega) hk]
theorem y5 {n:Nat} (A:Nat): ∀ (As:List Nat) (M:Nat→Nat→Bool) (j:Nat),gR n (As++ [A]) M j=gR n As M j++ [fO n A (M (j+As.length))]
 | [],M,j=>rfl
 |B::As,M,j=>by
  rw [QV,gR,gR,y5 A As M (j+1),QV,Rk,show j+1+As.length=j+(As.length+1) by omega]
theorem sr {n:Nat}: ∀ (As:List Nat) (M:Nat→Nat→Bool) (j b:Nat) (h:b<As.length),fO n As[b] (M (j+b))∈gR n As M j
 |A::As,M,j,0,_=>QY
 |A::As,M,j,b+1,h=>by
  have h1:=sr (n:=n) As M (j+1) b (by rw [Rk] at h;omega);rw [show j+1+b=j+(b+1) by omega] at h1;exact Rh _ h1
theorem wL {n:Nat}: ∀ (As:List Nat) (M:Nat→Nat→Bool) (j i:Nat) (h:i<As.length),∃ Rs,(∀ M',(∀ a,a≠j+i→M' a=M a)→(gR n As M' j).Perm (fO n As[i] (M' (j+i))::Rs))∧ ∀ b (hb:b<As.length),b≠i→fO n As[b] (M (j+b))∈Rs
 |A::As,M,j,0,_=>⟨gR n As M (j+1),fun M' h=>by
  have e:gR n As M' (j+1)=gR n As M (j+1):=qi As (j+1) fun a k h1 _ _=>by rw [h a (by omega)]
  rw [gR,e];exact List.Perm.refl _,fun b hb h0=>by
  match b,hb,h0 with
  |b+1,hb,_=>
   have h1:=sr (n:=n) As M (j+1) b (by rw [Rk] at hb;omega);rw [show j+1+b=j+(b+1) by omega] at h1;exact h1⟩
 |A::As,M,j,i+1,h=>by
  obtain ⟨Rs,hR,hM⟩:=wL As M (j+1) i (by rw [Rk] at h;omega);refine ⟨fO n A (M j)::Rs,fun M' hM=> ?_,fun b hb h0=> ?_⟩
  ·have h1:=hR M' fun a ha=>hM a (by omega);rw [gR,hM j (by omega)];rw [show j+1+i=j+(i+1) by omega] at h1;exact (h1.cons _).trans (List.Perm.swap _ _ _)
  ·match b,hb,h0 with
   |0,_,_=>exact QY
   |b+1,hb,h0=>
    have h1:=hM b (by rw [Rk] at hb;omega) (by omega);rw [show j+1+b=j+(b+1) by omega] at h1;exact Rh _ h1
theorem Lo {n:Nat} (As:List Nat) (M:Nat→Nat→Bool) {i:Nat} (h:i<As.length):fO n As[i] (M i)∈gR n As M 0:=by
 have:=sr (n:=n) As M 0 i h;rwa [Rv] at this
theorem yK {K:List Rf} {b:Nat→Bool}: ∀ n,(jP K b n).length≤n
 |0=>Rg _
 |n+1=>by
  have:=yK (K:=K) (b:=b) n;rw [jP,QT];split
  ·split<;>simp<;>omega
  ·simp;omega
theorem vQ {K:List Rf} {b:Nat→Bool} {n:Nat} (h:n<K.length):jP K b (n+1)=if b n then jP K b n++ [K[n]] else jP K b n:=by
 rw [jP,QU h];cases b n<;>simp
theorem HJ (g:Nat) (A:Option Nat) (cap:Nat) (L:List En) (gb:Nat) (b:Nat→Bool) (R:List Blk) (w0:World) (hlen:L.length≤1000):
 FnIn Tryz.prog 50 [.pointer (some ⟨g,0,none⟩),.slice (some ⟨gb,0,none⟩) L.length L.length] w0 (rgB g A cap L++(fO L.length gb b::R)) fun v H=> ∃ A' c',v=sl A' (jP (L.map En.at_) b L.length).length c' ∧H= .own A' 28 2 (jP (L.map En.at_) b L.length).length c' ((jP (L.map En.at_) b L.length).flatMap aB)::(rgB g A cap L++(fO L.length gb b::R)):=by
 refine bF Tryz.func50 rfl Tryz.ntmps50 rfl ?_;refine aI 28 2 ?_;unfold rgB fO;simp only [Re,QV,QW];repeat' (first|refine zZB ?_|refine sM fun _=>?_|(refine sC ?_ ?_<;>intro hb<;>try omega)|fail)
 refine aw [0,1] rfl (fun y:Nat × Option Nat × Nat=> [(5,sl y.2.1 (jP (L.map En.at_) b y.1).length y.2.2),(6,.int .i64 (y.1:Int))]) (fun y=> .own y.2.1 28 2 (jP (L.map En.at_) b y.1).length y.2.2 ((jP (L.map En.at_) b y.1).flatMap aB):: .box g 126 [sl A L.length cap]:: .own A 172 4 L.length cap (L.flatMap cz):: .own (some gb) 4 1 L.length L.length (aF L.length b)::R) (fun y=>y.1≤L.length) (fun y=>L.length - y.1) (0,none,0) (QZ _) sB mS ?_;rintro ⟨i,A3,c3⟩ hi;dsimp only at hi ⊢;by_cases hlt:i<L.length
 ·refine bg (A:=A) pK (by omega) fun gl hA=> ?_;subst hA;have hc:=jq hlt;have hg:=bN (f:=b) hlt;have hss:=vQ (K:=L.map En.at_) (b:=b) (n:=i) (by rw [RA];exact hlt);rw [UV] at hss;have hsl:=yK (K:=L.map En.at_) (b:=b) i;generalize L[i]=e at hc hss;generalize jP (L.map En.at_) b i=S at hss hsl
  cases hb1:b i with
  |true=>
    rw [hb1] at hg hss;rw [if_pos rfl] at hss;repeat' (first|(apply ai (d:=15);exact rfl;apply ag (j:=i);exact rfl;exact rfl;exact hlt)|(apply ai (d:=16);exact rfl;apply aq;exact rfl;exact pK;exact hg)|(apply ai (d:=23);exact rfl;apply ag (j:=i);exact rfl;exact rfl;exact hlt)|(apply ai (d:=25);exact rfl;apply aO (ys:=aB e.at_);exact rfl;exact pK;exact hc;exact rfl)|(apply aD;(iterate 3 exact rfl);exact pK;exact pK;exact rfl;(simp [aB,Value.oneCell']);omega;(simp only [maxLen];omega);intro g8 c8)|refine zZA ?_|refine sM fun _=>?_|(refine sC ?_ ?_<;>intro hb<;>try omega)|fail)
    all_goals first
     |(exfalso;omega)
     | (refine ⟨(i + 1, some g8, c8), hlt, (by dsimp only; omega), (by dsimp only; rw [hss, List.length_append]; exact sB), sB, ?_⟩
        dsimp only;rw [hss,QT,Rp,Rl,RN,Rc];exact mS)
  |false=>
    rw [hb1] at hg hss;rw [if_neg (by simp)] at hss;repeat' (first|(apply ai (d:=15);exact rfl;apply ag (j:=i);exact rfl;exact rfl;exact hlt)|(apply ai (d:=16);exact rfl;apply aq;exact rfl;exact pK;exact hg)|refine zZA ?_|refine sM fun _=>?_|(refine sC ?_ ?_<;>intro hb<;>try omega)|fail)
    all_goals first
     |(exfalso;omega)
     | (refine ⟨(i + 1, A3, c3), hlt, (by dsimp only; omega), (by dsimp only; rw [hss]; exact sB), sB, ?_⟩
        dsimp only;rw [hss];exact mS)
 ·have e2:i=L.length:=by omega
  subst e2;repeat' (first|refine zZA ?_|refine sM fun _=>?_|(refine sC ?_ ?_<;>intro hb<;>try omega)|fail)
  all_goals first
   |(exfalso;omega)
   |exact bJ eIO rfl rfl mS ⟨A3,c3,rfl,rfl⟩
end Go.SL
namespace Go.SL
open Go
def lD {κ:Type} (K:List κ) (j:Nat):List (κ × Value × Nat):=(K.zipIdx j).map fun x=>(x.1,.int .i64 ((x.2:Nat):Int),x.2)
def ia {κ:Type} (K:List κ):List (κ × Value × Nat):=lD K 0
theorem iQ {κ:Type} (a:κ) (K:List κ) (j:Nat):lD (a::K) j=(a,.int .i64 ((j:Nat):Int),j)::lD K (j+1):=by simp [lD,UU]
theorem tM {κ:Type} (a:κ): ∀ (K:List κ) (j:Nat),lD (K++ [a]) j=lD K j++ [(a,.int .i64 ((j+K.length:Nat):Int),j+K.length)]
 | [],j=>rfl
 |b::K,j=>by
  rw [QV,iQ,iQ,tM a K (j+1),QV,Rk,show j+1+K.length=j+(K.length+1) by omega]
theorem kR {κ:Type} [DecidableEq κ] (a:κ): ∀ (K:List κ) (j i:Nat),a∉K→cx a (lD K j) i=none
 | [],_,_,_=>rfl
 |b::K,j,i,h=>by
  rw [iQ,cx,if_neg (fun e=>h (by rw [e];exact QY))];exact kR a K _ _ (fun hs=>h (Rh _ hs))
theorem sv {κ:Type} [DecidableEq κ]: ∀ (K:List κ) (p j i:Nat) (h:p<K.length),K.Nodup→cx K[p] (lD K j) i=some (i+p,.int .i64 ((j+p:Nat):Int))
 |b::K,0,j,i,_,_=>by
  rw [iQ,cx];exact if_pos rfl
 |b::K,p+1,j,i,h,hn=>by
  rw [Te] at hn;have hp:p<K.length:=Ux h;rw [List.getElem_cons_succ,iQ,cx,if_neg (fun (e:K[p]=b)=>hn.1 (e ▸ RL hp)),sv K p (j+1) (i+1) hp hn.2,show i+1+p=i+(p+1) by omega,show j+1+p=j+(p+1) by omega]
theorem He {κ:Type} [DecidableEq κ] {K:List κ} {a:κ} (h:a∉K):nC a (.int .i64 ((K.length:Nat):Int)) K.length (ia K)=(ia (K++ [a]),K.length+1):=by
 unfold nC ia;rw [kR a K 0 0 h,tM,Rv]
theorem wO {κ:Type} [DecidableEq κ] {K:List κ} (hn:K.Nodup) {p:Nat} (h:p<K.length) (z:Value):(match cx K[p] (ia K) 0 with|some (_,v)=>v|none=>z)= .int .i64 ((p:Nat):Int):=by
 unfold ia;rw [sv K p 0 0 h hn,Rv]
theorem wP {κ:Type} [DecidableEq κ] {K:List κ} (hn:K.Nodup) {p:Nat} (h:p<K.length) (z:Value):(match cx K[p] (ia K) 0 with|some (_,v)=>Value.tuple #[v,.bool true]|none=> .tuple #[z,.bool false])= .tuple #[.int .i64 ((p:Nat):Int),.bool true]:=by
 unfold ia;rw [sv K p 0 0 h hn,Rv]
theorem tO {κ:Type} [DecidableEq κ] {K:List κ} {a:κ} (h:a∉K) (z:Value):(match cx a (ia K) 0 with|some (_,v)=>Value.tuple #[v,.bool true]|none=> .tuple #[z,.bool false])= .tuple #[z,.bool false]:=by
 unfold ia;rw [kR a K 0 0 h]
def pq (K:List Rf) (i:Nat):Rf:=(K[i]?).getD ⟨0,0⟩
def dD (K:List Rf) (l:List Nat):List Rf:=l.map (pq K)
theorem od {K:List Rf} {i:Nat} (h:i<K.length):pq K i=K[i]:=by simp [pq,h]
theorem oC (K:List Rf) (l:List Nat):(dD K l).length=l.length:=by simp [dD]
theorem kw (K:List Rf) (l:List Nat) (i:Nat):dD K (l++ [i])=dD K l++ [pq K i]:=by simp [dD]
theorem yJ {K:List Rf} {b:Nat→Bool}: ∀ n,n≤K.length→jP K b n=dD K ((List.range n).filter b)
 |0,_=>rfl
 |n+1,h=>by
  rw [vQ (by omega),yJ n (by omega),Tx,TL]
  cases hb:b n with
  |true=>
   rw [if_pos rfl,Tq,if_pos hb,T9,kw,od (by omega)]
  |false=>
   rw [if_neg (by simp),Tq,if_neg (by simp [hb]),T9,Rc]
theorem gA {n:Nat} (b:Nat→Bool):(List.range (n+1)).filter b=if b n=true then (List.range n).filter b++ [n] else (List.range n).filter b:=by
 rw [Tx,TL,Tq];split<;>simp
theorem Jg {G:Gr} (hG:GrOk G):(List.range G.length).map (fY (aA G) (bW G))=aM G:=by
 unfold aM;refine Sx fun i hi=> ?_;have hi:=RH.1 hi;rw [Dj hG hi];unfold au aM;rw [Rj,RT hi]
 rfl
noncomputable def onB (X:Nx) (v:Nat):Bool:= @decide (onC X v) (Classical.propDecidable _)
noncomputable def rE (X:Nx) (v:Nat):Bool:= @decide (eX X v) (Classical.propDecidable _)
theorem Hk {X:Nx} {v:Nat}:onB X v=true↔onC X v:=by unfold onB;exact @decide_eq_true_iff _ (Classical.propDecidable _)
theorem sZ {X:Nx} {v:Nat}:rE X v=true↔eX X v:=by unfold rE;exact @decide_eq_true_iff _ (Classical.propDecidable _)
noncomputable def Lz (X:Nx):List Nat:=(List.range X.length).filter (onB X)
noncomputable def w6 (X:Nx):List Nat:=(List.range X.length).filter fun v=> !rE X v
theorem Ly {X:Nx} {l:List Nat} (ha:l.Pairwise (· < ·)) (hm: ∀ v,v∈l↔v<X.length∧onC X v):l=Lz X:=
 Gm ha fun v=>by rw [hm,Hk]
theorem Od {G:Gr} {i:Nat}:aQ G G.length i i=onB (aM G) i:=by
 rw [Sc,Lw,Hk]
theorem zA {G:Gr} {i:Nat}:(aQ G G.length i i||(List.range G.length).any fun k=>aQ G G.length i k && aQ G G.length k k)=rE (aM G) i:=by
 rw [Sc,Eb,sZ]
theorem Jz (X:Nx):(w6 X).Pairwise (· < ·):=si _ _
theorem mH {X:Nx} {i:Nat}:i∈w6 X↔i<X.length∧ ¬ eX X i:=by
 unfold w6;rw [ST,RH,UT,← Bool.not_eq_true,sZ]
theorem FI {G:Gr}:SubN (aQ G G.length) G.length (w6 (aM G)) (cF (aM G) (w6 (aM G))):=
 I2 (fun i k=>fG) (Jz _) (fun i hi=>by have:=(mH.1 hi).1;rwa [cH] at this) (fun i hi=>(mH.1 hi).2) fun i hi k hk=>mH.2 ⟨qU i k hk,Dg (mH.1 hi).2 hk⟩
end Go.SL
