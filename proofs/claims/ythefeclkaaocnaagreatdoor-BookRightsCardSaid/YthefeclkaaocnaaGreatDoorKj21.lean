/-
  Lemmas and walks, put together: R10 R11 R12 Q6.
-/
import Derived.Test.YthefeclkaaocnaaGreatDoorKj20
set_option linter.unusedSimpArgs false
set_option linter.unusedVariables false
set_option maxRecDepth 20000
namespace Go.SL
open Go Go.Proofs
attribute [local irreducible] W WL WQ WG WA WX WLI WR WT WC VOp RW thn blk bG scp bg bi bT aQ FnIn FnP ceP
def opB (k:Int):ByteArray:=
 if k=1 then ⟨#[43]⟩ else if k=2 then ⟨#[45]⟩ else if k=3 then ⟨#[42]⟩ else if k=4 then ⟨#[47]⟩ else if k=5 then ⟨#[94]⟩ else if k=6 then ⟨#[38]⟩ else if k=7 then ⟨#[61]⟩
 else if k=8 then ⟨#[60,62]⟩ else if k=9 then ⟨#[60]⟩ else if k=10 then ⟨#[60,61]⟩ else if k=11 then ⟨#[62]⟩ else if k=12 then ⟨#[62,61]⟩ else if k=13 then ⟨#[37]⟩ else ⟨#[]⟩
theorem ub (k:Int) (w:World):ax Tryz.prog 341 [.int .i64 k] w (.string (opB k)):=by
 refine aq Tryz.func341 rfl Tryz.ntmps341 rfl ?_
 repeat' (first|(refine rT1 ?_)|refine sT ?_|refine sS ?_|refine sM fun _=> ?_|(refine sC ?_ ?_<;>intro hb<;>try omega)|fail)
 all_goals
  unfold opB
  repeat (first|rw [if_pos (by assumption)]|rw [if_neg (by assumption)])
theorem xR (a:ByteArray) (ha:a.size≤256) (i:Nat) (hi:i≤a.size) (s:ByteArray) (hs:s.size≤1000) (w:World):ax Tryz.prog 340 [.string a,.int .i64 (i:Int),.string s] w (.bool (decide ((((ap a).drop i).take s.size).map upC=ap s))):=by
 refine aq Tryz.func340 rfl Tryz.ntmps340 rfl ?_
 have hl:=av a
 have hU:=fun h:i+s.size≤a.size=>fun w=>j8 (sub a i (i+s.size)) (by rw [bW a h];omega) w
 repeat' (first|(apply aa (f:=249);exact rfl;exact rfl;(intro w' hm;exact hU (by omega) w'))|(apply ak (d:=21);exact rfl;apply fD (lo:=i) (hi:=i+s.size);(iterate 3 exact rfl);exact ⟨by omega,by omega⟩)|(refine rT1 ?_)|refine sT ?_|refine sS ?_|refine sT2 ?_|refine sN ?_|refine sM fun _=> ?_|(refine sC ?_ ?_<;>intro hb<;>try omega)|fail)
 ·
  have:(upB (sub a i (i+s.size))=s)=((((ap a).drop i).take s.size).map upC=ap s):=by
   rw [eq_iff_iff]
   constructor
   ·
    intro h
    rw [← h,p9,pP,h]
   ·
    intro h
    apply uH
    rw [p9,pP,h]
  simp only [this]
 ·
  rw [decide_eq_false]
  intro h
  have:=congrArg List.length h
  rw [OV,NZ,NP,hl,av] at this
  omega
def CT (z:Nat) (k:Nat):List (List Int × Int):=((List.range' k (14 - k)).map fun (j:Nat)=>(ap (opB (j:Int)),(j:Int))).filter fun x=>decide (x.1.length=z)
def KC:Nat→List (List Int × Int)
 |0=> []
 |z+1=>CT (z+1) 1++KC z
theorem IB:KC 2=eP:=by decide+kernel
theorem FN {z k:Nat} (h:k≤13):CT z k=if (opB (k:Int)).size=z then (ap (opB (k:Int)),(k:Int))::CT z (k+1) else CT z (k+1):=by
 unfold CT
 rw [show 14 - k=(13 - k)+1 by omega,List.range'_succ,Ow,Qz,show 14 - (k+1)=13 - k by omega]
 simp only [av,decide_eq_true_eq]
theorem IA (z:Nat):CT z 14= []:=rfl
theorem KE {l:List Int} {s:List Int} {k:Int} {r:List (List Int × Int)} (h:l.take s.length=s):opL l ((s,k)::r)=some (k,s.length):=by
 rw [opL,if_pos h]
theorem Mk (k:Nat) (h:k≤13): ∀ c∈ap (opB (k:Int)),¬ (65≤c∧c≤90)∧ ¬ (97≤c∧c≤122):=by
 rcases (by omega:k=0∨k=1∨k=2∨k=3∨k=4∨k=5∨k=6∨k=7∨k=8∨k=9∨k=10∨k=11∨k=12∨k=13) with rfl|rfl|rfl|rfl|rfl|rfl|rfl|rfl|rfl|rfl|rfl|rfl|rfl|rfl<;>decide+kernel
theorem Ek {s:List Int} (hs: ∀ c∈s,¬ (65≤c∧c≤90)∧ ¬ (97≤c∧c≤122)): ∀ l:List Int,l.map upC=s↔l=s:=by
 induction s with
 |nil=>intro l;simp
 |cons d s ih=>
  intro l
  cases l with
  |nil=>simp
  |cons c l=>
   simp only [Ow,List.cons.injEq,ih (fun c hc=>hs c (NQ _ hc)) l]
   have hd:=hs d NI
   have:upC c=d↔c=d:=by
    unfold upC
    split<;>omega
   rw [this]
theorem xj {k:Nat} (h:k<5):ap (cB.getD (k+1) au)=dI.getD k []∧dI.drop k=dI.getD k []::dI.drop (k+1)∧(cB.getD (k+1) au).size≤10:=by
 rcases (by omega:k=0∨k=1∨k=2∨k=3∨k=4) with rfl|rfl|rfl|rfl|rfl<;>decide+kernel
set_option maxHeartbeats 2000000 in
theorem Cy (a:ByteArray) (ha:a.size≤256) (i:Nat) (hi:i<a.size) (w:World):aQ Tryz.prog 322 [.string a,.int .i64 (i:Int)] w fun v H=>H= []∧TokR i (jn ((ap a).drop i)) v:=by
  refine aq Tryz.func322 rfl Tryz.ntmps322 rfl ?_
  have hl:=av a
  have hh:((ap a).drop i).headD 0=bat a i:=nC
  have hB:=fun s hs w=>xR a ha i (by omega) s hs w
  obtain ⟨l,hll⟩: ∃ l,(ap a).drop i=l:=⟨_,rfl⟩
  rw [hll] at hh hB ⊢
  obtain ⟨F,hF⟩: ∃ F,jV l dI 1=F:=⟨_,rfl⟩
  repeat' (first|refine sT ?_|refine sS ?_|refine sT2 ?_|refine sM fun _=> ?_|(refine sC ?_ ?_<;>intro hb<;>try omega)|fail)
  rename_i g4
  refine ay [0,1,4] rfl (fun k:Nat=> [(7,.int .i64 ((k+1:Nat):Int))]) (fun _=> [.box g4 295 (aY cY)]) (fun k=>k≤5∧F=jV l (dI.drop k) ((k+1:Nat):Int)) (fun k=>5 - k) 0 ⟨by omega,hF.symm⟩ sB mS ?_
  rintro k ⟨hk,hFk⟩
  by_cases hk5:k<5
  · obtain ⟨hn1,hn2,hn3⟩:=xj hk5
    have hS:=fun w=>Cz ((k+1:Nat):Int) (by omega) (by omega) w
    rw [OZ] at hS
    obtain ⟨s,hs⟩: ∃ s,cB.getD (k+1) au=s:=⟨_,rfl⟩
    rw [hs] at hS hn1 hn3
    have hBs:=hB s (by omega)
    rw [hn2,jV,← hn1,av] at hFk
    by_cases hb:(l.take s.size).map upC=ap s
    · rw [if_pos hb] at hFk
      rw [decide_eq_true hb] at hBs
      repeat' (first|(apply aa (f:=339);exact rfl;exact rfl;(intro w' hm;exact hS w'))|(apply aa (f:=340);exact rfl;exact rfl;(intro w' hm;exact hBs w'))|refine sT ?_|refine sS ?_|refine sT2 ?_|refine sN ?_|refine sM fun _=> ?_|(refine sC ?_ ?_<;>intro hb<;>try omega)|fail)
      all_goals
        first
        |(exfalso;omega)
        |((refine cG ?_);refine ⟨rfl,?_⟩;rw [jn,ku,hF,hFk];rfl)
    · rw [if_neg hb] at hFk
      rw [decide_eq_false hb] at hBs
      repeat' (first|(apply aa (f:=339);exact rfl;exact rfl;(intro w' hm;exact hS w'))|(apply aa (f:=340);exact rfl;exact rfl;(intro w' hm;exact hBs w'))|refine sT ?_|refine sS ?_|refine sT2 ?_|refine sN ?_|refine sM fun _=> ?_|(refine sC ?_ ?_<;>intro hb<;>try omega)|fail)
      all_goals
        first
        |(exfalso;omega)
        |exact ⟨k+1,⟨by omega,hFk⟩,by omega,sB,sB,.refl _⟩
  have ek:k=5:=by omega
  subst ek
  have hsr:jn l=gX l:=by
    rw [jn,ku,hF,hFk];rfl
  rw [hsr]
  clear hF hFk hsr hk hk5
  obtain ⟨O,hO⟩: ∃ O,opL l eP=O:=⟨_,rfl⟩
  repeat' (first|refine sT ?_|refine sS ?_|refine sT2 ?_|refine sM fun _=> ?_|(refine sC ?_ ?_<;>intro hb<;>try omega)|fail)
  refine ay [0,1,4] rfl (fun z:Nat=> [(9,.int .i64 (z:Int))]) (fun _=> [.box g4 295 (aY cY)]) (fun z=>z≤2∧O=opL l (KC z)) (fun z=>z) 2 ⟨by omega,by rw [IB,hO]⟩ sB mS ?_
  rintro z ⟨hz,hOz⟩
  cases z with
  |zero=>
    have hOn:O=none:=hOz
    subst hOn
    have hsp:gX l=if bat a i=40 then some (⟨9,0,au,aM,0⟩,1) else if bat a i=41 then some (⟨10,0,au,aM,0⟩,1) else if bat a i=44 then some (⟨11,0,au,aM,0⟩,1) else none:=by
      unfold gX
      rw [hO,hh]
    rw [hsp]
    repeat' (first|(apply ak (d:=58);exact rfl;apply aV (j:=i);exact rfl;exact rfl;omega)|refine sT ?_|refine sS ?_|refine sT2 ?_|refine sN ?_|refine sM fun _=> ?_|(refine sC ?_ ?_<;>intro hb<;>try omega)|fail)
    all_goals
      first
      |(exfalso;omega)
      | ((refine cG ?_)
         refine ⟨rfl,?_⟩
         repeat (first|rw [if_pos (by assumption)]|rw [if_neg (by assumption)])
         first|exact rfl|exact ⟨cY,_,rfl⟩)
  |succ z=>
    repeat' (first|refine sT ?_|refine sS ?_|refine sT2 ?_|refine sM fun _=> ?_|(refine sC ?_ ?_<;>intro hb<;>try omega)|fail)
    all_goals try (exfalso;omega)
    refine ay [0,1,4,9] rfl (fun k:Nat=> [(10,.int .i64 (k:Int))]) (fun _=> [.box g4 295 (aY cY)]) (fun k=>1≤k∧k≤14∧O=opL l (CT (z+1) k++KC z)) (fun k=>14 - k) 1 ⟨by omega,by omega,hOz⟩ sB mS ?_
    rintro k ⟨hk1,hk2,hOk⟩
    by_cases hk14:k=14
    · subst hk14
      rw [IA,NH] at hOk
      repeat' (first|refine sT ?_|refine sS ?_|refine sT2 ?_|refine sN ?_|refine sM fun _=> ?_|(refine sC ?_ ?_<;>intro hb<;>try omega)|fail)
      all_goals
        first
        |(exfalso;omega)
        |exact ⟨z,⟨by omega,hOk⟩,by omega,sB,sB,.refl _⟩
    rw [FN (by omega)] at hOk
    obtain ⟨s,hs⟩: ∃ s,opB (k:Int)=s:=⟨_,rfl⟩
    have hu:=Mk k (by omega)
    have hP:=fun w=>ub (k:Int) w
    rw [hs] at hOk hu hP
    by_cases hsz:s.size=z+1
    · rw [if_pos hsz] at hOk
      have hBs:=hB s (by omega)
      by_cases hb:(l.take s.size).map upC=ap s
      · have hb2:=(Ek hu _).1 hb
        rw [← av] at hb2
        rw [NF,KE hb2,av,hsz] at hOk
        rw [decide_eq_true hb] at hBs
        have hsp:gX l=some (⟨8,k,au,aM,0⟩,z+1):=by
          unfold gX
          rw [hO,hOk]
        rw [hsp]
        repeat' (first|(apply aa (f:=341);exact rfl;exact rfl;(intro w' hm;exact hP w'))|(apply aa (f:=340);exact rfl;exact rfl;(intro w' hm;exact hBs w'))|refine sT ?_|refine sS ?_|refine sT2 ?_|refine sN ?_|refine sM fun _=> ?_|(refine sC ?_ ?_<;>intro hb<;>try omega)|fail)
        all_goals
          first
          |(exfalso;omega)
          |((refine cG ?_);exact ⟨rfl,rfl⟩)
      · have hb2: ¬ l.take s.size=ap s:=fun h=>hb ((Ek hu _).2 h)
        rw [← av] at hb2
        rw [NF,opL,if_neg hb2] at hOk
        rw [decide_eq_false hb] at hBs
        repeat' (first|(apply aa (f:=341);exact rfl;exact rfl;(intro w' hm;exact hP w'))|(apply aa (f:=340);exact rfl;exact rfl;(intro w' hm;exact hBs w'))|refine sT ?_|refine sS ?_|refine sT2 ?_|refine sN ?_|refine sM fun _=> ?_|(refine sC ?_ ?_<;>intro hb<;>try omega)|fail)
        all_goals
          first
          |(exfalso;omega)
          |exact ⟨k+1,⟨by omega,by omega,hOk⟩,by omega,sB,sB,.refl _⟩
    · rw [if_neg hsz] at hOk
      repeat' (first|(apply aa (f:=341);exact rfl;exact rfl;(intro w' hm;exact hP w'))|refine sT ?_|refine sS ?_|refine sT2 ?_|refine sN ?_|refine sM fun _=> ?_|(refine sC ?_ ?_<;>intro hb<;>try omega)|fail)
      all_goals
        first
        |(exfalso;omega)
        |exact ⟨k+1,⟨by omega,by omega,hOk⟩,by omega,sB,sB,.refl _⟩
theorem TokR.form {i:Nat} {o:Option (Tk × Nat)} {v:Value} (h:TokR i o v): ∃ (t:Tk) (n:Int) (b:Bool),v= .tuple #[.agg (aY t).toArray,.int .i64 n,.bool b]:=by
 cases o with
 |none=>
  obtain ⟨t,e,rfl⟩:=h
  exact ⟨t,e,false,rfl⟩
 |some x=>
  obtain ⟨t,n⟩:=x
  exact ⟨_,_,_,h⟩
set_option maxHeartbeats 2000000 in
theorem zB (a:ByteArray) (ha:a.size≤256) (i:Nat) (hi:i<a.size) (w:World):aQ Tryz.prog 299 [.string a,.int .i64 (i:Int)] w fun v H=>H= []∧TokR i (bC ((ap a).drop i)) v:=by
 refine aq Tryz.func299 rfl Tryz.ntmps299 rfl ?_
 have hl:=av a
 have hD:=fun w=>mX a (by omega) i w
 have hL:=fun w=>lX a (by omega) i w
 have hN:=fun h w=>xP a ha i hi h w
 have hT:=fun w=>Cw a ha i hi w
 have hWd:=fun h w=>Cv a ha i hi h w
 have hS:=fun w=>Cy a ha i hi w
 unfold bC
 rw [nC,show ((ap a).drop i).tail=(ap a).drop (i+1) by rw [P4]]
 by_cases h1:aC (bat a i)=true
 ·
  rw [if_pos h1]
  rw [h1] at hD
  replace hN:=hN h1
  repeat' (first|(apply aa (f:=317);exact rfl;exact rfl;(intro w' hm;exact hD w'))|(apply aG (f:=318);exact rfl;exact rfl;(intro w' hm;exact hN w');(rintro _ _ ⟨rfl,h⟩;obtain ⟨t,n,b,rfl⟩:=h.form))|refine sT ?_|refine sS ?_|refine sT2 ?_|refine sN ?_|refine sM fun _=> ?_|(refine sC ?_ ?_<;>intro hb<;>try omega)|fail)
  all_goals ((refine cG ?_);exact ⟨rfl,by assumption⟩)
 rw [if_neg h1]
 replace h1:aC (bat a i)=false:=by simpa using h1
 rw [h1] at hD
 by_cases h2:bat a i=34
 ·
  rw [if_pos h2]
  repeat' (first|(apply aa (f:=317);exact rfl;exact rfl;(intro w' hm;exact hD w'))|(apply aG (f:=319);exact rfl;exact rfl;(intro w' hm;exact hT w');(rintro _ _ ⟨rfl,h⟩;obtain ⟨t,n,b,rfl⟩:=h.form))|(apply ak (d:=20);exact rfl;apply aV (j:=i);exact rfl;exact rfl;omega)|refine sT ?_|refine sS ?_|refine sT2 ?_|refine sN ?_|refine sM fun _=> ?_|(refine sC ?_ ?_<;>intro hb<;>try omega)|fail)
  all_goals
   first
   |(exact absurd h2 (by assumption))
   |((refine cG ?_);exact ⟨rfl,by assumption⟩)
 rw [if_neg h2]
 by_cases h3:bN (bat a i)=true
 ·
  rw [if_pos h3]
  rw [h3] at hL
  replace hWd:=hWd h3
  repeat' (first|(apply aa (f:=317);exact rfl;exact rfl;(intro w' hm;exact hD w'))|(apply aa (f:=320);exact rfl;exact rfl;(intro w' hm;exact hL w'))|(apply aG (f:=321);exact rfl;exact rfl;(intro w' hm;exact hWd w');(rintro _ _ ⟨rfl,h⟩;obtain ⟨t,n,b,rfl⟩:=h.form))|(apply ak (d:=20);exact rfl;apply aV (j:=i);exact rfl;exact rfl;omega)|refine sT ?_|refine sS ?_|refine sT2 ?_|refine sN ?_|refine sM fun _=> ?_|(refine sC ?_ ?_<;>intro hb<;>try omega)|fail)
  all_goals
   first
   |(exact absurd (by assumption) h2)
   |((refine cG ?_);exact ⟨rfl,by assumption⟩)
 rw [if_neg h3]
 replace h3:bN (bat a i)=false:=by simpa using h3
 rw [h3] at hL
 repeat' (first|(apply aa (f:=317);exact rfl;exact rfl;(intro w' hm;exact hD w'))|(apply aa (f:=320);exact rfl;exact rfl;(intro w' hm;exact hL w'))|(apply aG (f:=322);exact rfl;exact rfl;(intro w' hm;exact hS w');(rintro _ _ ⟨rfl,h⟩;obtain ⟨t,n,b,rfl⟩:=h.form))|(apply ak (d:=20);exact rfl;apply aV (j:=i);exact rfl;exact rfl;omega)|refine sT ?_|refine sS ?_|refine sT2 ?_|refine sN ?_|refine sM fun _=> ?_|(refine sC ?_ ?_<;>intro hb<;>try omega)|fail)
 all_goals
  first
  |(exact absurd (by assumption) h2)
  |((refine cG ?_);exact ⟨rfl,by assumption⟩)
set_option maxHeartbeats 4000000 in
theorem xO (a:ByteArray) (w:World):
    aQ Tryz.prog 255 [.string a] w fun v H=> ∃ A cap,v=Ep A cap (bL bC (ap a))∧H= [.own A 295 8 (bL bC (ap a)).1.length cap ((bL bC (ap a)).1.flatMap aY)]:=by
  refine aq Tryz.func255 rfl Tryz.ntmps255 rfl ?_
  have hl:=av a
  unfold bL
  refine aP 295 8 ?_
  by_cases hlen:256<(ap a).length
  · rw [if_pos hlen]
    repeat' (first|refine sT ?_|refine sS ?_|refine sT2 ?_|refine sM fun _=> ?_|(refine sC ?_ ?_<;>intro hb<;>try omega)|fail)
    all_goals try (exfalso;omega)
    exact ou (.inl rfl) rfl rfl rfl rfl (.refl _) ⟨none,0,rfl,rfl⟩
  rw [if_neg hlen]
  repeat' (first|refine sT ?_|refine sS ?_|refine sT2 ?_|refine sM fun _=> ?_|(refine sC ?_ ?_<;>intro hb<;>try omega)|fail)
  all_goals try (exfalso;omega)
  refine ay [0] rfl (fun i:Nat=> [(5,.int .i64 (i:Int))]) (fun _=> [.own none 295 8 0 0 []]) (fun i=>i≤a.size∧ ∀ j,j<i→bq (bat a j)=true) (fun i=>a.size - i) 0 ⟨by omega,fun j h=>by omega⟩ sB mS ?_
  rintro i ⟨hi,hpl⟩
  by_cases hlt:i<a.size
  · repeat' (first|(apply ak (d:=22);exact rfl;apply aV (j:=i);exact rfl;exact rfl;omega)|(apply ak (d:=27);exact rfl;apply aV (j:=i);exact rfl;exact rfl;omega)|refine sT ?_|refine sS ?_|refine sT2 ?_|refine sN ?_|refine sM fun _=> ?_|(refine sC ?_ ?_<;>intro hb<;>try omega)|fail)
    all_goals first
      |(exfalso;omega)
      | (have hf : (ap a).findIdx? (fun c => !bq c) = some i := by
           refine nF hlt ?_ fun j hj=>by rw [hpl j hj];rfl
           simp only [bq,Bool.not_eq_true',OQ,decide_eq_false_iff_not]
           omega
         rw [hf]
         exact ou (.inl rfl) rfl rfl rfl rfl (.refl _) ⟨none,0,rfl,rfl⟩)
      | (refine ⟨i + 1, ?_, (by first | omega | (dsimp only; omega)), sB, sB, mS⟩
         refine ⟨hlt,fun j hj=> ?_⟩
         rcases (by omega:j<i∨j=i) with h|rfl
         · exact hpl j h
         · simp only [bq,NK,decide_eq_true_eq]
           omega)
  have e:i=a.size:=by omega
  subst e
  have hf:(ap a).findIdx? (fun c=> !bq c)=none:=l5 fun j hj=>by rw [hpl j hj];rfl
  rw [hf]
  dsimp only
  repeat' (first|refine sT ?_|refine sS ?_|refine sT2 ?_|refine sN ?_|refine sM fun _=> ?_|(refine sC ?_ ?_<;>intro hb<;>try omega)|fail)
  all_goals try (exfalso;omega)
  generalize hT:ba bC (ap a) (ap a).length 0=T
  refine ay [0] rfl (fun x:Nat × List Tk × Option Nat × Nat=> [(6,sl x.2.2.1 x.2.1.length x.2.2.2),(7,.int .i64 (x.1:Int))]) (fun x=> [.own x.2.2.1 295 8 x.2.1.length x.2.2.2 (x.2.1.flatMap aY)])
    (fun x=>x.1≤a.size∧x.2.1.length≤x.1∧T=(ba bC (ap a) (a.size - x.1) x.1).map (x.2.1++ ·)) (fun x=>a.size - x.1) (0,[],none,0) ⟨by omega,by simp,by rw [← hT,hl];cases ba bC (ap a) a.size 0<;>rfl⟩ sB mS ?_
  rintro ⟨i,toks,A,cap⟩ ⟨hi2,hi3,hi4⟩
  dsimp only at hi2 hi3 hi4 ⊢
  by_cases hlt2:i<a.size
  · obtain ⟨f,hf1⟩: ∃ f,a.size - i=f+1:=⟨a.size - i - 1,by omega⟩
    rw [hf1] at hi4
    simp only [ba] at hi4
    have hdr:=aZ hlt2
    have hK:=zB a (by omega) i hlt2
    generalize hld:(ap a).drop i=ld at hi4 hdr hK
    rw [hdr] at hi4
    dsimp only at hi4
    by_cases h32:bat a i=32
    · rw [if_pos h32] at hi4
      repeat' (first|(apply ak (d:=37);exact rfl;apply aV (j:=i);exact rfl;exact rfl;omega)|refine sT ?_|refine sS ?_|refine sT2 ?_|refine sN ?_|refine sM fun _=> ?_|(refine sC ?_ ?_<;>intro hb<;>try omega)|fail)
      all_goals try (exfalso;omega)
      refine ⟨(i+1,toks,A,cap),?_,(by first|omega|(dsimp only;omega)),sB,sB,mS⟩
      exact ⟨hlt2,by dsimp only;omega,by dsimp only;rw [show a.size - (i+1)=f by omega];exact hi4⟩
    · rw [if_neg h32,← hdr] at hi4
      have hldl:ld.length=a.size - i:=by rw [← hld,NP,hl]
      cases ho:bC ld with
      |none=>
        rw [ho] at hi4 hK
        dsimp only [Except.map] at hi4
        rw [hi4]
        refine aP 295 8 ?_
        repeat' (first|(apply ak (d:=37);exact rfl;apply aV (j:=i);exact rfl;exact rfl;omega)|(apply aG (f:=299);exact rfl;exact rfl;(intro w' hm;exact hK w');(rintro _ _ ⟨rfl,t,n,rfl⟩))|refine sT ?_|refine sS ?_|refine sT2 ?_|refine sN ?_|refine sM fun _=> ?_|(refine sC ?_ ?_<;>intro hb<;>try omega)|fail)
        all_goals try (exfalso;omega)
        exact ou (.inl rfl) rfl rfl rfl rfl (H' := [.own none 295 8 0 0 []]) mS ⟨none,0,rfl,rfl⟩
      |some x=>
        obtain ⟨t,m⟩:=x
        rw [ho] at hi4 hK
        dsimp only at hi4
        have hfit:=mP ld t m ho
        have hm0:0<m:=hfit.1
        repeat' (first|(apply ak (d:=37);exact rfl;apply aV (j:=i);exact rfl;exact rfl;omega)|(apply aG (f:=299);exact rfl;exact rfl;(intro w' hm;exact hK w');(rintro _ _ ⟨rfl,rfl⟩))|(apply aN;(iterate 3 exact rfl);exact pK;exact pK;exact rfl;(simp [aY,Value.oneCell']);omega;(simp only [maxLen];omega);intro g8 c8)|refine sT ?_|refine sS ?_|refine sT2 ?_|refine sN ?_|refine sM fun _=> ?_|(refine sC ?_ ?_<;>intro hb<;>try omega)|fail)
        all_goals try (exfalso;omega)
        refine ⟨(i+m,toks++ [{ t with at_:=(i:Int) }],some g8,c8),⟨by dsimp only;omega,by simp;omega,?_⟩,(by dsimp only;omega),?_,sB,?_⟩
        · dsimp only
          rw [hi4,pM mP f (a.size - (i+m)) f (i+m) (by omega) (by omega) (by omega)]
          cases ba bC (ap a) (a.size - (i+m)) (i+m)<;>simp [Except.map]
        · simp only [ND,NG]
          exact sB
        · simp only [ND,NG,NR,NU,Oy,NM]
          exact mS
  · have e:i=a.size:=by omega
    subst e
    rw [show a.size - a.size=0 by omega] at hi4
    simp only [ba,Except.map,NM] at hi4
    rw [hi4]
    repeat' (first|refine sT ?_|refine sS ?_|refine sT2 ?_|refine sN ?_|refine sM fun _=> ?_|(refine sC ?_ ?_<;>intro hb<;>try omega)|fail)
    all_goals try (exfalso;omega)
    exact ou (.inl rfl) rfl rfl rfl rfl (H' := [.own A 295 8 toks.length cap (toks.flatMap aY)]) mS ⟨A,cap,rfl,rfl⟩
set_option maxHeartbeats 4000000 in
theorem zP (f:Nat) (ih: ∀ f' ≤f,oC f' (.level 1) 256 [.int .i64 1]):oC (f+1) .prim 342 []:=by
  intro x k p B cb r R w0 hk hp hout hrun
  refine eC Tryz.func342 rfl Tryz.ntmps342 rfl ?_
  have hxt:=x.ht
  dsimp only at hrun
  obtain ⟨t,ht⟩: ∃ t,hdT x.fin p.l=t:=⟨_,rfl⟩
  have hd:hdT x.fin (x.toks.drop k)=t:=hp ▸ ht
  have hN:=fun w hm=>Cx.next hd (B:=B) (cb:=cb) (out:=p.out) (at_:=0) (e:=0) (w0:=w0) (H:=x.B k B cb p.out 0 0++R) ⟨R,.refl _⟩ w hm
  by_cases h7:t.kind=7
  · rw [wH _ _ _ (by rw [ht];exact h7),ht] at hrun
    have hlt:=Cx.lt hd (by omega)
    have hC:=Io f t ih x k p B cb r
    repeat' (first|(apply aa (f:=258);exact rfl;exact rfl;exact hN)|(apply aw (f:=356);exact rfl;exact rfl;exact FnIn.msub (hC _ w0 hlt hp hout ht h7 hrun) (MSub.pick pK (MSub.pick pK (MSub.pick pK (MSub.refl _))));rintro v1 H1 ⟨rfl,hR⟩)|refine sT ?_|refine sS ?_|refine sN ?_|refine sM fun _=> ?_|(refine sC ?_ ?_<;>intro hb<;>try omega)|fail)
    all_goals try (exfalso;omega)
    cases r with
    |error e=>
      obtain ⟨k1,B1,cb1,o1,j1,j2,j3,j4,rfl⟩:=hR
      refine eZ (k' :=k1) (out' :=o1) (B' :=B1) (cb' :=cb1) eIO rfl j1 j2 (by omega) (by omega) ?_
      simp only [Cx.B,rB,NN,NF,NH]
      exact mS
    |ok y=>
      obtain ⟨n1,p1⟩:=y
      obtain ⟨k1,B1,cb1,j1,j2,j3,j4,rfl⟩:=hR
      refine jQ (k' :=k1) (p' :=p1) (B' :=B1) (cb' :=cb1) eIO rfl j1 j2 (by omega) (by omega) ?_
      simp only [Cx.B,rB,NN,NF,NH]
      exact mS
  rw [bE] at hrun
  dsimp only at hrun
  rw [ht] at hrun
  by_cases h14:1≤t.kind∧t.kind≤4
  · rw [if_pos h14] at hrun
    have hlt:=Cx.lt hd (by omega)
    cases hrun
    rcases (by omega:t.kind=1∨t.kind=2∨t.kind=3∨t.kind=4) with hc|hc|hc|hc
    · have hl:l6 t=⟨1,⟨1,t.num,au⟩,aM,0,0,0⟩:=by simp [l6,hc]
      rw [hl]
      repeat' (first|(apply aa (f:=258);exact rfl;exact rfl;exact hN)|refine sT ?_|refine sS ?_|refine sN ?_|refine sM fun _=> ?_|(refine sC ?_ ?_<;>intro hb<;>try omega)|fail)
      all_goals try (exfalso;omega)
      refine jp 14 rfl (by kernel_rfl) ?_
      ((with_reducible apply aO (i:=0));exact rfl;exact rfl;decide+kernel;decide+kernel;decide+kernel;exact nP;(intro _ _;exact vP))
      ((with_reducible apply aO (i:=1));exact rfl;exact rfl;decide+kernel;decide+kernel;decide+kernel;exact nP;(intro _ _;exact vP))
      ((with_reducible apply aO (i:=2));exact rfl;exact rfl;decide+kernel;decide+kernel;decide+kernel;exact nP;(intro _ _;exact vP))
      ((with_reducible apply aO (i:=3));exact rfl;exact rfl;decide+kernel;decide+kernel;decide+kernel;exact nP;(intro _ _;exact vP))
      ((with_reducible apply aO (i:=5));exact rfl;exact rfl;decide+kernel;decide+kernel;decide+kernel;exact nP;(intro _ _;exact vP))
      repeat' (first|(apply cP (i:=4) (j:=6);exact rfl;exact rfl;decide+kernel)|(apply cP (i:=4) (j:=7);exact rfl;exact rfl;decide+kernel)|(apply cP (i:=4) (j:=8);exact rfl;exact rfl;decide+kernel)|(apply cP (i:=4) (j:=9);exact rfl;exact rfl;decide+kernel)|(apply aD (i:=4);exact rfl;decide+kernel)|(apply aD (i:=5);exact rfl;decide+kernel)|(apply aD (i:=6);exact rfl;decide+kernel)|(apply aD (i:=7);exact rfl;decide+kernel)|(apply aD (i:=8);exact rfl;decide+kernel)|(apply aD (i:=9);exact rfl;decide+kernel)|(apply aD (i:=10);exact rfl;decide+kernel)|(apply aD (i:=11);exact rfl;decide+kernel)|(apply aD (i:=12);exact rfl;decide+kernel)|(apply aD (i:=13);exact rfl;decide+kernel)|(apply jo;decide+kernel)|(apply aN;(iterate 3 exact rfl);exact pK;exact pK;exact rfl;(simp [cj,Value.oneCell']);omega;(simp only [maxLen];omega);intro g8 c8)|refine sT ?_|refine sS ?_|refine sN ?_|refine sM fun _=> ?_|(refine sC ?_ ?_<;>intro hb<;>try omega)|fail)
      all_goals first
        |(exfalso;omega)
        | (refine jQ (k' := k + 1) (p' := p.skip.put ⟨1, ⟨1, t.num, au⟩, aM, 0, 0, 0⟩) (B' := some g8) (cb' := c8) eIO rfl hlt (Cx.skip hp) (Ql k) (by simp only [PS.put, PS.skip, ND, NG]; omega) ?_
           simp only [PS.put,PS.skip,Cx.B,rB,ND,NG,NR,NU,Oy,NM,NN,NF,NH]
           exact mS)
    · have hl:l6 t=⟨1,⟨3,0,t.text⟩,aM,0,0,0⟩:=by simp [l6,hc]
      rw [hl]
      repeat' (first|(apply aa (f:=258);exact rfl;exact rfl;exact hN)|refine sT ?_|refine sS ?_|refine sN ?_|refine sM fun _=> ?_|(refine sC ?_ ?_<;>intro hb<;>try omega)|fail)
      all_goals try (exfalso;omega)
      refine jp 14 rfl (by kernel_rfl) ?_
      ((with_reducible apply aO (i:=0));exact rfl;exact rfl;decide+kernel;decide+kernel;decide+kernel;exact nP;(intro _ _;exact vP))
      ((with_reducible apply aO (i:=1));exact rfl;exact rfl;decide+kernel;decide+kernel;decide+kernel;exact nP;(intro _ _;exact vP))
      ((with_reducible apply aO (i:=2));exact rfl;exact rfl;decide+kernel;decide+kernel;decide+kernel;exact nP;(intro _ _;exact vP))
      ((with_reducible apply aO (i:=3));exact rfl;exact rfl;decide+kernel;decide+kernel;decide+kernel;exact nP;(intro _ _;exact vP))
      ((with_reducible apply aO (i:=5));exact rfl;exact rfl;decide+kernel;decide+kernel;decide+kernel;exact nP;(intro _ _;exact vP))
      repeat' (first|(apply cP (i:=4) (j:=6);exact rfl;exact rfl;decide+kernel)|(apply cP (i:=4) (j:=7);exact rfl;exact rfl;decide+kernel)|(apply cP (i:=4) (j:=8);exact rfl;exact rfl;decide+kernel)|(apply cP (i:=4) (j:=9);exact rfl;exact rfl;decide+kernel)|(apply aD (i:=4);exact rfl;decide+kernel)|(apply aD (i:=5);exact rfl;decide+kernel)|(apply aD (i:=6);exact rfl;decide+kernel)|(apply aD (i:=7);exact rfl;decide+kernel)|(apply aD (i:=8);exact rfl;decide+kernel)|(apply aD (i:=9);exact rfl;decide+kernel)|(apply aD (i:=10);exact rfl;decide+kernel)|(apply aD (i:=11);exact rfl;decide+kernel)|(apply aD (i:=12);exact rfl;decide+kernel)|(apply aD (i:=13);exact rfl;decide+kernel)|(apply jo;decide+kernel)|(apply aN;(iterate 3 exact rfl);exact pK;exact pK;exact rfl;(simp [cj,Value.oneCell']);omega;(simp only [maxLen];omega);intro g8 c8)|refine sT ?_|refine sS ?_|refine sN ?_|refine sM fun _=> ?_|(refine sC ?_ ?_<;>intro hb<;>try omega)|fail)
      all_goals first
        |(exfalso;omega)
        | (refine jQ (k' := k + 1) (p' := p.skip.put ⟨1, ⟨3, 0, t.text⟩, aM, 0, 0, 0⟩) (B' := some g8) (cb' := c8) eIO rfl hlt (Cx.skip hp) (Ql k) (by simp only [PS.put, PS.skip, ND, NG]; omega) ?_
           simp only [PS.put,PS.skip,Cx.B,rB,ND,NG,NR,NU,Oy,NM,NN,NF,NH]
           exact mS)
    · have hl:l6 t=⟨1,⟨2,t.num,au⟩,aM,0,0,0⟩:=by simp [l6,hc]
      rw [hl]
      repeat' (first|(apply aa (f:=258);exact rfl;exact rfl;exact hN)|refine sT ?_|refine sS ?_|refine sN ?_|refine sM fun _=> ?_|(refine sC ?_ ?_<;>intro hb<;>try omega)|fail)
      all_goals try (exfalso;omega)
      refine jp 14 rfl (by kernel_rfl) ?_
      ((with_reducible apply aO (i:=0));exact rfl;exact rfl;decide+kernel;decide+kernel;decide+kernel;exact nP;(intro _ _;exact vP))
      ((with_reducible apply aO (i:=1));exact rfl;exact rfl;decide+kernel;decide+kernel;decide+kernel;exact nP;(intro _ _;exact vP))
      ((with_reducible apply aO (i:=2));exact rfl;exact rfl;decide+kernel;decide+kernel;decide+kernel;exact nP;(intro _ _;exact vP))
      ((with_reducible apply aO (i:=3));exact rfl;exact rfl;decide+kernel;decide+kernel;decide+kernel;exact nP;(intro _ _;exact vP))
      ((with_reducible apply aO (i:=5));exact rfl;exact rfl;decide+kernel;decide+kernel;decide+kernel;exact nP;(intro _ _;exact vP))
      repeat' (first|(apply cP (i:=4) (j:=6);exact rfl;exact rfl;decide+kernel)|(apply cP (i:=4) (j:=7);exact rfl;exact rfl;decide+kernel)|(apply cP (i:=4) (j:=8);exact rfl;exact rfl;decide+kernel)|(apply cP (i:=4) (j:=9);exact rfl;exact rfl;decide+kernel)|(apply aD (i:=4);exact rfl;decide+kernel)|(apply aD (i:=5);exact rfl;decide+kernel)|(apply aD (i:=6);exact rfl;decide+kernel)|(apply aD (i:=7);exact rfl;decide+kernel)|(apply aD (i:=8);exact rfl;decide+kernel)|(apply aD (i:=9);exact rfl;decide+kernel)|(apply aD (i:=10);exact rfl;decide+kernel)|(apply aD (i:=11);exact rfl;decide+kernel)|(apply aD (i:=12);exact rfl;decide+kernel)|(apply aD (i:=13);exact rfl;decide+kernel)|(apply jo;decide+kernel)|(apply aN;(iterate 3 exact rfl);exact pK;exact pK;exact rfl;(simp [cj,Value.oneCell']);omega;(simp only [maxLen];omega);intro g8 c8)|refine sT ?_|refine sS ?_|refine sN ?_|refine sM fun _=> ?_|(refine sC ?_ ?_<;>intro hb<;>try omega)|fail)
      all_goals first
        |(exfalso;omega)
        | (refine jQ (k' := k + 1) (p' := p.skip.put ⟨1, ⟨2, t.num, au⟩, aM, 0, 0, 0⟩) (B' := some g8) (cb' := c8) eIO rfl hlt (Cx.skip hp) (Ql k) (by simp only [PS.put, PS.skip, ND, NG]; omega) ?_
           simp only [PS.put,PS.skip,Cx.B,rB,ND,NG,NR,NU,Oy,NM,NN,NF,NH]
           exact mS)
    · have hl:l6 t=⟨1,⟨4,t.num,au⟩,aM,0,0,0⟩:=by simp [l6,hc]
      rw [hl]
      repeat' (first|(apply aa (f:=258);exact rfl;exact rfl;exact hN)|refine sT ?_|refine sS ?_|refine sN ?_|refine sM fun _=> ?_|(refine sC ?_ ?_<;>intro hb<;>try omega)|fail)
      all_goals try (exfalso;omega)
      refine jp 14 rfl (by kernel_rfl) ?_
      ((with_reducible apply aO (i:=0));exact rfl;exact rfl;decide+kernel;decide+kernel;decide+kernel;exact nP;(intro _ _;exact vP))
      ((with_reducible apply aO (i:=1));exact rfl;exact rfl;decide+kernel;decide+kernel;decide+kernel;exact nP;(intro _ _;exact vP))
      ((with_reducible apply aO (i:=2));exact rfl;exact rfl;decide+kernel;decide+kernel;decide+kernel;exact nP;(intro _ _;exact vP))
      ((with_reducible apply aO (i:=3));exact rfl;exact rfl;decide+kernel;decide+kernel;decide+kernel;exact nP;(intro _ _;exact vP))
      ((with_reducible apply aO (i:=5));exact rfl;exact rfl;decide+kernel;decide+kernel;decide+kernel;exact nP;(intro _ _;exact vP))
      repeat' (first|(apply cP (i:=4) (j:=6);exact rfl;exact rfl;decide+kernel)|(apply cP (i:=4) (j:=7);exact rfl;exact rfl;decide+kernel)|(apply cP (i:=4) (j:=8);exact rfl;exact rfl;decide+kernel)|(apply cP (i:=4) (j:=9);exact rfl;exact rfl;decide+kernel)|(apply aD (i:=4);exact rfl;decide+kernel)|(apply aD (i:=5);exact rfl;decide+kernel)|(apply aD (i:=6);exact rfl;decide+kernel)|(apply aD (i:=7);exact rfl;decide+kernel)|(apply aD (i:=8);exact rfl;decide+kernel)|(apply aD (i:=9);exact rfl;decide+kernel)|(apply aD (i:=10);exact rfl;decide+kernel)|(apply aD (i:=11);exact rfl;decide+kernel)|(apply aD (i:=12);exact rfl;decide+kernel)|(apply aD (i:=13);exact rfl;decide+kernel)|(apply jo;decide+kernel)|(apply aN;(iterate 3 exact rfl);exact pK;exact pK;exact rfl;(simp [cj,Value.oneCell']);omega;(simp only [maxLen];omega);intro g8 c8)|refine sT ?_|refine sS ?_|refine sN ?_|refine sM fun _=> ?_|(refine sC ?_ ?_<;>intro hb<;>try omega)|fail)
      all_goals first
        |(exfalso;omega)
        | (refine jQ (k' := k + 1) (p' := p.skip.put ⟨1, ⟨4, t.num, au⟩, aM, 0, 0, 0⟩) (B' := some g8) (cb' := c8) eIO rfl hlt (Cx.skip hp) (Ql k) (by simp only [PS.put, PS.skip, ND, NG]; omega) ?_
           simp only [PS.put,PS.skip,Cx.B,rB,ND,NG,NR,NU,Oy,NM,NN,NF,NH]
           exact mS)
  rw [if_neg h14] at hrun
  by_cases h5:t.kind=5
  · rw [if_pos h5] at hrun
    have hlt:=Cx.lt hd (by omega)
    cases hrun
    repeat' (first|(apply aa (f:=258);exact rfl;exact rfl;exact hN)|refine sT ?_|refine sS ?_|refine sN ?_|refine sM fun _=> ?_|(refine sC ?_ ?_<;>intro hb<;>try omega)|fail)
    all_goals try (exfalso;omega)
    refine jp 13 rfl (by kernel_rfl) ?_
    ((with_reducible apply aO (i:=0));exact rfl;exact rfl;decide+kernel;decide+kernel;decide+kernel;exact nP;(intro _ _;exact vP))
    ((with_reducible apply aO (i:=1));exact rfl;exact rfl;decide+kernel;decide+kernel;decide+kernel;exact nP;(intro _ _;exact vP))
    ((with_reducible apply aO (i:=2));exact rfl;exact rfl;decide+kernel;decide+kernel;decide+kernel;exact nP;(intro _ _;exact vP))
    ((with_reducible apply aO (i:=3));exact rfl;exact rfl;decide+kernel;decide+kernel;decide+kernel;exact nP;(intro _ _;exact vP))
    ((with_reducible apply aO (i:=5));exact rfl;exact rfl;decide+kernel;decide+kernel;decide+kernel;exact nP;(intro _ _;exact vP))
    repeat' (first|(apply cP (i:=4) (j:=6);exact rfl;exact rfl;decide+kernel)|(apply cP (i:=4) (j:=7);exact rfl;exact rfl;decide+kernel)|(apply cP (i:=4) (j:=8);exact rfl;exact rfl;decide+kernel)|(apply aD (i:=4);exact rfl;decide+kernel)|(apply aD (i:=5);exact rfl;decide+kernel)|(apply aD (i:=6);exact rfl;decide+kernel)|(apply aD (i:=7);exact rfl;decide+kernel)|(apply aD (i:=8);exact rfl;decide+kernel)|(apply aD (i:=9);exact rfl;decide+kernel)|(apply aD (i:=10);exact rfl;decide+kernel)|(apply aD (i:=11);exact rfl;decide+kernel)|(apply aD (i:=12);exact rfl;decide+kernel)|(apply jo;decide+kernel)|(apply aN;(iterate 3 exact rfl);exact pK;exact pK;exact rfl;(simp [cj,Value.oneCell']);omega;(simp only [maxLen];omega);intro g8 c8)|refine sT ?_|refine sS ?_|refine sN ?_|refine sM fun _=> ?_|(refine sC ?_ ?_<;>intro hb<;>try omega)|fail)
    all_goals first
      |(exfalso;omega)
      | (refine jQ (k' := k + 1) (p' := p.skip.put ⟨2, bK, t.rect, 0, 0, 0⟩) (B' := some g8) (cb' := c8) eIO rfl hlt (Cx.skip hp) (Ql k) (by simp only [PS.put, PS.skip, ND, NG]; omega) ?_
         simp only [PS.put,PS.skip,Cx.B,rB,ND,NG,NR,NU,Oy,NM,NN,NF,NH]
         exact mS)
  rw [if_neg h5] at hrun
  by_cases h9:t.kind=9
  · rw [if_pos h9] at hrun
    have hlt:=Cx.lt hd (by omega)
    obtain ⟨r1,hr1,⟨e,rfl,rfl⟩|⟨n1,p1,rfl,hr2⟩⟩:=bD hrun
    · repeat' (first|(apply aa (f:=258);exact rfl;exact rfl;exact hN)|(apply aw (f:=256);exact rfl;exact rfl;exact FnIn.msub (ih f (NJ _) x (k+1) p.skip B cb _ _ w0 hlt (Cx.skip hp) (Qd hout) hr1) (MSub.pick pK (MSub.pick pK (MSub.pick pK (MSub.refl _))));rintro _ _ ⟨rfl,k1,B1,cb1,o1,j1,j2,j3,j4,rfl⟩;replace j4:o1.length+(k+1)≤p.out.length+k1:=j4;obtain ⟨u,hd1⟩: ∃ u,hdT x.fin (x.toks.drop k1)=u:=⟨_,rfl⟩;by_cases h10:u.kind=10)|(apply aw (f:=355);exact rfl;exact rfl;exact FnIn.msub (lu 10 (Ok x.hsa (by decide)) (Ok x.ht (by decide)) (by omega) (B:=B1) (cb:=cb1) (out:=o1) (at_:=e.1) (e:=e.2) (g:=x.g) (A:=x.A) (cap:=x.cap) hd1 h10 _ w0) (MSub.pick pK (MSub.pick pK (MSub.pick pK (MSub.refl _))));have hlt1:=Cx.lt hd1 (by omega);rintro _ _ ⟨rfl,rfl⟩)|(apply aw (f:=355);exact rfl;exact rfl;exact FnIn.msub (uf 10 (Ok x.hsa (by decide)) (Ok x.ht (by decide)) (B:=B1) (cb:=cb1) (out:=o1) (at_:=e.1) (e:=e.2) (g:=x.g) (A:=x.A) (cap:=x.cap) hd1 h10 _ w0) (MSub.pick pK (MSub.pick pK (MSub.pick pK (MSub.refl _))));rw [if_neg j1,if_neg j1];rintro _ _ ⟨rfl,rfl⟩)|refine sT ?_|refine sS ?_|refine sN ?_|refine sM fun _=> ?_|(refine sC ?_ ?_<;>intro hb<;>try omega)|fail)
      all_goals first
        |(exfalso;omega)
        | (refine eZ (k' := k1 + 1) (out' := o1) (B' := B1) (cb' := cb1) eIO rfl j1 (by omega) (by omega) (by omega) ?_
           simp only [Cx.B,rB,NN,NF,NH]
           exact mS
           done)
        | (refine eZ (k' := k1) (out' := o1) (B' := B1) (cb' := cb1) eIO rfl j1 (by omega) (by omega) (by omega) ?_
           simp only [Cx.B,rB,NN,NF,NH]
           exact mS)
    · repeat' (first|(apply aa (f:=258);exact rfl;exact rfl;exact hN)|(apply aw (f:=256);exact rfl;exact rfl;exact FnIn.msub (ih f (NJ _) x (k+1) p.skip B cb _ _ w0 hlt (Cx.skip hp) (Qd hout) hr1) (MSub.pick pK (MSub.pick pK (MSub.pick pK (MSub.refl _))));rintro _ _ ⟨rfl,k1,B1,cb1,j1,j2,j3,j4,rfl⟩;replace j4:p1.out.length+(k+1)≤p.out.length+k1:=j4;obtain ⟨u,hd1⟩: ∃ u,hdT x.fin (x.toks.drop k1)=u:=⟨_,rfl⟩;by_cases h10:u.kind=10)|(apply aw (f:=355);exact rfl;exact rfl;exact FnIn.msub (lu 10 (Ok x.hsa (by decide)) (Ok x.ht (by decide)) (by omega) (B:=B1) (cb:=cb1) (out:=p1.out) (at_:=0) (e:=0) (g:=x.g) (A:=x.A) (cap:=x.cap) hd1 h10 _ w0) (MSub.pick pK (MSub.pick pK (MSub.pick pK (MSub.refl _))));have hlt1:=Cx.lt hd1 (by omega);rintro _ _ ⟨rfl,rfl⟩)|(apply aw (f:=355);exact rfl;exact rfl;exact FnIn.msub (uf 10 (Ok x.hsa (by decide)) (Ok x.ht (by decide)) (B:=B1) (cb:=cb1) (out:=p1.out) (at_:=0) (e:=0) (g:=x.g) (A:=x.A) (cap:=x.cap) hd1 h10 _ w0) (MSub.pick pK (MSub.pick pK (MSub.pick pK (MSub.refl _))));rintro _ _ ⟨rfl,rfl⟩)|refine sT ?_|refine sS ?_|refine sN ?_|refine sM fun _=> ?_|(refine sC ?_ ?_<;>intro hb<;>try omega)|fail)
      all_goals try (exfalso;omega)
      · rw [j2,hd1,if_neg (by rw [h10];simp)] at hr2
        cases hr2
        refine jQ (k' :=k1+1) (p' :=p1.skip) (B' :=B1) (cb' :=cb1) eIO rfl hlt1 (Cx.skip j2) (by omega) (by simp only [PS.skip];omega) ?_
        simp only [PS.skip,Cx.B,rB,NN,NF,NH]
        exact mS
      · rw [j2,hd1,if_pos h10] at hr2
        cases hr2
        refine eZ (x' :=(u.at_,4)) (k' :=k1) (out' :=p1.out) (B' :=B1) (cb' :=cb1) eIO rfl (by simp) (by omega) (by omega) (by omega) ?_
        simp only [Cx.B,rB,NN,NF,NH]
        exact mS
  rw [if_neg h9,if_neg h7] at hrun
  cases hrun
  repeat' (first|(apply aa (f:=258);exact rfl;exact rfl;exact hN)|(apply aw (f:=257);exact rfl;exact rfl;exact FnIn.msub (fq x.g x.sa x.A _ x.cap (k+1) B _ cb 0 0 _ _ _ _) (MSub.pick pK (.refl _));rintro _ _ ⟨rfl,rfl⟩)|refine sT ?_|refine sS ?_|refine sN ?_|refine sM fun _=> ?_|(refine sC ?_ ?_<;>intro hb<;>try omega)|fail)
  all_goals first
    |(exfalso;omega)
    | (refine eZ (x' := (t.at_, 4)) (k' := k + 1) (out' := p.out) (B' := B) (cb' := cb) eIO rfl (by simp) (by omega) (by omega) (by omega) ?_
       simp only [Cx.B,rB,NN,NF,NH]
       exact mS)
theorem Cu (f:Nat):(∀ q:Int,1≤q→q≤5→oC f (.level q) 256 [.int .i64 q])∧oC f .sign 300 []∧oC f .pct 323 []∧oC f .prim 342 []:=by
 induction f using Nat.strongRecOn with
 |_ f ih=>
  cases f with
  |zero=>
   refine ⟨fun k _ _=> ?_,?_,?_,?_⟩
   all_goals exact fun x k p B cb r R w0 _ _ _ h=>by cases h
  |succ f=>
   refine ⟨fun q h1 h5=>FG f q h1 h5 (fun h4 f' hf' =>(ih f' (by omega)).1 (q+1) (by omega) (by omega)) (ih f (by omega)).2.1,H9 f (ih f (by omega)).2.1 (ih f (by omega)).2.2.1,zQ f (ih f (by omega)).2.2.2,zP f fun f' hf' =>(ih f' (by omega)).1 1 (by omega) (by omega)⟩
end Go.SL
