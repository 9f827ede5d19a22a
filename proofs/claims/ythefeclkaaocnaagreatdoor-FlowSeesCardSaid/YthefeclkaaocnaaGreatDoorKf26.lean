/-
  Lemmas and walks, put together: Q12 Q13 Q14 Q15 Ex L1 D13 G1a G1 L2 Lo Fd Fc.
-/
import Derived.OpenShut
import Derived.ProofKit
import Derived.Carry
import Derived.Deep.Slices
import Derived.LaidMore
import Derived.Lay
import Derived.SevenTiedAt
import Derived.Stop.Joined
import Derived.Test.YthefeclkaaocnaaGreatDoorRows
import Derived.Test.YthefeclkaaocnaaGreatDoorTie
import Derived.Test.YthefeclkaaocnaaGreatDoorCards
import Derived.Test.YthefeclkaaocnaaGreatDoorKf25
set_option linter.unusedSimpArgs false
set_option linter.unusedVariables false
set_option maxRecDepth 20000
namespace Go.SL
open Go Go.Proofs
attribute [local irreducible] W WL WQ WG WA WX WLI WR WT WC VOp RW thn blk bF scp ba aZ bC FnAt FnIn FnP ceP
theorem Lt {L:List En} {i:Nat} (h:i<L.length):((L.flatMap nX).drop (0+i*4+0)).take 2=aC L[i].at_:=by
 have he:=congrArg (List.take 2) (cf FB L i h)
 rw [Wy] at he
 rw [Uc]
 exact he
theorem Oe {L:List En} {i:Nat} (h:i<L.length):((L.flatMap nX).drop (0+i*4)).take 4=nX L[i]:=by
 rw [Uc];exact cf FB L i h
theorem Gy (L:List Nd):(iX L).1.length≤L.length:=by
 unfold iX
 split
 ·
  exact TW _
 ·
  exact gC L 0
set_option maxHeartbeats 4000000 in
theorem MZ (g:Nat) (A:Option Nat) (cap:Nat) (L:List En) (G:Gr) (a:Rf) (b:ByteArray) (R F:List Blk) (w0:World) (hR:RGOk R L G) (hs:SortG G) (hlen:L.length≤1000):
    FnIn Tryz.prog 136 [.pointer (some ⟨g,0,none⟩),aY a,.string b] w0 (rgB g A cap L++(R++F)) fun v H=>v= .int .i64 (fQ G a b).2∧ ∃ A' cap' L' R',H=rgB g A' cap' L' ++(R' ++F)∧MSub R R' ∧RGOk R' L' (fQ G a b).1:=by
  refine cF Tryz.func136 rfl Tryz.ntmps136 rfl ?_
  have hV:=fun (w' :World)=>(lA a.col a.row w' :aD Tryz.prog 157 [aY a] w' (.bool (valid a.col a.row)))
  have hO:=fun (w' :World)=>Ei b w'
  unfold fQ
  by_cases hv:a.valid=false
  · rw [if_pos hv]
    have hv' :valid a.col a.row=false:=hv
    rw [hv'] at hV
    repeat' (first|(apply aa;exact rfl;exact rfl;(intro w hm;exact hV w))|refine sT ?_|refine sS ?_|refine sM fun _=> ?_|(refine sC ?_ ?_<;>intro hb<;>try omega)|fail)
    all_goals exact cA eIO rfl rfl (by unfold rgB;exact mS) ⟨rfl,A,cap,L,R,rfl,MSub.refl _,hR⟩
  rw [if_neg hv]
  have hv' :valid a.col a.row=true:=by
    have:a.valid=valid a.col a.row:=rfl
    rw [this] at hv
    simpa using hv
  rw [hv'] at hV
  have hlen2:=Cg b
  have htree:=xW (b:=b)
  have hwf:=RT b
  generalize ofP b=r at hO hlen2 htree hwf
  obtain ⟨⟨fm,v,t⟩,at_,e⟩:=r
  simp only [ofV,CK] at hO
  dsimp only at hlen2 htree hwf ⊢
  by_cases he:e≠0
  · rw [if_pos he]
    repeat' (first|(apply aa;exact rfl;exact rfl;(intro w hm;exact hV w))|(apply aF (f:=159);exact rfl;exact rfl;(intro w' hm;exact hO w');rintro _ _ ⟨A0,cap0,rfl,rfl⟩)|refine sT ?_|refine sS ?_|refine sM fun _=> ?_|(refine sC ?_ ?_<;>intro hb<;>try omega)|fail)
    all_goals exact cA eIO rfl rfl (by unfold rgB;exact mS) ⟨rfl,A,cap,L,R,rfl,MSub.refl _,hR⟩
  rw [if_neg he]
  have he0:e=0:=by omega
  subst he0
  have hU:=fun (w' :World) (A:Option Nat) (cap:Nat) (H' :List Blk) (hi:In (.own A 174 11 t.length cap (t.flatMap bR)) H') (hm:Mem w0 w' H')=>G7 t hwf (sl A t.length cap) w' (Reads.of_own hm hi)
  have hul:(iX t).1.length≤256:=Uo (Gy t) hlen2
  have hus:fm=true→eu t=(iX t).1:=fun h=>by unfold iX;rw [htree rfl h];rfl
  obtain ⟨⟨us,ue⟩,hue⟩: ∃ x,iX t=x:=⟨_,rfl⟩
  rw [hue] at hU hul hus
  dsimp only at hU hul hus
  refine aW 255 4 ?_
  repeat' (first|(apply aa;exact rfl;exact rfl;(intro w hm;exact hV w))|(apply aF (f:=159);exact rfl;exact rfl;(intro w' hm;exact hO w');rintro _ _ ⟨A0,cap0,rfl,rfl⟩)|(apply aF (f:=168);exact rfl;exact rfl;(intro w' hm;exact hU w' _ _ _ pK hm);rintro _ _ ⟨A2,cap2,rfl,rfl⟩)|refine sT ?_|refine sS ?_|refine sM fun _=> ?_|(refine sC ?_ ?_<;>intro hb<;>try omega)|fail)
  all_goals try (exfalso;omega)
  rename_i g4 g7
  obtain ⟨x,hxd⟩: ∃ x:En,x=⟨a,A0.map fun g=>⟨g,0,none⟩,cap0,A2.map fun g=>⟨g,0,none⟩,cap2,t,us,0⟩:=⟨_,rfl⟩
  have hxe:nX x= [.int .i64 a.col,.int .i64 a.row,sl A0 t.length cap0,sl A2 us.length cap2]:=by rw [hxd];rfl
  obtain ⟨d0,hd0⟩: ∃ d0,(!fm)=d0:=⟨_,rfl⟩
  have hfin:(zi a x d0 L).map En.abs=(if fm=false then (yM G a,(0:Int)) else (v7 G a (t,eu t),0)).1:=by
    rw [← hd0]
    cases fm with
    |false=>rw [if_pos rfl,← hR.rel];exact MN a x L
    |true=>
      rw [if_neg (by simp),hus rfl,← hR.rel]
      have:=MM (x:=x) (a:=a) (by rw [hxd]) (L:=L) (by rw [hR.rel];exact hs)
      rw [hxd] at this ⊢
      exact this
  have hfin2:(if fm=false then (yM G a,(0:Int)) else (v7 G a (t,eu t),0)).2=0:=by cases fm<;>rfl
  have hRx:RGOk (.own A0 174 11 t.length cap0 (t.flatMap bR):: .own A2 100 6 us.length cap2 (us.flatMap cV)::R) (zi a x d0 L) (if fm=false then (yM G a,(0:Int)) else (v7 G a (t,eu t),0)).1:=by
    refine ⟨fun f hf=> ?_,hfin⟩
    rcases ML hf with rfl|hf
    · rw [hxd]
      exact ⟨rdIn.own (A:=A0) pK,rdIn.own (A:=A2) pK,by dsimp only;omega,by dsimp only;omega⟩
    · exact (hR.en f hf).sub mS
  refine ay [0,4,7,10] rfl (fun y:Nat × List En × Bool × Option Nat × Nat=> [(12,sl y.2.2.2.1 y.2.1.length y.2.2.2.2),(13,.bool y.2.2.1),(14,.int .i64 (y.1:Int))]) (fun y=> .own y.2.2.2.1 255 4 y.2.1.length y.2.2.2.2 (y.2.1.flatMap nX):: .own A2 100 6 us.length cap2 (us.flatMap cV):: .box g7 192 [.bool fm,.int .u8 v.kind,.int .i64 v.num,.string v.text,sl A0 t.length cap0]:: .own A0 174 11 t.length cap0 (t.flatMap bR):: .box g4 51 (aC a):: .box g 220 [sl A L.length cap]:: .own A 255 4 L.length cap (L.flatMap nX)::(R++F)) (fun y=>y.1≤L.length∧(L.take y.1).foldl (eZ a x) ([],d0)=(y.2.1,y.2.2.1)∧y.2.1.length≤2*y.1) (fun y=>L.length - y.1) (0,[],d0,none,0) ⟨TW _,rfl,TQ _⟩ (by subst hd0;exact sB) (by unfold rgB;simp only [TT,TK,TL];exact mS) ?_
  clear hU hO
  rintro ⟨i,O,d,A3,c3⟩ ⟨hi,hf,hOl⟩
  dsimp only at hi hf hOl ⊢
  by_cases hlt:i<L.length
  · refine bK (A:=A) pK (by omega) fun gl hA=> ?_
    subst hA
    have hnx:(L.take (i+1)).foldl (eZ a x) ([],d0)=eZ a x (O,d) L[i]:=by
      rw [TP hlt,U8,hf];rfl
    have hc:=Lt hlt
    have ha:=Oe hlt
    have hL:=fun w' =>xH a L[i].at_ w'
    generalize L[i]=e at hc ha hL hnx
    obtain ⟨c1,hc1⟩: ∃ c1,bn a e.at_=c1:=⟨_,rfl⟩
    obtain ⟨c2,hc2⟩: ∃ c2,decide (e.at_≠a)=c2:=⟨_,rfl⟩
    rw [hc1] at hL
    have hc2' :c2=true↔e.at_≠a:=by rw [← hc2];simp
    cases d with
    |false=>
      cases c1 with
      |true=>
        have hne:e.at_≠a:=(jL hc1).symm
        obtain rfl:c2=true:=hc2'.2 hne
        have hst:eZ a x (O,false) e=(O++ [x]++ [e],true):=by simp [eZ,hc1,hne]
        repeat' (first|(apply aO;exact rfl;apply aj (j:=i);exact rfl;exact rfl;exact hlt)|(apply ak;exact rfl;apply aj (j:=i);exact rfl;exact rfl;exact hlt)|(apply aO;exact rfl;apply aA (ys:=aC e.at_);exact rfl;exact pK;exact hc;exact rfl)|(apply ak;exact rfl;apply aA (ys:=nX e);exact rfl;exact pK;exact ha;exact rfl)|(apply aO;exact rfl;apply dM;exact hc2;exact rfl;exact rfl)|(apply cY;exact rfl;exact rfl;(intro w hm;exact hL w))|(apply aX;(iterate 3 exact rfl);exact pK;exact pK;exact rfl;(simp [nX,En.tv,En.uv,sl,Value.oneCell']);omega;(simp only [maxLen];omega);intro g8 c8)|refine sT ?_|refine sS ?_|refine sQ ?_|refine sN ?_|refine sNQ ?_|refine sD ?_|refine sM fun _=> ?_|(refine sC ?_ ?_<;>intro hb<;>try omega)|(refine sCQ ?_ ?_<;>intro hb<;>try omega)|fail)
        all_goals first
          |(exfalso;omega)
          | (refine ⟨(i + 1, O ++ [x] ++ [e], true, some g8, c8), ⟨hlt, (hnx.trans hst), (by (try simp only [List.length_append, List.length_singleton]); omega)⟩, (by dsimp only; omega), (by (try simp only [List.length_append, List.length_singleton]); exact sB), sB, ?_⟩
             simp only [TG,TH,Ua,T9,Up,TR,TT,TK,TL,hxe]
             exact mS)
      |false=>
        by_cases hne:e.at_≠a
        · obtain rfl:c2=true:=hc2'.2 hne
          have hst:eZ a x (O,false) e=(O++ [e],false):=by simp [eZ,hc1,hne]
          repeat' (first|(apply aO;exact rfl;apply aj (j:=i);exact rfl;exact rfl;exact hlt)|(apply ak;exact rfl;apply aj (j:=i);exact rfl;exact rfl;exact hlt)|(apply aO;exact rfl;apply aA (ys:=aC e.at_);exact rfl;exact pK;exact hc;exact rfl)|(apply ak;exact rfl;apply aA (ys:=nX e);exact rfl;exact pK;exact ha;exact rfl)|(apply aO;exact rfl;apply dM;exact hc2;exact rfl;exact rfl)|(apply cY;exact rfl;exact rfl;(intro w hm;exact hL w))|(apply aX;(iterate 3 exact rfl);exact pK;exact pK;exact rfl;(simp [nX,En.tv,En.uv,sl,Value.oneCell']);omega;(simp only [maxLen];omega);intro g8 c8)|refine sT ?_|refine sS ?_|refine sQ ?_|refine sN ?_|refine sNQ ?_|refine sD ?_|refine sM fun _=> ?_|(refine sC ?_ ?_<;>intro hb<;>try omega)|(refine sCQ ?_ ?_<;>intro hb<;>try omega)|fail)
          all_goals first
            |(exfalso;omega)
            | (refine ⟨(i + 1, O ++ [e], false, some g8, c8), ⟨hlt, (hnx.trans hst), (by (try simp only [List.length_append, List.length_singleton]); omega)⟩, (by dsimp only; omega), (by (try simp only [List.length_append, List.length_singleton]); exact sB), sB, ?_⟩
               simp only [TG,TH,Ua,T9,Up,TR,TT,TK,TL,hxe]
               exact mS)
        · obtain rfl:c2=false:=by cases c2 with|false=>rfl|true=>exact absurd (hc2'.1 rfl) hne
          have hst:eZ a x (O,false) e=(O,false):=by
            have:=Classical.not_not.1 hne
            simp [eZ,this,qj]
          repeat' (first|(apply aO;exact rfl;apply aj (j:=i);exact rfl;exact rfl;exact hlt)|(apply ak;exact rfl;apply aj (j:=i);exact rfl;exact rfl;exact hlt)|(apply aO;exact rfl;apply aA (ys:=aC e.at_);exact rfl;exact pK;exact hc;exact rfl)|(apply ak;exact rfl;apply aA (ys:=nX e);exact rfl;exact pK;exact ha;exact rfl)|(apply aO;exact rfl;apply dM;exact hc2;exact rfl;exact rfl)|(apply cY;exact rfl;exact rfl;(intro w hm;exact hL w))|(apply aX;(iterate 3 exact rfl);exact pK;exact pK;exact rfl;(simp [nX,En.tv,En.uv,sl,Value.oneCell']);omega;(simp only [maxLen];omega);intro g8 c8)|refine sT ?_|refine sS ?_|refine sQ ?_|refine sN ?_|refine sNQ ?_|refine sD ?_|refine sM fun _=> ?_|(refine sC ?_ ?_<;>intro hb<;>try omega)|(refine sCQ ?_ ?_<;>intro hb<;>try omega)|fail)
          all_goals first
            |(exfalso;omega)
            | (refine ⟨(i + 1, O, false, A3, c3), ⟨hlt, (hnx.trans hst), (by (try simp only [List.length_append, List.length_singleton]); omega)⟩, (by dsimp only; omega), (by (try simp only [List.length_append, List.length_singleton]); exact sB), sB, ?_⟩
               simp only [TG,TH,Ua,T9,Up,TR,TT,TK,TL,hxe]
               exact mS)
    |true=>
      by_cases hne:e.at_≠a
      · obtain rfl:c2=true:=hc2'.2 hne
        have hst:eZ a x (O,true) e=(O++ [e],true):=by simp [eZ,hne]
        repeat' (first|(apply aO;exact rfl;apply aj (j:=i);exact rfl;exact rfl;exact hlt)|(apply ak;exact rfl;apply aj (j:=i);exact rfl;exact rfl;exact hlt)|(apply aO;exact rfl;apply aA (ys:=aC e.at_);exact rfl;exact pK;exact hc;exact rfl)|(apply ak;exact rfl;apply aA (ys:=nX e);exact rfl;exact pK;exact ha;exact rfl)|(apply aO;exact rfl;apply dM;exact hc2;exact rfl;exact rfl)|(apply cY;exact rfl;exact rfl;(intro w hm;exact hL w))|(apply aX;(iterate 3 exact rfl);exact pK;exact pK;exact rfl;(simp [nX,En.tv,En.uv,sl,Value.oneCell']);omega;(simp only [maxLen];omega);intro g8 c8)|refine sT ?_|refine sS ?_|refine sQ ?_|refine sN ?_|refine sNQ ?_|refine sD ?_|refine sM fun _=> ?_|(refine sC ?_ ?_<;>intro hb<;>try omega)|(refine sCQ ?_ ?_<;>intro hb<;>try omega)|fail)
        all_goals first
          |(exfalso;omega)
          | (refine ⟨(i + 1, O ++ [e], true, some g8, c8), ⟨hlt, (hnx.trans hst), (by (try simp only [List.length_append, List.length_singleton]); omega)⟩, (by dsimp only; omega), (by (try simp only [List.length_append, List.length_singleton]); exact sB), sB, ?_⟩
             simp only [TG,TH,Ua,T9,Up,TR,TT,TK,TL,hxe]
             exact mS)
      · obtain rfl:c2=false:=by cases c2 with|false=>rfl|true=>exact absurd (hc2'.1 rfl) hne
        have hst:eZ a x (O,true) e=(O,true):=by
          have:=Classical.not_not.1 hne
          simp [eZ,this]
        repeat' (first|(apply aO;exact rfl;apply aj (j:=i);exact rfl;exact rfl;exact hlt)|(apply ak;exact rfl;apply aj (j:=i);exact rfl;exact rfl;exact hlt)|(apply aO;exact rfl;apply aA (ys:=aC e.at_);exact rfl;exact pK;exact hc;exact rfl)|(apply ak;exact rfl;apply aA (ys:=nX e);exact rfl;exact pK;exact ha;exact rfl)|(apply aO;exact rfl;apply dM;exact hc2;exact rfl;exact rfl)|(apply cY;exact rfl;exact rfl;(intro w hm;exact hL w))|(apply aX;(iterate 3 exact rfl);exact pK;exact pK;exact rfl;(simp [nX,En.tv,En.uv,sl,Value.oneCell']);omega;(simp only [maxLen];omega);intro g8 c8)|refine sT ?_|refine sS ?_|refine sQ ?_|refine sN ?_|refine sNQ ?_|refine sD ?_|refine sM fun _=> ?_|(refine sC ?_ ?_<;>intro hb<;>try omega)|(refine sCQ ?_ ?_<;>intro hb<;>try omega)|fail)
        all_goals first
          |(exfalso;omega)
          | (refine ⟨(i + 1, O, true, A3, c3), ⟨hlt, (hnx.trans hst), (by (try simp only [List.length_append, List.length_singleton]); omega)⟩, (by dsimp only; omega), (by (try simp only [List.length_append, List.length_singleton]); exact sB), sB, ?_⟩
             simp only [TG,TH,Ua,T9,Up,TR,TT,TK,TL,hxe]
             exact mS)
  · have e2:i=L.length:=by omega
    subst e2
    rw [Ux] at hf
    have hset:zi a x d0 L=Iw x (O,d):=by unfold zi;rw [hf]
    rw [hset] at hRx
    cases d
    · repeat' (first|(apply aX;(iterate 3 exact rfl);exact pK;exact pK;exact rfl;(simp [nX,En.tv,En.uv,sl,Value.oneCell']);omega;(simp only [maxLen];omega);intro g8 c8)|refine sT ?_|refine sS ?_|refine sN ?_|refine sM fun _=> ?_|(refine sC ?_ ?_<;>intro hb<;>try omega)|fail)
      all_goals first
        |(exfalso;omega)
        | (refine cA eIO rfl rfl (H' := rgB g (some g8) c8 (O ++ [x]) ++ ((.own A0 174 11 t.length cap0 (t.flatMap bR) :: .own A2 100 6 us.length cap2 (us.flatMap cV) :: R) ++ F)) ?_ ⟨by rw [hfin2], some g8, c8, O ++ [x], _, rfl, mS, hRx⟩
           simp only [rgB,TG,TH,Ua,T9,Up,TR,TT,TK,TL,hxe]
           exact mS)
    · repeat' (first|refine sT ?_|refine sS ?_|refine sN ?_|refine sM fun _=> ?_|(refine sC ?_ ?_<;>intro hb<;>try omega)|fail)
      all_goals first
        |(exfalso;omega)
        | (refine cA eIO rfl rfl (H' := rgB g A3 c3 O ++ ((.own A0 174 11 t.length cap0 (t.flatMap bR) :: .own A2 100 6 us.length cap2 (us.flatMap cV) :: R) ++ F)) ?_ ⟨by rw [hfin2], A3, c3, O, _, rfl, mS, hRx⟩
           simp only [rgB,TT,TK,TL]
           exact mS)
theorem PG (g:Nat) (A:Option Nat) (cap:Nat) (L:List En) (G:Gr) (a:Rf) (b:ByteArray) (R:List Blk) (w0:World) (hR:RGOk R L G) (hs:SortG G) (hlen:L.length≤1000):
  FnIn Tryz.prog 136 [.pointer (some ⟨g,0,none⟩),aY a,.string b] w0 (rgB g A cap L++R) fun v H=>v= .int .i64 (fQ G a b).2∧ ∃ A' cap' L' R',H=rgB g A' cap' L' ++R' ∧MSub R R' ∧RGOk R' L' (fQ G a b).1:=by
 have h:=MZ g A cap L G a b R [] w0 hR hs hlen
 simp only [TR] at h
 exact h
def Tu (r:Option Gr × Int) (v:Value) (H:List Blk):Prop:=match r with
 |(none,e)=>v= .tuple #[.pointer none,.int .i64 e]∧H= []
 |(some G,_)=> ∃ g A cap L R,v= .tuple #[.pointer (some ⟨g,0,none⟩),.int .i64 0]∧H=rgB g A cap L++R∧RGOk R L G
def iH (G:Gr) (L:List Et):Gr:=L.foldl (fun G e=>(fQ G e.at_ e.input).1) G
theorem Iu {b:Option Rf} {e:Et} (h:fF b e=0):e.at_.valid=true∧(ofP e.input).2.2=0:=by
 have hg: ∀ (c1 c2 c3:Prop) [Decidable c1] [Decidable c2] [Decidable c3] (z:Int),(if c1 then (3:Int) else if c2 then 12 else if c3 then 2 else z)=0→ ¬ c1∧z=0:=by
  intro c1 c2 c3 _ _ _ z hz
  by_cases h1:c1
  ·
   rw [if_pos h1] at hz;cases hz
  ·
   rw [if_neg h1] at hz
   by_cases h2:c2
   ·
    rw [if_pos h2] at hz;cases hz
   ·
    rw [if_neg h2] at hz
    by_cases h3:c3
    ·
     rw [if_pos h3] at hz;cases hz
    ·
     rw [if_neg h3] at hz;exact ⟨h1,hz⟩
 obtain ⟨h1,h2⟩:=hg _ _ _ _ h
 exact ⟨by simpa using h1,h2⟩
theorem nZ: ∀ (L:List Et) (i:Nat) (b:Option Rf),(cQ i b L).2=0→ ∀ e∈L,e.at_.valid=true∧(ofP e.input).2.2=0
 | [],_,_,_,e,he=>by cases he
 |x::r,i,b,h,e,he=>by
  rw [cQ] at h
  split at h
  ·
   rename_i hf
   exact absurd h hf
  ·
   rename_i hf
   rcases TS.1 he with rfl|he
   ·
    exact Iu (Classical.not_not.1 hf)
   ·
    exact nZ r _ _ h e he
theorem JC: ∀ (L:List Et) (G:Gr),(∀ e∈L,e.at_.valid=true∧(ofP e.input).2.2=0)→zp G L=(some (iH G L),0)
 | [],G,_=>rfl
 |e::r,G,h=>by
  have he:(fQ G e.at_ e.input).2=0:=by
   obtain ⟨h1,h2⟩:=h e TI
   unfold fQ
   rw [if_neg (by rw [h1];simp),if_neg (by rw [h2];simp)]
   split<;>rfl
  rw [zp,if_neg (by rw [he];simp),JC r _ fun f hf=>h f (TM _ hf)]
  rfl
theorem Cj (L:List Et):rA L=if (fP L).2≠0 then (none,(fP L).2) else (some (iH [] L),0):=by
 unfold rA
 split
 ·
  rfl
 ·
  rename_i h
  exact JC L [] (nZ L 0 none (Classical.not_not.1 h))
theorem E9: ∀ (L:List Et) {G:Gr},GrOk G→GrOk (iH G L)
 | [],_,h=>h
 |e::r,_,h=>E9 r (h.set e.at_ e.input)
theorem AR: ∀ (L:List Et) (G:Gr),(iH G L).length≤G.length+L.length
 | [],G=>TQ _
 |e::r,G=>by
  have h1:=AR r (fQ G e.at_ e.input).1
  have h2:=DW G e.at_ e.input
  simp only [TZ]
  exact Uo h1 (by omega)
set_option maxHeartbeats 2000000 in
theorem PH (L:List Et) (tv:Value) (w:World) (ht:Reads w tv L.length (L.flatMap du)) (hlen:L.length≤900):
  FnAt Tryz.prog 86 [tv] w (Tu (rA L)):=by
 have hC:=fun (w' :World) (H:List Blk) (hm:Mem w w' H)=>zk L tv w' (ht.of_w0 hm) (by omega)
 obtain ⟨Al,cl,rfl,hl1,hl2,hl3⟩:=ht
 refine ax Tryz.func86 rfl Tryz.ntmps86 rfl ?_
 rw [Cj]
 generalize fP L=c at hC
 obtain ⟨ci,ce⟩:=c
 dsimp only at hC ⊢
 by_cases hce:ce≠0
 ·
  rw [if_pos hce]
  repeat' (first|(apply aa (f:=66);exact rfl;exact rfl;(intro w' hm;exact hC w' _ hm))|refine sT ?_|refine sS ?_|refine sM fun _=> ?_|(refine sC ?_ ?_<;>intro hb<;>try omega)|fail)
  all_goals first
   |(exfalso;omega)
   |exact dc eIO rfl rfl rfl (.nil _) ⟨rfl,rfl⟩
 rw [if_neg hce]
 have hce0:ce=0:=Classical.not_not.1 hce
 subst hce0
 refine aW 255 4 ?_
 repeat' (first|(apply aa (f:=66);exact rfl;exact rfl;(intro w' hm;exact hC w' _ hm))|refine sT ?_|refine sS ?_|refine sM fun _=> ?_|(refine sC ?_ ?_<;>intro hb<;>try omega)|fail)
 all_goals try (exfalso;omega)
 rename_i g
 refine ay [0,6] rfl (fun x:Nat × Option Nat × Nat × List En × Gr × List Blk=> [(7,.int .i64 (x.1:Int))]) (fun x=>rgB g x.2.1 x.2.2.1 x.2.2.2.1++x.2.2.2.2.2) (fun x=>x.1≤L.length∧GrOk x.2.2.2.2.1∧x.2.2.2.2.1.length≤x.1∧RGOk x.2.2.2.2.2 x.2.2.2.1 x.2.2.2.2.1∧iH [] L=iH x.2.2.2.2.1 (L.drop x.1)) (fun x=>L.length - x.1) (0,none,0,[],[],[]) ⟨by simp,yf,TQ _,⟨(fun _ h=>by cases h),rfl⟩,rfl⟩ sB (by unfold rgB;exact mS) ?_
 rintro ⟨i,A,cap,Q,G,R⟩ ⟨hi,hG,hGl,hR,hnew⟩
 dsimp only at hi hG hGl hR hnew ⊢
 by_cases hlt:i<L.length
 ·
  obtain ⟨gl,ol,rfl,hrl⟩:=hl3 (by omega)
  have he:=hrl.elem fk i hlt
  rw [TN hlt] at hnew
  generalize L[i]=e at he hnew
  have hS:=PG g A cap Q G e.at_ e.input R w hR hG.sort (by rw [hR.len];omega)
  have hG' :=hG.set e.at_ e.input
  have hGl' :=DW G e.at_ e.input
  rw [show iH G (e::L.drop (i+1))=iH (fQ G e.at_ e.input).1 (L.drop (i+1)) from rfl] at hnew
  generalize fQ G e.at_ e.input=sg at hS hnew hG' hGl'
  obtain ⟨G',se⟩:=sg
  dsimp only at hS hnew hG' hGl'
  repeat' (first|refine sT ?_|refine sS ?_|refine sN ?_|refine sM fun _=> ?_|(refine sC ?_ ?_<;>intro hb<;>try omega)|fail)
  all_goals try (exfalso;omega)
  refine fu (id:=8) [11] [] [] (by kernel_rfl) (by kernel_rfl) (by kernel_rfl) (MSub.nil _) ?_
  repeat' (first|(apply eG (d:=27);(iterate 3 exact rfl);apply aj (j:=i);exact rfl;exact rfl;exact hlt)|(apply eG (d:=32);(iterate 3 exact rfl);apply aj (j:=i);exact rfl;exact rfl;exact hlt)|(apply eG (d:=29);(iterate 3 exact rfl);apply dC (off:=0) (ys:=aC e.at_) he;(iterate 3 exact rfl))|(apply eG (d:=34);(iterate 3 exact rfl);apply eH (off:=2);exact rfl;exact he;exact rfl)|(apply au (f:=136);exact rfl;exact rfl;exact FnIn.msub hS (MSub.refl _);rintro _ _ ⟨rfl,A',cap',Q',R',rfl,hsub,hR'⟩)|refine sT ?_|refine sS ?_|refine sW ?_|refine sN ?_|refine sWN ?_|refine sM fun _=> ?_|(refine sC ?_ ?_<;>intro hb<;>try omega)|(refine sCW ?_ ?_<;>intro hb<;>try omega)|fail)
  all_goals first
   |(exfalso;omega)
   |(refine ⟨(i+1,A',cap',Q',G',R'),⟨hlt,hG',(by dsimp only;omega),hR',hnew⟩,(by dsimp only;omega),sB,sB,MSub.refl _⟩)
 ·
  have e2:i=L.length:=by omega
  subst e2
  rw [UB,show iH G []=G from rfl] at hnew
  rw [hnew]
  repeat' (first|refine sT ?_|refine sS ?_|refine sN ?_|refine sM fun _=> ?_|(refine sC ?_ ?_<;>intro hb<;>try omega)|fail)
  all_goals first
   |(exfalso;omega)
   |exact dc eIO rfl rfl rfl (MSub.refl _) ⟨g,A,cap,Q,R,rfl,rfl,hR⟩
end Go.SL
namespace Go.SL
open Go
def inA:ByteArray:=⟨#[53]⟩
def inB:ByteArray:=⟨#[61,65,49,43,66,49]⟩
def inC:ByteArray:=⟨#[61,68,83,85,77,40,66,49,58,66,51,41]⟩
def inD:ByteArray:=⟨#[61,73,70,69,82,82,79,82,40,65,51,44,48,41,43,49]⟩
def exL:List Et:= [⟨⟨1,1⟩,inA⟩,⟨⟨1,2⟩,inB⟩,⟨⟨1,3⟩,inC⟩,⟨⟨1,4⟩,inD⟩]
def RJ (c r:Int):Nd:=⟨2,bV,fR c r,0,0,0⟩
def exG:Gr:= [
 (⟨1,2⟩,[RJ 1 1,RJ 2 1,dS 6 1],[⟨fR 1 1, -1,0⟩,⟨fR 2 1, -1,0⟩]),
 (⟨1,3⟩,[⟨3,bV,⟨2,1,2,3⟩,0,0,0⟩,⟨7,bV,aS,0,46,1⟩],[⟨⟨2,1,2,3⟩,1,46⟩]),
 (⟨1,4⟩,[RJ 1 3,⟨1,⟨1,0,az⟩,aS,0,0,0⟩,⟨7,bV,aS,0,25,2⟩,⟨1,⟨1,10000,az⟩,aS,0,0,0⟩,dS 6 1],[⟨fR 1 3, -1,0⟩])]
theorem Sg:rA exL=(some exG,0):=by decide+kernel
theorem N7:GrOk exG:=by
 have h: ∀ (L:List Et) (G:Gr),GrOk G→ ∀ G',zp G L=(some G',0)→GrOk G' :=by
  intro L
  induction L with
  |nil=>intro G hG G' h;cases h;exact hG
  |cons e r ih=>
   intro G hG G' h
   rw [zp] at h
   split at h
   ·
    cases h
   ·
    exact ih _ (hG.set _ _) G' h
 have h2:=Sg
 unfold rA at h2
 split at h2
 ·
  cases h2
 ·
  exact h exL [] yf exG h2
end Go.SL
namespace Go.SL
open Go Go.Proofs
attribute [local irreducible] W WL WQ WG WA WX WLI WR WT WC VOp RW thn blk bF scp ba aZ bC FnAt FnP ceP
theorem FnIn.re {P:Program} {f:FuncId} {args:List Value} {w0:World} {H:List Blk} {R R' :Value→List Blk→Prop} (h:FnIn P f args w0 H R) (hr: ∀ v H,R v H→ ∃ H',MSub H' H∧R' v H'):FnIn P f args w0 H R' :=
 fun w hm=>Calls.mono (h w hm) fun _ _ ⟨v,H',h1,h2,h3⟩=>let ⟨H2,h4,h5⟩:=hr v H' h3;⟨v,H2,h1,h4.use h2,h5⟩
theorem MSub.of_perm {H H' :List Blk} (h:H'.Perm H):MSub H H' :=⟨[],by simpa using h⟩
structure Gs where
 gg:Nat
 gm:Nat
 E:List En
 clock:Nat
 R1:List Blk
 gr:Nat
 A:Option Nat
 cap:Nat
 Q:List En
 R2:List Blk
end Go.SL
namespace Go.SL
open Go Go.Proofs Go.ChangeShapes Go.WideShapes Go.ChangeAt Go.RowKit Go.Deep
section
variable {H:Type} {enc:TypeId × Value→H} {P:Program} {w:World} {base:Nat} {spare:Nat→Bool} {held:Bool}
theorem jB {f:Func} {s:ChangeSpec} {apart fresh handsOn again:Bool} {W W' :World} {args:Array Value} {v:Value} {ds gs:List (DataW H)} {eM pa pv:List MemPlace}
  (hW:DataW.Whole enc P f.params.toList s.vars apart W args.toList ds gs eM)
  (hres: ∀ (b:Nat) (sp:Nat→Bool) (hd:Bool),DataW.TrodAll enc P W' b sp hd f.resultTypes.toList (v.resultList f.resultTypes.size) (s.fn H (ds++gs)).results [])
  (hargs: ∀ sp:Nat→Bool,(∀ p∈eM,sp p.block=true)→DataW.TrodAll enc P W' 0 sp true f.params.toList args.toList (s.fn H (ds++gs)).args pa)
  (hvars: ∀ sp:Nat→Bool,(∀ p∈eM,sp p.block=true)→DataW.TrodVars enc P W' sp s.vars (s.fn H (ds++gs)).vars pv)
  (hps:eM=pa++pv) (hb:Below W.heap.size W W')
  (hok: ∀ (j:Nat) (t:TypeId) (r:Value),f.resultTypes[j]? =some t→(v.resultList f.resultTypes.size)[j]? =some r→Value.okWide P W' .any 0 t r):
  s.post enc P f apart fresh handsOn again W args v W' :=by
 have hold: ∀ p∈eM,(fun b=>decide (b<W.heap.size)) p.block=true:=fun p hp=>by simpa using hW.lt p hp
 refine ⟨ds,gs,eM,[],pa,pv,hW,hres _ _ _,hargs _ hold,hvars _ hold,hb.frame _,fun _=> ?_⟩
 have hlt:=hW.lt
 obtain ⟨_,_,_,_,_,hz,hn⟩:=hW
 refine ⟨hok,_,_,([]++pa)++pv,⟨[]++pa,pv,trodAll_append (hargs _ (fun _ _=>rfl)) (hres _ _ _),hvars _ (fun _ _=>rfl),rfl,?_,?_⟩,?_⟩
 ·
  intro b off hp
  have hp' :MemPlace.cell b off∈eM:=by rw [hps];simpa using hp
  have h1:=hz b off hp'
  have h2:=hlt _ hp'
  rw [← h1]
  exact hb.frozen h2
 ·
  intro ha
  have:=hn ha
  rw [hps] at this
  simpa using this
 ·
  intro p hp _
  rw [hps]
  simpa using hp
theorem bu {t:TypeId} (hl:laidOutB P=true) (hr:P.readableRec t=true) (hrow:t<P.types.size) {W W' :World} {v:Value} {d:DataW H} {ps:List MemPlace} {sp:Nat→Bool}
  (h:DataW.Trod enc P W 0 (fun _=>true) true t v d ps) (hb:Below W.heap.size W W') (hlt: ∀ x∈ps,x.block<W.heap.size) (hs: ∀ x∈ps,sp x.block=true):DataW.Trod enc P W' 0 sp true t v d ps:=
 WideElems.Trod_stays hl hr hrow h (fun x hx=>hb.same (hlt x hx)) hs
end
theorem wK:ownKnob Tryz.prog.godebug=none:=by kernel_rfl
theorem bq:laidOutB Tryz.prog=true:=by kernel_rfl
section
variable {H:Type} {enc:TypeId × Value→H} {w:World} {base:Nat} {spare:Nat→Bool} {held:Bool}
theorem ID {α:Type} {enc:α→List Value} {m:Nat} (hm: ∀ a,(enc a).length=m) (w:World) (g o:Nat): ∀ (L:List α),(∀ (i:Nat) (a:α),L[i]? =some a→Cells w g (o+i*m) (enc a))→Cells w g o (L.flatMap enc):=by
 intro L h j v hv
 by_cases hm0:m=0
 ·
  have:(L.flatMap enc).length=0:=by rw [aR hm,hm0,Nat.mul_zero]
  rw [UN (by omega)] at hv
  cases hv
 have hlen:(L.flatMap enc).length=L.length*m:=aR hm L
 have hj:j<(L.flatMap enc).length:=(TV.1 hv).1
 have hi:j / m<L.length:=by rw [Nat.div_lt_iff_lt_mul (by omega)];omega
 have hk:j % m<m:=WU _ (by omega)
 have he:j / m*m+j % m=j:=by rw [Nat.mul_comm];exact Nat.div_add_mod j m
 have h1:=kG hm L (j / m) (j % m) hi hk
 rw [he,hv] at h1
 have h2:=h (j / m) L[j / m] (TJ hi) (j % m) v h1.symm
 rw [show o+j / m*m+j % m=o+j by omega] at h2
 exact h2
theorem KS {α:Type} [Inhabited α] {encA:α→List Value} {ok:α→Prop} {P:Program} {t e m fuel:Nat} {cs:List Value} {x:DataW H × List MemPlace} (ht:P.underlying t=some (.slice e)) (hm:P.cellsOf e=m) (hm0:0<m) (hlenA: ∀ a,(encA a).length=m)
  (helem: ∀ (n:Nat) (cs:List Value) (y:DataW H × List MemPlace),DataW.trod enc P w 0 spare held n e cs=some y→ ∃ a,cs=encA a∧ok a) (h:DataW.trod enc P w 0 spare held fuel t cs=some x):
  ∃ (v:Value) (L:List α),cs= [v]∧Reads w v L.length (L.flatMap encA)∧ ∀ a∈L,ok a:=by
 rcases open_slice ht h with ⟨h0,_⟩|⟨a,len,cap,mm,n,D,Pl,h0,hb,hl,hmx,hmm,_,hx⟩
 ·
  exact ⟨_,[],h0,⟨none,0,rfl,TQ _,TW _,fun h=>by cases h⟩,fun _ h=>by cases h⟩
 ·
  have hlm:len≤mm:=by rw [hmm];split<;>omega
  obtain ⟨F,hF⟩:=choose_lt (α:=α) (n:=len) (p:=fun i nd=>w.cells? 0 (a.add (i*m)) m=some (encA nd)∧ok nd) (fun i hi=>by
   obtain ⟨cs',h1,h2⟩:=hx i (by omega)
   rw [hm] at h1
   obtain ⟨nd,rfl,hw⟩:=helem _ _ _ h2
   exact ⟨nd,h1,hw⟩)
  have hlen:((List.range len).map F).length=len:=by simp
  refine ⟨_,(List.range len).map F,h0,⟨some a,cap,by rw [hlen],by omega,hmx,fun hpos=> ?_⟩,fun n hn=> ?_⟩
  rotate_left
  ·
   obtain ⟨i,hi,rfl⟩:=Ul.1 hn
   exact (hF i (List.mem_range.1 hi)).2
  rw [hlen] at hpos
  obtain ⟨g,o,spot⟩:=a
  have hspot:spot=none:=by
   obtain ⟨_,_,h3⟩:=World.cells?_some (hF 0 (by omega)).1
   have h4' :=h3 0 hm0
   rw [TJ (by rw [hlenA];exact hm0)] at h4'
   have h4:=World.cell?_spot h4'
   simpa [Addr.add] using h4
  subst hspot
  have hcell: ∀ (i:Nat) (nd:α),((List.range len).map F)[i]? =some nd→Cells w g (o+i*m) (encA nd):=by
   intro i nd hnd k v hv
   have hil:i<len:=by have:=(TV.1 hnd).1;omega
   have hnd' :F i=nd:=by simpa [hil] using hnd
   subst hnd'
   have hk:k<m:=by have:=(TV.1 hv).1;rwa [hlenA] at this
   obtain ⟨_,_,h3⟩:=World.cells?_some (hF i hil).1
   have:=h3 k hk
   rw [hv,eE,eE] at this
   exact this
  refine ⟨g,o,rfl,?_,ID hlenA w g o _ hcell⟩
  obtain ⟨u,hu⟩: ∃ u,(encA (F 0))[0]? =some u:=⟨_,TJ (by rw [hlenA];exact hm0)⟩
  have h5:=hcell 0 (F 0) (by simp [hpos]) 0 u hu
  simp only [World.cell?] at h5
  split at h5
  ·
   rename_i h6
   exact (Um.1 h6).1
  ·
   cases h5
theorem rj {n:Nat} {c:Value} {x:DataW H × List MemPlace} (h:DataW.trod enc Tryz.prog w base spare held n 3 [c]=some x): ∃ a,c= .int .i64 a∧I64 a:=by
 obtain ⟨a0,q0,_,w0⟩:=DataW.trod_int Tryz.underlying3 h
 simp only [List.cons.injEq,and_true] at q0
 exact ⟨a0,q0,bounds_i64 w0⟩
theorem RD {n:Nat} {c:Value} {x:DataW H × List MemPlace} (h:DataW.trod enc Tryz.prog w base spare held n 9 [c]=some x): ∃ a,c= .string a:=by
 obtain ⟨a0,q0,_⟩:=DataW.trod_string Tryz.underlying9 h
 simp only [List.cons.injEq,and_true] at q0
 exact ⟨a0,q0⟩
def okF (a:Rf):Prop:=I64 a.col∧I64 a.row
def okR (r:Rct):Prop:=I64 r.c1∧I64 r.r1∧I64 r.c2∧I64 r.r2
set_option maxRecDepth 100000 in
theorem DF {fuel:Nat} {cs:List Value} {x:DataW H × List MemPlace} (h:DataW.trod enc Tryz.prog w base spare held fuel 51 cs=some x): ∃ v:Rf,cs=aC v∧okF v:=by
 obtain ⟨xs,n,_,_,hlen,hxl,hf⟩:=DataW.trod_struct Tryz.underlying51 h
 have eS:Tryz.prog.cellsOf 51=2:=by kernel_rfl
 have eI:Tryz.prog.cellsOf 3=1:=by kernel_rfl
 rw [eS] at hlen
 match cs,hlen,xs,hxl with
 | [c0,c1],_,[x0,x1],_=>
  have h0:DataW.trod enc Tryz.prog w base spare held n 3 ((([c0,c1]:List Value).drop 0).take (Tryz.prog.cellsOf 3))=some x0:=hf 0 _ rfl
  rw [eI] at h0
  obtain ⟨a0,rfl,w0⟩:=rj (c:=c0) h0
  have h1:DataW.trod enc Tryz.prog w base spare held n 3 ((([Value.int .i64 a0,c1]:List Value).drop 1).take (Tryz.prog.cellsOf 3))=some x1:=hf 1 _ rfl
  rw [eI] at h1
  obtain ⟨a1,rfl,w1⟩:=rj (c:=c1) h1
  exact ⟨⟨a0,a1⟩,rfl,w0,w1⟩
set_option maxRecDepth 100000 in
theorem zX {fuel:Nat} {cs:List Value} {x:DataW H × List MemPlace} (h:DataW.trod enc Tryz.prog w base spare held fuel 33 cs=some x): ∃ v:Rct,cs=aN v∧okR v:=by
 obtain ⟨xs,n,_,_,hlen,hxl,hf⟩:=DataW.trod_struct Tryz.underlying33 h
 have eS:Tryz.prog.cellsOf 33=4:=by kernel_rfl
 have eI:Tryz.prog.cellsOf 3=1:=by kernel_rfl
 rw [eS] at hlen
 match cs,hlen,xs,hxl with
 | [c0,c1,c2,c3],_,[x0,x1,x2,x3],_=>
  have h0:DataW.trod enc Tryz.prog w base spare held n 3 ((([c0,c1,c2,c3]:List Value).drop 0).take (Tryz.prog.cellsOf 3))=some x0:=hf 0 _ rfl
  rw [eI] at h0
  obtain ⟨a0,rfl,w0⟩:=rj (c:=c0) h0
  have h1:DataW.trod enc Tryz.prog w base spare held n 3 ((([Value.int .i64 a0,c1,c2,c3]:List Value).drop 1).take (Tryz.prog.cellsOf 3))=some x1:=hf 1 _ rfl
  rw [eI] at h1
  obtain ⟨a1,rfl,w1⟩:=rj (c:=c1) h1
  have h2:DataW.trod enc Tryz.prog w base spare held n 3 ((([Value.int .i64 a0,.int .i64 a1,c2,c3]:List Value).drop 2).take (Tryz.prog.cellsOf 3))=some x2:=hf 2 _ rfl
  rw [eI] at h2
  obtain ⟨a2,rfl,w2⟩:=rj (c:=c2) h2
  have h3:DataW.trod enc Tryz.prog w base spare held n 3 ((([Value.int .i64 a0,.int .i64 a1,.int .i64 a2,c3]:List Value).drop 3).take (Tryz.prog.cellsOf 3))=some x3:=hf 3 _ rfl
  rw [eI] at h3
  obtain ⟨a3,rfl,w3⟩:=rj (c:=c3) h3
  exact ⟨⟨a0,a1,a2,a3⟩,rfl,w0,w1,w2,w3⟩
set_option maxRecDepth 100000 in
theorem GA {fuel:Nat} {cs:List Value} {x:DataW H × List MemPlace} (h:DataW.trod enc Tryz.prog w base spare held fuel 53 cs=some x): ∃ v:Et,cs=du v∧okF v.at_:=by
 obtain ⟨xs,n,_,_,hlen,hxl,hf⟩:=DataW.trod_struct Tryz.underlying53 h
 have eS:Tryz.prog.cellsOf 53=3:=by kernel_rfl
 have eI:Tryz.prog.cellsOf 51=2:=by kernel_rfl
 have eT:Tryz.prog.cellsOf 9=1:=by kernel_rfl
 rw [eS] at hlen
 match cs,hlen,xs,hxl with
 | [c0,c1,c2],_,[x0,x1],_=>
  have h0:DataW.trod enc Tryz.prog w base spare held n 51 ((([c0,c1,c2]:List Value).drop 0).take (Tryz.prog.cellsOf 51))=some x0:=hf 0 _ rfl
  rw [eI] at h0
  obtain ⟨a,q,wa⟩:=DF (cs:= [c0,c1]) h0
  simp only [aC,List.cons.injEq,and_true] at q
  obtain ⟨rfl,rfl⟩:=q
  have h2:DataW.trod enc Tryz.prog w base spare held n 9 ((([Value.int .i64 a.col,.int .i64 a.row,c2]:List Value).drop 2).take (Tryz.prog.cellsOf 9))=some x1:=hf 1 _ rfl
  rw [eT] at h2
  obtain ⟨a2,rfl⟩:=RD (c:=c2) h2
  exact ⟨⟨a,a2⟩,rfl,wa⟩
instance:Inhabited Et:=⟨⟨⟨0,0⟩,az⟩⟩
set_option maxRecDepth 100000 in
theorem qf {α:Type} [Inhabited α] {encA:α→List Value} {ok:α→Prop} {t e m:Nat} {v:Value} {d:DataW H} {p:List MemPlace} (ht:Tryz.prog.underlying t=some (.slice e)) (hm:Tryz.prog.cellsOf e=m) (hm0:0<m) (hlenA: ∀ a,(encA a).length=m)
  (helem: ∀ (n:Nat) (cs:List Value) (y:DataW H × List MemPlace),DataW.trod enc Tryz.prog w 0 spare held n e cs=some y→ ∃ a,cs=encA a∧ok a)
  (hv:Value.okWide Tryz.prog w .any base t v) (h:DataW.Trod enc Tryz.prog w 0 spare held t v d p): ∃ L:List α,Reads w v L.length (L.flatMap encA)∧ ∀ a∈L,ok a:=by
 obtain ⟨fuel,hf⟩:=h
 have hc:v.cells.toList= [v]:=by
  obtain ⟨a,n,c,rfl⟩:=okWide_slice ht hv
  rfl
 rw [hc] at hf
 obtain ⟨v',L,q,h1,h2⟩:=KS ht hm hm0 hlenA helem hf
 simp only [List.cons.injEq,and_true] at q
 subst q
 exact ⟨L,h1,h2⟩
set_option maxRecDepth 100000 in
theorem kq {v:Value} {d:DataW H} {p:List MemPlace} (hv:Value.okWide Tryz.prog w .any base 22 v) (h:DataW.Trod enc Tryz.prog w 0 spare held 22 v d p): ∃ L:List Et,Reads w v L.length (L.flatMap du)∧ ∀ a∈L,okF a.at_:=
 qf Tryz.underlying22 (by kernel_rfl) (by decide) fk (fun _ _ _ h=>GA h) hv h
end
end Go.SL
namespace Go.SL
open Go Go.Proofs Go.Proofs.YthefeclkaaocnaaGreatDoor Go.ChangeShapes Go.WideShapes Go.ChangeAt Go.RowKit Go.Deep
def tO:List (List UInt8):= [[],[35,68,73,86,47,48,33],[35,86,65,76,85,69,33],[35,78,85,77,33],[35,78,47,65],[35,82,69,70,33],[35,67,89,67,76,69,33],[35,68,69,78,73,69,68]]
def gj:List (String × DataW Unit):= [("louvre/val.words",Rows.laid_louvre_val_words)]
theorem Df:(Rows.laid_louvre_val_words:DataW Unit)= .agg (tO.map fun l=> .lit (.string l)):=rfl
theorem L8:cR=tO.map fun l=>⟨l.toArray⟩:=rfl
set_option maxRecDepth 100000 in
theorem jx {W:World} (h:laidMetH Tryz.prog gj W):Words W:=by
 rw [MakeChecks.laidMetH_plain _ _ _ (by kernel_rfl)] at h
 obtain ⟨ps,⟨g,t,cs,fuel,p,q,hg,ht,hv,hd,_,_⟩,_⟩:=h
 obtain rfl:=Option.some.inj ((show Tryz.prog.globalNamed "louvre/val.words" =some 0 by kernel_rfl).symm.trans hg)
 obtain rfl:=Option.some.inj ((show (Tryz.prog.globals[0]?).map (·.type)=some 328 by kernel_rfl).symm.trans ht)
 rw [Df] at hd
 obtain ⟨xs,m,_,ex,_,hl,hel⟩:=DataW.trod_array Tryz.underlying328 hd
 have cS:Tryz.prog.cellsOf 9=1:=by kernel_rfl
 have hcell: ∀ (j:Nat) (v:Value),(cR.map Value.string)[j]? =some v→W.cell? ⟨0,0+j,none⟩=some v:=by
  intro j v hjv
  have hj:j<8:=by
   have:=(TV.1 hjv).1
   simpa [cR] using this
  have hE:=hel j hj
  rw [cS,Va,TJ (by omega)] at hE
  obtain ⟨s,e1,e2,_⟩:=DataW.trod_string Tryz.underlying9 hE
  have e3:(xs.map (·.1))=tO.map fun l=> .lit (.string l):=(DataW.agg.inj (Prod.mk.inj ex).1).symm
  have hwl:tO.length=8:=rfl
  have e4:(xs.map (·.1))[j]? =(tO.map fun l=>(DataW.lit (.string l):DataW Unit))[j]? :=by rw [e3]
  obtain ⟨u,hu⟩: ∃ u,tO[j]? =some u:=⟨_,TJ (by rw [hwl];exact hj)⟩
  rw [Uq,Uq,TJ (by omega:j<xs.length),hu,e2] at e4
  simp only [UH,Option.some.injEq,DataW.lit.injEq,Lit.string.injEq] at e4
  have hs:s=⟨u.toArray⟩:=by
   obtain ⟨d⟩:=s
   subst e4
   rfl
  have hvv:v= .string s:=by
   rw [L8,VM,Uq,hu] at hjv
   simp only [UH,Option.some.injEq,Function.comp] at hjv
   rw [← hjv,hs]
  rw [hvv,Uc,World.var?_cell hg hv j]
  have:cs.toList[j]? =some (.string s):=by
   have h0:((cs.toList.drop j).take 1)[0]? =some (.string s):=by rw [e1];rfl
   simpa using h0
  simpa using this
 refine ⟨?_,hcell⟩
 have h5:=hcell 0 _ rfl
 simp only [World.cell?] at h5
 split at h5
 ·
  rename_i h6
  exact (Um.1 h6).1
 ·
  cases h5
end Go.SL
