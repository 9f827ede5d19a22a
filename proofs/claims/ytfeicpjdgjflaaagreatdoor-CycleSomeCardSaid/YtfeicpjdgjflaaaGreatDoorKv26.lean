/-
  Lemmas and walks, put together: Q12 Ru G1 Q15 G2 Ro Zm L2 La.
-/
import Derived.Test.YtfeicpjdgjflaaaGreatDoorKv23
import Derived.Test.YtfeicpjdgjflaaaGreatDoorKv25
set_option linter.unusedSimpArgs false
set_option linter.unusedVariables false
set_option maxRecDepth 20000
set_option maxHeartbeats 16000000
namespace Go.SL
open Go Go.Proofs
attribute [local irreducible] W WL WQ WG WA WX WLI WR WT WC VOp RW thn blk bg scp aS aV bi FnAt FnIn FnP ceP
theorem lI {L:List En} {i:Nat} (h:i<L.length):((L.flatMap cy).drop (0+i*4+0)).take 2=aw L[i].at_:=by
 have he:=congrArg (List.take 2) (cj zB L i h);rw [List.take_take] at he;rw [VD];exact he
theorem qw {L:List En} {i:Nat} (h:i<L.length):((L.flatMap cy).drop (0+i*4)).take 4=cy L[i]:=by
 rw [VD];exact cj zB L i h
theorem Ic (L:List Nd):(jF L).1.length≤L.length:=by
 unfold jF;split
 ·exact Vt _
 ·exact gX L 0
theorem FU (g:Nat) (A:Option Nat) (cap:Nat) (L:List En) (G:Gr) (a:Rf) (b:ByteArray) (R F:List Blk) (w0:World) (hR:RGOk R L G) (hs:SortG G) (hlen:L.length≤1000):
 FnIn Tryz.prog 43 [.pointer (some ⟨g,0,none⟩),bJ a,.string b] w0 (rgB g A cap L++(R++F)) fun v H=>v= .int .i64 (gL G a b).2∧ ∃ A' cap' L' R',H=rgB g A' cap' L' ++(R' ++F)∧MSub R R' ∧RGOk R' L' (gL G a b).1:=by
 refine bE Tryz.func43 rfl Tryz.ntmps43 rfl ?_;have hV:=fun (w' :World)=>(kB a.col a.row w' :aF Tryz.prog 53 [bJ a] w' (.bool (valid a.col a.row)));have hO:=fun (w' :World)=>FF b w';unfold gL;by_cases hv:a.valid=false
 ·rw [if_pos hv];have hv' :valid a.col a.row=false:=hv;rw [hv'] at hV;repeat' (first|apply ag;exact rfl;exact rfl;intro w hm;exact hV w|refine zZB ?_|refine sM fun _=>?_|refine sC ?_ ?_<;>intro hb<;>try omega|fail)
  all_goals exact bp eIO rfl rfl (by unfold rgB;exact mS) ⟨rfl,A,cap,L,R,rfl,MSub.refl _,hR⟩
 rw [if_neg hv];have hv' :valid a.col a.row=true:=by
  have:a.valid=valid a.col a.row:=rfl;rw [this] at hv;simpa using hv
 rw [hv'] at hV;have hlen2:=Dt b;have htree:=yK (b:=b);have hwf:=TQ b;generalize ofP b=r at hO hlen2 htree hwf;obtain ⟨⟨fm,v,t⟩,at_,e⟩:=r;simp only [ofV,DX] at hO;dsimp only at hlen2 htree hwf ⊢;by_cases he:e≠0
 ·rw [if_pos he];repeat' (first|apply ag;exact rfl;exact rfl;intro w hm;exact hV w|apply aJ (f:=102);exact rfl;exact rfl;intro w' hm;exact hO w';rintro _ _ ⟨A0,cap0,rfl,rfl⟩|refine zZB ?_|refine sM fun _=>?_|refine sC ?_ ?_<;>intro hb<;>try omega|fail)
  all_goals exact bp eIO rfl rfl (by unfold rgB;exact mS) ⟨rfl,A,cap,L,R,rfl,MSub.refl _,hR⟩
 rw [if_neg he];have he0:e=0:=by omega
 subst he0;have hU:=fun (w' :World) (A:Option Nat) (cap:Nat) (H' :List Blk) (hi:In (.own A 132 11 t.length cap (t.flatMap bu)) H') (hm:Mem w0 w' H')=>ID t hwf (sl A t.length cap) w' (Reads.of_own hm hi);have hul:(jF t).1.length≤256:=VR (Ic t) hlen2;have hus:fm=true→fp t=(jF t).1:=fun h=>by unfold jF;rw [htree rfl h];rfl
 obtain ⟨⟨us,ue⟩,hue⟩: ∃ x,jF t=x:=⟨_,rfl⟩;rw [hue] at hU hul hus;dsimp only at hU hul hus;refine aI 200 4 ?_;repeat' (first|apply ag;exact rfl;exact rfl;intro w hm;exact hV w|apply aJ (f:=102);exact rfl;exact rfl;intro w' hm;exact hO w';rintro _ _ ⟨A0,cap0,rfl,rfl⟩|apply aJ (f:=103);exact rfl;exact rfl;intro w' hm;exact hU w' _ _ _ pK hm;rintro _ _ ⟨A2,cap2,rfl,rfl⟩|refine zZB ?_|refine sM fun _=>?_|refine sC ?_ ?_<;>intro hb<;>try omega|fail)
 all_goals try omega
 rename_i g4 g7;obtain ⟨x,hxd⟩: ∃ x:En,x=⟨a,A0.map fun g=>⟨g,0,none⟩,cap0,A2.map fun g=>⟨g,0,none⟩,cap2,t,us,0⟩:=⟨_,rfl⟩;have hxe:cy x= [.int .i64 a.col,.int .i64 a.row,sl A0 t.length cap0,sl A2 us.length cap2]:=by rw [hxd];rfl
 obtain ⟨d0,hd0⟩: ∃ d0,(!fm)=d0:=⟨_,rfl⟩;have hfin:(AA a x d0 L).map En.abs=(if fm=false then (AP G a,(0:Int)) else (wV G a (t,fp t),0)).1:=by
  rw [← hd0]
  cases fm with
  |false=>rw [if_pos rfl,← hR.rel];exact Ol a x L
  |true=>
    rw [if_neg (by simp),hus rfl,← hR.rel];have:=Ok (x:=x) (a:=a) (by rw [hxd]) (L:=L) (by rw [hR.rel];exact hs);rw [hxd] at this ⊢;exact this
 have hfin2:(if fm=false then (AP G a,(0:Int)) else (wV G a (t,fp t),0)).2=0:=by cases fm<;>rfl
 have hRx:RGOk (.own A0 132 11 t.length cap0 (t.flatMap bu):: .own A2 128 6 us.length cap2 (us.flatMap cw)::R) (AA a x d0 L) (if fm=false then (AP G a,(0:Int)) else (wV G a (t,fp t),0)).1:=by
  refine ⟨fun f hf=> ?_,hfin⟩;rcases Oj hf with rfl|hf
  ·rw [hxd];exact ⟨rdIn.own (A:=A0) pK,rdIn.own (A:=A2) pK,by dsimp only;omega,by dsimp only;omega⟩
  ·exact (hR.en f hf).sub mS
 refine ay [0,4,7,10] rfl (fun y:Nat × List En × Bool × Option Nat × Nat=> [(12,sl y.2.2.2.1 y.2.1.length y.2.2.2.2),(13,.bool y.2.2.1),(14,.int .i64 (y.1:Int))]) (fun y=> .own y.2.2.2.1 200 4 y.2.1.length y.2.2.2.2 (y.2.1.flatMap cy):: .own A2 128 6 us.length cap2 (us.flatMap cw):: .box g7 191 [.bool fm,.int .u8 v.kind,.int .i64 v.num,.string v.text,sl A0 t.length cap0]:: .own A0 132 11 t.length cap0 (t.flatMap bu):: .box g4 35 (aw a):: .box g 113 [sl A L.length cap]:: .own A 200 4 L.length cap (L.flatMap cy)::(R++F)) (fun y=>y.1≤L.length∧(L.take y.1).foldl (fI a x) ([],d0)=(y.2.1,y.2.2.1)∧y.2.1.length≤2*y.1) (fun y=>L.length - y.1) (0,[],d0,none,0) ⟨Vt _,rfl,VA _⟩ (by subst hd0;exact sB) (by unfold rgB;simp only [Vz,Vp,Vq];exact mS) ?_;clear hU hO;rintro ⟨i,O,d,A3,c3⟩ ⟨hi,hf,hOl⟩;dsimp only at hi hf hOl ⊢;by_cases hlt:i<L.length
 ·refine ba (A:=A) pK (by omega) fun gl hA=> ?_;subst hA;have hnx:(L.take (i+1)).foldl (fI a x) ([],d0)=fI a x (O,d) L[i]:=by
   rw [Vu hlt,Yb,hf];rfl
  have hc:=lI hlt;have ha:=qw hlt;have hL:=fun w' =>yo a L[i].at_ w';generalize L[i]=e at hc ha hL hnx;obtain ⟨c1,hc1⟩: ∃ c1,bn a e.at_=c1:=⟨_,rfl⟩;obtain ⟨c2,hc2⟩: ∃ c2,decide (e.at_≠a)=c2:=⟨_,rfl⟩;rw [hc1] at hL;have hc2' :c2=true↔e.at_≠a:=by rw [← hc2];simp
  cases d with
  |false=>
    cases c1 with
    |true=>
      have hne:e.at_≠a:=(l7 hc1).symm;obtain rfl:c2=true:=hc2'.2 hne;have hst:fI a x (O,false) e=(O++ [x]++ [e],true):=by simp [fI,hc1,hne]
      repeat' first|apply aY;exact rfl;apply aa (j:=i);exact rfl;exact rfl;exact hlt|apply ai;exact rfl;apply aa (j:=i);exact rfl;exact rfl;exact hlt|apply aY;exact rfl;apply aD (ys:=aw e.at_);exact rfl;exact pK;exact hc;exact rfl|apply ai;exact rfl;apply aD (ys:=cy e);exact rfl;exact pK;exact ha;exact rfl|apply aY;exact rfl;apply eJ;exact hc2;exact rfl;exact rfl|apply dw;exact rfl;exact rfl;intro w hm;exact hL w|apply aG;(iterate 3 exact rfl);exact pK;exact pK;exact rfl;simp [cy,En.tv,En.uv,sl,Value.oneCell'];omega;simp only [maxLen];omega;intro g8 c8|refine zZG ?_|refine sM fun _=>?_|refine sC ?_ ?_<;>intro hb<;>try omega|refine sCQ ?_ ?_<;>intro hb<;>try omega|fail
      all_goals first
       |omega
       | (refine ⟨(i + 1, O ++ [x] ++ [e], true, some g8, c8), ⟨hlt, (hnx.trans hst), (by (try simp only [List.length_append, List.length_singleton]); omega)⟩, (by dsimp only; omega), (by (try simp only [List.length_append, List.length_singleton]); exact sB), sB, ?_⟩
          simp only [Vn,Vs,VF,VE,VZ,VB,Vz,Vp,Vq,hxe];exact mS)
    |false=>
      by_cases hne:e.at_≠a
      ·obtain rfl:c2=true:=hc2'.2 hne;have hst:fI a x (O,false) e=(O++ [e],false):=by simp [fI,hc1,hne]
       repeat' first|apply aY;exact rfl;apply aa (j:=i);exact rfl;exact rfl;exact hlt|apply ai;exact rfl;apply aa (j:=i);exact rfl;exact rfl;exact hlt|apply aY;exact rfl;apply aD (ys:=aw e.at_);exact rfl;exact pK;exact hc;exact rfl|apply ai;exact rfl;apply aD (ys:=cy e);exact rfl;exact pK;exact ha;exact rfl|apply aY;exact rfl;apply eJ;exact hc2;exact rfl;exact rfl|apply dw;exact rfl;exact rfl;intro w hm;exact hL w|apply aG;(iterate 3 exact rfl);exact pK;exact pK;exact rfl;simp [cy,En.tv,En.uv,sl,Value.oneCell'];omega;simp only [maxLen];omega;intro g8 c8|refine zZG ?_|refine sM fun _=>?_|refine sC ?_ ?_<;>intro hb<;>try omega|refine sCQ ?_ ?_<;>intro hb<;>try omega|fail
       all_goals first
        |omega
        | (refine ⟨(i + 1, O ++ [e], false, some g8, c8), ⟨hlt, (hnx.trans hst), (by (try simp only [List.length_append, List.length_singleton]); omega)⟩, (by dsimp only; omega), (by (try simp only [List.length_append, List.length_singleton]); exact sB), sB, ?_⟩
           simp only [Vn,Vs,VF,VE,VZ,VB,Vz,Vp,Vq,hxe];exact mS)
      ·obtain rfl:c2=false:=by cases c2 with|false=>rfl|true=>exact absurd (hc2'.1 rfl) hne
       have hst:fI a x (O,false) e=(O,false):=by
        have:=Classical.not_not.1 hne;simp [fI,this,nY]
       repeat' first|apply aY;exact rfl;apply aa (j:=i);exact rfl;exact rfl;exact hlt|apply ai;exact rfl;apply aa (j:=i);exact rfl;exact rfl;exact hlt|apply aY;exact rfl;apply aD (ys:=aw e.at_);exact rfl;exact pK;exact hc;exact rfl|apply ai;exact rfl;apply aD (ys:=cy e);exact rfl;exact pK;exact ha;exact rfl|apply aY;exact rfl;apply eJ;exact hc2;exact rfl;exact rfl|apply dw;exact rfl;exact rfl;intro w hm;exact hL w|apply aG;(iterate 3 exact rfl);exact pK;exact pK;exact rfl;simp [cy,En.tv,En.uv,sl,Value.oneCell'];omega;simp only [maxLen];omega;intro g8 c8|refine zZG ?_|refine sM fun _=>?_|refine sC ?_ ?_<;>intro hb<;>try omega|refine sCQ ?_ ?_<;>intro hb<;>try omega|fail
       all_goals first
        |omega
        | (refine ⟨(i + 1, O, false, A3, c3), ⟨hlt, (hnx.trans hst), (by (try simp only [List.length_append, List.length_singleton]); omega)⟩, (by dsimp only; omega), (by (try simp only [List.length_append, List.length_singleton]); exact sB), sB, ?_⟩
           simp only [Vn,Vs,VF,VE,VZ,VB,Vz,Vp,Vq,hxe];exact mS)
  |true=>
    by_cases hne:e.at_≠a
    ·obtain rfl:c2=true:=hc2'.2 hne;have hst:fI a x (O,true) e=(O++ [e],true):=by simp [fI,hne]
     repeat' first|apply aY;exact rfl;apply aa (j:=i);exact rfl;exact rfl;exact hlt|apply ai;exact rfl;apply aa (j:=i);exact rfl;exact rfl;exact hlt|apply aY;exact rfl;apply aD (ys:=aw e.at_);exact rfl;exact pK;exact hc;exact rfl|apply ai;exact rfl;apply aD (ys:=cy e);exact rfl;exact pK;exact ha;exact rfl|apply aY;exact rfl;apply eJ;exact hc2;exact rfl;exact rfl|apply dw;exact rfl;exact rfl;intro w hm;exact hL w|apply aG;(iterate 3 exact rfl);exact pK;exact pK;exact rfl;simp [cy,En.tv,En.uv,sl,Value.oneCell'];omega;simp only [maxLen];omega;intro g8 c8|refine zZG ?_|refine sM fun _=>?_|refine sC ?_ ?_<;>intro hb<;>try omega|refine sCQ ?_ ?_<;>intro hb<;>try omega|fail
     all_goals first
      |omega
      | (refine ⟨(i + 1, O ++ [e], true, some g8, c8), ⟨hlt, (hnx.trans hst), (by (try simp only [List.length_append, List.length_singleton]); omega)⟩, (by dsimp only; omega), (by (try simp only [List.length_append, List.length_singleton]); exact sB), sB, ?_⟩
         simp only [Vn,Vs,VF,VE,VZ,VB,Vz,Vp,Vq,hxe];exact mS)
    ·obtain rfl:c2=false:=by cases c2 with|false=>rfl|true=>exact absurd (hc2'.1 rfl) hne
     have hst:fI a x (O,true) e=(O,true):=by
      have:=Classical.not_not.1 hne;simp [fI,this]
     repeat' first|apply aY;exact rfl;apply aa (j:=i);exact rfl;exact rfl;exact hlt|apply ai;exact rfl;apply aa (j:=i);exact rfl;exact rfl;exact hlt|apply aY;exact rfl;apply aD (ys:=aw e.at_);exact rfl;exact pK;exact hc;exact rfl|apply ai;exact rfl;apply aD (ys:=cy e);exact rfl;exact pK;exact ha;exact rfl|apply aY;exact rfl;apply eJ;exact hc2;exact rfl;exact rfl|apply dw;exact rfl;exact rfl;intro w hm;exact hL w|apply aG;(iterate 3 exact rfl);exact pK;exact pK;exact rfl;simp [cy,En.tv,En.uv,sl,Value.oneCell'];omega;simp only [maxLen];omega;intro g8 c8|refine zZG ?_|refine sM fun _=>?_|refine sC ?_ ?_<;>intro hb<;>try omega|refine sCQ ?_ ?_<;>intro hb<;>try omega|fail
     all_goals first
      |omega
      | (refine ⟨(i + 1, O, true, A3, c3), ⟨hlt, (hnx.trans hst), (by (try simp only [List.length_append, List.length_singleton]); omega)⟩, (by dsimp only; omega), (by (try simp only [List.length_append, List.length_singleton]); exact sB), sB, ?_⟩
         simp only [Vn,Vs,VF,VE,VZ,VB,Vz,Vp,Vq,hxe];exact mS)
 ·have e2:i=L.length:=by omega
  subst e2;rw [V1] at hf;have hset:AA a x d0 L=Jy x (O,d):=by unfold AA;rw [hf]
  rw [hset] at hRx;cases d
  ·repeat' first|apply aG;(iterate 3 exact rfl);exact pK;exact pK;exact rfl;simp [cy,En.tv,En.uv,sl,Value.oneCell'];omega;simp only [maxLen];omega;intro g8 c8|refine zZA ?_|refine sM fun _=>?_|refine sC ?_ ?_<;>intro hb<;>try omega|fail
   all_goals first
    |omega
    | (refine bp eIO rfl rfl (H' := rgB g (some g8) c8 (O ++ [x]) ++ ((.own A0 132 11 t.length cap0 (t.flatMap bu) :: .own A2 128 6 us.length cap2 (us.flatMap cw) :: R) ++ F)) ?_ ⟨by rw [hfin2], some g8, c8, O ++ [x], _, rfl, mS, hRx⟩
       simp only [rgB,Vn,Vs,VF,VE,VZ,VB,Vz,Vp,Vq,hxe];exact mS)
  ·repeat' first|refine zZA ?_|refine sM fun _=>?_|refine sC ?_ ?_<;>intro hb<;>try omega|fail
   all_goals first
    |omega
    | (refine bp eIO rfl rfl (H' := rgB g A3 c3 O ++ ((.own A0 132 11 t.length cap0 (t.flatMap bu) :: .own A2 128 6 us.length cap2 (us.flatMap cw) :: R) ++ F)) ?_ ⟨by rw [hfin2], A3, c3, O, _, rfl, mS, hRx⟩
       simp only [rgB,Vz,Vp,Vq];exact mS)
theorem Ry (g:Nat) (A:Option Nat) (cap:Nat) (L:List En) (G:Gr) (a:Rf) (b:ByteArray) (R:List Blk) (w0:World) (hR:RGOk R L G) (hs:SortG G) (hlen:L.length≤1000):
 FnIn Tryz.prog 43 [.pointer (some ⟨g,0,none⟩),bJ a,.string b] w0 (rgB g A cap L++R) fun v H=>v= .int .i64 (gL G a b).2∧ ∃ A' cap' L' R',H=rgB g A' cap' L' ++R' ∧MSub R R' ∧RGOk R' L' (gL G a b).1:=by
 have h:=FU g A cap L G a b R [] w0 hR hs hlen;simp only [VB] at h;exact h
attribute [local irreducible] WE
theorem jX (n:Nat):((List.range (n*1)).map fun i=> [Value.bool false][i % [Value.bool false].length]!)=aH n fun _=>false:=by
 simp [aH,Nat.mod_one]
end Go.SL
namespace Go.SL
open Go Go.Proofs
attribute [local irreducible] W WL WQ WG WA WX WLI WR WT WC VOp RW thn blk bg scp aS aV bi FnAt FnP ceP
structure Gs where
 gg:Nat
 gm:Nat
 E:List En
 clock:Nat
 R1:List Blk
 gr:Nat
 A:Option Nat
 cap:Nat
 Q:List En
 R2:List Blk
def Gs.a (x:Gs):List Blk:=gB x.gg x.gm (x.E.map En.m) x.clock
def Gs.b (x:Gs):List Blk:=rgB x.gr x.A x.cap x.Q
def Gs.H (x:Gs):List Blk:=x.a++(x.b++(x.R1++x.R2))
def Gs.pa (x:Gs):Value:= .pointer (some ⟨x.gg,0,none⟩)
def Gs.pb (x:Gs):Value:= .pointer (some ⟨x.gr,0,none⟩)
structure Gs.ok (x:Gs) (G:Gr):Prop where
 a:GOk x.R1 x.E x.clock G
 b:RGOk x.R2 x.Q G
 g:GrOk G
theorem Gs.permA (x:Gs) (F:List Blk):(F++x.H).Perm (x.a++(x.R1++(x.b++(x.R2++F)))):=by
 refine VV.trans ?_;unfold Gs.H;simp only [VC];exact (Xb x.b x.R1 (x.R2++F)).append_left x.a
theorem Gs.permB (x:Gs) (F:List Blk):(F++x.H).Perm (x.b++(x.R2++(x.a++(x.R1++F)))):=by
 refine VV.trans ?_;unfold Gs.H;simp only [VC];refine (Xb x.a x.b _).trans (List.Perm.append_left x.b ?_);refine (List.Perm.append_left x.a (Xb x.R1 x.R2 F)).trans ?_;exact Xb x.a x.R2 _
theorem Gs.set (x:Gs) (G:Gr) (h:x.ok G) (c:Rf) (i:ByteArray) (F:List Blk) (w0:World) (hW:Words w0):
 FnIn Tryz.prog 41 [x.pa,bJ c,.string i] w0 (F++x.H) fun v H=>v= .int .i64 (gL G c i).2∧ ∃ E' clock' R',H=F++({ x with E:=E',clock:=clock',R1:=R' }:Gs).H∧MSub x.R1 R' ∧GOk R' E' clock' (gL G c i).1:=by
 refine (FnIn.msub (Ep x.gg x.gm x.clock x.E G c i x.R1 (x.b++(x.R2++F)) w0 h.a hW) (MSub.of_perm (x.permA F))).re ?_;rintro v H ⟨hv,E',clock',R',rfl,hs,hG⟩;exact ⟨F++({ x with E:=E',clock:=clock',R1:=R' }:Gs).H,MSub.of_perm (Gs.permA { x with E:=E',clock:=clock',R1:=R' } F).symm,hv,E',clock',R',rfl,hs,hG⟩
theorem Gs.rset (x:Gs) (G:Gr) (h:RGOk x.R2 x.Q G) (hs:SortG G) (hl:G.length≤900) (c:Rf) (i:ByteArray) (F:List Blk) (w0:World):
 FnIn Tryz.prog 43 [x.pb,bJ c,.string i] w0 (F++x.H) fun v H=>v= .int .i64 (gL G c i).2∧ ∃ A' cap' Q' R',H=F++({ x with A:=A',cap:=cap',Q:=Q',R2:=R' }:Gs).H∧MSub x.R2 R' ∧RGOk R' Q' (gL G c i).1:=by
 refine (FnIn.msub (FU x.gr x.A x.cap x.Q G c i x.R2 (x.a++(x.R1++F)) w0 h hs (by rw [h.len];omega)) (MSub.of_perm (x.permB F))).re ?_;rintro v H ⟨hv,A',cap',Q',R',rfl,hss,hG⟩;exact ⟨F++({ x with A:=A',cap:=cap',Q:=Q',R2:=R' }:Gs).H,MSub.of_perm (Gs.permB { x with A:=A',cap:=cap',Q:=Q',R2:=R' } F).symm,hv,A',cap',Q',R',rfl,hss,hG⟩
attribute [local irreducible] FnIn
def Vb (r:Option Gr × Int) (v:Value) (H:List Blk):Prop:=match r with
 |(none,e)=>v= .tuple #[.pointer none,.int .i64 e]∧H= []
 |(some G,_)=> ∃ g A cap L R,v= .tuple #[.pointer (some ⟨g,0,none⟩),.int .i64 0]∧H=rgB g A cap L++R∧RGOk R L G
def zo (G:Gr) (L:List Et):Gr:=L.foldl (fun G e=>(gL G e.at_ e.input).1) G
theorem Jt {b:Option Rf} {e:Et} (h:lz b e=0):e.at_.valid=true∧(ofP e.input).2.2=0:=by
 have hg: ∀ (c1 c2 c3:Prop) [Decidable c1] [Decidable c2] [Decidable c3] (z:Int),(if c1 then (3:Int) else if c2 then 12 else if c3 then 2 else z)=0→ ¬ c1∧z=0:=by
  intro c1 c2 c3 _ _ _ z hz;by_cases h1:c1
  ·rw [if_pos h1] at hz;cases hz
  ·rw [if_neg h1] at hz;by_cases h2:c2
   ·rw [if_pos h2] at hz;cases hz
   ·rw [if_neg h2] at hz;by_cases h3:c3
    ·rw [if_pos h3] at hz;cases hz
    ·rw [if_neg h3] at hz;exact ⟨h1,hz⟩
 obtain ⟨h1,h2⟩:=hg _ _ _ _ h;exact ⟨by simpa using h1,h2⟩
theorem uE: ∀ (L:List Et) (i:Nat) (b:Option Rf),(gy i b L).2=0→ ∀ e∈L,e.at_.valid=true∧(ofP e.input).2.2=0
 | [],_,_,_,e,he=>by cases he
 |x::r,i,b,h,e,he=>by
  rw [gy] at h;split at h
  ·rename_i hf;exact absurd h hf
  ·rename_i hf;rcases VN.1 he with rfl|he
   ·exact Jt (Classical.not_not.1 hf)
   ·exact uE r _ _ h e he
theorem Kz: ∀ (L:List Et) (G:Gr),(∀ e∈L,e.at_.valid=true∧(ofP e.input).2.2=0)→AJ G L=(some (zo G L),0)
 | [],G,_=>rfl
 |e::r,G,h=>by
  have he:(gL G e.at_ e.input).2=0:=by
   obtain ⟨h1,h2⟩:=h e Vr;unfold gL;rw [if_neg (by rw [h1];simp),if_neg (by rw [h2];simp)];split<;>rfl
  rw [AJ,if_neg (by rw [he];simp),Kz r _ fun f hf=>h f (Vv _ hf)]
  rfl
theorem RH (L:List Et):Gn L=if (iY L).2≠0 then (none,(iY L).2) else (some (zo [] L),0):=by
 unfold Gn;split
 ·rfl
 ·rename_i h;exact Kz L [] (uE L 0 none (Classical.not_not.1 h))
theorem Rz (L:List Et) (tv:Value) (w:World) (ht:Reads w tv L.length (L.flatMap rK)) (hlen:L.length≤900):
 FnAt Tryz.prog 40 [tv] w (Vb (Gn L)):=by
 have hC:=fun (w' :World) (H:List Blk) (hm:Mem w w' H)=>AC L tv w' (ht.of_w0 hm) (by omega);obtain ⟨Al,cl,rfl,hl1,hl2,hl3⟩:=ht;refine aA Tryz.func40 rfl Tryz.ntmps40 rfl ?_;rw [RH];generalize iY L=c at hC;obtain ⟨ci,ce⟩:=c;dsimp only at hC ⊢;by_cases hce:ce≠0
 ·rw [if_pos hce];repeat' (first|apply ag (f:=98);exact rfl;exact rfl;intro w' hm;exact hC w' _ hm|refine zZB ?_|refine sM fun _=>?_|refine sC ?_ ?_<;>intro hb<;>try omega|fail)
  all_goals first
   |omega
   |exact dm eIO rfl rfl rfl (.nil _) ⟨rfl,rfl⟩
 rw [if_neg hce];have hce0:ce=0:=Classical.not_not.1 hce;subst hce0;refine aI 200 4 ?_;repeat' (first|apply ag (f:=98);exact rfl;exact rfl;intro w' hm;exact hC w' _ hm|refine zZB ?_|refine sM fun _=>?_|refine sC ?_ ?_<;>intro hb<;>try omega|fail)
 all_goals try omega
 rename_i g;refine ay [0,6] rfl (fun x:Nat × Option Nat × Nat × List En × Gr × List Blk=> [(7,.int .i64 (x.1:Int))]) (fun x=>rgB g x.2.1 x.2.2.1 x.2.2.2.1++x.2.2.2.2.2) (fun x=>x.1≤L.length∧GrOk x.2.2.2.2.1∧x.2.2.2.2.1.length≤x.1∧RGOk x.2.2.2.2.2 x.2.2.2.1 x.2.2.2.2.1∧zo [] L=zo x.2.2.2.2.1 (L.drop x.1)) (fun x=>L.length - x.1) (0,none,0,[],[],[]) ⟨by simp,ze,VA _,⟨(fun _ h=>by cases h),rfl⟩,rfl⟩ sB (by unfold rgB;exact mS) ?_;rintro ⟨i,A,cap,Q,G,R⟩ ⟨hi,hG,hGl,hR,hnew⟩;dsimp only at hi hG hGl hR hnew ⊢;by_cases hlt:i<L.length
 ·obtain ⟨gl,ol,rfl,hrl⟩:=hl3 (by omega);have he:=hrl.elem lJ i hlt;rw [Vy hlt] at hnew;generalize L[i]=e at he hnew;have hS:=Ry g A cap Q G e.at_ e.input R w hR hG.sort (by rw [hR.len];omega);have hG' :=hG.set e.at_ e.input;have hGl' :=yc G e.at_ e.input;rw [show zo G (e::L.drop (i+1))=zo (gL G e.at_ e.input).1 (L.drop (i+1)) from rfl] at hnew;generalize gL G e.at_ e.input=sg at hS hnew hG' hGl';obtain ⟨G',se⟩:=sg;dsimp only at hS hnew hG' hGl';repeat' (first|refine zZA ?_|refine sM fun _=>?_|refine sC ?_ ?_<;>intro hb<;>try omega|fail)
  all_goals try omega
  refine fa (id:=8) [11] [] [] (by kernel_rfl) (by kernel_rfl) (by kernel_rfl) (MSub.nil _) ?_;repeat' (first|apply dC (d:=27);(iterate 3 exact rfl);apply aa (j:=i);exact rfl;exact rfl;exact hlt|apply dC (d:=32);(iterate 3 exact rfl);apply aa (j:=i);exact rfl;exact rfl;exact hlt|apply dC (d:=29);(iterate 3 exact rfl);apply cZ (off:=0) (ys:=aw e.at_) he;(iterate 3 exact rfl)|apply dC (d:=34);(iterate 3 exact rfl);apply eP (off:=2);exact rfl;exact he;exact rfl|apply ak (f:=43);exact rfl;exact rfl;exact FnIn.msub hS (MSub.refl _);rintro _ _ ⟨rfl,A',cap',Q',R',rfl,hsub,hR'⟩|refine zZI ?_|refine sM fun _=>?_|refine sC ?_ ?_<;>intro hb<;>try omega|refine sCW ?_ ?_<;>intro hb<;>try omega|fail)
  all_goals first
   |omega
   |refine ⟨(i+1,A',cap',Q',G',R'),⟨hlt,hG',(by dsimp only;omega),hR',hnew⟩,(by dsimp only;omega),sB,sB,MSub.refl _⟩
 ·have e2:i=L.length:=by omega
  subst e2;rw [V8,show zo G []=G from rfl] at hnew;rw [hnew];repeat' (first|refine zZA ?_|refine sM fun _=>?_|refine sC ?_ ?_<;>intro hb<;>try omega|fail)
  all_goals first
   |omega
   |exact dm eIO rfl rfl rfl (MSub.refl _) ⟨g,A,cap,Q,R,rfl,rfl,hR⟩
end Go.SL
namespace Go.SL
open Go Go.Proofs
attribute [local irreducible] W WL WQ WG WA WX WLI WR WT WC VOp RW thn blk bg scp aS aV bi FnAt FnP ceP
structure Gp where
 gg:Nat
 gm:Nat
 E:List En
 clock:Nat
 gr:Nat
 A:Option Nat
 cap:Nat
 Q:List En
 R:List Blk
def Gp.a (x:Gp):List Blk:=gB x.gg x.gm (x.E.map En.m) x.clock
def Gp.b (x:Gp):List Blk:=rgB x.gr x.A x.cap x.Q
def Gp.H (x:Gp):List Blk:=x.a++(x.b++x.R)
def Gp.pa (x:Gp):Value:= .pointer (some ⟨x.gg,0,none⟩)
def Gp.pb (x:Gp):Value:= .pointer (some ⟨x.gr,0,none⟩)
structure Gp.ok (x:Gp) (G:Gr):Prop where
 a:GOk x.R x.E x.clock G
 b:RGOk x.R x.Q G
 g:GrOk G
def Gs.p (x:Gs):Gp:=⟨x.gg,x.gm,x.E,x.clock,x.gr,x.A,x.cap,x.Q,x.R1++x.R2⟩
theorem Gs.p_ok {x:Gs} {G:Gr} (h:x.ok G):x.p.ok G:=⟨h.a.sub (MSub.appL _ _),h.b.sub (MSub.appR _ _),h.g⟩
theorem Gp.subA (x:Gp):MSub (gB x.gg x.gm (x.E.map En.m) x.clock++x.R) x.H:=MSub.mid _ _ _
section
variable (x:Gp) (G:Gr) (h:x.ok G) {H:List Blk} (hs:MSub x.H H) (w0:World)
include h hs
theorem Gp.usesA (c:Rf):FnIn Tryz.prog 59 [x.pa,bJ c] w0 H fun v H' => ∃ A cap,v=sl A (aU G c).length cap∧H' = .own A 128 6 (aU G c).length cap ((aU G c).flatMap cw)::H:=h.a.uses_any x.gg x.gm (MSub.trans x.subA hs) w0 c
variable (hl:G.length≤900)
include hl
theorem Gp.formulas:FnIn Tryz.prog 22 [x.pa] w0 H fun v H' => ∃ A cap,v=sl A (au G).length cap∧H' = .own A 35 2 (au G).length cap ((au G).flatMap aw)::H:=h.a.formulas_any x.gg x.gm (MSub.trans x.subA hs) w0 hl
theorem Gp.edges:FnIn Tryz.prog 55 [x.pa] w0 H fun v H' => ∃ A cap,v=sl A (cF G).length cap∧H' = .own A 119 4 (cF G).length cap ((cF G).flatMap cM)::H:=h.a.edges_any x.gg x.gm (MSub.trans x.subA hs) w0 hl
end
attribute [local irreducible] FnIn WE
structure Rdr (gg:Nat) (G:Gr) (B:List Blk) (w0:World):Prop where
 g:GrOk G
 l:G.length≤900
 ur: ∀ r H,MSub B H→FnIn Tryz.prog 26 [.pointer (some ⟨gg,0,none⟩),.agg (bz r).toArray] w0 H fun v H' => ∃ A cap,v=sl A (eU G r).length cap∧H' = .own A 35 2 (eU G r).length cap ((eU G r).flatMap aw)::H
 fm: ∀ H,MSub B H→FnIn Tryz.prog 22 [.pointer (some ⟨gg,0,none⟩)] w0 H fun v H' => ∃ A cap,v=sl A (au G).length cap∧H' = .own A 35 2 (au G).length cap ((au G).flatMap aw)::H
 us: ∀ d H,MSub B H→FnIn Tryz.prog 59 [.pointer (some ⟨gg,0,none⟩),bJ d] w0 H fun v H' => ∃ A cap,v=sl A (aU G d).length cap∧H' = .own A 128 6 (aU G d).length cap ((aU G d).flatMap cw)::H
open Go.RowKit
def DW (i:Nat):List Value:= [.int .i64 (i:Int)]
theorem zz (i:Nat):(DW i).length=1:=rfl
theorem OQ (l:List Nat):nzC l=l.flatMap DW:=by
 unfold nzC DW
 induction l with
 |nil=>rfl
 |cons a l ih=>rw [VU,VE,ih];rfl
noncomputable def OA (X:Nx) (i v:Nat):Bool:= @decide (pathN X i v) (Classical.propDecidable _)
theorem FT {X:Nx} {i v:Nat}:OA X i v=true↔pathN X i v:=by unfold OA;exact @decide_eq_true_iff _ (Classical.propDecidable _)
theorem SU {q:Qu} {k:Nat} {L:List Nat} (h:q.ok DW 1 (k::L)) (hc:q.n≤q.c):q.ys[q.off+0*1]? =some (.int .i64 (k:Int)):=by
 have h1:=h.head (zz k) hc;have h2:((q.ys.drop (q.off+0*1)).take 1)[0]? =some (.int .i64 (k:Int)):=by rw [h1];rfl
 rw [Yo,if_pos (by decide),Wz,XA] at h2;exact h2
theorem IW (X:Nx) (hX: ∀ i,∀ k∈ax X i,k<X.length) (hlen:X.length≤1000) (hrl: ∀ i,(ax X i).length≤1000) (i0:Nat) (h0:i0<X.length) (Ac:Option Addr) (cc:Nat) (mv xv:Value) (w:World) (hv:JRd w xv X):
 FnAt Tryz.prog 51 [.agg #[.slice Ac X.length cc,mv,xv],.int .i64 (i0:Int)] w fun v H=> ∃ g,v= .slice (some ⟨g,0,none⟩) X.length X.length∧H= [ig X.length g (OA X i0)]:=by
 obtain ⟨vs0,hvl,⟨Av,cv,rfl,hm1,hm2,hm3⟩,hrow⟩:=hv;obtain ⟨gv,ov,rfl,hrv⟩:=hm3 (by omega);refine aA Tryz.func51 rfl Tryz.ntmps51 rfl ?_;repeat' (first|apply dK (c:=X.length);(iterate 3 exact rfl);omega;simp only [maxLen];omega;intro go;(try simp only [jX])|refine zZB ?_|refine sM fun _=>?_|refine sC ?_ ?_<;>intro hb<;>try omega|fail)
 all_goals try omega
 rename_i g2 gq;let p:Nat→Prop:=pathN X i0;have hp0: ∀ u∈ax X i0,p u:=fun u hu=>⟨u,hu,.refl u⟩;have hp1: ∀ v u,p v→u∈ax X v→p u:=fun v u ⟨k,hk,r⟩ hu=>⟨k,hk,r.trans (Rch.one hu)⟩;refine ay [2,5] rfl (fun z:(Nat→Bool) × List Nat × List Nat × Qu=> [(6,z.2.2.2.v)]) (fun z=> [.own (some z.2.2.2.g) 3 1 z.2.2.2.n z.2.2.2.c z.2.2.2.ys,.own (some go) 4 1 X.length X.length (aH X.length z.1),.box g2 101 [.slice Ac X.length cc,mv,.slice (some ⟨gv,ov,none⟩) X.length cv]]) (fun z=>WkI X p z.1 z.2.1 z.2.2.1∧z.2.2.2.ok DW 1 z.2.1∧z.2.2.2.n≤1+mq X.length z.1∧(∀ x∈z.2.1,x<X.length∧(x=i0∨p x))∧(i0∈z.2.2.1∨i0∈z.2.1)) (fun z=>z.2.1.length+(X.length - mq X.length z.1)) (fun _=>false,[i0],[],⟨gq,0,0,1,1,DW i0⟩) ⟨⟨fun v h=>(by cases h),fun v h=>(by cases h),fun v h=>(by cases h)⟩,⟨Vt _,fun _=>by rw [XV],rfl,rfl⟩,Nat.le_add_right _ _,fun x hx=>by rw [Vx.1 hx];exact ⟨h0,.inl rfl⟩,.inr (Vx.2 rfl)⟩ sB (by simp only [Qu.v];exact mS) ?_;rintro ⟨M,todo,dn,q⟩ ⟨hI,hq,hqn,htd,hin⟩;dsimp only at hI hq hqn htd hin ⊢;have hql:=hq.len;have hcn:=ra X.length M
 cases todo with
 |nil=>
   rw [WN] at hql;have hfin:=hI.reach (hin.resolve_right XJ);have hM:aH X.length M=aH X.length (OA X i0):=aO fun v _=>by rw [V3,hfin,FT];exact Iff.rfl
   rw [hM];repeat' (first|refine zZB ?_|refine sM fun _=>?_|refine sC ?_ ?_<;>intro hb<;>try omega|fail)
   all_goals first
    |omega
    |exact bp eIO rfl rfl (by unfold ig;exact mS) ⟨go,rfl,rfl⟩
 |cons k todo=>
   rw [Vw] at hql;refine QB (A:=some q.g) pK fun hle=> ?_;have hhd:=SU hq hle;have hpo:=hq.pop (zz k) hle;obtain ⟨hkl,hkp⟩:=htd k Vr;have htd' :=fun x (hx:x∈todo)=>htd x (Vv _ hx);obtain ⟨u,hu,⟨Ai,ci,rfl,hi1,hi2,hi3⟩⟩:=hrow k hkl;have hc:=hrv.cellV k hu;have hJ0:=hI.pop;have hpk: ∀ u∈ax X k,p u:=fun u hu=>hkp.elim (fun e=>hp0 u (e ▸ hu)) fun h=>hp1 k u h hu;have hXk:=hX k;have hrk:=hrl k;have hfinJ:=fun M todo (hJ:WkJ X p M k todo dn (ax X k))=>hJ.fin;generalize ax X k=L at*;repeat' (first|apply ai (d:=20);exact rfl;apply aa (j:=0);exact rfl;exact rfl;omega|apply ai (d:=21);exact rfl;apply aq;exact rfl;exact pK;exact hhd|apply ai (d:=23);exact rfl;apply NM q;exact rfl;omega;exact hle|apply ai (d:=27);exact rfl;apply aa (j:=k);exact rfl;exact rfl;exact hkl|apply ai (d:=28);exact rfl;apply bF;exact rfl;exact hc|refine zZB ?_|refine sM fun _=>?_|refine sC ?_ ?_<;>intro hb<;>try omega|fail)
   all_goals try omega
   refine ay [2,5,28,29] rfl (fun z:Nat × (Nat→Bool) × List Nat × Qu=> [(30,.int .i64 (z.1:Int)),(6,z.2.2.2.v)]) (fun z=> [.own (some z.2.2.2.g) 3 1 z.2.2.2.n z.2.2.2.c z.2.2.2.ys,.own (some go) 4 1 X.length X.length (aH X.length z.2.1),.box g2 101 [.slice Ac X.length cc,mv,.slice (some ⟨gv,ov,none⟩) X.length cv]]) (fun z=>z.1≤L.length∧WkJ X p z.2.1 k z.2.2.1 dn (L.take z.1)∧z.2.2.2.ok DW 1 z.2.2.1∧z.2.2.2.n≤1+mq X.length z.2.1∧(∀ x∈z.2.2.1,x<X.length∧(x=i0∨p x))∧z.2.2.1.length+mq X.length M=todo.length+mq X.length z.2.1∧(i0∈k::dn∨i0∈z.2.2.1)) (fun z=>L.length - z.1) (0,M,todo,q.pop 1) ⟨Vt _,hJ0,hpo,hqn,htd',rfl,hin.elim (fun h=> .inl (Vv _ h)) fun h=>(VN.1 h).elim (fun e=> .inl (e ▸ Vr)) .inr⟩ sB (by simp only [Qu.pop];exact mS) ?_;clear hI hq hqn htd hin hql hhd hpo htd' hJ0 hle;rintro ⟨m,M1,todo1,q1⟩ ⟨hm,hJ,hq1,hqn1,htd1,hsum,hin1⟩;dsimp only at hm hJ hq1 hqn1 htd1 hsum hin1 ⊢;have hcn1:=ra X.length M1;by_cases hlm:m<L.length
   ·obtain ⟨gi,oi,rfl,hri⟩:=hi3 (by omega);have he:=hri.natN m hlm;have hul:=hXk _ (dM hlm);have hup:=hpk _ (dM hlm);have htk:L.take (m+1)=L.take m++ [atN L m]:=by rw [Vu hlm,eE hlm]
    generalize atN L m=u at he hul hup htk;have hou:=bV (f:=M1) hul
    cases hMu:M1 u with
    |true=>
      rw [hMu] at hou;have hJ2:=hJ.old hMu;rw [← htk] at hJ2;repeat' (first|apply ai (d:=32);exact rfl;apply aa (j:=m);exact rfl;exact rfl;exact hlm|apply ai (d:=33);exact rfl;apply bF;exact rfl;exact he|apply ai (d:=36);exact rfl;apply aa (j:=u);exact rfl;exact rfl;exact hul|apply ai (d:=37);exact rfl;apply aq;exact rfl;exact pK;exact hou|refine zZA ?_|refine sM fun _=>?_|refine sC ?_ ?_<;>intro hb<;>try omega|fail)
      all_goals first
       |omega
       |refine ⟨(m+1,M1,todo1,q1),⟨hlm,hJ2,hq1,hqn1,htd1,hsum,hin1⟩,by dsimp only;omega,by exact sB,by exact sB,by exact mS⟩;done
    |false=>
      rw [hMu] at hou;have hJ2:=hJ.new hup;rw [← htk] at hJ2;have hcm:=Cy hul hMu;have hst:=fk (n:=X.length) (f:=M1) (k:=u) (v:=true);obtain ⟨qg,qoff,qk,qn,qc,qys⟩:=q1;obtain ⟨hq3,hq4,hq5,hq6⟩:=hq1;dsimp only at hq3 hq4 hq5 hq6 hqn1 ⊢;simp only [Qu.v];repeat' (first|apply ai (d:=32);exact rfl;apply aa (j:=m);exact rfl;exact rfl;exact hlm|apply ai (d:=33);exact rfl;apply bF;exact rfl;exact he|apply ai (d:=36);exact rfl;apply aa (j:=u);exact rfl;exact rfl;exact hul|apply ai (d:=37);exact rfl;apply aq;exact rfl;exact pK;exact hou|apply ai (d:=41);exact rfl;apply aa (j:=u);exact rfl;exact rfl;exact hul|apply aW (g:=go);exact rfl;exact rfl;exact pK;exact rfl;rw [eM];omega;rw [hst]|apply rR;exact rfl;exact rfl;exact hq3;exact hq4;exact rfl;exact pK;exact pK;exact rfl;simp [Value.oneCell'];omega;simp only [maxLen];omega;intro g' off' k' n2 c2 ys hk2 hoff2 hlen2 hn2 hys2|refine zZA ?_|refine sM fun _=>?_|refine sC ?_ ?_<;>intro hb<;>try omega|fail)
      all_goals first
       |omega
       | (refine ⟨(m + 1, (fun x => if x = u then true else M1 x), todo1 ++ [u], ⟨g', off', k', n2, c2, ys⟩), ⟨hlm, hJ2, ⟨hk2, hoff2, (by rw [List.length_append]; exact hlen2.trans (by rw [hq5]; rfl)), (by rw [hys2, hq6, List.flatMap_append]; rfl)⟩, (by dsimp only; rw [hcm]; omega), (fun x hx => ?_), (by dsimp only; rw [List.length_append, hcm, List.length_singleton]; omega), hin1.imp id (List.mem_append_left _)⟩, by dsimp only; omega, by exact sB, by exact sB, by exact mS⟩
          rcases VH.1 hx with hx|hx
          ·exact htd1 x hx
          ·rw [Vx.1 hx];exact ⟨hul,.inr hup⟩)
   ·have hm2:m=L.length:=by omega
    subst hm2;rw [V1] at hJ;have hI2:=hfinJ _ _ hJ;repeat' (first|refine zZA ?_|refine sM fun _=>?_|refine sC ?_ ?_<;>intro hb<;>try omega|fail)
    all_goals first
     |omega
     |refine ⟨(M1,todo1,k::dn,q1),⟨hI2,hq1,hqn1,htd1,hin1⟩,by dsimp only;rw [List.length_cons];omega,by exact sB,by exact sB,by exact mS⟩;done
end Go.SL
namespace Go.SL
open Go Go.Proofs
attribute [local irreducible] W WL WQ WG WA WX WLI WR WT WC VOp RW thn blk bg scp aS aV bi FnAt FnIn FnP ceP
def Ch (G:Gr) (l:List Pu):Gr:=l.foldl (fun G p=>(gL G p.ref p.input).1) G
def pX (L:List Pu):Gr:=Ch [] (L.take 40)
theorem B6: ∀ (l:List Pu) (G:Gr),(Ch G l).length≤G.length+l.length
 | [],G=>VA _
 |p::r,G=>by
  have h1:=B6 r (gL G p.ref p.input).1;have h2:=yc G p.ref p.input;simp only [Vw];exact VR h1 (by omega)
theorem rX (L:List Pu):(pX L).length≤40:=by
 have:=B6 (L.take 40) [];rw [VQ,WN] at this;unfold pX;omega
theorem Im (a b R1 R2:List Blk) (p q:Blk):MSub ([p,q]++(a++(b++(R1++R2)))) (p::((b++R2)++((a++R1)++ [q]))):=by
 refine MSub.of_perm (List.Perm.cons p ?_);refine (show ((b++R2)++((a++R1)++ [q])).Perm (q::((b++R2)++(a++R1))) from ?_).trans (List.Perm.cons q ?_)
 ·rw [← VC];exact VV
 ·refine VV.trans ?_;simp only [VC];exact (Xb R1 b R2).append_left a
theorem OW:Gn []=(some [],0):=rfl
theorem Qe (L:List Pu) (tv:Value) (w:World) (ht:Reads w tv L.length (L.flatMap mT)) (hW:Words w):
 FnAt Tryz.prog 10 [tv] w fun v H=> ∃ x:Gs,v= .tuple #[.agg #[x.pa,x.pb],.bool true]∧H=x.H∧x.ok (pX L):=by
 have hN:=fun (w' :World) (H:List Blk) (hm:Mem w w' H)=>Qf [] (.slice none 0 0) w' ⟨none,0,rfl,VA _,Vt _,fun h=>by cases h⟩ (by simp) (hW.next hm);have hM:=fun (w' :World)=>Rz [] (.slice none 0 0) w' ⟨none,0,rfl,VA _,Vt _,fun h=>by cases h⟩ (by simp);rw [OW] at hN hM;obtain ⟨Al,cl,rfl,hl1,hl2,hl3⟩:=ht;refine aA Tryz.func10 rfl Tryz.ntmps10 rfl ?_;repeat' (first|apply aJ (f:=33);exact rfl;exact rfl;intro w' hm;exact hN w' _ hm;rintro _ _ ⟨gg,gm,E,clock,R1,rfl,rfl,hGA⟩|apply aJ (f:=40);exact rfl;exact rfl;intro w' hm;exact hM w';rintro _ _ ⟨gr,A,cap,Q,R2,rfl,rfl,hGB⟩|refine zZB ?_|refine sM fun _=>?_|refine sC ?_ ?_<;>intro hb<;>try omega|fail)
 all_goals try omega
 rename_i g2 g8;refine ay [0,4,6,8,2] rfl (fun y:Nat × Gs × Gr=> [(9,.int .i64 (y.1:Int))]) (fun y=> [.box g8 28 [.pointer (some ⟨gg,0,none⟩),.pointer (some ⟨gr,0,none⟩)],.box g2 28 [.pointer none,.pointer none]]++y.2.1.H) (fun y=>(y.2.1.gg=gg∧y.2.1.gr=gr)∧y.1≤L.length∧y.1≤40∧y.2.1.ok y.2.2∧y.2.2.length≤y.1∧pX L=Ch y.2.2 ((L.take 40).drop y.1)) (fun y=>L.length - y.1) (0,⟨gg,gm,E,clock,R1,gr,A,cap,Q,R2⟩,[]) ⟨⟨rfl,rfl⟩,Vt _,Vt _,⟨hGA,hGB,ze⟩,VA _,rfl⟩ sB (Im _ _ _ _ _ _) ?_;rintro ⟨i,x,G⟩ ⟨⟨hgg,hgr⟩,hi,hi4,hx,hGl,hst⟩;dsimp only at hgg hgr hi hi4 hx hGl hst ⊢;subst hgg hgr;by_cases hlt:i<L.length∧i<40
 ·obtain ⟨hlt,hlt4⟩:=hlt;obtain ⟨gl,ol,rfl,hrl⟩:=hl3 (by omega);have he:=hrl.elem qZ i hlt;have hlk:i<(L.take 40).length:=by rw [VQ];omega
  rw [Vy hlk,show (L.take 40)[i]=L[i] by rw [X9]] at hst;generalize L[i]=p at he hst;rw [show ∀ r,Ch G (p::r)=Ch (gL G p.ref p.input).1 r from fun _=>rfl] at hst;have hAt:=fun w=>RA p w;have hS:=fun F=>x.set G hx p.ref p.input F w hW;have hT:=fun (x' :Gs) (h:RGOk x'.R2 x'.Q G) F=>x'.rset G h hx.g.sort (by omega) p.ref p.input F w;have hg' :=hx.g.set p.ref p.input;have hgl:=yc G p.ref p.input;generalize p.ref=c at hAt hS hT hst hg' hgl;generalize gL G c p.input=sg at hS hT hst hg' hgl;obtain ⟨G',se⟩:=sg;dsimp only at hS hT hst hg' hgl;repeat' (first|refine zZA ?_|refine sM fun _=>?_|refine sC ?_ ?_<;>intro hb<;>try omega|fail)
  all_goals try omega
  refine fa (id:=9) [5,11,17,23] [] [] (by kernel_rfl) (by kernel_rfl) (by kernel_rfl) (MSub.nil _) ?_;repeat' (first|apply dC;(iterate 3 exact rfl);apply aa (j:=i);exact rfl;exact rfl;exact hlt|apply dC;(iterate 3 exact rfl);apply bC;exact rfl;exact he;exact rfl|apply dC;(iterate 3 exact rfl);apply eP (off:=2);exact rfl;exact he;exact rfl|apply xH;(iterate 4 exact rfl);intro w hm;exact hAt w|apply ak (f:=41);exact rfl;exact rfl;exact FnIn.msub (hS [.box g8 28 [.pointer (some ⟨x.gg,0,none⟩),.pointer (some ⟨x.gr,0,none⟩)],.box g2 28 [.pointer none,.pointer none]]) (MSub.refl _);rintro _ _ ⟨rfl,E',clock',R1',rfl,hs1,hG1⟩|apply ak (f:=43);exact rfl;exact rfl;exact FnIn.msub (hT { x with E:=E',clock:=clock',R1:=R1' } hx.b [.box g8 28 [.pointer (some ⟨x.gg,0,none⟩),.pointer (some ⟨x.gr,0,none⟩)],.box g2 28 [.pointer none,.pointer none]]) (MSub.refl _);rintro _ _ ⟨rfl,A',cap',Q',R2',rfl,hs2,hG2⟩|apply dC;(iterate 3 exact rfl);apply jK;exact rfl;exact rfl|refine zZI ?_|refine sM fun _=>?_|refine sC ?_ ?_<;>intro hb<;>try omega|refine sCW ?_ ?_<;>intro hb<;>try omega|fail)
  all_goals first
   |omega
   |refine ⟨(i+1,{ x with E:=E',clock:=clock',R1:=R1',A:=A',cap:=cap',Q:=Q',R2:=R2' },G'),⟨⟨rfl,rfl⟩,hlt,hlt4,⟨hG1,hG2,hg'⟩,(by dsimp only;omega),hst⟩,(by dsimp only;omega),sB,sB,MSub.refl _⟩
 ·have hdr:(L.take 40).drop i= []:=by
   rw [YI,VQ];omega
  rw [hdr,show Ch G []=G from rfl] at hst;rw [← hst] at hx;repeat' (first|refine zZA ?_|refine sM fun _=>?_|refine sC ?_ ?_<;>intro hb<;>try omega|fail)
  all_goals first
   |omega
   |exact BI eIO rfl rfl pK rfl rfl (H' :=x.H) (MSub.drop .hd (MSub.drop .hd (MSub.refl _))) ⟨x,rfl,rfl,hx⟩
theorem vU (L:List Pu) (tv:Value) (w:World) (ht:Reads w tv L.length (L.flatMap mT)) (hW:Words w):
 FnAt Tryz.prog 10 [tv] w fun v H=> ∃ x:Gp,v= .tuple #[.agg #[x.pa,x.pb],.bool true]∧H=x.H∧x.ok (pX L):=
 (Qe L tv w ht hW).mono fun v H ⟨x,h1,h2,h3⟩=>⟨x.p,h1,h2,Gs.p_ok h3⟩
theorem Rx {L:List Rf} {k:Nat} (h:k<L.length):((L.flatMap aw).drop (0+k*2)).take 2=aw L[k]:=by
 rw [VD];exact cj bS L k h
end Go.SL
