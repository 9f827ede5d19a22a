/-
  Lemmas and walks, put together: W5 A1 W6 W7 W34 W29 Cd A3 A4 Fc.
-/
import Derived.Carry
import Derived.Deep.Slices
import Derived.LaidMore
import Derived.Lay
import Derived.OpenShut
import Derived.ProofKit
import Derived.SevenTiedAt
import Derived.Stop.Joined
import Derived.Test.YthgjiibbmkiplaaGreatDoorCards
import Derived.Test.YthgjiibbmkiplaaGreatDoorRows
import Derived.Test.YthgjiibbmkiplaaGreatDoorTie
import Derived.Test.YthgjiibbmkiplaaGreatDoorKw08
set_option linter.unusedSimpArgs false
set_option linter.unusedVariables false
set_option maxRecDepth 20000
set_option maxHeartbeats 16000000
namespace Go.SL
open Go Go.Proofs
attribute [local irreducible] W WL WQ WG WA VOp thn blk aY FnAt FnIn
def JH (N:Nat) (w0:World) (f:FuncId) (caps:List Value) (Inv:List qZ→List Blk→Prop):Prop:=
 ∀ (vs:List qZ) (kids:List Nat) (d:Nat) (A:Option Nat) (cap:Nat) (H F:List Blk),Inv vs H→kids.length≤1000→vs.length<N→(∀ k∈kids,k<vs.length)→
  FnIn Tryz.prog f ([.int .i64 (vs.length:Int),sl A kids.length cap,.int .i64 (d:Int)]++caps) w0 (.own A 3 1 kids.length cap (kids.map fun (k:Nat)=> .int .i64 (k:Int))::(H++F))
   fun _ H' => ∃ H1,Inv (vs++ [(kids,d)]) H1∧MSub (H1++F) H'
theorem Ms {n:Nd} (h:dU n=0):0≤below n∧below n≤16:=by
 unfold dU at h;split at h
 ·cases h
 ·rename_i hk;split at h
  ·rename_i h7;unfold below;split
   ·omega
   ·split
    ·omega
    ·omega
  ·rename_i h7;have h7' :n.kind=7:=by omega
   have hb:below n=n.n:=by simp [below,h7']
   have hk1:oY n=true:=by
    cases hh:oY n
    ·exact absurd (Or.inl hh) hk
    ·rfl
   simp [oY,h7'] at hk1;split at h
   ·rename_i ha;omega
   ·split at h
    ·omega
    ·rename_i hc;have hm:(iO n.fn).2.1≤16:=by
      unfold iO;(repeat' split)<;>simp
     omega
theorem nk (st:List Pt) (k:Nat) (h:k≤st.length):(cI st k).length=k:=by simp [cI];omega
theorem p8 {st:List Pt} {k:Nat} {p:Pt} (h:p∈cI st k):p∈st:=Z0 h
theorem Lo {w0 w:World} {H:List Blk} {A:Option Nat} {st:List Pt} {cap k:Nat} (hm:Mem w0 w H) (hi:In (.own A 379 3 st.length cap (st.flatMap uU)) H) (h:k≤st.length):
 Reads w (.slice (if cap=st.length - k then A.map fun g=>⟨g,0,none⟩ else (A.map fun g=>(⟨g,0,none⟩:Addr)).map (·.add ((st.length - k)*3))) (st.length - (st.length - k)) (cap - (st.length - k))) (cI st k).length ((cI st k).flatMap uU):=by
 have h1:=(Reads.of_own hm hi).cut (lo:=st.length - k) (hi:=st.length) (sz:=3) (by omega) (Xy _);have e1:st.length - (st.length - k)=(cI st k).length:=by rw [nk st k h];omega
 rw [mJ pq,e1] at h1;have e2:((st.drop (st.length - k)).flatMap uU).take ((cI st k).length*3)=(cI st k).flatMap uU:=by
  rw [YE (by rw [aR pq];exact Xy _)];rfl
 rw [e2] at h1;rw [e1];exact h1
theorem Du (top:List Pt) (j:Nat) (h:j<top.length):dH (top.take (j+1))=max (dH (top.take j)) (top[j].depth+1):=by
 unfold dH;rw [Xk h,YG]
 rfl
theorem zP (top:List Pt) (h: ∀ p∈top,p.depth≤32):dH top≤33:=by
 have: ∀ (l:List Pt) (d:Nat),d≤33→(∀ p∈l,p.depth≤32)→l.foldl (fun d p=>max d (p.depth+1)) d≤33:=by
  intro l
  induction l with
  |nil=>intro d hd _;simpa using hd
  |cons p r ih=>
   intro d hd hp;have:=hp p Xb;exact ih _ (by show max d (p.depth+1)≤33;omega) fun q hq=>hp q (Xp _ hq)
 exact this top 1 (by omega) h
structure WalkSt (L:List Nd) (Inv:List qZ→List Blk→Prop) (i:Nat) (st:List Pt) (vs:List qZ) (Hv:List Blk):Prop where
 le:i≤L.length
 len:vs.length=i
 inv:Inv vs Hv
 rest:lG L L 0 [] []=lG L (L.drop i) i st vs
 ok: ∀ p∈st,p.root<i∧p.depth≤32
 small:st.length≤i
theorem K7 (L:List Nd) (hne:0<L.length) (hlen:L.length≤256) (tv:Value) (w0:World) (ht:Reads w0 tv L.length (L.flatMap gW)) (f:FuncId) [hf:Callable Tryz.prog f] (caps:List Value) (Inv:List qZ→List Blk→Prop) (hV:JH L.length w0 f caps Inv)
 (H:List Blk) (hI:Inv [] H):FnIn Tryz.prog 235 [tv,.func (.func f) #[] caps.toArray] w0 H fun v H' =>v= .int .i64 (lG L L 0 [] []).1∧Inv (lG L L 0 [] []).2 H' :=by
 have ht' :=ht;obtain ⟨At,ct,rfl,ht1,ht2,ht3⟩:=ht;obtain ⟨gt,ot,rfl,hrt⟩:=ht3 hne;refine bI Tryz.func235 rfl Tryz.ntmps235 rfl ?_;repeat' (first|refine sT ?_|refine sM fun _=>?_|refine sC ?_ ?_<;>intro hb<;>try omega|fail)
 refine aF 379 3 ?_
 refine J4 (fun (i:Nat) s H=> ∃ st vs A cap Hv,s= [(0,.slice (some ⟨gt,ot,none⟩) L.length ct),(1,.func (.func f) #[] caps.toArray),(5,sl A st.length cap),(14,.slice (some ⟨gt,ot,none⟩) L.length ct),(15,.int .i64 (L.length:Int)),(16,.int .i64 (i:Int))]∧
  H= .own A 379 3 st.length cap (st.flatMap uU)::Hv∧WalkSt L Inv i st vs Hv) (fun i=>L.length - i) 0 ?_ ?_
 ·refine ⟨_,_,?_,?_,⟨[],[],none,0,H,rfl,rfl,⟨Xn _,rfl,hI,rfl,by simp,Xy _⟩⟩⟩
  ·exact sB
  ·exact mS
 ·rintro i _ _ ⟨st,vs,A,cap,Hv,rfl,rfl,hst⟩;obtain ⟨hle,hvl,hinv,hrest,hok,hsmall⟩:=hst;by_cases hlt:i<L.length
  ·have hrn:=hrt.elem lu i hlt;rw [XC hlt,lG,E5] at hrest;generalize hn:L[i]=n at hrest hrn;by_cases hfe:dU n=0
   ·obtain ⟨hb0,hb16⟩:=Ms hfe;obtain ⟨k,hk⟩:=Int.eq_ofNat_of_zero_le hb0;rw [if_neg (by simp [hfe]),hk,Zh] at hrest;have hbel: ∀ w,aL Tryz.prog 269 [.agg (gW n).toArray] w (.int .i64 (k:Int)):=fun w=>hk ▸ Qb n w;have hfie: ∀ w,aL Tryz.prog 268 [.agg (gW n).toArray] w (.int .i64 0):=fun w=>hfe ▸ Bx n w;refine U8 .hd fun hr1 hr2 hr3=> ?_;repeat' (first|apply ak;exact rfl;apply ai;exact rfl;exact rfl;exact hlt|apply ak;exact rfl;apply aP;exact rfl;exact hrn;exact rfl|apply ak;exact rfl;apply m9;exact rfl;exact rfl;simp only [maxLen];omega|apply aa;exact rfl;exact rfl;intro w hm;exact hfie w|apply aa;exact rfl;exact rfl;intro w hm;exact hbel w|apply kM (id:=9);kernel_rfl;kernel_rfl|apply aQ;exact rfl;apply m3;exact rfl;exact rfl;omega;omega|apply ak;exact rfl;apply m3;exact rfl;exact rfl;omega;omega|apply aQ;exact rfl;apply iR (hi:=st.length);exact rfl;exact ⟨_,rfl⟩;exact rfl;omega;omega|apply df;exact rfl;exact rfl;intro w hm;exact Se L n (cI st k) _ _ w (ht'.of_w0 hm) (Lo hm pK (by omega)) (fun p hp=>Nat.lt_trans (hok p (p8 hp)).1 hlt) (by rw [nk st k (by omega)];omega)|refine sT ?_|refine sQ ?_|refine sM fun _=>?_|refine sC ?_ ?_<;>intro hb<;>try omega|refine sCQ ?_ ?_<;>intro hb<;>try omega|fail)
    ·refine bo (.inl rfl) Tryz.results235 rfl (.drop .hd (.drop .hd (.refl _))) ?_;rw [hrest,if_pos (Or.inl (by omega))];exact ⟨rfl,hinv⟩
    ·refine bo (.inl rfl) Tryz.results235 rfl (.drop .hd (.drop .hd (.refl _))) ?_;rw [hrest,if_pos (Or.inr hb)];exact ⟨rfl,hinv⟩
    have hkl:k≤st.length:=by omega
    rw [if_neg (by intro h;rcases h with h|h;(· omega);(· rw [hb] at h;cases h))] at hrest;repeat' (first|apply ak;exact rfl;apply m3;exact rfl;exact rfl;omega;omega|apply Nl (hi:=st.length);exact rfl;exact rfl;exact ⟨_,rfl⟩;exact rfl;omega;omega;intro B hB|refine sT ?_|refine sM fun _=>?_|refine sC ?_ ?_<;>intro hb<;>try omega|fail)
    rename_i gn gp;refine aF 3 1 ?_;have htl:=nk st k hkl
    refine J4 (fun (j:Nat) s H=> ∃ A2 cap2,s= [(0,.slice (some ⟨gt,ot,none⟩) L.length ct),(1,.func (.func f) #[] caps.toArray),(5,sl A st.length cap),(6,.int .i64 (i:Int)),(9,.int .i64 (k:Int)),(10,.pointer (some ⟨gp,0,none⟩)),(11,sl A2 j cap2),
     (14,.slice (some ⟨gt,ot,none⟩) L.length ct),(15,.int .i64 (L.length:Int)),(16,.int .i64 (i:Int)),(54,.slice B (st.length - (st.length - k)) (cap - (st.length - k))),(55,.int .i64 ((st.length - (st.length - k):Nat):Int)),(56,.int .i64 (j:Int))]∧
     H= .own A2 3 1 j cap2 (((cI st k).take j).map fun p=> .int .i64 (p.root:Int)):: .box gp 379 [.int .i64 (i:Int),.int .i64 (dH ((cI st k).take j):Int),.bool (decide (n.kind=3))]:: .own A 379 3 st.length cap (st.flatMap uU)::Hv∧j≤k) (fun j=>k - j) 0 ?_ ?_
    ·refine ⟨_,_,?_,?_,⟨none,0,rfl,rfl,by omega⟩⟩
     ·exact sB
     ·exact mS
    ·rintro j _ _ ⟨A2,cap2,rfl,rfl,hjk⟩;by_cases hj:j<k
     ·refine aU (.tl (.tl .hd)) (by omega) fun gs hA=> ?_;subst hA;obtain rfl:B=some ⟨gs,0+(st.length - k)*3,none⟩:=by rw [hB,if_neg (by omega)];simp [cH]
      have hjt:j<(cI st k).length:=by omega
      have he:((st.flatMap uU).drop (0+(st.length - k)*3+j*3)).take 3=uU (cI st k)[j]:=by
       rw [show 0+(st.length - k)*3+j*3=(st.length - k+j)*3 by rw [Y7];omega,aM pq st _ (by omega)];simp [cI]
      have hd32:(cI st k)[j].depth≤32:=(hok _ (p8 (XO hjt))).2;repeat' (first|apply ak;exact rfl;apply ai;exact rfl;exact rfl;omega|apply ak;exact rfl;apply EN;exact rfl;exact pK;exact he;exact rfl|apply ak;exact rfl;apply gZ;exact rfl;exact rfl;simp only [maxLen];omega|apply ak;exact rfl;apply NN;exact rfl;exact rfl|apply aN;(iterate 3 exact rfl);(repeat first|exact .hd|apply Sel.tl|apply In.tl);intro w hm;exact hm.cells_own (by (repeat first|exact .hd|apply Sel.tl|apply In.tl));exact rfl;simp [Value.oneCell',sl];omega;simp only [maxLen];omega;intro A' cap' hA'|refine sT ?_|refine sM fun _=>?_|refine sC ?_ ?_<;>intro hb<;>try omega|fail)
      have hk1:((cI st k).take (j+1)).map (fun p=>Value.int .i64 (p.root:Int))=((cI st k).take j).map (fun p=>Value.int .i64 (p.root:Int))++ [.int .i64 ((cI st k)[j].root:Int)]:=by
       rw [Xk hjt,XI];rfl
      refine ⟨j+1,_,_,?_,?_,?_,⟨A',cap',rfl,rfl,hj⟩⟩
      ·omega
      ·exact sB
      ·rw [hk1,Du _ _ hjt];exact mS
     ·have e:j=k:=by omega
      subst e;have htk:(cI st j).take j=cI st j:=YE (by omega);rw [htk];have hd33:=zP (cI st j) fun p hp=>(hok p (p8 hp)).2;repeat' (first|refine sT ?_|refine sM fun _=>?_|refine sC ?_ ?_<;>intro hb<;>try omega|fail)
      ·refine bo (.inl rfl) Tryz.results235 rfl (.drop .hd (.drop .hd (.drop .hd (.refl _)))) ?_;rw [hrest,if_pos (by omega)];exact ⟨rfl,hinv⟩
      rw [if_neg (by omega)] at hrest;refine Ny (.tl (.tl .hd)) (st.length - j) (by omega) ?_;refine CC 10 rfl (by kernel_rfl) ?_;((with_reducible apply dO (i:=0));exact rfl;exact rfl;(iterate 3 decide+kernel);exact nP;intro _ _;exact vP);((with_reducible apply dO (i:=1));exact rfl;exact rfl;(iterate 3 decide+kernel);exact nP;intro _ _;exact vP);((with_reducible apply dO (i:=2));exact rfl;exact rfl;(iterate 3 decide+kernel);exact nP;intro _ _;exact vP);((with_reducible apply dO (i:=3));exact rfl;exact rfl;(iterate 3 decide+kernel);exact nP;intro _ _;exact vP);((with_reducible apply dO (i:=4));exact rfl;exact rfl;(iterate 3 decide+kernel);exact nP;intro _ _;exact vP);((with_reducible apply dO (i:=5));exact rfl;exact rfl;(iterate 3 decide+kernel);exact nP;intro _ _;exact vP);repeat' (first|apply ig (i:=6);exact rfl;decide+kernel|apply ig (i:=7);exact rfl;decide+kernel|apply ig (i:=8);exact rfl;decide+kernel|apply ig (i:=9);exact rfl;decide+kernel|apply CA;decide+kernel|apply aN;(iterate 3 exact rfl);(repeat first|exact .hd|apply Sel.tl|apply In.tl);intro w hm;exact hm.cells_own (by (repeat first|exact .hd|apply Sel.tl|apply In.tl));exact rfl;simp [Value.oneCell',sl];omega;simp only [maxLen];omega;intro A' cap' hA'|refine sT ?_|refine sM fun _=>?_|refine sC ?_ ?_<;>intro hb<;>try omega|fail)
      have hcont:(st.flatMap uU).take ((st.length - j)*3)++ [.int .i64 (i:Int),.int .i64 (dH (cI st j):Int),.bool (decide (n.kind=3))]=(st.take (st.length - j)++ [(⟨i,dH (cI st j),decide (n.kind=3)⟩:Pt)]).flatMap uU:=by
       rw [jv pq,Xz];rfl
      have hvis:=hV vs ((cI st j).map Pt.root) (dH (cI st j)) A2 cap2 Hv [.own A' 379 3 (st.length - j+1) cap' ((st.take (st.length - j)++ [(⟨i,dH (cI st j),decide (n.kind=3)⟩:Pt)]).flatMap uU)] hinv (by rw [Xq];omega) (by omega) (by intro q hq;obtain ⟨p,hp,rfl⟩:=Xu.1 hq;rw [hvl];exact (hok p (p8 hp)).1);simp only [Xq,htl,hvl,YL] at hvis;rw [hcont];(with_reducible apply fK)
      ·exact rfl
      ·exact rfl
      ·infer_instance
      ·exact rfl
      ·refine hvis.msub ?_;refine MSub.pick (T:=_) pK (MSub.snoc pK ?_);exact mS
      rintro v H' ⟨H1,hI1,hM1⟩;repeat' (first|apply ak;exact rfl;apply gZ;exact rfl;exact rfl;simp only [maxLen];omega|refine sT ?_|refine sM fun _=>?_|refine sC ?_ ?_<;>intro hb<;>try omega|fail)
      refine ⟨i+1,_,_,?_,?_,?_,⟨st.take (st.length - j)++ [(⟨i,dH (cI st j),decide (n.kind=3)⟩:Pt)],vs++ [((cI st j).map Pt.root,dH (cI st j))],A',cap',H1,rfl,rfl,⟨?_,?_,?_,?_,?_,?_⟩⟩⟩
      ·omega
      ·have e1:(st.take (st.length - j)++ [(⟨i,dH (cI st j),decide (n.kind=3)⟩:Pt)]).length=st.length - j+1:=by simp
       rw [e1];exact sB
      ·have e1:(st.take (st.length - j)++ [(⟨i,dH (cI st j),decide (n.kind=3)⟩:Pt)]).length=st.length - j+1:=by simp
       rw [e1];exact hM1.rot
      ·omega
      ·simp [hvl]
      ·exact hI1
      ·exact hrest
      ·intro p hp;rcases Xr.1 hp with hp|hp
       ·exact ⟨Nat.lt_succ_of_lt (hok p (Zd hp)).1,(hok p (Zd hp)).2⟩
       ·have e:p=⟨i,dH (cI st j),decide (n.kind=3)⟩:=by simpa using hp
        subst e;exact ⟨aal i,by show dH (cI st j)≤32;omega⟩
      ·simp;omega
   ·have hfie: ∀ w,aL Tryz.prog 268 [.agg (gW n).toArray] w (.int .i64 (dU n)):=fun w=>Bx n w;rw [if_pos hfe] at hrest;repeat' (first|apply ak;exact rfl;apply ai;exact rfl;exact rfl;exact hlt|apply ak;exact rfl;apply aP;exact rfl;exact hrn;exact rfl|apply aa;exact rfl;exact rfl;intro w hm;exact hfie w|refine sT ?_|refine sM fun _=>?_|refine sC ?_ ?_<;>intro hb<;>try omega|fail)
    refine bo (.inl rfl) Tryz.results235 rfl (.drop .hd (.drop .hd (.refl _))) ?_;rw [hrest];exact ⟨rfl,hinv⟩
  ·have e:i=L.length:=by omega
   subst e;rw [X0,lG] at hrest;repeat' (first|refine sT ?_|refine sM fun _=>?_|refine sC ?_ ?_<;>intro hb<;>try omega|fail)
   ·refine bo (.inl rfl) Tryz.results235 rfl (.drop .hd (.refl _)) ?_;rw [hrest,if_neg (by omega)];exact ⟨rfl,hinv⟩
   ·refine bo (.inl rfl) Tryz.results235 rfl (.drop .hd (.refl _)) ?_;rw [hrest,if_pos (by omega)];exact ⟨rfl,hinv⟩
attribute [local irreducible] bA
theorem PO {c:Int} (h1:48≤c) (h2:c≤57):bX c=true:=by simp [bX,h1,h2]
theorem Ss {c:Int} (h:c<48):bX c=false:=by simp [bX];omega
theorem Su {c:Int} (h:57<c):bX c=false:=by simp [bX];omega
theorem BG (a:ByteArray) (ha:a.size≤1000000) (w:World):aL Tryz.prog 227 [.string a] w (.int .i64 (bO bX (aD a):Int)):=by
 refine aB Tryz.func227 rfl Tryz.ntmps227 rfl ?_;have hl:=aH a;repeat' (first|refine zZE ?_|refine sM fun _=>?_|refine sC ?_ ?_<;>intro hb<;>try omega|exact cT|fail)
 refine gI (fun i:Nat=> [(0,.string a),(5,.int .i64 (a.size:Int)),(6,.int .i64 (i:Int))]) (fun _=> []) (fun i=>i≤a.size∧bO bX (aD a)=i+bO bX ((aD a).drop i)) (fun i=>a.size - i) 0 ⟨by omega,by simp⟩ sB mS ?_;rintro i ⟨hi,hr⟩;by_cases hlt:i<a.size
 ·have hs1:=dD hlt;rw [hs1] at hr;simp only [bO] at hr;repeat' (first|refine zZG ?_|refine sM fun _=>?_|refine sC ?_ ?_<;>intro hb<;>try omega|exact cT|fail)
  ·(refine rT1 ?_);rw [hr,Ss hb];simp
  ·(refine rT1 ?_);rw [hr,Su hb];simp
  ·rename_i h1;rw [PO h1 hb] at hr;exact ⟨i+1,⟨hlt,by rw [hr];simp;omega⟩,by omega,by exact sB,by exact mS⟩
 ·have e:i=a.size:=by omega
  subst e;repeat' (first|refine zZE ?_|refine sM fun _=>?_|refine sC ?_ ?_<;>intro hb<;>try omega|exact cT|fail)
  (refine rT1 ?_);rw [hr,Yf (by omega)];simp [bO]
def jY (hi lo:Int) (neg:Bool):Int × Bool:=if hi≠0∨jL<lo then (0,false) else (if neg then -lo else lo,true)
theorem BZ {v:Int} (h1:0≤v) (h2:v≤jL):IntKind.i64.wrap v=v:=I64.wrap ⟨by omega,by simpa [jL] using h2⟩
theorem LD (hi lo:Int) (neg:Bool) (h0:0≤lo) (w:World):aL Tryz.prog 228 [.int .u64 hi,.int .u64 lo,.bool neg] w (.tuple #[.int .i64 (jY hi lo neg).1,.bool (jY hi lo neg).2]):=by
 refine aB Tryz.func228 rfl Tryz.ntmps228 rfl ?_;by_cases hh:hi=0
 ·by_cases hl:lo≤jL
  ·have hw:=BZ h0 hl;have hm:jL=9223372036854775807:=rfl;have e:jY hi lo neg=(if neg then -lo else lo,true):=by rw [jY,if_neg (by omega)]
   rw [e];subst hh;cases neg
   ·repeat' first|apply ak;exact rfl;apply cM;exact rfl;exact hw|refine sT ?_|refine sM fun _=>?_|refine sC ?_ ?_<;>intro hb<;>try omega|exact cT|fail
    all_goals first|omega|(refine rT2 ?_);rfl
   ·repeat' first|apply ak;exact rfl;apply cM;exact rfl;exact hw|apply ak;exact rfl;apply Vh;exact rfl;exact ⟨by omega,by omega⟩|refine sT ?_|refine sM fun _=>?_|refine sC ?_ ?_<;>intro hb<;>try omega|exact cT|fail
    all_goals first|omega|(refine rT2 ?_);rfl
  ·have hm:jL=9223372036854775807:=rfl;have e:jY hi lo neg=(0,false):=by rw [jY,if_pos (by omega)]
   rw [e];repeat' (first|refine sT ?_|refine sM fun _=>?_|refine sC ?_ ?_<;>intro hb<;>try omega|exact cT|fail)
   all_goals first|omega|(refine rT2 ?_);rfl
 ·have e:jY hi lo neg=(0,false):=by rw [jY,if_pos (.inl hh)]
  rw [e];repeat' (first|refine sT ?_|refine sM fun _=>?_|refine sC ?_ ?_<;>intro hb<;>try omega|exact cT|fail)
  all_goals first|omega|(refine rT2 ?_);rfl
theorem xY (u:Int) (neg:Bool) (h0:0≤u) (h1:u≤jL) (w:World):aL Tryz.prog 228 [.int .u64 0,.int .u64 u,.bool neg] w (.tuple #[.int .i64 (if neg then -u else u),.bool true]):=by
 have h:=LD 0 u neg h0 w;rwa [jY,if_neg (by omega)] at h
theorem yw: ∀ (l:List Int) (v c:Int),fD (l++ [c]) v=10*fD l v+(c - 48)
 | [],_,_=>rfl
 |d::r,v,c=>by simp only [Xc,fD];exact yw r _ c
theorem tq: ∀ (l:List Int) {v:Int},(∀ c∈l,48≤c)→0≤v→v≤fD l v
 | [],_,_,_=>Zb _
 |c::r,v,h,h0=>by
  have h1:=h c Xb;have:=tq r (v:=10*v+(c - 48)) (fun d hd=>h d (Xp _ hd)) (by omega);simp only [fD];omega
theorem Da (l m:List Int) (v:Int):fD (l++m) v=fD m (fD l v):=by
 induction l generalizing v with
 |nil=>rfl
 |cons c l ih=>simp only [Xc,fD,ih]
def uV (l0:List Int):Int × Int:=
 let neg:=decide (l0.head? =some 45);let l:=if neg then l0.tail else l0;let n:=bO bX l;let rest:=l.drop n;let frac:=decide (1<rest.length) && (decide (rest.head? =some 46) && decide (bO bX rest.tail+1=rest.length));let p5:=(if frac then rest.tail else [])++ [48,48,48,48,48]
 if n=0∨(frac=false∧rest≠ []) then (0,4)
 else
  let v:=fD (l.take n++p5.take 4) 0+(if 53≤p5.getD 4 0 then 1 else 0)
  if jL<v then (0,3) else (if neg then -v else v,0)
theorem yN (a:ByteArray) (c:Int):((aD a).head? =some c)↔(0<a.size∧bat a 0=c):=by
 by_cases h:0<a.size
 ·have:=dD h;rw [Zl] at this;rw [this];simp [h]
 ·have:aD a= []:=by rw [← YB,aH];omega
  rw [this];simp;omega
theorem vW (a:ByteArray) (ha:a.size≤1000000) (w:World):aL Tryz.prog 165 [.string a] w (.tuple #[.int .i64 (uV (aD a)).1,.int .i64 (uV (aD a)).2]):=by
 refine aB Tryz.func165 rfl Tryz.ntmps165 rfl ?_;have hl:=aH a;generalize hneg:decide ((aD a).head? =some 45)=neg;generalize hls:(if neg then (aD a).tail else aD a)=ls;have hb0:=yN a 45;repeat' (first|refine xF (id:=1) (ι:=Bool) (fun b=> [(0,.string a),(4,.bool b)]) (fun _=> []) (fun b=>neg=b) ?_ ?_|refine zZE ?_|refine sM fun _=>?_|refine sC ?_ ?_<;>intro hb<;>try omega|exact cT|fail)
 ·(apply fG;rotate_left 1;exact sB;exact mS);rw [← hneg,decide_eq_decide,hb0];simp;omega
 ·(apply fG;rotate_left 1;exact sB;exact mS);rw [← hneg,decide_eq_false_iff_not,hb0];omega
 rintro _ rfl;repeat' (first|refine TV (id:=2) (ι:=ByteArray) (fun b=> [(0,.string b),(4,.bool neg)]) (fun _=> []) (fun b=>aD b=ls∧b.size≤a.size) ?_ ?_|refine zZE ?_|refine sM fun _=>?_|refine sC ?_ ?_<;>intro hb<;>try omega|exact cT|fail)
 ·have h1:0<a.size:=(hb0.1 (of_decide_eq_true (hneg.trans hb))).1;repeat' (first|refine zZE ?_|refine sM fun _=>?_|refine sC ?_ ?_<;>intro hb<;>try omega|exact cT|fail)
  (apply fG;rotate_left 1;exact sB;exact mS);rw [← hls,hb,qp,ed _ (Xy _)];simp
 ·(apply fG;rotate_left 1;exact sB;exact mS);rw [← hls,hb];simp
 rintro b ⟨hbl,hbs⟩;have hlb:=aH b;rw [hbl] at hlb;have hdl:=fC bX ls;generalize hn:bO bX ls=n at hdl;generalize hrest:ls.drop n=rest;generalize hfr:(decide (1<rest.length) && (decide (rest.head? =some 46) && decide (bO bX rest.tail+1=rest.length)))=fr;have hcd:=BG b (by omega);rw [hbl,hn] at hcd;have hb1:=yN (sub b n b.size) 46;have hs1:=ed b (lo:=n) (Xy b.size);have hr1:aD (sub b n b.size)=rest:=by rw [qp,hbl,hrest]
 generalize hz:sub b n b.size=z at hb1 hs1 hr1;have hrl:rest.length=z.size:=by rw [← hr1,aH]
 have e1:aD (sub z 1 z.size)=rest.tail:=by rw [qp,hr1,List.drop_one]
 rw [hr1] at hb1;have hcd2:=fun h=>BG (sub z 1 z.size) h;repeat' (first|refine xF (id:=7) (ι:=Bool) (fun x=> [(4,.bool neg),(5,.int .i64 (n:Int)),(6,.string (sub b 0 n)),(7,.string z),(8,.string aS),(50,.bool x)]) (fun _=> []) (fun x=>fr=x) ?_ ?_|apply aa;exact rfl;exact rfl;intro w hm;exact hcd w|apply aa;exact rfl;exact rfl;intro w hm;exact hcd2 (by rw [ed _ (Xy _)];omega) w|rw [hz]|refine sT ?_|refine sQ ?_|refine sT2 ?_|refine sQ2 ?_|refine sN ?_|refine sNQ ?_|refine sD ?_|refine sM fun _=>?_|refine sC ?_ ?_<;>intro hb<;>try omega|refine sCQ ?_ ?_<;>intro hb<;>try omega|exact cT|fail)
 ·(apply fG;rotate_left 1;exact sB;exact mS);rename_i h1;rw [e1,← hfr,decide_eq_true (by omega:1<rest.length),decide_eq_true (hb1.2 ⟨by omega,hb⟩)];simp only [XT,decide_eq_decide];omega
 ·(apply fG;rotate_left 1;exact sB;exact mS);rw [← hfr,decide_eq_false (fun h=>hb (hb1.1 h).2)];simp
 ·(apply fG;rotate_left 1;exact sB;exact mS);rw [← hfr,decide_eq_false (by omega)]
  rfl
 rintro _ rfl;have hf1:fr=true→1≤z.size:=fun h=>by
  rw [← hfr] at h;simp at h;omega
 have hf2:fr=false→((z=aS)↔rest= []):=fun _=>by rw [← Pn,hr1]
 have hbl2:b.size≤1000000:=by omega
 refine ui (ι:=ByteArray × ByteArray) (fun x=> [(4,.bool neg),(5,.int .i64 (n:Int)),(6,.string (sub b 0 n)),(7,.string x.1),(8,.string x.2)]) (fun _=> []) (fun x=>aD x.2=(if fr then rest.tail else [])∧((x.1=aS)↔(fr=true∨rest= []))∧x.2.size≤a.size) ?_ ?_
 ·cases fr
  ·repeat' first|refine zZE ?_|refine sM fun _=>?_|refine sC ?_ ?_<;>intro hb<;>try omega|exact cT|fail
   refine fG ((z,aS)) ?_ sB mS;exact ⟨rfl,by rw [hf2 rfl];simp,Xn _⟩
  ·have h1:=hf1 rfl;repeat' (first|refine zZE ?_|refine sM fun _=>?_|refine sC ?_ ?_<;>intro hb<;>try omega|exact cT|fail)
   refine fG ((aS,sub z 1 z.size)) ?_ sB mS;exact ⟨by rw [e1];rfl,by simp [aS],by rw [ed _ (Xy _)];omega⟩
 rintro ⟨z',pl⟩ ⟨h1,h2,h3⟩;dsimp only at*;generalize hp5:(if fr then rest.tail else [])++ [48,48,48,48,48]=p5;have hpl:aD (pl++⟨#[48,48,48,48,48]⟩)=p5:=by rw [vM,h1,← hp5];rfl
 have hpz:(pl++⟨#[48,48,48,48,48]⟩:ByteArray).size=pl.size+5:=by rw [ByteArray.size_append];rfl
 generalize hqd:(pl++⟨#[48,48,48,48,48]⟩:ByteArray)=q at hpl hpz;have hres:uV (aD a)=if n=0∨(fr=false∧rest≠ []) then (0,4) else if jL<fD (ls.take n++p5.take 4) 0+(if 53≤p5.getD 4 0 then 1 else 0) then (0,3) else (if neg then -(fD (ls.take n++p5.take 4) 0+(if 53≤p5.getD 4 0 then 1 else 0)) else fD (ls.take n++p5.take 4) 0+(if 53≤p5.getD 4 0 then 1 else 0),0):=by
  unfold uV;rw [hneg];dsimp only;rw [hls,hn,hrest,hfr,hp5]
 rw [hres];by_cases herr:n=0∨(fr=false∧rest≠ [])
 ·rw [if_pos herr];repeat' (first|refine zZE ?_|refine sM fun _=>?_|refine sC ?_ ?_<;>intro hb<;>try omega|exact cT|fail)
  ·(refine rT2 ?_)
   rfl
  ·(refine rT2 ?_)
   rfl
  ·exfalso;have hz' :z' =aS:=Decidable.not_not.1 hb;have:=h2.1 hz';rcases herr with h|⟨h,h'⟩
   ·omega
   ·rcases this with h4|h4
    ·rw [h] at h4;cases h4
    ·exact h' h4
 ·rw [if_neg herr];generalize hL:ls.take n++p5.take 4=L;have hp5l:p5.length=pl.size+5:=by rw [← hpl,aH,hpz]
  have hy:aD (sub b 0 n++sub q 0 4)=L:=by rw [vM,De,De,hbl,hpl,hL]
  have hyz:(sub b 0 n++sub q 0 4:ByteArray).size=n+4:=by rw [ByteArray.size_append,ed _ (by omega),ed _ (by omega)];omega
  generalize hyd:(sub b 0 n++sub q 0 4:ByteArray)=y at hy hyz;have hyl:L.length=y.size:=by rw [← hy,aH]
  have hdig: ∀ c∈L,48≤c∧c≤57:=by
   have hall: ∀ (l:List Int) (c:Int),c∈l.take (bO bX l)→48≤c∧c≤57:=fun l c hc=>by
    obtain ⟨j,hj,rfl⟩:=YN hc;simp only [XA] at hj;have h:=Fj (p:=bX) l j (l[j]'(by omega)) (by omega) (Xf _);simp only [List.getElem_take];simpa [bX] using h
   intro c hc;rw [← hL] at hc;rcases Xr.1 hc with hc|hc
   ·rw [← hn] at hc;exact hall ls c hc
   ·have hc:=Zd hc;rw [← hp5] at hc;rcases Xr.1 hc with hc|hc
    ·cases hc1:fr
     ·rw [hc1] at hc;cases hc
     ·rw [hc1] at hc;simp only [if_true] at hc;have h7:bO bX rest.tail=rest.tail.length:=by
       rw [hc1] at hfr;simp only [Xo,decide_eq_true_eq] at hfr;rw [List.length_tail];omega
      have:=hall rest.tail c (by rw [h7,XF];exact hc);exact this
    ·simp at hc;omega
  have hq4:bat q 4=p5.getD 4 0:=by rw [bat,hpl]
  have hm0:jL=9223372036854775807:=rfl;repeat' (first|apply ak (d:=60);exact rfl;apply AC;exact rfl;exact rfl;exact hqd;show pl.size+5≤_;omega|apply ak (d:=64);exact rfl;apply AC;exact rfl;exact rfl;exact hyd;rw [ed _ (by omega),ed _ (by omega)];omega|apply rq;exact rfl;exact rfl;intro gb cap|refine zZE ?_|refine sM fun _=>?_|refine sC ?_ ?_<;>intro hb<;>try omega|exact cT|fail)
  ·exfalso;refine herr (.inr ?_);have h4: ¬ (fr=true∨rest= []):=fun h=>hb (h2.2 h);cases hc:fr
   ·exact ⟨rfl,fun h=>h4 (.inr h)⟩
   ·exact absurd (.inl hc) h4
  have hup: ∀ i,i≤L.length→jL<fD (L.take i) 0→jL<fD L 0:=fun i hi h=>by
   have e:L=L.take i++L.drop i:=(YD i L).symm;rw [e,Da];have h0:0≤fD (L.take i) 0:=tq _ (fun c hc=>(hdig c (Zd hc)).1) (Zb _);have:=tq (L.drop i) (v:=fD (L.take i) 0) (fun c hc=>(hdig c (Z0 hc)).1) h0;omega
  refine ax [4,8,65,66] rfl (fun x:Nat × Int × Bool=> [(9,.int .u64 x.2.1),(10,.bool x.2.2),(67,.int .i64 (x.1:Int))]) (fun _=> [.byt gb 5 y.size cap (pL y)]) (fun x=>x.1≤L.length∧0≤x.2.1∧x.2.1<18446744073709551616∧(x.2.2=false→x.2.1=fD (L.take x.1) 0∧x.2.1≤jL)∧(x.2.2=true→jL<fD (L.take x.1) 0)) (fun x=>L.length - x.1) (0,0,false) ⟨Xn _,Zb _,by decide,fun _=>⟨rfl,by decide⟩,fun h=>by cases h⟩ sB mS ?_;rintro ⟨i,v,gr⟩ ⟨hi,hv0,hv1,hg0,hg1⟩;dsimp only at hi hv0 hv1 hg0 hg1 ⊢;by_cases hlt:i<L.length
  ·have hiy:i<y.size:=by omega
   have hge:L[i]? =some L[i]:=Xf hlt;have hci:=hdig L[i] (XO hlt);have hsn:fD (L.take (i+1)) 0=10*fD (L.take i) 0+(L[i] - 48):=by rw [Xk hlt,yw]
   generalize L[i]=c at hge hci hsn;have hget:(pL y)[0+i*1]? =some (.int .u8 c):=by rw [uZ,hy,XN,show 0+i*1=i by omega,hge];rfl
   have hwc:IntKind.u8.wrap (c - 48)=c - 48:=wrap_u8 (by omega) (by omega);have hwc2:IntKind.u64.wrap (c - 48)=c - 48:=by simp [IntKind.wrap,IntKind.bits,IntKind.signed];omega
   obtain ⟨v',hadd,hv2,hv3,hv4⟩: ∃ v',IntKind.u64.wrap (IntKind.u64.wrap (10*v)+(c - 48))=v' ∧0≤v' ∧v' <18446744073709551616∧(v≤922337203685477580→v' =10*v+(c - 48)):=by
    refine ⟨_,rfl,?_⟩;simp only [IntKind.wrap,IntKind.bits,IntKind.signed];simp;omega
   have hn0:0≤fD (L.take i) 0:=tq _ (fun c hc=>(hdig c (Zd hc)).1) (Zb _);cases gr
   ·obtain ⟨hg2,hg3⟩:=hg0 rfl;repeat' (first|apply ak;exact rfl;apply ai;exact rfl;exact rfl;exact hiy|apply ak;exact rfl;apply m8;exact rfl;exact .hd;exact hget|apply ak (d:=74);exact rfl;apply Ib;exact rfl;exact rfl|apply ak (d:=76);exact rfl;apply lY;exact rfl;exact rfl;exact hwc|apply ak (d:=77);exact rfl;apply cM;exact rfl;exact hwc2|apply ak (d:=78);exact rfl;apply jk;exact rfl;exact rfl;exact hadd|refine zZG ?_|refine sM fun _=>?_|refine sC ?_ ?_<;>intro hb<;>try omega|exact cT|fail)
    ·refine ⟨(i+1,v',true),?_,(by first|omega|dsimp only;omega),sB,sB,mS⟩;exact ⟨hlt,hv2,hv3,(fun h=>by cases h),fun _=>by dsimp only;omega⟩
    ·have h5:=hv4 (by omega);refine ⟨(i+1,v',decide (jL<v')),⟨hlt,hv2,hv3,fun h=> ?_,fun h=> ?_⟩,(by dsimp only;omega),sB,sB,mS⟩
     ·have h6:=of_decide_eq_false h;exact ⟨by dsimp only;omega,by dsimp only;omega⟩
     ·have h6:=of_decide_eq_true h;dsimp only;omega
   ·have hg2:=hg1 rfl;repeat' (first|apply ak;exact rfl;apply ai;exact rfl;exact rfl;exact hiy|apply ak;exact rfl;apply m8;exact rfl;exact .hd;exact hget|apply ak (d:=74);exact rfl;apply Ib;exact rfl;exact rfl|apply ak (d:=76);exact rfl;apply lY;exact rfl;exact rfl;exact hwc|apply ak (d:=77);exact rfl;apply cM;exact rfl;exact hwc2|apply ak (d:=78);exact rfl;apply jk;exact rfl;exact rfl;exact hadd|refine zZG ?_|refine sM fun _=>?_|refine sC ?_ ?_<;>intro hb<;>try omega|exact cT|fail)
    all_goals
     refine ⟨(i+1,v',true),?_,(by first|omega|dsimp only;omega),sB,sB,mS⟩;exact ⟨hlt,hv2,hv3,(fun h=>by cases h),fun _=>by dsimp only;omega⟩
  ·have e:i=L.length:=by omega
   subst e;rw [YE (Xy _)] at hg0 hg1;generalize fD L 0=N at hg0 hg1 hup ⊢;have hadd:v≤jL→IntKind.u64.wrap (v+1)=v+1:=fun h=>by simp [IntKind.wrap,IntKind.bits,IntKind.signed];omega
   by_cases h5:53≤p5.getD 4 0
   ·rw [if_pos h5];cases gr
    ·obtain ⟨hg2,hg3⟩:=hg0 rfl;subst hg2;by_cases h6:jL<v+1
     ·rw [if_pos h6];repeat' (first|apply ak (d:=89);exact rfl;apply jk;exact rfl;exact rfl;exact hadd hg3|refine zZE ?_|refine sM fun _=>?_|refine sC ?_ ?_<;>intro hb<;>try omega|exact cT|fail)
      all_goals first|omega|(refine rT2 ?_);rfl
     ·rw [if_neg h6];repeat' (first|apply ak (d:=89);exact rfl;apply jk;exact rfl;exact rfl;exact hadd hg3|apply aa;exact rfl;exact rfl;intro w' hm;exact (xY (v+1) neg (by omega) (by omega) w')|refine zZE ?_|refine sM fun _=>?_|refine sC ?_ ?_<;>intro hb<;>try omega|exact cT|fail)
      all_goals first|omega|(refine rT2 ?_);rfl
    ·rw [if_pos (by have:=hg1 rfl;omega)];obtain ⟨u,hu⟩: ∃ u,IntKind.u64.wrap (v+1)=u:=⟨_,rfl⟩;repeat' (first|apply ak (d:=89);exact rfl;apply jk;exact rfl;exact rfl;exact hu|refine zZE ?_|refine sM fun _=>?_|refine sC ?_ ?_<;>intro hb<;>try omega|exact cT|fail)
     all_goals first|omega|(refine rT2 ?_);rfl
   ·rw [if_neg h5,Int.add_zero];cases gr
    ·obtain ⟨hg2,hg3⟩:=hg0 rfl;subst hg2;rw [if_neg (by omega)];repeat' (first|apply aa;exact rfl;exact rfl;intro w' hm;exact (xY v neg (by omega) hg3 w')|refine zZE ?_|refine sM fun _=>?_|refine sC ?_ ?_<;>intro hb<;>try omega|exact cT|fail)
     all_goals first|omega|(refine rT2 ?_);rfl
    ·rw [if_pos (hg1 rfl)];repeat' (first|refine zZE ?_|refine sM fun _=>?_|refine sC ?_ ?_<;>intro hb<;>try omega|exact cT|fail)
     all_goals first|omega|(refine rT2 ?_);rfl
end Go.SL
namespace Go.SL
open Go Go.Proofs
attribute [local irreducible] W WL WQ WG WA VOp thn blk aY FnAt FnIn
def rV (L:List Nd) (wide:Bool):Int × List qZ:=
 if 256<L.length then (5,[]) else if L.length=0 then (4,[])
 else if (lG L L 0 [] []).1≠0 then lG L L 0 [] []
 else if wide=false∧uK L (L.length - 1)=3 then (4,(lG L L 0 [] []).2) else (0,(lG L L 0 [] []).2)
theorem P7 (L:List Nd) (wide:Bool) (tv:Value) (w0:World) (ht:Reads w0 tv L.length (L.flatMap gW)) (f:FuncId) [hf:Callable Tryz.prog f] (caps:List Value) (Inv:List qZ→List Blk→Prop) (hV:JH L.length w0 f caps Inv)
 (H:List Blk) (hI:Inv [] H):FnIn Tryz.prog 172 [tv,.bool wide,.func (.func f) #[] caps.toArray] w0 H fun v H' =>v= .int .i64 (rV L wide).1∧Inv (rV L wide).2 H' :=by
 have ht' :=ht;obtain ⟨At,ct,rfl,ht1,ht2,ht3⟩:=ht;refine bI Tryz.func172 rfl Tryz.ntmps172 rfl ?_;by_cases h256:256<L.length
 ·repeat' first|refine sT ?_|refine sM fun _=>?_|refine sC ?_ ?_<;>intro hb<;>try omega|fail
  refine bo (.inl rfl) Tryz.results172 rfl (.refl _) ?_;rw [rV,if_pos h256];exact ⟨rfl,hI⟩
 by_cases h0:L.length=0
 ·repeat' first|refine sT ?_|refine sM fun _=>?_|refine sC ?_ ?_<;>intro hb<;>try omega|fail
  refine bo (.inl rfl) Tryz.results172 rfl (.refl _) ?_;rw [rV,if_neg h256,if_pos h0];exact ⟨rfl,hI⟩
 obtain ⟨gt,ot,rfl,hrt⟩:=ht3 (by omega);have hw:=K7 L (by omega) (by omega) _ w0 ht' f caps Inv hV H hI;have hrl:=hrt.elem lu (L.length - 1) (by omega);have hk:uK L (L.length - 1)=(L[L.length - 1]'(by omega)).kind:=yH _;simp only [rV,if_neg h256,if_neg h0,hk];generalize lG L L 0 [] []=r at hw;generalize (L[L.length - 1]'(by omega))=nl at hrl;repeat' (first|apply aj;exact rfl;exact rfl;exact hw;rintro v H' ⟨rfl,hI'⟩|apply ak;exact rfl;apply cQ;exact rfl;exact rfl;omega;omega|apply ak;exact rfl;apply ai;exact rfl;exact rfl;omega|apply ak;exact rfl;apply m7 (off:=0);exact rfl;exact hrl;exact rfl|refine sT ?_|refine sM fun _=>?_|refine sC ?_ ?_<;>intro hb<;>try omega|fail)
 all_goals refine bo (.inl rfl) Tryz.results172 rfl (.refl _) ?_
 all_goals simp_all
theorem xG (N:Nat) (w0:World) (H0:List Blk):JH N w0 173 [] fun _ H=>H=H0:=by
 rintro vs kids d A cap _ F rfl _ _ _;refine bI Tryz.func173 rfl Tryz.ntmps173 rfl ?_;repeat' (first|refine sT ?_|refine sM fun _=>?_|refine sC ?_ ?_<;>intro hb<;>try omega|fail)
 refine fJ (.inr rfl) Tryz.results173 (.drop .hd (.refl _)) ⟨_,rfl,.refl _⟩
def jz (L:List Nd):Int:=(rV L false).1
theorem HJ (L:List Nd) (tv:Value) (w:World) (ht:Reads w tv L.length (L.flatMap gW)):aL Tryz.prog 128 [tv] w (.int .i64 (jz L)):=by
 have ht' :=ht;obtain ⟨At,ct,rfl,ht1,ht2,ht3⟩:=ht;refine aB Tryz.func128 rfl Tryz.ntmps128 rfl ?_;have hw:=P7 L false _ w ht' 173 [] (fun _ H=>H= []) (xG _ w []) [] rfl;repeat' (first|apply aj;exact rfl;exact rfl;exact hw;rintro v H' ⟨rfl,rfl⟩|refine sT ?_|refine sM fun _=>?_|refine sC ?_ ?_<;>intro hb<;>try omega|fail)
 (refine rT1 ?_)
 rfl
def qO (ks:List Nat):List Value:=ks.map fun (k:Nat)=> .int .i64 (k:Int)
attribute [local irreducible] U1 bA
theorem sn (L:List Nd): ∀ (r:List Nd) (i:Nat) (st:List Pt) (vs:List qZ),(lG L r i st vs).1=0→ ∀ n∈r,dU n=0
 | [],_,_,_=>fun _ _ h=>by cases h
 |n::r,i,st,vs=>by
  intro h;rw [lG] at h;have hn:dU n=0:=by
   by_cases hf:dU n=0
   ·exact hf
   ·unfold E5 at h;rw [if_pos hf] at h;exact h
  cases hs:E5 L n i st with
  |inl e=>
   rw [hs] at h;dsimp only at h;unfold E5 at hs;rw [if_neg (by omega)] at hs;split at hs
   ·injection hs with hs;omega
   ·split at hs
    ·injection hs with hs;omega
    ·cases hs
  |inr y=>
   obtain ⟨st',kids,d⟩:=y;rw [hs] at h;intro m hm;rcases Xt.1 hm with rfl|hm
   ·exact hn
   ·exact sn L r _ _ _ h m hm
theorem DA {L:List Nd} (h:jz L=0): ∀ n∈L,dU n=0:=by
 refine sn L L 0 [] [] ?_;unfold jz rV at h;split at h
 ·cases h
 split at h
 ·cases h
 split at h
 ·rename_i h3;exact absurd h h3
 ·rename_i h3;omega
theorem Gt {n:Nd} (h:dU n=0) (hr:j4 n=true):aA n.rect=true:=by
 unfold dU at h;split at h
 ·cases h
 rename_i hk;have hk1:oY n=true:=by
  cases hh:oY n
  ·exact absurd (Or.inl hh) hk
  ·rfl
 simp only [j4,Zn,decide_eq_true_eq] at hr;unfold oY at hk1;rw [if_neg (by omega),if_pos hr] at hk1;simp only [Xo,decide_eq_true_eq] at hk1;have h1:=hk1.1;unfold bY at h1;cases hq:aA n.rect
 ·rw [hq] at h1;cases h1
 ·rfl
theorem Fx {r:Rct}:bY r≠0↔aA r=false:=by unfold bY;cases aA r<;>simp
end Go.SL
namespace Go.SL
open Go Go.Proofs
attribute [local irreducible] W WL WQ WG WA VOp thn blk bA aY FnAt FnIn WLI WR WT bw mU gF jl
theorem NV (A:Option Addr) (m c:Nat) (w:World):FnAt Tryz.prog 129 [.slice A m c] w fun v H=> ∃ g,v= .func (.func 174) #[] #[.pointer (some ⟨g,0,none⟩)]∧H= [.box g 174 [.slice A m c]]:=by
 refine aB Tryz.func129 rfl Tryz.ntmps129 rfl ?_;repeat' (first|refine sT ?_|refine sM fun _=>?_|refine sC ?_ ?_<;>intro hb<;>try omega|fail)
 refine bo (.inl rfl) Tryz.results129 rfl (MSub.refl _) ?_;exact ⟨_,rfl,rfl⟩
def xM (L:List Nd):List Us × Int:=if jz L≠0 then ([],jz L) else (fA L,0)
theorem iS: ∀ (L:List Nd) (i:Nat),(eZ L i).length≤L.length
 | [],_=>Xy _
 |n::r,i=>by
  have:=iS r (i+1);unfold eZ;cases j4 n<;>simp<;>omega
theorem Lh (L:List Nd):(fA L).length≤L.length:=iS L 0
theorem Mq {α:Type} (f:α→List Value) (xs:List α) (x:α):(xs++ [x]).flatMap f=xs.flatMap f++f x:=by simp
theorem SN (L:List Nd) (tv:Value) (w:World) (ht:Reads w tv L.length (L.flatMap gW)) (hlen:L.length≤1000000):
 FnAt Tryz.prog 91 [tv] w fun v H=> ∃ A cap,v= .tuple #[sl A (xM L).1.length cap,.int .i64 (xM L).2]∧H= [.own A 159 6 (xM L).1.length cap ((xM L).1.flatMap bP)]:=by
 have ht' :=ht;obtain ⟨Al,cl,rfl,hl1,hl2,hl3⟩:=ht;refine o9 Tryz.func91 rfl Tryz.ntmps91 (by rfl) ?_;have hck:=fun w0 (hm:Reads w0 (.slice Al L.length cl) L.length (L.flatMap gW))=>HJ L _ w0 hm;unfold xM;generalize jz L=e at hck;refine oh ?_;refine aF 159 6 ?_;repeat' (first|apply aa;exact rfl;exact rfl;intro w' hm;exact hck w' (ht'.of_w0 hm)|apply aw;exact rfl;exact rfl;intro w' hm;exact NV _ _ _ w';rintro v H' ⟨gu,rfl,rfl⟩|refine zZI ?_|refine sM fun _=>?_|refine sC ?_ ?_<;>intro hb<;>try omega|refine sCR ?_ ?_<;>intro hb<;>try omega|fail)
 ·refine Dr ?_;refine di (.inl rfl) Tryz.results91 rfl rfl (H' := [.own none 159 6 0 0 []]) mS ⟨none,0,?_⟩;rw [if_pos hb];exact ⟨rfl,rfl⟩
 rename_i gb;rw [if_neg hb];have hul:=Lh L
 refine rZ (ps:= [14]) (us:=fA L) (encs:=fun u=> [.agg (bP u).toArray]) (Hc:= [.box gu 174 [.slice Al L.length cl]]) (HU0:= [.box gb 156 [.slice none 0 0],.own none 159 6 0 0 []]) rfl (fun _=>rfl) rfl (NU L _ w ht' hlen gu)
  (fun pre HU=> ∃ A cap,HU= [.box gb 156 [sl A pre.length cap],.own A 159 6 pre.length cap (pre.flatMap bP)]) (fun _=>False) ?_ ⟨none,0,rfl⟩ ?_ ?_ ?_
 ·exact mS
 ·rintro l pre u post hus _ ⟨A,cap,rfl⟩ F F';have hlu:=congrArg List.length hus;simp only [Xa,Xs] at hlu;change WR _ _ _ l _ _ ((14,Value.agg (bP u).toArray)::_) (.box gb 156 [sl A pre.length cap]:: .own A 159 6 pre.length cap (pre.flatMap bP)::F);repeat' (first|refine zZI ?_|refine sM fun _=>?_|refine sC ?_ ?_<;>intro hb<;>try omega|refine sCR ?_ ?_<;>intro hb<;>try omega|fail)
  rename_i g6;refine pN ⟨[.box g6 159 (bP u),.box gb 156 [sl A pre.length cap],.own A 159 6 pre.length cap (pre.flatMap bP)],MSub.refl _,?_⟩;change WR _ _ _ l _ _ _ (.box g6 159 (bP u):: .box gb 156 [sl A pre.length cap]:: .own A 159 6 pre.length cap (pre.flatMap bP)::F');repeat' (first|apply aN;(iterate 3 exact rfl);(repeat first|exact .hd|apply Sel.tl|apply In.tl);intro w hm;exact hm.cells_own (by (repeat first|exact .hd|apply Sel.tl|apply In.tl));exact rfl;simp [Value.oneCell',sl];omega;simp only [maxLen];omega;intro A' cap' hA'|refine zZI ?_|refine sM fun _=>?_|refine sC ?_ ?_<;>intro hb<;>try omega|refine sCR ?_ ?_<;>intro hb<;>try omega|fail)
  refine lI [.box gb 156 [sl A' (pre.length+1) cap'],.own A' 159 6 (pre.length+1) cap' (pre.flatMap bP++bP u)] ?_ ⟨A',cap',?_⟩
  ·change MSub (_::_::F') _;exact mS
  ·rw [Mq,Xa]
   rfl
 ·rintro D _ ⟨A,cap,rfl⟩;change bw _ _ _ _ _ (dm D:: .box gb 156 [sl A (fA L).length cap]:: .own A 159 6 (fA L).length cap ((fA L).flatMap bP)::_);repeat' (first|refine zZI ?_|refine sM fun _=>?_|refine sC ?_ ?_<;>intro hb<;>try omega|refine sCR ?_ ?_<;>intro hb<;>try omega|fail)
  refine ph .hd ?_;refine di (.inl rfl) Tryz.results91 rfl rfl (H' := [.own A 159 6 (fA L).length cap ((fA L).flatMap bP)]) mS ⟨A,cap,rfl,rfl⟩
 ·rintro D HU h;exact h.elim
def rel (u:Us):Bool:=decide (0≤u.node)
structure SubN (r:Nat→Nat→Bool) (n:Nat) (l:List Nat) (X:Nx):Prop where
 len:X.length=l.length
 asc:l.Pairwise (· < ·)
 lt: ∀ i∈l,i<n
 ok: ∀ p,∀ q∈Kf X p,q<l.length
 rel: ∀ p q (hp:p<l.length) (hq:q<l.length),r l[p] l[q]=true↔ ∃ k∈Kf X p,Rch X k q
 acy: ∀ p,p<l.length→ ¬ onC X p
end Go.SL
namespace Go.SL
open Go Go.Proofs
attribute [local irreducible] W WL WQ WG WA VOp thn blk bA scp aY FnAt FnIn
theorem GY (f:FuncId) [Callable Tryz.prog f] (caps:List Value) (g:Int→Int) (a:ByteArray) (ha:a.size≤1000000) (w:World) (hf: ∀ c w' H,0≤c→c<256→Mem w w' H→aL Tryz.prog f ([.int .u8 c]++caps) w' (.int .u8 (g c))):
 FnAt Tryz.prog 217 [.string a,.func (.func f) #[] caps.toArray] w fun v H=> ∃ gb cap,v= .slice (some ⟨gb,0,none⟩) a.size cap∧H= [.byt gb 5 a.size cap (((aD a).map g).map (Value.int .u8))]:=by
 refine aB Tryz.func217 rfl Tryz.ntmps217 rfl ?_;repeat' (first|apply rq;exact rfl;exact rfl;intro gb cap|refine sT ?_|refine sM fun _=>?_|refine sC ?_ ?_<;>intro hb<;>try omega|fail)
 refine gI (fun i:Nat=> [(5,.slice (some ⟨gb,0,none⟩) a.size cap),(10,.slice (some ⟨gb,0,none⟩) a.size cap),(11,.int .i64 (a.size:Int)),(12,.int .i64 (i:Int)),(1,.func (.func f) #[] caps.toArray)])
  (fun i=> [.byt gb 5 a.size cap ((((aD a).take i).map g++(aD a).drop i).map (Value.int .u8))]) (fun i=>i≤a.size) (fun i=>a.size - i) 0 (by omega) ?_ ?_ ?_
 ·exact sB
 ·rw [uZ];simp only [YF,XR,Xd,Zl];exact mS
 ·intro i hi;have hl:=aH a;by_cases hlt:i<a.size
  ·have hil:i<(aD a).length:=by omega
   have hok:=qo a (aD a)[i] (XO hil);have hget:((((aD a).take i).map g++(aD a).drop i).map (Value.int .u8))[0+i*1]? =some (.int .u8 (aD a)[i]):=by
    rw [XN,show 0+i*1=i by omega,Yd (by simp;omega)];simp [YO (Nat.le_of_lt hil),Zo]
   repeat' first|apply ak;exact rfl;apply ai;exact rfl;exact rfl;exact hlt|apply ak;exact rfl;apply m8;exact rfl;exact .hd;exact hget|apply kv;exact rfl;exact rfl;infer_instance;exact rfl;intro w' hm;exact hf _ w' _ hok.1 hok.2 hm|apply si;exact rfl;exact rfl;exact .hd;exact rfl;simp;omega|apply ak;exact rfl;apply AE;exact rfl;exact rfl;constructor<;>omega|refine sT ?_|refine sM fun _=>?_|refine sC ?_ ?_<;>intro hb<;>try omega|fail
   refine ⟨i+1,by omega,by omega,?_,?_⟩
   ·exact sB
   ·rw [show 0+i*1=i by omega,ET g (Value.int .u8) (aD a) i hil];exact mS
  ·have e:i=a.size:=by omega
   subst e;repeat' (first|refine sT ?_|refine sM fun _=>?_|refine sC ?_ ?_<;>intro hb<;>try omega|fail)
   refine bo (.inl rfl) rfl rfl (.refl _) ⟨gb,cap,rfl,?_⟩;rw [YE (by omega),Yf (by omega),Xm]
theorem L7 (c:Int) (h0:0≤c) (h1:c<256) (ga gb:Nat) (w:World) (ha:Ro w ga 0 [.int .u8 97]) (hb' :Ro w gb 0 [.int .i64 (-32)]):aL Tryz.prog 276 [.int .u8 c,.pointer (some ⟨ga,0,none⟩),.pointer (some ⟨gb,0,none⟩)] w (.int .u8 (upC c)):=by
 refine aB Tryz.func276 rfl Tryz.ntmps276 rfl ?_;have hwc:IntKind.i64.wrap c=c:=I64.wrap ⟨by omega,by omega⟩;have h122:IntKind.u8.wrap (97+25)=122:=by decide
 repeat' first|apply ak;exact rfl;apply bu (off:=0);exact ha;exact rfl;exact rfl|apply ak;exact rfl;apply bu (off:=0);exact hb';exact rfl;exact rfl|apply ak;exact rfl;apply jk;exact rfl;exact rfl;exact h122|apply ak (d:=15);exact rfl;apply cM;exact rfl;exact hwc|apply ak (d:=17);exact rfl;apply AE;exact rfl;exact rfl;exact ⟨by omega,by omega⟩|apply ak (d:=18);exact rfl;apply cM (c:=c - 32);exact rfl;rw [show c+ -32=c - 32 by omega];exact wrap_u8 (by omega) (by omega)|refine sT ?_|refine sM fun _=>?_|refine sC ?_ ?_<;>intro hb<;>try omega|fail
 all_goals ((refine rT1 ?_);unfold upC;first|rw [if_pos (by omega)]|rw [if_neg (by omega)])
def upB (a:ByteArray):ByteArray:=mkB ((aD a).map upC)
theorem Pm (a:ByteArray):aD (upB a)=(aD a).map upC:=by
 refine o3 ?_;intro c hc;obtain ⟨d,hd,rfl⟩:=Xu.1 hc;have:=qo a d hd;unfold upC;split<;>omega
theorem OY (a:ByteArray) (ha:a.size≤1000000) (w:World):aL Tryz.prog 251 [.string a,.int .u8 97,.int .i64 (-32)] w (.string (upB a)):=by
 refine aB Tryz.func251 rfl Tryz.ntmps251 rfl ?_;repeat' (first|(with_reducible apply aw (R:=fun v H=> ∃ gb cap,v= .slice (some ⟨gb,0,none⟩) a.size cap∧H= [.byt gb 5 a.size cap (((aD a).map upC).map (Value.int .u8))]));exact rfl;exact rfl;intro w' hm;exact GY 276 [_,_] upC a ha w' (fun c w2 H2 h0 h1 hm2=>L7 c h0 h1 _ _ w2 ((Ro.of_box hm pK).next hm2) ((Ro.of_box hm pK).next hm2));rintro v H' ⟨gb,cap,rfl,rfl⟩|apply ak;exact rfl;apply Ae;exact rfl;exact .hd;simp [aH]|refine sT ?_|refine sM fun _=>?_|refine sC ?_ ?_<;>intro hb<;>try omega|fail)
 (refine rT1 ?_)
 rfl
theorem tV (a:ByteArray) (ha:a.size≤1000000) (w:World):aL Tryz.prog 226 [.string a] w (.string (upB a)):=by
 refine aB Tryz.func226 rfl Tryz.ntmps226 rfl ?_;repeat' (first|apply aa;exact rfl;exact rfl;intro w hm;exact OY a ha w|refine sT ?_|refine sM fun _=>?_|refine sC ?_ ?_<;>intro hb<;>try omega|fail)
 (refine rT1 ?_)
 rfl
def uq:List Int→Option (List Int)
 | []=>some []
 |c::r=>if c≠34 then (uq r).map (c:: ·) else match r with
  | []=>none
  |d::r' =>if d=34 then (uq r').map (34:: ·) else none
def jH (l:List Int):List Int × Int:=
 if l.length<2∨l.head? ≠some 34∨l.getLast? ≠some 34∨l.all (fun c=>eL c)=false then ([],4)
 else match uq ((l.drop 1).dropLast) with
  |none=>([],4)
  |some r=>if 256<r.length then ([],5) else (r,0)
theorem vz (a:ByteArray):uC a=(aD a).all fun c=>eL c:=by
 simp only [uC,aD,List.all_map];congr 1;funext c;simp only [Function.comp,eL];rw [XY];simp;omega
theorem O8 (a:ByteArray) (c:Int) (h:0<a.size):((aD a).getLast? =some c)↔bat a (a.size - 1)=c:=by
 rw [Zx,aH,qA (by omega)];simp
theorem EU {a:ByteArray} {i:Nat} (h0:1≤i) (h:i<a.size - 1):(((aD a).drop 1).dropLast).drop (i - 1)=bat a i::(((aD a).drop 1).dropLast).drop i:=by
 have hl:=aH a;obtain ⟨j,rfl⟩: ∃ j,i=j+1:=⟨i - 1,by omega⟩;rw [ZF];have hlen:(((aD a).drop 1).dropLast).length=a.size - 2:=by simp;omega
 have hlt:j<(((aD a).drop 1).dropLast).length:=by omega
 rw [XC hlt];congr 1;have h1:=qA (a:=a) (i:=j+1) (by omega);have h2:(((aD a).drop 1).dropLast)[j]? =some (bat a (j+1)):=by
  rw [List.getElem?_dropLast,if_pos (by simp;omega),Zo,Zu 1 j,h1]
 rw [Xf hlt] at h2;exact Option.some.inj h2
theorem Li {c:Int} {r:List Int} (h:c≠34):uq (c::r)=(uq r).map (c:: ·):=by
 rw [uq.eq_def];simp [h]
theorem JJ (a:ByteArray) (ha:a.size≤1000000) (w:World):aL Tryz.prog 254 [.string a] w (.tuple #[.string (mkB (jH (aD a)).1),.int .i64 (jH (aD a)).2]):=by
 refine aB Tryz.func254 rfl Tryz.ntmps254 rfl ?_;have hl:=aH a;have hp:=s5 a ha;rw [vz] at hp;have hh:=yN a 34;have hg:=O8 a 34;by_cases hbad:(aD a).length<2∨(aD a).head? ≠some 34∨(aD a).getLast? ≠some 34∨(aD a).all (fun c=>eL c)=false
 ·rw [jH,if_pos hbad];repeat' (first|apply aa;exact rfl;exact rfl;intro w hm;exact hp w|refine zZD ?_|refine sM fun _=>?_|refine sC ?_ ?_<;>intro hb<;>try omega|fail)
  iterate 4 (focus ((refine rT2 ?_);rfl))
  exfalso;rename_i h1 h2 h3;rcases hbad with h|h|h|h
  ·omega
  ·exact h (hh.2 ⟨by omega,Decidable.not_not.1 h2⟩)
  ·exact h ((hg (by omega)).2 (Decidable.not_not.1 h3))
  ·rw [hb] at h;cases h
 ·have hun:jH (aD a)=match uq (((aD a).drop 1).dropLast) with
   |none=>([],4)
   |some r=>if 256<r.length then ([],5) else (r,0):=by rw [jH,if_neg hbad]
  rw [hun];simp only [not_or,Decidable.not_not,Bool.not_eq_false] at hbad;obtain ⟨b1,b2,b3,b4⟩:=hbad;have b5:=(hh.1 b2).2;have b6:=(hg (by omega)).1 b3;rw [b4] at hp;have hn:(a.size:Int) - 1=((a.size - 1:Nat):Int):=by omega
  generalize hB:((aD a).drop 1).dropLast=B;have hBl:B.length=a.size - 2:=by rw [← hB];simp;omega
  repeat' first|apply aa;exact rfl;exact rfl;intro w hm;exact hp w|refine zZD ?_|refine sM fun _=>?_|refine sC ?_ ?_<;>intro hb<;>try omega|fail
  all_goals try omega
  refine aF 5 1 ?_;refine ax [0,4] rfl (fun x:Nat × List Int × Option Nat × Nat=> [(5,sl x.2.2.1 x.2.1.length x.2.2.2),(6,.int .i64 (x.1:Int))]) (fun x=> [.own x.2.2.1 5 1 x.2.1.length x.2.2.2 (x.2.1.map (Value.int .u8))]) (fun x=>1≤x.1∧x.1≤a.size - 1∧x.2.1.length≤x.1∧uq B=(uq (B.drop (x.1 - 1))).map (x.2.1++ ·)) (fun x=>a.size - x.1) (1,[],none,0) ⟨by omega,by omega,by simp,by simp⟩ sB mS ?_;rintro ⟨i,out,A,cap⟩ ⟨i1,i2,i3,i4⟩;dsimp only at i1 i2 i3 i4 ⊢;by_cases hend:i=a.size - 1
  ·have hBd:B.drop (i - 1)= []:=Yf (by omega);rw [hBd] at i4;simp only [uq,Ys,Xm] at i4;rw [i4];dsimp only;by_cases hlen:256<out.length
   ·rw [if_pos hlen];repeat' (first|refine zZD ?_|refine sM fun _=>?_|refine sC ?_ ?_<;>intro hb<;>try omega|fail)
    all_goals first|omega|(refine rT2 ?_);rfl
   ·rw [if_neg hlen];repeat' (first|apply ak;exact rfl;apply H9;exact rfl;exact pK;exact rfl|refine zZD ?_|refine sM fun _=>?_|refine sC ?_ ?_<;>intro hb<;>try omega|fail)
    all_goals first|omega|(refine rT2 ?_);rfl
  ·have hdr:=EU (a:=a) i1 (by omega);rw [hB] at hdr;rw [hdr] at i4;by_cases hq:bat a i=34
   ·rw [hq] at i4;by_cases h1:i+1=a.size - 1
    ·have hBd:B.drop i= []:=Yf (by omega);rw [hBd] at i4;simp only [uq,ne_eq,not_true_eq_false,if_false,Option.map_none] at i4;rw [i4];repeat' (first|refine zZD ?_|refine sM fun _=>?_|refine sC ?_ ?_<;>intro hb<;>try omega|fail)
     all_goals first|omega|(refine rT2 ?_);rfl
    ·have hdr2:=EU (a:=a) (i:=i+1) (by omega) (by omega);rw [hB,ZF] at hdr2;rw [hdr2] at i4;by_cases h2:bat a (i+1)=34
     ·simp only [uq,ne_eq,not_true_eq_false,if_false,h2,if_true,Zq] at i4;repeat' (first|apply mY;(iterate 3 exact rfl);exact pK;exact pK;exact rfl;simp [Value.oneCell'];omega;simp only [maxLen];omega;intro g8 c8|apply ak (d:=63);exact rfl;apply m9 (b:=2);exact rfl;exact rfl;simp only [maxLen];omega|refine zZD ?_|refine sM fun _=>?_|refine sC ?_ ?_<;>intro hb<;>try omega|fail)
      all_goals try omega
      refine ⟨(i+2,out++ [34],some g8,c8),⟨by dsimp only;omega,by dsimp only;omega,by simp;omega,?_⟩,(by dsimp only;omega),?_,sB,?_⟩
      ·dsimp only;rw [i4,show i+2 - 1=i+1 by omega];congr 1;funext l;simp
      ·simp only [Xa,Xe];exact sB
      ·simp only [Xa,Xe,XI,XD,XR];exact mS
     ·simp only [uq,ne_eq,not_true_eq_false,if_false,h2,Option.map_none] at i4;rw [i4];repeat' (first|refine zZD ?_|refine sM fun _=>?_|refine sC ?_ ?_<;>intro hb<;>try omega|fail)
      all_goals first|omega|(refine rT2 ?_);rfl
   ·rw [Li hq,Zq] at i4;repeat' (first|apply mY;(iterate 3 exact rfl);exact pK;exact pK;exact rfl;simp [Value.oneCell'];omega;simp only [maxLen];omega;intro g8 c8|refine zZD ?_|refine sM fun _=>?_|refine sC ?_ ?_<;>intro hb<;>try omega|fail)
    all_goals try omega
    refine ⟨(i+1,out++ [bat a i],some g8,c8),⟨by dsimp only;omega,by dsimp only;omega,by simp;omega,?_⟩,(by dsimp only;omega),?_,sB,?_⟩
    ·dsimp only;rw [i4,show i+1 - 1=i by omega];congr 1;funext l;simp
    ·simp only [Xa,Xe];exact sB
    ·simp only [Xa,Xe,XI,XD,XR];exact mS
def fo:List ByteArray:= [⟨#[]⟩,⟨#[35,68,73,86,47,48,33]⟩,⟨#[35,86,65,76,85,69,33]⟩,⟨#[35,78,85,77,33]⟩,⟨#[35,78,47,65]⟩,⟨#[35,82,69,70,33]⟩,⟨#[35,67,89,67,76,69,33]⟩,⟨#[35,68,69,78,73,69,68]⟩]
def Words (w:World):Prop:=Ro w 0 0 (fo.map Value.string)
theorem Words.next {w0 w:World} {H:List Blk} (h:Words w0) (hm:Mem w0 w H):Words w:=Ro.next h hm
def mL (c:Int):Vl:=⟨4,if c<1∨7<c then 2 else c,aS⟩
def O2 (n:Int):Vl:=if n= -9223372036854775808 then mL 3 else ⟨1,n,aS⟩
def CJ (b:Bool):Vl:=⟨2,if b then 1 else 0,aS⟩
def Kb:ByteArray:=⟨#[84,82,85,69]⟩
def Dn:ByteArray:=⟨#[70,65,76,83,69]⟩
def IV (a:ByteArray):Vl:=if upB a=Kb then CJ true else if upB a=Dn then CJ false else mL 2
theorem nW (c:Int) (w:World):aL Tryz.prog 163 [.int .i64 c] w (.agg (fp (mL c)).toArray):=by
 refine aB Tryz.func163 rfl Tryz.ntmps163 rfl ?_;repeat' (first|refine sT ?_|refine sM fun _=>?_|refine sC ?_ ?_<;>intro hb<;>try omega|exact cT|fail)
 all_goals ((refine eRC ?_);simp only [mL];(first|rw [if_pos (by omega)]|rw [if_neg (by omega)]);rfl)
theorem SU (n:Int) (w:World):aL Tryz.prog 166 [.int .i64 n] w (.agg (fp (O2 n)).toArray):=by
 refine aB Tryz.func166 rfl Tryz.ntmps166 rfl ?_;repeat' (first|apply aa;exact rfl;exact rfl;intro w hm;exact nW 3 w|refine sT ?_|refine sM fun _=>?_|refine sC ?_ ?_<;>intro hb<;>try omega|exact cT|fail)
 all_goals ((refine eRC ?_);simp_all [O2,fp,mL,aS])
theorem Qt (b:Bool) (w:World):aL Tryz.prog 250 [.bool b] w (.agg (fp (CJ b)).toArray):=by
 refine aB Tryz.func250 rfl Tryz.ntmps250 rfl ?_;repeat' (first|refine sT ?_|refine sM fun _=>?_|refine sC ?_ ?_<;>intro hb<;>try omega|exact cT|fail)
 all_goals ((refine eRC ?_);simp_all [CJ,fp,aS])
theorem OW (v:Vl) (ha:v.text.size≤1000000) (w:World):aL Tryz.prog 225 [.agg (fp v).toArray] w (.agg (fp (IV v.text)).toArray):=by
 refine aB Tryz.func225 rfl Tryz.ntmps225 rfl ?_;repeat' (first|apply aa;exact rfl;exact rfl;intro w hm;exact tV v.text ha w|apply aa;exact rfl;exact rfl;intro w hm;exact Qt _ w|apply aa;exact rfl;exact rfl;intro w hm;exact nW 2 w|refine sT ?_|refine sM fun _=>?_|refine sC ?_ ?_<;>intro hb<;>try omega|exact cT|fail)
 all_goals ((refine eRC ?_);simp_all [IV,Kb,Dn];rfl)
theorem SP (c:Int) (h1:1≤c) (h2:c≤5) (w:World) (hw:Words w):aL Tryz.prog 260 [.agg (fp ⟨4,c,aS⟩).toArray] w (.string (fo.getD c.toNat aS)):=by
 refine aB Tryz.func260 rfl Tryz.ntmps260 rfl ?_;have he:eqV ⟨4,c,aS⟩ (mL 7)=false:=by simp [eqV,mL];omega
 have hv:H6 ⟨4,c,aS⟩=0:=by
  have h6:decide (c≤6)=true:=decide_eq_true (by omega);simp [H6,NF,h1,h6]
 have hc:=H5 ⟨4,c,aS⟩;rw [hv] at hc;obtain ⟨k,rfl⟩: ∃ k:Nat,c=(k:Int):=⟨c.toNat,by omega⟩;have hcell:(fo.map Value.string)[k*1]? =some (.string (fo.getD k aS)):=by
  rcases (by omega:k=1∨k=2∨k=3∨k=4∨k=5) with rfl|rfl|rfl|rfl|rfl<;>rfl
 repeat' first|apply df;exact rfl;exact rfl;intro w hm;exact nW 7 w|apply df;exact rfl;exact rfl;intro w hm;exact hc w|apply aQ;exact rfl;exact he ▸ NQ (b:=mL 7) rfl rfl|apply ak;exact rfl;apply xK (j:=k);exact rfl;exact rfl;omega|apply ak;exact rfl;apply bu (o:=0);exact hw;exact rfl;exact hcell|refine sT ?_|refine sQ ?_|refine sD ?_|refine sM fun _=>?_|refine sC ?_ ?_<;>intro hb<;>try omega|refine sCQ ?_ ?_<;>intro hb<;>try omega|exact cT|fail
 (refine rT1 ?_)
 rfl
instance iN5:KLaw Tryz.prog 5 (fun z:Int=>Value.int .u8 z):=Ph
theorem Ch {P:Program} {n:Fr} {w0:World} {Q:bK} {s:az} {H:List Blk} {rest:List Oper} {ty:TypeId} {p:String} {af:Array Edge} {κ:Type} [DecidableEq κ] {enc:κ→Value} {t K E g clock:Nat} {m x kx:Operand} {k:κ} {v:Value} {es:List (κ × Value × Nat)} {es' :List (κ × Value × Nat)} {c' :Nat} {R:List Blk} {ops:Array Oper} [ht:Und P t (.map K E)] [hk:KLaw P K enc] (hm:ev s m=some (.map (some g))) (hkx:ev s kx=some (enc k)) (hx:ev s x=some v) (hsel:Sel (.obj g (aK enc es clock)) H R)
 (he:gK k v clock es=(es',c')) (h:WL P n w0 ops rest Q s (.obj g (aK enc es' c')::R)):WL P n w0 ops (⟨none,.insert t m kx x,ty,p,af,none⟩::rest) Q s H:=by
 refine zT hm hkx hx hsel ?_;rw [he];exact h
theorem Pd {κ:Type} [DecidableEq κ] {k:κ} {v:Value} {clock:Nat} {es:List (κ × Value × Nat)} (h:bH k es 0=none):gK k v clock es=(es++ [(k,v,clock)],clock+1):=by
 simp [gK,h]
def KJ (v:Vl):List (Int × Value × Nat):=
 [(0,.func (.func 223) #[.agg (fp v).toArray] #[],0),(1,.func (.func 223) #[.agg (fp v).toArray] #[],1),(2,.func (.func 224) #[.agg (fp v).toArray] #[],2),(3,.func (.func 225) #[.agg (fp v).toArray] #[],3),(4,.func (.func 224) #[.agg (fp v).toArray] #[],4)]
theorem Io (v:Vl) (w:World):FnAt Tryz.prog 222 [.agg (fp v).toArray] w fun u H=> ∃ g,u= .map (some g)∧H= [.obj g (aK (fun z:Int=>Value.int .u8 z) (KJ v) 5)]:=by
 refine aB Tryz.func222 rfl Tryz.ntmps222 rfl ?_;repeat' (first|apply cL (enc:=fun z:Int=>Value.int .u8 z);exact rfl;intro g|apply ak;exact rfl;apply m5;exact rfl|apply Ch (enc:=fun z:Int=>Value.int .u8 z);(iterate 3 exact rfl);exact pK;exact Pd rfl|refine sT ?_|refine sM fun _=>?_|refine sC ?_ ?_<;>intro hb<;>try omega|exact cT|fail)
 exact bo (H' := [.obj g (aK (fun z:Int=>Value.int .u8 z) (KJ v) 5)]) (.inl rfl) rfl rfl (.pick .hd (.nil _)) ⟨g,rfl,rfl⟩
def kH (v:Vl):Vl:=if H6 v=0 then IV v.text else mL 2
theorem GQ (v:Vl) (hk:v.kind=3) (ha:v.text.size≤1000000) (w:World):aL Tryz.prog 221 [.agg (fp v).toArray,.func (.func 222) #[] #[]] w (.agg (fp (kH v)).toArray):=by
 refine aB Tryz.func221 rfl Tryz.ntmps221 rfl ?_;obtain ⟨k,num,text⟩:=v;dsimp only at hk ha;subst hk;have hv:=H5 ⟨3,num,text⟩;have hn:=OW ⟨3,num,text⟩ ha;repeat' (first|refine sT ?_|refine sM fun _=>?_|refine sC ?_ ?_<;>intro hb<;>try omega|exact cT|fail)
 rename_i g2 g4;refine xF (id:=1) (ι:=Unit) (fun _=> [(5,.func (.func 225) #[.agg (fp ⟨3,num,text⟩).toArray] #[]),(6,.bool true),(2,.pointer (some ⟨g2,0,none⟩)),(4,.pointer (some ⟨g4,0,none⟩))]) (fun _=> [.box g2 173 (fp ⟨3,num,text⟩),.box g4 173 (fp cU)]) (fun _=>True) ?_ ?_
 ·refine CC 11 rfl (by kernel_rfl) ?_;((with_reducible apply dO (i:=0));exact rfl;exact rfl;(iterate 3 decide+kernel);exact nP;intro _ _;exact vP);((with_reducible apply dO (i:=3));exact rfl;exact rfl;(iterate 3 decide+kernel);exact nP;intro _ _;exact vP);repeat' (first|apply Cz (i:=1) (j:=4);exact rfl;exact rfl;decide+kernel|apply Cz (i:=2) (j:=4);exact rfl;exact rfl;decide+kernel|apply ig (i:=1);exact rfl;decide+kernel|apply ig (i:=2);exact rfl;decide+kernel|apply ig (i:=4);exact rfl;decide+kernel|apply ig (i:=5);exact rfl;decide+kernel|apply dO (i:=6);exact rfl;exact rfl;(iterate 3 decide+kernel);exact nP;intro _ _;exact vP|apply dO (i:=7);exact rfl;exact rfl;(iterate 3 decide+kernel);exact nP;intro _ _;exact vP|apply dO (i:=8);exact rfl;exact rfl;(iterate 3 decide+kernel);exact nP;intro _ _;exact vP|apply dO (i:=9);exact rfl;exact rfl;(iterate 3 decide+kernel);exact nP;intro _ _;exact vP|apply dO (i:=10);exact rfl;exact rfl;(iterate 3 decide+kernel);exact nP;intro _ _;exact vP|apply CA;decide+kernel|apply fK;exact rfl;exact rfl;infer_instance;exact rfl;exact FnIn.of_at (fun w' _=>Io ⟨3,num,text⟩ w');rintro _ _ ⟨H1,⟨g5,rfl,rfl⟩,rfl⟩|apply ak;exact rfl;apply eG (enc:=fun z:Int=>Value.int .u8 z);exact rfl;exact rfl;exact pK;exact rfl|refine sT ?_|refine sM fun _=>?_|refine sC ?_ ?_<;>intro hb<;>try omega|exact cT|fail)
  all_goals ((apply fG;rotate_left 1;exact sB;exact mS);trivial)
 ·rintro _ -;simp only [kH];generalize H6 ⟨3,num,text⟩=e at hv;repeat' (first|apply aa;exact rfl;exact rfl;intro w hm;exact hv w|apply aa;exact rfl;exact rfl;intro w hm;exact nW 2 w|apply ud;exact rfl;exact rfl;infer_instance;exact rfl;intro w' _;exact hn w'|refine sT ?_|refine sM fun _=>?_|refine sC ?_ ?_<;>intro hb<;>try omega|exact cT|fail)
  all_goals
   (refine eRC ?_);simp_all
   rfl
theorem M4 (v:Vl) (hk:v.kind=3) (ha:v.text.size≤1000000) (w:World):aL Tryz.prog 160 [.agg (fp v).toArray] w (.agg (fp (kH v)).toArray):=by
 refine aB Tryz.func160 rfl Tryz.ntmps160 rfl ?_;repeat' (first|apply aa;exact rfl;exact rfl;intro w hm;exact GQ v hk ha w|refine sT ?_|refine sM fun _=>?_|refine sC ?_ ?_<;>intro hb<;>try omega|exact cT|fail)
 (refine eRC ?_)
 rfl
def py (u:ByteArray):List ByteArray→Int→Int × Int
 | [],_=>(0,4)
 |x::r,i=>if x=u then (i,0) else py u r (i+1)
def vX (a:ByteArray):Int × Int:=py (upB a) (fo.drop 1) 1
theorem HS {i:Nat} (h:i<8):(fo.map Value.string)[i]? =some (.string (fo.getD i aS)):=by
 rcases (by omega:i=0∨i=1∨i=2∨i=3∨i=4∨i=5∨i=6∨i=7) with rfl|rfl|rfl|rfl|rfl|rfl|rfl|rfl<;>rfl
theorem D6 {i:Nat} (h:i<8):fo.drop i=fo.getD i aS::fo.drop (i+1):=by
 rcases (by omega:i=0∨i=1∨i=2∨i=3∨i=4∨i=5∨i=6∨i=7) with rfl|rfl|rfl|rfl|rfl|rfl|rfl|rfl<;>rfl
theorem SW (a:ByteArray) (ha:a.size≤1000000) (w:World) (hw:Words w):aL Tryz.prog 162 [.string a] w (.tuple #[.int .i64 (vX a).1,.int .i64 (vX a).2]):=by
 refine aB Tryz.func162 rfl Tryz.ntmps162 rfl ?_;have hload:(((fo.map Value.string).drop 0).take 8)=fo.map Value.string:=rfl;have hU:=tV a ha;generalize hu:upB a=u at hU;repeat' (first|apply aa;exact rfl;exact rfl;intro w hm;exact hU w|apply ak;exact rfl;apply m6 (o:=0) (off:=0);exact hw;exact rfl;exact hload;exact rfl|refine zZE ?_|refine sM fun _=>?_|refine sC ?_ ?_<;>intro hb<;>try omega|exact cT|fail)
 refine ax [0,8] rfl (fun i:Nat=> [(9,.int .i64 (i:Int))]) (fun _=> []) (fun i=>i≤8∧vX a=py u (fo.drop (max i 1)) (max i 1:Nat)) (fun i=>8 - i) 0 ⟨by omega,by rw [vX,hu];rfl⟩ sB mS ?_;rintro i ⟨hi,hr⟩;by_cases hlt:i<8
 ·have hx:=HS hlt;have hd:=D6 hlt;generalize fo.getD i aS=x at hx hd;repeat' (first|apply ak;exact rfl;apply oG;exact rfl;exact rfl;exact hlt;exact hx|refine zZG ?_|refine sM fun _=>?_|refine sC ?_ ?_<;>intro hb<;>try omega|exact cT|fail)
  ·rename_i h0;rw [show max i 1=i by omega,hd,py,if_pos hb] at hr;rw [hr];refine rT2 ?_
   rfl
  ·rename_i h0;rw [show max i 1=i by omega,hd,py,if_neg hb] at hr;refine ⟨i+1,?_,(by first|omega|dsimp only;omega),sB,sB,mS⟩;refine ⟨hlt,?_⟩;rw [hr,show max (i+1) 1=i+1 by omega]
   rfl
  ·have h0:i=0:=by omega
   subst h0;refine ⟨0+1,?_,(by first|omega|dsimp only;omega),sB,sB,mS⟩;exact ⟨by omega,hr⟩
 ·have e:i=8:=by omega
  subst e;rw [hr];repeat' (first|refine zZE ?_|refine sM fun _=>?_|refine sC ?_ ?_<;>intro hb<;>try omega|exact cT|fail)
  all_goals first|omega|(refine rT2 ?_);rfl
end Go.SL
namespace Go.SL
open Go Go.Proofs Go.Proofs.YthgjiibbmkiplaaGreatDoor Go.ChangeShapes Go.WideShapes Go.ChangeAt Go.RowKit Go.Deep
def tZ:List (List UInt8):= [[],[35,68,73,86,47,48,33],[35,86,65,76,85,69,33],[35,78,85,77,33],[35,78,47,65],[35,82,69,70,33],[35,67,89,67,76,69,33],[35,68,69,78,73,69,68]]
def dW:List (String × DataW Unit):= [("louvre/val.words",Rows.laid_louvre_val_words)]
theorem D0:(Rows.laid_louvre_val_words:DataW Unit)= .agg (tZ.map fun l=> .lit (.string l)):=rfl
theorem Nj:fo=tZ.map fun l=>⟨l.toArray⟩:=rfl
set_option maxRecDepth 100000 in
theorem gQ {W:World} (h:laidMetH Tryz.prog dW W):Words W:=by
 rw [MakeChecks.laidMetH_plain _ _ _ (by kernel_rfl)] at h;obtain ⟨ps,⟨g,t,cs,fuel,p,q,hg,ht,hv,hd,_,_⟩,_⟩:=h;obtain rfl:=Option.some.inj ((show Tryz.prog.globalNamed "louvre/val.words" =some 0 by kernel_rfl).symm.trans hg);obtain rfl:=Option.some.inj ((show (Tryz.prog.globals[0]?).map (·.type)=some 329 by kernel_rfl).symm.trans ht);rw [D0] at hd;obtain ⟨xs,m,_,ex,_,hl,hel⟩:=DataW.trod_array Tryz.underlying329 hd;have cS:Tryz.prog.cellsOf 9=1:=by kernel_rfl
 have hcell: ∀ (j:Nat) (v:Value),(fo.map Value.string)[j]? =some v→W.cell? ⟨0,0+j,none⟩=some v:=by
  intro j v hjv;have hj:j<8:=by
   have:=(XJ.1 hjv).1;simpa [fo] using this
  have hE:=hel j hj;rw [cS,YT,Xf (by omega)] at hE;obtain ⟨s,e1,e2,_⟩:=DataW.trod_string Tryz.underlying9 hE;have e3:(xs.map (·.1))=tZ.map fun l=> .lit (.string l):=(DataW.agg.inj (Prod.mk.inj ex).1).symm;have hwl:tZ.length=8:=rfl;have e4:(xs.map (·.1))[j]? =(tZ.map fun l=>(DataW.lit (.string l):DataW Unit))[j]? :=by rw [e3]
  obtain ⟨u,hu⟩: ∃ u,tZ[j]? =some u:=⟨_,Xf (by rw [hwl];exact hj)⟩;rw [XN,XN,Xf (by omega:j<xs.length),hu,e2] at e4;simp only [Ys,Option.some.injEq,DataW.lit.injEq,Lit.string.injEq] at e4;have hs:s=⟨u.toArray⟩:=by
   obtain ⟨d⟩:=s;subst e4
   rfl
  have hvv:v= .string s:=by
   rw [Nj,YL,XN,hu] at hjv;simp only [Ys,Option.some.injEq,Function.comp] at hjv;rw [← hjv,hs]
  rw [hvv,Xv,World.var?_cell hg hv j];have:cs.toList[j]? =some (.string s):=by
   have h0:((cs.toList.drop j).take 1)[0]? =some (.string s):=by rw [e1];rfl
   simpa using h0
  simpa using this
 refine ⟨?_,hcell⟩;have h5:=hcell 0 _ rfl;simp only [World.cell?] at h5;split at h5
 ·rename_i h6;exact (XK.1 h6).1
 ·cases h5
theorem o6 {P:Program} (h:P.funcs.toList.all (fun f=> !f.goes)=true) (c:OpenClaim):false=c.goesBy P:=by
 have h0:P.funcs.any Func.goes=false:=by
  rw [← Array.any_toList,Y3];exact fun f hf=>by simpa using Yt.1 h f hf
 have h1: ∀ f,P.goes f=false:=fun f=>by
  unfold Program.goes;rw [h0,Ye,Bool.or_false,Y3];intro g _
  cases e:P.funcs[g]? with
  |none=>simp
  |some x=>simpa using Yt.1 h x (Array.mem_toList_iff.2 (ZI e))
 unfold OpenClaim.goesBy Program.goesAt Program.goesFrom;cases P.funcNamed c.func<;>cases c.start<;>simp [h1]
end Go.SL
