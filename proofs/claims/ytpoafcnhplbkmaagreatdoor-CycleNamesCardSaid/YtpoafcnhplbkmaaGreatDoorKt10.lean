/-
  Lemmas and walks, put together: W5 A1 W6 W7 W34 W29 A3 Cd A4.
-/
import Derived.Test.YtpoafcnhplbkmaaGreatDoorKt08
set_option linter.unusedSimpArgs false
set_option linter.unusedVariables false
set_option maxRecDepth 20000
set_option maxHeartbeats 16000000
namespace Go.SL
open Go Go.Proofs
attribute [local irreducible] W WL WQ WG WA VOp thn blk aJ FnAt FnIn
def xZ (N:Nat) (w0:World) (f:FuncId) (caps:List Value) (Inv:List kD→List Blk→Prop):Prop:=
 ∀ (vs:List kD) (kids:List Nat) (d:Nat) (A:Option Nat) (cap:Nat) (H F:List Blk),Inv vs H→kids.length≤1000→vs.length<N→(∀ k∈kids,k<vs.length)→
  FnIn Tryz.prog f ([.int .i64 (vs.length:Int),sl A kids.length cap,.int .i64 (d:Int)]++caps) w0 (.own A 3 1 kids.length cap (kids.map fun (k:Nat)=> .int .i64 (k:Int))::(H++F))
   fun _ H' => ∃ H1,Inv (vs++ [(kids,d)]) H1∧MSub (H1++F) H'
theorem AC {n:Nd} (h:bX n=0):0≤below n∧below n≤16:=by
 unfold bX at h;split at h
 ·cases h
 ·rename_i hk;split at h
  ·rename_i h7;unfold below;split
   ·omega
   ·split
    ·omega
    ·omega
  ·rename_i h7;have h7' :n.kind=7:=by omega
   have hb:below n=n.n:=by simp [below,h7']
   have hk1:jB n=true:=by
    cases hh:jB n
    ·exact absurd (Or.inl hh) hk
    ·rfl
   simp [jB,h7'] at hk1;split at h
   ·rename_i ha;omega
   ·split at h
    ·omega
    ·rename_i hc;have hm:(dX n.fn).2.1≤16:=by
      unfold dX;(repeat' split)<;>simp
     omega
theorem iU (st:List Pt) (k:Nat) (h:k≤st.length):(bk st k).length=k:=by simp [bk];omega
theorem jP {st:List Pt} {k:Nat} {p:Pt} (h:p∈bk st k):p∈st:=KP h
theorem zz {w0 w:World} {H:List Blk} {A:Option Nat} {st:List Pt} {cap k:Nat} (hm:Mem w0 w H) (hi:In (.own A 320 3 st.length cap (st.flatMap mC)) H) (h:k≤st.length):
 Reads w (.slice (if cap=st.length - k then A.map fun g=>⟨g,0,none⟩ else (A.map fun g=>(⟨g,0,none⟩:Addr)).map (·.add ((st.length - k)*3))) (st.length - (st.length - k)) (cap - (st.length - k))) (bk st k).length ((bk st k).flatMap mC):=by
 have h1:=(Reads.of_own hm hi).cut (lo:=st.length - k) (hi:=st.length) (sz:=3) (by omega) (IK _);have e1:st.length - (st.length - k)=(bk st k).length:=by rw [iU st k h];omega
 rw [mA jH,e1] at h1;have e2:((st.drop (st.length - k)).flatMap mC).take ((bk st k).length*3)=(bk st k).flatMap mC:=by
  rw [JF (by rw [cE jH];exact IK _)];rfl
 rw [e2] at h1;rw [e1];exact h1
theorem tu (top:List Pt) (j:Nat) (h:j<top.length):bR (top.take (j+1))=max (bR (top.take j)) (top[j].depth+1):=by
 unfold bR;rw [IA h,List.foldl_append]
 rfl
theorem qo (top:List Pt) (h: ∀ p∈top,p.depth≤32):bR top≤33:=by
 have: ∀ (l:List Pt) (d:Nat),d≤33→(∀ p∈l,p.depth≤32)→l.foldl (fun d p=>max d (p.depth+1)) d≤33:=by
  intro l
  induction l with
  |nil=>intro d hd _;simpa using hd
  |cons p r ih=>
   intro d hd hp;have:=hp p Iu;exact ih _ (by show max d (p.depth+1)≤33;omega) fun q hq=>hp q (IB _ hq)
 exact this top 1 (by omega) h
structure WalkSt (L:List Nd) (Inv:List kD→List Blk→Prop) (i:Nat) (st:List Pt) (vs:List kD) (Hv:List Blk):Prop where
 le:i≤L.length
 len:vs.length=i
 inv:Inv vs Hv
 rest:gk L L 0 [] []=gk L (L.drop i) i st vs
 ok: ∀ p∈st,p.root<i∧p.depth≤32
 small:st.length≤i
theorem zj (L:List Nd) (hne:0<L.length) (hlen:L.length≤256) (tv:Value) (w0:World) (ht:Reads w0 tv L.length (L.flatMap dO)) (f:FuncId) [hf:Callable Tryz.prog f] (caps:List Value) (Inv:List kD→List Blk→Prop) (hV:xZ L.length w0 f caps Inv)
 (H:List Blk) (hI:Inv [] H):FnIn Tryz.prog 197 [tv,.func (.func f) #[] caps.toArray] w0 H fun v H' =>v= .int .i64 (gk L L 0 [] []).1∧Inv (gk L L 0 [] []).2 H' :=by
 have ht' :=ht;obtain ⟨At,ct,rfl,ht1,ht2,ht3⟩:=ht;obtain ⟨gt,ot,rfl,hrt⟩:=ht3 hne;refine cd Tryz.func197 rfl Tryz.ntmps197 rfl ?_;repeat' (first|refine sT ?_|refine sM fun _=>?_|(refine sC ?_ ?_<;>intro hb<;>try omega)|fail)
 refine aN 320 3 ?_
 refine yn (fun (i:Nat) s H=> ∃ st vs A cap Hv,s= [(0,.slice (some ⟨gt,ot,none⟩) L.length ct),(1,.func (.func f) #[] caps.toArray),(5,sl A st.length cap),(14,.slice (some ⟨gt,ot,none⟩) L.length ct),(15,.int .i64 (L.length:Int)),(16,.int .i64 (i:Int))]∧
  H= .own A 320 3 st.length cap (st.flatMap mC)::Hv∧WalkSt L Inv i st vs Hv) (fun i=>L.length - i) 0 ?_ ?_
 ·refine ⟨_,_,?_,?_,⟨[],[],none,0,H,rfl,rfl,⟨Iw _,rfl,hI,rfl,by simp,IK _⟩⟩⟩
  ·exact sB
  ·exact mS
 ·rintro i _ _ ⟨st,vs,A,cap,Hv,rfl,rfl,hst⟩;obtain ⟨hle,hvl,hinv,hrest,hok,hsmall⟩:=hst;by_cases hlt:i<L.length
  ·have hrn:=hrt.elem gh i hlt;rw [IR hlt,gk,uy] at hrest;generalize hn:L[i]=n at hrest hrn;by_cases hfe:bX n=0
   ·obtain ⟨hb0,hb16⟩:=AC hfe;obtain ⟨k,hk⟩:=Int.eq_ofNat_of_zero_le hb0;rw [if_neg (by simp [hfe]),hk,KZ] at hrest;have hbel: ∀ w,aC Tryz.prog 252 [.agg (dO n).toArray] w (.int .i64 (k:Int)):=fun w=>hk ▸ Dt n w;have hfie: ∀ w,aC Tryz.prog 251 [.agg (dO n).toArray] w (.int .i64 0):=fun w=>hfe ▸ ra n w;refine ym .hd fun hr1 hr2 hr3=> ?_;repeat' (first|(apply ai;exact rfl;apply aa;exact rfl;exact rfl;exact hlt)|(apply ai;exact rfl;apply bZ;exact rfl;exact hrn;exact rfl)|(apply ai;exact rfl;apply rW;exact rfl;exact rfl;(simp only [maxLen];omega))|(apply ag;exact rfl;exact rfl;(intro w hm;exact hfie w))|(apply ag;exact rfl;exact rfl;(intro w hm;exact hbel w))|(apply BA (id:=9);kernel_rfl;kernel_rfl)|(apply cg;exact rfl;apply lX;exact rfl;exact rfl;omega;omega)|(apply ai;exact rfl;apply lX;exact rfl;exact rfl;omega;omega)|(apply cg;exact rfl;apply jO (hi:=st.length);exact rfl;exact ⟨_,rfl⟩;exact rfl;omega;omega)|(apply jn;exact rfl;exact rfl;(intro w hm;exact EH L n (bk st k) _ _ w (ht'.of_w0 hm) (zz hm pK (by omega)) (fun p hp=>Nat.lt_trans (hok p (jP hp)).1 hlt) (by rw [iU st k (by omega)];omega)))|refine sT ?_|refine sQ ?_|refine sM fun _=>?_|(refine sC ?_ ?_<;>intro hb<;>try omega)|(refine sCQ ?_ ?_<;>intro hb<;>try omega)|fail)
    ·refine bB (.inl rfl) Tryz.results197 rfl (.drop .hd (.drop .hd (.refl _))) ?_;rw [hrest,if_pos (Or.inl (by omega))];exact ⟨rfl,hinv⟩
    ·refine bB (.inl rfl) Tryz.results197 rfl (.drop .hd (.drop .hd (.refl _))) ?_;rw [hrest,if_pos (Or.inr hb)];exact ⟨rfl,hinv⟩
    have hkl:k≤st.length:=by omega
    rw [if_neg (by intro h;rcases h with h|h;(· omega);(· rw [hb] at h;cases h))] at hrest;repeat' (first|(apply ai;exact rfl;apply lX;exact rfl;exact rfl;omega;omega)|(apply Bl (hi:=st.length);exact rfl;exact rfl;exact ⟨_,rfl⟩;exact rfl;omega;omega;(intro B hB))|refine sT ?_|refine sM fun _=>?_|(refine sC ?_ ?_<;>intro hb<;>try omega)|fail)
    rename_i gn gp;refine aN 3 1 ?_;have htl:=iU st k hkl
    refine yn (fun (j:Nat) s H=> ∃ A2 cap2,s= [(0,.slice (some ⟨gt,ot,none⟩) L.length ct),(1,.func (.func f) #[] caps.toArray),(5,sl A st.length cap),(6,.int .i64 (i:Int)),(9,.int .i64 (k:Int)),(10,.pointer (some ⟨gp,0,none⟩)),(11,sl A2 j cap2),
     (14,.slice (some ⟨gt,ot,none⟩) L.length ct),(15,.int .i64 (L.length:Int)),(16,.int .i64 (i:Int)),(54,.slice B (st.length - (st.length - k)) (cap - (st.length - k))),(55,.int .i64 ((st.length - (st.length - k):Nat):Int)),(56,.int .i64 (j:Int))]∧
     H= .own A2 3 1 j cap2 (((bk st k).take j).map fun p=> .int .i64 (p.root:Int)):: .box gp 320 [.int .i64 (i:Int),.int .i64 (bR ((bk st k).take j):Int),.bool (decide (n.kind=3))]:: .own A 320 3 st.length cap (st.flatMap mC)::Hv∧j≤k) (fun j=>k - j) 0 ?_ ?_
    ·refine ⟨_,_,?_,?_,⟨none,0,rfl,rfl,by omega⟩⟩
     ·exact sB
     ·exact mS
    ·rintro j _ _ ⟨A2,cap2,rfl,rfl,hjk⟩;by_cases hj:j<k
     ·refine bH (.tl (.tl .hd)) (by omega) fun gs hA=> ?_;subst hA;obtain rfl:B=some ⟨gs,0+(st.length - k)*3,none⟩:=by rw [hB,if_neg (by omega)];simp [bA]
      have hjt:j<(bk st k).length:=by omega
      have he:((st.flatMap mC).drop (0+(st.length - k)*3+j*3)).take 3=mC (bk st k)[j]:=by
       rw [show 0+(st.length - k)*3+j*3=(st.length - k+j)*3 by rw [JP];omega,dW jH st _ (by omega)];simp [bk]
      have hd32:(bk st k)[j].depth≤32:=(hok _ (jP (IZ hjt))).2;repeat' (first|(apply ai;exact rfl;apply aa;exact rfl;exact rfl;omega)|(apply ai;exact rfl;apply ue;exact rfl;exact pK;exact he;exact rfl)|(apply ai;exact rfl;apply jN;exact rfl;exact rfl;(simp only [maxLen];omega))|(apply ai;exact rfl;apply BK;exact rfl;exact rfl)|(apply gS;(iterate 3 exact rfl);(repeat first|exact .hd|apply Sel.tl|apply In.tl);(intro w hm;exact hm.cells_own (by (repeat first|exact .hd|apply Sel.tl|apply In.tl)));exact rfl;(simp [Value.oneCell',sl]);omega;(simp only [maxLen];omega);(intro A' cap' hA'))|refine sT ?_|refine sM fun _=>?_|(refine sC ?_ ?_<;>intro hb<;>try omega)|fail)
      have hk1:((bk st k).take (j+1)).map (fun p=>Value.int .i64 (p.root:Int))=((bk st k).take j).map (fun p=>Value.int .i64 (p.root:Int))++ [.int .i64 ((bk st k)[j].root:Int)]:=by
       rw [IA hjt,Jn];rfl
      refine ⟨j+1,_,_,?_,?_,?_,⟨A',cap',rfl,rfl,hj⟩⟩
      ·omega
      ·exact sB
      ·rw [hk1,tu _ _ hjt];exact mS
     ·have e:j=k:=by omega
      subst e;have htk:(bk st j).take j=bk st j:=JF (by omega);rw [htk];have hd33:=qo (bk st j) fun p hp=>(hok p (jP hp)).2;repeat' (first|refine sT ?_|refine sM fun _=>?_|(refine sC ?_ ?_<;>intro hb<;>try omega)|fail)
      ·refine bB (.inl rfl) Tryz.results197 rfl (.drop .hd (.drop .hd (.drop .hd (.refl _)))) ?_;rw [hrest,if_pos (by omega)];exact ⟨rfl,hinv⟩
      rw [if_neg (by omega)] at hrest;refine tV (.tl (.tl .hd)) (st.length - j) (by omega) ?_;refine rT 10 rfl (by kernel_rfl) ?_;((with_reducible apply bU (i:=0));exact rfl;exact rfl;(iterate 3 decide+kernel);exact nP;(intro _ _;exact vP));((with_reducible apply bU (i:=1));exact rfl;exact rfl;(iterate 3 decide+kernel);exact nP;(intro _ _;exact vP));((with_reducible apply bU (i:=2));exact rfl;exact rfl;(iterate 3 decide+kernel);exact nP;(intro _ _;exact vP));((with_reducible apply bU (i:=3));exact rfl;exact rfl;(iterate 3 decide+kernel);exact nP;(intro _ _;exact vP));((with_reducible apply bU (i:=4));exact rfl;exact rfl;(iterate 3 decide+kernel);exact nP;(intro _ _;exact vP));((with_reducible apply bU (i:=5));exact rfl;exact rfl;(iterate 3 decide+kernel);exact nP;(intro _ _;exact vP));repeat' (first|(apply dQ (i:=6);exact rfl;decide+kernel)|(apply dQ (i:=7);exact rfl;decide+kernel)|(apply dQ (i:=8);exact rfl;decide+kernel)|(apply dQ (i:=9);exact rfl;decide+kernel)|(apply rR;decide+kernel)|(apply gS;(iterate 3 exact rfl);(repeat first|exact .hd|apply Sel.tl|apply In.tl);(intro w hm;exact hm.cells_own (by (repeat first|exact .hd|apply Sel.tl|apply In.tl)));exact rfl;(simp [Value.oneCell',sl]);omega;(simp only [maxLen];omega);(intro A' cap' hA'))|refine sT ?_|refine sM fun _=>?_|(refine sC ?_ ?_<;>intro hb<;>try omega)|fail)
      have hcont:(st.flatMap mC).take ((st.length - j)*3)++ [.int .i64 (i:Int),.int .i64 (bR (bk st j):Int),.bool (decide (n.kind=3))]=(st.take (st.length - j)++ [(⟨i,bR (bk st j),decide (n.kind=3)⟩:Pt)]).flatMap mC:=by
       rw [qZ jH,Jk];rfl
      have hvis:=hV vs ((bk st j).map Pt.root) (bR (bk st j)) A2 cap2 Hv [.own A' 320 3 (st.length - j+1) cap' ((st.take (st.length - j)++ [(⟨i,bR (bk st j),decide (n.kind=3)⟩:Pt)]).flatMap mC)] hinv (by rw [II];omega) (by omega) (by intro q hq;obtain ⟨p,hp,rfl⟩:=IM.1 hq;rw [hvl];exact (hok p (jP hp)).1);simp only [II,htl,hvl,JM] at hvis;rw [hcont];(with_reducible apply fP)
      ·exact rfl
      ·exact rfl
      ·infer_instance
      ·exact rfl
      ·refine hvis.msub ?_;refine MSub.pick (T:=_) pK (MSub.snoc pK ?_);exact mS
      rintro v H' ⟨H1,hI1,hM1⟩;repeat' (first|(apply ai;exact rfl;apply jN;exact rfl;exact rfl;(simp only [maxLen];omega))|refine sT ?_|refine sM fun _=>?_|(refine sC ?_ ?_<;>intro hb<;>try omega)|fail)
      refine ⟨i+1,_,_,?_,?_,?_,⟨st.take (st.length - j)++ [(⟨i,bR (bk st j),decide (n.kind=3)⟩:Pt)],vs++ [((bk st j).map Pt.root,bR (bk st j))],A',cap',H1,rfl,rfl,⟨?_,?_,?_,?_,?_,?_⟩⟩⟩
      ·omega
      ·have e1:(st.take (st.length - j)++ [(⟨i,bR (bk st j),decide (n.kind=3)⟩:Pt)]).length=st.length - j+1:=by simp
       rw [e1];exact sB
      ·have e1:(st.take (st.length - j)++ [(⟨i,bR (bk st j),decide (n.kind=3)⟩:Pt)]).length=st.length - j+1:=by simp
       rw [e1];exact hM1.rot
      ·omega
      ·simp [hvl]
      ·exact hI1
      ·exact hrest
      ·intro p hp;rcases IL.1 hp with hp|hp
       ·exact ⟨Nat.lt_succ_of_lt (hok p (J6 hp)).1,(hok p (J6 hp)).2⟩
       ·have e:p=⟨i,bR (bk st j),decide (n.kind=3)⟩:=by simpa using hp
        subst e;exact ⟨Kd i,by show bR (bk st j)≤32;omega⟩
      ·simp;omega
   ·have hfie: ∀ w,aC Tryz.prog 251 [.agg (dO n).toArray] w (.int .i64 (bX n)):=fun w=>ra n w;rw [if_pos hfe] at hrest;repeat' (first|(apply ai;exact rfl;apply aa;exact rfl;exact rfl;exact hlt)|(apply ai;exact rfl;apply bZ;exact rfl;exact hrn;exact rfl)|(apply ag;exact rfl;exact rfl;(intro w hm;exact hfie w))|refine sT ?_|refine sM fun _=>?_|(refine sC ?_ ?_<;>intro hb<;>try omega)|fail)
    refine bB (.inl rfl) Tryz.results197 rfl (.drop .hd (.drop .hd (.refl _))) ?_;rw [hrest];exact ⟨rfl,hinv⟩
  ·have e:i=L.length:=by omega
   subst e;rw [JW,gk] at hrest;repeat' (first|refine sT ?_|refine sM fun _=>?_|(refine sC ?_ ?_<;>intro hb<;>try omega)|fail)
   ·refine bB (.inl rfl) Tryz.results197 rfl (.drop .hd (.refl _)) ?_;rw [hrest,if_neg (by omega)];exact ⟨rfl,hinv⟩
   ·refine bB (.inl rfl) Tryz.results197 rfl (.drop .hd (.refl _)) ?_;rw [hrest,if_pos (by omega)];exact ⟨rfl,hinv⟩
end Go.SL
namespace Go.SL
open Go Go.Proofs
attribute [local irreducible] W WL WQ WG WA VOp thn blk aW aJ FnAt FnIn
theorem Dg {c:Int} (h1:48≤c) (h2:c≤57):aQ c=true:=by simp [aQ,h1,h2]
theorem EX {c:Int} (h:c<48):aQ c=false:=by simp [aQ];omega
theorem EY {c:Int} (h:57<c):aQ c=false:=by simp [aQ];omega
set_option maxRecDepth 10000 in
theorem rj (a:ByteArray) (ha:a.size≤1000000) (w:World):aC Tryz.prog 189 [.string a] w (.int .i64 (aM aQ (aq a):Int)):=by
 refine ax Tryz.func189 rfl Tryz.ntmps189 rfl ?_;have hl:=av a;repeat' (first|refine zZD ?_|refine sM fun _=>?_|(refine sC ?_ ?_<;>intro hb<;>try omega)|exact cT|fail)
 refine fc (fun i:Nat=> [(0,.string a),(5,.int .i64 (a.size:Int)),(6,.int .i64 (i:Int))]) (fun _=> []) (fun i=>i≤a.size∧aM aQ (aq a)=i+aM aQ ((aq a).drop i)) (fun i=>a.size - i) 0 ⟨by omega,by simp⟩ sB mS ?_;rintro i ⟨hi,hr⟩;by_cases hlt:i<a.size
 ·have hs1:=bO hlt;rw [hs1] at hr;simp only [aM] at hr;repeat' (first|refine zZF ?_|refine sM fun _=>?_|(refine sC ?_ ?_<;>intro hb<;>try omega)|exact cT|fail)
  ·(refine rT1 ?_);rw [hr,EX hb];simp
  ·(refine rT1 ?_);rw [hr,EY hb];simp
  ·rename_i h1;rw [Dg h1 hb] at hr;exact ⟨i+1,⟨hlt,by rw [hr];simp;omega⟩,by omega,by exact sB,by exact mS⟩
 ·have e:i=a.size:=by omega
  subst e;repeat' (first|refine zZD ?_|refine sM fun _=>?_|(refine sC ?_ ?_<;>intro hb<;>try omega)|exact cT|fail)
  (refine rT1 ?_);rw [hr,I7 (by omega)];simp [aM]
def fq (hi lo:Int) (neg:Bool):Int × Bool:=if hi≠0∨eZ<lo then (0,false) else (if neg then -lo else lo,true)
theorem rG {v:Int} (h1:0≤v) (h2:v≤eZ):IntKind.i64.wrap v=v:=I64.wrap ⟨by omega,by simpa [eZ] using h2⟩
set_option maxRecDepth 10000 in
theorem zF (hi lo:Int) (neg:Bool) (h0:0≤lo) (w:World):aC Tryz.prog 190 [.int .u64 hi,.int .u64 lo,.bool neg] w (.tuple #[.int .i64 (fq hi lo neg).1,.bool (fq hi lo neg).2]):=by
 refine ax Tryz.func190 rfl Tryz.ntmps190 rfl ?_;by_cases hh:hi=0
 ·by_cases hl:lo≤eZ
  ·have hw:=rG h0 hl;have hm:eZ=9223372036854775807:=rfl;have e:fq hi lo neg=(if neg then -lo else lo,true):=by rw [fq,if_neg (by omega)]
   rw [e];subst hh;cases neg
   ·repeat' (first|(apply ai;exact rfl;apply dU;exact rfl;exact hw)|refine sT ?_|refine sM fun _=>?_|(refine sC ?_ ?_<;>intro hb<;>try omega)|exact cT|fail)
    all_goals first|(exfalso;omega)|((refine rT2 ?_);rfl)
   ·repeat' (first|(apply ai;exact rfl;apply dU;exact rfl;exact hw)|(apply ai;exact rfl;apply Hf;exact rfl;exact ⟨by omega,by omega⟩)|refine sT ?_|refine sM fun _=>?_|(refine sC ?_ ?_<;>intro hb<;>try omega)|exact cT|fail)
    all_goals first|(exfalso;omega)|((refine rT2 ?_);rfl)
  ·have hm:eZ=9223372036854775807:=rfl;have e:fq hi lo neg=(0,false):=by rw [fq,if_pos (by omega)]
   rw [e];repeat' (first|refine sT ?_|refine sM fun _=>?_|(refine sC ?_ ?_<;>intro hb<;>try omega)|exact cT|fail)
   all_goals first|(exfalso;omega)|((refine rT2 ?_);rfl)
 ·have e:fq hi lo neg=(0,false):=by rw [fq,if_pos (.inl hh)]
  rw [e];repeat' (first|refine sT ?_|refine sM fun _=>?_|(refine sC ?_ ?_<;>intro hb<;>try omega)|exact cT|fail)
  all_goals first|(exfalso;omega)|((refine rT2 ?_);rfl)
theorem oL (u:Int) (neg:Bool) (h0:0≤u) (h1:u≤eZ) (w:World):aC Tryz.prog 190 [.int .u64 0,.int .u64 u,.bool neg] w (.tuple #[.int .i64 (if neg then -u else u),.bool true]):=by
 have h:=zF 0 u neg h0 w;rwa [fq,if_neg (by omega)] at h
theorem o8: ∀ (l:List Int) (v c:Int),cY (l++ [c]) v=10*cY l v+(c - 48)
 | [],_,_=>rfl
 |d::r,v,c=>by simp only [IE,cY];exact o8 r _ c
theorem lA: ∀ (l:List Int) {v:Int},(∀ c∈l,48≤c)→0≤v→v≤cY l v
 | [],_,_,_=>K5 _
 |c::r,v,h,h0=>by
  have h1:=h c Iu;have:=lA r (v:=10*v+(c - 48)) (fun d hd=>h d (IB _ hd)) (by omega);simp only [cY];omega
theorem sx (l m:List Int) (v:Int):cY (l++m) v=cY m (cY l v):=by
 induction l generalizing v with
 |nil=>rfl
 |cons c l ih=>simp only [IE,cY,ih]
def mF (l0:List Int):Int × Int:=
 let neg:=decide (l0.head? =some 45);let l:=if neg then l0.tail else l0;let n:=aM aQ l;let rest:=l.drop n;let frac:=decide (1<rest.length) && (decide (rest.head? =some 46) && decide (aM aQ rest.tail+1=rest.length));let p5:=(if frac then rest.tail else [])++ [48,48,48,48,48]
 if n=0∨(frac=false∧rest≠ []) then (0,4)
 else
  let v:=cY (l.take n++p5.take 4) 0+(if 53≤p5.getD 4 0 then 1 else 0)
  if eZ<v then (0,3) else (if neg then -v else v,0)
theorem pF (a:ByteArray) (c:Int):((aq a).head? =some c)↔(0<a.size∧bat a 0=c):=by
 by_cases h:0<a.size
 ·have:=bO h;rw [Ki] at this;rw [this];simp [h]
 ·have:aq a= []:=by rw [← JX,av];omega
  rw [this];simp;omega
set_option maxRecDepth 10000 in
theorem ng (a:ByteArray) (ha:a.size≤1000000) (w:World):aC Tryz.prog 143 [.string a] w (.tuple #[.int .i64 (mF (aq a)).1,.int .i64 (mF (aq a)).2]):=by
 refine ax Tryz.func143 rfl Tryz.ntmps143 rfl ?_;have hl:=av a;generalize hneg:decide ((aq a).head? =some 45)=neg;generalize hls:(if neg then (aq a).tail else aq a)=ls;have hb0:=pF a 45;repeat' (first|(refine od (id:=1) (ι:=Bool) (fun b=> [(0,.string a),(4,.bool b)]) (fun _=> []) (fun b=>neg=b) ?_ ?_)|refine zZD ?_|refine sM fun _=>?_|(refine sC ?_ ?_<;>intro hb<;>try omega)|exact cT|fail)
 ·(apply dr;rotate_left 1;exact sB;exact mS);rw [← hneg,decide_eq_decide,hb0];simp;omega
 ·(apply dr;rotate_left 1;exact sB;exact mS);rw [← hneg,decide_eq_false_iff_not,hb0];omega
 rintro _ rfl;repeat' (first|(refine FO (id:=2) (ι:=ByteArray) (fun b=> [(0,.string b),(4,.bool neg)]) (fun _=> []) (fun b=>aq b=ls∧b.size≤a.size) ?_ ?_)|refine zZD ?_|refine sM fun _=>?_|(refine sC ?_ ?_<;>intro hb<;>try omega)|exact cT|fail)
 ·have h1:0<a.size:=(hb0.1 (of_decide_eq_true (hneg.trans hb))).1;repeat' (first|refine zZD ?_|refine sM fun _=>?_|(refine sC ?_ ?_<;>intro hb<;>try omega)|exact cT|fail)
  (apply dr;rotate_left 1;exact sB;exact mS);rw [← hls,hb,jW,ck _ (IK _)];simp
 ·(apply dr;rotate_left 1;exact sB;exact mS);rw [← hls,hb];simp
 rintro b ⟨hbl,hbs⟩;have hlb:=av b;rw [hbl] at hlb;have hdl:=cX aQ ls;generalize hn:aM aQ ls=n at hdl;generalize hrest:ls.drop n=rest;generalize hfr:(decide (1<rest.length) && (decide (rest.head? =some 46) && decide (aM aQ rest.tail+1=rest.length)))=fr;have hcd:=rj b (by omega);rw [hbl,hn] at hcd;have hb1:=pF (sub b n b.size) 46;have hs1:=ck b (lo:=n) (IK b.size);have hr1:aq (sub b n b.size)=rest:=by rw [jW,hbl,hrest]
 generalize hz:sub b n b.size=z at hb1 hs1 hr1;have hrl:rest.length=z.size:=by rw [← hr1,av]
 have e1:aq (sub z 1 z.size)=rest.tail:=by rw [jW,hr1,List.drop_one]
 rw [hr1] at hb1;have hcd2:=fun h=>rj (sub z 1 z.size) h;repeat' (first|(refine od (id:=7) (ι:=Bool) (fun x=> [(4,.bool neg),(5,.int .i64 (n:Int)),(6,.string (sub b 0 n)),(7,.string z),(8,.string aA),(50,.bool x)]) (fun _=> []) (fun x=>fr=x) ?_ ?_)|(apply ag;exact rfl;exact rfl;(intro w hm;exact hcd w))|(apply ag;exact rfl;exact rfl;(intro w hm;exact hcd2 (by rw [ck _ (IK _)];omega) w))|(rw [hz])|refine sT ?_|refine sQ ?_|refine sT2 ?_|refine sQ2 ?_|refine sN ?_|refine sNQ ?_|refine sD ?_|refine sM fun _=>?_|(refine sC ?_ ?_<;>intro hb<;>try omega)|(refine sCQ ?_ ?_<;>intro hb<;>try omega)|exact cT|fail)
 ·(apply dr;rotate_left 1;exact sB;exact mS);rename_i h1;rw [e1,← hfr,decide_eq_true (by omega:1<rest.length),decide_eq_true (hb1.2 ⟨by omega,hb⟩)];simp only [Bool.true_and,decide_eq_decide];omega
 ·(apply dr;rotate_left 1;exact sB;exact mS);rw [← hfr,decide_eq_false (fun h=>hb (hb1.1 h).2)];simp
 ·(apply dr;rotate_left 1;exact sB;exact mS);rw [← hfr,decide_eq_false (by omega)]
  rfl
 rintro _ rfl;have hf1:fr=true→1≤z.size:=fun h=>by
  rw [← hfr] at h;simp at h;omega
 have hf2:fr=false→((z=aA)↔rest= []):=fun _=>by rw [← CR,hr1]
 have hbl2:b.size≤1000000:=by omega
 refine og (ι:=ByteArray × ByteArray) (fun x=> [(4,.bool neg),(5,.int .i64 (n:Int)),(6,.string (sub b 0 n)),(7,.string x.1),(8,.string x.2)]) (fun _=> []) (fun x=>aq x.2=(if fr then rest.tail else [])∧((x.1=aA)↔(fr=true∨rest= []))∧x.2.size≤a.size) ?_ ?_
 ·cases fr
  ·repeat' (first|refine zZD ?_|refine sM fun _=>?_|(refine sC ?_ ?_<;>intro hb<;>try omega)|exact cT|fail)
   refine dr ((z,aA)) ?_ sB mS;exact ⟨rfl,by rw [hf2 rfl];simp,Iw _⟩
  ·have h1:=hf1 rfl;repeat' (first|refine zZD ?_|refine sM fun _=>?_|(refine sC ?_ ?_<;>intro hb<;>try omega)|exact cT|fail)
   refine dr ((aA,sub z 1 z.size)) ?_ sB mS;exact ⟨by rw [e1];rfl,by simp [aA],by rw [ck _ (IK _)];omega⟩
 rintro ⟨z',pl⟩ ⟨h1,h2,h3⟩;dsimp only at*;generalize hp5:(if fr then rest.tail else [])++ [48,48,48,48,48]=p5;have hpl:aq (pl++⟨#[48,48,48,48,48]⟩)=p5:=by rw [m4,h1,← hp5];rfl
 have hpz:(pl++⟨#[48,48,48,48,48]⟩:ByteArray).size=pl.size+5:=by rw [ByteArray.size_append];rfl
 generalize hqd:(pl++⟨#[48,48,48,48,48]⟩:ByteArray)=q at hpl hpz;have hres:mF (aq a)=if n=0∨(fr=false∧rest≠ []) then (0,4) else if eZ<cY (ls.take n++p5.take 4) 0+(if 53≤p5.getD 4 0 then 1 else 0) then (0,3) else (if neg then -(cY (ls.take n++p5.take 4) 0+(if 53≤p5.getD 4 0 then 1 else 0)) else cY (ls.take n++p5.take 4) 0+(if 53≤p5.getD 4 0 then 1 else 0),0):=by
  unfold mF;rw [hneg];dsimp only;rw [hls,hn,hrest,hfr,hp5]
 rw [hres];by_cases herr:n=0∨(fr=false∧rest≠ [])
 ·rw [if_pos herr];repeat' (first|refine zZD ?_|refine sM fun _=>?_|(refine sC ?_ ?_<;>intro hb<;>try omega)|exact cT|fail)
  ·(refine rT2 ?_)
   rfl
  ·(refine rT2 ?_)
   rfl
  ·exfalso;have hz' :z' =aA:=Decidable.not_not.1 hb;have:=h2.1 hz';rcases herr with h|⟨h,h'⟩
   ·omega
   ·rcases this with h4|h4
    ·rw [h] at h4;cases h4
    ·exact h' h4
 ·rw [if_neg herr];generalize hL:ls.take n++p5.take 4=L;have hp5l:p5.length=pl.size+5:=by rw [← hpl,av,hpz]
  have hy:aq (sub b 0 n++sub q 0 4)=L:=by rw [m4,sL,sL,hbl,hpl,hL]
  have hyz:(sub b 0 n++sub q 0 4:ByteArray).size=n+4:=by rw [ByteArray.size_append,ck _ (by omega),ck _ (by omega)];omega
  generalize hyd:(sub b 0 n++sub q 0 4:ByteArray)=y at hy hyz;have hyl:L.length=y.size:=by rw [← hy,av]
  have hdig: ∀ c∈L,48≤c∧c≤57:=by
   have hall: ∀ (l:List Int) (c:Int),c∈l.take (aM aQ l)→48≤c∧c≤57:=fun l c hc=>by
    obtain ⟨j,hj,rfl⟩:=JZ hc;simp only [Jl] at hj;have h:=uH (p:=aQ) l j (l[j]'(by omega)) (by omega) (Ir _);simp only [List.getElem_take];simpa [aQ] using h
   intro c hc;rw [← hL] at hc;rcases IL.1 hc with hc|hc
   ·rw [← hn] at hc;exact hall ls c hc
   ·have hc:=J6 hc;rw [← hp5] at hc;rcases IL.1 hc with hc|hc
    ·cases hc1:fr
     ·rw [hc1] at hc;cases hc
     ·rw [hc1] at hc;simp only [if_true] at hc;have h7:aM aQ rest.tail=rest.tail.length:=by
       rw [hc1] at hfr;simp only [IX,decide_eq_true_eq] at hfr;rw [List.length_tail];omega
      have:=hall rest.tail c (by rw [h7,I5];exact hc);exact this
    ·simp at hc;omega
  have hq4:bat q 4=p5.getD 4 0:=by rw [bat,hpl]
  have hm0:eZ=9223372036854775807:=rfl;repeat' (first|(apply ai (d:=60);exact rfl;apply qG;exact rfl;exact rfl;exact hqd;(show pl.size+5≤_;omega))|(apply ai (d:=64);exact rfl;apply qG;exact rfl;exact rfl;exact hyd;(rw [ck _ (by omega),ck _ (by omega)];omega))|(apply kF;exact rfl;exact rfl;intro gb cap)|refine zZD ?_|refine sM fun _=>?_|(refine sC ?_ ?_<;>intro hb<;>try omega)|exact cT|fail)
  ·exfalso;refine herr (.inr ?_);have h4: ¬ (fr=true∨rest= []):=fun h=>hb (h2.2 h);cases hc:fr
   ·exact ⟨rfl,fun h=>h4 (.inr h)⟩
   ·exact absurd (.inl hc) h4
  have hup: ∀ i,i≤L.length→eZ<cY (L.take i) 0→eZ<cY L 0:=fun i hi h=>by
   have e:L=L.take i++L.drop i:=(Jr i L).symm;rw [e,sx];have h0:0≤cY (L.take i) 0:=lA _ (fun c hc=>(hdig c (J6 hc)).1) (K5 _);have:=lA (L.drop i) (v:=cY (L.take i) 0) (fun c hc=>(hdig c (KP hc)).1) h0;omega
  refine aB [4,8,65,66] rfl (fun x:Nat × Int × Bool=> [(9,.int .u64 x.2.1),(10,.bool x.2.2),(67,.int .i64 (x.1:Int))]) (fun _=> [.byt gb 5 y.size cap (jJ y)]) (fun x=>x.1≤L.length∧0≤x.2.1∧x.2.1<18446744073709551616∧(x.2.2=false→x.2.1=cY (L.take x.1) 0∧x.2.1≤eZ)∧(x.2.2=true→eZ<cY (L.take x.1) 0)) (fun x=>L.length - x.1) (0,0,false) ⟨Iw _,K5 _,by decide,fun _=>⟨rfl,by decide⟩,fun h=>by cases h⟩ sB mS ?_;rintro ⟨i,v,gr⟩ ⟨hi,hv0,hv1,hg0,hg1⟩;dsimp only at hi hv0 hv1 hg0 hg1 ⊢;by_cases hlt:i<L.length
  ·have hiy:i<y.size:=by omega
   have hge:L[i]? =some L[i]:=Ir hlt;have hci:=hdig L[i] (IZ hlt);have hsn:cY (L.take (i+1)) 0=10*cY (L.take i) 0+(L[i] - 48):=by rw [IA hlt,o8]
   generalize L[i]=c at hge hci hsn;have hget:(jJ y)[0+i*1]? =some (.int .u8 c):=by rw [mK,hy,Iy,show 0+i*1=i by omega,hge];rfl
   have hwc:IntKind.u8.wrap (c - 48)=c - 48:=jK (by omega) (by omega);have hwc2:IntKind.u64.wrap (c - 48)=c - 48:=by simp [IntKind.wrap,IntKind.bits,IntKind.signed];omega
   obtain ⟨v',hadd,hv2,hv3,hv4⟩: ∃ v',IntKind.u64.wrap (IntKind.u64.wrap (10*v)+(c - 48))=v' ∧0≤v' ∧v' <18446744073709551616∧(v≤922337203685477580→v' =10*v+(c - 48)):=by
    refine ⟨_,rfl,?_⟩;simp only [IntKind.wrap,IntKind.bits,IntKind.signed];simp;omega
   have hn0:0≤cY (L.take i) 0:=lA _ (fun c hc=>(hdig c (J6 hc)).1) (K5 _);cases gr
   ·obtain ⟨hg2,hg3⟩:=hg0 rfl;repeat' (first|(apply ai;exact rfl;apply aa;exact rfl;exact rfl;exact hiy)|(apply ai;exact rfl;apply iS;exact rfl;exact .hd;exact hget)|(apply ai (d:=74);exact rfl;apply BI;exact rfl;exact rfl)|(apply ai (d:=76);exact rfl;apply gT;exact rfl;exact rfl;exact hwc)|(apply ai (d:=77);exact rfl;apply dU;exact rfl;exact hwc2)|(apply ai (d:=78);exact rfl;apply eJ;exact rfl;exact rfl;exact hadd)|refine zZF ?_|refine sM fun _=>?_|(refine sC ?_ ?_<;>intro hb<;>try omega)|exact cT|fail)
    ·refine ⟨(i+1,v',true),?_,(by first|omega|(dsimp only;omega)),sB,sB,mS⟩;exact ⟨hlt,hv2,hv3,(fun h=>by cases h),fun _=>by dsimp only;omega⟩
    ·have h5:=hv4 (by omega);refine ⟨(i+1,v',decide (eZ<v')),⟨hlt,hv2,hv3,fun h=> ?_,fun h=> ?_⟩,(by dsimp only;omega),sB,sB,mS⟩
     ·have h6:=of_decide_eq_false h;exact ⟨by dsimp only;omega,by dsimp only;omega⟩
     ·have h6:=of_decide_eq_true h;dsimp only;omega
   ·have hg2:=hg1 rfl;repeat' (first|(apply ai;exact rfl;apply aa;exact rfl;exact rfl;exact hiy)|(apply ai;exact rfl;apply iS;exact rfl;exact .hd;exact hget)|(apply ai (d:=74);exact rfl;apply BI;exact rfl;exact rfl)|(apply ai (d:=76);exact rfl;apply gT;exact rfl;exact rfl;exact hwc)|(apply ai (d:=77);exact rfl;apply dU;exact rfl;exact hwc2)|(apply ai (d:=78);exact rfl;apply eJ;exact rfl;exact rfl;exact hadd)|refine zZF ?_|refine sM fun _=>?_|(refine sC ?_ ?_<;>intro hb<;>try omega)|exact cT|fail)
    all_goals
     refine ⟨(i+1,v',true),?_,(by first|omega|(dsimp only;omega)),sB,sB,mS⟩;exact ⟨hlt,hv2,hv3,(fun h=>by cases h),fun _=>by dsimp only;omega⟩
  ·have e:i=L.length:=by omega
   subst e;rw [JF (IK _)] at hg0 hg1;generalize cY L 0=N at hg0 hg1 hup ⊢;have hadd:v≤eZ→IntKind.u64.wrap (v+1)=v+1:=fun h=>by simp [IntKind.wrap,IntKind.bits,IntKind.signed];omega
   by_cases h5:53≤p5.getD 4 0
   ·rw [if_pos h5];cases gr
    ·obtain ⟨hg2,hg3⟩:=hg0 rfl;subst hg2;by_cases h6:eZ<v+1
     ·rw [if_pos h6];repeat' (first|(apply ai (d:=89);exact rfl;apply eJ;exact rfl;exact rfl;exact hadd hg3)|refine zZD ?_|refine sM fun _=>?_|(refine sC ?_ ?_<;>intro hb<;>try omega)|exact cT|fail)
      all_goals first|(exfalso;omega)|((refine rT2 ?_);rfl)
     ·rw [if_neg h6];repeat' (first|(apply ai (d:=89);exact rfl;apply eJ;exact rfl;exact rfl;exact hadd hg3)|(apply ag;exact rfl;exact rfl;(intro w' hm;exact (oL (v+1) neg (by omega) (by omega) w')))|refine zZD ?_|refine sM fun _=>?_|(refine sC ?_ ?_<;>intro hb<;>try omega)|exact cT|fail)
      all_goals first|(exfalso;omega)|((refine rT2 ?_);rfl)
    ·rw [if_pos (by have:=hg1 rfl;omega)];obtain ⟨u,hu⟩: ∃ u,IntKind.u64.wrap (v+1)=u:=⟨_,rfl⟩;repeat' (first|(apply ai (d:=89);exact rfl;apply eJ;exact rfl;exact rfl;exact hu)|refine zZD ?_|refine sM fun _=>?_|(refine sC ?_ ?_<;>intro hb<;>try omega)|exact cT|fail)
     all_goals first|(exfalso;omega)|((refine rT2 ?_);rfl)
   ·rw [if_neg h5,Int.add_zero];cases gr
    ·obtain ⟨hg2,hg3⟩:=hg0 rfl;subst hg2;rw [if_neg (by omega)];repeat' (first|(apply ag;exact rfl;exact rfl;(intro w' hm;exact (oL v neg (by omega) hg3 w')))|refine zZD ?_|refine sM fun _=>?_|(refine sC ?_ ?_<;>intro hb<;>try omega)|exact cT|fail)
     all_goals first|(exfalso;omega)|((refine rT2 ?_);rfl)
    ·rw [if_pos (hg1 rfl)];repeat' (first|refine zZD ?_|refine sM fun _=>?_|(refine sC ?_ ?_<;>intro hb<;>try omega)|exact cT|fail)
     all_goals first|(exfalso;omega)|((refine rT2 ?_);rfl)
end Go.SL
namespace Go.SL
open Go Go.Proofs
attribute [local irreducible] W WL WQ WG WA VOp thn blk aJ FnAt FnIn
def kS (L:List Nd) (wide:Bool):Int × List kD:=
 if 256<L.length then (5,[]) else if L.length=0 then (4,[])
 else if (gk L L 0 [] []).1≠0 then gk L L 0 [] []
 else if wide=false∧mo L (L.length - 1)=3 then (4,(gk L L 0 [] []).2) else (0,(gk L L 0 [] []).2)
theorem Dq (L:List Nd) (wide:Bool) (tv:Value) (w0:World) (ht:Reads w0 tv L.length (L.flatMap dO)) (f:FuncId) [hf:Callable Tryz.prog f] (caps:List Value) (Inv:List kD→List Blk→Prop) (hV:xZ L.length w0 f caps Inv)
 (H:List Blk) (hI:Inv [] H):FnIn Tryz.prog 150 [tv,.bool wide,.func (.func f) #[] caps.toArray] w0 H fun v H' =>v= .int .i64 (kS L wide).1∧Inv (kS L wide).2 H' :=by
 have ht' :=ht;obtain ⟨At,ct,rfl,ht1,ht2,ht3⟩:=ht;refine cd Tryz.func150 rfl Tryz.ntmps150 rfl ?_;by_cases h256:256<L.length
 ·repeat' (first|refine sT ?_|refine sM fun _=>?_|(refine sC ?_ ?_<;>intro hb<;>try omega)|fail)
  refine bB (.inl rfl) Tryz.results150 rfl (.refl _) ?_;rw [kS,if_pos h256];exact ⟨rfl,hI⟩
 by_cases h0:L.length=0
 ·repeat' (first|refine sT ?_|refine sM fun _=>?_|(refine sC ?_ ?_<;>intro hb<;>try omega)|fail)
  refine bB (.inl rfl) Tryz.results150 rfl (.refl _) ?_;rw [kS,if_neg h256,if_pos h0];exact ⟨rfl,hI⟩
 obtain ⟨gt,ot,rfl,hrt⟩:=ht3 (by omega);have hw:=zj L (by omega) (by omega) _ w0 ht' f caps Inv hV H hI;have hrl:=hrt.elem gh (L.length - 1) (by omega);have hk:mo L (L.length - 1)=(L[L.length - 1]'(by omega)).kind:=py _;simp only [kS,if_neg h256,if_neg h0,hk];generalize gk L L 0 [] []=r at hw;generalize (L[L.length - 1]'(by omega))=nl at hrl;repeat' (first|(apply ap;exact rfl;exact rfl;exact hw;(rintro v H' ⟨rfl,hI'⟩))|(apply ai;exact rfl;apply fp;exact rfl;exact rfl;omega;omega)|(apply ai;exact rfl;apply aa;exact rfl;exact rfl;omega)|(apply ai;exact rfl;apply iR (off:=0);exact rfl;exact hrl;exact rfl)|refine sT ?_|refine sM fun _=>?_|(refine sC ?_ ?_<;>intro hb<;>try omega)|fail)
 all_goals refine bB (.inl rfl) Tryz.results150 rfl (.refl _) ?_
 all_goals simp_all
theorem oh (N:Nat) (w0:World) (H0:List Blk):xZ N w0 151 [] fun _ H=>H=H0:=by
 rintro vs kids d A cap _ F rfl _ _ _;refine cd Tryz.func151 rfl Tryz.ntmps151 rfl ?_;repeat' (first|refine sT ?_|refine sM fun _=>?_|(refine sC ?_ ?_<;>intro hb<;>try omega)|fail)
 refine gN (.inr rfl) Tryz.results151 (.drop .hd (.refl _)) ⟨_,rfl,.refl _⟩
def eR (L:List Nd):Int:=(kS L false).1
theorem wA (L:List Nd) (tv:Value) (w:World) (ht:Reads w tv L.length (L.flatMap dO)):aC Tryz.prog 92 [tv] w (.int .i64 (eR L)):=by
 have ht' :=ht;obtain ⟨At,ct,rfl,ht1,ht2,ht3⟩:=ht;refine ax Tryz.func92 rfl Tryz.ntmps92 rfl ?_;have hw:=Dq L false _ w ht' 151 [] (fun _ H=>H= []) (oh _ w []) [] rfl;repeat' (first|(apply ap;exact rfl;exact rfl;exact hw;(rintro v H' ⟨rfl,rfl⟩))|refine sT ?_|refine sM fun _=>?_|(refine sC ?_ ?_<;>intro hb<;>try omega)|fail)
 (refine rT1 ?_)
 rfl
end Go.SL
namespace Go.SL
open Go Go.Proofs
attribute [local irreducible] W WL WQ WG WA VOp thn blk aW aJ FnAt FnIn GV
theorem kY (L:List Nd): ∀ (r:List Nd) (i:Nat) (st:List Pt) (vs:List kD),(gk L r i st vs).1=0→ ∀ n∈r,bX n=0
 | [],_,_,_=>fun _ _ h=>by cases h
 |n::r,i,st,vs=>by
  intro h;rw [gk] at h;have hn:bX n=0:=by
   by_cases hf:bX n=0
   ·exact hf
   ·unfold uy at h;rw [if_pos hf] at h;exact h
  cases hs:uy L n i st with
  |inl e=>
   rw [hs] at h;dsimp only at h;unfold uy at hs;rw [if_neg (by omega)] at hs;split at hs
   ·injection hs with hs;omega
   ·split at hs
    ·injection hs with hs;omega
    ·cases hs
  |inr y=>
   obtain ⟨st',kids,d⟩:=y;rw [hs] at h;intro m hm;rcases IP.1 hm with rfl|hm
   ·exact hn
   ·exact kY L r _ _ _ h m hm
theorem tB {L:List Nd} (h:eR L=0): ∀ n∈L,bX n=0:=by
 refine kY L L 0 [] [] ?_;unfold eR kS at h;split at h
 ·cases h
 split at h
 ·cases h
 split at h
 ·rename_i h3;exact absurd h h3
 ·rename_i h3;omega
theorem vL {n:Nd} (h:bX n=0) (hr:fw n=true):dC n.rect=true:=by
 unfold bX at h;split at h
 ·cases h
 rename_i hk;have hk1:jB n=true:=by
  cases hh:jB n
  ·exact absurd (Or.inl hh) hk
  ·rfl
 simp only [fw,Ka,decide_eq_true_eq] at hr;unfold jB at hk1;rw [if_neg (by omega),if_pos hr] at hk1;simp only [IX,decide_eq_true_eq] at hk1;have h1:=hk1.1;unfold oT at h1;cases hq:dC n.rect
 ·rw [hq] at h1;cases h1
 ·rfl
theorem ry {α:Type} {f g:α→Bool}: ∀ {L:List α},(∀ x∈L,f x=g x)→L.any f=L.any g
 | [],_=>rfl
 |x::r,h=>by rw [List.any_cons,List.any_cons,h x Iu,ry fun y hy=>h y (IB _ hy)]
end Go.SL
namespace Go.SL
open Go Go.Proofs
attribute [local irreducible] W WL WQ WG WA VOp thn blk aW aJ FnAt FnIn WLI WR WT bg rr lR oQ
theorem BQ (A:Option Addr) (m c:Nat) (w:World):FnAt Tryz.prog 93 [.slice A m c] w fun v H=> ∃ g,v= .func (.func 152) #[] #[.pointer (some ⟨g,0,none⟩)]∧H= [.box g 91 [.slice A m c]]:=by
 refine ax Tryz.func93 rfl Tryz.ntmps93 rfl ?_;repeat' (first|refine sT ?_|refine sM fun _=>?_|(refine sC ?_ ?_<;>intro hb<;>try omega)|fail)
 refine bB (.inl rfl) Tryz.results93 rfl (MSub.refl _) ?_;exact ⟨_,rfl,rfl⟩
def oE (L:List Nd):List Us × Int:=if eR L≠0 then ([],eR L) else (cU L,0)
theorem iT: ∀ (L:List Nd) (i:Nat),(cH L i).length≤L.length
 | [],_=>IK _
 |n::r,i=>by
  have:=iT r (i+1);unfold cH;cases fw n<;>simp<;>omega
theorem zu (L:List Nd):(cU L).length≤L.length:=iT L 0
theorem AA {α:Type} (f:α→List Value) (xs:List α) (x:α):(xs++ [x]).flatMap f=xs.flatMap f++f x:=by simp
theorem Fb (L:List Nd) (tv:Value) (w:World) (ht:Reads w tv L.length (L.flatMap dO)) (hlen:L.length≤1000000):
 FnAt Tryz.prog 46 [tv] w fun v H=> ∃ A cap,v= .tuple #[sl A (oE L).1.length cap,.int .i64 (oE L).2]∧H= [.own A 121 6 (oE L).1.length cap ((oE L).1.flatMap fF)]:=by
 have ht' :=ht;obtain ⟨Al,cl,rfl,hl1,hl2,hl3⟩:=ht;refine m6 Tryz.func46 rfl Tryz.ntmps46 (by rfl) ?_;have hck:=fun w0 (hm:Reads w0 (.slice Al L.length cl) L.length (L.flatMap dO))=>wA L _ w0 hm;unfold oE;generalize eR L=e at hck;refine nT ?_;refine aN 121 6 ?_;repeat' (first|(apply ag;exact rfl;exact rfl;(intro w' hm;exact hck w' (ht'.of_w0 hm)))|(apply aH;exact rfl;exact rfl;(intro w' hm;exact BQ _ _ _ w');(rintro v H' ⟨gu,rfl,rfl⟩))|refine sT ?_|refine sR ?_|refine sM fun _=>?_|(refine sC ?_ ?_<;>intro hb<;>try omega)|(refine sCR ?_ ?_<;>intro hb<;>try omega)|fail)
 ·refine ET ?_;refine eX (.inl rfl) Tryz.results46 rfl rfl (H' := [.own none 121 6 0 0 []]) mS ⟨none,0,?_⟩;rw [if_pos hb];exact ⟨rfl,rfl⟩
 rename_i gb;rw [if_neg hb];have hul:=zu L
 refine tL (ps:= [14]) (us:=cU L) (encs:=fun u=> [.agg (fF u).toArray]) (Hc:= [.box gu 91 [.slice Al L.length cl]]) (HU0:= [.box gb 96 [.slice none 0 0],.own none 121 6 0 0 []]) rfl (fun _=>rfl) rfl (BP L _ w ht' hlen gu)
  (fun pre HU=> ∃ A cap,HU= [.box gb 96 [sl A pre.length cap],.own A 121 6 pre.length cap (pre.flatMap fF)]) (fun _=>False) ?_ ⟨none,0,rfl⟩ ?_ ?_ ?_
 ·exact mS
 ·rintro l pre u post hus _ ⟨A,cap,rfl⟩ F F';have hlu:=congrArg List.length hus;simp only [Iv,IU] at hlu;change WR _ _ _ l _ _ ((14,Value.agg (fF u).toArray)::_) (.box gb 96 [sl A pre.length cap]:: .own A 121 6 pre.length cap (pre.flatMap fF)::F);repeat' (first|refine sT ?_|refine sR ?_|refine sM fun _=>?_|(refine sC ?_ ?_<;>intro hb<;>try omega)|(refine sCR ?_ ?_<;>intro hb<;>try omega)|fail)
  rename_i g6;refine wh ⟨[.box g6 121 (fF u),.box gb 96 [sl A pre.length cap],.own A 121 6 pre.length cap (pre.flatMap fF)],MSub.refl _,?_⟩;change WR _ _ _ l _ _ _ (.box g6 121 (fF u):: .box gb 96 [sl A pre.length cap]:: .own A 121 6 pre.length cap (pre.flatMap fF)::F');repeat' (first|(apply gS;(iterate 3 exact rfl);(repeat first|exact .hd|apply Sel.tl|apply In.tl);(intro w hm;exact hm.cells_own (by (repeat first|exact .hd|apply Sel.tl|apply In.tl)));exact rfl;(simp [Value.oneCell',sl]);omega;(simp only [maxLen];omega);(intro A' cap' hA'))|refine sT ?_|refine sR ?_|refine sM fun _=>?_|(refine sC ?_ ?_<;>intro hb<;>try omega)|(refine sCR ?_ ?_<;>intro hb<;>try omega)|fail)
  refine yA [.box gb 96 [sl A' (pre.length+1) cap'],.own A' 121 6 (pre.length+1) cap' (pre.flatMap fF++fF u)] ?_ ⟨A',cap',?_⟩
  ·change MSub (_::_::F') _;exact mS
  ·rw [AA,Iv]
   rfl
 ·rintro D _ ⟨A,cap,rfl⟩;change bg _ _ _ _ _ (fG D:: .box gb 96 [sl A (cU L).length cap]:: .own A 121 6 (cU L).length cap ((cU L).flatMap fF)::_);repeat' (first|refine sT ?_|refine sR ?_|refine sM fun _=>?_|(refine sC ?_ ?_<;>intro hb<;>try omega)|(refine sCR ?_ ?_<;>intro hb<;>try omega)|fail)
  refine vT .hd ?_;refine eX (.inl rfl) Tryz.results46 rfl rfl (H' := [.own A 121 6 (cU L).length cap ((cU L).flatMap fF)]) mS ⟨A,cap,rfl,rfl⟩
 ·rintro D HU h;exact h.elim
def rel (u:Us):Bool:=decide (0≤u.node)
end Go.SL
namespace Go.SL
open Go Go.Proofs
attribute [local irreducible] W WL WQ WG WA VOp thn blk aW scp aJ FnAt FnIn
set_option maxRecDepth 10000 in
theorem vZ (f:FuncId) [Callable Tryz.prog f] (caps:List Value) (g:Int→Int) (a:ByteArray) (ha:a.size≤1000000) (w:World) (hf: ∀ c w' H,0≤c→c<256→Mem w w' H→aC Tryz.prog f ([.int .u8 c]++caps) w' (.int .u8 (g c))):
 FnAt Tryz.prog 179 [.string a,.func (.func f) #[] caps.toArray] w fun v H=> ∃ gb cap,v= .slice (some ⟨gb,0,none⟩) a.size cap∧H= [.byt gb 5 a.size cap (((aq a).map g).map (Value.int .u8))]:=by
 refine ax Tryz.func179 rfl Tryz.ntmps179 rfl ?_;repeat' (first|(apply kF;exact rfl;exact rfl;intro gb cap)|refine sT ?_|refine sM fun _=>?_|(refine sC ?_ ?_<;>intro hb<;>try omega)|fail)
 refine fc (fun i:Nat=> [(5,.slice (some ⟨gb,0,none⟩) a.size cap),(10,.slice (some ⟨gb,0,none⟩) a.size cap),(11,.int .i64 (a.size:Int)),(12,.int .i64 (i:Int)),(1,.func (.func f) #[] caps.toArray)])
  (fun i=> [.byt gb 5 a.size cap ((((aq a).take i).map g++(aq a).drop i).map (Value.int .u8))]) (fun i=>i≤a.size) (fun i=>a.size - i) 0 (by omega) ?_ ?_ ?_
 ·exact sB
 ·rw [mK];simp only [Kf,Jz,ID,Ki];exact mS
 ·intro i hi;have hl:=av a;by_cases hlt:i<a.size
  ·have hil:i<(aq a).length:=by omega
   have hok:=jV a (aq a)[i] (IZ hil);have hget:((((aq a).take i).map g++(aq a).drop i).map (Value.int .u8))[0+i*1]? =some (.int .u8 (aq a)[i]):=by
    rw [Iy,show 0+i*1=i by omega,Ji (by simp;omega)];simp [Kw (Nat.le_of_lt hil),J3]
   repeat' (first|(apply ai;exact rfl;apply aa;exact rfl;exact rfl;exact hlt)|(apply ai;exact rfl;apply iS;exact rfl;exact .hd;exact hget)|(apply fI;exact rfl;exact rfl;infer_instance;exact rfl;(intro w' hm;exact hf _ w' _ hok.1 hok.2 hm))|(apply kU;exact rfl;exact rfl;exact .hd;exact rfl;(simp;omega))|(apply ai;exact rfl;apply qH;exact rfl;exact rfl;(constructor<;>omega))|refine sT ?_|refine sM fun _=>?_|(refine sC ?_ ?_<;>intro hb<;>try omega)|fail)
   refine ⟨i+1,by omega,by omega,?_,?_⟩
   ·exact sB
   ·rw [show 0+i*1=i by omega,ui g (Value.int .u8) (aq a) i hil];exact mS
  ·have e:i=a.size:=by omega
   subst e;repeat' (first|refine sT ?_|refine sM fun _=>?_|(refine sC ?_ ?_<;>intro hb<;>try omega)|fail)
   refine bB (.inl rfl) rfl rfl (.refl _) ⟨gb,cap,rfl,?_⟩;rw [JF (by omega),I7 (by omega),I3]
set_option maxRecDepth 10000 in
theorem z7 (c:Int) (h0:0≤c) (h1:c<256) (ga gb:Nat) (w:World) (ha:Ro w ga 0 [.int .u8 97]) (hb' :Ro w gb 0 [.int .i64 (-32)]):aC Tryz.prog 272 [.int .u8 c,.pointer (some ⟨ga,0,none⟩),.pointer (some ⟨gb,0,none⟩)] w (.int .u8 (upC c)):=by
 refine ax Tryz.func272 rfl Tryz.ntmps272 rfl ?_;have hwc:IntKind.i64.wrap c=c:=I64.wrap ⟨by omega,by omega⟩;have h122:IntKind.u8.wrap (97+25)=122:=by decide
 repeat' (first|(apply ai;exact rfl;apply aD (off:=0);exact ha;exact rfl;exact rfl)|(apply ai;exact rfl;apply aD (off:=0);exact hb';exact rfl;exact rfl)|(apply ai;exact rfl;apply eJ;exact rfl;exact rfl;exact h122)|(apply ai (d:=15);exact rfl;apply dU;exact rfl;exact hwc)|(apply ai (d:=17);exact rfl;apply qH;exact rfl;exact rfl;exact ⟨by omega,by omega⟩)|(apply ai (d:=18);exact rfl;apply dU (c:=c - 32);exact rfl;(rw [show c+ -32=c - 32 by omega];exact jK (by omega) (by omega)))|refine sT ?_|refine sM fun _=>?_|(refine sC ?_ ?_<;>intro hb<;>try omega)|fail)
 all_goals ((refine rT1 ?_);unfold upC;first|rw [if_pos (by omega)]|rw [if_neg (by omega)])
def upB (a:ByteArray):ByteArray:=mkB ((aq a).map upC)
theorem CQ (a:ByteArray):aq (upB a)=(aq a).map upC:=by
 refine jD ?_;intro c hc;obtain ⟨d,hd,rfl⟩:=IM.1 hc;have:=jV a d hd;unfold upC;split<;>omega
set_option maxRecDepth 10000 in
theorem Cy (a:ByteArray) (ha:a.size≤1000000) (w:World):aC Tryz.prog 234 [.string a,.int .u8 97,.int .i64 (-32)] w (.string (upB a)):=by
 refine ax Tryz.func234 rfl Tryz.ntmps234 rfl ?_;repeat' (first|((with_reducible apply aH (R:=fun v H=> ∃ gb cap,v= .slice (some ⟨gb,0,none⟩) a.size cap∧H= [.byt gb 5 a.size cap (((aq a).map upC).map (Value.int .u8))]));exact rfl;exact rfl;(intro w' hm;exact vZ 272 [_,_] upC a ha w' (fun c w2 H2 h0 h1 hm2=>z7 c h0 h1 _ _ w2 ((Ro.of_box hm pK).next hm2) ((Ro.of_box hm pK).next hm2)));(rintro v H' ⟨gb,cap,rfl,rfl⟩))|(apply ai;exact rfl;apply qE;exact rfl;exact .hd;simp [av])|refine sT ?_|refine sM fun _=>?_|(refine sC ?_ ?_<;>intro hb<;>try omega)|fail)
 (refine rT1 ?_)
 rfl
set_option maxRecDepth 10000 in
theorem lS (a:ByteArray) (ha:a.size≤1000000) (w:World):aC Tryz.prog 188 [.string a] w (.string (upB a)):=by
 refine ax Tryz.func188 rfl Tryz.ntmps188 rfl ?_;repeat' (first|(apply ag;exact rfl;exact rfl;(intro w hm;exact Cy a ha w))|refine sT ?_|refine sM fun _=>?_|(refine sC ?_ ?_<;>intro hb<;>try omega)|fail)
 (refine rT1 ?_)
 rfl
def lZ:List Int→Option (List Int)
 | []=>some []
 |c::r=>if c≠34 then (lZ r).map (c:: ·) else match r with
  | []=>none
  |d::r' =>if d=34 then (lZ r').map (34:: ·) else none
def eW (l:List Int):List Int × Int:=
 if l.length<2∨l.head? ≠some 34∨l.getLast? ≠some 34∨l.all (fun c=>cC c)=false then ([],4)
 else match lZ ((l.drop 1).dropLast) with
  |none=>([],4)
  |some r=>if 256<r.length then ([],5) else (r,0)
theorem mX (a:ByteArray):mb a=(aq a).all fun c=>cC c:=by
 simp only [mb,aq,List.all_map];congr 1;funext c;simp only [Function.comp,cC];rw [Jp];simp;omega
theorem CK (a:ByteArray) (c:Int) (h:0<a.size):((aq a).getLast? =some c)↔bat a (a.size - 1)=c:=by
 rw [List.getLast?_eq_getElem?,av,j6 (by omega)];simp
theorem uj {a:ByteArray} {i:Nat} (h0:1≤i) (h:i<a.size - 1):(((aq a).drop 1).dropLast).drop (i - 1)=bat a i::(((aq a).drop 1).dropLast).drop i:=by
 have hl:=av a;obtain ⟨j,rfl⟩: ∃ j,i=j+1:=⟨i - 1,by omega⟩;rw [KU];have hlen:(((aq a).drop 1).dropLast).length=a.size - 2:=by simp;omega
 have hlt:j<(((aq a).drop 1).dropLast).length:=by omega
 rw [IR hlt];congr 1;have h1:=j6 (a:=a) (i:=j+1) (by omega);have h2:(((aq a).drop 1).dropLast)[j]? =some (bat a (j+1)):=by
  rw [List.getElem?_dropLast,if_pos (by simp;omega),J3,Kl 1 j,h1]
 rw [Ir hlt] at h2;exact Option.some.inj h2
theorem zw {c:Int} {r:List Int} (h:c≠34):lZ (c::r)=(lZ r).map (c:: ·):=by
 rw [lZ.eq_def];simp [h]
theorem x5 (a:ByteArray) (ha:a.size≤1000000) (w:World):aC Tryz.prog 237 [.string a] w (.tuple #[.string (mkB (eW (aq a)).1),.int .i64 (eW (aq a)).2]):=by
 refine ax Tryz.func237 rfl Tryz.ntmps237 rfl ?_;have hl:=av a;have hp:=lr a ha;rw [mX] at hp;have hh:=pF a 34;have hg:=CK a 34;by_cases hbad:(aq a).length<2∨(aq a).head? ≠some 34∨(aq a).getLast? ≠some 34∨(aq a).all (fun c=>cC c)=false
 ·rw [eW,if_pos hbad];repeat' (first|(apply ag;exact rfl;exact rfl;(intro w hm;exact hp w))|refine zZE ?_|refine sM fun _=>?_|(refine sC ?_ ?_<;>intro hb<;>try omega)|fail)
  iterate 4 (focus ((refine rT2 ?_);rfl))
  exfalso;rename_i h1 h2 h3;rcases hbad with h|h|h|h
  ·omega
  ·exact h (hh.2 ⟨by omega,Decidable.not_not.1 h2⟩)
  ·exact h ((hg (by omega)).2 (Decidable.not_not.1 h3))
  ·rw [hb] at h;cases h
 ·have hun:eW (aq a)=match lZ (((aq a).drop 1).dropLast) with
   |none=>([],4)
   |some r=>if 256<r.length then ([],5) else (r,0):=by rw [eW,if_neg hbad]
  rw [hun];simp only [not_or,Decidable.not_not,Bool.not_eq_false] at hbad;obtain ⟨b1,b2,b3,b4⟩:=hbad;have b5:=(hh.1 b2).2;have b6:=(hg (by omega)).1 b3;rw [b4] at hp;have hn:(a.size:Int) - 1=((a.size - 1:Nat):Int):=by omega
  generalize hB:((aq a).drop 1).dropLast=B;have hBl:B.length=a.size - 2:=by rw [← hB];simp;omega
  repeat' (first|(apply ag;exact rfl;exact rfl;(intro w hm;exact hp w))|refine zZE ?_|refine sM fun _=>?_|(refine sC ?_ ?_<;>intro hb<;>try omega)|fail)
  all_goals try (exfalso;omega)
  refine aN 5 1 ?_;refine aB [0,4] rfl (fun x:Nat × List Int × Option Nat × Nat=> [(5,sl x.2.2.1 x.2.1.length x.2.2.2),(6,.int .i64 (x.1:Int))]) (fun x=> [.own x.2.2.1 5 1 x.2.1.length x.2.2.2 (x.2.1.map (Value.int .u8))]) (fun x=>1≤x.1∧x.1≤a.size - 1∧x.2.1.length≤x.1∧lZ B=(lZ (B.drop (x.1 - 1))).map (x.2.1++ ·)) (fun x=>a.size - x.1) (1,[],none,0) ⟨by omega,by omega,by simp,by simp⟩ sB mS ?_;rintro ⟨i,out,A,cap⟩ ⟨i1,i2,i3,i4⟩;dsimp only at i1 i2 i3 i4 ⊢;by_cases hend:i=a.size - 1
  ·have hBd:B.drop (i - 1)= []:=I7 (by omega);rw [hBd] at i4;simp only [lZ,JB,I3] at i4;rw [i4];dsimp only;by_cases hlen:256<out.length
   ·rw [if_pos hlen];repeat' (first|refine zZE ?_|refine sM fun _=>?_|(refine sC ?_ ?_<;>intro hb<;>try omega)|fail)
    all_goals first|(exfalso;omega)|((refine rT2 ?_);rfl)
   ·rw [if_neg hlen];repeat' (first|(apply ai;exact rfl;apply wP;exact rfl;exact pK;exact rfl)|refine zZE ?_|refine sM fun _=>?_|(refine sC ?_ ?_<;>intro hb<;>try omega)|fail)
    all_goals first|(exfalso;omega)|((refine rT2 ?_);rfl)
  ·have hdr:=uj (a:=a) i1 (by omega);rw [hB] at hdr;rw [hdr] at i4;by_cases hq:bat a i=34
   ·rw [hq] at i4;by_cases h1:i+1=a.size - 1
    ·have hBd:B.drop i= []:=I7 (by omega);rw [hBd] at i4;simp only [lZ,ne_eq,not_true_eq_false,if_false,Option.map_none] at i4;rw [i4];repeat' (first|refine zZE ?_|refine sM fun _=>?_|(refine sC ?_ ?_<;>intro hb<;>try omega)|fail)
     all_goals first|(exfalso;omega)|((refine rT2 ?_);rfl)
    ·have hdr2:=uj (a:=a) (i:=i+1) (by omega) (by omega);rw [hB,KU] at hdr2;rw [hdr2] at i4;by_cases h2:bat a (i+1)=34
     ·simp only [lZ,ne_eq,not_true_eq_false,if_false,h2,if_true,Option.map_map] at i4;repeat' (first|(apply aF;(iterate 3 exact rfl);exact pK;exact pK;exact rfl;(simp [Value.oneCell']);omega;(simp only [maxLen];omega);intro g8 c8)|(apply ai (d:=63);exact rfl;apply rW (b:=2);exact rfl;exact rfl;(simp only [maxLen];omega))|refine zZE ?_|refine sM fun _=>?_|(refine sC ?_ ?_<;>intro hb<;>try omega)|fail)
      all_goals try (exfalso;omega)
      refine ⟨(i+2,out++ [34],some g8,c8),⟨by dsimp only;omega,by dsimp only;omega,by simp;omega,?_⟩,(by dsimp only;omega),?_,sB,?_⟩
      ·dsimp only;rw [i4,show i+2 - 1=i+1 by omega];congr 1;funext l;simp
      ·simp only [Iv,IV];exact sB
      ·simp only [Iv,IV,Jn,Ja,Jz];exact mS
     ·simp only [lZ,ne_eq,not_true_eq_false,if_false,h2,Option.map_none] at i4;rw [i4];repeat' (first|refine zZE ?_|refine sM fun _=>?_|(refine sC ?_ ?_<;>intro hb<;>try omega)|fail)
      all_goals first|(exfalso;omega)|((refine rT2 ?_);rfl)
   ·rw [zw hq,Option.map_map] at i4;repeat' (first|(apply aF;(iterate 3 exact rfl);exact pK;exact pK;exact rfl;(simp [Value.oneCell']);omega;(simp only [maxLen];omega);intro g8 c8)|refine zZE ?_|refine sM fun _=>?_|(refine sC ?_ ?_<;>intro hb<;>try omega)|fail)
    all_goals try (exfalso;omega)
    refine ⟨(i+1,out++ [bat a i],some g8,c8),⟨by dsimp only;omega,by dsimp only;omega,by simp;omega,?_⟩,(by dsimp only;omega),?_,sB,?_⟩
    ·dsimp only;rw [i4,show i+1 - 1=i by omega];congr 1;funext l;simp
    ·simp only [Iv,IV];exact sB
    ·simp only [Iv,IV,Jn,Ja,Jz];exact mS
end Go.SL
namespace Go.SL
open Go
def yE (r:Nat→Nat→Bool) (n:Nat) (lf:Nat→Bool):Option Nat:=(List.range n).find? fun i=>lf i && (List.range n).all fun k=> !(lf k && r i k)
def qJ (r:Nat→Nat→Bool) (n:Nat):Nat→(Nat→Bool)→List Nat
 |0,_=> []
 |m+1,lf=>match yE r n lf with
  |none=> []
  |some i=>i::qJ r n m fun j=>if j=i then false else lf j
theorem xd {r:Nat→Nat→Bool} {n i:Nat} {lf:Nat→Bool}:yE r n lf=some i↔i<n∧(lf i=true∧ ∀ k,k<n→lf k=true→r i k=false)∧ ∀ j,j<i→ ¬ (lf j=true∧ ∀ k,k<n→lf k=true→r j k=false):=by
 have hp: ∀ i,(lf i && (List.range n).all fun k=> !(lf k && r i k))=true↔(lf i=true∧ ∀ k,k<n→lf k=true→r i k=false):=fun i=>by
  rw [IX,JR];refine and_congr_right fun _=>⟨fun h k hk hl=> ?_,fun h k hk=> ?_⟩
  ·have:=h k (IJ.2 hk);rw [hl] at this;simpa using this
  ·cases hl:lf k with
   |false=>simp
   |true=>rw [h k (IJ.1 hk) hl];simp
 unfold yE;rw [List.find?_range_eq_some];constructor
 ·rintro ⟨h1,h2,h3⟩;exact ⟨IJ.1 h2,(hp i).1 h1,fun j hj hh=>by have:=h3 j hj;rw [(hp j).2 hh] at this;cases this⟩
 ·rintro ⟨h1,h2,h3⟩;refine ⟨(hp i).2 h2,IJ.2 h1,fun j hj=> ?_⟩
  cases hc:(lf j && (List.range n).all fun k=> !(lf k && r j k)) with
  |false=>rfl
  |true=>exact absurd ((hp j).1 hc) (h3 j hj)
structure SubN (r:Nat→Nat→Bool) (n:Nat) (l:List Nat) (X:Nx):Prop where
 len:X.length=l.length
 asc:l.Pairwise (· < ·)
 lt: ∀ i∈l,i<n
 ok: ∀ p,∀ q∈aj X p,q<l.length
 rel: ∀ p q (hp:p<l.length) (hq:q<l.length),r l[p] l[q]=true↔ ∃ k∈aj X p,Rch X k q
 acy: ∀ p,p<l.length→ ¬ onC X p
def kv (l D:List Nat) (i:Nat):Bool:=(List.range l.length).any fun p=>decide ((l[p]?).getD 0=i) && !decide (p∈D)
theorem eO {l D:List Nat} {i:Nat}:kv l D i=true↔ ∃ p,∃ h:p<l.length,l[p]=i∧p∉D:=by
 unfold kv;rw [KO];constructor
 ·rintro ⟨p,hp,h⟩;have hp:=IJ.1 hp;rw [IX,decide_eq_true_eq,Ir hp] at h;exact ⟨p,hp,h.1,by simpa using h.2⟩
 ·rintro ⟨p,hp,h1,h2⟩;refine ⟨p,IJ.2 hp,?_⟩;rw [Ir hp];simp [h1,h2]
section
variable {r:Nat→Nat→Bool} {n:Nat} {l:List Nat} {X:Nx} (S:SubN r n l X)
include S
theorem SubN.inj {p q:Nat} (hp:p<l.length) (hq:q<l.length) (h:l[p]=l[q]):p=q:=by
 have h1:=J5.1 S.asc;rcases Nat.lt_trichotomy p q with h2|h2|h2
 ·have:=h1 p q hp hq h2;omega
 ·exact h2
 ·have:=h1 q p hq hp h2;omega
theorem SubN.mono {p q:Nat} (hp:p<l.length) (hq:q<l.length) (h:l[p]<l[q]):p<q:=by
 have h1:=J5.1 S.asc;rcases Nat.lt_trichotomy p q with h2|h2|h2
 ·exact h2
 ·subst h2;omega
 ·have:=h1 q p hq hp h2;omega
theorem SubN.free {D:List Nat} (hD: ∀ i∈D,∀ k∈aj X i,k∈D) {p:Nat} (hp:p<l.length):jE X D p=true↔(kv l D l[p]=true∧ ∀ k,k<n→kv l D k=true→r l[p] k=false):=by
 rw [cL];constructor
 ·rintro ⟨h1,h2⟩;refine ⟨eO.2 ⟨p,hp,rfl,h1⟩,fun k _ hk=> ?_⟩;obtain ⟨q,hq,rfl,hqd⟩:=eO.1 hk
  cases hr:r l[p] l[q] with
  |false=>rfl
  |true=>
   obtain ⟨k,hk1,hk2⟩:=(S.rel p q hp hq).1 hr;exact absurd (hk2.closed (C:=fun v=>v∈D) hD (h2 k hk1)) hqd
 ·rintro ⟨h1,h2⟩;obtain ⟨p',hp',e,hd⟩:=eO.1 h1;have:=S.inj hp' hp e;subst this;refine ⟨hd,fun k hk=>Classical.byContradiction fun hn=> ?_⟩;have hkl:=S.ok p' k hk;have h3:=h2 l[k] (S.lt _ (IZ hkl)) (eO.2 ⟨k,hkl,rfl,hn⟩);rw [(S.rel p' k hp hkl).2 ⟨k,hk,.refl k⟩] at h3;cases h3
theorem SubN.pick {D:List Nat} (hD: ∀ i∈D,∀ k∈aj X i,k∈D) {p:Nat} (h:jk X D=some p): ∃ hp:p<l.length,yE r n (kv l D)=some l[p]:=by
 obtain ⟨h1,h2,h3⟩:=kL.1 h;have hp:p<l.length:=by rw [← S.len];exact h1
 refine ⟨hp,xd.2 ⟨S.lt _ (IZ hp),(S.free hD hp).1 h2,fun j hj hh=> ?_⟩⟩;obtain ⟨q,hq,rfl,_⟩:=eO.1 hh.1;have h4:=h3 q (S.mono hq hp hj);rw [(S.free hD hq).2 hh] at h4;cases h4
theorem SubN.left {D:List Nat} {p:Nat} (hp:p<l.length):(fun j=>if j=l[p] then false else kv l D j)=kv l (D++ [p]):=by
 funext j;rw [Jp,eO];by_cases e:j=l[p]
 ·rw [if_pos e];refine ⟨fun h=>(by cases h),?_⟩;rintro ⟨q,hq,h1,h2⟩;have:=S.inj hq hp (h1.trans e);subst this;exact absurd (JL _ (Iz.2 rfl)) h2
 ·rw [if_neg e,eO];constructor
  ·rintro ⟨q,hq,h1,h2⟩;refine ⟨q,hq,h1,fun hm=>(IL.1 hm).elim h2 fun h3=> ?_⟩;have h3:=Iz.1 h3;subst h3;exact e h1.symm
  ·rintro ⟨q,hq,h1,h2⟩;exact ⟨q,hq,h1,fun hm=>h2 (Jy _ hm)⟩
theorem SubN.fin: ∀ (m:Nat) (D:List Nat),(∀ i∈D,∀ k∈aj X i,k∈D)→D.Nodup→(∀ i∈D,i<l.length)→D.length+m=l.length→
 (gX X m D).map (fun p=>(l[p]?).getD 0)=D.map (fun p=>(l[p]?).getD 0)++qJ r n m (kv l D)∧(gX X m D).Perm (List.range l.length):=by
 intro m
 induction m with
 |zero=>
  intro D hD hn hl hm;refine ⟨by rw [gX,qJ,I3],?_⟩;rw [gX];refine (List.perm_ext_iff_of_nodup hn KJ).2 fun x=>⟨fun hx=>IJ.2 (hl x hx),fun hx=> ?_⟩;refine Classical.byContradiction fun hxn=> ?_;have h1:=bK (x::D) (List.range l.length) (JG.2 ⟨hxn,hn⟩) fun y hy=>by
   rcases IP.1 hy with rfl|hy
   ·exact hx
   ·exact IJ.2 (hl y hy)
  rw [Jc,IU] at h1;omega
 |succ m ih=>
  intro D hD hn hl hm;have hex: ∃ v,v<X.length∧v∉D:=by
   refine Classical.byContradiction fun hne=> ?_;have h1:=bK (List.range X.length) D KJ fun x hx=>Classical.byContradiction fun hxd=>hne ⟨x,IJ.1 hx,hxd⟩;rw [Jc,S.len] at h1;omega
  obtain ⟨v,hv,hvd⟩:=hex;obtain ⟨p,hp⟩:=z1 (fun i k hk=>by rw [S.len];exact S.ok i k hk) (fun w hw=>S.acy w (by rw [← S.len];exact hw)) _ v (IK _) hv hvd;obtain ⟨hpl,hpick⟩:=S.pick hD hp;have hf:=cL.1 (kL.1 hp).2.1;have hD' : ∀ i∈D++ [p],∀ k∈aj X i,k∈D++ [p]:=fun i hi k hk=>by
   rcases IL.1 hi with hi|hi
   ·exact Jy _ (hD i hi k hk)
   ·rw [Iz.1 hi] at hk;exact Jy _ (hf.2 k hk)
  have hn' :(D++ [p]).Nodup:=J8.2 ⟨hn,by simp,fun a ha b hb e=>hf.1 (by rw [← Iz.1 hb,← e];exact ha)⟩;have hl' : ∀ i∈D++ [p],i<l.length:=fun i hi=>by
   rcases IL.1 hi with hi|hi
   ·exact hl i hi
   ·rw [Iz.1 hi];exact hpl
  obtain ⟨h1,h2⟩:=ih (D++ [p]) hD' hn' hl' (by rw [Iv,IV];omega);rw [gX,hp];dsimp only;refine ⟨?_,h2⟩;rw [h1,qJ,hpick];dsimp only;rw [S.left hpl,Jn,I1];simp [Ir hpl]
theorem SubN.topo:(cV X).map (fun p=>(l[p]?).getD 0)=qJ r n l.length (kv l [])∧(cV X).Perm (List.range l.length):=by
 have h:=S.fin l.length [] (fun _ h=>by cases h) Kh (fun _ h=>by cases h) (by simp);unfold cV;rw [S.len];simpa using h
end
end Go.SL
namespace Go.SL
open Go Go.Proofs
attribute [local irreducible] W WL WQ WG WA VOp thn blk aW scp aJ FnAt FnIn
def cP:List ByteArray:= [⟨#[]⟩,⟨#[35,68,73,86,47,48,33]⟩,⟨#[35,86,65,76,85,69,33]⟩,⟨#[35,78,85,77,33]⟩,⟨#[35,78,47,65]⟩,⟨#[35,82,69,70,33]⟩,⟨#[35,67,89,67,76,69,33]⟩,⟨#[35,68,69,78,73,69,68]⟩]
def Words (w:World):Prop:=Ro w 0 0 (cP.map Value.string)
theorem Words.next {w0 w:World} {H:List Blk} (h:Words w0) (hm:Mem w0 w H):Words w:=Ro.next h hm
def iC (c:Int):Vl:=⟨4,if c<1∨7<c then 2 else c,aA⟩
def CC (n:Int):Vl:=if n= -9223372036854775808 then iC 3 else ⟨1,n,aA⟩
def rX (b:Bool):Vl:=⟨2,if b then 1 else 0,aA⟩
def yw:ByteArray:=⟨#[84,82,85,69]⟩
def tj:ByteArray:=⟨#[70,65,76,83,69]⟩
def xq (a:ByteArray):Vl:=if upB a=yw then rX true else if upB a=tj then rX false else iC 2
theorem ji (c:Int) (w:World):aC Tryz.prog 141 [.int .i64 c] w (.agg (cQ (iC c)).toArray):=by
 refine ax Tryz.func141 rfl Tryz.ntmps141 rfl ?_;repeat' (first|refine sT ?_|refine sM fun _=>?_|(refine sC ?_ ?_<;>intro hb<;>try omega)|exact cT|fail)
 all_goals ((refine eRC ?_);simp only [iC];(first|rw [if_pos (by omega)]|rw [if_neg (by omega)]);rfl)
theorem Fh (n:Int) (w:World):aC Tryz.prog 144 [.int .i64 n] w (.agg (cQ (CC n)).toArray):=by
 refine ax Tryz.func144 rfl Tryz.ntmps144 rfl ?_;repeat' (first|(apply ag;exact rfl;exact rfl;(intro w hm;exact ji 3 w))|refine sT ?_|refine sM fun _=>?_|(refine sC ?_ ?_<;>intro hb<;>try omega)|exact cT|fail)
 all_goals ((refine eRC ?_);simp_all [CC,cQ,iC,aA])
theorem Dv (b:Bool) (w:World):aC Tryz.prog 233 [.bool b] w (.agg (cQ (rX b)).toArray):=by
 refine ax Tryz.func233 rfl Tryz.ntmps233 rfl ?_;repeat' (first|refine sT ?_|refine sM fun _=>?_|(refine sC ?_ ?_<;>intro hb<;>try omega)|exact cT|fail)
 all_goals ((refine eRC ?_);simp_all [rX,cQ,aA])
theorem Cx (v:Vl) (ha:v.text.size≤1000000) (w:World):aC Tryz.prog 187 [.agg (cQ v).toArray] w (.agg (cQ (xq v.text)).toArray):=by
 refine ax Tryz.func187 rfl Tryz.ntmps187 rfl ?_;repeat' (first|(apply ag;exact rfl;exact rfl;(intro w hm;exact lS v.text ha w))|(apply ag;exact rfl;exact rfl;(intro w hm;exact Dv _ w))|(apply ag;exact rfl;exact rfl;(intro w hm;exact ji 2 w))|refine sT ?_|refine sM fun _=>?_|(refine sC ?_ ?_<;>intro hb<;>try omega)|exact cT|fail)
 all_goals ((refine eRC ?_);simp_all [xq,yw,tj];rfl)
theorem Ff (c:Int) (h1:1≤c) (h2:c≤5) (w:World) (hw:Words w):aC Tryz.prog 243 [.agg (cQ ⟨4,c,aA⟩).toArray] w (.string (cP.getD c.toNat aA)):=by
 refine ax Tryz.func243 rfl Tryz.ntmps243 rfl ?_;have he:eqV ⟨4,c,aA⟩ (iC 7)=false:=by simp [eqV,iC];omega
 have hv:wL ⟨4,c,aA⟩=0:=by
  have h6:decide (c≤6)=true:=decide_eq_true (by omega);simp [wL,BB,h1,h6]
 have hc:=wK ⟨4,c,aA⟩;rw [hv] at hc;obtain ⟨k,rfl⟩: ∃ k:Nat,c=(k:Int):=⟨c.toNat,by omega⟩;have hcell:(cP.map Value.string)[k*1]? =some (.string (cP.getD k aA)):=by
  rcases (by omega:k=1∨k=2∨k=3∨k=4∨k=5) with rfl|rfl|rfl|rfl|rfl<;>rfl
 repeat' (first|(apply jn;exact rfl;exact rfl;(intro w hm;exact ji 7 w))|(apply jn;exact rfl;exact rfl;(intro w hm;exact hc w))|(apply cg;exact rfl;exact he ▸ BN (b:=iC 7) rfl rfl)|(apply ai;exact rfl;apply oz (j:=k);exact rfl;exact rfl;omega)|(apply ai;exact rfl;apply aD (o:=0);exact hw;exact rfl;exact hcell)|refine sT ?_|refine sQ ?_|refine sD ?_|refine sM fun _=>?_|(refine sC ?_ ?_<;>intro hb<;>try omega)|(refine sCQ ?_ ?_<;>intro hb<;>try omega)|exact cT|fail)
 (refine rT1 ?_)
 rfl
instance iN349:KLaw Tryz.prog 5 (fun z:Int=>Value.int .u8 z):=vo
theorem rL {P:Program} {n:Fr} {w0:World} {Q:aO} {s:au} {H:List Blk} {rest:List Oper} {ty:TypeId} {p:String} {af:Array Edge} {κ:Type} [DecidableEq κ] {enc:κ→Value} {t K E g clock:Nat} {m x kx:Operand} {k:κ} {v:Value} {es:List (κ × Value × Nat)} {es' :List (κ × Value × Nat)} {c' :Nat} {R:List Blk} {ops:Array Oper} [ht:Und P t (.map K E)] [hk:KLaw P K enc] (hm:ev s m=some (.map (some g))) (hkx:ev s kx=some (enc k)) (hx:ev s x=some v) (hsel:Sel (.obj g (bC enc es clock)) H R)
 (he:je k v clock es=(es',c')) (h:WL P n w0 ops rest Q s (.obj g (bC enc es' c')::R)):WL P n w0 ops (⟨none,.insert t m kx x,ty,p,af,none⟩::rest) Q s H:=by
 refine ze hm hkx hx hsel ?_;rw [he];exact h
theorem CM {κ:Type} [DecidableEq κ] {k:κ} {v:Value} {clock:Nat} {es:List (κ × Value × Nat)} (h:bn k es 0=none):je k v clock es=(es++ [(k,v,clock)],clock+1):=by
 simp [je,h]
def yY (v:Vl):List (Int × Value × Nat):=
 [(0,.func (.func 185) #[.agg (cQ v).toArray] #[],0),(1,.func (.func 185) #[.agg (cQ v).toArray] #[],1),(2,.func (.func 186) #[.agg (cQ v).toArray] #[],2),(3,.func (.func 187) #[.agg (cQ v).toArray] #[],3),(4,.func (.func 186) #[.agg (cQ v).toArray] #[],4)]
theorem wV (v:Vl) (w:World):FnAt Tryz.prog 184 [.agg (cQ v).toArray] w fun u H=> ∃ g,u= .map (some g)∧H= [.obj g (bC (fun z:Int=>Value.int .u8 z) (yY v) 5)]:=by
 refine ax Tryz.func184 rfl Tryz.ntmps184 rfl ?_;repeat' (first|(apply iK (enc:=fun z:Int=>Value.int .u8 z);exact rfl;intro g)|(apply ai;exact rfl;apply iP;exact rfl)|(apply rL (enc:=fun z:Int=>Value.int .u8 z);(iterate 3 exact rfl);exact pK;exact CM rfl)|refine sT ?_|refine sM fun _=>?_|(refine sC ?_ ?_<;>intro hb<;>try omega)|exact cT|fail)
 exact bB (H' := [.obj g (bC (fun z:Int=>Value.int .u8 z) (yY v) 5)]) (.inl rfl) rfl rfl (.pick .hd (.nil _)) ⟨g,rfl,rfl⟩
def fN (v:Vl):Vl:=if wL v=0 then xq v.text else iC 2
theorem vV (v:Vl) (hk:v.kind=3) (ha:v.text.size≤1000000) (w:World):aC Tryz.prog 183 [.agg (cQ v).toArray,.func (.func 184) #[] #[]] w (.agg (cQ (fN v)).toArray):=by
 refine ax Tryz.func183 rfl Tryz.ntmps183 rfl ?_;obtain ⟨k,num,text⟩:=v;dsimp only at hk ha;subst hk;have hv:=wK ⟨3,num,text⟩;have hn:=Cx ⟨3,num,text⟩ ha;repeat' (first|refine sT ?_|refine sM fun _=>?_|(refine sC ?_ ?_<;>intro hb<;>try omega)|exact cT|fail)
 rename_i g2 g4;refine od (id:=1) (ι:=Unit) (fun _=> [(5,.func (.func 187) #[.agg (cQ ⟨3,num,text⟩).toArray] #[]),(6,.bool true),(2,.pointer (some ⟨g2,0,none⟩)),(4,.pointer (some ⟨g4,0,none⟩))]) (fun _=> [.box g2 90 (cQ ⟨3,num,text⟩),.box g4 90 (cQ bD)]) (fun _=>True) ?_ ?_
 ·refine rT 11 rfl (by kernel_rfl) ?_;((with_reducible apply bU (i:=0));exact rfl;exact rfl;(iterate 3 decide+kernel);exact nP;(intro _ _;exact vP));((with_reducible apply bU (i:=3));exact rfl;exact rfl;(iterate 3 decide+kernel);exact nP;(intro _ _;exact vP));repeat' (first|(apply rQ (i:=1) (j:=4);exact rfl;exact rfl;decide+kernel)|(apply rQ (i:=2) (j:=4);exact rfl;exact rfl;decide+kernel)|(apply dQ (i:=1);exact rfl;decide+kernel)|(apply dQ (i:=2);exact rfl;decide+kernel)|(apply dQ (i:=4);exact rfl;decide+kernel)|(apply dQ (i:=5);exact rfl;decide+kernel)|(apply bU (i:=6);exact rfl;exact rfl;(iterate 3 decide+kernel);exact nP;(intro _ _;exact vP))|(apply bU (i:=7);exact rfl;exact rfl;(iterate 3 decide+kernel);exact nP;(intro _ _;exact vP))|(apply bU (i:=8);exact rfl;exact rfl;(iterate 3 decide+kernel);exact nP;(intro _ _;exact vP))|(apply bU (i:=9);exact rfl;exact rfl;(iterate 3 decide+kernel);exact nP;(intro _ _;exact vP))|(apply bU (i:=10);exact rfl;exact rfl;(iterate 3 decide+kernel);exact nP;(intro _ _;exact vP))|(apply rR;decide+kernel)|(apply fP;exact rfl;exact rfl;infer_instance;exact rfl;exact FnIn.of_at (fun w' _=>wV ⟨3,num,text⟩ w');(rintro _ _ ⟨H1,⟨g5,rfl,rfl⟩,rfl⟩))|(apply ai;exact rfl;apply eH (enc:=fun z:Int=>Value.int .u8 z);exact rfl;exact rfl;exact pK;exact rfl)|refine sT ?_|refine sM fun _=>?_|(refine sC ?_ ?_<;>intro hb<;>try omega)|exact cT|fail)
  all_goals ((apply dr;rotate_left 1;exact sB;exact mS);trivial)
 ·rintro _ -;simp only [fN];generalize wL ⟨3,num,text⟩=e at hv;repeat' (first|(apply ag;exact rfl;exact rfl;(intro w hm;exact hv w))|(apply ag;exact rfl;exact rfl;(intro w hm;exact ji 2 w))|(apply lW;exact rfl;exact rfl;infer_instance;exact rfl;(intro w' _;exact hn w'))|refine sT ?_|refine sM fun _=>?_|(refine sC ?_ ?_<;>intro hb<;>try omega)|exact cT|fail)
  all_goals
   (refine eRC ?_);simp_all
   rfl
theorem Bd (v:Vl) (hk:v.kind=3) (ha:v.text.size≤1000000) (w:World):aC Tryz.prog 138 [.agg (cQ v).toArray] w (.agg (cQ (fN v)).toArray):=by
 refine ax Tryz.func138 rfl Tryz.ntmps138 rfl ?_;repeat' (first|(apply ag;exact rfl;exact rfl;(intro w hm;exact vV v hk ha w))|refine sT ?_|refine sM fun _=>?_|(refine sC ?_ ?_<;>intro hb<;>try omega)|exact cT|fail)
 (refine eRC ?_)
 rfl
def jI (u:ByteArray):List ByteArray→Int→Int × Int
 | [],_=>(0,4)
 |x::r,i=>if x=u then (i,0) else jI u r (i+1)
def nk (a:ByteArray):Int × Int:=jI (upB a) (cP.drop 1) 1
theorem wF {i:Nat} (h:i<8):(cP.map Value.string)[i]? =some (.string (cP.getD i aA)):=by
 rcases (by omega:i=0∨i=1∨i=2∨i=3∨i=4∨i=5∨i=6∨i=7) with rfl|rfl|rfl|rfl|rfl|rfl|rfl|rfl<;>rfl
theorem tP {i:Nat} (h:i<8):cP.drop i=cP.getD i aA::cP.drop (i+1):=by
 rcases (by omega:i=0∨i=1∨i=2∨i=3∨i=4∨i=5∨i=6∨i=7) with rfl|rfl|rfl|rfl|rfl|rfl|rfl|rfl<;>rfl
theorem Fk (a:ByteArray) (ha:a.size≤1000000) (w:World) (hw:Words w):aC Tryz.prog 140 [.string a] w (.tuple #[.int .i64 (nk a).1,.int .i64 (nk a).2]):=by
 refine ax Tryz.func140 rfl Tryz.ntmps140 rfl ?_;have hload:(((cP.map Value.string).drop 0).take 8)=cP.map Value.string:=rfl;have hU:=lS a ha;generalize hu:upB a=u at hU;repeat' (first|(apply ag;exact rfl;exact rfl;(intro w hm;exact hU w))|(apply ai;exact rfl;apply iQ (o:=0) (off:=0);exact hw;exact rfl;exact hload;exact rfl)|refine zZD ?_|refine sM fun _=>?_|(refine sC ?_ ?_<;>intro hb<;>try omega)|exact cT|fail)
 refine aB [0,8] rfl (fun i:Nat=> [(9,.int .i64 (i:Int))]) (fun _=> []) (fun i=>i≤8∧nk a=jI u (cP.drop (max i 1)) (max i 1:Nat)) (fun i=>8 - i) 0 ⟨by omega,by rw [nk,hu];rfl⟩ sB mS ?_;rintro i ⟨hi,hr⟩;by_cases hlt:i<8
 ·have hx:=wF hlt;have hd:=tP hlt;generalize cP.getD i aA=x at hx hd;repeat' (first|(apply ai;exact rfl;apply jr;exact rfl;exact rfl;exact hlt;exact hx)|refine zZF ?_|refine sM fun _=>?_|(refine sC ?_ ?_<;>intro hb<;>try omega)|exact cT|fail)
  ·rename_i h0;rw [show max i 1=i by omega,hd,jI,if_pos hb] at hr;rw [hr];(refine rT2 ?_)
   rfl
  ·rename_i h0;rw [show max i 1=i by omega,hd,jI,if_neg hb] at hr;refine ⟨i+1,?_,(by first|omega|(dsimp only;omega)),sB,sB,mS⟩;refine ⟨hlt,?_⟩;rw [hr,show max (i+1) 1=i+1 by omega]
   rfl
  ·have h0:i=0:=by omega
   subst h0;refine ⟨0+1,?_,(by first|omega|(dsimp only;omega)),sB,sB,mS⟩;exact ⟨by omega,hr⟩
 ·have e:i=8:=by omega
  subst e;rw [hr];repeat' (first|refine zZD ?_|refine sM fun _=>?_|(refine sC ?_ ?_<;>intro hb<;>try omega)|exact cT|fail)
  all_goals first|(exfalso;omega)|((refine rT2 ?_);rfl)
end Go.SL
