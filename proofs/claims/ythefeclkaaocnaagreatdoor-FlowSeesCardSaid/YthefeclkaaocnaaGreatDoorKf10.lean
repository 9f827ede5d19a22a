/-
  Lemmas and walks, put together: W5 W6 W7 W8 W9 W10 W27 A2 A3.
-/
import Derived.Test.YthefeclkaaocnaaGreatDoorKf09
set_option linter.unusedSimpArgs false
set_option linter.unusedVariables false
set_option maxRecDepth 20000
namespace Go.SL
open Go Go.Proofs
attribute [local irreducible] W WL WQ WG WA VOp thn blk ba FnAt FnIn
def IK (N:Nat) (w0:World) (f:FuncId) (caps:List Value) (Inv:List mU→List Blk→Prop):Prop:=
 ∀ (vs:List mU) (kids:List Nat) (d:Nat) (A:Option Nat) (cap:Nat) (H F:List Blk),Inv vs H→kids.length≤1000→vs.length<N→(∀ k∈kids,k<vs.length)→
  FnIn Tryz.prog f ([.int .i64 (vs.length:Int),sl A kids.length cap,.int .i64 (d:Int)]++caps) w0 (.own A 3 1 kids.length cap (kids.map fun (k:Nat)=> .int .i64 (k:Int))::(H++F))
   fun _ H' => ∃ H1,Inv (vs++ [(kids,d)]) H1∧MSub (H1++F) H'
theorem uK {n:Nd} (h:bE n=0):0≤below n∧below n≤16:=by
 unfold bE at h
 split at h
 ·
  cases h
 ·
  rename_i hk
  split at h
  ·
   rename_i h7
   unfold below
   split
   ·
    omega
   ·
    split
    ·
     omega
    ·
     omega
  ·
   rename_i h7
   have h7' :n.kind=7:=by omega
   have hb:below n=n.n:=by simp [below,h7']
   have hk1:fD n=true:=by
    cases hh:fD n
    ·
     exact absurd (Or.inl hh) hk
    ·
     rfl
   simp [fD,h7'] at hk1
   split at h
   ·
    rename_i ha;omega
   ·
    split at h
    ·
     omega
    ·
     rename_i hc
     have hm:(fp n.fn).2.1≤16:=by
      unfold fp
      (repeat' split)<;>simp
     omega
theorem j8 (st:List Pt) (k:Nat) (h:k≤st.length):(bD st k).length=k:=by simp [bD];omega
theorem jh {st:List Pt} {k:Nat} {p:Pt} (h:p∈bD st k):p∈st:=VF h
theorem Kn {w0 w:World} {H:List Blk} {A:Option Nat} {st:List Pt} {cap k:Nat} (hm:Mem w0 w H) (hi:In (.own A 394 3 st.length cap (st.flatMap uL)) H) (h:k≤st.length):
  Reads w (.slice (if cap=st.length - k then A.map fun g=>⟨g,0,none⟩ else (A.map fun g=>(⟨g,0,none⟩:Addr)).map (·.add ((st.length - k)*3))) (st.length - (st.length - k)) (cap - (st.length - k))) (bD st k).length ((bD st k).flatMap uL):=by
 have h1:=(Reads.of_own hm hi).cut (lo:=st.length - k) (hi:=st.length) (sz:=3) (by omega) (TQ _)
 have e1:st.length - (st.length - k)=(bD st k).length:=by rw [j8 st k h];omega
 rw [qp pQ,e1] at h1
 have e2:((st.drop (st.length - k)).flatMap uL).take ((bD st k).length*3)=(bD st k).flatMap uL:=by
  rw [UE (by rw [aR pQ];exact TQ _)];rfl
 rw [e2] at h1
 rw [e1]
 exact h1
theorem tF (top:List Pt) (j:Nat) (h:j<top.length):cE (top.take (j+1))=max (cE (top.take j)) (top[j].depth+1):=by
 unfold cE
 rw [TP h,U8]
 rfl
theorem l3 (top:List Pt) (h: ∀ p∈top,p.depth≤32):cE top≤33:=by
 have: ∀ (l:List Pt) (d:Nat),d≤33→(∀ p∈l,p.depth≤32)→l.foldl (fun d p=>max d (p.depth+1)) d≤33:=by
  intro l
  induction l with
  |nil=>intro d hd _;simpa using hd
  |cons p r ih=>
   intro d hd hp
   have:=hp p TI
   exact ih _ (by show max d (p.depth+1)≤33;omega) fun q hq=>hp q (TM _ hq)
 exact this top 1 (by omega) h
structure WalkSt (L:List Nd) (Inv:List mU→List Blk→Prop) (i:Nat) (st:List Pt) (vs:List mU) (Hv:List Blk):Prop where
 le:i≤L.length
 len:vs.length=i
 inv:Inv vs Hv
 rest:fH L L 0 [] []=fH L (L.drop i) i st vs
 ok: ∀ p∈st,p.root<i∧p.depth≤32
 small:st.length≤i
set_option maxHeartbeats 2000000 in
theorem Ka (L:List Nd) (hne:0<L.length) (hlen:L.length≤256) (tv:Value) (w0:World) (ht:Reads w0 tv L.length (L.flatMap bR)) (f:FuncId) [hf:Callable Tryz.prog f] (caps:List Value) (Inv:List mU→List Blk→Prop) (hV:IK L.length w0 f caps Inv)
  (H:List Blk) (hI:Inv [] H):FnIn Tryz.prog 272 [tv,.func (.func f) #[] caps.toArray] w0 H fun v H' =>v= .int .i64 (fH L L 0 [] []).1∧Inv (fH L L 0 [] []).2 H' :=by
 have ht' :=ht
 obtain ⟨At,ct,rfl,ht1,ht2,ht3⟩:=ht
 obtain ⟨gt,ot,rfl,hrt⟩:=ht3 hne
 refine cF Tryz.func272 rfl Tryz.ntmps272 rfl ?_
 repeat' (first|refine sT ?_|refine sM fun _=> ?_|(refine sC ?_ ?_<;>intro hb<;>try omega)|fail)
 refine aW 394 3 ?_
 refine I6 (fun (i:Nat) s H=> ∃ st vs A cap Hv,s= [(0,.slice (some ⟨gt,ot,none⟩) L.length ct),(1,.func (.func f) #[] caps.toArray),(5,sl A st.length cap),(14,.slice (some ⟨gt,ot,none⟩) L.length ct),(15,.int .i64 (L.length:Int)),(16,.int .i64 (i:Int))]∧
   H= .own A 394 3 st.length cap (st.flatMap uL)::Hv∧WalkSt L Inv i st vs Hv) (fun i=>L.length - i) 0 ?_ ?_
 ·
  refine ⟨_,_,?_,?_,⟨[],[],none,0,H,rfl,rfl,⟨TW _,rfl,hI,rfl,by simp,TQ _⟩⟩⟩
  ·
   exact sB
  ·
   exact mS
 ·
  rintro i _ _ ⟨st,vs,A,cap,Hv,rfl,rfl,hst⟩
  obtain ⟨hle,hvl,hinv,hrest,hok,hsmall⟩:=hst
  by_cases hlt:i<L.length
  ·
   have hrn:=hrt.elem dF i hlt
   rw [TN hlt,fH,jI] at hrest
   generalize hn:L[i]=n at hrest hrn
   by_cases hfe:bE n=0
   ·
    obtain ⟨hb0,hb16⟩:=uK hfe
    obtain ⟨k,hk⟩:=We hb0
    rw [if_neg (by simp [hfe]),hk,VY] at hrest
    have hbel: ∀ w,aD Tryz.prog 308 [.agg (bR n).toArray] w (.int .i64 (k:Int)):=fun w=>hk ▸ Ot n w
    have hfie: ∀ w,aD Tryz.prog 307 [.agg (bR n).toArray] w (.int .i64 0):=fun w=>hfe ▸ AW n w
    refine I5 .hd fun hr1 hr2 hr3=> ?_
    repeat' (first|(apply ak;exact rfl;apply aj;exact rfl;exact rfl;exact hlt)|(apply ak;exact rfl;apply aP;exact rfl;exact hrn;exact rfl)|(apply ak;exact rfl;apply dP;exact rfl;exact rfl;(simp only [maxLen];omega))|(apply aa;exact rfl;exact rfl;(intro w hm;exact hfie w))|(apply aa;exact rfl;exact rfl;(intro w hm;exact hbel w))|(apply iw (id:=9);kernel_rfl;kernel_rfl)|(apply aO;exact rfl;apply lT;exact rfl;exact rfl;omega;omega)|(apply ak;exact rfl;apply lT;exact rfl;exact rfl;omega;omega)|(apply aO;exact rfl;apply mZ (hi:=st.length);exact rfl;exact ⟨_,rfl⟩;exact rfl;omega;omega)|(apply cY;exact rfl;exact rfl;(intro w hm;exact P3 L n (bD st k) _ _ w (ht'.of_w0 hm) (Kn hm pK (by omega)) (fun p hp=>Nat.lt_trans (hok p (jh hp)).1 hlt) (by rw [j8 st k (by omega)];omega)))|refine sT ?_|refine sQ ?_|refine sM fun _=> ?_|(refine sC ?_ ?_<;>intro hb<;>try omega)|(refine sCQ ?_ ?_<;>intro hb<;>try omega)|fail)
    ·
     refine cA (.inl rfl) Tryz.results272 rfl (.drop .hd (.drop .hd (.refl _))) ?_
     rw [hrest,if_pos (Or.inl (by omega))]
     exact ⟨rfl,hinv⟩
    ·
     refine cA (.inl rfl) Tryz.results272 rfl (.drop .hd (.drop .hd (.refl _))) ?_
     rw [hrest,if_pos (Or.inr hb)]
     exact ⟨rfl,hinv⟩
    have hkl:k≤st.length:=by omega
    rw [if_neg (by intro h;rcases h with h|h;(· omega);(· rw [hb] at h;cases h))] at hrest
    repeat' (first|(apply ak;exact rfl;apply lT;exact rfl;exact rfl;omega;omega)|(apply Ma (hi:=st.length);exact rfl;exact rfl;exact ⟨_,rfl⟩;exact rfl;omega;omega;(intro B hB))|refine sT ?_|refine sM fun _=> ?_|(refine sC ?_ ?_<;>intro hb<;>try omega)|fail)
    rename_i gn gp
    refine aW 3 1 ?_
    have htl:=j8 st k hkl
    refine I6 (fun (j:Nat) s H=> ∃ A2 cap2,s= [(0,.slice (some ⟨gt,ot,none⟩) L.length ct),(1,.func (.func f) #[] caps.toArray),(5,sl A st.length cap),(6,.int .i64 (i:Int)),(9,.int .i64 (k:Int)),(10,.pointer (some ⟨gp,0,none⟩)),(11,sl A2 j cap2),
      (14,.slice (some ⟨gt,ot,none⟩) L.length ct),(15,.int .i64 (L.length:Int)),(16,.int .i64 (i:Int)),(54,.slice B (st.length - (st.length - k)) (cap - (st.length - k))),(55,.int .i64 ((st.length - (st.length - k):Nat):Int)),(56,.int .i64 (j:Int))]∧
      H= .own A2 3 1 j cap2 (((bD st k).take j).map fun p=> .int .i64 (p.root:Int)):: .box gp 394 [.int .i64 (i:Int),.int .i64 (cE ((bD st k).take j):Int),.bool (decide (n.kind=3))]:: .own A 394 3 st.length cap (st.flatMap uL)::Hv∧j≤k) (fun j=>k - j) 0 ?_ ?_
    ·
     refine ⟨_,_,?_,?_,⟨none,0,rfl,rfl,by omega⟩⟩
     ·
      exact sB
     ·
      exact mS
    ·
     rintro j _ _ ⟨A2,cap2,rfl,rfl,hjk⟩
     by_cases hj:j<k
     ·
      refine bK (.tl (.tl .hd)) (by omega) fun gs hA=> ?_
      subst hA
      obtain rfl:B=some ⟨gs,0+(st.length - k)*3,none⟩:=by rw [hB,if_neg (by omega)];simp [eE]
      have hjt:j<(bD st k).length:=by omega
      have he:((st.flatMap uL).drop (0+(st.length - k)*3+j*3)).take 3=uL (bD st k)[j]:=by
       rw [show 0+(st.length - k)*3+j*3=(st.length - k+j)*3 by rw [Vt];omega,cf pQ st _ (by omega)]
       simp [bD]
      have hd32:(bD st k)[j].depth≤32:=(hok _ (jh (UA hjt))).2
      repeat' (first|(apply ak;exact rfl;apply aj;exact rfl;exact rfl;omega)|(apply ak;exact rfl;apply Dy;exact rfl;exact pK;exact he;exact rfl)|(apply ak;exact rfl;apply lp;exact rfl;exact rfl;(simp only [maxLen];omega))|(apply ak;exact rfl;apply Gk;exact rfl;exact rfl)|(apply bi;(iterate 3 exact rfl);(repeat first|exact .hd|apply Sel.tl|apply In.tl);(intro w hm;exact hm.cells_own (by (repeat first|exact .hd|apply Sel.tl|apply In.tl)));exact rfl;(simp [Value.oneCell',sl]);omega;(simp only [maxLen];omega);(intro A' cap' hA'))|refine sT ?_|refine sM fun _=> ?_|(refine sC ?_ ?_<;>intro hb<;>try omega)|fail)
      have hk1:((bD st k).take (j+1)).map (fun p=>Value.int .i64 (p.root:Int))=((bD st k).take j).map (fun p=>Value.int .i64 (p.root:Int))++ [.int .i64 ((bD st k)[j].root:Int)]:=by
       rw [TP hjt,UG];rfl
      refine ⟨j+1,_,_,?_,?_,?_,⟨A',cap',rfl,rfl,hj⟩⟩
      ·
       omega
      ·
       exact sB
      ·
       rw [hk1,tF _ _ hjt]
       exact mS
     ·
      have e:j=k:=by omega
      subst e
      have htk:(bD st j).take j=bD st j:=UE (by omega)
      rw [htk]
      have hd33:=l3 (bD st j) fun p hp=>(hok p (jh hp)).2
      repeat' (first|refine sT ?_|refine sM fun _=> ?_|(refine sC ?_ ?_<;>intro hb<;>try omega)|fail)
      ·
       refine cA (.inl rfl) Tryz.results272 rfl (.drop .hd (.drop .hd (.drop .hd (.refl _)))) ?_
       rw [hrest,if_pos (by omega)]
       exact ⟨rfl,hinv⟩
      rw [if_neg (by omega)] at hrest
      refine Dt (.tl (.tl .hd)) (st.length - j) (by omega) ?_
      refine j5 10 rfl (by kernel_rfl) ?_
      ((with_reducible apply aV (i:=0));exact rfl;exact rfl;decide+kernel;decide+kernel;decide+kernel;exact nP;(intro _ _;exact vP))
      ((with_reducible apply aV (i:=1));exact rfl;exact rfl;decide+kernel;decide+kernel;decide+kernel;exact nP;(intro _ _;exact vP))
      ((with_reducible apply aV (i:=2));exact rfl;exact rfl;decide+kernel;decide+kernel;decide+kernel;exact nP;(intro _ _;exact vP))
      ((with_reducible apply aV (i:=3));exact rfl;exact rfl;decide+kernel;decide+kernel;decide+kernel;exact nP;(intro _ _;exact vP))
      ((with_reducible apply aV (i:=4));exact rfl;exact rfl;decide+kernel;decide+kernel;decide+kernel;exact nP;(intro _ _;exact vP))
      ((with_reducible apply aV (i:=5));exact rfl;exact rfl;decide+kernel;decide+kernel;decide+kernel;exact nP;(intro _ _;exact vP))
      repeat' (first|(apply aL (i:=6);exact rfl;decide+kernel)|(apply aL (i:=7);exact rfl;decide+kernel)|(apply aL (i:=8);exact rfl;decide+kernel)|(apply aL (i:=9);exact rfl;decide+kernel)|(apply j0;decide+kernel)|(apply bi;(iterate 3 exact rfl);(repeat first|exact .hd|apply Sel.tl|apply In.tl);(intro w hm;exact hm.cells_own (by (repeat first|exact .hd|apply Sel.tl|apply In.tl)));exact rfl;(simp [Value.oneCell',sl]);omega;(simp only [maxLen];omega);(intro A' cap' hA'))|refine sT ?_|refine sM fun _=> ?_|(refine sC ?_ ?_<;>intro hb<;>try omega)|fail)
      have hcont:(st.flatMap uL).take ((st.length - j)*3)++ [.int .i64 (i:Int),.int .i64 (cE (bD st j):Int),.bool (decide (n.kind=3))]=(st.take (st.length - j)++ [(⟨i,cE (bD st j),decide (n.kind=3)⟩:Pt)]).flatMap uL:=by
       rw [mO pQ,Ua];rfl
      have hvis:=hV vs ((bD st j).map Pt.root) (cE (bD st j)) A2 cap2 Hv [.own A' 394 3 (st.length - j+1) cap' ((st.take (st.length - j)++ [(⟨i,cE (bD st j),decide (n.kind=3)⟩:Pt)]).flatMap uL)] hinv (by rw [Uf];omega) (by omega) (by intro q hq;obtain ⟨p,hp,rfl⟩:=Ul.1 hq;rw [hvl];exact (hok p (jh hp)).1)
      simp only [Uf,htl,hvl,VM] at hvis
      rw [hcont]
      (with_reducible apply ma)
      ·
       exact rfl
      ·
       exact rfl
      ·
       infer_instance
      ·
       exact rfl
      ·
       refine hvis.msub ?_
       refine MSub.pick (T:=_) pK (MSub.snoc pK ?_)
       exact mS
      rintro v H' ⟨H1,hI1,hM1⟩
      repeat' (first|(apply ak;exact rfl;apply lp;exact rfl;exact rfl;(simp only [maxLen];omega))|refine sT ?_|refine sM fun _=> ?_|(refine sC ?_ ?_<;>intro hb<;>try omega)|fail)
      refine ⟨i+1,_,_,?_,?_,?_,⟨st.take (st.length - j)++ [(⟨i,cE (bD st j),decide (n.kind=3)⟩:Pt)],vs++ [((bD st j).map Pt.root,cE (bD st j))],A',cap',H1,rfl,rfl,⟨?_,?_,?_,?_,?_,?_⟩⟩⟩
      ·
       omega
      ·
       have e1:(st.take (st.length - j)++ [(⟨i,cE (bD st j),decide (n.kind=3)⟩:Pt)]).length=st.length - j+1:=by simp
       rw [e1]
       exact sB
      ·
       have e1:(st.take (st.length - j)++ [(⟨i,cE (bD st j),decide (n.kind=3)⟩:Pt)]).length=st.length - j+1:=by simp
       rw [e1]
       exact hM1.rot
      ·
       omega
      ·
       simp [hvl]
      ·
       exact hI1
      ·
       exact hrest
      ·
       intro p hp
       rcases Ub.1 hp with hp|hp
       ·
        exact ⟨Nat.lt_succ_of_lt (hok p (U1 hp)).1,(hok p (U1 hp)).2⟩
       ·
        have e:p=⟨i,cE (bD st j),decide (n.kind=3)⟩:=by simpa using hp
        subst e
        exact ⟨V3 i,by show cE (bD st j)≤32;omega⟩
      ·
       simp;omega
   ·
    have hfie: ∀ w,aD Tryz.prog 307 [.agg (bR n).toArray] w (.int .i64 (bE n)):=fun w=>AW n w
    rw [if_pos hfe] at hrest
    repeat' (first|(apply ak;exact rfl;apply aj;exact rfl;exact rfl;exact hlt)|(apply ak;exact rfl;apply aP;exact rfl;exact hrn;exact rfl)|(apply aa;exact rfl;exact rfl;(intro w hm;exact hfie w))|refine sT ?_|refine sM fun _=> ?_|(refine sC ?_ ?_<;>intro hb<;>try omega)|fail)
    refine cA (.inl rfl) Tryz.results272 rfl (.drop .hd (.drop .hd (.refl _))) ?_
    rw [hrest]
    exact ⟨rfl,hinv⟩
  ·
   have e:i=L.length:=by omega
   subst e
   rw [UB,fH] at hrest
   repeat' (first|refine sT ?_|refine sM fun _=> ?_|(refine sC ?_ ?_<;>intro hb<;>try omega)|fail)
   ·
    refine cA (.inl rfl) Tryz.results272 rfl (.drop .hd (.refl _)) ?_
    rw [hrest,if_neg (by omega)]
    exact ⟨rfl,hinv⟩
   ·
    refine cA (.inl rfl) Tryz.results272 rfl (.drop .hd (.refl _)) ?_
    rw [hrest,if_pos (by omega)]
    exact ⟨rfl,hinv⟩
def jV (L:List Nd) (wide:Bool):Int × List mU:=
 if 256<L.length then (5,[]) else if L.length=0 then (4,[])
 else if (fH L L 0 [] []).1≠0 then fH L L 0 [] []
 else if wide=false∧jq L (L.length - 1)=3 then (4,(fH L L 0 [] []).2) else (0,(fH L L 0 [] []).2)
set_option maxHeartbeats 2000000 in
theorem Ok (L:List Nd) (wide:Bool) (tv:Value) (w0:World) (ht:Reads w0 tv L.length (L.flatMap bR)) (f:FuncId) [hf:Callable Tryz.prog f] (caps:List Value) (Inv:List mU→List Blk→Prop) (hV:IK L.length w0 f caps Inv)
  (H:List Blk) (hI:Inv [] H):FnIn Tryz.prog 223 [tv,.bool wide,.func (.func f) #[] caps.toArray] w0 H fun v H' =>v= .int .i64 (jV L wide).1∧Inv (jV L wide).2 H' :=by
 have ht' :=ht
 obtain ⟨At,ct,rfl,ht1,ht2,ht3⟩:=ht
 refine cF Tryz.func223 rfl Tryz.ntmps223 rfl ?_
 by_cases h256:256<L.length
 ·
  repeat' (first|refine sT ?_|refine sM fun _=> ?_|(refine sC ?_ ?_<;>intro hb<;>try omega)|fail)
  refine cA (.inl rfl) Tryz.results223 rfl (.refl _) ?_
  rw [jV,if_pos h256]
  exact ⟨rfl,hI⟩
 by_cases h0:L.length=0
 ·
  repeat' (first|refine sT ?_|refine sM fun _=> ?_|(refine sC ?_ ?_<;>intro hb<;>try omega)|fail)
  refine cA (.inl rfl) Tryz.results223 rfl (.refl _) ?_
  rw [jV,if_neg h256,if_pos h0]
  exact ⟨rfl,hI⟩
 obtain ⟨gt,ot,rfl,hrt⟩:=ht3 (by omega)
 have hw:=Ka L (by omega) (by omega) _ w0 ht' f caps Inv hV H hI
 have hrl:=hrt.elem dF (L.length - 1) (by omega)
 have hk:jq L (L.length - 1)=(L[L.length - 1]'(by omega)).kind:=jp _
 simp only [jV,if_neg h256,if_neg h0,hk]
 generalize fH L L 0 [] []=r at hw
 generalize (L[L.length - 1]'(by omega))=nl at hrl
 repeat' (first|(apply au;exact rfl;exact rfl;exact hw;(rintro v H' ⟨rfl,hI'⟩))|(apply ak;exact rfl;apply di;exact rfl;exact rfl;omega;omega)|(apply ak;exact rfl;apply aj;exact rfl;exact rfl;omega)|(apply ak;exact rfl;apply eH (off:=0);exact rfl;exact hrl;exact rfl)|refine sT ?_|refine sM fun _=> ?_|(refine sC ?_ ?_<;>intro hb<;>try omega)|fail)
 all_goals refine cA (.inl rfl) Tryz.results223 rfl (.refl _) ?_
 all_goals simp_all
theorem wX (N:Nat) (w0:World) (H0:List Blk):IK N w0 224 [] fun _ H=>H=H0:=by
 rintro vs kids d A cap _ F rfl _ _ _
 refine cF Tryz.func224 rfl Tryz.ntmps224 rfl ?_
 repeat' (first|refine sT ?_|refine sM fun _=> ?_|(refine sC ?_ ?_<;>intro hb<;>try omega)|fail)
 refine fL (.inr rfl) Tryz.results224 (.drop .hd (.refl _)) ⟨_,rfl,.refl _⟩
def dI (L:List Nd):Int:=(jV L false).1
theorem F4 (L:List Nd) (tv:Value) (w:World) (ht:Reads w tv L.length (L.flatMap bR)):aD Tryz.prog 180 [tv] w (.int .i64 (dI L)):=by
 have ht' :=ht
 obtain ⟨At,ct,rfl,ht1,ht2,ht3⟩:=ht
 refine ax Tryz.func180 rfl Tryz.ntmps180 rfl ?_
 have hw:=Ok L false _ w ht' 224 [] (fun _ H=>H= []) (wX _ w []) [] rfl
 repeat' (first|(apply au;exact rfl;exact rfl;exact hw;(rintro v H' ⟨rfl,rfl⟩))|refine sT ?_|refine sM fun _=> ?_|(refine sC ?_ ?_<;>intro hb<;>try omega)|fail)
 (refine rT1 ?_)
 rfl
def JG (vs:List mU):Nat:=(vs.getLast?.map (·.2)).getD 0
def l4 (L:List Nd):Int × Int:=if dI L≠0 then (0,dI L) else ((JG (jV L false).2:Nat),0)
def fq (ks:List Nat):List Value:=ks.map fun (k:Nat)=> .int .i64 (k:Int)
theorem Cq (ks:List Nat):(fq ks).length=ks.length:=by simp [fq]
def k1:Nd:=⟨1,⟨1,50000,az⟩,aS,0,0,0⟩
def k2:Nd:=⟨2,bV,⟨1,1,1,1⟩,0,0,0⟩
def k3:Nd:=⟨3,bV,⟨1,1,2,2⟩,0,0,0⟩
def k6:Nd:=⟨6,bV,aS,1,0,0⟩
def k7:Nd:=⟨7,bV,aS,0,9,2⟩
def j7:Nd:=⟨7,bV,aS,0,46,1⟩
theorem Reads.of_row {w0 w:World} {H:List Blk} {g t sz m c:Nat} {xs:List Value} (hm:Mem w0 w H) (hi:In (.own (some g) t sz m c xs) H):Reads w (.slice (some ⟨g,0,none⟩) m c) m xs:=Reads.of_own hm hi
end Go.SL
namespace Go.SL
open Go Go.Proofs
attribute [local irreducible] W WL WQ WG WA VOp thn blk bF ba FnAt FnIn
def eP (n:Nd):Bool:=decide (n.kind=2)||decide (n.kind=3)
theorem KH (n:Nd) (w:World):aD Tryz.prog 226 [.agg (bR n).toArray] w (.bool (eP n)):=by
 refine ax Tryz.func226 rfl Tryz.ntmps226 rfl ?_
 repeat' (first|refine sT ?_|refine sM fun _=> ?_|(refine sC ?_ ?_<;>intro hb<;>try omega)|fail)
 all_goals
  (refine rT1 ?_)
  simp [eP, *]
theorem FA (r:Rct):(aN r).length=4:=rfl
theorem Sl (L:List Rct) (lv:Value) (w:World) (hl:Reads w lv L.length (L.flatMap aN)):aD Tryz.prog 163 [lv] w (.bool (L.all aH)):=by
 obtain ⟨Al,cl,rfl,hl1,hl2,hl3⟩:=hl
 refine ax Tryz.func163 rfl Tryz.ntmps163 rfl ?_
 repeat' (first|refine sT ?_|refine sM fun _=> ?_|(refine sC ?_ ?_<;>intro hb<;>try omega)|fail)
 refine jf (fun i:Nat=> [(5,.slice Al L.length cl),(6,.int .i64 (L.length:Int)),(7,.int .i64 (i:Int))]) (fun _=> []) (fun i=>i≤L.length∧L.all aH=(L.drop i).all aH) (fun i=>L.length - i) 0 ⟨by omega,rfl⟩ ?_ ?_ ?_
 ·
  exact sB
 ·
  exact mS
 ·
  rintro i ⟨hi,hrec⟩
  by_cases hlt:i<L.length
  ·
   obtain ⟨gl,ol,rfl,hrl⟩:=hl3 (by omega)
   have he1:=hrl.elem FA i hlt
   rw [TN hlt,VA] at hrec
   generalize L[i]=r at hrec he1
   repeat' (first|(apply aa;exact rfl;exact rfl;(intro w hm;exact ko r w))|refine sT ?_|refine sN ?_|refine sO ?_|refine sM fun _=> ?_|(refine sC ?_ ?_<;>intro hb<;>try omega)|fail)
   ·
    (refine rT1 ?_)
    rw [hrec]
    cases hq:aH r<;>simp [dY,hq] at hb ⊢
   ·
    refine ⟨i+1,⟨by omega,?_⟩,by omega,?_,?_⟩
    ·
     rw [hrec]
     cases hq:aH r<;>simp [dY,hq] at hb ⊢
    ·
     exact sB
    ·
     exact mS
  ·
   have e:i=L.length:=by omega
   subst e
   repeat' (first|refine sT ?_|refine sM fun _=> ?_|(refine sC ?_ ?_<;>intro hb<;>try omega)|fail)
   (refine rT1 ?_)
   rw [hrec,UB]
   rfl
def gX (a b:Rct):Rct:=⟨if a.c1<b.c1 then b.c1 else a.c1,if a.r1<b.r1 then b.r1 else a.r1,if b.c2<a.c2 then b.c2 else a.c2,if b.r2<a.r2 then b.r2 else a.r2⟩
def dZ (a b:Rct):Rct × Bool:=if [a,b,gX a b].all aH=true then (gX a b,true) else (aS,false)
theorem CZ (a b:Rct) (w:World):aD Tryz.prog 130 [.agg (aN a).toArray,.agg (aN b).toArray] w (.tuple #[.agg (aN (dZ a b).1).toArray,.bool (dZ a b).2]):=by
 refine ax Tryz.func130 rfl Tryz.ntmps130 rfl ?_
 have hall:=fun (lv:Value) (w:World)=>Sl [a,b,gX a b] lv w
 unfold dZ
 generalize [a,b,gX a b].all aH=q at hall
 repeat' (first|(apply aa;exact rfl;exact rfl;(intro w hm;exact hall _ w (Reads.of_row hm pK)))|refine sT ?_|refine sM fun _=> ?_|(refine sC ?_ ?_<;>intro hb<;>try omega)|fail)
 ·
  refine Js (.inl rfl) Tryz.results130 rfl pK rfl rfl (MSub.nil _) ?_
  simp [hb,aS,aN]
 ·
  refine Js (.inl rfl) Tryz.results130 rfl pK rfl rfl (MSub.nil _) ?_
  simp [hb,gX,aN]
structure Pc where
 m0:Int
 m1:Int
 v0:Int
 v1:Int
 ok:Bool
def Bb (p:Pc):List Value:= [.int .i64 p.m0,.int .i64 p.m1,.int .i64 p.v0,.int .i64 p.v1,.bool p.ok]
def lF (p:Pc) (c:Int):Pc:=⟨p.m0+1,p.m1,min (26*p.v0+(c - 65)+1) 1025,p.v1,p.ok && decide (p.m1=0)⟩
def gW (p:Pc) (c:Int):Pc:=⟨p.m0,p.m1+1,p.v0,min (10*p.v1+(c - 48)) 1025,p.ok && (decide (c≠48)||decide (0<p.m1))⟩
structure Pc.Fit (p:Pc) (n:Int):Prop where
 m0:0≤p.m0∧p.m0≤n
 m1:0≤p.m1∧p.m1≤n
 v0:0≤p.v0∧p.v0≤1025
 v1:0≤p.v1∧p.v1≤1025
theorem Cn (a b:Int):(if b<a then b else a)=min a b:=by omega
theorem LP (p:Pc) (c:Int) (n:Int) (hf:p.Fit n) (hn:n≤1000000) (h1:65≤c) (h2:c≤90) (g:Nat) (R:List Blk) (w0:World):
  FnIn Tryz.prog 331 [.pointer (some ⟨g,0,none⟩),.int .u8 c,.bool true] w0 (.box g 398 (Bb p)::R) fun v H=>v= .tuple #[]∧H= .box g 398 (Bb (lF p c))::R:=by
 refine cF Tryz.func331 rfl Tryz.ntmps331 rfl ?_
 obtain ⟨a1,a2⟩:=hf.m0
 obtain ⟨a3,a4⟩:=hf.m1
 obtain ⟨a5,a6⟩:=hf.v0
 obtain ⟨a7,a8⟩:=hf.v1
 have hwc:IntKind.u8.wrap (c - 65)=c - 65:=wrap_u8 (by omega) (by omega)
 have hwc2:IntKind.i64.wrap (c - 65)=c - 65:=I64.wrap ⟨by omega,by omega⟩
 repeat' (first|(refine qZ (id:=1) (ι:=Bool) (fun _=> [(0,.pointer (some ⟨g,0,none⟩)),(1,.int .u8 c)]) (fun b=> .box g 398 [.int .i64 p.m0,.int .i64 p.m1,.int .i64 p.v0,.int .i64 p.v1,.bool b]::R) (fun b=>b=(p.ok && decide (p.m1=0))) ?_ ?_)|refine sT ?_|refine sT2 ?_|refine sG2 ?_|refine sJ ?_|refine sJG ?_|refine sG ?_|refine sM fun _=> ?_|(refine sC ?_ ?_<;>intro hb<;>try omega)|exact cT|fail)
 ·
  (apply cO;rotate_left 1;exact sB;exact mS)
  rw [hb];rfl
 ·
  (apply cO;rotate_left 1;exact sB;exact mS)
  rw [hb];rfl
 rintro _ rfl
 repeat' (first|(refine p6 (id:=2) 9 (.box g 398 [.int .i64 (p.m0+1),.int .i64 p.m1,.int .i64 p.v0,.int .i64 p.v1,.bool (p.ok && decide (p.m1=0))]::R) (by kernel_rfl) (by kernel_rfl) rfl ?_)|(refine p6 (id:=3) 16 (.box g 398 [.int .i64 (p.m0+1),.int .i64 p.m1,.int .i64 (min (26*p.v0+(c - 65)+1) 1025),.int .i64 p.v1,.bool (p.ok && decide (p.m1=0))]::R) (by kernel_rfl) (by kernel_rfl) rfl ?_)|(apply Dn (f:=60);exact rfl;decide+kernel;exact rfl;apply d9;exact rfl;exact rfl;exact hwc)|(apply Dn (f:=60);exact rfl;decide+kernel;exact rfl;apply bB;exact rfl;exact hwc2)|(apply uW;exact rfl;exact rfl;exact .hd;exact rfl;exact rfl;(try rw [Cn]);exact .refl _)|refine sT ?_|refine sT2 ?_|refine sG2 ?_|refine sJ ?_|refine sJG ?_|refine sG ?_|refine sM fun _=> ?_|(refine sC ?_ ?_<;>intro hb<;>try omega)|exact cT|fail)
 exact fL (.inl rfl) rfl (.refl _) ⟨rfl,rfl⟩
theorem LQ (p:Pc) (c:Int) (n:Int) (hf:p.Fit n) (hn:n≤1000000) (h1:48≤c) (h2:c≤57) (g:Nat) (R:List Blk) (w0:World):
  FnIn Tryz.prog 331 [.pointer (some ⟨g,0,none⟩),.int .u8 c,.bool false] w0 (.box g 398 (Bb p)::R) fun v H=>v= .tuple #[]∧H= .box g 398 (Bb (gW p c))::R:=by
 refine cF Tryz.func331 rfl Tryz.ntmps331 rfl ?_
 obtain ⟨a1,a2⟩:=hf.m0
 obtain ⟨a3,a4⟩:=hf.m1
 obtain ⟨a5,a6⟩:=hf.v0
 obtain ⟨a7,a8⟩:=hf.v1
 have hwc:IntKind.u8.wrap (c - 48)=c - 48:=wrap_u8 (by omega) (by omega)
 have hwc2:IntKind.i64.wrap (c - 48)=c - 48:=I64.wrap ⟨by omega,by omega⟩
 repeat' (first|(refine qZ (id:=4) (ι:=Bool) (fun _=> [(0,.pointer (some ⟨g,0,none⟩)),(1,.int .u8 c)]) (fun b=> .box g 398 [.int .i64 p.m0,.int .i64 p.m1,.int .i64 p.v0,.int .i64 p.v1,.bool b]::R) (fun b=>b=(p.ok && (decide (c≠48)||decide (0<p.m1)))) ?_ ?_)|refine sT ?_|refine sT2 ?_|refine sG2 ?_|refine sJ ?_|refine sJG ?_|refine sG ?_|refine sM fun _=> ?_|(refine sC ?_ ?_<;>intro hb<;>try omega)|exact cT|fail)
 ·
  (apply cO;rotate_left 1;exact sB;exact mS)
  rename_i h3
  rw [h3,decide_eq_true hb];rfl
 ·
  (apply cO;rotate_left 1;exact sB;exact mS)
  rename_i h3
  rw [h3,decide_eq_false hb];rfl
 ·
  (apply cO;rotate_left 1;exact sB;exact mS)
  rw [hb];rfl
 rintro _ rfl
 repeat' (first|(refine p6 (id:=5) 9 (.box g 398 [.int .i64 p.m0,.int .i64 (p.m1+1),.int .i64 p.v0,.int .i64 p.v1,.bool (p.ok && (decide (c≠48)||decide (0<p.m1)))]::R) (by kernel_rfl) (by kernel_rfl) rfl ?_)|(refine p6 (id:=6) 15 (.box g 398 [.int .i64 p.m0,.int .i64 (p.m1+1),.int .i64 p.v0,.int .i64 (min (10*p.v1+(c - 48)) 1025),.bool (p.ok && (decide (c≠48)||decide (0<p.m1)))]::R) (by kernel_rfl) (by kernel_rfl) rfl ?_)|(apply Dn (f:=60);exact rfl;decide+kernel;exact rfl;apply d9;exact rfl;exact rfl;exact hwc)|(apply Dn (f:=60);exact rfl;decide+kernel;exact rfl;apply bB;exact rfl;exact hwc2)|(apply uW;exact rfl;exact rfl;exact .hd;exact rfl;exact rfl;(try rw [Cn]);exact .refl _)|refine sT ?_|refine sT2 ?_|refine sG2 ?_|refine sJ ?_|refine sJG ?_|refine sG ?_|refine sM fun _=> ?_|(refine sC ?_ ?_<;>intro hb<;>try omega)|exact cT|fail)
 exact fL (.inr rfl) rfl (.refl _) ⟨rfl,rfl⟩
def cH (p:Pc) (c:Int):Pc:=if 65≤upC c∧upC c≤90 then lF p (upC c) else if 48≤c∧c≤57 then gW p c else ⟨p.m0,p.m1,p.v0,p.v1,false⟩
def pc0:Pc:=⟨0,0,0,0,true⟩
theorem HQ {p:Pc} {c:Int} (h1:97≤c) (h2:c≤122):cH p c=lF p (c - 32):=by
 have e:upC c=c - 32:=by rw [upC,if_pos ⟨h1,h2⟩]
 rw [cH,e,if_pos (by omega)]
theorem KM {p:Pc} {c:Int} (h1:65≤c) (h2:c≤90):cH p c=lF p c:=by
 have e:upC c=c:=by rw [upC,if_neg (by omega)]
 rw [cH,e,if_pos (by omega)]
theorem Jg {c:Int} (h: ¬ (97≤c∧c≤122)):upC c=c:=by rw [upC,if_neg h]
theorem xT {p:Pc} {c:Int} (h1:48≤c) (h2:c≤57):cH p c=gW p c:=by
 rw [cH,Jg (by omega),if_neg (by omega),if_pos ⟨h1,h2⟩]
theorem AC {p:Pc} {c:Int} (h: ¬ (97≤c∧c≤122)) (h2: ¬ (65≤c∧c≤90)) (h3: ¬ (48≤c∧c≤57)):cH p c=⟨p.m0,p.m1,p.v0,p.v1,false⟩:=by
 rw [cH,Jg h,if_neg h2,if_neg h3]
theorem HR {p:Pc} {n:Int} (h:p.Fit n) (c:Int):(cH p c).Fit (n+1):=by
 obtain ⟨⟨a1,a2⟩,⟨a3,a4⟩,⟨a5,a6⟩,⟨a7,a8⟩⟩:=h
 unfold cH
 split
 ·
  exact ⟨⟨by simp only [lF];omega,by simp only [lF];omega⟩,⟨a3,by simp only [lF];omega⟩,⟨by simp only [lF];omega,by simp only [lF];omega⟩,⟨a7,a8⟩⟩
 ·
  split
  ·
   exact ⟨⟨a1,by simp only [gW];omega⟩,⟨by simp only [gW];omega,by simp only [gW];omega⟩,⟨a5,a6⟩,⟨by simp only [gW];omega,by simp only [gW];omega⟩⟩
  ·
   exact ⟨⟨a1,by dsimp only;omega⟩,⟨a3,by dsimp only;omega⟩,⟨a5,a6⟩,⟨a7,a8⟩⟩
def vY (l:List Int):Pc:=l.foldl cH pc0
theorem FV (a:ByteArray) (ha:a.size≤100000) (w:World):aD Tryz.prog 313 [.string a] w (.agg (Bb (vY (ap a))).toArray):=by
 refine ax Tryz.func313 rfl Tryz.ntmps313 rfl ?_
 have hl:=aw a
 repeat' (first|refine sT ?_|refine sT2 ?_|refine sM fun _=> ?_|(refine sC ?_ ?_<;>intro hb<;>try omega)|exact cT|fail)
 rename_i g2 g3
 refine ay [0,2,3,9] rfl (fun x:Nat × Pc=> [(10,.int .i64 (x.1:Int))]) (fun x=> [.box g3 398 (Bb x.2),.box g2 398 [.int .i64 0,.int .i64 0,.int .i64 0,.int .i64 0,.bool false]]) (fun x=>x.1≤a.size∧x.2.Fit x.1∧vY (ap a)=((ap a).drop x.1).foldl cH x.2) (fun x=>a.size - x.1) (0,pc0) ⟨TW _,⟨⟨by decide,by decide⟩,⟨by decide,by decide⟩,⟨by decide,by decide⟩,⟨by decide,by decide⟩⟩,rfl⟩ sB mS ?_
 rintro ⟨i,p⟩ ⟨hi,hf,hr⟩
 dsimp only at hi hf hr ⊢
 by_cases hlt:i<a.size
 ·
  rw [bz hlt,UK] at hr
  have hc:=uO a i
  generalize hcd:bat a i=c at hr hc
  have hf2:=HR hf c
  repeat' (first|(apply ak (d:=15);exact rfl;exact hcd ▸ bh rfl rfl hlt)|(apply ak (d:=38);exact rfl;apply d9;exact rfl;exact rfl;exact wrap_u8 (by omega) (by omega))|(apply au (d:=41);exact rfl;exact rfl;(first|exact FnIn.msub (LP p _ _ hf (by omega) (by omega) (by omega) _ _ _) (.pick pK (.refl _))|exact FnIn.msub (LQ p _ _ hf (by omega) (by omega) (by omega) _ _ _) (.pick pK (.refl _)));rintro _ _ ⟨rfl,rfl⟩)|refine sT ?_|refine sT2 ?_|refine sN ?_|refine sM fun _=> ?_|(refine sC ?_ ?_<;>intro hb<;>try omega)|exact cT|fail)
  all_goals
   refine ⟨(i+1,cH p c),⟨hlt,by have:=hf2;simpa using this,hr⟩,(by dsimp only;omega),sB,sB,?_⟩
   dsimp only
   first
   |(rw [HQ (by omega) (by omega)];exact mS;done)
   |(rw [KM (by omega) (by omega)];exact mS;done)
   |(rw [xT (by omega) (by omega)];exact mS;done)
   |(rw [AC (by omega) (by omega) (by omega)];exact mS;done)
 ·
  have e:i=a.size:=by omega
  subst e
  rw [Uk (by omega),List.foldl_nil] at hr
  rw [hr]
  repeat' (first|refine sT ?_|refine sT2 ?_|refine sM fun _=> ?_|(refine sC ?_ ?_<;>intro hb<;>try omega)|exact cT|fail)
  exact KE (.inl rfl) rfl rfl .hd rfl (MSub.nil _) rfl
def Bm (l:List Int):Int × Int × Int:=
 if (vY l).ok=false∨(vY l).m0=0∨(vY l).m1=0 then (0,0,4)
 else if valid (vY l).v0 (vY l).v1 then ((vY l).v0,(vY l).v1,0) else (0,0,3)
theorem CX (a:ByteArray) (ha:a.size≤100000) (w:World):aD Tryz.prog 284 [.string a] w (.tuple #[.agg #[.int .i64 (Bm (ap a)).1,.int .i64 (Bm (ap a)).2.1],.int .i64 (Bm (ap a)).2.2]):=by
 refine ax Tryz.func284 rfl Tryz.ntmps284 rfl ?_
 unfold Bm
 generalize hp:vY (ap a)=p
 have hR:=FV a ha
 rw [hp] at hR
 repeat' (first|(apply aa;exact rfl;exact rfl;(intro w hm;exact hR w))|(apply aa;exact rfl;exact rfl;(intro w hm;exact iJ p.v0 p.v1 w))|refine sT ?_|refine sT2 ?_|refine sM fun _=> ?_|(refine sC ?_ ?_<;>intro hb<;>try omega)|exact cT|fail)
 all_goals
  (refine jU ?_)
  simp_all
def bn (a b:Rf):Bool:=decide (a.row<b.row)||(decide (a.row=b.row) && decide (a.col<b.col))
theorem Qs (a b:Rf) (w:World):aD Tryz.prog 60 [.agg (aC a).toArray,.agg (aC b).toArray] w (.bool (bn a b)):=by
 refine ax Tryz.func60 rfl Tryz.ntmps60 rfl ?_
 repeat' (first|refine sT ?_|refine sM fun _=> ?_|(refine sC ?_ ?_<;>intro hb<;>try omega)|exact cT|fail)
 all_goals ((refine rT1 ?_);((try simp only [← Int.not_lt] at*);simp_all [bn, -Int.not_lt, -Int.not_le,← Int.not_lt]))
theorem OG (a:Rf) (w:World):aD Tryz.prog 140 [.agg (aC a).toArray] w (.agg (aN (fR a.col a.row)).toArray):=by
 refine ax Tryz.func140 rfl Tryz.ntmps140 rfl ?_
 repeat' (first|refine sT ?_|refine sM fun _=> ?_|(refine sC ?_ ?_<;>intro hb<;>try omega)|exact cT|fail)
 (refine eRC ?_)
 rfl
def cj (r:Rct) (a:Rf):Bool:=decide (r.c1≤a.col) && decide (a.col≤r.c2) && decide (r.r1≤a.row) && decide (a.row≤r.r2)
theorem IU (r:Rct) (a:Rf) (w:World):aD Tryz.prog 59 [.agg (aN r).toArray,.agg (aC a).toArray] w (.bool (cj r a)):=by
 refine ax Tryz.func59 rfl Tryz.ntmps59 rfl ?_
 repeat' (first|refine sT ?_|refine sM fun _=> ?_|(refine sC ?_ ?_<;>intro hb<;>try omega)|exact cT|fail)
 all_goals ((refine rT1 ?_);((try simp only [← Int.not_lt] at*);simp_all [cj, -Int.not_lt, -Int.not_le,← Int.not_lt]))
end Go.SL
namespace Go.SL
open Go Go.Proofs
attribute [local irreducible] W WL WQ WG WA VOp thn blk bF scp ba FnAt FnIn
set_option maxRecDepth 10000 in
theorem FJ (f:FuncId) [Callable Tryz.prog f] (caps:List Value) (g:Int→Int) (a:ByteArray) (ha:a.size≤1000000) (w:World) (hf: ∀ c w' H,0≤c→c<256→Mem w w' H→aD Tryz.prog f ([.int .u8 c]++caps) w' (.int .u8 (g c))):
  FnAt Tryz.prog 231 [.string a,.func (.func f) #[] caps.toArray] w fun v H=> ∃ gb cap,v= .slice (some ⟨gb,0,none⟩) a.size cap∧H= [.byt gb 5 a.size cap (((ap a).map g).map (Value.int .u8))]:=by
 refine ax Tryz.func231 rfl Tryz.ntmps231 rfl ?_
 repeat' (first|(apply mW;exact rfl;exact rfl;intro gb cap)|refine sT ?_|refine sM fun _=> ?_|(refine sC ?_ ?_<;>intro hb<;>try omega)|fail)
 refine jf (fun i:Nat=> [(5,.slice (some ⟨gb,0,none⟩) a.size cap),(10,.slice (some ⟨gb,0,none⟩) a.size cap),(11,.int .i64 (a.size:Int)),(12,.int .i64 (i:Int)),(1,.func (.func f) #[] caps.toArray)])
  (fun i=> [.byt gb 5 a.size cap ((((ap a).take i).map g++(ap a).drop i).map (Value.int .u8))]) (fun i=>i≤a.size) (fun i=>a.size - i) 0 (by omega) ?_ ?_ ?_
 ·
  exact sB
 ·
  rw [qt];simp only [U7,UQ,TL,UZ];exact mS
 ·
  intro i hi
  have hl:=aw a
  by_cases hlt:i<a.size
  ·
   have hil:i<(ap a).length:=by omega
   have hok:=nS a (ap a)[i] (UA hil)
   have hget:((((ap a).take i).map g++(ap a).drop i).map (Value.int .u8))[0+i*1]? =some (.int .u8 (ap a)[i]):=by
    rw [Uq,show 0+i*1=i by omega,Uj (by simp;omega)]
    simp [Vn (Nat.le_of_lt hil),UR]
   repeat' (first|(apply ak;exact rfl;apply aj;exact rfl;exact rfl;exact hlt)|(apply ak;exact rfl;apply kL;exact rfl;exact .hd;exact hget)|(apply l9;exact rfl;exact rfl;infer_instance;exact rfl;(intro w' hm;exact hf _ w' _ hok.1 hok.2 hm))|(apply mX;exact rfl;exact rfl;exact .hd;exact rfl;(simp;omega))|(apply ak;exact rfl;apply mh;exact rfl;exact rfl;(constructor<;>omega))|refine sT ?_|refine sM fun _=> ?_|(refine sC ?_ ?_<;>intro hb<;>try omega)|fail)
   refine ⟨i+1,by omega,by omega,?_,?_⟩
   ·
    exact sB
   ·
    rw [show 0+i*1=i by omega,xe g (Value.int .u8) (ap a) i hil]
    exact mS
  ·
   have e:i=a.size:=by omega
   subst e
   repeat' (first|refine sT ?_|refine sM fun _=> ?_|(refine sC ?_ ?_<;>intro hb<;>try omega)|fail)
   refine cA (.inl rfl) rfl rfl (.refl _) ⟨gb,cap,rfl,?_⟩
   rw [UE (by omega),Uk (by omega),TR]
set_option maxRecDepth 10000 in
theorem KW (c:Int) (h0:0≤c) (h1:c<256) (ga gb:Nat) (w:World) (ha:Ro w ga 0 [.int .u8 97]) (hb' :Ro w gb 0 [.int .i64 (-32)]):aD Tryz.prog 310 [.int .u8 c,.pointer (some ⟨ga,0,none⟩),.pointer (some ⟨gb,0,none⟩)] w (.int .u8 (upC c)):=by
 refine ax Tryz.func310 rfl Tryz.ntmps310 rfl ?_
 have hwc:IntKind.i64.wrap c=c:=I64.wrap ⟨by omega,by omega⟩
 have h122:IntKind.u8.wrap (97+25)=122:=by decide
 repeat' (first|(apply ak;exact rfl;apply aQ (off:=0);exact ha;exact rfl;exact rfl)|(apply ak;exact rfl;apply aQ (off:=0);exact hb';exact rfl;exact rfl)|(apply ak;exact rfl;apply eY;exact rfl;exact rfl;exact h122)|(apply ak (d:=15);exact rfl;apply bB;exact rfl;exact hwc)|(apply ak (d:=17);exact rfl;apply mh;exact rfl;exact rfl;exact ⟨by omega,by omega⟩)|(apply ak (d:=18);exact rfl;apply bB (c:=c - 32);exact rfl;(rw [show c+ -32=c - 32 by omega];exact wrap_u8 (by omega) (by omega)))|refine sT ?_|refine sM fun _=> ?_|(refine sC ?_ ?_<;>intro hb<;>try omega)|fail)
 all_goals ((refine rT1 ?_);unfold upC;first|rw [if_pos (by omega)]|rw [if_neg (by omega)])
def upB (a:ByteArray):ByteArray:=mkB ((ap a).map upC)
theorem s9 (a:ByteArray):ap (upB a)=(ap a).map upC:=by
 refine pF ?_
 intro c hc
 obtain ⟨d,hd,rfl⟩:=Ul.1 hc
 have:=nS a d hd
 unfold upC
 split<;>omega
set_option maxRecDepth 10000 in
theorem Ny (a:ByteArray) (ha:a.size≤1000000) (w:World):aD Tryz.prog 277 [.string a,.int .u8 97,.int .i64 (-32)] w (.string (upB a)):=by
 refine ax Tryz.func277 rfl Tryz.ntmps277 rfl ?_
 repeat' (first|((with_reducible apply aF (R:=fun v H=> ∃ gb cap,v= .slice (some ⟨gb,0,none⟩) a.size cap∧H= [.byt gb 5 a.size cap (((ap a).map upC).map (Value.int .u8))]));exact rfl;exact rfl;(intro w' hm;exact FJ 310 [_,_] upC a ha w' (fun c w2 H2 h0 h1 hm2=>KW c h0 h1 _ _ w2 ((Ro.of_box hm pK).next hm2) ((Ro.of_box hm pK).next hm2)));(rintro v H' ⟨gb,cap,rfl,rfl⟩))|(apply ak;exact rfl;apply tS;exact rfl;exact .hd;simp [aw])|refine sT ?_|refine sM fun _=> ?_|(refine sC ?_ ?_<;>intro hb<;>try omega)|fail)
 (refine rT1 ?_)
 rfl
set_option maxRecDepth 10000 in
theorem tL (a:ByteArray) (ha:a.size≤1000000) (w:World):aD Tryz.prog 240 [.string a] w (.string (upB a)):=by
 refine ax Tryz.func240 rfl Tryz.ntmps240 rfl ?_
 repeat' (first|(apply aa;exact rfl;exact rfl;(intro w hm;exact Ny a ha w))|refine sT ?_|refine sM fun _=> ?_|(refine sC ?_ ?_<;>intro hb<;>try omega)|fail)
 (refine rT1 ?_)
 rfl
def lV:List Int→Option (List Int)
 | []=>some []
 |c::r=>if c≠34 then (lV r).map (c:: ·) else match r with
  | []=>none
  |d::r' =>if d=34 then (lV r').map (34:: ·) else none
def gT (l:List Int):List Int × Int:=
 if l.length<2∨l.head? ≠some 34∨l.getLast? ≠some 34∨l.all (fun c=>bS c)=false then ([],4)
 else match lV ((l.drop 1).dropLast) with
  |none=>([],4)
  |some r=>if 256<r.length then ([],5) else (r,0)
theorem oY (a:ByteArray):oZ a=(ap a).all fun c=>bS c:=by
 simp only [oZ,ap,List.all_map]
 congr 1
 funext c
 simp only [Function.comp,bS]
 rw [Uy];simp;omega
theorem NI (a:ByteArray) (c:Int) (h:0<a.size):((ap a).getLast? =some c)↔bat a (a.size - 1)=c:=by
 rw [Ve,aw,ig (by omega)]
 simp
theorem DB {a:ByteArray} {i:Nat} (h0:1≤i) (h:i<a.size - 1):(((ap a).drop 1).dropLast).drop (i - 1)=bat a i::(((ap a).drop 1).dropLast).drop i:=by
 have hl:=aw a
 obtain ⟨j,rfl⟩: ∃ j,i=j+1:=⟨i - 1,by omega⟩
 rw [VJ]
 have hlen:(((ap a).drop 1).dropLast).length=a.size - 2:=by simp;omega
 have hlt:j<(((ap a).drop 1).dropLast).length:=by omega
 rw [TN hlt]
 congr 1
 have h1:=ig (a:=a) (i:=j+1) (by omega)
 have h2:(((ap a).drop 1).dropLast)[j]? =some (bat a (j+1)):=by
  rw [List.getElem?_dropLast,if_pos (by simp;omega),UR,VG 1 j,h1]
 rw [TJ hlt] at h2
 exact Option.some.inj h2
theorem tX {c:Int} {r:List Int} (h:c≠34):lV (c::r)=(lV r).map (c:: ·):=by
 rw [lV.eq_def];simp [h]
theorem IL (a:ByteArray) (ha:a.size≤1000000) (w:World):aD Tryz.prog 280 [.string a] w (.tuple #[.string (mkB (gT (ap a)).1),.int .i64 (gT (ap a)).2]):=by
 refine ax Tryz.func280 rfl Tryz.ntmps280 rfl ?_
 have hl:=aw a
 have hp:=sV a ha
 rw [oY] at hp
 have hh:=tr a 34
 have hg:=NI a 34
 by_cases hbad:(ap a).length<2∨(ap a).head? ≠some 34∨(ap a).getLast? ≠some 34∨(ap a).all (fun c=>bS c)=false
 ·
  rw [gT,if_pos hbad]
  repeat' (first|(apply aa;exact rfl;exact rfl;(intro w hm;exact hp w))|refine sT ?_|refine sS ?_|refine sT2 ?_|refine sN ?_|refine sM fun _=> ?_|(refine sC ?_ ?_<;>intro hb<;>try omega)|fail)
  iterate 4 (focus ((refine rT2 ?_);rfl))
  exfalso
  rename_i h1 h2 h3
  rcases hbad with h|h|h|h
  ·
   omega
  ·
   exact h (hh.2 ⟨by omega,Decidable.not_not.1 h2⟩)
  ·
   exact h ((hg (by omega)).2 (Decidable.not_not.1 h3))
  ·
   rw [hb] at h;cases h
 ·
  have hun:gT (ap a)=match lV (((ap a).drop 1).dropLast) with
    |none=>([],4)
    |some r=>if 256<r.length then ([],5) else (r,0):=by rw [gT,if_neg hbad]
  rw [hun]
  simp only [not_or,Decidable.not_not,Bool.not_eq_false] at hbad
  obtain ⟨b1,b2,b3,b4⟩:=hbad
  have b5:=(hh.1 b2).2
  have b6:=(hg (by omega)).1 b3
  rw [b4] at hp
  have hn:(a.size:Int) - 1=((a.size - 1:Nat):Int):=by omega
  generalize hB:((ap a).drop 1).dropLast=B
  have hBl:B.length=a.size - 2:=by rw [← hB];simp;omega
  repeat' (first|(apply aa;exact rfl;exact rfl;(intro w hm;exact hp w))|refine sT ?_|refine sS ?_|refine sT2 ?_|refine sN ?_|refine sM fun _=> ?_|(refine sC ?_ ?_<;>intro hb<;>try omega)|fail)
  all_goals try (exfalso;omega)
  refine aW 5 1 ?_
  refine ay [0,4] rfl (fun x:Nat × List Int × Option Nat × Nat=> [(5,sl x.2.2.1 x.2.1.length x.2.2.2),(6,.int .i64 (x.1:Int))]) (fun x=> [.own x.2.2.1 5 1 x.2.1.length x.2.2.2 (x.2.1.map (Value.int .u8))]) (fun x=>1≤x.1∧x.1≤a.size - 1∧x.2.1.length≤x.1∧lV B=(lV (B.drop (x.1 - 1))).map (x.2.1++ ·)) (fun x=>a.size - x.1) (1,[],none,0) ⟨by omega,by omega,by simp,by simp⟩ sB mS ?_
  rintro ⟨i,out,A,cap⟩ ⟨i1,i2,i3,i4⟩
  dsimp only at i1 i2 i3 i4 ⊢
  by_cases hend:i=a.size - 1
  ·
   have hBd:B.drop (i - 1)= []:=Uk (by omega)
   rw [hBd] at i4
   simp only [lV,UH,TR] at i4
   rw [i4]
   dsimp only
   by_cases hlen:256<out.length
   ·
    rw [if_pos hlen]
    repeat' (first|refine sT ?_|refine sS ?_|refine sT2 ?_|refine sN ?_|refine sM fun _=> ?_|(refine sC ?_ ?_<;>intro hb<;>try omega)|fail)
    all_goals first|(exfalso;omega)|((refine rT2 ?_);rfl)
   ·
    rw [if_neg hlen]
    repeat' (first|(apply ak;exact rfl;apply Gi;exact rfl;exact pK;exact rfl)|refine sT ?_|refine sS ?_|refine sT2 ?_|refine sN ?_|refine sM fun _=> ?_|(refine sC ?_ ?_<;>intro hb<;>try omega)|fail)
    all_goals first|(exfalso;omega)|((refine rT2 ?_);rfl)
  ·
   have hdr:=DB (a:=a) i1 (by omega)
   rw [hB] at hdr
   rw [hdr] at i4
   by_cases hq:bat a i=34
   ·
    rw [hq] at i4
    by_cases h1:i+1=a.size - 1
    ·
     have hBd:B.drop i= []:=Uk (by omega)
     rw [hBd] at i4
     simp only [lV,ne_eq,not_true_eq_false,if_false,WM] at i4
     rw [i4]
     repeat' (first|refine sT ?_|refine sS ?_|refine sT2 ?_|refine sN ?_|refine sM fun _=> ?_|(refine sC ?_ ?_<;>intro hb<;>try omega)|fail)
     all_goals first|(exfalso;omega)|((refine rT2 ?_);rfl)
    ·
     have hdr2:=DB (a:=a) (i:=i+1) (by omega) (by omega)
     rw [hB,VJ] at hdr2
     rw [hdr2] at i4
     by_cases h2:bat a (i+1)=34
     ·
      simp only [lV,ne_eq,not_true_eq_false,if_false,h2,if_true,Vz] at i4
      repeat' (first|(apply aX;(iterate 3 exact rfl);exact pK;exact pK;exact rfl;(simp [Value.oneCell']);omega;(simp only [maxLen];omega);intro g8 c8)|(apply ak (d:=63);exact rfl;apply dP (b:=2);exact rfl;exact rfl;(simp only [maxLen];omega))|refine sT ?_|refine sS ?_|refine sT2 ?_|refine sN ?_|refine sM fun _=> ?_|(refine sC ?_ ?_<;>intro hb<;>try omega)|fail)
      all_goals try (exfalso;omega)
      refine ⟨(i+2,out++ [34],some g8,c8),⟨by dsimp only;omega,by dsimp only;omega,by simp;omega,?_⟩,(by dsimp only;omega),?_,sB,?_⟩
      ·
       dsimp only
       rw [i4,show i+2 - 1=i+1 by omega]
       congr 1
       funext l
       simp
      ·
       simp only [TG,TH]
       exact sB
      ·
       simp only [TG,TH,UG,Ud,UQ]
       exact mS
     ·
      simp only [lV,ne_eq,not_true_eq_false,if_false,h2,WM] at i4
      rw [i4]
      repeat' (first|refine sT ?_|refine sS ?_|refine sT2 ?_|refine sN ?_|refine sM fun _=> ?_|(refine sC ?_ ?_<;>intro hb<;>try omega)|fail)
      all_goals first|(exfalso;omega)|((refine rT2 ?_);rfl)
   ·
    rw [tX hq,Vz] at i4
    repeat' (first|(apply aX;(iterate 3 exact rfl);exact pK;exact pK;exact rfl;(simp [Value.oneCell']);omega;(simp only [maxLen];omega);intro g8 c8)|refine sT ?_|refine sS ?_|refine sT2 ?_|refine sN ?_|refine sM fun _=> ?_|(refine sC ?_ ?_<;>intro hb<;>try omega)|fail)
    all_goals try (exfalso;omega)
    refine ⟨(i+1,out++ [bat a i],some g8,c8),⟨by dsimp only;omega,by dsimp only;omega,by simp;omega,?_⟩,(by dsimp only;omega),?_,sB,?_⟩
    ·
     dsimp only
     rw [i4,show i+1 - 1=i by omega]
     congr 1
     funext l
     simp
    ·
     simp only [TG,TH]
     exact sB
    ·
     simp only [TG,TH,UG,Ud,UQ]
     exact mS
end Go.SL
