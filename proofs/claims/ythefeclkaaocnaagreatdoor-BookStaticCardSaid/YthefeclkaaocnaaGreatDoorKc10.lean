/-
  Lemmas and walks, put together: W5 W6 W7 W8 W9 W10 W27 A2 A3.
-/
import Derived.Test.YthefeclkaaocnaaGreatDoorKc09
set_option linter.unusedSimpArgs false
set_option linter.unusedVariables false
set_option maxRecDepth 20000
namespace Go.SL
open Go Go.Proofs
attribute [local irreducible] W WL WQ WG WA VOp thn blk bi aQ FnIn
def Ci (N:Nat) (w0:World) (f:FuncId) (caps:List Value) (Inv:List lZ→List Blk→Prop):Prop:=
 ∀ (vs:List lZ) (kids:List Nat) (d:Nat) (A:Option Nat) (cap:Nat) (H F:List Blk),Inv vs H→kids.length≤1000→vs.length<N→(∀ k∈kids,k<vs.length)→
  FnIn Tryz.prog f ([.int .i64 (vs.length:Int),sl A kids.length cap,.int .i64 (d:Int)]++caps) w0 (.own A 3 1 kids.length cap (kids.map fun (k:Nat)=> .int .i64 (k:Int))::(H++F))
   fun _ H' => ∃ H1,Inv (vs++ [(kids,d)]) H1∧MSub (H1++F) H'
theorem vp {n:Nd} (h:cI n=0):0≤below n∧below n≤16:=by
 unfold cI at h
 split at h
 ·
  cases h
 ·
  rename_i hk
  split at h
  ·
   rename_i h7
   unfold below
   split
   ·
    omega
   ·
    split
    ·
     omega
    ·
     omega
  ·
   rename_i h7
   have h7' :n.kind=7:=by omega
   have hb:below n=n.n:=by simp [below,h7']
   have hk1:jJ n=true:=by
    cases hh:jJ n
    ·
     exact absurd (Or.inl hh) hk
    ·
     rfl
   simp [jJ,h7'] at hk1
   split at h
   ·
    rename_i ha;omega
   ·
    split at h
    ·
     omega
    ·
     rename_i hc
     have hm:(dY n.fn).2.1≤16:=by
      unfold dY
      (repeat' split)<;>simp
     omega
theorem iK (st:List Pt) (k:Nat) (h:k≤st.length):(bk st k).length=k:=by simp [bk];omega
theorem gH {st:List Pt} {k:Nat} {p:Pt} (h:p∈bk st k):p∈st:=OQ h
theorem DP {w0 w:World} {H:List Blk} {A:Option Nat} {st:List Pt} {cap k:Nat} (hm:Mem w0 w H) (hi:In (.own A 394 3 st.length cap (st.flatMap pq)) H) (h:k≤st.length):
  Reads w (.slice (if cap=st.length - k then A.map fun g=>⟨g,0,none⟩ else (A.map fun g=>(⟨g,0,none⟩:Addr)).map (·.add ((st.length - k)*3))) (st.length - (st.length - k)) (cap - (st.length - k))) (bk st k).length ((bk st k).flatMap pq):=by
 have h1:=(Reads.of_own hm hi).cut (lo:=st.length - k) (hi:=st.length) (sz:=3) (by omega) (MZ _)
 have e1:st.length - (st.length - k)=(bk st k).length:=by rw [iK st k h];omega
 rw [kp lU,e1] at h1
 have e2:((st.drop (st.length - k)).flatMap pq).take ((bk st k).length*3)=(bk st k).flatMap pq:=by
  rw [NE (by rw [aK lU];exact MZ _)];rfl
 rw [e2] at h1
 rw [e1]
 exact h1
theorem oH (top:List Pt) (j:Nat) (h:j<top.length):bV (top.take (j+1))=max (bV (top.take j)) (top[j].depth+1):=by
 unfold bV
 rw [M9 h,PN]
 rfl
theorem jO (top:List Pt) (h: ∀ p∈top,p.depth≤32):bV top≤33:=by
 have: ∀ (l:List Pt) (d:Nat),d≤33→(∀ p∈l,p.depth≤32)→l.foldl (fun d p=>max d (p.depth+1)) d≤33:=by
  intro l
  induction l with
  |nil=>intro d hd _;simpa using hd
  |cons p r ih=>
   intro d hd hp
   have:=hp p MY
   exact ih _ (by show max d (p.depth+1)≤33;omega) fun q hq=>hp q (M7 _ hq)
 exact this top 1 (by omega) h
structure WalkSt (L:List Nd) (Inv:List lZ→List Blk→Prop) (i:Nat) (st:List Pt) (vs:List lZ) (Hv:List Blk):Prop where
 le:i≤L.length
 len:vs.length=i
 inv:Inv vs Hv
 rest:ic L L 0 [] []=ic L (L.drop i) i st vs
 ok: ∀ p∈st,p.root<i∧p.depth≤32
 small:st.length≤i
set_option maxHeartbeats 2000000 in
theorem DD (L:List Nd) (hne:0<L.length) (hlen:L.length≤256) (tv:Value) (w0:World) (ht:Reads w0 tv L.length (L.flatMap bW)) (f:FuncId) [hf:Callable Tryz.prog f] (caps:List Value) (Inv:List lZ→List Blk→Prop) (hV:Ci L.length w0 f caps Inv)
  (H:List Blk) (hI:Inv [] H):FnIn Tryz.prog 272 [tv,.func (.func f) #[] caps.toArray] w0 H fun v H' =>v= .int .i64 (ic L L 0 [] []).1∧Inv (ic L L 0 [] []).2 H' :=by
 have ht' :=ht
 obtain ⟨At,ct,rfl,ht1,ht2,ht3⟩:=ht
 obtain ⟨gt,ot,rfl,hrt⟩:=ht3 hne
 refine dP Tryz.func272 rfl Tryz.ntmps272 rfl ?_
 repeat' (first|refine sT ?_|refine sM fun _=> ?_|(refine sC ?_ ?_<;>intro hb<;>try omega)|fail)
 refine aI 394 3 ?_
 refine CB (fun (i:Nat) s H=> ∃ st vs A cap Hv,s= [(0,.slice (some ⟨gt,ot,none⟩) L.length ct),(1,.func (.func f) #[] caps.toArray),(5,sl A st.length cap),(14,.slice (some ⟨gt,ot,none⟩) L.length ct),(15,.int .i64 (L.length:Int)),(16,.int .i64 (i:Int))]∧
   H= .own A 394 3 st.length cap (st.flatMap pq)::Hv∧WalkSt L Inv i st vs Hv) (fun i=>L.length - i) 0 ?_ ?_
 ·
  refine ⟨_,_,?_,?_,⟨[],[],none,0,H,rfl,rfl,⟨Nl _,rfl,hI,rfl,by simp,MZ _⟩⟩⟩
  ·
   exact sB
  ·
   exact mS
 ·
  rintro i _ _ ⟨st,vs,A,cap,Hv,rfl,rfl,hst⟩
  obtain ⟨hle,hvl,hinv,hrest,hok,hsmall⟩:=hst
  by_cases hlt:i<L.length
  ·
   have hrn:=hrt.elem fC i hlt
   rw [M3 hlt,ic,kS] at hrest
   generalize hn:L[i]=n at hrest hrn
   by_cases hfe:cI n=0
   ·
    obtain ⟨hb0,hb16⟩:=vp hfe
    obtain ⟨k,hk⟩:=Pq hb0
    rw [if_neg (by simp [hfe]),hk,Om] at hrest
    have hbel: ∀ w,ax Tryz.prog 308 [.agg (bW n).toArray] w (.int .i64 (k:Int)):=fun w=>hk ▸ Ip n w
    have hfie: ∀ w,ax Tryz.prog 307 [.agg (bW n).toArray] w (.int .i64 0):=fun w=>hfe ▸ vq n w
    refine LO .hd fun hr1 hr2 hr3=> ?_
    repeat' (first|(apply aj;exact rfl;apply ak;exact rfl;exact rfl;exact hlt)|(apply aj;exact rfl;apply aA;exact rfl;exact hrn;exact rfl)|(apply aj;exact rfl;apply dc;exact rfl;exact rfl;(simp only [maxLen];omega))|(apply aa;exact rfl;exact rfl;(intro w hm;exact hfie w))|(apply aa;exact rfl;exact rfl;(intro w hm;exact hbel w))|(apply fU (id:=9);kernel_rfl;kernel_rfl)|(apply aP;exact rfl;apply jD;exact rfl;exact rfl;omega;omega)|(apply aj;exact rfl;apply jD;exact rfl;exact rfl;omega;omega)|(apply aP;exact rfl;apply kw (hi:=st.length);exact rfl;exact ⟨_,rfl⟩;exact rfl;omega;omega)|(apply d9;exact rfl;exact rfl;(intro w hm;exact JV L n (bk st k) _ _ w (ht'.of_w0 hm) (DP hm pK (by omega)) (fun p hp=>Nat.lt_trans (hok p (gH hp)).1 hlt) (by rw [iK st k (by omega)];omega)))|refine sT ?_|refine sQ ?_|refine sM fun _=> ?_|(refine sC ?_ ?_<;>intro hb<;>try omega)|(refine sCQ ?_ ?_<;>intro hb<;>try omega)|fail)
    ·
     refine cP (.inl rfl) Tryz.results272 rfl (.drop .hd (.drop .hd (.refl _))) ?_
     rw [hrest,if_pos (Or.inl (by omega))]
     exact ⟨rfl,hinv⟩
    ·
     refine cP (.inl rfl) Tryz.results272 rfl (.drop .hd (.drop .hd (.refl _))) ?_
     rw [hrest,if_pos (Or.inr hb)]
     exact ⟨rfl,hinv⟩
    have hkl:k≤st.length:=by omega
    rw [if_neg (by intro h;rcases h with h|h;(· omega);(· rw [hb] at h;cases h))] at hrest
    repeat' (first|(apply aj;exact rfl;apply jD;exact rfl;exact rfl;omega;omega)|(apply Fj (hi:=st.length);exact rfl;exact rfl;exact ⟨_,rfl⟩;exact rfl;omega;omega;(intro B hB))|refine sT ?_|refine sM fun _=> ?_|(refine sC ?_ ?_<;>intro hb<;>try omega)|fail)
    rename_i gn gp
    refine aI 3 1 ?_
    have htl:=iK st k hkl
    refine CB (fun (j:Nat) s H=> ∃ A2 cap2,s= [(0,.slice (some ⟨gt,ot,none⟩) L.length ct),(1,.func (.func f) #[] caps.toArray),(5,sl A st.length cap),(6,.int .i64 (i:Int)),(9,.int .i64 (k:Int)),(10,.pointer (some ⟨gp,0,none⟩)),(11,sl A2 j cap2),
      (14,.slice (some ⟨gt,ot,none⟩) L.length ct),(15,.int .i64 (L.length:Int)),(16,.int .i64 (i:Int)),(54,.slice B (st.length - (st.length - k)) (cap - (st.length - k))),(55,.int .i64 ((st.length - (st.length - k):Nat):Int)),(56,.int .i64 (j:Int))]∧
      H= .own A2 3 1 j cap2 (((bk st k).take j).map fun p=> .int .i64 (p.root:Int)):: .box gp 394 [.int .i64 (i:Int),.int .i64 (bV ((bk st k).take j):Int),.bool (decide (n.kind=3))]:: .own A 394 3 st.length cap (st.flatMap pq)::Hv∧j≤k) (fun j=>k - j) 0 ?_ ?_
    ·
     refine ⟨_,_,?_,?_,⟨none,0,rfl,rfl,by omega⟩⟩
     ·
      exact sB
     ·
      exact mS
    ·
     rintro j _ _ ⟨A2,cap2,rfl,rfl,hjk⟩
     by_cases hj:j<k
     ·
      refine gF (.tl (.tl .hd)) (by omega) fun gs hA=> ?_
      subst hA
      obtain rfl:B=some ⟨gs,0+(st.length - k)*3,none⟩:=by rw [hB,if_neg (by omega)];simp [cw]
      have hjt:j<(bk st k).length:=by omega
      have he:((st.flatMap pq).drop (0+(st.length - k)*3+j*3)).take 3=pq (bk st k)[j]:=by
       rw [show 0+(st.length - k)*3+j*3=(st.length - k+j)*3 by rw [Pj];omega,eO lU st _ (by omega)]
       simp [bk]
      have hd32:(bk st k)[j].depth≤32:=(hok _ (gH (NK hjt))).2
      repeat' (first|(apply aj;exact rfl;apply ak;exact rfl;exact rfl;omega)|(apply aj;exact rfl;apply xO;exact rfl;exact pK;exact he;exact rfl)|(apply aj;exact rfl;apply iJ;exact rfl;exact rfl;(simp only [maxLen];omega))|(apply aj;exact rfl;apply Aw;exact rfl;exact rfl)|(apply cG;(iterate 3 exact rfl);(repeat first|exact .hd|apply Sel.tl|apply In.tl);(intro w hm;exact hm.cells_own (by (repeat first|exact .hd|apply Sel.tl|apply In.tl)));exact rfl;(simp [Value.oneCell',sl]);omega;(simp only [maxLen];omega);(intro A' cap' hA'))|refine sT ?_|refine sM fun _=> ?_|(refine sC ?_ ?_<;>intro hb<;>try omega)|fail)
      have hk1:((bk st k).take (j+1)).map (fun p=>Value.int .i64 (p.root:Int))=((bk st k).take j).map (fun p=>Value.int .i64 (p.root:Int))++ [.int .i64 ((bk st k)[j].root:Int)]:=by
       rw [M9 hjt,Ou];rfl
      refine ⟨j+1,_,_,?_,?_,?_,⟨A',cap',rfl,rfl,hj⟩⟩
      ·
       omega
      ·
       exact sB
      ·
       rw [hk1,oH _ _ hjt]
       exact mS
     ·
      have e:j=k:=by omega
      subst e
      have htk:(bk st j).take j=bk st j:=NE (by omega)
      rw [htk]
      have hd33:=jO (bk st j) fun p hp=>(hok p (gH hp)).2
      repeat' (first|refine sT ?_|refine sM fun _=> ?_|(refine sC ?_ ?_<;>intro hb<;>try omega)|fail)
      ·
       refine cP (.inl rfl) Tryz.results272 rfl (.drop .hd (.drop .hd (.drop .hd (.refl _)))) ?_
       rw [hrest,if_pos (by omega)]
       exact ⟨rfl,hinv⟩
      rw [if_neg (by omega)] at hrest
      refine Fz (.tl (.tl .hd)) (st.length - j) (by omega) ?_
      refine iI 10 rfl (by kernel_rfl) ?_
      ((with_reducible apply aN (i:=0));exact rfl;exact rfl;decide+kernel;decide+kernel;decide+kernel;exact nP;(intro _ _;exact vP))
      ((with_reducible apply aN (i:=1));exact rfl;exact rfl;decide+kernel;decide+kernel;decide+kernel;exact nP;(intro _ _;exact vP))
      ((with_reducible apply aN (i:=2));exact rfl;exact rfl;decide+kernel;decide+kernel;decide+kernel;exact nP;(intro _ _;exact vP))
      ((with_reducible apply aN (i:=3));exact rfl;exact rfl;decide+kernel;decide+kernel;decide+kernel;exact nP;(intro _ _;exact vP))
      ((with_reducible apply aN (i:=4));exact rfl;exact rfl;decide+kernel;decide+kernel;decide+kernel;exact nP;(intro _ _;exact vP))
      ((with_reducible apply aN (i:=5));exact rfl;exact rfl;decide+kernel;decide+kernel;decide+kernel;exact nP;(intro _ _;exact vP))
      repeat' (first|(apply aF (i:=6);exact rfl;decide+kernel)|(apply aF (i:=7);exact rfl;decide+kernel)|(apply aF (i:=8);exact rfl;decide+kernel)|(apply aF (i:=9);exact rfl;decide+kernel)|(apply iH;decide+kernel)|(apply cG;(iterate 3 exact rfl);(repeat first|exact .hd|apply Sel.tl|apply In.tl);(intro w hm;exact hm.cells_own (by (repeat first|exact .hd|apply Sel.tl|apply In.tl)));exact rfl;(simp [Value.oneCell',sl]);omega;(simp only [maxLen];omega);(intro A' cap' hA'))|refine sT ?_|refine sM fun _=> ?_|(refine sC ?_ ?_<;>intro hb<;>try omega)|fail)
      have hcont:(st.flatMap pq).take ((st.length - j)*3)++ [.int .i64 (i:Int),.int .i64 (bV (bk st j):Int),.bool (decide (n.kind=3))]=(st.take (st.length - j)++ [(⟨i,bV (bk st j),decide (n.kind=3)⟩:Pt)]).flatMap pq:=by
       rw [iX lU,Nk];rfl
      have hvis:=hV vs ((bk st j).map Pt.root) (bV (bk st j)) A2 cap2 Hv [.own A' 394 3 (st.length - j+1) cap' ((st.take (st.length - j)++ [(⟨i,bV (bk st j),decide (n.kind=3)⟩:Pt)]).flatMap pq)] hinv (by rw [NZ];omega) (by omega) (by intro q hq;obtain ⟨p,hp,rfl⟩:=OM.1 hq;rw [hvl];exact (hok p (gH hp)).1)
      simp only [NZ,htl,hvl,PT] at hvis
      rw [hcont]
      (with_reducible apply jS)
      ·
       exact rfl
      ·
       exact rfl
      ·
       infer_instance
      ·
       exact rfl
      ·
       refine hvis.msub ?_
       refine MSub.pick (T:=_) pK (MSub.snoc pK ?_)
       exact mS
      rintro v H' ⟨H1,hI1,hM1⟩
      repeat' (first|(apply aj;exact rfl;apply iJ;exact rfl;exact rfl;(simp only [maxLen];omega))|refine sT ?_|refine sM fun _=> ?_|(refine sC ?_ ?_<;>intro hb<;>try omega)|fail)
      refine ⟨i+1,_,_,?_,?_,?_,⟨st.take (st.length - j)++ [(⟨i,bV (bk st j),decide (n.kind=3)⟩:Pt)],vs++ [((bk st j).map Pt.root,bV (bk st j))],A',cap',H1,rfl,rfl,⟨?_,?_,?_,?_,?_,?_⟩⟩⟩
      ·
       omega
      ·
       have e1:(st.take (st.length - j)++ [(⟨i,bV (bk st j),decide (n.kind=3)⟩:Pt)]).length=st.length - j+1:=by simp
       rw [e1]
       exact sB
      ·
       have e1:(st.take (st.length - j)++ [(⟨i,bV (bk st j),decide (n.kind=3)⟩:Pt)]).length=st.length - j+1:=by simp
       rw [e1]
       exact hM1.rot
      ·
       omega
      ·
       simp [hvl]
      ·
       exact hI1
      ·
       exact hrest
      ·
       intro p hp
       rcases Nu.1 hp with hp|hp
       ·
        exact ⟨Nat.lt_succ_of_lt (hok p (NX hp)).1,(hok p (NX hp)).2⟩
       ·
        have e:p=⟨i,bV (bk st j),decide (n.kind=3)⟩:=by simpa using hp
        subst e
        exact ⟨O6 i,by show bV (bk st j)≤32;omega⟩
      ·
       simp;omega
   ·
    have hfie: ∀ w,ax Tryz.prog 307 [.agg (bW n).toArray] w (.int .i64 (cI n)):=fun w=>vq n w
    rw [if_pos hfe] at hrest
    repeat' (first|(apply aj;exact rfl;apply ak;exact rfl;exact rfl;exact hlt)|(apply aj;exact rfl;apply aA;exact rfl;exact hrn;exact rfl)|(apply aa;exact rfl;exact rfl;(intro w hm;exact hfie w))|refine sT ?_|refine sM fun _=> ?_|(refine sC ?_ ?_<;>intro hb<;>try omega)|fail)
    refine cP (.inl rfl) Tryz.results272 rfl (.drop .hd (.drop .hd (.refl _))) ?_
    rw [hrest]
    exact ⟨rfl,hinv⟩
  ·
   have e:i=L.length:=by omega
   subst e
   rw [ND,ic] at hrest
   repeat' (first|refine sT ?_|refine sM fun _=> ?_|(refine sC ?_ ?_<;>intro hb<;>try omega)|fail)
   ·
    refine cP (.inl rfl) Tryz.results272 rfl (.drop .hd (.refl _)) ?_
    rw [hrest,if_neg (by omega)]
    exact ⟨rfl,hinv⟩
   ·
    refine cP (.inl rfl) Tryz.results272 rfl (.drop .hd (.refl _)) ?_
    rw [hrest,if_pos (by omega)]
    exact ⟨rfl,hinv⟩
def lW (L:List Nd) (wide:Bool):Int × List lZ:=
 if 256<L.length then (5,[]) else if L.length=0 then (4,[])
 else if (ic L L 0 [] []).1≠0 then ic L L 0 [] []
 else if wide=false∧jK L (L.length - 1)=3 then (4,(ic L L 0 [] []).2) else (0,(ic L L 0 [] []).2)
set_option maxHeartbeats 2000000 in
theorem H6 (L:List Nd) (wide:Bool) (tv:Value) (w0:World) (ht:Reads w0 tv L.length (L.flatMap bW)) (f:FuncId) [hf:Callable Tryz.prog f] (caps:List Value) (Inv:List lZ→List Blk→Prop) (hV:Ci L.length w0 f caps Inv)
  (H:List Blk) (hI:Inv [] H):FnIn Tryz.prog 223 [tv,.bool wide,.func (.func f) #[] caps.toArray] w0 H fun v H' =>v= .int .i64 (lW L wide).1∧Inv (lW L wide).2 H' :=by
 have ht' :=ht
 obtain ⟨At,ct,rfl,ht1,ht2,ht3⟩:=ht
 refine dP Tryz.func223 rfl Tryz.ntmps223 rfl ?_
 by_cases h256:256<L.length
 ·
  repeat' (first|refine sT ?_|refine sM fun _=> ?_|(refine sC ?_ ?_<;>intro hb<;>try omega)|fail)
  refine cP (.inl rfl) Tryz.results223 rfl (.refl _) ?_
  rw [lW,if_pos h256]
  exact ⟨rfl,hI⟩
 by_cases h0:L.length=0
 ·
  repeat' (first|refine sT ?_|refine sM fun _=> ?_|(refine sC ?_ ?_<;>intro hb<;>try omega)|fail)
  refine cP (.inl rfl) Tryz.results223 rfl (.refl _) ?_
  rw [lW,if_neg h256,if_pos h0]
  exact ⟨rfl,hI⟩
 obtain ⟨gt,ot,rfl,hrt⟩:=ht3 (by omega)
 have hw:=DD L (by omega) (by omega) _ w0 ht' f caps Inv hV H hI
 have hrl:=hrt.elem fC (L.length - 1) (by omega)
 have hk:jK L (L.length - 1)=(L[L.length - 1]'(by omega)).kind:=gO _
 simp only [lW,if_neg h256,if_neg h0,hk]
 generalize ic L L 0 [] []=r at hw
 generalize (L[L.length - 1]'(by omega))=nl at hrl
 repeat' (first|(apply aw;exact rfl;exact rfl;exact hw;(rintro v H' ⟨rfl,hI'⟩))|(apply aj;exact rfl;apply du;exact rfl;exact rfl;omega;omega)|(apply aj;exact rfl;apply ak;exact rfl;exact rfl;omega)|(apply aj;exact rfl;apply di (off:=0);exact rfl;exact hrl;exact rfl)|refine sT ?_|refine sM fun _=> ?_|(refine sC ?_ ?_<;>intro hb<;>try omega)|fail)
 all_goals refine cP (.inl rfl) Tryz.results223 rfl (.refl _) ?_
 all_goals simp_all
theorem qV (N:Nat) (w0:World) (H0:List Blk):Ci N w0 224 [] fun _ H=>H=H0:=by
 rintro vs kids d A cap _ F rfl _ _ _
 refine dP Tryz.func224 rfl Tryz.ntmps224 rfl ?_
 repeat' (first|refine sT ?_|refine sM fun _=> ?_|(refine sC ?_ ?_<;>intro hb<;>try omega)|fail)
 refine ij (.inr rfl) Tryz.results224 (.drop .hd (.refl _)) ⟨_,rfl,.refl _⟩
def jP (L:List Nd):Int:=(lW L false).1
theorem IG (L:List Nd) (tv:Value) (w:World) (ht:Reads w tv L.length (L.flatMap bW)):ax Tryz.prog 180 [tv] w (.int .i64 (jP L)):=by
 have ht' :=ht
 obtain ⟨At,ct,rfl,ht1,ht2,ht3⟩:=ht
 refine aq Tryz.func180 rfl Tryz.ntmps180 rfl ?_
 have hw:=H6 L false _ w ht' 224 [] (fun _ H=>H= []) (qV _ w []) [] rfl
 repeat' (first|(apply aw;exact rfl;exact rfl;exact hw;(rintro v H' ⟨rfl,rfl⟩))|refine sT ?_|refine sM fun _=> ?_|(refine sC ?_ ?_<;>intro hb<;>try omega)|fail)
 (refine rT1 ?_)
 rfl
def De (vs:List lZ):Nat:=(vs.getLast?.map (·.2)).getD 0
def lV (L:List Nd):Int × Int:=if jP L≠0 then (0,jP L) else ((De (lW L false).2:Nat),0)
theorem w7 {α:Type} [DecidableEq α] {L M:List α} {i:Nat} (h1:i<L.length) (h2:i<M.length):decide (L.drop i=M.drop i)=(decide (L[i]=M[i]) && decide (L.drop (i+1)=M.drop (i+1))):=by
 rw [M3 h1,M3 h2]
 simp only [List.cons.injEq,Bool.decide_and]
def k1:Nd:=⟨1,⟨1,50000,av⟩,aL,0,0,0⟩
def k2:Nd:=⟨2,bD,⟨1,1,1,1⟩,0,0,0⟩
def k3:Nd:=⟨3,bD,⟨1,1,2,2⟩,0,0,0⟩
def k6:Nd:=⟨6,bD,aL,1,0,0⟩
def j7:Nd:=⟨7,bD,aL,0,46,1⟩
theorem Reads.of_row {w0 w:World} {H:List Blk} {g t sz m c:Nat} {xs:List Value} (hm:Mem w0 w H) (hi:In (.own (some g) t sz m c xs) H):Reads w (.slice (some ⟨g,0,none⟩) m c) m xs:=Reads.of_own hm hi
end Go.SL
namespace Go.SL
open Go Go.Proofs
attribute [local irreducible] W WL WQ WG WA VOp thn blk bL bi aQ FnIn
def JC (n:Nd):Bool:=decide (n.kind=2)||decide (n.kind=3)
theorem HN (r:Rct):(bK r).length=4:=rfl
theorem LG (L:List Rct) (lv:Value) (w:World) (hl:Reads w lv L.length (L.flatMap bK)):ax Tryz.prog 163 [lv] w (.bool (L.all aG)):=by
 obtain ⟨Al,cl,rfl,hl1,hl2,hl3⟩:=hl
 refine aq Tryz.func163 rfl Tryz.ntmps163 rfl ?_
 repeat' (first|refine sT ?_|refine sM fun _=> ?_|(refine sC ?_ ?_<;>intro hb<;>try omega)|fail)
 refine fT (fun i:Nat=> [(5,.slice Al L.length cl),(6,.int .i64 (L.length:Int)),(7,.int .i64 (i:Int))]) (fun _=> []) (fun i=>i≤L.length∧L.all aG=(L.drop i).all aG) (fun i=>L.length - i) 0 ⟨by omega,rfl⟩ ?_ ?_ ?_
 ·
  exact sB
 ·
  exact mS
 ·
  rintro i ⟨hi,hrec⟩
  by_cases hlt:i<L.length
  ·
   obtain ⟨gl,ol,rfl,hrl⟩:=hl3 (by omega)
   have he1:=hrl.elem HN i hlt
   rw [M3 hlt,O5] at hrec
   generalize L[i]=r at hrec he1
   repeat' (first|(apply aa;exact rfl;exact rfl;(intro w hm;exact fY r w))|refine sT ?_|refine sN ?_|refine sO ?_|refine sM fun _=> ?_|(refine sC ?_ ?_<;>intro hb<;>try omega)|fail)
   ·
    (refine rT1 ?_)
    rw [hrec]
    cases hq:aG r<;>simp [dC,hq] at hb ⊢
   ·
    refine ⟨i+1,⟨by omega,?_⟩,by omega,?_,?_⟩
    ·
     rw [hrec]
     cases hq:aG r<;>simp [dC,hq] at hb ⊢
    ·
     exact sB
    ·
     exact mS
  ·
   have e:i=L.length:=by omega
   subst e
   repeat' (first|refine sT ?_|refine sM fun _=> ?_|(refine sC ?_ ?_<;>intro hb<;>try omega)|fail)
   (refine rT1 ?_)
   rw [hrec,ND]
   rfl
def gy (a b:Rct):Rct:=⟨if a.c1<b.c1 then b.c1 else a.c1,if a.r1<b.r1 then b.r1 else a.r1,if b.c2<a.c2 then b.c2 else a.c2,if b.r2<a.r2 then b.r2 else a.r2⟩
def dD (a b:Rct):Rct × Bool:=if [a,b,gy a b].all aG=true then (gy a b,true) else (aL,false)
theorem Dp (a b:Rct) (w:World):ax Tryz.prog 130 [.agg (bK a).toArray,.agg (bK b).toArray] w (.tuple #[.agg (bK (dD a b).1).toArray,.bool (dD a b).2]):=by
 refine aq Tryz.func130 rfl Tryz.ntmps130 rfl ?_
 have hall:=fun (lv:Value) (w:World)=>LG [a,b,gy a b] lv w
 unfold dD
 generalize [a,b,gy a b].all aG=q at hall
 repeat' (first|(apply aa;exact rfl;exact rfl;(intro w hm;exact hall _ w (Reads.of_row hm pK)))|refine sT ?_|refine sM fun _=> ?_|(refine sC ?_ ?_<;>intro hb<;>try omega)|fail)
 ·
  refine CV (.inl rfl) Tryz.results130 rfl pK rfl rfl (MSub.nil _) ?_
  simp [hb,aL,bK]
 ·
  refine CV (.inl rfl) Tryz.results130 rfl pK rfl rfl (MSub.nil _) ?_
  simp [hb,gy,bK]
structure Pc where
 m0:Int
 m1:Int
 v0:Int
 v1:Int
 ok:Bool
def vB (p:Pc):List Value:= [.int .i64 p.m0,.int .i64 p.m1,.int .i64 p.v0,.int .i64 p.v1,.bool p.ok]
def jr (p:Pc) (c:Int):Pc:=⟨p.m0+1,p.m1,min (26*p.v0+(c - 65)+1) 1025,p.v1,p.ok && decide (p.m1=0)⟩
def fw (p:Pc) (c:Int):Pc:=⟨p.m0,p.m1+1,p.v0,min (10*p.v1+(c - 48)) 1025,p.ok && (decide (c≠48)||decide (0<p.m1))⟩
structure Pc.Fit (p:Pc) (n:Int):Prop where
 m0:0≤p.m0∧p.m0≤n
 m1:0≤p.m1∧p.m1≤n
 v0:0≤p.v0∧p.v0≤1025
 v1:0≤p.v1∧p.v1≤1025
theorem wQ (a b:Int):(if b<a then b else a)=min a b:=by omega
theorem EX (p:Pc) (c:Int) (n:Int) (hf:p.Fit n) (hn:n≤1000000) (h1:65≤c) (h2:c≤90) (g:Nat) (R:List Blk) (w0:World):
  FnIn Tryz.prog 331 [.pointer (some ⟨g,0,none⟩),.int .u8 c,.bool true] w0 (.box g 398 (vB p)::R) fun v H=>v= .tuple #[]∧H= .box g 398 (vB (jr p c))::R:=by
 refine dP Tryz.func331 rfl Tryz.ntmps331 rfl ?_
 obtain ⟨a1,a2⟩:=hf.m0
 obtain ⟨a3,a4⟩:=hf.m1
 obtain ⟨a5,a6⟩:=hf.v0
 obtain ⟨a7,a8⟩:=hf.v1
 have hwc:IntKind.u8.wrap (c - 65)=c - 65:=dV (by omega) (by omega)
 have hwc2:IntKind.i64.wrap (c - 65)=c - 65:=I64.wrap ⟨by omega,by omega⟩
 repeat' (first|(refine qU (id:=1) (ι:=Bool) (fun _=> [(0,.pointer (some ⟨g,0,none⟩)),(1,.int .u8 c)]) (fun b=> .box g 398 [.int .i64 p.m0,.int .i64 p.m1,.int .i64 p.v0,.int .i64 p.v1,.bool b]::R) (fun b=>b=(p.ok && decide (p.m1=0))) ?_ ?_)|refine sT ?_|refine sT2 ?_|refine sG2 ?_|refine sJ ?_|refine sJG ?_|refine sG ?_|refine sM fun _=> ?_|(refine sC ?_ ?_<;>intro hb<;>try omega)|exact cT|fail)
 ·
  (apply cv;rotate_left 1;exact sB;exact mS)
  rw [hb];rfl
 ·
  (apply cv;rotate_left 1;exact sB;exact mS)
  rw [hb];rfl
 rintro _ rfl
 repeat' (first|(refine l7 (id:=2) 9 (.box g 398 [.int .i64 (p.m0+1),.int .i64 p.m1,.int .i64 p.v0,.int .i64 p.v1,.bool (p.ok && decide (p.m1=0))]::R) (by kernel_rfl) (by kernel_rfl) rfl ?_)|(refine l7 (id:=3) 16 (.box g 398 [.int .i64 (p.m0+1),.int .i64 p.m1,.int .i64 (min (26*p.v0+(c - 65)+1) 1025),.int .i64 p.v1,.bool (p.ok && decide (p.m1=0))]::R) (by kernel_rfl) (by kernel_rfl) rfl ?_)|(apply xG (f:=60);exact rfl;decide+kernel;exact rfl;apply df;exact rfl;exact rfl;exact hwc)|(apply xG (f:=60);exact rfl;decide+kernel;exact rfl;apply bI;exact rfl;exact hwc2)|(apply pH;exact rfl;exact rfl;exact .hd;exact rfl;exact rfl;(try rw [wQ]);exact .refl _)|refine sT ?_|refine sT2 ?_|refine sG2 ?_|refine sJ ?_|refine sJG ?_|refine sG ?_|refine sM fun _=> ?_|(refine sC ?_ ?_<;>intro hb<;>try omega)|exact cT|fail)
 exact ij (.inl rfl) rfl (.refl _) ⟨rfl,rfl⟩
theorem EY (p:Pc) (c:Int) (n:Int) (hf:p.Fit n) (hn:n≤1000000) (h1:48≤c) (h2:c≤57) (g:Nat) (R:List Blk) (w0:World):
  FnIn Tryz.prog 331 [.pointer (some ⟨g,0,none⟩),.int .u8 c,.bool false] w0 (.box g 398 (vB p)::R) fun v H=>v= .tuple #[]∧H= .box g 398 (vB (fw p c))::R:=by
 refine dP Tryz.func331 rfl Tryz.ntmps331 rfl ?_
 obtain ⟨a1,a2⟩:=hf.m0
 obtain ⟨a3,a4⟩:=hf.m1
 obtain ⟨a5,a6⟩:=hf.v0
 obtain ⟨a7,a8⟩:=hf.v1
 have hwc:IntKind.u8.wrap (c - 48)=c - 48:=dV (by omega) (by omega)
 have hwc2:IntKind.i64.wrap (c - 48)=c - 48:=I64.wrap ⟨by omega,by omega⟩
 repeat' (first|(refine qU (id:=4) (ι:=Bool) (fun _=> [(0,.pointer (some ⟨g,0,none⟩)),(1,.int .u8 c)]) (fun b=> .box g 398 [.int .i64 p.m0,.int .i64 p.m1,.int .i64 p.v0,.int .i64 p.v1,.bool b]::R) (fun b=>b=(p.ok && (decide (c≠48)||decide (0<p.m1)))) ?_ ?_)|refine sT ?_|refine sT2 ?_|refine sG2 ?_|refine sJ ?_|refine sJG ?_|refine sG ?_|refine sM fun _=> ?_|(refine sC ?_ ?_<;>intro hb<;>try omega)|exact cT|fail)
 ·
  (apply cv;rotate_left 1;exact sB;exact mS)
  rename_i h3
  rw [h3,decide_eq_true hb];rfl
 ·
  (apply cv;rotate_left 1;exact sB;exact mS)
  rename_i h3
  rw [h3,decide_eq_false hb];rfl
 ·
  (apply cv;rotate_left 1;exact sB;exact mS)
  rw [hb];rfl
 rintro _ rfl
 repeat' (first|(refine l7 (id:=5) 9 (.box g 398 [.int .i64 p.m0,.int .i64 (p.m1+1),.int .i64 p.v0,.int .i64 p.v1,.bool (p.ok && (decide (c≠48)||decide (0<p.m1)))]::R) (by kernel_rfl) (by kernel_rfl) rfl ?_)|(refine l7 (id:=6) 15 (.box g 398 [.int .i64 p.m0,.int .i64 (p.m1+1),.int .i64 p.v0,.int .i64 (min (10*p.v1+(c - 48)) 1025),.bool (p.ok && (decide (c≠48)||decide (0<p.m1)))]::R) (by kernel_rfl) (by kernel_rfl) rfl ?_)|(apply xG (f:=60);exact rfl;decide+kernel;exact rfl;apply df;exact rfl;exact rfl;exact hwc)|(apply xG (f:=60);exact rfl;decide+kernel;exact rfl;apply bI;exact rfl;exact hwc2)|(apply pH;exact rfl;exact rfl;exact .hd;exact rfl;exact rfl;(try rw [wQ]);exact .refl _)|refine sT ?_|refine sT2 ?_|refine sG2 ?_|refine sJ ?_|refine sJG ?_|refine sG ?_|refine sM fun _=> ?_|(refine sC ?_ ?_<;>intro hb<;>try omega)|exact cT|fail)
 exact ij (.inr rfl) rfl (.refl _) ⟨rfl,rfl⟩
def bP (p:Pc) (c:Int):Pc:=if 65≤upC c∧upC c≤90 then jr p (upC c) else if 48≤c∧c≤57 then fw p c else ⟨p.m0,p.m1,p.v0,p.v1,false⟩
def pc0:Pc:=⟨0,0,0,0,true⟩
theorem Bu {p:Pc} {c:Int} (h1:97≤c) (h2:c≤122):bP p c=jr p (c - 32):=by
 have e:upC c=c - 32:=by rw [upC,if_pos ⟨h1,h2⟩]
 rw [bP,e,if_pos (by omega)]
theorem Eh {p:Pc} {c:Int} (h1:65≤c) (h2:c≤90):bP p c=jr p c:=by
 have e:upC c=c:=by rw [upC,if_neg (by omega)]
 rw [bP,e,if_pos (by omega)]
theorem CI {c:Int} (h: ¬ (97≤c∧c≤122)):upC c=c:=by rw [upC,if_neg h]
theorem rQ {p:Pc} {c:Int} (h1:48≤c) (h2:c≤57):bP p c=fw p c:=by
 rw [bP,CI (by omega),if_neg (by omega),if_pos ⟨h1,h2⟩]
theorem uX {p:Pc} {c:Int} (h: ¬ (97≤c∧c≤122)) (h2: ¬ (65≤c∧c≤90)) (h3: ¬ (48≤c∧c≤57)):bP p c=⟨p.m0,p.m1,p.v0,p.v1,false⟩:=by
 rw [bP,CI h,if_neg h2,if_neg h3]
theorem Bw {p:Pc} {n:Int} (h:p.Fit n) (c:Int):(bP p c).Fit (n+1):=by
 obtain ⟨⟨a1,a2⟩,⟨a3,a4⟩,⟨a5,a6⟩,⟨a7,a8⟩⟩:=h
 unfold bP
 split
 ·
  exact ⟨⟨by simp only [jr];omega,by simp only [jr];omega⟩,⟨a3,by simp only [jr];omega⟩,⟨by simp only [jr];omega,by simp only [jr];omega⟩,⟨a7,a8⟩⟩
 ·
  split
  ·
   exact ⟨⟨a1,by simp only [fw];omega⟩,⟨by simp only [fw];omega,by simp only [fw];omega⟩,⟨a5,a6⟩,⟨by simp only [fw];omega,by simp only [fw];omega⟩⟩
  ·
   exact ⟨⟨a1,by dsimp only;omega⟩,⟨a3,by dsimp only;omega⟩,⟨a5,a6⟩,⟨a7,a8⟩⟩
def qi (l:List Int):Pc:=l.foldl bP pc0
theorem zQ (a:ByteArray) (ha:a.size≤100000) (w:World):ax Tryz.prog 313 [.string a] w (.agg (vB (qi (ap a))).toArray):=by
 refine aq Tryz.func313 rfl Tryz.ntmps313 rfl ?_
 have hl:=au a
 repeat' (first|refine sT ?_|refine sT2 ?_|refine sM fun _=> ?_|(refine sC ?_ ?_<;>intro hb<;>try omega)|exact cT|fail)
 rename_i g2 g3
 refine ay [0,2,3,9] rfl (fun x:Nat × Pc=> [(10,.int .i64 (x.1:Int))]) (fun x=> [.box g3 398 (vB x.2),.box g2 398 [.int .i64 0,.int .i64 0,.int .i64 0,.int .i64 0,.bool false]]) (fun x=>x.1≤a.size∧x.2.Fit x.1∧qi (ap a)=((ap a).drop x.1).foldl bP x.2) (fun x=>a.size - x.1) (0,pc0) ⟨Nl _,⟨⟨by decide,by decide⟩,⟨by decide,by decide⟩,⟨by decide,by decide⟩,⟨by decide,by decide⟩⟩,rfl⟩ sB mS ?_
 rintro ⟨i,p⟩ ⟨hi,hf,hr⟩
 dsimp only at hi hf hr ⊢
 by_cases hlt:i<a.size
 ·
  rw [aY hlt,OX] at hr
  have hc:=pz a i
  generalize hcd:bat a i=c at hr hc
  have hf2:=Bw hf c
  repeat' (first|(apply aj (d:=15);exact rfl;exact hcd ▸ aV rfl rfl hlt)|(apply aj (d:=38);exact rfl;apply df;exact rfl;exact rfl;exact dV (by omega) (by omega))|(apply aw (d:=41);exact rfl;exact rfl;(first|exact FnIn.msub (EX p _ _ hf (by omega) (by omega) (by omega) _ _ _) (.pick pK (.refl _))|exact FnIn.msub (EY p _ _ hf (by omega) (by omega) (by omega) _ _ _) (.pick pK (.refl _)));rintro _ _ ⟨rfl,rfl⟩)|refine sT ?_|refine sT2 ?_|refine sN ?_|refine sM fun _=> ?_|(refine sC ?_ ?_<;>intro hb<;>try omega)|exact cT|fail)
  all_goals
   refine ⟨(i+1,bP p c),⟨hlt,by have:=hf2;simpa using this,hr⟩,(by dsimp only;omega),sB,sB,?_⟩
   dsimp only
   first
   |(rw [Bu (by omega) (by omega)];exact mS;done)
   |(rw [Eh (by omega) (by omega)];exact mS;done)
   |(rw [rQ (by omega) (by omega)];exact mS;done)
   |(rw [uX (by omega) (by omega) (by omega)];exact mS;done)
 ·
  have e:i=a.size:=by omega
  subst e
  rw [Nn (by omega),List.foldl_nil] at hr
  rw [hr]
  repeat' (first|refine sT ?_|refine sT2 ?_|refine sM fun _=> ?_|(refine sC ?_ ?_<;>intro hb<;>try omega)|exact cT|fail)
  exact wA (.inl rfl) rfl rfl .hd rfl (MSub.nil _) rfl
def vO (l:List Int):Int × Int × Int:=
 if (qi l).ok=false∨(qi l).m0=0∨(qi l).m1=0 then (0,0,4)
 else if valid (qi l).v0 (qi l).v1 then ((qi l).v0,(qi l).v1,0) else (0,0,3)
theorem xg (a:ByteArray) (ha:a.size≤100000) (w:World):ax Tryz.prog 284 [.string a] w (.tuple #[.agg #[.int .i64 (vO (ap a)).1,.int .i64 (vO (ap a)).2.1],.int .i64 (vO (ap a)).2.2]):=by
 refine aq Tryz.func284 rfl Tryz.ntmps284 rfl ?_
 unfold vO
 generalize hp:qi (ap a)=p
 have hR:=zQ a ha
 rw [hp] at hR
 repeat' (first|(apply aa;exact rfl;exact rfl;(intro w hm;exact hR w))|(apply aa;exact rfl;exact rfl;(intro w hm;exact jU p.v0 p.v1 w))|refine sT ?_|refine sT2 ?_|refine sM fun _=> ?_|(refine sC ?_ ?_<;>intro hb<;>try omega)|exact cT|fail)
 all_goals
  (refine eQ ?_)
  simp_all
def bJ (a b:Rf):Bool:=decide (a.row<b.row)||(decide (a.row=b.row) && decide (a.col<b.col))
theorem xj (a b:Rf) (w:World):ax Tryz.prog 60 [.agg (db a).toArray,.agg (db b).toArray] w (.bool (bJ a b)):=by
 refine aq Tryz.func60 rfl Tryz.ntmps60 rfl ?_
 repeat' (first|refine sT ?_|refine sM fun _=> ?_|(refine sC ?_ ?_<;>intro hb<;>try omega)|exact cT|fail)
 all_goals ((refine rT1 ?_);((try simp only [← Int.not_lt] at*);simp_all [bJ, -Int.not_lt, -Int.not_le,← Int.not_lt]))
theorem LJ (a:Rf) (w:World):ax Tryz.prog 140 [.agg (db a).toArray] w (.agg (bK (JJ a.col a.row)).toArray):=by
 refine aq Tryz.func140 rfl Tryz.ntmps140 rfl ?_
 repeat' (first|refine sT ?_|refine sM fun _=> ?_|(refine sC ?_ ?_<;>intro hb<;>try omega)|exact cT|fail)
 (refine eRC ?_)
 rfl
def eM (r:Rct) (a:Rf):Bool:=decide (r.c1≤a.col) && decide (a.col≤r.c2) && decide (r.r1≤a.row) && decide (a.row≤r.r2)
theorem LK (r:Rct) (a:Rf) (w:World):ax Tryz.prog 59 [.agg (bK r).toArray,.agg (db a).toArray] w (.bool (eM r a)):=by
 refine aq Tryz.func59 rfl Tryz.ntmps59 rfl ?_
 repeat' (first|refine sT ?_|refine sM fun _=> ?_|(refine sC ?_ ?_<;>intro hb<;>try omega)|exact cT|fail)
 all_goals ((refine rT1 ?_);((try simp only [← Int.not_lt] at*);simp_all [eM, -Int.not_lt, -Int.not_le,← Int.not_lt]))
end Go.SL
namespace Go.SL
open Go Go.Proofs
attribute [local irreducible] W WL WQ WG WA VOp thn blk bL scp bi aQ FnIn
set_option maxRecDepth 10000 in
theorem zH (f:FuncId) [Callable Tryz.prog f] (caps:List Value) (g:Int→Int) (a:ByteArray) (ha:a.size≤1000000) (w:World) (hf: ∀ c w' H,0≤c→c<256→Mem w w' H→ax Tryz.prog f ([.int .u8 c]++caps) w' (.int .u8 (g c))):
  aQ Tryz.prog 231 [.string a,.func (.func f) #[] caps.toArray] w fun v H=> ∃ gb cap,v= .slice (some ⟨gb,0,none⟩) a.size cap∧H= [.byt gb 5 a.size cap (((ap a).map g).map (Value.int .u8))]:=by
 refine aq Tryz.func231 rfl Tryz.ntmps231 rfl ?_
 repeat' (first|(apply ku;exact rfl;exact rfl;intro gb cap)|refine sT ?_|refine sM fun _=> ?_|(refine sC ?_ ?_<;>intro hb<;>try omega)|fail)
 refine fT (fun i:Nat=> [(5,.slice (some ⟨gb,0,none⟩) a.size cap),(10,.slice (some ⟨gb,0,none⟩) a.size cap),(11,.int .i64 (a.size:Int)),(12,.int .i64 (i:Int)),(1,.func (.func f) #[] caps.toArray)])
  (fun i=> [.byt gb 5 a.size cap ((((ap a).take i).map g++(ap a).drop i).map (Value.int .u8))]) (fun i=>i≤a.size) (fun i=>a.size - i) 0 (by omega) ?_ ?_ ?_
 ·
  exact sB
 ·
  rw [mB];simp only [OB,Oz,MW,Oi];exact mS
 ·
  intro i hi
  have hl:=au a
  by_cases hlt:i<a.size
  ·
   have hil:i<(ap a).length:=by omega
   have hok:=kM a (ap a)[i] (NK hil)
   have hget:((((ap a).take i).map g++(ap a).drop i).map (Value.int .u8))[0+i*1]? =some (.int .u8 (ap a)[i]):=by
    rw [NY,show 0+i*1=i by omega,NS (by simp;omega)]
    simp [OK (Nat.le_of_lt hil),Ok]
   repeat' (first|(apply aj;exact rfl;apply ak;exact rfl;exact rfl;exact hlt)|(apply aj;exact rfl;apply ja;exact rfl;exact .hd;exact hget)|(apply bA;exact rfl;exact rfl;infer_instance;exact rfl;(intro w' hm;exact hf _ w' _ hok.1 hok.2 hm))|(apply kv;exact rfl;exact rfl;exact .hd;exact rfl;(simp;omega))|(apply aj;exact rfl;apply ep;exact rfl;exact rfl;(constructor<;>omega))|refine sT ?_|refine sM fun _=> ?_|(refine sC ?_ ?_<;>intro hb<;>try omega)|fail)
   refine ⟨i+1,by omega,by omega,?_,?_⟩
   ·
    exact sB
   ·
    rw [show 0+i*1=i by omega,rp g (Value.int .u8) (ap a) i hil]
    exact mS
  ·
   have e:i=a.size:=by omega
   subst e
   repeat' (first|refine sT ?_|refine sM fun _=> ?_|(refine sC ?_ ?_<;>intro hb<;>try omega)|fail)
   refine cP (.inl rfl) rfl rfl (.refl _) ⟨gb,cap,rfl,?_⟩
   rw [NE (by omega),Nn (by omega),M4]
set_option maxRecDepth 10000 in
theorem Eo (c:Int) (h0:0≤c) (h1:c<256) (ga gb:Nat) (w:World) (ha:Ro w ga 0 [.int .u8 97]) (hb' :Ro w gb 0 [.int .i64 (-32)]):ax Tryz.prog 310 [.int .u8 c,.pointer (some ⟨ga,0,none⟩),.pointer (some ⟨gb,0,none⟩)] w (.int .u8 (upC c)):=by
 refine aq Tryz.func310 rfl Tryz.ntmps310 rfl ?_
 have hwc:IntKind.i64.wrap c=c:=I64.wrap ⟨by omega,by omega⟩
 have h122:IntKind.u8.wrap (97+25)=122:=by decide
 repeat' (first|(apply aj;exact rfl;apply aH (off:=0);exact ha;exact rfl;exact rfl)|(apply aj;exact rfl;apply aH (off:=0);exact hb';exact rfl;exact rfl)|(apply aj;exact rfl;apply dA;exact rfl;exact rfl;exact h122)|(apply aj (d:=15);exact rfl;apply bI;exact rfl;exact hwc)|(apply aj (d:=17);exact rfl;apply ep;exact rfl;exact rfl;exact ⟨by omega,by omega⟩)|(apply aj (d:=18);exact rfl;apply bI (c:=c - 32);exact rfl;(rw [show c+ -32=c - 32 by omega];exact dV (by omega) (by omega)))|refine sT ?_|refine sM fun _=> ?_|(refine sC ?_ ?_<;>intro hb<;>try omega)|fail)
 all_goals ((refine rT1 ?_);unfold upC;first|rw [if_pos (by omega)]|rw [if_neg (by omega)])
def upB (a:ByteArray):ByteArray:=mkB ((ap a).map upC)
theorem oo (a:ByteArray):ap (upB a)=(ap a).map upC:=by
 refine lO ?_
 intro c hc
 obtain ⟨d,hd,rfl⟩:=OM.1 hc
 have:=kM a d hd
 unfold upC
 split<;>omega
set_option maxRecDepth 10000 in
theorem GH (a:ByteArray) (ha:a.size≤1000000) (w:World):ax Tryz.prog 277 [.string a,.int .u8 97,.int .i64 (-32)] w (.string (upB a)):=by
 refine aq Tryz.func277 rfl Tryz.ntmps277 rfl ?_
 repeat' (first|((with_reducible apply aC (R:=fun v H=> ∃ gb cap,v= .slice (some ⟨gb,0,none⟩) a.size cap∧H= [.byt gb 5 a.size cap (((ap a).map upC).map (Value.int .u8))]));exact rfl;exact rfl;(intro w' hm;exact zH 310 [_,_] upC a ha w' (fun c w2 H2 h0 h1 hm2=>Eo c h0 h1 _ _ w2 ((Ro.of_box hm pK).next hm2) ((Ro.of_box hm pK).next hm2)));(rintro v H' ⟨gb,cap,rfl,rfl⟩))|(apply aj;exact rfl;apply oY;exact rfl;exact .hd;simp [au])|refine sT ?_|refine sM fun _=> ?_|(refine sC ?_ ?_<;>intro hb<;>try omega)|fail)
 (refine rT1 ?_)
 rfl
set_option maxRecDepth 10000 in
theorem oO (a:ByteArray) (ha:a.size≤1000000) (w:World):ax Tryz.prog 240 [.string a] w (.string (upB a)):=by
 refine aq Tryz.func240 rfl Tryz.ntmps240 rfl ?_
 repeat' (first|(apply aa;exact rfl;exact rfl;(intro w hm;exact GH a ha w))|refine sT ?_|refine sM fun _=> ?_|(refine sC ?_ ?_<;>intro hb<;>try omega)|fail)
 (refine rT1 ?_)
 rfl
def jE:List Int→Option (List Int)
 | []=>some []
 |c::r=>if c≠34 then (jE r).map (c:: ·) else match r with
  | []=>none
  |d::r' =>if d=34 then (jE r').map (34:: ·) else none
def fp (l:List Int):List Int × Int:=
 if l.length<2∨l.head? ≠some 34∨l.getLast? ≠some 34∨l.all (fun c=>bn c)=false then ([],4)
 else match jE ((l.drop 1).dropLast) with
  |none=>([],4)
  |some r=>if 256<r.length then ([],5) else (r,0)
theorem lB (a:ByteArray):lC a=(ap a).all fun c=>bn c:=by
 simp only [lC,ap,List.all_map]
 congr 1
 funext c
 simp only [Function.comp,bn]
 rw [NG];simp;omega
theorem GP (a:ByteArray) (c:Int) (h:0<a.size):((ap a).getLast? =some c)↔bat a (a.size - 1)=c:=by
 rw [PL,au,fF (by omega)]
 simp
theorem xR {a:ByteArray} {i:Nat} (h0:1≤i) (h:i<a.size - 1):(((ap a).drop 1).dropLast).drop (i - 1)=bat a i::(((ap a).drop 1).dropLast).drop i:=by
 have hl:=au a
 obtain ⟨j,rfl⟩: ∃ j,i=j+1:=⟨i - 1,by omega⟩
 rw [Ot]
 have hlen:(((ap a).drop 1).dropLast).length=a.size - 2:=by simp;omega
 have hlt:j<(((ap a).drop 1).dropLast).length:=by omega
 rw [M3 hlt]
 congr 1
 have h1:=fF (a:=a) (i:=j+1) (by omega)
 have h2:(((ap a).drop 1).dropLast)[j]? =some (bat a (j+1)):=by
  rw [List.getElem?_dropLast,if_pos (by simp;omega),Ok,OL 1 j,h1]
 rw [MV hlt] at h2
 exact Option.some.inj h2
theorem o4 {c:Int} {r:List Int} (h:c≠34):jE (c::r)=(jE r).map (c:: ·):=by
 rw [jE.eq_def];simp [h]
theorem Cj (a:ByteArray) (ha:a.size≤1000000) (w:World):ax Tryz.prog 280 [.string a] w (.tuple #[.string (mkB (fp (ap a)).1),.int .i64 (fp (ap a)).2]):=by
 refine aq Tryz.func280 rfl Tryz.ntmps280 rfl ?_
 have hl:=au a
 have hp:=nY a ha
 rw [lB] at hp
 have hh:=oz a 34
 have hg:=GP a 34
 by_cases hbad:(ap a).length<2∨(ap a).head? ≠some 34∨(ap a).getLast? ≠some 34∨(ap a).all (fun c=>bn c)=false
 ·
  rw [fp,if_pos hbad]
  repeat' (first|(apply aa;exact rfl;exact rfl;(intro w hm;exact hp w))|refine sT ?_|refine sS ?_|refine sT2 ?_|refine sN ?_|refine sM fun _=> ?_|(refine sC ?_ ?_<;>intro hb<;>try omega)|fail)
  iterate 4 (focus ((refine rT2 ?_);rfl))
  exfalso
  rename_i h1 h2 h3
  rcases hbad with h|h|h|h
  ·
   omega
  ·
   exact h (hh.2 ⟨by omega,Decidable.not_not.1 h2⟩)
  ·
   exact h ((hg (by omega)).2 (Decidable.not_not.1 h3))
  ·
   rw [hb] at h;cases h
 ·
  have hun:fp (ap a)=match jE (((ap a).drop 1).dropLast) with
    |none=>([],4)
    |some r=>if 256<r.length then ([],5) else (r,0):=by rw [fp,if_neg hbad]
  rw [hun]
  simp only [not_or,Decidable.not_not,Bool.not_eq_false] at hbad
  obtain ⟨b1,b2,b3,b4⟩:=hbad
  have b5:=(hh.1 b2).2
  have b6:=(hg (by omega)).1 b3
  rw [b4] at hp
  have hn:(a.size:Int) - 1=((a.size - 1:Nat):Int):=by omega
  generalize hB:((ap a).drop 1).dropLast=B
  have hBl:B.length=a.size - 2:=by rw [← hB];simp;omega
  repeat' (first|(apply aa;exact rfl;exact rfl;(intro w hm;exact hp w))|refine sT ?_|refine sS ?_|refine sT2 ?_|refine sN ?_|refine sM fun _=> ?_|(refine sC ?_ ?_<;>intro hb<;>try omega)|fail)
  all_goals try (exfalso;omega)
  refine aI 5 1 ?_
  refine ay [0,4] rfl (fun x:Nat × List Int × Option Nat × Nat=> [(5,sl x.2.2.1 x.2.1.length x.2.2.2),(6,.int .i64 (x.1:Int))]) (fun x=> [.own x.2.2.1 5 1 x.2.1.length x.2.2.2 (x.2.1.map (Value.int .u8))]) (fun x=>1≤x.1∧x.1≤a.size - 1∧x.2.1.length≤x.1∧jE B=(jE (B.drop (x.1 - 1))).map (x.2.1++ ·)) (fun x=>a.size - x.1) (1,[],none,0) ⟨by omega,by omega,by simp,by simp⟩ sB mS ?_
  rintro ⟨i,out,A,cap⟩ ⟨i1,i2,i3,i4⟩
  dsimp only at i1 i2 i3 i4 ⊢
  by_cases hend:i=a.size - 1
  ·
   have hBd:B.drop (i - 1)= []:=Nn (by omega)
   rw [hBd] at i4
   simp only [jE,NW,M4] at i4
   rw [i4]
   dsimp only
   by_cases hlen:256<out.length
   ·
    rw [if_pos hlen]
    repeat' (first|refine sT ?_|refine sS ?_|refine sT2 ?_|refine sN ?_|refine sM fun _=> ?_|(refine sC ?_ ?_<;>intro hb<;>try omega)|fail)
    all_goals first|(exfalso;omega)|((refine rT2 ?_);rfl)
   ·
    rw [if_neg hlen]
    repeat' (first|(apply aj;exact rfl;apply Au;exact rfl;exact pK;exact rfl)|refine sT ?_|refine sS ?_|refine sT2 ?_|refine sN ?_|refine sM fun _=> ?_|(refine sC ?_ ?_<;>intro hb<;>try omega)|fail)
    all_goals first|(exfalso;omega)|((refine rT2 ?_);rfl)
  ·
   have hdr:=xR (a:=a) i1 (by omega)
   rw [hB] at hdr
   rw [hdr] at i4
   by_cases hq:bat a i=34
   ·
    rw [hq] at i4
    by_cases h1:i+1=a.size - 1
    ·
     have hBd:B.drop i= []:=Nn (by omega)
     rw [hBd] at i4
     simp only [jE,ne_eq,not_true_eq_false,if_false,PQ] at i4
     rw [i4]
     repeat' (first|refine sT ?_|refine sS ?_|refine sT2 ?_|refine sN ?_|refine sM fun _=> ?_|(refine sC ?_ ?_<;>intro hb<;>try omega)|fail)
     all_goals first|(exfalso;omega)|((refine rT2 ?_);rfl)
    ·
     have hdr2:=xR (a:=a) (i:=i+1) (by omega) (by omega)
     rw [hB,Ot] at hdr2
     rw [hdr2] at i4
     by_cases h2:bat a (i+1)=34
     ·
      simp only [jE,ne_eq,not_true_eq_false,if_false,h2,if_true,Pv] at i4
      repeat' (first|(apply aM;(iterate 3 exact rfl);exact pK;exact pK;exact rfl;(simp [Value.oneCell']);omega;(simp only [maxLen];omega);intro g8 c8)|(apply aj (d:=63);exact rfl;apply dc (b:=2);exact rfl;exact rfl;(simp only [maxLen];omega))|refine sT ?_|refine sS ?_|refine sT2 ?_|refine sN ?_|refine sM fun _=> ?_|(refine sC ?_ ?_<;>intro hb<;>try omega)|fail)
      all_goals try (exfalso;omega)
      refine ⟨(i+2,out++ [34],some g8,c8),⟨by dsimp only;omega,by dsimp only;omega,by simp;omega,?_⟩,(by dsimp only;omega),?_,sB,?_⟩
      ·
       dsimp only
       rw [i4,show i+2 - 1=i+1 by omega]
       congr 1
       funext l
       simp
      ·
       simp only [MT,MX]
       exact sB
      ·
       simp only [MT,MX,Ou,NA,Oz]
       exact mS
     ·
      simp only [jE,ne_eq,not_true_eq_false,if_false,h2,PQ] at i4
      rw [i4]
      repeat' (first|refine sT ?_|refine sS ?_|refine sT2 ?_|refine sN ?_|refine sM fun _=> ?_|(refine sC ?_ ?_<;>intro hb<;>try omega)|fail)
      all_goals first|(exfalso;omega)|((refine rT2 ?_);rfl)
   ·
    rw [o4 hq,Pv] at i4
    repeat' (first|(apply aM;(iterate 3 exact rfl);exact pK;exact pK;exact rfl;(simp [Value.oneCell']);omega;(simp only [maxLen];omega);intro g8 c8)|refine sT ?_|refine sS ?_|refine sT2 ?_|refine sN ?_|refine sM fun _=> ?_|(refine sC ?_ ?_<;>intro hb<;>try omega)|fail)
    all_goals try (exfalso;omega)
    refine ⟨(i+1,out++ [bat a i],some g8,c8),⟨by dsimp only;omega,by dsimp only;omega,by simp;omega,?_⟩,(by dsimp only;omega),?_,sB,?_⟩
    ·
     dsimp only
     rw [i4,show i+1 - 1=i by omega]
     congr 1
     funext l
     simp
    ·
     simp only [MT,MX]
     exact sB
    ·
     simp only [MT,MX,Ou,NA,Oz]
     exact mS
end Go.SL
