/-
  Lemmas and walks, put together: W5 W6 W7 W8 W9 W10 W27 A2.
-/
import Derived.Test.YtlnecnbfmnfigaaGreatDoorKu10
set_option linter.unusedSimpArgs false
set_option linter.unusedVariables false
set_option maxRecDepth 20000
namespace Go.SL
open Go Go.Proofs
attribute [local irreducible] W WL WQ WG WA VOp thn blk bA FnAt FnIn
def Fq (N:Nat) (w0:World) (f:FuncId) (caps:List Value) (Inv:List mh→List Blk→Prop):Prop:=
 ∀ (vs:List mh) (kids:List Nat) (d:Nat) (A:Option Nat) (cap:Nat) (H F:List Blk),Inv vs H→kids.length≤1000→vs.length<N→(∀ k∈kids,k<vs.length)→
  FnIn Tryz.prog f ([.int .i64 (vs.length:Int),sl A kids.length cap,.int .i64 (d:Int)]++caps) w0 (.own A 3 1 kids.length cap (kids.map fun (k:Nat)=> .int .i64 (k:Int))::(H++F))
   fun _ H' => ∃ H1,Inv (vs++ [(kids,d)]) H1∧MSub (H1++F) H'
theorem rX {n:Nd} (h:bF n=0):0≤below n∧below n≤16:=by
 unfold bF at h
 split at h
 ·
  cases h
 ·
  rename_i hk
  split at h
  ·
   rename_i h7
   unfold below
   split
   ·
    omega
   ·
    split
    ·
     omega
    ·
     omega
  ·
   rename_i h7
   have h7' :n.kind=7:=by omega
   have hb:below n=n.n:=by simp [below,h7']
   have hk1:eL n=true:=by
    cases hh:eL n
    ·
     exact absurd (Or.inl hh) hk
    ·
     rfl
   simp [eL,h7'] at hk1
   split at h
   ·
    rename_i ha;omega
   ·
    split at h
    ·
     omega
    ·
     rename_i hc
     have hm:(eG n.fn).2.1≤16:=by
      unfold eG
      (repeat' split)<;>simp
     omega
theorem jO (st:List Pt) (k:Nat) (h:k≤st.length):(bq st k).length=k:=by simp [bq];omega
theorem iS {st:List Pt} {k:Nat} {p:Pt} (h:p∈bq st k):p∈st:=QA h
theorem G3 {w0 w:World} {H:List Blk} {A:Option Nat} {st:List Pt} {cap k:Nat} (hm:Mem w0 w H) (hi:In (.own A 387 3 st.length cap (st.flatMap rZ)) H) (h:k≤st.length):
  Reads w (.slice (if cap=st.length - k then A.map fun g=>⟨g,0,none⟩ else (A.map fun g=>(⟨g,0,none⟩:Addr)).map (·.add ((st.length - k)*3))) (st.length - (st.length - k)) (cap - (st.length - k))) (bq st k).length ((bq st k).flatMap rZ):=by
 have h1:=(Reads.of_own hm hi).cut (lo:=st.length - k) (hi:=st.length) (sz:=3) (by omega) (Ph _)
 have e1:st.length - (st.length - k)=(bq st k).length:=by rw [jO st k h];omega
 rw [oL n9,e1] at h1
 have e2:((st.drop (st.length - k)).flatMap rZ).take ((bq st k).length*3)=(bq st k).flatMap rZ:=by
  rw [PM (by rw [aQ n9];exact Ph _)];rfl
 rw [e2] at h1
 rw [e1]
 exact h1
theorem qX (top:List Pt) (j:Nat) (h:j<top.length):cz (top.take (j+1))=max (cz (top.take j)) (top[j].depth+1):=by
 unfold cz
 rw [Po h,RN]
 rfl
theorem lJ (top:List Pt) (h: ∀ p∈top,p.depth≤32):cz top≤33:=by
 have: ∀ (l:List Pt) (d:Nat),d≤33→(∀ p∈l,p.depth≤32)→l.foldl (fun d p=>max d (p.depth+1)) d≤33:=by
  intro l
  induction l with
  |nil=>intro d hd _;simpa using hd
  |cons p r ih=>
   intro d hd hp
   have:=hp p O7
   exact ih _ (by show max d (p.depth+1)≤33;omega) fun q hq=>hp q (O9 _ hq)
 exact this top 1 (by omega) h
structure WalkSt (L:List Nd) (Inv:List mh→List Blk→Prop) (i:Nat) (st:List Pt) (vs:List mh) (Hv:List Blk):Prop where
 le:i≤L.length
 len:vs.length=i
 inv:Inv vs Hv
 rest:eQ L L 0 [] []=eQ L (L.drop i) i st vs
 ok: ∀ p∈st,p.root<i∧p.depth≤32
 small:st.length≤i
set_option maxHeartbeats 2000000 in
theorem GI (L:List Nd) (hne:0<L.length) (hlen:L.length≤256) (tv:Value) (w0:World) (ht:Reads w0 tv L.length (L.flatMap bg)) (f:FuncId) [hf:Callable Tryz.prog f] (caps:List Value) (Inv:List mh→List Blk→Prop) (hV:Fq L.length w0 f caps Inv)
  (H:List Blk) (hI:Inv [] H):FnIn Tryz.prog 251 [tv,.func (.func f) #[] caps.toArray] w0 H fun v H' =>v= .int .i64 (eQ L L 0 [] []).1∧Inv (eQ L L 0 [] []).2 H' :=by
 have ht' :=ht
 obtain ⟨At,ct,rfl,ht1,ht2,ht3⟩:=ht
 obtain ⟨gt,ot,rfl,hrt⟩:=ht3 hne
 refine bM Tryz.func251 rfl Tryz.ntmps251 rfl ?_
 repeat' (first|refine sT ?_|refine sM fun _=> ?_|(refine sC ?_ ?_<;>intro hb<;>try omega)|fail)
 refine aK 387 3 ?_
 refine FH (fun (i:Nat) s H=> ∃ st vs A cap Hv,s= [(0,.slice (some ⟨gt,ot,none⟩) L.length ct),(1,.func (.func f) #[] caps.toArray),(5,sl A st.length cap),(14,.slice (some ⟨gt,ot,none⟩) L.length ct),(15,.int .i64 (L.length:Int)),(16,.int .i64 (i:Int))]∧
   H= .own A 387 3 st.length cap (st.flatMap rZ)::Hv∧WalkSt L Inv i st vs Hv) (fun i=>L.length - i) 0 ?_ ?_
 ·
  refine ⟨_,_,?_,?_,⟨[],[],none,0,H,rfl,rfl,⟨Pb _,rfl,hI,rfl,by simp,Ph _⟩⟩⟩
  ·
   exact sB
  ·
   exact mS
 ·
  rintro i _ _ ⟨st,vs,A,cap,Hv,rfl,rfl,hst⟩
  obtain ⟨hle,hvl,hinv,hrest,hok,hsmall⟩:=hst
  by_cases hlt:i<L.length
  ·
   have hrn:=hrt.elem cE i hlt
   rw [Pf hlt,eQ,js] at hrest
   generalize hn:L[i]=n at hrest hrn
   by_cases hfe:bF n=0
   ·
    obtain ⟨hb0,hb16⟩:=rX hfe
    obtain ⟨k,hk⟩:=Si hb0
    rw [if_neg (by simp [hfe]),hk,RO] at hrest
    have hbel: ∀ w,aF Tryz.prog 294 [.agg (bg n).toArray] w (.int .i64 (k:Int)):=fun w=>hk ▸ Kw n w
    have hfie: ∀ w,aF Tryz.prog 293 [.agg (bg n).toArray] w (.int .i64 0):=fun w=>hfe ▸ yz n w
    refine xI .hd fun hr1 hr2 hr3=> ?_
    repeat' (first|(apply aj;exact rfl;apply ag;exact rfl;exact rfl;exact hlt)|(apply aj;exact rfl;apply aZ;exact rfl;exact hrn;exact rfl)|(apply aj;exact rfl;apply fC;exact rfl;exact rfl;(simp only [maxLen];omega))|(apply aa;exact rfl;exact rfl;(intro w hm;exact hfie w))|(apply aa;exact rfl;exact rfl;(intro w hm;exact hbel w))|(apply dF (id:=9);kernel_rfl;kernel_rfl)|(apply aP;exact rfl;apply pI;exact rfl;exact rfl;omega;omega)|(apply aj;exact rfl;apply pI;exact rfl;exact rfl;omega;omega)|(apply aP;exact rfl;apply jd (hi:=st.length);exact rfl;exact ⟨_,rfl⟩;exact rfl;omega;omega)|(apply bz;exact rfl;exact rfl;(intro w hm;exact L9 L n (bq st k) _ _ w (ht'.of_w0 hm) (G3 hm pK (by omega)) (fun p hp=>Nat.lt_trans (hok p (iS hp)).1 hlt) (by rw [jO st k (by omega)];omega)))|refine sT ?_|refine sQ ?_|refine sM fun _=> ?_|(refine sC ?_ ?_<;>intro hb<;>try omega)|(refine sCQ ?_ ?_<;>intro hb<;>try omega)|fail)
    ·
     refine bK (.inl rfl) Tryz.results251 rfl (.drop .hd (.drop .hd (.refl _))) ?_
     rw [hrest,if_pos (Or.inl (by omega))]
     exact ⟨rfl,hinv⟩
    ·
     refine bK (.inl rfl) Tryz.results251 rfl (.drop .hd (.drop .hd (.refl _))) ?_
     rw [hrest,if_pos (Or.inr hb)]
     exact ⟨rfl,hinv⟩
    have hkl:k≤st.length:=by omega
    rw [if_neg (by intro h;rcases h with h|h;(· omega);(· rw [hb] at h;cases h))] at hrest
    repeat' (first|(apply aj;exact rfl;apply pI;exact rfl;exact rfl;omega;omega)|(apply IP (hi:=st.length);exact rfl;exact rfl;exact ⟨_,rfl⟩;exact rfl;omega;omega;(intro B hB))|refine sT ?_|refine sM fun _=> ?_|(refine sC ?_ ?_<;>intro hb<;>try omega)|fail)
    rename_i gn gp
    refine aK 3 1 ?_
    have htl:=jO st k hkl
    refine FH (fun (j:Nat) s H=> ∃ A2 cap2,s= [(0,.slice (some ⟨gt,ot,none⟩) L.length ct),(1,.func (.func f) #[] caps.toArray),(5,sl A st.length cap),(6,.int .i64 (i:Int)),(9,.int .i64 (k:Int)),(10,.pointer (some ⟨gp,0,none⟩)),(11,sl A2 j cap2),
      (14,.slice (some ⟨gt,ot,none⟩) L.length ct),(15,.int .i64 (L.length:Int)),(16,.int .i64 (i:Int)),(54,.slice B (st.length - (st.length - k)) (cap - (st.length - k))),(55,.int .i64 ((st.length - (st.length - k):Nat):Int)),(56,.int .i64 (j:Int))]∧
      H= .own A2 3 1 j cap2 (((bq st k).take j).map fun p=> .int .i64 (p.root:Int)):: .box gp 387 [.int .i64 (i:Int),.int .i64 (cz ((bq st k).take j):Int),.bool (decide (n.kind=3))]:: .own A 387 3 st.length cap (st.flatMap rZ)::Hv∧j≤k) (fun j=>k - j) 0 ?_ ?_
    ·
     refine ⟨_,_,?_,?_,⟨none,0,rfl,rfl,by omega⟩⟩
     ·
      exact sB
     ·
      exact mS
    ·
     rintro j _ _ ⟨A2,cap2,rfl,rfl,hjk⟩
     by_cases hj:j<k
     ·
      refine bW (.tl (.tl .hd)) (by omega) fun gs hA=> ?_
      subst hA
      obtain rfl:B=some ⟨gs,0+(st.length - k)*3,none⟩:=by rw [hB,if_neg (by omega)];simp [ee]
      have hjt:j<(bq st k).length:=by omega
      have he:((st.flatMap rZ).drop (0+(st.length - k)*3+j*3)).take 3=rZ (bq st k)[j]:=by
       rw [show 0+(st.length - k)*3+j*3=(st.length - k+j)*3 by rw [QH];omega,cK n9 st _ (by omega)]
       simp [bq]
      have hd32:(bq st k)[j].depth≤32:=(hok _ (iS (PG hjt))).2
      repeat' (first|(apply aj;exact rfl;apply ag;exact rfl;exact rfl;omega)|(apply aj;exact rfl;apply Bg;exact rfl;exact pK;exact he;exact rfl)|(apply aj;exact rfl;apply gI;exact rfl;exact rfl;(simp only [maxLen];omega))|(apply aj;exact rfl;apply DG;exact rfl;exact rfl)|(apply bU;(iterate 3 exact rfl);(repeat first|exact .hd|apply Sel.tl|apply In.tl);(intro w hm;exact hm.cells_own (by (repeat first|exact .hd|apply Sel.tl|apply In.tl)));exact rfl;(simp [Value.oneCell',sl]);omega;(simp only [maxLen];omega);(intro A' cap' hA'))|refine sT ?_|refine sM fun _=> ?_|(refine sC ?_ ?_<;>intro hb<;>try omega)|fail)
      have hk1:((bq st k).take (j+1)).map (fun p=>Value.int .i64 (p.root:Int))=((bq st k).take j).map (fun p=>Value.int .i64 (p.root:Int))++ [.int .i64 ((bq st k)[j].root:Int)]:=by
       rw [Po hjt,P4];rfl
      refine ⟨j+1,_,_,?_,?_,?_,⟨A',cap',rfl,rfl,hj⟩⟩
      ·
       omega
      ·
       exact sB
      ·
       rw [hk1,qX _ _ hjt]
       exact mS
     ·
      have e:j=k:=by omega
      subst e
      have htk:(bq st j).take j=bq st j:=PM (by omega)
      rw [htk]
      have hd33:=lJ (bq st j) fun p hp=>(hok p (iS hp)).2
      repeat' (first|refine sT ?_|refine sM fun _=> ?_|(refine sC ?_ ?_<;>intro hb<;>try omega)|fail)
      ·
       refine bK (.inl rfl) Tryz.results251 rfl (.drop .hd (.drop .hd (.drop .hd (.refl _)))) ?_
       rw [hrest,if_pos (by omega)]
       exact ⟨rfl,hinv⟩
      rw [if_neg (by omega)] at hrest
      refine I2 (.tl (.tl .hd)) (st.length - j) (by omega) ?_
      refine jN 10 rfl (by kernel_rfl) ?_
      ((with_reducible apply aV (i:=0));exact rfl;exact rfl;decide+kernel;decide+kernel;decide+kernel;exact nP;(intro _ _;exact vP))
      ((with_reducible apply aV (i:=1));exact rfl;exact rfl;decide+kernel;decide+kernel;decide+kernel;exact nP;(intro _ _;exact vP))
      ((with_reducible apply aV (i:=2));exact rfl;exact rfl;decide+kernel;decide+kernel;decide+kernel;exact nP;(intro _ _;exact vP))
      ((with_reducible apply aV (i:=3));exact rfl;exact rfl;decide+kernel;decide+kernel;decide+kernel;exact nP;(intro _ _;exact vP))
      ((with_reducible apply aV (i:=4));exact rfl;exact rfl;decide+kernel;decide+kernel;decide+kernel;exact nP;(intro _ _;exact vP))
      ((with_reducible apply aV (i:=5));exact rfl;exact rfl;decide+kernel;decide+kernel;decide+kernel;exact nP;(intro _ _;exact vP))
      repeat' (first|(apply aL (i:=6);exact rfl;decide+kernel)|(apply aL (i:=7);exact rfl;decide+kernel)|(apply aL (i:=8);exact rfl;decide+kernel)|(apply aL (i:=9);exact rfl;decide+kernel)|(apply jM;decide+kernel)|(apply bU;(iterate 3 exact rfl);(repeat first|exact .hd|apply Sel.tl|apply In.tl);(intro w hm;exact hm.cells_own (by (repeat first|exact .hd|apply Sel.tl|apply In.tl)));exact rfl;(simp [Value.oneCell',sl]);omega;(simp only [maxLen];omega);(intro A' cap' hA'))|refine sT ?_|refine sM fun _=> ?_|(refine sC ?_ ?_<;>intro hb<;>try omega)|fail)
      have hcont:(st.flatMap rZ).take ((st.length - j)*3)++ [.int .i64 (i:Int),.int .i64 (cz (bq st j):Int),.bool (decide (n.kind=3))]=(st.take (st.length - j)++ [(⟨i,cz (bq st j),decide (n.kind=3)⟩:Pt)]).flatMap rZ:=by
       rw [j0 n9,Pj];rfl
      have hvis:=hV vs ((bq st j).map Pt.root) (cz (bq st j)) A2 cap2 Hv [.own A' 387 3 (st.length - j+1) cap' ((st.take (st.length - j)++ [(⟨i,cz (bq st j),decide (n.kind=3)⟩:Pt)]).flatMap rZ)] hinv (by rw [Ps];omega) (by omega) (by intro q hq;obtain ⟨p,hp,rfl⟩:=Py.1 hq;rw [hvl];exact (hok p (iS hp)).1)
      simp only [Ps,htl,hvl,QQ] at hvis
      rw [hcont]
      (with_reducible apply ni)
      ·
       exact rfl
      ·
       exact rfl
      ·
       infer_instance
      ·
       exact rfl
      ·
       refine hvis.msub ?_
       refine MSub.pick (T:=_) pK (MSub.snoc pK ?_)
       exact mS
      rintro v H' ⟨H1,hI1,hM1⟩
      repeat' (first|(apply aj;exact rfl;apply gI;exact rfl;exact rfl;(simp only [maxLen];omega))|refine sT ?_|refine sM fun _=> ?_|(refine sC ?_ ?_<;>intro hb<;>try omega)|fail)
      refine ⟨i+1,_,_,?_,?_,?_,⟨st.take (st.length - j)++ [(⟨i,cz (bq st j),decide (n.kind=3)⟩:Pt)],vs++ [((bq st j).map Pt.root,cz (bq st j))],A',cap',H1,rfl,rfl,⟨?_,?_,?_,?_,?_,?_⟩⟩⟩
      ·
       omega
      ·
       have e1:(st.take (st.length - j)++ [(⟨i,cz (bq st j),decide (n.kind=3)⟩:Pt)]).length=st.length - j+1:=by simp
       rw [e1]
       exact sB
      ·
       have e1:(st.take (st.length - j)++ [(⟨i,cz (bq st j),decide (n.kind=3)⟩:Pt)]).length=st.length - j+1:=by simp
       rw [e1]
       exact hM1.rot
      ·
       omega
      ·
       simp [hvl]
      ·
       exact hI1
      ·
       exact hrest
      ·
       intro p hp
       rcases Pz.1 hp with hp|hp
       ·
        exact ⟨Nat.lt_succ_of_lt (hok p (P2 hp)).1,(hok p (P2 hp)).2⟩
       ·
        have e:p=⟨i,cz (bq st j),decide (n.kind=3)⟩:=by simpa using hp
        subst e
        exact ⟨RY i,by show cz (bq st j)≤32;omega⟩
      ·
       simp;omega
   ·
    have hfie: ∀ w,aF Tryz.prog 293 [.agg (bg n).toArray] w (.int .i64 (bF n)):=fun w=>yz n w
    rw [if_pos hfe] at hrest
    repeat' (first|(apply aj;exact rfl;apply ag;exact rfl;exact rfl;exact hlt)|(apply aj;exact rfl;apply aZ;exact rfl;exact hrn;exact rfl)|(apply aa;exact rfl;exact rfl;(intro w hm;exact hfie w))|refine sT ?_|refine sM fun _=> ?_|(refine sC ?_ ?_<;>intro hb<;>try omega)|fail)
    refine bK (.inl rfl) Tryz.results251 rfl (.drop .hd (.drop .hd (.refl _))) ?_
    rw [hrest]
    exact ⟨rfl,hinv⟩
  ·
   have e:i=L.length:=by omega
   subst e
   rw [PT,eQ] at hrest
   repeat' (first|refine sT ?_|refine sM fun _=> ?_|(refine sC ?_ ?_<;>intro hb<;>try omega)|fail)
   ·
    refine bK (.inl rfl) Tryz.results251 rfl (.drop .hd (.refl _)) ?_
    rw [hrest,if_neg (by omega)]
    exact ⟨rfl,hinv⟩
   ·
    refine bK (.inl rfl) Tryz.results251 rfl (.drop .hd (.refl _)) ?_
    rw [hrest,if_pos (by omega)]
    exact ⟨rfl,hinv⟩
def jH (L:List Nd) (wide:Bool):Int × List mh:=
 if 256<L.length then (5,[]) else if L.length=0 then (4,[])
 else if (eQ L L 0 [] []).1≠0 then eQ L L 0 [] []
 else if wide=false∧ja L (L.length - 1)=3 then (4,(eQ L L 0 [] []).2) else (0,(eQ L L 0 [] []).2)
set_option maxHeartbeats 2000000 in
theorem Kr (L:List Nd) (wide:Bool) (tv:Value) (w0:World) (ht:Reads w0 tv L.length (L.flatMap bg)) (f:FuncId) [hf:Callable Tryz.prog f] (caps:List Value) (Inv:List mh→List Blk→Prop) (hV:Fq L.length w0 f caps Inv)
  (H:List Blk) (hI:Inv [] H):FnIn Tryz.prog 204 [tv,.bool wide,.func (.func f) #[] caps.toArray] w0 H fun v H' =>v= .int .i64 (jH L wide).1∧Inv (jH L wide).2 H' :=by
 have ht' :=ht
 obtain ⟨At,ct,rfl,ht1,ht2,ht3⟩:=ht
 refine bM Tryz.func204 rfl Tryz.ntmps204 rfl ?_
 by_cases h256:256<L.length
 ·
  repeat' (first|refine sT ?_|refine sM fun _=> ?_|(refine sC ?_ ?_<;>intro hb<;>try omega)|fail)
  refine bK (.inl rfl) Tryz.results204 rfl (.refl _) ?_
  rw [jH,if_pos h256]
  exact ⟨rfl,hI⟩
 by_cases h0:L.length=0
 ·
  repeat' (first|refine sT ?_|refine sM fun _=> ?_|(refine sC ?_ ?_<;>intro hb<;>try omega)|fail)
  refine bK (.inl rfl) Tryz.results204 rfl (.refl _) ?_
  rw [jH,if_neg h256,if_pos h0]
  exact ⟨rfl,hI⟩
 obtain ⟨gt,ot,rfl,hrt⟩:=ht3 (by omega)
 have hw:=GI L (by omega) (by omega) _ w0 ht' f caps Inv hV H hI
 have hrl:=hrt.elem cE (L.length - 1) (by omega)
 have hk:ja L (L.length - 1)=(L[L.length - 1]'(by omega)).kind:=i9 _
 simp only [jH,if_neg h256,if_neg h0,hk]
 generalize eQ L L 0 [] []=r at hw
 generalize (L[L.length - 1]'(by omega))=nl at hrl
 repeat' (first|(apply ak;exact rfl;exact rfl;exact hw;(rintro v H' ⟨rfl,hI'⟩))|(apply aj;exact rfl;apply dX;exact rfl;exact rfl;omega;omega)|(apply aj;exact rfl;apply ag;exact rfl;exact rfl;omega)|(apply aj;exact rfl;apply dG (off:=0);exact rfl;exact hrl;exact rfl)|refine sT ?_|refine sM fun _=> ?_|(refine sC ?_ ?_<;>intro hb<;>try omega)|fail)
 all_goals refine bK (.inl rfl) Tryz.results204 rfl (.refl _) ?_
 all_goals simp_all
theorem uD (N:Nat) (w0:World) (H0:List Blk):Fq N w0 205 [] fun _ H=>H=H0:=by
 rintro vs kids d A cap _ F rfl _ _ _
 refine bM Tryz.func205 rfl Tryz.ntmps205 rfl ?_
 repeat' (first|refine sT ?_|refine sM fun _=> ?_|(refine sC ?_ ?_<;>intro hb<;>try omega)|fail)
 refine jv (.inr rfl) Tryz.results205 (.drop .hd (.refl _)) ⟨_,rfl,.refl _⟩
def dB (L:List Nd):Int:=(jH L false).1
theorem Dr (L:List Nd) (tv:Value) (w:World) (ht:Reads w tv L.length (L.flatMap bg)):aF Tryz.prog 153 [tv] w (.int .i64 (dB L)):=by
 have ht' :=ht
 obtain ⟨At,ct,rfl,ht1,ht2,ht3⟩:=ht
 refine aA Tryz.func153 rfl Tryz.ntmps153 rfl ?_
 have hw:=Kr L false _ w ht' 205 [] (fun _ H=>H= []) (uD _ w []) [] rfl
 repeat' (first|(apply ak;exact rfl;exact rfl;exact hw;(rintro v H' ⟨rfl,rfl⟩))|refine sT ?_|refine sM fun _=> ?_|(refine sC ?_ ?_<;>intro hb<;>try omega)|fail)
 (refine rT1 ?_)
 rfl
def F7 (vs:List mh):Nat:=(vs.getLast?.map (·.2)).getD 0
def lK (L:List Nd):Int × Int:=if dB L≠0 then (0,dB L) else ((F7 (jH L false).2:Nat),0)
def kK (ks:List Nat):List Value:=ks.map fun (k:Nat)=> .int .i64 (k:Int)
theorem zR (ks:List Nat):(kK ks).length=ks.length:=by simp [kK]
theorem yI (L:List Nd): ∀ u∈L.flatMap bg,u.oneCell' =true:=by
 intro u hu
 obtain ⟨n,_,h⟩:=RZ.1 hu
 simp only [bg,PF,RI,or_false] at h
 rcases h with rfl|rfl|rfl|rfl|rfl|rfl|rfl|rfl|rfl|rfl|rfl<;>rfl
theorem KM (L:List Nd) (tv:Value) (w:World) (ht:Reads w tv L.length (L.flatMap bg)) (hlen:L.length≤1000000):
  FnAt Tryz.prog 95 [tv] w fun v H=> ∃ A cap,v=sl A L.length cap∧H= [.own A 157 11 L.length cap (L.flatMap bg)]:=by
 have ht' :=ht
 obtain ⟨At,ct,rfl,ht1,ht2,ht3⟩:=ht
 refine aA Tryz.func95 rfl Tryz.ntmps95 rfl ?_
 have hl:(L.flatMap bg).length=L.length*11:=aQ cE L
 refine aK 157 11 ?_
 repeat' (first|(apply aj;exact rfl;apply uM;exact rfl)|(apply cG;exact rfl;intro gb)|(apply cB (n' :=0) (c:=0) (A:=some _) (m:=L.length);(iterate 3 exact rfl);exact pK;(intro w hm;exact ht'.of_w0 hm);exact hl;exact yI L;omega;(simp only [maxLen];omega);intro A' cap' hA)|refine sT ?_|refine sM fun _=> ?_|(refine sC ?_ ?_<;>intro hb<;>try omega)|fail)
 ·
  have e:L.length=0:=by
   rcases QB L.length with h|h
   ·
    exact h
   ·
    obtain ⟨g,o,rfl,_⟩:=ht3 h
    cases hb
  have e' :L= []:=Qk e
  subst e'
  exact bK (.inl rfl) Tryz.results95 rfl (.refl _) ⟨none,0,rfl,rfl⟩
 ·
  exact bK (.inl rfl) Tryz.results95 rfl (H' := [.own A' 157 11 (0+L.length) cap' ([]++L.flatMap bg)]) mS ⟨A',cap',by rw [Pn],by rw [Pn];rfl⟩
theorem qQ {α:Type} [DecidableEq α] {L M:List α} {i:Nat} (h1:i<L.length) (h2:i<M.length):decide (L.drop i=M.drop i)=(decide (L[i]=M[i]) && decide (L.drop (i+1)=M.drop (i+1))):=by
 rw [Pf h1,Pf h2]
 simp only [List.cons.injEq,Bool.decide_and]
theorem AF (L M:List Nd) (lv mv:Value) (w:World) (hl:Reads w lv L.length (L.flatMap bg)) (hm:Reads w mv M.length (M.flatMap bg)):
  aF Tryz.prog 84 [lv,mv] w (.bool (decide (L=M))):=by
 obtain ⟨Al,cl,rfl,hl1,hl2,hl3⟩:=hl
 obtain ⟨Am,cm,rfl,hm1,hm2,hm3⟩:=hm
 refine aA Tryz.func84 rfl Tryz.ntmps84 rfl ?_
 by_cases hlen:L.length=M.length
 ·
  repeat' (first|refine sT ?_|refine sM fun _=> ?_|(refine sC ?_ ?_<;>intro hb<;>try omega)|fail)
  refine eH (fun i:Nat=> [(0,.slice Al L.length cl),(1,.slice Am M.length cm),(5,.int .i64 (i:Int))]) (fun _=> []) (fun i=>i≤L.length∧decide (L=M)=decide (L.drop i=M.drop i)) (fun i=>L.length - i) 0 ⟨by omega,rfl⟩ ?_ ?_ ?_
  ·
   exact sB
  ·
   exact mS
  ·
   rintro i ⟨hi,hrec⟩
   by_cases hlt:i<L.length
   ·
    have hlt2:i<M.length:=by omega
    obtain ⟨gl,ol,rfl,hrl⟩:=hl3 (by omega)
    obtain ⟨gm,om,rfl,hrm⟩:=hm3 (by omega)
    have he1:=hrl.elem cE i hlt
    have he2:=hrm.elem cE i hlt2
    rw [qQ hlt hlt2,← z6] at hrec
    repeat' (first|(apply aP;exact rfl;apply ag;exact rfl;exact rfl;(first|exact hlt|exact hlt2))|(apply aP;exact rfl;apply aZ;exact rfl;(first|exact he1|exact he2);exact rfl)|(apply aP;exact rfl;apply rA;exact rfl;exact rfl)|(apply aj;exact rfl;apply gI;exact rfl;exact rfl;(simp only [maxLen] at*;omega))|refine sT ?_|refine sQ ?_|refine sD ?_|refine sM fun _=> ?_|(refine sC ?_ ?_<;>intro hb<;>try omega)|(refine sCQ ?_ ?_<;>intro hb<;>try omega)|fail)
    ·
     (refine rT1 ?_)
     rw [hrec,hb]
     rfl
    ·
     refine ⟨i+1,⟨by omega,?_⟩,by omega,?_,?_⟩
     ·
      rw [hrec,hb]
      rfl
     ·
      exact sB
     ·
      exact mS
   ·
    have e:i=L.length:=by omega
    subst e
    repeat' (first|refine sT ?_|refine sM fun _=> ?_|(refine sC ?_ ?_<;>intro hb<;>try omega)|fail)
    (refine rT1 ?_)
    rw [hrec,PT,hlen,PT]
    rfl
 ·
  repeat' (first|refine sT ?_|refine sM fun _=> ?_|(refine sC ?_ ?_<;>intro hb<;>try omega)|fail)
  (refine rT1 ?_)
  rw [decide_eq_false]
  intro e
  exact hlen (congrArg List.length e)
def k1:Nd:=⟨1,⟨1,50000,ay⟩,aW,0,0,0⟩
def k2:Nd:=⟨2,bR,⟨1,1,1,1⟩,0,0,0⟩
def k3:Nd:=⟨3,bR,⟨1,1,2,2⟩,0,0,0⟩
def k6:Nd:=⟨6,bR,aW,1,0,0⟩
def j7:Nd:=⟨7,bR,aW,0,46,1⟩
theorem Reads.of_row {w0 w:World} {H:List Blk} {g t sz m c:Nat} {xs:List Value} (hm:Mem w0 w H) (hi:In (.own (some g) t sz m c xs) H):Reads w (.slice (some ⟨g,0,none⟩) m c) m xs:=Reads.of_own hm hi
end Go.SL
namespace Go.SL
open Go Go.Proofs
attribute [local irreducible] W WL WQ WG WA VOp thn blk bZ bA FnAt FnIn
theorem AC (L M:List Us) (lv mv:Value) (w:World) (hl:Reads w lv L.length (L.flatMap bQ)) (hm:Reads w mv M.length (M.flatMap bQ)):
  aF Tryz.prog 83 [lv,mv] w (.bool (decide (L=M))):=by
 obtain ⟨Al,cl,rfl,hl1,hl2,hl3⟩:=hl
 obtain ⟨Am,cm,rfl,hm1,hm2,hm3⟩:=hm
 refine aA Tryz.func83 rfl Tryz.ntmps83 rfl ?_
 by_cases hlen:L.length=M.length
 ·
  repeat' (first|refine sT ?_|refine sM fun _=> ?_|(refine sC ?_ ?_<;>intro hb<;>try omega)|fail)
  refine eH (fun i:Nat=> [(0,.slice Al L.length cl),(1,.slice Am M.length cm),(5,.int .i64 (i:Int))]) (fun _=> []) (fun i=>i≤L.length∧decide (L=M)=decide (L.drop i=M.drop i)) (fun i=>L.length - i) 0 ⟨by omega,rfl⟩ ?_ ?_ ?_
  ·
   exact sB
  ·
   exact mS
  ·
   rintro i ⟨hi,hrec⟩
   by_cases hlt:i<L.length
   ·
    have hlt2:i<M.length:=by omega
    obtain ⟨gl,ol,rfl,hrl⟩:=hl3 (by omega)
    obtain ⟨gm,om,rfl,hrm⟩:=hm3 (by omega)
    have he1:=hrl.elem gG i hlt
    have he2:=hrm.elem gG i hlt2
    rw [qQ hlt hlt2,← Me] at hrec
    repeat' (first|(apply aP;exact rfl;apply ag;exact rfl;exact rfl;(first|exact hlt|exact hlt2))|(apply aP;exact rfl;apply aZ;exact rfl;(first|exact he1|exact he2);exact rfl)|(apply aP;exact rfl;apply Nc;exact rfl;exact rfl)|(apply aj;exact rfl;apply gI;exact rfl;exact rfl;(simp only [maxLen] at*;omega))|refine sT ?_|refine sQ ?_|refine sD ?_|refine sM fun _=> ?_|(refine sC ?_ ?_<;>intro hb<;>try omega)|(refine sCQ ?_ ?_<;>intro hb<;>try omega)|fail)
    ·
     (refine rT1 ?_)
     rw [hrec,hb]
     rfl
    ·
     refine ⟨i+1,⟨by omega,?_⟩,by omega,?_,?_⟩
     ·
      rw [hrec,hb]
      rfl
     ·
      exact sB
     ·
      exact mS
   ·
    have e:i=L.length:=by omega
    subst e
    repeat' (first|refine sT ?_|refine sM fun _=> ?_|(refine sC ?_ ?_<;>intro hb<;>try omega)|fail)
    (refine rT1 ?_)
    rw [hrec,PT,hlen,PT]
    rfl
 ·
  repeat' (first|refine sT ?_|refine sM fun _=> ?_|(refine sC ?_ ?_<;>intro hb<;>try omega)|fail)
  (refine rT1 ?_)
  rw [decide_eq_false]
  intro e
  exact hlen (congrArg List.length e)
def fQ (n:Nd):Bool:=decide (n.kind=2)||decide (n.kind=3)
theorem Hs (n:Nd) (w:World):aF Tryz.prog 207 [.agg (bg n).toArray] w (.bool (fQ n)):=by
 refine aA Tryz.func207 rfl Tryz.ntmps207 rfl ?_
 repeat' (first|refine sT ?_|refine sM fun _=> ?_|(refine sC ?_ ?_<;>intro hb<;>try omega)|fail)
 all_goals
  (refine rT1 ?_)
  simp [fQ, *]
theorem kO (r:Rct):(aH r).length=4:=rfl
theorem NL (L:List Rct) (lv:Value) (w:World) (hl:Reads w lv L.length (L.flatMap aH)):aF Tryz.prog 160 [lv] w (.bool (L.all bh)):=by
 obtain ⟨Al,cl,rfl,hl1,hl2,hl3⟩:=hl
 refine aA Tryz.func160 rfl Tryz.ntmps160 rfl ?_
 repeat' (first|refine sT ?_|refine sM fun _=> ?_|(refine sC ?_ ?_<;>intro hb<;>try omega)|fail)
 refine eH (fun i:Nat=> [(5,.slice Al L.length cl),(6,.int .i64 (L.length:Int)),(7,.int .i64 (i:Int))]) (fun _=> []) (fun i=>i≤L.length∧L.all bh=(L.drop i).all bh) (fun i=>L.length - i) 0 ⟨by omega,rfl⟩ ?_ ?_ ?_
 ·
  exact sB
 ·
  exact mS
 ·
  rintro i ⟨hi,hrec⟩
  by_cases hlt:i<L.length
  ·
   obtain ⟨gl,ol,rfl,hrl⟩:=hl3 (by omega)
   have he1:=hrl.elem kO i hlt
   rw [Pf hlt,QN] at hrec
   generalize L[i]=r at hrec he1
   repeat' (first|(apply aa;exact rfl;exact rfl;(intro w hm;exact tY r w))|refine sT ?_|refine sN ?_|refine sO ?_|refine sM fun _=> ?_|(refine sC ?_ ?_<;>intro hb<;>try omega)|fail)
   ·
    (refine rT1 ?_)
    rw [hrec]
    cases hq:bh r<;>simp [iL,hq] at hb ⊢
   ·
    refine ⟨i+1,⟨by omega,?_⟩,by omega,?_,?_⟩
    ·
     rw [hrec]
     cases hq:bh r<;>simp [iL,hq] at hb ⊢
    ·
     exact sB
    ·
     exact mS
  ·
   have e:i=L.length:=by omega
   subst e
   repeat' (first|refine sT ?_|refine sM fun _=> ?_|(refine sC ?_ ?_<;>intro hb<;>try omega)|fail)
   (refine rT1 ?_)
   rw [hrec,PT]
   rfl
def mZ (a b:Rct):Rct:=⟨if a.c1<b.c1 then b.c1 else a.c1,if a.r1<b.r1 then b.r1 else a.r1,if b.c2<a.c2 then b.c2 else a.c2,if b.r2<a.r2 then b.r2 else a.r2⟩
def nU (a b:Rct):Rct × Bool:=if [a,b,mZ a b].all bh=true then (mZ a b,true) else (aW,false)
theorem MA (a b:Rct) (w:World):aF Tryz.prog 118 [.agg (aH a).toArray,.agg (aH b).toArray] w (.tuple #[.agg (aH (nU a b).1).toArray,.bool (nU a b).2]):=by
 refine aA Tryz.func118 rfl Tryz.ntmps118 rfl ?_
 have hall:=fun (lv:Value) (w:World)=>NL [a,b,mZ a b] lv w
 unfold nU
 generalize [a,b,mZ a b].all bh=q at hall
 repeat' (first|(apply aa;exact rfl;exact rfl;(intro w hm;exact hall _ w (Reads.of_row hm pK)))|refine sT ?_|refine sM fun _=> ?_|(refine sC ?_ ?_<;>intro hb<;>try omega)|fail)
 ·
  refine x5 (.inl rfl) Tryz.results118 rfl pK rfl rfl (MSub.nil _) ?_
  simp [hb,aW,aH]
 ·
  refine x5 (.inl rfl) Tryz.results118 rfl pK rfl rfl (MSub.nil _) ?_
  simp [hb,mZ,aH]
structure Pc where
 m0:Int
 m1:Int
 v0:Int
 v1:Int
 ok:Bool
def yH (p:Pc):List Value:= [.int .i64 p.m0,.int .i64 p.m1,.int .i64 p.v0,.int .i64 p.v1,.bool p.ok]
def lh (p:Pc) (c:Int):Pc:=⟨p.m0+1,p.m1,min (26*p.v0+(c - 65)+1) 1025,p.v1,p.ok && decide (p.m1=0)⟩
def gC (p:Pc) (c:Int):Pc:=⟨p.m0,p.m1+1,p.v0,min (10*p.v1+(c - 48)) 1025,p.ok && (decide (c≠48)||decide (0<p.m1))⟩
structure Pc.Fit (p:Pc) (n:Int):Prop where
 m0:0≤p.m0∧p.m0≤n
 m1:0≤p.m1∧p.m1≤n
 v0:0≤p.v0∧p.v0≤1025
 v1:0≤p.v1∧p.v1≤1025
theorem zO (a b:Int):(if b<a then b else a)=min a b:=by omega
theorem Iu (p:Pc) (c:Int) (n:Int) (hf:p.Fit n) (hn:n≤1000000) (h1:65≤c) (h2:c≤90) (g:Nat) (R:List Blk) (w0:World):
  FnIn Tryz.prog 331 [.pointer (some ⟨g,0,none⟩),.int .u8 c,.bool true] w0 (.box g 395 (yH p)::R) fun v H=>v= .tuple #[]∧H= .box g 395 (yH (lh p c))::R:=by
 refine bM Tryz.func331 rfl Tryz.ntmps331 rfl ?_
 obtain ⟨a1,a2⟩:=hf.m0
 obtain ⟨a3,a4⟩:=hf.m1
 obtain ⟨a5,a6⟩:=hf.v0
 obtain ⟨a7,a8⟩:=hf.v1
 have hwc:IntKind.u8.wrap (c - 65)=c - 65:=fa (by omega) (by omega)
 have hwc2:IntKind.i64.wrap (c - 65)=c - 65:=I64.wrap ⟨by omega,by omega⟩
 repeat' (first|(refine ru (id:=1) (ι:=Bool) (fun _=> [(0,.pointer (some ⟨g,0,none⟩)),(1,.int .u8 c)]) (fun b=> .box g 395 [.int .i64 p.m0,.int .i64 p.m1,.int .i64 p.v0,.int .i64 p.v1,.bool b]::R) (fun b=>b=(p.ok && decide (p.m1=0))) ?_ ?_)|refine sT ?_|refine sT2 ?_|refine sG2 ?_|refine sJ ?_|refine sJG ?_|refine sG ?_|refine sM fun _=> ?_|(refine sC ?_ ?_<;>intro hb<;>try omega)|exact cT|fail)
 ·
  (apply cL;rotate_left 1;exact sB;exact mS)
  rw [hb];rfl
 ·
  (apply cL;rotate_left 1;exact sB;exact mS)
  rw [hb];rfl
 rintro _ rfl
 repeat' (first|(refine kW (id:=2) 9 (.box g 395 [.int .i64 (p.m0+1),.int .i64 p.m1,.int .i64 p.v0,.int .i64 p.v1,.bool (p.ok && decide (p.m1=0))]::R) (by kernel_rfl) (by kernel_rfl) rfl ?_)|(refine kW (id:=3) 16 (.box g 395 [.int .i64 (p.m0+1),.int .i64 p.m1,.int .i64 (min (26*p.v0+(c - 65)+1) 1025),.int .i64 p.v1,.bool (p.ok && decide (p.m1=0))]::R) (by kernel_rfl) (by kernel_rfl) rfl ?_)|(apply gh (f:=60);exact rfl;decide+kernel;exact rfl;apply dU;exact rfl;exact rfl;exact hwc)|(apply gh (f:=60);exact rfl;decide+kernel;exact rfl;apply cU;exact rfl;exact hwc2)|(apply su;exact rfl;exact rfl;exact .hd;exact rfl;exact rfl;(try rw [zO]);exact .refl _)|refine sT ?_|refine sT2 ?_|refine sG2 ?_|refine sJ ?_|refine sJG ?_|refine sG ?_|refine sM fun _=> ?_|(refine sC ?_ ?_<;>intro hb<;>try omega)|exact cT|fail)
 exact jv (.inl rfl) rfl (.refl _) ⟨rfl,rfl⟩
theorem Iv (p:Pc) (c:Int) (n:Int) (hf:p.Fit n) (hn:n≤1000000) (h1:48≤c) (h2:c≤57) (g:Nat) (R:List Blk) (w0:World):
  FnIn Tryz.prog 331 [.pointer (some ⟨g,0,none⟩),.int .u8 c,.bool false] w0 (.box g 395 (yH p)::R) fun v H=>v= .tuple #[]∧H= .box g 395 (yH (gC p c))::R:=by
 refine bM Tryz.func331 rfl Tryz.ntmps331 rfl ?_
 obtain ⟨a1,a2⟩:=hf.m0
 obtain ⟨a3,a4⟩:=hf.m1
 obtain ⟨a5,a6⟩:=hf.v0
 obtain ⟨a7,a8⟩:=hf.v1
 have hwc:IntKind.u8.wrap (c - 48)=c - 48:=fa (by omega) (by omega)
 have hwc2:IntKind.i64.wrap (c - 48)=c - 48:=I64.wrap ⟨by omega,by omega⟩
 repeat' (first|(refine ru (id:=4) (ι:=Bool) (fun _=> [(0,.pointer (some ⟨g,0,none⟩)),(1,.int .u8 c)]) (fun b=> .box g 395 [.int .i64 p.m0,.int .i64 p.m1,.int .i64 p.v0,.int .i64 p.v1,.bool b]::R) (fun b=>b=(p.ok && (decide (c≠48)||decide (0<p.m1)))) ?_ ?_)|refine sT ?_|refine sT2 ?_|refine sG2 ?_|refine sJ ?_|refine sJG ?_|refine sG ?_|refine sM fun _=> ?_|(refine sC ?_ ?_<;>intro hb<;>try omega)|exact cT|fail)
 ·
  (apply cL;rotate_left 1;exact sB;exact mS)
  rename_i h3
  rw [h3,decide_eq_true hb];rfl
 ·
  (apply cL;rotate_left 1;exact sB;exact mS)
  rename_i h3
  rw [h3,decide_eq_false hb];rfl
 ·
  (apply cL;rotate_left 1;exact sB;exact mS)
  rw [hb];rfl
 rintro _ rfl
 repeat' (first|(refine kW (id:=5) 9 (.box g 395 [.int .i64 p.m0,.int .i64 (p.m1+1),.int .i64 p.v0,.int .i64 p.v1,.bool (p.ok && (decide (c≠48)||decide (0<p.m1)))]::R) (by kernel_rfl) (by kernel_rfl) rfl ?_)|(refine kW (id:=6) 15 (.box g 395 [.int .i64 p.m0,.int .i64 (p.m1+1),.int .i64 p.v0,.int .i64 (min (10*p.v1+(c - 48)) 1025),.bool (p.ok && (decide (c≠48)||decide (0<p.m1)))]::R) (by kernel_rfl) (by kernel_rfl) rfl ?_)|(apply gh (f:=60);exact rfl;decide+kernel;exact rfl;apply dU;exact rfl;exact rfl;exact hwc)|(apply gh (f:=60);exact rfl;decide+kernel;exact rfl;apply cU;exact rfl;exact hwc2)|(apply su;exact rfl;exact rfl;exact .hd;exact rfl;exact rfl;(try rw [zO]);exact .refl _)|refine sT ?_|refine sT2 ?_|refine sG2 ?_|refine sJ ?_|refine sJG ?_|refine sG ?_|refine sM fun _=> ?_|(refine sC ?_ ?_<;>intro hb<;>try omega)|exact cT|fail)
 exact jv (.inr rfl) rfl (.refl _) ⟨rfl,rfl⟩
def cC (p:Pc) (c:Int):Pc:=if 65≤upC c∧upC c≤90 then lh p (upC c) else if 48≤c∧c≤57 then gC p c else ⟨p.m0,p.m1,p.v0,p.v1,false⟩
def pc0:Pc:=⟨0,0,0,0,true⟩
theorem EH {p:Pc} {c:Int} (h1:97≤c) (h2:c≤122):cC p c=lh p (c - 32):=by
 have e:upC c=c - 32:=by rw [upC,if_pos ⟨h1,h2⟩]
 rw [cC,e,if_pos (by omega)]
theorem HF {p:Pc} {c:Int} (h1:65≤c) (h2:c≤90):cC p c=lh p c:=by
 have e:upC c=c:=by rw [upC,if_neg (by omega)]
 rw [cC,e,if_pos (by omega)]
theorem FN {c:Int} (h: ¬ (97≤c∧c≤122)):upC c=c:=by rw [upC,if_neg h]
theorem vJ {p:Pc} {c:Int} (h1:48≤c) (h2:c≤57):cC p c=gC p c:=by
 rw [cC,FN (by omega),if_neg (by omega),if_pos ⟨h1,h2⟩]
theorem yd {p:Pc} {c:Int} (h: ¬ (97≤c∧c≤122)) (h2: ¬ (65≤c∧c≤90)) (h3: ¬ (48≤c∧c≤57)):cC p c=⟨p.m0,p.m1,p.v0,p.v1,false⟩:=by
 rw [cC,FN h,if_neg h2,if_neg h3]
theorem EI {p:Pc} {n:Int} (h:p.Fit n) (c:Int):(cC p c).Fit (n+1):=by
 obtain ⟨⟨a1,a2⟩,⟨a3,a4⟩,⟨a5,a6⟩,⟨a7,a8⟩⟩:=h
 unfold cC
 split
 ·
  exact ⟨⟨by simp only [lh];omega,by simp only [lh];omega⟩,⟨a3,by simp only [lh];omega⟩,⟨by simp only [lh];omega,by simp only [lh];omega⟩,⟨a7,a8⟩⟩
 ·
  split
  ·
   exact ⟨⟨a1,by simp only [gC];omega⟩,⟨by simp only [gC];omega,by simp only [gC];omega⟩,⟨a5,a6⟩,⟨by simp only [gC];omega,by simp only [gC];omega⟩⟩
  ·
   exact ⟨⟨a1,by dsimp only;omega⟩,⟨a3,by dsimp only;omega⟩,⟨a5,a6⟩,⟨a7,a8⟩⟩
def tL (l:List Int):Pc:=l.foldl cC pc0
theorem Dp (a:ByteArray) (ha:a.size≤100000) (w:World):aF Tryz.prog 312 [.string a] w (.agg (yH (tL (ap a))).toArray):=by
 refine aA Tryz.func312 rfl Tryz.ntmps312 rfl ?_
 have hl:=au a
 repeat' (first|refine sT ?_|refine sT2 ?_|refine sM fun _=> ?_|(refine sC ?_ ?_<;>intro hb<;>try omega)|exact cT|fail)
 rename_i g2 g3
 refine ax [0,2,3,9] rfl (fun x:Nat × Pc=> [(10,.int .i64 (x.1:Int))]) (fun x=> [.box g3 395 (yH x.2),.box g2 395 [.int .i64 0,.int .i64 0,.int .i64 0,.int .i64 0,.bool false]]) (fun x=>x.1≤a.size∧x.2.Fit x.1∧tL (ap a)=((ap a).drop x.1).foldl cC x.2) (fun x=>a.size - x.1) (0,pc0) ⟨Pb _,⟨⟨by decide,by decide⟩,⟨by decide,by decide⟩,⟨by decide,by decide⟩,⟨by decide,by decide⟩⟩,rfl⟩ sB mS ?_
 rintro ⟨i,p⟩ ⟨hi,hf,hr⟩
 dsimp only at hi hf hr ⊢
 by_cases hlt:i<a.size
 ·
  rw [bn hlt,Qc] at hr
  have hc:=sm a i
  generalize hcd:bat a i=c at hr hc
  have hf2:=EI hf c
  repeat' (first|(apply aj (d:=15);exact rfl;exact hcd ▸ ba rfl rfl hlt)|(apply aj (d:=38);exact rfl;apply dU;exact rfl;exact rfl;exact fa (by omega) (by omega))|(apply ak (d:=41);exact rfl;exact rfl;(first|exact FnIn.msub (Iu p _ _ hf (by omega) (by omega) (by omega) _ _ _) (.pick pK (.refl _))|exact FnIn.msub (Iv p _ _ hf (by omega) (by omega) (by omega) _ _ _) (.pick pK (.refl _)));rintro _ _ ⟨rfl,rfl⟩)|refine sT ?_|refine sT2 ?_|refine sN ?_|refine sM fun _=> ?_|(refine sC ?_ ?_<;>intro hb<;>try omega)|exact cT|fail)
  all_goals
   refine ⟨(i+1,cC p c),⟨hlt,by have:=hf2;simpa using this,hr⟩,(by dsimp only;omega),sB,sB,?_⟩
   dsimp only
   first
   |(rw [EH (by omega) (by omega)];exact mS;done)
   |(rw [HF (by omega) (by omega)];exact mS;done)
   |(rw [vJ (by omega) (by omega)];exact mS;done)
   |(rw [yd (by omega) (by omega) (by omega)];exact mS;done)
 ·
  have e:i=a.size:=by omega
  subst e
  rw [PA (by omega),List.foldl_nil] at hr
  rw [hr]
  repeat' (first|refine sT ?_|refine sT2 ?_|refine sM fun _=> ?_|(refine sC ?_ ?_<;>intro hb<;>try omega)|exact cT|fail)
  exact Ho (.inl rfl) rfl rfl .hd rfl (MSub.nil _) rfl
def yY (l:List Int):Int × Int × Int:=
 if (tL l).ok=false∨(tL l).m0=0∨(tL l).m1=0 then (0,0,4)
 else if valid (tL l).v0 (tL l).v1 then ((tL l).v0,(tL l).v1,0) else (0,0,3)
theorem Aq (a:ByteArray) (ha:a.size≤100000) (w:World):aF Tryz.prog 283 [.string a] w (.tuple #[.agg #[.int .i64 (yY (ap a)).1,.int .i64 (yY (ap a)).2.1],.int .i64 (yY (ap a)).2.2]):=by
 refine aA Tryz.func283 rfl Tryz.ntmps283 rfl ?_
 unfold yY
 generalize hp:tL (ap a)=p
 have hR:=Dp a ha
 rw [hp] at hR
 repeat' (first|(apply aa;exact rfl;exact rfl;(intro w hm;exact hR w))|(apply aa;exact rfl;exact rfl;(intro w hm;exact lQ p.v0 p.v1 w))|refine sT ?_|refine sT2 ?_|refine sM fun _=> ?_|(refine sC ?_ ?_<;>intro hb<;>try omega)|exact cT|fail)
 all_goals
  (refine lI ?_)
  simp_all
def bp (a b:Rf):Bool:=decide (a.row<b.row)||(decide (a.row=b.row) && decide (a.col<b.col))
theorem MC (a b:Rf) (w:World):aF Tryz.prog 133 [.agg (aw a).toArray,.agg (aw b).toArray] w (.bool (bp a b)):=by
 refine aA Tryz.func133 rfl Tryz.ntmps133 rfl ?_
 repeat' (first|refine sT ?_|refine sM fun _=> ?_|(refine sC ?_ ?_<;>intro hb<;>try omega)|exact cT|fail)
 all_goals ((refine rT1 ?_);((try simp only [← Int.not_lt] at*);simp_all [bp, -Int.not_lt, -Int.not_le,← Int.not_lt]))
theorem Aw (a:Rf) (w:World):aF Tryz.prog 54 [.agg (aw a).toArray] w (.agg (aH (bB a.col a.row)).toArray):=by
 refine aA Tryz.func54 rfl Tryz.ntmps54 rfl ?_
 repeat' (first|refine sT ?_|refine sM fun _=> ?_|(refine sC ?_ ?_<;>intro hb<;>try omega)|exact cT|fail)
 (refine eRC ?_)
 rfl
def gQ (r:Rct) (a:Rf):Bool:=decide (r.c1≤a.col) && decide (a.col≤r.c2) && decide (r.r1≤a.row) && decide (a.row≤r.r2)
theorem Az (r:Rct) (a:Rf) (w:World):aF Tryz.prog 70 [.agg (aH r).toArray,.agg (aw a).toArray] w (.bool (gQ r a)):=by
 refine aA Tryz.func70 rfl Tryz.ntmps70 rfl ?_
 repeat' (first|refine sT ?_|refine sM fun _=> ?_|(refine sC ?_ ?_<;>intro hb<;>try omega)|exact cT|fail)
 all_goals ((refine rT1 ?_);((try simp only [← Int.not_lt] at*);simp_all [gQ, -Int.not_lt, -Int.not_le,← Int.not_lt]))
end Go.SL
