/-
  Lemmas and walks, put together: W5 A1 W6 W7 W8 W29 A3 A4 Fc.
-/
import Derived.Carry
import Derived.Deep.Slices
import Derived.LaidMore
import Derived.Lay
import Derived.OpenShut
import Derived.ProofKit
import Derived.SevenTiedAt
import Derived.Stop.Joined
import Derived.Test.YtoanpdoacdpgeaaGreatDoorCards
import Derived.Test.YtoanpdoacdpgeaaGreatDoorTie
import Derived.Test.YtoanpdoacdpgeaaGreatDoorKp08
set_option linter.unusedSimpArgs false
set_option linter.unusedVariables false
set_option maxRecDepth 20000
namespace Go.SL
open Go Go.Proofs
attribute [local irreducible] W WL WQ WG WA VOp thn blk aR aL FnIn
def EO (N:Nat) (w0:World) (f:FuncId) (caps:List Value) (Inv:List nz→List Blk→Prop):Prop:=
 ∀ (vs:List nz) (kids:List Nat) (d:Nat) (A:Option Nat) (cap:Nat) (H F:List Blk),Inv vs H→kids.length≤1000→vs.length<N→(∀ k∈kids,k<vs.length)→
  FnIn Tryz.prog f ([.int .i64 (vs.length:Int),sl A kids.length cap,.int .i64 (d:Int)]++caps) w0 (.own A 3 1 kids.length cap (kids.map fun (k:Nat)=> .int .i64 (k:Int))::(H++F))
   fun _ H' => ∃ H1,Inv (vs++ [(kids,d)]) H1∧MSub (H1++F) H'
theorem xM {n:Nd} (h:cQ n=0):0≤below n∧below n≤16:=by
 unfold cQ at h
 split at h
 ·
  cases h
 ·
  rename_i hk
  split at h
  ·
   rename_i h7
   unfold below
   split
   ·
    omega
   ·
    split
    ·
     omega
    ·
     omega
  ·
   rename_i h7
   have h7' :n.kind=7:=by omega
   have hb:below n=n.n:=by simp [below,h7']
   have hk1:kA n=true:=by
    cases hh:kA n
    ·
     exact absurd (Or.inl hh) hk
    ·
     rfl
   simp [kA,h7'] at hk1
   split at h
   ·
    rename_i ha;omega
   ·
    split at h
    ·
     omega
    ·
     rename_i hc
     have hm:(eG n.fn).2.1≤16:=by
      unfold eG
      (repeat' split)<;>simp
     omega
theorem jf (st:List Pt) (k:Nat) (h:k≤st.length):(bA st k).length=k:=by simp [bA];omega
theorem ib {st:List Pt} {k:Nat} {p:Pt} (h:p∈bA st k):p∈st:=SA h
theorem Gz {w0 w:World} {H:List Blk} {A:Option Nat} {st:List Pt} {cap k:Nat} (hm:Mem w0 w H) (hi:In (.own A 356 3 st.length cap (st.flatMap qZ)) H) (h:k≤st.length):
  Reads w (.slice (if cap=st.length - k then A.map fun g=>⟨g,0,none⟩ else (A.map fun g=>(⟨g,0,none⟩:Addr)).map (·.add ((st.length - k)*3))) (st.length - (st.length - k)) (cap - (st.length - k))) (bA st k).length ((bA st k).flatMap qZ):=by
 have h1:=(Reads.of_own hm hi).cut (lo:=st.length - k) (hi:=st.length) (sz:=3) (by omega) (Qq _)
 have e1:st.length - (st.length - k)=(bA st k).length:=by rw [jf st k h];omega
 rw [lg nj,e1] at h1
 have e2:((st.drop (st.length - k)).flatMap qZ).take ((bA st k).length*3)=(bA st k).flatMap qZ:=by
  rw [QY (by rw [aH nj];exact Qq _)];rfl
 rw [e2] at h1
 rw [e1]
 exact h1
theorem qq (top:List Pt) (j:Nat) (h:j<top.length):cy (top.take (j+1))=max (cy (top.take j)) (top[j].depth+1):=by
 unfold cy
 rw [Qv h,Tp]
 rfl
theorem kE (top:List Pt) (h: ∀ p∈top,p.depth≤32):cy top≤33:=by
 have: ∀ (l:List Pt) (d:Nat),d≤33→(∀ p∈l,p.depth≤32)→l.foldl (fun d p=>max d (p.depth+1)) d≤33:=by
  intro l
  induction l with
  |nil=>intro d hd _;simpa using hd
  |cons p r ih=>
   intro d hd hp
   have:=hp p Qp
   exact ih _ (by show max d (p.depth+1)≤33;omega) fun q hq=>hp q (Qw _ hq)
 exact this top 1 (by omega) h
structure WalkSt (L:List Nd) (Inv:List nz→List Blk→Prop) (i:Nat) (st:List Pt) (vs:List nz) (Hv:List Blk):Prop where
 le:i≤L.length
 len:vs.length=i
 inv:Inv vs Hv
 rest:iM L L 0 [] []=iM L (L.drop i) i st vs
 ok: ∀ p∈st,p.root<i∧p.depth≤32
 small:st.length≤i
set_option maxHeartbeats 2000000 in
theorem Gi (L:List Nd) (hne:0<L.length) (hlen:L.length≤256) (tv:Value) (w0:World) (ht:Reads w0 tv L.length (L.flatMap bT)) (f:FuncId) [hf:Callable Tryz.prog f] (caps:List Value) (Inv:List nz→List Blk→Prop) (hV:EO L.length w0 f caps Inv)
  (H:List Blk) (hI:Inv [] H):FnIn Tryz.prog 277 [tv,.func (.func f) #[] caps.toArray] w0 H fun v H' =>v= .int .i64 (iM L L 0 [] []).1∧Inv (iM L L 0 [] []).2 H' :=by
 have ht' :=ht
 obtain ⟨At,ct,rfl,ht1,ht2,ht3⟩:=ht
 obtain ⟨gt,ot,rfl,hrt⟩:=ht3 hne
 refine dx Tryz.func277 rfl Tryz.ntmps277 rfl ?_
 repeat' (first|refine sT ?_|refine sM fun _=> ?_|(refine sC ?_ ?_<;>intro hb<;>try omega)|fail)
 refine aC 356 3 ?_
 refine E7 (fun (i:Nat) s H=> ∃ st vs A cap Hv,s= [(0,.slice (some ⟨gt,ot,none⟩) L.length ct),(1,.func (.func f) #[] caps.toArray),(5,sl A st.length cap),(14,.slice (some ⟨gt,ot,none⟩) L.length ct),(15,.int .i64 (L.length:Int)),(16,.int .i64 (i:Int))]∧
   H= .own A 356 3 st.length cap (st.flatMap qZ)::Hv∧WalkSt L Inv i st vs Hv) (fun i=>L.length - i) 0 ?_ ?_
 ·
  refine ⟨_,_,?_,?_,⟨[],[],none,0,H,rfl,rfl,⟨Qt _,rfl,hI,rfl,by simp,Qq _⟩⟩⟩
  ·
   exact sB
  ·
   exact mS
 ·
  rintro i _ _ ⟨st,vs,A,cap,Hv,rfl,rfl,hst⟩
  obtain ⟨hle,hvl,hinv,hrest,hok,hsmall⟩:=hst
  by_cases hlt:i<L.length
  ·
   have hrn:=hrt.elem eu i hlt
   rw [Qs hlt,iM,lW] at hrest
   generalize hn:L[i]=n at hrest hrn
   by_cases hfe:cQ n=0
   ·
    obtain ⟨hb0,hb16⟩:=xM hfe
    obtain ⟨k,hk⟩:=Tm hb0
    rw [if_neg (by simp [hfe]),hk,RX] at hrest
    have hbel: ∀ w,ay Tryz.prog 306 [.agg (bT n).toArray] w (.int .i64 (k:Int)):=fun w=>hk ▸ Li n w
    have hfie: ∀ w,ay Tryz.prog 305 [.agg (bT n).toArray] w (.int .i64 0):=fun w=>hfe ▸ xN n w
    refine Po .hd fun hr1 hr2 hr3=> ?_
    repeat' (first|(apply ak;exact rfl;apply aj;exact rfl;exact rfl;exact hlt)|(apply ak;exact rfl;apply aB;exact rfl;exact hrn;exact rfl)|(apply ak;exact rfl;apply dm;exact rfl;exact rfl;(simp only [maxLen];omega))|(apply aa;exact rfl;exact rfl;(intro w hm;exact hfie w))|(apply aa;exact rfl;exact rfl;(intro w hm;exact hbel w))|(apply gF (id:=9);kernel_rfl;kernel_rfl)|(apply aS;exact rfl;apply kn;exact rfl;exact rfl;omega;omega)|(apply ak;exact rfl;apply kn;exact rfl;exact rfl;omega;omega)|(apply aS;exact rfl;apply lu (hi:=st.length);exact rfl;exact ⟨_,rfl⟩;exact rfl;omega;omega)|(apply dK;exact rfl;exact rfl;(intro w hm;exact MW L n (bA st k) _ _ w (ht'.of_w0 hm) (Gz hm pK (by omega)) (fun p hp=>Nat.lt_trans (hok p (ib hp)).1 hlt) (by rw [jf st k (by omega)];omega)))|refine sT ?_|refine sQ ?_|refine sM fun _=> ?_|(refine sC ?_ ?_<;>intro hb<;>try omega)|(refine sCQ ?_ ?_<;>intro hb<;>try omega)|fail)
    ·
     refine cf (.inl rfl) Tryz.results277 rfl (.drop .hd (.drop .hd (.refl _))) ?_
     rw [hrest,if_pos (Or.inl (by omega))]
     exact ⟨rfl,hinv⟩
    ·
     refine cf (.inl rfl) Tryz.results277 rfl (.drop .hd (.drop .hd (.refl _))) ?_
     rw [hrest,if_pos (Or.inr hb)]
     exact ⟨rfl,hinv⟩
    have hkl:k≤st.length:=by omega
    rw [if_neg (by intro h;rcases h with h|h;(· omega);(· rw [hb] at h;cases h))] at hrest
    repeat' (first|(apply ak;exact rfl;apply kn;exact rfl;exact rfl;omega;omega)|(apply I0 (hi:=st.length);exact rfl;exact rfl;exact ⟨_,rfl⟩;exact rfl;omega;omega;(intro B hB))|refine sT ?_|refine sM fun _=> ?_|(refine sC ?_ ?_<;>intro hb<;>try omega)|fail)
    rename_i gn gp
    refine aC 3 1 ?_
    have htl:=jf st k hkl
    refine E7 (fun (j:Nat) s H=> ∃ A2 cap2,s= [(0,.slice (some ⟨gt,ot,none⟩) L.length ct),(1,.func (.func f) #[] caps.toArray),(5,sl A st.length cap),(6,.int .i64 (i:Int)),(9,.int .i64 (k:Int)),(10,.pointer (some ⟨gp,0,none⟩)),(11,sl A2 j cap2),
      (14,.slice (some ⟨gt,ot,none⟩) L.length ct),(15,.int .i64 (L.length:Int)),(16,.int .i64 (i:Int)),(54,.slice B (st.length - (st.length - k)) (cap - (st.length - k))),(55,.int .i64 ((st.length - (st.length - k):Nat):Int)),(56,.int .i64 (j:Int))]∧
      H= .own A2 3 1 j cap2 (((bA st k).take j).map fun p=> .int .i64 (p.root:Int)):: .box gp 356 [.int .i64 (i:Int),.int .i64 (cy ((bA st k).take j):Int),.bool (decide (n.kind=3))]:: .own A 356 3 st.length cap (st.flatMap qZ)::Hv∧j≤k) (fun j=>k - j) 0 ?_ ?_
    ·
     refine ⟨_,_,?_,?_,⟨none,0,rfl,rfl,by omega⟩⟩
     ·
      exact sB
     ·
      exact mS
    ·
     rintro j _ _ ⟨A2,cap2,rfl,rfl,hjk⟩
     by_cases hj:j<k
     ·
      refine eK (.tl (.tl .hd)) (by omega) fun gs hA=> ?_
      subst hA
      obtain rfl:B=some ⟨gs,0+(st.length - k)*3,none⟩:=by rw [hB,if_neg (by omega)];simp [cH]
      have hjt:j<(bA st k).length:=by omega
      have he:((st.flatMap qZ).drop (0+(st.length - k)*3+j*3)).take 3=qZ (bA st k)[j]:=by
       rw [show 0+(st.length - k)*3+j*3=(st.length - k+j)*3 by rw [Te];omega,dR nj st _ (by omega)]
       simp [bA]
      have hd32:(bA st k)[j].depth≤32:=(hok _ (ib (Re hjt))).2
      repeat' (first|(apply ak;exact rfl;apply aj;exact rfl;exact rfl;omega)|(apply ak;exact rfl;apply zZ;exact rfl;exact pK;exact he;exact rfl)|(apply ak;exact rfl;apply jO;exact rfl;exact rfl;(simp only [maxLen];omega))|(apply ak;exact rfl;apply Dc;exact rfl;exact rfl)|(apply bO;(iterate 3 exact rfl);(repeat first|exact .hd|apply Sel.tl|apply In.tl);(intro w hm;exact hm.cells_own (by (repeat first|exact .hd|apply Sel.tl|apply In.tl)));exact rfl;(simp [Value.oneCell',sl]);omega;(simp only [maxLen];omega);(intro A' cap' hA'))|refine sT ?_|refine sM fun _=> ?_|(refine sC ?_ ?_<;>intro hb<;>try omega)|fail)
      have hk1:((bA st k).take (j+1)).map (fun p=>Value.int .i64 (p.root:Int))=((bA st k).take j).map (fun p=>Value.int .i64 (p.root:Int))++ [.int .i64 ((bA st k)[j].root:Int)]:=by
       rw [Qv hjt,Ru];rfl
      refine ⟨j+1,_,_,?_,?_,?_,⟨A',cap',rfl,rfl,hj⟩⟩
      ·
       omega
      ·
       exact sB
      ·
       rw [hk1,qq _ _ hjt]
       exact mS
     ·
      have e:j=k:=by omega
      subst e
      have htk:(bA st j).take j=bA st j:=QY (by omega)
      rw [htk]
      have hd33:=kE (bA st j) fun p hp=>(hok p (ib hp)).2
      repeat' (first|refine sT ?_|refine sM fun _=> ?_|(refine sC ?_ ?_<;>intro hb<;>try omega)|fail)
      ·
       refine cf (.inl rfl) Tryz.results277 rfl (.drop .hd (.drop .hd (.drop .hd (.refl _)))) ?_
       rw [hrest,if_pos (by omega)]
       exact ⟨rfl,hinv⟩
      rw [if_neg (by omega)] at hrest
      refine Jc (.tl (.tl .hd)) (st.length - j) (by omega) ?_
      refine jd 10 rfl (by kernel_rfl) ?_
      ((with_reducible apply aP (i:=0));exact rfl;exact rfl;decide+kernel;decide+kernel;decide+kernel;exact nP;(intro _ _;exact vP))
      ((with_reducible apply aP (i:=1));exact rfl;exact rfl;decide+kernel;decide+kernel;decide+kernel;exact nP;(intro _ _;exact vP))
      ((with_reducible apply aP (i:=2));exact rfl;exact rfl;decide+kernel;decide+kernel;decide+kernel;exact nP;(intro _ _;exact vP))
      ((with_reducible apply aP (i:=3));exact rfl;exact rfl;decide+kernel;decide+kernel;decide+kernel;exact nP;(intro _ _;exact vP))
      ((with_reducible apply aP (i:=4));exact rfl;exact rfl;decide+kernel;decide+kernel;decide+kernel;exact nP;(intro _ _;exact vP))
      ((with_reducible apply aP (i:=5));exact rfl;exact rfl;decide+kernel;decide+kernel;decide+kernel;exact nP;(intro _ _;exact vP))
      repeat' (first|(apply aG (i:=6);exact rfl;decide+kernel)|(apply aG (i:=7);exact rfl;decide+kernel)|(apply aG (i:=8);exact rfl;decide+kernel)|(apply aG (i:=9);exact rfl;decide+kernel)|(apply jb;decide+kernel)|(apply bO;(iterate 3 exact rfl);(repeat first|exact .hd|apply Sel.tl|apply In.tl);(intro w hm;exact hm.cells_own (by (repeat first|exact .hd|apply Sel.tl|apply In.tl)));exact rfl;(simp [Value.oneCell',sl]);omega;(simp only [maxLen];omega);(intro A' cap' hA'))|refine sT ?_|refine sM fun _=> ?_|(refine sC ?_ ?_<;>intro hb<;>try omega)|fail)
      have hcont:(st.flatMap qZ).take ((st.length - j)*3)++ [.int .i64 (i:Int),.int .i64 (cy (bA st j):Int),.bool (decide (n.kind=3))]=(st.take (st.length - j)++ [(⟨i,cy (bA st j),decide (n.kind=3)⟩:Pt)]).flatMap qZ:=by
       rw [ju nj,QE];rfl
      have hvis:=hV vs ((bA st j).map Pt.root) (cy (bA st j)) A2 cap2 Hv [.own A' 356 3 (st.length - j+1) cap' ((st.take (st.length - j)++ [(⟨i,cy (bA st j),decide (n.kind=3)⟩:Pt)]).flatMap qZ)] hinv (by rw [Rc];omega) (by omega) (by intro q hq;obtain ⟨p,hp,rfl⟩:=QT.1 hq;rw [hvl];exact (hok p (ib hp)).1)
      simp only [Rc,htl,hvl,SR] at hvis
      rw [hcont]
      (with_reducible apply kG)
      ·
       exact rfl
      ·
       exact rfl
      ·
       infer_instance
      ·
       exact rfl
      ·
       refine hvis.msub ?_
       refine MSub.pick (T:=_) pK (MSub.snoc pK ?_)
       exact mS
      rintro v H' ⟨H1,hI1,hM1⟩
      repeat' (first|(apply ak;exact rfl;apply jO;exact rfl;exact rfl;(simp only [maxLen];omega))|refine sT ?_|refine sM fun _=> ?_|(refine sC ?_ ?_<;>intro hb<;>try omega)|fail)
      refine ⟨i+1,_,_,?_,?_,?_,⟨st.take (st.length - j)++ [(⟨i,cy (bA st j),decide (n.kind=3)⟩:Pt)],vs++ [((bA st j).map Pt.root,cy (bA st j))],A',cap',H1,rfl,rfl,⟨?_,?_,?_,?_,?_,?_⟩⟩⟩
      ·
       omega
      ·
       have e1:(st.take (st.length - j)++ [(⟨i,cy (bA st j),decide (n.kind=3)⟩:Pt)]).length=st.length - j+1:=by simp
       rw [e1]
       exact sB
      ·
       have e1:(st.take (st.length - j)++ [(⟨i,cy (bA st j),decide (n.kind=3)⟩:Pt)]).length=st.length - j+1:=by simp
       rw [e1]
       exact hM1.rot
      ·
       omega
      ·
       simp [hvl]
      ·
       exact hI1
      ·
       exact hrest
      ·
       intro p hp
       rcases QJ.1 hp with hp|hp
       ·
        exact ⟨Nat.lt_succ_of_lt (hok p (RE hp)).1,(hok p (RE hp)).2⟩
       ·
        have e:p=⟨i,cy (bA st j),decide (n.kind=3)⟩:=by simpa using hp
        subst e
        exact ⟨SU i,by show cy (bA st j)≤32;omega⟩
      ·
       simp;omega
   ·
    have hfie: ∀ w,ay Tryz.prog 305 [.agg (bT n).toArray] w (.int .i64 (cQ n)):=fun w=>xN n w
    rw [if_pos hfe] at hrest
    repeat' (first|(apply ak;exact rfl;apply aj;exact rfl;exact rfl;exact hlt)|(apply ak;exact rfl;apply aB;exact rfl;exact hrn;exact rfl)|(apply aa;exact rfl;exact rfl;(intro w hm;exact hfie w))|refine sT ?_|refine sM fun _=> ?_|(refine sC ?_ ?_<;>intro hb<;>try omega)|fail)
    refine cf (.inl rfl) Tryz.results277 rfl (.drop .hd (.drop .hd (.refl _))) ?_
    rw [hrest]
    exact ⟨rfl,hinv⟩
  ·
   have e:i=L.length:=by omega
   subst e
   rw [Rk,iM] at hrest
   repeat' (first|refine sT ?_|refine sM fun _=> ?_|(refine sC ?_ ?_<;>intro hb<;>try omega)|fail)
   ·
    refine cf (.inl rfl) Tryz.results277 rfl (.drop .hd (.refl _)) ?_
    rw [hrest,if_neg (by omega)]
    exact ⟨rfl,hinv⟩
   ·
    refine cf (.inl rfl) Tryz.results277 rfl (.drop .hd (.refl _)) ?_
    rw [hrest,if_pos (by omega)]
    exact ⟨rfl,hinv⟩
end Go.SL
namespace Go.SL
open Go Go.Proofs
attribute [local irreducible] W WL WQ WG WA VOp thn blk bF aR aL FnIn
theorem KX {c:Int} (h1:48≤c) (h2:c≤57):aF c=true:=by simp [aF,h1,h2]
theorem M6 {c:Int} (h:c<48):aF c=false:=by simp [aF];omega
theorem M7 {c:Int} (h:57<c):aF c=false:=by simp [aF];omega
set_option maxRecDepth 10000 in
theorem xT (a:ByteArray) (ha:a.size≤1000000) (w:World):ay Tryz.prog 219 [.string a] w (.int .i64 (aD aF (ap a):Int)):=by
 refine aq Tryz.func219 rfl Tryz.ntmps219 rfl ?_
 have hl:=au a
 repeat' (first|refine sT ?_|refine sT2 ?_|refine sM fun _=> ?_|(refine sC ?_ ?_<;>intro hb<;>try omega)|exact cT|fail)
 refine gX (fun i:Nat=> [(0,.string a),(5,.int .i64 (a.size:Int)),(6,.int .i64 (i:Int))]) (fun _=> []) (fun i=>i≤a.size∧aD aF (ap a)=i+aD aF ((ap a).drop i)) (fun i=>a.size - i) 0 ⟨by omega,by simp⟩ sB mS ?_
 rintro i ⟨hi,hr⟩
 by_cases hlt:i<a.size
 ·
  have hs1:=bg hlt
  rw [hs1] at hr
  simp only [aD] at hr
  repeat' (first|refine sT ?_|refine sT2 ?_|refine sN ?_|refine sM fun _=> ?_|(refine sC ?_ ?_<;>intro hb<;>try omega)|exact cT|fail)
  ·
   (refine rT1 ?_)
   rw [hr,M6 hb];simp
  ·
   (refine rT1 ?_)
   rw [hr,M7 hb];simp
  ·
   rename_i h1
   rw [KX h1 hb] at hr
   exact ⟨i+1,⟨hlt,by rw [hr];simp;omega⟩,by omega,by exact sB,by exact mS⟩
 ·
  have e:i=a.size:=by omega
  subst e
  repeat' (first|refine sT ?_|refine sT2 ?_|refine sM fun _=> ?_|(refine sC ?_ ?_<;>intro hb<;>try omega)|exact cT|fail)
  (refine rT1 ?_)
  rw [hr,QK (by omega)];simp [aD]
def jg (hi lo:Int) (neg:Bool):Int × Bool:=if hi≠0∨cE<lo then (0,false) else (if neg then -lo else lo,true)
theorem pG {v:Int} (h1:0≤v) (h2:v≤cE):IntKind.i64.wrap v=v:=I64.wrap ⟨by omega,by simpa [cE] using h2⟩
set_option maxRecDepth 10000 in
theorem GI (hi lo:Int) (neg:Bool) (h0:0≤lo) (w:World):ay Tryz.prog 220 [.int .u64 hi,.int .u64 lo,.bool neg] w (.tuple #[.int .i64 (jg hi lo neg).1,.bool (jg hi lo neg).2]):=by
 refine aq Tryz.func220 rfl Tryz.ntmps220 rfl ?_
 by_cases hh:hi=0
 ·
  by_cases hl:lo≤cE
  ·
   have hw:=pG h0 hl
   have hm:cE=9223372036854775807:=rfl
   have e:jg hi lo neg=(if neg then -lo else lo,true):=by rw [jg,if_neg (by omega)]
   rw [e]
   subst hh
   cases neg
   ·
    repeat' (first|(apply ak;exact rfl;apply bP;exact rfl;exact hw)|refine sT ?_|refine sM fun _=> ?_|(refine sC ?_ ?_<;>intro hb<;>try omega)|exact cT|fail)
    all_goals first|(exfalso;omega)|((refine rT2 ?_);rfl)
   ·
    repeat' (first|(apply ak;exact rfl;apply bP;exact rfl;exact hw)|(apply ak;exact rfl;apply NI;exact rfl;exact ⟨by omega,by omega⟩)|refine sT ?_|refine sM fun _=> ?_|(refine sC ?_ ?_<;>intro hb<;>try omega)|exact cT|fail)
    all_goals first|(exfalso;omega)|((refine rT2 ?_);rfl)
  ·
   have hm:cE=9223372036854775807:=rfl
   have e:jg hi lo neg=(0,false):=by rw [jg,if_pos (by omega)]
   rw [e]
   repeat' (first|refine sT ?_|refine sM fun _=> ?_|(refine sC ?_ ?_<;>intro hb<;>try omega)|exact cT|fail)
   all_goals first|(exfalso;omega)|((refine rT2 ?_);rfl)
 ·
  have e:jg hi lo neg=(0,false):=by rw [jg,if_pos (.inl hh)]
  rw [e]
  repeat' (first|refine sT ?_|refine sM fun _=> ?_|(refine sC ?_ ?_<;>intro hb<;>try omega)|exact cT|fail)
  all_goals first|(exfalso;omega)|((refine rT2 ?_);rfl)
theorem uu (u:Int) (neg:Bool) (h0:0≤u) (h1:u≤cE) (w:World):ay Tryz.prog 220 [.int .u64 0,.int .u64 u,.bool neg] w (.tuple #[.int .i64 (if neg then -u else u),.bool true]):=by
 have h:=GI 0 u neg h0 w
 rwa [jg,if_neg (by omega)] at h
theorem o9: ∀ (l:List Int) (v c:Int),bu (l++ [c]) v=10*bu l v+(c - 48)
 | [],_,_=>rfl
 |d::r,v,c=>by simp only [Qm,bu];exact o9 r _ c
theorem kT: ∀ (l:List Int) {v:Int},(∀ c∈l,48≤c)→0≤v→v≤bu l v
 | [],_,_,_=>RS _
 |c::r,v,h,h0=>by
  have h1:=h c Qp
  have:=kT r (v:=10*v+(c - 48)) (fun d hd=>h d (Qw _ hd)) (by omega)
  simp only [bu];omega
theorem qc (l m:List Int) (v:Int):bu (l++m) v=bu m (bu l v):=by
 induction l generalizing v with
 |nil=>rfl
 |cons c l ih=>simp only [Qm,bu,ih]
def fY (l0:List Int):Int × Int:=
 let neg:=decide (l0.head? =some 45)
 let l:=if neg then l0.tail else l0
 let n:=aD aF l
 let rest:=l.drop n
 let frac:=decide (1<rest.length) && (decide (rest.head? =some 46) && decide (aD aF rest.tail+1=rest.length))
 let p5:=(if frac then rest.tail else [])++ [48,48,48,48,48]
 if n=0∨(frac=false∧rest≠ []) then (0,4)
 else
  let v:=bu (l.take n++p5.take 4) 0+(if 53≤p5.getD 4 0 then 1 else 0)
  if cE<v then (0,3) else (if neg then -v else v,0)
theorem qh (a:ByteArray) (c:Int):((ap a).head? =some c)↔(0<a.size∧bat a 0=c):=by
 by_cases h:0<a.size
 ·
  have:=bg h
  rw [RM] at this
  rw [this];simp [h]
 ·
  have:ap a= []:=by rw [← RV,au];omega
  rw [this];simp;omega
set_option maxRecDepth 10000 in
theorem rR (a:ByteArray) (ha:a.size≤1000000) (w:World):ay Tryz.prog 172 [.string a] w (.tuple #[.int .i64 (fY (ap a)).1,.int .i64 (fY (ap a)).2]):=by
 refine aq Tryz.func172 rfl Tryz.ntmps172 rfl ?_
 have hl:=au a
 generalize hneg:decide ((ap a).head? =some 45)=neg
 generalize hls:(if neg then (ap a).tail else ap a)=ls
 have hb0:=qh a 45
 repeat' (first|(refine tO (id:=1) (ι:=Bool) (fun b=> [(0,.string a),(4,.bool b)]) (fun _=> []) (fun b=>neg=b) ?_ ?_)|refine sT ?_|refine sT2 ?_|refine sM fun _=> ?_|(refine sC ?_ ?_<;>intro hb<;>try omega)|exact cT|fail)
 ·
  (apply cG;rotate_left 1;exact sB;exact mS)
  rw [← hneg,decide_eq_decide,hb0]
  simp;omega
 ·
  (apply cG;rotate_left 1;exact sB;exact mS)
  rw [← hneg,decide_eq_false_iff_not,hb0]
  omega
 rintro _ rfl
 repeat' (first|(refine yC (id:=2) (ι:=ByteArray) (fun b=> [(0,.string b),(4,.bool neg)]) (fun _=> []) (fun b=>ap b=ls∧b.size≤a.size) ?_ ?_)|refine sT ?_|refine sT2 ?_|refine sM fun _=> ?_|(refine sC ?_ ?_<;>intro hb<;>try omega)|exact cT|fail)
 ·
  have h1:0<a.size:=(hb0.1 (of_decide_eq_true (hneg.trans hb))).1
  repeat' (first|refine sT ?_|refine sT2 ?_|refine sM fun _=> ?_|(refine sC ?_ ?_<;>intro hb<;>try omega)|exact cT|fail)
  (apply cG;rotate_left 1;exact sB;exact mS)
  rw [← hls,hb,nS,bY _ (Qq _)]
  simp
 ·
  (apply cG;rotate_left 1;exact sB;exact mS)
  rw [← hls,hb]
  simp
 rintro b ⟨hbl,hbs⟩
 have hlb:=au b
 rw [hbl] at hlb
 have hdl:=bU aF ls
 generalize hn:aD aF ls=n at hdl
 generalize hrest:ls.drop n=rest
 generalize hfr:(decide (1<rest.length) && (decide (rest.head? =some 46) && decide (aD aF rest.tail+1=rest.length)))=fr
 have hcd:=xT b (by omega)
 rw [hbl,hn] at hcd
 have hb1:=qh (sub b n b.size) 46
 have hs1:=bY b (lo:=n) (Qq b.size)
 have hr1:ap (sub b n b.size)=rest:=by rw [nS,hbl,hrest]
 generalize hz:sub b n b.size=z at hb1 hs1 hr1
 have hrl:rest.length=z.size:=by rw [← hr1,au]
 have e1:ap (sub z 1 z.size)=rest.tail:=by rw [nS,hr1,List.drop_one]
 rw [hr1] at hb1
 have hcd2:=fun h=>xT (sub z 1 z.size) h
 repeat' (first|(refine tO (id:=7) (ι:=Bool) (fun x=> [(4,.bool neg),(5,.int .i64 (n:Int)),(6,.string (sub b 0 n)),(7,.string z),(8,.string av),(50,.bool x)]) (fun _=> []) (fun x=>fr=x) ?_ ?_)|(apply aa;exact rfl;exact rfl;(intro w hm;exact hcd w))|(apply aa;exact rfl;exact rfl;(intro w hm;exact hcd2 (by rw [bY _ (Qq _)];omega) w))|(rw [hz])|refine sT ?_|refine sQ ?_|refine sT2 ?_|refine sQ2 ?_|refine sN ?_|refine sNQ ?_|refine sD ?_|refine sM fun _=> ?_|(refine sC ?_ ?_<;>intro hb<;>try omega)|(refine sCQ ?_ ?_<;>intro hb<;>try omega)|exact cT|fail)
 ·
  (apply cG;rotate_left 1;exact sB;exact mS)
  rename_i h1
  rw [e1,← hfr,decide_eq_true (by omega:1<rest.length),decide_eq_true (hb1.2 ⟨by omega,hb⟩)]
  simp only [QS,decide_eq_decide]
  omega
 ·
  (apply cG;rotate_left 1;exact sB;exact mS)
  rw [← hfr,decide_eq_false (fun h=>hb (hb1.1 h).2)]
  simp
 ·
  (apply cG;rotate_left 1;exact sB;exact mS)
  rw [← hfr,decide_eq_false (by omega)]
  rfl
 rintro _ rfl
 have hf1:fr=true→1≤z.size:=fun h=>by
  rw [← hfr] at h
  simp at h
  omega
 have hf2:fr=false→((z=av)↔rest= []):=fun _=>by rw [← Kx,hr1]
 have hbl2:b.size≤1000000:=by omega
 refine oR (ι:=ByteArray × ByteArray) (fun x=> [(4,.bool neg),(5,.int .i64 (n:Int)),(6,.string (sub b 0 n)),(7,.string x.1),(8,.string x.2)]) (fun _=> []) (fun x=>ap x.2=(if fr then rest.tail else [])∧((x.1=av)↔(fr=true∨rest= []))∧x.2.size≤a.size) ?_ ?_
 ·
  cases fr
  ·
   repeat' (first|refine sT ?_|refine sT2 ?_|refine sM fun _=> ?_|(refine sC ?_ ?_<;>intro hb<;>try omega)|exact cT|fail)
   refine cG ((z,av)) ?_ sB mS
   exact ⟨rfl,by rw [hf2 rfl];simp,Qt _⟩
  ·
   have h1:=hf1 rfl
   repeat' (first|refine sT ?_|refine sT2 ?_|refine sM fun _=> ?_|(refine sC ?_ ?_<;>intro hb<;>try omega)|exact cT|fail)
   refine cG ((av,sub z 1 z.size)) ?_ sB mS
   exact ⟨by rw [e1];rfl,by simp [av],by rw [bY _ (Qq _)];omega⟩
 rintro ⟨z',pl⟩ ⟨h1,h2,h3⟩
 dsimp only at*
 generalize hp5:(if fr then rest.tail else [])++ [48,48,48,48,48]=p5
 have hpl:ap (pl++⟨#[48,48,48,48,48]⟩)=p5:=by rw [gy,h1,← hp5];rfl
 have hpz:(pl++⟨#[48,48,48,48,48]⟩:ByteArray).size=pl.size+5:=by rw [SH];rfl
 generalize hqd:(pl++⟨#[48,48,48,48,48]⟩:ByteArray)=q at hpl hpz
 have hres:fY (ap a)=if n=0∨(fr=false∧rest≠ []) then (0,4) else if cE<bu (ls.take n++p5.take 4) 0+(if 53≤p5.getD 4 0 then 1 else 0) then (0,3) else (if neg then -(bu (ls.take n++p5.take 4) 0+(if 53≤p5.getD 4 0 then 1 else 0)) else bu (ls.take n++p5.take 4) 0+(if 53≤p5.getD 4 0 then 1 else 0),0):=by
  unfold fY
  rw [hneg]
  dsimp only
  rw [hls,hn,hrest,hfr,hp5]
 rw [hres]
 by_cases herr:n=0∨(fr=false∧rest≠ [])
 ·
  rw [if_pos herr]
  repeat' (first|refine sT ?_|refine sT2 ?_|refine sM fun _=> ?_|(refine sC ?_ ?_<;>intro hb<;>try omega)|exact cT|fail)
  ·
   (refine rT2 ?_)
   rfl
  ·
   (refine rT2 ?_)
   rfl
  ·
   exfalso
   have hz' :z' =av:=Decidable.not_not.1 hb
   have:=h2.1 hz'
   rcases herr with h|⟨h,h'⟩
   ·
    omega
   ·
    rcases this with h4|h4
    ·
     rw [h] at h4;cases h4
    ·
     exact h' h4
 ·
  rw [if_neg herr]
  generalize hL:ls.take n++p5.take 4=L
  have hp5l:p5.length=pl.size+5:=by rw [← hpl,au,hpz]
  have hy:ap (sub b 0 n++sub q 0 4)=L:=by rw [gy,tq,tq,hbl,hpl,hL]
  have hyz:(sub b 0 n++sub q 0 4:ByteArray).size=n+4:=by rw [SH,bY _ (by omega),bY _ (by omega)];omega
  generalize hyd:(sub b 0 n++sub q 0 4:ByteArray)=y at hy hyz
  have hyl:L.length=y.size:=by rw [← hy,au]
  have hdig: ∀ c∈L,48≤c∧c≤57:=by
   have hall: ∀ (l:List Int) (c:Int),c∈l.take (aD aF l)→48≤c∧c≤57:=fun l c hc=>by
    obtain ⟨j,hj,rfl⟩:=Sd hc
    simp only [QD] at hj
    have h:=jB (p:=aF) l j (l[j]'(by omega)) (by omega) (Ql _)
    simp only [TJ]
    simpa [aF] using h
   intro c hc
   rw [← hL] at hc
   rcases QJ.1 hc with hc|hc
   ·
    rw [← hn] at hc;exact hall ls c hc
   ·
    have hc:=RE hc
    rw [← hp5] at hc
    rcases QJ.1 hc with hc|hc
    ·
     cases hc1:fr
     ·
      rw [hc1] at hc;cases hc
     ·
      rw [hc1] at hc
      simp only [if_true] at hc
      have h7:aD aF rest.tail=rest.tail.length:=by
       rw [hc1] at hfr
       simp only [Qu,decide_eq_true_eq] at hfr
       rw [Tz];omega
      have:=hall rest.tail c (by rw [h7,Rx];exact hc)
      exact this
    ·
     simp at hc;omega
  have hq4:bat q 4=p5.getD 4 0:=by rw [bat,hpl]
  have hm0:cE=9223372036854775807:=rfl
  repeat' (first|(apply ak (d:=60);exact rfl;apply jr;exact rfl;exact rfl;exact hqd;(show pl.size+5≤_;omega))|(apply ak (d:=64);exact rfl;apply jr;exact rfl;exact rfl;exact hyd;(rw [bY _ (by omega),bY _ (by omega)];omega))|(apply lm;exact rfl;exact rfl;intro gb cap)|refine sT ?_|refine sT2 ?_|refine sM fun _=> ?_|(refine sC ?_ ?_<;>intro hb<;>try omega)|exact cT|fail)
  ·
   exfalso
   refine herr (.inr ?_)
   have h4: ¬ (fr=true∨rest= []):=fun h=>hb (h2.2 h)
   cases hc:fr
   ·
    exact ⟨rfl,fun h=>h4 (.inr h)⟩
   ·
    exact absurd (.inl hc) h4
  have hup: ∀ i,i≤L.length→cE<bu (L.take i) 0→cE<bu L 0:=fun i hi h=>by
   have e:L=L.take i++L.drop i:=(RD i L).symm
   rw [e,qc]
   have h0:0≤bu (L.take i) 0:=kT _ (fun c hc=>(hdig c (RE hc)).1) (RS _)
   have:=kT (L.drop i) (v:=bu (L.take i) 0) (fun c hc=>(hdig c (SA hc)).1) h0
   omega
  refine ax [4,8,65,66] rfl (fun x:Nat × Int × Bool=> [(9,.int .u64 x.2.1),(10,.bool x.2.2),(67,.int .i64 (x.1:Int))]) (fun _=> [.byt gb 5 y.size cap (nu y)]) (fun x=>x.1≤L.length∧0≤x.2.1∧x.2.1<18446744073709551616∧(x.2.2=false→x.2.1=bu (L.take x.1) 0∧x.2.1≤cE)∧(x.2.2=true→cE<bu (L.take x.1) 0)) (fun x=>L.length - x.1) (0,0,false) ⟨Qt _,RS _,by decide,fun _=>⟨rfl,by decide⟩,fun h=>by cases h⟩ sB mS ?_
  rintro ⟨i,v,gr⟩ ⟨hi,hv0,hv1,hg0,hg1⟩
  dsimp only at hi hv0 hv1 hg0 hg1 ⊢
  by_cases hlt:i<L.length
  ·
   have hiy:i<y.size:=by omega
   have hge:L[i]? =some L[i]:=Ql hlt
   have hci:=hdig L[i] (Re hlt)
   have hsn:bu (L.take (i+1)) 0=10*bu (L.take i) 0+(L[i] - 48):=by rw [Qv hlt,o9]
   generalize L[i]=c at hge hci hsn
   have hget:(nu y)[0+i*1]? =some (.int .u8 c):=by rw [nX,hy,QX,show 0+i*1=i by omega,hge];rfl
   have hwc:IntKind.u8.wrap (c - 48)=c - 48:=wrap_u8 (by omega) (by omega)
   have hwc2:IntKind.u64.wrap (c - 48)=c - 48:=by simp [IntKind.wrap,IntKind.bits,IntKind.signed];omega
   obtain ⟨v',hadd,hv2,hv3,hv4⟩: ∃ v',IntKind.u64.wrap (IntKind.u64.wrap (10*v)+(c - 48))=v' ∧0≤v' ∧v' <18446744073709551616∧(v≤922337203685477580→v' =10*v+(c - 48)):=by
    refine ⟨_,rfl,?_⟩
    simp only [IntKind.wrap,IntKind.bits,IntKind.signed]
    simp
    omega
   have hn0:0≤bu (L.take i) 0:=kT _ (fun c hc=>(hdig c (RE hc)).1) (RS _)
   cases gr
   ·
    obtain ⟨hg2,hg3⟩:=hg0 rfl
    repeat' (first|(apply ak;exact rfl;apply aj;exact rfl;exact rfl;exact hiy)|(apply ak;exact rfl;apply jz;exact rfl;exact .hd;exact hget)|(apply ak (d:=74);exact rfl;apply Db;exact rfl;exact rfl)|(apply ak (d:=76);exact rfl;apply dz;exact rfl;exact rfl;exact hwc)|(apply ak (d:=77);exact rfl;apply bP;exact rfl;exact hwc2)|(apply ak (d:=78);exact rfl;apply dM;exact rfl;exact rfl;exact hadd)|refine sT ?_|refine sT2 ?_|refine sN ?_|refine sM fun _=> ?_|(refine sC ?_ ?_<;>intro hb<;>try omega)|exact cT|fail)
    ·
     refine ⟨(i+1,v',true),?_,(by first|omega|(dsimp only;omega)),sB,sB,mS⟩
     exact ⟨hlt,hv2,hv3,(fun h=>by cases h),fun _=>by dsimp only;omega⟩
    ·
     have h5:=hv4 (by omega)
     refine ⟨(i+1,v',decide (cE<v')),⟨hlt,hv2,hv3,fun h=> ?_,fun h=> ?_⟩,(by dsimp only;omega),sB,sB,mS⟩
     ·
      have h6:=of_decide_eq_false h
      exact ⟨by dsimp only;omega,by dsimp only;omega⟩
     ·
      have h6:=of_decide_eq_true h
      dsimp only;omega
   ·
    have hg2:=hg1 rfl
    repeat' (first|(apply ak;exact rfl;apply aj;exact rfl;exact rfl;exact hiy)|(apply ak;exact rfl;apply jz;exact rfl;exact .hd;exact hget)|(apply ak (d:=74);exact rfl;apply Db;exact rfl;exact rfl)|(apply ak (d:=76);exact rfl;apply dz;exact rfl;exact rfl;exact hwc)|(apply ak (d:=77);exact rfl;apply bP;exact rfl;exact hwc2)|(apply ak (d:=78);exact rfl;apply dM;exact rfl;exact rfl;exact hadd)|refine sT ?_|refine sT2 ?_|refine sN ?_|refine sM fun _=> ?_|(refine sC ?_ ?_<;>intro hb<;>try omega)|exact cT|fail)
    all_goals
     refine ⟨(i+1,v',true),?_,(by first|omega|(dsimp only;omega)),sB,sB,mS⟩
     exact ⟨hlt,hv2,hv3,(fun h=>by cases h),fun _=>by dsimp only;omega⟩
  ·
   have e:i=L.length:=by omega
   subst e
   rw [QY (Qq _)] at hg0 hg1
   generalize bu L 0=N at hg0 hg1 hup ⊢
   have hadd:v≤cE→IntKind.u64.wrap (v+1)=v+1:=fun h=>by simp [IntKind.wrap,IntKind.bits,IntKind.signed];omega
   by_cases h5:53≤p5.getD 4 0
   ·
    rw [if_pos h5]
    cases gr
    ·
     obtain ⟨hg2,hg3⟩:=hg0 rfl
     subst hg2
     by_cases h6:cE<v+1
     ·
      rw [if_pos h6]
      repeat' (first|(apply ak (d:=89);exact rfl;apply dM;exact rfl;exact rfl;exact hadd hg3)|refine sT ?_|refine sT2 ?_|refine sM fun _=> ?_|(refine sC ?_ ?_<;>intro hb<;>try omega)|exact cT|fail)
      all_goals first|(exfalso;omega)|((refine rT2 ?_);rfl)
     ·
      rw [if_neg h6]
      repeat' (first|(apply ak (d:=89);exact rfl;apply dM;exact rfl;exact rfl;exact hadd hg3)|(apply aa;exact rfl;exact rfl;(intro w' hm;exact (uu (v+1) neg (by omega) (by omega) w')))|refine sT ?_|refine sT2 ?_|refine sM fun _=> ?_|(refine sC ?_ ?_<;>intro hb<;>try omega)|exact cT|fail)
      all_goals first|(exfalso;omega)|((refine rT2 ?_);rfl)
    ·
     rw [if_pos (by have:=hg1 rfl;omega)]
     obtain ⟨u,hu⟩: ∃ u,IntKind.u64.wrap (v+1)=u:=⟨_,rfl⟩
     repeat' (first|(apply ak (d:=89);exact rfl;apply dM;exact rfl;exact rfl;exact hu)|refine sT ?_|refine sT2 ?_|refine sM fun _=> ?_|(refine sC ?_ ?_<;>intro hb<;>try omega)|exact cT|fail)
     all_goals first|(exfalso;omega)|((refine rT2 ?_);rfl)
   ·
    rw [if_neg h5,Int.add_zero]
    cases gr
    ·
     obtain ⟨hg2,hg3⟩:=hg0 rfl
     subst hg2
     rw [if_neg (by omega)]
     repeat' (first|(apply aa;exact rfl;exact rfl;(intro w' hm;exact (uu v neg (by omega) hg3 w')))|refine sT ?_|refine sT2 ?_|refine sM fun _=> ?_|(refine sC ?_ ?_<;>intro hb<;>try omega)|exact cT|fail)
     all_goals first|(exfalso;omega)|((refine rT2 ?_);rfl)
    ·
     rw [if_pos (hg1 rfl)]
     repeat' (first|refine sT ?_|refine sT2 ?_|refine sM fun _=> ?_|(refine sC ?_ ?_<;>intro hb<;>try omega)|exact cT|fail)
     all_goals first|(exfalso;omega)|((refine rT2 ?_);rfl)
end Go.SL
namespace Go.SL
open Go Go.Proofs
attribute [local irreducible] W WL WQ WG WA VOp thn blk aR aL FnIn
def nr (L:List Nd) (wide:Bool):Int × List nz:=
 if 256<L.length then (5,[]) else if L.length=0 then (4,[])
 else if (iM L L 0 [] []).1≠0 then iM L L 0 [] []
 else if wide=false∧kB L (L.length - 1)=3 then (4,(iM L L 0 [] []).2) else (0,(iM L L 0 [] []).2)
set_option maxHeartbeats 2000000 in
theorem Le (L:List Nd) (wide:Bool) (tv:Value) (w0:World) (ht:Reads w0 tv L.length (L.flatMap bT)) (f:FuncId) [hf:Callable Tryz.prog f] (caps:List Value) (Inv:List nz→List Blk→Prop) (hV:EO L.length w0 f caps Inv)
  (H:List Blk) (hI:Inv [] H):FnIn Tryz.prog 227 [tv,.bool wide,.func (.func f) #[] caps.toArray] w0 H fun v H' =>v= .int .i64 (nr L wide).1∧Inv (nr L wide).2 H' :=by
 have ht' :=ht
 obtain ⟨At,ct,rfl,ht1,ht2,ht3⟩:=ht
 refine dx Tryz.func227 rfl Tryz.ntmps227 rfl ?_
 by_cases h256:256<L.length
 ·
  repeat' (first|refine sT ?_|refine sM fun _=> ?_|(refine sC ?_ ?_<;>intro hb<;>try omega)|fail)
  refine cf (.inl rfl) Tryz.results227 rfl (.refl _) ?_
  rw [nr,if_pos h256]
  exact ⟨rfl,hI⟩
 by_cases h0:L.length=0
 ·
  repeat' (first|refine sT ?_|refine sM fun _=> ?_|(refine sC ?_ ?_<;>intro hb<;>try omega)|fail)
  refine cf (.inl rfl) Tryz.results227 rfl (.refl _) ?_
  rw [nr,if_neg h256,if_pos h0]
  exact ⟨rfl,hI⟩
 obtain ⟨gt,ot,rfl,hrt⟩:=ht3 (by omega)
 have hw:=Gi L (by omega) (by omega) _ w0 ht' f caps Inv hV H hI
 have hrl:=hrt.elem eu (L.length - 1) (by omega)
 have hk:kB L (L.length - 1)=(L[L.length - 1]'(by omega)).kind:=iy _
 simp only [nr,if_neg h256,if_neg h0,hk]
 generalize iM L L 0 [] []=r at hw
 generalize (L[L.length - 1]'(by omega))=nl at hrl
 repeat' (first|(apply aw;exact rfl;exact rfl;exact hw;(rintro v H' ⟨rfl,hI'⟩))|(apply ak;exact rfl;apply dI;exact rfl;exact rfl;omega;omega)|(apply ak;exact rfl;apply aj;exact rfl;exact rfl;omega)|(apply ak;exact rfl;apply dl (off:=0);exact rfl;exact hrl;exact rfl)|refine sT ?_|refine sM fun _=> ?_|(refine sC ?_ ?_<;>intro hb<;>try omega)|fail)
 all_goals refine cf (.inl rfl) Tryz.results227 rfl (.refl _) ?_
 all_goals simp_all
theorem tP (N:Nat) (w0:World) (H0:List Blk):EO N w0 228 [] fun _ H=>H=H0:=by
 rintro vs kids d A cap _ F rfl _ _ _
 refine dx Tryz.func228 rfl Tryz.ntmps228 rfl ?_
 repeat' (first|refine sT ?_|refine sM fun _=> ?_|(refine sC ?_ ?_<;>intro hb<;>try omega)|fail)
 refine fM (.inr rfl) Tryz.results228 (.drop .hd (.refl _)) ⟨_,rfl,.refl _⟩
def fZ (L:List Nd):Int:=(nr L false).1
theorem CM (L:List Nd) (tv:Value) (w:World) (ht:Reads w tv L.length (L.flatMap bT)):ay Tryz.prog 179 [tv] w (.int .i64 (fZ L)):=by
 have ht' :=ht
 obtain ⟨At,ct,rfl,ht1,ht2,ht3⟩:=ht
 refine aq Tryz.func179 rfl Tryz.ntmps179 rfl ?_
 have hw:=Le L false _ w ht' 228 [] (fun _ H=>H= []) (tP _ w []) [] rfl
 repeat' (first|(apply aw;exact rfl;exact rfl;exact hw;(rintro v H' ⟨rfl,rfl⟩))|refine sT ?_|refine sM fun _=> ?_|(refine sC ?_ ?_<;>intro hb<;>try omega)|fail)
 (refine rT1 ?_)
 rfl
def FL (vs:List nz):Nat:=(vs.getLast?.map (·.2)).getD 0
def nn (L:List Nd):Int × Int:=if fZ L≠0 then (0,fZ L) else ((FL (nr L false).2:Nat),0)
def kZ (ks:List Nat):List Value:=ks.map fun (k:Nat)=> .int .i64 (k:Int)
theorem HK {ks:List Nat} {i:Nat} (h:i<ks.length):(kZ ks)[i]? =some (.int .i64 (ks[i]:Int)):=by simp [kZ,h]
end Go.SL
namespace Go.SL
open Go Go.Proofs
attribute [local irreducible] W WL WQ WG WA VOp thn blk bF aR aL FnIn WLI WR WT bJ ny iL ku
theorem Jp (A:Option Addr) (m c:Nat) (w:World):aL Tryz.prog 243 [.slice A m c] w fun v H=> ∃ g,v= .func (.func 290) #[] #[.pointer (some ⟨g,0,none⟩)]∧H= [.box g 128 [.slice A m c]]:=by
 refine aq Tryz.func243 rfl Tryz.ntmps243 rfl ?_
 repeat' (first|refine sT ?_|refine sM fun _=> ?_|(refine sC ?_ ?_<;>intro hb<;>try omega)|fail)
 refine cf (.inl rfl) Tryz.results243 rfl (MSub.refl _) ?_
 exact ⟨_,rfl,rfl⟩
def uf (L:List Nd):List Us × Int:=if fZ L≠0 then ([],fZ L) else (eO L,0)
theorem je: ∀ (L:List Nd) (i:Nat),(fK L i).length≤L.length
 | [],_=>Qq _
 |n::r,i=>by
  have:=je r (i+1)
  unfold fK
  cases p6 n<;>simp<;>omega
theorem Gv (L:List Nd):(eO L).length≤L.length:=je L 0
theorem HP {α:Type} (f:α→List Value) (xs:List α) (x:α):(xs++ [x]).flatMap f=xs.flatMap f++f x:=by simp
set_option maxHeartbeats 4000000 in
theorem Nv (L:List Nd) (tv:Value) (w:World) (ht:Reads w tv L.length (L.flatMap bT)) (hlen:L.length≤1000000):
  aL Tryz.prog 200 [tv] w fun v H=> ∃ A cap,v= .tuple #[sl A (uf L).1.length cap,.int .i64 (uf L).2]∧H= [.own A 159 6 (uf L).1.length cap ((uf L).1.flatMap fq)]:=by
 have ht' :=ht
 obtain ⟨Al,cl,rfl,hl1,hl2,hl3⟩:=ht
 refine m8 Tryz.func200 rfl Tryz.ntmps200 (by rfl) ?_
 have hck:=fun w0 (hm:Reads w0 (.slice Al L.length cl) L.length (L.flatMap bT))=>CM L _ w0 hm
 unfold uf
 generalize fZ L=e at hck
 refine pF ?_
 refine aC 159 6 ?_
 repeat' (first|(apply aa;exact rfl;exact rfl;(intro w' hm;exact hck w' (ht'.of_w0 hm)))|(apply aA;exact rfl;exact rfl;(intro w' hm;exact Jp _ _ _ w');(rintro v H' ⟨gu,rfl,rfl⟩))|refine sT ?_|refine sR ?_|refine sM fun _=> ?_|(refine sC ?_ ?_<;>intro hb<;>try omega)|(refine sCR ?_ ?_<;>intro hb<;>try omega)|fail)
 ·
  refine FU ?_
  refine eR (.inl rfl) Tryz.results200 rfl rfl (H' := [.own none 159 6 0 0 []]) mS ⟨none,0,?_⟩
  rw [if_pos hb]
  exact ⟨rfl,rfl⟩
 rename_i gb
 rw [if_neg hb]
 have hul:=Gv L
 refine tF (ps:= [14]) (us:=eO L) (encs:=fun u=> [.agg (fq u).toArray]) (Hc:= [.box gu 128 [.slice Al L.length cl]]) (HU0:= [.box gb 156 [.slice none 0 0],.own none 159 6 0 0 []]) rfl (fun _=>rfl) rfl (Jo L _ w ht' hlen gu)
  (fun pre HU=> ∃ A cap,HU= [.box gb 156 [sl A pre.length cap],.own A 159 6 pre.length cap (pre.flatMap fq)]) (fun _=>False) ?_ ⟨none,0,rfl⟩ ?_ ?_ ?_
 ·
  exact mS
 ·
  rintro l pre u post hus _ ⟨A,cap,rfl⟩ F F'
  have hlu:=congrArg List.length hus
  simp only [Qk,QF] at hlu
  change WR _ _ _ l _ _ ((14,Value.agg (fq u).toArray)::_) (.box gb 156 [sl A pre.length cap]:: .own A 159 6 pre.length cap (pre.flatMap fq)::F)
  repeat' (first|refine sT ?_|refine sR ?_|refine sM fun _=> ?_|(refine sC ?_ ?_<;>intro hb<;>try omega)|(refine sCR ?_ ?_<;>intro hb<;>try omega)|fail)
  rename_i g6
  refine vY ⟨[.box g6 159 (fq u),.box gb 156 [sl A pre.length cap],.own A 159 6 pre.length cap (pre.flatMap fq)],MSub.refl _,?_⟩
  change WR _ _ _ l _ _ _ (.box g6 159 (fq u):: .box gb 156 [sl A pre.length cap]:: .own A 159 6 pre.length cap (pre.flatMap fq)::F')
  repeat' (first|(apply bO;(iterate 3 exact rfl);(repeat first|exact .hd|apply Sel.tl|apply In.tl);(intro w hm;exact hm.cells_own (by (repeat first|exact .hd|apply Sel.tl|apply In.tl)));exact rfl;(simp [Value.oneCell',sl]);omega;(simp only [maxLen];omega);(intro A' cap' hA'))|refine sT ?_|refine sR ?_|refine sM fun _=> ?_|(refine sC ?_ ?_<;>intro hb<;>try omega)|(refine sCR ?_ ?_<;>intro hb<;>try omega)|fail)
  refine yL [.box gb 156 [sl A' (pre.length+1) cap'],.own A' 159 6 (pre.length+1) cap' (pre.flatMap fq++fq u)] ?_ ⟨A',cap',?_⟩
  ·
   change MSub (_::_::F') _
   exact mS
  ·
   rw [HP,Qk]
   rfl
 ·
  rintro D _ ⟨A,cap,rfl⟩
  change bJ _ _ _ _ _ (iR D:: .box gb 156 [sl A (eO L).length cap]:: .own A 159 6 (eO L).length cap ((eO L).flatMap fq)::_)
  repeat' (first|refine sT ?_|refine sR ?_|refine sM fun _=> ?_|(refine sC ?_ ?_<;>intro hb<;>try omega)|(refine sCR ?_ ?_<;>intro hb<;>try omega)|fail)
  refine vz .hd ?_
  refine eR (.inl rfl) Tryz.results200 rfl rfl (H' := [.own A 159 6 (eO L).length cap ((eO L).flatMap fq)]) mS ⟨A,cap,rfl,rfl⟩
 ·
  rintro D HU h
  exact h.elim
def rel (u:Us):Bool:=decide (0≤u.node)
end Go.SL
namespace Go.SL
open Go Go.Proofs
attribute [local irreducible] W WL WQ WG WA VOp thn blk bF scp aR aL FnIn
set_option maxRecDepth 10000 in
theorem Cu (f:FuncId) [Callable Tryz.prog f] (caps:List Value) (g:Int→Int) (a:ByteArray) (ha:a.size≤1000000) (w:World) (hf: ∀ c w' H,0≤c→c<256→Mem w w' H→ay Tryz.prog f ([.int .u8 c]++caps) w' (.int .u8 (g c))):
  aL Tryz.prog 209 [.string a,.func (.func f) #[] caps.toArray] w fun v H=> ∃ gb cap,v= .slice (some ⟨gb,0,none⟩) a.size cap∧H= [.byt gb 5 a.size cap (((ap a).map g).map (Value.int .u8))]:=by
 refine aq Tryz.func209 rfl Tryz.ntmps209 rfl ?_
 repeat' (first|(apply lm;exact rfl;exact rfl;intro gb cap)|refine sT ?_|refine sM fun _=> ?_|(refine sC ?_ ?_<;>intro hb<;>try omega)|fail)
 refine gX (fun i:Nat=> [(5,.slice (some ⟨gb,0,none⟩) a.size cap),(10,.slice (some ⟨gb,0,none⟩) a.size cap),(11,.int .i64 (a.size:Int)),(12,.int .i64 (i:Int)),(1,.func (.func f) #[] caps.toArray)])
  (fun i=> [.byt gb 5 a.size cap ((((ap a).take i).map g++(ap a).drop i).map (Value.int .u8))]) (fun i=>i≤a.size) (fun i=>a.size - i) 0 (by omega) ?_ ?_ ?_
 ·
  exact sB
 ·
  rw [nX];simp only [RI,RG,Qn,RM];exact mS
 ·
  intro i hi
  have hl:=au a
  by_cases hlt:i<a.size
  ·
   have hil:i<(ap a).length:=by omega
   have hok:=lQ a (ap a)[i] (Re hil)
   have hget:((((ap a).take i).map g++(ap a).drop i).map (Value.int .u8))[0+i*1]? =some (.int .u8 (ap a)[i]):=by
    rw [QX,show 0+i*1=i by omega,Rj (by simp;omega)]
    simp [Sr (Nat.le_of_lt hil),RL]
   repeat' (first|(apply ak;exact rfl;apply aj;exact rfl;exact rfl;exact hlt)|(apply ak;exact rfl;apply jz;exact rfl;exact .hd;exact hget)|(apply bL;exact rfl;exact rfl;infer_instance;exact rfl;(intro w' hm;exact hf _ w' _ hok.1 hok.2 hm))|(apply lp;exact rfl;exact rfl;exact .hd;exact rfl;(simp;omega))|(apply ak;exact rfl;apply eM;exact rfl;exact rfl;(constructor<;>omega))|refine sT ?_|refine sM fun _=> ?_|(refine sC ?_ ?_<;>intro hb<;>try omega)|fail)
   refine ⟨i+1,by omega,by omega,?_,?_⟩
   ·
    exact sB
   ·
    rw [show 0+i*1=i by omega,ug g (Value.int .u8) (ap a) i hil]
    exact mS
  ·
   have e:i=a.size:=by omega
   subst e
   repeat' (first|refine sT ?_|refine sM fun _=> ?_|(refine sC ?_ ?_<;>intro hb<;>try omega)|fail)
   refine cf (.inl rfl) rfl rfl (.refl _) ⟨gb,cap,rfl,?_⟩
   rw [QY (by omega),QK (by omega),Qr]
set_option maxRecDepth 10000 in
theorem Ht (c:Int) (h0:0≤c) (h1:c<256) (ga gb:Nat) (w:World) (ha:Ro w ga 0 [.int .u8 97]) (hb' :Ro w gb 0 [.int .i64 (-32)]):ay Tryz.prog 298 [.int .u8 c,.pointer (some ⟨ga,0,none⟩),.pointer (some ⟨gb,0,none⟩)] w (.int .u8 (upC c)):=by
 refine aq Tryz.func298 rfl Tryz.ntmps298 rfl ?_
 have hwc:IntKind.i64.wrap c=c:=I64.wrap ⟨by omega,by omega⟩
 have h122:IntKind.u8.wrap (97+25)=122:=by decide
 repeat' (first|(apply ak;exact rfl;apply aI (off:=0);exact ha;exact rfl;exact rfl)|(apply ak;exact rfl;apply aI (off:=0);exact hb';exact rfl;exact rfl)|(apply ak;exact rfl;apply dM;exact rfl;exact rfl;exact h122)|(apply ak (d:=15);exact rfl;apply bP;exact rfl;exact hwc)|(apply ak (d:=17);exact rfl;apply eM;exact rfl;exact rfl;exact ⟨by omega,by omega⟩)|(apply ak (d:=18);exact rfl;apply bP (c:=c - 32);exact rfl;(rw [show c+ -32=c - 32 by omega];exact wrap_u8 (by omega) (by omega)))|refine sT ?_|refine sM fun _=> ?_|(refine sC ?_ ?_<;>intro hb<;>try omega)|fail)
 all_goals ((refine rT1 ?_);unfold upC;first|rw [if_pos (by omega)]|rw [if_neg (by omega)])
def upB (a:ByteArray):ByteArray:=mkB ((ap a).map upC)
theorem qe (a:ByteArray):ap (upB a)=(ap a).map upC:=by
 refine mW ?_
 intro c hc
 obtain ⟨d,hd,rfl⟩:=QT.1 hc
 have:=lQ a d hd
 unfold upC
 split<;>omega
set_option maxRecDepth 10000 in
theorem Kf (a:ByteArray) (ha:a.size≤1000000) (w:World):ay Tryz.prog 259 [.string a,.int .u8 97,.int .i64 (-32)] w (.string (upB a)):=by
 refine aq Tryz.func259 rfl Tryz.ntmps259 rfl ?_
 repeat' (first|((with_reducible apply aA (R:=fun v H=> ∃ gb cap,v= .slice (some ⟨gb,0,none⟩) a.size cap∧H= [.byt gb 5 a.size cap (((ap a).map upC).map (Value.int .u8))]));exact rfl;exact rfl;(intro w' hm;exact Cu 298 [_,_] upC a ha w' (fun c w2 H2 h0 h1 hm2=>Ht c h0 h1 _ _ w2 ((Ro.of_box hm pK).next hm2) ((Ro.of_box hm pK).next hm2)));(rintro v H' ⟨gb,cap,rfl,rfl⟩))|(apply ak;exact rfl;apply qH;exact rfl;exact .hd;simp [au])|refine sT ?_|refine sM fun _=> ?_|(refine sC ?_ ?_<;>intro hb<;>try omega)|fail)
 (refine rT1 ?_)
 rfl
set_option maxRecDepth 10000 in
theorem qz (a:ByteArray) (ha:a.size≤1000000) (w:World):ay Tryz.prog 218 [.string a] w (.string (upB a)):=by
 refine aq Tryz.func218 rfl Tryz.ntmps218 rfl ?_
 repeat' (first|(apply aa;exact rfl;exact rfl;(intro w hm;exact Kf a ha w))|refine sT ?_|refine sM fun _=> ?_|(refine sC ?_ ?_<;>intro hb<;>try omega)|fail)
 (refine rT1 ?_)
 rfl
def ko:List Int→Option (List Int)
 | []=>some []
 |c::r=>if c≠34 then (ko r).map (c:: ·) else match r with
  | []=>none
  |d::r' =>if d=34 then (ko r').map (34:: ·) else none
def fL (l:List Int):List Int × Int:=
 if l.length<2∨l.head? ≠some 34∨l.getLast? ≠some 34∨l.all (fun c=>bB c)=false then ([],4)
 else match ko ((l.drop 1).dropLast) with
  |none=>([],4)
  |some r=>if 256<r.length then ([],5) else (r,0)
theorem mG (a:ByteArray):mH a=(ap a).all fun c=>bB c:=by
 simp only [mH,ap,List.all_map]
 congr 1
 funext c
 simp only [Function.comp,bB]
 rw [Rs];simp;omega
theorem Kq (a:ByteArray) (c:Int) (h:0<a.size):((ap a).getLast? =some c)↔bat a (a.size - 1)=c:=by
 rw [TI,au,fu (by omega)]
 simp
theorem z6 {a:ByteArray} {i:Nat} (h0:1≤i) (h:i<a.size - 1):(((ap a).drop 1).dropLast).drop (i - 1)=bat a i::(((ap a).drop 1).dropLast).drop i:=by
 have hl:=au a
 obtain ⟨j,rfl⟩: ∃ j,i=j+1:=⟨i - 1,by omega⟩
 rw [RZ]
 have hlen:(((ap a).drop 1).dropLast).length=a.size - 2:=by simp;omega
 have hlt:j<(((ap a).drop 1).dropLast).length:=by omega
 rw [Qs hlt]
 congr 1
 have h1:=fu (a:=a) (i:=j+1) (by omega)
 have h2:(((ap a).drop 1).dropLast)[j]? =some (bat a (j+1)):=by
  rw [List.getElem?_dropLast,if_pos (by simp;omega),RL,Su 1 j,h1]
 rw [Ql hlt] at h2
 exact Option.some.inj h2
theorem qK {c:Int} {r:List Int} (h:c≠34):ko (c::r)=(ko r).map (c:: ·):=by
 rw [ko.eq_def];simp [h]
theorem EP (a:ByteArray) (ha:a.size≤1000000) (w:World):ay Tryz.prog 262 [.string a] w (.tuple #[.string (mkB (fL (ap a)).1),.int .i64 (fL (ap a)).2]):=by
 refine aq Tryz.func262 rfl Tryz.ntmps262 rfl ?_
 have hl:=au a
 have hp:=p8 a ha
 rw [mG] at hp
 have hh:=qh a 34
 have hg:=Kq a 34
 by_cases hbad:(ap a).length<2∨(ap a).head? ≠some 34∨(ap a).getLast? ≠some 34∨(ap a).all (fun c=>bB c)=false
 ·
  rw [fL,if_pos hbad]
  repeat' (first|(apply aa;exact rfl;exact rfl;(intro w hm;exact hp w))|refine sT ?_|refine sS ?_|refine sT2 ?_|refine sN ?_|refine sM fun _=> ?_|(refine sC ?_ ?_<;>intro hb<;>try omega)|fail)
  iterate 4 (focus ((refine rT2 ?_);rfl))
  exfalso
  rename_i h1 h2 h3
  rcases hbad with h|h|h|h
  ·
   omega
  ·
   exact h (hh.2 ⟨by omega,Decidable.not_not.1 h2⟩)
  ·
   exact h ((hg (by omega)).2 (Decidable.not_not.1 h3))
  ·
   rw [hb] at h;cases h
 ·
  have hun:fL (ap a)=match ko (((ap a).drop 1).dropLast) with
    |none=>([],4)
    |some r=>if 256<r.length then ([],5) else (r,0):=by rw [fL,if_neg hbad]
  rw [hun]
  simp only [not_or,Decidable.not_not,Bool.not_eq_false] at hbad
  obtain ⟨b1,b2,b3,b4⟩:=hbad
  have b5:=(hh.1 b2).2
  have b6:=(hg (by omega)).1 b3
  rw [b4] at hp
  have hn:(a.size:Int) - 1=((a.size - 1:Nat):Int):=by omega
  generalize hB:((ap a).drop 1).dropLast=B
  have hBl:B.length=a.size - 2:=by rw [← hB];simp;omega
  repeat' (first|(apply aa;exact rfl;exact rfl;(intro w hm;exact hp w))|refine sT ?_|refine sS ?_|refine sT2 ?_|refine sN ?_|refine sM fun _=> ?_|(refine sC ?_ ?_<;>intro hb<;>try omega)|fail)
  all_goals try (exfalso;omega)
  refine aC 5 1 ?_
  refine ax [0,4] rfl (fun x:Nat × List Int × Option Nat × Nat=> [(5,sl x.2.2.1 x.2.1.length x.2.2.2),(6,.int .i64 (x.1:Int))]) (fun x=> [.own x.2.2.1 5 1 x.2.1.length x.2.2.2 (x.2.1.map (Value.int .u8))]) (fun x=>1≤x.1∧x.1≤a.size - 1∧x.2.1.length≤x.1∧ko B=(ko (B.drop (x.1 - 1))).map (x.2.1++ ·)) (fun x=>a.size - x.1) (1,[],none,0) ⟨by omega,by omega,by simp,by simp⟩ sB mS ?_
  rintro ⟨i,out,A,cap⟩ ⟨i1,i2,i3,i4⟩
  dsimp only at i1 i2 i3 i4 ⊢
  by_cases hend:i=a.size - 1
  ·
   have hBd:B.drop (i - 1)= []:=QK (by omega)
   rw [hBd] at i4
   simp only [ko,Ry,Qr] at i4
   rw [i4]
   dsimp only
   by_cases hlen:256<out.length
   ·
    rw [if_pos hlen]
    repeat' (first|refine sT ?_|refine sS ?_|refine sT2 ?_|refine sN ?_|refine sM fun _=> ?_|(refine sC ?_ ?_<;>intro hb<;>try omega)|fail)
    all_goals first|(exfalso;omega)|((refine rT2 ?_);rfl)
   ·
    rw [if_neg hlen]
    repeat' (first|(apply ak;exact rfl;apply Da;exact rfl;exact pK;exact rfl)|refine sT ?_|refine sS ?_|refine sT2 ?_|refine sN ?_|refine sM fun _=> ?_|(refine sC ?_ ?_<;>intro hb<;>try omega)|fail)
    all_goals first|(exfalso;omega)|((refine rT2 ?_);rfl)
  ·
   have hdr:=z6 (a:=a) i1 (by omega)
   rw [hB] at hdr
   rw [hdr] at i4
   by_cases hq:bat a i=34
   ·
    rw [hq] at i4
    by_cases h1:i+1=a.size - 1
    ·
     have hBd:B.drop i= []:=QK (by omega)
     rw [hBd] at i4
     simp only [ko,ne_eq,not_true_eq_false,if_false,TN] at i4
     rw [i4]
     repeat' (first|refine sT ?_|refine sS ?_|refine sT2 ?_|refine sN ?_|refine sM fun _=> ?_|(refine sC ?_ ?_<;>intro hb<;>try omega)|fail)
     all_goals first|(exfalso;omega)|((refine rT2 ?_);rfl)
    ·
     have hdr2:=z6 (a:=a) (i:=i+1) (by omega) (by omega)
     rw [hB,RZ] at hdr2
     rw [hdr2] at i4
     by_cases h2:bat a (i+1)=34
     ·
      simp only [ko,ne_eq,not_true_eq_false,if_false,h2,if_true,Tt] at i4
      repeat' (first|(apply aO;(iterate 3 exact rfl);exact pK;exact pK;exact rfl;(simp [Value.oneCell']);omega;(simp only [maxLen];omega);intro g8 c8)|(apply ak (d:=63);exact rfl;apply dm (b:=2);exact rfl;exact rfl;(simp only [maxLen];omega))|refine sT ?_|refine sS ?_|refine sT2 ?_|refine sN ?_|refine sM fun _=> ?_|(refine sC ?_ ?_<;>intro hb<;>try omega)|fail)
      all_goals try (exfalso;omega)
      refine ⟨(i+2,out++ [34],some g8,c8),⟨by dsimp only;omega,by dsimp only;omega,by simp;omega,?_⟩,(by dsimp only;omega),?_,sB,?_⟩
      ·
       dsimp only
       rw [i4,show i+2 - 1=i+1 by omega]
       congr 1
       funext l
       simp
      ·
       simp only [Qk,Qo]
       exact sB
      ·
       simp only [Qk,Qo,Ru,QL,RG]
       exact mS
     ·
      simp only [ko,ne_eq,not_true_eq_false,if_false,h2,TN] at i4
      rw [i4]
      repeat' (first|refine sT ?_|refine sS ?_|refine sT2 ?_|refine sN ?_|refine sM fun _=> ?_|(refine sC ?_ ?_<;>intro hb<;>try omega)|fail)
      all_goals first|(exfalso;omega)|((refine rT2 ?_);rfl)
   ·
    rw [qK hq,Tt] at i4
    repeat' (first|(apply aO;(iterate 3 exact rfl);exact pK;exact pK;exact rfl;(simp [Value.oneCell']);omega;(simp only [maxLen];omega);intro g8 c8)|refine sT ?_|refine sS ?_|refine sT2 ?_|refine sN ?_|refine sM fun _=> ?_|(refine sC ?_ ?_<;>intro hb<;>try omega)|fail)
    all_goals try (exfalso;omega)
    refine ⟨(i+1,out++ [bat a i],some g8,c8),⟨by dsimp only;omega,by dsimp only;omega,by simp;omega,?_⟩,(by dsimp only;omega),?_,sB,?_⟩
    ·
     dsimp only
     rw [i4,show i+1 - 1=i by omega]
     congr 1
     funext l
     simp
    ·
     simp only [Qk,Qo]
     exact sB
    ·
     simp only [Qk,Qo,Ru,QL,RG]
     exact mS
def cA:List ByteArray:= [⟨#[]⟩,⟨#[35,68,73,86,47,48,33]⟩,⟨#[35,86,65,76,85,69,33]⟩,⟨#[35,78,85,77,33]⟩,⟨#[35,78,47,65]⟩,⟨#[35,82,69,70,33]⟩,⟨#[35,67,89,67,76,69,33]⟩,⟨#[35,68,69,78,73,69,68]⟩]
def Words (w:World):Prop:=Ro w 0 0 (cA.map Value.string)
theorem Words.next {w0 w:World} {H:List Blk} (h:Words w0) (hm:Mem w0 w H):Words w:=Ro.next h hm
def fP (c:Int):Vl:=⟨4,if c<1∨7<c then 2 else c,av⟩
def uU (n:Int):Vl:=if n= -9223372036854775808 then fP 3 else ⟨1,n,av⟩
def lz (b:Bool):Vl:=⟨2,if b then 1 else 0,av⟩
def mh:ByteArray:=⟨#[84,82,85,69]⟩
def kC:ByteArray:=⟨#[70,65,76,83,69]⟩
def y6 (a:ByteArray):Vl:=if upB a=mh then lz true else if upB a=kC then lz false else fP 2
theorem lV (c:Int) (w:World):ay Tryz.prog 170 [.int .i64 c] w (.agg (dr (fP c)).toArray):=by
 refine aq Tryz.func170 rfl Tryz.ntmps170 rfl ?_
 repeat' (first|refine sT ?_|refine sM fun _=> ?_|(refine sC ?_ ?_<;>intro hb<;>try omega)|exact cT|fail)
 all_goals ((refine eRC ?_);simp only [fP];(first|rw [if_pos (by omega)]|rw [if_neg (by omega)]);rfl)
theorem NC (n:Int) (w:World):ay Tryz.prog 173 [.int .i64 n] w (.agg (dr (uU n)).toArray):=by
 refine aq Tryz.func173 rfl Tryz.ntmps173 rfl ?_
 repeat' (first|(apply aa;exact rfl;exact rfl;(intro w hm;exact lV 3 w))|refine sT ?_|refine sM fun _=> ?_|(refine sC ?_ ?_<;>intro hb<;>try omega)|exact cT|fail)
 all_goals ((refine eRC ?_);simp_all [uU,dr,fP,av])
theorem Lo (b:Bool) (w:World):ay Tryz.prog 258 [.bool b] w (.agg (dr (lz b)).toArray):=by
 refine aq Tryz.func258 rfl Tryz.ntmps258 rfl ?_
 repeat' (first|refine sT ?_|refine sM fun _=> ?_|(refine sC ?_ ?_<;>intro hb<;>try omega)|exact cT|fail)
 all_goals ((refine eRC ?_);simp_all [lz,dr,av])
theorem Kd (v:Vl) (ha:v.text.size≤1000000) (w:World):ay Tryz.prog 217 [.agg (dr v).toArray] w (.agg (dr (y6 v.text)).toArray):=by
 refine aq Tryz.func217 rfl Tryz.ntmps217 rfl ?_
 repeat' (first|(apply aa;exact rfl;exact rfl;(intro w hm;exact qz v.text ha w))|(apply aa;exact rfl;exact rfl;(intro w hm;exact Lo _ w))|(apply aa;exact rfl;exact rfl;(intro w hm;exact lV 2 w))|refine sT ?_|refine sM fun _=> ?_|(refine sC ?_ ?_<;>intro hb<;>try omega)|exact cT|fail)
 all_goals ((refine eRC ?_);simp_all [y6,mh,kC];rfl)
theorem Nx (c:Int) (h1:1≤c) (h2:c≤5) (w:World) (hw:Words w):ay Tryz.prog 269 [.agg (dr ⟨4,c,av⟩).toArray] w (.string (cA.getD c.toNat av)):=by
 refine aq Tryz.func269 rfl Tryz.ntmps269 rfl ?_
 have he:eqV ⟨4,c,av⟩ (fP 7)=false:=by simp [eqV,fP];omega
 have hv:oS ⟨4,c,av⟩=0:=by
  have h6:decide (c≤6)=true:=decide_eq_true (by omega)
  simp [oS,tQ,h1,h6]
 have hc:=C0 ⟨4,c,av⟩
 rw [hv] at hc
 obtain ⟨k,rfl⟩: ∃ k:Nat,c=(k:Int):=⟨c.toNat,by omega⟩
 have hcell:(cA.map Value.string)[k*1]? =some (.string (cA.getD k av)):=by
  rcases (by omega:k=1∨k=2∨k=3∨k=4∨k=5) with rfl|rfl|rfl|rfl|rfl<;>rfl
 repeat' (first|(apply dK;exact rfl;exact rfl;(intro w hm;exact lV 7 w))|(apply dK;exact rfl;exact rfl;(intro w hm;exact hc w))|(apply aS;exact rfl;exact he ▸ Df (b:=fP 7) rfl rfl)|(apply ak;exact rfl;apply tY (j:=k);exact rfl;exact rfl;omega)|(apply ak;exact rfl;apply aI (o:=0);exact hw;exact rfl;exact hcell)|refine sT ?_|refine sQ ?_|refine sD ?_|refine sM fun _=> ?_|(refine sC ?_ ?_<;>intro hb<;>try omega)|(refine sCQ ?_ ?_<;>intro hb<;>try omega)|exact cT|fail)
 (refine rT1 ?_)
 rfl
instance:KLaw Tryz.prog 5 (fun z:Int=>Value.int .u8 z):=Kv
theorem yt {P:Program} {n:Fr} {w0:World} {Q:bR} {s:az} {H:List Blk} {rest:List Oper} {ty:TypeId} {p:String} {af:Array Edge} {κ:Type} [DecidableEq κ] {enc:κ→Value} {t K E g clock:Nat} {m x kx:Operand} {k:κ} {v:Value} {es:List (κ × Value × Nat)} {es' :List (κ × Value × Nat)} {c' :Nat} {R:List Blk} {ops:Array Oper} [ht:Und P t (.map K E)] [hk:KLaw P K enc] (hm:ev s m=some (.map (some g))) (hkx:ev s kx=some (enc k)) (hx:ev s x=some v) (hsel:Sel (.obj g (eW enc es clock)) H R)
  (he:mV k v clock es=(es',c')) (h:WL P n w0 ops rest Q s (.obj g (eW enc es' c')::R)):WL P n w0 ops (⟨none,.insert t m kx x,ty,p,af,none⟩::rest) Q s H:=by
 refine Ga hm hkx hx hsel ?_
 rw [he];exact h
theorem Kt {κ:Type} [DecidableEq κ] {k:κ} {v:Value} {clock:Nat} {es:List (κ × Value × Nat)} (h:cw k es 0=none):mV k v clock es=(es++ [(k,v,clock)],clock+1):=by
 simp [mV,h]
def FY (v:Vl):List (Int × Value × Nat):=
 [(0,.func (.func 215) #[.agg (dr v).toArray] #[],0),(1,.func (.func 215) #[.agg (dr v).toArray] #[],1),(2,.func (.func 216) #[.agg (dr v).toArray] #[],2),(3,.func (.func 217) #[.agg (dr v).toArray] #[],3),(4,.func (.func 216) #[.agg (dr v).toArray] #[],4)]
theorem Dq (v:Vl) (w:World):aL Tryz.prog 214 [.agg (dr v).toArray] w fun u H=> ∃ g,u= .map (some g)∧H= [.obj g (eW (fun z:Int=>Value.int .u8 z) (FY v) 5)]:=by
 refine aq Tryz.func214 rfl Tryz.ntmps214 rfl ?_
 repeat' (first|(apply oQ (enc:=fun z:Int=>Value.int .u8 z);exact rfl;intro g)|(apply ak;exact rfl;apply lw;exact rfl)|(apply yt (enc:=fun z:Int=>Value.int .u8 z);(iterate 3 exact rfl);exact pK;exact Kt rfl)|refine sT ?_|refine sM fun _=> ?_|(refine sC ?_ ?_<;>intro hb<;>try omega)|exact cT|fail)
 exact cf (H' := [.obj g (eW (fun z:Int=>Value.int .u8 z) (FY v) 5)]) (.inl rfl) rfl rfl (.pick .hd (.nil _)) ⟨g,rfl,rfl⟩
def iD (v:Vl):Vl:=if oS v=0 then y6 v.text else fP 2
set_option maxHeartbeats 1000000 in
theorem Cq (v:Vl) (hk:v.kind=3) (ha:v.text.size≤1000000) (w:World):ay Tryz.prog 213 [.agg (dr v).toArray,.func (.func 214) #[] #[]] w (.agg (dr (iD v)).toArray):=by
 refine aq Tryz.func213 rfl Tryz.ntmps213 rfl ?_
 obtain ⟨k,num,text⟩:=v
 dsimp only at hk ha
 subst hk
 have hv:=C0 ⟨3,num,text⟩
 have hn:=Kd ⟨3,num,text⟩ ha
 repeat' (first|refine sT ?_|refine sM fun _=> ?_|(refine sC ?_ ?_<;>intro hb<;>try omega)|exact cT|fail)
 rename_i g2 g4
 refine tO (id:=1) (ι:=Unit) (fun _=> [(5,.func (.func 217) #[.agg (dr ⟨3,num,text⟩).toArray] #[]),(6,.bool true),(2,.pointer (some ⟨g2,0,none⟩)),(4,.pointer (some ⟨g4,0,none⟩))]) (fun _=> [.box g2 127 (dr ⟨3,num,text⟩),.box g4 127 (dr bG)]) (fun _=>True) ?_ ?_
 ·
  refine jd 11 rfl (by kernel_rfl) ?_
  ((with_reducible apply aP (i:=0));exact rfl;exact rfl;decide+kernel;decide+kernel;decide+kernel;exact nP;(intro _ _;exact vP))
  ((with_reducible apply aP (i:=3));exact rfl;exact rfl;decide+kernel;decide+kernel;decide+kernel;exact nP;(intro _ _;exact vP))
  repeat' (first|(apply cO (i:=1) (j:=4);exact rfl;exact rfl;decide+kernel)|(apply cO (i:=2) (j:=4);exact rfl;exact rfl;decide+kernel)|(apply aG (i:=1);exact rfl;decide+kernel)|(apply aG (i:=2);exact rfl;decide+kernel)|(apply aG (i:=4);exact rfl;decide+kernel)|(apply aG (i:=5);exact rfl;decide+kernel)|(apply aP (i:=6);exact rfl;exact rfl;decide+kernel;decide+kernel;decide+kernel;exact nP;(intro _ _;exact vP))|(apply aP (i:=7);exact rfl;exact rfl;decide+kernel;decide+kernel;decide+kernel;exact nP;(intro _ _;exact vP))|(apply aP (i:=8);exact rfl;exact rfl;decide+kernel;decide+kernel;decide+kernel;exact nP;(intro _ _;exact vP))|(apply aP (i:=9);exact rfl;exact rfl;decide+kernel;decide+kernel;decide+kernel;exact nP;(intro _ _;exact vP))|(apply aP (i:=10);exact rfl;exact rfl;decide+kernel;decide+kernel;decide+kernel;exact nP;(intro _ _;exact vP))|(apply jb;decide+kernel)|(apply kG;exact rfl;exact rfl;infer_instance;exact rfl;exact FnIn.of_at (fun w' _=>Dq ⟨3,num,text⟩ w');(rintro _ _ ⟨H1,⟨g5,rfl,rfl⟩,rfl⟩))|(apply ak;exact rfl;apply Dd (enc:=fun z:Int=>Value.int .u8 z);exact rfl;exact rfl;exact pK;exact rfl)|refine sT ?_|refine sM fun _=> ?_|(refine sC ?_ ?_<;>intro hb<;>try omega)|exact cT|fail)
  all_goals ((apply cG;rotate_left 1;exact sB;exact mS);trivial)
 ·
  rintro _ -
  simp only [iD]
  generalize oS ⟨3,num,text⟩=e at hv
  repeat' (first|(apply aa;exact rfl;exact rfl;(intro w hm;exact hv w))|(apply aa;exact rfl;exact rfl;(intro w hm;exact lV 2 w))|(apply qF;exact rfl;exact rfl;infer_instance;exact rfl;(intro w' _;exact hn w'))|refine sT ?_|refine sM fun _=> ?_|(refine sC ?_ ?_<;>intro hb<;>try omega)|exact cT|fail)
  all_goals
   (refine eRC ?_)
   simp_all
   rfl
theorem ID (v:Vl) (hk:v.kind=3) (ha:v.text.size≤1000000) (w:World):ay Tryz.prog 167 [.agg (dr v).toArray] w (.agg (dr (iD v)).toArray):=by
 refine aq Tryz.func167 rfl Tryz.ntmps167 rfl ?_
 repeat' (first|(apply aa;exact rfl;exact rfl;(intro w hm;exact Cq v hk ha w))|refine sT ?_|refine sM fun _=> ?_|(refine sC ?_ ?_<;>intro hb<;>try omega)|exact cT|fail)
 (refine eRC ?_)
 rfl
def iS (u:ByteArray):List ByteArray→Int→Int × Int
 | [],_=>(0,4)
 |x::r,i=>if x=u then (i,0) else iS u r (i+1)
def gU (a:ByteArray):Int × Int:=iS (upB a) (cA.drop 1) 1
theorem CS {i:Nat} (h:i<8):(cA.map Value.string)[i]? =some (.string (cA.getD i av)):=by
 rcases (by omega:i=0∨i=1∨i=2∨i=3∨i=4∨i=5∨i=6∨i=7) with rfl|rfl|rfl|rfl|rfl|rfl|rfl|rfl<;>rfl
theorem rk {i:Nat} (h:i<8):cA.drop i=cA.getD i av::cA.drop (i+1):=by
 rcases (by omega:i=0∨i=1∨i=2∨i=3∨i=4∨i=5∨i=6∨i=7) with rfl|rfl|rfl|rfl|rfl|rfl|rfl|rfl<;>rfl
theorem ND (a:ByteArray) (ha:a.size≤1000000) (w:World) (hw:Words w):ay Tryz.prog 169 [.string a] w (.tuple #[.int .i64 (gU a).1,.int .i64 (gU a).2]):=by
 refine aq Tryz.func169 rfl Tryz.ntmps169 rfl ?_
 have hload:(((cA.map Value.string).drop 0).take 8)=cA.map Value.string:=rfl
 have hU:=qz a ha
 generalize hu:upB a=u at hU
 repeat' (first|(apply aa;exact rfl;exact rfl;(intro w hm;exact hU w))|(apply ak;exact rfl;apply eL (o:=0) (off:=0);exact hw;exact rfl;exact hload;exact rfl)|refine sT ?_|refine sT2 ?_|refine sM fun _=> ?_|(refine sC ?_ ?_<;>intro hb<;>try omega)|exact cT|fail)
 refine ax [0,8] rfl (fun i:Nat=> [(9,.int .i64 (i:Int))]) (fun _=> []) (fun i=>i≤8∧gU a=iS u (cA.drop (max i 1)) (max i 1:Nat)) (fun i=>8 - i) 0 ⟨by omega,by rw [gU,hu];rfl⟩ sB mS ?_
 rintro i ⟨hi,hr⟩
 by_cases hlt:i<8
 ·
  have hx:=CS hlt
  have hd:=rk hlt
  generalize cA.getD i av=x at hx hd
  repeat' (first|(apply ak;exact rfl;apply ma;exact rfl;exact rfl;exact hlt;exact hx)|refine sT ?_|refine sT2 ?_|refine sN ?_|refine sM fun _=> ?_|(refine sC ?_ ?_<;>intro hb<;>try omega)|exact cT|fail)
  ·
   rename_i h0
   rw [show max i 1=i by omega,hd,iS,if_pos hb] at hr
   rw [hr]
   (refine rT2 ?_)
   rfl
  ·
   rename_i h0
   rw [show max i 1=i by omega,hd,iS,if_neg hb] at hr
   refine ⟨i+1,?_,(by first|omega|(dsimp only;omega)),sB,sB,mS⟩
   refine ⟨hlt,?_⟩
   rw [hr,show max (i+1) 1=i+1 by omega]
   rfl
  ·
   have h0:i=0:=by omega
   subst h0
   refine ⟨0+1,?_,(by first|omega|(dsimp only;omega)),sB,sB,mS⟩
   exact ⟨by omega,hr⟩
 ·
  have e:i=8:=by omega
  subst e
  rw [hr]
  repeat' (first|refine sT ?_|refine sT2 ?_|refine sM fun _=> ?_|(refine sC ?_ ?_<;>intro hb<;>try omega)|exact cT|fail)
  all_goals first|(exfalso;omega)|((refine rT2 ?_);rfl)
end Go.SL
namespace Go.SL
open Go Go.Proofs Go.Proofs.YtoanpdoacdpgeaaGreatDoor Go.ChangeShapes Go.WideShapes Go.ChangeAt Go.RowKit Go.Deep
def qE:List (List UInt8):= [[],[35,68,73,86,47,48,33],[35,86,65,76,85,69,33],[35,78,85,77,33],[35,78,47,65],[35,82,69,70,33],[35,67,89,67,76,69,33],[35,68,69,78,73,69,68]]
def uZ:List (String × DataW Unit):= [("louvre/val.words",Rows.laid_louvre_val_words)]
theorem zK:(Rows.laid_louvre_val_words:DataW Unit)= .agg (qE.map fun l=> .lit (.string l)):=rfl
theorem IX:cA=qE.map fun l=>⟨l.toArray⟩:=rfl
set_option maxRecDepth 100000 in
theorem wn {W:World} (h:laidMetH Tryz.prog uZ W):Words W:=by
 rw [MakeChecks.laidMetH_plain _ _ _ (by kernel_rfl)] at h
 obtain ⟨ps,⟨g,t,cs,fuel,p,q,hg,ht,hv,hd,_,_⟩,_⟩:=h
 obtain rfl:=Option.some.inj ((show Tryz.prog.globalNamed "louvre/val.words" =some 0 by kernel_rfl).symm.trans hg)
 obtain rfl:=Option.some.inj ((show (Tryz.prog.globals[0]?).map (·.type)=some 266 by kernel_rfl).symm.trans ht)
 rw [zK] at hd
 obtain ⟨xs,m,_,ex,_,hl,hel⟩:=DataW.trod_array Tryz.underlying266 hd
 have cS:Tryz.prog.cellsOf 9=1:=by kernel_rfl
 have hcell: ∀ (j:Nat) (v:Value),(cA.map Value.string)[j]? =some v→W.cell? ⟨0,0+j,none⟩=some v:=by
  intro j v hjv
  have hj:j<8:=by
   have:=(QB.1 hjv).1
   simpa [cA] using this
  have hE:=hel j hj
  rw [cS,Sy,Ql (by omega)] at hE
  obtain ⟨s,e1,e2,_⟩:=DataW.trod_string Tryz.underlying9 hE
  have e3:(xs.map (·.1))=qE.map fun l=> .lit (.string l):=(DataW.agg.inj (Prod.mk.inj ex).1).symm
  have hwl:qE.length=8:=rfl
  have e4:(xs.map (·.1))[j]? =(qE.map fun l=>(DataW.lit (.string l):DataW Unit))[j]? :=by rw [e3]
  obtain ⟨u,hu⟩: ∃ u,qE[j]? =some u:=⟨_,Ql (by rw [hwl];exact hj)⟩
  rw [QX,QX,Ql (by omega:j<xs.length),hu,e2] at e4
  simp only [Ry,Option.some.injEq,DataW.lit.injEq,Lit.string.injEq] at e4
  have hs:s=⟨u.toArray⟩:=by
   obtain ⟨d⟩:=s
   subst e4
   rfl
  have hvv:v= .string s:=by
   rw [IX,SR,QX,hu] at hjv
   simp only [Ry,Option.some.injEq,Function.comp] at hjv
   rw [← hjv,hs]
  rw [hvv,QG,World.var?_cell hg hv j]
  have:cs.toList[j]? =some (.string s):=by
   have h0:((cs.toList.drop j).take 1)[0]? =some (.string s):=by rw [e1];rfl
   simpa using h0
  simpa using this
 refine ⟨?_,hcell⟩
 have h5:=hcell 0 _ rfl
 simp only [World.cell?] at h5
 split at h5
 ·
  rename_i h6
  exact (QQ.1 h6).1
 ·
  cases h5
end Go.SL
