/-
  Lemmas and walks, put together: W5 A1 W6 W7 W8 W34 W29 A3 A4 Fc.
-/
import Derived.Carry
import Derived.Deep.Slices
import Derived.LaidMore
import Derived.Lay
import Derived.OpenShut
import Derived.ProofKit
import Derived.SevenTiedAt
import Derived.Stop.Joined
import Derived.Test.YtoanpdoacdpgeaaGreatDoorCards
import Derived.Test.YtoanpdoacdpgeaaGreatDoorTie
import Derived.Test.YtoanpdoacdpgeaaGreatDoorKq09
set_option linter.unusedSimpArgs false
set_option linter.unusedVariables false
set_option maxRecDepth 20000
namespace Go.SL
open Go Go.Proofs
attribute [local irreducible] W WL WQ WG WA VOp thn blk aV aK FnIn
def E6 (N:Nat) (w0:World) (f:FuncId) (caps:List Value) (Inv:List mq→List Blk→Prop):Prop:=
 ∀ (vs:List mq) (kids:List Nat) (d:Nat) (A:Option Nat) (cap:Nat) (H F:List Blk),Inv vs H→kids.length≤1000→vs.length<N→(∀ k∈kids,k<vs.length)→
  FnIn Tryz.prog f ([.int .i64 (vs.length:Int),sl A kids.length cap,.int .i64 (d:Int)]++caps) w0 (.own A 3 1 kids.length cap (kids.map fun (k:Nat)=> .int .i64 (k:Int))::(H++F))
   fun _ H' => ∃ H1,Inv (vs++ [(kids,d)]) H1∧MSub (H1++F) H'
theorem xV {n:Nd} (h:bP n=0):0≤below n∧below n≤16:=by
 unfold bP at h
 split at h
 ·
  cases h
 ·
  rename_i hk
  split at h
  ·
   rename_i h7
   unfold below
   split
   ·
    omega
   ·
    split
    ·
     omega
    ·
     omega
  ·
   rename_i h7
   have h7' :n.kind=7:=by omega
   have hb:below n=n.n:=by simp [below,h7']
   have hk1:iB n=true:=by
    cases hh:iB n
    ·
     exact absurd (Or.inl hh) hk
    ·
     rfl
   simp [iB,h7'] at hk1
   split at h
   ·
    rename_i ha;omega
   ·
    split at h
    ·
     omega
    ·
     rename_i hc
     have hm:(eE n.fn).2.1≤16:=by
      unfold eE
      (repeat' split)<;>simp
     omega
theorem jn (st:List Pt) (k:Nat) (h:k≤st.length):(bz st k).length=k:=by simp [bz];omega
theorem ig {st:List Pt} {k:Nat} {p:Pt} (h:p∈bz st k):p∈st:=S5 h
theorem G6 {w0 w:World} {H:List Blk} {A:Option Nat} {st:List Pt} {cap k:Nat} (hm:Mem w0 w H) (hi:In (.own A 356 3 st.length cap (st.flatMap rR)) H) (h:k≤st.length):
  Reads w (.slice (if cap=st.length - k then A.map fun g=>⟨g,0,none⟩ else (A.map fun g=>(⟨g,0,none⟩:Addr)).map (·.add ((st.length - k)*3))) (st.length - (st.length - k)) (cap - (st.length - k))) (bz st k).length ((bz st k).flatMap rR):=by
 have h1:=(Reads.of_own hm hi).cut (lo:=st.length - k) (hi:=st.length) (sz:=3) (by omega) (QV _)
 have e1:st.length - (st.length - k)=(bz st k).length:=by rw [jn st k h];omega
 rw [lD nJ,e1] at h1
 have e2:((st.drop (st.length - k)).flatMap rR).take ((bz st k).length*3)=(bz st k).flatMap rR:=by
  rw [RS (by rw [aP nJ];exact QV _)];rfl
 rw [e2] at h1
 rw [e1]
 exact h1
theorem qF (top:List Pt) (j:Nat) (h:j<top.length):cA (top.take (j+1))=max (cA (top.take j)) (top[j].depth+1):=by
 unfold cA
 rw [Rg h,TP]
 rfl
theorem kN (top:List Pt) (h: ∀ p∈top,p.depth≤32):cA top≤33:=by
 have: ∀ (l:List Pt) (d:Nat),d≤33→(∀ p∈l,p.depth≤32)→l.foldl (fun d p=>max d (p.depth+1)) d≤33:=by
  intro l
  induction l with
  |nil=>intro d hd _;simpa using hd
  |cons p r ih=>
   intro d hd hp
   have:=hp p QT
   exact ih _ (by show max d (p.depth+1)≤33;omega) fun q hq=>hp q (Rc _ hq)
 exact this top 1 (by omega) h
structure WalkSt (L:List Nd) (Inv:List mq→List Blk→Prop) (i:Nat) (st:List Pt) (vs:List mq) (Hv:List Blk):Prop where
 le:i≤L.length
 len:vs.length=i
 inv:Inv vs Hv
 rest:gG L L 0 [] []=gG L (L.drop i) i st vs
 ok: ∀ p∈st,p.root<i∧p.depth≤32
 small:st.length≤i
set_option maxHeartbeats 2000000 in
theorem GN (L:List Nd) (hne:0<L.length) (hlen:L.length≤256) (tv:Value) (w0:World) (ht:Reads w0 tv L.length (L.flatMap bX)) (f:FuncId) [hf:Callable Tryz.prog f] (caps:List Value) (Inv:List mq→List Blk→Prop) (hV:E6 L.length w0 f caps Inv)
  (H:List Blk) (hI:Inv [] H):FnIn Tryz.prog 277 [tv,.func (.func f) #[] caps.toArray] w0 H fun v H' =>v= .int .i64 (gG L L 0 [] []).1∧Inv (gG L L 0 [] []).2 H' :=by
 have ht' :=ht
 obtain ⟨At,ct,rfl,ht1,ht2,ht3⟩:=ht
 obtain ⟨gt,ot,rfl,hrt⟩:=ht3 hne
 refine dD Tryz.func277 rfl Tryz.ntmps277 rfl ?_
 repeat' (first|refine sT ?_|refine sM fun _=> ?_|(refine sC ?_ ?_<;>intro hb<;>try omega)|fail)
 refine aH 356 3 ?_
 refine FC (fun (i:Nat) s H=> ∃ st vs A cap Hv,s= [(0,.slice (some ⟨gt,ot,none⟩) L.length ct),(1,.func (.func f) #[] caps.toArray),(5,sl A st.length cap),(14,.slice (some ⟨gt,ot,none⟩) L.length ct),(15,.int .i64 (L.length:Int)),(16,.int .i64 (i:Int))]∧
   H= .own A 356 3 st.length cap (st.flatMap rR)::Hv∧WalkSt L Inv i st vs Hv) (fun i=>L.length - i) 0 ?_ ?_
 ·
  refine ⟨_,_,?_,?_,⟨[],[],none,0,H,rfl,rfl,⟨QX _,rfl,hI,rfl,by simp,QV _⟩⟩⟩
  ·
   exact sB
  ·
   exact mS
 ·
  rintro i _ _ ⟨st,vs,A,cap,Hv,rfl,rfl,hst⟩
  obtain ⟨hle,hvl,hinv,hrest,hok,hsmall⟩:=hst
  by_cases hlt:i<L.length
  ·
   have hrn:=hrt.elem eC i hlt
   rw [QY hlt,gG,jL] at hrest
   generalize hn:L[i]=n at hrest hrn
   by_cases hfe:bP n=0
   ·
    obtain ⟨hb0,hb16⟩:=xV hfe
    obtain ⟨k,hk⟩:=TL hb0
    rw [if_neg (by simp [hfe]),hk,SD] at hrest
    have hbel: ∀ w,ay Tryz.prog 306 [.agg (bX n).toArray] w (.int .i64 (k:Int)):=fun w=>hk ▸ LR n w
    have hfie: ∀ w,ay Tryz.prog 305 [.agg (bX n).toArray] w (.int .i64 0):=fun w=>hfe ▸ xW n w
    refine PX .hd fun hr1 hr2 hr3=> ?_
    repeat' (first|(apply ak;exact rfl;apply aj;exact rfl;exact rfl;exact hlt)|(apply ak;exact rfl;apply aB;exact rfl;exact hrn;exact rfl)|(apply ak;exact rfl;apply dE;exact rfl;exact rfl;(simp only [maxLen];omega))|(apply aa;exact rfl;exact rfl;(intro w hm;exact hfie w))|(apply aa;exact rfl;exact rfl;(intro w hm;exact hbel w))|(apply gH (id:=9);kernel_rfl;kernel_rfl)|(apply aS;exact rfl;apply kB;exact rfl;exact rfl;omega;omega)|(apply ak;exact rfl;apply kB;exact rfl;exact rfl;omega;omega)|(apply aS;exact rfl;apply lJ (hi:=st.length);exact rfl;exact ⟨_,rfl⟩;exact rfl;omega;omega)|(apply dO;exact rfl;exact rfl;(intro w hm;exact NB L n (bz st k) _ _ w (ht'.of_w0 hm) (G6 hm pK (by omega)) (fun p hp=>Nat.lt_trans (hok p (ig hp)).1 hlt) (by rw [jn st k (by omega)];omega)))|refine sT ?_|refine sQ ?_|refine sM fun _=> ?_|(refine sC ?_ ?_<;>intro hb<;>try omega)|(refine sCQ ?_ ?_<;>intro hb<;>try omega)|fail)
    ·
     refine cH (.inl rfl) Tryz.results277 rfl (.drop .hd (.drop .hd (.refl _))) ?_
     rw [hrest,if_pos (Or.inl (by omega))]
     exact ⟨rfl,hinv⟩
    ·
     refine cH (.inl rfl) Tryz.results277 rfl (.drop .hd (.drop .hd (.refl _))) ?_
     rw [hrest,if_pos (Or.inr hb)]
     exact ⟨rfl,hinv⟩
    have hkl:k≤st.length:=by omega
    rw [if_neg (by intro h;rcases h with h|h;(· omega);(· rw [hb] at h;cases h))] at hrest
    repeat' (first|(apply ak;exact rfl;apply kB;exact rfl;exact rfl;omega;omega)|(apply Jr (hi:=st.length);exact rfl;exact rfl;exact ⟨_,rfl⟩;exact rfl;omega;omega;(intro B hB))|refine sT ?_|refine sM fun _=> ?_|(refine sC ?_ ?_<;>intro hb<;>try omega)|fail)
    rename_i gn gp
    refine aH 3 1 ?_
    have htl:=jn st k hkl
    refine FC (fun (j:Nat) s H=> ∃ A2 cap2,s= [(0,.slice (some ⟨gt,ot,none⟩) L.length ct),(1,.func (.func f) #[] caps.toArray),(5,sl A st.length cap),(6,.int .i64 (i:Int)),(9,.int .i64 (k:Int)),(10,.pointer (some ⟨gp,0,none⟩)),(11,sl A2 j cap2),
      (14,.slice (some ⟨gt,ot,none⟩) L.length ct),(15,.int .i64 (L.length:Int)),(16,.int .i64 (i:Int)),(54,.slice B (st.length - (st.length - k)) (cap - (st.length - k))),(55,.int .i64 ((st.length - (st.length - k):Nat):Int)),(56,.int .i64 (j:Int))]∧
      H= .own A2 3 1 j cap2 (((bz st k).take j).map fun p=> .int .i64 (p.root:Int)):: .box gp 356 [.int .i64 (i:Int),.int .i64 (cA ((bz st k).take j):Int),.bool (decide (n.kind=3))]:: .own A 356 3 st.length cap (st.flatMap rR)::Hv∧j≤k) (fun j=>k - j) 0 ?_ ?_
    ·
     refine ⟨_,_,?_,?_,⟨none,0,rfl,rfl,by omega⟩⟩
     ·
      exact sB
     ·
      exact mS
    ·
     rintro j _ _ ⟨A2,cap2,rfl,rfl,hjk⟩
     by_cases hj:j<k
     ·
      refine eH (.tl (.tl .hd)) (by omega) fun gs hA=> ?_
      subst hA
      obtain rfl:B=some ⟨gs,0+(st.length - k)*3,none⟩:=by rw [hB,if_neg (by omega)];simp [cK]
      have hjt:j<(bz st k).length:=by omega
      have he:((st.flatMap rR).drop (0+(st.length - k)*3+j*3)).take 3=rR (bz st k)[j]:=by
       rw [show 0+(st.length - k)*3+j*3=(st.length - k+j)*3 by rw [TI];omega,dG nJ st _ (by omega)]
       simp [bz]
      have hd32:(bz st k)[j].depth≤32:=(hok _ (ig (RQ hjt))).2
      repeat' (first|(apply ak;exact rfl;apply aj;exact rfl;exact rfl;omega)|(apply ak;exact rfl;apply Ae;exact rfl;exact pK;exact he;exact rfl)|(apply ak;exact rfl;apply fq;exact rfl;exact rfl;(simp only [maxLen];omega))|(apply ak;exact rfl;apply Dl;exact rfl;exact rfl)|(apply bR;(iterate 3 exact rfl);(repeat first|exact .hd|apply Sel.tl|apply In.tl);(intro w hm;exact hm.cells_own (by (repeat first|exact .hd|apply Sel.tl|apply In.tl)));exact rfl;(simp [Value.oneCell',sl]);omega;(simp only [maxLen];omega);(intro A' cap' hA'))|refine sT ?_|refine sM fun _=> ?_|(refine sC ?_ ?_<;>intro hb<;>try omega)|fail)
      have hk1:((bz st k).take (j+1)).map (fun p=>Value.int .i64 (p.root:Int))=((bz st k).take j).map (fun p=>Value.int .i64 (p.root:Int))++ [.int .i64 ((bz st k)[j].root:Int)]:=by
       rw [Rg hjt,RX];rfl
      refine ⟨j+1,_,_,?_,?_,?_,⟨A',cap',rfl,rfl,hj⟩⟩
      ·
       omega
      ·
       exact sB
      ·
       rw [hk1,qF _ _ hjt]
       exact mS
     ·
      have e:j=k:=by omega
      subst e
      have htk:(bz st j).take j=bz st j:=RS (by omega)
      rw [htk]
      have hd33:=kN (bz st j) fun p hp=>(hok p (ig hp)).2
      repeat' (first|refine sT ?_|refine sM fun _=> ?_|(refine sC ?_ ?_<;>intro hb<;>try omega)|fail)
      ·
       refine cH (.inl rfl) Tryz.results277 rfl (.drop .hd (.drop .hd (.drop .hd (.refl _)))) ?_
       rw [hrest,if_pos (by omega)]
       exact ⟨rfl,hinv⟩
      rw [if_neg (by omega)] at hrest
      refine JB (.tl (.tl .hd)) (st.length - j) (by omega) ?_
      refine jl 10 rfl (by kernel_rfl) ?_
      ((with_reducible apply aR (i:=0));exact rfl;exact rfl;decide+kernel;decide+kernel;decide+kernel;exact nP;(intro _ _;exact vP))
      ((with_reducible apply aR (i:=1));exact rfl;exact rfl;decide+kernel;decide+kernel;decide+kernel;exact nP;(intro _ _;exact vP))
      ((with_reducible apply aR (i:=2));exact rfl;exact rfl;decide+kernel;decide+kernel;decide+kernel;exact nP;(intro _ _;exact vP))
      ((with_reducible apply aR (i:=3));exact rfl;exact rfl;decide+kernel;decide+kernel;decide+kernel;exact nP;(intro _ _;exact vP))
      ((with_reducible apply aR (i:=4));exact rfl;exact rfl;decide+kernel;decide+kernel;decide+kernel;exact nP;(intro _ _;exact vP))
      ((with_reducible apply aR (i:=5));exact rfl;exact rfl;decide+kernel;decide+kernel;decide+kernel;exact nP;(intro _ _;exact vP))
      repeat' (first|(apply aG (i:=6);exact rfl;decide+kernel)|(apply aG (i:=7);exact rfl;decide+kernel)|(apply aG (i:=8);exact rfl;decide+kernel)|(apply aG (i:=9);exact rfl;decide+kernel)|(apply jk;decide+kernel)|(apply bR;(iterate 3 exact rfl);(repeat first|exact .hd|apply Sel.tl|apply In.tl);(intro w hm;exact hm.cells_own (by (repeat first|exact .hd|apply Sel.tl|apply In.tl)));exact rfl;(simp [Value.oneCell',sl]);omega;(simp only [maxLen];omega);(intro A' cap' hA'))|refine sT ?_|refine sM fun _=> ?_|(refine sC ?_ ?_<;>intro hb<;>try omega)|fail)
      have hcont:(st.flatMap rR).take ((st.length - j)*3)++ [.int .i64 (i:Int),.int .i64 (cA (bz st j):Int),.bool (decide (n.kind=3))]=(st.take (st.length - j)++ [(⟨i,cA (bz st j),decide (n.kind=3)⟩:Pt)]).flatMap rR:=by
       rw [jC nJ,Rm];rfl
      have hvis:=hV vs ((bz st j).map Pt.root) (cA (bz st j)) A2 cap2 Hv [.own A' 356 3 (st.length - j+1) cap' ((st.take (st.length - j)++ [(⟨i,cA (bz st j),decide (n.kind=3)⟩:Pt)]).flatMap rR)] hinv (by rw [RN];omega) (by omega) (by intro q hq;obtain ⟨p,hp,rfl⟩:=RD.1 hq;rw [hvl];exact (hok p (ig hp)).1)
      simp only [RN,htl,hvl,Tq] at hvis
      rw [hcont]
      (with_reducible apply kQ)
      ·
       exact rfl
      ·
       exact rfl
      ·
       infer_instance
      ·
       exact rfl
      ·
       refine hvis.msub ?_
       refine MSub.pick (T:=_) pK (MSub.snoc pK ?_)
       exact mS
      rintro v H' ⟨H1,hI1,hM1⟩
      repeat' (first|(apply ak;exact rfl;apply fq;exact rfl;exact rfl;(simp only [maxLen];omega))|refine sT ?_|refine sM fun _=> ?_|(refine sC ?_ ?_<;>intro hb<;>try omega)|fail)
      refine ⟨i+1,_,_,?_,?_,?_,⟨st.take (st.length - j)++ [(⟨i,cA (bz st j),decide (n.kind=3)⟩:Pt)],vs++ [((bz st j).map Pt.root,cA (bz st j))],A',cap',H1,rfl,rfl,⟨?_,?_,?_,?_,?_,?_⟩⟩⟩
      ·
       omega
      ·
       have e1:(st.take (st.length - j)++ [(⟨i,cA (bz st j),decide (n.kind=3)⟩:Pt)]).length=st.length - j+1:=by simp
       rw [e1]
       exact sB
      ·
       have e1:(st.take (st.length - j)++ [(⟨i,cA (bz st j),decide (n.kind=3)⟩:Pt)]).length=st.length - j+1:=by simp
       rw [e1]
       exact hM1.rot
      ·
       omega
      ·
       simp [hvl]
      ·
       exact hI1
      ·
       exact hrest
      ·
       intro p hp
       rcases Rs.1 hp with hp|hp
       ·
        exact ⟨Nat.lt_succ_of_lt (hok p (Sj hp)).1,(hok p (Sj hp)).2⟩
       ·
        have e:p=⟨i,cA (bz st j),decide (n.kind=3)⟩:=by simpa using hp
        subst e
        exact ⟨Tv i,by show cA (bz st j)≤32;omega⟩
      ·
       simp;omega
   ·
    have hfie: ∀ w,ay Tryz.prog 305 [.agg (bX n).toArray] w (.int .i64 (bP n)):=fun w=>xW n w
    rw [if_pos hfe] at hrest
    repeat' (first|(apply ak;exact rfl;apply aj;exact rfl;exact rfl;exact hlt)|(apply ak;exact rfl;apply aB;exact rfl;exact hrn;exact rfl)|(apply aa;exact rfl;exact rfl;(intro w hm;exact hfie w))|refine sT ?_|refine sM fun _=> ?_|(refine sC ?_ ?_<;>intro hb<;>try omega)|fail)
    refine cH (.inl rfl) Tryz.results277 rfl (.drop .hd (.drop .hd (.refl _))) ?_
    rw [hrest]
    exact ⟨rfl,hinv⟩
  ·
   have e:i=L.length:=by omega
   subst e
   rw [RE,gG] at hrest
   repeat' (first|refine sT ?_|refine sM fun _=> ?_|(refine sC ?_ ?_<;>intro hb<;>try omega)|fail)
   ·
    refine cH (.inl rfl) Tryz.results277 rfl (.drop .hd (.refl _)) ?_
    rw [hrest,if_neg (by omega)]
    exact ⟨rfl,hinv⟩
   ·
    refine cH (.inl rfl) Tryz.results277 rfl (.drop .hd (.refl _)) ?_
    rw [hrest,if_pos (by omega)]
    exact ⟨rfl,hinv⟩
end Go.SL
namespace Go.SL
open Go Go.Proofs
attribute [local irreducible] W WL WQ WG WA VOp thn blk bE aV aK FnIn
theorem Lz {c:Int} (h1:48≤c) (h2:c≤57):aF c=true:=by simp [aF,h1,h2]
theorem NI {c:Int} (h:c<48):aF c=false:=by simp [aF];omega
theorem NJ {c:Int} (h:57<c):aF c=false:=by simp [aF];omega
set_option maxRecDepth 10000 in
theorem yc (a:ByteArray) (ha:a.size≤1000000) (w:World):ay Tryz.prog 219 [.string a] w (.int .i64 (aC aF (ap a):Int)):=by
 refine aq Tryz.func219 rfl Tryz.ntmps219 rfl ?_
 have hl:=au a
 repeat' (first|refine sT ?_|refine sT2 ?_|refine sM fun _=> ?_|(refine sC ?_ ?_<;>intro hb<;>try omega)|exact cT|fail)
 refine ia (fun i:Nat=> [(0,.string a),(5,.int .i64 (a.size:Int)),(6,.int .i64 (i:Int))]) (fun _=> []) (fun i=>i≤a.size∧aC aF (ap a)=i+aC aF ((ap a).drop i)) (fun i=>a.size - i) 0 ⟨by omega,by simp⟩ sB mS ?_
 rintro i ⟨hi,hr⟩
 by_cases hlt:i<a.size
 ·
  have hs1:=bi hlt
  rw [hs1] at hr
  simp only [aC] at hr
  repeat' (first|refine sT ?_|refine sT2 ?_|refine sN ?_|refine sM fun _=> ?_|(refine sC ?_ ?_<;>intro hb<;>try omega)|exact cT|fail)
  ·
   (refine rT1 ?_)
   rw [hr,NI hb];simp
  ·
   (refine rT1 ?_)
   rw [hr,NJ hb];simp
  ·
   rename_i h1
   rw [Lz h1 hb] at hr
   exact ⟨i+1,⟨hlt,by rw [hr];simp;omega⟩,by omega,by exact sB,by exact mS⟩
 ·
  have e:i=a.size:=by omega
  subst e
  repeat' (first|refine sT ?_|refine sT2 ?_|refine sM fun _=> ?_|(refine sC ?_ ?_<;>intro hb<;>try omega)|exact cT|fail)
  (refine rT1 ?_)
  rw [hr,Ry (by omega)];simp [aC]
def jo (hi lo:Int) (neg:Bool):Int × Bool:=if hi≠0∨cI<lo then (0,false) else (if neg then -lo else lo,true)
theorem pQ {v:Int} (h1:0≤v) (h2:v≤cI):IntKind.i64.wrap v=v:=I64.wrap ⟨by omega,by simpa [cI] using h2⟩
set_option maxRecDepth 10000 in
theorem Hq (hi lo:Int) (neg:Bool) (h0:0≤lo) (w:World):ay Tryz.prog 220 [.int .u64 hi,.int .u64 lo,.bool neg] w (.tuple #[.int .i64 (jo hi lo neg).1,.bool (jo hi lo neg).2]):=by
 refine aq Tryz.func220 rfl Tryz.ntmps220 rfl ?_
 by_cases hh:hi=0
 ·
  by_cases hl:lo≤cI
  ·
   have hw:=pQ h0 hl
   have hm:cI=9223372036854775807:=rfl
   have e:jo hi lo neg=(if neg then -lo else lo,true):=by rw [jo,if_neg (by omega)]
   rw [e]
   subst hh
   cases neg
   ·
    repeat' (first|(apply ak;exact rfl;apply bW;exact rfl;exact hw)|refine sT ?_|refine sM fun _=> ?_|(refine sC ?_ ?_<;>intro hb<;>try omega)|exact cT|fail)
    all_goals first|(exfalso;omega)|((refine rT2 ?_);rfl)
   ·
    repeat' (first|(apply ak;exact rfl;apply bW;exact rfl;exact hw)|(apply ak;exact rfl;apply Ol;exact rfl;exact ⟨by omega,by omega⟩)|refine sT ?_|refine sM fun _=> ?_|(refine sC ?_ ?_<;>intro hb<;>try omega)|exact cT|fail)
    all_goals first|(exfalso;omega)|((refine rT2 ?_);rfl)
  ·
   have hm:cI=9223372036854775807:=rfl
   have e:jo hi lo neg=(0,false):=by rw [jo,if_pos (by omega)]
   rw [e]
   repeat' (first|refine sT ?_|refine sM fun _=> ?_|(refine sC ?_ ?_<;>intro hb<;>try omega)|exact cT|fail)
   all_goals first|(exfalso;omega)|((refine rT2 ?_);rfl)
 ·
  have e:jo hi lo neg=(0,false):=by rw [jo,if_pos (.inl hh)]
  rw [e]
  repeat' (first|refine sT ?_|refine sM fun _=> ?_|(refine sC ?_ ?_<;>intro hb<;>try omega)|exact cT|fail)
  all_goals first|(exfalso;omega)|((refine rT2 ?_);rfl)
theorem uO (u:Int) (neg:Bool) (h0:0≤u) (h1:u≤cI) (w:World):ay Tryz.prog 220 [.int .u64 0,.int .u64 u,.bool neg] w (.tuple #[.int .i64 (if neg then -u else u),.bool true]):=by
 have h:=Hq 0 u neg h0 w
 rwa [jo,if_neg (by omega)] at h
theorem py: ∀ (l:List Int) (v c:Int),bw (l++ [c]) v=10*bw l v+(c - 48)
 | [],_,_=>rfl
 |d::r,v,c=>by simp only [QR,bw];exact py r _ c
theorem lj: ∀ (l:List Int) {v:Int},(∀ c∈l,48≤c)→0≤v→v≤bw l v
 | [],_,_,_=>Ss _
 |c::r,v,h,h0=>by
  have h1:=h c QT
  have:=lj r (v:=10*v+(c - 48)) (fun d hd=>h d (Rc _ hd)) (by omega)
  simp only [bw];omega
theorem qp (l m:List Int) (v:Int):bw (l++m) v=bw m (bw l v):=by
 induction l generalizing v with
 |nil=>rfl
 |cons c l ih=>simp only [QR,bw,ih]
def f4 (l0:List Int):Int × Int:=
 let neg:=decide (l0.head? =some 45)
 let l:=if neg then l0.tail else l0
 let n:=aC aF l
 let rest:=l.drop n
 let frac:=decide (1<rest.length) && (decide (rest.head? =some 46) && decide (aC aF rest.tail+1=rest.length))
 let p5:=(if frac then rest.tail else [])++ [48,48,48,48,48]
 if n=0∨(frac=false∧rest≠ []) then (0,4)
 else
  let v:=bw (l.take n++p5.take 4) 0+(if 53≤p5.getD 4 0 then 1 else 0)
  if cI<v then (0,3) else (if neg then -v else v,0)
theorem qx (a:ByteArray) (c:Int):((ap a).head? =some c)↔(0<a.size∧bat a 0=c):=by
 by_cases h:0<a.size
 ·
  have:=bi h
  rw [SA] at this
  rw [this];simp [h]
 ·
  have:ap a= []:=by rw [← SC,au];omega
  rw [this];simp;omega
set_option maxRecDepth 10000 in
theorem tj (a:ByteArray) (ha:a.size≤1000000) (w:World):ay Tryz.prog 172 [.string a] w (.tuple #[.int .i64 (f4 (ap a)).1,.int .i64 (f4 (ap a)).2]):=by
 refine aq Tryz.func172 rfl Tryz.ntmps172 rfl ?_
 have hl:=au a
 generalize hneg:decide ((ap a).head? =some 45)=neg
 generalize hls:(if neg then (ap a).tail else ap a)=ls
 have hb0:=qx a 45
 repeat' (first|(refine qY (id:=1) (ι:=Bool) (fun b=> [(0,.string a),(4,.bool b)]) (fun _=> []) (fun b=>neg=b) ?_ ?_)|refine sT ?_|refine sT2 ?_|refine sM fun _=> ?_|(refine sC ?_ ?_<;>intro hb<;>try omega)|exact cT|fail)
 ·
  (apply cC;rotate_left 1;exact sB;exact mS)
  rw [← hneg,decide_eq_decide,hb0]
  simp;omega
 ·
  (apply cC;rotate_left 1;exact sB;exact mS)
  rw [← hneg,decide_eq_false_iff_not,hb0]
  omega
 rintro _ rfl
 repeat' (first|(refine yI (id:=2) (ι:=ByteArray) (fun b=> [(0,.string b),(4,.bool neg)]) (fun _=> []) (fun b=>ap b=ls∧b.size≤a.size) ?_ ?_)|refine sT ?_|refine sT2 ?_|refine sM fun _=> ?_|(refine sC ?_ ?_<;>intro hb<;>try omega)|exact cT|fail)
 ·
  have h1:0<a.size:=(hb0.1 (of_decide_eq_true (hneg.trans hb))).1
  repeat' (first|refine sT ?_|refine sT2 ?_|refine sM fun _=> ?_|(refine sC ?_ ?_<;>intro hb<;>try omega)|exact cT|fail)
  (apply cC;rotate_left 1;exact sB;exact mS)
  rw [← hls,hb,oh,ck _ (QV _)]
  simp
 ·
  (apply cC;rotate_left 1;exact sB;exact mS)
  rw [← hls,hb]
  simp
 rintro b ⟨hbl,hbs⟩
 have hlb:=au b
 rw [hbl] at hlb
 have hdl:=bY aF ls
 generalize hn:aC aF ls=n at hdl
 generalize hrest:ls.drop n=rest
 generalize hfr:(decide (1<rest.length) && (decide (rest.head? =some 46) && decide (aC aF rest.tail+1=rest.length)))=fr
 have hcd:=yc b (by omega)
 rw [hbl,hn] at hcd
 have hb1:=qx (sub b n b.size) 46
 have hs1:=ck b (lo:=n) (QV b.size)
 have hr1:ap (sub b n b.size)=rest:=by rw [oh,hbl,hrest]
 generalize hz:sub b n b.size=z at hb1 hs1 hr1
 have hrl:rest.length=z.size:=by rw [← hr1,au]
 have e1:ap (sub z 1 z.size)=rest.tail:=by rw [oh,hr1,List.drop_one]
 rw [hr1] at hb1
 have hcd2:=fun h=>yc (sub z 1 z.size) h
 repeat' (first|(refine qY (id:=7) (ι:=Bool) (fun x=> [(4,.bool neg),(5,.int .i64 (n:Int)),(6,.string (sub b 0 n)),(7,.string z),(8,.string av),(50,.bool x)]) (fun _=> []) (fun x=>fr=x) ?_ ?_)|(apply aa;exact rfl;exact rfl;(intro w hm;exact hcd w))|(apply aa;exact rfl;exact rfl;(intro w hm;exact hcd2 (by rw [ck _ (QV _)];omega) w))|(rw [hz])|refine sT ?_|refine sQ ?_|refine sT2 ?_|refine sQ2 ?_|refine sN ?_|refine sNQ ?_|refine sD ?_|refine sM fun _=> ?_|(refine sC ?_ ?_<;>intro hb<;>try omega)|(refine sCQ ?_ ?_<;>intro hb<;>try omega)|exact cT|fail)
 ·
  (apply cC;rotate_left 1;exact sB;exact mS)
  rename_i h1
  rw [e1,← hfr,decide_eq_true (by omega:1<rest.length),decide_eq_true (hb1.2 ⟨by omega,hb⟩)]
  simp only [Sy,decide_eq_decide]
  omega
 ·
  (apply cC;rotate_left 1;exact sB;exact mS)
  rw [← hfr,decide_eq_false (fun h=>hb (hb1.1 h).2)]
  simp
 ·
  (apply cC;rotate_left 1;exact sB;exact mS)
  rw [← hfr,decide_eq_false (by omega)]
  rfl
 rintro _ rfl
 have hf1:fr=true→1≤z.size:=fun h=>by
  rw [← hfr] at h
  simp at h
  omega
 have hf2:fr=false→((z=av)↔rest= []):=fun _=>by rw [← KY,hr1]
 have hbl2:b.size≤1000000:=by omega
 refine o7 (ι:=ByteArray × ByteArray) (fun x=> [(4,.bool neg),(5,.int .i64 (n:Int)),(6,.string (sub b 0 n)),(7,.string x.1),(8,.string x.2)]) (fun _=> []) (fun x=>ap x.2=(if fr then rest.tail else [])∧((x.1=av)↔(fr=true∨rest= []))∧x.2.size≤a.size) ?_ ?_
 ·
  cases fr
  ·
   repeat' (first|refine sT ?_|refine sT2 ?_|refine sM fun _=> ?_|(refine sC ?_ ?_<;>intro hb<;>try omega)|exact cT|fail)
   refine cC ((z,av)) ?_ sB mS
   exact ⟨rfl,by rw [hf2 rfl];simp,QX _⟩
  ·
   have h1:=hf1 rfl
   repeat' (first|refine sT ?_|refine sT2 ?_|refine sM fun _=> ?_|(refine sC ?_ ?_<;>intro hb<;>try omega)|exact cT|fail)
   refine cC ((av,sub z 1 z.size)) ?_ sB mS
   exact ⟨by rw [e1];rfl,by simp [av],by rw [ck _ (QV _)];omega⟩
 rintro ⟨z',pl⟩ ⟨h1,h2,h3⟩
 dsimp only at*
 generalize hp5:(if fr then rest.tail else [])++ [48,48,48,48,48]=p5
 have hpl:ap (pl++⟨#[48,48,48,48,48]⟩)=p5:=by rw [gA,h1,← hp5];rfl
 have hpz:(pl++⟨#[48,48,48,48,48]⟩:ByteArray).size=pl.size+5:=by rw [Tf];rfl
 generalize hqd:(pl++⟨#[48,48,48,48,48]⟩:ByteArray)=q at hpl hpz
 have hres:f4 (ap a)=if n=0∨(fr=false∧rest≠ []) then (0,4) else if cI<bw (ls.take n++p5.take 4) 0+(if 53≤p5.getD 4 0 then 1 else 0) then (0,3) else (if neg then -(bw (ls.take n++p5.take 4) 0+(if 53≤p5.getD 4 0 then 1 else 0)) else bw (ls.take n++p5.take 4) 0+(if 53≤p5.getD 4 0 then 1 else 0),0):=by
  unfold f4
  rw [hneg]
  dsimp only
  rw [hls,hn,hrest,hfr,hp5]
 rw [hres]
 by_cases herr:n=0∨(fr=false∧rest≠ [])
 ·
  rw [if_pos herr]
  repeat' (first|refine sT ?_|refine sT2 ?_|refine sM fun _=> ?_|(refine sC ?_ ?_<;>intro hb<;>try omega)|exact cT|fail)
  ·
   (refine rT2 ?_)
   rfl
  ·
   (refine rT2 ?_)
   rfl
  ·
   exfalso
   have hz' :z' =av:=Decidable.not_not.1 hb
   have:=h2.1 hz'
   rcases herr with h|⟨h,h'⟩
   ·
    omega
   ·
    rcases this with h4|h4
    ·
     rw [h] at h4;cases h4
    ·
     exact h' h4
 ·
  rw [if_neg herr]
  generalize hL:ls.take n++p5.take 4=L
  have hp5l:p5.length=pl.size+5:=by rw [← hpl,au,hpz]
  have hy:ap (sub b 0 n++sub q 0 4)=L:=by rw [gA,tU,tU,hbl,hpl,hL]
  have hyz:(sub b 0 n++sub q 0 4:ByteArray).size=n+4:=by rw [Tf,ck _ (by omega),ck _ (by omega)];omega
  generalize hyd:(sub b 0 n++sub q 0 4:ByteArray)=y at hy hyz
  have hyl:L.length=y.size:=by rw [← hy,au]
  have hdig: ∀ c∈L,48≤c∧c≤57:=by
   have hall: ∀ (l:List Int) (c:Int),c∈l.take (aC aF l)→48≤c∧c≤57:=fun l c hc=>by
    obtain ⟨j,hj,rfl⟩:=SJ hc
    simp only [Rq] at hj
    have h:=jM (p:=aF) l j (l[j]'(by omega)) (by omega) (QQ _)
    simp only [Ug]
    simpa [aF] using h
   intro c hc
   rw [← hL] at hc
   rcases Rs.1 hc with hc|hc
   ·
    rw [← hn] at hc;exact hall ls c hc
   ·
    have hc:=Sj hc
    rw [← hp5] at hc
    rcases Rs.1 hc with hc|hc
    ·
     cases hc1:fr
     ·
      rw [hc1] at hc;cases hc
     ·
      rw [hc1] at hc
      simp only [if_true] at hc
      have h7:aC aF rest.tail=rest.tail.length:=by
       rw [hc1] at hfr
       simp only [QZ,decide_eq_true_eq] at hfr
       rw [TV];omega
      have:=hall rest.tail c (by rw [h7,Sc];exact hc)
      exact this
    ·
     simp at hc;omega
  have hq4:bat q 4=p5.getD 4 0:=by rw [bat,hpl]
  have hm0:cI=9223372036854775807:=rfl
  repeat' (first|(apply ak (d:=60);exact rfl;apply jz;exact rfl;exact rfl;exact hqd;(show pl.size+5≤_;omega))|(apply ak (d:=64);exact rfl;apply jz;exact rfl;exact rfl;exact hyd;(rw [ck _ (by omega),ck _ (by omega)];omega))|(apply lH;exact rfl;exact rfl;intro gb cap)|refine sT ?_|refine sT2 ?_|refine sM fun _=> ?_|(refine sC ?_ ?_<;>intro hb<;>try omega)|exact cT|fail)
  ·
   exfalso
   refine herr (.inr ?_)
   have h4: ¬ (fr=true∨rest= []):=fun h=>hb (h2.2 h)
   cases hc:fr
   ·
    exact ⟨rfl,fun h=>h4 (.inr h)⟩
   ·
    exact absurd (.inl hc) h4
  have hup: ∀ i,i≤L.length→cI<bw (L.take i) 0→cI<bw L 0:=fun i hi h=>by
   have e:L=L.take i++L.drop i:=(Si i L).symm
   rw [e,qp]
   have h0:0≤bw (L.take i) 0:=lj _ (fun c hc=>(hdig c (Sj hc)).1) (Ss _)
   have:=lj (L.drop i) (v:=bw (L.take i) 0) (fun c hc=>(hdig c (S5 hc)).1) h0
   omega
  refine ax [4,8,65,66] rfl (fun x:Nat × Int × Bool=> [(9,.int .u64 x.2.1),(10,.bool x.2.2),(67,.int .i64 (x.1:Int))]) (fun _=> [.byt gb 5 y.size cap (nO y)]) (fun x=>x.1≤L.length∧0≤x.2.1∧x.2.1<18446744073709551616∧(x.2.2=false→x.2.1=bw (L.take x.1) 0∧x.2.1≤cI)∧(x.2.2=true→cI<bw (L.take x.1) 0)) (fun x=>L.length - x.1) (0,0,false) ⟨QX _,Ss _,by decide,fun _=>⟨rfl,by decide⟩,fun h=>by cases h⟩ sB mS ?_
  rintro ⟨i,v,gr⟩ ⟨hi,hv0,hv1,hg0,hg1⟩
  dsimp only at hi hv0 hv1 hg0 hg1 ⊢
  by_cases hlt:i<L.length
  ·
   have hiy:i<y.size:=by omega
   have hge:L[i]? =some L[i]:=QQ hlt
   have hci:=hdig L[i] (RQ hlt)
   have hsn:bw (L.take (i+1)) 0=10*bw (L.take i) 0+(L[i] - 48):=by rw [Rg hlt,py]
   generalize L[i]=c at hge hci hsn
   have hget:(nO y)[0+i*1]? =some (.int .u8 c):=by rw [oC,hy,RM,show 0+i*1=i by omega,hge];rfl
   have hwc:IntKind.u8.wrap (c - 48)=c - 48:=wrap_u8 (by omega) (by omega)
   have hwc2:IntKind.u64.wrap (c - 48)=c - 48:=by simp [IntKind.wrap,IntKind.bits,IntKind.signed];omega
   obtain ⟨v',hadd,hv2,hv3,hv4⟩: ∃ v',IntKind.u64.wrap (IntKind.u64.wrap (10*v)+(c - 48))=v' ∧0≤v' ∧v' <18446744073709551616∧(v≤922337203685477580→v' =10*v+(c - 48)):=by
    refine ⟨_,rfl,?_⟩
    simp only [IntKind.wrap,IntKind.bits,IntKind.signed]
    simp
    omega
   have hn0:0≤bw (L.take i) 0:=lj _ (fun c hc=>(hdig c (Sj hc)).1) (Ss _)
   cases gr
   ·
    obtain ⟨hg2,hg3⟩:=hg0 rfl
    repeat' (first|(apply ak;exact rfl;apply aj;exact rfl;exact rfl;exact hiy)|(apply ak;exact rfl;apply jH;exact rfl;exact .hd;exact hget)|(apply ak (d:=74);exact rfl;apply Dk;exact rfl;exact rfl)|(apply ak (d:=76);exact rfl;apply dF;exact rfl;exact rfl;exact hwc)|(apply ak (d:=77);exact rfl;apply bW;exact rfl;exact hwc2)|(apply ak (d:=78);exact rfl;apply dQ;exact rfl;exact rfl;exact hadd)|refine sT ?_|refine sT2 ?_|refine sN ?_|refine sM fun _=> ?_|(refine sC ?_ ?_<;>intro hb<;>try omega)|exact cT|fail)
    ·
     refine ⟨(i+1,v',true),?_,(by first|omega|(dsimp only;omega)),sB,sB,mS⟩
     exact ⟨hlt,hv2,hv3,(fun h=>by cases h),fun _=>by dsimp only;omega⟩
    ·
     have h5:=hv4 (by omega)
     refine ⟨(i+1,v',decide (cI<v')),⟨hlt,hv2,hv3,fun h=> ?_,fun h=> ?_⟩,(by dsimp only;omega),sB,sB,mS⟩
     ·
      have h6:=of_decide_eq_false h
      exact ⟨by dsimp only;omega,by dsimp only;omega⟩
     ·
      have h6:=of_decide_eq_true h
      dsimp only;omega
   ·
    have hg2:=hg1 rfl
    repeat' (first|(apply ak;exact rfl;apply aj;exact rfl;exact rfl;exact hiy)|(apply ak;exact rfl;apply jH;exact rfl;exact .hd;exact hget)|(apply ak (d:=74);exact rfl;apply Dk;exact rfl;exact rfl)|(apply ak (d:=76);exact rfl;apply dF;exact rfl;exact rfl;exact hwc)|(apply ak (d:=77);exact rfl;apply bW;exact rfl;exact hwc2)|(apply ak (d:=78);exact rfl;apply dQ;exact rfl;exact rfl;exact hadd)|refine sT ?_|refine sT2 ?_|refine sN ?_|refine sM fun _=> ?_|(refine sC ?_ ?_<;>intro hb<;>try omega)|exact cT|fail)
    all_goals
     refine ⟨(i+1,v',true),?_,(by first|omega|(dsimp only;omega)),sB,sB,mS⟩
     exact ⟨hlt,hv2,hv3,(fun h=>by cases h),fun _=>by dsimp only;omega⟩
  ·
   have e:i=L.length:=by omega
   subst e
   rw [RS (QV _)] at hg0 hg1
   generalize bw L 0=N at hg0 hg1 hup ⊢
   have hadd:v≤cI→IntKind.u64.wrap (v+1)=v+1:=fun h=>by simp [IntKind.wrap,IntKind.bits,IntKind.signed];omega
   by_cases h5:53≤p5.getD 4 0
   ·
    rw [if_pos h5]
    cases gr
    ·
     obtain ⟨hg2,hg3⟩:=hg0 rfl
     subst hg2
     by_cases h6:cI<v+1
     ·
      rw [if_pos h6]
      repeat' (first|(apply ak (d:=89);exact rfl;apply dQ;exact rfl;exact rfl;exact hadd hg3)|refine sT ?_|refine sT2 ?_|refine sM fun _=> ?_|(refine sC ?_ ?_<;>intro hb<;>try omega)|exact cT|fail)
      all_goals first|(exfalso;omega)|((refine rT2 ?_);rfl)
     ·
      rw [if_neg h6]
      repeat' (first|(apply ak (d:=89);exact rfl;apply dQ;exact rfl;exact rfl;exact hadd hg3)|(apply aa;exact rfl;exact rfl;(intro w' hm;exact (uO (v+1) neg (by omega) (by omega) w')))|refine sT ?_|refine sT2 ?_|refine sM fun _=> ?_|(refine sC ?_ ?_<;>intro hb<;>try omega)|exact cT|fail)
      all_goals first|(exfalso;omega)|((refine rT2 ?_);rfl)
    ·
     rw [if_pos (by have:=hg1 rfl;omega)]
     obtain ⟨u,hu⟩: ∃ u,IntKind.u64.wrap (v+1)=u:=⟨_,rfl⟩
     repeat' (first|(apply ak (d:=89);exact rfl;apply dQ;exact rfl;exact rfl;exact hu)|refine sT ?_|refine sT2 ?_|refine sM fun _=> ?_|(refine sC ?_ ?_<;>intro hb<;>try omega)|exact cT|fail)
     all_goals first|(exfalso;omega)|((refine rT2 ?_);rfl)
   ·
    rw [if_neg h5,Int.add_zero]
    cases gr
    ·
     obtain ⟨hg2,hg3⟩:=hg0 rfl
     subst hg2
     rw [if_neg (by omega)]
     repeat' (first|(apply aa;exact rfl;exact rfl;(intro w' hm;exact (uO v neg (by omega) hg3 w')))|refine sT ?_|refine sT2 ?_|refine sM fun _=> ?_|(refine sC ?_ ?_<;>intro hb<;>try omega)|exact cT|fail)
     all_goals first|(exfalso;omega)|((refine rT2 ?_);rfl)
    ·
     rw [if_pos (hg1 rfl)]
     repeat' (first|refine sT ?_|refine sT2 ?_|refine sM fun _=> ?_|(refine sC ?_ ?_<;>intro hb<;>try omega)|exact cT|fail)
     all_goals first|(exfalso;omega)|((refine rT2 ?_);rfl)
end Go.SL
namespace Go.SL
open Go Go.Proofs
attribute [local irreducible] W WL WQ WG WA VOp thn blk aV aK FnIn
def ma (L:List Nd) (wide:Bool):Int × List mq:=
 if 256<L.length then (5,[]) else if L.length=0 then (4,[])
 else if (gG L L 0 [] []).1≠0 then gG L L 0 [] []
 else if wide=false∧kK L (L.length - 1)=3 then (4,(gG L L 0 [] []).2) else (0,(gG L L 0 [] []).2)
set_option maxHeartbeats 2000000 in
theorem LN (L:List Nd) (wide:Bool) (tv:Value) (w0:World) (ht:Reads w0 tv L.length (L.flatMap bX)) (f:FuncId) [hf:Callable Tryz.prog f] (caps:List Value) (Inv:List mq→List Blk→Prop) (hV:E6 L.length w0 f caps Inv)
  (H:List Blk) (hI:Inv [] H):FnIn Tryz.prog 227 [tv,.bool wide,.func (.func f) #[] caps.toArray] w0 H fun v H' =>v= .int .i64 (ma L wide).1∧Inv (ma L wide).2 H' :=by
 have ht' :=ht
 obtain ⟨At,ct,rfl,ht1,ht2,ht3⟩:=ht
 refine dD Tryz.func227 rfl Tryz.ntmps227 rfl ?_
 by_cases h256:256<L.length
 ·
  repeat' (first|refine sT ?_|refine sM fun _=> ?_|(refine sC ?_ ?_<;>intro hb<;>try omega)|fail)
  refine cH (.inl rfl) Tryz.results227 rfl (.refl _) ?_
  rw [ma,if_pos h256]
  exact ⟨rfl,hI⟩
 by_cases h0:L.length=0
 ·
  repeat' (first|refine sT ?_|refine sM fun _=> ?_|(refine sC ?_ ?_<;>intro hb<;>try omega)|fail)
  refine cH (.inl rfl) Tryz.results227 rfl (.refl _) ?_
  rw [ma,if_neg h256,if_pos h0]
  exact ⟨rfl,hI⟩
 obtain ⟨gt,ot,rfl,hrt⟩:=ht3 (by omega)
 have hw:=GN L (by omega) (by omega) _ w0 ht' f caps Inv hV H hI
 have hrl:=hrt.elem eC (L.length - 1) (by omega)
 have hk:kK L (L.length - 1)=(L[L.length - 1]'(by omega)).kind:=iC _
 simp only [ma,if_neg h256,if_neg h0,hk]
 generalize gG L L 0 [] []=r at hw
 generalize (L[L.length - 1]'(by omega))=nl at hrl
 repeat' (first|(apply aw;exact rfl;exact rfl;exact hw;(rintro v H' ⟨rfl,hI'⟩))|(apply ak;exact rfl;apply dM;exact rfl;exact rfl;omega;omega)|(apply ak;exact rfl;apply aj;exact rfl;exact rfl;omega)|(apply ak;exact rfl;apply dx (off:=0);exact rfl;exact hrl;exact rfl)|refine sT ?_|refine sM fun _=> ?_|(refine sC ?_ ?_<;>intro hb<;>try omega)|fail)
 all_goals refine cH (.inl rfl) Tryz.results227 rfl (.refl _) ?_
 all_goals simp_all
theorem uo (N:Nat) (w0:World) (H0:List Blk):E6 N w0 228 [] fun _ H=>H=H0:=by
 rintro vs kids d A cap _ F rfl _ _ _
 refine dD Tryz.func228 rfl Tryz.ntmps228 rfl ?_
 repeat' (first|refine sT ?_|refine sM fun _=> ?_|(refine sC ?_ ?_<;>intro hb<;>try omega)|fail)
 refine fO (.inr rfl) Tryz.results228 (.drop .hd (.refl _)) ⟨_,rfl,.refl _⟩
def eJ (L:List Nd):Int:=(ma L false).1
theorem CY (L:List Nd) (tv:Value) (w:World) (ht:Reads w tv L.length (L.flatMap bX)):ay Tryz.prog 179 [tv] w (.int .i64 (eJ L)):=by
 have ht' :=ht
 obtain ⟨At,ct,rfl,ht1,ht2,ht3⟩:=ht
 refine aq Tryz.func179 rfl Tryz.ntmps179 rfl ?_
 have hw:=LN L false _ w ht' 228 [] (fun _ H=>H= []) (uo _ w []) [] rfl
 repeat' (first|(apply aw;exact rfl;exact rfl;exact hw;(rintro v H' ⟨rfl,rfl⟩))|refine sT ?_|refine sM fun _=> ?_|(refine sC ?_ ?_<;>intro hb<;>try omega)|fail)
 (refine rT1 ?_)
 rfl
def Gc (vs:List mq):Nat:=(vs.getLast?.map (·.2)).getD 0
def nN (L:List Nd):Int × Int:=if eJ L≠0 then (0,eJ L) else ((Gc (ma L false).2:Nat),0)
def lA (ks:List Nat):List Value:=ks.map fun (k:Nat)=> .int .i64 (k:Int)
theorem Ir {ks:List Nat} {i:Nat} (h:i<ks.length):(lA ks)[i]? =some (.int .i64 (ks[i]:Int)):=by simp [lA,h]
end Go.SL
namespace Go.SL
open Go Go.Proofs
attribute [local irreducible] W WL WQ WG WA VOp thn blk bE aV aK FnIn QD
theorem pT (L:List Nd): ∀ (r:List Nd) (i:Nat) (st:List Pt) (vs:List mq),(gG L r i st vs).1=0→ ∀ n∈r,bP n=0
 | [],_,_,_=>fun _ _ h=>by cases h
 |n::r,i,st,vs=>by
  intro h
  rw [gG] at h
  have hn:bP n=0:=by
   by_cases hf:bP n=0
   ·
    exact hf
   ·
    unfold jL at h
    rw [if_pos hf] at h
    exact h
  cases hs:jL L n i st with
  |inl e=>
   rw [hs] at h
   dsimp only at h
   unfold jL at hs
   rw [if_neg (by omega)] at hs
   split at hs
   ·
    injection hs with hs;omega
   ·
    split at hs
    ·
     injection hs with hs;omega
    ·
     cases hs
  |inr y=>
   obtain ⟨st',kids,d⟩:=y
   rw [hs] at h
   intro m hm
   rcases Rd.1 hm with rfl|hm
   ·
    exact hn
   ·
    exact pT L r _ _ _ h m hm
theorem qH {L:List Nd} (h:eJ L=0): ∀ n∈L,bP n=0:=by
 refine pT L L 0 [] [] ?_
 unfold eJ ma at h
 split at h
 ·
  cases h
 split at h
 ·
  cases h
 split at h
 ·
  rename_i h3
  exact absurd h h3
 ·
  rename_i h3
  omega
theorem Cj {n:Nd} (h:bP n=0) (hr:fw n=true):aD n.rect=true:=by
 unfold bP at h
 split at h
 ·
  cases h
 rename_i hk
 have hk1:iB n=true:=by
  cases hh:iB n
  ·
   exact absurd (Or.inl hh) hk
  ·
   rfl
 simp only [fw,SH,decide_eq_true_eq] at hr
 unfold iB at hk1
 rw [if_neg (by omega),if_pos hr] at hk1
 simp only [QZ,decide_eq_true_eq] at hk1
 have h1:=hk1.1
 unfold dh at h1
 cases hq:aD n.rect
 ·
  rw [hq] at h1;cases h1
 ·
  rfl
theorem Ke {r:Rct}:dh r≠0↔aD r=false:=by unfold dh;cases aD r<;>simp
end Go.SL
namespace Go.SL
open Go Go.Proofs
attribute [local irreducible] W WL WQ WG WA VOp thn blk bE aV aK FnIn WLI WR WT bI nQ iT kF
theorem JM (A:Option Addr) (m c:Nat) (w:World):aK Tryz.prog 243 [.slice A m c] w fun v H=> ∃ g,v= .func (.func 290) #[] #[.pointer (some ⟨g,0,none⟩)]∧H= [.box g 128 [.slice A m c]]:=by
 refine aq Tryz.func243 rfl Tryz.ntmps243 rfl ?_
 repeat' (first|refine sT ?_|refine sM fun _=> ?_|(refine sC ?_ ?_<;>intro hb<;>try omega)|fail)
 refine cH (.inl rfl) Tryz.results243 rfl (MSub.refl _) ?_
 exact ⟨_,rfl,rfl⟩
def uF (L:List Nd):List Us × Int:=if eJ L≠0 then ([],eJ L) else (eL L,0)
theorem jm: ∀ (L:List Nd) (i:Nat),(bL L i).length≤L.length
 | [],_=>QV _
 |n::r,i=>by
  have:=jm r (i+1)
  unfold bL
  cases fw n<;>simp<;>omega
theorem GZ (L:List Nd):(eL L).length≤L.length:=jm L 0
theorem Iy {α:Type} (f:α→List Value) (xs:List α) (x:α):(xs++ [x]).flatMap f=xs.flatMap f++f x:=by simp
set_option maxHeartbeats 4000000 in
theorem NY (L:List Nd) (tv:Value) (w:World) (ht:Reads w tv L.length (L.flatMap bX)) (hlen:L.length≤1000000):
  aK Tryz.prog 200 [tv] w fun v H=> ∃ A cap,v= .tuple #[sl A (uF L).1.length cap,.int .i64 (uF L).2]∧H= [.own A 159 6 (uF L).1.length cap ((uF L).1.flatMap fC)]:=by
 have ht' :=ht
 obtain ⟨Al,cl,rfl,hl1,hl2,hl3⟩:=ht
 refine nD Tryz.func200 rfl Tryz.ntmps200 (by rfl) ?_
 have hck:=fun w0 (hm:Reads w0 (.slice Al L.length cl) L.length (L.flatMap bX))=>CY L _ w0 hm
 unfold uF
 generalize eJ L=e at hck
 refine pP ?_
 refine aH 159 6 ?_
 repeat' (first|(apply aa;exact rfl;exact rfl;(intro w' hm;exact hck w' (ht'.of_w0 hm)))|(apply aA;exact rfl;exact rfl;(intro w' hm;exact JM _ _ _ w');(rintro v H' ⟨gu,rfl,rfl⟩))|refine sT ?_|refine sR ?_|refine sM fun _=> ?_|(refine sC ?_ ?_<;>intro hb<;>try omega)|(refine sCR ?_ ?_<;>intro hb<;>try omega)|fail)
 ·
  refine Gm ?_
  refine eY (.inl rfl) Tryz.results200 rfl rfl (H' := [.own none 159 6 0 0 []]) mS ⟨none,0,?_⟩
  rw [if_pos hb]
  exact ⟨rfl,rfl⟩
 rename_i gb
 rw [if_neg hb]
 have hul:=GZ L
 refine tZ (ps:= [14]) (us:=eL L) (encs:=fun u=> [.agg (fC u).toArray]) (Hc:= [.box gu 128 [.slice Al L.length cl]]) (HU0:= [.box gb 156 [.slice none 0 0],.own none 159 6 0 0 []]) rfl (fun _=>rfl) rfl (JL L _ w ht' hlen gu)
  (fun pre HU=> ∃ A cap,HU= [.box gb 156 [sl A pre.length cap],.own A 159 6 pre.length cap (pre.flatMap fC)]) (fun _=>False) ?_ ⟨none,0,rfl⟩ ?_ ?_ ?_
 ·
  exact mS
 ·
  rintro l pre u post hus _ ⟨A,cap,rfl⟩ F F'
  have hlu:=congrArg List.length hus
  simp only [QP,Rp] at hlu
  change WR _ _ _ l _ _ ((14,Value.agg (fC u).toArray)::_) (.box gb 156 [sl A pre.length cap]:: .own A 159 6 pre.length cap (pre.flatMap fC)::F)
  repeat' (first|refine sT ?_|refine sR ?_|refine sM fun _=> ?_|(refine sC ?_ ?_<;>intro hb<;>try omega)|(refine sCR ?_ ?_<;>intro hb<;>try omega)|fail)
  rename_i g6
  refine wD ⟨[.box g6 159 (fC u),.box gb 156 [sl A pre.length cap],.own A 159 6 pre.length cap (pre.flatMap fC)],MSub.refl _,?_⟩
  change WR _ _ _ l _ _ _ (.box g6 159 (fC u):: .box gb 156 [sl A pre.length cap]:: .own A 159 6 pre.length cap (pre.flatMap fC)::F')
  repeat' (first|(apply bR;(iterate 3 exact rfl);(repeat first|exact .hd|apply Sel.tl|apply In.tl);(intro w hm;exact hm.cells_own (by (repeat first|exact .hd|apply Sel.tl|apply In.tl)));exact rfl;(simp [Value.oneCell',sl]);omega;(simp only [maxLen];omega);(intro A' cap' hA'))|refine sT ?_|refine sR ?_|refine sM fun _=> ?_|(refine sC ?_ ?_<;>intro hb<;>try omega)|(refine sCR ?_ ?_<;>intro hb<;>try omega)|fail)
  refine yS [.box gb 156 [sl A' (pre.length+1) cap'],.own A' 159 6 (pre.length+1) cap' (pre.flatMap fC++fC u)] ?_ ⟨A',cap',?_⟩
  ·
   change MSub (_::_::F') _
   exact mS
  ·
   rw [Iy,QP]
   rfl
 ·
  rintro D _ ⟨A,cap,rfl⟩
  change bI _ _ _ _ _ (iY D:: .box gb 156 [sl A (eL L).length cap]:: .own A 159 6 (eL L).length cap ((eL L).flatMap fC)::_)
  repeat' (first|refine sT ?_|refine sR ?_|refine sM fun _=> ?_|(refine sC ?_ ?_<;>intro hb<;>try omega)|(refine sCR ?_ ?_<;>intro hb<;>try omega)|fail)
  refine wh .hd ?_
  refine eY (.inl rfl) Tryz.results200 rfl rfl (H' := [.own A 159 6 (eL L).length cap ((eL L).flatMap fC)]) mS ⟨A,cap,rfl,rfl⟩
 ·
  rintro D HU h
  exact h.elim
def rel (u:Us):Bool:=decide (0≤u.node)
end Go.SL
namespace Go.SL
open Go Go.Proofs
attribute [local irreducible] W WL WQ WG WA VOp thn blk bE scp aV aK FnIn
set_option maxRecDepth 10000 in
theorem CF (f:FuncId) [Callable Tryz.prog f] (caps:List Value) (g:Int→Int) (a:ByteArray) (ha:a.size≤1000000) (w:World) (hf: ∀ c w' H,0≤c→c<256→Mem w w' H→ay Tryz.prog f ([.int .u8 c]++caps) w' (.int .u8 (g c))):
  aK Tryz.prog 209 [.string a,.func (.func f) #[] caps.toArray] w fun v H=> ∃ gb cap,v= .slice (some ⟨gb,0,none⟩) a.size cap∧H= [.byt gb 5 a.size cap (((ap a).map g).map (Value.int .u8))]:=by
 refine aq Tryz.func209 rfl Tryz.ntmps209 rfl ?_
 repeat' (first|(apply lH;exact rfl;exact rfl;intro gb cap)|refine sT ?_|refine sM fun _=> ?_|(refine sC ?_ ?_<;>intro hb<;>try omega)|fail)
 refine ia (fun i:Nat=> [(5,.slice (some ⟨gb,0,none⟩) a.size cap),(10,.slice (some ⟨gb,0,none⟩) a.size cap),(11,.int .i64 (a.size:Int)),(12,.int .i64 (i:Int)),(1,.func (.func f) #[] caps.toArray)])
  (fun i=> [.byt gb 5 a.size cap ((((ap a).take i).map g++(ap a).drop i).map (Value.int .u8))]) (fun i=>i≤a.size) (fun i=>a.size - i) 0 (by omega) ?_ ?_ ?_
 ·
  exact sB
 ·
  rw [oC];simp only [Su,Sl,QU,SA];exact mS
 ·
  intro i hi
  have hl:=au a
  by_cases hlt:i<a.size
  ·
   have hil:i<(ap a).length:=by omega
   have hok:=l5 a (ap a)[i] (RQ hil)
   have hget:((((ap a).take i).map g++(ap a).drop i).map (Value.int .u8))[0+i*1]? =some (.int .u8 (ap a)[i]):=by
    rw [RM,show 0+i*1=i by omega,RZ (by simp;omega)]
    simp [SW (Nat.le_of_lt hil),SB]
   repeat' (first|(apply ak;exact rfl;apply aj;exact rfl;exact rfl;exact hlt)|(apply ak;exact rfl;apply jH;exact rfl;exact .hd;exact hget)|(apply bM;exact rfl;exact rfl;infer_instance;exact rfl;(intro w' hm;exact hf _ w' _ hok.1 hok.2 hm))|(apply lI;exact rfl;exact rfl;exact .hd;exact rfl;(simp;omega))|(apply ak;exact rfl;apply eV;exact rfl;exact rfl;(constructor<;>omega))|refine sT ?_|refine sM fun _=> ?_|(refine sC ?_ ?_<;>intro hb<;>try omega)|fail)
   refine ⟨i+1,by omega,by omega,?_,?_⟩
   ·
    exact sB
   ·
    rw [show 0+i*1=i by omega,uG g (Value.int .u8) (ap a) i hil]
    exact mS
  ·
   have e:i=a.size:=by omega
   subst e
   repeat' (first|refine sT ?_|refine sM fun _=> ?_|(refine sC ?_ ?_<;>intro hb<;>try omega)|fail)
   refine cH (.inl rfl) rfl rfl (.refl _) ⟨gb,cap,rfl,?_⟩
   rw [RS (by omega),Ry (by omega),QW]
set_option maxRecDepth 10000 in
theorem H4 (c:Int) (h0:0≤c) (h1:c<256) (ga gb:Nat) (w:World) (ha:Ro w ga 0 [.int .u8 97]) (hb' :Ro w gb 0 [.int .i64 (-32)]):ay Tryz.prog 298 [.int .u8 c,.pointer (some ⟨ga,0,none⟩),.pointer (some ⟨gb,0,none⟩)] w (.int .u8 (upC c)):=by
 refine aq Tryz.func298 rfl Tryz.ntmps298 rfl ?_
 have hwc:IntKind.i64.wrap c=c:=I64.wrap ⟨by omega,by omega⟩
 have h122:IntKind.u8.wrap (97+25)=122:=by decide
 repeat' (first|(apply ak;exact rfl;apply aI (off:=0);exact ha;exact rfl;exact rfl)|(apply ak;exact rfl;apply aI (off:=0);exact hb';exact rfl;exact rfl)|(apply ak;exact rfl;apply dQ;exact rfl;exact rfl;exact h122)|(apply ak (d:=15);exact rfl;apply bW;exact rfl;exact hwc)|(apply ak (d:=17);exact rfl;apply eV;exact rfl;exact rfl;exact ⟨by omega,by omega⟩)|(apply ak (d:=18);exact rfl;apply bW (c:=c - 32);exact rfl;(rw [show c+ -32=c - 32 by omega];exact wrap_u8 (by omega) (by omega)))|refine sT ?_|refine sM fun _=> ?_|(refine sC ?_ ?_<;>intro hb<;>try omega)|fail)
 all_goals ((refine rT1 ?_);unfold upC;first|rw [if_pos (by omega)]|rw [if_neg (by omega)])
def upB (a:ByteArray):ByteArray:=mkB ((ap a).map upC)
theorem qt (a:ByteArray):ap (upB a)=(ap a).map upC:=by
 refine ny ?_
 intro c hc
 obtain ⟨d,hd,rfl⟩:=RD.1 hc
 have:=l5 a d hd
 unfold upC
 split<;>omega
set_option maxRecDepth 10000 in
theorem KG (a:ByteArray) (ha:a.size≤1000000) (w:World):ay Tryz.prog 259 [.string a,.int .u8 97,.int .i64 (-32)] w (.string (upB a)):=by
 refine aq Tryz.func259 rfl Tryz.ntmps259 rfl ?_
 repeat' (first|((with_reducible apply aA (R:=fun v H=> ∃ gb cap,v= .slice (some ⟨gb,0,none⟩) a.size cap∧H= [.byt gb 5 a.size cap (((ap a).map upC).map (Value.int .u8))]));exact rfl;exact rfl;(intro w' hm;exact CF 298 [_,_] upC a ha w' (fun c w2 H2 h0 h1 hm2=>H4 c h0 h1 _ _ w2 ((Ro.of_box hm pK).next hm2) ((Ro.of_box hm pK).next hm2)));(rintro v H' ⟨gb,cap,rfl,rfl⟩))|(apply ak;exact rfl;apply q9;exact rfl;exact .hd;simp [au])|refine sT ?_|refine sM fun _=> ?_|(refine sC ?_ ?_<;>intro hb<;>try omega)|fail)
 (refine rT1 ?_)
 rfl
set_option maxRecDepth 10000 in
theorem qM (a:ByteArray) (ha:a.size≤1000000) (w:World):ay Tryz.prog 218 [.string a] w (.string (upB a)):=by
 refine aq Tryz.func218 rfl Tryz.ntmps218 rfl ?_
 repeat' (first|(apply aa;exact rfl;exact rfl;(intro w hm;exact KG a ha w))|refine sT ?_|refine sM fun _=> ?_|(refine sC ?_ ?_<;>intro hb<;>try omega)|fail)
 (refine rT1 ?_)
 rfl
def kD:List Int→Option (List Int)
 | []=>some []
 |c::r=>if c≠34 then (kD r).map (c:: ·) else match r with
  | []=>none
  |d::r' =>if d=34 then (kD r').map (34:: ·) else none
def fN (l:List Int):List Int × Int:=
 if l.length<2∨l.head? ≠some 34∨l.getLast? ≠some 34∨l.all (fun c=>bA c)=false then ([],4)
 else match kD ((l.drop 1).dropLast) with
  |none=>([],4)
  |some r=>if 256<r.length then ([],5) else (r,0)
theorem mU (a:ByteArray):mV a=(ap a).all fun c=>bA c:=by
 simp only [mV,ap,List.all_map]
 congr 1
 funext c
 simp only [Function.comp,bA]
 rw [RP];simp;omega
theorem KR (a:ByteArray) (c:Int) (h:0<a.size):((ap a).getLast? =some c)↔bat a (a.size - 1)=c:=by
 rw [Uf,au,fW (by omega)]
 simp
theorem Ah {a:ByteArray} {i:Nat} (h0:1≤i) (h:i<a.size - 1):(((ap a).drop 1).dropLast).drop (i - 1)=bat a i::(((ap a).drop 1).dropLast).drop i:=by
 have hl:=au a
 obtain ⟨j,rfl⟩: ∃ j,i=j+1:=⟨i - 1,by omega⟩
 rw [SF]
 have hlen:(((ap a).drop 1).dropLast).length=a.size - 2:=by simp;omega
 have hlt:j<(((ap a).drop 1).dropLast).length:=by omega
 rw [QY hlt]
 congr 1
 have h1:=fW (a:=a) (i:=j+1) (by omega)
 have h2:(((ap a).drop 1).dropLast)[j]? =some (bat a (j+1)):=by
  rw [List.getElem?_dropLast,if_pos (by simp;omega),SB,Tb 1 j,h1]
 rw [QQ hlt] at h2
 exact Option.some.inj h2
theorem rk {c:Int} {r:List Int} (h:c≠34):kD (c::r)=(kD r).map (c:: ·):=by
 rw [kD.eq_def];simp [h]
theorem E7 (a:ByteArray) (ha:a.size≤1000000) (w:World):ay Tryz.prog 262 [.string a] w (.tuple #[.string (mkB (fN (ap a)).1),.int .i64 (fN (ap a)).2]):=by
 refine aq Tryz.func262 rfl Tryz.ntmps262 rfl ?_
 have hl:=au a
 have hp:=qj a ha
 rw [mU] at hp
 have hh:=qx a 34
 have hg:=KR a 34
 by_cases hbad:(ap a).length<2∨(ap a).head? ≠some 34∨(ap a).getLast? ≠some 34∨(ap a).all (fun c=>bA c)=false
 ·
  rw [fN,if_pos hbad]
  repeat' (first|(apply aa;exact rfl;exact rfl;(intro w hm;exact hp w))|refine sT ?_|refine sS ?_|refine sT2 ?_|refine sN ?_|refine sM fun _=> ?_|(refine sC ?_ ?_<;>intro hb<;>try omega)|fail)
  iterate 4 (focus ((refine rT2 ?_);rfl))
  exfalso
  rename_i h1 h2 h3
  rcases hbad with h|h|h|h
  ·
   omega
  ·
   exact h (hh.2 ⟨by omega,Decidable.not_not.1 h2⟩)
  ·
   exact h ((hg (by omega)).2 (Decidable.not_not.1 h3))
  ·
   rw [hb] at h;cases h
 ·
  have hun:fN (ap a)=match kD (((ap a).drop 1).dropLast) with
    |none=>([],4)
    |some r=>if 256<r.length then ([],5) else (r,0):=by rw [fN,if_neg hbad]
  rw [hun]
  simp only [not_or,Decidable.not_not,Bool.not_eq_false] at hbad
  obtain ⟨b1,b2,b3,b4⟩:=hbad
  have b5:=(hh.1 b2).2
  have b6:=(hg (by omega)).1 b3
  rw [b4] at hp
  have hn:(a.size:Int) - 1=((a.size - 1:Nat):Int):=by omega
  generalize hB:((ap a).drop 1).dropLast=B
  have hBl:B.length=a.size - 2:=by rw [← hB];simp;omega
  repeat' (first|(apply aa;exact rfl;exact rfl;(intro w hm;exact hp w))|refine sT ?_|refine sS ?_|refine sT2 ?_|refine sN ?_|refine sM fun _=> ?_|(refine sC ?_ ?_<;>intro hb<;>try omega)|fail)
  all_goals try (exfalso;omega)
  refine aH 5 1 ?_
  refine ax [0,4] rfl (fun x:Nat × List Int × Option Nat × Nat=> [(5,sl x.2.2.1 x.2.1.length x.2.2.2),(6,.int .i64 (x.1:Int))]) (fun x=> [.own x.2.2.1 5 1 x.2.1.length x.2.2.2 (x.2.1.map (Value.int .u8))]) (fun x=>1≤x.1∧x.1≤a.size - 1∧x.2.1.length≤x.1∧kD B=(kD (B.drop (x.1 - 1))).map (x.2.1++ ·)) (fun x=>a.size - x.1) (1,[],none,0) ⟨by omega,by omega,by simp,by simp⟩ sB mS ?_
  rintro ⟨i,out,A,cap⟩ ⟨i1,i2,i3,i4⟩
  dsimp only at i1 i2 i3 i4 ⊢
  by_cases hend:i=a.size - 1
  ·
   have hBd:B.drop (i - 1)= []:=Ry (by omega)
   rw [hBd] at i4
   simp only [kD,Se,QW] at i4
   rw [i4]
   dsimp only
   by_cases hlen:256<out.length
   ·
    rw [if_pos hlen]
    repeat' (first|refine sT ?_|refine sS ?_|refine sT2 ?_|refine sN ?_|refine sM fun _=> ?_|(refine sC ?_ ?_<;>intro hb<;>try omega)|fail)
    all_goals first|(exfalso;omega)|((refine rT2 ?_);rfl)
   ·
    rw [if_neg hlen]
    repeat' (first|(apply ak;exact rfl;apply Dj;exact rfl;exact pK;exact rfl)|refine sT ?_|refine sS ?_|refine sT2 ?_|refine sN ?_|refine sM fun _=> ?_|(refine sC ?_ ?_<;>intro hb<;>try omega)|fail)
    all_goals first|(exfalso;omega)|((refine rT2 ?_);rfl)
  ·
   have hdr:=Ah (a:=a) i1 (by omega)
   rw [hB] at hdr
   rw [hdr] at i4
   by_cases hq:bat a i=34
   ·
    rw [hq] at i4
    by_cases h1:i+1=a.size - 1
    ·
     have hBd:B.drop i= []:=Ry (by omega)
     rw [hBd] at i4
     simp only [kD,ne_eq,not_true_eq_false,if_false,Ul] at i4
     rw [i4]
     repeat' (first|refine sT ?_|refine sS ?_|refine sT2 ?_|refine sN ?_|refine sM fun _=> ?_|(refine sC ?_ ?_<;>intro hb<;>try omega)|fail)
     all_goals first|(exfalso;omega)|((refine rT2 ?_);rfl)
    ·
     have hdr2:=Ah (a:=a) (i:=i+1) (by omega) (by omega)
     rw [hB,SF] at hdr2
     rw [hdr2] at i4
     by_cases h2:bat a (i+1)=34
     ·
      simp only [kD,ne_eq,not_true_eq_false,if_false,h2,if_true,TR] at i4
      repeat' (first|(apply aQ;(iterate 3 exact rfl);exact pK;exact pK;exact rfl;(simp [Value.oneCell']);omega;(simp only [maxLen];omega);intro g8 c8)|(apply ak (d:=63);exact rfl;apply dE (b:=2);exact rfl;exact rfl;(simp only [maxLen];omega))|refine sT ?_|refine sS ?_|refine sT2 ?_|refine sN ?_|refine sM fun _=> ?_|(refine sC ?_ ?_<;>intro hb<;>try omega)|fail)
      all_goals try (exfalso;omega)
      refine ⟨(i+2,out++ [34],some g8,c8),⟨by dsimp only;omega,by dsimp only;omega,by simp;omega,?_⟩,(by dsimp only;omega),?_,sB,?_⟩
      ·
       dsimp only
       rw [i4,show i+2 - 1=i+1 by omega]
       congr 1
       funext l
       simp
      ·
       simp only [QP,QS]
       exact sB
      ·
       simp only [QP,QS,RX,Rz,Sl]
       exact mS
     ·
      simp only [kD,ne_eq,not_true_eq_false,if_false,h2,Ul] at i4
      rw [i4]
      repeat' (first|refine sT ?_|refine sS ?_|refine sT2 ?_|refine sN ?_|refine sM fun _=> ?_|(refine sC ?_ ?_<;>intro hb<;>try omega)|fail)
      all_goals first|(exfalso;omega)|((refine rT2 ?_);rfl)
   ·
    rw [rk hq,TR] at i4
    repeat' (first|(apply aQ;(iterate 3 exact rfl);exact pK;exact pK;exact rfl;(simp [Value.oneCell']);omega;(simp only [maxLen];omega);intro g8 c8)|refine sT ?_|refine sS ?_|refine sT2 ?_|refine sN ?_|refine sM fun _=> ?_|(refine sC ?_ ?_<;>intro hb<;>try omega)|fail)
    all_goals try (exfalso;omega)
    refine ⟨(i+1,out++ [bat a i],some g8,c8),⟨by dsimp only;omega,by dsimp only;omega,by simp;omega,?_⟩,(by dsimp only;omega),?_,sB,?_⟩
    ·
     dsimp only
     rw [i4,show i+1 - 1=i by omega]
     congr 1
     funext l
     simp
    ·
     simp only [QP,QS]
     exact sB
    ·
     simp only [QP,QS,RX,Rz,Sl]
     exact mS
def cD:List ByteArray:= [⟨#[]⟩,⟨#[35,68,73,86,47,48,33]⟩,⟨#[35,86,65,76,85,69,33]⟩,⟨#[35,78,85,77,33]⟩,⟨#[35,78,47,65]⟩,⟨#[35,82,69,70,33]⟩,⟨#[35,67,89,67,76,69,33]⟩,⟨#[35,68,69,78,73,69,68]⟩]
def Words (w:World):Prop:=Ro w 0 0 (cD.map Value.string)
theorem Words.next {w0 w:World} {H:List Blk} (h:Words w0) (hm:Mem w0 w H):Words w:=Ro.next h hm
def fR (c:Int):Vl:=⟨4,if c<1∨7<c then 2 else c,av⟩
def vE (n:Int):Vl:=if n= -9223372036854775808 then fR 3 else ⟨1,n,av⟩
def lL (b:Bool):Vl:=⟨2,if b then 1 else 0,av⟩
def mH:ByteArray:=⟨#[84,82,85,69]⟩
def kL:ByteArray:=⟨#[70,65,76,83,69]⟩
def zf (a:ByteArray):Vl:=if upB a=mH then lL true else if upB a=kL then lL false else fR 2
theorem mh (c:Int) (w:World):ay Tryz.prog 170 [.int .i64 c] w (.agg (dA (fR c)).toArray):=by
 refine aq Tryz.func170 rfl Tryz.ntmps170 rfl ?_
 repeat' (first|refine sT ?_|refine sM fun _=> ?_|(refine sC ?_ ?_<;>intro hb<;>try omega)|exact cT|fail)
 all_goals ((refine eRC ?_);simp only [fR];(first|rw [if_pos (by omega)]|rw [if_neg (by omega)]);rfl)
theorem Oe (n:Int) (w:World):ay Tryz.prog 173 [.int .i64 n] w (.agg (dA (vE n)).toArray):=by
 refine aq Tryz.func173 rfl Tryz.ntmps173 rfl ?_
 repeat' (first|(apply aa;exact rfl;exact rfl;(intro w hm;exact mh 3 w))|refine sT ?_|refine sM fun _=> ?_|(refine sC ?_ ?_<;>intro hb<;>try omega)|exact cT|fail)
 all_goals ((refine eRC ?_);simp_all [vE,dA,fR,av])
theorem L6 (b:Bool) (w:World):ay Tryz.prog 258 [.bool b] w (.agg (dA (lL b)).toArray):=by
 refine aq Tryz.func258 rfl Tryz.ntmps258 rfl ?_
 repeat' (first|refine sT ?_|refine sM fun _=> ?_|(refine sC ?_ ?_<;>intro hb<;>try omega)|exact cT|fail)
 all_goals ((refine eRC ?_);simp_all [lL,dA,av])
theorem KE (v:Vl) (ha:v.text.size≤1000000) (w:World):ay Tryz.prog 217 [.agg (dA v).toArray] w (.agg (dA (zf v.text)).toArray):=by
 refine aq Tryz.func217 rfl Tryz.ntmps217 rfl ?_
 repeat' (first|(apply aa;exact rfl;exact rfl;(intro w hm;exact qM v.text ha w))|(apply aa;exact rfl;exact rfl;(intro w hm;exact L6 _ w))|(apply aa;exact rfl;exact rfl;(intro w hm;exact mh 2 w))|refine sT ?_|refine sM fun _=> ?_|(refine sC ?_ ?_<;>intro hb<;>try omega)|exact cT|fail)
 all_goals ((refine eRC ?_);simp_all [zf,mH,kL];rfl)
theorem N0 (c:Int) (h1:1≤c) (h2:c≤5) (w:World) (hw:Words w):ay Tryz.prog 269 [.agg (dA ⟨4,c,av⟩).toArray] w (.string (cD.getD c.toNat av)):=by
 refine aq Tryz.func269 rfl Tryz.ntmps269 rfl ?_
 have he:eqV ⟨4,c,av⟩ (fR 7)=false:=by simp [eqV,fR];omega
 have hv:o8 ⟨4,c,av⟩=0:=by
  have h6:decide (c≤6)=true:=decide_eq_true (by omega)
  simp [o8,uq,h1,h6]
 have hc:=Dg ⟨4,c,av⟩
 rw [hv] at hc
 obtain ⟨k,rfl⟩: ∃ k:Nat,c=(k:Int):=⟨c.toNat,by omega⟩
 have hcell:(cD.map Value.string)[k*1]? =some (.string (cD.getD k av)):=by
  rcases (by omega:k=1∨k=2∨k=3∨k=4∨k=5) with rfl|rfl|rfl|rfl|rfl<;>rfl
 repeat' (first|(apply dO;exact rfl;exact rfl;(intro w hm;exact mh 7 w))|(apply dO;exact rfl;exact rfl;(intro w hm;exact hc w))|(apply aS;exact rfl;exact he ▸ Dp (b:=fR 7) rfl rfl)|(apply ak;exact rfl;apply uA (j:=k);exact rfl;exact rfl;omega)|(apply ak;exact rfl;apply aI (o:=0);exact hw;exact rfl;exact hcell)|refine sT ?_|refine sQ ?_|refine sD ?_|refine sM fun _=> ?_|(refine sC ?_ ?_<;>intro hb<;>try omega)|(refine sCQ ?_ ?_<;>intro hb<;>try omega)|exact cT|fail)
 (refine rT1 ?_)
 rfl
instance:KLaw Tryz.prog 5 (fun z:Int=>Value.int .u8 z):=KW
theorem yF {P:Program} {n:Fr} {w0:World} {Q:bU} {s:az} {H:List Blk} {rest:List Oper} {ty:TypeId} {p:String} {af:Array Edge} {κ:Type} [DecidableEq κ] {enc:κ→Value} {t K E g clock:Nat} {m x kx:Operand} {k:κ} {v:Value} {es:List (κ × Value × Nat)} {es' :List (κ × Value × Nat)} {c' :Nat} {R:List Blk} {ops:Array Oper} [ht:Und P t (.map K E)] [hk:KLaw P K enc] (hm:ev s m=some (.map (some g))) (hkx:ev s kx=some (enc k)) (hx:ev s x=some v) (hsel:Sel (.obj g (fg enc es clock)) H R)
  (he:nu k v clock es=(es',c')) (h:WL P n w0 ops rest Q s (.obj g (fg enc es' c')::R)):WL P n w0 ops (⟨none,.insert t m kx x,ty,p,af,none⟩::rest) Q s H:=by
 refine GG hm hkx hx hsel ?_
 rw [he];exact h
theorem KU {κ:Type} [DecidableEq κ] {k:κ} {v:Value} {clock:Nat} {es:List (κ × Value × Nat)} (h:cy k es 0=none):nu k v clock es=(es++ [(k,v,clock)],clock+1):=by
 simp [nu,h]
def Gu (v:Vl):List (Int × Value × Nat):=
 [(0,.func (.func 215) #[.agg (dA v).toArray] #[],0),(1,.func (.func 215) #[.agg (dA v).toArray] #[],1),(2,.func (.func 216) #[.agg (dA v).toArray] #[],2),(3,.func (.func 217) #[.agg (dA v).toArray] #[],3),(4,.func (.func 216) #[.agg (dA v).toArray] #[],4)]
theorem DC (v:Vl) (w:World):aK Tryz.prog 214 [.agg (dA v).toArray] w fun u H=> ∃ g,u= .map (some g)∧H= [.obj g (fg (fun z:Int=>Value.int .u8 z) (Gu v) 5)]:=by
 refine aq Tryz.func214 rfl Tryz.ntmps214 rfl ?_
 repeat' (first|(apply o5 (enc:=fun z:Int=>Value.int .u8 z);exact rfl;intro g)|(apply ak;exact rfl;apply lK;exact rfl)|(apply yF (enc:=fun z:Int=>Value.int .u8 z);(iterate 3 exact rfl);exact pK;exact KU rfl)|refine sT ?_|refine sM fun _=> ?_|(refine sC ?_ ?_<;>intro hb<;>try omega)|exact cT|fail)
 exact cH (H' := [.obj g (fg (fun z:Int=>Value.int .u8 z) (Gu v) 5)]) (.inl rfl) rfl rfl (.pick .hd (.nil _)) ⟨g,rfl,rfl⟩
def iI (v:Vl):Vl:=if o8 v=0 then zf v.text else fR 2
set_option maxHeartbeats 1000000 in
theorem CB (v:Vl) (hk:v.kind=3) (ha:v.text.size≤1000000) (w:World):ay Tryz.prog 213 [.agg (dA v).toArray,.func (.func 214) #[] #[]] w (.agg (dA (iI v)).toArray):=by
 refine aq Tryz.func213 rfl Tryz.ntmps213 rfl ?_
 obtain ⟨k,num,text⟩:=v
 dsimp only at hk ha
 subst hk
 have hv:=Dg ⟨3,num,text⟩
 have hn:=KE ⟨3,num,text⟩ ha
 repeat' (first|refine sT ?_|refine sM fun _=> ?_|(refine sC ?_ ?_<;>intro hb<;>try omega)|exact cT|fail)
 rename_i g2 g4
 refine qY (id:=1) (ι:=Unit) (fun _=> [(5,.func (.func 217) #[.agg (dA ⟨3,num,text⟩).toArray] #[]),(6,.bool true),(2,.pointer (some ⟨g2,0,none⟩)),(4,.pointer (some ⟨g4,0,none⟩))]) (fun _=> [.box g2 127 (dA ⟨3,num,text⟩),.box g4 127 (dA bD)]) (fun _=>True) ?_ ?_
 ·
  refine jl 11 rfl (by kernel_rfl) ?_
  ((with_reducible apply aR (i:=0));exact rfl;exact rfl;decide+kernel;decide+kernel;decide+kernel;exact nP;(intro _ _;exact vP))
  ((with_reducible apply aR (i:=3));exact rfl;exact rfl;decide+kernel;decide+kernel;decide+kernel;exact nP;(intro _ _;exact vP))
  repeat' (first|(apply cQ (i:=1) (j:=4);exact rfl;exact rfl;decide+kernel)|(apply cQ (i:=2) (j:=4);exact rfl;exact rfl;decide+kernel)|(apply aG (i:=1);exact rfl;decide+kernel)|(apply aG (i:=2);exact rfl;decide+kernel)|(apply aG (i:=4);exact rfl;decide+kernel)|(apply aG (i:=5);exact rfl;decide+kernel)|(apply aR (i:=6);exact rfl;exact rfl;decide+kernel;decide+kernel;decide+kernel;exact nP;(intro _ _;exact vP))|(apply aR (i:=7);exact rfl;exact rfl;decide+kernel;decide+kernel;decide+kernel;exact nP;(intro _ _;exact vP))|(apply aR (i:=8);exact rfl;exact rfl;decide+kernel;decide+kernel;decide+kernel;exact nP;(intro _ _;exact vP))|(apply aR (i:=9);exact rfl;exact rfl;decide+kernel;decide+kernel;decide+kernel;exact nP;(intro _ _;exact vP))|(apply aR (i:=10);exact rfl;exact rfl;decide+kernel;decide+kernel;decide+kernel;exact nP;(intro _ _;exact vP))|(apply jk;decide+kernel)|(apply kQ;exact rfl;exact rfl;infer_instance;exact rfl;exact FnIn.of_at (fun w' _=>DC ⟨3,num,text⟩ w');(rintro _ _ ⟨H1,⟨g5,rfl,rfl⟩,rfl⟩))|(apply ak;exact rfl;apply Dm (enc:=fun z:Int=>Value.int .u8 z);exact rfl;exact rfl;exact pK;exact rfl)|refine sT ?_|refine sM fun _=> ?_|(refine sC ?_ ?_<;>intro hb<;>try omega)|exact cT|fail)
  all_goals ((apply cC;rotate_left 1;exact sB;exact mS);trivial)
 ·
  rintro _ -
  simp only [iI]
  generalize o8 ⟨3,num,text⟩=e at hv
  repeat' (first|(apply aa;exact rfl;exact rfl;(intro w hm;exact hv w))|(apply aa;exact rfl;exact rfl;(intro w hm;exact mh 2 w))|(apply qW;exact rfl;exact rfl;infer_instance;exact rfl;(intro w' _;exact hn w'))|refine sT ?_|refine sM fun _=> ?_|(refine sC ?_ ?_<;>intro hb<;>try omega)|exact cT|fail)
  all_goals
   (refine eRC ?_)
   simp_all
   rfl
theorem I8 (v:Vl) (hk:v.kind=3) (ha:v.text.size≤1000000) (w:World):ay Tryz.prog 167 [.agg (dA v).toArray] w (.agg (dA (iI v)).toArray):=by
 refine aq Tryz.func167 rfl Tryz.ntmps167 rfl ?_
 repeat' (first|(apply aa;exact rfl;exact rfl;(intro w hm;exact CB v hk ha w))|refine sT ?_|refine sM fun _=> ?_|(refine sC ?_ ?_<;>intro hb<;>try omega)|exact cT|fail)
 (refine eRC ?_)
 rfl
def iZ (u:ByteArray):List ByteArray→Int→Int × Int
 | [],_=>(0,4)
 |x::r,i=>if x=u then (i,0) else iZ u r (i+1)
def gW (a:ByteArray):Int × Int:=iZ (upB a) (cD.drop 1) 1
theorem C8 {i:Nat} (h:i<8):(cD.map Value.string)[i]? =some (.string (cD.getD i av)):=by
 rcases (by omega:i=0∨i=1∨i=2∨i=3∨i=4∨i=5∨i=6∨i=7) with rfl|rfl|rfl|rfl|rfl|rfl|rfl|rfl<;>rfl
theorem rY {i:Nat} (h:i<8):cD.drop i=cD.getD i av::cD.drop (i+1):=by
 rcases (by omega:i=0∨i=1∨i=2∨i=3∨i=4∨i=5∨i=6∨i=7) with rfl|rfl|rfl|rfl|rfl|rfl|rfl|rfl<;>rfl
theorem Og (a:ByteArray) (ha:a.size≤1000000) (w:World) (hw:Words w):ay Tryz.prog 169 [.string a] w (.tuple #[.int .i64 (gW a).1,.int .i64 (gW a).2]):=by
 refine aq Tryz.func169 rfl Tryz.ntmps169 rfl ?_
 have hload:(((cD.map Value.string).drop 0).take 8)=cD.map Value.string:=rfl
 have hU:=qM a ha
 generalize hu:upB a=u at hU
 repeat' (first|(apply aa;exact rfl;exact rfl;(intro w hm;exact hU w))|(apply ak;exact rfl;apply eR (o:=0) (off:=0);exact hw;exact rfl;exact hload;exact rfl)|refine sT ?_|refine sT2 ?_|refine sM fun _=> ?_|(refine sC ?_ ?_<;>intro hb<;>try omega)|exact cT|fail)
 refine ax [0,8] rfl (fun i:Nat=> [(9,.int .i64 (i:Int))]) (fun _=> []) (fun i=>i≤8∧gW a=iZ u (cD.drop (max i 1)) (max i 1:Nat)) (fun i=>8 - i) 0 ⟨by omega,by rw [gW,hu];rfl⟩ sB mS ?_
 rintro i ⟨hi,hr⟩
 by_cases hlt:i<8
 ·
  have hx:=C8 hlt
  have hd:=rY hlt
  generalize cD.getD i av=x at hx hd
  repeat' (first|(apply ak;exact rfl;apply mF;exact rfl;exact rfl;exact hlt;exact hx)|refine sT ?_|refine sT2 ?_|refine sN ?_|refine sM fun _=> ?_|(refine sC ?_ ?_<;>intro hb<;>try omega)|exact cT|fail)
  ·
   rename_i h0
   rw [show max i 1=i by omega,hd,iZ,if_pos hb] at hr
   rw [hr]
   (refine rT2 ?_)
   rfl
  ·
   rename_i h0
   rw [show max i 1=i by omega,hd,iZ,if_neg hb] at hr
   refine ⟨i+1,?_,(by first|omega|(dsimp only;omega)),sB,sB,mS⟩
   refine ⟨hlt,?_⟩
   rw [hr,show max (i+1) 1=i+1 by omega]
   rfl
  ·
   have h0:i=0:=by omega
   subst h0
   refine ⟨0+1,?_,(by first|omega|(dsimp only;omega)),sB,sB,mS⟩
   exact ⟨by omega,hr⟩
 ·
  have e:i=8:=by omega
  subst e
  rw [hr]
  repeat' (first|refine sT ?_|refine sT2 ?_|refine sM fun _=> ?_|(refine sC ?_ ?_<;>intro hb<;>try omega)|exact cT|fail)
  all_goals first|(exfalso;omega)|((refine rT2 ?_);rfl)
end Go.SL
namespace Go.SL
open Go Go.Proofs Go.Proofs.YtoanpdoacdpgeaaGreatDoor Go.ChangeShapes Go.WideShapes Go.ChangeAt Go.RowKit Go.Deep
def qV:List (List UInt8):= [[],[35,68,73,86,47,48,33],[35,86,65,76,85,69,33],[35,78,85,77,33],[35,78,47,65],[35,82,69,70,33],[35,67,89,67,76,69,33],[35,68,69,78,73,69,68]]
def vL:List (String × DataW Unit):= [("louvre/val.words",Rows.laid_louvre_val_words)]
theorem zP:(Rows.laid_louvre_val_words:DataW Unit)= .agg (qV.map fun l=> .lit (.string l)):=rfl
theorem Jo:cD=qV.map fun l=>⟨l.toArray⟩:=rfl
set_option maxRecDepth 100000 in
theorem wI {W:World} (h:laidMetH Tryz.prog vL W):Words W:=by
 rw [MakeChecks.laidMetH_plain _ _ _ (by kernel_rfl)] at h
 obtain ⟨ps,⟨g,t,cs,fuel,p,q,hg,ht,hv,hd,_,_⟩,_⟩:=h
 obtain rfl:=Option.some.inj ((show Tryz.prog.globalNamed "louvre/val.words" =some 0 by kernel_rfl).symm.trans hg)
 obtain rfl:=Option.some.inj ((show (Tryz.prog.globals[0]?).map (·.type)=some 266 by kernel_rfl).symm.trans ht)
 rw [zP] at hd
 obtain ⟨xs,m,_,ex,_,hl,hel⟩:=DataW.trod_array Tryz.underlying266 hd
 have cS:Tryz.prog.cellsOf 9=1:=by kernel_rfl
 have hcell: ∀ (j:Nat) (v:Value),(cD.map Value.string)[j]? =some v→W.cell? ⟨0,0+j,none⟩=some v:=by
  intro j v hjv
  have hj:j<8:=by
   have:=(Rn.1 hjv).1
   simpa [cD] using this
  have hE:=hel j hj
  rw [cS,SZ,QQ (by omega)] at hE
  obtain ⟨s,e1,e2,_⟩:=DataW.trod_string Tryz.underlying9 hE
  have e3:(xs.map (·.1))=qV.map fun l=> .lit (.string l):=(DataW.agg.inj (Prod.mk.inj ex).1).symm
  have hwl:qV.length=8:=rfl
  have e4:(xs.map (·.1))[j]? =(qV.map fun l=>(DataW.lit (.string l):DataW Unit))[j]? :=by rw [e3]
  obtain ⟨u,hu⟩: ∃ u,qV[j]? =some u:=⟨_,QQ (by rw [hwl];exact hj)⟩
  rw [RM,RM,QQ (by omega:j<xs.length),hu,e2] at e4
  simp only [Se,Option.some.injEq,DataW.lit.injEq,Lit.string.injEq] at e4
  have hs:s=⟨u.toArray⟩:=by
   obtain ⟨d⟩:=s
   subst e4
   rfl
  have hvv:v= .string s:=by
   rw [Jo,Tq,RM,hu] at hjv
   simp only [Se,Option.some.injEq,Function.comp] at hjv
   rw [← hjv,hs]
  rw [hvv,RB,World.var?_cell hg hv j]
  have:cs.toList[j]? =some (.string s):=by
   have h0:((cs.toList.drop j).take 1)[0]? =some (.string s):=by rw [e1];rfl
   simpa using h0
  simpa using this
 refine ⟨?_,hcell⟩
 have h5:=hcell 0 _ rfl
 simp only [World.cell?] at h5
 split at h5
 ·
  rename_i h6
  exact (RI.1 h6).1
 ·
  cases h5
end Go.SL
