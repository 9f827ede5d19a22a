/-
  Lemmas and walks, put together: W37 W16 W5 W6 W7 W8 W34 W29.
-/
import Derived.Test.YtpoafcnhplbkmaaGreatDoorKs08
set_option linter.unusedSimpArgs false
set_option linter.unusedVariables false
set_option maxRecDepth 20000
set_option maxHeartbeats 16000000
namespace Go.SL
open Go Go.Proofs
attribute [local irreducible] W WL WQ WG WA WX VOp thn blk bH aV FnAt FnIn Mw
theorem Fm (a b:Rct) (w:World):aC Tryz.prog 159 [.agg (jp a).toArray,.agg (jp b).toArray] w (.tuple #[.agg (jp (y4 a b).1).toArray,.bool (y4 a b).2]):=by
 refine ay Tryz.func159 rfl Tryz.ntmps159 rfl ?_;have h1:=fun w=>m9 a w;have h2:=fun w=>m9 b w;have h3:=fun w=>m9 (qW a b) w;unfold y4;have hall: [a,b,qW a b].all dL=(dL a && (dL b && dL (qW a b))):=by simp
 rw [hall];unfold pI at h1 h2 h3;generalize dL a=q1 at*;generalize dL b=q2 at*;generalize dL (qW a b)=q3 at*;cases q1<;>cases q2<;>cases q3
 all_goals
  dsimp only [cond_true,cond_false] at h1 h2 h3;repeat' (first|(apply aa;exact rfl;exact rfl;(intro w hm;exact h1 w))|(apply aa;exact rfl;exact rfl;(intro w hm;exact h2 w))|(apply aa;exact rfl;exact rfl;(intro w hm;exact h3 w))|refine sT ?_|refine sM fun _=>?_|(refine sC ?_ ?_<;>intro hb<;>try omega)|fail)
  refine G9 (.inl rfl) Tryz.results159 rfl pK rfl rfl (MSub.nil _) ?_
  rfl
end Go.SL
namespace Go.SL
open Go Go.Proofs
attribute [local irreducible] W WL WQ WG WA VOp thn blk aV FnAt FnIn
theorem EE {v:Vl} (h:pX v=0) (hk:v.kind=4):1≤v.num∧v.num≤6:=by
 simp only [pX,vp,hk] at h;cases h1:(decide (v.text=ax) && decide (1≤v.num) && decide (v.num≤6))
 ·simp [h1] at h
 ·simp only [RB,decide_eq_true_eq] at h1;exact ⟨h1.1.2,h1.2⟩
set_option maxRecDepth 10000 in
theorem GA (v:Vl) (hn: -9223372036854775808≤v.num) (w:World):aC Tryz.prog 319 [.agg (d9 v).toArray] w (.bool (Hn v)):=by
 refine ay Tryz.func319 rfl Tryz.ntmps319 rfl ?_;have hE:=EE (v:=v);repeat' (first|(apply aa;exact rfl;exact rfl;(intro w hm;exact yR v hn w))|refine sT ?_|refine sM fun _=>?_|(refine sC ?_ ?_<;>intro hb<;>try omega)|fail)
 all_goals ((refine rT1 ?_);unfold Hn;(try have hE' :=hE (by assumption) (by assumption));(repeat' split)<;>simp_all<;>first|omega|(by_cases h6:v.num=6<;>simp [h6]<;>omega))
theorem LW (a b:Nd):eqN a b=eqN b a:=by
 rw [AW,AW];by_cases h:a=b
 ·subst h;rfl
 ·rw [decide_eq_false h,decide_eq_false fun e=>h e.symm]
theorem js {w0:World} {s:az} {H:List Blk} {ty t' :TypeId} {x y:Operand} {a b:Nd} (hx:ev s x=some (.agg (bf b).toArray)) (hy:ev s y=some (.agg (bf a).toArray)):VOp Tryz.prog w0 s H (.binOp .eql 123 x y t') ty (.bool (eqN a b)):=by
 rw [LW];exact O6 hx hy
def eR (n:Nd):Bool:=fj n && eqN n (du n)
theorem j6 (n:Nd) (hn: -9223372036854775808≤n.v.num) (w:World):aC Tryz.prog 306 [.agg (bf n).toArray] w (.bool (eR n)):=by
 refine ay Tryz.func306 rfl Tryz.ntmps306 rfl ?_;repeat' (first|(apply aa;exact rfl;exact rfl;(intro w hm;exact GA n.v hn w))|(apply cM;exact rfl;exact rfl;(intro w hm;exact m9 n.rect w))|(apply cM;exact rfl;exact rfl;(intro w hm;exact Po n.rect w))|(apply qC (T:=123) (fun D=> [.int .u8 n.kind,.int .u8 0,.int .i64 0,.string ax,.int .i64 0,.int .i64 0,.int .i64 0,.int .i64 0,.int .i64 0,.int .u8 (bif D 5 then n.fn else 0),.int .i64 (bif D 7 then n.n else 0)]) (xs' := [.int .u8 n.kind,.int .u8 0,.int .i64 0,.string ax,.int .i64 0,.int .i64 0,.int .i64 0,.int .i64 0,.int .i64 0,.int .u8 n.fn,.int .i64 n.n]);decide+kernel;decide+kernel;(first|exact .hd|exact .tl .hd);exact rfl;(intro D hD;simp only [hD 5 (by decide),hD 7 (by decide),cond_true]))|(apply ai;exact rfl;(first|(apply js (b:=⟨n.kind,n.v,aS,0,0,0⟩);exact rfl;exact rfl)|(apply js (b:=⟨n.kind,bK,n.rect,0,0,0⟩);exact rfl;exact rfl)|(apply js (b:=⟨n.kind,bK,aS,0,0,0⟩);exact rfl;exact rfl)|(apply js (b:=⟨n.kind,bK,aS,n.op,0,0⟩);exact rfl;exact rfl)|(apply js (b:=⟨n.kind,bK,aS,0,n.fn,n.n⟩);exact rfl;exact rfl)))|(apply aZ;exact rfl;(first|(apply js (b:=⟨n.kind,n.v,aS,0,0,0⟩);exact rfl;exact rfl)|(apply js (b:=⟨n.kind,bK,n.rect,0,0,0⟩);exact rfl;exact rfl)|(apply js (b:=⟨n.kind,bK,aS,0,0,0⟩);exact rfl;exact rfl)|(apply js (b:=⟨n.kind,bK,aS,n.op,0,0⟩);exact rfl;exact rfl)|(apply js (b:=⟨n.kind,bK,aS,0,n.fn,n.n⟩);exact rfl;exact rfl)))|refine sT ?_|refine sQ ?_|refine sD ?_|refine sG ?_|refine sM fun _=>?_|(refine sC ?_ ?_<;>intro hb<;>try omega)|(refine sCQ ?_ ?_<;>intro hb<;>try omega)|fail)
 all_goals ((refine rT1 ?_);((try simp only [← Int.not_lt] at*);simp_all [eR,fj,du,K7, -Int.not_lt, -Int.not_le,← Int.not_lt]))
def Gx (N:Nat) (w0:World) (f:FuncId) (caps:List Value) (Inv:List mK→List Blk→Prop):Prop:=
 ∀ (vs:List mK) (kids:List Nat) (d:Nat) (A:Option Nat) (cap:Nat) (H F:List Blk),Inv vs H→kids.length≤1000→vs.length<N→(∀ k∈kids,k<vs.length)→
  FnIn Tryz.prog f ([.int .i64 (vs.length:Int),sl A kids.length cap,.int .i64 (d:Int)]++caps) w0 (.own A 3 1 kids.length cap (kids.map fun (k:Nat)=> .int .i64 (k:Int))::(H++F))
   fun _ H' => ∃ H1,Inv (vs++ [(kids,d)]) H1∧MSub (H1++F) H'
theorem sL {n:Nd} (h:bB n=0):0≤below n∧below n≤16:=by
 unfold bB at h;split at h
 ·cases h
 ·rename_i hk;split at h
  ·rename_i h7;unfold below;split
   ·omega
   ·split
    ·omega
    ·omega
  ·rename_i h7;have h7' :n.kind=7:=by omega
   have hb:below n=n.n:=by simp [below,h7']
   have hk1:fj n=true:=by
    cases hh:fj n
    ·exact absurd (Or.inl hh) hk
    ·rfl
   simp [fj,h7'] at hk1;split at h
   ·rename_i ha;omega
   ·split at h
    ·omega
    ·rename_i hc;have hm:(fa n.fn).2.1≤16:=by
      unfold fa;(repeat' split)<;>simp
     omega
theorem jZ (st:List Pt) (k:Nat) (h:k≤st.length):(bn st k).length=k:=by simp [bn];omega
theorem jd {st:List Pt} {k:Nat} {p:Pt} (h:p∈bn st k):p∈st:=TC h
theorem Im {w0 w:World} {H:List Blk} {A:Option Nat} {st:List Pt} {cap k:Nat} (hm:Mem w0 w H) (hi:In (.own A 320 3 st.length cap (st.flatMap sU)) H) (h:k≤st.length):
 Reads w (.slice (if cap=st.length - k then A.map fun g=>⟨g,0,none⟩ else (A.map fun g=>(⟨g,0,none⟩:Addr)).map (·.add ((st.length - k)*3))) (st.length - (st.length - k)) (cap - (st.length - k))) (bn st k).length ((bn st k).flatMap sU):=by
 have h1:=(Reads.of_own hm hi).cut (lo:=st.length - k) (hi:=st.length) (sz:=3) (by omega) (Rg _);have e1:st.length - (st.length - k)=(bn st k).length:=by rw [jZ st k h];omega
 rw [sF oM,e1] at h1;have e2:((st.drop (st.length - k)).flatMap sU).take ((bn st k).length*3)=(bn st k).flatMap sU:=by
  rw [Sf (by rw [bR oM];exact Rg _)];rfl
 rw [e2] at h1;rw [e1];exact h1
theorem rA (top:List Pt) (j:Nat) (h:j<top.length):cg (top.take (j+1))=max (cg (top.take j)) (top[j].depth+1):=by
 unfold cg;rw [Ra h,UQ]
 rfl
theorem lV (top:List Pt) (h: ∀ p∈top,p.depth≤32):cg top≤33:=by
 have: ∀ (l:List Pt) (d:Nat),d≤33→(∀ p∈l,p.depth≤32)→l.foldl (fun d p=>max d (p.depth+1)) d≤33:=by
  intro l
  induction l with
  |nil=>intro d hd _;simpa using hd
  |cons p r ih=>
   intro d hd hp;have:=hp p QY;exact ih _ (by show max d (p.depth+1)≤33;omega) fun q hq=>hp q (Rh _ hq)
 exact this top 1 (by omega) h
structure WalkSt (L:List Nd) (Inv:List mK→List Blk→Prop) (i:Nat) (st:List Pt) (vs:List mK) (Hv:List Blk):Prop where
 le:i≤L.length
 len:vs.length=i
 inv:Inv vs Hv
 rest:fu L L 0 [] []=fu L (L.drop i) i st vs
 ok: ∀ p∈st,p.root<i∧p.depth≤32
 small:st.length≤i
theorem H5 (L:List Nd) (hne:0<L.length) (hlen:L.length≤256) (tv:Value) (w0:World) (ht:Reads w0 tv L.length (L.flatMap bf)) (f:FuncId) [hf:Callable Tryz.prog f] (caps:List Value) (Inv:List mK→List Blk→Prop) (hV:Gx L.length w0 f caps Inv)
 (H:List Blk) (hI:Inv [] H):FnIn Tryz.prog 197 [tv,.func (.func f) #[] caps.toArray] w0 H fun v H' =>v= .int .i64 (fu L L 0 [] []).1∧Inv (fu L L 0 [] []).2 H' :=by
 have ht' :=ht;obtain ⟨At,ct,rfl,ht1,ht2,ht3⟩:=ht;obtain ⟨gt,ot,rfl,hrt⟩:=ht3 hne;refine bF Tryz.func197 rfl Tryz.ntmps197 rfl ?_;repeat' (first|refine sT ?_|refine sM fun _=>?_|(refine sC ?_ ?_<;>intro hb<;>try omega)|fail)
 refine aI 320 3 ?_
 refine GP (fun (i:Nat) s H=> ∃ st vs A cap Hv,s= [(0,.slice (some ⟨gt,ot,none⟩) L.length ct),(1,.func (.func f) #[] caps.toArray),(5,sl A st.length cap),(14,.slice (some ⟨gt,ot,none⟩) L.length ct),(15,.int .i64 (L.length:Int)),(16,.int .i64 (i:Int))]∧
  H= .own A 320 3 st.length cap (st.flatMap sU)::Hv∧WalkSt L Inv i st vs Hv) (fun i=>L.length - i) 0 ?_ ?_
 ·refine ⟨_,_,?_,?_,⟨[],[],none,0,H,rfl,rfl,⟨QZ _,rfl,hI,rfl,by simp,Rg _⟩⟩⟩
  ·exact sB
  ·exact mS
 ·rintro i _ _ ⟨st,vs,A,cap,Hv,rfl,rfl,hst⟩;obtain ⟨hle,hvl,hinv,hrest,hok,hsmall⟩:=hst;by_cases hlt:i<L.length
  ·have hrn:=hrt.elem cu i hlt;rw [Rn hlt,fu,jC] at hrest;generalize hn:L[i]=n at hrest hrn;by_cases hfe:bB n=0
   ·obtain ⟨hb0,hb16⟩:=sL hfe;obtain ⟨k,hk⟩:=Uw hb0;rw [if_neg (by simp [hfe]),hk,Ud] at hrest;have hbel: ∀ w,aC Tryz.prog 252 [.agg (bf n).toArray] w (.int .i64 (k:Int)):=fun w=>hk ▸ Mk n w;have hfie: ∀ w,aC Tryz.prog 251 [.agg (bf n).toArray] w (.int .i64 0):=fun w=>hfe ▸ zf n w;refine tu .hd fun hr1 hr2 hr3=> ?_;repeat' (first|(apply ai;exact rfl;apply ag;exact rfl;exact rfl;exact hlt)|(apply ai;exact rfl;apply bO;exact rfl;exact hrn;exact rfl)|(apply ai;exact rfl;apply fT;exact rfl;exact rfl;(simp only [maxLen];omega))|(apply aa;exact rfl;exact rfl;(intro w hm;exact hfie w))|(apply aa;exact rfl;exact rfl;(intro w hm;exact hbel w))|(apply pW (id:=9);kernel_rfl;kernel_rfl)|(apply aZ;exact rfl;apply pZ;exact rfl;exact rfl;omega;omega)|(apply ai;exact rfl;apply pZ;exact rfl;exact rfl;omega;omega)|(apply aZ;exact rfl;apply mU (hi:=st.length);exact rfl;exact ⟨_,rfl⟩;exact rfl;omega;omega)|(apply cM;exact rfl;exact rfl;(intro w hm;exact NQ L n (bn st k) _ _ w (ht'.of_w0 hm) (Im hm pK (by omega)) (fun p hp=>Nat.lt_trans (hok p (jd hp)).1 hlt) (by rw [jZ st k (by omega)];omega)))|refine sT ?_|refine sQ ?_|refine sM fun _=>?_|(refine sC ?_ ?_<;>intro hb<;>try omega)|(refine sCQ ?_ ?_<;>intro hb<;>try omega)|fail)
    ·refine bJ (.inl rfl) Tryz.results197 rfl (.drop .hd (.drop .hd (.refl _))) ?_;rw [hrest,if_pos (Or.inl (by omega))];exact ⟨rfl,hinv⟩
    ·refine bJ (.inl rfl) Tryz.results197 rfl (.drop .hd (.drop .hd (.refl _))) ?_;rw [hrest,if_pos (Or.inr hb)];exact ⟨rfl,hinv⟩
    have hkl:k≤st.length:=by omega
    rw [if_neg (by intro h;rcases h with h|h;(· omega);(· rw [hb] at h;cases h))] at hrest;repeat' (first|(apply ai;exact rfl;apply pZ;exact rfl;exact rfl;omega;omega)|(apply J9 (hi:=st.length);exact rfl;exact rfl;exact ⟨_,rfl⟩;exact rfl;omega;omega;(intro B hB))|refine sT ?_|refine sM fun _=>?_|(refine sC ?_ ?_<;>intro hb<;>try omega)|fail)
    rename_i gn gp;refine aI 3 1 ?_;have htl:=jZ st k hkl
    refine GP (fun (j:Nat) s H=> ∃ A2 cap2,s= [(0,.slice (some ⟨gt,ot,none⟩) L.length ct),(1,.func (.func f) #[] caps.toArray),(5,sl A st.length cap),(6,.int .i64 (i:Int)),(9,.int .i64 (k:Int)),(10,.pointer (some ⟨gp,0,none⟩)),(11,sl A2 j cap2),
     (14,.slice (some ⟨gt,ot,none⟩) L.length ct),(15,.int .i64 (L.length:Int)),(16,.int .i64 (i:Int)),(54,.slice B (st.length - (st.length - k)) (cap - (st.length - k))),(55,.int .i64 ((st.length - (st.length - k):Nat):Int)),(56,.int .i64 (j:Int))]∧
     H= .own A2 3 1 j cap2 (((bn st k).take j).map fun p=> .int .i64 (p.root:Int)):: .box gp 320 [.int .i64 (i:Int),.int .i64 (cg ((bn st k).take j):Int),.bool (decide (n.kind=3))]:: .own A 320 3 st.length cap (st.flatMap sU)::Hv∧j≤k) (fun j=>k - j) 0 ?_ ?_
    ·refine ⟨_,_,?_,?_,⟨none,0,rfl,rfl,by omega⟩⟩
     ·exact sB
     ·exact mS
    ·rintro j _ _ ⟨A2,cap2,rfl,rfl,hjk⟩;by_cases hj:j<k
     ·refine bg (.tl (.tl .hd)) (by omega) fun gs hA=> ?_;subst hA;obtain rfl:B=some ⟨gs,0+(st.length - k)*3,none⟩:=by rw [hB,if_neg (by omega)];simp [dr]
      have hjt:j<(bn st k).length:=by omega
      have he:((st.flatMap sU).drop (0+(st.length - k)*3+j*3)).take 3=sU (bn st k)[j]:=by
       rw [show 0+(st.length - k)*3+j*3=(st.length - k+j)*3 by rw [Tg];omega,fD oM st _ (by omega)];simp [bn]
      have hd32:(bn st k)[j].depth≤32:=(hok _ (jd (RL hjt))).2;repeat' (first|(apply ai;exact rfl;apply ag;exact rfl;exact rfl;omega)|(apply ai;exact rfl;apply BO;exact rfl;exact pK;exact he;exact rfl)|(apply ai;exact rfl;apply iJ;exact rfl;exact rfl;(simp only [maxLen];omega))|(apply ai;exact rfl;apply EK;exact rfl;exact rfl)|(apply eu;(iterate 3 exact rfl);(repeat first|exact .hd|apply Sel.tl|apply In.tl);(intro w hm;exact hm.cells_own (by (repeat first|exact .hd|apply Sel.tl|apply In.tl)));exact rfl;(simp [Value.oneCell',sl]);omega;(simp only [maxLen];omega);(intro A' cap' hA'))|refine sT ?_|refine sM fun _=>?_|(refine sC ?_ ?_<;>intro hb<;>try omega)|fail)
      have hk1:((bn st k).take (j+1)).map (fun p=>Value.int .i64 (p.root:Int))=((bn st k).take j).map (fun p=>Value.int .i64 (p.root:Int))++ [.int .i64 ((bn st k)[j].root:Int)]:=by
       rw [Ra hjt,Sh];rfl
      refine ⟨j+1,_,_,?_,?_,?_,⟨A',cap',rfl,rfl,hj⟩⟩
      ·omega
      ·exact sB
      ·rw [hk1,rA _ _ hjt];exact mS
     ·have e:j=k:=by omega
      subst e;have htk:(bn st j).take j=bn st j:=Sf (by omega);rw [htk];have hd33:=lV (bn st j) fun p hp=>(hok p (jd hp)).2;repeat' (first|refine sT ?_|refine sM fun _=>?_|(refine sC ?_ ?_<;>intro hb<;>try omega)|fail)
      ·refine bJ (.inl rfl) Tryz.results197 rfl (.drop .hd (.drop .hd (.drop .hd (.refl _)))) ?_;rw [hrest,if_pos (by omega)];exact ⟨rfl,hinv⟩
      rw [if_neg (by omega)] at hrest;refine BH (.tl (.tl .hd)) (st.length - j) (by omega) ?_;refine jX 10 rfl (by kernel_rfl) ?_;((with_reducible apply aR (i:=0));exact rfl;exact rfl;(iterate 3 decide+kernel);exact nP;(intro _ _;exact vP));((with_reducible apply aR (i:=1));exact rfl;exact rfl;(iterate 3 decide+kernel);exact nP;(intro _ _;exact vP));((with_reducible apply aR (i:=2));exact rfl;exact rfl;(iterate 3 decide+kernel);exact nP;(intro _ _;exact vP));((with_reducible apply aR (i:=3));exact rfl;exact rfl;(iterate 3 decide+kernel);exact nP;(intro _ _;exact vP));((with_reducible apply aR (i:=4));exact rfl;exact rfl;(iterate 3 decide+kernel);exact nP;(intro _ _;exact vP));((with_reducible apply aR (i:=5));exact rfl;exact rfl;(iterate 3 decide+kernel);exact nP;(intro _ _;exact vP));repeat' (first|(apply aJ (i:=6);exact rfl;decide+kernel)|(apply aJ (i:=7);exact rfl;decide+kernel)|(apply aJ (i:=8);exact rfl;decide+kernel)|(apply aJ (i:=9);exact rfl;decide+kernel)|(apply jV;decide+kernel)|(apply eu;(iterate 3 exact rfl);(repeat first|exact .hd|apply Sel.tl|apply In.tl);(intro w hm;exact hm.cells_own (by (repeat first|exact .hd|apply Sel.tl|apply In.tl)));exact rfl;(simp [Value.oneCell',sl]);omega;(simp only [maxLen];omega);(intro A' cap' hA'))|refine sT ?_|refine sM fun _=>?_|(refine sC ?_ ?_<;>intro hb<;>try omega)|fail)
      have hcont:(st.flatMap sU).take ((st.length - j)*3)++ [.int .i64 (i:Int),.int .i64 (cg (bn st j):Int),.bool (decide (n.kind=3))]=(st.take (st.length - j)++ [(⟨i,cg (bn st j),decide (n.kind=3)⟩:Pt)]).flatMap sU:=by
       rw [sA oM,Rp];rfl
      have hvis:=hV vs ((bn st j).map Pt.root) (cg (bn st j)) A2 cap2 Hv [.own A' 320 3 (st.length - j+1) cap' ((st.take (st.length - j)++ [(⟨i,cg (bn st j),decide (n.kind=3)⟩:Pt)]).flatMap sU)] hinv (by rw [RA];omega) (by omega) (by intro q hq;obtain ⟨p,hp,rfl⟩:=RG.1 hq;rw [hvl];exact (hok p (jd hp)).1);simp only [RA,htl,hvl,SZ] at hvis;rw [hcont];(with_reducible apply kA)
      ·exact rfl
      ·exact rfl
      ·infer_instance
      ·exact rfl
      ·refine hvis.msub ?_;refine MSub.pick (T:=_) pK (MSub.snoc pK ?_);exact mS
      rintro v H' ⟨H1,hI1,hM1⟩;repeat' (first|(apply ai;exact rfl;apply iJ;exact rfl;exact rfl;(simp only [maxLen];omega))|refine sT ?_|refine sM fun _=>?_|(refine sC ?_ ?_<;>intro hb<;>try omega)|fail)
      refine ⟨i+1,_,_,?_,?_,?_,⟨st.take (st.length - j)++ [(⟨i,cg (bn st j),decide (n.kind=3)⟩:Pt)],vs++ [((bn st j).map Pt.root,cg (bn st j))],A',cap',H1,rfl,rfl,⟨?_,?_,?_,?_,?_,?_⟩⟩⟩
      ·omega
      ·have e1:(st.take (st.length - j)++ [(⟨i,cg (bn st j),decide (n.kind=3)⟩:Pt)]).length=st.length - j+1:=by simp
       rw [e1];exact sB
      ·have e1:(st.take (st.length - j)++ [(⟨i,cg (bn st j),decide (n.kind=3)⟩:Pt)]).length=st.length - j+1:=by simp
       rw [e1];exact hM1.rot
      ·omega
      ·simp [hvl]
      ·exact hI1
      ·exact hrest
      ·intro p hp;rcases Rz.1 hp with hp|hp
       ·exact ⟨Nat.lt_succ_of_lt (hok p (SF hp)).1,(hok p (SF hp)).2⟩
       ·have e:p=⟨i,cg (bn st j),decide (n.kind=3)⟩:=by simpa using hp
        subst e;exact ⟨Tz i,by show cg (bn st j)≤32;omega⟩
      ·simp;omega
   ·have hfie: ∀ w,aC Tryz.prog 251 [.agg (bf n).toArray] w (.int .i64 (bB n)):=fun w=>zf n w;rw [if_pos hfe] at hrest;repeat' (first|(apply ai;exact rfl;apply ag;exact rfl;exact rfl;exact hlt)|(apply ai;exact rfl;apply bO;exact rfl;exact hrn;exact rfl)|(apply aa;exact rfl;exact rfl;(intro w hm;exact hfie w))|refine sT ?_|refine sM fun _=>?_|(refine sC ?_ ?_<;>intro hb<;>try omega)|fail)
    refine bJ (.inl rfl) Tryz.results197 rfl (.drop .hd (.drop .hd (.refl _))) ?_;rw [hrest];exact ⟨rfl,hinv⟩
  ·have e:i=L.length:=by omega
   subst e;rw [Sn,fu] at hrest;repeat' (first|refine sT ?_|refine sM fun _=>?_|(refine sC ?_ ?_<;>intro hb<;>try omega)|fail)
   ·refine bJ (.inl rfl) Tryz.results197 rfl (.drop .hd (.refl _)) ?_;rw [hrest,if_neg (by omega)];exact ⟨rfl,hinv⟩
   ·refine bJ (.inl rfl) Tryz.results197 rfl (.drop .hd (.refl _)) ?_;rw [hrest,if_pos (by omega)];exact ⟨rfl,hinv⟩
def jN (L:List Nd) (wide:Bool):Int × List mK:=
 if 256<L.length then (5,[]) else if L.length=0 then (4,[])
 else if (fu L L 0 [] []).1≠0 then fu L L 0 [] []
 else if wide=false∧jm L (L.length - 1)=3 then (4,(fu L L 0 [] []).2) else (0,(fu L L 0 [] []).2)
theorem Mg (L:List Nd) (wide:Bool) (tv:Value) (w0:World) (ht:Reads w0 tv L.length (L.flatMap bf)) (f:FuncId) [hf:Callable Tryz.prog f] (caps:List Value) (Inv:List mK→List Blk→Prop) (hV:Gx L.length w0 f caps Inv)
 (H:List Blk) (hI:Inv [] H):FnIn Tryz.prog 150 [tv,.bool wide,.func (.func f) #[] caps.toArray] w0 H fun v H' =>v= .int .i64 (jN L wide).1∧Inv (jN L wide).2 H' :=by
 have ht' :=ht;obtain ⟨At,ct,rfl,ht1,ht2,ht3⟩:=ht;refine bF Tryz.func150 rfl Tryz.ntmps150 rfl ?_;by_cases h256:256<L.length
 ·repeat' (first|refine sT ?_|refine sM fun _=>?_|(refine sC ?_ ?_<;>intro hb<;>try omega)|fail)
  refine bJ (.inl rfl) Tryz.results150 rfl (.refl _) ?_;rw [jN,if_pos h256];exact ⟨rfl,hI⟩
 by_cases h0:L.length=0
 ·repeat' (first|refine sT ?_|refine sM fun _=>?_|(refine sC ?_ ?_<;>intro hb<;>try omega)|fail)
  refine bJ (.inl rfl) Tryz.results150 rfl (.refl _) ?_;rw [jN,if_neg h256,if_pos h0];exact ⟨rfl,hI⟩
 obtain ⟨gt,ot,rfl,hrt⟩:=ht3 (by omega);have hw:=H5 L (by omega) (by omega) _ w0 ht' f caps Inv hV H hI;have hrl:=hrt.elem cu (L.length - 1) (by omega);have hk:jm L (L.length - 1)=(L[L.length - 1]'(by omega)).kind:=jl _;simp only [jN,if_neg h256,if_neg h0,hk];generalize fu L L 0 [] []=r at hw;generalize (L[L.length - 1]'(by omega))=nl at hrl;repeat' (first|(apply ak;exact rfl;exact rfl;exact hw;(rintro v H' ⟨rfl,hI'⟩))|(apply ai;exact rfl;apply ij;exact rfl;exact rfl;omega;omega)|(apply ai;exact rfl;apply ag;exact rfl;exact rfl;omega)|(apply ai;exact rfl;apply dS (off:=0);exact rfl;exact hrl;exact rfl)|refine sT ?_|refine sM fun _=>?_|(refine sC ?_ ?_<;>intro hb<;>try omega)|fail)
 all_goals refine bJ (.inl rfl) Tryz.results150 rfl (.refl _) ?_
 all_goals simp_all
theorem vo (N:Nat) (w0:World) (H0:List Blk):Gx N w0 151 [] fun _ H=>H=H0:=by
 rintro vs kids d A cap _ F rfl _ _ _;refine bF Tryz.func151 rfl Tryz.ntmps151 rfl ?_;repeat' (first|refine sT ?_|refine sM fun _=>?_|(refine sC ?_ ?_<;>intro hb<;>try omega)|fail)
 refine iP (.inr rfl) Tryz.results151 (.drop .hd (.refl _)) ⟨_,rfl,.refl _⟩
def dM (L:List Nd):Int:=(jN L false).1
theorem Er (L:List Nd) (tv:Value) (w:World) (ht:Reads w tv L.length (L.flatMap bf)):aC Tryz.prog 92 [tv] w (.int .i64 (dM L)):=by
 have ht' :=ht;obtain ⟨At,ct,rfl,ht1,ht2,ht3⟩:=ht;refine ay Tryz.func92 rfl Tryz.ntmps92 rfl ?_;have hw:=Mg L false _ w ht' 151 [] (fun _ H=>H= []) (vo _ w []) [] rfl;repeat' (first|(apply ak;exact rfl;exact rfl;exact hw;(rintro v H' ⟨rfl,rfl⟩))|refine sT ?_|refine sM fun _=>?_|(refine sC ?_ ?_<;>intro hb<;>try omega)|fail)
 (refine rT1 ?_)
 rfl
def Ho (vs:List mK):Nat:=(vs.getLast?.map (·.2)).getD 0
def lW (L:List Nd):Int × Int:=if dM L≠0 then (0,dM L) else ((Ho (jN L false).2:Nat),0)
def kT (ks:List Nat):List Value:=ks.map fun (k:Nat)=> .int .i64 (k:Int)
theorem AE (ks:List Nat):(kT ks).length=ks.length:=by simp [kT]
theorem zm (L:List Nd): ∀ u∈L.flatMap bf,u.oneCell' =true:=by
 intro u hu;obtain ⟨n,_,h⟩:=TX.1 hu;simp only [bf,RF,TK,or_false] at h;rcases h with rfl|rfl|rfl|rfl|rfl|rfl|rfl|rfl|rfl|rfl|rfl<;>rfl
theorem My (L:List Nd) (tv:Value) (w:World) (ht:Reads w tv L.length (L.flatMap bf)) (hlen:L.length≤1000000):
 FnAt Tryz.prog 104 [tv] w fun v H=> ∃ A cap,v=sl A L.length cap∧H= [.own A 123 11 L.length cap (L.flatMap bf)]:=by
 have ht' :=ht;obtain ⟨At,ct,rfl,ht1,ht2,ht3⟩:=ht;refine ay Tryz.func104 rfl Tryz.ntmps104 rfl ?_;have hl:(L.flatMap bf).length=L.length*11:=bR cu L;refine aI 123 11 ?_;repeat' (first|(apply ai;exact rfl;apply vz;exact rfl)|(apply df;exact rfl;intro gb)|(apply eJ (n' :=0) (c:=0) (A:=some _) (m:=L.length);(iterate 3 exact rfl);exact pK;(intro w hm;exact ht'.of_w0 hm);exact hl;exact zm L;omega;(simp only [maxLen];omega);intro A' cap' hA)|refine sT ?_|refine sM fun _=>?_|(refine sC ?_ ?_<;>intro hb<;>try omega)|fail)
 ·have e:L.length=0:=by
   rcases SY L.length with h|h
   ·exact h
   ·obtain ⟨g,o,rfl,_⟩:=ht3 h;cases hb
  have e' :L= []:=Sl e;subst e';exact bJ (.inl rfl) Tryz.results104 rfl (.refl _) ⟨none,0,rfl,rfl⟩
 ·exact bJ (.inl rfl) Tryz.results104 rfl (H' := [.own A' 123 11 (0+L.length) cap' ([]++L.flatMap bf)]) mS ⟨A',cap',by rw [Rv],by rw [Rv];rfl⟩
end Go.SL
namespace Go.SL
open Go Go.Proofs
attribute [local irreducible] W WL WQ WG WA VOp thn blk bH aV FnAt FnIn Mw
theorem qB (L:List Nd): ∀ (r:List Nd) (i:Nat) (st:List Pt) (vs:List mK),(fu L r i st vs).1=0→ ∀ n∈r,bB n=0
 | [],_,_,_=>fun _ _ h=>by cases h
 |n::r,i,st,vs=>by
  intro h;rw [fu] at h;have hn:bB n=0:=by
   by_cases hf:bB n=0
   ·exact hf
   ·unfold jC at h;rw [if_pos hf] at h;exact h
  cases hs:jC L n i st with
  |inl e=>
   rw [hs] at h;dsimp only at h;unfold jC at hs;rw [if_neg (by omega)] at hs;split at hs
   ·injection hs with hs;omega
   ·split at hs
    ·injection hs with hs;omega
    ·cases hs
  |inr y=>
   obtain ⟨st',kids,d⟩:=y;rw [hs] at h;intro m hm;rcases RF.1 hm with rfl|hm
   ·exact hn
   ·exact qB L r _ _ _ h m hm
theorem Ba {L:List Nd} (h:dM L=0): ∀ n∈L,bB n=0:=by
 refine qB L L 0 [] [] ?_;unfold dM jN at h;split at h
 ·cases h
 split at h
 ·cases h
 split at h
 ·rename_i h3;exact absurd h h3
 ·rename_i h3;omega
theorem DP {n:Nd} (h:bB n=0) (hr:gG n=true):dL n.rect=true:=by
 unfold bB at h;split at h
 ·cases h
 rename_i hk;have hk1:fj n=true:=by
  cases hh:fj n
  ·exact absurd (Or.inl hh) hk
  ·rfl
 simp only [gG,TH,decide_eq_true_eq] at hr;unfold fj at hk1;rw [if_neg (by omega),if_pos hr] at hk1;simp only [RB,decide_eq_true_eq] at hk1;have h1:=hk1.1;unfold pI at h1;cases hq:dL n.rect
 ·rw [hq] at h1;cases h1
 ·rfl
theorem zy {α:Type} {f g:α→Bool}: ∀ {L:List α},(∀ x∈L,f x=g x)→L.any f=L.any g
 | [],_=>rfl
 |x::r,h=>by rw [List.any_cons,List.any_cons,h x QY,zy fun y hy=>h y (Rh _ hy)]
end Go.SL
namespace Go.SL
open Go Go.Proofs
attribute [local irreducible] W WL WQ WG WA VOp thn blk bH aV FnAt FnIn WLI WR WT bP xC pd rZ
theorem Ku (A:Option Addr) (m c:Nat) (w:World):FnAt Tryz.prog 93 [.slice A m c] w fun v H=> ∃ g,v= .func (.func 152) #[] #[.pointer (some ⟨g,0,none⟩)]∧H= [.box g 91 [.slice A m c]]:=by
 refine ay Tryz.func93 rfl Tryz.ntmps93 rfl ?_;repeat' (first|refine sT ?_|refine sM fun _=>?_|(refine sC ?_ ?_<;>intro hb<;>try omega)|fail)
 refine bJ (.inl rfl) Tryz.results93 rfl (MSub.refl _) ?_;exact ⟨_,rfl,rfl⟩
def iZ (L:List Nd):List Us × Int:=if dM L≠0 then ([],dM L) else (eE L,0)
theorem iK: ∀ (L:List Nd) (i:Nat),(dV L i).length≤L.length
 | [],_=>Rg _
 |n::r,i=>by
  have:=iK r (i+1);unfold dV;cases gG n<;>simp<;>omega
theorem yC (L:List Nd):(eE L).length≤L.length:=iK L 0
theorem o3 {α:Type} (f:α→List Value) (xs:List α) (x:α):(xs++ [x]).flatMap f=xs.flatMap f++f x:=by simp
theorem Og (L:List Nd) (tv:Value) (w:World) (ht:Reads w tv L.length (L.flatMap bf)) (hlen:L.length≤1000000):
 FnAt Tryz.prog 46 [tv] w fun v H=> ∃ A cap,v= .tuple #[sl A (iZ L).1.length cap,.int .i64 (iZ L).2]∧H= [.own A 121 6 (iZ L).1.length cap ((iZ L).1.flatMap cP)]:=by
 have ht' :=ht;obtain ⟨Al,cl,rfl,hl1,hl2,hl3⟩:=ht;refine tU Tryz.func46 rfl Tryz.ntmps46 (by rfl) ?_;have hck:=fun w0 (hm:Reads w0 (.slice Al L.length cl) L.length (L.flatMap bf))=>Er L _ w0 hm;unfold iZ;generalize dM L=e at hck;refine uW ?_;refine aI 121 6 ?_;repeat' (first|(apply aa;exact rfl;exact rfl;(intro w' hm;exact hck w' (ht'.of_w0 hm)))|(apply aK;exact rfl;exact rfl;(intro w' hm;exact Ku _ _ _ w');(rintro v H' ⟨gu,rfl,rfl⟩))|refine sT ?_|refine sR ?_|refine sM fun _=>?_|(refine sC ?_ ?_<;>intro hb<;>try omega)|(refine sCR ?_ ?_<;>intro hb<;>try omega)|fail)
 ·refine NV ?_;refine dB (.inl rfl) Tryz.results46 rfl rfl (H' := [.own none 121 6 0 0 []]) mS ⟨none,0,?_⟩;rw [if_pos hb];exact ⟨rfl,rfl⟩
 rename_i gb;rw [if_neg hb];have hul:=yC L
 refine Br (ps:= [14]) (us:=eE L) (encs:=fun u=> [.agg (cP u).toArray]) (Hc:= [.box gu 91 [.slice Al L.length cl]]) (HU0:= [.box gb 96 [.slice none 0 0],.own none 121 6 0 0 []]) rfl (fun _=>rfl) rfl (Kt L _ w ht' hlen gu)
  (fun pre HU=> ∃ A cap,HU= [.box gb 96 [sl A pre.length cap],.own A 121 6 pre.length cap (pre.flatMap cP)]) (fun _=>False) ?_ ⟨none,0,rfl⟩ ?_ ?_ ?_
 ·exact mS
 ·rintro l pre u post hus _ ⟨A,cap,rfl⟩ F F';have hlu:=congrArg List.length hus;simp only [QT,Rk] at hlu;change WR _ _ _ l _ _ ((14,Value.agg (cP u).toArray)::_) (.box gb 96 [sl A pre.length cap]:: .own A 121 6 pre.length cap (pre.flatMap cP)::F);repeat' (first|refine sT ?_|refine sR ?_|refine sM fun _=>?_|(refine sC ?_ ?_<;>intro hb<;>try omega)|(refine sCR ?_ ?_<;>intro hb<;>try omega)|fail)
  rename_i g6;refine Eh ⟨[.box g6 121 (cP u),.box gb 96 [sl A pre.length cap],.own A 121 6 pre.length cap (pre.flatMap cP)],MSub.refl _,?_⟩;change WR _ _ _ l _ _ _ (.box g6 121 (cP u):: .box gb 96 [sl A pre.length cap]:: .own A 121 6 pre.length cap (pre.flatMap cP)::F');repeat' (first|(apply eu;(iterate 3 exact rfl);(repeat first|exact .hd|apply Sel.tl|apply In.tl);(intro w hm;exact hm.cells_own (by (repeat first|exact .hd|apply Sel.tl|apply In.tl)));exact rfl;(simp [Value.oneCell',sl]);omega;(simp only [maxLen];omega);(intro A' cap' hA'))|refine sT ?_|refine sR ?_|refine sM fun _=>?_|(refine sC ?_ ?_<;>intro hb<;>try omega)|(refine sCR ?_ ?_<;>intro hb<;>try omega)|fail)
  refine G8 [.box gb 96 [sl A' (pre.length+1) cap'],.own A' 121 6 (pre.length+1) cap' (pre.flatMap cP++cP u)] ?_ ⟨A',cap',?_⟩
  ·change MSub (_::_::F') _;exact mS
  ·rw [o3,QT]
   rfl
 ·rintro D _ ⟨A,cap,rfl⟩;change bP _ _ _ _ _ (kn D:: .box gb 96 [sl A (eE L).length cap]:: .own A 121 6 (eE L).length cap ((eE L).flatMap cP)::_);repeat' (first|refine sT ?_|refine sR ?_|refine sM fun _=>?_|(refine sC ?_ ?_<;>intro hb<;>try omega)|(refine sCR ?_ ?_<;>intro hb<;>try omega)|fail)
  refine DU .hd ?_;refine dB (.inl rfl) Tryz.results46 rfl rfl (H' := [.own A 121 6 (eE L).length cap ((eE L).flatMap cP)]) mS ⟨A,cap,rfl,rfl⟩
 ·rintro D HU h;exact h.elim
def rel (u:Us):Bool:=decide (0≤u.node)
end Go.SL
