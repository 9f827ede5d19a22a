/-
  Lemmas and walks, put together: Px3 W5 W6 W7 W8 W29.
-/
import Derived.Test.YtoanpdoacdpgeaaGreatDoorKo08
set_option linter.unusedSimpArgs false
set_option linter.unusedVariables false
set_option maxRecDepth 20000
namespace Go.SL
open Go
structure Grew (p p' :PS) (strict:Prop):Prop where
 tok: ∃ m,p'.l=p.l.drop m∧m≤p.l.length∧p'.out.length≤p.out.length+m
 out:p.out.length≤p'.out.length
 some:strict→p.out.length<p'.out.length
theorem Grew.refl (p:PS) {q:Prop} (h: ¬ q):Grew p p q:=⟨⟨0,rfl,Rd _,Re _⟩,Re _,fun hq=>(h hq).elim⟩
theorem Grew.trans {p p' p2:PS} {q q' q2:Prop} (h:Grew p p' q) (k:Grew p' p2 q') (hq:q2→q∨q'):Grew p p2 q2:=by
 obtain ⟨⟨m,h1,h2,h3⟩,h4,h5⟩:=h
 obtain ⟨⟨n,k1,k2,k3⟩,k4,k5⟩:=k
 refine ⟨⟨m+n,by rw [k1,h1,SH],?_,by omega⟩,by omega,fun hh=> ?_⟩
 ·
  rw [h1,RC] at k2;omega
 ·
  rcases hq hh with h|h
  ·
   have:=h5 h;omega
  ·
   have:=k5 h;omega
theorem Grew.step (p:PS) (n:Nd) (h:0<p.l.length) {q:Prop}:Grew p (p.skip.put n) q:=
 ⟨⟨1,by simp [PS.skip,PS.put],h,by simp [PS.skip,PS.put]⟩,by simp [PS.skip,PS.put],fun _=>by simp [PS.skip,PS.put]⟩
theorem Grew.skip (p:PS) (h:0<p.l.length) {q:Prop} (hq: ¬ q):Grew p p.skip q:=
 ⟨⟨1,by simp [PS.skip],h,by simp [PS.skip]⟩,by simp [PS.skip],fun hh=>(hq hh).elim⟩
theorem Grew.wrap {p p' :PS} {q q' :Prop} (h0:0<p.l.length) (h:Grew p.skip p' q) (n:Nd):Grew p (p'.put n) q' :=by
 obtain ⟨⟨m,h1,h2,h3⟩,h4,h5⟩:=h
 simp only [PS.skip] at h1 h2 h3 h4
 refine ⟨⟨1+m,?_,?_,?_⟩,?_,fun _=> ?_⟩
 ·
  simp only [PS.put];rw [h1,← List.drop_one,SH]
 ·
  rw [TZ] at h2;omega
 ·
  simp only [PS.put,QT,QX];omega
 ·
  simp only [PS.put,QT,QX];omega
 ·
  simp only [PS.put,QT,QX];omega
theorem cC {r:Option Out} {k:Nat→PS→Option Out} {x:Nat × PS} (h:fT r k=some (.ok x)): ∃ n p',r=some (.ok (n,p'))∧k n p' =some (.ok x):=by
 unfold fT at h
 split at h
 ·
  exact ⟨_,_,rfl,h⟩
 ·
  rename_i h1
  obtain ⟨n,p'⟩:=x
  exact absurd h (h1 n p')
theorem jy {fin:Int} {l:List Tk} {c:Int} (h:(hdT fin l).kind=c) (hc:c≠0):0<l.length:=iY (fin:=fin) (by omega)
theorem rP {fin:Int} {name:Tk} {fn:Int} {n m:Nat} {p p' :PS} {q:Prop} (h:dg fin name fn n p=some (.ok (m,p'))):Grew p p' q:=by
 unfold dg at h
 dsimp only at h
 split at h
 ·
  cases h
 ·
  rename_i hk
  have hpos:=jy (Decidable.not_not.1 hk) (by decide)
  split at h
  ·
   cases h
  ·
   split at h
   ·
    cases h
   ·
    cases h
    exact .step p _ hpos
theorem jW (fin:Int): ∀ (f:Nat) (j:Job) (p:PS) (n:Nat) (p' :PS),bz fin f j p=some (.ok (n,p'))→Grew p p' j.eats
 |0,_,_,_,_,h=>by cases h
 |f+1,j,p,n,p',h=>by
  have ih:=jW fin f
  cases j with
  |level k=>
   rw [bz] at h
   split at h
   ·
    have g:=ih .sign _ _ _ h
    exact g
   ·
    obtain ⟨n1,p1,h1,h2⟩:=cC h
    exact (ih _ _ _ _ h1).trans (ih _ _ _ _ h2) fun _=> .inl trivial
  |loop k=>
   rw [bz] at h
   try dsimp only at h
   split at h
   ·
    rename_i hk
    have hpos:=jy hk.1 (by decide)
    obtain ⟨n1,p1,h1,h2⟩:=cC h
    exact ((ih _ _ _ _ h1).wrap (q' :=True) hpos _).trans (ih _ _ _ _ h2) fun _=> .inl trivial
   ·
    cases h
    exact .refl _ fun h=>h
  |sign=>
   rw [bz] at h
   try dsimp only at h
   split at h
   ·
    rename_i hk
    have hpos:=jy hk.1 (by decide)
    obtain ⟨n1,p1,h1,h2⟩:=cC h
    cases h2
    exact (ih _ _ _ _ h1).wrap hpos _
   ·
    obtain ⟨n1,p1,h1,h2⟩:=cC h
    split at h2
    ·
     rename_i hk
     have hpos:=jy hk.1 (by decide)
     obtain ⟨n2,p2,h3,h4⟩:=cC h2
     cases h4
     exact (ih _ _ _ _ h1).trans ((ih _ _ _ _ h3).wrap (q' :=True) hpos _) fun _=> .inl trivial
    ·
     cases h2
     have g:=ih .pct _ _ _ h1
     exact g
  |pct=>
   rw [bz] at h
   obtain ⟨n1,p1,h1,h2⟩:=cC h
   exact (ih _ _ _ _ h1).trans (ih _ _ _ _ h2) fun _=> .inl trivial
  |pctl=>
   rw [bz] at h
   try dsimp only at h
   split at h
   ·
    rename_i hk
    have hpos:=jy hk.1 (by decide)
    exact (Grew.step p _ hpos (q:=True)).trans (ih _ _ _ _ h) fun h=>h.elim
   ·
    cases h
    exact .refl _ fun h=>h
  |prim=>
   rw [bz] at h
   try dsimp only at h
   split at h
   ·
    rename_i hk
    cases h
    exact .step p _ (iY (fin:=fin) (by omega))
   ·
    split at h
    ·
     rename_i hk
     cases h
     exact .step p _ (jy hk (by decide))
    ·
     split at h
     ·
      rename_i hk
      have hpos:=jy hk (by decide)
      obtain ⟨n1,p1,h1,h2⟩:=cC h
      split at h2
      ·
       cases h2
      ·
       rename_i hu
       cases h2
       exact ((Grew.skip p hpos (q:=False) (fun h=>h)).trans (ih _ _ _ _ h1) (q2:=True) fun _=> .inr trivial).trans (Grew.skip p1 (jy (Decidable.not_not.1 hu) (by decide)) (q:=False) fun h=>h) fun _=> .inl trivial
     ·
      split at h
      ·
       rename_i hk
       have hpos:=jy hk (by decide)
       split at h
       ·
        cases h
       ·
        split at h
        ·
         cases h
        ·
         rename_i hu
         have hpos2:=jy (Decidable.not_not.1 hu) (by decide)
         have g1:=(Grew.skip p hpos (q:=False) (fun h=>h)).trans (Grew.skip p.skip hpos2 (q:=False) fun h=>h) (q2:=False) fun h=>h.elim
         split at h
         ·
          exact g1.trans (rP h (q:=True)) fun _=> .inr trivial
         ·
          obtain ⟨n1,p1,h1,h2⟩:=cC h
          exact (g1.trans (ih _ _ _ _ h1) (q2:=True) fun _=> .inr trivial).trans (rP h2 (q:=True)) fun _=> .inl trivial
      ·
       cases h
  |args fn i=>
   rw [bz] at h
   try dsimp only at h
   have hgo: ∀ p0:PS,(if (hdT fin p0.l).kind=11 then bz fin f (.args fn (i+1)) p0.skip else some (.ok (i+1,p0)))=some (.ok (n,p'))→Grew p0 p' False:=by
    intro p0 h0
    split at h0
    ·
     rename_i hk
     exact (Grew.skip p0 (jy hk (by decide)) (q:=False) (fun h=>h)).trans (ih _ _ _ _ h0) fun h=>h.elim
    ·
     cases h0
     exact .refl _ fun h=>h
   split at h
   ·
    obtain ⟨n1,p1,h1,h2⟩:=cC h
    exact (ih _ _ _ _ h1).trans (hgo p1 h2) fun _=> .inl trivial
   ·
    rename_i hk
    have hpos:=iY (fin:=fin) (l:=p.l) (by omega)
    split at h
    ·
     cases h
    ·
     exact (Grew.step p _ hpos (q:=True)).trans (hgo _ h) fun _=> .inl trivial
end Go.SL
namespace Go.SL
open Go Go.Proofs
attribute [local irreducible] W WL WQ WG WA VOp thn blk aR aF FnIn
def Gl (N:Nat) (w0:World) (f:FuncId) (caps:List Value) (Inv:List mV→List Blk→Prop):Prop:=
 ∀ (vs:List mV) (kids:List Nat) (d:Nat) (A:Option Nat) (cap:Nat) (H F:List Blk),Inv vs H→kids.length≤1000→vs.length<N→(∀ k∈kids,k<vs.length)→
  FnIn Tryz.prog f ([.int .i64 (vs.length:Int),sl A kids.length cap,.int .i64 (d:Int)]++caps) w0 (.own A 3 1 kids.length cap (kids.map fun (k:Nat)=> .int .i64 (k:Int))::(H++F))
   fun _ H' => ∃ H1,Inv (vs++ [(kids,d)]) H1∧MSub (H1++F) H'
theorem tD {n:Nd} (h:bQ n=0):0≤below n∧below n≤16:=by
 unfold bQ at h
 split at h
 ·
  cases h
 ·
  rename_i hk
  split at h
  ·
   rename_i h7
   unfold below
   split
   ·
    omega
   ·
    split
    ·
     omega
    ·
     omega
  ·
   rename_i h7
   have h7' :n.kind=7:=by omega
   have hb:below n=n.n:=by simp [below,h7']
   have hk1:f9 n=true:=by
    cases hh:f9 n
    ·
     exact absurd (Or.inl hh) hk
    ·
     rfl
   simp [f9,h7'] at hk1
   split at h
   ·
    rename_i ha;omega
   ·
    split at h
    ·
     omega
    ·
     rename_i hc
     have hm:(eR n.fn).2.1≤16:=by
      unfold eR
      (repeat' split)<;>simp
     omega
theorem jI (st:List Pt) (k:Nat) (h:k≤st.length):(bo st k).length=k:=by simp [bo];omega
theorem iP {st:List Pt} {k:Nat} {p:Pt} (h:p∈bo st k):p∈st:=Th h
theorem IJ {w0 w:World} {H:List Blk} {A:Option Nat} {st:List Pt} {cap k:Nat} (hm:Mem w0 w H) (hi:In (.own A 356 3 st.length cap (st.flatMap tE)) H) (h:k≤st.length):
  Reads w (.slice (if cap=st.length - k then A.map fun g=>⟨g,0,none⟩ else (A.map fun g=>(⟨g,0,none⟩:Addr)).map (·.add ((st.length - k)*3))) (st.length - (st.length - k)) (cap - (st.length - k))) (bo st k).length ((bo st k).flatMap tE):=by
 have h1:=(Reads.of_own hm hi).cut (lo:=st.length - k) (hi:=st.length) (sz:=3) (by omega) (Re _)
 have e1:st.length - (st.length - k)=(bo st k).length:=by rw [jI st k h];omega
 rw [ph oG,e1] at h1
 have e2:((st.drop (st.length - k)).flatMap tE).take ((bo st k).length*3)=(bo st k).flatMap tE:=by
  rw [Sg (by rw [aM oG];exact Re _)];rfl
 rw [e2] at h1
 rw [e1]
 exact h1
theorem rT (top:List Pt) (j:Nat) (h:j<top.length):cf (top.take (j+1))=max (cf (top.take j)) (top[j].depth+1):=by
 unfold cf
 rw [Ra h,Tu]
 rfl
theorem lw (top:List Pt) (h: ∀ p∈top,p.depth≤32):cf top≤33:=by
 have: ∀ (l:List Pt) (d:Nat),d≤33→(∀ p∈l,p.depth≤32)→l.foldl (fun d p=>max d (p.depth+1)) d≤33:=by
  intro l
  induction l with
  |nil=>intro d hd _;simpa using hd
  |cons p r ih=>
   intro d hd hp
   have:=hp p QY
   exact ih _ (by show max d (p.depth+1)≤33;omega) fun q hq=>hp q (Rq _ hq)
 exact this top 1 (by omega) h
structure WalkSt (L:List Nd) (Inv:List mV→List Blk→Prop) (i:Nat) (st:List Pt) (vs:List mV) (Hv:List Blk):Prop where
 le:i≤L.length
 len:vs.length=i
 inv:Inv vs Hv
 rest:fC L L 0 [] []=fC L (L.drop i) i st vs
 ok: ∀ p∈st,p.root<i∧p.depth≤32
 small:st.length≤i
set_option maxHeartbeats 2000000 in
theorem Iu (L:List Nd) (hne:0<L.length) (hlen:L.length≤256) (tv:Value) (w0:World) (ht:Reads w0 tv L.length (L.flatMap bN)) (f:FuncId) [hf:Callable Tryz.prog f] (caps:List Value) (Inv:List mV→List Blk→Prop) (hV:Gl L.length w0 f caps Inv)
  (H:List Blk) (hI:Inv [] H):FnIn Tryz.prog 277 [tv,.func (.func f) #[] caps.toArray] w0 H fun v H' =>v= .int .i64 (fC L L 0 [] []).1∧Inv (fC L L 0 [] []).2 H' :=by
 have ht' :=ht
 obtain ⟨At,ct,rfl,ht1,ht2,ht3⟩:=ht
 obtain ⟨gt,ot,rfl,hrt⟩:=ht3 hne
 refine eQ Tryz.func277 rfl Tryz.ntmps277 rfl ?_
 repeat' (first|refine sT ?_|refine sM fun _=> ?_|(refine sC ?_ ?_<;>intro hb<;>try omega)|fail)
 refine aB 356 3 ?_
 refine GP (fun (i:Nat) s H=> ∃ st vs A cap Hv,s= [(0,.slice (some ⟨gt,ot,none⟩) L.length ct),(1,.func (.func f) #[] caps.toArray),(5,sl A st.length cap),(14,.slice (some ⟨gt,ot,none⟩) L.length ct),(15,.int .i64 (L.length:Int)),(16,.int .i64 (i:Int))]∧
   H= .own A 356 3 st.length cap (st.flatMap tE)::Hv∧WalkSt L Inv i st vs Hv) (fun i=>L.length - i) 0 ?_ ?_
 ·
  refine ⟨_,_,?_,?_,⟨[],[],none,0,H,rfl,rfl,⟨Rd _,rfl,hI,rfl,by simp,Re _⟩⟩⟩
  ·
   exact sB
  ·
   exact mS
 ·
  rintro i _ _ ⟨st,vs,A,cap,Hv,rfl,rfl,hst⟩
  obtain ⟨hle,hvl,hinv,hrest,hok,hsmall⟩:=hst
  by_cases hlt:i<L.length
  ·
   have hrn:=hrt.elem dJ i hlt
   rw [Rc hlt,fC,kI] at hrest
   generalize hn:L[i]=n at hrest hrn
   by_cases hfe:bQ n=0
   ·
    obtain ⟨hb0,hb16⟩:=tD hfe
    obtain ⟨k,hk⟩:=TN hb0
    rw [if_neg (by simp [hfe]),hk,TB] at hrest
    have hbel: ∀ w,aA Tryz.prog 306 [.agg (bN n).toArray] w (.int .i64 (k:Int)):=fun w=>hk ▸ Mr n w
    have hfie: ∀ w,aA Tryz.prog 305 [.agg (bN n).toArray] w (.int .i64 0):=fun w=>hfe ▸ zf n w
    refine Kr .hd fun hr1 hr2 hr3=> ?_
    repeat' (first|(apply ak;exact rfl;apply aj;exact rfl;exact rfl;exact hlt)|(apply ak;exact rfl;apply aC;exact rfl;exact hrn;exact rfl)|(apply ak;exact rfl;apply dO;exact rfl;exact rfl;(simp only [maxLen];omega))|(apply aa;exact rfl;exact rfl;(intro w hm;exact hfie w))|(apply aa;exact rfl;exact rfl;(intro w hm;exact hbel w))|(apply ib (id:=9);kernel_rfl;kernel_rfl)|(apply aK;exact rfl;apply lg;exact rfl;exact rfl;omega;omega)|(apply ak;exact rfl;apply lg;exact rfl;exact rfl;omega;omega)|(apply aK;exact rfl;apply oR (hi:=st.length);exact rfl;exact ⟨_,rfl⟩;exact rfl;omega;omega)|(apply cB;exact rfl;exact rfl;(intro w hm;exact NV L n (bo st k) _ _ w (ht'.of_w0 hm) (IJ hm pK (by omega)) (fun p hp=>Nat.lt_trans (hok p (iP hp)).1 hlt) (by rw [jI st k (by omega)];omega)))|refine sT ?_|refine sQ ?_|refine sM fun _=> ?_|(refine sC ?_ ?_<;>intro hb<;>try omega)|(refine sCQ ?_ ?_<;>intro hb<;>try omega)|fail)
    ·
     refine cA (.inl rfl) Tryz.results277 rfl (.drop .hd (.drop .hd (.refl _))) ?_
     rw [hrest,if_pos (Or.inl (by omega))]
     exact ⟨rfl,hinv⟩
    ·
     refine cA (.inl rfl) Tryz.results277 rfl (.drop .hd (.drop .hd (.refl _))) ?_
     rw [hrest,if_pos (Or.inr hb)]
     exact ⟨rfl,hinv⟩
    have hkl:k≤st.length:=by omega
    rw [if_neg (by intro h;rcases h with h|h;(· omega);(· rw [hb] at h;cases h))] at hrest
    repeat' (first|(apply ak;exact rfl;apply lg;exact rfl;exact rfl;omega;omega)|(apply Kd (hi:=st.length);exact rfl;exact rfl;exact ⟨_,rfl⟩;exact rfl;omega;omega;(intro B hB))|refine sT ?_|refine sM fun _=> ?_|(refine sC ?_ ?_<;>intro hb<;>try omega)|fail)
    rename_i gn gp
    refine aB 3 1 ?_
    have htl:=jI st k hkl
    refine GP (fun (j:Nat) s H=> ∃ A2 cap2,s= [(0,.slice (some ⟨gt,ot,none⟩) L.length ct),(1,.func (.func f) #[] caps.toArray),(5,sl A st.length cap),(6,.int .i64 (i:Int)),(9,.int .i64 (k:Int)),(10,.pointer (some ⟨gp,0,none⟩)),(11,sl A2 j cap2),
      (14,.slice (some ⟨gt,ot,none⟩) L.length ct),(15,.int .i64 (L.length:Int)),(16,.int .i64 (i:Int)),(54,.slice B (st.length - (st.length - k)) (cap - (st.length - k))),(55,.int .i64 ((st.length - (st.length - k):Nat):Int)),(56,.int .i64 (j:Int))]∧
      H= .own A2 3 1 j cap2 (((bo st k).take j).map fun p=> .int .i64 (p.root:Int)):: .box gp 356 [.int .i64 (i:Int),.int .i64 (cf ((bo st k).take j):Int),.bool (decide (n.kind=3))]:: .own A 356 3 st.length cap (st.flatMap tE)::Hv∧j≤k) (fun j=>k - j) 0 ?_ ?_
    ·
     refine ⟨_,_,?_,?_,⟨none,0,rfl,rfl,by omega⟩⟩
     ·
      exact sB
     ·
      exact mS
    ·
     rintro j _ _ ⟨A2,cap2,rfl,rfl,hjk⟩
     by_cases hj:j<k
     ·
      refine dN (.tl (.tl .hd)) (by omega) fun gs hA=> ?_
      subst hA
      obtain rfl:B=some ⟨gs,0+(st.length - k)*3,none⟩:=by rw [hB,if_neg (by omega)];simp [dW]
      have hjt:j<(bo st k).length:=by omega
      have he:((st.flatMap tE).drop (0+(st.length - k)*3+j*3)).take 3=tE (bo st k)[j]:=by
       rw [show 0+(st.length - k)*3+j*3=(st.length - k+j)*3 by rw [Uf];omega,dD oG st _ (by omega)]
       simp [bo]
      have hd32:(bo st k)[j].depth≤32:=(hok _ (iP (RN hjt))).2
      repeat' (first|(apply ak;exact rfl;apply aj;exact rfl;exact rfl;omega)|(apply ak;exact rfl;apply BQ;exact rfl;exact pK;exact he;exact rfl)|(apply ak;exact rfl;apply gJ;exact rfl;exact rfl;(simp only [maxLen];omega))|(apply ak;exact rfl;apply EK;exact rfl;exact rfl)|(apply aQ;(iterate 3 exact rfl);(repeat first|exact .hd|apply Sel.tl|apply In.tl);(intro w hm;exact hm.cells_own (by (repeat first|exact .hd|apply Sel.tl|apply In.tl)));exact rfl;(simp [Value.oneCell',sl]);omega;(simp only [maxLen];omega);(intro A' cap' hA'))|refine sT ?_|refine sM fun _=> ?_|(refine sC ?_ ?_<;>intro hb<;>try omega)|fail)
      have hk1:((bo st k).take (j+1)).map (fun p=>Value.int .i64 (p.root:Int))=((bo st k).take j).map (fun p=>Value.int .i64 (p.root:Int))++ [.int .i64 ((bo st k)[j].root:Int)]:=by
       rw [Ra hjt,RM];rfl
      refine ⟨j+1,_,_,?_,?_,?_,⟨A',cap',rfl,rfl,hj⟩⟩
      ·
       omega
      ·
       exact sB
      ·
       rw [hk1,rT _ _ hjt]
       exact mS
     ·
      have e:j=k:=by omega
      subst e
      have htk:(bo st j).take j=bo st j:=Sg (by omega)
      rw [htk]
      have hd33:=lw (bo st j) fun p hp=>(hok p (iP hp)).2
      repeat' (first|refine sT ?_|refine sM fun _=> ?_|(refine sC ?_ ?_<;>intro hb<;>try omega)|fail)
      ·
       refine cA (.inl rfl) Tryz.results277 rfl (.drop .hd (.drop .hd (.drop .hd (.refl _)))) ?_
       rw [hrest,if_pos (by omega)]
       exact ⟨rfl,hinv⟩
      rw [if_neg (by omega)] at hrest
      refine Kq (.tl (.tl .hd)) (st.length - j) (by omega) ?_
      refine jH 10 rfl (by kernel_rfl) ?_
      ((with_reducible apply aP (i:=0));exact rfl;exact rfl;decide+kernel;decide+kernel;decide+kernel;exact nP;(intro _ _;exact vP))
      ((with_reducible apply aP (i:=1));exact rfl;exact rfl;decide+kernel;decide+kernel;decide+kernel;exact nP;(intro _ _;exact vP))
      ((with_reducible apply aP (i:=2));exact rfl;exact rfl;decide+kernel;decide+kernel;decide+kernel;exact nP;(intro _ _;exact vP))
      ((with_reducible apply aP (i:=3));exact rfl;exact rfl;decide+kernel;decide+kernel;decide+kernel;exact nP;(intro _ _;exact vP))
      ((with_reducible apply aP (i:=4));exact rfl;exact rfl;decide+kernel;decide+kernel;decide+kernel;exact nP;(intro _ _;exact vP))
      ((with_reducible apply aP (i:=5));exact rfl;exact rfl;decide+kernel;decide+kernel;decide+kernel;exact nP;(intro _ _;exact vP))
      repeat' (first|(apply aH (i:=6);exact rfl;decide+kernel)|(apply aH (i:=7);exact rfl;decide+kernel)|(apply aH (i:=8);exact rfl;decide+kernel)|(apply aH (i:=9);exact rfl;decide+kernel)|(apply jG;decide+kernel)|(apply aQ;(iterate 3 exact rfl);(repeat first|exact .hd|apply Sel.tl|apply In.tl);(intro w hm;exact hm.cells_own (by (repeat first|exact .hd|apply Sel.tl|apply In.tl)));exact rfl;(simp [Value.oneCell',sl]);omega;(simp only [maxLen];omega);(intro A' cap' hA'))|refine sT ?_|refine sM fun _=> ?_|(refine sC ?_ ?_<;>intro hb<;>try omega)|fail)
      have hcont:(st.flatMap tE).take ((st.length - j)*3)++ [.int .i64 (i:Int),.int .i64 (cf (bo st j):Int),.bool (decide (n.kind=3))]=(st.take (st.length - j)++ [(⟨i,cf (bo st j),decide (n.kind=3)⟩:Pt)]).flatMap tE:=by
       rw [pd oG,Rn];rfl
      have hvis:=hV vs ((bo st j).map Pt.root) (cf (bo st j)) A2 cap2 Hv [.own A' 356 3 (st.length - j+1) cap' ((st.take (st.length - j)++ [(⟨i,cf (bo st j),decide (n.kind=3)⟩:Pt)]).flatMap tE)] hinv (by rw [RP];omega) (by omega) (by intro q hq;obtain ⟨p,hp,rfl⟩:=RG.1 hq;rw [hvl];exact (hok p (iP hp)).1)
      simp only [RP,htl,hvl,Tl] at hvis
      rw [hcont]
      (with_reducible apply m7)
      ·
       exact rfl
      ·
       exact rfl
      ·
       infer_instance
      ·
       exact rfl
      ·
       refine hvis.msub ?_
       refine MSub.pick (T:=_) pK (MSub.snoc pK ?_)
       exact mS
      rintro v H' ⟨H1,hI1,hM1⟩
      repeat' (first|(apply ak;exact rfl;apply gJ;exact rfl;exact rfl;(simp only [maxLen];omega))|refine sT ?_|refine sM fun _=> ?_|(refine sC ?_ ?_<;>intro hb<;>try omega)|fail)
      refine ⟨i+1,_,_,?_,?_,?_,⟨st.take (st.length - j)++ [(⟨i,cf (bo st j),decide (n.kind=3)⟩:Pt)],vs++ [((bo st j).map Pt.root,cf (bo st j))],A',cap',H1,rfl,rfl,⟨?_,?_,?_,?_,?_,?_⟩⟩⟩
      ·
       omega
      ·
       have e1:(st.take (st.length - j)++ [(⟨i,cf (bo st j),decide (n.kind=3)⟩:Pt)]).length=st.length - j+1:=by simp
       rw [e1]
       exact sB
      ·
       have e1:(st.take (st.length - j)++ [(⟨i,cf (bo st j),decide (n.kind=3)⟩:Pt)]).length=st.length - j+1:=by simp
       rw [e1]
       exact hM1.rot
      ·
       omega
      ·
       simp [hvl]
      ·
       exact hI1
      ·
       exact hrest
      ·
       intro p hp
       rcases Ru.1 hp with hp|hp
       ·
        exact ⟨Nat.lt_succ_of_lt (hok p (Sy hp)).1,(hok p (Sy hp)).2⟩
       ·
        have e:p=⟨i,cf (bo st j),decide (n.kind=3)⟩:=by simpa using hp
        subst e
        exact ⟨TG i,by show cf (bo st j)≤32;omega⟩
      ·
       simp;omega
   ·
    have hfie: ∀ w,aA Tryz.prog 305 [.agg (bN n).toArray] w (.int .i64 (bQ n)):=fun w=>zf n w
    rw [if_pos hfe] at hrest
    repeat' (first|(apply ak;exact rfl;apply aj;exact rfl;exact rfl;exact hlt)|(apply ak;exact rfl;apply aC;exact rfl;exact hrn;exact rfl)|(apply aa;exact rfl;exact rfl;(intro w hm;exact hfie w))|refine sT ?_|refine sM fun _=> ?_|(refine sC ?_ ?_<;>intro hb<;>try omega)|fail)
    refine cA (.inl rfl) Tryz.results277 rfl (.drop .hd (.drop .hd (.refl _))) ?_
    rw [hrest]
    exact ⟨rfl,hinv⟩
  ·
   have e:i=L.length:=by omega
   subst e
   rw [RK,fC] at hrest
   repeat' (first|refine sT ?_|refine sM fun _=> ?_|(refine sC ?_ ?_<;>intro hb<;>try omega)|fail)
   ·
    refine cA (.inl rfl) Tryz.results277 rfl (.drop .hd (.refl _)) ?_
    rw [hrest,if_neg (by omega)]
    exact ⟨rfl,hinv⟩
   ·
    refine cA (.inl rfl) Tryz.results277 rfl (.drop .hd (.refl _)) ?_
    rw [hrest,if_pos (by omega)]
    exact ⟨rfl,hinv⟩
def kD (L:List Nd) (wide:Bool):Int × List mV:=
 if 256<L.length then (5,[]) else if L.length=0 then (4,[])
 else if (fC L L 0 [] []).1≠0 then fC L L 0 [] []
 else if wide=false∧iX L (L.length - 1)=3 then (4,(fC L L 0 [] []).2) else (0,(fC L L 0 [] []).2)
set_option maxHeartbeats 2000000 in
theorem Mo (L:List Nd) (wide:Bool) (tv:Value) (w0:World) (ht:Reads w0 tv L.length (L.flatMap bN)) (f:FuncId) [hf:Callable Tryz.prog f] (caps:List Value) (Inv:List mV→List Blk→Prop) (hV:Gl L.length w0 f caps Inv)
  (H:List Blk) (hI:Inv [] H):FnIn Tryz.prog 227 [tv,.bool wide,.func (.func f) #[] caps.toArray] w0 H fun v H' =>v= .int .i64 (kD L wide).1∧Inv (kD L wide).2 H' :=by
 have ht' :=ht
 obtain ⟨At,ct,rfl,ht1,ht2,ht3⟩:=ht
 refine eQ Tryz.func227 rfl Tryz.ntmps227 rfl ?_
 by_cases h256:256<L.length
 ·
  repeat' (first|refine sT ?_|refine sM fun _=> ?_|(refine sC ?_ ?_<;>intro hb<;>try omega)|fail)
  refine cA (.inl rfl) Tryz.results227 rfl (.refl _) ?_
  rw [kD,if_pos h256]
  exact ⟨rfl,hI⟩
 by_cases h0:L.length=0
 ·
  repeat' (first|refine sT ?_|refine sM fun _=> ?_|(refine sC ?_ ?_<;>intro hb<;>try omega)|fail)
  refine cA (.inl rfl) Tryz.results227 rfl (.refl _) ?_
  rw [kD,if_neg h256,if_pos h0]
  exact ⟨rfl,hI⟩
 obtain ⟨gt,ot,rfl,hrt⟩:=ht3 (by omega)
 have hw:=Iu L (by omega) (by omega) _ w0 ht' f caps Inv hV H hI
 have hrl:=hrt.elem dJ (L.length - 1) (by omega)
 have hk:iX L (L.length - 1)=(L[L.length - 1]'(by omega)).kind:=iW _
 simp only [kD,if_neg h256,if_neg h0,hk]
 generalize fC L L 0 [] []=r at hw
 generalize (L[L.length - 1]'(by omega))=nl at hrl
 repeat' (first|(apply ax;exact rfl;exact rfl;exact hw;(rintro v H' ⟨rfl,hI'⟩))|(apply ak;exact rfl;apply eC;exact rfl;exact rfl;omega;omega)|(apply ak;exact rfl;apply aj;exact rfl;exact rfl;omega)|(apply ak;exact rfl;apply dE (off:=0);exact rfl;exact hrl;exact rfl)|refine sT ?_|refine sM fun _=> ?_|(refine sC ?_ ?_<;>intro hb<;>try omega)|fail)
 all_goals refine cA (.inl rfl) Tryz.results227 rfl (.refl _) ?_
 all_goals simp_all
theorem vu (N:Nat) (w0:World) (H0:List Blk):Gl N w0 228 [] fun _ H=>H=H0:=by
 rintro vs kids d A cap _ F rfl _ _ _
 refine eQ Tryz.func228 rfl Tryz.ntmps228 rfl ?_
 repeat' (first|refine sT ?_|refine sM fun _=> ?_|(refine sC ?_ ?_<;>intro hb<;>try omega)|fail)
 refine gC (.inr rfl) Tryz.results228 (.drop .hd (.refl _)) ⟨_,rfl,.refl _⟩
def d9 (L:List Nd):Int:=(kD L false).1
theorem Eo (L:List Nd) (tv:Value) (w:World) (ht:Reads w tv L.length (L.flatMap bN)):aA Tryz.prog 179 [tv] w (.int .i64 (d9 L)):=by
 have ht' :=ht
 obtain ⟨At,ct,rfl,ht1,ht2,ht3⟩:=ht
 refine aq Tryz.func179 rfl Tryz.ntmps179 rfl ?_
 have hw:=Mo L false _ w ht' 228 [] (fun _ H=>H= []) (vu _ w []) [] rfl
 repeat' (first|(apply ax;exact rfl;exact rfl;exact hw;(rintro v H' ⟨rfl,rfl⟩))|refine sT ?_|refine sM fun _=> ?_|(refine sC ?_ ?_<;>intro hb<;>try omega)|fail)
 (refine rT1 ?_)
 rfl
def HH (vs:List mV):Nat:=(vs.getLast?.map (·.2)).getD 0
def lz (L:List Nd):Int × Int:=if d9 L≠0 then (0,d9 L) else ((HH (kD L false).2:Nat),0)
def cU (ks:List Nat):List Value:=ks.map fun (k:Nat)=> .int .i64 (k:Int)
theorem AJ (ks:List Nat):(cU ks).length=ks.length:=by simp [cU]
theorem y8 {ks:List Nat} {i:Nat} (h:i<ks.length):(cU ks)[i]? =some (.int .i64 (ks[i]:Int)):=by simp [cU,h]
end Go.SL
namespace Go.SL
open Go Go.Proofs
attribute [local irreducible] W WL WQ WG WA VOp thn blk bp aR aF FnIn WLI WR WT bE pY jT mB
theorem KE (A:Option Addr) (m c:Nat) (w:World):aF Tryz.prog 243 [.slice A m c] w fun v H=> ∃ g,v= .func (.func 290) #[] #[.pointer (some ⟨g,0,none⟩)]∧H= [.box g 128 [.slice A m c]]:=by
 refine aq Tryz.func243 rfl Tryz.ntmps243 rfl ?_
 repeat' (first|refine sT ?_|refine sM fun _=> ?_|(refine sC ?_ ?_<;>intro hb<;>try omega)|fail)
 refine cA (.inl rfl) Tryz.results243 rfl (MSub.refl _) ?_
 exact ⟨_,rfl,rfl⟩
def iH (L:List Nd):List Us × Int:=if d9 L≠0 then ([],d9 L) else (ed L,0)
theorem ic: ∀ (L:List Nd) (i:Nat),(eH L i).length≤L.length
 | [],_=>Re _
 |n::r,i=>by
  have:=ic r (i+1)
  unfold eH
  cases jO n<;>simp<;>omega
theorem yG (L:List Nd):(ed L).length≤L.length:=ic L 0
theorem pg {α:Type} (f:α→List Value) (xs:List α) (x:α):(xs++ [x]).flatMap f=xs.flatMap f++f x:=by simp
set_option maxHeartbeats 4000000 in
theorem Om (L:List Nd) (tv:Value) (w:World) (ht:Reads w tv L.length (L.flatMap bN)) (hlen:L.length≤1000000):
  aF Tryz.prog 200 [tv] w fun v H=> ∃ A cap,v= .tuple #[sl A (iH L).1.length cap,.int .i64 (iH L).2]∧H= [.own A 159 6 (iH L).1.length cap ((iH L).1.flatMap dI)]:=by
 have ht' :=ht
 obtain ⟨Al,cl,rfl,hl1,hl2,hl3⟩:=ht
 refine oC Tryz.func200 rfl Tryz.ntmps200 (by rfl) ?_
 have hck:=fun w0 (hm:Reads w0 (.slice Al L.length cl) L.length (L.flatMap bN))=>Eo L _ w0 hm
 unfold iH
 generalize d9 L=e at hck
 refine qG ?_
 refine aB 159 6 ?_
 repeat' (first|(apply aa;exact rfl;exact rfl;(intro w' hm;exact hck w' (ht'.of_w0 hm)))|(apply ay;exact rfl;exact rfl;(intro w' hm;exact KE _ _ _ w');(rintro v H' ⟨gu,rfl,rfl⟩))|refine sT ?_|refine sR ?_|refine sM fun _=> ?_|(refine sC ?_ ?_<;>intro hb<;>try omega)|(refine sCR ?_ ?_<;>intro hb<;>try omega)|fail)
 ·
  refine HR ?_
  refine dS (.inl rfl) Tryz.results200 rfl rfl (H' := [.own none 159 6 0 0 []]) mS ⟨none,0,?_⟩
  rw [if_pos hb]
  exact ⟨rfl,rfl⟩
 rename_i gb
 rw [if_neg hb]
 have hul:=yG L
 refine u6 (ps:= [14]) (us:=ed L) (encs:=fun u=> [.agg (dI u).toArray]) (Hc:= [.box gu 128 [.slice Al L.length cl]]) (HU0:= [.box gb 156 [.slice none 0 0],.own none 159 6 0 0 []]) rfl (fun _=>rfl) rfl (KD L _ w ht' hlen gu)
  (fun pre HU=> ∃ A cap,HU= [.box gb 156 [sl A pre.length cap],.own A 159 6 pre.length cap (pre.flatMap dI)]) (fun _=>False) ?_ ⟨none,0,rfl⟩ ?_ ?_ ?_
 ·
  exact mS
 ·
  rintro l pre u post hus _ ⟨A,cap,rfl⟩ F F'
  have hlu:=congrArg List.length hus
  simp only [QT,Rx] at hlu
  change WR _ _ _ l _ _ ((14,Value.agg (dI u).toArray)::_) (.box gb 156 [sl A pre.length cap]:: .own A 159 6 pre.length cap (pre.flatMap dI)::F)
  repeat' (first|refine sT ?_|refine sR ?_|refine sM fun _=> ?_|(refine sC ?_ ?_<;>intro hb<;>try omega)|(refine sCR ?_ ?_<;>intro hb<;>try omega)|fail)
  rename_i g6
  refine xC ⟨[.box g6 159 (dI u),.box gb 156 [sl A pre.length cap],.own A 159 6 pre.length cap (pre.flatMap dI)],MSub.refl _,?_⟩
  change WR _ _ _ l _ _ _ (.box g6 159 (dI u):: .box gb 156 [sl A pre.length cap]:: .own A 159 6 pre.length cap (pre.flatMap dI)::F')
  repeat' (first|(apply aQ;(iterate 3 exact rfl);(repeat first|exact .hd|apply Sel.tl|apply In.tl);(intro w hm;exact hm.cells_own (by (repeat first|exact .hd|apply Sel.tl|apply In.tl)));exact rfl;(simp [Value.oneCell',sl]);omega;(simp only [maxLen];omega);(intro A' cap' hA'))|refine sT ?_|refine sR ?_|refine sM fun _=> ?_|(refine sC ?_ ?_<;>intro hb<;>try omega)|(refine sCR ?_ ?_<;>intro hb<;>try omega)|fail)
  refine zV [.box gb 156 [sl A' (pre.length+1) cap'],.own A' 159 6 (pre.length+1) cap' (pre.flatMap dI++dI u)] ?_ ⟨A',cap',?_⟩
  ·
   change MSub (_::_::F') _
   exact mS
  ·
   rw [pg,QT]
   rfl
 ·
  rintro D _ ⟨A,cap,rfl⟩
  change bE _ _ _ _ _ (jt D:: .box gb 156 [sl A (ed L).length cap]:: .own A 159 6 (ed L).length cap ((ed L).flatMap dI)::_)
  repeat' (first|refine sT ?_|refine sR ?_|refine sM fun _=> ?_|(refine sC ?_ ?_<;>intro hb<;>try omega)|(refine sCR ?_ ?_<;>intro hb<;>try omega)|fail)
  refine xd .hd ?_
  refine dS (.inl rfl) Tryz.results200 rfl rfl (H' := [.own A 159 6 (ed L).length cap ((ed L).flatMap dI)]) mS ⟨A,cap,rfl,rfl⟩
 ·
  rintro D HU h
  exact h.elim
def rel (u:Us):Bool:=decide (0≤u.node)
end Go.SL
