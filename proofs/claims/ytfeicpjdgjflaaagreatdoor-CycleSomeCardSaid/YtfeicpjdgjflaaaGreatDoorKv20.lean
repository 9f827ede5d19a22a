/-
  Lemmas and walks, put together: Cm Pl R1 L1 D9 D10 Pl2 Gu G2a Pl3.
-/
import Derived.Test.YtfeicpjdgjflaaaGreatDoorKv15
import Derived.Test.YtfeicpjdgjflaaaGreatDoorKv19
set_option linter.unusedSimpArgs false
set_option linter.unusedVariables false
set_option maxRecDepth 20000
set_option maxHeartbeats 16000000
namespace Go.SL
open Go
def PlacedN (r:Nat→Nat→Bool):List Nat→Prop
 | []=>True
 |i::S=>(∀ q∈i::S,r i q=false)∧(∀ k∈i::S,(∀ q∈i::S,r k q=false)→i≤k)∧PlacedN r S
theorem tD {r:Nat→Nat→Bool} {n:Nat}: ∀ (m:Nat) (lf:Nat→Bool),(∀ j,j<n→(lf j=true↔j∈mF r n m lf))→(∀ j∈mF r n m lf,j<n)→(mF r n m lf).Nodup→PlacedN r (mF r n m lf)
 |0,_,_,_,_=>trivial
 |m+1,lf,hl,hn,hd=>by
  cases hp:tP r n lf with
  |none=>simp only [mF,hp];trivial
  |some i=>
   simp only [mF,hp] at hl hn hd ⊢;obtain ⟨h1,⟨h2,h3⟩,h4⟩:=yD.1 hp;have hd' :=Xe.1 hd;refine ⟨fun q hq=>h3 q (hn q hq) ((hl q (hn q hq)).2 hq),fun k hk hf=> ?_,tD m _ (fun j hj=> ?_) (fun j hj=>hn j (Vv _ hj)) hd'.2⟩
   ·rcases WY k i with h|h
    ·exact absurd ⟨(hl k (hn k hk)).2 hk,fun q hq hlq=>hf q ((hl q hq).1 hlq)⟩ (h4 k h)
    ·exact h
   ·have:=hl j hj;by_cases e:j=i
    ·subst e;simp only [if_true,V2,false_iff];exact hd'.1
    ·simp only [if_neg e];rw [this,VN];exact ⟨fun h=>h.resolve_left e,.inr⟩
theorem SubN.placed {r:Nat→Nat→Bool} {n:Nat} {l:List Nat} {X:Nx} (S:SubN r n l X):PlacedN r ((cV X).map fun p=>(l[p]?).getD 0):=by
 obtain ⟨h1,h2⟩:=S.topo;have hperm:((cV X).map fun p=>(l[p]?).getD 0).Perm l:=by
  have h3:=h2.map fun p=>(l[p]?).getD 0;have h4:(List.range l.length).map (fun p=>(l[p]?).getD 0)=l:=by
   apply List.ext_getElem
   ·simp
   ·intro i a b;simp [b]
  rwa [h4] at h3
 have hnd:l.Nodup:=S.asc.imp fun h=>by omega
 rw [h1] at hperm ⊢;refine tD _ _ (fun j hj=> ?_) (fun j hj=>S.lt j (hperm.mem_iff.1 hj)) (hperm.nodup_iff.2 hnd);rw [hperm.mem_iff,iy];constructor
 ·rintro ⟨p,hp,rfl,_⟩;exact VL hp
 ·intro h;obtain ⟨p,hp,e⟩:=WM.1 h;exact ⟨p,hp,e,by simp⟩
theorem Rc.last {G:Gr} {c:Rf} {r:Rct} (h:Rc G c r):bH (aU G c) r=true∨ ∃ d∈au G,Rc G c (dU d.col d.row)∧bH (aU G d) r=true:=by
 induction h with
 |use hc h=>exact .inl h
 | @via c d r hc hd h k ih=>
  right
  rcases ih with h1|⟨e,he,h1,h2⟩
  ·exact ⟨d,hd,.use hc h,h1⟩
  ·exact ⟨e,he,.via hc hd h h1,h2⟩
open Classical in
open Classical in
noncomputable def kP (G:Gr) (c:Rf):List Rf:=(au G).filter fun d=>decide (Rc G c (dU d.col d.row))
open Classical in
open Classical in
open Classical in
theorem vp {G:Gr} {c d:Rf}:d∈kP G c↔d∈au G∧Rc G c (dU d.col d.row):=by
 unfold kP;rw [Wx,decide_eq_true_eq]
open Go.Proofs
attribute [local irreducible] FnAt FnIn FnP RW VOp W WA WC WG WL WLI WQ WR WT WX aS aV bg bi blk ceP scp thn
section
variable {w0:World} {s:aC} {H:List Blk} {ty t' :TypeId} {x y:Operand}
theorem Bn {a b:Rct} {c:Bool} (h:decide (a=b)=c) (hx:ev s x=some (.agg (bz a).toArray)) (hy:ev s y=some (.agg (bz b).toArray)):VOp Tryz.prog w0 s H (.binOp .eql 53 x y t') ty (.bool c):=by
 have h1:=TA (w0:=w0) (H:=H) (ty:=ty) (t' :=t') hx hy;rwa [KO,h] at h1
theorem Bj {a b:Rct} {c:Bool} (h:decide (a=b)=c) (hx:ev s x=some (.agg (bz a).toArray)) (hy:ev s y=some (.agg (bz b).toArray)):VOp Tryz.prog w0 s H (.binOp .neq 53 x y t') ty (.bool (!c)):=by
 have h1:=Tv (w0:=w0) (H:=H) (ty:=ty) (t' :=t') hx hy;rwa [KO,h] at h1
end
theorem Na {α:Type} [DecidableEq α] {L:List α} {i:Nat} (h:i<L.length) (a:α):decide (a∈L.drop i)=(decide (L[i]=a)||decide (a∈L.drop (i+1))):=by
 rw [Vy h,V3];simp only [decide_eq_true_eq,Xt,VN];constructor
 ·rintro (rfl|h)
  ·exact .inl rfl
  ·exact .inr h
 ·rintro (rfl|h)
  ·exact .inl rfl
  ·exact .inr h
end Go.SL
namespace Go.SL
open Go Go.Proofs
theorem MSub.appC (X Hc H1:List Blk):MSub (H1++(Hc++X)) (X++(Hc++H1)):=⟨[],by
 rw [VB];refine List.Perm.trans ?_ (List.Perm.append_left H1 (VV (l₁:=X) (l₂:=Hc)));refine List.Perm.trans (List.Perm.append_left X (VV (l₁:=Hc) (l₂:=H1))) ?_;rw [← VC,← VC];exact (VV (l₁:=X) (l₂:=H1)).append_right Hc⟩
theorem MSub.appD (X Hc H2:List Blk):MSub (X++(Hc++H2)) (H2++(Hc++X)):=MSub.appC H2 Hc X
theorem MSub.appE (X Hc H2:List Blk):MSub (H2++Hc) (H2++(Hc++X)):=⟨X,by rw [VC]⟩
theorem MSub.tailX (X Hc H2:List Blk) (b:Blk):MSub (H2++(Hc++X)) (H2++(Hc++b::X)):=⟨[b],by
 rw [VC,VC];refine List.Perm.append_left H2 (List.Perm.append_left Hc ?_);exact (VV (l₁:= [b]) (l₂:=X))⟩
section
variable {P:Program} {n:Fr} {w0:World} {Q:cd} {s:aC} {H:List Blk} {ty:TypeId}
theorem Ve {c:Code} {A:Option Addr} {m cap:Nat} {xs:List Value} {R:List Blk} (h:rdIn R (.slice A m cap) m xs) (hs:MSub R H) (hm:0<m)
 (k: ∀ g o,A=some ⟨g,o,none⟩→(∀ w,Mem w0 w R→Ro w g o xs)→W P n w0 c Q s H):W P n w0 c Q s H:=fun a w hst hmem=>by
 have key: ∀ w',Mem w0 w' R→ ∃ g o,A=some ⟨g,o,none⟩∧Ro w' g o xs:=fun w' hm' =>by
  obtain ⟨A',cap',he,_,_,h3⟩:=h _ w' hm';injection he with h4 h5 h6;subst h4;exact h3 hm
 obtain ⟨g,o,rfl,_⟩:=key w (hs.use hmem);refine k g o rfl (fun w' hm' => ?_) a w hst hmem;obtain ⟨g',o',he,hr⟩:=key w' hm';injection he with he;injection he with h1 h2;subst h1;subst h2;exact hr
theorem H6 {x:Operand} {t g o off m:Nat} {xs ys:List Value} {R:List Blk} [Agg P t m] (hx:ev s x=some (.pointer (some ⟨g,o+off,none⟩))) (hc: ∀ w,Mem w0 w R→Ro w g o xs) (hs:MSub R H) (hv:(xs.drop off).take m=ys) (hl:ys.length=m):
 VOp P w0 s H (.load t x) ty (.agg ys.toArray):=fun ρ w _ _ _ _ hρ hm=>by
 subst hv;have hcc:Cells w g (o+off) ((xs.drop off).take m):=((hc w (hs.use hm)).cells.drop (k:=off)).take (k:=m);simp [execOp,hρ x _ hx,Instr.loadAt,Instr.sureAddr,ic (P:=P) hl hcc]
end
attribute [local irreducible] W WL WQ WG WA WX WLI WR WT WC VOp RW thn blk bg scp aS aV bi FnAt FnIn FnP ceP
def j5 (E:List En) (a:Rf):List (Rf × Us):=(bf E a).uses.map fun u=>(a,u)
def zT (E:List En):List (Rf × Us):=(iI (E.map En.m)).flatMap (j5 E)
def SV (x:Rf × Us):List Value:= [bJ x.1,.agg (bz x.2.rect).toArray]
theorem Sw (gg gm clock:Nat) (E:List En) (hok:MapOk (E.map En.m) clock) (hlen:E.length≤1000) (R:List Blk) (w0:World) (hE: ∀ e∈E,EnOk R e) (g:Nat):
 SD Tryz.prog 130 [.pointer (some ⟨g,0,none⟩)] w0 (.box g 25 [.pointer (some ⟨gg,0,none⟩)]::(gB gg gm (E.map En.m) clock++R)) (zT E) SV:=by
 intro l I J H0 hy h0;refine FnIn.msub (H' :=(.box g 25 [.pointer (some ⟨gg,0,none⟩)]::(gB gg gm (E.map En.m) clock++R))++H0) ?_ (MSub.appC H0 [] _);refine bE Tryz.func130 rfl Tryz.ntmps130 rfl ?_;have hF:=fun R=>qB gg gm clock (E.map En.m) hok (by simp;omega) R w0;have hfl:(iI (E.map En.m)).length≤1000:=by rw [pq];simpa using hlen
 have hl2:(E.map En.m).length=(iI (E.map En.m)).length:=(pq _).symm;unfold zT at hy ⊢;rw [hl2] at hF;generalize iI (E.map En.m)=F at hF hfl hy ⊢;have hall: ∀ us,us=F.flatMap (j5 E)→F.flatMap (j5 E)=us:=fun us h=>h.symm;unfold gB at hy ⊢;repeat' (first|apply ak (f:=22);exact rfl;exact rfl;exact FnIn.msub (hF (.box g 25 [.pointer (some ⟨gg,0,none⟩)]::(R++H0))) (by unfold gB;exact mS);rintro _ _ ⟨A0,c0,rfl,rfl⟩|refine zZB ?_|refine sM fun _=>?_|refine sC ?_ ?_<;>intro hb<;>try omega|fail)
 unfold gB
 refine ay [0,1,8,9] rfl (fun y:Nat × List (Rf × Us) × List Blk=> [(10,.int .i64 (y.1:Int))])
  (fun y=> .own A0 35 2 F.length c0 (F.flatMap aw)::((.box g 25 [.pointer (some ⟨gg,0,none⟩)]::([.box gg 141 [.map (some gm)],.obj gm (cJ bJ (E.map En.m) clock)]++R))++y.2.2))
  (fun y=>y.1≤F.length∧F.flatMap (j5 E)=y.2.1++(F.drop y.1).flatMap (j5 E)∧I y.2.1 y.2.2) (fun y=>F.length - y.1) (0,[],H0) ⟨by omega,rfl,h0⟩ ?_ ?_ ?_
 ·exact sB
 ·exact mS
 rintro ⟨i,pre,H1⟩ ⟨hi,hus,hI⟩;dsimp only at hi hus hI ⊢;by_cases hlt:i<F.length
 ·have hv0:((F.flatMap aw).drop (i*2)).take 2=aw F[i]:=cj bS F i hlt;rw [Vy hlt,VE] at hus;have hl:=Ji E F[i];have hoke:=qR hE F[i];have hrow:j5 E F[i]=(bf E F[i]).uses.map fun u=>(F[i],u):=rfl;rw [hrow] at hus;generalize F[i]=a at hv0 hl hoke hus;generalize bf E a=e at hl hoke hus;refine ba (A:=A0) pK (by omega) fun g0 hA0=> ?_;subst hA0;repeat' (first|apply ai;exact rfl;apply aa;exact rfl;exact rfl;exact hlt|apply ai;exact rfl;apply aD (ys:=aw a);exact rfl;exact pK;rw [VD];exact hv0;exact rfl|apply dC;(iterate 3 exact rfl);apply eO;exact rfl|apply lO (id:=3) [] [];kernel_rfl;kernel_rfl;kernel_rfl|apply dC;(iterate 3 exact rfl);apply kv (enc:=bJ) (z:=uK);exact rfl;exact rfl;exact pK;exact hl|apply dC;(iterate 3 exact rfl);apply eu;exact rfl;exact rfl|refine zZI ?_|refine sM fun _=>?_|refine sC ?_ ?_<;>intro hb<;>try omega|refine sCW ?_ ?_<;>intro hb<;>try omega|fail)
  rename_i g4;have hul:=hoke.ul
  refine ay [0,1,8,9,10,4,20,21] rfl (fun y:Nat × List (Rf × Us) × List Blk=> [(22,.int .i64 (y.1:Int))])
   (fun y=> .box g4 35 (aw a):: .own (some g0) 35 2 F.length c0 (F.flatMap aw)::((.box g 25 [.pointer (some ⟨gg,0,none⟩)]::([.box gg 141 [.map (some gm)],.obj gm (cJ bJ (E.map En.m) clock)]++R))++y.2.2))
   (fun y=>y.1≤e.uses.length∧F.flatMap (j5 E)=y.2.1++((e.uses.drop y.1).map (fun u=>(a,u))++(F.drop (i+1)).flatMap (j5 E))∧I y.2.1 y.2.2) (fun y=>e.uses.length - y.1) (0,pre,H1) ⟨by omega,hus,hI⟩ sB (by exact MSub.refl _) ?_
  rintro ⟨k,pre2,H2⟩ ⟨hk,hus2,hI2⟩;dsimp only at hk hus2 hI2 ⊢;by_cases hkt:k<e.uses.length
  ·rw [Vy hkt,VU,Vp] at hus2;have hv1:((e.uses.flatMap cw).drop (k*6)).take 6=cw e.uses[k]:=cj jx e.uses k hkt;generalize e.uses[k]=u at hus2 hv1;have hsubR: ∀ X:List Blk,MSub R (X++((.box g 25 [.pointer (some ⟨gg,0,none⟩)]::([.box gg 141 [.map (some gm)],.obj gm (cJ bJ (E.map En.m) clock)]++R))++H2)):=fun X=>by
    refine MSub.trans ?_ (MSub.appR _ X);refine MSub.drop .hd (MSub.drop .hd (MSub.drop .hd ?_));exact MSub.appL _ _
   refine Ve hoke.uses (hsubR [.box g4 35 (aw a),.own (some g0) 35 2 F.length c0 (F.flatMap aw)]) (by omega) fun gu ou hua hur=> ?_;have huv:e.uv= .slice (some ⟨gu,ou,none⟩) e.uses.length e.uc:=by unfold En.uv;rw [hua]
   rw [huv];repeat' (first|apply ai;exact rfl;apply aa;exact rfl;exact rfl;exact hkt|apply ai;exact rfl;apply H6 (ys:=cw u);exact rfl;exact hur;exact hsubR [.box g4 35 (aw a),.own (some g0) 35 2 F.length c0 (F.flatMap aw)];exact hv1;exact rfl|apply nG (id:=6)|apply Nv;exact rfl;exact rfl;apply pM (ys:=bz u.rect);exact rfl;exact pK;exact rfl;exact rfl|refine sT ?_|refine sS ?_|refine sI ?_|refine sN ?_|refine sM fun _=>?_|refine sC ?_ ?_<;>intro hb<;>try omega|fail)
   rename_i g6;(with_reducible apply lK)
   ·exact rfl
   ·exact rfl
   ·exact rfl
   ·exact MSub.appC [.box g6 128 (cw u),.box g4 35 (aw a),.own (some g0) 35 2 F.length c0 (F.flatMap aw)] (.box g 25 [.pointer (some ⟨gg,0,none⟩)]::([.box gg 141 [.map (some gm)],.obj gm (cJ bJ (E.map En.m) clock)]++R)) H2
   ·exact fun w hm=>hy pre2 (a,u) _ hus2 H2 _ hI2 w hm
   intro bb H3 hq;cases bb
   ·repeat' first|refine sT ?_|refine sS ?_|refine sI ?_|refine sM fun _=>?_|refine sC ?_ ?_<;>intro hb<;>try omega|fail
    exact iO eIO Tryz.results130 (MSub.appE [.box g6 128 (cw u),.box g4 35 (aw a),.own (some g0) 35 2 F.length c0 (F.flatMap aw)] (.box g 25 [.pointer (some ⟨gg,0,none⟩)]::([.box gg 141 [.map (some gm)],.obj gm (cJ bJ (E.map En.m) clock)]++R)) H3) ⟨H3,.inr ⟨_,hq⟩,MSub.refl _⟩
   ·repeat' first|refine sT ?_|refine sS ?_|refine sI ?_|refine sN ?_|refine sM fun _=>?_|refine sC ?_ ?_<;>intro hb<;>try omega|fail
    refine ⟨(k+1,_,H3),⟨hkt,hus2.trans (by rw [List.append_assoc];rfl),hq⟩,(by dsimp only;omega),?_,?_,?_⟩
    ·exact sB
    ·exact sB
    ·dsimp only;exact MSub.trans (MSub.appD [.box g4 35 (aw a),.own (some g0) 35 2 F.length c0 (F.flatMap aw)] (.box g 25 [.pointer (some ⟨gg,0,none⟩)]::Blk.box gg 141 [.map (some gm)]::Blk.obj gm (cJ bJ (E.map En.m) clock)::R) H3) (MSub.tailX _ _ _ _)
  ·have e2:k=e.uses.length:=by omega
   subst e2;rw [V8,Wv,Vq] at hus2;repeat' (first|refine zZA ?_|refine sM fun _=>?_|refine sC ?_ ?_<;>intro hb<;>try omega|fail)
   refine ⟨(i+1,pre2,H2),⟨hlt,hus2,hI2⟩,(by dsimp only;omega),?_,?_,?_⟩
   ·exact sB
   ·exact sB
   ·exact MSub.drop .hd (MSub.refl _)
 ·have e2:i=F.length:=by omega
  subst e2;rw [V8,VZ,VB] at hus;repeat' (first|refine zZB ?_|refine sM fun _=>?_|refine sC ?_ ?_<;>intro hb<;>try omega|fail)
  refine iO (.inr rfl) Tryz.results130 (MSub.drop .hd (MSub.appS (.box g 25 [.pointer (some ⟨gg,0,none⟩)]::([.box gg 141 [.map (some gm)],.obj gm (cJ bJ (E.map En.m) clock)]++R)) H1)) ⟨H1,.inl ?_,MSub.refl _⟩;rw [hus];exact hI
attribute [local irreducible] py r9 wK
def bT (r:Rct) (out:List Rf) (x:Rf × Us):List Rf:=if lS r x.2 && (match out.getLast? with|none=>true|some b=>decide (b≠x.1)) then out++ [x.1] else out
def uT (E:List En) (r:Rct):List Rf:=if jr r≠0 then [] else (zT E).foldl (bT r) []
theorem oL (r:Rct) (out:List Rf) (x:Rf × Us):bT r out x=if lS r x.2 && (match out.getLast? with|none=>true|some b=>decide (b≠x.1)) then out++ [x.1] else out:=rfl
theorem Aj (r:Rct) (out:List Rf) (x:Rf × Us):(bT r out x).length≤out.length+1:=by
 unfold bT;generalize (lS r x.2 && (match out.getLast? with|none=>true|some b=>decide (b≠x.1)))=c;cases c<;>simp
theorem ru (r:Rct): ∀ (us:List (Rf × Us)) (out:List Rf),(us.foldl (bT r) out).length≤out.length+us.length
 | [],_=>VA _
 |x::us,out=>by
  have h1:=ru r us (bT r out x);have h2:=Aj r out x;simp only [Wy,Vw];omega
theorem Sx (x:Value) (g0:Nat) (w:World) (hx:x= .pointer (some ⟨g0,0,none⟩)):FnAt Tryz.prog 78 [x] w fun v H=> ∃ g,v= .func (.func 130) #[] #[.pointer (some ⟨g,0,none⟩)]∧H= [.box g 25 [x]]:=by
 refine aA Tryz.func78 rfl Tryz.ntmps78 rfl ?_;subst hx;repeat' (first|refine sT ?_|refine sM fun _=>?_|refine sC ?_ ?_<;>intro hb<;>try omega|fail)
 rename_i g;exact bp eIO rfl rfl (.refl _) ⟨g,rfl,rfl⟩
theorem Qc (gg gm clock:Nat) (E:List En) (r:Rct) (hok:MapOk (E.map En.m) clock) (hlen:E.length≤1000) (hal:(zT E).length≤1000000) (R:List Blk) (w0:World) (hE: ∀ e∈E,EnOk R e):
 FnIn Tryz.prog 26 [.pointer (some ⟨gg,0,none⟩),.agg (bz r).toArray] w0 (gB gg gm (E.map En.m) clock++R) fun v H=> ∃ A cap,v=sl A (uT E r).length cap∧H= .own A 35 2 (uT E r).length cap ((uT E r).flatMap aw)::(gB gg gm (E.map En.m) clock++R):=by
 refine GS Tryz.func26 rfl Tryz.ntmps26 (by rfl) ?_;have hrc:=fun w=>lh r w;unfold uT;refine s6 ?_;refine aI 35 2 ?_;by_cases hre:jr r≠0
 ·rw [if_pos hre];repeat' (first|apply ag;exact rfl;exact rfl;intro w hm;exact hrc w|refine sT ?_|refine sS ?_|refine sR ?_|refine sM fun _=>?_|refine sC ?_ ?_<;>intro hb<;>try omega|refine sCR ?_ ?_<;>intro hb<;>try omega|fail)
  all_goals first
   |omega
   | (refine KS ?_
      exact bp eIO rfl rfl (H' := .own none 35 2 0 0 []::(gB gg gm (E.map En.m) clock++R)) mS ⟨none,0,rfl,rfl⟩)
 rw [if_neg hre];have hre0:jr r=0:=by omega
 rw [hre0] at hrc;repeat' (first|apply ag;exact rfl;exact rfl;intro w hm;exact hrc w|apply aJ (f:=78);exact rfl;exact rfl;intro w' hm;exact Sx _ gg w' rfl;rintro _ _ ⟨g,rfl,rfl⟩|refine sT ?_|refine sS ?_|refine sR ?_|refine sM fun _=>?_|refine sC ?_ ?_<;>intro hb<;>try omega|refine sCR ?_ ?_<;>intro hb<;>try omega|fail)
 rename_i g3 g5
 refine xz (ps:= [19,20]) (us:=zT E) (encs:=SV) (Hc:= .box g 25 [.pointer (some ⟨gg,0,none⟩)]::(gB gg gm (E.map En.m) clock++R)) (HU0:= [.box g5 23 [.slice none 0 0],.own none 35 2 0 0 [],.box g3 53 (bz r)]) rfl (fun _=>rfl) rfl (Sw gg gm clock E hok hlen R w0 hE g)
  (fun pre HU=> ∃ A cap,(0<(pre.foldl (bT r) []).length→ ∃ ga,A=some ga)∧HU= [.box g5 23 [sl A (pre.foldl (bT r) []).length cap],.own A 35 2 (pre.foldl (bT r) []).length cap ((pre.foldl (bT r) []).flatMap aw),.box g3 53 (bz r)]) (fun _=>False) ?_ ⟨none,0,by simp,rfl⟩ ?_ ?_ ?_
 ·exact mS
 ·rintro l pre ⟨at_,u⟩ post hus _ ⟨A,cap,hA,rfl⟩ F F';have hlu:=congrArg List.length hus;simp only [Vn,Vw] at hlu;have hol:=ru r pre [];have hfold:(pre++ [(at_,u)]).foldl (bT r) []=bT r (pre.foldl (bT r) []) (at_,u):=by rw [Yb];rfl
  generalize pre.foldl (bT r) []=out at hA hol hfold ⊢;simp only [WN,VD] at hol;change WR _ _ _ l _ _ ((20,Value.agg (bz u.rect).toArray)::(19,Value.agg (aw at_).toArray)::_) (.box g5 23 [sl A out.length cap]:: .own A 35 2 out.length cap (out.flatMap aw):: .box g3 53 (bz r)::F);repeat' (first|refine zZL ?_|refine sM fun _=>?_|refine sC ?_ ?_<;>intro hb<;>try omega|refine sCR ?_ ?_<;>intro hb<;>try omega|fail)
  rename_i g6 g7;refine zQ ⟨[.box g7 53 (bz u.rect),.box g6 35 (aw at_),.box g5 23 [sl A out.length cap],.own A 35 2 out.length cap (out.flatMap aw),.box g3 53 (bz r)],MSub.refl _,?_⟩;change WR _ _ _ l _ _ _ (.box g7 53 (bz u.rect):: .box g6 35 (aw at_):: .box g5 23 [sl A out.length cap]:: .own A 35 2 out.length cap (out.flatMap aw):: .box g3 53 (bz r)::F');have hmeet:=fun w=>SG u.rect r w;have hto:lS r u=(qf u.rect r).2:=rfl;generalize qf u.rect r=mt at hmeet hto;obtain ⟨mr,mb⟩:=mt;dsimp only at hto;rw [oL] at hfold;simp only [hto] at hfold
  cases mb with
  |false=>
    simp only [WI,V2,if_false] at hfold;repeat' (first|apply ag;exact rfl;exact rfl;intro w hm;exact hmeet w|apply (xA (id:=8) [] [] _);kernel_rfl;kernel_rfl;kernel_rfl;exact rfl;exact MSub.refl _|refine sT ?_|refine sS ?_|refine sR ?_|refine sW ?_|refine sM fun _=>?_|refine sC ?_ ?_<;>intro hb<;>try omega|refine sCR ?_ ?_<;>intro hb<;>try omega|refine sCW ?_ ?_<;>intro hb<;>try omega|fail)
    all_goals
     refine qK [.box g5 23 [sl A out.length cap],.own A 35 2 out.length cap (out.flatMap aw),.box g3 53 (bz r)] ?_ ⟨A,cap,?_⟩
     ·change MSub (_::_::_::F') _;exact mS
     ·rw [hfold];exact ⟨hA,rfl⟩
  |true=>
    simp only [Wp] at hfold;have hsn: ∀ b:Rf,(out++ [b]).flatMap aw=out.flatMap aw++aw b:=fun b=>by simp
    cases hlast:out.getLast? with
    |none=>
      have hnil:out= []:=List.getLast?_eq_none_iff.1 hlast;subst hnil;simp only [hlast,if_true] at hfold;repeat' (first|apply ag;exact rfl;exact rfl;intro w hm;exact hmeet w|apply (xA (id:=8) [] [] _);kernel_rfl;kernel_rfl;kernel_rfl;exact rfl;exact MSub.refl _|apply dB;(iterate 3 exact rfl);(repeat first|exact .hd|apply Sel.tl|apply In.tl);intro w hm;exact hm.cells_own (by (repeat first|exact .hd|apply Sel.tl|apply In.tl));exact rfl;simp [Value.oneCell',sl];omega;simp only [maxLen];omega;intro A' cap' hA'|refine sT ?_|refine sS ?_|refine sR ?_|refine sW ?_|refine sN ?_|refine sWN ?_|refine sM fun _=>?_|refine sC ?_ ?_<;>intro hb<;>try omega|refine sCR ?_ ?_<;>intro hb<;>try omega|refine sCW ?_ ?_<;>intro hb<;>try omega|fail)
      refine qK [.box g5 23 [sl A' (0+1) cap'],.own A' 35 2 (0+1) cap' ([]++aw at_),.box g3 53 (bz r)] ?_ ⟨A',cap',?_⟩
      ·change MSub (_::_::_::F') _;exact mS
      ·rw [hfold];exact ⟨fun _=>hA' (by simp),rfl⟩
    |some b=>
      simp only [hlast] at hfold;have hne:out≠ []:=fun h=>by rw [h] at hlast;cases hlast
      have hpos:0<out.length:=XR.2 hne;obtain ⟨ga,rfl⟩:=hA hpos;have hb1:((out.flatMap aw).drop ((out.length - 1)*2)).take 2=aw b:=by
       rw [cj bS out (out.length - 1) (by omega)];have:=hlast;rw [XG,Vo (by omega)] at this;rw [Option.some.inj this]
      generalize hdec:decide (b≠at_)=c at hfold;repeat' (first|apply ag;exact rfl;exact rfl;intro w hm;exact hmeet w|apply (xA (id:=8) [] [] _);kernel_rfl;kernel_rfl;kernel_rfl;exact rfl;exact MSub.refl _|apply dC;(iterate 3 exact rfl);apply aa (j:=out.length - 1);exact rfl;exact rfl;omega|apply dC;(iterate 3 exact rfl);apply aD (ys:=aw b);exact rfl;exact pK;rw [VD];exact hb1;exact rfl|apply dC;(iterate 3 exact rfl);apply eJ hdec;exact rfl;exact rfl|apply dB;(iterate 3 exact rfl);(repeat first|exact .hd|apply Sel.tl|apply In.tl);intro w hm;exact hm.cells_own (by (repeat first|exact .hd|apply Sel.tl|apply In.tl));exact rfl;simp [Value.oneCell',sl];omega;simp only [maxLen];omega;intro A' cap' hA'|refine sT ?_|refine sS ?_|refine sR ?_|refine sW ?_|refine sN ?_|refine sWN ?_|refine sM fun _=>?_|refine sC ?_ ?_<;>intro hb<;>try omega|refine sCR ?_ ?_<;>intro hb<;>try omega|refine sCW ?_ ?_<;>intro hb<;>try omega|fail)
      ·rw [hb] at hfold;simp only [if_true] at hfold;refine qK [.box g5 23 [sl A' (out.length+1) cap'],.own A' 35 2 (out.length+1) cap' (out.flatMap aw++aw at_),.box g3 53 (bz r)] ?_ ⟨A',cap',?_⟩
       ·change MSub (_::_::_::F') _;exact mS
       ·rw [hfold,hsn,Vn];exact ⟨fun _=>hA' (by simp),rfl⟩
      ·rw [hb] at hfold;simp only [V2,if_false] at hfold;refine qK [.box g5 23 [sl (some ga) out.length cap],.own (some ga) 35 2 out.length cap (out.flatMap aw),.box g3 53 (bz r)] ?_ ⟨some ga,cap,?_⟩
       ·change MSub (_::_::_::F') _;exact mS
       ·rw [hfold];exact ⟨fun _=>⟨ga,rfl⟩,rfl⟩
 ·rintro D _ ⟨A,cap,_,rfl⟩;change bi _ _ _ _ _ (kM D:: .box g5 23 [sl A ((zT E).foldl (bT r) []).length cap]:: .own A 35 2 ((zT E).foldl (bT r) []).length cap (((zT E).foldl (bT r) []).flatMap aw):: .box g3 53 (bz r)::_);repeat' (first|refine zZL ?_|refine sM fun _=>?_|refine sC ?_ ?_<;>intro hb<;>try omega|refine sCR ?_ ?_<;>intro hb<;>try omega|fail)
  refine zw .hd ?_;exact bp eIO rfl rfl mS ⟨A,cap,rfl,rfl⟩
 ·rintro D HU h;exact h.elim
structure DnI (G:Gr) (c:Rf) (seen todo:List Rf):Prop where
 nodup:seen.Nodup
 sound: ∀ d∈seen,d∈au G∧Rc G c (dU d.col d.row)
 from_: ∀ x∈todo,x=c∨x∈seen
 full: ∀ x,(x=c∨x∈seen)→x∈todo∨ ∀ u∈aU G x,∀ d∈au G,kE u.rect d=true→d∈seen
theorem DnI.start (G:Gr) (c:Rf):DnI G c [] [c]:=⟨XN,(fun _ h=>by cases h),(fun x h=> .inl (Vx.1 h)),fun x h=>by
 rcases h with rfl|h
 ·exact .inl Vr
 ·cases h⟩
theorem tz {G:Gr} {x:Rf} {u:Us} (hu:u∈aU G x): ∃ e∈G,e.1=x∧e.2.2=aU G x:=by
 unfold aU mP at hu ⊢
 cases hf:G.find? (fun e=>decide (e.1=x)) with
 |none=>rw [hf] at hu;cases hu
 |some e=>
  have h1:=Y1 hf;simp only [decide_eq_true_eq] at h1;exact ⟨e,X0 hf,h1,rfl⟩
theorem E7 {G:Gr} (h:GrOk G) {x d:Rf} {u:Us} (hu:u∈aU G x) (hd:d∈au G):lS (dU d.col d.row) u=kE u.rect d:=by
 obtain ⟨e,he,h1,h2⟩:=tz hu;exact (vz ((h.ent e he).rect u (by rw [h2];exact hu)) (qN h hd)).symm
theorem DnI.add {G:Gr} (hG:GrOk G) {c:Rf} {seen todo:List Rf} {x d:Rf} {u:Us} (h:DnI G c seen (x::todo)) (hu:u∈aU G x) (hd:d∈au G) (hh:kE u.rect d=true) (hn:d∉seen):
 DnI G c (seen++ [d]) (x::(todo++ [d])):=by
 have hx:x∈au G:=by
  obtain ⟨e,he,h1,_⟩:=tz hu;exact qL.2 ⟨e,he,h1⟩
 have ht:bH (aU G x) (dU d.col d.row)=true:=Xg.2 ⟨u,hu,by rw [E7 hG hu hd];exact hh⟩;refine ⟨Xq.2 ⟨h.nodup,by simp,fun a ha b hb e=>hn (by rw [← Vx.1 hb,← e];exact ha)⟩,fun y hy=> ?_,fun y hy=> ?_,fun y hy=> ?_⟩
 ·rcases VH.1 hy with hy|hy
  ·exact h.sound y hy
  ·rw [Vx.1 hy];refine ⟨hd,?_⟩;rcases h.from_ x Vr with rfl|hs
   ·exact .use hx ht
   ·exact Rc.trans (h.sound x hs).2 hx (.use hx ht)
 ·rcases VN.1 hy with rfl|hy
  ·exact (h.from_ y Vr).imp id (V5 _)
  ·rcases VH.1 hy with hy|hy
   ·exact (h.from_ y (Vv _ hy)).imp id (V5 _)
   ·exact .inr (V9 _ hy)
 ·have hold:(y=c∨y∈seen)→y∈x::(todo++ [d])∨ ∀ u∈aU G y,∀ e∈au G,kE u.rect e=true→e∈seen++ [d]:=fun hy=>by
   rcases h.full y hy with h1|h1
   ·left
    rcases VN.1 h1 with rfl|h1
    ·exact Vr
    ·exact Vv _ (V5 _ h1)
   ·exact .inr fun u hu e he hh=>V5 _ (h1 u hu e he hh)
  rcases hy with hy|hy
  ·exact hold (.inl hy)
  ·rcases VH.1 hy with hy|hy
   ·exact hold (.inr hy)
   ·exact .inl (Vv _ (V9 _ hy))
theorem DnI.pop {G:Gr} {c:Rf} {seen todo:List Rf} {x:Rf} (h:DnI G c seen (x::todo)) (hall: ∀ u∈aU G x,∀ d∈au G,kE u.rect d=true→d∈seen):DnI G c seen todo:=by
 refine ⟨h.nodup,h.sound,fun y hy=>h.from_ y (Vv _ hy),fun y hy=> ?_⟩;rcases h.full y hy with h1|h1
 ·rcases VN.1 h1 with rfl|h1
  ·exact .inr hall
  ·exact .inl h1
 ·exact .inr h1
theorem DnI.done {G:Gr} (hG:GrOk G) {c:Rf} {seen:List Rf} (h:DnI G c seen []) (d:Rf):d∈seen↔d∈kP G c:=by
 rw [vp];refine ⟨h.sound d,fun ⟨hd,hr⟩=> ?_⟩;have hstep: ∀ x e,(x=c∨x∈seen)→e∈au G→bH (aU G x) (dU e.col e.row)=true→e∈seen:=fun x e hx he ht=>by
  obtain ⟨u,hu,h1⟩:=Xg.1 ht;rw [E7 hG hu he] at h1;rcases h.full x hx with h2|h2
  ·cases h2
  ·exact h2 u hu e he h1
 have hgo: ∀ x r,Rc G x r→(x=c∨x∈seen)→r=dU d.col d.row→d∈seen:=fun x r hx=>by
  induction hx with
  |use hc ht=>intro h1 h2;subst h2;exact hstep _ _ h1 hd ht
  |via hc he ht _ ih=>intro h1 h2;exact ih (.inr (hstep _ _ h1 he ht)) h2
 exact hgo c _ hr (.inl rfl) rfl
theorem DnI.len {G:Gr} (hG:SortG G) {c:Rf} {seen todo:List Rf} (h:DnI G c seen todo):seen.length≤G.length:=by
 have hp:seen.Perm ((au G).filter fun a=>decide (a∈seen)):=o3 h.nodup (hG.nodup.filter _) fun a=>by
  rw [Wx,decide_eq_true_eq];exact ⟨fun ha=>⟨(h.sound a ha).1,ha⟩,fun ha=>ha.2⟩
 have h1:=hp.length_eq;have h2:=WD (fun a=>decide (a∈seen)) (au G);have h3:(au G).length=G.length:=by rw [au,VK]
 omega
theorem GOk.all {R:List Blk} {E:List En} {clock:Nat} {G:Gr} (h:GOk R E clock G):zT E=G.flatMap fun e=>e.2.2.map fun u=>(e.1,u):=by
 rw [zT,h.forms,au,List.flatMap_map];have: ∀ L:Gr,(∀ e∈L,e∈G)→L.flatMap (fun e=>j5 E e.1)=L.flatMap fun e=>e.2.2.map fun u=>(e.1,u):=by
  intro L
  induction L with
  |nil=>intro _;rfl
  |cons e r ih=>
   intro hL;rw [VE,VE,ih fun f hf=>hL f (Vv _ hf),j5,h.uses,qG h.sort (hL e Vr)]
 exact this G fun _ h=>h
theorem BZ (r:Rct) (a:Rf): ∀ (us:List Us) (out:List Rf),out.getLast? =some a→(us.map fun u=>(a,u)).foldl (bT r) out=out
 | [],_,_=>rfl
 |u::q,out,h=>by
  rw [VU,Wy];have:bT r out (a,u)=out:=by
   rw [oL,h];simp
  rw [this];exact BZ r a q out h
theorem GQ (r:Rct) (a:Rf): ∀ (us:List Us) (out:List Rf),out.getLast? ≠some a→(us.map fun u=>(a,u)).foldl (bT r) out=if bH us r then out++ [a] else out
 | [],out,_=>rfl
 |u::q,out,h=>by
  rw [VU,Wy,bH,List.any_cons];have hs:bT r out (a,u)=if lS r u then out++ [a] else out:=by
   rw [oL]
   cases ho:out.getLast? with
   |none=>simp
   |some b=>
    have:b≠a:=by rintro rfl;exact h ho
    simp [this]
  rw [hs]
  cases ht:lS r u with
  |true=>
   simp only [if_true,Y3];exact BZ r a q _ (by simp)
  |false=>
   simp only [V2,if_false,Bool.false_or];exact GQ r a q out h
theorem sH (r:Rct): ∀ (L:Gr) (out:List Rf),SortG L→(∀ e∈L,out.getLast? ≠some e.1)→(L.flatMap fun e=>e.2.2.map fun u=>(e.1,u)).foldl (bT r) out=out++(L.filter fun e=>bH e.2.2 r).map fun e=>e.1
 | [],out,_,_=>by simp
 |e::q,out,hs,hl=>by
  obtain ⟨h1,h2⟩:=Wt.1 hs;rw [VE,Yb,GQ r e.1 e.2.2 out (hl e Vr),XC]
  cases ht:bH e.2.2 r with
  |true=>
   rw [if_pos rfl,if_pos rfl,sH r q _ h2,VU,VC,Yy];intro f hf;rw [List.getLast?_append,List.getLast?_singleton,Option.some_or];intro he;exact l7 (h1 f hf) (Option.some.inj he)
  |false=>
   rw [if_neg (by simp),if_neg (by simp),sH r q _ h2];exact fun f hf=>hl f (Vv _ hf)
theorem GOk.users {R:List Blk} {E:List En} {clock:Nat} {G:Gr} (h:GOk R E clock G) (r:Rct):uT E r=eU G r:=by
 unfold uT eU;split
 ·rfl
 ·rw [h.all,sH r G [] h.sort (fun _ _=>by simp),Vq]
theorem GOk.allLen {R:List Blk} {E:List En} {clock:Nat} {G:Gr} (h:GOk R E clock G) (hG:GrOk G):(zT E).length≤256*G.length:=by
 rw [h.all];have: ∀ L:Gr,(∀ e∈L,EntOk e)→(L.flatMap fun e=>e.2.2.map fun u=>(e.1,u)).length≤256*L.length:=by
  intro L
  induction L with
  |nil=>intro _;simp
  |cons e r ih=>
   intro hL;have h1:=ih fun f hf=>hL f (Vv _ hf);have h2:=hL e Vr;have h3:e.2.2.length≤256:=by
    rw [h2.uses];exact VR (gX _ _) h2.len
   rw [VE,Vn,VK,Vw];omega
 exact this G hG.ent
end Go.SL
namespace Go.SL
open Go Go.Proofs
attribute [local irreducible] W WL WQ WG WA WX WLI WR WT WC VOp RW thn blk bg scp aS aV bi FnAt FnP ceP
section
variable {R:List Blk} {E:List En} {clock:Nat} {G:Gr} (h:GOk R E clock G) (gg gm:Nat) {H:List Blk} (hs:MSub (gB gg gm (E.map En.m) clock++R) H) (w0:World)
include h hs
variable (hl:G.length≤900)
include hl
variable (hG:GrOk G)
include hG
theorem GOk.users_any (r:Rct):FnIn Tryz.prog 26 [.pointer (some ⟨gg,0,none⟩),.agg (bz r).toArray] w0 H fun v H' => ∃ A cap,v=sl A (eU G r).length cap∧H' = .own A 35 2 (eU G r).length cap ((eU G r).flatMap aw)::H:=by
 refine nk (φ:=fun v A cap=>v=sl A (eU G r).length cap) (fun F=> ?_) hs;have h1:=Qc gg gm clock E r h.ok (by rw [h.len];omega) (VR (h.allLen hG) (by omega)) (R++F) w0 (fun e he=>(h.en e he).sub (MSub.appL R F));rw [h.users] at h1;rw [VC];exact h1
end
open Go.Shelf Go.Sort
def jz:List Rct→List Rct
 | []=> []
 |a::l=>if l.head? =some a then jz l else a::jz l
theorem CA (x:Rct): ∀ l:List Rct,jz (l++ [x])=if l.getLast? =some x then jz l else jz l++ [x]
 | []=>by simp [jz]
 | [a]=>by
  by_cases h:x=a
  ·subst h;simp [jz]
  ·have h2: ¬ a=x:=fun e=>h e.symm;simp [jz,h,h2]
 |a::b::l=>by
  have ih:=CA x (b::l);have h0: ∀ l,jz (a::l)=if l.head? =some a then jz l else a::jz l:=fun _=>rfl;have hh:(b::l++ [x]).head? =(b::l).head? :=rfl;rw [List.getLast?_cons_cons,Vp,h0,h0,hh,ih];by_cases h1:(b::l).head? =some a
  ·simp only [h1,if_true]
  ·simp only [h1,if_false];split<;>rfl
theorem Cz {L:List Rct} {j:Nat} (h:j<L.length) (h0:0<j):jz (L.take (j+1))=if L[j]=L[j - 1] then jz (L.take j) else jz (L.take j)++ [L[j]]:=by
 have h1:L.take (j+1)=L.take j++ [L[j]]:=by rw [Vu h]
 have h2:(L.take j).getLast? =some L[j - 1]:=by
  rw [XG,VQ,Xs (by omega),Xn (by omega),Vo (by omega)]
 rw [h1,CA,h2];simp only [Option.some.injEq,eq_comm]
theorem Hn {L:List Rct} (h:L.length≤1):jz L=L:=by
 match L,h with
 | [],_=>rfl
 | [a],_=>rfl
theorem qe {x:Rct}: ∀ {l:List Rct},x∈jz l↔x∈l
 | []=>Iff.rfl
 |a::l=>by
  rw [jz];split
  ·rename_i h;rw [qe (l:=l),VN];exact ⟨.inr,fun h2=>h2.elim (fun e=>by subst e;exact List.mem_of_mem_head? h) id⟩
  ·rw [VN,VN,qe (l:=l)]
theorem Ho: ∀ l:List Rct,(jz l).length≤l.length
 | []=>VA _
 |a::l=>by
  have:=Ho l;rw [jz];split<;>simp only [Vw]<;>omega
theorem O6 {a b:Rct} (h:ltOf cU b a=false) (hn:a≠b):ltOf cU a b=true:=by
 cases h2:ltOf cU a b
 ·exact absurd (Ob _ _ h2 h) hn
 ·rfl
theorem qy: ∀ {l:List Rct},l.Pairwise (fun x y=>ltOf cU y x=false)→(jz l).Pairwise fun x y=>ltOf cU x y=true
 | [],_=> .nil
 |a::l,h=>by
  have h1:=Wt.1 h;have ih:=qy h1.2;rw [jz];split
  ·exact ih
  ·rename_i hh;refine Wt.2 ⟨fun y hy=> ?_,ih⟩;have hyl:=qe.1 hy;refine O6 (h1.1 y hyl) fun e=> ?_;subst e
   cases l with
   |nil=>cases hyl
   |cons b l=>
    have hb:b≠a:=fun e=>hh (by rw [e];rfl);rcases VN.1 hyl with e|hm
    ·exact hb e.symm
    ·have h3:=(Wt.1 h1.2).1 a hm;have h4:=h1.1 b Vr;exact hb (Ob _ _ h4 h3)
theorem mE (L:List Rct):(sortRc L).Perm L:=XQ L _
theorem ry (L:List Rct):(sortRc L).Pairwise fun x y=>ltOf cU y x=false:=by
 have h:=YU (le:=fun x y=> !(ltOf cU y x)) (fun a b c h1 h2=>by
  simp only [XO] at*;exact x5.ntrans _ _ _ h2 h1) (fun a b=>by
  cases h1:ltOf cU b a
  ·simp
  ·cases h2:ltOf cU a b
   ·simp
   ·have:=x5.trans _ _ _ h1 h2;rw [x5.irrefl] at this;cases this) L
 exact h.imp fun h=>by simpa using h
theorem PA {L M:List Rct} (h:L.Pairwise fun x y=>ltOf cU x y=true) (k:M.Pairwise fun x y=>ltOf cU x y=true) (hm: ∀ a,a∈L↔a∈M):L=M:=by
 have hn: ∀ {L:List Rct},(L.Pairwise fun x y=>ltOf cU x y=true)→L.Nodup:=fun h=>h.imp fun h e=>by
  rw [e,x5.irrefl] at h;cases h
 have hp:L.Perm M:=(YM (hn h) (hn k)).2 hm;refine List.Perm.eq_of_pairwise (fun a b _ _ h1 h2=> ?_) h k hp;have:=x5.trans _ _ _ h1 h2;rw [x5.irrefl] at this;cases this
noncomputable def iX (G:Gr) (c:Rf):List Rct:=jz (sortRc ((c::kP G c).flatMap fun x=>(aU G x).map fun u=>u.rect))
theorem y7 (G:Gr) (c:Rf):(iX G c).Pairwise fun x y=>ltOf cU x y=true:=qy (ry _)
theorem sw {G:Gr} {c:Rf} {r:Rct}:r∈iX G c↔ ∃ x,(x=c∨x∈kP G c)∧ ∃ u∈aU G x,u.rect=r:=by
 unfold iX;rw [qe,(mE _).mem_iff,XB];simp only [VN,VM]
theorem ME {G:Gr} {c:Rf} {M:List Rct} (h: ∀ r,r∈M↔ ∃ x,(x=c∨x∈kP G c)∧ ∃ u∈aU G x,u.rect=r):jz (sortRc M)=iX G c:=by
 refine PA (qy (ry _)) (y7 G c) fun a=> ?_;rw [qe,(mE _).mem_iff,h,sw]
open Classical in
theorem Dm {G:Gr} (hG:GrOk G) {c:Rf} {b:Rf} (hb:b.valid=true):(iX G c).any (fun r=>kE r b)=js G c b:=by
 unfold js;rw [V3,Xg,decide_eq_true_eq];have ht: ∀ {x:Rf} {u:Us},u∈aU G x→(lS (dU b.col b.row) u=kE u.rect b):=fun {x u} hu=>by
  obtain ⟨e,he,h1,h2⟩:=tz hu;exact (vz ((hG.ent e he).rect u (by rw [h2];exact hu)) hb).symm
 constructor
 ·rintro ⟨r,hr,hh⟩;obtain ⟨x,hx,u,hu,rfl⟩:=sw.1 hr;have hxk:x∈au G:=by
   obtain ⟨e,he,h1,_⟩:=tz hu;exact qL.2 ⟨e,he,h1⟩
  have hxt:bH (aU G x) (dU b.col b.row)=true:=Xg.2 ⟨u,hu,by rw [ht hu];exact hh⟩;rcases hx with rfl|hx
  ·exact .use hxk hxt
  ·exact Rc.trans (vp.1 hx).2 hxk (.use hxk hxt)
 ·intro h;have hgo: ∀ x,bH (aU G x) (dU b.col b.row)=true→(x=c∨x∈kP G c)→ ∃ r∈iX G c,kE r b=true:=fun x h1 hx=>by
   obtain ⟨u,hu,h2⟩:=Xg.1 h1;rw [ht hu] at h2;exact ⟨u.rect,sw.2 ⟨x,hx,u,hu,rfl⟩,h2⟩
  rcases h.last with h1|⟨d,hd,h1,h2⟩
  ·exact hgo c h1 (.inl rfl)
  ·exact hgo d h2 (.inr (vp.2 ⟨hd,h1⟩))
end Go.SL
