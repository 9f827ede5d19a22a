/-
  Lemmas and walks, put together: Re Rf Pl2 Rg Rh Pl3 Sl31.
-/
import Derived.Test.YtlnecnbfmnfigaaGreatDoorKu31
set_option linter.unusedSimpArgs false
set_option linter.unusedVariables false
set_option maxRecDepth 20000
namespace Go.SL
open Go Go.Proofs
attribute [local irreducible] W WL WQ WG WA WX WLI WR WT VOp RW thn blk bZ scp bA bV ck FnAt FnIn FnP
theorem rL (S:List Rf):(ij S).map (fun e=>e.1)=S:=qt S 0
theorem BB (S:List Rf):(ij S).length=S.length:=by
 have:=congrArg List.length (rL S)
 simpa using this
set_option maxHeartbeats 1000000 in
theorem rH (gm:Nat) (S:List Rf) (hn:S.Nodup) (hlen:S.length≤1000000) (R:List Blk) (w0:World):
  FnIn Tryz.prog 55 [.map (some gm)] w0 (.obj gm (cw aO (ij S) S.length)::R) fun v H=> ∃ A cap,v=sl A S.length cap∧H= .own A 24 2 S.length cap ((sortRf S).flatMap aw):: .obj gm (cw aO (ij S) S.length)::R:=by
 have hok:=Jr hn
 have hks:=rL S
 have hkl:=BB S
 generalize ij S=es at hok hks hkl
 subst hks
 rw [Ps] at hlen hkl
 rw [Ps] at hok
 rw [Ps]
 refine bM Tryz.func55 rfl Tryz.ntmps55 rfl ?_
 refine aK 24 2 ?_
 repeat' (first|(apply mz (enc:=aO);exact rfl;exact rfl;exact pK;intro gi)|refine sT ?_|refine sS ?_|refine sM fun _=> ?_|(refine sC ?_ ?_<;>intro hb<;>try omega)|fail)
 refine ax [6] rfl (fun x:List (Rf × Value × Nat) × Option Nat × Nat=> [(3,sl x.2.1 x.1.length x.2.2)]) (fun x=> .obj gi (l3 gm es.length (x.1.map fun e=>e.2.2)):: .own x.2.1 24 2 x.1.length x.2.2 ((x.1.map fun e=>e.1).flatMap aw):: .obj gm (cw aO es es.length)::R) (fun x=>Vis es x.1) (fun x=>es.length - x.1.length) ([],none,0) (Vis.nil es) sB mS ?_
 rintro ⟨vis,A,cap⟩ hv
 dsimp only at hv ⊢
 have hvl:=hv.len
 have hml:(vis.map fun e=>e.1).length=vis.length:=Ps _
 have hS:=fun R' =>zu (vis.map fun e=>e.1) A cap (by omega) R' w0
 rw [hml] at hS
 repeat' (first|(apply m9 (enc:=aO);exact rfl;exact rfl;exact pK;exact pK;exact hok;intro e he hne)|(intro hall)|(apply aj;exact rfl;apply zo (enc:=aO);exact rfl;exact pK;exact pK;exact he;exact hok)|(apply bU;(iterate 3 exact rfl);(repeat first|exact .hd|apply Sel.tl|apply In.tl);(intro w hm;exact hm.cells_own (by (repeat first|exact .hd|apply Sel.tl|apply In.tl)));exact rfl;(simp [Value.oneCell',sl]);omega;(simp only [maxLen];omega);(intro A2 cap2 hA2))|(apply ak (f:=90);exact rfl;exact rfl;exact FnIn.msub (hS _) (MSub.pick pK (MSub.refl _));rintro _ _ ⟨rfl,rfl⟩)|refine sT ?_|refine sS ?_|refine sM fun _=> ?_|(refine sC ?_ ?_<;>intro hb<;>try omega)|fail)
 ·
  refine ⟨(vis++ [e],A2,cap2),hv.step he hne,?_,?_,sB,?_⟩
  ·
   have:=hv.lt he hne
   simp only [O2,O6]
   omega
  ·
   simp only [O2,O6]
   exact sB
  ·
   simp only [P4,PB,P3,O2,O6,Pj,Pd,Pq,Pa]
   exact mS
 ·
  have hperm:=hv.perm hok hall
  have hl:vis.length=es.length:=hperm.length_eq
  have hf:sortRf (es.map fun e=>e.1)=sortRf (vis.map fun e=>e.1):=jt (hperm.symm.map _)
  refine bK eIO rfl rfl (H' := .own A 24 2 es.length cap ((sortRf (es.map fun e=>e.1)).flatMap aw):: .obj gm (cw aO es es.length)::R) ?_ ⟨A,cap,by rw [hl],rfl⟩
  rw [hf,← hl]
  exact mS
end Go.SL
namespace Go.SL
open Go Go.Proofs
theorem K6 {P:Program} {n:Fr} {w0:World} {Q:cd} {s:aB} {H:List Blk} {c:Code} {A:Option Nat} {t sz m cap:Nat} {xs:List Value} (hi:In (.own A t sz m cap xs) H) (h:m≤cap→W P n w0 c Q s H):W P n w0 c Q s H:=fun a w hs hmem=>
 h (hmem.on _ hi.mem).1.2.1 a w hs hmem
theorem eV (w:World):Reads w (.slice none 0 0) 0 []:=⟨none,0,rfl,Ph _,Pb _,fun h=>absurd h (Nat.lt_irrefl 0)⟩
theorem NV {P:Program} {n:Fr} {w0:World} {Q:cd} {s:aB} {H:List Blk} {c:Code} {t sz m cap:Nat} {xs:List Value} (hi:In (.own none t sz m cap xs) H) (h:m=0→W P n w0 c Q s H):W P n w0 c Q s H:=fun a w hs hmem=>
 h (hmem.on _ hi.mem).1.2.2.2.1 a w hs hmem
attribute [local irreducible] W WL WQ WG WA WX WLI WR WT WC WE VOp RW thn blk bZ scp bA bV ck FnAt FnIn FnP ceP
theorem UpI.sort {G:Gr} {l:List Rct} {S:List Rf} (hG:SortG G) (h:UpI G l S []):sortRf S=fI G l:=by
 have hn:(fI G l).Nodup:=(ri hG l).imp fun h=>iz h
 rw [jt ((SE h.nodup hn).2 h.done),lF (ri hG l)]
theorem Qu.pop_v (q:Qu) (sz:Nat):Value.slice (if q.c - q.k=1 then some ⟨q.g,q.off,none⟩ else (some (⟨q.g,q.off,none⟩:Addr)).map (·.add (1*sz))) (q.n - q.k - 1) (q.c - q.k - 1)=(q.pop sz).v:=by
 simp only [Qu.v,Qu.pop]
 rw [Nat.sub_sub,Nat.sub_sub]
 split
 ·
  rfl
 ·
  have h:(⟨q.g,q.off,none⟩:Addr).add (1*sz)=⟨q.g,q.off+1*sz,none⟩:=by unfold Addr.add;split<;>simp_all
  rw [Qb,h]
theorem MH {P:Program} {w0:World} {s:aB} {H:List Blk} {ty t e sz:Nat} {x:Operand} [ht:Und P t (.slice e)] [hz:Size P e sz] (q:Qu) (hx:ev s x=some q.v) (h1:1≤q.n - q.k) (h2:q.n≤q.c):
  VOp P w0 s H (.slice t x (some (.const (.int .i64 1))) none none) ty (q.pop sz).v:=by
 rw [← Qu.pop_v]
 exact jd (lo:=1) (hi:=q.n - q.k) hx ⟨_,rfl⟩ rfl h1 (by omega)
theorem Qu.ok.head {α:Type} {q:Qu} {enc:α→List Value} {sz:Nat} {a:α} {L:List α} (h:q.ok enc sz (a::L)) (he:(enc a).length=sz) (hc:q.n≤q.c):(q.ys.drop (q.off+0*sz)).take sz=enc a:=by
 have hl:=h.len
 rw [Pe] at hl
 rw [h.off (by omega),Sa,QW,h.cells,Pd,← he,RT]
theorem cY (r:Rct):(aH r).length=4:=rfl
theorem IE (L:List Rct) (tv:Value) (w:World) (ht:Reads w tv L.length (L.flatMap aH)) (hlen:L.length≤1000000):
  FnAt Tryz.prog 51 [tv] w fun v H=> ∃ A cap,v=sl A L.length cap∧H= [.own A 53 4 L.length cap (L.flatMap aH)]:=by
 have ht' :=ht
 obtain ⟨At,ct,rfl,ht1,ht2,ht3⟩:=ht
 refine aA Tryz.func51 rfl Tryz.ntmps51 rfl ?_
 have hl:(L.flatMap aH).length=L.length*4:=aQ cY L
 refine aK 53 4 ?_
 repeat' (first|(apply aj;exact rfl;apply uM;exact rfl)|(apply cG;exact rfl;intro gb)|(apply cB (n' :=0) (c:=0) (A:=some _) (m:=L.length);(iterate 3 exact rfl);exact pK;(intro w hm;exact ht'.of_w0 hm);exact hl;exact gY L;omega;(simp only [maxLen];omega);intro A' cap' hA)|refine sT ?_|refine sM fun _=> ?_|(refine sC ?_ ?_<;>intro hb<;>try omega)|fail)
 ·
  have e:L.length=0:=by
   rcases QB L.length with h|h
   ·
    exact h
   ·
    obtain ⟨g,o,rfl,_⟩:=ht3 h
    cases hb
  have e' :L= []:=Qk e
  subst e'
  exact bK (.inl rfl) Tryz.results51 rfl (.refl _) ⟨none,0,rfl,rfl⟩
 ·
  exact bK (.inl rfl) Tryz.results51 rfl (H' := [.own A' 53 4 (0+L.length) cap' ([]++L.flatMap aH)]) mS ⟨A',cap',by rw [Pn],by rw [Pn];rfl⟩
noncomputable def eP (G:Gr) (L:List Rct):List Rf:=if aR [] L=0 then fI G L else []
theorem Af {L:List Rct} (h:aR [] L=0): ∀ r∈L,bh r=true:=by
 unfold aR at h
 split at h
 ·
  rename_i h1
  simp only [List.all_nil,PZ,Qo] at h1
  exact h1
 ·
  cases h
theorem UpI.rect {G:Gr} {L:List Rct} {S:List Rf} {todo:List Rct} {r:Rct} (hG:GrOk G) (hL: ∀ r∈L,bh r=true) (h:UpI G L S (r::todo)):bh r=true:=by
 rcases h.from_ r O7 with h1|⟨d,hd,rfl⟩
 ·
  exact hL r h1
 ·
  obtain ⟨q,_,hq⟩:=h.sound d hd
  obtain ⟨e,he,rfl⟩:=iY.1 hq.key
  rw [vp]
  exact (hG.ent e he).at_
theorem Fp (G:Gr):fI G []= []:=by
 refine Sq.2 fun c hc=> ?_
 obtain ⟨r,hr,_⟩:=yj.1 hc
 cases hr
set_option maxHeartbeats 4000000 in
theorem KR (gg:Nat) (G:Gr) (hG:GrOk G) (hGl:G.length≤900) (L:List Rct) (hL:L.length≤1000) (lv:Value) (B F:List Blk) (hB:MSub B F) (w0:World)
  (hU: ∀ r H,MSub B H→FnIn Tryz.prog 53 [.pointer (some ⟨gg,0,none⟩),.agg (aH r).toArray] w0 H fun v H' => ∃ A cap,v=sl A (cj G r).length cap∧H' = .own A 24 2 (cj G r).length cap ((cj G r).flatMap aw)::H)
  (hrd: ∀ w,Mem w0 w F→Reads w lv L.length (L.flatMap aH)):
  FnIn Tryz.prog 10 [.pointer (some ⟨gg,0,none⟩),lv] w0 F fun v H' => ∃ A cap,v= .tuple #[sl A (eP G L).length cap,.int .i64 (aR [] L)]∧H' = .own A 24 2 (eP G L).length cap ((eP G L).flatMap aw)::F:=by
 refine bM Tryz.func10 rfl Tryz.ntmps10 rfl ?_
 refine aK 24 2 ?_
 have hck:=fun w (hm:Mem w0 w F)=>mg gg [] L (.slice none 0 0) lv w (eV w) (hrd w hm) (by simp) (by omega)
 have hcl:=fun w (hm:Mem w0 w F)=>IE L lv w (hrd w hm) (by omega)
 unfold eP
 by_cases hc0:aR [] L=0
 ·
  rw [if_pos hc0]
  rw [hc0] at hck ⊢
  have hr:=Af hc0
  repeat' (first|(apply aa (f:=50);exact rfl;exact rfl;(intro w' hm;exact hck w' (MSub.use mS hm)))|(apply aS (f:=51);exact rfl;exact rfl;(intro w' hm;exact hcl w' (MSub.use mS hm));rintro _ _ ⟨A9,c9,rfl,rfl⟩)|(apply j9 (enc:=aO);exact rfl;intro gm)|refine sT ?_|refine sS ?_|refine sM fun _=> ?_|(refine sC ?_ ?_<;>intro hb<;>try omega)|fail)
  rename_i gb sb tb
  have hpa: ∀ r,SortG G∧(∀ c,bh r=true→(c∈cj G r↔c∈aq G∧aG (aD G c) r=true)):=fun r=>⟨hG.sort,fun c h=>⟨fun hc=>⟨mC c hc,(oG hG.sort h (mC c hc)).1 hc⟩,fun hc=>(oG hG.sort h hc.1).2 hc.2⟩⟩
  cases A9 with
  |none=>
   refine NV pK fun hL0=> ?_
   have hL' :L= []:=QM.1 hL0
   subst hL'
   have hso:=rH gm [] RV (by simp) F w0
   rw [show sortRf []= [] by simp [sortRf]] at hso
   rw [Fp]
   refine ax [2,7,8,9] rfl (fun _:Unit=> []) (fun _=> .box tb 25 [.slice none 0 c9]:: .box sb 117 [.map (some gm)]:: .obj gm (cw aO (ij []) 0)::F) (fun _=>True) (fun _=>0) () trivial sB mS ?_
   rintro _ _
   repeat' (first|(apply ak (f:=55);exact rfl;exact rfl;exact FnIn.msub hso mS;rintro _ _ ⟨A5,c5,rfl,rfl⟩)|refine sT ?_|refine sS ?_|refine sM fun _=> ?_|(refine sC ?_ ?_<;>intro hb<;>try omega)|fail)
   all_goals first
    |(exfalso;omega)
    |(exact cN eIO rfl rfl rfl (H' := .own A5 24 2 0 c5 []::F) mS ⟨A5,c5,rfl,rfl⟩)
    |trace_state
  |some g9=>
   refine ax [2,7,8,9] rfl (fun _:List Rf × Qu × List Rct=> []) (fun y=>rf gb sb gm tb (.pointer (some ⟨gg,0,none⟩)) y.1 y.2.1++F) (fun y=>UpI G L y.1 y.2.2∧y.2.1.ok aH 4 y.2.2∧y.2.1.n≤L.length+y.1.length) (fun y=>y.2.2.length+(G.length - y.1.length)) ([],⟨g9,0,0,L.length,c9,L.flatMap aH⟩,L) ⟨UpI.start G L,⟨Pb _,fun _=>by rw [Sa],Qz _,by rw [Sa];rfl⟩,Ph _⟩ sB (by simp only [rf,Qu.v,O8,O3,O4];exact mS) ?_
   rintro ⟨S,q,todo⟩ ⟨hI,hq,hqn⟩
   dsimp only at hI hq hqn ⊢
   have hSl:=hI.len hG.sort
   have hql:=hq.len
   simp only [rf,O8,O3,O4]
   cases todo with
   |nil=>
    rw [Qh] at hql
    have hso:FnIn Tryz.prog 55 [.map (some gm)] w0 (.obj gm (cw aO (ij S) S.length)::F) fun v H=> ∃ A cap,v=sl A (fI G L).length cap∧H= .own A 24 2 (fI G L).length cap ((fI G L).flatMap aw):: .obj gm (cw aO (ij S) S.length)::F:=by
     rw [← hI.sort hG.sort,show (sortRf S).length=S.length by simp [sortRf]]
     exact rH gm S hI.nodup (by omega) F w0
    repeat' (first|(apply ak (f:=55);exact rfl;exact rfl;exact FnIn.msub hso mS;rintro _ _ ⟨A5,c5,rfl,rfl⟩)|refine sT ?_|refine sS ?_|refine sM fun _=> ?_|(refine sC ?_ ?_<;>intro hb<;>try omega)|fail)
    all_goals first
     |(exfalso;omega)
     |(exact cN eIO rfl rfl rfl (H' := .own A5 24 2 (fI G L).length c5 ((fI G L).flatMap aw)::F) mS ⟨A5,c5,rfl,rfl⟩)
     |trace_state
   |cons r todo=>
    rw [Pe] at hql
    have hrr:=hI.rect hG hr
    refine K6 (A:=some q.g) pK fun hle=> ?_
    have hhd:=hq.head rfl hle
    have hp:=hq.pop rfl hle
    have hlook:=Av gb sb gm tb (.pointer (some ⟨gg,0,none⟩)) G hG.sort hGl L r S (q.pop 4) todo hI hp (by show q.n≤10000;omega) (cj G r) (fun c=>(hpa r).2 c hrr) (PK xQ hGl) B F hB w0 (hU r)
    repeat' (first|(apply aj;exact rfl;apply ag (j:=0);exact rfl;exact rfl;omega)|(apply aj;exact rfl;apply az;exact rfl;exact pK;exact hhd;exact rfl)|(apply aj;exact rfl;apply MH q;exact rfl;omega;exact hle)|(apply ni;exact rfl;exact rfl;infer_instance;exact rfl;exact FnIn.msub hlook (by simp only [rf,O8,O3,O4];exact mS);rintro _ _ ⟨rfl,S',q',todo',rfl,hq',hI',hsum,hqs⟩)|refine sT ?_|refine sS ?_|refine sM fun _=> ?_|(refine sC ?_ ?_<;>intro hb<;>try omega)|fail)
    all_goals first
     |(exfalso;omega)
     |(refine ⟨(S',q',todo'),⟨hI',hq',(by have:q'.n+S.length≤q.n+S'.length:=hqs;dsimp only;omega)⟩,(by have:=hI'.len hG.sort;dsimp only;rw [List.length_cons];omega),sB,sB,(by simp only [rf,List.append_eq,List.cons_append,List.nil_append];exact mS)⟩)
     |trace_state
 ·
  rw [if_neg hc0]
  repeat' (first|(apply aa (f:=50);exact rfl;exact rfl;(intro w' hm;exact hck w' (MSub.use mS hm)))|refine sT ?_|refine sS ?_|refine sM fun _=> ?_|(refine sC ?_ ?_<;>intro hb<;>try omega)|fail)
  all_goals first
   |(exfalso;omega)
   |(exact cN eIO rfl rfl rfl (H' := .own none 24 2 0 0 []::F) mS ⟨none,0,rfl,rfl⟩)
   |trace_state
end Go.SL
namespace Go.SL
open Go
structure DnI (G:Gr) (c:Rf) (seen todo:List Rf):Prop where
 nodup:seen.Nodup
 sound: ∀ d∈seen,d∈aq G∧Rc G c (bB d.col d.row)
 from_: ∀ x∈todo,x=c∨x∈seen
 full: ∀ x,(x=c∨x∈seen)→x∈todo∨ ∀ u∈aD G x,∀ d∈aq G,gQ u.rect d=true→d∈seen
theorem DnI.start (G:Gr) (c:Rf):DnI G c [] [c]:=⟨RV,(fun _ h=>by cases h),(fun x h=> .inl (Pv.1 h)),fun x h=>by
 rcases h with rfl|h
 ·
  exact .inl O7
 ·
  cases h⟩
theorem qf {G:Gr} {x:Rf} {u:Us} (hu:u∈aD G x): ∃ e∈G,e.1=x∧e.2.2=aD G x:=by
 unfold aD kI at hu ⊢
 cases hf:G.find? (fun e=>decide (e.1=x)) with
 |none=>rw [hf] at hu;cases hu
 |some e=>
  have h1:=Sg hf
  simp only [decide_eq_true_eq] at h1
  exact ⟨e,QJ hf,h1,rfl⟩
theorem yp {G:Gr} (h:GrOk G) {d:Rf} (hd:d∈aq G):d.valid=true:=by
 obtain ⟨e,he,rfl⟩:=iY.1 hd
 exact (h.ent e he).at_
theorem uT {G:Gr} (h:GrOk G) {x d:Rf} {u:Us} (hu:u∈aD G x) (hd:d∈aq G):ku (bB d.col d.row) u=gQ u.rect d:=by
 obtain ⟨e,he,h1,h2⟩:=qf hu
 exact (rV ((h.ent e he).rect u (by rw [h2];exact hu)) (yp h hd)).symm
theorem DnI.add {G:Gr} (hG:GrOk G) {c:Rf} {seen todo:List Rf} {x d:Rf} {u:Us} (h:DnI G c seen (x::todo)) (hu:u∈aD G x) (hd:d∈aq G) (hh:gQ u.rect d=true) (hn:d∉seen):
  DnI G c (seen++ [d]) (x::(todo++ [d])):=by
 have hx:x∈aq G:=by
  obtain ⟨e,he,h1,_⟩:=qf hu
  exact iY.2 ⟨e,he,h1⟩
 have ht:aG (aD G x) (bB d.col d.row)=true:=Ql.2 ⟨u,hu,by rw [uT hG hu hd];exact hh⟩
 refine ⟨RM.2 ⟨h.nodup,by simp,fun a ha b hb e=>hn (by rw [← Pv.1 hb,← e];exact ha)⟩,fun y hy=> ?_,fun y hy=> ?_,fun y hy=> ?_⟩
 ·
  rcases Pz.1 hy with hy|hy
  ·
   exact h.sound y hy
  ·
   rw [Pv.1 hy]
   refine ⟨hd,?_⟩
   rcases h.from_ x O7 with rfl|hs
   ·
    exact .use hx ht
   ·
    exact Rc.trans (h.sound x hs).2 hx (.use hx ht)
 ·
  rcases PF.1 hy with rfl|hy
  ·
   exact (h.from_ y O7).imp id (PV _)
  ·
   rcases Pz.1 hy with hy|hy
   ·
    exact (h.from_ y (O9 _ hy)).imp id (PV _)
   ·
    exact .inr (P9 _ hy)
 ·
  have hold:(y=c∨y∈seen)→y∈x::(todo++ [d])∨ ∀ u∈aD G y,∀ e∈aq G,gQ u.rect e=true→e∈seen++ [d]:=fun hy=>by
   rcases h.full y hy with h1|h1
   ·
    left
    rcases PF.1 h1 with rfl|h1
    ·
     exact O7
    ·
     exact O9 _ (PV _ h1)
   ·
    exact .inr fun u hu e he hh=>PV _ (h1 u hu e he hh)
  rcases hy with hy|hy
  ·
   exact hold (.inl hy)
  ·
   rcases Pz.1 hy with hy|hy
   ·
    exact hold (.inr hy)
   ·
    exact .inl (O9 _ (P9 _ hy))
theorem DnI.pop {G:Gr} {c:Rf} {seen todo:List Rf} {x:Rf} (h:DnI G c seen (x::todo)) (hall: ∀ u∈aD G x,∀ d∈aq G,gQ u.rect d=true→d∈seen):DnI G c seen todo:=by
 refine ⟨h.nodup,h.sound,fun y hy=>h.from_ y (O9 _ hy),fun y hy=> ?_⟩
 rcases h.full y hy with h1|h1
 ·
  rcases PF.1 h1 with rfl|h1
  ·
   exact .inr hall
  ·
   exact .inl h1
 ·
  exact .inr h1
theorem DnI.done {G:Gr} (hG:GrOk G) {c:Rf} {seen:List Rf} (h:DnI G c seen []) (d:Rf):d∈seen↔d∈cZ G c:=by
 rw [jZ]
 refine ⟨h.sound d,fun ⟨hd,hr⟩=> ?_⟩
 have hstep: ∀ x e,(x=c∨x∈seen)→e∈aq G→aG (aD G x) (bB e.col e.row)=true→e∈seen:=fun x e hx he ht=>by
  obtain ⟨u,hu,h1⟩:=Ql.1 ht
  rw [uT hG hu he] at h1
  rcases h.full x hx with h2|h2
  ·
   cases h2
  ·
   exact h2 u hu e he h1
 have hgo: ∀ x r,Rc G x r→(x=c∨x∈seen)→r=bB d.col d.row→d∈seen:=fun x r hx=>by
  induction hx with
  |use hc ht=>intro h1 h2;subst h2;exact hstep _ _ h1 hd ht
  |via hc he ht _ ih=>intro h1 h2;exact ih (.inr (hstep _ _ h1 he ht)) h2
 exact hgo c _ hr (.inl rfl) rfl
theorem DnI.len {G:Gr} (hG:SortG G) {c:Rf} {seen todo:List Rf} (h:DnI G c seen todo):seen.length≤G.length:=by
 have hp:seen.Perm ((aq G).filter fun a=>decide (a∈seen)):=iX h.nodup (hG.nodup.filter _) fun a=>by
  rw [QL,decide_eq_true_eq]
  exact ⟨fun ha=>⟨(h.sound a ha).1,ha⟩,fun ha=>ha.2⟩
 have h1:=hp.length_eq
 have h2:=QE (fun a=>decide (a∈seen)) (aq G)
 have h3:(aq G).length=G.length:=by rw [aq,Ps]
 omega
theorem DnI.sort {G:Gr} (hG:GrOk G) {c:Rf} {S:List Rf} (h:DnI G c S []):sortRf S=cZ G c:=by
 have hn:(cZ G c).Nodup:=(qZ hG.sort c).imp fun h=>iz h
 rw [jt ((SE h.nodup hn).2 (h.done hG)),lF (qZ hG.sort c)]
end Go.SL
namespace Go.SL
open Go Go.Proofs
attribute [local irreducible] W WL WQ WG WA WX WLI WR WT WC WE VOp RW thn blk bZ scp bA bV ck FnAt FnIn FnP ceP
def dnB (cb:Nat) (Ac:Option Nat) (cc:Nat) (K:List Rf) (sb gm tb:Nat) (S:List Rf) (q:Qu):List Blk:=
 [.box cb 32 [sl Ac K.length cc],.own Ac 24 2 K.length cc (K.flatMap aw),.box sb 117 [.map (some gm)],.obj gm (cw aO (ij S) S.length),.box tb 32 [q.v],.own (some q.g) 24 2 q.n q.c q.ys]
set_option maxHeartbeats 4000000 in
theorem Aj (cb:Nat) (Ac:Option Nat) (cc sb gm tb:Nat) (G:Gr) (hG:GrOk G) (hGl:G.length≤900) (c x:Rf) (u:Us) (hu:u∈aD G x) (S0:List Rf) (q0:Qu) (todo0:List Rf) (hI:DnI G c S0 (x::todo0)) (hq:q0.ok aw 2 todo0) (hqn:q0.n≤10000) (F:List Blk) (w0:World):
  FnIn Tryz.prog 121 [.agg (aH u.rect).toArray,.pointer (some ⟨cb,0,none⟩),.pointer (some ⟨sb,0,none⟩),.pointer (some ⟨tb,0,none⟩)] w0 (dnB cb Ac cc (aq G) sb gm tb S0 q0++F) fun v H=>v= .tuple #[]∧ ∃ S q todo,H=dnB cb Ac cc (aq G) sb gm tb S q++F∧q.ok aw 2 todo∧DnI G c S (x::todo)∧S.length+todo0.length=S0.length+todo.length∧q.n+S0.length≤q0.n+S.length∧(∀ d∈S0,d∈S)∧ ∀ d∈aq G,gQ u.rect d=true→d∈S:=by
 have hKl:(aq G).length=G.length:=by rw [aq,Ps]
 have hKm: ∀ i (h:i<(aq G).length),(aq G)[i]∈aq G:=fun i h=>PG h
 have hKa: ∀ d∈aq G,∃ i,∃ h:i<(aq G).length,(aq G)[i]=d:=fun d hd=>P1 hd
 have hadd:=fun (S todo:List Rf) (d:Rf) (h:DnI G c S (x::todo)) hd hh hn=>DnI.add hG (d:=d) h hu hd hh hn
 generalize hK:aq G=K at hKl hKm hKa hadd ⊢
 refine bM Tryz.func121 rfl Tryz.ntmps121 rfl ?_
 simp only [dnB,O8,O3,O4]
 repeat' (first|refine sT ?_|refine sS ?_|refine sM fun _=> ?_|(refine sC ?_ ?_<;>intro hb<;>try omega)|fail)
 rename_i g4
 refine ax [2,3,4,7,8] rfl (fun y:Nat × List Rf × Qu × List Rf=> [(9,.int .i64 (y.1:Int))]) (fun y=> .box g4 53 (aH u.rect)::(dnB cb Ac cc K sb gm tb y.2.1 y.2.2.1++F)) (fun y=>y.1≤K.length∧DnI G c y.2.1 (x::y.2.2.2)∧y.2.2.1.ok aw 2 y.2.2.2∧(∀ j (h:j<K.length),j<y.1→gQ u.rect K[j]=true→K[j]∈y.2.1)∧y.2.1.length+todo0.length=S0.length+y.2.2.2.length∧y.2.2.1.n+S0.length≤q0.n+y.2.1.length∧ ∀ d∈S0,d∈y.2.1) (fun y=>K.length - y.1) (0,S0,q0,todo0) ⟨Pb _,hI,hq,(fun j _ h=>absurd h (Sz _)),rfl,Ph _,fun _ h=>h⟩ sB (by simp only [dnB,O8,O3,O4];exact mS) ?_
 clear hI hq
 rintro ⟨i,S,q,todo⟩ ⟨hi,hI,hq,hin,hsum,hqs,hsub⟩
 dsimp only at hi hI hq hin hsum hqs hsub ⊢
 have hSl:=hI.len hG.sort
 by_cases hlt:i<K.length
 ·
  refine bW (A:=Ac) (by simp only [dnB,O8,O3,O4];exact pK) (by omega) fun gk hA=> ?_
  subst hA
  have hread:=Hq hlt
  have hd:=hKm i hlt
  have hstep: ∀ (S' :List Rf),(∀ x∈S,x∈S')→(gQ u.rect K[i]=true→K[i]∈S')→ ∀ j (h:j<K.length),j<i+1→gQ u.rect K[j]=true→K[j]∈S' :=fun S' h1 h2 j h3 h4 h5=>by
   by_cases e:j=i
   ·
    subst e;exact h2 h5
   ·
    exact h1 _ (hin j h3 (by omega) h5)
  generalize K[i]=a at hread hd hstep
  have hHas:=fun w=>Az u.rect a w
  have hlook:=vY S a
  simp only [dnB,O8,O3,O4]
  cases hh:gQ u.rect a with
  |false=>
   rw [hh] at hHas
   repeat' (first|(apply aj;exact rfl;apply ag (j:=i);exact rfl;exact rfl;exact hlt)|(apply aj;exact rfl;apply az;exact rfl;exact pK;exact hread;exact rfl)|(apply aa (f:=70);exact rfl;exact rfl;(intro w' _;exact hHas w'))|refine sT ?_|refine sS ?_|refine sN ?_|refine sM fun _=> ?_|(refine sC ?_ ?_<;>intro hb<;>try omega)|fail)
   all_goals first
    |(exfalso;omega)
    |(refine ⟨(i+1,S,q,todo),⟨hlt,hI,hq,hstep S (fun _ h=>h) (fun h=>absurd (h.symm.trans hh) (by decide)),hsum,hqs,hsub⟩,(by dsimp only;omega),sB,sB,(by simp only [dnB,List.append_eq,List.cons_append,List.nil_append];exact mS)⟩)
    |trace_state
  |true=>
   rw [hh] at hHas
   by_cases haS:a∈S
   ·
    rw [decide_eq_true haS] at hlook
    repeat' (first|(apply aj;exact rfl;apply ag (j:=i);exact rfl;exact rfl;exact hlt)|(apply aj;exact rfl;apply az;exact rfl;exact pK;exact hread;exact rfl)|(apply aa (f:=70);exact rfl;exact rfl;(intro w' _;exact hHas w'))|(apply aj;exact rfl;apply cH (enc:=aO) (k:=a);exact rfl;exact rfl;exact pK;exact hlook)|refine sT ?_|refine sS ?_|refine sN ?_|refine sM fun _=> ?_|(refine sC ?_ ?_<;>intro hb<;>try omega)|fail)
    all_goals first
     |(exfalso;omega)
     |(refine ⟨(i+1,S,q,todo),⟨hlt,hI,hq,hstep S (fun _ h=>h) (fun _=>haS),hsum,hqs,hsub⟩,(by dsimp only;omega),sB,sB,(by simp only [dnB,List.append_eq,List.cons_append,List.nil_append];exact mS)⟩)
     |trace_state
   ·
    rw [decide_eq_false haS] at hlook
    have hput:=zE haS
    have hI2:=hadd S todo a hI hd hh haS
    obtain ⟨qg,qoff,qk,qn,qc,qys⟩:=q
    obtain ⟨hq1,hq2,hq3,hq4⟩:=hq
    dsimp only at hq1 hq2 hq3 hq4 hqs ⊢
    simp only [Qu.v]
    repeat' (first|(apply aj;exact rfl;apply ag (j:=i);exact rfl;exact rfl;exact hlt)|(apply aj;exact rfl;apply az;exact rfl;exact pK;exact hread;exact rfl)|(apply aa (f:=70);exact rfl;exact rfl;(intro w' _;exact hHas w'))|(apply aj;exact rfl;apply cH (enc:=aO) (k:=a);exact rfl;exact rfl;exact pK;exact hlook)|(apply lM (enc:=aO) (k:=a);(iterate 3 exact rfl);exact pK;rw [hput])|(apply uz;exact rfl;exact rfl;exact hq1;exact hq2;exact rfl;exact pK;exact pK;exact rfl;(simp [Value.oneCell',aw]);omega;(simp only [maxLen];omega);intro g' off' k' n2 c2 ys hk2 hoff2 hlen2 hn2 hys2)|refine sT ?_|refine sS ?_|refine sN ?_|refine sM fun _=> ?_|(refine sC ?_ ?_<;>intro hb<;>try omega)|fail)
    all_goals first
     |(exfalso;omega)
     |(refine ⟨(i+1,S++ [a],⟨g',off',k',n2,c2,ys⟩,todo++ [a]),⟨hlt,hI2,⟨hk2,hoff2,(by rw [List.length_append];exact hlen2.trans (by rw [hq3];rfl)),(by rw [hys2,hq4,List.flatMap_append];rfl)⟩,hstep (S++ [a]) (fun _ h=>List.mem_append_left _ h) (fun _=>List.mem_append_right _ List.mem_cons_self),(by rw [List.length_append,List.length_append];simp only [List.length_cons,List.length_nil];omega),(by rw [List.length_append];simp only [List.length_cons,List.length_nil];omega),fun y hy=>List.mem_append_left _ (hsub y hy)⟩,(by dsimp only;omega),sB,sB,(by simp only [dnB,Qu.v,List.append_eq,List.cons_append,List.nil_append,List.length_append,List.length_cons,List.length_nil,Nat.zero_add];exact mS)⟩)
     |trace_state
 ·
  have hi2:i=K.length:=by omega
  subst hi2
  simp only [dnB,O8,O3,O4]
  repeat' (first|refine sT ?_|refine sS ?_|refine sN ?_|refine sM fun _=> ?_|(refine sC ?_ ?_<;>intro hb<;>try omega)|fail)
  all_goals first
   |(exfalso;omega)
   |(exact jv eIO rfl mS ⟨rfl,S,q,todo,rfl,hq,hI,hsum,hqs,hsub,fun d hd hh=>by obtain ⟨j,hj,rfl⟩:=hKa d hd;exact hin j hj hj hh⟩)
   |trace_state
theorem MM {L:List Us} {k:Nat} (h:k<L.length):((L.flatMap bQ).drop (0+k*6)).take 6=bQ L[k]:=by
 rw [Pn];exact cK gG L k h
theorem Ea (gm:Nat) {G:Gr} (hG:GrOk G) (hGl:G.length≤900) {c:Rf} {S:List Rf} (hI:DnI G c S []) (R:List Blk) (w0:World):
  FnIn Tryz.prog 55 [.map (some gm)] w0 (.obj gm (cw aO (ij S) S.length)::R) fun v H=> ∃ A cap,v=sl A (cZ G c).length cap∧H= .own A 24 2 (cZ G c).length cap ((cZ G c).flatMap aw):: .obj gm (cw aO (ij S) S.length)::R:=by
 have hl:=hI.len hG.sort
 rw [← hI.sort hG,show (sortRf S).length=S.length by simp [sortRf]]
 exact rH gm S hI.nodup (by omega) R w0
set_option maxHeartbeats 4000000 in
theorem Dl (gg:Nat) (G:Gr) (hG:GrOk G) (hGl:G.length≤900) (c:Rf) (B F:List Blk) (hB:MSub B F) (w0:World)
  (hFm: ∀ H,MSub B H→FnIn Tryz.prog 28 [.pointer (some ⟨gg,0,none⟩)] w0 H fun v H' => ∃ A cap,v=sl A (aq G).length cap∧H' = .own A 24 2 (aq G).length cap ((aq G).flatMap aw)::H)
  (hUs: ∀ d H,MSub B H→FnIn Tryz.prog 38 [.pointer (some ⟨gg,0,none⟩),aO d] w0 H fun v H' => ∃ A cap,v=sl A (aD G d).length cap∧H' = .own A 89 6 (aD G d).length cap ((aD G d).flatMap bQ)::H)
  (hUl: ∀ d,(aD G d).length≤1000):
  FnIn Tryz.prog 59 [.pointer (some ⟨gg,0,none⟩),aO c] w0 F fun v H' => ∃ gm S,v= .map (some gm)∧H' = .obj gm (cw aO (ij S) S.length)::F∧DnI G c S []:=by
 refine bM Tryz.func59 rfl Tryz.ntmps59 rfl ?_
 repeat' (first|(apply ak (f:=28);exact rfl;exact rfl;exact hFm _ (MSub.trans hB mS);rintro _ _ ⟨Ac,cc,rfl,rfl⟩)|(apply j9 (enc:=aO);exact rfl;intro gm)|refine sT ?_|refine sS ?_|refine sM fun _=> ?_|(refine sC ?_ ?_<;>intro hb<;>try omega)|fail)
 rename_i xb cb sb qg tb
 refine ax [0,6,7,8] rfl (fun _:List Rf × Qu × List Rf=> []) (fun y=>dnB cb Ac cc (aq G) sb gm tb y.1 y.2.1++F) (fun y=>DnI G c y.1 y.2.2∧y.2.1.ok aw 2 y.2.2∧y.2.1.n≤1+y.1.length) (fun y=>y.2.2.length+(G.length - y.1.length)) ([],⟨qg,0,0,1,1,aw c⟩,[c]) ⟨DnI.start G c,⟨Pb _,fun _=>by rw [Sa],rfl,rfl⟩,Ph _⟩ sB (by simp only [dnB,Qu.v,O8,O3,O4];exact mS) ?_
 rintro ⟨S,q,todo⟩ ⟨hI,hq,hqn⟩
 dsimp only at hI hq hqn ⊢
 have hSl:=hI.len hG.sort
 have hql:=hq.len
 simp only [dnB,O8,O3,O4]
 cases todo with
 |nil=>
  rw [Qh] at hql
  repeat' (first|refine sT ?_|refine sS ?_|refine sM fun _=> ?_|(refine sC ?_ ?_<;>intro hb<;>try omega)|fail)
  all_goals first
   |(exfalso;omega)
   |(exact bK eIO rfl rfl (H' := .obj gm (cw aO (ij S) S.length)::F) mS ⟨gm,S,rfl,rfl,hI⟩)
   |trace_state
 |cons x todo=>
  rw [Pe] at hql
  refine K6 (A:=some q.g) pK fun hle=> ?_
  have hhd:=hq.head rfl hle
  have hp:=hq.pop rfl hle
  have hU:=hUs x
  have hUx:=hUl x
  have hmem: ∀ i (h:i<(aD G x).length),(aD G x)[i]∈aD G x:=fun i h=>PG h
  have hall: ∀ u∈aD G x,∃ i,∃ h:i<(aD G x).length,(aD G x)[i]=u:=fun u hu=>P1 hu
  have hlk:=fun u hu S0 q0 todo0 (h1:DnI G c S0 (x::todo0)) h2 h3 F=>Aj cb Ac cc sb gm tb G hG hGl c x u hu S0 q0 todo0 h1 h2 h3 F w0
  have hpop:=fun S todo (h:DnI G c S (x::todo))=>h.pop
  generalize aD G x=U at hU hUx hmem hall hlk hpop
  repeat' (first|(apply aj;exact rfl;apply ag (j:=0);exact rfl;exact rfl;omega)|(apply aj;exact rfl;apply az;exact rfl;exact pK;exact hhd;exact rfl)|(apply aj;exact rfl;apply MH q;exact rfl;omega;exact hle)|(apply ak (f:=38);exact rfl;exact rfl;exact hU _ (MSub.trans hB mS);rintro _ _ ⟨Au,cu,rfl,rfl⟩)|refine sT ?_|refine sS ?_|refine sM fun _=> ?_|(refine sC ?_ ?_<;>intro hb<;>try omega)|fail)
  refine ax [0,6,7,8,28,29] rfl (fun y:Nat × List Rf × Qu × List Rf=> [(30,.int .i64 (y.1:Int))]) (fun y=> .own Au 89 6 U.length cu (U.flatMap bQ)::(dnB cb Ac cc (aq G) sb gm tb y.2.1 y.2.2.1++F)) (fun y=>y.1≤U.length∧DnI G c y.2.1 (x::y.2.2.2)∧y.2.2.1.ok aw 2 y.2.2.2∧(∀ j (h:j<U.length),j<y.1→ ∀ d∈aq G,gQ U[j].rect d=true→d∈y.2.1)∧y.2.1.length+todo.length=S.length+y.2.2.2.length∧y.2.2.1.n+S.length≤q.n+y.2.1.length) (fun y=>U.length - y.1) (0,S,q.pop 2,todo) ⟨Pb _,hI,hp,(fun j _ h=>absurd h (Sz _)),rfl,Ph _⟩ sB (by simp only [dnB,O8,O3,O4];exact mS) ?_
  rintro ⟨i,S',q',todo'⟩ ⟨hi,hI',hq',hin,hsum,hqs⟩
  dsimp only at hi hI' hq' hin hsum hqs ⊢
  have hSl' :=hI'.len hG.sort
  by_cases hlt:i<U.length
  ·
   refine bW (A:=Au) .hd (by omega) fun gk hA=> ?_
   subst hA
   have hread:=MM hlt
   have hum:=hmem i hlt
   have hstep: ∀ (S2:List Rf),(∀ y∈S',y∈S2)→(∀ d∈aq G,gQ U[i].rect d=true→d∈S2)→ ∀ j (h:j<U.length),j<i+1→ ∀ d∈aq G,gQ U[j].rect d=true→d∈S2:=fun S2 h1 h2 j h3 h4 d h5 h6=>by
    by_cases e:j=i
    ·
     subst e;exact h2 d h5 h6
    ·
     exact h1 _ (hin j h3 (by omega) d h5 h6)
   generalize U[i]=u at hread hum hstep
   have hlook:=hlk u hum S' q' todo' hI' hq' (by omega)
   simp only [dnB,O8,O3,O4] at hlook ⊢
   repeat' (first|(apply aj;exact rfl;apply ag (j:=i);exact rfl;exact rfl;exact hlt)|(apply aj;exact rfl;apply az;exact rfl;exact pK;exact hread;exact rfl)|(apply ni;exact rfl;exact rfl;infer_instance;exact rfl;exact FnIn.msub (hlook (.own (some gk) 89 6 U.length cu (U.flatMap bQ)::F)) mS;rintro _ _ ⟨rfl,S2,q2,todo2,rfl,hq2,hI2,hsum2,hqs2,hsub2,hall2⟩)|refine sT ?_|refine sS ?_|refine sN ?_|refine sM fun _=> ?_|(refine sC ?_ ?_<;>intro hb<;>try omega)|fail)
   all_goals first
    |(exfalso;omega)
    |(refine ⟨(i+1,S2,q2,todo2),⟨hlt,hI2,hq2,hstep S2 hsub2 hall2,(by dsimp only;omega),(by dsimp only;omega)⟩,(by dsimp only;omega),sB,sB,(by simp only [dnB,List.append_eq,List.cons_append,List.nil_append];exact mS)⟩)
    |trace_state
  ·
   have hi2:i=U.length:=by omega
   subst hi2
   have hI3:=hpop S' todo' hI' fun u hu d hd hh=>by
    obtain ⟨j,hj,rfl⟩:=hall u hu
    exact hin j hj hj d hd hh
   simp only [dnB,O8,O3,O4]
   repeat' (first|refine sT ?_|refine sS ?_|refine sN ?_|refine sM fun _=> ?_|(refine sC ?_ ?_<;>intro hb<;>try omega)|fail)
   all_goals first
    |(exfalso;omega)
    |(refine ⟨(S',q',todo'),⟨hI3,hq',(by dsimp only;omega)⟩,(by dsimp only;rw [List.length_cons];omega),sB,sB,(by simp only [dnB,List.append_eq,List.cons_append,List.nil_append];exact mS)⟩)
    |trace_state
noncomputable def eO (G:Gr) (c:Rf):List Rf:=if aR [c] []=0 then cZ G c else []
set_option maxHeartbeats 4000000 in
theorem KN (gg:Nat) (G:Gr) (hG:GrOk G) (hGl:G.length≤900) (c:Rf) (B F:List Blk) (hB:MSub B F) (w0:World)
  (hFm: ∀ H,MSub B H→FnIn Tryz.prog 28 [.pointer (some ⟨gg,0,none⟩)] w0 H fun v H' => ∃ A cap,v=sl A (aq G).length cap∧H' = .own A 24 2 (aq G).length cap ((aq G).flatMap aw)::H)
  (hUs: ∀ d H,MSub B H→FnIn Tryz.prog 38 [.pointer (some ⟨gg,0,none⟩),aO d] w0 H fun v H' => ∃ A cap,v=sl A (aD G d).length cap∧H' = .own A 89 6 (aD G d).length cap ((aD G d).flatMap bQ)::H)
  (hUl: ∀ d,(aD G d).length≤1000):
  FnIn Tryz.prog 14 [.pointer (some ⟨gg,0,none⟩),aO c] w0 F fun v H' => ∃ A cap,v= .tuple #[sl A (eO G c).length cap,.int .i64 (aR [c] [])]∧H' = .own A 24 2 (eO G c).length cap ((eO G c).flatMap aw)::F:=by
 refine bM Tryz.func14 rfl Tryz.ntmps14 rfl ?_
 refine aK 24 2 ?_
 have hck:=fun w (v:Value) (hr:Reads w v 1 (aw c))=>mg gg [c] [] v (.slice none 0 0) w (by simpa using hr) (eV w) (by simp) (by simp)
 have hbl:=fun F hB=>Dl gg G hG hGl c B F hB w0 hFm hUs hUl
 unfold eO
 by_cases hc0:aR [c] []=0
 ·
  rw [if_pos hc0]
  rw [hc0] at hck ⊢
  repeat' (first|(apply aa (f:=50);exact rfl;exact rfl;(intro w' hm;exact hck w' _ (Reads.of_own (A:=some _) hm pK)))|(apply ak (f:=59);exact rfl;exact rfl;exact hbl _ (MSub.trans hB mS);rintro _ _ ⟨gm,S,rfl,rfl,hI⟩)|(apply ak (f:=55);exact rfl;exact rfl;exact Ea gm hG hGl hI _ w0;rintro _ _ ⟨A5,c5,rfl,rfl⟩)|refine sT ?_|refine sS ?_|refine sM fun _=> ?_|(refine sC ?_ ?_<;>intro hb<;>try omega)|fail)
  all_goals first
   |(exfalso;omega)
   |(exact cN eIO rfl rfl rfl (H' := .own A5 24 2 (cZ G c).length c5 ((cZ G c).flatMap aw)::F) mS ⟨A5,c5,rfl,rfl⟩)
   |trace_state
 ·
  rw [if_neg hc0]
  repeat' (first|(apply aa (f:=50);exact rfl;exact rfl;(intro w' hm;exact hck w' _ (Reads.of_own (A:=some _) hm pK)))|refine sT ?_|refine sS ?_|refine sM fun _=> ?_|(refine sC ?_ ?_<;>intro hb<;>try omega)|fail)
  all_goals first
   |(exfalso;omega)
   |(exact cN eIO rfl rfl rfl (H' := .own none 24 2 0 0 []::F) mS ⟨none,0,rfl,rfl⟩)
   |trace_state
end Go.SL
namespace Go.SL
open Go Go.Proofs Go.Sort Go.Shelf
def iB:List Rct→List Rct
 | []=> []
 |a::l=>if l.head? =some a then iB l else a::iB l
theorem yP (x:Rct): ∀ l:List Rct,iB (l++ [x])=if l.getLast? =some x then iB l else iB l++ [x]
 | []=>by simp [iB]
 | [a]=>by
  by_cases h:x=a
  ·
   subst h;simp [iB]
  ·
   have h2: ¬ a=x:=fun e=>h e.symm
   simp [iB,h,h2]
 |a::b::l=>by
  have ih:=yP x (b::l)
  have h0: ∀ l,iB (a::l)=if l.head? =some a then iB l else a::iB l:=fun _=>rfl
  have hh:(b::l++ [x]).head? =(b::l).head? :=rfl
  rw [List.getLast?_cons_cons,O3,h0,h0,hh,ih]
  by_cases h1:(b::l).head? =some a
  ·
   simp only [h1,if_true]
  ·
   simp only [h1,if_false];split<;>rfl
theorem yO {L:List Rct} {j:Nat} (h:j<L.length) (h0:0<j):iB (L.take (j+1))=if L[j]=L[j - 1] then iB (L.take j) else iB (L.take j)++ [L[j]]:=by
 have h1:L.take (j+1)=L.take j++ [L[j]]:=by rw [Po h]
 have h2:(L.take j).getLast? =some L[j - 1]:=by
  rw [QT,Pr,QX (by omega),QC (by omega),O5 (by omega)]
 rw [h1,yP,h2]
 simp only [Option.some.injEq,eq_comm]
theorem Dg {L:List Rct} (h:L.length≤1):iB L=L:=by
 match L,h with
 | [],_=>rfl
 | [a],_=>rfl
theorem lZ {x:Rct}: ∀ {l:List Rct},x∈iB l↔x∈l
 | []=>Iff.rfl
 |a::l=>by
  rw [iB]
  split
  ·
   rename_i h
   rw [lZ (l:=l),PF]
   exact ⟨.inr,fun h2=>h2.elim (fun e=>by subst e;exact List.mem_of_mem_head? h) id⟩
  ·
   rw [PF,PF,lZ (l:=l)]
theorem Dh: ∀ l:List Rct,(iB l).length≤l.length
 | []=>Ph _
 |a::l=>by
  have:=Dh l
  rw [iB]
  split<;>simp only [Pe]<;>omega
theorem Cu {a b:Rct} (h:ltOf cg b a=false) (hn:a≠b):ltOf cg a b=true:=by
 cases h2:ltOf cg a b
 ·
  exact absurd (Jo _ _ h2 h) hn
 ·
  rfl
theorem od: ∀ {l:List Rct},l.Pairwise (fun x y=>ltOf cg y x=false)→(iB l).Pairwise fun x y=>ltOf cg x y=true
 | [],_=> .nil
 |a::l,h=>by
  have h1:=Qn.1 h
  have ih:=od h1.2
  rw [iB]
  split
  ·
   exact ih
  ·
   rename_i hh
   refine Qn.2 ⟨fun y hy=> ?_,ih⟩
   have hyl:=lZ.1 hy
   refine Cu (h1.1 y hyl) fun e=> ?_
   subst e
   cases l with
   |nil=>cases hyl
   |cons b l=>
    have hb:b≠a:=fun e=>hh (by rw [e];rfl)
    rcases PF.1 hyl with e|hm
    ·
     exact hb e.symm
    ·
     have h3:=(Qn.1 h1.2).1 a hm
     have h4:=h1.1 b O7
     exact hb (Jo _ _ h4 h3)
theorem ju (L:List Rct):(sortRc L).Perm L:=SA L _
theorem oY (L:List Rct):(sortRc L).Pairwise fun x y=>ltOf cg y x=false:=by
 have h:=List.pairwise_mergeSort (le:=fun x y=> !(ltOf cg y x)) (fun a b c h1 h2=>by
  simp only [RP] at*
  exact sF.ntrans _ _ _ h2 h1) (fun a b=>by
  cases h1:ltOf cg b a
  ·
   simp
  ·
   cases h2:ltOf cg a b
   ·
    simp
   ·
    have:=sF.trans _ _ _ h1 h2
    rw [sF.irrefl] at this
    cases this) L
 exact h.imp fun h=>by simpa using h
theorem wF {L M:List Rct} (h:L.Pairwise fun x y=>ltOf cg x y=true) (k:M.Pairwise fun x y=>ltOf cg x y=true) (hm: ∀ a,a∈L↔a∈M):L=M:=by
 have hn: ∀ {L:List Rct},(L.Pairwise fun x y=>ltOf cg x y=true)→L.Nodup:=fun h=>h.imp fun h e=>by
  rw [e,sF.irrefl] at h;cases h
 have hp:L.Perm M:=(SE (hn h) (hn k)).2 hm
 refine List.Perm.eq_of_pairwise (fun a b _ _ h1 h2=> ?_) h k hp
 have:=sF.trans _ _ _ h1 h2
 rw [sF.irrefl] at this
 cases this
noncomputable def dP (G:Gr) (c:Rf):List Rct:=iB (sortRc ((c::cZ G c).flatMap fun x=>(aD G x).map fun u=>u.rect))
theorem kJ (G:Gr) (c:Rf):(dP G c).Pairwise fun x y=>ltOf cg x y=true:=od (oY _)
theorem kF {G:Gr} {c:Rf} {r:Rct}:r∈dP G c↔ ∃ x,(x=c∨x∈cZ G c)∧ ∃ u∈aD G x,u.rect=r:=by
 unfold dP
 rw [lZ,(ju _).mem_iff,RZ]
 simp only [PF,Py]
theorem HT {G:Gr} {c:Rf} {M:List Rct} (h: ∀ r,r∈M↔ ∃ x,(x=c∨x∈cZ G c)∧ ∃ u∈aD G x,u.rect=r):iB (sortRc M)=dP G c:=by
 refine wF (od (oY _)) (kJ G c) fun a=> ?_
 rw [lZ,(ju _).mem_iff,h,kF]
open Classical in
theorem zC {G:Gr} (hG:GrOk G) {c:Rf} {b:Rf} (hb:b.valid=true):(dP G c).any (fun r=>gQ r b)=jD G c b:=by
 unfold jD
 rw [PN,Ql,decide_eq_true_eq]
 have ht: ∀ {x:Rf} {u:Us},u∈aD G x→(ku (bB b.col b.row) u=gQ u.rect b):=fun {x u} hu=>by
  obtain ⟨e,he,h1,h2⟩:=qf hu
  exact (rV ((hG.ent e he).rect u (by rw [h2];exact hu)) hb).symm
 constructor
 ·
  rintro ⟨r,hr,hh⟩
  obtain ⟨x,hx,u,hu,rfl⟩:=kF.1 hr
  have hxk:x∈aq G:=by
   obtain ⟨e,he,h1,_⟩:=qf hu
   exact iY.2 ⟨e,he,h1⟩
  have hxt:aG (aD G x) (bB b.col b.row)=true:=Ql.2 ⟨u,hu,by rw [ht hu];exact hh⟩
  rcases hx with rfl|hx
  ·
   exact .use hxk hxt
  ·
   exact Rc.trans (jZ.1 hx).2 hxk (.use hxk hxt)
 ·
  intro h
  have hgo: ∀ x,aG (aD G x) (bB b.col b.row)=true→(x=c∨x∈cZ G c)→ ∃ r∈dP G c,gQ r b=true:=fun x h1 hx=>by
   obtain ⟨u,hu,h2⟩:=Ql.1 h1
   rw [ht hu] at h2
   exact ⟨u.rect,kF.2 ⟨x,hx,u,hu,rfl⟩,h2⟩
  rcases h.last with h1|⟨d,hd,h1,h2⟩
  ·
   exact hgo c h1 (.inl rfl)
  ·
   exact hgo d h2 (.inr (jZ.2 ⟨hd,h1⟩))
end Go.SL
namespace Go.SL
open Go Go.RowKit
theorem wZ (z:Array Value) (n:Nat) (u:Value) (h:u∈(Builtin.zeroCells z n).toList):u∈z.toList:=by
 rw [Array.mem_toList_iff,Builtin.zeroCells,Array.mem_map] at h
 obtain ⟨i,hi,rfl⟩:=h
 rw [Array.mem_range] at hi
 have hz:0<z.size:=by
  rcases QB z.size with h|h
  ·
   rw [h] at hi;simp at hi
  ·
   exact h
 have hl:i % z.size<z.size:=Nat.mod_lt _ hz
 rw [getElem!_pos z (i % z.size) hl,Array.mem_toList_iff]
 exact Array.getElem_mem hl
theorem IW {P:Program} {n:Fr} {w0:World} {Q:cd} {s:aB} {H:List Blk} {rest:List Oper} {ty:TypeId} {p:String} {af:Array Edge} {t e k n' c cx g sz:Nat} {x:Operand} {xs:List Value} {R:List Blk} {ops:Array Oper} {z:Value} [ht:Und P t (.slice e)] [hz:Zero P e z]
  (hx:ev s x=some (.slice (some ⟨g,k*sz,none⟩) (n' - k) cx)) (hk:k<n') (hsel:Sel (.own (some g) e sz n' c xs) H R) (hz1: ∀ u∈z.cells.toList,u.oneCell' =true) (hzs:z.cells.size=sz)
  (K:WL P n w0 ops rest Q s (.own (some g) e sz k c (xs.take (k*sz))::R)):
  WL P n w0 ops (⟨none,.call { callee:= .builtin .clear,args:= #[x],argTypes:= #[t] },ty,p,af,none⟩::rest) Q s H:=by
 intro a w hs hm
 have hm' :=hm.sel hsel
 obtain ⟨i,i1,i2⟩:=hz.out
 obtain ⟨b1,b2,b3,junk,b4,b5⟩:=(hm'.on _ O7).1
 have hzl:(Builtin.zeroCells z.cells (n' - k)).toList.length=(n' - k)*sz:=by rw [Array.length_toList,size_zeroCells,hzs]
 have hkn:k*sz+(n' - k)*sz=n' *sz:=by rw [← QH];congr 1;omega
 have hst:=run_storeCells_at (P:=P) g (k*sz) e (Builtin.zeroCells z.cells (n' - k)).toList 0 _ w b5 (by simp only [QR,O2,hzl];omega) (fun u hu=>hz1 u (wZ _ _ _ hu))
 simp only [QW,hzl,hkn] at hst
 have hn0: ¬ n' - k=0:=by omega
 obtain ⟨m,hm2⟩: ∃ m,n' - k=m+1:=⟨n' - k - 1,by omega⟩
 have hrun:(Builtin.clear_ #[t] ty #[.slice (some ⟨g,k*sz,none⟩) (n' - k) cx]).run P w= .ok (.tuple #[]) (w.setRow g ((xs++junk).take (k*sz)++(Builtin.zeroCells z.cells (n' - k)).toList++(xs++junk).drop (n' *sz)).toArray):=by
  rw [hm2] at hst ⊢
  simp [Builtin.clear_,run_underlying ht.out,zeroValue,typeInfo,i1,i2,hst]
 refine wpList_plain rfl fun K' hK=> ?_
 unfold Oper.wp execOp
 simp only [resolve,invoke,builtin,Sem.run_bind,Sem.run_pure,Result.andThen_ok,QP,PB,P3,hs.eval x _ hx,hrun,Oper.upon]
 refine hK _ _ (K _ _ (hs.put_none _) (hm'.upd (eJ _ _ _) (b' := .own (some g) e sz k c (xs.take (k*sz))) ⟨?_,by omega,b3,(Builtin.zeroCells z.cells (n' - k)).toList++(xs++junk).drop (n' *sz),?_,?_⟩ fun k hk=> .inl hk))
 ·
  rw [Pr,b1];omega
 ·
  have hle:n' *sz≤c*sz:=RD _ b2
  simp only [O2,Pr,Pp,hzl]
  rw [O2] at b4
  omega
 ·
  rw [QK (by omega)]
  rw [← Pg]
  exact setRow_heap _ _ _ _ _ _ b5
end Go.SL
