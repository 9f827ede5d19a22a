/-
  Lemmas and walks, put together: Pl8 Rt Sl32 Ru.
-/
import Derived.Test.YtlnecnbfmnfigaaGreatDoorKu34
set_option linter.unusedSimpArgs false
set_option linter.unusedVariables false
set_option maxRecDepth 20000
namespace Go.SL
open Go
def kR (G:Gr) (i k:Nat):Bool:=match (aq G)[i]?,(aq G)[k]? with
 |some c,some d=>aG (aD G c) (bB d.col d.row)
 |_,_=>false
def bu (G:Gr):Nat→Nat→Nat→Bool
 |0,i,k=>kR G i k
 |v+1,i,k=>bu G v i k||(bu G v i v && bu G v v k)
section
variable {G:Gr}
theorem yX {v i k:Nat} (h:bu G v i k=true): ∀ u,v≤u→bu G u i k=true:=fun u hu=>by
 induction u with
 |zero=>rw [Nat.le_zero.1 hu] at h;exact h
 |succ u ih=>
  rcases Qm u v with h1|h1
  ·
   rw [show u+1=v by omega];exact h
  ·
   rw [bu,ih h1,SG]
theorem Fj: ∀ v j i k,j<v→bu G v i j=true→bu G v j k=true→bu G v i k=true:=fun v=>by
 induction v with
 |zero=>intro j i k h;omega
 |succ v ih=>
  intro j i k hj h1 h2
  simp only [bu,QU,Pm] at h1 h2 ⊢
  rcases Qm j v with h3|h3
  ·
   rcases h1 with h1|⟨h1,h4⟩
   ·
    rcases h2 with h2|⟨h2,h5⟩
    ·
     exact .inl (ih j i k h3 h1 h2)
    ·
     exact .inr ⟨ih j i v h3 h1 h2,h5⟩
   ·
    rcases h2 with h2|⟨h2,h5⟩
    ·
     exact .inr ⟨h1,ih j v k h3 h4 h2⟩
    ·
     exact .inr ⟨h1,h5⟩
  ·
   have e:j=v:=by omega
   subst e
   have h4:bu G j i j=true:=h1.elim id fun h=>h.1
   have h5:bu G j j k=true:=h2.elim id fun h=>h.2
   exact .inr ⟨h4,h5⟩
theorem nH {i k:Nat}:kR G i k=true↔ ∃ c d,(aq G)[i]? =some c∧(aq G)[k]? =some d∧aG (aD G c) (bB d.col d.row)=true:=by
 unfold kR
 constructor
 ·
  intro h
  split at h
  ·
   rename_i c d h1 h2;exact ⟨c,d,h1,h2,h⟩
  ·
   cases h
 ·
  rintro ⟨c,d,h1,h2,h⟩
  rw [h1,h2];exact h
theorem Fk: ∀ v i k,bu G v i k=true→ ∃ c d,(aq G)[i]? =some c∧(aq G)[k]? =some d∧Rc G c (bB d.col d.row):=fun v=>by
 induction v with
 |zero=>
  intro i k h
  obtain ⟨c,d,h1,h2,h3⟩:=nH.1 h
  exact ⟨c,d,h1,h2,.use (Qs h1) h3⟩
 |succ v ih=>
  intro i k h
  simp only [bu,QU,Pm] at h
  rcases h with h|⟨h1,h2⟩
  ·
   exact ih i k h
  ·
   obtain ⟨c,d,a1,a2,a3⟩:=ih _ _ h1
   obtain ⟨d',e,b1,b2,b3⟩:=ih _ _ h2
   rw [a2] at b1
   cases b1
   exact ⟨c,e,a1,b2,Rc.trans a3 (Qs a2) b3⟩
theorem Iq {c:Rf} {r:Rct} (h:Rc G c r): ∀ i k d,(aq G)[i]? =some c→(aq G)[k]? =some d→r=bB d.col d.row→bu G G.length i k=true:=by
 induction h with
 |use hc ht=>
  intro i k d h1 h2 h3
  subst h3
  exact yX (v:=0) (nH.2 ⟨_,d,h1,h2,ht⟩) _ (Pb _)
 | @via c e r hc he ht _ ih=>
  intro i k d h1 h2 h3
  obtain ⟨j,hj,hje⟩:=P1 he
  have hj2:(aq G)[j]? =some e:=by rw [O5 hj,hje]
  have hjl:j<G.length:=by rw [aq,Ps] at hj;exact hj
  exact Fj _ j i k hjl (yX (v:=0) (nH.2 ⟨c,e,h1,hj2,ht⟩) _ (Pb _)) (ih j k d hj2 h2 h3)
theorem oh {i k:Nat} {c d:Rf} (h1:(aq G)[i]? =some c) (h2:(aq G)[k]? =some d):bu G G.length i k=true↔Rc G c (bB d.col d.row):=by
 constructor
 ·
  intro h
  obtain ⟨c',d',a1,a2,a3⟩:=Fk _ _ _ h
  rw [h1] at a1;rw [h2] at a2
  cases a1;cases a2
  exact a3
 ·
  intro h;exact Iq h i k d h1 h2 rfl
def iJ (K:List Rf) (b:Nat→Bool):Nat→List Rf
 |0=> []
 |n+1=>iJ K b n++(match K[n]? with|some c=>if b n then [c] else []|none=> [])
theorem qp {K:List Rf} {b:Nat→Bool} {p:Rf→Bool} (h: ∀ i c,K[i]? =some c→b i=p c): ∀ n,n≤K.length→iJ K b n=(K.take n).filter p:=fun n=>by
 induction n with
 |zero=>intro _;rfl
 |succ n ih=>
  intro hn
  have hk:K[n]? =some K[n]:=O5 (by omega)
  rw [iJ,ih (by omega),hk,h n _ hk,Po (by omega),List.filter_append]
  congr 1
  cases hp:p K[n]<;>simp [hp]
def dH (G:Gr) (l:List Rct) (i:Nat):Bool:=match (aq G)[i]? with
 |some c=>l.any fun r=>aG (aD G c) r
 |none=>false
def upT (G:Gr) (l:List Rct) (i:Nat):Bool:=dH G l i||(List.range G.length).any fun k=>bu G G.length i k && dH G l k
theorem FM {l:List Rct} {i:Nat} {c:Rf} (h:(aq G)[i]? =some c):upT G l i=true↔ ∃ r∈l,Rc G c r:=by
 have hc:=Qs h
 have hu: ∀ {k:Nat} {d:Rf},(aq G)[k]? =some d→(dH G l k=true↔ ∃ r∈l,aG (aD G d) r=true):=fun {k d} hk=>by
  unfold dH;rw [hk];simp only [Ql]
 unfold upT
 rw [QU,hu h,Ql]
 constructor
 ·
  rintro (⟨r,hr,ht⟩|⟨k,hk,h1⟩)
  ·
   exact ⟨r,hr,.use hc ht⟩
  ·
   rw [Pm] at h1
   have hkl:k<(aq G).length:=by rw [aq,Ps];exact RX.1 hk
   have hkd:(aq G)[k]? =some (aq G)[k]:=O5 hkl
   obtain ⟨r,hr,ht⟩:=(hu hkd).1 h1.2
   exact ⟨r,hr,Rc.trans ((oh h hkd).1 h1.1) (PG hkl) (.use (PG hkl) ht)⟩
 ·
  rintro ⟨r,hr,hc2⟩
  rcases hc2.last with h1|⟨d,hd,h1,h2⟩
  ·
   exact .inl ⟨r,hr,h1⟩
  ·
   obtain ⟨k,hk,rfl⟩:=P1 hd
   have hkd:(aq G)[k]? =some (aq G)[k]:=O5 hk
   refine .inr ⟨k,RX.2 (by rw [aq,Ps] at hk;exact hk),?_⟩
   rw [Pm]
   exact ⟨(oh h hkd).2 h1,(hu hkd).2 ⟨r,hr,h2⟩⟩
open Classical in
theorem LB (l:List Rct):iJ (aq G) (upT G l) (aq G).length=fI G l:=by
 rw [qp (p:=fun c=>decide (∃ r∈l,Rc G c r)) (fun i c h=>by rw [PN,FM h,decide_eq_true_eq]) _ (Ph _),Qe]
 rfl
open Classical in
theorem Jq {i:Nat} {c:Rf} (h:(aq G)[i]? =some c):iJ (aq G) (bu G G.length i) (aq G).length=cZ G c:=by
 rw [qp (p:=fun d=>decide (Rc G c (bB d.col d.row))) (fun k d hk=>by rw [PN,oh h hk,decide_eq_true_eq]) _ (Ph _),Qe]
 rfl
end
end Go.SL
namespace Go.SL
open Go Go.Proofs Go.Sort Go.Shelf
attribute [local irreducible] W WL WQ WG WA WX WLI WR WT WC WE VOp RW thn blk bZ scp bA bV ck FnAt FnIn FnP ceP
def aX (n:Nat) (f:Nat→Bool):List Value:=(List.range n).map fun k=> .bool (f k)
theorem gZ (n:Nat) (f:Nat→Bool):(aX n f).length=n:=by simp [aX]
theorem dV {n:Nat} {f:Nat→Bool} {k:Nat} (h:k<n):(aX n f)[0+k*1]? =some (.bool (f k)):=by
 unfold aX
 rw [Pn,QD,Pw,RH h];rfl
theorem j6 {n:Nat} {f:Nat→Bool} {k:Nat} {v:Bool}:(aX n f).set (0+k*1) (.bool v)=aX n (fun j=>if j=k then v else f j):=by
 rw [Pn,QD]
 apply RE
 intro j
 unfold aX
 by_cases hj:j<n
 ·
  by_cases e:k=j
  ·
   subst e
   rw [List.getElem?_set_self (by simpa using hj),Pw,RH hj]
   simp
  ·
   rw [List.getElem?_set_ne e,Pw,Pw,RH hj]
   have e2: ¬ j=k:=fun h=>e h.symm
   simp [e2]
 ·
  rw [P5 (by simp;omega),P5 (by simp;omega)]
theorem bN {n:Nat} {f g:Nat→Bool} (h: ∀ k,k<n→f k=g k):aX n f=aX n g:=by
 unfold aX
 exact Qw fun k hk=>by rw [h k (RX.1 hk)]
def iT (n A:Nat) (f:Nat→Bool):Blk:= .own (some A) 4 1 n n (aX n f)
def fu (n:Nat):List Nat→(Nat→Nat→Bool)→Nat→List Blk
 | [],_,_=> []
 |A::As,M,j=>iT n A (M j)::fu n As M (j+1)
theorem pV {n:Nat}: ∀ (As:List Nat) {M M' :Nat→Nat→Bool} (j:Nat),(∀ i k,j≤i→i<j+As.length→k<n→M i k=M' i k)→fu n As M j=fu n As M' j
 | [],_,_,_,_=>rfl
 |A::As,M,M',j,h=>by
  rw [fu,fu,pV As (j+1) fun i k h1 h2=>h i k (by omega) (by rw [Pe];omega),iT,iT,bN fun k hk=>h j k (Ph _) (by rw [Pe];omega) hk]
theorem ym {n:Nat} (A:Nat): ∀ (As:List Nat) (M:Nat→Nat→Bool) (j:Nat),fu n (As++ [A]) M j=fu n As M j++ [iT n A (M (j+As.length))]
 | [],M,j=>rfl
 |B::As,M,j=>by
  rw [O3,fu,fu,ym A As M (j+1),O3,Pe,show j+1+As.length=j+(As.length+1) by omega]
theorem rS {n:Nat}: ∀ (As:List Nat) (M:Nat→Nat→Bool) (j b:Nat) (h:b<As.length),iT n As[b] (M (j+b))∈fu n As M j
 |A::As,M,j,0,_=>O7
 |A::As,M,j,b+1,h=>by
  have h1:=rS (n:=n) As M (j+1) b (by rw [Pe] at h;omega)
  rw [show j+1+b=j+(b+1) by omega] at h1
  exact O9 _ h1
theorem pU {n:Nat}: ∀ (As:List Nat) (M:Nat→Nat→Bool) (j i:Nat) (h:i<As.length),∃ Rs,(∀ M',(∀ a,a≠j+i→M' a=M a)→(fu n As M' j).Perm (iT n As[i] (M' (j+i))::Rs))∧ ∀ b (hb:b<As.length),b≠i→iT n As[b] (M (j+b))∈Rs
 |A::As,M,j,0,_=>⟨fu n As M (j+1),fun M' h=>by
  have e:fu n As M' (j+1)=fu n As M (j+1):=pV As (j+1) fun a k h1 _ _=>by rw [h a (by omega)]
  rw [fu,e]
  exact List.Perm.refl _,fun b hb h0=>by
  match b,hb,h0 with
  |b+1,hb,_=>
   have h1:=rS (n:=n) As M (j+1) b (by rw [Pe] at hb;omega)
   rw [show j+1+b=j+(b+1) by omega] at h1
   exact h1⟩
 |A::As,M,j,i+1,h=>by
  obtain ⟨Rs,hR,hM⟩:=pU As M (j+1) i (by rw [Pe] at h;omega)
  refine ⟨iT n A (M j)::Rs,fun M' hM=> ?_,fun b hb h0=> ?_⟩
  ·
   have h1:=hR M' fun a ha=>hM a (by omega)
   rw [fu,hM j (by omega)]
   rw [show j+1+i=j+(i+1) by omega] at h1
   exact (h1.cons _).trans (List.Perm.swap _ _ _)
  ·
   match b,hb,h0 with
   |0,_,_=>exact O7
   |b+1,hb,h0=>
    have h1:=hM b (by rw [Pe] at hb;omega) (by omega)
    rw [show j+1+b=j+(b+1) by omega] at h1
    exact O9 _ h1
theorem J1 {n:Nat} (As:List Nat) (M:Nat→Nat→Bool) {i:Nat} (h:i<As.length):iT n As[i] (M i)∈fu n As M 0:=by
 have:=rS (n:=n) As M 0 i h
 rwa [Pn] at this
def ltC (a b:Rct):Bool:=ltOf cg a b
set_option maxHeartbeats 1000000 in
theorem HS (a b:Rct) (w:World):aF Tryz.prog 125 [.agg (aH a).toArray,.agg (aH b).toArray] w (.bool (ltC a b)):=by
 refine aA Tryz.func125 rfl Tryz.ntmps125 rfl ?_
 unfold ltC
 rw [kE]
 repeat' (first|refine sT ?_|refine sS ?_|refine sJ ?_|refine sM fun _=> ?_|(refine sC ?_ ?_<;>intro hb<;>try omega)|fail)
 all_goals ((refine rT1 ?_);exact congrArg Value.bool (decide_eq_decide.2 (by omega)))
theorem xV {K:List Rf} {b:Nat→Bool}: ∀ n,(iJ K b n).length≤n
 |0=>Ph _
 |n+1=>by
  have:=xV (K:=K) (b:=b) n
  rw [iJ,O2]
  split
  ·
   split<;>simp<;>omega
  ·
   simp;omega
theorem Ed {K:List Rf} {b:Nat→Bool} {n:Nat} (h:n<K.length):iJ K b (n+1)=if b n then iJ K b n++ [K[n]] else iJ K b n:=by
 rw [iJ,O5 h]
 cases b n<;>simp
set_option maxHeartbeats 2000000 in
theorem Gj (g:Nat) (A:Option Nat) (cap:Nat) (L:List En) (gb:Nat) (b:Nat→Bool) (R:List Blk) (w0:World) (hlen:L.length≤1000):
    FnIn Tryz.prog 57 [.pointer (some ⟨g,0,none⟩),.slice (some ⟨gb,0,none⟩) L.length L.length] w0 (rgB g A cap L++(iT L.length gb b::R)) fun v H=> ∃ A' c',v=sl A' (iJ (L.map En.at_) b L.length).length c' ∧H= .own A' 24 2 (iJ (L.map En.at_) b L.length).length c' ((iJ (L.map En.at_) b L.length).flatMap aw)::(rgB g A cap L++(iT L.length gb b::R)):=by
  refine bM Tryz.func57 rfl Tryz.ntmps57 rfl ?_
  refine aK 24 2 ?_
  unfold rgB iT
  simp only [O8,O3,O4]
  repeat' (first|refine sT ?_|refine sS ?_|refine sM fun _=> ?_|(refine sC ?_ ?_<;>intro hb<;>try omega)|fail)
  refine ax [0,1] rfl (fun y:Nat × Option Nat × Nat=> [(5,sl y.2.1 (iJ (L.map En.at_) b y.1).length y.2.2),(6,.int .i64 (y.1:Int))]) (fun y=> .own y.2.1 24 2 (iJ (L.map En.at_) b y.1).length y.2.2 ((iJ (L.map En.at_) b y.1).flatMap aw):: .box g 138 [sl A L.length cap]:: .own A 135 4 L.length cap (L.flatMap bG):: .own (some gb) 4 1 L.length L.length (aX L.length b)::R) (fun y=>y.1≤L.length) (fun y=>L.length - y.1) (0,none,0) (Pb _) sB mS ?_
  rintro ⟨i,A3,c3⟩ hi
  dsimp only at hi ⊢
  by_cases hlt:i<L.length
  · refine bW (A:=A) pK (by omega) fun gl hA=> ?_
    subst hA
    have hc:=fT hlt
    have hg:=dV (f:=b) hlt
    have hss:=Ed (K:=L.map En.at_) (b:=b) (n:=i) (by rw [Ps];exact hlt)
    rw [List.getElem_map] at hss
    have hsl:=xV (K:=L.map En.at_) (b:=b) i
    generalize L[i]=e at hc hss
    generalize iJ (L.map En.at_) b i=S at hss hsl
    cases hb1:b i with
    |true=>
      rw [hb1] at hg hss
      rw [if_pos rfl] at hss
      repeat' (first|(apply aj (d:=15);exact rfl;apply ag (j:=i);exact rfl;exact rfl;exact hlt)|(apply aj (d:=16);exact rfl;apply aC;exact rfl;exact pK;exact hg)|(apply aj (d:=23);exact rfl;apply ag (j:=i);exact rfl;exact rfl;exact hlt)|(apply aj (d:=25);exact rfl;apply az (ys:=aw e.at_);exact rfl;exact pK;exact hc;exact rfl)|(apply aU;(iterate 3 exact rfl);exact pK;exact pK;exact rfl;(simp [aw,Value.oneCell']);omega;(simp only [maxLen];omega);intro g8 c8)|refine sT ?_|refine sS ?_|refine sN ?_|refine sM fun _=> ?_|(refine sC ?_ ?_<;>intro hb<;>try omega)|fail)
      all_goals first
        |(exfalso;omega)
        | (refine ⟨(i + 1, some g8, c8), hlt, (by dsimp only; omega), (by dsimp only; rw [hss, List.length_append]; exact sB), sB, ?_⟩
           dsimp only
           rw [hss,O2,Pj,Pd,Pq,Pa]
           exact mS)
        |trace_state
    |false=>
      rw [hb1] at hg hss
      rw [if_neg (by simp)] at hss
      repeat' (first|(apply aj (d:=15);exact rfl;apply ag (j:=i);exact rfl;exact rfl;exact hlt)|(apply aj (d:=16);exact rfl;apply aC;exact rfl;exact pK;exact hg)|refine sT ?_|refine sS ?_|refine sN ?_|refine sM fun _=> ?_|(refine sC ?_ ?_<;>intro hb<;>try omega)|fail)
      all_goals first
        |(exfalso;omega)
        | (refine ⟨(i + 1, A3, c3), hlt, (by dsimp only; omega), (by dsimp only; rw [hss]; exact sB), sB, ?_⟩
           dsimp only
           rw [hss]
           exact mS)
        |trace_state
  · have e2:i=L.length:=by omega
    subst e2
    repeat' (first|refine sT ?_|refine sS ?_|refine sN ?_|refine sM fun _=> ?_|(refine sC ?_ ?_<;>intro hb<;>try omega)|fail)
    all_goals first
      |(exfalso;omega)
      |exact bK eIO rfl rfl mS ⟨A3,c3,rfl,rfl⟩
      |trace_state
end Go.SL
namespace Go.SL
open Go Go.RowKit
section
variable {P:Program} {n:Fr} {w0:World} {s:aB} {H H1:List Blk} {l rest:List Oper} {ty:TypeId} {p:String} {af:Array Edge} {K:aB→Prop} {k j f:Nat}
theorem iQ {op:Op} {d jg dg:Nat} {cP:Bool} {v:Value} (hj:gd l jg=some dg) (hg:look s dg=some (.bool cP)) (hn:Nat.blt d n.sz=true) (hr:reaches l f j k=true) (hne:Nat.beq j k=false) (hv:VOp P w0 s H op ty v)
  (h:WG P n w0 l (fun D=>if D j then H1 else H) K rest (k+1) ((d,v)::s)):
  WG P n w0 l (fun D=>if D j then H1 else H) K (⟨some d,op,ty,p,af,some (jg,cP)⟩::rest) k s:=by
 intro a hs hl
 have h0:l[k]? =some ⟨some d,op,ty,p,af,some (jg,cP)⟩:=by simpa using (hl 0).symm
 have hy:=fA hs hj hg
 have hkj: ∀ D:fw,put D k j=D j:=fun D=>by
  unfold put
  rw [if_neg]
  intro e
  subst e
  rw [SK] at hne
  cases hne
 refine ⟨v,.inl ⟨by simp [Region.wanted,hy,jJ],fun L w hrd hc=> ?_⟩,h _ (hs.put (PW ▸ hn) v) fun j=>by have:=hl (j+1);simpa [Qf,QI 1 j] using this⟩
 obtain ⟨ht,hd,hnext⟩:=jh h0 hrd hc
 have hm:=hc.2.2
 have hD:=ht.late hr
 simp only [hD,PH,if_false] at hm
 rw [hv a.eval w _ _ _ _ hs.eval hm]
 refine ⟨rfl,hnext w ?_⟩
 simp only [hkj,hD,PH,if_false]
 exact hm
theorem FD {op:Op} {d jg dg:Nat} {cP:Bool} {u:Value} (hj:gd l jg=some dg) (hg:look s dg=some u) (hw:(jJ u==some cP)=false) (hn:Nat.blt d n.sz=true) (hne:Nat.beq j k=false)
  (h:WG P n w0 l (fun D=>if D j then H1 else H) K rest (k+1) ((d,undef)::s)):
  WG P n w0 l (fun D=>if D j then H1 else H) K (⟨some d,op,ty,p,af,some (jg,cP)⟩::rest) k s:=by
 intro a hs hl
 have h0:l[k]? =some ⟨some d,op,ty,p,af,some (jg,cP)⟩:=by simpa using (hl 0).symm
 have hy:=fA hs hj hg
 have hkj: ∀ D:fw,put D k j=D j:=fun D=>by
  unfold put
  rw [if_neg]
  intro e
  subst e
  rw [SK] at hne
  cases hne
 refine ⟨undef,.inr ⟨by simp only [Region.wanted,hy];exact hw,rfl,fun L w hrd hc=> ?_⟩,h _ (hs.put (PW ▸ hn) _) fun j=>by have:=hl (j+1);simpa [Qf,QI 1 j] using this⟩
 obtain ⟨ht,hd,hnext⟩:=jh h0 hrd hc
 refine hnext w ?_
 simp only [hkj]
 exact hc.2.2
theorem Dz {d jg dg:Nat} {cP:Bool} {f' :FuncId} {xs:List Operand} {vs:List Value} {v:Value} {ts:Array TypeId} [Callable P f'] (hj:gd l jg=some dg) (hg:look s dg=some (.bool cP)) (hn:Nat.blt d n.sz=true) (hr:reaches l f j k=true) (hne:Nat.beq j k=false) (hx:evs s xs=some vs)
  (hF: ∀ w,Mem w0 w H→aF P f' vs w v) (h:WG P n w0 l (fun D=>if D j then H1 else H) K rest (k+1) ((d,v)::s)):
  WG P n w0 l (fun D=>if D j then H1 else H) K (⟨some d,.call { callee:= .value (.func f'),args:=xs.toArray,argTypes:=ts },ty,p,af,some (jg,cP)⟩::rest) k s:=by
 intro a hs hl
 have h0:=(hl 0).symm
 simp only [QW,Sf] at h0
 have hy:=fA hs hj hg
 have hkj: ∀ D:fw,put D k j=D j:=fun D=>by
  unfold put
  rw [if_neg]
  intro e
  subst e
  rw [SK] at hne
  cases hne
 refine ⟨v,.inl ⟨by simp [Region.wanted,hy,jJ],fun L w hrd hc=> ?_⟩,h _ (hs.put (PW ▸ hn) v) fun j=>by have:=hl (j+1);simpa [Qf,QI 1 j] using this⟩
 obtain ⟨ht,hd,hnext⟩:=jh h0 hrd hc
 have hm:=hc.2.2
 have hD:=ht.late hr
 simp only [hD,PH,if_false] at hm
 have hrun:=il (P:=P) (w:=w) (ρ:=a.eval) (d:=some d) (ty:=ty) (p:=p) (af:=af) (g:=some (jg,cP)) (f:=f') (c:= .func f') (xs:=xs) (caps:= []) (ts:=ts) rfl (fq hs hx)
 rw [Pa] at hrun
 rw [hrun]
 refine Calls.mono (hF w hm) ?_
 rintro e w' ⟨u,H',rfl,hm',rfl⟩
 refine ⟨rfl,hnext w' ?_⟩
 simp only [hkj,hD,PH,if_false]
 exact (hm.call hm').right
end
theorem uI {P:Program} {w0:World} {s:aB} {H:List Blk} {ty:TypeId} {x:Operand} {t g o off m:Nat} {xs ys:List Value} [Agg P t m] (hc: ∀ w,Mem w0 w H→Cells w g o xs) (hx:ev s x=some (.pointer (some ⟨g,o+off,none⟩))) (hv:(xs.drop off).take m=ys) (hl:ys.length=m):
  VOp P w0 s H (.load t x) ty (.agg ys.toArray):=fun ρ w _ _ _ _ hρ hm=>by
 subst hv
 have hc:Cells w g (o+off) ((xs.drop off).take m):=((hc w hm).drop (k:=off)).take (k:=m)
 simp [execOp,hρ x _ hx,Instr.loadAt,Instr.sureAddr,fP (P:=P) hl hc]
theorem MG {P:Program} {n:Fr} {w0:World} {Q:cd} {s:aB} {H:List Blk} {c:Code} {lv:Value} {m:Nat} {xs:List Value} (hr: ∀ w,Mem w0 w H→Reads w lv m xs) (h0:0<m) (h: ∀ g o cp,lv= .slice (some ⟨g,o,none⟩) m cp→W P n w0 c Q s H):W P n w0 c Q s H:=fun a w hs hm=>by
 obtain ⟨A,cp,e,_,_,h3⟩:=hr w hm
 obtain ⟨g,o,e2,_⟩:=h3 h0
 exact h g o cp (by rw [e,e2]) a w hs hm
theorem NU {P:Program} {n:Fr} {w0:World} {Q:cd} {s:aB} {H:List Blk} {c:Code} {lv:Value} {m:Nat} {xs:List Value} (hr: ∀ w,Mem w0 w H→Reads w lv m xs) (h: ∀ A cp,lv= .slice A m cp→W P n w0 c Q s H):W P n w0 c Q s H:=fun a w hs hm=>by
 obtain ⟨A,cp,e,_⟩:=hr w hm
 exact h A cp e a w hs hm
theorem Dk {w:World} {g o m cp:Nat} {xs:List Value} (h:Reads w (.slice (some ⟨g,o,none⟩) m cp) m xs) (h0:0<m):Cells w g o xs:=by
 obtain ⟨A,c,e,_,_,h3⟩:=h
 obtain ⟨g',o',rfl,h4⟩:=h3 h0
 cases e
 exact h4.cells
end Go.SL
namespace Go.SL
open Go Go.Proofs
attribute [local irreducible] W WL WQ WG WA WX WLI WR WT WC WE VOp RW thn blk bZ scp bA bV ck FnAt FnIn FnP ceP
theorem p7 (n:Nat):((List.range (n*1)).map fun i=> [Value.bool false][i % [Value.bool false].length]!)=aX n fun _=>false:=by
 simp [aX,Nat.mod_one]
def gM (n A:Nat):Value:= .slice (some ⟨A,0,none⟩) n n
def vF (f:Nat→Bool) (k:Nat):Nat→Bool:=fun j=>decide (j<k) && f j
theorem HB (f:Nat→Bool) (n k:Nat):aX n (fun j=>if j=k then f k else vF f k j)=aX n (vF f (k+1)):=bN fun j _=>by
 unfold vF
 by_cases e:j=k
 ·
  subst e;simp
 ·
  rw [if_neg e]
  congr 1
  rw [decide_eq_decide];omega
theorem HA (f:Nat→Bool) (n:Nat):aX n (fun _=>false)=aX n (vF f 0):=bN fun j _=>by simp [vF]
theorem HC (f:Nat→Bool) (n:Nat):aX n (vF f n)=aX n f:=bN fun j h=>by simp [vF,h]
theorem zr {R:List Blk} {L:List En} {G:Gr} (h:RGOk R L G) (hG:GrOk G) {i k:Nat} (hi:i<L.length) (hk:k<L.length):kR G i k=aG L[i].uses (bB L[k].at_.col L[k].at_.row):=by
 have hki: ∀ j (hj:j<L.length),(aq G)[j]? =some L[j].at_:=fun j hj=>by
  rw [← h.keys,Pw,O5 hj];rfl
 have hu:aD G L[i].at_=L[i].uses:=by
  have hm:L[i].abs∈G:=by rw [← h.rel];exact Py.2 ⟨L[i],PG hi,rfl⟩
  exact fK hG.sort hm
 unfold kR
 rw [hki i hi,hki k hk]
 simp only
 rw [hu]
def oU (G:Gr) (v a:Nat):Nat→Nat→Bool:=fun i k=>if i<a then bu G (v+1) i k else bu G v i k
def nK (G:Gr) (v i k:Nat):Nat→Bool:=fun j=>if j<k then bu G (v+1) i j else bu G v i j
theorem Ky (G:Gr) (v k:Nat):bu G (v+1) v k=bu G v v k:=by
 rw [bu]
 cases bu G v v k<;>simp
theorem JZ (G:Gr) (v a k:Nat):oU G v a v k=bu G v v k:=by
 unfold oU
 split
 ·
  exact Ky G v k
 ·
  rfl
theorem Hj {G:Gr} {v i n k:Nat} (h:bu G v i v=true):aX n (fun j=>if j=k then (bu G v i k||bu G v v k) else nK G v i k j)=aX n (nK G v i (k+1)):=bN fun j _=>by
 unfold nK
 by_cases e:j=k
 ·
  subst e
  rw [if_pos rfl,if_pos (by omega),bu,h,PZ]
 ·
  rw [if_neg e]
  by_cases h1:j<k
  ·
   rw [if_pos h1,if_pos (by omega)]
  ·
   rw [if_neg h1,if_neg (by omega)]
theorem JB {G:Gr} {v i k:Nat} (h:bu G v i v=true):nK G v i k v=true:=by
 unfold nK
 split
 ·
  rw [bu,h,SG]
 ·
  exact h
theorem FU (G:Gr) (v i k:Nat):nK G v i k k=bu G v i k:=by unfold nK;rw [if_neg (by omega)]
theorem Hh (G:Gr) (v i n:Nat):aX n (nK G v i 0)=aX n (bu G v i):=bN fun j _=>by unfold nK;rw [if_neg (by omega)]
theorem Hk (G:Gr) (v i n:Nat):aX n (nK G v i n)=aX n (bu G (v+1) i):=bN fun j h=>by unfold nK;rw [if_pos h]
set_option maxHeartbeats 8000000 in
theorem KP (g:Nat) (A:Option Nat) (cap:Nat) (L:List En) (G:Gr) (R:List Blk) (w0:World) (hR:RGOk R L G) (hG:GrOk G) (hlen:L.length≤1000):
    FnIn Tryz.prog 61 [.pointer (some ⟨g,0,none⟩)] w0 (rgB g A cap L++R) fun v H=> ∃ A' c' As,(0<L.length→ ∃ g',A' =some g')∧As.length=L.length∧v=sl A' L.length c' ∧H= .own A' 124 1 L.length c' (As.map (gM L.length))::(fu L.length As (bu G L.length) 0++(rgB g A cap L++R)):=by
  refine bM Tryz.func61 rfl Tryz.ntmps61 rfl ?_
  have htch:=fun i k hi hk=>zr (i:=i) (k:=k) hR hG hi hk
  refine aK 124 1 ?_
  unfold rgB
  simp only [O8,O3,O4]
  generalize hn:L.length=n at hlen
  repeat' (first|refine sT ?_|refine sS ?_|refine sM fun _=> ?_|(refine sC ?_ ?_<;>intro hb<;>try omega)|fail)
  refine ax [0] rfl (fun y:Nat × List Nat × List Blk × Option Nat × Nat=> [(3,sl y.2.2.2.1 y.2.1.length y.2.2.2.2),(4,.int .i64 (y.1:Int))]) (fun y=> .own y.2.2.2.1 124 1 y.2.1.length y.2.2.2.2 (y.2.1.map (gM n)):: .box g 138 [sl A n cap]:: .own A 135 4 n cap (L.flatMap bG)::y.2.2.1) (fun y=>y.1≤n∧y.2.1.length=y.1∧(fu n y.2.1 (kR G) 0++R).Perm y.2.2.1) (fun y=>n - y.1) (0,[],R,none,0) ⟨Pb _,rfl,List.Perm.refl _⟩ sB mS ?_
  rintro ⟨i,As,Z,A3,c3⟩ ⟨hi,hAl,hZ⟩
  dsimp only at hi hAl hZ ⊢
  have hRZ:MSub R Z:=MSub.trans (MSub.appR R _) (MSub.of_perm hZ.symm)
  by_cases hlt:i<n
  · refine bW (A:=A) pK (by omega) fun gl hA=> ?_
    subst hA
    repeat' (first|(apply mA (c:=n);(iterate 3 exact rfl);omega;(simp only [maxLen];omega);intro g9)|refine sT ?_|refine sS ?_|refine sN ?_|refine sM fun _=> ?_|(refine sC ?_ ?_<;>intro hb<;>try omega)|fail)
    all_goals try (exfalso;omega)
    refine zj (.own (some g9) 4 1 n n (aX n (vF (kR G i) 0)):: .own A3 124 1 As.length c3 (As.map (gM n)):: .box g 138 [sl (some gl) n cap]:: .own (some gl) 135 4 n cap (L.flatMap bG)::Z) (by rw [← HA,← p7];exact mS) ?_
    refine ax [0,3,4,5] rfl (fun k:Nat=> [(6,.int .i64 (k:Int))]) (fun k=> .own (some g9) 4 1 n n (aX n (vF (kR G i) k)):: .own A3 124 1 As.length c3 (As.map (gM n)):: .box g 138 [sl (some gl) n cap]:: .own (some gl) 135 4 n cap (L.flatMap bG)::Z) (fun k=>k≤n) (fun k=>n - k) 0 (Pb _) sB mS ?_
    rintro k hk
    by_cases hlk:k<n
    · have hli:i<L.length:=by omega
      have hlk' :k<L.length:=by omega
      have htc:=htch i k hli hlk'
      have hai:=jz hli
      have hck:=fT hlk'
      have hoke:=hR.en L[i] (PG hli)
      have hT:=fun (r:Rct) (H' :List Blk) (hs:MSub R H') (w' :World) (hm:Mem w0 w' H')=>jx L[i] r w' (hoke.uses _ w' (hs.use hm)) (by have:=hoke.ul;omega)
      have hTk:=hT (bB L[k].at_.col L[k].at_.row)
      rw [← htc] at hTk
      generalize L[i]=e at hai hoke hTk
      generalize L[k]=d at hck hTk
      have hset:=j6 (n:=n) (f:=vF (kR G i) k) (k:=k) (v:=kR G i k)
      rw [HB] at hset
      generalize hty:kR G i k=ty at hTk hset
      repeat' (first|refine sT ?_|refine sS ?_|refine sN ?_|refine sM fun _=> ?_|(refine sC ?_ ?_<;>intro hb<;>try omega)|fail)
      all_goals try (exfalso;omega)
      refine kW (id:=9) 20 (.own (some g9) 4 1 n n (aX n (vF (kR G i) (k+1))):: .own A3 124 1 As.length c3 (As.map (gM n)):: .box g 138 [sl (some gl) n cap]:: .own (some gl) 135 4 n cap (L.flatMap bG)::Z) (by kernel_rfl) (by kernel_rfl) rfl ?_
      repeat' (first|(apply gh (f:=60) (d:=41);exact rfl;decide+kernel;exact rfl;apply ag (j:=i);exact rfl;exact rfl;exact hlt)|(apply gh (f:=60) (d:=42);exact rfl;decide+kernel;exact rfl;apply az (ys:=bG e);exact rfl;exact pK;exact hai;exact rfl)|(apply gh (f:=60) (d:=48);exact rfl;decide+kernel;exact rfl;apply ag (j:=k);exact rfl;exact rfl;exact hlk)|(apply gh (f:=60) (d:=50);exact rfl;decide+kernel;exact rfl;apply az (ys:=aw d.at_);exact rfl;exact pK;exact hck;exact rfl)|(apply gh (f:=60) (d:=53);exact rfl;decide+kernel;exact rfl;apply ag (j:=k);exact rfl;exact rfl;exact hlk)|(apply xG (f' :=71) (f:=60);exact rfl;decide+kernel;exact rfl;exact rfl;(intro w' hm;exact dE _ w'))|(apply xG (f' :=76) (f:=60);exact rfl;decide+kernel;exact rfl;exact rfl;(intro w' hm;exact hTk _ (MSub.trans hRZ mS) w' hm))|(apply jr (g:=g9);exact rfl;exact rfl;exact pK;exact rfl;(rw [gZ];omega);(rw [hset];exact MSub.refl _))|refine sT ?_|refine sS ?_|refine sG ?_|refine sM fun _=> ?_|(refine sC ?_ ?_<;>intro hb<;>try omega)|fail)
      repeat' (first|refine sT ?_|refine sS ?_|refine sN ?_|refine sM fun _=> ?_|(refine sC ?_ ?_<;>intro hb<;>try omega)|fail)
      all_goals first
        |(exfalso;omega)
        |(refine ⟨k+1,hlk,by omega,by exact sB,by exact sB,by exact mS⟩;done)
        |trace_state
    · have hk2:k=n:=by omega
      subst hk2
      rw [HC]
      have hAn:(As++ [g9]).length=As.length+1:=by simp
      repeat' (first|(apply bU;(iterate 3 exact rfl);(repeat first|exact .hd|apply Sel.tl|apply In.tl);(intro w hm;exact hm.cells_own (by (repeat first|exact .hd|apply Sel.tl|apply In.tl)));exact rfl;(simp [Value.oneCell',sl]);omega;(simp only [maxLen];omega);(intro A2 cap2 hA2))|refine sT ?_|refine sS ?_|refine sN ?_|refine sM fun _=> ?_|(refine sC ?_ ?_<;>intro hb<;>try omega)|fail)
      all_goals first
        |(exfalso;omega)
        | (refine ⟨(i + 1, As ++ [g9], iT k g9 (kR G i) :: Z, A2, cap2), ⟨hlt, by dsimp only; omega, ?_⟩, by dsimp only; omega, ?_, by exact sB, ?_⟩
           · dsimp only
             rw [ym,hAl,Pn,Pg]
             exact QG.trans (hZ.cons _)
           · dsimp only;rw [hAn];exact sB
           · dsimp only;rw [hAn,List.map_append];exact mS)
        |trace_state
  · have hi2:i=n:=by omega
    subst hi2
    repeat' (first|refine sT ?_|refine sS ?_|refine sN ?_|refine sM fun _=> ?_|(refine sC ?_ ?_<;>intro hb<;>try omega)|fail)
    all_goals try (exfalso;omega)
    rw [hAl]
    refine ax [0,3] rfl (fun y:Nat × List Blk=> [(7,.int .i64 (y.1:Int))]) (fun y=> .own A3 124 1 i c3 (As.map (gM i)):: .box g 138 [sl A i cap]:: .own A 135 4 i cap (L.flatMap bG)::y.2) (fun y=>y.1≤i∧(fu i As (bu G y.1) 0++R).Perm y.2) (fun y=>i - y.1) (0,Z) ⟨Pb _,hZ⟩ sB mS ?_
    clear hZ hRZ
    rintro ⟨v,Z⟩ ⟨hv,hZ⟩
    dsimp only at hv hZ ⊢
    by_cases hlv:v<i
    · repeat' (first|refine sT ?_|refine sS ?_|refine sN ?_|refine sM fun _=> ?_|(refine sC ?_ ?_<;>intro hb<;>try omega)|fail)
      all_goals try (exfalso;omega)
      refine ax [0,3,7] rfl (fun y:Nat × List Blk=> [(8,.int .i64 (y.1:Int))]) (fun y=> .own A3 124 1 i c3 (As.map (gM i)):: .box g 138 [sl A i cap]:: .own A 135 4 i cap (L.flatMap bG)::y.2) (fun y=>y.1≤i∧(fu i As (oU G v y.1) 0++R).Perm y.2) (fun y=>i - y.1) (0,Z) ⟨Pb _,by rw [show oU G v 0=bu G v from funext fun a=>funext fun b=>by simp [oU]];exact hZ⟩ sB mS ?_
      clear hZ
      rintro ⟨a,Z⟩ ⟨ha,hZ⟩
      dsimp only at ha hZ ⊢
      by_cases hla:a<i
      · refine bW (A:=A3) pK (by omega) fun g3 hA=> ?_
        subst hA
        have haA:a<As.length:=by omega
        have hvA:v<As.length:=by omega
        obtain ⟨Rs,hRs,hRm⟩:=pU (n:=i) As (oU G v a) 0 a haA
        rw [Pn] at hRs
        have hZ2:Z.Perm (iT i As[a] (oU G v a a)::(Rs++R)):=hZ.symm.trans ((hRs _ fun _ _=>rfl).append_right R)
        have hra:(As.map (gM i))[0+a*1]? =some (gM i As[a]):=by rw [Pn,QD,Pw,O5 haA];rfl
        have hrv:(As.map (gM i))[0+v*1]? =some (gM i As[v]):=by rw [Pn,QD,Pw,O5 hvA];rfl
        have hmid:oU G v a a=bu G v a:=by funext k;unfold oU;rw [if_neg (by omega)]
        rw [hmid] at hZ2
        have hvr:v≠a→iT i As[v] (oU G v a v)∈Rs++R:=fun hne=>by
          have h1:=hRm v hvA hne
          rw [Pn] at h1
          exact PV _ h1
        have hnew:(fu i As (oU G v (a+1)) 0++R).Perm (iT i As[a] (bu G (v+1) a)::(Rs++R)):=by
          have h1:=(hRs (oU G v (a+1)) fun b hb=>by funext k;unfold oU;by_cases h:b<a<;>simp [h,show b<a+1↔b<a by omega]).append_right R
          rwa [show oU G v (a+1) a=bu G (v+1) a from by funext k;unfold oU;rw [if_pos (by omega)]] at h1
        refine zj (iT i As[a] (bu G v a):: .own (some g3) 124 1 i c3 (As.map (gM i)):: .box g 138 [sl A i cap]:: .own A 135 4 i cap (L.flatMap bG)::(Rs++R)) (MSub.trans (by exact mS:MSub _ (.own (some g3) 124 1 i c3 (As.map (gM i)):: .box g 138 [sl A i cap]:: .own A 135 4 i cap (L.flatMap bG)::iT i As[a] (bu G v a)::(Rs++R))) (MSub.of_perm (((hZ2.cons _).cons _).cons _))) ?_
        clear hZ hZ2 hRs hRm hmid
        generalize Rs++R=Z2 at hvr hnew
        cases hva:bu G v a v with
        |false=>
          have hsame:aX i (bu G v a)=aX i (bu G (v+1) a):=bN fun k _=>by rw [bu,hva,Qa,Bool.or_false]
          have hcv:=dV (f:=bu G v a) hlv
          rw [hva] at hcv
          unfold iT
          repeat' (first|refine sT ?_|refine sS ?_|refine sN ?_|refine sM fun _=> ?_|(refine sC ?_ ?_<;>intro hb<;>try omega)|fail)
          all_goals try (exfalso;omega)
          refine ax [0,3,7,8] rfl (fun _:Unit=> [(9,.int .i64 0)]) (fun _=> .own (some As[a]) 4 1 i i (aX i (bu G v a)):: .own (some g3) 124 1 i c3 (As.map (gM i)):: .box g 138 [sl A i cap]:: .own A 135 4 i cap (L.flatMap bG)::Z2) (fun _=>True) (fun _=>0) () trivial sB mS ?_
          rintro ⟨⟩ _
          repeat' (first|(apply aj (d:=77);exact rfl;apply ag (j:=a);exact rfl;exact rfl;omega)|(apply aj (d:=78);exact rfl;apply aC;exact rfl;exact pK;exact hra)|(apply aj (d:=80);exact rfl;apply ag (j:=v);exact rfl;exact rfl;exact hlv)|(apply aj (d:=81);exact rfl;apply aC;exact rfl;exact pK;exact hcv)|refine sT ?_|refine sS ?_|refine sN ?_|refine sM fun _=> ?_|(refine sC ?_ ?_<;>intro hb<;>try omega)|fail)
          all_goals first
            |(exfalso;omega)
            | (refine ⟨(a + 1, .own (some As[a]) 4 1 i i (aX i (bu G v a)) :: Z2), ⟨hla, ?_⟩, by dsimp only; omega, by exact sB, by exact sB, by exact mS⟩
               dsimp only
               rw [hsame]
               exact hnew)
            |trace_state
        |true=>
          unfold iT
          rw [← Hh]
          repeat' (first|refine sT ?_|refine sS ?_|refine sN ?_|refine sM fun _=> ?_|(refine sC ?_ ?_<;>intro hb<;>try omega)|fail)
          all_goals try (exfalso;omega)
          refine ax [0,3,7,8] rfl (fun k:Nat=> [(9,.int .i64 (k:Int))]) (fun k=> .own (some As[a]) 4 1 i i (aX i (nK G v a k)):: .own (some g3) 124 1 i c3 (As.map (gM i)):: .box g 138 [sl A i cap]:: .own A 135 4 i cap (L.flatMap bG)::Z2) (fun k=>k≤i) (fun k=>i - k) 0 (Pb _) sB mS ?_
          rintro k hk
          by_cases hlk:k<i
          · have hcv:=dV (f:=nK G v a k) hlv
            rw [JB hva] at hcv
            have hck:=dV (f:=nK G v a k) hlk
            rw [FU] at hck
            have hset:=j6 (n:=i) (f:=nK G v a k) (k:=k) (v:=bu G v a k||bu G v v k)
            rw [Hj hva] at hset
            obtain ⟨fv,hfv,hin⟩: ∃ fv:Nat→Bool,fv k=bu G v v k∧In (.own (some As[v]) 4 1 i i (aX i fv)) (.own (some As[a]) 4 1 i i (aX i (nK G v a k)):: .own (some g3) 124 1 i c3 (As.map (gM i)):: .box g 138 [sl A i cap]:: .own A 135 4 i cap (L.flatMap bG)::Z2):=by
              by_cases e:v=a
              · subst e
                exact ⟨_,FU G v v k,.hd⟩
              · exact ⟨_,JZ G v a k,.tl (.tl (.tl (.tl (In.of_mem (hvr e)))))⟩
            have hfg:=dV (f:=fv) hlk
            rw [hfv] at hfg
            generalize bu G v v k=q at hfg hset
            generalize bu G v a k=p at hck hset
            repeat' (first|(apply aj (d:=77);exact rfl;apply ag (j:=a);exact rfl;exact rfl;omega)|(apply aj (d:=78);exact rfl;apply aC;exact rfl;exact pK;exact hra)|(apply aj (d:=80);exact rfl;apply ag (j:=v);exact rfl;exact rfl;exact hlv)|(apply aj (d:=81);exact rfl;apply aC;exact rfl;exact pK;exact hcv)|refine sT ?_|refine sS ?_|refine sN ?_|refine sM fun _=> ?_|(refine sC ?_ ?_<;>intro hb<;>try omega)|fail)
            all_goals try (exfalso;omega)
            refine kW (id:=20) 22 (.own (some As[a]) 4 1 i i (aX i (nK G v a (k+1))):: .own (some g3) 124 1 i c3 (As.map (gM i)):: .box g 138 [sl A i cap]:: .own A 135 4 i cap (L.flatMap bG)::Z2) (by kernel_rfl) (by kernel_rfl) rfl ?_
            cases p
            · rw [Bool.false_or] at hset
              repeat' (first|(apply gh (f:=60) (d:=87);exact rfl;decide+kernel;exact rfl;apply ag (j:=a);exact rfl;exact rfl;omega)|(apply gh (f:=60) (d:=88);exact rfl;decide+kernel;exact rfl;apply aC;exact rfl;exact pK;exact hra)|(apply gh (f:=60) (d:=92);exact rfl;decide+kernel;exact rfl;apply ag (j:=a);exact rfl;exact rfl;omega)|(apply gh (f:=60) (d:=93);exact rfl;decide+kernel;exact rfl;apply aC;exact rfl;exact pK;exact hra)|(apply gh (f:=60) (d:=95);exact rfl;decide+kernel;exact rfl;apply ag (j:=k);exact rfl;exact rfl;exact hlk)|(apply gh (f:=60) (d:=96);exact rfl;decide+kernel;exact rfl;apply aC;exact rfl;exact pK;exact hck)|(apply iQ (f:=60);(iterate 3 exact rfl);decide+kernel;exact rfl;apply iR;exact rfl)|(apply iQ (f:=60) (d:=100);(iterate 3 exact rfl);decide+kernel;exact rfl;apply ag (j:=v);exact rfl;exact rfl;omega)|(apply iQ (f:=60) (d:=101);(iterate 3 exact rfl);decide+kernel;exact rfl;apply aC;exact rfl;exact pK;exact hrv)|(apply iQ (f:=60) (d:=103);(iterate 3 exact rfl);decide+kernel;exact rfl;apply ag (j:=k);exact rfl;exact rfl;exact hlk)|(apply iQ (f:=60) (d:=104);(iterate 3 exact rfl);decide+kernel;exact rfl;apply aC;exact rfl;exact hin;exact hfg)|(apply gh (f:=60) (d:=106);exact rfl;decide+kernel;exact rfl;apply ag (j:=k);exact rfl;exact rfl;exact hlk)|(apply jr (g:=As[a]);exact rfl;exact rfl;exact pK;exact rfl;(rw [gZ];omega);(rw [hset];exact MSub.refl _))|refine sT ?_|refine sS ?_|refine sG ?_|refine sM fun _=> ?_|(refine sC ?_ ?_<;>intro hb<;>try omega)|fail)
              repeat' (first|refine sT ?_|refine sS ?_|refine sN ?_|refine sM fun _=> ?_|(refine sC ?_ ?_<;>intro hb<;>try omega)|fail)
              all_goals first
                |(exfalso;omega)
                |(refine ⟨k+1,hlk,by omega,by exact sB,by exact sB,by exact mS⟩;done)
                |trace_state
            · rw [SG] at hset
              repeat' (first|(apply gh (f:=60) (d:=87);exact rfl;decide+kernel;exact rfl;apply ag (j:=a);exact rfl;exact rfl;omega)|(apply gh (f:=60) (d:=88);exact rfl;decide+kernel;exact rfl;apply aC;exact rfl;exact pK;exact hra)|(apply gh (f:=60) (d:=92);exact rfl;decide+kernel;exact rfl;apply ag (j:=a);exact rfl;exact rfl;omega)|(apply gh (f:=60) (d:=93);exact rfl;decide+kernel;exact rfl;apply aC;exact rfl;exact pK;exact hra)|(apply gh (f:=60) (d:=95);exact rfl;decide+kernel;exact rfl;apply ag (j:=k);exact rfl;exact rfl;exact hlk)|(apply gh (f:=60) (d:=96);exact rfl;decide+kernel;exact rfl;apply aC;exact rfl;exact pK;exact hck)|(apply FD;(iterate 5 exact rfl))|(apply gh (f:=60) (d:=106);exact rfl;decide+kernel;exact rfl;apply ag (j:=k);exact rfl;exact rfl;exact hlk)|(apply jr (g:=As[a]);exact rfl;exact rfl;exact pK;exact rfl;(rw [gZ];omega);(rw [hset];exact MSub.refl _))|refine sT ?_|refine sS ?_|refine sG ?_|refine sM fun _=> ?_|(refine sC ?_ ?_<;>intro hb<;>try omega)|fail)
              repeat' (first|refine sT ?_|refine sS ?_|refine sN ?_|refine sM fun _=> ?_|(refine sC ?_ ?_<;>intro hb<;>try omega)|fail)
              all_goals first
                |(exfalso;omega)
                |(refine ⟨k+1,hlk,by omega,by exact sB,by exact sB,by exact mS⟩;done)
                |trace_state
          · have hk2:k=i:=by omega
            subst hk2
            rw [Hk]
            repeat' (first|refine sT ?_|refine sS ?_|refine sN ?_|refine sM fun _=> ?_|(refine sC ?_ ?_<;>intro hb<;>try omega)|fail)
            all_goals first
              |(exfalso;omega)
              |(refine ⟨(a+1,.own (some As[a]) 4 1 k k (aX k (bu G (v+1) a))::Z2),⟨hla,hnew⟩,by dsimp only;omega,by exact sB,by exact sB,by exact mS⟩;done)
              |trace_state
      · have ha2:a=i:=by omega
        subst ha2
        rw [pV As 0 (M' :=bu G (v+1)) fun b k _ h1 _=>by unfold oU;rw [if_pos (by omega)]] at hZ
        repeat' (first|refine sT ?_|refine sS ?_|refine sN ?_|refine sM fun _=> ?_|(refine sC ?_ ?_<;>intro hb<;>try omega)|fail)
        all_goals first
          |(exfalso;omega)
          |(refine ⟨(v+1,Z),⟨hlv,hZ⟩,by dsimp only;omega,by exact sB,by exact sB,by exact mS⟩;done)
          |trace_state
    · have hv2:v=i:=by omega
      subst hv2
      have hfin: ∀ (b1 b2 b3:Blk),MSub (b1::(fu v As (bu G v) 0++(b2::b3::R))) (b1::b2::b3::Z):=fun b1 b2 b3=>by
        have h1:(b1::b2::b3::Z).Perm (b1::(fu v As (bu G v) 0++(b2::b3::R))):=by
          refine List.Perm.cons b1 (((hZ.symm.cons b3).cons b2).trans ?_)
          exact ((QG (a:=b3) (l₁:=fu v As (bu G v) 0) (l₂:=R)).symm.cons b2).trans QG.symm
        first|exact MSub.of_perm h1|exact MSub.of_perm h1.symm
      rcases QB v with h0|h0
      · repeat' (first|refine sT ?_|refine sS ?_|refine sN ?_|refine sM fun _=> ?_|(refine sC ?_ ?_<;>intro hb<;>try omega)|fail)
        all_goals first
          |(exfalso;omega)
          |(exact bK eIO rfl rfl (hfin _ _ _) ⟨A3,c3,As,fun h=>absurd h (by omega),hAl,rfl,rfl⟩)
          |trace_state
      · refine bW (A:=A3) pK h0 fun g3 hA=> ?_
        subst hA
        repeat' (first|refine sT ?_|refine sS ?_|refine sN ?_|refine sM fun _=> ?_|(refine sC ?_ ?_<;>intro hb<;>try omega)|fail)
        all_goals first
          |(exfalso;omega)
          |(exact bK eIO rfl rfl (hfin _ _ _) ⟨some g3,c3,As,fun _=>⟨g3,rfl⟩,hAl,rfl,rfl⟩)
          |trace_state
theorem Gm (g:Nat) (A:Option Nat) (cap:Nat) (L:List En) (G:Gr) (R:List Blk) (w0:World) (hR:RGOk R L G) (hG:GrOk G) (hlen:L.length≤1000):
  FnIn Tryz.prog 61 [.pointer (some ⟨g,0,none⟩)] w0 (rgB g A cap L++R) fun v H=> ∃ A' c' As,(0<L.length→ ∃ g',A' =some g')∧As.length=L.length∧v=sl A' L.length c' ∧H= .own A' 124 1 L.length c' (As.map (gM L.length))::(rgB g A cap L++(R++fu L.length As (bu G L.length) 0)):=by
 refine (KP g A cap L G R w0 hR hG hlen).re ?_
 rintro v H ⟨A',c',As,h1,h2,rfl,rfl⟩
 refine ⟨_,?_,A',c',As,h1,h2,rfl,rfl⟩
 have h:(.own A' 124 1 L.length c' (As.map (gM L.length))::(rgB g A cap L++(R++fu L.length As (bu G L.length) 0))).Perm (.own A' 124 1 L.length c' (As.map (gM L.length))::(fu L.length As (bu G L.length) 0++(rgB g A cap L++R))):=by
  refine List.Perm.cons _ ?_
  rw [← Pg]
  exact PI
 first|exact MSub.of_perm h|exact MSub.of_perm h.symm
end Go.SL
