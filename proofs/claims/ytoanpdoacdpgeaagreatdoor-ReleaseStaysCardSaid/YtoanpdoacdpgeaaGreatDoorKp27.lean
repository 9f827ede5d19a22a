/-
  Lemmas and walks, put together: Ob Vd Vh Vn Vl.
-/
import Derived.Test.YtoanpdoacdpgeaaGreatDoorKp26
set_option linter.unusedSimpArgs false
set_option linter.unusedVariables false
set_option maxRecDepth 20000
namespace Go.SL
open Go Go.Proofs
attribute [local irreducible] W WL WQ WG WA WX WLI WR WT WC WE VOp RW thn blk bF scp aR bk bJ aL FnIn FnP ceP
theorem Ce {all:BitVec 64}: ∀ {L:List Ev} {last:Int},dZ all last L=0→ ∀ x∈L,x.step≤lY last L
 | [],_,_,x,hx=>by cases hx
 |y::L,last,h,x,hx=>by
  rw [iA] at h
  split at h
  ·
   rename_i h2;exact absurd h h2
  have hmono: ∀ {L:List Ev} {a:Int},dZ all a L=0→a≤lY a L:=by
   intro L
   induction L with
   |nil=>intro a _;exact RS _
   |cons z L ih=>
    intro a h
    rw [iA] at h
    split at h
    ·
     rename_i h2;exact absurd h h2
    rename_i h2
    have h3:=ih h
    have h4: ¬ z.step≤a:=fun h5=>by
     have h6:=Classical.not_not.1 h2
     unfold kD at h6
     rw [if_pos h5] at h6
     cases h6
    show a≤lY z.step L
    omega
  show x.step≤lY y.step L
  rcases Qx.1 hx with rfl|hx
  ·
   exact hmono h
  ·
   exact Ce h x hx
def rP (last:Int):List Rv→Int
 | []=>last
 |x::l=>rP x.step l
theorem Cj: ∀ (L:List Rv) (last:Int),rP last L=if L.length=0 then last else ((L[L.length - 1]?).map Rv.step).getD 0
 | [],_=>rfl
 | [x],_=>rfl
 |x::y::L,last=>by
  have ih:=Cj (y::L) x.step
  rw [show rP last (x::y::L)=rP x.step (y::L) from rfl,ih]
  simp
theorem AB {all:BitVec 64}: ∀ {L:List Rv} {last:Int},fE all last L=0→ ∀ x∈L,x.step≤rP last L
 | [],_,_,x,hx=>by cases hx
 |y::L,last,h,x,hx=>by
  rw [oW] at h
  split at h
  ·
   rename_i h2;exact absurd h h2
  have hmono: ∀ {L:List Rv} {a:Int},fE all a L=0→a≤rP a L:=by
   intro L
   induction L with
   |nil=>intro a _;exact RS _
   |cons z L ih=>
    intro a h
    rw [oW] at h
    split at h
    ·
     rename_i h2;exact absurd h h2
    rename_i h2
    have h3:=ih h
    have h4: ¬ z.step<a:=fun h5=>by
     have h6:=Classical.not_not.1 h2
     unfold oV at h6
     rw [if_pos h5] at h6
     cases h6
    show a≤rP z.step L
    omega
  show x.step≤rP y.step L
  rcases Qx.1 hx with rfl|hx
  ·
   exact hmono h
  ·
   exact AB h x hx
theorem HF {all:BitVec 64} {s:Int} {L:List Ev} (h:dZ all (-1) L=0):iQ s L=false↔ ∀ x∈L,x.step<s:=by
 have h1:=Ce h
 rw [vB] at h1
 unfold iQ
 by_cases hl:0<L.length
 ·
  rw [if_pos hl,decide_eq_false_iff_not]
  rw [if_neg (by omega)] at h1
  constructor
  ·
   intro h2 x hx
   have:=h1 x hx
   omega
  ·
   intro h2 h3
   have hlt:L.length - 1<L.length:=by omega
   have h4:=h2 _ (Re hlt)
   rw [Ql hlt] at h3
   simp only [Ry,SF] at h3
   omega
 ·
  rw [if_neg hl]
  have:L= []:=RV.1 (by omega)
  subst this
  simp
theorem HC {all:BitVec 64} {s:Int} {L:List Rv} (h:fE all (-1) L=0):kX s L=false↔ ∀ x∈L,x.step<s:=by
 have h1:=AB h
 rw [Cj] at h1
 unfold kX
 by_cases hl:0<L.length
 ·
  rw [if_pos hl,decide_eq_false_iff_not]
  rw [if_neg (by omega)] at h1
  constructor
  ·
   intro h2 x hx
   have:=h1 x hx
   omega
  ·
   intro h2 h3
   have hlt:L.length - 1<L.length:=by omega
   have h4:=h2 _ (Re hlt)
   rw [Ql hlt] at h3
   simp only [Ry,SF] at h3
   omega
 ·
  rw [if_neg hl]
  have:L= []:=RV.1 (by omega)
  subst this
  simp
set_option maxHeartbeats 16000000 in
theorem wF (b:Bk) (x:Bv) (w:World) (h:BRd w b x) (hlen:b.ents.length≤1000000):ay Tryz.prog 16 [.agg (bo b x).toArray] w (.int .i64 (bkE b)):=by
 have hent:=fun (w' :World) (H:List Blk) (hm:Mem w w' H)=>wE b.ents _ w' (h.e.of_w0 hm) hlen
 have hacl:=fun (w' :World) (H:List Blk) (hm:Mem w w' H)=>oC b.users b.rules _ w' (h.r.of_w0 hm)
 have hgnt:=fun (w' :World) (H:List Blk) (hm:Mem w w' H)=>wH b.users b.grants _ w' (h.g.of_w0 hm)
 have haud:=fun (w' :World) (H:List Blk) (hm:Mem w w' H)=>wG b.users b.log b.rels _ _ w' (h.l.of_w0 hm) (h.s.of_w0 hm)
 refine aq Tryz.func16 rfl Tryz.ntmps16 rfl ?_
 unfold bkE
 obtain ⟨Al,cl,el,hl1,hl2,hl3⟩:=h.l
 obtain ⟨Am,cm,em,hm1,hm2,hm3⟩:=h.s
 have hl3' :0<b.log.length→ ∃ g o,x.al=some ⟨g,o,none⟩∧Ro w g o (b.log.flatMap aZ):=by
  cases el
  exact hl3
 have hm3' :0<b.rels.length→ ∃ g o,x.as_=some ⟨g,o,none⟩∧Ro w g o (b.rels.flatMap aX):=by
  cases em
  exact hm3
 have hLm:b.log.length≤maxLen:=QC hl1 hl2
 have hMm:b.rels.length≤maxLen:=QC hm1 hm2
 clear hl1 hl2 hl3 hm1 hm2 hm3 el em
 have hlE:=fun (hz:ri b.users b.log b.rels=0)=>HF (s:=b.step) (tA.1 hz).2.1
 have hlR:=fun (hz:ri b.users b.log b.rels=0)=>HC (s:=b.step) (tA.1 hz).2.2
 generalize cN b.ents=ce at hent ⊢
 generalize ed b.users b.rules=ae at hacl ⊢
 generalize jH b.users b.grants=ge at hgnt ⊢
 generalize ri b.users b.log b.rels=ue at haud hlE hlR ⊢
 obtain ⟨us,E,RU,G,L,M,st⟩:=b
 obtain ⟨ae1,ar1,ag1,al1,as1,ce1,cr1,cg1,cl1,cs1⟩:=x
 dsimp only at*
 simp only [bo] at*
 generalize iQ st L=le at hlE ⊢
 generalize kX st M=lr at hlR ⊢
 repeat' (first|(apply aa (f:=63);exact rfl;exact rfl;(intro w' hm;exact hent w' _ hm))|(apply aa (f:=34);exact rfl;exact rfl;(intro w' hm;exact hacl w' _ hm))|(apply aa (f:=64);exact rfl;exact rfl;(intro w' hm;exact hgnt w' _ hm))|(apply aa (f:=65);exact rfl;exact rfl;(intro w' hm;exact haud w' _ hm))|refine sT ?_|refine sS ?_|refine sN ?_|refine sM fun _=> ?_|(refine sC ?_ ?_<;>intro hb<;>try omega)|fail)
 all_goals first
  |(exfalso;omega)
  |((refine rT1 ?_);simp_all;done)
  |((refine rT1 ?_);simp_all;omega)
  |skip
 rename_i g1 _ _ _ _ _ _ _
 have hue:ue=0:=Decidable.not_not.1 (show ¬ (ue≠0) by assumption)
 have hlE1:=hlE hue
 have hlR1:=hlR hue
 rw [if_neg (by omega),if_neg (show ¬ (ce.2≠0) by assumption),if_neg (show ¬ (ae.2≠0) by assumption),if_neg (show ¬ (ge.2≠0) by assumption),if_neg (show ¬ (ue≠0) by assumption),if_neg (by omega)]
 clear hlE hlR hent hacl hgnt haud
 refine ax [1] rfl (fun i:Nat=> [(10,.int .i64 (i:Int))]) (fun _=> [.box g1 28 [.int .i64 us,.slice ae1 E.length ce1,.slice ar1 RU.length cr1,.slice ag1 G.length cg1,.slice al1 L.length cl1,.slice as1 M.length cs1,.int .i64 st]]) (fun i=>i≤L.length∧ ∀ j (h:j<L.length),j<i→L[j].step<st) (fun i=>L.length - i) 0 ⟨Qt _,fun j _ h=>absurd h (Nat.not_lt_zero _)⟩ sB mS ?_
 rintro i ⟨hi,hall⟩
 by_cases hlt:i<L.length
 ·
  obtain ⟨gl,ol,rfl,hrl⟩:=hl3' (by omega)
  have he:=(Ev.ro (hrl.elem iB i hlt)).1
  have hnx:L[i].step<st→ ∀ j (h:j<L.length),j<i+1→L[j].step<st:=fun hs j hj hji=>by
   by_cases e:j=i
   ·
    subst e;exact hs
   ·
    exact hall j hj (by omega)
  have hbad:st≤L[i].step→le=true:=fun hs=>by
   cases hle:le with
   |true=>rfl
   |false=>exact absurd (hlE1.1 hle _ (Re hlt)) (by omega)
  generalize L[i].step=sp at he hnx hbad
  repeat' (first|(apply aS;exact rfl;apply aj (j:=i);exact rfl;exact rfl;exact hlt)|refine sT ?_|refine sS ?_|refine sQ ?_|refine sN ?_|refine sNQ ?_|refine sO ?_|refine sOQ ?_|refine sD ?_|refine sM fun _=> ?_|(refine sC ?_ ?_<;>intro hb<;>try omega)|(refine sCQ ?_ ?_<;>intro hb<;>try omega)|fail)
  all_goals first
   |(exfalso;omega)
   |((refine rT1 ?_);rw [if_pos (hbad (by omega))];done)
   |(refine ⟨i+1,⟨hlt,hnx (by omega)⟩,by omega,by exact sB,by exact sB,by exact mS⟩;done)
 have hle:le=false:=hlE1.2 fun x hx=>by
  obtain ⟨j,hj,rfl⟩:=Sd hx
  exact hall j hj (by omega)
 rw [hle,if_neg (by decide)]
 repeat' (first|refine sT ?_|refine sS ?_|refine sN ?_|refine sM fun _=> ?_|(refine sC ?_ ?_<;>intro hb<;>try omega)|fail)
 all_goals try (exfalso;omega)
 refine ax [1] rfl (fun i:Nat=> [(11,.int .i64 (i:Int))]) (fun _=> [.box g1 28 [.int .i64 us,.slice ae1 E.length ce1,.slice ar1 RU.length cr1,.slice ag1 G.length cg1,.slice al1 L.length cl1,.slice as1 M.length cs1,.int .i64 st]]) (fun i=>i≤M.length∧ ∀ j (h:j<M.length),j<i→M[j].step<st) (fun i=>M.length - i) 0 ⟨Qt _,fun j _ h=>absurd h (Nat.not_lt_zero _)⟩ sB mS ?_
 rintro k ⟨hk,hall2⟩
 by_cases hltk:k<M.length
 ·
  obtain ⟨gm,om,rfl,hrm⟩:=hm3' (by omega)
  have he:=Rv.ro1 (hrm.elem dS k hltk)
  have hnx:M[k].step<st→ ∀ j (h:j<M.length),j<k+1→M[j].step<st:=fun hs j hj hji=>by
   by_cases e:j=k
   ·
    subst e;exact hs
   ·
    exact hall2 j hj (by omega)
  have hbad:st≤M[k].step→lr=true:=fun hs=>by
   cases hlr:lr with
   |true=>rfl
   |false=>exact absurd (hlR1.1 hlr _ (Re hltk)) (by omega)
  generalize M[k].step=sp at he hnx hbad
  repeat' (first|(apply aS;exact rfl;apply aj (j:=k);exact rfl;exact rfl;exact hltk)|refine sT ?_|refine sS ?_|refine sQ ?_|refine sN ?_|refine sNQ ?_|refine sO ?_|refine sOQ ?_|refine sD ?_|refine sM fun _=> ?_|(refine sC ?_ ?_<;>intro hb<;>try omega)|(refine sCQ ?_ ?_<;>intro hb<;>try omega)|fail)
  all_goals first
   |(exfalso;omega)
   |((refine rT1 ?_);rw [if_pos (hbad (by omega))];done)
   |(refine ⟨k+1,⟨hltk,hnx (by omega)⟩,by omega,by exact sB,by exact sB,by exact mS⟩;done)
 have hlr:lr=false:=hlR1.2 fun x hx=>by
  obtain ⟨j,hj,rfl⟩:=Sd hx
  exact hall2 j hj (by omega)
 rw [hlr,if_neg (by decide)]
 repeat' (first|refine sT ?_|refine sS ?_|refine sN ?_|refine sM fun _=> ?_|(refine sC ?_ ?_<;>intro hb<;>try omega)|fail)
 all_goals first|(exfalso;omega)|((refine rT1 ?_);rfl)
theorem jJ {α β:Type} {f:α→List β} {m:Nat}: ∀ {l:List α},(∀ x∈l,(f x).length≤m)→(l.flatMap f).length≤l.length*m
 | [],_=>Qt _
 |a::l,h=>by
  have h1:=h a Qp
  have h2:=jJ (l:=l) (m:=m) (f:=f) fun x hx=>h x (Qw _ hx)
  rw [QA,Qk,QF,Nat.succ_mul]
  omega
theorem AL (b:Bk) (a:Rf) (u:Us) (rd:BitVec 64) (i:Nat):(lC b a u rd i).length≤1:=by
 unfold lC
 split
 ·
  split<;>simp
 ·
  simp
theorem xG (fn:Int) (r:Rct) (L:List Rl) (G:List Gn):(l3 fn r L G).2.1.length≤G.length:=by
 have:=mC fn r L G 0
 unfold l3
 split
 ·
  exact Qt _
 split
 ·
  exact Qt _
 split
 ·
  exact Qt _
 split
 ·
  exact Qt _
 ·
  rw [Rc];exact this
theorem o4 (fn:Int) (r:Rct) (L:List Rl): ∀ (G:List Gn) (i:Nat),∀ x∈du fn r L G i,x.1<i+G.length
 | [],_,x,h=>by cases h
 |g::G,i,x,h=>by
  rw [du] at h
  rw [QF]
  cases hq:xk fn r L g with
  |true=>
   rw [hq,cond_true] at h
   rcases Qx.1 h with rfl|h
   ·
    dsimp only;omega
   ·
    have:=o4 fn r L G (i+1) x h;omega
  |false=>
   rw [hq,cond_false] at h
   have:=o4 fn r L G (i+1) x h;omega
theorem KI {fn:Int} {r:Rct} {L:List Rl} {G:List Gn}: ∀ i∈(l3 fn r L G).2.1,i<G.length:=by
 intro i hi
 unfold l3 at hi
 split at hi
 ·
  cases hi
 split at hi
 ·
  cases hi
 split at hi
 ·
  cases hi
 split at hi
 ·
  cases hi
 ·
  obtain ⟨x,hx,rfl⟩:=QT.1 hi
  have:=o4 fn r L G 0 x hx
  omega
theorem xz (b:Bk) (a:Rf) (rd:BitVec 64) (u:Us) (hg:b.grants.length≤64):(gx b a rd u).length≤64:=by
 unfold gx
 split
 ·
  exact Qt _
 ·
  have h1:=jJ (l:=(l3 u.fn u.rect b.rules b.grants).2.1) (f:=lC b a u rd) (m:=1) fun x _=>AL b a u rd x
  have h2:=xG u.fn u.rect b.rules b.grants
  omega
theorem xC (b:Bk) (G:Gr) (hG:GrOk G) (a:Rf) (hg:b.grants.length≤64):(lX b G a).length≤64000:=by
 have h1:=jJ (l:=iO G a) (f:=gx b a (atE a b.rules).1.1) (m:=64) fun u _=>xz b a _ u hg
 have h2:=ud hG a
 exact QC h1 (QC (Sk 64 h2) (by decide))
structure Rdu (gg:Nat) (G:Gr) (B:List Blk) (w0:World):Prop where
 fm: ∀ H,MSub B H→FnIn Tryz.prog 123 [.pointer (some ⟨gg,0,none⟩)] w0 H fun v H' => ∃ A cap,v=sl A (bZ G).length cap∧H' = .own A 50 2 (bZ G).length cap ((bZ G).flatMap bf)::H
 us: ∀ d H,MSub B H→FnIn Tryz.prog 125 [.pointer (some ⟨gg,0,none⟩),pg d] w0 H fun v H' => ∃ A cap,v=sl A (iO G d).length cap∧H' = .own A 159 6 (iO G d).length cap ((iO G d).flatMap fq)::H
theorem GOk.rdu {R:List Blk} {E:List En} {clock:Nat} {G:Gr} (h:GOk R E clock G) (hl:G.length≤900) (gg gm:Nat) (w0:World):Rdu gg G (gB gg gm (E.map En.m) clock++R) w0:=
 ⟨fun _ hs=>h.formulas_any gg gm hs w0 hl,fun d _ hs=>h.uses_any gg gm hs w0 d⟩
theorem zh {α β:Type} {F:α→List β} {L:List α} {i:Nat} (h:i<L.length):(L.take (i+1)).flatMap F=(L.take i).flatMap F++F L[i]:=by
 rw [Qv h,QE,QA,QP,Qr]
theorem Es {α β:Type} {F:α→List β} {L:List α} {m:Nat} (i:Nat) (h: ∀ a∈L,(F a).length≤m):((L.take i).flatMap F).length≤L.length*m:=
 QC (jJ fun x hx=>h x (RE hx)) (Sk m (by rw [QD];exact Nat.min_le_right _ _))
section
variable {P:Program} {w0:World} {s:az} {H:List Blk} {ty:TypeId}
theorem tU {c:Bool} {x y:Operand} {a b:BitVec 64} {t t' :TypeId} (h:decide (a≠b)=c) (hx:ev s x=some (vS a)) (hy:ev s y=some (vS b)):VOp P w0 s H (.binOp .neq t x y t') ty (.bool c):=by
 have h1:=gG (P:=P) (w0:=w0) (H:=H) (ty:=ty) (t:=t) (t' :=t') hx hy
 rwa [show (!decide (a=b))=c by rw [← h];simp] at h1
end
theorem Mw {b:Bk} {a:Rf} {u:Us} {rd:BitVec 64} {q:Nat} (h:q<b.grants.length) {c:Bool} (hc:decide (b.grants[q].to≠0#64)=c):lC b a u rd q=if c=true then [⟨b.step - 1,⟨a,u.node⟩,u.fn,u.rect,(q:Int),rd⟩] else []:=by
 unfold lC
 rw [Ql h]
 dsimp only
 subst hc
 simp only [decide_eq_true_eq]
theorem Mo {s:Int} (h:0≤s∧s≤1099511627776):IntKind.i64.wrap (s - 1)=s - 1:=by rw [IntKind.wrap_i64];omega
set_option maxHeartbeats 32000000 in
theorem JM (b:Bk) (x:Bv) (w:World) (h:BRd w b x) (hbo:BkOk b) (hW:Words w) (hlen:b.ents.length≤900):
  aL Tryz.prog 79 [.agg (bo b x).toArray] w fun v H=> ∃ A cap,v=sl A (dH b).length cap∧H= [.own A 62 11 (dH b).length cap ((dH b).flatMap aX)]:=by
 obtain ⟨hgr,hGo,hGl⟩:=KG hbo
 have hN: ∀ (w' :World) (H:List Blk),Mem w w' H→aL Tryz.prog 122 [.slice x.ae b.ents.length x.ce] w' fun v H=> ∃ gg gm E clock R,v= .tuple #[.pointer (some ⟨gg,0,none⟩),.int .i64 0]∧H=gB gg gm (E.map En.m) clock++R∧GOk R E clock (grB b):=by
  intro w' H hm
  have h1:=Pf b.ents _ w' (h.e.of_w0 hm) (by omega) (hW.next hm)
  rw [hgr] at h1
  exact h1
 have hAt:=fun (a:Rf) (w' :World) (H:List Blk) (hm:Mem w w' H)=>NF a b.rules _ w' (h.r.of_w0 hm)
 have hg64:=(jZ.1 hbo.g).2.1
 have hFo:=fun (u:Us) (w' :World) (H:List Blk) (hm:Mem w w' H)=>Ph u.fn u.rect b.rules b.grants _ _ w' (h.r.of_w0 hm) (h.g.of_w0 hm) (by omega)
 have hst:=Mo ⟨(vV (show ¬ bkE b≠0 by rw [pz.2 hbo];decide)).1,(vV (show ¬ bkE b≠0 by rw [pz.2 hbo];decide)).2.1⟩
 have hcl:=fun a=>xC b (grB b) hGo a hg64
 have hul:=fun a rd u=>xz b a rd u hg64
 have hg:=h.g
 have hUl:=fun a=>ud hGo a
 unfold dH xA
 have hlc: ∀ a,lX b (grB b) a=(iO (grB b) a).flatMap (gx b a (atE a b.rules).1.1):=fun _=>rfl
 have hkl:(bZ (grB b)).length≤900:=by rw [bZ,Rc];omega
 generalize grB b=G at hN hGl hcl hUl hlc hkl hGo ⊢
 have hpl:=fun i=>Es (F:=lX b G) (L:=bZ G) i fun a _=>hcl a
 refine aq Tryz.func79 rfl Tryz.ntmps79 rfl ?_
 refine aC 62 11 ?_
 repeat' (first|(apply aA (f:=122);exact rfl;exact rfl;(intro w' hm;exact hN w' _ hm);rintro _ _ ⟨gg,gm,E,clock,Rb,rfl,rfl,hA⟩)|refine sT ?_|refine sS ?_|refine sM fun _=> ?_|(refine sC ?_ ?_<;>intro hb<;>try omega)|fail)
 all_goals try (exfalso;omega)
 rename_i g1
 have hR:=hA.rdu (by omega) gg gm w
 refine LL (.box g1 28 (bo b x):: .own none 62 11 0 0 []::(gB gg gm (E.map En.m) clock++Rb)) (by first|exact MSub.of_perm (Rq (l₂:= [_,_]))|(simp only [Qy,Qm,Qn];exact mS)) ?_
 generalize gB gg gm (E.map En.m) clock++Rb=B at hR ⊢
 have hFm:=hR.fm
 have hUs:=hR.us
 clear hR hA hN
 repeat' (first|(apply aw (f:=123);exact rfl;exact rfl;exact hFm _ mS;rintro _ _ ⟨Ac,cap,rfl,rfl⟩)|refine sT ?_|refine sS ?_|refine sM fun _=> ?_|(refine sC ?_ ?_<;>intro hb<;>try omega)|fail)
 all_goals try (exfalso;omega)
 clear hFm
 refine ax [1,3,24,25] rfl (fun y:Nat × Option Nat × Nat=> [(5,sl y.2.1 (((bZ G).take y.1).flatMap (lX b G)).length y.2.2),(26,.int .i64 (y.1:Int))]) (fun y=> .own y.2.1 62 11 (((bZ G).take y.1).flatMap (lX b G)).length y.2.2 ((((bZ G).take y.1).flatMap (lX b G)).flatMap aX):: .own Ac 50 2 (bZ G).length cap ((bZ G).flatMap bf):: .box g1 28 (bo b x)::B) (fun y=>y.1≤(bZ G).length) (fun y=>(bZ G).length - y.1) (0,none,0) (Qt _) sB mS ?_
 rintro ⟨i,A,c⟩ hi
 dsimp only at hi ⊢
 by_cases hlt:i<(bZ G).length
 ·
  refine eK (A:=Ac) pK (by omega) fun gc hAc=> ?_
  subst hAc
  have hread:=Qc hlt
  have hnx:=zh (F:=lX b G) hlt
  have hpl:=hpl i
  have hav:=HH hGo (Re hlt)
  rw [hlc] at hnx
  generalize (bZ G)[i]=a at hread hnx hav
  generalize ((bZ G).take i).flatMap (lX b G)=X at hnx hpl ⊢
  have hAt:=hAt a
  rw [(O7 (EM hbo.r) hav).2] at hAt
  have hUs:=hUs a
  have hUl:=hUl a
  have hul:=hul a (atE a b.rules).1.1
  generalize (atE a b.rules).1.1=rd at hAt hnx hul
  generalize (atE a b.rules).1.2.1=wr at hAt
  generalize (atE a b.rules).1.2.2=ow at hAt
  clear hlc
  generalize iO G a=U at hUs hUl hnx
  have hpu:=fun k=>Es (F:=gx b a rd) (L:=U) k fun u _=>hul u
  have hxl:X.length≤57600000:=QC hpl (Sk 64000 hkl)
  have hpu2: ∀ k,((U.take k).flatMap (gx b a rd)).length≤64000:=fun k=>QC (hpu k) (Sk 64 hUl)
  repeat' (first|(apply ak (d:=28);exact rfl;apply aj (j:=i);exact rfl;exact rfl;exact hlt)|(apply ak (d:=29);exact rfl;apply aN (ys:=bf a);exact rfl;exact pK;exact hread;exact rfl)|(apply aa (f:=124);exact rfl;exact rfl;(intro w' hm;exact hAt w' _ hm))|(apply aw (f:=125);exact rfl;exact rfl;exact hUs _ mS;rintro _ _ ⟨Au,cu,rfl,rfl⟩)|refine sT ?_|refine sS ?_|refine sN ?_|refine sM fun _=> ?_|(refine sC ?_ ?_<;>intro hb<;>try omega)|fail)
  all_goals try (exfalso;omega)
  rename_i g7 g8
  refine ax [1,3,24,25,26,7,8,39,40] rfl (fun y:Nat × Option Nat × Nat=> [(5,sl y.2.1 (X++(U.take y.1).flatMap (gx b a rd)).length y.2.2),(41,.int .i64 (y.1:Int))]) (fun y=> .own y.2.1 62 11 (X++(U.take y.1).flatMap (gx b a rd)).length y.2.2 ((X++(U.take y.1).flatMap (gx b a rd)).flatMap aX):: .own Au 159 6 U.length cu (U.flatMap fq):: .box g7 50 (bf a):: .box g8 35 [vS rd,vS wr,vS ow]:: .own (some gc) 50 2 (bZ G).length cap ((bZ G).flatMap bf):: .box g1 28 (bo b x)::B) (fun y=>y.1≤U.length) (fun y=>U.length - y.1) (0,A,c) (Qt _) (by simp only [RI,QP,Qr];exact sB) (by simp only [RI,QP,Qr];exact mS) ?_
  clear hUs
  rintro ⟨k,A,c⟩ hk
  dsimp only at hk ⊢
  by_cases hlk:k<U.length
  ·
   refine eK (A:=Au) pK (by omega) fun gu hAu=> ?_
   subst hAu
   have hreadu:=PU hlk
   have hnk:=zh (F:=gx b a rd) hlk
   have hpu2:=hpu2 k
   generalize U[k]=u at hreadu hnk
   have hnk2:X++(U.take (k+1)).flatMap (gx b a rd)=(X++(U.take k).flatMap (gx b a rd))++gx b a rd u:=by rw [hnk,QH]
   have hyl:(X++(U.take k).flatMap (gx b a rd)).length≤57664000:=by rw [Qk];omega
   generalize X++(U.take k).flatMap (gx b a rd)=Y at hnk2 hyl ⊢
   clear hnk
   have hFo:=hFo u
   have hby:=KI (fn:=u.fn) (r:=u.rect) (L:=b.rules) (G:=b.grants)
   have hbl:=xG u.fn u.rect b.rules b.grants
   rw [show gx b a rd u=if u.node<0 then [] else (l3 u.fn u.rect b.rules b.grants).2.1.flatMap (lC b a u rd) from rfl] at hnk2
   by_cases hng:u.node<0
   ·
    rw [if_pos hng,Qr] at hnk2
    repeat' (first|(apply ak (d:=43);exact rfl;apply aj (j:=k);exact rfl;exact rfl;exact hlk)|(apply ak (d:=44);exact rfl;apply aN (ys:=fq u);exact rfl;exact pK;exact hreadu;exact rfl)|refine sT ?_|refine sS ?_|refine sN ?_|refine sM fun _=> ?_|(refine sC ?_ ?_<;>intro hb<;>try omega)|fail)
    all_goals first
     |(exfalso;omega)
     |(refine ⟨(k+1,A,c),hlk,by dsimp only;omega,by simp only [hnk2];exact sB,by exact sB,by simp only [hnk2];exact mS⟩;done)
   rw [if_neg hng] at hnk2
   generalize (l3 u.fn u.rect b.rules b.grants).2.1=BY at hFo hnk2 hby hbl
   generalize (l3 u.fn u.rect b.rules b.grants).1=f1 at hFo
   generalize (l3 u.fn u.rect b.rules b.grants).2.2=f3 at hFo
   have hpb:=fun j=>Es (F:=lC b a u rd) (L:=BY) (m:=1) j fun q _=>AL b a u rd q
   repeat' (first|(apply ak (d:=43);exact rfl;apply aj (j:=k);exact rfl;exact rfl;exact hlk)|(apply ak (d:=44);exact rfl;apply aN (ys:=fq u);exact rfl;exact pK;exact hreadu;exact rfl)|(apply aA (f:=126);exact rfl;exact rfl;(intro w' hm;exact hFo w' _ hm);rintro _ _ ⟨Ab,cb,rfl,rfl⟩)|refine sT ?_|refine sS ?_|refine sN ?_|refine sM fun _=> ?_|(refine sC ?_ ?_<;>intro hb<;>try omega)|fail)
   all_goals try (exfalso;omega)
   rename_i g11
   refine ax [1,3,24,25,26,7,8,39,40,41,11,61,62] rfl (fun y:Nat × Option Nat × Nat=> [(5,sl y.2.1 (Y++(BY.take y.1).flatMap (lC b a u rd)).length y.2.2),(63,.int .i64 (y.1:Int))]) (fun y=> .own y.2.1 62 11 (Y++(BY.take y.1).flatMap (lC b a u rd)).length y.2.2 ((Y++(BY.take y.1).flatMap (lC b a u rd)).flatMap aX):: .own Ab 3 1 BY.length cb (kZ BY):: .box g11 159 (fq u):: .own (some gu) 159 6 U.length cu (U.flatMap fq):: .box g7 50 (bf a):: .box g8 35 [vS rd,vS wr,vS ow]:: .own (some gc) 50 2 (bZ G).length cap ((bZ G).flatMap bf):: .box g1 28 (bo b x)::B) (fun y=>y.1≤BY.length) (fun y=>BY.length - y.1) (0,A,c) (Qt _) (by simp only [RI,QP,Qr];exact sB) (by simp only [RI,QP,Qr];exact mS) ?_
   rintro ⟨j,A,c⟩ hj
   dsimp only at hj ⊢
   by_cases hlj:j<BY.length
   ·
    refine eK (A:=Ab) pK (by omega) fun gb hAb=> ?_
    subst hAb
    have hreadb:=HK hlj
    have hnj:=zh (F:=lC b a u rd) hlj
    have hpb:=hpb j
    have hql:=hby BY[j] (Re hlj)
    generalize BY[j]=q at hreadb hnj hql
    obtain ⟨An,cn,hgv,hg1,hg2,hg3⟩:=hg
    obtain ⟨gn,on,rfl,hrn⟩:=hg3 (by omega)
    have hto:=(Gn.ro (hrn.elem dg q hql)).2.2.1
    obtain ⟨cc,hcc⟩: ∃ cc,decide (b.grants[q].to≠0#64)=cc:=⟨_,rfl⟩
    rw [Mw hql hcc] at hnj
    have hnj2:Y++(BY.take (j+1)).flatMap (lC b a u rd)=(Y++(BY.take j).flatMap (lC b a u rd))++(if cc=true then [⟨b.step - 1,⟨a,u.node⟩,u.fn,u.rect,(q:Int),rd⟩] else []):=by rw [hnj,QH]
    have hzl:(Y++(BY.take j).flatMap (lC b a u rd)).length≤57664100:=by rw [Qk];omega
    generalize Y++(BY.take j).flatMap (lC b a u rd)=Z at hnj2 hzl ⊢
    clear hnj
    generalize b.grants[q].to=to_ at hto hcc
    cases cc with
    |false=>
     rw [if_neg (by decide),Qr] at hnj2
     repeat' (first|(apply ak (d:=65);exact rfl;apply aj (j:=j);exact rfl;exact rfl;exact hlj)|(apply ak (d:=66);exact rfl;apply bD;exact rfl;exact pK;first|exact hreadb|(rw [show 0+j*1=j by omega];exact hreadb))|(apply ak (d:=70);exact rfl;apply aj (j:=q);first|exact rfl|exact congrArg some hgv;exact rfl;exact hql)|(apply ak (d:=72);exact rfl;apply ia;exact rfl;exact hto)|(apply ak (d:=73);exact rfl;apply tU hcc;exact rfl;exact rfl)|refine sT ?_|refine sS ?_|refine sN ?_|refine sM fun _=> ?_|(refine sC ?_ ?_<;>intro hb<;>try omega)|fail)
     all_goals first
      |(exfalso;omega)
      |(refine ⟨(j+1,A,c),hlj,by dsimp only;omega,by simp only [hnj2];exact sB,by exact sB,by simp only [hnj2];exact mS⟩;done)
    |true=>
     rw [if_pos rfl] at hnj2
     repeat' (first|(apply ak (d:=65);exact rfl;apply aj (j:=j);exact rfl;exact rfl;exact hlj)|(apply ak (d:=66);exact rfl;apply bD;exact rfl;exact pK;first|exact hreadb|(rw [show 0+j*1=j by omega];exact hreadb))|(apply ak (d:=70);exact rfl;apply aj (j:=q);first|exact rfl|exact congrArg some hgv;exact rfl;exact hql)|(apply ak (d:=72);exact rfl;apply ia;exact rfl;exact hto)|(apply ak (d:=73);exact rfl;apply tU hcc;exact rfl;exact rfl)|(apply ak (d:=77);exact rfl;apply wW (c:=b.step - 1);exact rfl;exact rfl;exact hst)|(apply bO (d:=91) (A:=A) (m:=1);(iterate 3 exact rfl);exact pK;(intro w hm;exact hm.cells_own pK);exact rfl;(intro u hu;simp [aX] at hu;rcases hu with rfl|rfl|rfl|rfl|rfl|rfl|rfl|rfl|rfl|rfl|rfl<;>rfl);omega;(simp only [maxLen];omega);(intro A' cap' hA'))|refine sT ?_|refine sS ?_|refine sN ?_|refine sM fun _=> ?_|(refine sC ?_ ?_<;>intro hb<;>try omega)|fail)
     all_goals first
      |(exfalso;omega)
      |(refine ⟨(j+1,A',cap'),hlj,by dsimp only;omega,by simp only [hnj2,List.length_append,List.length_singleton];exact sB,by exact sB,by simp only [hnj2,List.length_append,List.length_singleton,List.flatMap_append,List.flatMap_cons,List.flatMap_nil,List.append_nil];exact mS⟩;done)
   ·
    have e:j=BY.length:=by omega
    subst e
    rw [Rx]
    repeat' (first|refine sT ?_|refine sS ?_|refine sN ?_|refine sM fun _=> ?_|(refine sC ?_ ?_<;>intro hb<;>try omega)|fail)
    all_goals first
     |(exfalso;omega)
     |(refine ⟨(k+1,A,c),hlk,by dsimp only;omega,by simp only [hnk2];exact sB,by exact sB,by simp only [hnk2];exact mS⟩;done)
  ·
   have e:k=U.length:=by omega
   subst e
   rw [Rx]
   repeat' (first|refine sT ?_|refine sS ?_|refine sN ?_|refine sM fun _=> ?_|(refine sC ?_ ?_<;>intro hb<;>try omega)|fail)
   all_goals first
    |(exfalso;omega)
    |(refine ⟨(i+1,A,c),hlt,by dsimp only;omega,by simp only [hnx];exact sB,by exact sB,by simp only [hnx];exact mS⟩;done)
 ·
  have e:i=(bZ G).length:=by omega
  subst e
  rw [Rx]
  repeat' (first|refine sT ?_|refine sS ?_|refine sM fun _=> ?_|(refine sC ?_ ?_<;>intro hb<;>try omega)|fail)
  all_goals first
   |(exfalso;omega)
   |(refine cf eIO rfl rfl mS ⟨A,c,rfl,rfl⟩;done)
theorem Km {b:Bk} (hbo:BkOk b) (hlen:b.ents.length≤900):(dH b).length≤57600000:=by
 obtain ⟨_,hGo,hGl⟩:=KG hbo
 have h1:=jJ (l:=bZ (grB b)) (f:=lX b (grB b)) (m:=64000) fun a _=>xC b (grB b) hGo a (jZ.1 hbo.g).2.1
 have h2:(bZ (grB b)).length≤900:=by rw [bZ,Rc];omega
 exact QC h1 (Sk 64000 h2)
def lvE (b:Bk):List Rv × Int:=if bkE b≠0 then ([],bkE b) else (dH b,0)
def frE (b c:Bk):List Rv × Int:=if bkE b≠0 then ([],bkE b) else if bkE c≠0 then ([],bkE c) else (gk (dH c) (dH b),0)
theorem zq {b:Bk} (h: ¬ bkE b≠0):BkOk b:=pz.1 (Decidable.not_not.1 h)
theorem FJ {b:Bk} (hlen:b.ents.length≤900):(lvE b).1.length≤57600000:=by
 unfold lvE
 split
 ·
  exact Qt _
 ·
  rename_i h;exact Km (zq h) hlen
set_option maxHeartbeats 8000000 in
theorem nA (b:Bk) (x:Bv) (w:World) (h:BRd w b x) (hW:Words w) (hlen:b.ents.length≤900):aL Tryz.prog 21 [.agg (bo b x).toArray] w fun v H=> ∃ A cap,v= .tuple #[sl A (lvE b).1.length cap,.int .i64 (lvE b).2]∧H= [.own A 62 11 (lvE b).1.length cap ((lvE b).1.flatMap aX)]:=by
 refine aq Tryz.func21 rfl Tryz.ntmps21 rfl ?_
 have hC:=fun (w' :World) (H:List Blk) (hm:Mem w w' H)=>vW b x w' (h.of_w0 hm) (hW.next hm) (by omega)
 unfold lvE
 by_cases hbe:bkE b≠0
 ·
  rw [if_pos hbe]
  refine aC 62 11 ?_
  repeat' (first|(apply aa (f:=15);exact rfl;exact rfl;(intro w' hm;exact hC w' _ hm))|refine sT ?_|refine sS ?_|refine sM fun _=> ?_|(refine sC ?_ ?_<;>intro hb<;>try omega)|fail)
  all_goals first
   |(exfalso;omega)
   |(exact eR eIO rfl rfl rfl (H' := [.own none 62 11 0 0 []]) mS ⟨none,0,rfl,rfl⟩)
 rw [if_neg hbe]
 have hV:=fun (w' :World) (H:List Blk) (hm:Mem w w' H)=>JM b x w' (h.of_w0 hm) (zq hbe) (hW.next hm) hlen
 rw [show bkE b=0 by omega] at hC
 generalize dH b=V at hV ⊢
 repeat' (first|(apply aa (f:=15);exact rfl;exact rfl;(intro w' hm;exact hC w' _ hm))|(apply aA (f:=79);exact rfl;exact rfl;(intro w' hm;exact hV w' _ hm);rintro _ _ ⟨A,c,rfl,rfl⟩)|refine sT ?_|refine sS ?_|refine sM fun _=> ?_|(refine sC ?_ ?_<;>intro hb<;>try omega)|fail)
 all_goals first
  |(exfalso;omega)
  |(exact eR eIO rfl rfl rfl (H' := [.own A 62 11 V.length c (V.flatMap aX)]) mS ⟨A,c,rfl,rfl⟩)
theorem Eb {b:Bk} (h: ¬ bkE b≠0):lvE b=(dH b,0):=by unfold lvE;rw [if_neg h]
theorem Ki {b:Bk} (h:bkE b≠0):lvE b=([],bkE b):=by unfold lvE;rw [if_pos h]
set_option maxHeartbeats 8000000 in
theorem IE (b c:Bk) (x y:Bv) (w:World) (h:BRd w b x) (k:BRd w c y) (hW:Words w) (hlen:b.ents.length≤900) (hlen2:c.ents.length≤900):aL Tryz.prog 24 [.agg (bo b x).toArray,.agg (bo c y).toArray] w fun v H=> ∃ A cap,v= .tuple #[sl A (frE b c).1.length cap,.int .i64 (frE b c).2]∧H= [.own A 62 11 (frE b c).1.length cap ((frE b c).1.flatMap aX)]:=by
 refine aq Tryz.func24 rfl Tryz.ntmps24 rfl ?_
 have h1:=fun (w' :World) (H:List Blk) (hm:Mem w w' H)=>nA b x w' (h.of_w0 hm) (hW.next hm) hlen
 have h2:=fun (w' :World) (H:List Blk) (hm:Mem w w' H)=>nA c y w' (k.of_w0 hm) (hW.next hm) hlen2
 have hl1:=FJ hlen
 have hl2:=FJ hlen2
 unfold frE
 by_cases hbe:bkE b≠0
 ·
  rw [if_pos hbe]
  rw [Ki hbe] at h1
  generalize bkE b=e at h1 hbe ⊢
  refine aC 62 11 ?_
  repeat' (first|(apply aA (d:=11);exact rfl;exact rfl;(intro w' hm;exact h1 w' _ hm);rintro _ _ ⟨A,c1,rfl,rfl⟩)|refine sT ?_|refine sS ?_|refine sM fun _=> ?_|(refine sC ?_ ?_<;>intro hb<;>try omega)|fail)
  all_goals first
   |(exfalso;omega)
   |(exact eR eIO rfl rfl rfl (H' := [.own none 62 11 0 0 []]) mS ⟨none,0,rfl,rfl⟩)
 rw [if_neg hbe]
 rw [Eb hbe] at h1 hl1
 generalize dH b=U at h1 hl1 ⊢
 by_cases hce:bkE c≠0
 ·
  rw [if_pos hce]
  rw [Ki hce] at h2
  generalize bkE c=e at h2 hce ⊢
  refine aC 62 11 ?_
  repeat' (first|(apply aA (d:=11);exact rfl;exact rfl;(intro w' hm;exact h1 w' _ hm);rintro _ _ ⟨A,c1,rfl,rfl⟩)|(apply aA (d:=19);exact rfl;exact rfl;(intro w' hm;exact h2 w' _ hm);rintro _ _ ⟨A2,c2,rfl,rfl⟩)|refine sT ?_|refine sS ?_|refine sM fun _=> ?_|(refine sC ?_ ?_<;>intro hb<;>try omega)|fail)
  all_goals first
   |(exfalso;omega)
   |(exact eR eIO rfl rfl rfl (H' := [.own none 62 11 0 0 []]) mS ⟨none,0,rfl,rfl⟩)
 rw [if_neg hce]
 rw [Eb hce] at h2 hl2
 generalize dH c=V at h2 hl2 ⊢
 dsimp only at hl1 hl2
 have hM:=fun (lv mv:Value) (w' :World) (hl:Reads w' lv V.length (V.flatMap aX)) (hm:Reads w' mv U.length (U.flatMap aX))=>CX V U lv mv w' hl hm (by omega)
 generalize gk V U=M at hM ⊢
 repeat' (first|(apply aA (d:=11);exact rfl;exact rfl;(intro w' hm;exact h1 w' _ hm);rintro _ _ ⟨A,c1,rfl,rfl⟩)|(apply aA (d:=19);exact rfl;exact rfl;(intro w' hm;exact h2 w' _ hm);rintro _ _ ⟨A2,c2,rfl,rfl⟩)|(apply aA (d:=27);exact rfl;exact rfl;(intro w' hm;exact hM _ _ w' (Reads.of_own hm pK) (Reads.of_own hm pK));rintro _ _ ⟨A3,c3,rfl,rfl⟩)|refine sT ?_|refine sS ?_|refine sM fun _=> ?_|(refine sC ?_ ?_<;>intro hb<;>try omega)|fail)
 all_goals first
  |(exfalso;omega)
  |(exact eR eIO rfl rfl rfl (H' := [.own A3 62 11 M.length c3 (M.flatMap aX)]) mS ⟨A3,c3,rfl,rfl⟩)
def Ez:Bk:=⟨3,xJ,bkR,[PW],[],[],0⟩
set_option maxHeartbeats 8000000 in
theorem zC (w:World):aL Tryz.prog 83 [] w fun v H=> ∃ a:Bo,v= .agg (bo Ez a.v).toArray∧H=bi Ez a:=by
 refine aq Tryz.func83 rfl Tryz.ntmps83 rfl ?_
 repeat' (first|(apply aA (f:=57);exact rfl;exact rfl;(intro w' hm;exact zE w');rintro _ _ ⟨⟨ae,ar,ag,al,as_,ce,cr,cg,cl,cs⟩,rfl,rfl⟩;unfold bi)|refine sT ?_|refine sS ?_|refine sM fun _=> ?_|(refine sC ?_ ?_<;>intro hb<;>try omega)|fail)
 refine yn (A:=ar) (xs:=MY.rules.flatMap bw) pK (by decide) fun gr hA=> ?_
 subst hA
 repeat' (first|(apply ak (d:=5);exact rfl;apply aj (j:=1);exact rfl;exact rfl;decide)|(apply ak (d:=7);exact rfl;apply zX;exact rfl;exact pK;exact rfl;exact rfl)|refine sT ?_|refine sS ?_|refine sM fun _=> ?_|(refine sC ?_ ?_<;>intro hb<;>try omega)|fail)
 rename_i gn
 exact uy eIO rfl rfl pK rfl (H' :=bi Ez ⟨ae,some gr,some gn,al,as_,ce,cr,1,cl,cs⟩) (by unfold bi;exact mS) ⟨⟨ae,some gr,some gn,al,as_,ce,cr,1,cl,cs⟩,rfl,rfl⟩
set_option maxHeartbeats 8000000 in
theorem zf (w:World):aL Tryz.prog 31 [] w fun v H=> ∃ a:Bo,v= .agg (bo ni a.v).toArray∧H=bi ni a:=by
 refine aq Tryz.func31 rfl Tryz.ntmps31 rfl ?_
 repeat' (first|(apply aA (f:=83);exact rfl;exact rfl;(intro w' hm;exact zC w');rintro _ _ ⟨a,rfl,rfl⟩;unfold bi)|refine sT ?_|refine sS ?_|refine sM fun _=> ?_|(refine sC ?_ ?_<;>intro hb<;>try omega)|fail)
 exact uy eIO rfl rfl pK rfl (H' :=bi ni a) (by unfold bi;exact mS) ⟨a,rfl,rfl⟩
theorem ED (w:World):ay Tryz.prog 32 [] w (.agg (aX zk).toArray):=by
 refine aq Tryz.func32 rfl Tryz.ntmps32 rfl ?_
 repeat' (first|refine sT ?_|refine sM fun _=> ?_|(refine sC ?_ ?_<;>intro hb<;>try omega)|fail)
 (refine eRC ?_)
 rfl
theorem MZ:lvE ni=([zk],0):=by
 unfold lvE
 rw [if_neg (by rw [KM];decide),HR]
theorem qA (L:List Rv) {lv mv:Value} {w:World} (hl:Reads w lv L.length (L.flatMap aX)) (hm:Reads w mv L.length (L.flatMap aX)):ay Tryz.prog 23 [lv,mv] w (.bool true):=by
 have:=CH L L lv mv w hl hm
 rwa [decide_eq_true rfl] at this
set_option maxHeartbeats 8000000 in
theorem EK (w:World) (hW:Words w):ay Tryz.prog 30 [] w (.bool true):=by
 refine aq Tryz.func30 rfl Tryz.ntmps30 rfl ?_
 have hL:=fun (a:Bo) (w' :World) (H:List Blk) (hm:Mem w w' H) (hr:BRd w' ni a.v)=>MZ ▸ nA ni a.v w' hr (hW.next hm) (by decide)
 repeat' (first|(apply aA (f:=31);exact rfl;exact rfl;(intro w' hm;exact zf w');rintro _ _ ⟨a,rfl,rfl⟩;unfold bi)|(apply aA (f:=21);exact rfl;exact rfl;(intro w' hm;exact hL a w' _ hm (BRd.of_rows hm pK pK pK pK pK));rintro _ _ ⟨A,c,rfl,rfl⟩)|(apply aa;exact rfl;exact rfl;(intro w hm;exact ED w))|(apply aa (f:=23);exact rfl;exact rfl;(intro w' hm;exact qA [zk] (Reads.of_own (A:=A) hm pK) (Reads.of_own (A:=some _) hm pK)))|refine sT ?_|refine sS ?_|refine sM fun _=> ?_|(refine sC ?_ ?_<;>intro hb<;>try omega)|fail)
 all_goals first|(exfalso;omega)|((refine rT1 ?_);rfl)
theorem Em {a:ByteArray} (h:0<a.size):(ap a).headD 61=bat a 0:=by
 have h1:=fu h
 cases hi:ap a with
 |nil=>rw [hi] at h1;simp at h1
 |cons c l=>rw [hi] at h1;simpa using h1
theorem El {a:ByteArray} (h: ¬ 0<a.size):(ap a).headD 61=61:=by
 have h1:=au a
 cases hi:ap a with
 |nil=>rfl
 |cons c l=>rw [hi,QF] at h1;omega
def zo (n:Nat) (b:Bk):Bk:=⟨b.users,jM n 0 b.ents,b.rules,b.grants,b.log,b.rels,b.step⟩
theorem K3 (n:Nat) (b:Bk) (x:Bv):bo (zo n b) x=bo b x:=by
 unfold bo zo
 rw [lj]
theorem Nj {n:Nat} {b:Bk} (h:BkOk b):lvE (zo n b)=(dH b,0):=by
 have hk:BkOk (zo n b):=⟨h.u,K1 h.e,h.r,h.g,h.l,h.s,h.le,h.lr⟩
 unfold lvE
 rw [if_neg (by rw [pz.2 hk];decide)]
 exact congrArg (fun l=>(l,(0:Int))) (Kn h)
theorem Ni {n:Nat} {b:Bk} {a:Bo} {w0 w:World} {H:List Blk} (hm:Mem w0 w H) (h1:In (.own a.e 52 3 b.ents.length a.ce ((jM n 0 b.ents).flatMap aK)) H) (h2:In (.own a.r 54 7 b.rules.length a.cr (b.rules.flatMap bw)) H) (h3:In (.own a.g 56 8 b.grants.length a.cg (b.grants.flatMap bn)) H) (h4:In (.own a.l 58 9 b.log.length a.cl (b.log.flatMap aZ)) H) (h5:In (.own a.s 62 11 b.rels.length a.cs (b.rels.flatMap aX)) H):BRd w (zo n b) a.v:=by
 refine BRd.of_rows (b:=zo n b) hm ?_ h2 h3 h4 h5
 show In (.own a.e 52 3 (jM n 0 b.ents).length a.ce ((jM n 0 b.ents).flatMap aK)) H
 rw [lj]
 exact h1
theorem Nc {n:Nat} {L:List Et}:(jM n 0 L).take L.length++L.drop L.length=jM n 0 L:=by
 have:=lj n L 0
 rw [Rk,Qr,QY (by omega)]
set_option maxHeartbeats 32000000 in
theorem sH (b:Bk) (x:Bv) (o:Ox) (n:Nat) (hn255:n≤255) (w:World) (h:BRd w b x) (hW:Words w):ay Tryz.prog 7 [.agg (bo b x).toArray,.agg (bN o).toArray,.int .u8 (n:Int)] w (.bool true):=by
 refine aq Tryz.func7 rfl Tryz.ntmps7 rfl ?_
 have hS1:=fun (w' :World) (H:List Blk) (hm:Mem w w' H)=>EQ b x w' (h.of_w0 hm)
 cases hs1:ut b with
 |false=>
  rw [hs1] at hS1
  repeat' (first|(apply aa (d:=21);exact rfl;exact rfl;(intro w' hm;exact hS1 w' _ hm))|refine sT ?_|refine sS ?_|refine sT2 ?_|refine sM fun _=> ?_|(refine sC ?_ ?_<;>intro hb<;>try omega)|fail)
  all_goals first|(exfalso;omega)|((refine rT1 ?_);rfl)
 |true=>
 rw [hs1] at hS1
 have hsb:=GH hs1
 have hlb:LenB b 70:=⟨by omega,by omega,by omega,by omega,by omega⟩
 have hsm:=hlb.small (by omega)
 have hl1:b.ents.length≤900:=by omega
 have hK:=fun (w' :World) (H:List Blk) (hm:Mem w w' H)=>wF b x w' (h.of_w0 hm) (by omega)
 by_cases hbe:bkE b≠0
 ·
  repeat' (first|(apply aa (d:=21);exact rfl;exact rfl;(intro w' hm;exact hS1 w' _ hm))|(apply aa (d:=25);exact rfl;exact rfl;(intro w' hm;exact hK w' _ hm))|refine sT ?_|refine sS ?_|refine sT2 ?_|refine sM fun _=> ?_|(refine sC ?_ ?_<;>intro hb<;>try omega)|fail)
  all_goals first|(exfalso;omega)|((refine rT1 ?_);rfl)
 rw [show bkE b=0 by omega] at hK
 have hbk:=zq hbe
 by_cases h300:300<o.input.size
 ·
  repeat' (first|(apply aa (d:=21);exact rfl;exact rfl;(intro w' hm;exact hS1 w' _ hm))|(apply aa (d:=25);exact rfl;exact rfl;(intro w' hm;exact hK w' _ hm))|refine sT ?_|refine sS ?_|refine sT2 ?_|refine sM fun _=> ?_|(refine sC ?_ ?_<;>intro hb<;>try omega)|fail)
  all_goals first|(exfalso;omega)|((refine rT1 ?_);rfl)
 by_cases hmx:b.step=1099511627776
 ·
  repeat' (first|(apply aa (d:=21);exact rfl;exact rfl;(intro w' hm;exact hS1 w' _ hm))|(apply aa (d:=25);exact rfl;exact rfl;(intro w' hm;exact hK w' _ hm))|refine sT ?_|refine sS ?_|refine sT2 ?_|refine sM fun _=> ?_|(refine sC ?_ ?_<;>intro hb<;>try omega)|fail)
  all_goals first|(exfalso;omega)|((refine rT1 ?_);rfl)
 have hcp:=fun (w' :World) (H:List Blk) (hm:Mem w w' H)=>CK b x w' (h.of_w0 hm) hsm
 repeat' (first|(apply aa (d:=21);exact rfl;exact rfl;(intro w' hm;exact hS1 w' _ hm))|(apply aa (d:=25);exact rfl;exact rfl;(intro w' hm;exact hK w' _ hm))|(apply aA (d:=40);exact rfl;exact rfl;(intro w' hm;exact hcp w' _ hm);rintro _ _ ⟨⟨ae,ar,ag,al,as_,ce,cr,cg,cl,cs⟩,rfl,rfl⟩;unfold bi)|refine sT ?_|refine sS ?_|refine sT2 ?_|refine sM fun _=> ?_|(refine sC ?_ ?_<;>intro hb<;>try omega)|fail)
 all_goals try (exfalso;omega)
 rename_i g3 g4 _ g7
 simp only [Qy,Qm,Qn]
 clear hS1 hK hcp
 obtain ⟨T,hT⟩: ∃ T,jM n 0 b.ents=T:=⟨_,rfl⟩
 have hTl:T.length=b.ents.length:=by rw [← hT];exact lj n b.ents 0
 have hll:b.ents.length≤40:=by omega
 refine ax [2,3,4,7] rfl (fun i:Nat=> [(8,.int .i64 (i:Int))]) (fun i=> [.own ae 52 3 b.ents.length ce ((T.take i++b.ents.drop i).flatMap aK),.box g7 28 (bo b (Bo.v ⟨ae,ar,ag,al,as_,ce,cr,cg,cl,cs⟩)),.own ar 54 7 b.rules.length cr (b.rules.flatMap bw),.own ag 56 8 b.grants.length cg (b.grants.flatMap bn),.own al 58 9 b.log.length cl (b.log.flatMap aZ),.own as_ 62 11 b.rels.length cs (b.rels.flatMap aX),.box g4 37 (bN o),.box g3 28 (bo b x)]) (fun i=>i≤b.ents.length) (fun i=>b.ents.length - i) 0 (Qt _) sB (by simp only [RI,Qn,RM];exact mS) ?_
 rintro i hi
 by_cases hlt:i<b.ents.length
 ·
  refine eK (A:=ae) pK (by omega) fun ge hA=> ?_
  subst hA
  have hXl:=wz hTl hi
  have hXg:=wA hTl hlt
  have hXs:=wy hTl hlt
  have hXe:=uq hTl hlt
  have hTi:T[i]'(by omega)=n9 n i b.ents[i]:=by
   have h1:=qt n b.ents 0 i
   rw [hT,QG,Ql (by omega:i<T.length),Ql hlt] at h1
   exact Option.some.inj h1
  rw [hTi] at hXs hXe
  clear hTi
  obtain ⟨Y,hYe⟩: ∃ Y,T.take (i+1)++b.ents.drop (i+1)=Y:=⟨_,rfl⟩
  rw [hYe] at hXs hXe
  generalize hX:T.take i++b.ents.drop i=X at hXl hXg hXs hXe ⊢
  have hil:i<X.length:=by omega
  have hcell:=nT bz X i 2 hil (by decide)
  rw [Ql hil] at hXg
  replace hXg:=Option.some.inj hXg
  rw [hXg] at hcell
  generalize b.ents[i]=e at hcell hXg hXs hXe
  have hin:(X.flatMap aK)[0+i*3+2]? =some (.string e.input):=by rw [show 0+i*3+2=i*3+2 by omega,hcell];rfl
  have hb1:0<e.input.size→(ap e.input).headD 61=bat e.input 0:=Em
  have hb2: ¬ 0<e.input.size→(ap e.input).headD 61=61:=El
  by_cases hc:(ap e.input).headD 61=61
  ·
   have hsame:n9 n i e=e:=by unfold n9;rw [if_pos hc]
   have hY:=hXe hsame
   rw [hc] at hb1 hb2
   repeat' (first|(apply ak (d:=51);exact rfl;apply aj (j:=i);exact rfl;exact rfl;exact hlt)|(apply ak (d:=53);exact rfl;apply bD;exact rfl;exact pK;exact hin)|refine sT ?_|refine sS ?_|refine sT2 ?_|refine sN ?_|refine sM fun _=> ?_|(refine sC ?_ ?_<;>intro hb<;>try omega)|fail)
   all_goals first
    |(exfalso;omega)
    |(refine ⟨i+1,hlt,by omega,by exact sB,by exact sB,by rw [hYe,hY];exact mS⟩;done)
  ·
   have hturn:n9 n i e=⟨e.at_,Cp ((n+i) % 3)⟩:=by unfold n9;rw [if_neg hc]
   rw [hturn] at hXs
   have hput:=xK bz X i 2 hil (by decide) (.string (Cp ((n+i) % 3))) ⟨e.at_,Cp ((n+i) % 3)⟩ (by rw [hXg];rfl)
   rw [hXs] at hput
   have hm3:(n+i) % 3<3:=Nat.mod_lt _ (by decide)
   have htx:([Value.string ⟨#[55]⟩,.string ⟨#[70,65,76,83,69]⟩,.string ⟨#[121]⟩]:List Value)[(n+i) % 3]? =some (.string (Cp ((n+i) % 3))):=by
    generalize (n+i) % 3=q at hm3
    rcases (by omega:q=0∨q=1∨q=2) with rfl|rfl|rfl<;>rfl
   have hxl:(X.flatMap aK).length=X.length*3:=aH bz X
   rw [← Mz (by rw [hxl];omega),show i*3+2=0+i*3+2 by omega] at hput
   generalize Cp ((n+i) % 3)=tx at hput htx
   generalize hq:(n+i) % 3=q at hm3 htx
   have hrem:((n+i:Nat):Int).tmod 3=(q:Int):=by
    rw [TE (by omega)]
    omega
   generalize X.flatMap aK=xs at hin hput hxl ⊢
   repeat' (first|(apply ak (d:=51);exact rfl;apply aj (j:=i);exact rfl;exact rfl;exact hlt)|(apply ak (d:=53);exact rfl;apply bD;exact rfl;exact pK;exact hin)|((refine jc (id:=9) [3,13] [10] [.box g7 28 (bo b (Bo.v ⟨some ge,ar,ag,al,as_,ce,cr,cg,cl,cs⟩))] (by kernel_rfl) (by kernel_rfl) (by kernel_rfl) mS ?_))|(apply di (d:=67);(iterate 3 exact rfl);apply bP (c:=(n:Int));exact rfl;(simp only [IntKind.wrap_i64];omega))|(apply di (d:=69);(iterate 3 exact rfl);apply dm (a:=n) (b:=i);exact rfl;exact rfl;(simp only [maxLen];omega))|(apply di (d:=70);(iterate 3 exact rfl);apply l8 (c:=(q:Int));exact rfl;exact rfl;decide;exact hrem)|(apply di (d:=71);(iterate 3 exact rfl);apply aj (j:=q);exact rfl;exact rfl;exact hm3)|(apply Pk (d:=72);(iterate 4 exact rfl);apply bD;exact rfl;exact pK;(rw [show 0+q*1=q by omega];exact htx))|(apply di (d:=73);(iterate 3 exact rfl);apply aj (j:=i);exact rfl;exact rfl;exact hlt)|(apply oO (vs:= [.string tx]) (off:=0+i*3+2);exact rfl;exact rfl;exact pK;exact rfl;exact rfl;(intro u hu;simp at hu;subst hu;rfl);(rw [hxl,hXl];omega))|refine sT ?_|refine sS ?_|refine sW ?_|refine sT2 ?_|refine sW2 ?_|refine sN ?_|refine sWN ?_|refine sM fun _=> ?_|(refine sC ?_ ?_<;>intro hb<;>try omega)|(refine sCW ?_ ?_<;>intro hb<;>try omega)|fail)
   all_goals first
    |(exfalso;omega)
    |(refine ⟨i+1,hlt,by omega,by exact sB,by exact sB,by rw [hYe,← hput];exact mS⟩;done)
 ·
  have e:i=b.ents.length:=by omega
  subst e
  have hfin:T.take b.ents.length++b.ents.drop b.ents.length=T:=by rw [← hT];exact Nc
  rw [hfin]
  subst hT
  have haw:=fun (w' :World) (H:List Blk) (hm:Mem w w' H)=>EK w' (hW.next hm)
  have hA1:=fun (w' :World) (H:List Blk) (hm:Mem w w' H)=>LC b x o w' (h.of_w0 hm) (hW.next hm) hsm
  have hLv1:=fun (w' :World) (H:List Blk) (hm:Mem w w' H)=>nA b x w' (h.of_w0 hm) (hW.next hm) hl1
  have hLv2:=fun (y:Bv) (w' :World) (H:List Blk) (hm:Mem w w' H) (hr:BRd w' (zo n b) y)=>nA (zo n b) y w' hr (hW.next hm) (by unfold zo;dsimp only;rw [lj];exact hl1)
  obtain ⟨hapk,haer⟩:=P9 (o:=o) hbk hmx
  have hnx:=(hlb.next o).e
  have hnd:=J8 (o:=o) hbk hmx
  have hFr:=fun (y:Bv) (w' :World) (H:List Blk) (hm:Mem w w' H) (hr:BRd w' (apE b o).1 y)=>IE b (apE b o).1 x y w' (h.of_w0 hm) hr (hW.next hm) hl1 (by omega)
  have hfe:frE b (apE b o).1=(gk (dH (apE b o).1) (dH b),0):=by
   unfold frE
   rw [if_neg hbe,if_neg (by rw [pz.2 hapk];decide)]
  simp only [hfe] at hFr
  simp only [K3,Nj hbk] at hLv2
  simp only [Eb hbe] at hLv1
  simp only [haer] at hA1
  generalize gk (dH (apE b o).1) (dH b)=M at hFr hnd
  generalize dH b=V at hLv1 hLv2
  generalize (apE b o).2.1=cd at hA1 hnd
  generalize (apE b o).2.2.1=pl at hA1
  generalize (apE b o).1=P at hA1 hFr
  have hnl:cd=0∨M.length=0:=by
   by_cases h0:cd=0
   ·
    exact .inl h0
   ·
    exact .inr (by rw [hnd h0];rfl)
  clear hnd hapk haer hfe
  repeat' (first|(apply aA (d:=77);exact rfl;exact rfl;(intro w' hm;exact hLv1 w' _ hm);rintro _ _ ⟨A1,c1,rfl,rfl⟩)|(apply aA (d:=82);exact rfl;exact rfl;(intro w' hm;exact hLv2 _ w' _ hm (Ni (a:=⟨ae,ar,ag,al,as_,ce,cr,cg,cl,cs⟩) hm pK pK pK pK pK));rintro _ _ ⟨A2,c2,rfl,rfl⟩)|(apply aA (d:=88);exact rfl;exact rfl;(intro w' hm;exact hA1 w' _ hm);rintro _ _ ⟨a2,rfl,rfl⟩;unfold bi)|(apply aA (d:=96);exact rfl;exact rfl;(intro w' hm;exact hFr _ w' _ hm (BRd.of_rows hm pK pK pK pK pK));rintro _ _ ⟨A3,c3,rfl,rfl⟩)|(apply aa (d:=116);exact rfl;exact rfl;(intro w' hm;exact qA V (Reads.of_own (A:=A1) hm pK) (Reads.of_own (A:=A2) hm pK)))|(apply aa (f:=30);exact rfl;exact rfl;(intro w' hm;exact haw w' _ hm))|refine sT ?_|refine sS ?_|refine sT2 ?_|refine sN ?_|refine sM fun _=> ?_|(refine sC ?_ ?_<;>intro hb<;>try omega)|fail)
  all_goals first|(exfalso;omega)|((refine rT1 ?_);rfl)
theorem sF (b:Bk) (x:Bv) (o:Ox) (n:Int) (hn255:0≤n∧n≤255) (w:World) (h:BRd w b x) (hW:Words w):ay Tryz.prog 7 [.agg (bo b x).toArray,.agg (bN o).toArray,.int .u8 n] w (.bool true):=by
 obtain ⟨m,rfl⟩: ∃ m:Nat,n=(m:Int):=⟨n.toNat,by omega⟩
 exact sH b x o m (by omega) w h hW
end Go.SL
