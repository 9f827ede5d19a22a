/-
  Lemmas and walks, put together: Q7 Ih Q9 Ii.
-/
import Derived.Test.YtoanpdoacdpgeaaGreatDoorKp21
import Derived.Test.YtoanpdoacdpgeaaGreatDoorKp22
set_option linter.unusedSimpArgs false
set_option linter.unusedVariables false
set_option maxRecDepth 20000
namespace Go.SL
open Go Go.Proofs
attribute [local irreducible] W WL WQ WG WA WX WLI WR WT WC VOp RW thn blk bF scp aR bk bJ aL FnIn FnP ceP
theorem yI {tk:List Int→Option (Tk × Nat)} {a:ByteArray} (h:(bE tk (ap a)).2.2=0):a.size≤256:=by
 unfold bE at h
 split at h
 ·
  cases h
 ·
  rename_i h1
  rw [au] at h1
  omega
set_option maxHeartbeats 4000000 in
theorem wD (a:ByteArray) (w:World) (r:List Nd × Int × Int) (hr:r=bQ (bE bI (ap a)) (a.size:Int)):
  aL Tryz.prog 147 [.string a] w fun v H=> ∃ A cap,v=Fl A cap r∧H= [.own A 293 11 r.1.length cap (r.1.flatMap bT)]:=by
 refine aq Tryz.func147 rfl Tryz.ntmps147 rfl ?_
 have hT:=fun w' =>yO a w'
 have htl:=mi bI (ap a)
 have hch:=wu (ap a)
 have hnum:=Af (ap a)
 have hsz:=yI (tk:=bI) (a:=a)
 obtain ⟨⟨toks,at0,e0⟩,hx⟩: ∃ x,bE bI (ap a)=x:=⟨_,rfl⟩
 rw [hx] at hr htl hch hnum hsz
 simp only [hx,Fm] at hT
 dsimp only at htl hch hnum hsz
 refine aC 293 11 ?_
 refine aC 293 11 ?_
 by_cases he0:e0≠0
 ·
  have hr' :r=([],at0,e0):=by rw [hr];simp [bQ,he0]
  subst hr'
  repeat' (first|(apply aA (f:=194);exact rfl;exact rfl;exact fun w' _=>hT w';rintro _ _ ⟨A,cap,rfl,rfl⟩)|refine sT ?_|refine sS ?_|refine sN ?_|refine sM fun _=> ?_|(refine sC ?_ ?_<;>intro hb<;>try omega)|fail)
  all_goals first
   |(exfalso;omega)
   |exact nY eIO rfl rfl rfl rfl (H' := [.own none 293 11 0 0 []]) mS ⟨none,0,rfl,rfl⟩
 have he0:e0=0:=Classical.not_not.1 he0
 subst he0
 replace hsz:=hsz rfl
 obtain ⟨r1,hr1,_⟩:=qO (a.size:Int) (20*toks.length+40) (.level 1) ⟨toks,[]⟩ ⟨by omega,by omega⟩ (by simp [Job.c])
 have hL:=(DB (20*toks.length+40)).1 1 (by decide) (by decide)
 obtain ⟨ff,hff⟩: ∃ ff,20*toks.length+40=ff:=⟨_,rfl⟩
 rw [hff] at hr1 hL
 cases r1 with
 |error e=>
  have hr' :r=([],e.1,e.2):=by rw [hr];simp [bQ,hff,hr1]
  subst hr'
  repeat' (first|(apply aA (f:=194);exact rfl;exact rfl;exact fun w' _=>hT w';rintro _ _ ⟨A,cap,rfl,rfl⟩)|(apply aw (f:=195);exact rfl;exact rfl;rename_i g;exact FnIn.msub (hL ⟨g,a,A,cap,toks,hsz,htl,hch⟩ 0 ⟨toks,[]⟩ none 0 _ _ w (Nat.zero_le _) rfl (Nat.le_refl 0) hr1) (MSub.pick pK (MSub.pick pK (MSub.pick pK (MSub.refl _))));rintro _ _ ⟨rfl,k1,B1,cb1,o1,j1,j2,j3,j4,rfl⟩;dsimp only at j2;obtain ⟨u,hd1⟩: ∃ u,hdT (a.size:Int) (toks.drop k1)=u:=⟨_,rfl⟩)|(apply ak;exact rfl;apply cL;exact rfl;exact rfl)|(apply aa (f:=197);exact rfl;exact rfl;exact fun w' hm=>Cx.next (x:=⟨_,a,A,cap,toks,hsz,htl,hch⟩) hd1 (B:=B1) (cb:=cb1) (out:=o1) (at_:=e.1) (e:=e.2) (MSub.pick pK (MSub.pick pK (MSub.pick pK (MSub.nil _)))) w' hm)|(apply aw (f:=196);exact rfl;exact rfl;exact FnIn.msub (fk _ a A toks.length cap k1 B1 o1.length cb1 e.1 e.2 _ _ _ _) (MSub.pick pK (.refl _));rw [if_neg j1,if_neg j1];rintro _ _ ⟨rfl,rfl⟩)|refine sT ?_|refine sS ?_|refine sQ ?_|refine sN ?_|refine sNQ ?_|refine sD ?_|refine sM fun _=> ?_|(refine sC ?_ ?_<;>intro hb<;>try omega)|(refine sCQ ?_ ?_<;>intro hb<;>try omega)|fail)
  all_goals first
   |(exfalso;omega)
   |exact absurd (by assumption) j1
   |exact nY eIO rfl rfl rfl rfl (H' := [.own none 293 11 0 0 []]) mS ⟨none,0,rfl,rfl⟩
 |ok y=>
  obtain ⟨n,p'⟩:=y
  have hwf:=Fv _ _ _ _ _ _ hr1 (⟨hnum,fun _ h=>by cases h⟩:Wf ⟨toks,[]⟩)
  have hD:=fun (tv:Value) (w' :World) (h:Reads w' tv p'.out.length (p'.out.flatMap bT))=>AY p'.out hwf.2 tv w' h
  have hde:(nn p'.out).2=fZ p'.out:=by
   unfold nn
   split
   ·
    rfl
   ·
    rename_i h;simp at h;simp [h]
  obtain ⟨dd,de,hdd⟩: ∃ a b,nn p'.out=(a,b):=⟨_,_,rfl⟩
  rw [hdd] at hD hde
  dsimp only at hD hde
  repeat' (first|(apply aA (f:=194);exact rfl;exact rfl;exact fun w' _=>hT w';rintro _ _ ⟨A,cap,rfl,rfl⟩)|(apply aw (f:=195);exact rfl;exact rfl;rename_i g;exact FnIn.msub (hL ⟨g,a,A,cap,toks,hsz,htl,hch⟩ 0 ⟨toks,[]⟩ none 0 _ _ w (Nat.zero_le _) rfl (Nat.le_refl 0) hr1) (MSub.pick pK (MSub.pick pK (MSub.pick pK (MSub.refl _))));rintro _ _ ⟨rfl,k1,B1,cb1,j1,j2,j3,j4,rfl⟩;dsimp only at j1 j2;obtain ⟨u,hd1⟩: ∃ u,hdT (a.size:Int) (toks.drop k1)=u:=⟨_,rfl⟩)|(apply ak;exact rfl;apply cL;exact rfl;exact rfl)|(apply aa (f:=197);exact rfl;exact rfl;exact fun w' hm=>Cx.next (x:=⟨_,a,A,cap,toks,hsz,htl,hch⟩) hd1 (B:=B1) (cb:=cb1) (out:=p'.out) (at_:=0) (e:=0) (MSub.pick pK (MSub.pick pK (MSub.pick pK (MSub.nil _)))) w' hm)|(apply aw (f:=196);exact rfl;exact rfl;exact FnIn.msub (fk _ a A toks.length cap k1 B1 p'.out.length cb1 0 0 _ _ _ _) (MSub.pick pK (.refl _));rintro _ _ ⟨rfl,rfl⟩)|(apply aa (f:=198);exact rfl;exact rfl;(intro w' hm';exact hD _ w' (Reads.of_own (A:=B1) hm' pK)))|refine sT ?_|refine sS ?_|refine sQ ?_|refine sN ?_|refine sNQ ?_|refine sD ?_|refine sM fun _=> ?_|(refine sC ?_ ?_<;>intro hb<;>try omega)|(refine sCQ ?_ ?_<;>intro hb<;>try omega)|fail)
  all_goals try (exfalso;omega)
  ·
   have hk1:k1<toks.length:=by
    have:(k1:Int)<(toks.length:Int):=by assumption
    omega
   have hu0:u.kind≠0:=fun h=>by
    have h2:=(hch.drop k1).kind (fin:=(a.size:Int))
    rw [hd1] at h2
    have:=congrArg List.length (h2.1 h)
    rw [Qz,SQ] at this
    omega
   have hr' :r=([],u.at_,4):=by rw [hr];simp [bQ,hff,hr1,j2,hd1,hu0]
   subst hr'
   exact nY eIO rfl rfl rfl rfl (H' := [.own none 293 11 0 0 []]) mS ⟨none,0,rfl,rfl⟩
  all_goals
   have hk1:toks.length≤k1:=by
    have:(toks.length:Int)≤(k1:Int):=by assumption
    omega
   have hu0:u.kind=0:=by rw [← hd1,tu hk1];rfl
  ·
   have hr' :r=([],0,de):=by
    have hb' :de≠0:=by assumption
    rw [hr];rw [hde] at hb' ⊢;simp [bQ,hff,hr1,j2,hd1,hu0,hb']
   subst hr'
   exact nY eIO rfl rfl rfl rfl (H' := [.own none 293 11 0 0 []]) mS ⟨none,0,rfl,rfl⟩
  ·
   have hr' :r=(p'.out,0,0):=by
    have hb' :fZ p'.out=0:=hde ▸ Classical.not_not.1 (by assumption)
    rw [hr];simp [bQ,hff,hr1,j2,hd1,hu0,hb']
   subst hr'
   exact nY eIO rfl rfl rfl rfl (H' := [.own B1 293 11 p'.out.length cb1 (p'.out.flatMap bT)]) mS ⟨B1,cb1,rfl,rfl⟩
end Go.SL
namespace Go.SL
open Go Go.Proofs
attribute [local irreducible] W WL WQ WG WA WX WLI WR WT WC WE VOp RW thn blk bF scp aR bk bJ aL FnIn FnP ceP
def CB (r:Rct):Int:=if aJ r=false then 0 else (r.c2 - r.c1+1)*(r.r2 - r.r1+1)
theorem Be (r:Rct) (w:World):ay Tryz.prog 101 [.agg (bK r).toArray] w (.tuple #[.int .i64 (CB r),.int .i64 (dC r)]):=by
 refine aq Tryz.func101 rfl Tryz.ntmps101 rfl ?_
 have h1:=fun w=>fR r w
 unfold CB
 by_cases h:aJ r=false
 ·
  rw [if_pos h]
  have hne:dC r≠0:=fun e=>eV (by omega) h
  generalize dC r=e at h1 hne ⊢
  repeat' (first|(apply aa;exact rfl;exact rfl;(intro w hm;exact h1 w))|refine sT ?_|refine sM fun _=> ?_|(refine sC ?_ ?_<;>intro hb<;>try omega)|fail)
  all_goals first|(exfalso;omega)|((refine rT2 ?_);rfl)
 ·
  rw [if_neg h]
  have hz:dC r=0:=by
   rcases Decidable.em (dC r=0) with e|e
   ·
    exact e
   ·
    exact absurd (ik e) h
  rw [hz] at h1 ⊢
  have hb:1≤r.c1∧r.c1≤r.c2∧r.c2≤1024∧1≤r.r1∧r.r1≤r.r2∧r.r2≤1024:=by
   have:aJ r=true:=by simpa using h
   simp only [aJ,valid,Qu,decide_eq_true_eq] at this
   omega
  have hm: -9223372036854775808≤(r.c2 - r.c1+1)*(r.r2 - r.r1+1)∧(r.c2 - r.c1+1)*(r.r2 - r.r1+1)≤9223372036854775807:=by
   have h1:(0:Int)≤(r.c2 - r.c1+1)*(r.r2 - r.r1+1):=Int.mul_nonneg (by omega) (by omega)
   have h2:(r.c2 - r.c1+1)*(r.r2 - r.r1+1)≤1024*1024:=Int.mul_le_mul (by omega) (by omega) (by omega) (by omega)
   omega
  repeat' (first|(apply aa;exact rfl;exact rfl;(intro w hm;exact h1 w))|(apply ak;exact rfl;apply tV;exact rfl;exact rfl;exact hm)|refine sT ?_|refine sJ ?_|refine sM fun _=> ?_|(refine sC ?_ ?_<;>intro hb<;>try omega)|fail)
  all_goals first|(exfalso;omega)|((refine rT2 ?_);rfl)
def GR (b:Bk) (o:Ox):Bool:=match b.grants[o.idx.toNat]? with|some g=>g.rev|none=>true
theorem Fx {b:Bk} {o:Ox} {j:Nat} (hj:o.idx=(j:Int)) (hl:j<b.grants.length):GR b o=b.grants[j].rev:=by
 unfold GR
 rw [hj,RX,Ql hl]
def tst (b:Bk) (o:Ox):Nat→Bool
 |0=>decide (opE o≠0)
 |1=>decide (o.user<0)||decide (b.users≤o.user)
 |2=>(kr o).2 && decide (dC (kr o).1≠0)
 |3=>decide ((o.rd|||o.wr|||o.ow|||o.to) &&& ~~~(cY b.users).1≠0#64)
 |4=>decide (o.kind=9) && (decide (o.idx<0)||decide ((b.grants.length:Int)≤o.idx)||GR b o)
 |5=>GP b o
 |6=>decide (o.kind=3) && decide ((ofP o.input).2.2≠0)
 |7=>(decide (o.kind=5) && decide (1024<CB (kr o).1))||(decide (o.kind=7) && decide (64≤b.rules.length))||(decide (o.kind=8) && decide (64≤b.grants.length))
 |_=>false
def cdE (b:Bk) (o:Ox):Int × Int:=
 if tst b o 0 then (1,0) else if tst b o 1 then (2,0) else if tst b o 2 then (4,0) else if tst b o 3 then (2,0) else if tst b o 4 then (8,0)
 else if tst b o 5 then (5,0) else if tst b o 6 then (6,(ofP o.input).2.1) else if tst b o 7 then (7,0) else (0,0)
section
variable {b:Bk} {x:Bv} {o:Ox} {gb gp go:Nat} {w:World} (ho:Ro w go 0 (bN o)) (hp:Ro w gp 0 [.pointer (some ⟨gb,0,none⟩)]) (hbk:Ro w gb 0 (bo b x))
include ho
theorem Ld:ay Tryz.prog 89 [.pointer (some ⟨go,0,none⟩)] w (.bool (tst b o 0)):=by
 refine aq Tryz.func89 rfl Tryz.ntmps89 rfl ?_
 have h1:=fun w=>uM o w
 unfold tst
 generalize opE o=e at h1 ⊢
 repeat' (first|(apply aa;exact rfl;exact rfl;(intro w hm;exact h1 w))|refine sT ?_|refine sS ?_|refine sO ?_|refine sM fun _=> ?_|(refine sC ?_ ?_<;>intro hb<;>try omega)|fail)
 all_goals first|(exfalso;omega)|((refine rT1 ?_);simp;done)|((refine rT1 ?_);rfl)
include hp hbk
theorem Lb:ay Tryz.prog 91 [.pointer (some ⟨go,0,none⟩),.pointer (some ⟨gp,0,none⟩)] w (.bool (tst b o 1)):=by
 refine aq Tryz.func91 rfl Tryz.ntmps91 rfl ?_
 unfold tst
 simp only [bN] at ho
 simp only [bo] at hbk
 repeat' (first|refine sT ?_|refine sS ?_|refine sQ ?_|refine sO ?_|refine sOQ ?_|refine sD ?_|refine sM fun _=> ?_|(refine sC ?_ ?_<;>intro hb<;>try omega)|(refine sCQ ?_ ?_<;>intro hb<;>try omega)|fail)
 all_goals first|(exfalso;omega)|((refine rT1 ?_);simp_all;done)|((refine rT1 ?_);simp_all;omega)
omit hbk hp in
theorem K9 {g8 g9:Nat} (h8:Ro w g8 0 (bK (kr o).1)) (h9:Ro w g9 0 [.bool (kr o).2]):ay Tryz.prog 92 [.pointer (some ⟨g9,0,none⟩),.pointer (some ⟨g8,0,none⟩)] w (.bool (tst b o 2)):=by
 refine aq Tryz.func92 rfl Tryz.ntmps92 rfl ?_
 unfold tst
 have _hz:=ho
 clear _hz ho
 generalize (kr o).1=t at h8 ⊢
 generalize (kr o).2=c at h9 ⊢
 have h1:=fun w=>fR t w
 generalize dC t=e at h1 ⊢
 cases c
 ·
  repeat' (first|(apply aa;exact rfl;exact rfl;(intro w hm;exact h1 w))|refine sT ?_|refine sS ?_|refine sO ?_|refine sM fun _=> ?_|(refine sC ?_ ?_<;>intro hb<;>try omega)|fail)
  all_goals first|(exfalso;omega)|((refine rT1 ?_);rfl)
 ·
  repeat' (first|(apply aa;exact rfl;exact rfl;(intro w hm;exact h1 w))|refine sT ?_|refine sS ?_|refine sO ?_|refine sM fun _=> ?_|(refine sC ?_ ?_<;>intro hb<;>try omega)|fail)
  all_goals first|(exfalso;omega)|((refine rT1 ?_);simp;done)|((refine rT1 ?_);rfl)
omit hbk hp in
theorem K8 {g6:Nat} (h6:Ro w g6 0 [vS (cY b.users).1]):ay Tryz.prog 94 [.pointer (some ⟨go,0,none⟩),.pointer (some ⟨g6,0,none⟩)] w (.bool (tst b o 3)):=by
 refine aq Tryz.func94 rfl Tryz.ntmps94 rfl ?_
 unfold tst
 generalize (cY b.users).1=a at h6 ⊢
 have ho7:=(Ox.ro ho).2
 simp only [bN] at ho
 repeat' (first|(apply ak;exact rfl;apply oT;exact rfl;exact rfl)|(apply ak;exact rfl;apply dU (b:=a);exact rfl;exact rfl)|(apply ak;exact rfl;apply gG (b:=0#64);exact rfl;exact rfl)|refine sT ?_|refine sS ?_|refine sO ?_|refine sM fun _=> ?_|(refine sC ?_ ?_<;>intro hb<;>try omega)|fail)
 all_goals first|(exfalso;omega)|((refine rT1 ?_);simp;done)|((refine rT1 ?_);rfl)
end
section
variable {b:Bk} {x:Bv} {o:Ox} {gb gp go:Nat} {w:World} (ho:Ro w go 0 (bN o)) (hp:Ro w gp 0 [.pointer (some ⟨gb,0,none⟩)]) (hbk:Ro w gb 0 (bo b x)) (hr:BRd w b x)
include ho hp hbk hr
set_option maxHeartbeats 4000000 in
theorem K7:ay Tryz.prog 95 [.pointer (some ⟨go,0,none⟩),.pointer (some ⟨gp,0,none⟩)] w (.bool (tst b o 4)):=by
 refine aq Tryz.func95 rfl Tryz.ntmps95 rfl ?_
 have ht:tst b o 4=(decide (o.kind=9) && (decide (o.idx<0)||decide ((b.grants.length:Int)≤o.idx)||GR b o)):=rfl
 rw [ht]
 clear ht
 by_cases h1:o.kind=9∧0≤o.idx∧o.idx<(b.grants.length:Int)
 ·
  obtain ⟨h9,hi1,hi2⟩:=h1
  obtain ⟨j,hj⟩: ∃ j:Nat,o.idx=(j:Int):=⟨o.idx.toNat,by omega⟩
  have hjl:j<b.grants.length:=by omega
  rw [Fx hj hjl,decide_eq_true h9,decide_eq_false (show ¬ o.idx<0 by omega),decide_eq_false (show ¬ (b.grants.length:Int)≤o.idx by omega),QS,Bool.false_or,Bool.false_or]
  have hg:=hr.g
  obtain ⟨ae1,ar1,ag1,al1,as1,ce1,cr1,cg1,cl1,cs1⟩:=x
  dsimp only at*
  obtain ⟨Ag,cg2,eg,hg1,hg2,hg3⟩:=hg
  cases eg
  obtain ⟨gg,og,rfl,hrg⟩:=hg3 (by omega)
  obtain ⟨_,_,_,_,he⟩:=Gn.ro (hrg.elem dg j hjl)
  generalize b.grants[j].rev=rv at he ⊢
  obtain ⟨us,E,RU,G,L,M,st⟩:=b
  dsimp only at*
  simp only [bo] at hbk
  simp only [bN] at ho
  clear hr
  repeat' (first|(apply aS;exact rfl;apply aI (o:=0) (off:=0);exact ho;exact rfl;exact rfl)|(apply aS;exact rfl;apply aj (j:=j);exact rfl;(rw [← hj];exact rfl);exact hjl)|(apply aS;exact rfl;apply ia;exact rfl;exact he)|refine sT ?_|refine sS ?_|refine sQ ?_|refine sO ?_|refine sOQ ?_|refine sD ?_|refine sM fun _=> ?_|(refine sC ?_ ?_<;>intro hb<;>try omega)|(refine sCQ ?_ ?_<;>intro hb<;>try omega)|fail)
  all_goals first|(exfalso;omega)|((refine rT1 ?_);rfl)|((refine rT1 ?_);simp_all;done)
 ·
  have he:(decide (o.kind=9) && (decide (o.idx<0)||decide ((b.grants.length:Int)≤o.idx)||GR b o))=decide (o.kind=9):=by
   by_cases h9:o.kind=9
   ·
    by_cases hi:o.idx<0
    ·
     simp [hi]
    ·
     have:(b.grants.length:Int)≤o.idx:=by
      have:=fun h=>h1 ⟨h9,h⟩
      omega
     simp [this]
   ·
    simp [h9]
  rw [he]
  clear he
  obtain ⟨us,E,RU,G,L,M,st⟩:=b
  dsimp only at*
  simp only [bo] at hbk
  simp only [bN] at ho
  clear hr
  repeat' (first|(apply aS;exact rfl;apply aI (o:=0) (off:=0);exact ho;exact rfl;exact rfl)|refine sT ?_|refine sS ?_|refine sQ ?_|refine sO ?_|refine sOQ ?_|refine sD ?_|refine sM fun _=> ?_|(refine sC ?_ ?_<;>intro hb<;>try omega)|(refine sCQ ?_ ?_<;>intro hb<;>try omega)|fail)
  all_goals first|(exfalso;omega)|((refine rT1 ?_);simp_all;done)
omit hp hbk hr in
theorem K6 (h: ∀ w' H,Mem w w' H→ay Tryz.prog 97 [.pointer (some ⟨gb,0,none⟩),.agg (bN o).toArray] w' (.bool (GP b o))) (hp:Ro w gp 0 [.pointer (some ⟨gb,0,none⟩)]):ay Tryz.prog 96 [.pointer (some ⟨gp,0,none⟩),.pointer (some ⟨go,0,none⟩)] w (.bool (tst b o 5)):=by
 refine aq Tryz.func96 rfl Tryz.ntmps96 rfl ?_
 have ht:tst b o 5=GP b o:=rfl
 rw [ht]
 generalize GP b o=c at h ⊢
 repeat' (first|(apply aa (f:=97);exact rfl;exact rfl;(intro w' hm;exact h w' _ hm))|refine sT ?_|refine sS ?_|refine sO ?_|refine sM fun _=> ?_|(refine sC ?_ ?_<;>intro hb<;>try omega)|fail)
 all_goals first|(exfalso;omega)|((refine rT1 ?_);rfl)
set_option maxHeartbeats 4000000 in
theorem K4 {g8:Nat} (h8:Ro w g8 0 (bK (kr o).1)):ay Tryz.prog 100 [.pointer (some ⟨g8,0,none⟩),.pointer (some ⟨go,0,none⟩),.pointer (some ⟨gp,0,none⟩)] w (.bool (tst b o 7)):=by
 refine aq Tryz.func100 rfl Tryz.ntmps100 rfl ?_
 have ht:tst b o 7=((decide (o.kind=5) && decide (1024<CB (kr o).1))||(decide (o.kind=7) && decide (64≤b.rules.length))||(decide (o.kind=8) && decide (64≤b.grants.length))):=rfl
 rw [ht]
 clear ht
 have hA:=fun w=>Be (kr o).1 w
 generalize CB (kr o).1=ar at hA ⊢
 generalize (kr o).1=t at h8 hA
 obtain ⟨us,E,RU,G,L,M,st⟩:=b
 dsimp only at*
 simp only [bo] at hbk
 simp only [bN] at ho
 clear hr
 repeat' (first|(apply ak;exact rfl;apply aI (o:=0) (off:=0);exact ho;exact rfl;exact rfl)|(apply aa;exact rfl;exact rfl;(intro w hm;exact hA w))|refine sT ?_|refine sS ?_|refine sQ ?_|refine sO ?_|refine sOQ ?_|refine sD ?_|refine sM fun _=> ?_|(refine sC ?_ ?_<;>intro hb<;>try omega)|(refine sCQ ?_ ?_<;>intro hb<;>try omega)|fail)
 all_goals first|(exfalso;omega)|((refine rT1 ?_);simp_all;done)|((refine rT1 ?_);simp_all;omega)
end
section
variable {b:Bk} {o:Ox} {go gat:Nat} {w0:World} {H:List Blk}
set_option maxHeartbeats 4000000 in
theorem K5 (hW:Words w0) (hgo:In (.box go 37 (bN o)) H):FnIn Tryz.prog 98 [.pointer (some ⟨go,0,none⟩),.pointer (some ⟨gat,0,none⟩)] w0 (.box gat 3 [.int .i64 0]::H) fun v H' =>v= .bool (tst b o 6)∧H' = .box gat 3 [.int .i64 (if tst b o 6 then (ofP o.input).2.1 else 0)]::H:=by
 refine dx Tryz.func98 rfl Tryz.ntmps98 rfl ?_
 have ht:tst b o 6=(decide (o.kind=3) && decide ((ofP o.input).2.2≠0)):=rfl
 rw [ht]
 clear ht
 have hO:=fun (w' :World) (H' :List Blk) (hm:Mem w0 w' H')=>Lt o.input w' (hW.next hm)
 generalize ofP o.input=r at hO ⊢
 obtain ⟨⟨fm,v,t⟩,at_,e⟩:=r
 simp only [ofV,zn] at hO
 dsimp only at*
 by_cases h3:o.kind=3
 ·
  rw [decide_eq_true h3,QS]
  by_cases he:e≠0
  ·
   rw [decide_eq_true he,if_pos rfl]
   repeat' (first|(apply ak;exact rfl;apply dE;exact rfl;exact .tl hgo;exact rfl)|(apply aA (f:=99);exact rfl;exact rfl;(intro w' hm;exact hO w' _ hm);rintro _ _ ⟨A,cap,rfl,rfl⟩)|refine sT ?_|refine sS ?_|refine sM fun _=> ?_|(refine sC ?_ ?_<;>intro hb<;>try omega)|fail)
   all_goals first|(exfalso;omega)|(exact cf eIO rfl rfl (H' := .box gat 3 [.int .i64 at_]::H) mS ⟨congrArg Value.bool (by first|rfl|(simp [he];done)),rfl⟩)
  ·
   rw [decide_eq_false he,if_neg (by decide)]
   repeat' (first|(apply ak;exact rfl;apply dE;exact rfl;exact .tl hgo;exact rfl)|(apply aA (f:=99);exact rfl;exact rfl;(intro w' hm;exact hO w' _ hm);rintro _ _ ⟨A,cap,rfl,rfl⟩)|refine sT ?_|refine sS ?_|refine sM fun _=> ?_|(refine sC ?_ ?_<;>intro hb<;>try omega)|fail)
   all_goals first|(exfalso;omega)|(exact cf eIO rfl rfl (H' := .box gat 3 [.int .i64 0]::H) mS ⟨congrArg Value.bool (by first|rfl|(simp [he];done)),rfl⟩)
 ·
  rw [decide_eq_false h3,Rt,if_neg (by decide)]
  repeat' (first|(apply ak;exact rfl;apply dE;exact rfl;exact .tl hgo;exact rfl)|refine sT ?_|refine sS ?_|refine sM fun _=> ?_|(refine sC ?_ ?_<;>intro hb<;>try omega)|fail)
  all_goals first|(exfalso;omega)|(exact cf eIO rfl rfl (H' := .box gat 3 [.int .i64 0]::H) mS ⟨rfl,rfl⟩)
end
end Go.SL
namespace Go.SL
open Go Go.Proofs
attribute [local irreducible] W WL WQ WG WA WX WLI WR WT WC VOp RW thn blk bF scp aR bk bJ aL FnIn FnP ceP
set_option maxHeartbeats 2000000 in
theorem JQ (b:ByteArray) (w:World):aL Tryz.prog 108 [.string b] w fun v H=> ∃ A cap,v=ofV A cap (ofP b)∧H= [.own A 293 11 (ofP b).1.tree.length cap ((ofP b).1.tree.flatMap bT)]:=by
 refine aq Tryz.func108 rfl Tryz.ntmps108 rfl ?_
 refine aC 293 11 ?_
 rw [J7]
 unfold ofR
 by_cases hlen:256<b.size
 ·
  rw [if_pos hlen]
  repeat' (first|refine sT ?_|refine sS ?_|refine sT2 ?_|refine sM fun _=> ?_|(refine sC ?_ ?_<;>intro hb<;>try omega)|fail)
  all_goals first
   |(exfalso;omega)
   |exact fF eIO rfl rfl pK rfl rfl rfl (H' := [.own none 293 11 0 0 []]) mS ⟨none,0,rfl,rfl⟩
 rw [if_neg hlen]
 repeat' (first|refine sT ?_|refine sS ?_|refine sT2 ?_|refine sM fun _=> ?_|(refine sC ?_ ?_<;>intro hb<;>try omega)|fail)
 all_goals try (exfalso;omega)
 rename_i g2
 refine ax [0,2] rfl (fun i:Nat=> [(5,.int .i64 (i:Int))]) (fun _=> [.box g2 130 [.bool false,.int .u8 0,.int .i64 0,.string av,.slice none 0 0],.own none 293 11 0 0 []]) (fun i=>i≤b.size∧ ∀ j,j<i→bB (bat b j)=true) (fun i=>b.size - i) 0 ⟨by omega,fun j h=>by omega⟩ sB mS ?_
 rintro i ⟨hi,hpl⟩
 by_cases hlt:i<b.size
 ·
  by_cases hc:bB (bat b i)=true
  ·
   have hc' :=hc
   simp only [bB,Qu,decide_eq_true_eq] at hc'
   repeat' (first|(apply ak (d:=21);exact rfl;apply aW (j:=i);exact rfl;exact rfl;omega)|(apply ak (d:=26);exact rfl;apply aW (j:=i);exact rfl;exact rfl;omega)|refine sT ?_|refine sS ?_|refine sT2 ?_|refine sN ?_|refine sM fun _=> ?_|(refine sC ?_ ?_<;>intro hb<;>try omega)|fail)
   all_goals try (exfalso;omega)
   refine ⟨i+1,?_,(by first|omega|(dsimp only;omega)),sB,sB,mS⟩
   refine ⟨hlt,fun j hj=> ?_⟩
   rcases (by omega:j<i∨j=i) with h|rfl
   ·
    exact hpl j h
   ·
    exact hc
  ·
   have hc' :=hc
   simp only [bB,Qu,decide_eq_true_eq] at hc'
   have hf:(ap b).findIdx? (fun c=> !bB c)=some i:=m9 hlt (by simp [hc]) fun j hj=>by rw [hpl j hj];rfl
   rw [hf]
   repeat' (first|(apply ak (d:=21);exact rfl;apply aW (j:=i);exact rfl;exact rfl;omega)|(apply ak (d:=26);exact rfl;apply aW (j:=i);exact rfl;exact rfl;omega)|refine sT ?_|refine sS ?_|refine sT2 ?_|refine sN ?_|refine sM fun _=> ?_|(refine sC ?_ ?_<;>intro hb<;>try omega)|fail)
   all_goals first
    |(exfalso;omega)
    |exact fF eIO rfl rfl pK rfl rfl rfl (H' := [.own none 293 11 0 0 []]) mS ⟨none,0,rfl,rfl⟩
 ·
  have e:i=b.size:=by omega
  subst e
  have hf:(ap b).findIdx? (fun c=> !bB c)=none:=lK fun j hj=>by rw [hpl j hj];rfl
  rw [hf]
  dsimp only
  have hhd:(ap b).headD 0=bat b 0:=by have:=mY (a:=b) (i:=0);rwa [RM] at this
  rw [hhd]
  have hC:=fun w=>AZ b (by omega) w
  by_cases h61:bat b 0≠61
  ·
   rw [if_pos h61]
   by_cases h0:b=av
   ·
    repeat' (first|(apply ak (d:=32);exact rfl;apply mf;exact rfl;exact rfl;exact h0)|(apply aa;exact rfl;exact rfl;(intro w hm;exact hC w))|refine sT ?_|refine sS ?_|refine sT2 ?_|refine sN ?_|refine sM fun _=> ?_|(refine sC ?_ ?_<;>intro hb<;>try omega)|fail)
    all_goals first
     |(exfalso;omega)
     |exact fF eIO rfl rfl pK rfl rfl rfl (H' := [.own none 293 11 0 0 []]) mS ⟨none,0,rfl,rfl⟩
   ·
    have hpos:0<b.size:=by
     rcases Rz b.size with h|h
     ·
      exact absurd (ByteArray.ext (Tw h)) h0
     ·
      exact h
    repeat' (first|(apply ak (d:=32);exact rfl;apply dL;exact rfl;exact rfl;exact h0)|(apply ak (d:=35);exact rfl;apply aW (j:=0);exact rfl;exact rfl;exact hpos)|(apply aa;exact rfl;exact rfl;(intro w hm;exact hC w))|refine sT ?_|refine sS ?_|refine sT2 ?_|refine sN ?_|refine sM fun _=> ?_|(refine sC ?_ ?_<;>intro hb<;>try omega)|fail)
    all_goals first
     |(exfalso;omega)
     |exact fF eIO rfl rfl pK rfl rfl rfl (H' := [.own none 293 11 0 0 []]) mS ⟨none,0,rfl,rfl⟩
  ·
   rw [if_neg h61]
   have h61:bat b 0=61:=Classical.not_not.1 h61
   have hpos:0<b.size:=by
    rcases Rz b.size with h|h
    ·
     rw [iK (by omega)] at h61;cases h61
    ·
     exact h
   have h0:b≠av:=by
    rintro rfl
    exact absurd hpos (by decide)
   have hF:=fun (w' :World)=>wD (sub b 1 b.size) w' _ rfl
   obtain ⟨⟨t,at0,e0⟩,hr⟩: ∃ x,bQ (bE bI (ap (sub b 1 b.size))) ((sub b 1 b.size).size:Int)=x:=⟨_,rfl⟩
   simp only [hr,Fl] at hF
   rw [hr]
   dsimp only
   by_cases he:e0≠0
   ·
    rw [if_pos he]
    repeat' (first|(apply ak (d:=32);exact rfl;apply dL;exact rfl;exact rfl;exact h0)|(apply ak (d:=35);exact rfl;apply aW (j:=0);exact rfl;exact rfl;exact hpos)|(apply ak (d:=43);exact rfl;apply tR (lo:=1);exact rfl;exact rfl;omega)|(apply aA (f:=147);exact rfl;exact rfl;(intro w' hm';exact hF w');rintro _ _ ⟨A,cap,rfl,rfl⟩)|(apply ak;exact rfl;apply ub;exact rfl;exact rfl)|refine sT ?_|refine sS ?_|refine sT2 ?_|refine sN ?_|refine sM fun _=> ?_|(refine sC ?_ ?_<;>intro hb<;>try omega)|fail)
    all_goals first
     |(exfalso;omega)
     |exact fF eIO rfl rfl pK rfl rfl rfl (H' := [.own none 293 11 0 0 []]) mS ⟨none,0,rfl,rfl⟩
   ·
    rw [if_neg he]
    repeat' (first|(apply ak (d:=32);exact rfl;apply dL;exact rfl;exact rfl;exact h0)|(apply ak (d:=35);exact rfl;apply aW (j:=0);exact rfl;exact rfl;exact hpos)|(apply ak (d:=43);exact rfl;apply tR (lo:=1);exact rfl;exact rfl;omega)|(apply aA (f:=147);exact rfl;exact rfl;(intro w' hm';exact hF w');rintro _ _ ⟨A,cap,rfl,rfl⟩)|(apply ak;exact rfl;apply ub;exact rfl;exact rfl)|refine sT ?_|refine sS ?_|refine sT2 ?_|refine sN ?_|refine sM fun _=> ?_|(refine sC ?_ ?_<;>intro hb<;>try omega)|fail)
    all_goals first
     |(exfalso;omega)
     |exact fF eIO rfl rfl pK rfl rfl rfl (H' := [.own A 293 11 t.length cap (t.flatMap bT)]) mS ⟨A,cap,rfl,rfl⟩
set_option maxHeartbeats 2000000 in
theorem AW (L:List Et) (tv:Value) (w:World) (ht:Reads w tv L.length (L.flatMap aK)) (i:Nat) (hlt:i<L.length):
  ay Tryz.prog 119 [tv,.int .i64 (i:Int)] w (.int .i64 (fT (iT L i) L[i])):=by
 obtain ⟨Al,cl,rfl,hl1,hl2,hl3⟩:=ht
 refine aq Tryz.func119 rfl Tryz.ntmps119 rfl ?_
 obtain ⟨gl,ol,rfl,hrl⟩:=hl3 (by omega)
 have he:=hrl.elem bz i hlt
 have hprev: ∀ h:0<i,Ro w gl (ol+(i - 1)*3) (aK L[i - 1]):=fun h=>hrl.elem bz (i - 1) (by omega)
 have hbef: ∀ h:0<i,iT L i=some L[i - 1].at_:=fun h=>by unfold iT;rw [if_neg (by omega),Ql (by omega)];rfl
 have hbef0:i=0→iT L i=none:=fun h=>by unfold iT;rw [if_pos h]
 generalize L[i]=e at he ⊢
 obtain ⟨fo,hfo⟩: ∃ fo,fT (iT L i) e=fo:=⟨_,rfl⟩
 rw [hfo]
 have hV: ∀ w',ay Tryz.prog 151 [.agg (bf e.at_).toArray] w' (.bool e.at_.valid):=fun w' =>mD e.at_.col e.at_.row w'
 have hO:=fun (w' :World)=>JQ e.input w'
 have hofV: ∀ (A:Option Nat) (cap:Nat),ofV A cap (ofP e.input)= .tuple #[.agg (zn (ofP e.input).1 (sl A (ofP e.input).1.tree.length cap)).toArray,.int .i64 (ofP e.input).2.1,.int .i64 (ofP e.input).2.2]:=fun _ _=>rfl
 simp only [hofV] at hO
 unfold fT at hfo
 generalize ofP e.input=o at hO hfo
 obtain ⟨⟨f1,f2,f3⟩,oa,oe⟩:=o
 simp only [zn] at hO
 generalize e.at_.valid=vd at hV hfo
 have hle: ∀ (w' :World),True:=fun _=>trivial
 by_cases h0:0<i
 ·
  have hp:=hprev h0
  rw [hbef h0] at hfo
  generalize L[i - 1]=b at hp hfo
  have hL:=fun w' =>DJ b.at_ e.at_ w'
  replace hfo:(if vd=false then (3:Int) else if aQ b.at_ e.at_=false then 12 else if e.input=av then 2 else oe)=fo:=hfo
  generalize aQ b.at_ e.at_=ls at hL hfo
  repeat' (first|(apply ak (d:=10);exact rfl;apply aj;exact rfl;exact rfl;exact hlt)|(apply ak (d:=12);exact rfl;apply eL (off:=0) (ys:=bf e.at_) he;(iterate 3 exact rfl))|(apply aS (d:=20);exact rfl;apply dI;exact rfl;exact rfl;exact h0;(simp only [maxLen] at*;omega))|(apply aS (d:=21);exact rfl;apply aj (j:=i - 1);exact rfl;exact rfl;omega)|(apply aS (d:=23);exact rfl;apply eL (off:=0) (ys:=bf b.at_) hp;(iterate 3 exact rfl))|(apply aS (d:=26);exact rfl;apply aj (j:=i);exact rfl;exact rfl;exact hlt)|(apply aS (d:=28);exact rfl;apply eL (off:=0) (ys:=bf e.at_) he;(iterate 3 exact rfl))|(apply ak (d:=34);exact rfl;apply aj;exact rfl;exact rfl;exact hlt)|(apply ak (d:=36);exact rfl;apply dl (off:=2);exact rfl;exact he;exact rfl)|(apply ak (d:=41);exact rfl;apply aj;exact rfl;exact rfl;exact hlt)|(apply ak (d:=43);exact rfl;apply dl (off:=2);exact rfl;exact he;exact rfl)|(apply aa;exact rfl;exact rfl;(intro w hm;exact hV w))|(apply dK;exact rfl;exact rfl;(intro w hm;exact hL w))|(apply aA (f:=108);exact rfl;exact rfl;(intro w' hm;exact hO w');rintro _ _ ⟨A,cap,rfl,rfl⟩)|refine sT ?_|refine sS ?_|refine sQ ?_|refine sN ?_|refine sNQ ?_|refine sD ?_|refine sM fun _=> ?_|(refine sC ?_ ?_<;>intro hb<;>try omega)|(refine sCQ ?_ ?_<;>intro hb<;>try omega)|fail)
  all_goals (refine cf eIO rfl rfl (.nil _) ?_;simp_all [av];done)
 ·
  rw [hbef0 (by omega)] at hfo
  repeat' (first|(apply ak (d:=10);exact rfl;apply aj;exact rfl;exact rfl;exact hlt)|(apply ak (d:=12);exact rfl;apply eL (off:=0) (ys:=bf e.at_) he;(iterate 3 exact rfl))|(apply ak (d:=34);exact rfl;apply aj;exact rfl;exact rfl;exact hlt)|(apply ak (d:=36);exact rfl;apply dl (off:=2);exact rfl;exact he;exact rfl)|(apply ak (d:=41);exact rfl;apply aj;exact rfl;exact rfl;exact hlt)|(apply ak (d:=43);exact rfl;apply dl (off:=2);exact rfl;exact he;exact rfl)|(apply aa;exact rfl;exact rfl;(intro w hm;exact hV w))|(apply aA (f:=108);exact rfl;exact rfl;(intro w' hm;exact hO w');rintro _ _ ⟨A,cap,rfl,rfl⟩)|refine sT ?_|refine sS ?_|refine sQ ?_|refine sN ?_|refine sNQ ?_|refine sD ?_|refine sM fun _=> ?_|(refine sC ?_ ?_<;>intro hb<;>try omega)|(refine sCQ ?_ ?_<;>intro hb<;>try omega)|fail)
  all_goals first
   |(exfalso;omega)
   |(refine cf eIO rfl rfl (.nil _) ?_;simp_all [av];done)
theorem wE (L:List Et) (tv:Value) (w:World) (ht:Reads w tv L.length (L.flatMap aK)) (hlen:L.length≤1000000):
    ay Tryz.prog 63 [tv] w (.tuple #[.int .i64 (cN L).1,.int .i64 (cN L).2]):=by
  have hF:=fun (w' :World) (H' :List Blk) (hm:Mem w w' H') (i:Nat) (hi:i<L.length)=>AW L tv w' (ht.of_w0 hm) i hi
  obtain ⟨Al,cl,rfl,hl1,hl2,hl3⟩:=ht
  refine aq Tryz.func63 rfl Tryz.ntmps63 rfl ?_
  repeat' (first|refine sT ?_|refine sS ?_|refine sM fun _=> ?_|(refine sC ?_ ?_<;>intro hb<;>try omega)|fail)
  refine ax [0] rfl (fun i:Nat=> [(4,.int .i64 (i:Int))]) (fun _=> []) (fun i=>i≤L.length∧cN L=dB i (iT L i) (L.drop i)) (fun i=>L.length - i) 0 ⟨by omega,rfl⟩ sB (.refl _) ?_
  rintro i ⟨hi,hck⟩
  by_cases hlt:i<L.length
  · have hF:=fun w' H' hm=>hF w' H' hm i hlt
    have hnext:iT L (i+1)=some L[i].at_:=by unfold iT;rw [if_neg (by omega),RZ,Ql hlt];rfl
    rw [Qs hlt,dB,← hnext] at hck
    generalize fT (iT L i) L[i]=e at hF hck
    repeat' (first|(apply aa (f:=119);exact rfl;exact rfl;(intro w' hm;exact hF w' _ hm))|refine sT ?_|refine sS ?_|refine sN ?_|refine sM fun _=> ?_|(refine sC ?_ ?_<;>intro hb<;>try omega)|fail)
    all_goals first
      |(exfalso;omega)
      |(refine eR eIO rfl rfl rfl (.nil _) ?_;rw [hck,if_pos (by assumption)];done)
      | (rw [if_neg (by assumption)] at hck
         refine ⟨i+1,⟨hlt,hck⟩,by omega,?_,?_,.nil _⟩
         · exact sB
         · exact sB)
  · have e2:i=L.length:=by omega
    subst e2
    rw [Rk,dB] at hck
    repeat' (first|refine sT ?_|refine sS ?_|refine sM fun _=> ?_|(refine sC ?_ ?_<;>intro hb<;>try omega)|fail)
    all_goals first
      |(exfalso;omega)
      |(refine eR eIO rfl rfl rfl (.nil _) ?_;rw [hck])
end Go.SL
namespace Go.SL
open Go Go.Proofs
attribute [local irreducible] W WL WQ WG WA WX WLI WR WT WC WE VOp RW thn blk bF scp aR bk bJ aL FnIn FnP ceP
def PI:Nat→Int
 |0=>1|1=>2|2=>4|3=>2|4=>8|5=>5|6=>6|_=>7
theorem O5 {b:Bk} {o:Ox} {i:Nat} (hi:i<8) (h:tst b o i=true) (hno: ∀ j,j<i→tst b o j=false):cdE b o=(PI i,if i=6 then (ofP o.input).2.1 else 0):=by
 rcases (by omega:i=0∨i=1∨i=2∨i=3∨i=4∨i=5∨i=6∨i=7) with rfl|rfl|rfl|rfl|rfl|rfl|rfl|rfl
 ·
  unfold cdE;rw [h];rfl
 ·
  unfold cdE;rw [hno 0 (by omega),h];rfl
 ·
  unfold cdE;rw [hno 0 (by omega),hno 1 (by omega),h];rfl
 ·
  unfold cdE;rw [hno 0 (by omega),hno 1 (by omega),hno 2 (by omega),h];rfl
 ·
  unfold cdE;rw [hno 0 (by omega),hno 1 (by omega),hno 2 (by omega),hno 3 (by omega),h];rfl
 ·
  unfold cdE;rw [hno 0 (by omega),hno 1 (by omega),hno 2 (by omega),hno 3 (by omega),hno 4 (by omega),h];rfl
 ·
  unfold cdE;rw [hno 0 (by omega),hno 1 (by omega),hno 2 (by omega),hno 3 (by omega),hno 4 (by omega),hno 5 (by omega),h];rfl
 ·
  unfold cdE;rw [hno 0 (by omega),hno 1 (by omega),hno 2 (by omega),hno 3 (by omega),hno 4 (by omega),hno 5 (by omega),hno 6 (by omega),h];rfl
theorem O4 {b:Bk} {o:Ox} (hno: ∀ j,j<8→tst b o j=false):cdE b o=(0,0):=by
 unfold cdE
 rw [hno 0 (by omega),hno 1 (by omega),hno 2 (by omega),hno 3 (by omega),hno 4 (by omega),hno 5 (by omega),hno 6 (by omega),hno 7 (by omega)]
 rfl
theorem Ou {b:Bk} {o:Ox} (h:tst b o 4=false) (h9:o.kind=9):0≤o.idx∧o.idx<(b.grants.length:Int):=by
 have ht:tst b o 4=(decide (o.kind=9) && (decide (o.idx<0)||decide ((b.grants.length:Int)≤o.idx)||GR b o)):=rfl
 rw [ht,decide_eq_true h9,QS,SB,SB,decide_eq_false_iff_not,decide_eq_false_iff_not] at h
 omega
theorem H6 {b:Bk} {o:Ox} {go gat:Nat} {w0:World} {H T:List Blk} (hW:Words w0) (hs:Sel (.box gat 3 [.int .i64 0]) H T) (hgo:In (.box go 37 (bN o)) T):
  FnIn Tryz.prog 98 [.pointer (some ⟨go,0,none⟩),.pointer (some ⟨gat,0,none⟩)] w0 H fun v H' =>v= .bool (tst b o 6)∧H' = .box gat 3 [.int .i64 (if tst b o 6 then (ofP o.input).2.1 else 0)]::T:=
 FnIn.msub (K5 hW hgo) (MSub.pick hs (MSub.refl _))
set_option maxHeartbeats 16000000 in
theorem Nk (b:Bk) (x:Bv) (o:Ox) (gb:Nat) (w:World) (hbk:Ro w gb 0 (bo b x)) (hr:BRd w b x) (hW:Words w):ay Tryz.prog 40 [.pointer (some ⟨gb,0,none⟩),.agg (bN o).toArray] w (.tuple #[.int .u8 (cdE b o).1,.int .i64 (cdE b o).2]):=by
 refine aq Tryz.func40 rfl Tryz.ntmps40 rfl ?_
 have hA:=fun w=>zG b.users w
 have hT:=fun w=>yc o w
 have hbk' :=hbk
 simp only [bo] at hbk
 repeat' (first|(apply ak;exact rfl;apply dl;exact rfl;exact hbk;exact rfl)|(apply ak;exact rfl;apply aI (o:=0) (off:=0);exact hbk;exact rfl;exact rfl)|(apply aa;exact rfl;exact rfl;(intro w hm;exact hA w))|(apply aa;exact rfl;exact rfl;(intro w hm;exact hT w))|refine sT ?_|refine sS ?_|refine sM fun _=> ?_|(refine sC ?_ ?_<;>intro hb<;>try omega)|fail)
 rename_i g2 g3 g6 g8 g9 g10 gs
 have hR:=fun (h5:tst b o 4=false) (w' :World) (H:List Blk) (hm:Mem w w' H)=>uB b x o gb w' (hbk'.next hm) (hr.of_w0 hm) (Ou h5)
 refine ax [2,3,6,8,9,10,42,43] rfl (fun i:Nat=> [(44,.int .i64 (i:Int))]) (fun _=> [.own (some gs) 123 2 8 8 [.int .u8 1,.func (.func 89) #[] #[.pointer (some ⟨g3,0,none⟩)],.int .u8 2,.func (.func 91) #[] #[.pointer (some ⟨g3,0,none⟩),.pointer (some ⟨g2,0,none⟩)],.int .u8 4,.func (.func 92) #[] #[.pointer (some ⟨g9,0,none⟩),.pointer (some ⟨g8,0,none⟩)],.int .u8 2,.func (.func 94) #[] #[.pointer (some ⟨g3,0,none⟩),.pointer (some ⟨g6,0,none⟩)],.int .u8 8,.func (.func 95) #[] #[.pointer (some ⟨g3,0,none⟩),.pointer (some ⟨g2,0,none⟩)],.int .u8 5,.func (.func 96) #[] #[.pointer (some ⟨g2,0,none⟩),.pointer (some ⟨g3,0,none⟩)],.int .u8 6,.func (.func 98) #[] #[.pointer (some ⟨g3,0,none⟩),.pointer (some ⟨g10,0,none⟩)],.int .u8 7,.func (.func 100) #[] #[.pointer (some ⟨g8,0,none⟩),.pointer (some ⟨g3,0,none⟩),.pointer (some ⟨g2,0,none⟩)]],.box g10 3 [.int .i64 0],.box g9 4 [.bool (kr o).2],.box g8 32 (bK (kr o).1),.box g6 33 [vS (cY b.users).1],.box g3 37 (bN o),.box g2 88 [.pointer (some ⟨gb,0,none⟩)]]) (fun i=>i≤8∧ ∀ j,j<i→tst b o j=false) (fun i=>8 - i) 0 ⟨by omega,fun j h=>by omega⟩ sB mS ?_
 rintro i ⟨hi,hno⟩
 by_cases hlt:i<8
 ·
  obtain ⟨c,hc⟩: ∃ c,tst b o i=c:=⟨_,rfl⟩
  have hcd:c=true→cdE b o=(PI i,if i=6 then (ofP o.input).2.1 else 0):=fun e=>O5 hlt (hc.trans e) hno
  have hnx:c=false→ ∀ j,j<i+1→tst b o j=false:=fun e j hj=>by
   rcases (by omega:j<i∨j=i) with h|rfl
   ·
    exact hno j h
   ·
    exact hc.trans e
  rcases (by omega:i=0∨i=1∨i=2∨i=3∨i=4∨i=5∨i=6∨i=7) with rfl|rfl|rfl|rfl|rfl|rfl|rfl|rfl
  ·
   cases c
   all_goals
    repeat' (first|(apply ak;exact rfl;apply aj (j:=0);exact rfl;exact rfl;omega)|(apply ak;exact rfl;apply aN;exact rfl;exact pK;exact rfl;exact rfl)|(apply bL (f:=89);exact rfl;exact rfl;infer_instance;exact rfl;(intro w' hm;exact hc ▸ Ld (b:=b) (go:=g3) (Ro.of_box hm pK)))|refine sT ?_|refine sS ?_|refine sQ ?_|refine sN ?_|refine sNQ ?_|refine sD ?_|refine sM fun _=> ?_|(refine sC ?_ ?_<;>intro hb<;>try omega)|(refine sCQ ?_ ?_<;>intro hb<;>try omega)|fail)
   all_goals first
    |(exfalso;omega)
    |(refine ⟨1,⟨by omega,hnx rfl⟩,by omega,by exact sB,by exact sB,by exact mS⟩;done)
    |((refine rT2 ?_);rw [hcd rfl];rfl)
  ·
   cases c
   all_goals
    repeat' (first|(apply ak;exact rfl;apply aj (j:=1);exact rfl;exact rfl;omega)|(apply ak;exact rfl;apply aN;exact rfl;exact pK;exact rfl;exact rfl)|(apply bL (f:=91);exact rfl;exact rfl;infer_instance;exact rfl;(intro w' hm;exact hc ▸ Lb (go:=g3) (gp:=g2) (Ro.of_box hm pK) (Ro.of_box hm pK) (hbk'.next hm)))|refine sT ?_|refine sS ?_|refine sQ ?_|refine sN ?_|refine sNQ ?_|refine sD ?_|refine sM fun _=> ?_|(refine sC ?_ ?_<;>intro hb<;>try omega)|(refine sCQ ?_ ?_<;>intro hb<;>try omega)|fail)
   all_goals first
    |(exfalso;omega)
    |(refine ⟨2,⟨by omega,hnx rfl⟩,by omega,by exact sB,by exact sB,by exact mS⟩;done)
    |((refine rT2 ?_);rw [hcd rfl];rfl)
  ·
   cases c
   all_goals
    repeat' (first|(apply ak;exact rfl;apply aj (j:=2);exact rfl;exact rfl;omega)|(apply ak;exact rfl;apply aN;exact rfl;exact pK;exact rfl;exact rfl)|(apply bL (f:=92);exact rfl;exact rfl;infer_instance;exact rfl;(intro w' hm;exact hc ▸ K9 (b:=b) (go:=g3) (g8:=g8) (g9:=g9) (Ro.of_box hm pK) (Ro.of_box hm pK) (Ro.of_box hm pK)))|refine sT ?_|refine sS ?_|refine sQ ?_|refine sN ?_|refine sNQ ?_|refine sD ?_|refine sM fun _=> ?_|(refine sC ?_ ?_<;>intro hb<;>try omega)|(refine sCQ ?_ ?_<;>intro hb<;>try omega)|fail)
   all_goals first
    |(exfalso;omega)
    |(refine ⟨3,⟨by omega,hnx rfl⟩,by omega,by exact sB,by exact sB,by exact mS⟩;done)
    |((refine rT2 ?_);rw [hcd rfl];rfl)
  ·
   cases c
   all_goals
    repeat' (first|(apply ak;exact rfl;apply aj (j:=3);exact rfl;exact rfl;omega)|(apply ak;exact rfl;apply aN;exact rfl;exact pK;exact rfl;exact rfl)|(apply bL (f:=94);exact rfl;exact rfl;infer_instance;exact rfl;(intro w' hm;exact hc ▸ K8 (b:=b) (go:=g3) (g6:=g6) (Ro.of_box hm pK) (Ro.of_box hm pK)))|refine sT ?_|refine sS ?_|refine sQ ?_|refine sN ?_|refine sNQ ?_|refine sD ?_|refine sM fun _=> ?_|(refine sC ?_ ?_<;>intro hb<;>try omega)|(refine sCQ ?_ ?_<;>intro hb<;>try omega)|fail)
   all_goals first
    |(exfalso;omega)
    |(refine ⟨4,⟨by omega,hnx rfl⟩,by omega,by exact sB,by exact sB,by exact mS⟩;done)
    |((refine rT2 ?_);rw [hcd rfl];rfl)
  ·
   cases c
   all_goals
    repeat' (first|(apply ak;exact rfl;apply aj (j:=4);exact rfl;exact rfl;omega)|(apply ak;exact rfl;apply aN;exact rfl;exact pK;exact rfl;exact rfl)|(apply bL (f:=95);exact rfl;exact rfl;infer_instance;exact rfl;(intro w' hm;exact hc ▸ K7 (go:=g3) (gp:=g2) (Ro.of_box hm pK) (Ro.of_box hm pK) (hbk'.next hm) (hr.of_w0 hm)))|refine sT ?_|refine sS ?_|refine sQ ?_|refine sN ?_|refine sNQ ?_|refine sD ?_|refine sM fun _=> ?_|(refine sC ?_ ?_<;>intro hb<;>try omega)|(refine sCQ ?_ ?_<;>intro hb<;>try omega)|fail)
   all_goals first
    |(exfalso;omega)
    |(refine ⟨5,⟨by omega,hnx rfl⟩,by omega,by exact sB,by exact sB,by exact mS⟩;done)
    |((refine rT2 ?_);rw [hcd rfl];rfl)
  ·
   cases c
   all_goals
    repeat' (first|(apply ak;exact rfl;apply aj (j:=5);exact rfl;exact rfl;omega)|(apply ak;exact rfl;apply aN;exact rfl;exact pK;exact rfl;exact rfl)|(apply bL (f:=96);exact rfl;exact rfl;infer_instance;exact rfl;(intro w' hm;exact hc ▸ K6 (b:=b) (gb:=gb) (gp:=g2) (go:=g3) (Ro.of_box hm pK) (fun w2 H2 hm2=>uB b x o gb w2 ((hbk'.next hm).next hm2) ((hr.of_w0 hm).of_w0 hm2) (Ou (hno 4 (by omega)))) (Ro.of_box hm pK)))|refine sT ?_|refine sS ?_|refine sQ ?_|refine sN ?_|refine sNQ ?_|refine sD ?_|refine sM fun _=> ?_|(refine sC ?_ ?_<;>intro hb<;>try omega)|(refine sCQ ?_ ?_<;>intro hb<;>try omega)|fail)
   all_goals first
    |(exfalso;omega)
    |(refine ⟨6,⟨by omega,hnx rfl⟩,by omega,by exact sB,by exact sB,by exact mS⟩;done)
    |((refine rT2 ?_);rw [hcd rfl];rfl)
  ·
   cases c
   all_goals
    repeat' (first|(apply ak;exact rfl;apply aj (j:=6);exact rfl;exact rfl;omega)|(apply ak;exact rfl;apply aN;exact rfl;exact pK;exact rfl;exact rfl)|(apply kG (f:=98);exact rfl;exact rfl;infer_instance;exact rfl;exact hc ▸ H6 (b:=b) (o:=o) (go:=g3) (gat:=g10) hW pK pK;rintro _ _ ⟨rfl,rfl⟩)|refine sT ?_|refine sS ?_|refine sQ ?_|refine sN ?_|refine sNQ ?_|refine sD ?_|refine sM fun _=> ?_|(refine sC ?_ ?_<;>intro hb<;>try omega)|(refine sCQ ?_ ?_<;>intro hb<;>try omega)|fail)
   all_goals first
    |(exfalso;omega)
    |(refine ⟨7,⟨by omega,hnx rfl⟩,by omega,by exact sB,by exact sB,by exact mS⟩;done)
    |((refine rT2 ?_);rw [hcd rfl];rfl)
  ·
   cases c
   all_goals
    repeat' (first|(apply ak;exact rfl;apply aj (j:=7);exact rfl;exact rfl;omega)|(apply ak;exact rfl;apply aN;exact rfl;exact pK;exact rfl;exact rfl)|(apply bL (f:=100);exact rfl;exact rfl;infer_instance;exact rfl;(intro w' hm;exact hc ▸ K4 (go:=g3) (gp:=g2) (g8:=g8) (Ro.of_box hm pK) (Ro.of_box hm pK) (hbk'.next hm) (hr.of_w0 hm) (Ro.of_box hm pK)))|refine sT ?_|refine sS ?_|refine sQ ?_|refine sN ?_|refine sNQ ?_|refine sD ?_|refine sM fun _=> ?_|(refine sC ?_ ?_<;>intro hb<;>try omega)|(refine sCQ ?_ ?_<;>intro hb<;>try omega)|fail)
   all_goals first
    |(exfalso;omega)
    |(refine ⟨8,⟨by omega,hnx rfl⟩,by omega,by exact sB,by exact sB,by exact mS⟩;done)
    |((refine rT2 ?_);rw [hcd rfl];rfl)
 ·
  have e:i=8:=by omega
  subst e
  rw [O4 hno]
  repeat' (first|refine sT ?_|refine sS ?_|refine sM fun _=> ?_|(refine sC ?_ ?_<;>intro hb<;>try omega)|fail)
  all_goals first|(exfalso;omega)|((refine rT2 ?_);rfl)
end Go.SL
