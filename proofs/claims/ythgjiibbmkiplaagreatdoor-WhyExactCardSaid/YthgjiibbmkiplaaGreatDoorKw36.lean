/-
  Lemmas and walks, put together: Wn Wu Wq Wr Wv.
-/
import Derived.Test.YthgjiibbmkiplaaGreatDoorKw33
import Derived.Test.YthgjiibbmkiplaaGreatDoorKw34
import Derived.Test.YthgjiibbmkiplaaGreatDoorKw35
set_option linter.unusedSimpArgs false
set_option linter.unusedVariables false
set_option maxRecDepth 20000
set_option maxHeartbeats 16000000
namespace Go.SL
open Go Go.Proofs
attribute [local irreducible] W WL WQ WG WA WX WLI WR WT WC WE VOp RW thn blk bA scp aY aX bw FnAt FnIn FnP ceP
noncomputable def jR (user:Int) (a:Rf) (b:Bk):Rsn × Int:=if cY user a b≠0 then (⟨false,[],[]⟩,cY user a b) else (cZ (grW b) (lwB b) user.toNat (aZ b.rules user) a,0)
noncomputable def tR (user:Int) (a:Rf) (b:Bk) (r:Rsn):Int:=if cY user a b≠0 then cY user a b else tQ (grW b) (lwB b) user.toNat (aZ b.rules user) a r
theorem I1 {user:Int} {a:Rf} {b:Bk} {x:Bv} {w:World} (h:BRd w b x) (he:cY user a b=0) (hlen:b.ents.length≤900) (hgl:b.grants.length≤1000000) {G:Gr} {R:List Blk} {E:List En} {clock:Nat} (hG:jr b.ents=(some G,0)) (hA:GOk R E clock G) (gg gm:Nat):
 Lkd user.toNat b x gg G (gB gg gm (E.map En.m) clock++R) (gB gg gm (E.map En.m) clock++R) w:=by
 obtain ⟨h1,h2,h3,h4,G',h5,h6,h7⟩:=lQ he;rw [hG] at h5;have e:G=G' :=Option.some.inj (congrArg Prod.fst h5);subst e;exact ⟨hA.rdr h6 (by omega) gg gm w,MSub.refl _,fun w' hm=>h.r.of_w0 hm,fun w' hm=>h.g.of_w0 hm,by have:=h1.u;omega,zp h1.r,Ps h1.g,hgl⟩
theorem qB (user:Int) (a:Rf) (b:Bk) (x:Bv) (w:World) (h:BRd w b x) (hW:Words w) (hlen:b.ents.length≤900) (hgl:b.grants.length≤1000000):
 FnAt Tryz.prog 17 [.int .i64 user,aC a,.agg (bg b x).toArray] w fun v H=> ∃ Ap cp Ac cc,v= .tuple #[.agg (iY (jR user a b).1 (sl Ap (jR user a b).1.path.length cp) (sl Ac (jR user a b).1.cuts.length cc)).toArray,.int .i64 (jR user a b).2]∧H= [.own Ap 34 2 (jR user a b).1.path.length cp ((jR user a b).1.path.flatMap aq),.own Ac 98 3 (jR user a b).1.cuts.length cc ((jR user a b).1.cuts.flatMap dr)]:=by
 have hbg:=fun (w' :World) (H:List Blk) (hm:Mem w w' H)=>zi user a b x w' (h.of_w0 hm) (hW.next hm) (by omega);refine aB Tryz.func17 rfl Tryz.ntmps17 rfl ?_;unfold jR;by_cases he:cY user a b≠0
 ·rw [if_pos he];have hb2:=fun (w' :World) (H:List Blk) (hm:Mem w w' H)=>(hbg w' H hm).mono (R' :=fun v H=>v= .tuple #[.pointer none,.int .i64 (cY user a b)]∧H= []) fun v H hh=>by
   rcases hh with ⟨_,h1,h2⟩|⟨h1,_⟩
   ·exact ⟨h1,h2⟩
   ·exact absurd h1 he
  generalize cY user a b=e at hb2 he ⊢;simp only [bg] at hb2 ⊢;refine aF 34 2 ?_;refine aF 98 3 ?_;repeat' (first|apply aw (f:=39);rfl;rfl;intro w' hm;exact hb2 w' _ hm;rintro _ _ ⟨rfl,rfl⟩|refine zZB ?_|refine sM fun _=>?_|refine sC ?_ ?_<;>intro hb<;>try omega|fail)
  all_goals first
   |omega
   |refine vq eIO rfl rfl pK rfl rfl (H' := [.own none 34 2 0 0 [],.own none 98 3 0 0 []]) mS ⟨none,0,none,0,rfl,rfl⟩;done
 have he0:cY user a b=0:=by omega
 rw [if_neg he];have hb2:=fun (w' :World) (H:List Blk) (hm:Mem w w' H)=>(hbg w' H hm).mono (R' :=fun v H=> ∃ gx gg gm E clock R G,jr b.ents=(some G,0)∧GOk R E clock G∧v= .tuple #[.pointer (some ⟨gx,0,none⟩),.int .i64 0]∧H=lkB gx user.toNat b x gg (.map none)::(gB gg gm (E.map En.m) clock++R)) fun v H hh=>by
  rcases hh with ⟨h1,_⟩|⟨_,h1⟩
  ·exact absurd he0 h1
  ·exact h1
 clear hbg;have hlk:=fun (G:Gr) R E clock hG hA gg gm=>I1 (G:=G) (R:=R) (E:=E) (clock:=clock) h he0 hlen hgl hG hA gg gm;obtain ⟨hbk,hu0,hu1,hv,G,hG,hGo,hGl⟩:=lQ he0;obtain ⟨un,hun⟩: ∃ un:Nat,user=(un:Int):=⟨user.toNat,by omega⟩;subst hun;have hgr:grW b=G:=by unfold grW;rw [hG];rfl
 rw [hgr];simp only [Zh] at hlk ⊢;unfold cZ;simp only [bg] at hb2 ⊢;refine aF 34 2 ?_;refine aF 98 3 ?_;repeat' (first|apply aw (f:=39);rfl;rfl;intro w' hm;exact hb2 w' _ hm;rintro _ _ ⟨gx,gg,gm,E,clock,R,G2,hG2,hA,rfl,rfl⟩;refine cJ (_++(lkB gx un b x gg (.map none)::(gB gg gm (E.map En.m) clock++R))) MSub.swap ?_;simp only [Xc,Xd]|refine zZB ?_|refine sM fun _=>?_|refine sC ?_ ?_<;>intro hb<;>try omega|fail)
 all_goals try omega
 have D:=hlk G2 R E clock hG2 hA gg gm;have e2:G=G2:=by rw [hG] at hG2;exact Option.some.inj (congrArg Prod.fst hG2)
 subst e2;generalize gB gg gm (E.map En.m) clock++R=B at D ⊢;have hse:=fun (H:List Blk) (hs:MSub B H)=>wU D gx (.map none) hs a hv;have hcu:=fun (H:List Blk) (hs:MSub B H)=>Dw D gx hs a hv;have hpa:=fun (H:List Blk) (hs:MSub B H)=>RL D gx (.map none) hs a
 cases hlb:(gA G (lwB b) a).getLsbD un with
 |true=>
  rw [hlb] at hse;rw [if_pos rfl];generalize iZ G (lwB b) un (aZ b.rules (un:Int)) a=C at hcu ⊢;repeat' (first|apply aj (f:=40);rfl;rfl;refine FnIn.msub (hse _ ?_) (MSub.pick pK (MSub.refl _));(focus (exact mS;done));rintro _ _ ⟨rfl,rfl⟩|apply aj (f:=41);rfl;rfl;refine FnIn.msub (hcu _ ?_) (MSub.pick pK (MSub.refl _));(focus (exact mS;done));rintro _ _ ⟨Ac,cc,rfl,rfl⟩|refine zZB ?_|refine sM fun _=>?_|refine sC ?_ ?_<;>intro hb<;>try omega|fail)
  all_goals first
   |omega
   |refine vq eIO rfl rfl pK rfl rfl (H' := [.own none 34 2 0 0 [],.own Ac 98 3 C.length cc (C.flatMap dr)]) mS ⟨none,0,Ac,cc,rfl,rfl⟩;done
 |false=>
  rw [hlb] at hse;rw [if_neg (by decide)];generalize gV G (lwB b) un (aZ b.rules (un:Int)) (gH G (lwB b) un (aZ b.rules (un:Int)) (ap G)) a=C at hpa ⊢;repeat' (first|apply aj (f:=40);rfl;rfl;refine FnIn.msub (hse _ ?_) (MSub.pick pK (MSub.refl _));(focus (exact mS;done));rintro _ _ ⟨rfl,rfl⟩|apply aj (f:=42);rfl;rfl;refine FnIn.msub (hpa _ ?_) (MSub.pick pK (MSub.refl _));(focus (exact mS;done));rintro _ _ ⟨Ac,cc,rfl,rfl⟩|refine zZB ?_|refine sM fun _=>?_|refine sC ?_ ?_<;>intro hb<;>try omega|fail)
  all_goals first
   |omega
   |refine vq eIO rfl rfl pK rfl rfl (H' := [.own Ac 34 2 C.length cc (C.flatMap aq),.own none 98 3 0 0 []]) mS ⟨Ac,cc,none,0,rfl,rfl⟩;done
theorem jB (user:Int) (a:Rf) (b:Bk) (x:Bv) (r:Rsn) (pv cv:Value) (w:World) (h:BRd w b x) (hW:Words w) (hlen:b.ents.length≤900) (hgl:b.grants.length≤1000000) (hp:Reads w pv r.path.length (r.path.flatMap aq)) (hc:Reads w cv r.cuts.length (r.cuts.flatMap dr)) (hpl:r.path.length≤1000000):
 aL Tryz.prog 19 [.int .i64 user,aC a,.agg (bg b x).toArray,.agg (iY r pv cv).toArray] w (.int .i64 (tR user a b r)):=by
 have hbg:=fun (w' :World) (H:List Blk) (hm:Mem w w' H)=>zi user a b x w' (h.of_w0 hm) (hW.next hm) (by omega);refine aB Tryz.func19 rfl Tryz.ntmps19 rfl ?_;obtain ⟨sees,path,cuts⟩:=r;dsimp only at hp hc hpl;have hp0:=hp;have hc0:=hc;obtain ⟨Al,cl,rfl,hl1,hl2,hl3⟩:=hp;obtain ⟨Ac,cc,rfl,hc1,hc2,hc3⟩:=hc;unfold tR;by_cases he:cY user a b≠0
 ·rw [if_pos he];have hb2:=fun (w' :World) (H:List Blk) (hm:Mem w w' H)=>(hbg w' H hm).mono (R' :=fun v H=>v= .tuple #[.pointer none,.int .i64 (cY user a b)]∧H= []) fun v H hh=>by
   rcases hh with ⟨_,h1,h2⟩|⟨h1,_⟩
   ·exact ⟨h1,h2⟩
   ·exact absurd h1 he
  generalize cY user a b=e at hb2 he ⊢;simp only [bg,iY] at hb2 ⊢;repeat' (first|apply aw (f:=39);rfl;rfl;intro w' hm;exact hb2 w' _ hm;rintro _ _ ⟨rfl,rfl⟩|refine zZB ?_|refine sM fun _=>?_|refine sC ?_ ?_<;>intro hb<;>try omega|fail)
  all_goals first
   |omega
   |(refine rT1 ?_);rfl
 have he0:cY user a b=0:=by omega
 rw [if_neg he];have hlk:=fun (G:Gr) R E clock hG hA gg gm=>I1 (G:=G) (R:=R) (E:=E) (clock:=clock) h he0 hlen hgl hG hA gg gm;obtain ⟨hbk,hu0,hu1,hv,G,hG,hGo,hGl⟩:=lQ he0;obtain ⟨un,hun⟩: ∃ un:Nat,user=(un:Int):=⟨user.toNat,by omega⟩;subst hun;have hgr:grW b=G:=by unfold grW;rw [hG];rfl
 rw [hgr];simp only [Zh] at hlk ⊢;have hb2:=fun (w' :World) (H:List Blk) (hm:Mem w w' H)=>(hbg w' H hm).mono (R' :=fun v H=> ∃ gx gg B,Lkd un b x gg G B B w∧v= .tuple #[.pointer (some ⟨gx,0,none⟩),.int .i64 0]∧H=lkB gx un b x gg (.map none)::B) fun v H hh=>by
  rcases hh with ⟨h1,_⟩|⟨_,gx,gg,gm,E,clock,R,G2,h1,h2,h3,h4⟩
  ·exact absurd he0 h1
  ·have e2:G=G2:=by rw [hG] at h1;exact Option.some.inj (congrArg Prod.fst h1)
   subst e2;exact ⟨gx,gg,_,hlk G R E clock h1 h2 gg gm,h3,h4⟩
 clear hbg hlk;unfold tQ;simp only [bg,iY] at hb2 ⊢;have hcmp:=fun (M:List Cl) (w' :World) (mv:Value) (H:List Blk) (hm:Mem w w' H) (hr:Reads w' mv M.length (M.flatMap dr))=>JR cuts M _ mv w' (hc0.of_w0 hm) hr
 cases sees with
 |true=>
  rw [if_pos rfl];by_cases hpn:0<path.length
  ·rw [if_pos hpn];repeat' (first|apply aw (f:=39);rfl;rfl;intro w' hm;exact hb2 w' _ hm;rintro _ _ ⟨gx,gg,B,D,rfl,rfl⟩;refine cJ (_++(lkB gx un b x gg (.map none)::B)) MSub.swap ?_;simp only [Xc,Xd]|refine zZA ?_|refine sM fun _=>?_|refine sC ?_ ?_<;>intro hb<;>try omega|fail)
   all_goals first
    |omega
    |exfalso;simp_all;done
    |refine bo eIO rfl rfl (.nil _) ?_;rfl
  ·rw [if_neg hpn]
   cases hlb:(gA G (lwB b) a).getLsbD un with
   |false=>
    rw [if_pos rfl];repeat' (first|apply aw (f:=39);rfl;rfl;intro w' hm;exact hb2 w' _ hm;rintro _ _ ⟨gx,gg,B,D,rfl,rfl⟩;refine cJ (_++(lkB gx un b x gg (.map none)::B)) MSub.swap ?_;simp only [Xc,Xd]|rename_i g5 g6 g7;refine bT (id:=7) [2,9,10] [] [.box g5 34 (aq a),.box g7 49 [.bool true,.slice Al path.length cl,.slice Ac cuts.length cc]] (by kernel_rfl) (by kernel_rfl) (by kernel_rfl) mS ?_|apply aj (f:=40);rfl;rfl;refine FnIn.msub (wU D gx (.map none) ?_ a hv) (MSub.pick pK (MSub.refl _));(focus (exact mS;done));rintro _ _ ⟨rfl,rfl⟩;try rw [hlb]|refine zZH ?_|refine sM fun _=>?_|refine sC ?_ ?_<;>intro hb<;>try omega|refine sCW ?_ ?_<;>intro hb<;>try omega|fail)
    all_goals first
     |omega
     |exfalso;simp_all;done
     |refine bo eIO rfl rfl (.nil _) ?_;rfl
   |true=>
    rw [if_neg (by decide)];by_cases hce:cuts=iZ G (lwB b) un (aZ b.rules (un:Int)) a
    ·have hcd:decide (cuts=iZ G (lwB b) un (aZ b.rules (un:Int)) a)=true:=decide_eq_true hce;rw [if_neg (fun hn=>hn hce)];repeat' (first|apply aw (f:=39);rfl;rfl;intro w' hm;exact hb2 w' _ hm;rintro _ _ ⟨gx,gg,B,D,rfl,rfl⟩;refine cJ (_++(lkB gx un b x gg (.map none)::B)) MSub.swap ?_;simp only [Xc,Xd]|rename_i g5 g6 g7;refine bT (id:=7) [2,9,10] [] [.box g5 34 (aq a),.box g7 49 [.bool true,.slice Al path.length cl,.slice Ac cuts.length cc]] (by kernel_rfl) (by kernel_rfl) (by kernel_rfl) mS ?_|apply aj (f:=40);rfl;rfl;refine FnIn.msub (wU D gx (.map none) ?_ a hv) (MSub.pick pK (MSub.refl _));(focus (exact mS;done));rintro _ _ ⟨rfl,rfl⟩;try rw [hlb]|apply aj (f:=41);rfl;rfl;refine FnIn.msub (Dw D gx ?_ a hv) (MSub.pick pK (MSub.refl _));(focus (exact mS;done));rintro _ _ ⟨A9,c9,rfl,rfl⟩|apply aa (f:=44);rfl;rfl;intro w' hm;exact hcmp _ w' _ _ hm (Reads.of_own hm pK);rw [hcd]|refine zZH ?_|refine sM fun _=>?_|refine sC ?_ ?_<;>intro hb<;>try omega|refine sCW ?_ ?_<;>intro hb<;>try omega|fail)
     all_goals first
      |omega
      |exfalso;simp_all;done
      |refine bo eIO rfl rfl (.nil _) ?_;rfl
    ·have hcd:decide (cuts=iZ G (lwB b) un (aZ b.rules (un:Int)) a)=false:=decide_eq_false hce;rw [if_pos hce];repeat' (first|apply aw (f:=39);rfl;rfl;intro w' hm;exact hb2 w' _ hm;rintro _ _ ⟨gx,gg,B,D,rfl,rfl⟩;refine cJ (_++(lkB gx un b x gg (.map none)::B)) MSub.swap ?_;simp only [Xc,Xd]|rename_i g5 g6 g7;refine bT (id:=7) [2,9,10] [] [.box g5 34 (aq a),.box g7 49 [.bool true,.slice Al path.length cl,.slice Ac cuts.length cc]] (by kernel_rfl) (by kernel_rfl) (by kernel_rfl) mS ?_|apply aj (f:=40);rfl;rfl;refine FnIn.msub (wU D gx (.map none) ?_ a hv) (MSub.pick pK (MSub.refl _));(focus (exact mS;done));rintro _ _ ⟨rfl,rfl⟩;try rw [hlb]|apply aj (f:=41);rfl;rfl;refine FnIn.msub (Dw D gx ?_ a hv) (MSub.pick pK (MSub.refl _));(focus (exact mS;done));rintro _ _ ⟨A9,c9,rfl,rfl⟩|apply aa (f:=44);rfl;rfl;intro w' hm;exact hcmp _ w' _ _ hm (Reads.of_own hm pK);rw [hcd]|refine zZH ?_|refine sM fun _=>?_|refine sC ?_ ?_<;>intro hb<;>try omega|refine sCW ?_ ?_<;>intro hb<;>try omega|fail)
     all_goals first
      |omega
      |exfalso;simp_all;done
      |refine bo eIO rfl rfl (.nil _) ?_;rfl
 |false=>
  rw [if_neg (by decide)]
  cases path with
  |nil=>
   rw [if_pos rfl];dsimp only [List.length_nil] at hp0 hl1 ⊢;repeat' (first|apply aw (f:=39);rfl;rfl;intro w' hm;exact hb2 w' _ hm;rintro _ _ ⟨gx,gg,B,D,rfl,rfl⟩;refine cJ (_++(lkB gx un b x gg (.map none)::B)) MSub.swap ?_;simp only [Xc,Xd]|refine zZF ?_|refine sM fun _=>?_|refine sC ?_ ?_<;>intro hb<;>try omega|refine sCQ ?_ ?_<;>intro hb<;>try omega|fail)
   all_goals first
    |omega
    |exfalso;simp_all;done
    |refine bo eIO rfl rfl (.nil _) ?_;rfl
  |cons c0 L=>
   rw [if_neg (by simp)];obtain ⟨gl,ol,rfl,hrl⟩:=hl3 (by simp);have he0' :=hrl.elem bD 0 (by simp);simp only [Zt,ZP,List.getElem_cons_zero] at he0';have hpp:0<(c0::L).length:=by simp
   by_cases hca:c0=a
   ·subst hca;rw [if_neg (by simp)];by_cases hcn:0<cuts.length
    ·rw [if_pos hcn];repeat' (first|apply aw (f:=39);rfl;rfl;intro w' hm;exact hb2 w' _ hm;rintro _ _ ⟨gx,gg,B,D,rfl,rfl⟩;refine cJ (_++(lkB gx un b x gg (.map none)::B)) MSub.swap ?_;simp only [Xc,Xd]|apply aQ (d:=47);rfl;apply ai (j:=0);rfl;rfl;exact hpp|apply aQ (d:=48);rfl;apply aP;rfl;exact he0';rfl|apply aQ (d:=50);rfl;apply l3 (a:=c0) (b:=c0) (c:=false) (by simp);rfl;rfl|refine zZF ?_|refine sM fun _=>?_|refine sC ?_ ?_<;>intro hb<;>try omega|refine sCQ ?_ ?_<;>intro hb<;>try omega|fail)
     all_goals first
      |omega
      |exfalso;simp_all;done
      |refine bo eIO rfl rfl (.nil _) ?_;rfl
    ·rw [if_neg hcn]
     cases hwb:fI G (lwB b) un (c0::L) with
     |true=>
      rw [if_neg (by decide)];repeat' (first|apply aw (f:=39);rfl;rfl;intro w' hm;exact hb2 w' _ hm;rintro _ _ ⟨gx,gg,B,D,rfl,rfl⟩;refine cJ (_++(lkB gx un b x gg (.map none)::B)) MSub.swap ?_;simp only [Xc,Xd]|apply aQ (d:=47);rfl;apply ai (j:=0);rfl;rfl;exact hpp|apply aQ (d:=48);rfl;apply aP;rfl;exact he0';rfl|apply aQ (d:=50);rfl;apply l3 (a:=c0) (b:=c0) (c:=false) (by simp);rfl;rfl|apply aj (f:=45);rfl;rfl;refine FnIn.msub (Nw D gx (.map none) ?_ (c0::L) (some ⟨gl,ol,none⟩) cl hpl (fun w' hm=>hp0.of_w0 hm)) (MSub.pick pK (MSub.refl _));(focus (exact mS;done));rintro _ _ ⟨rfl,rfl⟩;try rw [hwb]|refine zZF ?_|refine sM fun _=>?_|refine sC ?_ ?_<;>intro hb<;>try omega|refine sCQ ?_ ?_<;>intro hb<;>try omega|fail)
      all_goals first
       |omega
       |exfalso;simp_all;done
       |refine bo eIO rfl rfl (.nil _) ?_;rfl
     |false=>
      rw [if_pos rfl];repeat' (first|apply aw (f:=39);rfl;rfl;intro w' hm;exact hb2 w' _ hm;rintro _ _ ⟨gx,gg,B,D,rfl,rfl⟩;refine cJ (_++(lkB gx un b x gg (.map none)::B)) MSub.swap ?_;simp only [Xc,Xd]|apply aQ (d:=47);rfl;apply ai (j:=0);rfl;rfl;exact hpp|apply aQ (d:=48);rfl;apply aP;rfl;exact he0';rfl|apply aQ (d:=50);rfl;apply l3 (a:=c0) (b:=c0) (c:=false) (by simp);rfl;rfl|apply aj (f:=45);rfl;rfl;refine FnIn.msub (Nw D gx (.map none) ?_ (c0::L) (some ⟨gl,ol,none⟩) cl hpl (fun w' hm=>hp0.of_w0 hm)) (MSub.pick pK (MSub.refl _));(focus (exact mS;done));rintro _ _ ⟨rfl,rfl⟩;try rw [hwb]|refine zZF ?_|refine sM fun _=>?_|refine sC ?_ ?_<;>intro hb<;>try omega|refine sCQ ?_ ?_<;>intro hb<;>try omega|fail)
      all_goals first
       |omega
       |exfalso;simp_all;done
       |refine bo eIO rfl rfl (.nil _) ?_;rfl
   ·rw [if_pos (by simpa using hca)];repeat' (first|apply aw (f:=39);rfl;rfl;intro w' hm;exact hb2 w' _ hm;rintro _ _ ⟨gx,gg,B,D,rfl,rfl⟩;refine cJ (_++(lkB gx un b x gg (.map none)::B)) MSub.swap ?_;simp only [Xc,Xd]|apply aQ (d:=47);rfl;apply ai (j:=0);rfl;rfl;exact hpp|apply aQ (d:=48);rfl;apply aP;rfl;exact he0';rfl|apply aQ (d:=50);rfl;apply l3 (a:=c0) (b:=a) (c:=true) (by simpa using hca);rfl;rfl|refine zZF ?_|refine sM fun _=>?_|refine sC ?_ ?_<;>intro hb<;>try omega|refine sCQ ?_ ?_<;>intro hb<;>try omega|fail)
    all_goals first
     |omega
     |exfalso;simp_all;done
     |refine bo eIO rfl rfl (.nil _) ?_;rfl
theorem kI {user:Int} {a:Rf} {b:Bk} (h:cY user a b=0):GrOk (grW b)∧(grW b).length≤b.ents.length∧a.valid=true∧HidW (lwB b) user.toNat (aZ b.rules user):=by
 obtain ⟨hbk,hu0,hu1,hv,G,hG,hGo,hGl⟩:=lQ h;have hgr:grW b=G:=by unfold grW;rw [hG];rfl
 rw [hgr];have hw:=Jc (L:=b.rules) b.grants (zp hbk.r) (u:=user.toNat) (by have:=hbk.u;omega);rw [Int.toNat_of_nonneg hu0] at hw;exact ⟨hGo,hGl,hv,hw⟩
noncomputable def uP (user:Int) (a:Rf) (b:Bk):List Rct × Int:=if cY user a b≠0 then ([],cY user a b) else (da (grW b) (aZ b.rules user) a,0)
def nZ (l:List Rct):List Int:=l.flatMap fun p=> [p.r1,p.r2+1]
theorem Lj (l:List Rct) (p:Rct):(nZ (l++ [p])).map dZ=(nZ l).map dZ++ [.int .i64 p.r1,.int .i64 (p.r2+1)]:=by
 unfold nZ;rw [Xz,XI];rfl
theorem sv (l:List Rct):(nZ l).length=2*l.length:=by
 unfold nZ
 induction l with
 |nil=>rfl
 |cons p l ih=>rw [Xx,Xa,ih,Xs,Xs,Yu,Xs];omega
theorem Kz {hid:Rct→List Rct} (hb: ∀ r,(hid r).length≤1000000) (l:List Rct):(l.flatMap hid).length≤1000000*l.length:=by
 induction l with
 |nil=>exact Xn _
 |cons r l ih=>have:=hb r;rw [Xx,Xa,Xs];omega
theorem Ml {L:List Rl} {u:Int} (hL:(eV 64 L).2=0) (r:Rct):(aZ L u r).length≤1000000:=by
 unfold aZ;split
 ·exact Xn _
 ·rw [Xq];exact XU (XS _ _) (qe (DI hL).2)
theorem pQ (user:Int) (a:Rf) (b:Bk) (x:Bv) (w:World) (h:BRd w b x) (hW:Words w) (hlen:b.ents.length≤900) (hgl:b.grants.length≤1000000):
 FnAt Tryz.prog 23 [.int .i64 user,aC a,.agg (bg b x).toArray] w fun v H=> ∃ A c,v= .tuple #[sl A (uP user a b).1.length c,.int .i64 (uP user a b).2]∧H= [.own A 31 4 (uP user a b).1.length c ((uP user a b).1.flatMap ay)]:=by
 have hbg:=fun (w' :World) (H:List Blk) (hm:Mem w w' H)=>zi user a b x w' (h.of_w0 hm) (hW.next hm) (by omega);refine aB Tryz.func23 rfl Tryz.ntmps23 rfl ?_;unfold uP;by_cases he:cY user a b≠0
 ·rw [if_pos he];have hb2:=fun (w' :World) (H:List Blk) (hm:Mem w w' H)=>(hbg w' H hm).mono (R' :=fun v H=>v= .tuple #[.pointer none,.int .i64 (cY user a b)]∧H= []) fun v H hh=>by
   rcases hh with ⟨_,h1,h2⟩|⟨h1,_⟩
   ·exact ⟨h1,h2⟩
   ·exact absurd h1 he
  generalize cY user a b=e at hb2 he ⊢;simp only [bg] at hb2 ⊢;refine aF 31 4 ?_;repeat' (first|apply aw (f:=39);rfl;rfl;intro w' hm;exact hb2 w' _ hm;rintro _ _ ⟨rfl,rfl⟩|refine zZB ?_|refine sM fun _=>?_|refine sC ?_ ?_<;>intro hb<;>try omega|fail)
  all_goals first
   |omega
   |refine di eIO rfl rfl rfl (H' := [.own none 31 4 0 0 []]) mS ⟨none,0,rfl,rfl⟩;done
 have he0:cY user a b=0:=by omega
 rw [if_neg he];have hlk:=fun (G:Gr) R E clock hG hA gg gm=>I1 (G:=G) (R:=R) (E:=E) (clock:=clock) h he0 hlen hgl hG hA gg gm;obtain ⟨hbk,hu0,hu1,hv,G,hG,hGo,hGl⟩:=lQ he0;obtain ⟨un,hun⟩: ∃ un:Nat,user=(un:Int):=⟨user.toNat,by omega⟩;subst hun;have hgr:grW b=G:=by unfold grW;rw [hG];rfl
 rw [hgr];simp only [Zh] at hlk ⊢;have hb2:=fun (w' :World) (H:List Blk) (hm:Mem w w' H)=>(hbg w' H hm).mono (R' :=fun v H=> ∃ gx gg B,Lkd un b x gg G B B w∧v= .tuple #[.pointer (some ⟨gx,0,none⟩),.int .i64 0]∧H=lkB gx un b x gg (.map none)::B) fun v H hh=>by
  rcases hh with ⟨h1,_⟩|⟨_,gx,gg,gm,E,clock,R,G2,h1,h2,h3,h4⟩
  ·exact absurd he0 h1
  ·have e2:G=G2:=by rw [hG] at h1;exact Option.some.inj (congrArg Prod.fst h1)
   subst e2;exact ⟨gx,gg,_,hlk G R E clock h1 h2 gg gm,h3,h4⟩
 clear hbg hlk;simp only [bg] at hb2 ⊢;have hw:=Jc (L:=b.rules) b.grants (zp hbk.r) (u:=un) (by have:=hbk.u;omega);have hlr:=vH hGo (by omega) a;have hLok: ∀ r∈ck G a,aA r=true:=fun r hr=>kV hGo ((eE hv).1 hr);have hpok: ∀ r∈ck G a,∀ p∈aZ b.rules (un:Int) r,aA p=true:=fun r hr p hp=>(hw.un r (hLok r hr) p hp).1;have hpl:=Ml (u:=(un:Int)) (zp hbk.r);have hz:bS [a] []=0:=by simp [bS,hv]
 unfold da;obtain ⟨LV,hLV⟩: ∃ LV,ck G a=LV:=⟨_,rfl⟩;rw [hLV] at hlr hLok hpok ⊢;repeat' (first|apply aw (f:=39);rfl;rfl;intro w' hm;exact hb2 w' _ hm;rintro _ _ ⟨gx,gg,B,D,rfl,rfl⟩;refine cJ (_++(lkB gx un b x gg (.map none)::B)) MSub.swap ?_;simp only [Xc,Xd]|rename_i g4 g5;refine bT (id:=4) [5] [] [.box g4 34 (aq a),lkB gx un b x gg (.map none)] (by kernel_rfl) (by kernel_rfl) (by kernel_rfl) mS ?_|apply aj (f:=52);rfl;rfl;refine D.rd.leaves_to ?_ hLV hz;(focus (exact mS;done));rintro _ _ ⟨A1,c1,rfl,rfl⟩|refine zZH ?_|refine sM fun _=>?_|refine sC ?_ ?_<;>intro hb<;>try omega|refine sCW ?_ ?_<;>intro hb<;>try omega|fail)
 all_goals try omega
 refine aF 31 4 ?_;refine aF 3 1 ?_;refine ax [8,48,49] rfl (fun y:Nat × (Option Nat × Nat) × (Option Nat × Nat)=> [(11,sl y.2.1.1 ((LV.take y.1).flatMap (aZ b.rules (un:Int))).length y.2.1.2),(12,sl y.2.2.1 (nZ ((LV.take y.1).flatMap (aZ b.rules (un:Int)))).length y.2.2.2),(50,.int .i64 (y.1:Int))]) (fun y=> .own y.2.1.1 31 4 ((LV.take y.1).flatMap (aZ b.rules (un:Int))).length y.2.1.2 (((LV.take y.1).flatMap (aZ b.rules (un:Int))).flatMap ay):: .own y.2.2.1 3 1 (nZ ((LV.take y.1).flatMap (aZ b.rules (un:Int)))).length y.2.2.2 ((nZ ((LV.take y.1).flatMap (aZ b.rules (un:Int)))).map dZ):: .own A1 31 4 LV.length c1 (LV.flatMap ay)::lkB gx un b x gg (.map none)::B) (fun y=>y.1≤LV.length) (fun y=>LV.length - y.1) (0,(none,0),(none,0)) (Xn _) sB mS ?_;rintro ⟨i,⟨A7,c7⟩,⟨A8,c8⟩⟩ hi;dsimp only at hi ⊢;by_cases hlt:i<LV.length
 ·refine aU (A:=A1) pK (by omega) fun go hA=> ?_;subst hA;have hread:((LV.flatMap ay).drop (0+i*4)).take 4=ay LV[i]:=by rw [Xv];exact aM bM LV i hlt
  have hsn:(LV.take (i+1)).flatMap (aZ b.rules (un:Int))=(LV.take i).flatMap (aZ b.rules (un:Int))++aZ b.rules (un:Int) LV[i]:=by rw [Xk hlt,Xz];simp
  have hro:=hLok _ (XO hlt);have hpo:=hpok _ (XO hlt);have hql:=hpl LV[i];have hol:((LV.take i).flatMap (aZ b.rules (un:Int))).length≤1000000000000:=by
   have h1:=Kz hpl (LV.take i);rw [XA] at h1;have:1000000*min i LV.length≤1000000*1000000:=Nat.mul_le_mul_left _ (by omega);omega
  generalize LV[i]=r at hread hsn hro hpo hql;generalize (LV.take i).flatMap (aZ b.rules (un:Int))=O at hsn hol ⊢;have hol2:=sv O;repeat' (first|apply ak (d:=52);rfl;apply ai (j:=i);rfl;rfl;exact hlt|apply ak (d:=53);rfl;apply au (ys:=ay r);rfl;exact pK;exact hread;rfl|apply aj (f:=53);rfl;rfl;refine FnIn.msub (kY D gx (.map none) ?_ r hro) (MSub.pick pK (MSub.refl _));(focus (exact mS;done));rintro _ _ ⟨A9,c9,rfl,rfl⟩|refine zZA ?_|refine sM fun _=>?_|refine sC ?_ ?_<;>intro hb<;>try omega|fail)
  all_goals try omega
  generalize aZ b.rules (un:Int) r=V at hsn hpo hql ⊢;refine ax [8,48,49,50,56,57] rfl (fun y:Nat × (Option Nat × Nat) × (Option Nat × Nat)=> [(11,sl y.2.1.1 (O++V.take y.1).length y.2.1.2),(12,sl y.2.2.1 (nZ (O++V.take y.1)).length y.2.2.2),(58,.int .i64 (y.1:Int))]) (fun y=> .own y.2.1.1 31 4 (O++V.take y.1).length y.2.1.2 ((O++V.take y.1).flatMap ay):: .own y.2.2.1 3 1 (nZ (O++V.take y.1)).length y.2.2.2 ((nZ (O++V.take y.1)).map dZ):: .own A9 31 4 V.length c9 (V.flatMap ay):: .own (some go) 31 4 LV.length c1 (LV.flatMap ay)::lkB gx un b x gg (.map none)::B) (fun y=>y.1≤V.length) (fun y=>V.length - y.1) (0,(A7,c7),(A8,c8)) (Xn _) (by rw [YF,Xm];exact sB) (by rw [YF,Xm];exact mS) ?_;rintro ⟨j,⟨A5,c5⟩,⟨A6,c6⟩⟩ hj;dsimp only at hj ⊢;by_cases hlj:j<V.length
  ·refine aU (A:=A9) pK (by omega) fun gv hA=> ?_;subst hA;have hrd:((V.flatMap ay).drop (0+j*4)).take 4=ay V[j]:=by rw [Xv];exact aM bM V j hlj
   have hsv:O++V.take (j+1)=(O++V.take j)++ [V[j]]:=by rw [Xk hlj,XE]
   have hvo:=aV.1 (hpo _ (XO hlj));have hvl:(O++V.take j).length≤1000001000000:=by rw [Xa,XA];omega
   generalize V[j]=p at hrd hsv hvo;generalize O++V.take j=U at hsv hvl ⊢;have hvl2:=sv U;have hts:=Lj U p;have htl:=sv (U++ [p]);rw [Xa,Xe] at htl;obtain ⟨pc,pr,qc,qr⟩:=p;simp only [ay] at hrd;dsimp only at hvo hts;repeat' (first|apply ak (d:=60);rfl;apply ai (j:=j);rfl;rfl;exact hlj|apply ak (d:=61);rfl;apply au;rfl;exact pK;exact hrd;rfl|apply aN (d:=65) (A:=A5) (m:=1);(iterate 3 rfl);exact pK;intro w hm;exact hm.cells_own pK;rfl;simp [Value.oneCell',sl];omega;simp only [maxLen];omega;intro B7 b7 hB7|apply aN (d:=73) (A:=A6) (m:=2);(iterate 3 rfl);exact pK;intro w hm;exact hm.cells_own pK;rfl;simp [Value.oneCell',sl];omega;simp only [maxLen];omega;intro B8 b8 hB8|refine sT ?_|refine sS ?_|refine sN ?_|refine sJ ?_|refine sM fun _=>?_|refine sC ?_ ?_<;>intro hb<;>try omega|fail)
   all_goals try omega
   have hj1:((j:Int)+1)=((j+1:Nat):Int):=by omega
   have htl2:(nZ (U++ [⟨pc,pr,qc,qr⟩])).length=(nZ U).length+2:=by omega
   try rw [hj1]
   refine ⟨(j+1,(B7,b7),(B8,b8)),hlj,by dsimp only;omega,?_,by exact sB,?_⟩<;>(dsimp only;rw [hsv,htl2,List.length_append,List.length_singleton])
   ·exact sB
   ·rw [hts,Xz,Xx,XP,Xm];simp only [ay];exact mS
  ·have e:j=V.length:=by omega
   subst e;rw [XF,← hsn];repeat' (first|refine zZA ?_|refine sM fun _=>?_|refine sC ?_ ?_<;>intro hb<;>try omega|fail)
   all_goals first
    |omega
    |refine ⟨(i+1,(A5,c5),(A6,c6)),hlt,by dsimp only;omega,by exact sB,by exact sB,by exact mS⟩;done
 have ei:i=LV.length:=by omega
 subst ei;rw [XF];have hLL: ∀ p∈LV.flatMap (aZ b.rules (un:Int)),aA p=true:=fun p hp=>by
  obtain ⟨l,hl,h2⟩:=XL.1 hp;exact hpok l hl p h2
 have hLlen:(LV.flatMap (aZ b.rules (un:Int))).length≤1000000000000:=by
  have h1:=Kz hpl LV;have:1000000*LV.length≤1000000*1000000:=Nat.mul_le_mul_left _ hlr;omega
 generalize LV.flatMap (aZ b.rules (un:Int))=L at hLL hLlen ⊢;have htw:=sv L;have hs1:=fun (R:List Blk)=>vk (nZ L) A8 c8 (by omega) R w;have hsl:(iD (nZ L)).length=(nZ L).length:=(fN _).length_eq;have hs2:=fun (R:List Blk)=>wg (iD (nZ L)) A8 c8 (by omega) R w;rw [hsl] at hs2;rw [show fS (iD (nZ L))=dJ L from rfl] at hs2;have hrl:=AW hLL;refine aF 31 4 ?_;refine aF 127 2 ?_;repeat' (first|apply aj (f:=54);rfl;rfl;exact FnIn.msub (hs1 _) (MSub.pick pK (MSub.refl _));rintro _ _ ⟨rfl,rfl⟩|apply aj (f:=55);rfl;rfl;exact FnIn.msub (hs2 _) (MSub.pick pK (MSub.refl _));rintro _ _ ⟨rfl,rfl⟩|refine zZA ?_|refine sM fun _=>?_|refine sC ?_ ?_<;>intro hb<;>try omega|fail)
 all_goals try omega
 clear hs1 hs2;refine ax [11,80,81] rfl (fun y:Nat × (Option Nat × Nat) × (Option Nat × Nat)=> [(17,sl y.2.1.1 (l7 L y.1).out.length y.2.1.2),(18,sl y.2.2.1 (l7 L y.1).band.length y.2.2.2),(19,.int .i64 ((l7 L y.1).first:Int)),(82,.int .i64 (y.1:Int))]) (fun y=> .own y.2.1.1 31 4 (l7 L y.1).out.length y.2.1.2 ((l7 L y.1).out.flatMap ay):: .own y.2.2.1 127 2 (l7 L y.1).band.length y.2.2.2 ((l7 L y.1).band.flatMap cO):: .own A7 31 4 L.length c7 (L.flatMap ay):: .own A8 3 1 (dJ L).length c8 ((dJ L).map dZ):: []) (fun y=>y.1≤(dJ L).length) (fun y=>(dJ L).length - y.1) (0,(none,0),(none,0)) (Nat.zero_le _) (by dsimp only;rw [show l7 L 0=⟨[],0,[]⟩ from rfl];exact sB) (by dsimp only;rw [show l7 L 0=⟨[],0,[]⟩ from rfl];exact mS) ?_;rintro ⟨k,⟨A5,c5⟩,⟨A6,c6⟩⟩ hk;dsimp only at hk ⊢;have hbd:=CP hLL k hk;by_cases hlk:k<(dJ L).length
 ·refine aU (A:=A8) pK (by omega) fun gr hA=> ?_;subst hA;have hrd:((dJ L).map dZ)[0+k*1]? =some (.int .i64 (dJ L)[k]):=RG hlk;have hrow:=Fm hLL _ (XO hlk);have hsuc:=AK hlk;generalize (dJ L)[k]=row at hrd hrow hsuc;generalize l7 L k=st at hbd hsuc ⊢;have hcol:=fun (R:List Blk)=>Ju L hLL (by omega) row A7 c7 w R;have hcb:=KI hLL row;unfold l8 at hsuc;generalize lC L row=Cf at hcol hcb hsuc;obtain ⟨O,f,Bd⟩:=st;dsimp only at hbd hsuc ⊢;by_cases hcs:Cf=Bd
  ·have hd:decide (Cf=Bd)=true:=decide_eq_true hcs;rw [if_pos hcs] at hsuc;repeat' (first|apply ak (d:=84);rfl;apply ai (j:=k);rfl;rfl;exact hlk|apply ak (d:=85);rfl;apply bB;rfl;exact pK;exact hrd|apply aj (f:=56);rfl;rfl;exact FnIn.msub (hcol _) (MSub.pick pK (MSub.refl _));rintro _ _ ⟨A9,c9,rfl,rfl⟩|apply aa (f:=57);rfl;rfl;intro w' hm;exact zt Cf Bd _ _ w' (Reads.of_own hm pK) (Reads.of_own hm pK);rw [hd]|refine zZA ?_|refine sM fun _=>?_|refine sC ?_ ?_<;>intro hb<;>try omega|fail)
   all_goals first
    |omega
    |(refine ⟨(k+1,(A5,c5),(A6,c6)),hlk,by dsimp only;omega,?_,by exact sB,?_⟩<;>(dsimp only;rw [hsuc])<;>first|exact sB;done|exact mS;done)
  ·have hd:decide (Cf=Bd)=false:=decide_eq_false hcs;rw [if_neg hcs] at hsuc;repeat' (first|apply ak (d:=84);rfl;apply ai (j:=k);rfl;rfl;exact hlk|apply ak (d:=85);rfl;apply bB;rfl;exact pK;exact hrd|apply aj (f:=56);rfl;rfl;exact FnIn.msub (hcol _) (MSub.pick pK (MSub.refl _));rintro _ _ ⟨A9,c9,rfl,rfl⟩|apply aa (f:=57);rfl;rfl;intro w' hm;exact zt Cf Bd _ _ w' (Reads.of_own hm pK) (Reads.of_own hm pK);rw [hd]|refine zZA ?_|refine sM fun _=>?_|refine sC ?_ ?_<;>intro hb<;>try omega|fail)
   all_goals try omega
   clear hcol;refine ax [11,80,81,82,17,21,22] rfl (fun j:Nat=> [(23,.int .i64 (j:Int))]) (fun j=> .own A5 31 4 O.length c5 ((pI O f (row - 1) j).flatMap ay):: .own A9 127 2 Cf.length c9 (Cf.flatMap cO):: .own A7 31 4 L.length c7 (L.flatMap ay):: .own (some gr) 3 1 (dJ L).length c8 ((dJ L).map dZ):: []) (fun j=>f≤j∧j≤O.length) (fun j=>O.length - j) f ⟨Xy _,hbd.2.1⟩ sB (by rw [Jy];exact mS) ?_;rintro j ⟨hfj,hj⟩;by_cases hlj:j<O.length
   ·refine aU (A:=A5) pK (by omega) fun g5 hA=> ?_;subst hA;have hfl:=MN (z:=row - 1) hfj hlj;have hfit:0+j*4+3<((pI O f (row - 1) j).flatMap ay).length:=by rw [aR bM,y9];omega
    repeat' first|apply ak (d:=103);rfl;apply ai (j:=j);rfl;rfl;exact hlj|apply eF;rfl;rfl;exact pK;rfl;exact hfit|refine sT ?_|refine sS ?_|refine sN ?_|refine sJ ?_|refine sM fun _=>?_|refine sC ?_ ?_<;>intro hb<;>try omega|fail
    all_goals try omega
    rw [hfl];have hj1:((j:Int)+1)=((j+1:Nat):Int):=by omega
    try rw [hj1]
    refine ⟨j+1,⟨by omega,hlj⟩,by omega,by exact sB,by exact sB,by exact mS⟩
   ·have ej:j=O.length:=by omega
    subst ej;have hce:=P5 (st:=⟨O,f,Bd⟩) hbd.2.1 row;dsimp only at hce;rw [hce];have hcll:=nN ⟨O,f,Bd⟩ row;dsimp only at hcll;generalize fq ⟨O,f,Bd⟩ row=Z at hcll hsuc ⊢;repeat' (first|refine zZA ?_|refine sM fun _=>?_|refine sC ?_ ?_<;>intro hb<;>try omega|fail)
    all_goals try omega
    refine ax [11,80,81,82,18,19,21,108,109] rfl (fun y:Nat × (Option Nat × Nat)=> [(17,sl y.2.1 (Z++(Cf.take y.1).map (dK row row)).length y.2.2),(110,.int .i64 (y.1:Int))]) (fun y=> .own y.2.1 31 4 (Z++(Cf.take y.1).map (dK row row)).length y.2.2 ((Z++(Cf.take y.1).map (dK row row)).flatMap ay):: .own A9 127 2 Cf.length c9 (Cf.flatMap cO):: .own A7 31 4 L.length c7 (L.flatMap ay):: .own (some gr) 3 1 (dJ L).length c8 ((dJ L).map dZ):: []) (fun y=>y.1≤Cf.length) (fun y=>Cf.length - y.1) (0,(A5,c5)) (Nat.zero_le _) (by dsimp only;rw [List.take_zero,List.map_nil,List.append_nil,hcll];exact sB) (by dsimp only;rw [List.take_zero,List.map_nil,List.append_nil,hcll];exact mS) ?_;rintro ⟨m,A3,c3⟩ hm;dsimp only at hm ⊢;by_cases hlm:m<Cf.length
    ·refine aU (A:=A9) pK (by omega) fun g9 hA=> ?_;subst hA;have hrm:((Cf.flatMap cO).drop (0+m*2)).take 2=cO Cf[m]:=by rw [Xv];exact aM kE Cf m hlm
     have hsm:Z++(Cf.take (m+1)).map (dK row row)=(Z++(Cf.take m).map (dK row row))++ [dK row row Cf[m]]:=by rw [Xk hlm,XI,XE];rfl
     have hxl:(Z++(Cf.take m).map (dK row row)).length≤2000000:=by rw [Xa,Xq,XA];omega
     generalize Cf[m]=q at hrm hsm;generalize Z++(Cf.take m).map (dK row row)=X at hsm hxl ⊢;obtain ⟨qa,qb⟩:=q;simp only [cO] at hrm;repeat' (first|apply ak (d:=112);rfl;apply ai (j:=m);rfl;rfl;exact hlm|apply ak (d:=113);rfl;apply au;rfl;exact pK;exact hrm;rfl|apply aN (d:=123) (A:=A3) (m:=1);(iterate 3 rfl);exact pK;intro w hm;exact hm.cells_own pK;rfl;simp [Value.oneCell',sl];omega;simp only [maxLen];omega;intro B7 b7 hB7|refine sT ?_|refine sS ?_|refine sN ?_|refine sJ ?_|refine sM fun _=>?_|refine sC ?_ ?_<;>intro hb<;>try omega|fail)
     all_goals try omega
     have hm1:((m:Int)+1)=((m+1:Nat):Int):=by omega
     try rw [hm1]
     refine ⟨(m+1,(B7,b7)),hlm,by dsimp only;omega,?_,by exact sB,?_⟩<;>(dsimp only;rw [hsm,List.length_append,List.length_singleton])
     ·exact sB
     ·rw [Xz,Xx,XP,Xm];simp only [ay,dK];exact mS
    ·have em:m=Cf.length:=by omega
     subst em;rw [XF];repeat' (first|refine zZA ?_|refine sM fun _=>?_|refine sC ?_ ?_<;>intro hb<;>try omega|fail)
     all_goals try omega
     refine ⟨(k+1,(A3,c3),(A9,c9)),hlk,by dsimp only;omega,?_,by exact sB,?_⟩<;>(dsimp only;rw [hsuc])
     ·exact sB
     ·exact mS
 ·have ek:k=(dJ L).length:=by omega
  subst ek;rw [E3];repeat' (first|refine zZA ?_|refine sM fun _=>?_|refine sC ?_ ?_<;>intro hb<;>try omega|fail)
  all_goals first
   |omega
   |refine di eIO rfl rfl rfl (H' := [.own A5 31 4 (nn L).length c5 ((nn L).flatMap ay)]) mS ⟨A5,c5,rfl,rfl⟩;done
def Sk:List Et:= [⟨⟨1,1⟩,⟨#[53]⟩⟩,⟨⟨2,1⟩,⟨#[49,48]⟩⟩,⟨⟨1,2⟩,inB⟩,⟨⟨2,2⟩,⟨#[50,48]⟩⟩,⟨⟨1,3⟩,inC⟩,⟨⟨1,4⟩,inD⟩]
theorem Gz:jr Sk=(some exG,0):=by decide+kernel
def exW:Bk:=⟨3,Sk,bkR,bkN,[],[],0⟩
theorem UL:bkE exW=0:=by decide+kernel
theorem qu {u:Int} {a:Rf} (h:u=1∨u=2) (hv:a.valid=true):cY u a exW=0:=by
 unfold cY;rw [UL,if_neg (by decide),if_neg (show ¬ (u<0∨exW.users≤u) by show ¬ (u<0∨(3:Int)≤u);omega),if_neg (by rw [hv];decide)];show (jr Sk).2=0;rw [Gz]
theorem uT:grW exW=exG:=by
 show (jr Sk).1.getD _=_;rw [Gz];rfl
theorem IA (w:World):aL Tryz.prog 88 [] w (.agg (ay ⟨1,1,1024,1024⟩).toArray):=by
 refine aB Tryz.func88 rfl Tryz.ntmps88 rfl ?_;repeat' (first|refine sT ?_|refine sM fun _=>?_|refine sC ?_ ?_<;>intro hb<;>try omega|fail)
 (refine eRC ?_)
 rfl
theorem MQ (w:World):FnAt Tryz.prog 46 [] w fun v H=> ∃ a:Bo,v= .agg (bg exW a.v).toArray∧H=iB exW a:=by
 refine aB Tryz.func46 rfl Tryz.ntmps46 rfl ?_;refine aF 147 9 ?_;refine aF 149 11 ?_;repeat' (first|apply aa (f:=88);rfl;rfl;intro w' _;exact IA w'|refine zZB ?_|refine sM fun _=>?_|refine sC ?_ ?_<;>intro hb<;>try omega|fail)
 rename_i gr ge gn;exact zL (.inl rfl) rfl rfl pK rfl (H' :=iB exW ⟨some ge,some gr,some gn,none,none,6,2,1,0,0⟩) (by unfold iB;exact mS) ⟨⟨some ge,some gr,some gn,none,none,6,2,1,0,0⟩,rfl,rfl⟩
def rr1:Rsn:=⟨false,[⟨1,2⟩,⟨2,1⟩],[]⟩
def rr2:Rsn:=⟨true,[],[⟨⟨1,3⟩,1⟩]⟩
def rr3:Rsn:=⟨false,[⟨1,4⟩,⟨1,3⟩,⟨2,1⟩],[]⟩
def rr4:Rsn:=⟨false,[⟨1,2⟩,⟨2,2⟩],[]⟩
def rr5:Rsn:=⟨false,[],[]⟩
def hh1:List Rct:= [⟨2,1,2,3⟩]
theorem WS:jR 1 ⟨1,2⟩ exW=(rr1,0):=by
 unfold jR;rw [qu (.inl rfl) (by decide),if_neg (fun h=>h rfl),uT];exact congrArg (fun r=>(r,(0:Int))) VV
theorem WP:jR 1 ⟨1,4⟩ exW=(rr2,0):=by
 unfold jR;rw [qu (.inl rfl) (by decide),if_neg (fun h=>h rfl),uT];exact congrArg (fun r=>(r,(0:Int))) VU
theorem WO:jR 2 ⟨1,4⟩ exW=(rr3,0):=by
 unfold jR;rw [qu (.inr rfl) (by decide),if_neg (fun h=>h rfl),uT];exact congrArg (fun r=>(r,(0:Int))) VT
theorem WU:uP 1 ⟨1,4⟩ exW=(hh1,0):=by
 unfold uP;rw [qu (.inl rfl) (by decide),if_neg (fun h=>h rfl),uT];exact congrArg (fun r=>(r,(0:Int))) UK
theorem WW:tR 1 ⟨1,2⟩ exW rr4=6:=by
 unfold tR;rw [qu (.inl rfl) (by decide),if_neg (fun h=>h rfl),uT];exact VX
theorem WV:tR 1 ⟨1,2⟩ exW rr5=4:=by
 unfold tR;rw [qu (.inl rfl) (by decide),if_neg (fun h=>h rfl),uT];exact VW
theorem rF {user:Int} {a:Rf} {b:Bk} {r:Rsn} (hr:jR user a b=(r,0)) (x:Bv) (w:World) (h:BRd w b x) (hW:Words w) (hlen:b.ents.length≤900) (hgl:b.grants.length≤1000000):
 FnAt Tryz.prog 17 [.int .i64 user,aC a,.agg (bg b x).toArray] w fun v H=> ∃ Ap cp Ac cc,v= .tuple #[.agg (iY r (sl Ap r.path.length cp) (sl Ac r.cuts.length cc)).toArray,.int .i64 0]∧H= [.own Ap 34 2 r.path.length cp (r.path.flatMap aq),.own Ac 98 3 r.cuts.length cc (r.cuts.flatMap dr)]:=by
 have h1:=qB user a b x w h hW hlen hgl;rw [hr] at h1;exact h1
theorem Jb {user:Int} {a:Rf} {b:Bk} {M:List Rct} (hr:uP user a b=(M,0)) (x:Bv) (w:World) (h:BRd w b x) (hW:Words w) (hlen:b.ents.length≤900) (hgl:b.grants.length≤1000000):
 FnAt Tryz.prog 23 [.int .i64 user,aC a,.agg (bg b x).toArray] w fun v H=> ∃ A c,v= .tuple #[sl A M.length c,.int .i64 0]∧H= [.own A 31 4 M.length c (M.flatMap ay)]:=by
 have h1:=pQ user a b x w h hW hlen hgl;rw [hr] at h1;exact h1
theorem yj {α:Type} {enc:α→List Value} {w0 w:World} {H:List Blk} (hm:Mem w0 w H) {g T k m:Nat} (L:List α) (h:In (.own (some g) T k m m (L.flatMap enc)) H) (e:L.length=m):Reads w (.slice (some ⟨g,0,none⟩) m m) L.length (L.flatMap enc):=by
 subst e;exact Reads.of_own (A:=some g) hm h
theorem nT (w:World) (hW:Words w):aL Tryz.prog 20 [] w (.bool true):=by
 refine aB Tryz.func20 rfl Tryz.ntmps20 rfl ?_;have hR1:=fun (a:Bo) (w' :World) (H:List Blk) (hm:Mem w w' H) (h:BRd w' exW a.v)=>rF WS a.v w' h (hW.next hm) (by decide) (by decide);have hR2:=fun (a:Bo) (w' :World) (H:List Blk) (hm:Mem w w' H) (h:BRd w' exW a.v)=>rF WP a.v w' h (hW.next hm) (by decide) (by decide);have hR3:=fun (a:Bo) (w' :World) (H:List Blk) (hm:Mem w w' H) (h:BRd w' exW a.v)=>rF WO a.v w' h (hW.next hm) (by decide) (by decide);have hH:=fun (a:Bo) (w' :World) (H:List Blk) (hm:Mem w w' H) (h:BRd w' exW a.v)=>Jb WU a.v w' h (hW.next hm) (by decide) (by decide);have hC1:=fun (a:Bo) (g:Nat) (w' :World) (H:List Blk) (hm:Mem w w' H) (h:BRd w' exW a.v) (h2:In (.own (some g) 34 2 2 2 (rr4.path.flatMap aq)) H)=>WW ▸ jB 1 ⟨1,2⟩ exW a.v rr4 (.slice (some ⟨g,0,none⟩) 2 2) (.slice none 0 0) w' h (hW.next hm) (by decide) (by decide) (yj hm _ h2 rfl) (bG w') (by decide);have hC2:=fun (a:Bo) (w' :World) (H:List Blk) (hm:Mem w w' H) (h:BRd w' exW a.v)=>WV ▸ jB 1 ⟨1,2⟩ exW a.v rr5 (.slice none 0 0) (.slice none 0 0) w' h (hW.next hm) (by decide) (by decide) (bG w') (bG w') (by decide);have hE1:=fun A1 c1 A2 c2 (g:Nat) (w' :World) (H:List Blk) (hm:Mem w w' H) (h1:In (.own A1 34 2 rr1.path.length c1 (rr1.path.flatMap aq)) H) (h2:In (.own A2 98 3 rr1.cuts.length c2 (rr1.cuts.flatMap dr)) H) (h3:In (.own (some g) 34 2 2 2 (rr1.path.flatMap aq)) H)=>(show vU rr1 rr1=true by decide) ▸ fW rr1 rr1 _ _ _ (.slice none 0 0) w' (Reads.of_own hm h1) (Reads.of_own hm h2) (yj hm _ h3 rfl) (bG w');have hE2:=fun A1 c1 A2 c2 (g:Nat) (w' :World) (H:List Blk) (hm:Mem w w' H) (h1:In (.own A1 34 2 rr2.path.length c1 (rr2.path.flatMap aq)) H) (h2:In (.own A2 98 3 rr2.cuts.length c2 (rr2.cuts.flatMap dr)) H) (h3:In (.own (some g) 98 3 1 1 (rr2.cuts.flatMap dr)) H)=>(show vU rr2 rr2=true by decide) ▸ fW rr2 rr2 _ _ (.slice none 0 0) _ w' (Reads.of_own hm h1) (Reads.of_own hm h2) (bG w') (yj hm _ h3 rfl);have hE3:=fun A1 c1 A2 c2 (g:Nat) (w' :World) (H:List Blk) (hm:Mem w w' H) (h1:In (.own A1 34 2 rr3.path.length c1 (rr3.path.flatMap aq)) H) (h2:In (.own A2 98 3 rr3.cuts.length c2 (rr3.cuts.flatMap dr)) H) (h3:In (.own (some g) 34 2 3 3 (rr3.path.flatMap aq)) H)=>(show vU rr3 rr3=true by decide) ▸ fW rr3 rr3 _ _ _ (.slice none 0 0) w' (Reads.of_own hm h1) (Reads.of_own hm h2) (yj hm _ h3 rfl) (bG w');have hE4:=fun A1 c1 (g:Nat) (w' :World) (H:List Blk) (hm:Mem w w' H) (h1:In (.own A1 31 4 hh1.length c1 (hh1.flatMap ay)) H) (h3:In (.own (some g) 31 4 1 1 (hh1.flatMap ay)) H)=>(decide_eq_true (rfl:hh1=hh1)) ▸ ra hh1 hh1 _ _ w' (Reads.of_own hm h1) (yj hm _ h3 rfl);repeat' (first|apply aw (f:=46);rfl;rfl;intro w' hm;exact MQ w';rintro _ _ ⟨a,rfl,rfl⟩|apply aw (d:=20);rfl;rfl;intro w' hm;exact hR1 a w' _ hm (BRd.of_rows hm pK pK pK pK pK);rintro _ _ ⟨A1,c1,A2,c2,rfl,rfl⟩|apply aw (d:=26);rfl;rfl;intro w' hm;exact hR2 a w' _ hm (BRd.of_rows hm pK pK pK pK pK);rintro _ _ ⟨A3,c3,A4,c4,rfl,rfl⟩|apply aw (d:=32);rfl;rfl;intro w' hm;exact hR3 a w' _ hm (BRd.of_rows hm pK pK pK pK pK);rintro _ _ ⟨A5,c5,A6,c6,rfl,rfl⟩|apply aw (d:=38);rfl;rfl;intro w' hm;exact hH a w' _ hm (BRd.of_rows hm pK pK pK pK pK);rintro _ _ ⟨A7,c7,rfl,rfl⟩|apply aa (d:=60);rfl;rfl;intro w' hm;exact hE1 A1 c1 A2 c2 _ w' _ hm pK pK pK|apply aa (d:=67);rfl;rfl;intro w' hm;exact hE2 A3 c3 A4 c4 _ w' _ hm pK pK pK|apply aa (d:=76);rfl;rfl;intro w' hm;exact hE3 A5 c5 A6 c6 _ w' _ hm pK pK pK|apply aa (d:=82);rfl;rfl;intro w' hm;exact hE4 A7 c7 _ w' _ hm pK pK|apply aa (d:=91);rfl;rfl;intro w' hm;exact hC1 a _ w' _ hm (BRd.of_rows hm pK pK pK pK pK) pK|apply aa (d:=98);rfl;rfl;intro w' hm;exact hC2 a w' _ hm (BRd.of_rows hm pK pK pK pK pK)|refine zZB ?_|refine sM fun _=>?_|refine sC ?_ ?_<;>intro hb<;>try omega|fail)
 all_goals first|omega|(refine rT1 ?_);rfl
theorem sx (b:Bk):(aO b).ents.length≤24∧(aO b).grants.length≤6:=by
 have h1:(aO b).ents.length=((b.ents.take 24).map GN).length:=rfl;have h2:(aO b).grants.length=(b.grants.take 6).length:=rfl;rw [Xq,XA] at h1;rw [XA] at h2;omega
end Go.SL
