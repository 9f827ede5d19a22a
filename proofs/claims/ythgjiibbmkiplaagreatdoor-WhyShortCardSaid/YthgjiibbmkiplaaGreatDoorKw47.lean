/-
  Lemmas and walks, put together: Td Wx Wy.
-/
import Derived.Test.YthgjiibbmkiplaaGreatDoorKw37
import Derived.Test.YthgjiibbmkiplaaGreatDoorKw43
set_option linter.unusedSimpArgs false
set_option linter.unusedVariables false
set_option maxRecDepth 20000
set_option maxHeartbeats 16000000
namespace Go.SL
open Go
section
variable {G:Gr} {w:Lw} {u:Nat} {hid:Rct→List Rct}
theorem DistOk.short (hG:GrOk G) (hw:HidW w u hid) {O:List (Rf × Nat)} (h:DistOk G w u hid (ap G) O): ∀ (l:List Rf) (c:Rf) (d:Nat),fI G w u (c::l)=true→(c,d)∈O→d≤l.length
 | [],c,d,hy,hc=>by
  rw [fI,(h.key _ hc).2.1,Z3,Ye] at hy;cases hy
 |b::l,c,d,hy,hc=>by
  have hs:=pT hG hw l b;have hy0:=hy;rw [fI,Xo,Xo,Xo,XQ] at hy;obtain ⟨⟨_,_,r,hr,h2⟩,h3⟩:=hy;obtain ⟨x,hx,_,rfl⟩:=eu.1 hr;have hk:=(h.key _ hc).2.2;simp only at hk;rcases FL hk with rfl|⟨k,rfl⟩
  ·simp
  ·obtain ⟨h4,h5,h6⟩:=h.nxt _ hc k rfl;have hh:=GI h4 hr;have hrb:rdU w u b=true:=by
    cases hrd:rdU w u b with
    |true=>rfl
    |false=>
     obtain ⟨p,hp,_⟩:=hw.cov _ (iE hG hx) b h2 hrd;rw [hh] at hp;cases hp
   have hbk:b∈ap G:=Classical.byContradiction fun hn=>hs h3 ((rB hn).2 hrb);by_cases hin: ∃ d',(b,d')∈O
   ·obtain ⟨d',hd'⟩:=hin;have h7:=DistOk.short hG hw h l b d' h3 hd';have h8:gL G w u O d' c=true:=lh.2 ⟨_,hr,(b,d'),hd',rfl,h2⟩;have h9:k+1≤d' :=by
     rcases Y1 d' (k+1) with h10|h10
     ·rw [h6 d' h10] at h8;cases h8
     ·exact h10
    rw [Xs];omega
   ·exact absurd ((h.sees hG hw).2 ⟨hrb,fun d' hd' =>hin ⟨d',hd'⟩⟩) (hs h3)
end
open Go.Proofs
section
variable {G:Gr} {w:Lw} {u:Nat} {hid:Rct→List Rct}
theorem DistOk.suffix (hG:GrOk G) (hw:HidW w u hid) {O:List (Rf × Nat)} (h:DistOk G w u hid (ap G) O): ∀ d c,(c,d)∈O→ ∀ i (hi:i<(c::eD G w u hid O d c).length),(c::eD G w u hid O d c)[i].valid=true∧ ¬ seesP G w u (c::eD G w u hid O d c)[i]∧gV G w u hid O (c::eD G w u hid O d c)[i]=(c::eD G w u hid O d c).drop i
 |d,c,hc,0,hi=>⟨ez hG (h.key _ hc).1,pT hG hw _ _ (h.way hG hw d c hc),h.pathKey hc⟩
 |0,c,hc,i+1,hi=>by have:=(h.key _ hc).2.2;simp only at this;omega
 |1,c,hc,i+1,hi=>by
  have hy:=h.way hG hw 1 c hc;have hi0:i=0:=by simp only [eD,Xs,Yu] at hi;omega
  subst hi0;simp only [eD,fI,Xo,Y4] at hy;obtain ⟨_,h1,h2⟩:=hy;refine ⟨h1,fun hs=> ?_,?_⟩
  ·rw [show (c::eD G w u hid O 1 c)[1]=(jx G w u hid c).getD ⟨0,0⟩ from rfl] at hs;rw [(fj hG hw hs).1] at h2;cases h2
  ·show gV G w u hid O ((jx G w u hid c).getD ⟨0,0⟩)=_;unfold gV;rw [if_pos h2];rfl
 |k+2,c,hc,i+1,hi=>by
  obtain ⟨b,hb,h3,_⟩:=tj (h.nxt _ hc k rfl).2.1;have e:eD G w u hid O (k+2) c=b::eD G w u hid O (k+1) b:=by rw [eD,hb,Ze]
  have hi2:i<(b::eD G w u hid O (k+1) b).length:=by rw [Xs,e] at hi;omega
  have ih:=DistOk.suffix hG hw h (k+1) b h3 i hi2;simp only [List.getElem_cons_succ,aaa];rw [getElem_congr_coll e,show (eD G w u hid O (k+2) c).drop i=(b::eD G w u hid O (k+1) b).drop i from congrArg (List.drop i) e];exact ih
theorem LG (hG:GrOk G) (hw:HidW w u hid) {c:Rf} (hv:c.valid=true) (hs:(cZ G w u hid c).sees=false):
 (∀ T,tQ G w u hid c ⟨false,c::T,[]⟩=0→(cZ G w u hid c).path.length≤(c::T).length)∧ ∀ i (hi:i<(cZ G w u hid c).path.length),(cZ G w u hid c).path[i].valid=true∧cZ G w u hid (cZ G w u hid c).path[i]=⟨false,(cZ G w u hid c).path.drop i,[]⟩:=by
 have hl:(gA G w c).getLsbD u=false:=by
  cases h:(gA G w c).getLsbD u with
  |false=>rfl
  |true=>unfold cZ at hs;rw [if_pos h] at hs;cases hs
 have hns: ¬ seesP G w u c:=fun h=>by rw [fR.2 h] at hl;cases hl
 have hr:cZ G w u hid c=⟨false,gV G w u hid (gH G w u hid (ap G)) c,[]⟩:=by unfold cZ;rw [if_neg (by rw [hl];decide)]
 have hO:=pw (G:=G) (w:=w) (u:=u) (hid:=hid) hG.sort.nodup;have hof: ∀ e,e.valid=true→ ¬ seesP G w u e→ ∀ L,gV G w u hid (gH G w u hid (ap G)) e=L→cZ G w u hid e=⟨false,L,[]⟩:=fun e _ h L hL=>by
  have hle: ¬ (gA G w e).getLsbD u=true:=fun h2=>h (fR.1 h2);unfold cZ;rw [if_neg hle,hL]
 rw [hr];dsimp only;by_cases hrd:rdU w u c=false
 ·have hp:gV G w u hid (gH G w u hid (ap G)) c= [c]:=by unfold gV;rw [if_pos hrd]
  rw [hp];refine ⟨fun T _=>by simp,fun i hi=> ?_⟩;have hi0:i=0:=by simp at hi;omega
  subst hi0;exact ⟨hv,hof c hv hns _ hp⟩
 ·have hrd' :rdU w u c=true:=by simpa using hrd
  cases hd:dOf (gH G w u hid (ap G)) c with
  |none=>exact absurd ((hO.sees hG hw).2 ⟨hrd',GL.1 hd⟩) hns
  |some d=>
   have hc:=(px hO.od).1 hd;rw [hO.pathKey hc];refine ⟨fun T hT=> ?_,fun i hi=> ?_⟩
   ·have hy:fI G w u (c::T)=true:=by
     cases hy:fI G w u (c::T) with
     |true=>rfl
     |false=>
      unfold tQ at hT;rw [if_neg (by simp),if_neg (by simp),if_neg (by simp),if_neg (by simp),if_pos hy] at hT;cases hT
    have:=hO.short hG hw T c d hy hc;rw [Xs,Xs,hO.wayLen hG hw d c hc];omega
   ·obtain ⟨h1,h2,h3⟩:=hO.suffix hG hw d c hc i hi;exact ⟨h1,hof _ h1 h2 _ h3⟩
end
attribute [local irreducible] FnAt FnIn FnP RW VOp W WA WC WE WG WL WLI WQ WR WT WX aX aY bA blk bw ceP scp thn
theorem HB (user:Int) (a:Rf) (b:Bk) (x:Bv) (P:List Rf) (pv:Value) (w:World) (h:BRd w b x) (hP:Reads w pv P.length (P.flatMap aq)) (hW:Words w) (hs:SmallW b):
 aL Tryz.prog 5 [.int .i64 user,aC a,.agg (bg b x).toArray,pv] w (.bool true):=by
 have hP0:=hP;obtain ⟨Av,cv,rfl,hcv, -, -⟩:=hP;refine aB Tryz.func5 rfl Tryz.ntmps5 rfl ?_;obtain ⟨hl1,hl2⟩:=sx b;have hC:=fun (w' :World) (H:List Blk) (hm:Mem w w' H)=>nV b x w' (h.of_w0 hm) hs;have hA:=fun (w' :World) (H:List Blk) (hm:Mem w w' H)=>nT w' (hW.next hm);have hR:=fun (a' :Bo) (w' :World) (H:List Blk) (hm:Mem w w' H) (hb:BRd w' (aO b) a'.v)=>qB user a (aO b) a'.v w' hb (hW.next hm) (by omega) (by omega);by_cases he:cY user a (aO b)≠0
 ·have hre:jR user a (aO b)=(⟨false,[],[]⟩,cY user a (aO b)):=if_pos he;rw [hre] at hR;generalize cY user a (aO b)=e at hR he;dsimp only at hR;repeat' (first|apply aw (f:=16);exact rfl;exact rfl;intro w' hm;exact hC w' _ hm;rintro _ _ ⟨⟨ae,ar,ag,al,as_,ce,cr,cg,cl,cs⟩,rfl,rfl⟩;unfold iw;simp only [Xc,Xd]|apply aw (d:=21);exact rfl;exact rfl;intro w' hm;exact hR ⟨ae,ar,ag,al,as_,ce,cr,cg,cl,cs⟩ w' _ hm (BRd.of_sml hm pK pK pK pK pK);rintro _ _ ⟨Ap,cp,Ac,cc,rfl,rfl⟩|apply aa (f:=20);exact rfl;exact rfl;intro w' hm;exact hA w' _ hm|refine zZA ?_|refine sM fun _=>?_|refine sC ?_ ?_<;>intro hb<;>try omega|fail)
  all_goals first|omega|(refine rT1 ?_);rfl
 have he0:cY user a (aO b)=0:=by omega
 obtain ⟨hGo,hGl,hva,hw⟩:=kI he0;have hre:jR user a (aO b)=(cZ (grW (aO b)) (lwB (aO b)) user.toNat (aZ (aO b).rules user) a,0):=if_neg he;rw [hre] at hR;have hlaw:=LG hGo hw hva;have hce: ∀ Q,tR user a (aO b) Q=tQ (grW (aO b)) (lwB (aO b)) user.toNat (aZ (aO b).rules user) a Q:=fun Q=>if_neg he;have hot: ∀ c,c.valid=true→jR user c (aO b)=(cZ (grW (aO b)) (lwB (aO b)) user.toNat (aZ (aO b).rules user) c,0):=fun c hc=>if_neg (fun h=>h (BQ he0 hc));generalize cZ (grW (aO b)) (lwB (aO b)) user.toNat (aZ (aO b).rules user) a=r at hR hlaw;obtain ⟨sees,path,cuts⟩:=r;dsimp only at hR hlaw;have hrl: ∀ Ap cp Ac cc,iY ⟨sees,path,cuts⟩ (sl Ap path.length cp) (sl Ac cuts.length cc)= [.bool sees,sl Ap path.length cp,sl Ac cuts.length cc]:=fun _ _ _ _=>rfl;simp only [hrl] at hR
 cases sees with
 |true=>
  repeat' first|apply aw (f:=16);exact rfl;exact rfl;intro w' hm;exact hC w' _ hm;rintro _ _ ⟨⟨ae,ar,ag,al,as_,ce,cr,cg,cl,cs⟩,rfl,rfl⟩;unfold iw;simp only [Xc,Xd]|apply aw (d:=21);exact rfl;exact rfl;intro w' hm;exact hR ⟨ae,ar,ag,al,as_,ce,cr,cg,cl,cs⟩ w' _ hm (BRd.of_sml hm pK pK pK pK pK);rintro _ _ ⟨Ap,cp,Ac,cc,rfl,rfl⟩|apply aa (f:=20);exact rfl;exact rfl;intro w' hm;exact hA w' _ hm|refine zZA ?_|refine sM fun _=>?_|refine sC ?_ ?_<;>intro hb<;>try omega|fail
  all_goals first|omega|(refine rT1 ?_);rfl
 |false=>
  obtain ⟨hsh,hsf⟩:=hlaw rfl;obtain ⟨m,hmP⟩: ∃ m,min P.length 20=m:=⟨_,rfl⟩;have hcut:=hP0.cut (lo:=0) (hi:=m) (sz:=2) (Xn _) (by omega);have hm2:(P.take m).length=m:=by rw [XA];omega
  have hl3:((P.flatMap aq).drop (0*2)).take ((m - 0)*2)=(P.take m).flatMap aq:=by rw [Zt,Zl,YC,jv bD]
  rw [hl3,YC,YC] at hcut
  have hK:=fun (a' :Bo) (A3:Option Nat) (c3:Nat) (w' :World) (H:List Blk) (hm:Mem w w' H) (hb:BRd w' (aO b) a'.v) (h3:In (.own A3 34 2 (1+m) c3 (aq a++(P.take m).flatMap aq)) H)=>jB user a (aO b) a'.v ⟨false,a::P.take m,[]⟩ (sl A3 (1+m) c3) (.slice none 0 0) w' hb (hW.next hm) (by omega) (by omega) (by
   have e:(a::P.take m).length=1+m:=by rw [Xs,hm2];omega
   rw [show (Rsn.mk false (a::P.take m) []).path=a::P.take m from rfl,e];exact Reads.of_own hm h3) (bG w') (by rw [show (Rsn.mk false (a::P.take m) []).path=a::P.take m from rfl,Xs,hm2];omega)
  have hck:=hsh (P.take m);rw [← hce,Xs,hm2] at hck;generalize tR user a (aO b) ⟨false,a::P.take m,[]⟩=z at hK hck;generalize P.take m=PT at hm2 hcut hK;repeat' (first|refine zZB ?_|refine sM fun _=>?_|refine sC ?_ ?_<;>intro hb<;>try omega|fail)
  all_goals try omega
  rename_i g5 g6;repeat' (first|apply aw (f:=16);exact rfl;exact rfl;intro w' hm;exact hC w' _ hm;rintro _ _ ⟨⟨ae,ar,ag,al,as_,ce,cr,cg,cl,cs⟩,rfl,rfl⟩;unfold iw;simp only [Xc,Xd]|apply aw (d:=21);exact rfl;exact rfl;intro w' hm;exact hR ⟨ae,ar,ag,al,as_,ce,cr,cg,cl,cs⟩ w' _ hm (BRd.of_sml hm pK pK pK pK pK);rintro _ _ ⟨Ap,cp,Ac,cc,rfl,rfl⟩|refine zZA ?_|refine sM fun _=>?_|refine sC ?_ ?_<;>intro hb<;>try omega|fail)
  all_goals try omega
  rename_i g9;repeat' (first|(refine bT (id:=5) [1,7] [] [.box g5 34 (aq a)] (by kernel_rfl) (by kernel_rfl) (by kernel_rfl) mS ?_)|apply fH (d:=36);(iterate 3 exact rfl);apply oE (a:=P.length) (b:=20);exact rfl;exact rfl;exact hmP|apply fH (d:=37);(iterate 3 exact rfl);apply iR (lo:=0) (hi:=m);exact rfl;exact rfl;exact ⟨_,rfl⟩;exact Xn _;omega|apply dz (d:=38) (n' :=1) (c:=1) (A:=some _) (m:=m);(iterate 3 exact rfl);exact pK;intro w hm;exact hcut.of_w0 hm;rw [aR bD,hm2];exact yX _;omega;simp only [maxLen];omega;intro A3 c3 hA3|apply aa (d:=44);exact rfl;exact rfl;intro w' hm;exact hK ⟨ae,ar,ag,al,as_,ce,cr,cg,cl,cs⟩ A3 c3 w' _ hm (BRd.of_sml hm pK pK pK pK pK) pK|refine zZH ?_|refine sM fun _=>?_|refine sC ?_ ?_<;>intro hb<;>try omega|refine sCW ?_ ?_<;>intro hb<;>try omega|fail)
  all_goals try omega
  all_goals
   clear hck hsh hK;refine ax [0,6,9] rfl (fun i:Nat=> [(12,.int .i64 (i:Int))]) (fun _=> .own Ap 34 2 path.length cp (path.flatMap aq):: .box g9 49 [.bool false,sl Ap path.length cp,sl Ac cuts.length cc]:: .box g6 28 (bg (aO b) (Bo.v ⟨ae,ar,ag,al,as_,ce,cr,cg,cl,cs⟩)):: .own ae 79 3 b.ents.length ce ((smT b.ents (aO b).ents.length).flatMap bN):: .own ar 137 7 b.rules.length cr (b.rules.flatMap bQ):: .own ag 76 8 b.grants.length cg (b.grants.flatMap cD):: .own al 147 9 b.log.length cl (b.log.flatMap fF):: .own as_ 149 11 b.rels.length cs (b.rels.flatMap fE):: []) (fun i=>i≤path.length) (fun i=>path.length - i) 0 (Xn _) sB mS ?_;rintro i hi;by_cases hlt:i<path.length
   ·obtain ⟨hv1,hr1⟩:=hsf i hlt;have hot1:=hot _ hv1;rw [hr1] at hot1;have hR2:=fun (a' :Bo) (w' :World) (H:List Blk) (hm:Mem w w' H) (hb:BRd w' (aO b) a'.v)=>rF hot1 a'.v w' hb (hW.next hm) (by omega) (by omega);refine K8 (A:=Ap) pK fun hcp=> ?_;refine aU (A:=Ap) pK (by omega) fun gp hAp=> ?_;subst hAp;have hread:((path.flatMap aq).drop (0+i*2)).take 2=aq path[i]:=by rw [Xv];exact aM bD path i hlt
    have hE:=fun (Aq:Option Nat) (cq:Nat) (Ad:Option Nat) (cd:Nat) (w' :World) (H:List Blk) (hm:Mem w w' H) (h1:In (.own Aq 34 2 (path.drop i).length cq ((path.drop i).flatMap aq)) H) (h2:In (.own Ad 98 3 0 cd []) H) (h3:In (.own (some gp) 34 2 path.length cp (path.flatMap aq)) H)=>(show vU ⟨false,path.drop i,[]⟩ ⟨false,path.drop i,[]⟩=true by simp [vU]) ▸ fW ⟨false,path.drop i,[]⟩ ⟨false,path.drop i,[]⟩ (sl Aq (path.drop i).length cq) (sl Ad 0 cd) (.slice (if cp=i then some ⟨gp,0,none⟩ else Option.map (fun x:Addr=>x.add (i*2)) (some ⟨gp,0,none⟩)) (path.length - i) (cp - i)) (.slice none 0 0) w' (Reads.of_own hm h1) (Reads.of_own hm h2) (by
     have h4:=(Reads.of_own hm h3).cut (lo:=i) (hi:=path.length) (sz:=2) hi (Xy _);have h5:((path.flatMap aq).drop (i*2)).take ((path.length - i)*2)=(path.drop i).flatMap aq:=by
      rw [mJ bD,YE];rw [aR bD,Ya];exact Xy _
     rw [h5] at h4;rw [show (Rsn.mk false (path.drop i) []).path=path.drop i from rfl,Ya];exact h4) (bG w')
    generalize path[i]=q at hread hR2;repeat' (first|apply aa (f:=20);exact rfl;exact rfl;intro w' hm;exact hA w' _ hm|refine zZA ?_|refine sM fun _=>?_|refine sC ?_ ?_<;>intro hb<;>try omega|fail)
    all_goals first|omega|(refine rT1 ?_);rfl|skip
    refine fw (id:=11) [7,11,12] [.own (some gp) 34 2 path.length cp (path.flatMap aq),.box g9 49 [.bool false,sl (some gp) path.length cp,sl Ac cuts.length cc],.box g6 28 (bg (aO b) (Bo.v ⟨ae,ar,ag,al,as_,ce,cr,cg,cl,cs⟩))] 14 rfl rfl mS ?_;repeat' (first|apply ba (i:=4);(iterate 4 exact rfl);(iterate 3 decide+kernel);apply ai (j:=i);exact rfl;exact rfl;exact hlt|apply ba (i:=5);(iterate 4 exact rfl);(iterate 3 decide+kernel);apply au (ys:=aq q);exact rfl;exact pK;exact hread;exact rfl|apply ba (i:=0);(iterate 4 exact rfl);(iterate 3 decide+kernel);exact vC|apply ba (i:=1);(iterate 4 exact rfl);(iterate 3 decide+kernel);exact vC|apply ba (i:=2);(iterate 4 exact rfl);(iterate 3 decide+kernel);exact vC|apply ba (i:=3);(iterate 4 exact rfl);(iterate 3 decide+kernel);exact vC|apply ba (i:=6);(iterate 4 exact rfl);(iterate 3 decide+kernel);exact vC|apply ba (i:=8);(iterate 4 exact rfl);(iterate 3 decide+kernel);exact vC|apply ba (i:=9);(iterate 4 exact rfl);(iterate 3 decide+kernel);exact vC|apply ba (i:=10);(iterate 4 exact rfl);(iterate 3 decide+kernel);exact vC|apply ba (i:=13);(iterate 4 exact rfl);(iterate 3 decide+kernel);apply eY;exact rfl|apply cF (i:=7) (j:=11);(iterate 6 exact rfl);decide+kernel|apply bk (i:=7);(iterate 3 exact rfl);decide+kernel|apply bk (i:=11);(iterate 3 exact rfl);decide+kernel|apply bk (i:=12);(iterate 3 exact rfl);decide+kernel|apply fu;decide+kernel|apply rW;(focus (exact mS;done))|apply aw (d:=73);exact rfl;exact rfl;intro w' hm;exact hR2 ⟨ae,ar,ag,al,as_,ce,cr,cg,cl,cs⟩ w' _ hm (BRd.of_sml hm pK pK pK pK pK);rintro _ _ ⟨Aq,cq,Ad,cd,rfl,rfl⟩|refine zZA ?_|refine sM fun _=>?_|refine sC ?_ ?_<;>intro hb<;>try omega|fail)
    all_goals try omega
    all_goals rename_i g13
    all_goals refine bT (id:=12) [9] [] [.box g13 49 [.bool false,sl Aq (path.drop i).length cq,sl Ad 0 cd],.box g9 49 [.bool false,sl (some gp) path.length cp,sl Ac cuts.length cc]] (by kernel_rfl) (by kernel_rfl) (by kernel_rfl) mS ?_
    all_goals
     repeat' first|apply fH (d:=83);(iterate 3 exact rfl);apply iR (lo:=i) (hi:=path.length);exact rfl;exact ⟨_,rfl⟩;exact rfl;exact hi;exact hcp|apply aa (d:=85);exact rfl;exact rfl;intro w' hm;exact hE Aq cq Ad cd w' _ hm pK pK pK|refine zZH ?_|refine sM fun _=>?_|refine sC ?_ ?_<;>intro hb<;>try omega|refine sCW ?_ ?_<;>intro hb<;>try omega|fail
    all_goals first
     |omega
     |refine ⟨i+1,hlt,by omega,by exact sB,by exact sB,by exact mS⟩;done
   ·have e:i=path.length:=by omega
    subst e;repeat' (first|apply aa (f:=20);exact rfl;exact rfl;intro w' hm;exact hA w' _ hm|refine zZA ?_|refine sM fun _=>?_|refine sC ?_ ?_<;>intro hb<;>try omega|fail)
    all_goals first|omega|(refine rT1 ?_);rfl
end Go.SL
