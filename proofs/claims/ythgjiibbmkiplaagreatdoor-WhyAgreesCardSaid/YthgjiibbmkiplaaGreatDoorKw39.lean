/-
  Lemmas and walks, put together: Sl2 Th Wx Xg.
-/
import Derived.Test.YthgjiibbmkiplaaGreatDoorKw37
import Derived.Test.YthgjiibbmkiplaaGreatDoorKw38
set_option linter.unusedSimpArgs false
set_option linter.unusedVariables false
set_option maxRecDepth 20000
set_option maxHeartbeats 16000000
namespace Go.SL
open Go Go.RowKit
section
variable {P:Program} {n:Fr} {w0:World} {Q:bK} {s:az} {H:List Blk} {ops:Array Oper} {rest:List Oper} {ty:TypeId} {p:String} {af:Array Edge}
section aD
variable {x y:Operand} {k:IntKind} {a b:Int} {t t' :TypeId}
theorem Tl (hx:ev s x=some (.int k a)) (hy:ev s y=some (.int k b)) (h:b≠0):VOp P w0 s H (.binOp .rem t x y t') ty (.int k (a.tmod b)):=fun ρ w _ _ _ _ hρ _=>by
 simp [execOp,hρ x _ hx,hρ y _ hy,eqGuard,binOp,Op.intDiv,h]
end aD
section bools
variable {x y:Operand} {a b:Bool} {t t' :TypeId}
theorem T9 [ht:Und P t .bool] (hx:ev s x=some (.bool a)) (hy:ev s y=some (.bool b)):VOp P w0 s H (.binOp .neq t x y t') ty (.bool (!(a==b))):=fun ρ w _ _ _ _ hρ _=>by
 simp [execOp,hρ x _ hx,hρ y _ hy,eqGuard,run_neq_bool w t a b ht.out]
end bools
section strings
variable {x y:Operand} {a b:ByteArray} {t t' :TypeId}
end strings
end
section
variable {G:Gr} {w:Lw} {u:Nat} {hid:Rct→List Rct}
theorem SE (hG:GrOk G) (hw:HidW w u hid) {c:Rf} (hv:c.valid=true):tQ G w u hid c (cZ G w u hid c)=0:=by
 unfold cZ;by_cases h:(gA G w c).getLsbD u=true
 ·rw [if_pos h];unfold tQ;rw [if_pos rfl,if_neg (by simp),if_neg (by rw [h];decide),if_neg (by simp)]
 ·rw [if_neg h];obtain ⟨l,h1,h2⟩:=(pw hG.sort.nodup).path hG hw hv fun hs=>h (fR.2 hs);unfold tQ;rw [if_neg (by simp),h1,if_neg (by simp),if_neg (by simp),if_neg (by simp),if_neg (by rw [h2];decide)]
theorem UC (hG:GrOk G) (hw:HidW w u hid) {c:Rf} (h:(gA G w c).getLsbD u=true) (l:List Rf):fI G w u (c::l)=false:=by
 rw [← ZE];exact fun hy=>pT hG hw l c hy (fR.1 h)
end
open Go.Proofs
section
variable {G:Gr} {w:Lw} {u:Nat} {hid:Rct→List Rct}
theorem OE (hG:GrOk G) (hw:HidW w u hid) {c:Rf} (_hv:c.valid=true) (hl:G.length≤900):(cZ G w u hid c).path.length≤1000000:=by
 have hO:=pw (G:=G) (w:=w) (u:=u) (hid:=hid) hG.sort.nodup;unfold cZ;split
 ·exact Xn _
 ·dsimp only;by_cases hrd:rdU w u c=false
  ·unfold gV;rw [if_pos hrd];simp
  ·cases hd:dOf (gH G w u hid (ap G)) c with
   |none=>
    unfold gV;rw [if_neg hrd,hd];exact Xn _
   |some d=>
    have hc:=(px hO.od).1 hd;have h1:=hO.dlen hc;rw [hO.pathKey hc,Xs,hO.wayLen hG hw d c hc];rw [ap,Xq] at h1;omega
end
attribute [local irreducible] FnAt FnIn FnP RW VOp W WA WC WE WG WL WLI WQ WR WT WX aX aY bA blk bw ceP scp thn
theorem NR {w0:World} {s:az} {H:List Blk} {ty t' :TypeId} {c:Bool} {x y:Operand} {a b:Rf} (h:eqF a b=c) (hx:ev s x=some (.agg (aq a).toArray)) (hy:ev s y=some (.agg (aq b).toArray)):VOp Tryz.prog w0 s H (.binOp .eql 34 x y t') ty (.bool c):=h ▸ Ih hx hy
theorem AA {w0:World} {s:az} {H:List Blk} {ty:TypeId} {c:Bool} {x y:Operand} {a b:BitVec 64} {t t' :TypeId} (h:decide (a=b)=c) (hx:ev s x=some (vS a)) (hy:ev s y=some (vS b)):VOp Tryz.prog w0 s H (.binOp .eql t x y t') ty (.bool c):=h ▸ CH hx hy
theorem DL (user:Int) (a:Rf) (b:Bk) (x:Bv) (P:List Rf) (pv:Value) (w:World) (h:BRd w b x) (hP:Reads w pv P.length (P.flatMap aq)) (hW:Words w) (hs:SmallW b):
 aL Tryz.prog 4 [.int .i64 user,aC a,.agg (bg b x).toArray,pv] w (.bool true):=by
 have hP0:=hP;obtain ⟨Av,cv,rfl,hcv, -, -⟩:=hP;refine aB Tryz.func4 rfl Tryz.ntmps4 rfl ?_;obtain ⟨hl1,hl2⟩:=sx b;have hC:=fun (w' :World) (H:List Blk) (hm:Mem w w' H)=>nV b x w' (h.of_w0 hm) hs;have hA:=fun (w' :World) (H:List Blk) (hm:Mem w w' H)=>nT w' (hW.next hm);have hR:=fun (a' :Bo) (w' :World) (H:List Blk) (hm:Mem w w' H) (hb:BRd w' (aO b) a'.v)=>qB user a (aO b) a'.v w' hb (hW.next hm) (by omega) (by omega);have hK0:=fun (r:Rsn) (hrl:r.path.length≤1000000) (Ap:Option Nat) (cp:Nat) (Ac:Option Nat) (cc:Nat) (a' :Bo) (w' :World) (H:List Blk) (hm:Mem w w' H) (hb:BRd w' (aO b) a'.v) (h1:In (.own Ap 34 2 r.path.length cp (r.path.flatMap aq)) H) (h2:In (.own Ac 98 3 r.cuts.length cc (r.cuts.flatMap dr)) H)=>jB user a (aO b) a'.v r _ _ w' hb (hW.next hm) (by omega) (by omega) (Reads.of_own hm h1) (Reads.of_own hm h2) hrl;by_cases he:cY user a (aO b)≠0
 ·have hre:jR user a (aO b)=(⟨false,[],[]⟩,cY user a (aO b)):=if_pos he;have hce:tR user a (aO b) ⟨false,[],[]⟩=cY user a (aO b):=if_pos he;rw [hre] at hR;have hK0:=hK0 ⟨false,[],[]⟩ (by decide);rw [hce] at hK0;have hE:=fun (Ap:Option Nat) (cp:Nat) (Ac:Option Nat) (cc:Nat) (w' :World) (H:List Blk) (hm:Mem w w' H) (h1:In (.own Ap 34 2 0 cp []) H) (h2:In (.own Ac 98 3 0 cc []) H)=>(show vU ⟨false,[],[]⟩ ⟨false,[],[]⟩=true by decide) ▸ fW ⟨false,[],[]⟩ ⟨false,[],[]⟩ (sl Ap 0 cp) (sl Ac 0 cc) (.slice none 0 0) (.slice none 0 0) w' (Reads.of_own hm h1) (Reads.of_own hm h2) (bG w') (bG w');generalize cY user a (aO b)=e at hR he hK0;dsimp only at hR hK0;repeat' (first|apply aw (f:=16);exact rfl;exact rfl;intro w' hm;exact hC w' _ hm;rintro _ _ ⟨⟨ae,ar,ag,al,as_,ce,cr,cg,cl,cs⟩,rfl,rfl⟩;unfold iw;simp only [Xc,Xd]|apply aw (d:=22);exact rfl;exact rfl;intro w' hm;exact hR ⟨ae,ar,ag,al,as_,ce,cr,cg,cl,cs⟩ w' _ hm (BRd.of_sml hm pK pK pK pK pK);rintro _ _ ⟨Ap,cp,Ac,cc,rfl,rfl⟩|apply aa (d:=29);exact rfl;exact rfl;intro w' hm;exact hE Ap cp Ac cc w' _ hm pK pK|apply aa (d:=35);exact rfl;exact rfl;intro w' hm;exact hK0 Ap cp Ac cc ⟨ae,ar,ag,al,as_,ce,cr,cg,cl,cs⟩ w' _ hm (BRd.of_sml hm pK pK pK pK pK) pK pK|apply aa (f:=20);exact rfl;exact rfl;intro w' hm;exact hA w' _ hm|refine zZA ?_|refine sM fun _=>?_|refine sC ?_ ?_<;>intro hb<;>try omega|fail)
  all_goals first|omega|(refine rT1 ?_);rfl
 have he0:cY user a (aO b)=0:=by omega
 obtain ⟨hGo,hGl,hva,hw⟩:=kI he0;have hre:jR user a (aO b)=(cZ (grW (aO b)) (lwB (aO b)) user.toNat (aZ (aO b).rules user) a,0):=if_neg he;rw [hre] at hR;have hce: ∀ Q,tR user a (aO b) Q=tQ (grW (aO b)) (lwB (aO b)) user.toNat (aZ (aO b).rules user) a Q:=fun Q=>if_neg he;obtain ⟨hbk,hu0,hu1, -,G,hG, -, -⟩:=lQ he0;have hgr:grW (aO b)=G:=by unfold grW;rw [hG];rfl
 rw [hgr] at hGo hGl hR hce;obtain ⟨un,hun⟩: ∃ un:Nat,user=(un:Int):=⟨user.toNat,by omega⟩;subst hun;have hu64:un<64:=by have:=hbk.u;omega
 have hrem:((un:Int)).tmod 64=(un:Int):=by rw [Int.tmod_eq_emod_of_nonneg (by omega)];omega
 have hwr:IntKind.u64.wrap (un:Int)=(un:Int):=by rw [IntKind.wrap_u64];omega
 simp only [Zh] at hw hR hce;have hN:=fun (a' :Bo) (w' :World) (H:List Blk) (hm:Mem w w' H) (hb:BRd w' (aO b) a'.v)=>FQ hG hGo (by omega) _ w w' (fun gg gm E clock R hA=>hA.rdr hGo (by omega) gg gm w) hb.e (by omega) (hW.next hm);have hlb:jS G (aO b).rules (aO b).grants a=(gA G (lwB (aO b)) a,0):=by
  have hst:stE a.valid (aO b).rules (aO b).grants=0:=by
   unfold stE;rw [if_neg (by rw [hva];decide),if_neg (fun h=>h (zp hbk.r))];exact Ps hbk.g
  unfold jS;rw [if_neg (fun h=>h hst)]
 have hbit:=Kh (gA G (lwB (aO b)) a) un;have hc0:=SE hGo hw hva;rw [← hce] at hc0;have hnw:=fun h T=>UC hGo hw (c:=a) h T;have hrp:=fun h=>yh hGo hw hva h;have hrs:(cZ G (lwB (aO b)) un (aZ (aO b).rules (un:Int)) a).sees=(gA G (lwB (aO b)) a).getLsbD un:=by
  unfold cZ;cases h:(gA G (lwB (aO b)) a).getLsbD un<;>simp
 have hpl0:(gA G (lwB (aO b)) a).getLsbD un=true→(cZ G (lwB (aO b)) un (aZ (aO b).rules (un:Int)) a).path= []:=fun h=>by unfold cZ;rw [if_pos h]
 have hchk2:(gA G (lwB (aO b)) a).getLsbD un=false→tR (un:Int) a (aO b) ⟨true,[],[]⟩=6:=fun h=>by
  rw [hce];unfold tQ;rw [if_pos rfl,if_neg (by decide),if_pos h]
 generalize gA G (lwB (aO b)) a=xl at hlb hbit hrs hnw hrp hpl0 hchk2;have hchk1: ∀ T,xl.getLsbD un=true→tR (un:Int) a (aO b) ⟨false,a::T,[]⟩=6:=fun T h=>by
  rw [hce];unfold tQ;rw [if_neg (by simp),if_neg (by simp),if_neg (by simp),if_neg (by simp),if_pos (hnw h T)]
 have hK1:=fun (PT:List Rf) (m:Nat) (hm2:PT.length=m) (hml:m≤20) (hz:tR (un:Int) a (aO b) ⟨false,a::PT,[]⟩=6) (A3:Option Nat) (c3:Nat) (a' :Bo) (w' :World) (H:List Blk) (hm:Mem w w' H) (hb:BRd w' (aO b) a'.v) (h3:In (.own A3 34 2 (1+m) c3 (aq a++PT.flatMap aq)) H)=>hz ▸ jB (un:Int) a (aO b) a'.v ⟨false,a::PT,[]⟩ (sl A3 (1+m) c3) (.slice none 0 0) w' hb (hW.next hm) (by omega) (by omega) (by
  have e:(a::PT).length=1+m:=by rw [Xs,hm2];omega
  rw [show (Rsn.mk false (a::PT) []).path=a::PT from rfl,e];exact Reads.of_own hm h3) (bG w') (by rw [show (Rsn.mk false (a::PT) []).path=a::PT from rfl,Xs,hm2];omega)
 have hK2:=fun (hz:tR (un:Int) a (aO b) ⟨true,[],[]⟩=6) (a' :Bo) (w' :World) (H:List Blk) (hm:Mem w w' H) (hb:BRd w' (aO b) a'.v)=>hz ▸ jB (un:Int) a (aO b) a'.v ⟨true,[],[]⟩ (.slice none 0 0) (.slice none 0 0) w' hb (hW.next hm) (by omega) (by omega) (bG w') (bG w') (by decide);have hpl:=OE hGo hw hva (by omega:G.length≤900);generalize cZ G (lwB (aO b)) un (aZ (aO b).rules (un:Int)) a=r at hR hc0 hrs hrp hpl0 hpl;have hK0:=hK0 r hpl;rw [hc0] at hK0;clear hnw hce
 cases hbt:xl.getLsbD un with
 |true=>
  rw [hbt] at hbit hrs;have hp0:=hpl0 hbt;obtain ⟨sees,path,cuts⟩:=r;dsimp only at hrs hp0;subst hrs hp0;have hrl: ∀ Ap cp Ac cc,iY ⟨true,[],cuts⟩ (sl Ap 0 cp) (sl Ac cuts.length cc)= [.bool true,sl Ap 0 cp,sl Ac cuts.length cc]:=fun _ _ _ _=>rfl;dsimp only [List.length_nil,List.flatMap_nil] at hR hK0;simp only [hrl] at hR hK0;obtain ⟨m,hmP⟩: ∃ m,min P.length 20=m:=⟨_,rfl⟩;have hcut:=hP0.cut (lo:=0) (hi:=m) (sz:=2) (Xn _) (by omega);have hm2:(P.take m).length=m:=by rw [XA];omega
  have hl3:((P.flatMap aq).drop (0*2)).take ((m - 0)*2)=(P.take m).flatMap aq:=by rw [Zt,Zl,YC,jv bD]
  rw [hl3,YC,YC] at hcut;have hK1:=hK1 (P.take m) m hm2 (by omega) (hchk1 _ hbt);generalize P.take m=PT at hm2 hcut hK1;repeat' (first|refine zZB ?_|refine sM fun _=>?_|refine sC ?_ ?_<;>intro hb<;>try omega|fail)
  all_goals try omega
  rename_i g5 g6;repeat' (first|apply aw (f:=16);exact rfl;exact rfl;intro w' hm;exact hC w' _ hm;rintro _ _ ⟨⟨ae,ar,ag,al,as_,ce,cr,cg,cl,cs⟩,rfl,rfl⟩;unfold iw;simp only [Xc,Xd]|apply aw (d:=22);exact rfl;exact rfl;intro w' hm;exact hR ⟨ae,ar,ag,al,as_,ce,cr,cg,cl,cs⟩ w' _ hm (BRd.of_sml hm pK pK pK pK pK);rintro _ _ ⟨Ap,cp,Ac,cc,rfl,rfl⟩|apply aw (f:=21);exact rfl;exact rfl;intro w' hm;exact hN ⟨ae,ar,ag,al,as_,ce,cr,cg,cl,cs⟩ w' _ hm (BRd.of_sml hm pK pK pK pK pK);rintro _ B ⟨gg,_,D,rfl,rfl⟩;refine cJ (_++B) MSub.swap ?_;simp only [Xc,Xd]|apply aj (f:=22);exact rfl;exact rfl;refine pP (N:=(aO b).grants) (L:=(aO b).rules) hlb D ?_ _ _ _ _ (fun w' hm=>jX dw hm 6 pK) (fun w' hm=>jX jy hm 6 pK) (by omega);(focus (exact mS;done));rintro _ _ ⟨rfl,rfl⟩|apply ak (d:=70);exact rfl;apply cM (c:=(un:Int));exact rfl;exact hwr|apply ak (d:=69);exact rfl;exact hrem ▸ Tl rfl rfl (by decide)|apply ak (d:=71);exact rfl;apply CF (a:=xl) (m:=un);exact rfl;exact rfl;omega|apply ak (d:=72);exact rfl;apply pY (b:=1#64);exact rfl;exact rfl|apply ak (d:=73);exact rfl;apply AA hbit;exact rfl;exact rfl|apply aa (d:=81);exact rfl;exact rfl;intro w' hm;exact hK0 Ap cp Ac cc ⟨ae,ar,ag,al,as_,ce,cr,cg,cl,cs⟩ w' _ hm (BRd.of_sml hm pK pK pK pK pK) pK pK|refine zZA ?_|refine sM fun _=>?_|refine sC ?_ ?_<;>intro hb<;>try omega|fail)
  all_goals try omega
  repeat' first|(refine bT (id:=10) [1,7] [] [.box g5 34 (aq a)] (by kernel_rfl) (by kernel_rfl) (by kernel_rfl) mS ?_)|apply fH (d:=91);(iterate 3 exact rfl);apply oE (a:=P.length) (b:=20);exact rfl;exact rfl;exact hmP|apply fH (d:=92);(iterate 3 exact rfl);apply iR (lo:=0) (hi:=m);exact rfl;exact rfl;exact ⟨_,rfl⟩;exact Xn _;omega|apply dz (d:=93) (n' :=1) (c:=1) (A:=some _) (m:=m);(iterate 3 exact rfl);exact pK;intro w hm;exact hcut.of_w0 hm;rw [aR bD,hm2];exact yX _;omega;simp only [maxLen];omega;intro A3 c3 hA3|apply aa (d:=99);exact rfl;exact rfl;intro w' hm;exact hK1 A3 c3 ⟨ae,ar,ag,al,as_,ce,cr,cg,cl,cs⟩ w' _ hm (BRd.of_sml hm pK pK pK pK pK) pK|apply aa (f:=20);exact rfl;exact rfl;intro w' hm;exact hA w' _ hm|refine zZH ?_|refine sM fun _=>?_|refine sC ?_ ?_<;>intro hb<;>try omega|refine sCW ?_ ?_<;>intro hb<;>try omega|fail
  all_goals first|omega|(refine rT1 ?_);rfl
 |false=>
  rw [hbt] at hbit;obtain ⟨l,hr,hwy⟩:=hrp hbt;subst hr;dsimp only at hR hK0;have hread:((((a::l).flatMap aq)).drop (0+0*2)).take 2=aq a:=by rw [Xv];exact aM bD (a::l) 0 (by simp)
  have hpos:0<(a::l).length:=by simp
  generalize a::l=Pp at hR hK0 hread hpos;have hrl: ∀ Ap cp Ac cc,iY ⟨false,Pp,[]⟩ (sl Ap Pp.length cp) (sl Ac ([]:List Cl).length cc)= [.bool false,sl Ap Pp.length cp,sl Ac 0 cc]:=fun _ _ _ _=>rfl;simp only [hrl] at hR hK0;have hK2:=hK2 (hchk2 hbt);have heq:eqF a a=true:=by simp [eqF]
  repeat' first|refine zZB ?_|refine sM fun _=>?_|refine sC ?_ ?_<;>intro hb<;>try omega|fail
  all_goals try omega
  rename_i g5 g6;repeat' (first|apply aw (f:=16);exact rfl;exact rfl;intro w' hm;exact hC w' _ hm;rintro _ _ ⟨⟨ae,ar,ag,al,as_,ce,cr,cg,cl,cs⟩,rfl,rfl⟩;unfold iw;simp only [Xc,Xd]|apply aw (d:=22);exact rfl;exact rfl;intro w' hm;exact hR ⟨ae,ar,ag,al,as_,ce,cr,cg,cl,cs⟩ w' _ hm (BRd.of_sml hm pK pK pK pK pK);rintro _ _ ⟨Ap,cp,Ac,cc,rfl,rfl⟩|refine zZA ?_|refine sM fun _=>?_|refine sC ?_ ?_<;>intro hb<;>try omega|fail)
  all_goals try omega
  rename_i g9;repeat' (first|apply aw (f:=21);exact rfl;exact rfl;intro w' hm;exact hN ⟨ae,ar,ag,al,as_,ce,cr,cg,cl,cs⟩ w' _ hm (BRd.of_sml hm pK pK pK pK pK);rintro _ B ⟨gg,_,D,rfl,rfl⟩;refine cJ (_++B) MSub.swap ?_;simp only [Xc,Xd]|apply aj (f:=22);exact rfl;exact rfl;refine pP (N:=(aO b).grants) (L:=(aO b).rules) hlb D ?_ _ _ _ _ (fun w' hm=>jX dw hm 6 pK) (fun w' hm=>jX jy hm 6 pK) (by omega);(focus (exact mS;done));rintro _ _ ⟨rfl,rfl⟩|apply ak (d:=70);exact rfl;apply cM (c:=(un:Int));exact rfl;exact hwr|apply ak (d:=69);exact rfl;exact hrem ▸ Tl rfl rfl (by decide)|apply ak (d:=71);exact rfl;apply CF (a:=xl) (m:=un);exact rfl;exact rfl;omega|apply ak (d:=72);exact rfl;apply pY (b:=1#64);exact rfl;exact rfl|apply ak (d:=73);exact rfl;apply AA hbit;exact rfl;exact rfl|apply aa (d:=81);exact rfl;exact rfl;intro w' hm;exact hK0 Ap cp Ac cc ⟨ae,ar,ag,al,as_,ce,cr,cg,cl,cs⟩ w' _ hm (BRd.of_sml hm pK pK pK pK pK) pK pK|refine zZA ?_|refine sM fun _=>?_|refine sC ?_ ?_<;>intro hb<;>try omega|fail)
  all_goals try omega
  refine aU (A:=Ap) pK hpos fun gp hAp=> ?_;subst hAp;refine bT (id:=12) [4,27] [] [.box g5 34 (aq a),.box g6 28 (bg (aO b) (Bo.v ⟨ae,ar,ag,al,as_,ce,cr,cg,cl,cs⟩)),.box g9 49 [.bool false,sl (some gp) Pp.length cp,sl Ac 0 cc],.own (some gp) 34 2 Pp.length cp (Pp.flatMap aq)] (by kernel_rfl) (by kernel_rfl) (by kernel_rfl) mS ?_;repeat' (first|apply fH (d:=131);(iterate 3 exact rfl);apply ai (j:=0);exact rfl;exact rfl;exact hpos|apply fH (d:=132);(iterate 3 exact rfl);apply au (ys:=aq a);exact rfl;exact pK;exact hread;exact rfl|apply fH (d:=134);(iterate 3 exact rfl);apply NR heq;exact rfl;exact rfl|apply aa (d:=114);exact rfl;exact rfl;intro w' hm;exact hK2 ⟨ae,ar,ag,al,as_,ce,cr,cg,cl,cs⟩ w' _ hm (BRd.of_sml hm pK pK pK pK pK)|apply aa (f:=20);exact rfl;exact rfl;intro w' hm;exact hA w' _ hm|refine zZH ?_|refine sM fun _=>?_|refine sC ?_ ?_<;>intro hb<;>try omega|refine sCW ?_ ?_<;>intro hb<;>try omega|fail)
  all_goals first|omega|(refine rT1 ?_);rfl
end Go.SL
