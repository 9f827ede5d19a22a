/-
  Lemmas and walks, put together: Ty Yg Yh.
-/
import Derived.Test.YtfeicpjdgjflaaaGreatDoorKv34
set_option linter.unusedSimpArgs false
set_option linter.unusedVariables false
set_option maxRecDepth 20000
set_option maxHeartbeats 16000000
namespace Go.SL
open Go Go.Proofs
instance:Callable Tryz.prog 26:=⟨fun args w=>Tryz.call26 args w⟩
section
variable {G:Gr}
def C9 (G:Gr) (C:List Rf) (a:Rf) (b:Bool) (k:Nat):Bool:=b||(C.take k).any fun c=>decide (a∈eU G (dU c.col c.row))
theorem Ls (C:List Rf) (a:Rf) (b:Bool):C9 G C a b 0=b:=by unfold C9;simp
theorem Lt {C:List Rf} {a:Rf} {b:Bool} {k:Nat} (h:k<C.length):C9 G C a b (k+1)=(C9 G C a b k||decide (a∈eU G (dU C[k].col C[k].row))):=by
 unfold C9;rw [Vu h,List.any_append,Bool.or_assoc];simp
theorem NX (C:List Rf) (a:Rf) (b:Bool):C9 G C a b C.length=(b||C.any fun c=>decide (a∈eU G (dU c.col c.row))):=by unfold C9;rw [V1]
end
attribute [local irreducible] FnAt FnIn FnP RW VOp W WA WC WE WG WL WLI WQ WR WT WX aS aV bg bi blk ceP scp thn
section
variable {P:Program} {w0:World} {s:aC} {H:List Blk} {ty t t' :TypeId} {x y:Operand}
theorem NR {a b:Nat} (h:a=b) (hx:ev s x=some (.int .i64 (a:Nat))) (hy:ev s y=some (.int .i64 (b:Nat))):VOp P w0 s H (.binOp .neq t x y t') ty (.bool false):=by
 subst h;exact jK hx hy
theorem E0 {a b:Int} {c:Bool} (h:decide (a=b)=c) (hx:ev s x=some (.int .i64 a)) (hy:ev s y=some (.int .i64 b)):VOp P w0 s H (.binOp .eql t x y t') ty (.bool c):=h ▸ Kc hx hy
theorem EV [Und P t .bool] {b:Bool} (hx:ev s x=some (.bool b)) (hy:ev s y=some (.bool b)):VOp P w0 s H (.binOp .neq t x y t') ty (.bool false):=by
 have h:=NQ (P:=P) (w0:=w0) (H:=H) (ty:=ty) (t:=t) (t' :=t') hx hy;rwa [beq_self_eq_true,Bool.not_true] at h
end
theorem Bb (L:List Pu) (tv:Value) (w:World) (ht:Reads w tv L.length (L.flatMap mT)) (hW:Words w):
 aF Tryz.prog 5 [tv] w (.bool true):=by
 have ht' :=ht;obtain ⟨At,ct,rfl,ht1,ht2,ht3⟩:=ht;refine aA Tryz.func5 rfl Tryz.ntmps5 rfl ?_;have hcut:=ht'.cut (lo:=0) (hi:=min L.length 25) (sz:=3) (by omega) (by omega);generalize hm:min L.length 25=m at hcut;have hm2:m≤25:=by omega
 have hmL:m≤L.length:=by omega
 have hl1:(L.take m).length=m:=by simp;omega
 have hl2:((L.flatMap mT).drop (0*3)).take ((m - 0)*3)=(L.take m).flatMap mT:=by
  rw [XV,WH,WU,jV qZ]
 rw [hl2,WU] at hcut;generalize L.take m=M at hl1 hcut;subst hl1;have hS:=fun (w' :World) (H:List Blk) (hm:Mem w w' H)=>vU M _ w' (hcut.of_w0 hm) (hW.next hm);have hGl:=rX M;generalize pX M=G at hS hGl;repeat' (first|apply ai;exact rfl;apply xN (a:=L.length) (b:=25);exact rfl;exact rfl;exact hm|apply ai;exact rfl;apply jY (lo:=0) (hi:=M.length);exact rfl;exact rfl;exact ⟨_,rfl⟩;omega;omega|apply aJ (f:=10);exact rfl;exact rfl;intro w' hm;exact hS w' _ hm;rintro _ _ ⟨x,rfl,rfl,hx⟩;refine kU _ (MSub.appS _ _) ?_|refine zZM ?_|refine sM fun _=>?_|refine sC ?_ ?_<;>intro hb<;>try omega|fail)
 rename_i g3;have hl' :G.length≤900:=by omega
 have hg:=hx.g;have hcy:=x.cyr hx hl' w;have hrd:=x.rdr hx hl' w;have hF1:=fun (H:List Blk) (hs:MSub x.H H)=>x.formulas G hx hs w hl';have hL1:=fun (H:List Blk) (hs:MSub x.H H)=>zW hcy H hs;have hC1:=fun (H:List Blk) (hs:MSub x.H H)=>rO hcy H hs;have hO1:=fun (H:List Blk) (hs:MSub x.H H)=>sZ hcy H hs;have hU:=fun (r:Rct) (H:List Blk) (hs:MSub x.H H)=>x.users G hx hs w hl' r;have hpa:x.pa= .pointer (some ⟨x.gg,0,none⟩):=rfl;have hp:=UV hg;have hplc:=(nu G).plc hg hl';have hOe:iq G=bQ (au G) (dP G (frC G)):=rfl;rw [← hOe] at hplc;have hKl:(au G).length=G.length:=cC G;have hKv: ∀ c∈au G,c.valid=true:=fun c hc=>qN hg hc;generalize au G=K at hF1 hp hKl hKv;generalize l5 G=Lp at hL1 hp;generalize mW G=C at hC1 hp;clear hOe;generalize iq G=O at hO1 hp hplc;obtain ⟨hcnt,hnil,hlp,hus,hod⟩:=hp;have hP:=fun (H:List Blk) (A:Option Nat) (c:Nat) (hs:MSub (.own A 35 2 O.length c (O.flatMap aw)::x.H) H)=>tO hrd hplc hs;obtain ⟨z0,hz0⟩: ∃ z,decide ((Lp.length:Int)=0)=z:=⟨_,rfl⟩;have hz1:=hnil.symm.trans hz0;repeat' (first|apply ak (f:=22);exact rfl;exact rfl;exact hF1 _ mS;rintro _ _ ⟨A5,c5,rfl,rfl⟩|apply ak (f:=23);exact rfl;exact rfl;exact hL1 _ mS;rintro _ _ ⟨A6,c6,rfl,rfl⟩|apply ak (f:=24);exact rfl;exact rfl;exact hC1 _ mS;rintro _ _ ⟨A8,c8,rfl,rfl⟩|apply ak (f:=19);exact rfl;exact rfl;exact hO1 _ mS;rintro _ _ ⟨A10,c10,rfl,rfl⟩|apply ai (d:=68);exact rfl;apply NR (a:=C.length+O.length) (b:=K.length);exact hcnt;exact rfl;exact rfl|apply ai (d:=73);exact rfl;apply E0;exact hz0;exact rfl;exact rfl|apply ai (d:=76);exact rfl;apply E0;exact hz1;exact rfl;exact rfl|apply ai (d:=77);exact rfl;apply EV;exact rfl;exact rfl|refine zZA ?_|refine sM fun _=>?_|refine sC ?_ ?_<;>intro hb<;>try omega|fail)
 all_goals try omega
 have hCl:C.length≤900:=by omega
 refine ay [3,5,6,8,10] rfl (fun i:Nat=> [(12,.int .i64 (i:Int))]) (fun _=> .own A10 35 2 O.length c10 (O.flatMap aw):: .own A8 35 2 C.length c8 (C.flatMap aw):: .own A6 35 2 Lp.length c6 (Lp.flatMap aw):: .own A5 35 2 K.length c5 (K.flatMap aw):: .box g3 28 [x.pa,x.pb]::x.H) (fun i=>i≤K.length) (fun i=>K.length - i) 0 (Vt _) sB mS ?_;rintro i hi;by_cases hlt:i<K.length
 ·refine ba (A:=A5) pK (by omega) fun gk hA=> ?_;subst hA;have hri:=u6 hlt;have hvi:=hKv _ (VL hlt);have hlpi:=hlp i hlt;have husi:=hus i hlt;have hodi:=hod i hlt;generalize K[i]=a at hri hvi hlpi husi hodi;have hR:=fun (H:List Blk) (hs:MSub x.H H)=>hrd.reaches_to (a:=a) (b:=a) hs ((tL hvi hvi).2.trans hlpi.symm) (tL (G:=G) hvi hvi).1;obtain ⟨y,hy⟩: ∃ y,decide (a∈Lp)=y:=⟨_,rfl⟩;rw [hy] at hR husi;rw [← NX] at husi;have hasL:=fun (w' :World) (lv:Value) (hr:Reads w' lv Lp.length (Lp.flatMap aw))=>qo hy hr;repeat' (first|apply ai (d:=87);exact rfl;apply aa (j:=i);exact rfl;exact rfl;exact hlt|apply ai (d:=88);exact rfl;apply aD (ys:=aw a);exact rfl;exact pK;exact hri;exact rfl|apply ak (f:=25);exact rfl;exact rfl;exact hR _ mS;rintro _ _ ⟨rfl,rfl⟩|apply ag (d:=99);exact rfl;exact rfl;intro w' hm;exact hasL w' _ (Reads.of_own (A:=A6) (c:=c6) hm pK)|refine zZA ?_|refine sM fun _=>?_|refine sC ?_ ?_<;>intro hb<;>try omega|fail)
  all_goals try omega
  rename_i g13;refine ay [3,5,6,8,10,12,13,14,15] rfl (fun k:Nat=> [(16,.bool (C9 G C a y k)),(17,.int .i64 (k:Int))]) (fun _=> .box g13 35 (aw a):: .own A10 35 2 O.length c10 (O.flatMap aw):: .own A8 35 2 C.length c8 (C.flatMap aw):: .own A6 35 2 Lp.length c6 (Lp.flatMap aw):: .own (some gk) 35 2 K.length c5 (K.flatMap aw):: .box g3 28 [x.pa,x.pb]::x.H) (fun k=>k≤C.length) (fun k=>C.length - k) 0 (Vt _) (by rw [Ls];exact sB) mS ?_;rintro k hk;by_cases hkt:k<C.length
  ·refine ba (A:=A8) pK (by omega) fun g8 hA=> ?_;subst hA;have hrk:=u6 hkt;have hsucc:=Lt (G:=G) (a:=a) (b:=y) hkt;generalize C[k]=d at hrk hsucc;have hUd:=fun (H:List Blk) (hs:MSub x.H H)=>hU (dU d.col d.row) H hs;obtain ⟨u,hu⟩: ∃ u,decide (a∈eU G (dU d.col d.row))=u:=⟨_,rfl⟩;rw [hu] at hsucc;have gC:=fun (w' :World) (lv:Value) (hr:Reads w' lv (eU G (dU d.col d.row)).length ((eU G (dU d.col d.row)).flatMap aw))=>qo hu hr;generalize eU G (dU d.col d.row)=Us at hUd gC;generalize C9 G C a y k=f at hsucc;repeat' (first|refine zZA ?_|refine sM fun _=>?_|refine sC ?_ ?_<;>intro hb<;>try omega|fail)
   all_goals try omega
   refine fa (id:=19) [8,9,11] [] [.box g13 35 (aw a),.own (some g8) 35 2 C.length c8 (C.flatMap aw),.box g3 28 [x.pa,x.pb]] (by kernel_rfl) (by kernel_rfl) (by kernel_rfl) mS ?_;cases f
   all_goals
    repeat' first|apply dC (d:=112);(iterate 3 exact rfl);apply aa (j:=k);exact rfl;exact rfl;exact hkt|apply dC (d:=113);(iterate 3 exact rfl);apply aD;exact rfl;exact pK;exact hrk;exact rfl|apply ag (f:=27);exact rfl;exact rfl;intro w' hm;exact s5 _ w'|apply ak (f:=26);exact rfl;exact rfl;exact hUd _ mS;rintro _ _ ⟨A15,c15,rfl,rfl⟩|apply ag (f:=20);exact rfl;exact rfl;intro w' hm;exact gC w' _ (Reads.of_own (A:=A15) (c:=c15) hm pK)|refine zZI ?_|refine sM fun _=>?_|refine sC ?_ ?_<;>intro hb<;>try omega|refine sCW ?_ ?_<;>intro hb<;>try omega|fail
   all_goals first
    |omega
    |refine ⟨k+1,by omega,by omega,?_,by exact sB,by exact mS⟩;rw [hsucc];exact sB;done
  ·have hkC:k=C.length:=by omega
   subst hkC;rw [← husi];obtain ⟨z,hz⟩: ∃ z,decide (a∈C)=z:=⟨_,rfl⟩;rw [hz] at hodi ⊢;have hasC:=fun (w' :World) (lv:Value) (hr:Reads w' lv C.length (C.flatMap aw))=>qo hz hr;have hasO:=fun (w' :World) (lv:Value) (hr:Reads w' lv O.length (O.flatMap aw))=>qo hodi hr;repeat' (first|refine zZA ?_|refine sM fun _=>?_|refine sC ?_ ?_<;>intro hb<;>try omega|fail)
   all_goals try omega
   refine fa (id:=20) [5,12,19,22] [] [.box g13 35 (aw a)] (by kernel_rfl) (by kernel_rfl) (by kernel_rfl) mS ?_;cases z
   all_goals
    repeat' first|apply ag (d:=124);exact rfl;exact rfl;intro w' hm;exact hasL w' _ (Reads.of_own (A:=A6) (c:=c6) hm pK)|apply dC (d:=126);(iterate 3 exact rfl);apply EV;exact rfl;exact rfl|apply ag (d:=131);exact rfl;exact rfl;intro w' hm;exact hasC w' _ (Reads.of_own (A:=A8) (c:=c8) hm pK)|apply ag (d:=138);exact rfl;exact rfl;intro w' hm;exact hasC w' _ (Reads.of_own (A:=A8) (c:=c8) hm pK)|apply ag (d:=141);exact rfl;exact rfl;intro w' hm;exact hasO w' _ (Reads.of_own (A:=A10) (c:=c10) hm pK)|refine zZI ?_|refine sM fun _=>?_|refine sC ?_ ?_<;>intro hb<;>try omega|refine sCW ?_ ?_<;>intro hb<;>try omega|fail
   all_goals first
    |omega
    |refine ⟨i+1,by omega,by omega,by exact sB,by exact sB,by exact mS⟩;done
 ·repeat' first|apply ak (f:=21);exact rfl;exact rfl;exact hP _ A10 c10 mS;rintro _ _ ⟨rfl,rfl⟩|apply ag (f:=18);exact rfl;exact rfl;intro w' hm;exact sY w' (hW.next hm)|refine zZA ?_|refine sM fun _=>?_|refine sC ?_ ?_<;>intro hb<;>try omega|fail
  all_goals first
   |omega
   |(refine rT1 ?_);rfl
end Go.SL
