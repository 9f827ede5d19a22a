/-
  Lemmas and walks, put together: Zi.
-/
import Derived.Test.YtfeicpjdgjflaaaGreatDoorKv23
set_option linter.unusedSimpArgs false
set_option linter.unusedVariables false
set_option maxRecDepth 20000
set_option maxHeartbeats 16000000
namespace Go.SL
open Go Go.Proofs Go.RowKit
attribute [local irreducible] W WL WQ WG WA WX WLI WR WT WC WE VOp RW thn blk bg scp aS aV bi FnAt FnIn FnP ceP
def hpV (gr:Nat):Value:= .iface 206 (.pointer (some ⟨gr,0,none⟩))
def hpB (gr:Nat) (A:Option Nat) (c:Nat) (h:List Nat) (R:List Blk):List Blk:= .box gr 207 [sl A h.length c]:: .own A 3 1 h.length c (nzC h)::R
theorem Mem.hp {w0 w:World} {gr:Nat} {v:Value} {H:List Blk} (hm:Mem w0 w H) (hi:In (.box gr 207 [v]) H):w.cell? ⟨gr,0,none⟩=some v:=hm.cells_box hi 0 v rfl
theorem Pm (gr:Nat) (w:World):(invoke (.fn (.method "Len") #[]) (Value.iface 206 (.pointer (some ⟨gr,0,none⟩)):: []).toArray).run Tryz.prog w=((loadVar 207 ⟨gr,0,none⟩)>>=fun r=>callFunc 114 (#[r]++ #[])).run Tryz.prog w:=by kernel_rfl
theorem MJ (gr:Nat) (a b:Value) (w:World):(invoke (.fn (.method "Less") #[]) (Value.iface 206 (.pointer (some ⟨gr,0,none⟩)):: [a,b]).toArray).run Tryz.prog w=((loadVar 207 ⟨gr,0,none⟩)>>=fun r=>callFunc 449 (#[r]++ #[a,b])).run Tryz.prog w:=by kernel_rfl
theorem MI (gr:Nat) (a b:Value) (w:World):(invoke (.fn (.method "Swap") #[]) (Value.iface 206 (.pointer (some ⟨gr,0,none⟩)):: [a,b]).toArray).run Tryz.prog w=((loadVar 207 ⟨gr,0,none⟩)>>=fun r=>callFunc 452 (#[r]++ #[a,b])).run Tryz.prog w:=by kernel_rfl
theorem Pk (gr:Nat) (a:Value) (w:World):(invoke (.fn (.method "Push") #[]) (Value.iface 206 (.pointer (some ⟨gr,0,none⟩)):: [a]).toArray).run Tryz.prog w= .ok (.enter 451 (Value.pointer (some ⟨gr,0,none⟩):: [a]).toArray) w:=by kernel_rfl
theorem RP (gr:Nat) (w:World):(invoke (.fn (.method "Pop") #[]) (Value.iface 206 (.pointer (some ⟨gr,0,none⟩)):: []).toArray).run Tryz.prog w= .ok (.enter 450 (Value.pointer (some ⟨gr,0,none⟩):: []).toArray) w:=by kernel_rfl
theorem Sf (x:Array Value) (w:World):(callFunc 114 x).run Tryz.prog w= .ok (.enter 114 x) w:=by kernel_rfl
theorem PK (x:Array Value) (w:World):(callFunc 449 x).run Tryz.prog w= .ok (.enter 449 x) w:=by kernel_rfl
theorem PJ (x:Array Value) (w:World):(callFunc 452 x).run Tryz.prog w= .ok (.enter 452 x) w:=by kernel_rfl
theorem KG {gr:Nat} {v:Value} {w:World} (hc:w.cell? ⟨gr,0,none⟩=some v):(invoke (.fn (.method "Len") #[]) (Value.iface 206 (.pointer (some ⟨gr,0,none⟩)):: []).toArray).run Tryz.prog w= .ok (.enter 114 (v:: []).toArray) w:=by
 rw [Pm,Sem.run_bind,eC (P:=Tryz.prog) hc,Result.andThen_ok,Sf];rfl
theorem fY {gr:Nat} {v a b:Value} {w:World} (hc:w.cell? ⟨gr,0,none⟩=some v):(invoke (.fn (.method "Less") #[]) (Value.iface 206 (.pointer (some ⟨gr,0,none⟩)):: [a,b]).toArray).run Tryz.prog w= .ok (.enter 449 (v:: [a,b]).toArray) w:=by
 rw [MJ,Sem.run_bind,eC (P:=Tryz.prog) hc,Result.andThen_ok,PK];rfl
theorem qi {gr:Nat} {v a b:Value} {w:World} (hc:w.cell? ⟨gr,0,none⟩=some v):(invoke (.fn (.method "Swap") #[]) (Value.iface 206 (.pointer (some ⟨gr,0,none⟩)):: [a,b]).toArray).run Tryz.prog w= .ok (.enter 452 (v:: [a,b]).toArray) w:=by
 rw [MI,Sem.run_bind,eC (P:=Tryz.prog) hc,Result.andThen_ok,PJ];rfl
theorem mO (A:Option Addr) (m c:Nat) (w:World):aF Tryz.prog 114 [.slice A m c] w (.int .i64 (m:Int)):=by
 refine aA Tryz.func114 rfl Tryz.ntmps114 rfl ?_;repeat' (first|refine sT ?_|refine sM fun _=>?_|refine sC ?_ ?_<;>intro hb<;>try omega|fail)
 all_goals exact bp eIO rfl rfl (.nil _) rfl
theorem tS (h:List Nat) (i j:Nat) (hi:i<h.length) (hj:j<h.length) (tv:Value) (w:World) (ht:Reads w tv h.length (nzC h)):aF Tryz.prog 449 [tv,.int .i64 (i:Int),.int .i64 (j:Int)] w (.bool (decide (atN h i<atN h j))):=by
 obtain ⟨Al,cl,rfl,hl1,hl2,hl3⟩:=ht;obtain ⟨gl,ol,rfl,hrl⟩:=hl3 (by omega);have h1:=hrl.natN i hi;have h2:=hrl.natN j hj;refine aA Tryz.func449 rfl Tryz.ntmps449 rfl ?_;repeat' (first|apply aY (d:=9);exact rfl;apply aa (j:=i);exact rfl;exact rfl;exact hi|apply aY (d:=10);exact rfl;apply bF;exact rfl;exact h1|apply aY (d:=13);exact rfl;apply aa (j:=j);exact rfl;exact rfl;exact hj|apply aY (d:=14);exact rfl;apply bF;exact rfl;exact h2|refine sT ?_|refine sQ ?_|refine sD ?_|refine sM fun _=>?_|refine sC ?_ ?_<;>intro hb<;>try omega|refine sCQ ?_ ?_<;>intro hb<;>try omega|fail)
 all_goals first
  |exact bp eIO rfl rfl (.nil _) (congrArg Value.bool (decide_eq_decide.2 (by omega)))
theorem o4 (h:List Nat) (i j:Nat) (hi:i<h.length) (hj:j<h.length) (g c:Nat) (R:List Blk) (w0:World):FnIn Tryz.prog 452 [sl (some g) h.length c,.int .i64 (i:Int),.int .i64 (j:Int)] w0 (.own (some g) 3 1 h.length c (nzC h)::R) fun v H=>v= .tuple #[]∧H= .own (some g) 3 1 h.length c (nzC (swapN h i j))::R:=by
 refine bE Tryz.func452 rfl Tryz.ntmps452 rfl ?_;have h1:=dh hi;have h2:=dh hj;refine oJ (id:=0) [7,11,13,15] [] 16 rfl rfl (MSub.nil _) ?_;repeat' (first|apply cD (i:=6);(iterate 4 exact rfl);(iterate 3 decide+kernel);apply aa (j:=j);exact rfl;exact rfl;exact hj|apply cD (i:=10);(iterate 4 exact rfl);(iterate 3 decide+kernel);apply aa (j:=i);exact rfl;exact rfl;exact hi|apply cD (i:=12);(iterate 4 exact rfl);(iterate 3 decide+kernel);apply aa (j:=i);exact rfl;exact rfl;exact hi|apply cD (i:=14);(iterate 4 exact rfl);(iterate 3 decide+kernel);apply aa (j:=j);exact rfl;exact rfl;exact hj|apply cD (i:=0);(iterate 4 exact rfl);(iterate 3 decide+kernel);exact vC|apply cD (i:=1);(iterate 4 exact rfl);(iterate 3 decide+kernel);exact vC|apply cD (i:=2);(iterate 4 exact rfl);(iterate 3 decide+kernel);exact vC|apply cD (i:=3);(iterate 4 exact rfl);(iterate 3 decide+kernel);exact vC|apply cD (i:=4);(iterate 4 exact rfl);(iterate 3 decide+kernel);exact vC|apply cD (i:=5);(iterate 4 exact rfl);(iterate 3 decide+kernel);exact vC|apply cD (i:=8);(iterate 4 exact rfl);(iterate 3 decide+kernel);exact vC|apply cD (i:=9);(iterate 4 exact rfl);(iterate 3 decide+kernel);exact vC|apply xG (i:=7) (j:=11);(iterate 6 exact rfl);decide+kernel|apply ep (i:=7);(iterate 3 exact rfl);decide+kernel|apply ep (i:=11);(iterate 3 exact rfl);decide+kernel|apply ep (i:=13);(iterate 3 exact rfl);decide+kernel|apply ep (i:=15);(iterate 3 exact rfl);decide+kernel|apply oI;decide+kernel|apply Ht;(focus (exact mS;done))|apply ai (d:=13);exact rfl;apply aq;exact rfl;exact pK;exact h2|apply ai (d:=17);exact rfl;apply aq;exact rfl;exact pK;exact h1|apply aW (g:=g);exact rfl;exact rfl;exact pK;exact rfl;(first|rw [mL];omega|rw [Wr,mL];omega)|refine sT ?_|refine sM fun _=>?_|refine sC ?_ ?_<;>intro hb<;>try omega|fail)
 all_goals first
  | (refine iO eIO rfl ?_ ⟨rfl, rfl⟩
     rw [mK,mK];exact MSub.refl _)
theorem Dy (h:List Nat) (x:Nat) (hl:h.length≤1000000) (gr:Nat) (A:Option Nat) (c:Nat) (R:List Blk) (w0:World):FnIn Tryz.prog 451 [.pointer (some ⟨gr,0,none⟩),.iface 3 (.int .i64 (x:Int))] w0 (hpB gr A c h R) fun v H=>v= .tuple #[]∧ ∃ A' c',H=hpB gr A' c' (h++ [x]) R:=by
 refine bE Tryz.func451 rfl Tryz.ntmps451 rfl ?_;unfold hpB;refine oJ (id:=0) [3,6,7,9] [] 10 rfl rfl (MSub.nil _) ?_;repeat' (first|apply cD (i:=5);(iterate 4 exact rfl);(iterate 3 decide+kernel);apply rq;exact rfl;exact rfl|apply cD (i:=2);(iterate 4 exact rfl);(iterate 3 decide+kernel);apply eO;exact rfl|apply cD (i:=8);(iterate 4 exact rfl);(iterate 3 decide+kernel);apply eO;exact rfl|apply cD (i:=0);(iterate 4 exact rfl);(iterate 3 decide+kernel);exact vC|apply cD (i:=1);(iterate 4 exact rfl);(iterate 3 decide+kernel);exact vC|apply cD (i:=4);(iterate 4 exact rfl);(iterate 3 decide+kernel);exact vC|apply xG (i:=3) (j:=6);(iterate 6 exact rfl);decide+kernel|apply ep (i:=3);(iterate 3 exact rfl);decide+kernel|apply ep (i:=6);(iterate 3 exact rfl);decide+kernel|apply ep (i:=7);(iterate 3 exact rfl);decide+kernel|apply ep (i:=9);(iterate 3 exact rfl);decide+kernel|apply oI;decide+kernel|apply Ht;(focus (exact mS;done))|apply aG;(iterate 3 exact rfl);exact pK;exact pK;exact rfl;simp [Value.oneCell'];omega;simp only [maxLen];omega;intro g8 c8|refine sT ?_|refine sM fun _=>?_|refine sC ?_ ?_<;>intro hb<;>try omega|fail)
 all_goals first
  | (refine iO eIO rfl ?_ ⟨rfl, some g8, c8, rfl⟩
     rw [Vn,Dv];exact mS)
theorem Gl (h:List Nat) (x:Nat) (gr:Nat) (A:Option Nat) (c:Nat) (R:List Blk) (w0:World):FnIn Tryz.prog 450 [.pointer (some ⟨gr,0,none⟩)] w0 (hpB gr A c (h++ [x]) R) fun v H=>v= .iface 3 (.int .i64 (x:Int))∧H=hpB gr A c h R:=by
 refine bE Tryz.func450 rfl Tryz.ntmps450 rfl ?_;unfold hpB;have hc:=dh (l:=h++ [x]) (k:=h.length) (by simp);rw [Hx] at hc;have hl:(h++ [x]).length=h.length+1:=by simp
 have htk:(nzC (h++ [x])).take (h.length*1)=nzC h:=by rw [Wd,yL,XZ]
 rw [hl];generalize nzC (h++ [x])=cs at hc htk;refine vZ (A:=A) pK fun _ hc1 hc2=> ?_;refine ba (A:=A) pK (by omega) fun g hA=> ?_;subst hA;repeat' (first|apply HP (d:=21) (m:=h.length+1);exact pK;exact XY h.length;rw [htk]|apply ai (d:=11);exact rfl;apply fE (a:=h.length+1);exact rfl;exact rfl;omega;omega|apply ai (d:=18);exact rfl;apply fE (a:=h.length+1);exact rfl;exact rfl;omega;omega|apply ai (d:=12);exact rfl;apply aa (j:=h.length);exact rfl;exact rfl;exact XH _|apply ai (d:=13);exact rfl;apply aq;exact rfl;exact pK;exact hc|apply ai (d:=19);exact rfl;apply uP (hi:=h.length);exact rfl;exact rfl;omega|apply ai (d:=22);exact rfl;apply gP;(intro m h;cases h);exact rfl|refine sT ?_|refine sN ?_|refine sM fun _=>?_|refine sC ?_ ?_<;>intro hb<;>try omega|fail)
 all_goals first
  |exact bp eIO rfl rfl mS ⟨rfl,rfl⟩
theorem Vg (j:Nat) (hj:j≤1000000):IntKind.i64.wrap (((j:Int) - 1).tdiv 2)=(((j - 1) / 2:Nat):Int):=by
 have h:((j:Int) - 1).tdiv 2=(((j - 1) / 2:Nat):Int):=by
  rcases Xc j with rfl|h0
  ·rfl
  ·have e:(j:Int) - 1=((j - 1:Nat):Int):=by omega
   rw [e]
   rfl
 rw [h];exact I64.wrap ⟨by omega,by omega⟩
theorem UD (h0:List Nat) (j0:Nat) (hj0:j0<h0.length) (hl:h0.length≤1000000) (hU:UpH (atN h0) h0.length j0) (gr:Nat) (A:Option Nat) (c:Nat) (R:List Blk) (w0:World):FnIn Tryz.prog 180 [hpV gr,.int .i64 (j0:Int)] w0 (hpB gr A c h0 R) fun v H=>v= .tuple #[]∧ ∃ h',h'.Perm h0∧HpF (atN h') h'.length∧H=hpB gr A c h' R:=by
 refine bE Tryz.func180 rfl Tryz.ntmps180 rfl ?_;unfold hpB;refine ba (A:=A) pK (by omega) fun g hA=> ?_;subst hA;repeat' (first|refine zZB ?_|refine sM fun _=>?_|refine sC ?_ ?_<;>intro hb<;>try omega|fail)
 refine ay [0] rfl (fun y:List Nat × Nat=> [(1,.int .i64 (y.2:Int))]) (fun y=> .box gr 207 [sl (some g) h0.length c]:: .own (some g) 3 1 h0.length c (nzC y.1)::R) (fun y=>y.1.length=h0.length∧y.1.Perm h0∧y.2<h0.length∧UpH (atN y.1) h0.length y.2) (fun y=>y.2) (h0,j0) ⟨rfl,.refl _,hj0,hU⟩ sB mS ?_;clear hU hj0;rintro ⟨h,j⟩ ⟨hlen,hp,hj,hU⟩;dsimp only at hlen hp hj hU ⊢;have hq:=Vg j (by omega);by_cases hz:j=0
 ·subst hz;have hfin:=hU.done (.inl rfl);repeat' (first|apply ai (d:=6);exact rfl;apply Bi;exact rfl;exact rfl;exact ⟨by omega,by omega⟩|apply ai (d:=7);exact rfl;apply ku (c:=0);exact rfl;exact rfl;decide;exact hq|refine zZB ?_|refine sM fun _=>?_|refine sC ?_ ?_<;>intro hb<;>try omega|fail)
  all_goals first
   |omega
   |exact iO eIO rfl (by rw [← hlen];exact mS) ⟨rfl,h,hp,by rw [hlen];exact hfin,rfl⟩
 ·have hpj:(j - 1) / 2<j:=by omega
  have hne: ¬ ((((j - 1) / 2:Nat):Int)=(j:Int)):=by omega
  have hstep:=hU.step (by omega) hj;have hdone:=fun hd:atN h ((j - 1) / 2)≤atN h j=>hU.done (.inr hd);generalize (j - 1) / 2=i at hq hpj hne hstep hdone;have hless:=fun (w' :World) (H:List Blk) (hm:Mem w0 w' H) (hin:In (.own (some g) 3 1 h0.length c (nzC h)) H)=>tS h j i (by omega) (by omega) (sl (some g) h0.length c) w' (by rw [hlen];exact Reads.of_own hm hin);have hswap:=fun R' =>o4 h i j (by omega) (by omega) g c R' w0;rw [hlen] at hswap;by_cases hlt:atN h j<atN h i
  ·have hs2:=hstep hlt;rw [← Fh (by omega) (by omega)] at hs2;rw [decide_eq_true hlt] at hless;repeat' (first|apply ai (d:=6);exact rfl;apply Bi;exact rfl;exact rfl;exact ⟨by omega,by omega⟩|apply ai (d:=7);exact rfl;apply ku (c:=(i:Int));exact rfl;exact rfl;decide;exact hq|apply cY (d:=15) (f:=449);(iterate 3 exact rfl);intro w' hm;exact fY (hm.hp pK);intro w' hm;exact hless w' _ hm pK|apply gO (d:=21) (f:=452);(iterate 3 exact rfl);intro w' hm;exact qi (hm.hp pK);exact FnIn.msub (hswap _) (MSub.pick pK (MSub.refl _));rintro _ _ ⟨rfl,rfl⟩|refine zZB ?_|refine sM fun _=>?_|refine sC ?_ ?_<;>intro hb<;>try omega|fail)
   all_goals first
    |omega
    |refine ⟨(swapN h i j,i),⟨by dsimp only;rw [uV];exact hlen,(rW (by omega) (by omega)).trans hp,by dsimp only;omega,hs2⟩,by dsimp only;omega,by exact sB,by exact sB,by exact mS⟩;done
  ·have hfin:=hdone (by omega);rw [decide_eq_false hlt] at hless;repeat' (first|apply ai (d:=6);exact rfl;apply Bi;exact rfl;exact rfl;exact ⟨by omega,by omega⟩|apply ai (d:=7);exact rfl;apply ku (c:=(i:Int));exact rfl;exact rfl;decide;exact hq|apply cY (d:=15) (f:=449);(iterate 3 exact rfl);intro w' hm;exact fY (hm.hp pK);intro w' hm;exact hless w' _ hm pK|refine zZB ?_|refine sM fun _=>?_|refine sC ?_ ?_<;>intro hb<;>try omega|fail)
   all_goals first
    |omega
    |exact iO eIO rfl (by rw [← hlen];exact mS) ⟨rfl,h,hp,by rw [hlen];exact hfin,rfl⟩
theorem KX (h:List Nat) (x:Nat) (hl:h.length≤100000) (hH:HpF (atN h) h.length) (gr:Nat) (A:Option Nat) (c:Nat) (R:List Blk) (w0:World):FnIn Tryz.prog 112 [hpV gr,.iface 3 (.int .i64 (x:Int))] w0 (hpB gr A c h R) fun v H=>v= .tuple #[]∧ ∃ A' c' h',h'.Perm (x::h)∧HpF (atN h') h'.length∧H=hpB gr A' c' h' R:=by
 refine bE Tryz.func112 rfl Tryz.ntmps112 rfl ?_;have hup:=fun A' c' =>UD (h++ [x]) h.length (by simp) (by simp;omega) (by rw [Vn];exact NY hH) gr A' c' R w0;have hl1:(h++ [x]).length=h.length+1:=by simp
 repeat' first|apply gO (d:=6) (f:=451);(iterate 3 exact rfl);intro w' _;exact Pk gr _ w';exact Dy h x (by omega) gr A c R w0;rintro _ _ ⟨rfl,A',c',rfl⟩|apply cY (d:=9) (f:=114);(iterate 3 exact rfl);intro w' hm;exact KG (hm.hp .hd);intro w' _;exact mO _ _ _ w';rw [hl1]|apply ai (d:=10);exact rfl;apply fE (a:=h.length+1);exact rfl;exact rfl;omega;simp only [maxLen];omega|apply ak (f:=180);exact rfl;exact rfl;exact hup _ _;rintro _ _ ⟨rfl,h',hp,hh,rfl⟩|refine sT ?_|refine sM fun _=>?_|refine sC ?_ ?_<;>intro hb<;>try omega|fail
 all_goals first
  |exact iO eIO rfl (MSub.refl _) ⟨rfl,_,_,h',hp.trans (VV (l₁:=h) (l₂:= [x])),hh,rfl⟩
theorem rU {P:Program} {w0:World} {s:aC} {H:List Blk} {ty:TypeId} {x y:Operand} {i:Nat} {t t' :TypeId} (hx:ev s x=some (.int .i64 2)) (hy:ev s y=some (.int .i64 (i:Nat))) (hi:i≤1000000):VOp P w0 s H (.binOp .mul t x y t') ty (.int .i64 ((2*i:Nat):Int)):=by
 rw [Int.natCast_mul];exact Bk hx hy ⟨by omega,by omega⟩
theorem Sh (h0:List Nat) (n:Nat) (hn:n<h0.length) (hl:h0.length≤1000000) (hD:DnH (atN h0) n 0) (gr:Nat) (A:Option Nat) (c:Nat) (R:List Blk) (w0:World):FnIn Tryz.prog 181 [hpV gr,.int .i64 0,.int .i64 (n:Int)] w0 (hpB gr A c h0 R) fun v H=> ∃ h',h'.Perm h0∧HpF (atN h') n∧atN h' n=atN h0 n∧h'.length=h0.length∧H=hpB gr A c h' R:=by
 refine bE Tryz.func181 rfl Tryz.ntmps181 rfl ?_;unfold hpB;refine ba (A:=A) pK (by omega) fun g hA=> ?_;subst hA;repeat' (first|refine zZB ?_|refine sM fun _=>?_|refine sC ?_ ?_<;>intro hb<;>try omega|fail)
 refine ay [0,1,2] rfl (fun y:List Nat × Nat=> [(7,.int .i64 (y.2:Int))]) (fun y=> .box gr 207 [sl (some g) h0.length c]:: .own (some g) 3 1 h0.length c (nzC y.1)::R) (fun y=>y.1.length=h0.length∧y.1.Perm h0∧y.2≤n∧DnH (atN y.1) n y.2∧atN y.1 n=atN h0 n) (fun y=>n - y.2) (h0,0) ⟨rfl,.refl _,Vt _,hD,rfl⟩ sB mS ?_;clear hD;rintro ⟨h,i⟩ ⟨hlen,hp,hi,hD,hnn⟩;dsimp only at hlen hp hi hD hnn ⊢;by_cases hz:n≤2*i+1
 ·have hfin:=hD.done (fun c h1 h2 h3=>by omega);repeat' (first|apply ai (d:=13);exact rfl;apply rU;exact rfl;exact rfl;omega|refine zZA ?_|refine sM fun _=>?_|refine sC ?_ ?_<;>intro hb<;>try omega|fail)
  all_goals first
   |omega
   |exact bp eIO rfl rfl (by rw [← hlen];exact mS) ⟨h,hp,hfin,hnn,hlen,rfl⟩
 ·have hless:=fun (a b:Nat) (ha:a<n) (hb' :b<n) (w' :World) (H:List Blk) (hm:Mem w0 w' H) (hin:In (.own (some g) 3 1 h0.length c (nzC h)) H)=>tS h a b (by omega) (by omega) (sl (some g) h0.length c) w' (by rw [hlen];exact Reads.of_own hm hin);have hswap:=fun (j:Nat) (hj:j<n) R' =>o4 h i j (by omega) (by omega) g c R' w0;rw [hlen] at hswap;have hin2:i<n:=by omega
  -- the child that is taken
  have hgo: ∀ j,j=2*i+1∨j=2*i+2→j<n→(∀ c,0<c→c<n→(c - 1) / 2=i→atN h j≤atN h c)→atN h j<atN h i→(swapN h i j).length=h0.length∧(swapN h i j).Perm h0∧j≤n∧DnH (atN (swapN h i j)) n j∧atN (swapN h i j) n=atN h0 n:=fun j hj hjn hmin hl' =>by
   have h1:=hD.step (j:=j) (by omega) hjn (by omega) hmin hl';rw [← Fh (by omega) (by omega)] at h1;refine ⟨by rw [uV];exact hlen,(rW (by omega) (by omega)).trans hp,by omega,h1,?_⟩;rw [x6 (by omega) (by omega)];unfold nK;rw [if_neg (by omega),if_neg (by omega)];exact hnn
  have hstop: ∀ j,(∀ c,0<c→c<n→(c - 1) / 2=i→atN h j≤atN h c)→ ¬ atN h j<atN h i→HpF (atN h) n:=fun j hmin hge=>hD.done fun c h1 h2 h3=>VR (by omega) (hmin c h1 h2 h3);have hc3: ∀ c,0<c→(c - 1) / 2=i→c=2*i+1∨c=2*i+2:=fun c h1 h2=>by omega
  by_cases h2:2*i+2<n
  ·have hL1:=hless (2*i+1+1) (2*i+1) (by omega) (by omega);by_cases h12:atN h (2*i+1+1)<atN h (2*i+1)
   ·rw [decide_eq_true h12] at hL1;have hmin: ∀ c,0<c→c<n→(c - 1) / 2=i→atN h (2*i+1+1)≤atN h c:=fun c h1 _ h3=>by
     rcases hc3 c h1 h3 with rfl|rfl
     ·omega
     ·exact VA _
    have hL2:=hless (2*i+1+1) i (by omega) (by omega);by_cases hlt:atN h (2*i+1+1)<atN h i
    ·rw [decide_eq_true hlt] at hL2;have hnew:=hgo (2*i+1+1) (.inr rfl) h2 hmin hlt;repeat' (first|apply ai (d:=13);exact rfl;apply rU;exact rfl;exact rfl;omega|apply cY (d:=32) (f:=449);(iterate 3 exact rfl);intro w' hm;exact fY (hm.hp pK);intro w' hm;exact hL1 w' _ hm pK|apply cY (d:=38) (f:=449);(iterate 3 exact rfl);intro w' hm;exact fY (hm.hp pK);intro w' hm;exact hL2 w' _ hm pK|apply gO (d:=43) (f:=452);(iterate 3 exact rfl);intro w' hm;exact qi (hm.hp pK);exact FnIn.msub (hswap _ h2 _) (MSub.pick pK (MSub.refl _));rintro _ _ ⟨rfl,rfl⟩|refine zZA ?_|refine sM fun _=>?_|refine sC ?_ ?_<;>intro hb<;>try omega|fail)
     all_goals first
      |omega
      |refine ⟨(swapN h i (2*i+1+1),2*i+1+1),hnew,by dsimp only;omega,by exact sB,by exact sB,by exact mS⟩;done
    ·rw [decide_eq_false hlt] at hL2;have hfin:=hstop _ hmin hlt;repeat' (first|apply ai (d:=13);exact rfl;apply rU;exact rfl;exact rfl;omega|apply cY (d:=32) (f:=449);(iterate 3 exact rfl);intro w' hm;exact fY (hm.hp pK);intro w' hm;exact hL1 w' _ hm pK|apply cY (d:=38) (f:=449);(iterate 3 exact rfl);intro w' hm;exact fY (hm.hp pK);intro w' hm;exact hL2 w' _ hm pK|refine zZA ?_|refine sM fun _=>?_|refine sC ?_ ?_<;>intro hb<;>try omega|fail)
     all_goals first
      |omega
      |exact bp eIO rfl rfl (by rw [← hlen];exact mS) ⟨h,hp,hfin,hnn,hlen,rfl⟩
   ·rw [decide_eq_false h12] at hL1;have hmin: ∀ c,0<c→c<n→(c - 1) / 2=i→atN h (2*i+1)≤atN h c:=fun c h1 _ h3=>by
     rcases hc3 c h1 h3 with rfl|rfl
     ·exact VA _
     ·exact Nat.le_of_not_lt h12
    have hL2:=hless (2*i+1) i (by omega) (by omega);by_cases hlt:atN h (2*i+1)<atN h i
    ·rw [decide_eq_true hlt] at hL2;have hnew:=hgo (2*i+1) (.inl rfl) (by omega) hmin hlt;repeat' (first|apply ai (d:=13);exact rfl;apply rU;exact rfl;exact rfl;omega|apply cY (d:=32) (f:=449);(iterate 3 exact rfl);intro w' hm;exact fY (hm.hp pK);intro w' hm;exact hL1 w' _ hm pK|apply cY (d:=38) (f:=449);(iterate 3 exact rfl);intro w' hm;exact fY (hm.hp pK);intro w' hm;exact hL2 w' _ hm pK|apply gO (d:=43) (f:=452);(iterate 3 exact rfl);intro w' hm;exact qi (hm.hp pK);exact FnIn.msub (hswap (2*i+1) (by omega) _) (MSub.pick pK (MSub.refl _));rintro _ _ ⟨rfl,rfl⟩|refine zZA ?_|refine sM fun _=>?_|refine sC ?_ ?_<;>intro hb<;>try omega|fail)
     all_goals first
      |omega
      |refine ⟨(swapN h i (2*i+1),2*i+1),hnew,by dsimp only;omega,by exact sB,by exact sB,by exact mS⟩;done
    ·rw [decide_eq_false hlt] at hL2;have hfin:=hstop _ hmin hlt;repeat' (first|apply ai (d:=13);exact rfl;apply rU;exact rfl;exact rfl;omega|apply cY (d:=32) (f:=449);(iterate 3 exact rfl);intro w' hm;exact fY (hm.hp pK);intro w' hm;exact hL1 w' _ hm pK|apply cY (d:=38) (f:=449);(iterate 3 exact rfl);intro w' hm;exact fY (hm.hp pK);intro w' hm;exact hL2 w' _ hm pK|refine zZA ?_|refine sM fun _=>?_|refine sC ?_ ?_<;>intro hb<;>try omega|fail)
     all_goals first
      |omega
      |exact bp eIO rfl rfl (by rw [← hlen];exact mS) ⟨h,hp,hfin,hnn,hlen,rfl⟩
  ·have hmin: ∀ c,0<c→c<n→(c - 1) / 2=i→atN h (2*i+1)≤atN h c:=fun c h1 h4 h3=>by
    rcases hc3 c h1 h3 with rfl|rfl
    ·exact VA _
    ·omega
   have hL2:=hless (2*i+1) i (by omega) (by omega);by_cases hlt:atN h (2*i+1)<atN h i
   ·rw [decide_eq_true hlt] at hL2;have hnew:=hgo (2*i+1) (.inl rfl) (by omega) hmin hlt;repeat' (first|apply ai (d:=13);exact rfl;apply rU;exact rfl;exact rfl;omega|apply cY (d:=38) (f:=449);(iterate 3 exact rfl);intro w' hm;exact fY (hm.hp pK);intro w' hm;exact hL2 w' _ hm pK|apply gO (d:=43) (f:=452);(iterate 3 exact rfl);intro w' hm;exact qi (hm.hp pK);exact FnIn.msub (hswap (2*i+1) (by omega) _) (MSub.pick pK (MSub.refl _));rintro _ _ ⟨rfl,rfl⟩|refine zZA ?_|refine sM fun _=>?_|refine sC ?_ ?_<;>intro hb<;>try omega|fail)
    all_goals first
     |omega
     |refine ⟨(swapN h i (2*i+1),2*i+1),hnew,by dsimp only;omega,by exact sB,by exact sB,by exact mS⟩;done
   ·rw [decide_eq_false hlt] at hL2;have hfin:=hstop _ hmin hlt;repeat' (first|apply ai (d:=13);exact rfl;apply rU;exact rfl;exact rfl;omega|apply cY (d:=38) (f:=449);(iterate 3 exact rfl);intro w' hm;exact fY (hm.hp pK);intro w' hm;exact hL2 w' _ hm pK|refine zZA ?_|refine sM fun _=>?_|refine sC ?_ ?_<;>intro hb<;>try omega|fail)
    all_goals first
     |omega
     |exact bp eIO rfl rfl (by rw [← hlen];exact mS) ⟨h,hp,hfin,hnn,hlen,rfl⟩
theorem Ul (h:List Nat) (h0:0<h.length) (hl:h.length≤100000) (hH:HpF (atN h) h.length) (gr:Nat) (A:Option Nat) (c:Nat) (R:List Blk) (w0:World):FnIn Tryz.prog 115 [hpV gr] w0 (hpB gr A c h R) fun v H=> ∃ (x:Nat) (h' :List Nat),v= .iface 3 (.int .i64 (x:Int))∧x∈h∧(∀ y∈h,x≤y)∧h.Perm (x::h')∧HpF (atN h') h'.length∧H=hpB gr A c h' R:=by
 refine bE Tryz.func115 rfl Tryz.ntmps115 rfl ?_;obtain ⟨n,hn⟩: ∃ n,h.length=n+1:=⟨h.length - 1,by omega⟩;have hsw:=uV h 0 n;have hswp:=rW (L:=h) (i:=0) (j:=n) (by omega) (by omega);have hat: ∀ k,atN (swapN h 0 n) k=nK (atN h) 0 n k:=x6 (by omega) (by omega);have hDn:DnH (atN (swapN h 0 n)) n 0:=by
  rw [hn] at hH;refine hH.pop fun i h1 h2=> ?_;rw [hat];unfold nK;rw [if_neg (by omega),if_neg (by omega)]
 have hx:atN (swapN h 0 n) n=atN h 0:=by
  rw [hat];unfold nK;by_cases e:n=0
  ·rw [if_pos e,e]
  ·rw [if_neg e,if_pos rfl]
 have hdown:=Sh (swapN h 0 n) n (by omega) (by omega) hDn gr A c R w0;unfold hpB;refine ba (A:=A) pK h0 fun g hA=> ?_;subst hA;have hswap:=fun R' =>o4 h 0 n h0 (by omega) g c R' w0;unfold hpB at hdown;rw [hsw,hn] at hdown;rw [hn] at hswap ⊢;repeat' (first|apply cY (d:=5) (f:=114);(iterate 3 exact rfl);intro w' hm;exact KG (hm.hp .hd);intro w' _;exact mO _ _ _ w'|apply ai (d:=6);exact rfl;apply fE (a:=n+1);exact rfl;exact rfl;omega;simp only [maxLen];omega;rw [X5]|apply gO (d:=9) (f:=452);(iterate 3 exact rfl);intro w' hm;exact qi (hm.hp pK);exact FnIn.msub (hswap _) (MSub.pick pK (MSub.refl _));rintro _ _ ⟨rfl,rfl⟩|apply ak (f:=181);exact rfl;exact rfl;exact FnIn.msub hdown mS;rintro b4 _ ⟨h',hp',hh',hn',hl',rfl⟩|refine sT ?_|refine sM fun _=>?_|refine sC ?_ ?_<;>intro hb<;>try omega|fail)
 all_goals first
  | (have hnl : h'.length = n + 1 := by omega
     have htl:(h'.take n).length=n:=by rw [VQ];omega
     have hsplit:h' =h'.take n++ [atN h 0]:=by
      have h1:=Wh n h';have h2:h'.drop n= [atN h' n]:=by
       rw [Vy (by omega),YW (by omega),eE (by omega)]
      rw [h2,hn',hx] at h1;exact h1.symm
     have hpop:=Gl (h'.take n) (atN h 0) gr (some g) c R w0;rw [← hsplit] at hpop;have hpm:h.Perm (atN h 0::h'.take n):=by
      refine (hp'.trans hswp).symm.trans ?_;conv=>lhs;rw [hsplit]
      exact VV (l₂:= [atN h 0])
     have hhp:HpF (atN (h'.take n)) (h'.take n).length:=by
      rw [htl];intro k hk1 hk2;have e1: ∀ m,m<n→atN (h'.take n) m=atN h' m:=fun m hm=>by
       unfold atN;rw [Yo,if_pos hm]
      rw [e1 _ (by omega),e1 _ hk2];exact hh' k hk1 hk2
     have hmn: ∀ y∈h,atN h 0≤y:=fun y hy=>by
      obtain ⟨k,hk,rfl⟩:=WM.1 hy;rw [← eE hk];exact hH.min k hk
     refine gO (d:=14) (f:=450) rfl rfl rfl (fun w' _=>RP gr w') (FnIn.msub hpop (by unfold hpB;exact mS)) ?_;rintro _ _ ⟨rfl,rfl⟩;repeat' (first|refine sT ?_|refine sM fun _=>?_|refine sC ?_ ?_<;>intro hb<;>try omega|fail)
     all_goals first
      |exact bp eIO rfl rfl (MSub.refl _) ⟨atN h 0,h'.take n,rfl,dM h0,hmn,hpm,hhp,rfl⟩
      )
end Go.SL
