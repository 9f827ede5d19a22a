/-
  Lemmas and walks, put together: Rf Ra Ri Ze G2 Rg Rh Rj Rk Ro Yd.
-/
import Derived.Test.YtfeicpjdgjflaaaGreatDoorKv20
import Derived.Test.YtfeicpjdgjflaaaGreatDoorKv26
set_option linter.unusedSimpArgs false
set_option linter.unusedVariables false
set_option maxRecDepth 20000
set_option maxHeartbeats 16000000
namespace Go.SL
open Go Go.Proofs
theorem BL (w:World):Reads w (.slice none 0 0) 0 []:=⟨none,0,rfl,VA _,Vt _,fun h=>absurd h (W0 0)⟩
attribute [local irreducible] W WL WQ WG WA WX WLI WR WT WC WE VOp RW thn blk bg scp aS aV bi FnAt FnIn FnP ceP
theorem lH (r:Rct):(bz r).length=4:=rfl
def gF (at_:List Rf) (l:List Rct):Int:=if at_.all (fun a=>a.valid) && l.all bW then 0 else 3
theorem IU (r:Rct):jr r=0↔bW r=true:=by
 have:=FN (r:=r);cases h:bW r
 ·rw [h] at this;simp only [iff_true,V2,iff_false] at this ⊢;exact this
 ·rw [h] at this;simpa using this
theorem CD (g:Nat) (A:List Rf) (L:List Rct) (av lv:Value) (w:World) (ha:Reads w av A.length (A.flatMap aw)) (hl:Reads w lv L.length (L.flatMap bz)) (hA:A.length≤1000000) (hL:L.length≤1000000):
 aF Tryz.prog 74 [.pointer (some ⟨g,0,none⟩),av,lv] w (.int .i64 (gF A L)):=by
 obtain ⟨Aa,ca,rfl,ha1,ha2,ha3⟩:=ha;obtain ⟨Al,cl,rfl,hl1,hl2,hl3⟩:=hl;refine aA Tryz.func74 rfl Tryz.ntmps74 rfl ?_;repeat' (first|refine zZB ?_|refine sM fun _=>?_|refine sC ?_ ?_<;>intro hb<;>try omega|fail)
 refine ay [2,13,14] rfl (fun i:Nat=> [(15,.int .i64 (i:Int))]) (fun _=> []) (fun i=>i≤A.length∧A.all (fun a=>a.valid)=(A.drop i).all (fun a=>a.valid)) (fun i=>A.length - i) 0 ⟨Vt _,rfl⟩ sB (MSub.refl _) ?_;rintro i ⟨hi,hrec⟩;by_cases hlt:i<A.length
 ·obtain ⟨gl,ol,rfl,hrl⟩:=ha3 (by omega);have he:=hrl.elem bS i hlt;rw [Vy hlt,XM] at hrec;generalize A[i]=a at he hrec;have hV: ∀ w',aF Tryz.prog 90 [.agg (aw a).toArray] w' (.bool a.valid):=fun w' =>nH a.col a.row w';generalize a.valid=b at hV hrec;repeat' (first|apply ai;exact rfl;apply aa (j:=i);exact rfl;exact rfl;exact hlt|apply ai;exact rfl;apply bC;exact rfl;exact he;exact rfl|apply ag;exact rfl;exact rfl;intro w hm;exact hV w|refine zZA ?_|refine sM fun _=>?_|refine sC ?_ ?_<;>intro hb<;>try omega|fail)
  all_goals first
   |omega
   |refine bp eIO rfl rfl (.nil _) ?_;rw [gF,hrec];simp_all;done
   |refine ⟨i+1,⟨hlt,?_⟩,by omega,by exact sB,by exact sB,MSub.nil _⟩;simp_all;done
 ·rw [YW (show A.length≤i by omega)] at hrec;repeat' (first|refine zZA ?_|refine sM fun _=>?_|refine sC ?_ ?_<;>intro hb<;>try omega|fail)
  all_goals try omega
  refine ay [23,24] rfl (fun i:Nat=> [(25,.int .i64 (i:Int))]) (fun _=> []) (fun i=>i≤L.length∧L.all bW=(L.drop i).all bW) (fun i=>L.length - i) 0 ⟨Vt _,rfl⟩ sB (MSub.nil _) ?_;rintro i ⟨hi,hrec2⟩;by_cases hlt:i<L.length
  ·obtain ⟨gl,ol,rfl,hrl⟩:=hl3 (by omega);have he:=hrl.elem He i hlt;rw [Vy hlt,XM] at hrec2;generalize L[i]=r at he hrec2;have hV:=fun w' =>lh r w';have hz:=IU r;generalize jr r=re at hV hz;generalize bW r=b at hz hrec2;repeat' (first|apply ai;exact rfl;apply aa (j:=i);exact rfl;exact rfl;exact hlt|apply ai;exact rfl;apply bC;exact rfl;exact he;exact rfl|apply ag;exact rfl;exact rfl;intro w hm;exact hV w|refine zZA ?_|refine sM fun _=>?_|refine sC ?_ ?_<;>intro hb<;>try omega|fail)
   all_goals first
    |omega
    |refine bp eIO rfl rfl (.nil _) ?_;rw [gF,hrec,hrec2];simp_all;done
    |refine ⟨i+1,⟨hlt,?_⟩,by omega,by exact sB,by exact sB,MSub.nil _⟩;simp_all;done
  ·rw [YW (show L.length≤i by omega)] at hrec2;repeat' (first|refine zZA ?_|refine sM fun _=>?_|refine sC ?_ ?_<;>intro hb<;>try omega|fail)
   all_goals first
    |omega
    |refine bp eIO rfl rfl (.nil _) ?_;rw [gF,hrec,hrec2];rfl
theorem UT {L:List Rct} {k:Nat} (h:k<L.length):((L.flatMap bz).drop (0+k*4)).take 4=bz L[k]:=by
 rw [VD];exact cj lH L k h
theorem SS {L:List Rct} {a k:Nat} (h:a+k<L.length):((L.flatMap bz).drop (a*4+k*4)).take 4=bz L[a+k]:=by
 rw [← Xm];exact cj lH L (a+k) h
theorem J0 (L:List Rct) (A:Option Nat) (cap:Nat) (hL:L.length≤1000000) (R:List Blk) (w0:World):
 FnIn Tryz.prog 128 [sl A L.length cap] w0 (.own A 53 4 L.length cap (L.flatMap bz)::R) fun v H=>v=sl A (jz L).length cap∧H= .own A 53 4 (jz L).length cap ((jz L).flatMap bz)::R:=by
 refine bE Tryz.func128 rfl Tryz.ntmps128 rfl ?_;refine QB (A:=A) .hd fun hle=> ?_;by_cases h2:L.length<2
 ·have hc:=Hn (L:=L) (by omega);repeat' (first|refine zZA ?_|refine sM fun _=>?_|refine sC ?_ ?_<;>intro hb<;>try omega|fail)
  all_goals first
   |omega
   |refine bp eIO rfl rfl (.refl _) ?_;rw [hc];exact ⟨rfl,rfl⟩
 ·refine ba (A:=A) .hd (by omega) fun g hA=> ?_;subst hA;repeat' (first|refine zZA ?_|refine sM fun _=>?_|refine sC ?_ ?_<;>intro hb<;>try omega|fail)
  all_goals try omega
  refine ay [0] rfl (fun k:Nat=> [(3,.int .i64 (k:Int))]) (fun _=> .own (some g) 53 4 L.length cap (L.flatMap bz)::R) (fun k=>1≤k∧k≤L.length∧jz (L.take k)=L.take k) (fun k=>L.length - k) 1 ⟨VA _,by omega,Hn (by rw [VQ];omega)⟩ sB mS ?_;rintro k ⟨hk1,hk,hck⟩;by_cases hlt:k<L.length
  ·have hr1:=UT hlt;have hr2:=UT (L:=L) (k:=k - 1) (by omega);have hst:=Cz hlt hk1;have htk:L.take (k+1)=L.take k++ [L[k]]:=by rw [Vu hlt]
   obtain ⟨c,hc⟩: ∃ c,decide (L[k]=L[k - 1])=c:=⟨_,rfl⟩
   cases c with
   |false=>
     have hne: ¬ L[k]=L[k - 1]:=by simpa using hc
     rw [if_neg hne,hck,← htk] at hst;repeat' (first|apply aY;exact rfl;apply fE;exact rfl;exact rfl;omega;simp only [maxLen];omega|apply aY;exact rfl;apply aa (j:=k);exact rfl;exact rfl;omega|apply aY;exact rfl;apply aa (j:=k - 1);exact rfl;exact rfl;omega|apply aY;exact rfl;apply aD;exact rfl;exact pK;(first|exact hr1|exact hr2);exact rfl|apply aY;exact rfl;apply Bn hc;exact rfl;exact rfl|refine zZG ?_|refine sM fun _=>?_|refine sC ?_ ?_<;>intro hb<;>try omega|refine sCQ ?_ ?_<;>intro hb<;>try omega|fail)
     all_goals first
      |omega
      |refine ⟨k+1,⟨by omega,hlt,hst⟩,by omega,by exact sB,by exact sB,by exact mS⟩;done
   |true=>
     have hne:L[k]=L[k - 1]:=by simpa using hc
     rw [if_pos hne,hck] at hst;repeat' (first|apply aY;exact rfl;apply fE;exact rfl;exact rfl;omega;simp only [maxLen];omega|apply aY;exact rfl;apply aa (j:=k);exact rfl;exact rfl;omega|apply aY;exact rfl;apply aa (j:=k - 1);exact rfl;exact rfl;omega|apply aY;exact rfl;apply aD;exact rfl;exact pK;(first|exact hr1|exact hr2);exact rfl|apply aY;exact rfl;apply Bn hc;exact rfl;exact rfl|apply ai;exact rfl;apply uO (lo:=k);exact rfl;exact rfl;omega;exact hle|refine zZG ?_|refine sM fun _=>?_|refine sC ?_ ?_<;>intro hb<;>try omega|refine sCQ ?_ ?_<;>intro hb<;>try omega|fail)
     all_goals try omega
     refine ay [0,4] rfl (fun y:Nat × Nat × List Rct=> [(5,.int .i64 (y.1:Int)),(3,.int .i64 (y.2.1:Int))]) (fun y=> .own (some g) 53 4 L.length cap (y.2.2.flatMap bz)::R) (fun y=>1≤y.1∧k+y.1≤L.length∧y.2.1+1≤k+y.1∧y.2.2.length=L.length∧y.2.2.take y.2.1=jz (L.take (k+y.1))∧ ∀ j,k+y.1≤j+1→y.2.2[j]? =L[j]?) (fun y=>L.length - y.1) (1,k,L) ⟨VA _,by omega,VA _,rfl,hst.symm,fun _ _=>rfl⟩ sB mS ?_;rintro ⟨i,k',ys⟩ ⟨hi1,hi2,hi3,hi4,hi5,hi6⟩;dsimp only at hi1 hi2 hi3 hi4 hi5 hi6 ⊢;by_cases hli:k+i<L.length
     ·have hy1:k+i<ys.length:=by omega
      have hr3:=SS (L:=ys) (a:=k) (k:=i) hy1;have hr4:=SS (L:=ys) (a:=k) (k:=i - 1) (by omega);have he1:ys[k+i]=L[k+i]:=by
       have:=hi6 (k+i) (by omega);rw [Vo hy1,Vo hli] at this;exact Option.some.inj this
      have he2:ys[k+(i - 1)]=L[k+i - 1]:=by
       have:=hi6 (k+(i - 1)) (by omega);rw [Vo (by omega),Vo (by omega)] at this;rw [Option.some.inj this];congr 1;omega
      rw [he1] at hr3;rw [he2] at hr4;have hst2:=Cz hli (by omega);obtain ⟨c,hc2⟩: ∃ c,decide (L[k+i]=L[k+i - 1])=c:=⟨_,rfl⟩
      cases c with
      |true=>
        rw [if_pos (by simpa using hc2)] at hst2;repeat' (first|apply aY;exact rfl;apply fE;exact rfl;exact rfl;omega;simp only [maxLen];omega|apply aY;exact rfl;apply aa (j:=i);exact rfl;exact rfl;omega|apply aY;exact rfl;apply aa (j:=i - 1);exact rfl;exact rfl;omega|apply aY;exact rfl;apply aD;exact rfl;exact pK;(first|exact hr3|exact hr4);exact rfl|apply aY;exact rfl;apply Bj hc2;exact rfl;exact rfl|refine zZG ?_|refine sM fun _=>?_|refine sC ?_ ?_<;>intro hb<;>try omega|refine sCQ ?_ ?_<;>intro hb<;>try omega|fail)
        all_goals first
         |omega
         |refine ⟨(i+1,k',ys),⟨by dsimp only;omega,by dsimp only;omega,by dsimp only;omega,hi4,by dsimp only;rw [hi5,← Nat.add_assoc,hst2],fun j hj=>hi6 j (by omega)⟩,by dsimp only;omega,by exact sB,by exact sB,by exact mS⟩;done
      |false=>
        rw [if_neg (by simpa using hc2)] at hst2;have hput:=Pz lH ys k' (by omega) L[k+i];repeat' (first|apply aY;exact rfl;apply fE;exact rfl;exact rfl;omega;simp only [maxLen];omega|apply aY;exact rfl;apply aa (j:=i);exact rfl;exact rfl;omega|apply aY;exact rfl;apply aa (j:=i - 1);exact rfl;exact rfl;omega|apply aY;exact rfl;apply aD;exact rfl;exact pK;(first|exact hr3|exact hr4);exact rfl|apply aY;exact rfl;apply Bj hc2;exact rfl;exact rfl|apply ai (d:=49);exact rfl;apply aa (j:=i);exact rfl;exact rfl;omega|apply ai (d:=51);exact rfl;apply aa (j:=k');exact rfl;exact rfl;omega|apply ai;exact rfl;apply aD;exact rfl;exact pK;exact hr3;exact rfl|apply lL (vs:=bz L[k+i]) (off:=0+k' *4);exact rfl;exact rfl;exact pK;exact rfl;exact rfl;(intro u hu;simp [bz] at hu;rcases hu with rfl|rfl|rfl|rfl<;>rfl);rw [bh lH,hi4];omega;rw [VD,hput]|refine zZG ?_|refine sM fun _=>?_|refine sC ?_ ?_<;>intro hb<;>try omega|refine sCQ ?_ ?_<;>intro hb<;>try omega|fail)
        all_goals first
         |omega
         | (refine ⟨(i + 1, k' + 1, ys.set k' L[k + i]), ⟨by dsimp only; omega, by dsimp only; omega, by dsimp only; omega, by dsimp only; rw [List.length_set, hi4], ?_, fun j hj => ?_⟩, by dsimp only; omega, by exact sB, by exact sB, by exact mS⟩
            ·dsimp only;rw [Vu (by rw [Wr];omega),List.take_set_of_le (VA _),hi5,List.getElem_set_self,← WF,hst2]
            ·dsimp only at hj ⊢;rw [List.getElem?_set_ne (by omega)];exact hi6 j (by omega))
     ·have hli2:k+i=L.length:=by omega
      rw [hli2,V1] at hi5;have hcl:(jz L).length=k' :=by rw [← hi5,VQ,hi4];omega
      have hk'L:k' <L.length:=by omega
      repeat' first|apply ai;exact rfl;apply uO (lo:=k');exact rfl;exact rfl;omega;exact hle|apply NC (sz:=4) (k:=k') (n' :=L.length);exact rfl;omega;exact pK;intro u hu;simp [Value.cells] at hu;subst hu;rfl;exact rfl|apply ai;exact rfl;apply uP (hi:=k');exact rfl;exact rfl;omega|refine zZA ?_|refine sM fun _=>?_|refine sC ?_ ?_<;>intro hb<;>try omega|fail
      all_goals first
       |omega
       | (refine bp eIO rfl rfl (H' := .own (some g) 53 4 k' cap ((ys.flatMap bz).take (k' * 4)) :: R) mS ?_
          rw [jV lH,hi5,hcl];exact ⟨rfl,rfl⟩)
  ·have hkl:k=L.length:=by omega
   rw [hkl,V1] at hck;repeat' (first|refine zZA ?_|refine sM fun _=>?_|refine sC ?_ ?_<;>intro hb<;>try omega|fail)
   all_goals first
    |omega
    |refine bp eIO rfl rfl (.refl _) ?_;rw [hck];exact ⟨rfl,rfl⟩
theorem SomeOk.sort_perm {G:Gr} {l:List Nat} (h:SomeOk G l):(dP G l).Perm l:=by
 rw [← h.eq];have h1:=h.sub.topo.2.map fun p=>(l[p]?).getD 0;refine h1.trans ?_;have:(List.range l.length).map (fun p=>(l[p]?).getD 0)=l:=by
  apply WB;intro j;by_cases hj:j<l.length
  ·rw [VG,V7 hj,Vo hj];simp [hj]
  ·rw [VJ (by simp;omega),VJ (by omega)]
 rw [this]
end Go.SL
namespace Go.SL
open Go Go.Proofs
attribute [local irreducible] W WL WQ WG WA WX WLI WR WT WC VOp RW thn blk bg scp aS aV bi FnAt FnP ceP
section
variable (x:Gp) (G:Gr) (h:x.ok G) {H:List Blk} (hs:MSub x.H H) (w0:World)
include h hs
variable (hl:G.length≤900)
include hl
theorem Gp.users (r:Rct):FnIn Tryz.prog 26 [x.pa,.agg (bz r).toArray] w0 H fun v H' => ∃ A cap,v=sl A (eU G r).length cap∧H' = .own A 35 2 (eU G r).length cap ((eU G r).flatMap aw)::H:=h.a.users_any x.gg x.gm (MSub.trans x.subA hs) w0 hl h.g r
end
attribute [local irreducible] FnIn WE
def dnB (cb:Nat) (Ac:Option Nat) (cc:Nat) (K:List Rf) (sb gm tb:Nat) (S:List Rf) (q:Qu):List Blk:=
 [.box cb 23 [sl Ac K.length cc],.own Ac 35 2 K.length cc (K.flatMap aw),.box sb 176 [.map (some gm)],.obj gm (cJ bJ (nL S) S.length),.box tb 23 [q.v],.own (some q.g) 35 2 q.n q.c q.ys]
theorem Ej (cb:Nat) (Ac:Option Nat) (cc sb gm tb:Nat) (G:Gr) (hG:GrOk G) (hGl:G.length≤900) (c x:Rf) (u:Us) (hu:u∈aU G x) (S0:List Rf) (q0:Qu) (todo0:List Rf) (hI:DnI G c S0 (x::todo0)) (hq:q0.ok aw 2 todo0) (hqn:q0.n≤10000) (F:List Blk) (w0:World):
 FnIn Tryz.prog 196 [.agg (bz u.rect).toArray,.pointer (some ⟨cb,0,none⟩),.pointer (some ⟨sb,0,none⟩),.pointer (some ⟨tb,0,none⟩)] w0 (dnB cb Ac cc (au G) sb gm tb S0 q0++F) fun v H=>v= .tuple #[]∧ ∃ S q todo,H=dnB cb Ac cc (au G) sb gm tb S q++F∧q.ok aw 2 todo∧DnI G c S (x::todo)∧S.length+todo0.length=S0.length+todo.length∧q.n+S0.length≤q0.n+S.length∧(∀ d∈S0,d∈S)∧ ∀ d∈au G,kE u.rect d=true→d∈S:=by
 have hKl:(au G).length=G.length:=by rw [au,VK]
 have hKm: ∀ i (h:i<(au G).length),(au G)[i]∈au G:=fun i h=>VL h;have hKa: ∀ d∈au G,∃ i,∃ h:i<(au G).length,(au G)[i]=d:=fun d hd=>WJ hd;have hadd:=fun (S todo:List Rf) (d:Rf) (h:DnI G c S (x::todo)) hd hh hn=>DnI.add hG (d:=d) h hu hd hh hn;generalize hK:au G=K at hKl hKm hKa hadd ⊢;refine bE Tryz.func196 rfl Tryz.ntmps196 rfl ?_;simp only [dnB,Vz,Vp,Vq];repeat' (first|refine zZB ?_|refine sM fun _=>?_|refine sC ?_ ?_<;>intro hb<;>try omega|fail)
 rename_i g4;refine ay [2,3,4,7,8] rfl (fun y:Nat × List Rf × Qu × List Rf=> [(9,.int .i64 (y.1:Int))]) (fun y=> .box g4 53 (bz u.rect)::(dnB cb Ac cc K sb gm tb y.2.1 y.2.2.1++F)) (fun y=>y.1≤K.length∧DnI G c y.2.1 (x::y.2.2.2)∧y.2.2.1.ok aw 2 y.2.2.2∧(∀ j (h:j<K.length),j<y.1→kE u.rect K[j]=true→K[j]∈y.2.1)∧y.2.1.length+todo0.length=S0.length+y.2.2.2.length∧y.2.2.1.n+S0.length≤q0.n+y.2.1.length∧ ∀ d∈S0,d∈y.2.1) (fun y=>K.length - y.1) (0,S0,q0,todo0) ⟨Vt _,hI,hq,(fun j _ h=>absurd h (Xr _)),rfl,VA _,fun _ h=>h⟩ sB (by simp only [dnB,Vz,Vp,Vq];exact mS) ?_;clear hI hq;rintro ⟨i,S,q,todo⟩ ⟨hi,hI,hq,hin,hsum,hqs,hsub⟩;dsimp only at hi hI hq hin hsum hqs hsub ⊢;have hSl:=hI.len hG.sort;by_cases hlt:i<K.length
 ·refine ba (A:=Ac) (by simp only [dnB,Vz,Vp,Vq];exact pK) (by omega) fun gk hA=> ?_;subst hA;have hread:=Rx hlt;have hd:=hKm i hlt;have hstep: ∀ (S' :List Rf),(∀ x∈S,x∈S')→(kE u.rect K[i]=true→K[i]∈S')→ ∀ j (h:j<K.length),j<i+1→kE u.rect K[j]=true→K[j]∈S' :=fun S' h1 h2 j h3 h4 h5=>by
   by_cases e:j=i
   ·subst e;exact h2 h5
   ·exact h1 _ (hin j h3 (by omega) h5)
  generalize K[i]=a at hread hd hstep;have hHas:=fun w=>JV u.rect a w;have hlook:=Gw S a;simp only [dnB,Vz,Vp,Vq]
  cases hh:kE u.rect a with
  |false=>
   rw [hh] at hHas;repeat' (first|apply ai;exact rfl;apply aa (j:=i);exact rfl;exact rfl;exact hlt|apply ai;exact rfl;apply aD;exact rfl;exact pK;exact hread;exact rfl|apply ag (f:=39);exact rfl;exact rfl;intro w' _;exact hHas w'|refine zZA ?_|refine sM fun _=>?_|refine sC ?_ ?_<;>intro hb<;>try omega|fail)
   all_goals first
    |omega
    |refine ⟨(i+1,S,q,todo),⟨hlt,hI,hq,hstep S (fun _ h=>h) (fun h=>absurd (h.symm.trans hh) (by decide)),hsum,hqs,hsub⟩,(by dsimp only;omega),sB,sB,(by simp only [dnB,List.append_eq,List.cons_append,List.nil_append];exact mS)⟩
  |true=>
   rw [hh] at hHas;by_cases haS:a∈S
   ·rw [decide_eq_true haS] at hlook;repeat' (first|apply ai;exact rfl;apply aa (j:=i);exact rfl;exact rfl;exact hlt|apply ai;exact rfl;apply aD;exact rfl;exact pK;exact hread;exact rfl|apply ag (f:=39);exact rfl;exact rfl;intro w' _;exact hHas w'|apply ai;exact rfl;apply kv (enc:=bJ) (k:=a);exact rfl;exact rfl;exact pK;exact hlook|refine zZA ?_|refine sM fun _=>?_|refine sC ?_ ?_<;>intro hb<;>try omega|fail)
    all_goals first
     |omega
     |refine ⟨(i+1,S,q,todo),⟨hlt,hI,hq,hstep S (fun _ h=>h) (fun _=>haS),hsum,hqs,hsub⟩,(by dsimp only;omega),sB,sB,(by simp only [dnB,List.append_eq,List.cons_append,List.nil_append];exact mS)⟩
   ·rw [decide_eq_false haS] at hlook;have hput:=Ks haS;have hI2:=hadd S todo a hI hd hh haS;obtain ⟨qg,qoff,qk,qn,qc,qys⟩:=q;obtain ⟨hq1,hq2,hq3,hq4⟩:=hq;dsimp only at hq1 hq2 hq3 hq4 hqs ⊢;simp only [Qu.v];repeat' (first|apply ai;exact rfl;apply aa (j:=i);exact rfl;exact rfl;exact hlt|apply ai;exact rfl;apply aD;exact rfl;exact pK;exact hread;exact rfl|apply ag (f:=39);exact rfl;exact rfl;intro w' _;exact hHas w'|apply ai;exact rfl;apply kv (enc:=bJ) (k:=a);exact rfl;exact rfl;exact pK;exact hlook|apply nD (enc:=bJ) (k:=a);(iterate 3 exact rfl);exact pK;rw [hput]|apply rR;exact rfl;exact rfl;exact hq1;exact hq2;exact rfl;exact pK;exact pK;exact rfl;simp [Value.oneCell',aw];omega;simp only [maxLen];omega;intro g' off' k' n2 c2 ys hk2 hoff2 hlen2 hn2 hys2|refine zZA ?_|refine sM fun _=>?_|refine sC ?_ ?_<;>intro hb<;>try omega|fail)
    all_goals first
     |omega
     |refine ⟨(i+1,S++ [a],⟨g',off',k',n2,c2,ys⟩,todo++ [a]),⟨hlt,hI2,⟨hk2,hoff2,(by rw [List.length_append];exact hlen2.trans (by rw [hq3];rfl)),(by rw [hys2,hq4,List.flatMap_append];rfl)⟩,hstep (S++ [a]) (fun _ h=>List.mem_append_left _ h) (fun _=>List.mem_append_right _ List.mem_cons_self),(by rw [List.length_append,List.length_append];simp only [List.length_cons,List.length_nil];omega),(by rw [List.length_append];simp only [List.length_cons,List.length_nil];omega),fun y hy=>List.mem_append_left _ (hsub y hy)⟩,(by dsimp only;omega),sB,sB,(by simp only [dnB,Qu.v,List.append_eq,List.cons_append,List.nil_append,List.length_append,List.length_cons,List.length_nil,Nat.zero_add];exact mS)⟩
 ·have hi2:i=K.length:=by omega
  subst hi2;simp only [dnB,Vz,Vp,Vq];repeat' (first|refine zZA ?_|refine sM fun _=>?_|refine sC ?_ ?_<;>intro hb<;>try omega|fail)
  all_goals first
   |omega
   |exact iO eIO rfl mS ⟨rfl,S,q,todo,rfl,hq,hI,hsum,hqs,hsub,fun d hd hh=>by obtain ⟨j,hj,rfl⟩:=hKa d hd;exact hin j hj hj hh⟩
theorem SR {L:List Us} {k:Nat} (h:k<L.length):((L.flatMap cw).drop (0+k*6)).take 6=cw L[k]:=by
 rw [VD];exact cj jx L k h
theorem P1 (gg:Nat) (G:Gr) (hG:GrOk G) (hGl:G.length≤900) (c:Rf) (B F:List Blk) (hB:MSub B F) (w0:World)
 (hFm: ∀ H,MSub B H→FnIn Tryz.prog 22 [.pointer (some ⟨gg,0,none⟩)] w0 H fun v H' => ∃ A cap,v=sl A (au G).length cap∧H' = .own A 35 2 (au G).length cap ((au G).flatMap aw)::H)
 (hUs: ∀ d H,MSub B H→FnIn Tryz.prog 59 [.pointer (some ⟨gg,0,none⟩),bJ d] w0 H fun v H' => ∃ A cap,v=sl A (aU G d).length cap∧H' = .own A 128 6 (aU G d).length cap ((aU G d).flatMap cw)::H)
 (hUl: ∀ d,(aU G d).length≤1000):
 FnIn Tryz.prog 123 [.pointer (some ⟨gg,0,none⟩),bJ c] w0 F fun v H' => ∃ gm S,v= .map (some gm)∧H' = .obj gm (cJ bJ (nL S) S.length)::F∧DnI G c S []:=by
 refine bE Tryz.func123 rfl Tryz.ntmps123 rfl ?_;repeat' (first|apply ak (f:=22);exact rfl;exact rfl;exact hFm _ (MSub.trans hB mS);rintro _ _ ⟨Ac,cc,rfl,rfl⟩|apply lM (enc:=bJ);exact rfl;intro gm|refine zZB ?_|refine sM fun _=>?_|refine sC ?_ ?_<;>intro hb<;>try omega|fail)
 rename_i xb cb sb qg tb;refine ay [0,6,7,8] rfl (fun _:List Rf × Qu × List Rf=> []) (fun y=>dnB cb Ac cc (au G) sb gm tb y.1 y.2.1++F) (fun y=>DnI G c y.1 y.2.2∧y.2.1.ok aw 2 y.2.2∧y.2.1.n≤1+y.1.length) (fun y=>y.2.2.length+(G.length - y.1.length)) ([],⟨qg,0,0,1,1,aw c⟩,[c]) ⟨DnI.start G c,⟨Vt _,fun _=>by rw [XV],rfl,rfl⟩,VA _⟩ sB (by simp only [dnB,Qu.v,Vz,Vp,Vq];exact mS) ?_;rintro ⟨S,q,todo⟩ ⟨hI,hq,hqn⟩;dsimp only at hI hq hqn ⊢;have hSl:=hI.len hG.sort;have hql:=hq.len;simp only [dnB,Vz,Vp,Vq]
 cases todo with
 |nil=>
  rw [WN] at hql;repeat' (first|refine zZB ?_|refine sM fun _=>?_|refine sC ?_ ?_<;>intro hb<;>try omega|fail)
  all_goals first
   |omega
   |exact bp eIO rfl rfl (H' := .obj gm (cJ bJ (nL S) S.length)::F) mS ⟨gm,S,rfl,rfl,hI⟩
 |cons x todo=>
  rw [Vw] at hql;refine QB (A:=some q.g) pK fun hle=> ?_;have hhd:=hq.head rfl hle;have hp:=hq.pop rfl hle;have hU:=hUs x;have hUx:=hUl x;have hmem: ∀ i (h:i<(aU G x).length),(aU G x)[i]∈aU G x:=fun i h=>VL h;have hall: ∀ u∈aU G x,∃ i,∃ h:i<(aU G x).length,(aU G x)[i]=u:=fun u hu=>WJ hu;have hlk:=fun u hu S0 q0 todo0 (h1:DnI G c S0 (x::todo0)) h2 h3 F=>Ej cb Ac cc sb gm tb G hG hGl c x u hu S0 q0 todo0 h1 h2 h3 F w0;have hpop:=fun S todo (h:DnI G c S (x::todo))=>h.pop;generalize aU G x=U at hU hUx hmem hall hlk hpop;repeat' (first|apply ai;exact rfl;apply aa (j:=0);exact rfl;exact rfl;omega|apply ai;exact rfl;apply aD;exact rfl;exact pK;exact hhd;exact rfl|apply ai;exact rfl;apply NM q;exact rfl;omega;exact hle|apply ak (f:=59);exact rfl;exact rfl;exact hU _ (MSub.trans hB mS);rintro _ _ ⟨Au,cu,rfl,rfl⟩|refine zZB ?_|refine sM fun _=>?_|refine sC ?_ ?_<;>intro hb<;>try omega|fail)
  refine ay [0,6,7,8,28,29] rfl (fun y:Nat × List Rf × Qu × List Rf=> [(30,.int .i64 (y.1:Int))]) (fun y=> .own Au 128 6 U.length cu (U.flatMap cw)::(dnB cb Ac cc (au G) sb gm tb y.2.1 y.2.2.1++F)) (fun y=>y.1≤U.length∧DnI G c y.2.1 (x::y.2.2.2)∧y.2.2.1.ok aw 2 y.2.2.2∧(∀ j (h:j<U.length),j<y.1→ ∀ d∈au G,kE U[j].rect d=true→d∈y.2.1)∧y.2.1.length+todo.length=S.length+y.2.2.2.length∧y.2.2.1.n+S.length≤q.n+y.2.1.length) (fun y=>U.length - y.1) (0,S,q.pop 2,todo) ⟨Vt _,hI,hp,(fun j _ h=>absurd h (Xr _)),rfl,VA _⟩ sB (by simp only [dnB,Vz,Vp,Vq];exact mS) ?_;rintro ⟨i,S',q',todo'⟩ ⟨hi,hI',hq',hin,hsum,hqs⟩;dsimp only at hi hI' hq' hin hsum hqs ⊢;have hSl' :=hI'.len hG.sort;by_cases hlt:i<U.length
  ·refine ba (A:=Au) .hd (by omega) fun gk hA=> ?_;subst hA;have hread:=SR hlt;have hum:=hmem i hlt;have hstep: ∀ (S2:List Rf),(∀ y∈S',y∈S2)→(∀ d∈au G,kE U[i].rect d=true→d∈S2)→ ∀ j (h:j<U.length),j<i+1→ ∀ d∈au G,kE U[j].rect d=true→d∈S2:=fun S2 h1 h2 j h3 h4 d h5 h6=>by
    by_cases e:j=i
    ·subst e;exact h2 d h5 h6
    ·exact h1 _ (hin j h3 (by omega) d h5 h6)
   generalize U[i]=u at hread hum hstep;have hlook:=hlk u hum S' q' todo' hI' hq' (by omega);simp only [dnB,Vz,Vp,Vq] at hlook ⊢;repeat' (first|apply ai;exact rfl;apply aa (j:=i);exact rfl;exact rfl;exact hlt|apply ai;exact rfl;apply aD;exact rfl;exact pK;exact hread;exact rfl|apply kq;exact rfl;exact rfl;infer_instance;exact rfl;exact FnIn.msub (hlook (.own (some gk) 128 6 U.length cu (U.flatMap cw)::F)) mS;rintro _ _ ⟨rfl,S2,q2,todo2,rfl,hq2,hI2,hsum2,hqs2,hsub2,hall2⟩|refine zZA ?_|refine sM fun _=>?_|refine sC ?_ ?_<;>intro hb<;>try omega|fail)
   all_goals first
    |omega
    |refine ⟨(i+1,S2,q2,todo2),⟨hlt,hI2,hq2,hstep S2 hsub2 hall2,(by dsimp only;omega),(by dsimp only;omega)⟩,(by dsimp only;omega),sB,sB,(by simp only [dnB,List.append_eq,List.cons_append,List.nil_append];exact mS)⟩
  ·have hi2:i=U.length:=by omega
   subst hi2;have hI3:=hpop S' todo' hI' fun u hu d hd hh=>by
    obtain ⟨j,hj,rfl⟩:=hall u hu;exact hin j hj hj d hd hh
   simp only [dnB,Vz,Vp,Vq];repeat' (first|refine zZA ?_|refine sM fun _=>?_|refine sC ?_ ?_<;>intro hb<;>try omega|fail)
   all_goals first
    |omega
    |refine ⟨(S',q',todo'),⟨hI3,hq',(by dsimp only;omega)⟩,(by dsimp only;rw [List.length_cons];omega),sB,sB,(by simp only [dnB,List.append_eq,List.cons_append,List.nil_append];exact mS)⟩
theorem F2 {S:List Rf} {a:Rf} (h:a∈S):lr a (.bool true) S.length (nL S)=(nL S,S.length):=by
 have hl:=Gw S a;rw [decide_eq_true h] at hl;unfold lr
 cases hf:co a (nL S) 0 with
 |none=>rw [hf] at hl;cases hl
 |some x=>
  obtain ⟨i,v⟩:=x;rw [hf] at hl;simp only at hl;obtain ⟨b,_,hb⟩:=n9 hf;rw [WU] at hb;simp only [Prod.mk.injEq,and_true];apply WB;intro j;rw [YH];by_cases e:i=j
  ·subst e;rw [hb,hl];simp
  ·simp [e]
def AY (S:List Rf) (c:Rf):List Rf:=if c∈S then S else S++ [c]
theorem Qa (S:List Rf) (c:Rf):lr c (.bool true) S.length (nL S)=(nL (AY S c),(AY S c).length):=by
 unfold AY;split
 ·rename_i h;exact F2 h
 ·rename_i h;rw [Ks h,Vn,Vs]
theorem JP {S:List Rf} (h:S.Nodup) (c:Rf):(AY S c).Nodup:=by
 unfold AY;split
 ·exact h
 ·rename_i hn;exact Xq.2 ⟨h,by simp,fun a ha b hb e=>hn (by rw [← Vx.1 hb,← e];exact ha)⟩
theorem O4 {S:List Rf} {c x:Rf}:x∈AY S c↔x=c∨x∈S:=by
 unfold AY;split
 ·rename_i h;exact ⟨.inr,fun h2=>h2.elim (fun e=>e ▸ h) id⟩
 ·rw [VH,Vx,or_comm]
theorem Qb (S:List Rf) (c:Rf):(AY S c).length≤S.length+1:=by
 unfold AY;split
 ·omega
 ·rw [Vn,Vs];omega
def je (G:Gr) (vis:List (Rf × Value × Nat)):List Rct:=vis.flatMap fun e=>(aU G e.1).map fun u=>u.rect
theorem FM (G:Gr) (vis:List (Rf × Value × Nat)) (e:Rf × Value × Nat):je G (vis++ [e])=je G vis++(aU G e.1).map fun u=>u.rect:=by simp [je]
theorem yq {G:Gr} (h: ∀ d,(aU G d).length≤1000): ∀ vis:List (Rf × Value × Nat),(je G vis).length≤vis.length*1000
 | []=>Vt _
 |e::vis=>by
  have h1:=yq h vis;have h2:=h e.1;simp only [je,VE,Vn,VK,Vw] at h1 ⊢;omega
noncomputable def tY (G:Gr) (c:Rf):List Rct:=if gF [c] []=0 then iX G c else []
theorem Nk (gg:Nat) (G:Gr) (hG:GrOk G) (hGl:G.length≤900) (c:Rf) (B F:List Blk) (hB:MSub B F) (w0:World)
 (hFm: ∀ H,MSub B H→FnIn Tryz.prog 22 [.pointer (some ⟨gg,0,none⟩)] w0 H fun v H' => ∃ A cap,v=sl A (au G).length cap∧H' = .own A 35 2 (au G).length cap ((au G).flatMap aw)::H)
 (hUs: ∀ d H,MSub B H→FnIn Tryz.prog 59 [.pointer (some ⟨gg,0,none⟩),bJ d] w0 H fun v H' => ∃ A cap,v=sl A (aU G d).length cap∧H' = .own A 128 6 (aU G d).length cap ((aU G d).flatMap cw)::H)
 (hUl: ∀ d,(aU G d).length≤1000):
 FnIn Tryz.prog 75 [.pointer (some ⟨gg,0,none⟩),bJ c] w0 F fun v H' => ∃ A cap,v= .tuple #[sl A (tY G c).length cap,.int .i64 (gF [c] [])]∧H' = .own A 53 4 (tY G c).length cap ((tY G c).flatMap bz)::F:=by
 refine bE Tryz.func75 rfl Tryz.ntmps75 rfl ?_;refine aI 53 4 ?_;have hck:=fun w (v:Value) (hr:Reads w v 1 (aw c))=>CD gg [c] [] v (.slice none 0 0) w (by simpa using hr) (BL w) (by simp) (by simp);have hbl:=fun F hB=>P1 gg G hG hGl c B F hB w0 hFm hUs hUl;unfold tY;by_cases hc0:gF [c] []=0
 ·rw [if_pos hc0];rw [hc0] at hck ⊢;repeat' (first|apply ag (f:=74);exact rfl;exact rfl;intro w' hm;exact hck w' _ (Reads.of_own (A:=some _) hm pK)|apply ak (f:=123);exact rfl;exact rfl;exact hbl _ (MSub.trans hB mS);rintro _ _ ⟨gm,S,rfl,rfl,hI⟩|apply nD (enc:=bJ) (k:=c);(iterate 3 exact rfl);exact pK;rw [Qa]|apply s9 (enc:=bJ);exact rfl;exact rfl;exact pK;intro gi|refine zZB ?_|refine sM fun _=>?_|refine sC ?_ ?_<;>intro hb<;>try omega|fail)
  have hTn:=JP hI.nodup c;have hTm:=fun x=>O4 (S:=S) (c:=c) (x:=x);have hTl:=Qb S c;have hSl:=hI.len hG.sort;have hdone:=hI.done hG;generalize AY S c=T at hTn hTm hTl ⊢;have hok:=TF hTn;have hks:=BD T;have hkl:=Om T;generalize nL T=es at hok hks hkl ⊢;refine ay [0,25] rfl (fun y:List (Rf × Value × Nat) × Option Nat × Nat=> [(8,sl y.2.1 (je G y.1).length y.2.2)]) (fun y=> .obj gi (pF gm T.length (y.1.map fun e=>e.2.2)):: .own y.2.1 53 4 (je G y.1).length y.2.2 ((je G y.1).flatMap bz):: .obj gm (cJ bJ es T.length)::F) (fun y=>Vis es y.1) (fun y=>es.length - y.1.length) ([],none,0) (Vis.nil es) sB mS ?_;rintro ⟨vis,A,cap⟩ hv;dsimp only at hv ⊢;have hvl:=hv.len;have hrl:=yq hUl vis;have hS:=fun R' =>De (je G vis) A cap (by omega) R' w0;have hsl:(sortRc (je G vis)).length=(je G vis).length:=(mE _).length_eq;have hCp:=fun A cap R' =>J0 (sortRc (je G vis)) A cap (by omega) R' w0;rw [hsl] at hCp;repeat' (first|apply vW (enc:=bJ);exact rfl;exact rfl;exact pK;exact pK;exact hok;intro e he hne|intro hall|apply ai;exact rfl;apply Kd (enc:=bJ);exact rfl;exact pK;exact pK;exact he;exact hok|apply ak (f:=59);exact rfl;exact rfl;exact hUs _ _ (MSub.trans hB mS);rintro _ _ ⟨Au,cu,rfl,rfl⟩|apply ak (f:=124);exact rfl;exact rfl;exact FnIn.msub (hS _) (MSub.pick pK (MSub.refl _));rintro _ _ ⟨rfl,rfl⟩|apply ak (f:=128);exact rfl;exact rfl;exact FnIn.msub (hCp _ _ _) (MSub.pick pK (MSub.refl _));rintro _ _ ⟨rfl,rfl⟩|refine zZB ?_|refine sM fun _=>?_|refine sC ?_ ?_<;>intro hb<;>try omega|fail)
  ·have hUx:=hUl e.1;have hsn:=FM G vis e;generalize aU G e.1=U at hUx hsn;generalize je G vis=M at hrl hsn;refine ay [0,25,32,33] rfl (fun y:Nat × Option Nat × Nat=> [(8,sl y.2.1 (M++(U.take y.1).map fun u=>u.rect).length y.2.2),(34,.int .i64 (y.1:Int))]) (fun y=> .obj gi (pF gm T.length (vis.map (fun e=>e.2.2)++ [e.2.2])):: .own Au 128 6 U.length cu (U.flatMap cw):: .own y.2.1 53 4 (M++(U.take y.1).map fun u=>u.rect).length y.2.2 ((M++(U.take y.1).map fun u=>u.rect).flatMap bz):: .obj gm (cJ bJ es T.length)::F) (fun y=>y.1≤U.length) (fun y=>U.length - y.1) (0,A,cap) (Vt _) (by simp only [WP,Wv,VB];exact sB) (by simp only [WP,Wv,VB];exact mS) ?_;rintro ⟨i,A1,c1⟩ hi;dsimp only at hi ⊢;by_cases hlt:i<U.length
   ·refine ba (A:=Au) pK (by omega) fun gk hA=> ?_;subst hA;have hread:=SR hlt;have htk:(M++(U.take (i+1)).map fun u=>u.rect)=(M++(U.take i).map fun u=>u.rect)++ [U[i].rect]:=by rw [Vu hlt,Wj,← VC];rfl
    have hml:(M++(U.take i).map fun u=>u.rect).length≤1000000:=by
     rw [Vn,VK,VQ];omega
    generalize U[i]=u at hread htk;generalize (M++(U.take i).map fun u=>u.rect)=M1 at htk hml;repeat' (first|apply ai;exact rfl;apply aa (j:=i);exact rfl;exact rfl;exact hlt|apply ai;exact rfl;apply aD;exact rfl;exact pK;exact hread;exact rfl|apply dB;(iterate 3 exact rfl);(repeat first|exact .hd|apply Sel.tl|apply In.tl);intro w hm;exact hm.cells_own (by (repeat first|exact .hd|apply Sel.tl|apply In.tl));exact rfl;simp [Value.oneCell',sl];omega;simp only [maxLen];omega;intro A2 cap2 hA2|refine zZA ?_|refine sM fun _=>?_|refine sC ?_ ?_<;>intro hb<;>try omega|fail)
    all_goals first
     |omega
     | (refine ⟨(i + 1, A2, cap2), hlt, by dsimp only; omega, ?_, ?_, ?_⟩
        ·dsimp only;rw [htk,List.length_append];exact sB
        ·exact sB
        ·dsimp only;rw [htk,List.length_append,List.flatMap_append,List.flatMap_cons,List.flatMap_nil,List.append_nil];exact mS)
   ·have hi2:i=U.length:=by omega
    subst hi2;rw [V1,← hsn];repeat' (first|refine zZA ?_|refine sM fun _=>?_|refine sC ?_ ?_<;>intro hb<;>try omega|fail)
    all_goals first
     |omega
     | (refine ⟨(vis ++ [e], A1, c1), hv.step he hne, ?_, sB, sB, ?_⟩
        ·have:=hv.lt he hne;simp only [Vn,Vs];omega
        ·simp only [Wj,VU,Wv];exact mS)
  ·have hperm:=hv.perm hok hall;have hmem: ∀ r,r∈je G vis↔ ∃ x,(x=c∨x∈kP G c)∧ ∃ u∈aU G x,u.rect=r:=fun r=>by
    unfold je;simp only [XB,VM];constructor
    ·rintro ⟨e,he,u,hu,rfl⟩;have h1:e.1∈T:=by
      rw [← hks];exact VM.2 ⟨e,hv.sub e he,rfl⟩
     exact ⟨e.1,((hTm e.1).1 h1).imp id (hdone _).1,u,hu,rfl⟩
    ·rintro ⟨x,hx,u,hu,rfl⟩;have h1:x∈T:=(hTm x).2 (hx.imp id (hdone _).2);rw [← hks] at h1;obtain ⟨e,he,rfl⟩:=VM.1 h1;exact ⟨e,hperm.mem_iff.2 he,u,hu,rfl⟩
   rw [ME hmem]
   all_goals first
    |exact dm eIO rfl rfl rfl (H' := .own A 53 4 (iX G c).length cap ((iX G c).flatMap bz)::F) mS ⟨A,cap,rfl,rfl⟩
 ·rw [if_neg hc0];repeat' (first|apply ag (f:=74);exact rfl;exact rfl;intro w' hm;exact hck w' _ (Reads.of_own (A:=some _) hm pK)|refine zZB ?_|refine sM fun _=>?_|refine sC ?_ ?_<;>intro hb<;>try omega|fail)
  all_goals first
   |omega
   |exact dm eIO rfl rfl rfl (H' := .own none 53 4 0 0 []::F) mS ⟨none,0,rfl,rfl⟩
theorem FQ (r:Rct) (b:Rf) (g:Nat) (w:World) (hr:Ro w g 0 (aw b)):aF Tryz.prog 77 [.agg (bz r).toArray,.pointer (some ⟨g,0,none⟩)] w (.bool (kE r b)):=by
 refine aA Tryz.func77 rfl Tryz.ntmps77 rfl ?_;have hh:=fun w=>JV r b w;repeat' (first|apply ai;exact rfl;apply bC (o:=0);exact rfl;exact hr;exact rfl|apply ag;exact rfl;exact rfl;intro w hm;exact hh w|refine sT ?_|refine sM fun _=>?_|refine sC ?_ ?_<;>intro hb<;>try omega|fail)
 all_goals exact bp eIO rfl rfl (.nil _) rfl
def Jp (q:Rct→Bool) (L:List Rct):Int:=match L.findIdx? q with|some i=>(i:Int)|none=> -1
theorem Nm (f:FuncId) [Callable Tryz.prog f] (caps:List Value) (q:Rct→Bool) (L:List Rct) (hlen:L.length≤1000000) (tv:Value) (w:World) (ht:Reads w tv L.length (L.flatMap bz))
 (hf: ∀ u w' H,Mem w w' H→aF Tryz.prog f ([.agg (bz u).toArray]++caps) w' (.bool (q u))):
 aF Tryz.prog 129 [tv,.func (.func f) #[] caps.toArray] w (.int .i64 (Jp q L)):=by
 obtain ⟨Al,cl,rfl,hl1,hl2,hl3⟩:=ht;refine aA Tryz.func129 rfl Tryz.ntmps129 rfl ?_;repeat' (first|refine sT ?_|refine sM fun _=>?_|refine sC ?_ ?_<;>intro hb<;>try omega|fail)
 refine fP (fun i:Nat=> [(0,.slice Al L.length cl),(1,.func (.func f) #[] caps.toArray),(7,.int .i64 (L.length:Int)),(8,.int .i64 (i:Int))]) (fun _=> []) (fun i=>i≤L.length∧ ∀ j (h:j<L.length),j<i→q L[j]=false) (fun i=>L.length - i) 0 ⟨by omega,fun j _ h=>by omega⟩ sB (.refl _) ?_;rintro i ⟨hi,hno⟩;by_cases hlt:i<L.length
 ·obtain ⟨gl,ol,rfl,hrl⟩:=hl3 (by omega);have he:=hrl.elem lH i hlt;have hq:=fun w' H=>hf L[i] w' H;have hnext:q L[i]=false→ ∀ j (h:j<L.length),j<i+1→q L[j]=false:=fun h0 j h hj=>by
   by_cases e:j=i
   ·subst e;exact h0
   ·exact hno j h (by omega)
  have hres:q L[i]=true→Jp q L=(i:Int):=fun h0=>by
   unfold Jp;rw [V4.2 ⟨hlt,h0,fun j hj=>by rw [hno j (by omega) hj];simp⟩]
  generalize L[i]=u at he hq hnext hres;generalize q u=b at hq hnext hres;repeat' (first|apply jJ;exact rfl;exact rfl;infer_instance;exact rfl;intro w' hm;exact hq w' _ hm|refine zZJ ?_|refine sM fun _=>?_|refine sC ?_ ?_<;>intro hb<;>try omega|fail)
  all_goals first
   |refine bp eIO rfl rfl (.nil _) ?_;rw [hres (by assumption)];done
   |refine ⟨i+1,⟨hlt,hnext (by assumption)⟩,by omega,?_,.nil _⟩;exact sB;done
 ·have e:i=L.length:=by omega
  subst e;have hres:Jp q L= -1:=by
   unfold Jp
   rw [Wm.2 fun x hx=>by
    obtain ⟨j,hj,rfl⟩:=WJ hx;exact hno j hj hj]
  repeat' first|refine sT ?_|refine sM fun _=>?_|refine sC ?_ ?_<;>intro hb<;>try omega|fail
  all_goals (refine bp eIO rfl rfl (.nil _) ?_;rw [hres])
theorem EC (f:FuncId) [Callable Tryz.prog f] (caps:List Value) (q:Rct→Bool) (L:List Rct) (hlen:L.length≤1000000) (tv:Value) (w:World) (ht:Reads w tv L.length (L.flatMap bz))
 (hf: ∀ u w' H,Mem w w' H→aF Tryz.prog f ([.agg (bz u).toArray]++caps) w' (.bool (q u))):
 aF Tryz.prog 76 [tv,.func (.func f) #[] caps.toArray] w (.bool (L.any q)):=by
 refine aA Tryz.func76 rfl Tryz.ntmps76 rfl ?_;have hI:=fun (w' :World) (H:List Blk) (hm:Mem w w' H)=>Nm f caps q L hlen tv w' (ht.of_w0 hm) (fun u w2 H2 hm2=>hf u w2 _ (hm.call hm2));have hres:decide (0≤Jp q L)=L.any q:=by
  unfold Jp
  cases h:L.findIdx? q with
  |none=>
   rw [Wm] at h;have:L.any q=false:=by rw [List.any_eq_false];exact fun x hx=>by rw [h x hx];simp
   rw [this];rfl
  |some i=>
   obtain ⟨h1,h2,_⟩:=V4.1 h;have:L.any q=true:=Xg.2 ⟨_,VL h1,h2⟩;rw [this];simp
 repeat' first|apply ag (f:=129);exact rfl;exact rfl;intro w' hm;exact hI w' _ hm|refine sT ?_|refine sM fun _=>?_|refine sC ?_ ?_<;>intro hb<;>try omega|fail
 all_goals (refine bp eIO rfl rfl (.nil _) ?_;rw [hres])
theorem M8 {a b:Rf} (h:gF [a,b] []=0):gF [a] []=0∧a.valid=true∧b.valid=true:=by
 unfold gF at h ⊢;split at h
 ·rename_i h1;simp only [XM,List.all_nil,WO,VP] at h1;refine ⟨?_,h1.1,h1.2⟩;rw [if_pos];simp [h1.1]
 ·cases h
theorem GF {G:Gr} {c:Rf} (hG:SortG G) (h: ∀ d,(aU G d).length≤1000):(iX G c).length≤(G.length+1)*1000:=by
 have h1: ∀ l:List Rf,(l.flatMap fun x=>(aU G x).map fun u=>u.rect).length≤l.length*1000:=fun l=>by
  induction l with
  |nil=>exact Vt _
  |cons a l ih=>
   have:=h a;simp only [VE,Vn,VK,Vw];omega
 have h2:=h1 (c::kP G c);have h3:=Ho (sortRc ((c::kP G c).flatMap fun x=>(aU G x).map fun u=>u.rect));rw [(mE _).length_eq] at h3;have h4:(kP G c).length≤G.length:=by
  have:=WD (fun d=> @decide (Rc G c (dU d.col d.row)) (Classical.propDecidable _)) (au G);rw [show (au G).length=G.length by rw [au,VK]] at this;exact this
 rw [Vw] at h2;unfold iX;have:((kP G c).length+1)*1000≤(G.length+1)*1000:=Xj _ (by omega);omega
noncomputable def nO (G:Gr) (a b:Rf):Bool:=decide (gF [a,b] []=0) && js G a b
theorem JS (gg:Nat) (G:Gr) (hG:GrOk G) (hGl:G.length≤900) (a b:Rf) (B F:List Blk) (hB:MSub B F) (w0:World)
 (hFm: ∀ H,MSub B H→FnIn Tryz.prog 22 [.pointer (some ⟨gg,0,none⟩)] w0 H fun v H' => ∃ A cap,v=sl A (au G).length cap∧H' = .own A 35 2 (au G).length cap ((au G).flatMap aw)::H)
 (hUs: ∀ d H,MSub B H→FnIn Tryz.prog 59 [.pointer (some ⟨gg,0,none⟩),bJ d] w0 H fun v H' => ∃ A cap,v=sl A (aU G d).length cap∧H' = .own A 128 6 (aU G d).length cap ((aU G d).flatMap cw)::H)
 (hUl: ∀ d,(aU G d).length≤1000):
 FnIn Tryz.prog 25 [.pointer (some ⟨gg,0,none⟩),bJ a,bJ b] w0 F fun v H' =>v= .tuple #[.bool (nO G a b),.int .i64 (gF [a,b] [])]∧H' =F:=by
 refine bE Tryz.func25 rfl Tryz.ntmps25 rfl ?_;have hck:=fun w (v:Value) (hr:Reads w v 2 (aw a++aw b))=>CD gg [a,b] [] v (.slice none 0 0) w (by simpa using hr) (BL w) (by simp) (by simp);have hlv:=fun F hB=>Nk gg G hG hGl a B F hB w0 hFm hUs hUl;have hll:=GF (c:=a) hG.sort hUl;unfold nO;by_cases hc0:gF [a,b] []=0
 ·obtain ⟨hca,_,hvb⟩:=M8 hc0;unfold tY at hlv;rw [hca,if_pos rfl] at hlv;rw [hc0] at hck ⊢;rw [decide_eq_true rfl,Wp,← Dm hG hvb];generalize iX G a=L at hlv hll ⊢;repeat' (first|apply ag (f:=74);exact rfl;exact rfl;intro w' hm;exact hck w' _ (Reads.of_own (A:=some _) hm pK)|apply ak (f:=75);exact rfl;exact rfl;exact hlv _ (MSub.trans hB mS);rintro _ _ ⟨A9,c9,rfl,rfl⟩|refine zZB ?_|refine sM fun _=>?_|refine sC ?_ ?_<;>intro hb<;>try omega|fail)
  all_goals try omega
  rename_i g4 g5 g6;have hct:=fun w' (hm:Mem w0 w' (.own A9 53 4 L.length c9 (L.flatMap bz):: .box g5 35 (aw b):: []))=>EC 77 [.pointer (some ⟨g5,0,none⟩)] (fun r=>kE r b) L (by omega) (sl A9 L.length c9) w' (Reads.of_own hm .hd) (fun u w2 H2 hm2=>FQ u b g5 w2 (Ro.next (Ro.of_box hm (.tl .hd)) hm2));repeat' (first|apply ag (f:=76);exact rfl;exact rfl;intro w' hm;exact hct w' (MSub.use mS hm)|refine zZB ?_|refine sM fun _=>?_|refine sC ?_ ?_<;>intro hb<;>try omega|fail)
  all_goals first
   |omega
   |exact dm eIO rfl rfl rfl (H' :=F) mS ⟨rfl,rfl⟩
 ·rw [decide_eq_false hc0,WI];repeat' (first|apply ag (f:=74);exact rfl;exact rfl;intro w' hm;exact hck w' _ (Reads.of_own (A:=some _) hm pK)|refine zZB ?_|refine sM fun _=>?_|refine sC ?_ ?_<;>intro hb<;>try omega|fail)
  all_goals first
   |omega
   |exact dm eIO rfl rfl rfl (H' :=F) mS ⟨rfl,rfl⟩
theorem Ib {G:Gr} (hG:GrOk G) (d:Rf):(aU G d).length≤1000:=VR (Br hG d) (by decide)
section
variable {gg:Nat} {G:Gr} {B F:List Blk} {w0:World} (h:Rdr gg G B w0) (hB:MSub B F)
include h hB
theorem Rdr.reaches (a b:Rf):FnIn Tryz.prog 25 [.pointer (some ⟨gg,0,none⟩),bJ a,bJ b] w0 F fun v H' =>v= .tuple #[.bool (nO G a b),.int .i64 (gF [a,b] [])]∧H' =F:=JS gg G h.g h.l a b B F hB w0 h.fm h.us (Ib h.g)
theorem Rdr.reaches_to {a b:Rf} {y:Bool} {e:Int} (hy:nO G a b=y) (he:gF [a,b] []=e):FnIn Tryz.prog 25 [.pointer (some ⟨gg,0,none⟩),bJ a,bJ b] w0 F fun v H' =>v= .tuple #[.bool y,.int .i64 e]∧H' =F:=by
 subst hy he;exact h.reaches hB a b
end
theorem Gp.rdr (x:Gp) {G:Gr} (h:x.ok G) (hl:G.length≤900) (w0:World):Rdr x.gg G x.H w0:=
 ⟨h.g,hl,fun r _ hs=>x.users G h hs w0 hl r,fun _ hs=>x.formulas G h hs w0 hl,fun d _ hs=>x.usesA G h hs w0 d⟩
theorem Ps (L:List Rf) (a:Rf) (lv:Value) (w:World) (hl:Reads w lv L.length (L.flatMap aw)):aF Tryz.prog 20 [lv,.agg (aw a).toArray] w (.bool (decide (a∈L))):=by
 obtain ⟨Al,cl,rfl,hl1,hl2,hl3⟩:=hl;refine aA Tryz.func20 rfl Tryz.ntmps20 rfl ?_;repeat' (first|refine zZB ?_|refine sM fun _=>?_|refine sC ?_ ?_<;>intro hb<;>try omega|fail)
 rename_i g3;refine ay [0,3] rfl (fun i:Nat=> [(5,.int .i64 (i:Int))]) (fun _=> [.box g3 35 (aw a)]) (fun i=>i≤L.length∧decide (a∈L)=decide (a∈L.drop i)) (fun i=>L.length - i) 0 ⟨by omega,rfl⟩ sB mS ?_;rintro i ⟨hi,hrec⟩;by_cases hlt:i<L.length
 ·obtain ⟨gl,ol,rfl,hrl⟩:=hl3 (by omega);have he:=hrl.elem bS i hlt;rw [Na hlt] at hrec;generalize L[i]=e at he hrec;obtain ⟨c,hc⟩: ∃ c,decide (e=a)=c:=⟨_,rfl⟩;rw [hc] at hrec;repeat' (first|apply aY (d:=14);exact rfl;apply aa (j:=i);exact rfl;exact rfl;exact hlt|apply aY (d:=15);exact rfl;apply bC;exact rfl;exact he;exact rfl|apply aY (d:=17);exact rfl;apply Bo;exact hc;exact rfl;exact rfl|refine zZG ?_|refine sM fun _=>?_|refine sC ?_ ?_<;>intro hb<;>try omega|refine sCQ ?_ ?_<;>intro hb<;>try omega|fail)
  all_goals first
   |omega
   |refine bp eIO rfl rfl (.nil _) ?_;simp_all;done
   | (refine ⟨i + 1, ⟨hlt, ?_⟩, by omega, ?_, ?_, ?_⟩
      ·simp_all
      ·exact sB
      ·exact sB
      ·exact mS)
 ·have e2:i=L.length:=by omega
  subst e2;rw [V8] at hrec;repeat' (first|refine zZA ?_|refine sM fun _=>?_|refine sC ?_ ?_<;>intro hb<;>try omega|fail)
  all_goals first
   |omega
   |refine bp eIO rfl rfl (.nil _) ?_;rw [hrec];rfl
theorem qo {M:List Rf} {a:Rf} {y:Bool} (h:decide (a∈M)=y) {lv:Value} {w:World} (hl:Reads w lv M.length (M.flatMap aw)):aF Tryz.prog 20 [lv,.agg (aw a).toArray] w (.bool y):=by
 have:=Ps M a lv w hl;rwa [h] at this
theorem Hu (a b:Rf) (w:World):aF Tryz.prog 69 [.agg (aw a).toArray,.agg (aw b).toArray] w (.bool (bn a b)):=by
 refine aA Tryz.func69 rfl Tryz.ntmps69 rfl ?_;repeat' (first|refine sT ?_|refine sM fun _=>?_|refine sC ?_ ?_<;>intro hb<;>try omega|fail)
 all_goals ((refine rT1 ?_);((try simp only [← Int.not_lt] at*);simp_all [bn, -Int.not_lt, -Int.not_le,← Int.not_lt]))
structure PlcF (G:Gr) (M:List Rf):Prop where
 len:M.length≤1000
 ok: ∀ a∈M,a.valid=true
 no: ∀ i q (hi:i<M.length) (hq:q<M.length),i≤q→js G M[i] M[q]=false
 low: ∀ i k (hi:i<M.length) (hk:k<M.length),i≤k→(∀ q (hq:q<M.length),i≤q→js G M[k] M[q]=false)→bn M[k] M[i]=false
theorem tL {a b:Rf} {G:Gr} (ha:a.valid=true) (hb:b.valid=true):gF [a,b] []=0∧nO G a b=js G a b:=by
 have h:gF [a,b] []=0:=by
  unfold gF;rw [if_pos];simp [ha,hb]
 exact ⟨h,by rw [nO,decide_eq_true h,Wp]⟩
theorem u6 {L:List Rf} {k:Nat} (h:k<L.length):((L.flatMap aw).drop (0+k*2)).take 2=aw L[k]:=by
 rw [VD];exact cj bS L k h
theorem F5 {gg:Nat} {G:Gr} {B F:List Blk} {w0:World} (h:Rdr gg G B w0) (hB:MSub B F) (A:Option Nat) (c:Nat) (M:List Rf) (hp:PlcF G M):
 FnIn Tryz.prog 21 [.pointer (some ⟨gg,0,none⟩),sl A M.length c] w0 (.own A 35 2 M.length c (M.flatMap aw)::F) fun v H=>v= .bool true∧H= .own A 35 2 M.length c (M.flatMap aw)::F:=by
 refine bE Tryz.func21 rfl Tryz.ntmps21 rfl ?_;have hMl:=hp.len;have hmk:=fun k (hk:k<M.length)=>hp.ok M[k] (VL hk);repeat' (first|refine zZB ?_|refine sM fun _=>?_|refine sC ?_ ?_<;>intro hb<;>try omega|fail)
 refine ay [0,1] rfl (fun i:Nat=> [(5,.int .i64 (i:Int))]) (fun _=> .own A 35 2 M.length c (M.flatMap aw)::F) (fun i=>i≤M.length) (fun i=>M.length - i) 0 (Vt _) sB mS ?_;rintro i hi;by_cases hlt:i<M.length
 ·refine ba (A:=A) .hd (by omega) fun ga hA=> ?_;subst hA;repeat' (first|refine zZA ?_|refine sM fun _=>?_|refine sC ?_ ?_<;>intro hb<;>try omega|fail)
  all_goals try omega
  refine ay [0,1,5] rfl (fun k:Nat=> [(6,.int .i64 (k:Int))]) (fun _=> .own (some ga) 35 2 M.length c (M.flatMap aw)::F) (fun k=>i≤k∧k≤M.length) (fun k=>M.length - k) i ⟨VA _,hi⟩ sB mS ?_;rintro k ⟨hik,hk⟩;by_cases hkt:k<M.length
  ·have hrk:=u6 hkt;have hri:=u6 hlt;have hvk:=hmk k hkt;have hlow:=hp.low i k hlt hkt hik;have hno:=fun q (hq:q<M.length) (e:k=i) (hiq:i≤q)=>(show js G M[k] M[q]=false from by subst e;exact hp.no k q hkt hq hiq);generalize M[k]=mk at hrk hvk hlow hno;generalize M[i]=mi at hri hlow;repeat' (first|refine zZA ?_|refine sM fun _=>?_|refine sC ?_ ?_<;>intro hb<;>try omega|fail)
   all_goals try omega
   refine ay [0,1,5,6] rfl (fun y:Nat × Bool=> [(7,.bool y.2),(8,.int .i64 (y.1:Int))]) (fun _=> .own (some ga) 35 2 M.length c (M.flatMap aw)::F)
    (fun y=>i≤y.1∧y.1≤M.length∧(y.2=true→ ∀ q (hq:q<M.length),i≤q→q<y.1→js G mk M[q]=false)) (fun y=>M.length - y.1) (i,true) ⟨Nat.le_refl _,hi,fun _ q hq h1 h2=>by dsimp only at h2;omega⟩ sB mS ?_
   rintro ⟨n,f⟩ ⟨hin,hn,hf⟩;dsimp only at hin hn hf ⊢;by_cases hnt:n<M.length
   ·have hrn:=u6 hnt;have hR:=fun (H:List Blk) (hs:MSub B H)=>h.reaches_to (a:=mk) (b:=M[n]) hs (tL hvk (hmk n hnt)).2 (tL (G:=G) hvk (hmk n hnt)).1;have hno' :=fun e=>hno n hnt e hin;have hf' : ∀ y,js G mk M[n]=y→(f && !y)=true→ ∀ q (hq:q<M.length),i≤q→q<n+1→js G mk M[q]=false:=by
     intro y hy hfy q hq h1 h2;rw [VP,XO] at hfy;rcases WY q n with h3|h3
     ·exact hf hfy.1 q hq h1 h3
     ·have e:q=n:=by omega
      subst e;rw [hy,hfy.2]
    generalize hy:js G mk M[n]=y at hR hno';have hf2:=hf' y hy;clear hf';generalize M[n]=mn at hrn hR;have hki:y=true→k≠i:=fun h1 h2=>by rw [hno' h2] at h1;cases h1
    cases f<;>cases y
    all_goals
     repeat' first|refine zZA ?_|refine sM fun _=>?_|refine sC ?_ ?_<;>intro hb<;>try omega|fail
    all_goals try omega
    all_goals refine fa (id:=11) [9] [] [.own (some ga) 35 2 M.length c (M.flatMap aw)] (by kernel_rfl) (by kernel_rfl) (by kernel_rfl) mS ?_
    all_goals
     repeat' first|apply dC (d:=35);(iterate 3 exact rfl);apply aa (j:=k);exact rfl;exact rfl;exact hkt|apply dC (d:=36);(iterate 3 exact rfl);apply aD;exact rfl;exact pK;exact hrk;exact rfl|apply dC (d:=39);(iterate 3 exact rfl);apply aa (j:=n);exact rfl;exact rfl;exact hnt|apply dC (d:=40);(iterate 3 exact rfl);apply aD;exact rfl;exact pK;exact hrn;exact rfl|apply ak (f:=25);exact rfl;exact rfl;exact hR _ (MSub.trans hB mS);rintro _ _ ⟨rfl,rfl⟩|refine zZI ?_|refine sM fun _=>?_|refine sC ?_ ?_<;>intro hb<;>try omega|refine sCW ?_ ?_<;>intro hb<;>try omega|fail
    all_goals first
     |exfalso;have hki' :=hki rfl;omega
     |omega
     |refine ⟨(n+1,false),⟨by dsimp only;omega,by dsimp only;omega,hf2⟩,by dsimp only;omega,by exact sB,by exact sB,by exact mS⟩;done
     |refine ⟨(n+1,true),⟨by dsimp only;omega,by dsimp only;omega,hf2⟩,by dsimp only;omega,by exact sB,by exact sB,by exact mS⟩;done
   ·have hnM:n=M.length:=by omega
    subst hnM;have hlow' :f=true→bn mk mi=false:=fun e=>hlow fun q hq h1=>hf e q hq h1 hq;have hbef:=fun (w:World)=>Hu mk mi w;generalize bn mk mi=z at hlow' hbef;cases f
    ·repeat' first|refine zZA ?_|refine sM fun _=>?_|refine sC ?_ ?_<;>intro hb<;>try omega|fail
     all_goals try omega
     refine fa (id:=15) [10] [] [.own (some ga) 35 2 M.length c (M.flatMap aw)] (by kernel_rfl) (by kernel_rfl) (by kernel_rfl) mS ?_;repeat' (first|refine zZI ?_|refine sM fun _=>?_|refine sC ?_ ?_<;>intro hb<;>try omega|refine sCW ?_ ?_<;>intro hb<;>try omega|fail)
     all_goals first
      |omega
      |refine ⟨k+1,⟨by omega,by omega⟩,by omega,by exact sB,by exact sB,by exact mS⟩;done
    ·have hz:=hlow' rfl;subst hz;repeat' (first|refine zZA ?_|refine sM fun _=>?_|refine sC ?_ ?_<;>intro hb<;>try omega|fail)
     all_goals try omega
     refine fa (id:=15) [10] [] [.own (some ga) 35 2 M.length c (M.flatMap aw)] (by kernel_rfl) (by kernel_rfl) (by kernel_rfl) mS ?_;repeat' (first|apply dC (d:=63);(iterate 3 exact rfl);apply aa (j:=k);exact rfl;exact rfl;exact hkt|apply dC (d:=64);(iterate 3 exact rfl);apply aD;exact rfl;exact pK;exact hrk;exact rfl|apply dC (d:=67);(iterate 3 exact rfl);apply aa (j:=i);exact rfl;exact rfl;exact hlt|apply dC (d:=68);(iterate 3 exact rfl);apply aD;exact rfl;exact pK;exact hri;exact rfl|apply ag (f:=69);exact rfl;exact rfl;intro w' hm;exact hbef w'|refine zZI ?_|refine sM fun _=>?_|refine sC ?_ ?_<;>intro hb<;>try omega|refine sCW ?_ ?_<;>intro hb<;>try omega|fail)
     all_goals first
      |omega
      |refine ⟨k+1,⟨by omega,by omega⟩,by omega,by exact sB,by exact sB,by exact mS⟩;done
  ·repeat' first|refine zZA ?_|refine sM fun _=>?_|refine sC ?_ ?_<;>intro hb<;>try omega|fail
   all_goals first
    |omega
    |refine ⟨i+1,by omega,by omega,by exact sB,by exact sB,by exact mS⟩;done
 ·repeat' first|refine zZA ?_|refine sM fun _=>?_|refine sC ?_ ?_<;>intro hb<;>try omega|fail
  all_goals first
   |omega
   |exact bp eIO rfl rfl mS ⟨rfl,rfl⟩
end Go.SL
