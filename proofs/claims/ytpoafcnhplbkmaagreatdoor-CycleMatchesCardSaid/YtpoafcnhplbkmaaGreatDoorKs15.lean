/-
  Lemmas and walks, put together: D1 Lc.
-/
import Derived.Test.YtpoafcnhplbkmaaGreatDoorKs11
set_option linter.unusedSimpArgs false
set_option linter.unusedVariables false
set_option maxRecDepth 20000
set_option maxHeartbeats 16000000
namespace Go.SL
open Go Go.Proofs
attribute [local irreducible] W WL WQ WG WA WX WLI WR WT VOp RW thn blk bH scp aV bz bP FnAt FnIn FnP
def kX (a b:ByteArray):ByteArray × Bool:=if (ap a).take b.size=ap b then (sub a b.size a.size,true) else (a,false)
theorem N8 (a b:ByteArray) (ha:a.size≤1000000) (w:World):aC Tryz.prog 134 [.string a,.string b] w (.tuple #[.string (kX a b).1,.bool (kX a b).2]):=by
 refine ay Tryz.func134 rfl Tryz.ntmps134 rfl ?_;have hp:=pN a b;unfold kX;by_cases h:(ap a).take b.size=ap b
 ·rw [if_pos h];rw [decide_eq_true h] at hp;have hb:b.size≤a.size:=by
   have:=congrArg List.length h;rw [RI,av,av] at this;omega
  repeat' (first|(apply aa;exact rfl;exact rfl;(intro w hm;exact hp w))|refine zZE ?_|refine sM fun _=>?_|(refine sC ?_ ?_<;>intro hb<;>try omega)|fail)
  all_goals exact dB eIO rfl rfl rfl (.refl _) rfl
 ·rw [if_neg h];rw [decide_eq_false h] at hp;repeat' (first|(apply aa;exact rfl;exact rfl;(intro w hm;exact hp w))|refine zZE ?_|refine sM fun _=>?_|(refine sC ?_ ?_<;>intro hb<;>try omega)|fail)
  all_goals exact dB eIO rfl rfl rfl (.refl _) rfl
theorem Me (a b:ByteArray) (ha:a.size≤1000000) (w:World):aC Tryz.prog 89 [.string a,.string b] w (.tuple #[.string (kX a b).1,.bool (kX a b).2]):=by
 refine ay Tryz.func89 rfl Tryz.ntmps89 rfl ?_;repeat' (first|(apply aa;exact rfl;exact rfl;(intro w hm;exact N8 a b ha w))|refine sT ?_|refine sM fun _=>?_|(refine sC ?_ ?_<;>intro hb<;>try omega)|fail)
 all_goals exact dB eIO rfl rfl rfl (.refl _) rfl
def M8 (b:ByteArray):Vl × Bool:=(bK,decide (b=ax))
def wj:ByteArray:=⟨#[39]⟩
def M6 (b:ByteArray):Vl × Bool:=(⟨3,0,(kX b wj).1⟩,(kX b wj).2)
def Ky (b:ByteArray):Vl × Bool:=(jr ⟨3,0,b⟩,decide ((jr ⟨3,0,b⟩).kind=2))
def ER (b:ByteArray):Vl × Bool:=(ig (jc b).1,decide ((jc b).2=0) && decide ((jc b).1≤5))
def Ii (b:ByteArray):Vl × Bool:=if (iB (ap b)).2=3 then (ig 3,true) else (wN (iB (ap b)).1,decide ((iB (ap b)).2=0))
def BT (x:Vl × Bool):Value:= .tuple #[.agg (d9 x.1).toArray,.bool x.2]
theorem M7 (b:ByteArray) (g:Nat) (w:World) (hr:Ro w g 0 [.string b]):aC Tryz.prog 135 [.pointer (some ⟨g,0,none⟩)] w (BT (M8 b)):=by
 refine ay Tryz.func135 rfl Tryz.ntmps135 rfl ?_;have hm:Mem w w []:=Mem.refl w;repeat' (first|(rename_i g1;refine jW (id:=1) 3 [.box g1 90 (d9 bK)] (by kernel_rfl) (by kernel_rfl) rfl ?_)|(apply BC;exact rfl;(intro D ht;apply aN (o:=0) (off:=0);exact hr;exact rfl;exact rfl);exact fun _=>rfl)|(apply tr;exact rfl;exact rfl;exact pK;(iterate 3 exact rfl);decide;exact .refl _)|refine sT ?_|refine sG ?_|refine sM fun _=>?_|(refine sC ?_ ?_<;>intro hb<;>try omega)|fail)
 all_goals ((refine lU ?_);rfl)
theorem M5 (b:ByteArray) (hb:b.size≤1000000) (g:Nat) (w:World) (hr:Ro w g 0 [.string b]):aC Tryz.prog 136 [.pointer (some ⟨g,0,none⟩)] w (BT (M6 b)):=by
 refine ay Tryz.func136 rfl Tryz.ntmps136 rfl ?_;repeat' (first|(apply ai;exact rfl;apply aN (o:=0) (off:=0);exact hr;exact rfl;exact rfl)|(apply aa;exact rfl;exact rfl;(intro w hm;exact Me b wj hb w))|refine sT ?_|refine sM fun _=>?_|(refine sC ?_ ?_<;>intro hb<;>try omega)|fail)
 all_goals ((refine lU ?_);rfl)
theorem M4 (b:ByteArray) (hb:b.size≤1000000) (g:Nat) (w:World) (hr:Ro w g 0 [.string b]):aC Tryz.prog 137 [.pointer (some ⟨g,0,none⟩)] w (BT (Ky b)):=by
 refine ay Tryz.func137 rfl Tryz.ntmps137 rfl ?_;have hT:=fun w' =>JZ ⟨3,0,b⟩ rfl hb w';unfold Ky;generalize jr ⟨3,0,b⟩=v at hT;repeat' (first|(apply ai;exact rfl;apply aN (o:=0) (off:=0);exact hr;exact rfl;exact rfl)|(apply aa;exact rfl;exact rfl;(intro w hm;exact hT w))|(rename_i g1 g2;refine qC (id:=2) (g:=g1) (T:=90) (xs' :=d9 v) (R:= [.box g2 90 (d9 v)]) (fun D=> [if D 4 then .int .u8 v.kind else .int .u8 0,if D 4 then .int .i64 v.num else .int .i64 0,if D 4 then .string v.text else .string ax]) (by kernel_rfl) (by kernel_rfl) pK rfl (by intro D hD;simp [hD 4 (by decide),d9]) ?_)|refine sT ?_|refine sG ?_|refine sM fun _=>?_|(refine sC ?_ ?_<;>intro hb<;>try omega)|fail)
 all_goals ((refine lU ?_);rfl)
theorem M3 (b:ByteArray) (hb:b.size≤1000000) (g:Nat) (w:World) (hr:Ro w g 0 [.string b]) (hW:Words w):aC Tryz.prog 139 [.pointer (some ⟨g,0,none⟩)] w (BT (ER b)):=by
 refine ay Tryz.func139 rfl Tryz.ntmps139 rfl ?_;unfold ER;have hC:=fun (w' :World) (h:Words w')=>Ot b hb w' h;generalize jc b=x at hC;obtain ⟨c,e⟩:=x;repeat' (first|(apply ai;exact rfl;apply aN (o:=0) (off:=0);exact hr;exact rfl;exact rfl)|(apply aa (f:=140);exact rfl;exact rfl;(intro w' hm';exact hC w' (hW.next hm')))|(apply aa (f:=141);exact rfl;exact rfl;(intro w' hm';exact nJ c w'))|refine sT ?_|refine sM fun _=>?_|(refine sC ?_ ?_<;>intro hb<;>try omega)|fail)
 all_goals ((refine lU ?_);simp_all [BT,d9])
theorem M0 (b:ByteArray) (hb:b.size≤1000000) (g:Nat) (w:World) (hr:Ro w g 0 [.string b]):aC Tryz.prog 142 [.pointer (some ⟨g,0,none⟩)] w (BT (Ii b)):=by
 refine ay Tryz.func142 rfl Tryz.ntmps142 rfl ?_;unfold Ii;have hC:=fun (w' :World)=>tY b hb w';generalize iB (ap b)=x at hC;obtain ⟨n,e⟩:=x;repeat' (first|(apply ai;exact rfl;apply aN (o:=0) (off:=0);exact hr;exact rfl;exact rfl)|(apply aa;exact rfl;exact rfl;(intro w hm;exact hC w))|(apply aa (f:=141);exact rfl;exact rfl;(intro w' hm';exact nJ 3 w'))|(apply aa (f:=144);exact rfl;exact rfl;(intro w' hm';exact Om n w'))|refine sT ?_|refine sM fun _=>?_|(refine sC ?_ ?_<;>intro hb<;>try omega)|fail)
 all_goals ((refine lU ?_);simp_all [BT,d9])
def HE:List Nat:= [135,136,137,139,142]
def vG:List (ByteArray→Vl × Bool):= [M8,M6,Ky,ER,Ii]
def fE (b:ByteArray):List (ByteArray→Vl × Bool)→Vl
 | []=>⟨3,0,b⟩
 |t::r=>if (t b).2 then (t b).1 else fE b r
def sY (b:ByteArray):Vl:=fE b vG
theorem KC (b:ByteArray) (hb:b.size≤1000000) (g k:Nat) (hk:k<5): ∃ f t,vG.drop k=t::vG.drop (k+1)∧(HE.map fun f=>Value.func (.func f) #[] #[.pointer (some ⟨g,0,none⟩)])[k]? =some (.func (.func f) #[] #[.pointer (some ⟨g,0,none⟩)])∧Callable Tryz.prog f∧
 ∀ w,Ro w g 0 [.string b]→Words w→aC Tryz.prog f [.pointer (some ⟨g,0,none⟩)] w (BT (t b)):=by
 rcases (by omega:k=0∨k=1∨k=2∨k=3∨k=4) with rfl|rfl|rfl|rfl|rfl
 ·exact ⟨_,_,rfl,rfl,inferInstance,fun w hr _=>M7 b g w hr⟩
 ·exact ⟨_,_,rfl,rfl,inferInstance,fun w hr _=>M5 b hb g w hr⟩
 ·exact ⟨_,_,rfl,rfl,inferInstance,fun w hr _=>M4 b hb g w hr⟩
 ·exact ⟨_,_,rfl,rfl,inferInstance,fun w hr hW=>M3 b hb g w hr hW⟩
 ·exact ⟨_,_,rfl,rfl,inferInstance,fun w hr _=>M0 b hb g w hr⟩
theorem DZ (b:ByteArray) (hb:b.size≤1000000) (w:World) (hW:Words w):aC Tryz.prog 90 [.string b] w (.agg (d9 (sY b)).toArray):=by
 refine ay Tryz.func90 rfl Tryz.ntmps90 rfl ?_;repeat' (first|refine zZB ?_|refine sM fun _=>?_|(refine sC ?_ ?_<;>intro hb<;>try omega)|fail)
 rename_i g1 g2 g3;refine aw [1,2,13,14] rfl (fun x:Nat × Vl=> [(4,.bool false),(15,.int .i64 (x.1:Int))]) (fun x=> [.own (some g3) 212 1 5 5 (HE.map fun f=>Value.func (.func f) #[] #[.pointer (some ⟨g1,0,none⟩)]),.box g2 90 (d9 x.2),.box g1 9 [.string b]]) (fun x=>x.1≤5∧sY b=fE b (vG.drop x.1)) (fun x=>5 - x.1) (0,bK) ⟨by omega,rfl⟩ sB mS ?_;rintro ⟨k,v⟩ ⟨hk,hkt⟩;dsimp only at hk hkt ⊢;by_cases hk5:k<5
 ·obtain ⟨f,t,r1,r2,r3,r4⟩:=KC b hb g1 k hk5;rw [r1,fE] at hkt;obtain ⟨⟨v',is⟩,ht⟩: ∃ x,t b=x:=⟨_,rfl⟩;rw [ht] at hkt r4
  cases is with
  |true=>
   rw [if_pos rfl] at hkt;repeat' (first|(apply ai;exact rfl;apply ag (j:=k);exact rfl;exact rfl;exact hk5)|(apply ai;exact rfl;apply aq (off:=0+k*1);exact rfl;exact pK;(rw [Rv,RV];exact r2))|(apply ko;exact rfl;exact rfl;exact r3;exact rfl;(intro w' hm;exact r4 w' (Ro.of_box hm pK) (hW.next hm)))|refine zZA ?_|refine sM fun _=>?_|(refine sC ?_ ?_<;>intro hb<;>try omega)|fail)
   all_goals (rw [hkt];(refine eRC ?_);rfl)
  |false=>
   rw [if_neg (by simp)] at hkt;repeat' (first|(apply ai;exact rfl;apply ag (j:=k);exact rfl;exact rfl;exact hk5)|(apply ai;exact rfl;apply aq (off:=0+k*1);exact rfl;exact pK;(rw [Rv,RV];exact r2))|(apply ko;exact rfl;exact rfl;exact r3;exact rfl;(intro w' hm;exact r4 w' (Ro.of_box hm pK) (hW.next hm)))|refine zZA ?_|refine sM fun _=>?_|(refine sC ?_ ?_<;>intro hb<;>try omega)|fail)
   refine ⟨(k+1,v'),?_,(by first|omega|(dsimp only;omega)),sB,sB,mS⟩;exact ⟨hk5,hkt⟩
 ·have e:k=5:=by omega
  subst e;have hkt:sY b=⟨3,0,b⟩:=hkt;rw [hkt];repeat' (first|refine zZA ?_|refine sM fun _=>?_|(refine sC ?_ ?_<;>intro hb<;>try omega)|fail)
  all_goals first|(exfalso;omega)|((refine eRC ?_);rfl)
end Go.SL
namespace Go.SL
open Go
def xz (b:ByteArray):Vl:=
 if b=ax then bK
 else if (ap b).headD 0=39 then ⟨3,0,mkB (ap b).tail⟩
 else if upB b=nU∨upB b=lT then mW (decide (upB b=nU))
 else if (jc b).2=0∧(jc b).1<6 then ig (jc b).1
 else if (iB (ap b)).2=0 then wN (iB (ap b)).1
 else if (iB (ap b)).2=3 then ig 3
 else ⟨3,0,b⟩
theorem JK {b:ByteArray} (hg:jL b=0):sY b=xz b:=by
 have hT:nU≠lT:=by decide
 have h3:Ky b=if upB b=nU then (mW true,true) else if upB b=lT then (mW false,true) else (ig 2,false):=by
  have hv:pX ⟨3,0,b⟩=0:=by simp [pX,vp,hg]
  simp only [Ky,jr,hv,if_true,Au];split
  ·rfl
  ·split<;>rfl
 have h2:M6 b=if (ap b).headD 0=39 then (⟨3,0,mkB (ap b).tail⟩,true) else (⟨3,0,b⟩,false):=by
  have hq:ap wj= [39]:=rfl;have hs:wj.size=1:=rfl;simp only [M6,kX,hq,hs]
  cases hi:ap b with
  |nil=>simp
  |cons c r=>
   simp only [SA,SK,List.cons.injEq,and_true,SU,List.tail_cons];by_cases hc:c=39
   ·have hsz:b.size=(c::r).length:=by rw [← hi,av]
    have:sub b 1 b.size=mkB r:=by
     refine Lm ?_;rw [eU,hi,hsz];simp
    simp only [hc,if_true,this]
   ·simp only [hc,if_false]
 have hgen: ∀ (p:Prop) [Decidable p] (x y z:Vl),(if (if p then (x,true) else (y,false)).2=true then (if p then (x,true) else (y,false)).1 else z)=if p then x else z:=by
  intro p _ x y z;split<;>simp
 unfold sY vG fE fE fE fE fE fE xz;have e1:(M8 b).2=decide (b=ax):=rfl;rw [e1,h2,h3];by_cases c1:b=ax
 ·simp [c1,M8]
 ·rw [if_neg (by simpa using c1),if_neg c1];by_cases c2:(ap b).headD 0=39
  ·simp only [c2,if_true]
  ·simp only [c2,if_false,RY];by_cases c3:upB b=nU
   ·simp [c3]
   ·by_cases c4:upB b=lT
    ·simp [c4,hT.symm]
    ·simp only [c3,c4,if_false,or_self,RY];by_cases c5:(jc b).2=0∧(jc b).1<6
     ·have:(ER b).2=true:=by simp only [ER,c5.1,decide_true,Ss,decide_eq_true_eq];omega
      rw [if_pos this,if_pos c5];rfl
     ·have:(ER b).2=false:=by
       simp only [ER,Tc,decide_eq_false_iff_not];by_cases h:(jc b).2=0
       ·right;intro h';exact c5 ⟨h,by omega⟩
       ·left;exact h
      rw [if_neg (by simp [this]),if_neg c5];by_cases c6:(iB (ap b)).2=0
      ·simp [Ii,c6]
      ·by_cases c7:(iB (ap b)).2=3
       ·simp [Ii,c7]
       ·simp [Ii,c6,c7]
end Go.SL
