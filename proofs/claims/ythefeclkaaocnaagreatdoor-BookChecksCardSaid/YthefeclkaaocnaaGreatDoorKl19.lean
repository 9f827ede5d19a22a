/-
  Lemmas and walks, put together: D1 D2 S2 S3 D4 Gp D5 Gq D10 D12 E2 K1 Lc Lu Ex S5 S6 K2.
-/
import Derived.Shelf.SlSortCmp.NoneTotal
import Derived.ChangeKeysEq
import Derived.Deep.RegionHeld3
import Derived.Test.YthefeclkaaocnaaGreatDoorKl16
import Derived.Test.YthefeclkaaocnaaGreatDoorKl18
set_option linter.unusedSimpArgs false
set_option linter.unusedVariables false
set_option maxRecDepth 20000
namespace Go.SL
open Go Go.Proofs
attribute [local irreducible] W WL WQ WG WA WX WLI WR WT VOp RW thn blk bS scp bq bF cj aS FnIn FnP
def nZ (a b:ByteArray):ByteArray × Bool:=if (ap a).take b.size=ap b then (sub a b.size a.size,true) else (a,false)
theorem I5 (a b:ByteArray) (ha:a.size≤1000000) (w:World):ay Tryz.prog 192 [.string a,.string b] w (.tuple #[.string (nZ a b).1,.bool (nZ a b).2]):=by
 refine aq Tryz.func192 rfl Tryz.ntmps192 rfl ?_
 have hp:=mh a b
 unfold nZ
 by_cases h:(ap a).take b.size=ap b
 ·
  rw [if_pos h]
  rw [decide_eq_true h] at hp
  have hb:b.size≤a.size:=by
   have:=congrArg List.length h
   rw [LP,au,au] at this
   omega
  repeat' (first|(apply aa;exact rfl;exact rfl;(intro w hm;exact hp w))|refine sT ?_|refine sT2 ?_|refine sM fun _=> ?_|(refine sC ?_ ?_<;>intro hb<;>try omega)|fail)
  all_goals exact ic eIO rfl rfl rfl (.refl _) rfl
 ·
  rw [if_neg h]
  rw [decide_eq_false h] at hp
  repeat' (first|(apply aa;exact rfl;exact rfl;(intro w hm;exact hp w))|refine sT ?_|refine sT2 ?_|refine sM fun _=> ?_|(refine sC ?_ ?_<;>intro hb<;>try omega)|fail)
  all_goals exact ic eIO rfl rfl rfl (.refl _) rfl
theorem GI (a b:ByteArray) (ha:a.size≤1000000) (w:World):ay Tryz.prog 151 [.string a,.string b] w (.tuple #[.string (nZ a b).1,.bool (nZ a b).2]):=by
 refine aq Tryz.func151 rfl Tryz.ntmps151 rfl ?_
 repeat' (first|(apply aa;exact rfl;exact rfl;(intro w hm;exact I5 a b ha w))|refine sT ?_|refine sM fun _=> ?_|(refine sC ?_ ?_<;>intro hb<;>try omega)|fail)
 all_goals exact ic eIO rfl rfl rfl (.refl _) rfl
def H6 (b:ByteArray):Vl × Bool:=(bE,decide (b=av))
def rr:ByteArray:=⟨#[39]⟩
def H4 (b:ByteArray):Vl × Bool:=(⟨3,0,(nZ b rr).1⟩,(nZ b rr).2)
def Fj (b:ByteArray):Vl × Bool:=(gH ⟨3,0,b⟩,decide ((gH ⟨3,0,b⟩).kind=2))
def z6 (b:ByteArray):Vl × Bool:=(fk (f4 b).1,decide ((f4 b).2=0) && decide ((f4 b).1≤5))
def Dt (b:ByteArray):Vl × Bool:=if (fC (ap b)).2=3 then (fk 3,true) else (rJ (fC (ap b)).1,decide ((fC (ap b)).2=0))
def xo (x:Vl × Bool):Value:= .tuple #[.agg (cY x.1).toArray,.bool x.2]
theorem H5 (b:ByteArray) (g:Nat) (w:World) (hr:Ro w g 0 [.string b]):ay Tryz.prog 193 [.pointer (some ⟨g,0,none⟩)] w (xo (H6 b)):=by
 refine aq Tryz.func193 rfl Tryz.ntmps193 rfl ?_
 have hm:Mem w w []:=Mem.refl w
 repeat' (first|(rename_i g1;refine lK (id:=1) 3 [.box g1 172 (cY bE)] (by kernel_rfl) (by kernel_rfl) rfl ?_)|(apply Df;exact rfl;(intro D ht;apply aI (o:=0) (off:=0);exact hr;exact rfl;exact rfl);exact fun _=>rfl)|(apply kL;exact rfl;exact rfl;exact pK;(iterate 3 exact rfl);decide;exact .refl _)|refine sT ?_|refine sG ?_|refine sM fun _=> ?_|(refine sC ?_ ?_<;>intro hb<;>try omega)|fail)
 all_goals ((refine eK ?_);rfl)
theorem HZ (b:ByteArray) (hb:b.size≤1000000) (g:Nat) (w:World) (hr:Ro w g 0 [.string b]):ay Tryz.prog 194 [.pointer (some ⟨g,0,none⟩)] w (xo (H4 b)):=by
 refine aq Tryz.func194 rfl Tryz.ntmps194 rfl ?_
 repeat' (first|(apply ak;exact rfl;apply aI (o:=0) (off:=0);exact hr;exact rfl;exact rfl)|(apply aa;exact rfl;exact rfl;(intro w hm;exact GI b rr hb w))|refine sT ?_|refine sM fun _=> ?_|(refine sC ?_ ?_<;>intro hb<;>try omega)|fail)
 all_goals ((refine eK ?_);rfl)
theorem HY (b:ByteArray) (hb:b.size≤1000000) (g:Nat) (w:World) (hr:Ro w g 0 [.string b]):ay Tryz.prog 195 [.pointer (some ⟨g,0,none⟩)] w (xo (Fj b)):=by
 refine aq Tryz.func195 rfl Tryz.ntmps195 rfl ?_
 have hT:=fun w' =>ED ⟨3,0,b⟩ rfl hb w'
 unfold Fj
 generalize gH ⟨3,0,b⟩=v at hT
 repeat' (first|(apply ak;exact rfl;apply aI (o:=0) (off:=0);exact hr;exact rfl;exact rfl)|(apply aa;exact rfl;exact rfl;(intro w hm;exact hT w))|(rename_i g1 g2;refine vz (id:=2) (g:=g1) (T:=172) (xs' :=cY v) (R:= [.box g2 172 (cY v)]) (fun D=> [if D 4 then .int .u8 v.kind else .int .u8 0,if D 4 then .int .i64 v.num else .int .i64 0,if D 4 then .string v.text else .string av]) (by kernel_rfl) (by kernel_rfl) pK rfl (by intro D hD;simp [hD 4 (by decide),cY]) ?_)|refine sT ?_|refine sG ?_|refine sM fun _=> ?_|(refine sC ?_ ?_<;>intro hb<;>try omega)|fail)
 all_goals ((refine eK ?_);rfl)
theorem HW (b:ByteArray) (hb:b.size≤1000000) (g:Nat) (w:World) (hr:Ro w g 0 [.string b]) (hW:Words w):ay Tryz.prog 197 [.pointer (some ⟨g,0,none⟩)] w (xo (z6 b)):=by
 refine aq Tryz.func197 rfl Tryz.ntmps197 rfl ?_
 unfold z6
 have hC:=fun (w' :World) (h:Words w')=>Jl b hb w' h
 generalize f4 b=x at hC
 obtain ⟨c,e⟩:=x
 repeat' (first|(apply ak;exact rfl;apply aI (o:=0) (off:=0);exact hr;exact rfl;exact rfl)|(apply aa (f:=198);exact rfl;exact rfl;(intro w' hm';exact hC w' (hW.next hm')))|(apply aa (f:=199);exact rfl;exact rfl;(intro w' hm';exact kG c w'))|refine sT ?_|refine sM fun _=> ?_|(refine sC ?_ ?_<;>intro hb<;>try omega)|fail)
 all_goals ((refine eK ?_);simp_all [xo,cY])
theorem HV (b:ByteArray) (hb:b.size≤1000000) (g:Nat) (w:World) (hr:Ro w g 0 [.string b]):ay Tryz.prog 200 [.pointer (some ⟨g,0,none⟩)] w (xo (Dt b)):=by
 refine aq Tryz.func200 rfl Tryz.ntmps200 rfl ?_
 unfold Dt
 have hC:=fun (w' :World)=>pQ b hb w'
 generalize fC (ap b)=x at hC
 obtain ⟨n,e⟩:=x
 repeat' (first|(apply ak;exact rfl;apply aI (o:=0) (off:=0);exact hr;exact rfl;exact rfl)|(apply aa;exact rfl;exact rfl;(intro w hm;exact hC w))|(apply aa (f:=199);exact rfl;exact rfl;(intro w' hm';exact kG 3 w'))|(apply aa (f:=202);exact rfl;exact rfl;(intro w' hm';exact Jk n w'))|refine sT ?_|refine sM fun _=> ?_|(refine sC ?_ ?_<;>intro hb<;>try omega)|fail)
 all_goals ((refine eK ?_);simp_all [xo,cY])
def CU:List Nat:= [193,194,195,197,200]
def qV:List (ByteArray→Vl × Bool):= [H6,H4,Fj,z6,Dt]
def dO (b:ByteArray):List (ByteArray→Vl × Bool)→Vl
 | []=>⟨3,0,b⟩
 |t::r=>if (t b).2 then (t b).1 else dO b r
def o6 (b:ByteArray):Vl:=dO b qV
theorem Fm (b:ByteArray) (hb:b.size≤1000000) (g k:Nat) (hk:k<5): ∃ f t,qV.drop k=t::qV.drop (k+1)∧(CU.map fun f=>Value.func (.func f) #[] #[.pointer (some ⟨g,0,none⟩)])[k]? =some (.func (.func f) #[] #[.pointer (some ⟨g,0,none⟩)])∧Callable Tryz.prog f∧
  ∀ w,Ro w g 0 [.string b]→Words w→ay Tryz.prog f [.pointer (some ⟨g,0,none⟩)] w (xo (t b)):=by
 rcases (by omega:k=0∨k=1∨k=2∨k=3∨k=4) with rfl|rfl|rfl|rfl|rfl
 ·
  exact ⟨_,_,rfl,rfl,inferInstance,fun w hr _=>H5 b g w hr⟩
 ·
  exact ⟨_,_,rfl,rfl,inferInstance,fun w hr _=>HZ b hb g w hr⟩
 ·
  exact ⟨_,_,rfl,rfl,inferInstance,fun w hr _=>HY b hb g w hr⟩
 ·
  exact ⟨_,_,rfl,rfl,inferInstance,fun w hr hW=>HW b hb g w hr hW⟩
 ·
  exact ⟨_,_,rfl,rfl,inferInstance,fun w hr _=>HV b hb g w hr⟩
set_option maxHeartbeats 1000000 in
theorem zi (b:ByteArray) (hb:b.size≤1000000) (w:World) (hW:Words w):ay Tryz.prog 152 [.string b] w (.agg (cY (o6 b)).toArray):=by
 refine aq Tryz.func152 rfl Tryz.ntmps152 rfl ?_
 repeat' (first|refine sT ?_|refine sS ?_|refine sM fun _=> ?_|(refine sC ?_ ?_<;>intro hb<;>try omega)|fail)
 rename_i g1 g2 g3
 refine ax [1,2,13,14] rfl (fun x:Nat × Vl=> [(4,.bool false),(15,.int .i64 (x.1:Int))]) (fun x=> [.own (some g3) 279 1 5 5 (CU.map fun f=>Value.func (.func f) #[] #[.pointer (some ⟨g1,0,none⟩)]),.box g2 172 (cY x.2),.box g1 9 [.string b]]) (fun x=>x.1≤5∧o6 b=dO b (qV.drop x.1)) (fun x=>5 - x.1) (0,bE) ⟨by omega,rfl⟩ sB mS ?_
 rintro ⟨k,v⟩ ⟨hk,hkt⟩
 dsimp only at hk hkt ⊢
 by_cases hk5:k<5
 ·
  obtain ⟨f,t,r1,r2,r3,r4⟩:=Fm b hb g1 k hk5
  rw [r1,dO] at hkt
  obtain ⟨⟨v',is⟩,ht⟩: ∃ x,t b=x:=⟨_,rfl⟩
  rw [ht] at hkt r4
  cases is with
  |true=>
   rw [if_pos rfl] at hkt
   repeat' (first|(apply ak;exact rfl;apply aj (j:=k);exact rfl;exact rfl;exact hk5)|(apply ak;exact rfl;apply bU (off:=0+k*1);exact rfl;exact pK;(rw [LZ,Ni];exact r2))|(apply bC;exact rfl;exact rfl;exact r3;exact rfl;(intro w' hm;exact r4 w' (Ro.of_box hm pK) (hW.next hm)))|refine sT ?_|refine sS ?_|refine sN ?_|refine sM fun _=> ?_|(refine sC ?_ ?_<;>intro hb<;>try omega)|fail)
   all_goals (rw [hkt];(refine eRC ?_);rfl)
  |false=>
   rw [if_neg (by simp)] at hkt
   repeat' (first|(apply ak;exact rfl;apply aj (j:=k);exact rfl;exact rfl;exact hk5)|(apply ak;exact rfl;apply bU (off:=0+k*1);exact rfl;exact pK;(rw [LZ,Ni];exact r2))|(apply bC;exact rfl;exact rfl;exact r3;exact rfl;(intro w' hm;exact r4 w' (Ro.of_box hm pK) (hW.next hm)))|refine sT ?_|refine sS ?_|refine sN ?_|refine sM fun _=> ?_|(refine sC ?_ ?_<;>intro hb<;>try omega)|fail)
   refine ⟨(k+1,v'),?_,(by first|omega|(dsimp only;omega)),sB,sB,mS⟩
   exact ⟨hk5,hkt⟩
 ·
  have e:k=5:=by omega
  subst e
  have hkt:o6 b=⟨3,0,b⟩:=hkt
  rw [hkt]
  repeat' (first|refine sT ?_|refine sS ?_|refine sN ?_|refine sM fun _=> ?_|(refine sC ?_ ?_<;>intro hb<;>try omega)|fail)
  all_goals first|(exfalso;omega)|((refine eRC ?_);rfl)
theorem Kn {a:ByteArray} {i:Nat} (h:i<a.size):fV (sub a i (i+1))=if bp (bat a i) then 0 else 4:=by
 have h1:ap (sub a i (i+1))= [bat a i]:=by
  rw [dD,ba h,Nat.add_sub_cancel_left]
  rfl
 have h2:(sub a i (i+1)).size=1:=by rw [bQ a (by omega)];omega
 simp only [fV,h2,kZ,h1]
 cases h:bp (bat a i)<;>simp [h]
structure Mn where
 formula:Bool
 v:Vl
 tree:List Nd
def eqB:ByteArray:=⟨#[61]⟩
def oE:Mn:=⟨false,bE,[]⟩
def ofP (b:ByteArray):Mn × Int × Int:=
 if 256<b.size then (oE,0,5)
 else match (ap b).findIdx? (fun c=> !bp c) with
  |some i=>(oE,(i:Int),4)
  |none=>
   if (nZ b eqB).2=false then (⟨false,o6 b,[]⟩,0,0)
   else match cP (bG dF (ap (nZ b eqB).1)) ((nZ b eqB).1.size:Int) with
    |(t,at_,e)=>if e≠0 then (oE,IntKind.i64.wrap (at_+1),e) else (⟨true,bE,t⟩,0,0)
def zb (m:Mn) (tv:Value):List Value:= [.bool m.formula,.int .u8 m.v.kind,.int .i64 m.v.num,.string m.v.text,tv]
def ofV (A:Option Nat) (cap:Nat) (r:Mn × Int × Int):Value:= .tuple #[.agg (zb r.1 (sl A r.1.tree.length cap)).toArray,.int .i64 r.2.1,.int .i64 r.2.2]
set_option maxHeartbeats 2000000 in
theorem JA (b:ByteArray) (w:World) (hW:Words w):aS Tryz.prog 106 [.string b] w fun v H=> ∃ A cap,v=ofV A cap (ofP b)∧H= [.own A 174 11 (ofP b).1.tree.length cap ((ofP b).1.tree.flatMap bY)]:=by
 refine aq Tryz.func106 rfl Tryz.ntmps106 rfl ?_
 refine aJ 174 11 ?_
 unfold ofP
 by_cases hlen:256<b.size
 ·
  rw [if_pos hlen]
  repeat' (first|refine sT ?_|refine sS ?_|refine sT2 ?_|refine sM fun _=> ?_|(refine sC ?_ ?_<;>intro hb<;>try omega)|fail)
  all_goals first
   |(exfalso;omega)
   |exact eR (.inl rfl) rfl rfl pK rfl rfl rfl (H' := [.own none 174 11 0 0 []]) mS ⟨none,0,rfl,rfl⟩
 rw [if_neg hlen]
 repeat' (first|refine sT ?_|refine sS ?_|refine sT2 ?_|refine sM fun _=> ?_|(refine sC ?_ ?_<;>intro hb<;>try omega)|fail)
 all_goals try (exfalso;omega)
 rename_i g2
 refine ax [0,2,14] rfl (fun i:Nat=> [(15,.int .i64 (i:Int))]) (fun _=> [.box g2 192 [.bool false,.int .u8 0,.int .i64 0,.string av,.slice none 0 0],.own none 174 11 0 0 []]) (fun i=>i≤b.size∧ ∀ j,j<i→bp (bat b j)=true) (fun i=>b.size - i) 0 ⟨by omega,fun j h=>by omega⟩ sB mS ?_
 rintro i ⟨hi,hpl⟩
 by_cases hlt:i<b.size
 ·
  have hg:=Kn hlt
  have hG:=fun w=>rS (sub b i (i+1)) w
  rw [hg] at hG
  by_cases hc:bp (bat b i)=true
  ·
   rw [if_pos hc] at hG
   repeat' (first|(apply ak;exact rfl;apply eO;(iterate 3 exact rfl);exact ⟨by omega,by omega⟩)|(apply aa;exact rfl;exact rfl;(intro w hm;exact hG w))|refine sT ?_|refine sS ?_|refine sT2 ?_|refine sN ?_|refine sM fun _=> ?_|(refine sC ?_ ?_<;>intro hb<;>try omega)|fail)
   all_goals try (exfalso;omega)
   refine ⟨i+1,?_,(by first|omega|(dsimp only;omega)),sB,sB,mS⟩
   refine ⟨hlt,fun j hj=> ?_⟩
   rcases (by omega:j<i∨j=i) with h|rfl
   ·
    exact hpl j h
   ·
    exact hc
  ·
   rw [if_neg hc] at hG
   repeat' (first|(apply ak;exact rfl;apply eO;(iterate 3 exact rfl);exact ⟨by omega,by omega⟩)|(apply aa;exact rfl;exact rfl;(intro w hm;exact hG w))|refine sT ?_|refine sS ?_|refine sT2 ?_|refine sN ?_|refine sM fun _=> ?_|(refine sC ?_ ?_<;>intro hb<;>try omega)|fail)
   all_goals try (exfalso;omega)
   have hf:(ap b).findIdx? (fun c=> !bp c)=some i:=lz hlt (by simp [hc]) fun j hj=>by rw [hpl j hj];rfl
   rw [hf]
   exact eR (.inl rfl) rfl rfl pK rfl rfl rfl (H' := [.own none 174 11 0 0 []]) mS ⟨none,0,rfl,rfl⟩
 ·
  have e:i=b.size:=by omega
  subst e
  have hf:(ap b).findIdx? (fun c=> !bp c)=none:=kz fun j hj=>by rw [hpl j hj];rfl
  rw [hf]
  dsimp only
  have hcut:=fun w=>GI b eqB (by omega) w
  obtain ⟨⟨rest,is⟩,hx⟩: ∃ x,nZ b eqB=x:=⟨_,rfl⟩
  rw [hx] at hcut ⊢
  cases is with
  |false=>
   rw [if_pos rfl]
   repeat' (first|(apply aa;exact rfl;exact rfl;(intro w hm;exact hcut w))|(apply aa (f:=152);exact rfl;exact rfl;(intro w' hm';exact zi b (by omega) w' (hW.next hm')))|refine sT ?_|refine sS ?_|refine sT2 ?_|refine sN ?_|refine sM fun _=> ?_|(refine sC ?_ ?_<;>intro hb<;>try omega)|fail)
   all_goals try (exfalso;omega)
   exact eR (.inl rfl) rfl rfl pK rfl rfl rfl (H' := [.own none 174 11 0 0 []]) mS ⟨none,0,rfl,rfl⟩
  |true=>
   rw [if_neg (by simp)]
   dsimp only
   have hF:=fun (w' :World) (h:Words w')=>BO rest w' h _ rfl
   obtain ⟨⟨t,at0,e0⟩,hr⟩: ∃ x,cP (bG dF (ap rest)) (rest.size:Int)=x:=⟨_,rfl⟩
   simp only [hr,Cu] at hF
   rw [hr]
   dsimp only
   by_cases he:e0≠0
   ·
    rw [if_pos he]
    repeat' (first|(apply aa;exact rfl;exact rfl;(intro w hm;exact hcut w))|(apply aG (f:=153);exact rfl;exact rfl;(intro w' hm';exact hF w' (hW.next hm'));rintro _ _ ⟨A,cap,rfl,rfl⟩)|(apply ak;exact rfl;apply qO;exact rfl;exact rfl)|refine sT ?_|refine sS ?_|refine sT2 ?_|refine sN ?_|refine sM fun _=> ?_|(refine sC ?_ ?_<;>intro hb<;>try omega)|fail)
    all_goals try (exfalso;omega)
    exact eR (.inl rfl) rfl rfl pK rfl rfl rfl (H' := [.own none 174 11 0 0 []]) mS ⟨none,0,rfl,rfl⟩
   ·
    rw [if_neg he]
    repeat' (first|(apply aa;exact rfl;exact rfl;(intro w hm;exact hcut w))|(apply aG (f:=153);exact rfl;exact rfl;(intro w' hm';exact hF w' (hW.next hm'));rintro _ _ ⟨A,cap,rfl,rfl⟩)|(apply ak;exact rfl;apply qO;exact rfl;exact rfl)|refine sT ?_|refine sS ?_|refine sT2 ?_|refine sN ?_|refine sM fun _=> ?_|(refine sC ?_ ?_<;>intro hb<;>try omega)|fail)
    all_goals try (exfalso;omega)
    exact eR (.inl rfl) rfl rfl pK rfl rfl rfl (H' := [.own A 174 11 t.length cap (t.flatMap bY)]) mS ⟨A,cap,rfl,rfl⟩
end Go.SL
namespace Go.Proofs
open Go Go.Shelf Go.RowKit Go.Lib Go.Sort Go.SL
def Tryz.sortRf_ren:Go.Shelf.Ren:=⟨fun|6=>87|15=>138|14=>137|28=>177|29=>178|20=>169|21=>170|22=>171|23=>172|24=>173|25=>174|26=>175|27=>176|46=>217|47=>218|48=>219|49=>220|50=>221|57=>271|n=>n,fun|22=>65|24=>51|25=>155|3=>3|39=>75|0=>0|53=>265|55=>34|4=>4|46=>258|45=>257|50=>262|5=>5|9=>9|66=>303|70=>307|76=>351|77=>352|n=>n,fun|n=>n⟩
theorem Tryz.sortRf:Go.Proofs.SlLaysF0.n6 Tryz.prog Tryz.sortRf_ren:={
 mixed:=by kernel_rfl
 f6:=⟨Tryz.f87.name,by decide,Tryz.func87.trans (congrArg some (by kernel_rfl))⟩
 f14:=⟨Tryz.f137.name,by decide,Tryz.func137.trans (congrArg some (by kernel_rfl))⟩
 f15:=Tryz.func138.trans (congrArg some (by kernel_rfl))
 f20:=⟨Tryz.f169.name,by decide,Tryz.func169.trans (congrArg some (by kernel_rfl))⟩
 f21:=⟨Tryz.f170.name,by decide,Tryz.func170.trans (congrArg some (by kernel_rfl))⟩
 f22:=⟨Tryz.f171.name,by decide,Tryz.func171.trans (congrArg some (by kernel_rfl))⟩
 f23:=⟨Tryz.f172.name,by decide,Tryz.func172.trans (congrArg some (by kernel_rfl))⟩
 f24:=⟨Tryz.f173.name,by decide,Tryz.func173.trans (congrArg some (by kernel_rfl))⟩
 f25:=⟨Tryz.f174.name,by decide,Tryz.func174.trans (congrArg some (by kernel_rfl))⟩
 f26:=⟨Tryz.f175.name,by decide,Tryz.func175.trans (congrArg some (by kernel_rfl))⟩
 f27:=⟨Tryz.f176.name,by decide,Tryz.func176.trans (congrArg some (by kernel_rfl))⟩
 f28:=Tryz.func177.trans (congrArg some (by kernel_rfl))
 f29:=Tryz.func178.trans (congrArg some (by kernel_rfl))
 f46:=⟨Tryz.f217.name,by decide,Tryz.func217.trans (congrArg some (by kernel_rfl))⟩
 f47:=Tryz.func218.trans (congrArg some (by kernel_rfl))
 f48:=Tryz.func219.trans (congrArg some (by kernel_rfl))
 f49:=⟨Tryz.f220.name,by decide,Tryz.func220.trans (congrArg some (by kernel_rfl))⟩
 f50:=⟨Tryz.f221.name,by decide,Tryz.func221.trans (congrArg some (by kernel_rfl))⟩
 f57:=⟨Tryz.f271.name,by decide,Tryz.func271.trans (congrArg some (by kernel_rfl))⟩
 t0:=Tryz.underlying0
 a0:=Tryz.isAgg0
 z0:=Tryz.sizeOf0
 v0:=Tryz.zeroValue0
 t3:=Tryz.underlying3
 a3:=Tryz.isAgg3
 z3:=Tryz.sizeOf3
 v3:=Tryz.zeroValue3
 t4:=Tryz.underlying4
 a4:=Tryz.isAgg4
 z4:=Tryz.sizeOf4
 v4:=Tryz.zeroValue4
 t5:=Tryz.underlying5
 a5:=Tryz.isAgg5
 z5:=Tryz.sizeOf5
 v5:=Tryz.zeroValue5
 t9:=Tryz.underlying9
 a9:=Tryz.isAgg9
 z9:=Tryz.sizeOf9
 v9:=Tryz.zeroValue9
 t22:=Tryz.underlying65
 a22:=Tryz.isAgg65
 z22:=Tryz.sizeOf65
 v22:=Tryz.zeroValue65
 t25:=Tryz.underlying155
 a25:=Tryz.isAgg155
 z25:=Tryz.sizeOf155
 v25:=Tryz.zeroValue155
 t39:=Tryz.underlying75
 a39:=Tryz.isAgg75
 z39:=Tryz.sizeOf75
 v39:=Tryz.zeroValue75
 t45:=Tryz.underlying257
 a45:=Tryz.isAgg257
 z45:=Tryz.sizeOf257
 v45:=Tryz.zeroValue257
 t46:=Tryz.underlying258
 a46:=Tryz.isAgg258
 z46:=Tryz.sizeOf258
 v46:=Tryz.zeroValue258
 t50:=Tryz.underlying262
 a50:=Tryz.isAgg262
 z50:=Tryz.sizeOf262
 v50:=Tryz.zeroValue262
 t53:=Tryz.underlying265
 a53:=Tryz.isAgg265
 z53:=Tryz.sizeOf265
 v53:=Tryz.zeroValue265
 t55:=Tryz.underlying34
 a55:=Tryz.isAgg34
 z55:=Tryz.sizeOf34
 v55:=Tryz.zeroValue34
 t66:=Tryz.underlying303
 a66:=Tryz.isAgg303
 z66:=Tryz.sizeOf303
 v66:=Tryz.zeroValue303
 t70:=Tryz.underlying307
 a70:=Tryz.isAgg307
 z70:=Tryz.sizeOf307
 v70:=Tryz.zeroValue307
 t76:=Tryz.underlying351
 a76:=Tryz.isAgg351
 z76:=Tryz.sizeOf351
 v76:=Tryz.zeroValue351
 t77:=Tryz.underlying352
 a77:=Tryz.isAgg352
 z77:=Tryz.sizeOf352
 v77:=Tryz.zeroValue352 }
instance:Inhabited Rf:=⟨⟨0,0⟩⟩
end Go.Proofs
namespace Go.SL
open Go Go.Proofs Go.Sort Go.Shelf
def sortRf (L:List Rf):List Rf:=L.mergeSort fun x y=> !(fj y x)
end Go.SL
namespace Go.SL
open Go Go.Proofs
attribute [local irreducible] W WL WQ WG WA WX WLI WR WT VOp RW thn blk bS scp bq bF cj aS FnIn FnP
def K8 (a:Rf):Value:= .agg (cB a).toArray
def gB (gg gm:Nat) (es:List (Rf × Value × Nat)) (clock:Nat):List Blk:= [.box gg 153 [.map (some gm)],.obj gm (lY K8 es clock)]
end Go.SL
namespace Go.SL
open Go
abbrev Gr:=List (Rf × List Nd × List Us)
def yF (G:Gr):List Rf:=G.map fun e=>e.1
def SortG (G:Gr):Prop:=G.Pairwise fun x y=>fj x.1 y.1=true
def rK (G:Gr) (a:Rf):Option (List Nd × List Us):=(G.find? fun e=>decide (e.1=a)).map fun e=>e.2
def Jt (G:Gr) (a:Rf):List Nd:=((rK G a).map fun x=>x.1).getD []
def xj (G:Gr) (a:Rf):List Us:=((rK G a).map fun x=>x.2).getD []
def Fq (us:List Us) (r:Rct):Bool:=us.any (KS r)
def z1 (G:Gr) (r:Rct):List Rf:=if dS r≠0 then [] else (G.filter fun e=>Fq e.2.2 r).map fun e=>e.1
theorem D6 (a:Rf):fj a a=false:=by simp [fj]
theorem F7 {a b:Rf} (h:fj a b=true):a≠b:=by
 rintro rfl
 rw [D6] at h
 cases h
theorem SortG.nodup {G:Gr} (h:SortG G):(yF G).Nodup:=by
 rw [yF,List.Nodup,List.pairwise_map]
 exact h.imp fun h=>F7 h
theorem Be {G:Gr} (h:SortG G) {a:Rf} {x:List Nd × List Us}:rK G a=some x↔(a,x)∈G:=by
 constructor
 ·
  intro hl
  obtain ⟨e,he,rfl⟩:=My.1 hl
  have h1:=List.find?_some he
  have h2:=N7 he
  simp only [decide_eq_true_eq] at h1
  subst h1
  exact h2
 ·
  intro hm
  have hn:=h.nodup
  cases hf:G.find? fun e=>decide (e.1=a) with
  |none=>
   rw [List.find?_eq_none] at hf
   exact absurd (hf _ hm) (by simp)
  |some e=>
   have h1:=List.find?_some hf
   have h2:=N7 hf
   simp only [decide_eq_true_eq] at h1
   have:=rR (fun e:Rf × List Nd × List Us=>e.1) hn h2 hm h1
   rw [rK,hf,this];rfl
theorem Bf {G:Gr} {a:Rf}:rK G a=none↔ ∀ e∈G,e.1≠a:=by
 rw [rK,Option.map_eq_none_iff,List.find?_eq_none]
 simp
end Go.SL
namespace Go.SL
open Go Go.Proofs
attribute [local irreducible] W WL WQ WG WA WX WLI WR WT WC VOp RW thn blk bS scp bq bF cj aS FnIn FnP ceP
theorem bK {P:Program} {n:Fr} {w0:World} {Q:bI} {s:az} {H:List Blk} {l:List Oper} {id:Nat} (es ps:List Nat) (hm:P.follows .mixedOrders=true) (hB:Region.lexB .any l.toArray=true) (hch:BD l es ps=true)
  (h:WC P n w0 l H es ps Q l 0 s H):W P n w0 (.region id l.toArray true) Q s H:=j6 es ps H hm hB hch (MSub.refl H) h
structure En where
 at_:Rf
 ta:Option Addr
 tc:Nat
 ua:Option Addr
 uc:Nat
 tree:List Nd
 uses:List Us
 born:Nat
def En.tv (e:En):Value:= .slice e.ta e.tree.length e.tc
def En.uv (e:En):Value:= .slice e.ua e.uses.length e.uc
def En.m (e:En):Rf × Value × Nat:=(e.at_,.agg #[e.tv,e.uv],e.born)
def K4 (R:List Blk) (v:Value) (m:Nat) (xs:List Value):Prop:= ∀ w0 w,Mem w0 w R→Reads w v m xs
structure EnOk (R:List Blk) (e:En):Prop where
 tree:K4 R e.tv e.tree.length (e.tree.flatMap bY)
 uses:K4 R e.uv e.uses.length (e.uses.flatMap Ld)
 tl:e.tree.length≤1000000
 ul:e.uses.length≤1000000
def JB (a:Rf):En:=⟨a,none,0,none,0,[],[],0⟩
def uL (E:List En) (a:Rf):Option En:=E.find? fun e=>decide (e.at_=a)
def ww (E:List En) (a:Rf):En:=(uL E a).getD (JB a)
end Go.SL
namespace Go.SL
open Go
def En.abs (e:En):Rf × List Nd × List Us:=(e.at_,e.tree,e.uses)
structure GOk (R:List Blk) (E:List En) (clock:Nat) (G:Gr):Prop where
 ok:MapOk (E.map En.m) clock
 en: ∀ e∈E,EnOk R e
 rel: ∀ x,x∈E.map En.abs↔x∈G
 sort:SortG G
theorem GOk.look {R:List Blk} {E:List En} {clock:Nat} {G:Gr} (h:GOk R E clock G) (a:Rf):(uL E a).map (fun e=>(e.tree,e.uses))=rK G a:=by
 cases hf:uL E a with
 |some e=>
  have h1:=List.find?_some hf
  simp only [decide_eq_true_eq] at h1
  have h2:(a,e.tree,e.uses)∈G:=by
   rw [← h.rel]
   refine Nk.2 ⟨e,N7 hf,?_⟩
   rw [← h1];rfl
  rw [(Be h.sort).2 h2];rfl
 |none=>
  rw [uL,List.find?_eq_none] at hf
  symm
  rw [Ol,Bf]
  intro x hx
  rw [← h.rel] at hx
  obtain ⟨e,he,rfl⟩:=Nk.1 hx
  have:=hf e he
  simpa [En.abs] using this
theorem GOk.uses {R:List Blk} {E:List En} {clock:Nat} {G:Gr} (h:GOk R E clock G) (a:Rf):(ww E a).uses=xj G a:=by
 rw [xj,← h.look a,ww]
 cases uL E a<;>rfl
theorem GOk.tree {R:List Blk} {E:List En} {clock:Nat} {G:Gr} (h:GOk R E clock G) (a:Rf):(ww E a).tree=Jt G a:=by
 rw [Jt,← h.look a,ww]
 cases uL E a<;>rfl
end Go.SL
namespace Go.SL
open Go Go.Proofs
attribute [local irreducible] W WL WQ WG WA WX WLI WR WT WC VOp RW thn blk bS scp bq bF cj aS FnIn FnP ceP uY ou oS
theorem gj {w0:World} {s:az} {H:List Blk} {ty t' :TypeId} {x y:Operand} {a b:Rf} {c:Bool} (h:decide (a≠b)=c) (hx:ev s x=some (.agg (cB a).toArray)) (hy:ev s y=some (.agg (cB b).toArray)):VOp Tryz.prog w0 s H (.binOp .neq 51 x y t') ty (.bool c):=by
 have h1:=JU (w0:=w0) (H:=H) (ty:=ty) (t' :=t') hx hy
 rw [CT] at h1
 rw [← h]
 have e:(!decide (a=b))=decide (a≠b):=by simp
 rwa [e] at h1
end Go.SL
namespace Go.SL
open Go Go.Proofs
attribute [local irreducible] W WL WQ WG WA WX WLI WR WT WC VOp RW thn blk bS scp bq bF cj aS FnIn FnP ceP
structure Et where
 at_:Rf
 input:ByteArray
def aH (e:Et):List Value:= [.int .i64 e.at_.col,.int .i64 e.at_.row,.string e.input]
theorem aW (e:Et):(aH e).length=3:=rfl
def EI:Et:=⟨⟨0,0⟩,av⟩
def jk (b:Option Rf) (e:Et):Int:=if e.at_.valid=false then 3 else if (match b with|some p=>fj p e.at_|none=>true)=false then 12 else if e.input=av then 2 else (ofP e.input).2.2
def fI:Nat→Option Rf→List Et→Int × Int
 |_,_,[]=>(0,0)
 |i,b,e::r=>if jk b e≠0 then ((i:Int),jk b e) else fI (i+1) (some e.at_) r
def gS (L:List Et):Int × Int:=fI 0 none L
def ia (L:List Et) (i:Nat):Option Rf:=if i=0 then none else (L[i - 1]?).map Et.at_
set_option maxHeartbeats 2000000 in
theorem tI (L:List Et) (tv:Value) (w:World) (ht:Reads w tv L.length (L.flatMap aH)) (hlen:L.length≤1000000) (hW:Words w):
    ay Tryz.prog 50 [tv] w (.tuple #[.int .i64 (gS L).1,.int .i64 (gS L).2]):=by
  obtain ⟨Al,cl,rfl,hl1,hl2,hl3⟩:=ht
  refine aq Tryz.func50 rfl Tryz.ntmps50 rfl ?_
  repeat' (first|refine sT ?_|refine sS ?_|refine sM fun _=> ?_|(refine sC ?_ ?_<;>intro hb<;>try omega)|fail)
  refine ax [0,2,3,9,10] rfl (fun i:Nat=> [(11,.int .i64 (i:Int))]) (fun _=> []) (fun i=>i≤L.length∧gS L=fI i (ia L i) (L.drop i)) (fun i=>L.length - i) 0 ⟨by omega,rfl⟩ sB (.refl _) ?_
  rintro i ⟨hi,hck⟩
  by_cases hlt:i<L.length
  · obtain ⟨gl,ol,rfl,hrl⟩:=hl3 (by omega)
    have he:=hrl.elem aW i hlt
    have hprev: ∀ h:0<i,Ro w gl (ol+(i - 1)*3) (aH L[i - 1]):=fun h=>hrl.elem aW (i - 1) (by omega)
    have hbef: ∀ h:0<i,ia L i=some L[i - 1].at_:=fun h=>by unfold ia;rw [if_neg (by omega),LF (by omega)];rfl
    have hbef0:i=0→ia L i=none:=fun h=>by unfold ia;rw [if_pos h]
    have hnext:ia L (i+1)=some L[i].at_:=by unfold ia;rw [if_neg (by omega),M3,LF hlt];rfl
    rw [LJ hlt,fI,← hnext] at hck
    generalize L[i]=e at he hck
    have hV: ∀ w',ay Tryz.prog 64 [.agg (cB e.at_).toArray] w' (.bool e.at_.valid):=fun w' =>jG e.at_.col e.at_.row w'
    have hO:=fun (w' :World) (H' :List Blk) (hm:Mem w w' H')=>JA e.input w' (hW.next hm)
    by_cases h0:0<i
    · have hp:=hprev h0
      rw [hbef h0] at hck
      generalize L[i - 1]=b at hp hck
      have hL:=fun w' =>wJ b.at_ e.at_ w'
      unfold jk at hck
      simp only at hck
      have hofV: ∀ (A:Option Nat) (cap:Nat),ofV A cap (ofP e.input)= .tuple #[.agg (zb (ofP e.input).1 (sl A (ofP e.input).1.tree.length cap)).toArray,.int .i64 (ofP e.input).2.1,.int .i64 (ofP e.input).2.2]:=fun _ _=>rfl
      simp only [hofV] at hO
      generalize ofP e.input=o at hO hck
      obtain ⟨⟨f1,f2,f3⟩,oa,oe⟩:=o
      simp only [zb] at hO
      simp only at hck
      generalize e.at_.valid=vd at hV hck
      generalize fj b.at_ e.at_=ls at hL hck
      repeat' (first|(apply ak (d:=14);exact rfl;apply aj;exact rfl;exact rfl;exact hlt)|(apply ak (d:=15);exact rfl;apply aA;exact rfl;exact he;exact rfl)|(apply dm (d:=29);(iterate 3 exact rfl);apply dY (o:=ol+(i - 1)*3) (off:=0) hp (ys:=cB b.at_);(iterate 3 exact rfl))|(apply aa;exact rfl;exact rfl;(intro w hm;exact hV w))|(apply (bK (id:=6) [11] []);kernel_rfl;kernel_rfl;kernel_rfl)|(apply dm;(iterate 3 exact rfl);apply aj (j:=i - 1);exact rfl;exact rfl;omega)|(apply aa (f:=60);exact rfl;exact rfl;(intro w' hm;exact hL w'))|(apply aG (f:=106);exact rfl;exact rfl;(intro w' hm;exact hO w' _ hm);rintro _ _ ⟨A,cap,rfl,rfl⟩)|refine sT ?_|refine sS ?_|refine sW ?_|refine sN ?_|refine sWN ?_|refine sM fun _=> ?_|(refine sC ?_ ?_<;>intro hb<;>try omega)|(refine sCW ?_ ?_<;>intro hb<;>try omega)|fail)
      all_goals clear hofV
      all_goals first
        |(refine ic eIO rfl rfl rfl (.nil _) ?_;rw [hck];simp_all [av];done)
        | (refine ⟨i + 1, ⟨hlt, ?_⟩, by omega, ?_, ?_, .nil _⟩
           · rw [hck];simp_all [av]
           · exact sB
           · exact sB)
    · have h00:i=0:=by omega
      rw [hbef0 h00] at hck
      unfold jk at hck
      simp only at hck
      have hofV: ∀ (A:Option Nat) (cap:Nat),ofV A cap (ofP e.input)= .tuple #[.agg (zb (ofP e.input).1 (sl A (ofP e.input).1.tree.length cap)).toArray,.int .i64 (ofP e.input).2.1,.int .i64 (ofP e.input).2.2]:=fun _ _=>rfl
      simp only [hofV] at hO
      generalize ofP e.input=o at hO hck
      obtain ⟨⟨f1,f2,f3⟩,oa,oe⟩:=o
      simp only [zb] at hO
      simp only at hck
      generalize e.at_.valid=vd at hV hck
      repeat' (first|(apply ak (d:=14);exact rfl;apply aj;exact rfl;exact rfl;exact hlt)|(apply ak (d:=15);exact rfl;apply aA;exact rfl;exact he;exact rfl)|(apply aa;exact rfl;exact rfl;(intro w hm;exact hV w))|(apply (bK (id:=6) [11] []);kernel_rfl;kernel_rfl;kernel_rfl)|(apply aG (f:=106);exact rfl;exact rfl;(intro w' hm;exact hO w' _ hm);rintro _ _ ⟨A,cap,rfl,rfl⟩)|refine sT ?_|refine sS ?_|refine sW ?_|refine sN ?_|refine sWN ?_|refine sM fun _=> ?_|(refine sC ?_ ?_<;>intro hb<;>try omega)|(refine sCW ?_ ?_<;>intro hb<;>try omega)|fail)
      all_goals clear hofV
      all_goals first
        |(refine ic eIO rfl rfl rfl (.nil _) ?_;rw [hck];simp_all [av];done)
        | (refine ⟨i + 1, ⟨hlt, ?_⟩, by omega, ?_, ?_, .nil _⟩
           · rw [hck];simp_all [av]
           · exact sB
           · exact sB)
  · have e2:i=L.length:=by omega
    subst e2
    rw [LU,fI] at hck
    repeat' (first|refine sT ?_|refine sS ?_|refine sM fun _=> ?_|(refine sC ?_ ?_<;>intro hb<;>try omega)|fail)
    all_goals (refine ic eIO rfl rfl rfl (.nil _) ?_;rw [hck])
end Go.SL
namespace Go.SL
open Go Go.Proofs
instance:DecidableEq Et:=fun a b=>decidable_of_iff (a.at_=b.at_∧a.input=b.input) (by
 obtain ⟨a1,a2⟩:=a
 obtain ⟨b1,b2⟩:=b
 simp)
theorem Lb {a b:Et}:a=b↔a.at_=b.at_∧a.input=b.input:=by
 obtain ⟨a1,a2⟩:=a
 obtain ⟨b1,b2⟩:=b
 simp
theorem FG (w:World) (d:Nat) (a b:Et):(Op.equalIn (d+5) 53 (.agg (aH a).toArray) (.agg (aH b).toArray)).run Tryz.prog w= .ok (decide (a=b)) w:=by
 rw [run_equalIn_agg w (d+4) 53 _ _ (by rw [Program.fieldsOf,Tryz.underlying53]) Tryz.stoodInHeld53]
 simp only [Program.fieldsOf,Tryz.underlying53]
 have hr: ∀ (a b:Rf) w,(Op.equalIn (d+4) 51 (.agg #[.int .i64 a.col,.int .i64 a.row]) (.agg #[.int .i64 b.col,.int .i64 b.row])).run Tryz.prog w= .ok (eqF a b) w:=fun a b w=>qh w (d+1) a b
 simp [Op.eqFields,aH,part,go_sem,oh,p8,hr]
 by_cases h1:eqF a.at_ b.at_=true<;>by_cases h2:a.input=b.input<;>simp [h1,h2,Lb]<;>(rw [iH] at h1;exact h1)
section
variable {w0:World} {s:az} {H:List Blk} {ty t' :TypeId} {x y:Operand}
theorem Co {a b:Et} (hx:ev s x=some (.agg (aH a).toArray)) (hy:ev s y=some (.agg (aH b).toArray)):VOp Tryz.prog w0 s H (.binOp .neq 53 x y t') ty (.bool (!decide (a=b))):=fun ρ w _ _ _ _ hρ _=>by
 have h:=FG w 9995 a b
 simp only [Nat.reduceAdd] at h
 simp only [execOp,hρ x _ hx,hρ y _ hy,Sem.run_bind,run_eqGuard_agg w _ _ _ _ _ _ Tryz.eqGuardType53,Result.andThen_ok,run_neq_struct,h,Sem.run_pure]
end
end Go.SL
namespace Go.SL
open Go Go.Proofs
attribute [local irreducible] W WL WQ WG WA WX WLI WR WT WC VOp RW thn blk bS scp bq bF cj aS FnIn FnP ceP
theorem qa (L M:List Et) (lv mv:Value) (w:World) (hl:Reads w lv L.length (L.flatMap aH)) (hm:Reads w mv M.length (M.flatMap aH)):
  ay Tryz.prog 16 [lv,mv] w (.bool (decide (L=M))):=by
 obtain ⟨Al,cl,rfl,hl1,hl2,hl3⟩:=hl
 obtain ⟨Am,cm,rfl,hm1,hm2,hm3⟩:=hm
 refine aq Tryz.func16 rfl Tryz.ntmps16 rfl ?_
 by_cases hlen:L.length=M.length
 ·
  repeat' (first|refine sT ?_|refine sS ?_|refine sM fun _=> ?_|(refine sC ?_ ?_<;>intro hb<;>try omega)|fail)
  refine eM (fun i:Nat=> [(0,.slice Al L.length cl),(1,.slice Am M.length cm),(5,.int .i64 (i:Int))]) (fun _=> []) (fun i=>i≤L.length∧decide (L=M)=decide (L.drop i=M.drop i)) (fun i=>L.length - i) 0 ⟨by omega,rfl⟩ ?_ ?_ ?_
  ·
   exact sB
  ·
   exact mS
  ·
   rintro i ⟨hi,hrec⟩
   by_cases hlt:i<L.length
   ·
    have hlt2:i<M.length:=by omega
    obtain ⟨gl,ol,rfl,hrl⟩:=hl3 (by omega)
    obtain ⟨gm,om,rfl,hrm⟩:=hm3 (by omega)
    have he1:=hrl.elem aW i hlt
    have he2:=hrm.elem aW i hlt2
    rw [gR hlt hlt2] at hrec
    repeat' (first|(apply aK;exact rfl;apply aj;exact rfl;exact rfl;(first|exact hlt|exact hlt2))|(apply aK;exact rfl;apply aA;exact rfl;(first|exact he1|exact he2);exact rfl)|(apply aK;exact rfl;apply Co;exact rfl;exact rfl)|(apply ak;exact rfl;apply dr;exact rfl;exact rfl;(simp only [maxLen] at*;omega))|refine sT ?_|refine sS ?_|refine sQ ?_|refine sD ?_|refine sM fun _=> ?_|(refine sC ?_ ?_<;>intro hb<;>try omega)|(refine sCQ ?_ ?_<;>intro hb<;>try omega)|fail)
    ·
     (refine rT1 ?_)
     rw [hrec]
     simp_all
    ·
     refine ⟨i+1,⟨by omega,?_⟩,by omega,?_,?_⟩
     ·
      rw [hrec]
      simp_all
     ·
      exact sB
     ·
      exact mS
   ·
    have e:i=L.length:=by omega
    subst e
    repeat' (first|refine sT ?_|refine sS ?_|refine sM fun _=> ?_|(refine sC ?_ ?_<;>intro hb<;>try omega)|fail)
    (refine rT1 ?_)
    rw [hrec,LU,hlen,LU]
    rfl
 ·
  repeat' (first|refine sT ?_|refine sS ?_|refine sM fun _=> ?_|(refine sC ?_ ?_<;>intro hb<;>try omega)|fail)
  (refine rT1 ?_)
  rw [decide_eq_false]
  intro e
  exact hlen (congrArg List.length e)
end Go.SL
namespace Go.SL
open Go
def sv (b:ByteArray):Vl:=
 if b=av then bE
 else if (ap b).headD 0=39 then ⟨3,0,mkB (ap b).tail⟩
 else if upB b=kS∨upB b=jy then kf (decide (upB b=kS))
 else if (f4 b).2=0∧(f4 b).1<6 then fk (f4 b).1
 else if (fC (ap b)).2=0 then rJ (fC (ap b)).1
 else if (fC (ap b)).2=3 then fk 3
 else ⟨3,0,b⟩
theorem Ei {b:ByteArray} (hg:fV b=0):o6 b=sv b:=by
 have hT:kS≠jy:=by decide
 have h3:Fj b=if upB b=kS then (kf true,true) else if upB b=jy then (kf false,true) else (fk 2,false):=by
  have hv:mD ⟨3,0,b⟩=0:=by simp [mD,qF,hg]
  simp only [Fj,gH,hv,if_true,wh]
  split
  ·
   rfl
  ·
   split<;>rfl
 have h2:H4 b=if (ap b).headD 0=39 then (⟨3,0,mkB (ap b).tail⟩,true) else (⟨3,0,b⟩,false):=by
  have hq:ap rr= [39]:=rfl
  have hs:rr.size=1:=rfl
  simp only [H4,nZ,hq,hs]
  cases hi:ap b with
  |nil=>simp
  |cons c r=>
   simp only [Mz,M0,List.cons.injEq,and_true,MN,List.tail_cons]
   by_cases hc:c=39
   ·
    have hsz:b.size=(c::r).length:=by rw [← hi,au]
    have:sub b 1 b.size=mkB r:=by
     refine F4 ?_
     rw [dD,hi,hsz]
     simp
    simp only [hc,if_true,this]
   ·
    simp only [hc,if_false]
 have hgen: ∀ (p:Prop) [Decidable p] (x y z:Vl),(if (if p then (x,true) else (y,false)).2=true then (if p then (x,true) else (y,false)).1 else z)=if p then x else z:=by
  intro p _ x y z
  split<;>simp
 unfold o6 qV dO dO dO dO dO dO sv
 have e1:(H6 b).2=decide (b=av):=rfl
 rw [e1,h2,h3]
 by_cases c1:b=av
 ·
  simp [c1,H6]
 ·
  rw [if_neg (by simpa using c1),if_neg c1]
  by_cases c2:(ap b).headD 0=39
  ·
   simp only [c2,if_true]
  ·
   simp only [c2,if_false,MG]
   by_cases c3:upB b=kS
   ·
    simp [c3]
   ·
    by_cases c4:upB b=jy
    ·
     simp [c4,hT.symm]
    ·
     simp only [c3,c4,if_false,or_self,MG]
     by_cases c5:(f4 b).2=0∧(f4 b).1<6
     ·
      have:(z6 b).2=true:=by simp only [z6,c5.1,decide_true,Mi,decide_eq_true_eq];omega
      rw [if_pos this,if_pos c5];rfl
     ·
      have:(z6 b).2=false:=by
       simp only [z6,MB,decide_eq_false_iff_not]
       by_cases h:(f4 b).2=0
       ·
        right;intro h';exact c5 ⟨h,by omega⟩
       ·
        left;exact h
      rw [if_neg (by simp [this]),if_neg c5]
      by_cases c6:(fC (ap b)).2=0
      ·
       simp [Dt,c6]
      ·
       by_cases c7:(fC (ap b)).2=3
       ·
        simp [Dt,c7]
       ·
        simp [Dt,c6,c7]
structure EntOk (e:Rf × List Nd × List Us):Prop where
 at_:e.1.valid=true
 tree:jB e.2.1=0
 uses:e.2.2=KO e.2.1
 len:e.2.1.length≤256
structure GrOk (G:Gr):Prop where
 sort:SortG G
 ent: ∀ e∈G,EntOk e
theorem Dk {c r:Int}:valid c r=true↔1≤c∧c≤1024∧1≤r∧r≤1024:=by
 simp only [valid,LM,decide_eq_true_eq]
 omega
def inB:ByteArray:=⟨#[61,65,49,43,66,49]⟩
def inC:ByteArray:=⟨#[61,68,83,85,77,40,66,49,58,66,51,41]⟩
def inD:ByteArray:=⟨#[61,73,70,69,82,82,79,82,40,65,51,44,48,41,43,49]⟩
end Go.SL
namespace Go.Proofs
open Go Go.Shelf Go.RowKit Go.Lib Go.Sort Go.SL
def I9 (a b:Int):Int:=if a<b then -1 else if b<a then 1 else 0
def orI (a b c d:Int):Int:=if a≠0 then a else if b≠0 then b else if c≠0 then c else d
def ID (a b:Rct):Int:=orI (I9 a.r1 b.r1) (I9 a.c1 b.c1) (I9 a.r2 b.r2) (I9 a.c2 b.c2)
end Go.Proofs
namespace Go.Proofs
open Go Go.Shelf Go.RowKit Go.Lib Go.Sort Go.SL
def Tryz.sortRc_ren:Go.Shelf.Ren:=⟨fun|6=>100|15=>138|14=>148|28=>177|29=>178|20=>183|21=>184|22=>185|23=>186|24=>187|25=>188|26=>189|27=>190|46=>227|47=>218|48=>219|49=>228|50=>229|57=>273|n=>n,fun|22=>110|24=>33|25=>188|3=>3|39=>75|0=>0|53=>265|55=>34|4=>4|46=>258|45=>257|50=>262|5=>5|9=>9|66=>303|70=>307|76=>351|77=>352|n=>n,fun|n=>n⟩
theorem Tryz.sortRc:Go.Proofs.SlLaysF0.n6 Tryz.prog Tryz.sortRc_ren:={
 mixed:=by kernel_rfl
 f6:=⟨Tryz.f100.name,by decide,Tryz.func100.trans (congrArg some (by kernel_rfl))⟩
 f14:=⟨Tryz.f148.name,by decide,Tryz.func148.trans (congrArg some (by kernel_rfl))⟩
 f15:=Tryz.func138.trans (congrArg some (by kernel_rfl))
 f20:=⟨Tryz.f183.name,by decide,Tryz.func183.trans (congrArg some (by kernel_rfl))⟩
 f21:=⟨Tryz.f184.name,by decide,Tryz.func184.trans (congrArg some (by kernel_rfl))⟩
 f22:=⟨Tryz.f185.name,by decide,Tryz.func185.trans (congrArg some (by kernel_rfl))⟩
 f23:=⟨Tryz.f186.name,by decide,Tryz.func186.trans (congrArg some (by kernel_rfl))⟩
 f24:=⟨Tryz.f187.name,by decide,Tryz.func187.trans (congrArg some (by kernel_rfl))⟩
 f25:=⟨Tryz.f188.name,by decide,Tryz.func188.trans (congrArg some (by kernel_rfl))⟩
 f26:=⟨Tryz.f189.name,by decide,Tryz.func189.trans (congrArg some (by kernel_rfl))⟩
 f27:=⟨Tryz.f190.name,by decide,Tryz.func190.trans (congrArg some (by kernel_rfl))⟩
 f28:=Tryz.func177.trans (congrArg some (by kernel_rfl))
 f29:=Tryz.func178.trans (congrArg some (by kernel_rfl))
 f46:=⟨Tryz.f227.name,by decide,Tryz.func227.trans (congrArg some (by kernel_rfl))⟩
 f47:=Tryz.func218.trans (congrArg some (by kernel_rfl))
 f48:=Tryz.func219.trans (congrArg some (by kernel_rfl))
 f49:=⟨Tryz.f228.name,by decide,Tryz.func228.trans (congrArg some (by kernel_rfl))⟩
 f50:=⟨Tryz.f229.name,by decide,Tryz.func229.trans (congrArg some (by kernel_rfl))⟩
 f57:=⟨Tryz.f273.name,by decide,Tryz.func273.trans (congrArg some (by kernel_rfl))⟩
 t0:=Tryz.underlying0
 a0:=Tryz.isAgg0
 z0:=Tryz.sizeOf0
 v0:=Tryz.zeroValue0
 t3:=Tryz.underlying3
 a3:=Tryz.isAgg3
 z3:=Tryz.sizeOf3
 v3:=Tryz.zeroValue3
 t4:=Tryz.underlying4
 a4:=Tryz.isAgg4
 z4:=Tryz.sizeOf4
 v4:=Tryz.zeroValue4
 t5:=Tryz.underlying5
 a5:=Tryz.isAgg5
 z5:=Tryz.sizeOf5
 v5:=Tryz.zeroValue5
 t9:=Tryz.underlying9
 a9:=Tryz.isAgg9
 z9:=Tryz.sizeOf9
 v9:=Tryz.zeroValue9
 t22:=Tryz.underlying110
 a22:=Tryz.isAgg110
 z22:=Tryz.sizeOf110
 v22:=Tryz.zeroValue110
 t25:=Tryz.underlying188
 a25:=Tryz.isAgg188
 z25:=Tryz.sizeOf188
 v25:=Tryz.zeroValue188
 t39:=Tryz.underlying75
 a39:=Tryz.isAgg75
 z39:=Tryz.sizeOf75
 v39:=Tryz.zeroValue75
 t45:=Tryz.underlying257
 a45:=Tryz.isAgg257
 z45:=Tryz.sizeOf257
 v45:=Tryz.zeroValue257
 t46:=Tryz.underlying258
 a46:=Tryz.isAgg258
 z46:=Tryz.sizeOf258
 v46:=Tryz.zeroValue258
 t50:=Tryz.underlying262
 a50:=Tryz.isAgg262
 z50:=Tryz.sizeOf262
 v50:=Tryz.zeroValue262
 t53:=Tryz.underlying265
 a53:=Tryz.isAgg265
 z53:=Tryz.sizeOf265
 v53:=Tryz.zeroValue265
 t55:=Tryz.underlying34
 a55:=Tryz.isAgg34
 z55:=Tryz.sizeOf34
 v55:=Tryz.zeroValue34
 t66:=Tryz.underlying303
 a66:=Tryz.isAgg303
 z66:=Tryz.sizeOf303
 v66:=Tryz.zeroValue303
 t70:=Tryz.underlying307
 a70:=Tryz.isAgg307
 z70:=Tryz.sizeOf307
 v70:=Tryz.zeroValue307
 t76:=Tryz.underlying351
 a76:=Tryz.isAgg351
 z76:=Tryz.sizeOf351
 v76:=Tryz.zeroValue351
 t77:=Tryz.underlying352
 a77:=Tryz.isAgg352
 z77:=Tryz.sizeOf352
 v77:=Tryz.zeroValue352 }
end Go.Proofs
namespace Go.SL
open Go Go.Proofs Go.Sort Go.Shelf
def sortRc (L:List Rct):List Rct:=L.mergeSort fun x y=> !(ltOf ID y x)
end Go.SL
namespace Go.SL
open Go Go.Proofs
attribute [local irreducible] W WL WQ WG WA WX WLI WR WT WC VOp RW thn blk bS scp bq bF cj aS FnIn FnP ceP
theorem mV (L:List Et): ∀ u∈L.flatMap aH,u.oneCell' =true:=by
 intro u hu
 obtain ⟨x,_,hx⟩:=MM.1 hu
 simp only [aH,L7,Nn,or_false] at hx
 rcases hx with rfl|rfl|rfl<;>rfl
theorem sV (L:List Et) (tv:Value) (w:World) (ht:Reads w tv L.length (L.flatMap aH)) (hlen:L.length≤1000000):
  aS Tryz.prog 22 [tv] w fun v H=> ∃ A cap,v=sl A L.length cap∧H= [.own A 53 3 L.length cap (L.flatMap aH)]:=by
 refine aq Tryz.func22 rfl Tryz.ntmps22 rfl ?_
 have hl:(L.flatMap aH).length=L.length*3:=aD aW L
 refine aJ 53 3 ?_
 repeat' (first|(apply cy (n' :=0) (c:=0) (A:=none) (m:=L.length);(iterate 3 exact rfl);exact pK;(intro w hm;exact ht.of_w0 hm);exact hl;exact mV L;omega;(simp only [maxLen];omega);intro A' cap' hA)|refine sT ?_|refine sM fun _=> ?_|(refine sC ?_ ?_<;>intro hb<;>try omega)|fail)
 exact cQ (.inl rfl) Tryz.results22 rfl (H' := [.own A' 53 3 (0+L.length) cap' ([]++L.flatMap aH)]) mS ⟨A',cap',by rw [LZ],by rw [LZ];rfl⟩
end Go.SL
