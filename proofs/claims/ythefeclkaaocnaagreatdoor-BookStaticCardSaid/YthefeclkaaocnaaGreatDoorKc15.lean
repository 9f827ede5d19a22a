/-
  Lemmas and walks, put together: D1 D2 D3 S1 S2 S3 S4 D4 W28 W29 W30 Gp D5 D6 D7 Gq D8 D9 D10 D11 D12 E2 K1 Lq.
-/
import Derived.Shelf.SlSortCmp.NoneTotal
import Derived.ChangeKeysEq
import Derived.Test.YthefeclkaaocnaaGreatDoorKc14
set_option linter.unusedSimpArgs false
set_option linter.unusedVariables false
set_option maxRecDepth 20000
namespace Go.SL
open Go Go.Proofs
attribute [local irreducible] W WL WQ WG WA WX WLI WR WT VOp RW thn blk bL scp bi bz bY aQ FnIn FnP
def oI (a b:ByteArray):ByteArray × Bool:=if (ap a).take b.size=ap b then (sub a b.size a.size,true) else (a,false)
theorem J3 (a b:ByteArray) (ha:a.size≤1000000) (w:World):ax Tryz.prog 192 [.string a,.string b] w (.tuple #[.string (oI a b).1,.bool (oI a b).2]):=by
 refine aq Tryz.func192 rfl Tryz.ntmps192 rfl ?_
 have hp:=mN a b
 unfold oI
 by_cases h:(ap a).take b.size=ap b
 ·
  rw [if_pos h]
  rw [decide_eq_true h] at hp
  have hb:b.size≤a.size:=by
   have:=congrArg List.length h
   rw [Nj,au,au] at this
   omega
  repeat' (first|(apply aa;exact rfl;exact rfl;(intro w hm;exact hp w))|refine sT ?_|refine sT2 ?_|refine sM fun _=> ?_|(refine sC ?_ ?_<;>intro hb<;>try omega)|fail)
  all_goals exact iA eIO rfl rfl rfl (.refl _) rfl
 ·
  rw [if_neg h]
  rw [decide_eq_false h] at hp
  repeat' (first|(apply aa;exact rfl;exact rfl;(intro w hm;exact hp w))|refine sT ?_|refine sT2 ?_|refine sM fun _=> ?_|(refine sC ?_ ?_<;>intro hb<;>try omega)|fail)
  all_goals exact iA eIO rfl rfl rfl (.refl _) rfl
theorem HR (a b:ByteArray) (ha:a.size≤1000000) (w:World):ax Tryz.prog 151 [.string a,.string b] w (.tuple #[.string (oI a b).1,.bool (oI a b).2]):=by
 refine aq Tryz.func151 rfl Tryz.ntmps151 rfl ?_
 repeat' (first|(apply aa;exact rfl;exact rfl;(intro w hm;exact J3 a b ha w))|refine sT ?_|refine sM fun _=> ?_|(refine sC ?_ ?_<;>intro hb<;>try omega)|fail)
 all_goals exact iA eIO rfl rfl rfl (.refl _) rfl
def Jp (b:ByteArray):Vl × Bool:=(bD,decide (b=av))
def rO:ByteArray:=⟨#[39]⟩
def Jl (b:ByteArray):Vl × Bool:=(⟨3,0,(oI b rO).1⟩,(oI b rO).2)
def FP (b:ByteArray):Vl × Bool:=(gS ⟨3,0,b⟩,decide ((gS ⟨3,0,b⟩).kind=2))
def AF (b:ByteArray):Vl × Bool:=(fB (gA b).1,decide ((gA b).2=0) && decide ((gA b).1≤5))
def DL (b:ByteArray):Vl × Bool:=if (fI (ap b)).2=3 then (fB 3,true) else (r9 (fI (ap b)).1,decide ((fI (ap b)).2=0))
def xT (x:Vl × Bool):Value:= .tuple #[.agg (cX x.1).toArray,.bool x.2]
theorem Jo (b:ByteArray) (g:Nat) (w:World) (hr:Ro w g 0 [.string b]):ax Tryz.prog 193 [.pointer (some ⟨g,0,none⟩)] w (xT (Jp b)):=by
 refine aq Tryz.func193 rfl Tryz.ntmps193 rfl ?_
 have hm:Mem w w []:=Mem.refl w
 repeat' (first|(rename_i g1;refine l7 (id:=1) 3 [.box g1 172 (cX bD)] (by kernel_rfl) (by kernel_rfl) rfl ?_)|(apply DA;exact rfl;(intro D ht;apply aH (o:=0) (off:=0);exact hr;exact rfl;exact rfl);exact fun _=>rfl)|(apply kX;exact rfl;exact rfl;exact pK;(iterate 3 exact rfl);decide;exact .refl _)|refine sT ?_|refine sG ?_|refine sM fun _=> ?_|(refine sC ?_ ?_<;>intro hb<;>try omega)|fail)
 all_goals ((refine eQ ?_);rfl)
theorem Jk (b:ByteArray) (hb:b.size≤1000000) (g:Nat) (w:World) (hr:Ro w g 0 [.string b]):ax Tryz.prog 194 [.pointer (some ⟨g,0,none⟩)] w (xT (Jl b)):=by
 refine aq Tryz.func194 rfl Tryz.ntmps194 rfl ?_
 repeat' (first|(apply aj;exact rfl;apply aH (o:=0) (off:=0);exact hr;exact rfl;exact rfl)|(apply aa;exact rfl;exact rfl;(intro w hm;exact HR b rO hb w))|refine sT ?_|refine sM fun _=> ?_|(refine sC ?_ ?_<;>intro hb<;>try omega)|fail)
 all_goals ((refine eQ ?_);rfl)
theorem Ji (b:ByteArray) (hb:b.size≤1000000) (g:Nat) (w:World) (hr:Ro w g 0 [.string b]):ax Tryz.prog 195 [.pointer (some ⟨g,0,none⟩)] w (xT (FP b)):=by
 refine aq Tryz.func195 rfl Tryz.ntmps195 rfl ?_
 have hT:=fun w' =>E3 ⟨3,0,b⟩ rfl hb w'
 unfold FP
 generalize gS ⟨3,0,b⟩=v at hT
 repeat' (first|(apply aj;exact rfl;apply aH (o:=0) (off:=0);exact hr;exact rfl;exact rfl)|(apply aa;exact rfl;exact rfl;(intro w hm;exact hT w))|(rename_i g1 g2;refine wh (id:=2) (g:=g1) (T:=172) (xs' :=cX v) (R:= [.box g2 172 (cX v)]) (fun D=> [if D 4 then .int .u8 v.kind else .int .u8 0,if D 4 then .int .i64 v.num else .int .i64 0,if D 4 then .string v.text else .string av]) (by kernel_rfl) (by kernel_rfl) pK rfl (by intro D hD;simp [hD 4 (by decide),cX]) ?_)|refine sT ?_|refine sG ?_|refine sM fun _=> ?_|(refine sC ?_ ?_<;>intro hb<;>try omega)|fail)
 all_goals ((refine eQ ?_);rfl)
theorem Jh (b:ByteArray) (hb:b.size≤1000000) (g:Nat) (w:World) (hr:Ro w g 0 [.string b]) (hW:Words w):ax Tryz.prog 197 [.pointer (some ⟨g,0,none⟩)] w (xT (AF b)):=by
 refine aq Tryz.func197 rfl Tryz.ntmps197 rfl ?_
 unfold AF
 have hC:=fun (w' :World) (h:Words w')=>Kj b hb w' h
 generalize gA b=x at hC
 obtain ⟨c,e⟩:=x
 repeat' (first|(apply aj;exact rfl;apply aH (o:=0) (off:=0);exact hr;exact rfl;exact rfl)|(apply aa (f:=198);exact rfl;exact rfl;(intro w' hm';exact hC w' (hW.next hm')))|(apply aa (f:=199);exact rfl;exact rfl;(intro w' hm';exact kR c w'))|refine sT ?_|refine sM fun _=> ?_|(refine sC ?_ ?_<;>intro hb<;>try omega)|fail)
 all_goals ((refine eQ ?_);simp_all [xT,cX])
theorem Jg (b:ByteArray) (hb:b.size≤1000000) (g:Nat) (w:World) (hr:Ro w g 0 [.string b]):ax Tryz.prog 200 [.pointer (some ⟨g,0,none⟩)] w (xT (DL b)):=by
 refine aq Tryz.func200 rfl Tryz.ntmps200 rfl ?_
 unfold DL
 have hC:=fun (w' :World)=>p9 b hb w'
 generalize fI (ap b)=x at hC
 obtain ⟨n,e⟩:=x
 repeat' (first|(apply aj;exact rfl;apply aH (o:=0) (off:=0);exact hr;exact rfl;exact rfl)|(apply aa;exact rfl;exact rfl;(intro w hm;exact hC w))|(apply aa (f:=199);exact rfl;exact rfl;(intro w' hm';exact kR 3 w'))|(apply aa (f:=202);exact rfl;exact rfl;(intro w' hm';exact Ki n w'))|refine sT ?_|refine sM fun _=> ?_|(refine sC ?_ ?_<;>intro hb<;>try omega)|fail)
 all_goals ((refine eQ ?_);simp_all [xT,cX])
def Dl:List Nat:= [193,194,195,197,200]
def ru:List (ByteArray→Vl × Bool):= [Jp,Jl,FP,AF,DL]
def dR (b:ByteArray):List (ByteArray→Vl × Bool)→Vl
 | []=>⟨3,0,b⟩
 |t::r=>if (t b).2 then (t b).1 else dR b r
def pu (b:ByteArray):Vl:=dR b ru
theorem FR (b:ByteArray) (hb:b.size≤1000000) (g k:Nat) (hk:k<5): ∃ f t,ru.drop k=t::ru.drop (k+1)∧(Dl.map fun f=>Value.func (.func f) #[] #[.pointer (some ⟨g,0,none⟩)])[k]? =some (.func (.func f) #[] #[.pointer (some ⟨g,0,none⟩)])∧Callable Tryz.prog f∧
  ∀ w,Ro w g 0 [.string b]→Words w→ax Tryz.prog f [.pointer (some ⟨g,0,none⟩)] w (xT (t b)):=by
 rcases (by omega:k=0∨k=1∨k=2∨k=3∨k=4) with rfl|rfl|rfl|rfl|rfl
 ·
  exact ⟨_,_,rfl,rfl,inferInstance,fun w hr _=>Jo b g w hr⟩
 ·
  exact ⟨_,_,rfl,rfl,inferInstance,fun w hr _=>Jk b hb g w hr⟩
 ·
  exact ⟨_,_,rfl,rfl,inferInstance,fun w hr _=>Ji b hb g w hr⟩
 ·
  exact ⟨_,_,rfl,rfl,inferInstance,fun w hr hW=>Jh b hb g w hr hW⟩
 ·
  exact ⟨_,_,rfl,rfl,inferInstance,fun w hr _=>Jg b hb g w hr⟩
set_option maxHeartbeats 1000000 in
theorem zE (b:ByteArray) (hb:b.size≤1000000) (w:World) (hW:Words w):ax Tryz.prog 152 [.string b] w (.agg (cX (pu b)).toArray):=by
 refine aq Tryz.func152 rfl Tryz.ntmps152 rfl ?_
 repeat' (first|refine sT ?_|refine sS ?_|refine sM fun _=> ?_|(refine sC ?_ ?_<;>intro hb<;>try omega)|fail)
 rename_i g1 g2 g3
 refine ay [1,2,13,14] rfl (fun x:Nat × Vl=> [(4,.bool false),(15,.int .i64 (x.1:Int))]) (fun x=> [.own (some g3) 279 1 5 5 (Dl.map fun f=>Value.func (.func f) #[] #[.pointer (some ⟨g1,0,none⟩)]),.box g2 172 (cX x.2),.box g1 9 [.string b]]) (fun x=>x.1≤5∧pu b=dR b (ru.drop x.1)) (fun x=>5 - x.1) (0,bD) ⟨by omega,rfl⟩ sB mS ?_
 rintro ⟨k,v⟩ ⟨hk,hkt⟩
 dsimp only at hk hkt ⊢
 by_cases hk5:k<5
 ·
  obtain ⟨f,t,r1,r2,r3,r4⟩:=FR b hb g1 k hk5
  rw [r1,dR] at hkt
  obtain ⟨⟨v',is⟩,ht⟩: ∃ x,t b=x:=⟨_,rfl⟩
  rw [ht] at hkt r4
  cases is with
  |true=>
   rw [if_pos rfl] at hkt
   repeat' (first|(apply aj;exact rfl;apply ak (j:=k);exact rfl;exact rfl;exact hk5)|(apply aj;exact rfl;apply bT (off:=0+k*1);exact rfl;exact pK;(rw [Nm,OP];exact r2))|(apply bA;exact rfl;exact rfl;exact r3;exact rfl;(intro w' hm;exact r4 w' (Ro.of_box hm pK) (hW.next hm)))|refine sT ?_|refine sS ?_|refine sN ?_|refine sM fun _=> ?_|(refine sC ?_ ?_<;>intro hb<;>try omega)|fail)
   all_goals (rw [hkt];(refine eRC ?_);rfl)
  |false=>
   rw [if_neg (by simp)] at hkt
   repeat' (first|(apply aj;exact rfl;apply ak (j:=k);exact rfl;exact rfl;exact hk5)|(apply aj;exact rfl;apply bT (off:=0+k*1);exact rfl;exact pK;(rw [Nm,OP];exact r2))|(apply bA;exact rfl;exact rfl;exact r3;exact rfl;(intro w' hm;exact r4 w' (Ro.of_box hm pK) (hW.next hm)))|refine sT ?_|refine sS ?_|refine sN ?_|refine sM fun _=> ?_|(refine sC ?_ ?_<;>intro hb<;>try omega)|fail)
   refine ⟨(k+1,v'),?_,(by first|omega|(dsimp only;omega)),sB,sB,mS⟩
   exact ⟨hk5,hkt⟩
 ·
  have e:k=5:=by omega
  subst e
  have hkt:pu b=⟨3,0,b⟩:=hkt
  rw [hkt]
  repeat' (first|refine sT ?_|refine sS ?_|refine sN ?_|refine sM fun _=> ?_|(refine sC ?_ ?_<;>intro hb<;>try omega)|fail)
  all_goals first|(exfalso;omega)|((refine eRC ?_);rfl)
theorem Lw {a:ByteArray} {i:Nat} (h:i<a.size):f9 (sub a i (i+1))=if bn (bat a i) then 0 else 4:=by
 have h1:ap (sub a i (i+1))= [bat a i]:=by
  rw [dE,aY h,Nat.add_sub_cancel_left]
  rfl
 have h2:(sub a i (i+1)).size=1:=by rw [bQ a (by omega)];omega
 simp only [f9,h2,lB,h1]
 cases h:bn (bat a i)<;>simp [h]
structure Mn where
 formula:Bool
 v:Vl
 tree:List Nd
def eqB:ByteArray:=⟨#[61]⟩
def oR:Mn:=⟨false,bD,[]⟩
def ofP (b:ByteArray):Mn × Int × Int:=
 if 256<b.size then (oR,0,5)
 else match (ap b).findIdx? (fun c=> !bn c) with
  |some i=>(oR,(i:Int),4)
  |none=>
   if (oI b eqB).2=false then (⟨false,pu b,[]⟩,0,0)
   else match cO (bF dH (ap (oI b eqB).1)) ((oI b eqB).1.size:Int) with
    |(t,at_,e)=>if e≠0 then (oR,IntKind.i64.wrap (at_+1),e) else (⟨true,bD,t⟩,0,0)
def zA (m:Mn) (tv:Value):List Value:= [.bool m.formula,.int .u8 m.v.kind,.int .i64 m.v.num,.string m.v.text,tv]
def ofV (A:Option Nat) (cap:Nat) (r:Mn × Int × Int):Value:= .tuple #[.agg (zA r.1 (sl A r.1.tree.length cap)).toArray,.int .i64 r.2.1,.int .i64 r.2.2]
set_option maxHeartbeats 2000000 in
theorem Kw (b:ByteArray) (w:World) (hW:Words w):aQ Tryz.prog 106 [.string b] w fun v H=> ∃ A cap,v=ofV A cap (ofP b)∧H= [.own A 174 11 (ofP b).1.tree.length cap ((ofP b).1.tree.flatMap bW)]:=by
 refine aq Tryz.func106 rfl Tryz.ntmps106 rfl ?_
 refine aI 174 11 ?_
 unfold ofP
 by_cases hlen:256<b.size
 ·
  rw [if_pos hlen]
  repeat' (first|refine sT ?_|refine sS ?_|refine sT2 ?_|refine sM fun _=> ?_|(refine sC ?_ ?_<;>intro hb<;>try omega)|fail)
  all_goals first
   |(exfalso;omega)
   |exact eZ (.inl rfl) rfl rfl pK rfl rfl rfl (H' := [.own none 174 11 0 0 []]) mS ⟨none,0,rfl,rfl⟩
 rw [if_neg hlen]
 repeat' (first|refine sT ?_|refine sS ?_|refine sT2 ?_|refine sM fun _=> ?_|(refine sC ?_ ?_<;>intro hb<;>try omega)|fail)
 all_goals try (exfalso;omega)
 rename_i g2
 refine ay [0,2,14] rfl (fun i:Nat=> [(15,.int .i64 (i:Int))]) (fun _=> [.box g2 192 [.bool false,.int .u8 0,.int .i64 0,.string av,.slice none 0 0],.own none 174 11 0 0 []]) (fun i=>i≤b.size∧ ∀ j,j<i→bn (bat b j)=true) (fun i=>b.size - i) 0 ⟨by omega,fun j h=>by omega⟩ sB mS ?_
 rintro i ⟨hi,hpl⟩
 by_cases hlt:i<b.size
 ·
  have hg:=Lw hlt
  have hG:=fun w=>sx (sub b i (i+1)) w
  rw [hg] at hG
  by_cases hc:bn (bat b i)=true
  ·
   rw [if_pos hc] at hG
   repeat' (first|(apply aj;exact rfl;apply eV;(iterate 3 exact rfl);exact ⟨by omega,by omega⟩)|(apply aa;exact rfl;exact rfl;(intro w hm;exact hG w))|refine sT ?_|refine sS ?_|refine sT2 ?_|refine sN ?_|refine sM fun _=> ?_|(refine sC ?_ ?_<;>intro hb<;>try omega)|fail)
   all_goals try (exfalso;omega)
   refine ⟨i+1,?_,(by first|omega|(dsimp only;omega)),sB,sB,mS⟩
   refine ⟨hlt,fun j hj=> ?_⟩
   rcases (by omega:j<i∨j=i) with h|rfl
   ·
    exact hpl j h
   ·
    exact hc
  ·
   rw [if_neg hc] at hG
   repeat' (first|(apply aj;exact rfl;apply eV;(iterate 3 exact rfl);exact ⟨by omega,by omega⟩)|(apply aa;exact rfl;exact rfl;(intro w hm;exact hG w))|refine sT ?_|refine sS ?_|refine sT2 ?_|refine sN ?_|refine sM fun _=> ?_|(refine sC ?_ ?_<;>intro hb<;>try omega)|fail)
   all_goals try (exfalso;omega)
   have hf:(ap b).findIdx? (fun c=> !bn c)=some i:=lT hlt (by simp [hc]) fun j hj=>by rw [hpl j hj];rfl
   rw [hf]
   exact eZ (.inl rfl) rfl rfl pK rfl rfl rfl (H' := [.own none 174 11 0 0 []]) mS ⟨none,0,rfl,rfl⟩
 ·
  have e:i=b.size:=by omega
  subst e
  have hf:(ap b).findIdx? (fun c=> !bn c)=none:=kJ fun j hj=>by rw [hpl j hj];rfl
  rw [hf]
  dsimp only
  have hcut:=fun w=>HR b eqB (by omega) w
  obtain ⟨⟨rest,is⟩,hx⟩: ∃ x,oI b eqB=x:=⟨_,rfl⟩
  rw [hx] at hcut ⊢
  cases is with
  |false=>
   rw [if_pos rfl]
   repeat' (first|(apply aa;exact rfl;exact rfl;(intro w hm;exact hcut w))|(apply aa (f:=152);exact rfl;exact rfl;(intro w' hm';exact zE b (by omega) w' (hW.next hm')))|refine sT ?_|refine sS ?_|refine sT2 ?_|refine sN ?_|refine sM fun _=> ?_|(refine sC ?_ ?_<;>intro hb<;>try omega)|fail)
   all_goals try (exfalso;omega)
   exact eZ (.inl rfl) rfl rfl pK rfl rfl rfl (H' := [.own none 174 11 0 0 []]) mS ⟨none,0,rfl,rfl⟩
  |true=>
   rw [if_neg (by simp)]
   dsimp only
   have hF:=fun (w' :World) (h:Words w')=>Cn rest w' h _ rfl
   obtain ⟨⟨t,at0,e0⟩,hr⟩: ∃ x,cO (bF dH (ap rest)) (rest.size:Int)=x:=⟨_,rfl⟩
   simp only [hr,CK] at hF
   rw [hr]
   dsimp only
   by_cases he:e0≠0
   ·
    rw [if_pos he]
    repeat' (first|(apply aa;exact rfl;exact rfl;(intro w hm;exact hcut w))|(apply aC (f:=153);exact rfl;exact rfl;(intro w' hm';exact hF w' (hW.next hm'));rintro _ _ ⟨A,cap,rfl,rfl⟩)|(apply aj;exact rfl;apply rl;exact rfl;exact rfl)|refine sT ?_|refine sS ?_|refine sT2 ?_|refine sN ?_|refine sM fun _=> ?_|(refine sC ?_ ?_<;>intro hb<;>try omega)|fail)
    all_goals try (exfalso;omega)
    exact eZ (.inl rfl) rfl rfl pK rfl rfl rfl (H' := [.own none 174 11 0 0 []]) mS ⟨none,0,rfl,rfl⟩
   ·
    rw [if_neg he]
    repeat' (first|(apply aa;exact rfl;exact rfl;(intro w hm;exact hcut w))|(apply aC (f:=153);exact rfl;exact rfl;(intro w' hm';exact hF w' (hW.next hm'));rintro _ _ ⟨A,cap,rfl,rfl⟩)|(apply aj;exact rfl;apply rl;exact rfl;exact rfl)|refine sT ?_|refine sS ?_|refine sT2 ?_|refine sN ?_|refine sM fun _=> ?_|(refine sC ?_ ?_<;>intro hb<;>try omega)|fail)
    all_goals try (exfalso;omega)
    exact eZ (.inl rfl) rfl rfl pK rfl rfl rfl (H' := [.own A 174 11 t.length cap (t.flatMap bW)]) mS ⟨A,cap,rfl,rfl⟩
end Go.SL
namespace Go.SL
open Go Go.Proofs Go.Sort Go.Shelf
def MN (L:List Rf):List Rf:=L.mergeSort fun x y=> !(bJ y x)
end Go.SL
namespace Go.SL
open Go Go.Proofs
attribute [local irreducible] W WL WQ WG WA WX WLI WR WT VOp RW thn blk bL scp bi bz bY aQ FnIn FnP
def Mu (a:Rf):Value:= .agg (db a).toArray
def gB (gg gm:Nat) (es:List (Rf × Value × Nat)) (clock:Nat):List Blk:= [.box gg 153 [.map (some gm)],.obj gm (mD Mu es clock)]
end Go.SL
namespace Go.SL
open Go Go.Proofs
attribute [local irreducible] W WL WQ WG WA VOp thn blk bL bi aQ FnIn WLI
def Mb (n:Nd) (i:Nat) (r:List Nd):Us:=match r with
 |m::_=>if m.kind=7∧46≤m.fn then ⟨n.rect,((i+1:Nat):Int),m.fn⟩ else ⟨n.rect, -1,0⟩
 | []=>⟨n.rect, -1,0⟩
def rm:List Nd→Nat→List Us
 | [],_=> []
 |n::r,i=>bif JC n then Mb n i r::rm r (i+1) else rm r (i+1)
def Ma (L:List Nd):List Us:=rm L 0
end Go.SL
namespace Go.SL
open Go Go.Proofs
attribute [local irreducible] W WL WQ WG WA VOp thn blk bL bi aQ FnIn WLI WR WT bY vK oN o6
def rel (u:Us):Bool:=decide (0≤u.node)
def Me (r:Rct) (u:Us):Bool:=(dD u.rect r).2
end Go.SL
namespace Go.SL
open Go
abbrev Gr:=List (Rf × List Nd × List Us)
def ze (G:Gr):List Rf:=G.map fun e=>e.1
def SortG (G:Gr):Prop:=G.Pairwise fun x y=>bJ x.1 y.1=true
def si (G:Gr) (a:Rf):Option (List Nd × List Us):=(G.find? fun e=>decide (e.1=a)).map fun e=>e.2
def Kq (G:Gr) (a:Rf):List Nd:=((si G a).map fun x=>x.1).getD []
def xQ (G:Gr) (a:Rf):List Us:=((si G a).map fun x=>x.2).getD []
def FT (us:List Us) (r:Rct):Bool:=us.any (Me r)
def AE (G:Gr) (r:Rct):List Rf:=if dC r≠0 then [] else (G.filter fun e=>FT e.2.2 r).map fun e=>e.1
theorem pd {a b:Rf}:bJ a b=true↔a.row<b.row∨(a.row=b.row∧a.col<b.col):=by simp [bJ]
theorem Es (a:Rf):bJ a a=false:=by simp [bJ]
theorem pW {a b c:Rf} (h:bJ a b=true) (k:bJ b c=true):bJ a c=true:=by
 rw [pd] at*
 omega
theorem GM {a b:Rf} (h:a≠b):bJ a b=true∨bJ b a=true:=by
 rw [pd,pd]
 rcases Int.lt_trichotomy a.row b.row with h1|h1|h1
 ·
  exact .inl (.inl h1)
 ·
  rcases Int.lt_trichotomy a.col b.col with h2|h2|h2
  ·
   exact .inl (.inr ⟨h1,h2⟩)
  ·
   refine absurd ?_ h
   obtain ⟨a1,a2⟩:=a
   obtain ⟨b1,b2⟩:=b
   simp only at h1 h2
   subst h1 h2;rfl
  ·
   exact .inr (.inr ⟨h1.symm,h2⟩)
 ·
  exact .inr (.inl h1)
theorem GN {a b:Rf} (h:bJ a b=true):a≠b:=by
 rintro rfl
 rw [Es] at h
 cases h
theorem SortG.nodup {G:Gr} (h:SortG G):(ze G).Nodup:=by
 rw [ze,List.Nodup,List.pairwise_map]
 exact h.imp fun h=>GN h
theorem BF {G:Gr} (h:SortG G) {a:Rf} {x:List Nd × List Us}:si G a=some x↔(a,x)∈G:=by
 constructor
 ·
  intro hl
  obtain ⟨e,he,rfl⟩:=NQ.1 hl
  have h1:=List.find?_some he
  have h2:=PK he
  simp only [decide_eq_true_eq] at h1
  subst h1
  exact h2
 ·
  intro hm
  have hn:=h.nodup
  cases hf:G.find? fun e=>decide (e.1=a) with
  |none=>
   rw [List.find?_eq_none] at hf
   exact absurd (hf _ hm) (by simp)
  |some e=>
   have h1:=List.find?_some hf
   have h2:=PK hf
   simp only [decide_eq_true_eq] at h1
   have:=sv (fun e:Rf × List Nd × List Us=>e.1) hn h2 hm h1
   rw [si,hf,this];rfl
theorem BG {G:Gr} {a:Rf}:si G a=none↔ ∀ e∈G,e.1≠a:=by
 rw [si,Option.map_eq_none_iff,List.find?_eq_none]
 simp
end Go.SL
namespace Go.SL
open Go Go.Proofs
attribute [local irreducible] W WL WQ WG WA WX WLI WR WT WC VOp RW thn blk bL scp bi bz bY aQ FnIn FnP ceP
theorem bS {P:Program} {n:Fr} {w0:World} {Q:bM} {s:az} {H:List Blk} {l:List Oper} {id:Nat} (es ps:List Nat) (hm:P.follows .mixedOrders=true) (hB:Region.lexB .any l.toArray=true) (hch:Cc l es ps=true)
  (h:WC P n w0 l H es ps Q l 0 s H):W P n w0 (.region id l.toArray true) Q s H:=l8 es ps H hm hB hch (MSub.refl H) h
structure En where
 at_:Rf
 ta:Option Addr
 tc:Nat
 ua:Option Addr
 uc:Nat
 tree:List Nd
 uses:List Us
 born:Nat
def En.tv (e:En):Value:= .slice e.ta e.tree.length e.tc
def En.uv (e:En):Value:= .slice e.ua e.uses.length e.uc
def En.m (e:En):Rf × Value × Nat:=(e.at_,.agg #[e.tv,e.uv],e.born)
def Mq (R:List Blk) (v:Value) (m:Nat) (xs:List Value):Prop:= ∀ w0 w,Mem w0 w R→Reads w v m xs
structure EnOk (R:List Blk) (e:En):Prop where
 tree:Mq R e.tv e.tree.length (e.tree.flatMap bW)
 uses:Mq R e.uv e.uses.length (e.uses.flatMap My)
 tl:e.tree.length≤1000000
 ul:e.uses.length≤1000000
def Kx (a:Rf):En:=⟨a,none,0,none,0,[],[],0⟩
def vo (E:List En) (a:Rf):Option En:=E.find? fun e=>decide (e.at_=a)
def wY (E:List En) (a:Rf):En:=(vo E a).getD (Kx a)
end Go.SL
namespace Go.SL
open Go
def En.abs (e:En):Rf × List Nd × List Us:=(e.at_,e.tree,e.uses)
structure GOk (R:List Blk) (E:List En) (clock:Nat) (G:Gr):Prop where
 ok:MapOk (E.map En.m) clock
 en: ∀ e∈E,EnOk R e
 rel: ∀ x,x∈E.map En.abs↔x∈G
 sort:SortG G
theorem GOk.look {R:List Blk} {E:List En} {clock:Nat} {G:Gr} (h:GOk R E clock G) (a:Rf):(vo E a).map (fun e=>(e.tree,e.uses))=si G a:=by
 cases hf:vo E a with
 |some e=>
  have h1:=List.find?_some hf
  simp only [decide_eq_true_eq] at h1
  have h2:(a,e.tree,e.uses)∈G:=by
   rw [← h.rel]
   refine OM.2 ⟨e,PK hf,?_⟩
   rw [← h1];rfl
  rw [(BF h.sort).2 h2];rfl
 |none=>
  rw [vo,List.find?_eq_none] at hf
  symm
  rw [PQ,BG]
  intro x hx
  rw [← h.rel] at hx
  obtain ⟨e,he,rfl⟩:=OM.1 hx
  have:=hf e he
  simpa [En.abs] using this
theorem GOk.uses {R:List Blk} {E:List En} {clock:Nat} {G:Gr} (h:GOk R E clock G) (a:Rf):(wY E a).uses=xQ G a:=by
 rw [xQ,← h.look a,wY]
 cases vo E a<;>rfl
theorem GOk.tree {R:List Blk} {E:List En} {clock:Nat} {G:Gr} (h:GOk R E clock G) (a:Rf):(wY E a).tree=Kq G a:=by
 rw [Kq,← h.look a,wY]
 cases vo E a<;>rfl
end Go.SL
namespace Go.SL
open Go Go.Proofs
attribute [local irreducible] W WL WQ WG WA WX WLI WR WT WC VOp RW thn blk bL scp bi bz bY aQ FnIn FnP ceP vK oN o6
theorem gG {w0:World} {s:az} {H:List Blk} {ty t' :TypeId} {x y:Operand} {a b:Rf} {c:Bool} (h:decide (a≠b)=c) (hx:ev s x=some (.agg (db a).toArray)) (hy:ev s y=some (.agg (db b).toArray)):VOp Tryz.prog w0 s H (.binOp .neq 51 x y t') ty (.bool c):=by
 have h1:=KP (w0:=w0) (H:=H) (ty:=ty) (t' :=t') hx hy
 rw [Dk] at h1
 rw [← h]
 have e:(!decide (a=b))=decide (a≠b):=by simp
 rwa [e] at h1
end Go.SL
namespace Go.SL
open Go Go.Proofs
attribute [local irreducible] W WL WQ WG WA WX WLI WR WT WC VOp RW thn blk bL scp bi bz bY aQ FnIn FnP ceP
structure Et where
 at_:Rf
 input:ByteArray
def aJ (e:Et):List Value:= [.int .i64 e.at_.col,.int .i64 e.at_.row,.string e.input]
theorem bC (e:Et):(aJ e).length=3:=rfl
def gh (b:Option Rf) (e:Et):Int:=if e.at_.valid=false then 3 else if (match b with|some p=>bJ p e.at_|none=>true)=false then 12 else if e.input=av then 2 else (ofP e.input).2.2
def dS:Nat→Option Rf→List Et→Int × Int
 |_,_,[]=>(0,0)
 |i,b,e::r=>if gh b e≠0 then ((i:Int),gh b e) else dS (i+1) (some e.at_) r
def eR (L:List Et):Int × Int:=dS 0 none L
def iw (L:List Et) (i:Nat):Option Rf:=if i=0 then none else (L[i - 1]?).map Et.at_
set_option maxHeartbeats 2000000 in
theorem uh (L:List Et) (tv:Value) (w:World) (ht:Reads w tv L.length (L.flatMap aJ)) (hlen:L.length≤1000000) (hW:Words w):
    ax Tryz.prog 50 [tv] w (.tuple #[.int .i64 (eR L).1,.int .i64 (eR L).2]):=by
  obtain ⟨Al,cl,rfl,hl1,hl2,hl3⟩:=ht
  refine aq Tryz.func50 rfl Tryz.ntmps50 rfl ?_
  repeat' (first|refine sT ?_|refine sS ?_|refine sM fun _=> ?_|(refine sC ?_ ?_<;>intro hb<;>try omega)|fail)
  refine ay [0,2,3,9,10] rfl (fun i:Nat=> [(11,.int .i64 (i:Int))]) (fun _=> []) (fun i=>i≤L.length∧eR L=dS i (iw L i) (L.drop i)) (fun i=>L.length - i) 0 ⟨by omega,rfl⟩ sB (.refl _) ?_
  rintro i ⟨hi,hck⟩
  by_cases hlt:i<L.length
  · obtain ⟨gl,ol,rfl,hrl⟩:=hl3 (by omega)
    have he:=hrl.elem bC i hlt
    have hprev: ∀ h:0<i,Ro w gl (ol+(i - 1)*3) (aJ L[i - 1]):=fun h=>hrl.elem bC (i - 1) (by omega)
    have hbef: ∀ h:0<i,iw L i=some L[i - 1].at_:=fun h=>by unfold iw;rw [if_neg (by omega),MV (by omega)];rfl
    have hbef0:i=0→iw L i=none:=fun h=>by unfold iw;rw [if_pos h]
    have hnext:iw L (i+1)=some L[i].at_:=by unfold iw;rw [if_neg (by omega),Ot,MV hlt];rfl
    rw [M3 hlt,dS,← hnext] at hck
    generalize L[i]=e at he hck
    have hV: ∀ w',ax Tryz.prog 64 [.agg (db e.at_).toArray] w' (.bool e.at_.valid):=fun w' =>jU e.at_.col e.at_.row w'
    have hO:=fun (w' :World) (H' :List Blk) (hm:Mem w w' H')=>Kw e.input w' (hW.next hm)
    by_cases h0:0<i
    · have hp:=hprev h0
      rw [hbef h0] at hck
      generalize L[i - 1]=b at hp hck
      have hL:=fun w' =>xj b.at_ e.at_ w'
      unfold gh at hck
      simp only at hck
      have hofV: ∀ (A:Option Nat) (cap:Nat),ofV A cap (ofP e.input)= .tuple #[.agg (zA (ofP e.input).1 (sl A (ofP e.input).1.tree.length cap)).toArray,.int .i64 (ofP e.input).2.1,.int .i64 (ofP e.input).2.2]:=fun _ _=>rfl
      simp only [hofV] at hO
      generalize ofP e.input=o at hO hck
      obtain ⟨⟨f1,f2,f3⟩,oa,oe⟩:=o
      simp only [zA] at hO
      simp only at hck
      generalize e.at_.valid=vd at hV hck
      generalize bJ b.at_ e.at_=ls at hL hck
      repeat' (first|(apply aj (d:=14);exact rfl;apply ak;exact rfl;exact rfl;exact hlt)|(apply aj (d:=15);exact rfl;apply aA;exact rfl;exact he;exact rfl)|(apply dO (d:=29);(iterate 3 exact rfl);apply ed (o:=ol+(i - 1)*3) (off:=0) hp (ys:=db b.at_);(iterate 3 exact rfl))|(apply aa;exact rfl;exact rfl;(intro w hm;exact hV w))|(apply (bS (id:=6) [11] []);kernel_rfl;kernel_rfl;kernel_rfl)|(apply dO;(iterate 3 exact rfl);apply ak (j:=i - 1);exact rfl;exact rfl;omega)|(apply aa (f:=60);exact rfl;exact rfl;(intro w' hm;exact hL w'))|(apply aC (f:=106);exact rfl;exact rfl;(intro w' hm;exact hO w' _ hm);rintro _ _ ⟨A,cap,rfl,rfl⟩)|refine sT ?_|refine sS ?_|refine sW ?_|refine sN ?_|refine sWN ?_|refine sM fun _=> ?_|(refine sC ?_ ?_<;>intro hb<;>try omega)|(refine sCW ?_ ?_<;>intro hb<;>try omega)|fail)
      all_goals clear hofV
      all_goals first
        |(refine iA eIO rfl rfl rfl (.nil _) ?_;rw [hck];simp_all [av];done)
        | (refine ⟨i + 1, ⟨hlt, ?_⟩, by omega, ?_, ?_, .nil _⟩
           · rw [hck];simp_all [av]
           · exact sB
           · exact sB)
    · have h00:i=0:=by omega
      rw [hbef0 h00] at hck
      unfold gh at hck
      simp only at hck
      have hofV: ∀ (A:Option Nat) (cap:Nat),ofV A cap (ofP e.input)= .tuple #[.agg (zA (ofP e.input).1 (sl A (ofP e.input).1.tree.length cap)).toArray,.int .i64 (ofP e.input).2.1,.int .i64 (ofP e.input).2.2]:=fun _ _=>rfl
      simp only [hofV] at hO
      generalize ofP e.input=o at hO hck
      obtain ⟨⟨f1,f2,f3⟩,oa,oe⟩:=o
      simp only [zA] at hO
      simp only at hck
      generalize e.at_.valid=vd at hV hck
      repeat' (first|(apply aj (d:=14);exact rfl;apply ak;exact rfl;exact rfl;exact hlt)|(apply aj (d:=15);exact rfl;apply aA;exact rfl;exact he;exact rfl)|(apply aa;exact rfl;exact rfl;(intro w hm;exact hV w))|(apply (bS (id:=6) [11] []);kernel_rfl;kernel_rfl;kernel_rfl)|(apply aC (f:=106);exact rfl;exact rfl;(intro w' hm;exact hO w' _ hm);rintro _ _ ⟨A,cap,rfl,rfl⟩)|refine sT ?_|refine sS ?_|refine sW ?_|refine sN ?_|refine sWN ?_|refine sM fun _=> ?_|(refine sC ?_ ?_<;>intro hb<;>try omega)|(refine sCW ?_ ?_<;>intro hb<;>try omega)|fail)
      all_goals clear hofV
      all_goals first
        |(refine iA eIO rfl rfl rfl (.nil _) ?_;rw [hck];simp_all [av];done)
        | (refine ⟨i + 1, ⟨hlt, ?_⟩, by omega, ?_, ?_, .nil _⟩
           · rw [hck];simp_all [av]
           · exact sB
           · exact sB)
  · have e2:i=L.length:=by omega
    subst e2
    rw [ND,dS] at hck
    repeat' (first|refine sT ?_|refine sS ?_|refine sM fun _=> ?_|(refine sC ?_ ?_<;>intro hb<;>try omega)|fail)
    all_goals (refine iA eIO rfl rfl rfl (.nil _) ?_;rw [hck])
end Go.SL
namespace Go.SL
open Go Go.Proofs
instance:DecidableEq Et:=fun a b=>decidable_of_iff (a.at_=b.at_∧a.input=b.input) (by
 obtain ⟨a1,a2⟩:=a
 obtain ⟨b1,b2⟩:=b
 simp)
end Go.SL
namespace Go.SL
open Go
theorem dQ (c:Int):aD c=true↔48≤c∧c≤57:=by simp [aD]
theorem fZ (c:Int):bH c=true↔(65≤c∧c≤90)∨(97≤c∧c≤122):=by simp [bH]
theorem JM (c:Int):bH c=false↔ ¬ ((65≤c∧c≤90)∨(97≤c∧c≤122)):=by rw [← fZ];simp
theorem za (c:Int):bH (upC c)=bH c:=by
 rw [NG,fZ,fZ,upC]
 by_cases h:97≤c∧c≤122
 ·
  rw [if_pos h];omega
 ·
  rw [if_neg h]
theorem HP (c:Int):aD (upC c)=aD c:=by
 rw [NG,dQ,dQ,upC]
 by_cases h:97≤c∧c≤122
 ·
  rw [if_pos h];omega
 ·
  rw [if_neg h]
theorem Je (c:Int):upC (upC c)=upC c:=by
 simp only [upC]
 split
 ·
  rw [if_neg (by omega)]
 ·
  rfl
theorem Jf {c:Int} (h:aD c=true):upC c=c:=by
 simp only [aD,M0,decide_eq_true_eq] at h
 rw [upC,if_neg (by omega)]
theorem nI: ∀ l:List Int,(l.map upC).takeWhile bH=(l.takeWhile bH).map upC
 | []=>rfl
 |c::r=>by
  simp only [NA,OV,za]
  split
  ·
   rw [nI r];rfl
  ·
   rfl
theorem oG: ∀ l:List Int,(l.map upC).dropWhile bH=(l.dropWhile bH).map upC
 | []=>rfl
 |c::r=>by
  simp only [NA,PI,za]
  split
  ·
   rw [oG r]
  ·
   rfl
theorem pV: ∀ (l:List Int) (v:Int),ba (l.map upC) v=ba l v
 | [],_=>rfl
 |c::r,v=>by simp only [NA,ba,Je,pV r]
theorem Iv: ∀ l:List Int,(l.map upC).all aD=l.all aD
 | []=>rfl
 |c::r=>by simp only [NA,O5,HP,Iv r]
theorem rZ: ∀ {l:List Int},l.all aD=true→l.map upC=l
 | [],_=>rfl
 |c::r,h=>by
  simp only [O5,M0] at h
  simp only [NA,Jf h.1,rZ h.2]
theorem JQ (l:List Int):((l.map upC).head? =some 48)↔(l.head? =some 48):=by
 cases l with
 |nil=>simp
 |cons c r=>
  simp only [NA,List.head?_cons,Option.some.injEq,upC]
  split<;>omega
theorem Iy (l:List Int):bR (l.map upC)=bR l:=by
 unfold bR
 simp only [nI,oG,List.map_eq_nil_iff,JQ,Iv,pV]
 split
 ·
  rfl
 ·
  rename_i h
  have hd:(l.dropWhile bH).all aD=true:=by
   cases hh:(l.dropWhile bH).all aD with
   |true=>rfl
   |false=>exact absurd (.inr (.inr (.inr hh))) h
  rw [rZ hd]
theorem o5 {p:Int→Bool}: ∀ {l:List Int} {n:Nat},n≤aB p l→aB p (l.take n)=n
 | [],n,h=>by simp [aB] at h;subst h;rfl
 |c::r,0,_=>rfl
 |c::r,n+1,h=>by
  simp only [aB] at h
  split at h
  ·
   rename_i hc
   simp only [NN,aB,hc,if_true]
   rw [o5 (by omega)]
  ·
   omega
theorem nQ {p:Int→Bool}: ∀ {l:List Int} {n:Nat},aB p l≤n→aB p (l.take n)=aB p l
 | [],n,_=>by simp
 |c::r,0,h=>by
  simp only [aB] at h
  split at h
  ·
   omega
  ·
   rename_i hc;simp [aB,hc]
 |c::r,n+1,h=>by
  simp only [aB] at h ⊢
  simp only [NN,aB]
  split at h
  ·
   rename_i hc;simp only [hc,if_true];rw [nQ (by omega)]
  ·
   rename_i hc;simp [hc]
theorem lF {l:List Int} (h:bO l≠0): ∃ r,l=46::r∧bO l=aB aD r:=by
 cases l with
 |nil=>exact absurd rfl h
 |cons c r=>
  by_cases hc:c=46
  ·
   subst hc;exact ⟨r,rfl,rfl⟩
  ·
   exact absurd (kG hc) h
theorem zC {l:List Int} {w p:Nat} (hw:aB aD l=w) (hp:bO (l.drop w)=p) (h0:w≠0) (h4:p≤4):
  fI (l.take (if p=0 then w else w+1+p))=if cj<bh (l.take w++(l.drop (w+1)).take p++List.replicate (4 - p) 48) 0 then (0,3) else (bh (l.take w++(l.drop (w+1)).take p++List.replicate (4 - p) 48) 0,0):=by
 have hwl:w≤l.length:=hw ▸ bN aD l
 obtain ⟨c,r,rfl⟩: ∃ c r,l=c::r:=by
  cases l with
  |nil=>simp [aB] at hw;omega
  |cons c r=>exact ⟨c,r,rfl⟩
 have hc:aD c=true:=jc (c::r) 0 c (by omega) rfl
 have hc45:c≠45:=by simp only [aD,M0,decide_eq_true_eq] at hc;omega
 have hneg: ∀ n,0<n→decide (((c::r).take n).head? =some 45)=false:=by
  intro n hn
  cases n with
  |zero=>omega
  |succ n=>simp [hc45]
 by_cases hp0:p=0
 ·
  subst hp0
  rw [if_pos rfl]
  unfold fI
  have hrun:aB aD ((c::r).take w)=w:=o5 (by omega)
  have hdrop:((c::r).take w).drop w= []:=by rw [List.drop_eq_nil_iff,Nj];omega
  have htt:((c::r).take w).take w=(c::r).take w:=by rw [List.take_take,Nat.min_self]
  simp only [hneg w (by omega),NV,if_false,hrun,hdrop,htt]
  simp [h0]
 ·
  rw [if_neg hp0]
  obtain ⟨q,hq,hq2⟩:=lF (l:=(c::r).drop w) (by omega)
  have hpq:aB aD q=p:=by omega
  have hpl:p≤q.length:=hpq ▸ bN aD q
  have hlen:(c::r).length=w+1+q.length:=by
   have:=congrArg List.length hq
   rw [M6] at this
   simp only [Nq] at this ⊢
   omega
  have hd1:(c::r).drop (w+1)=q:=by
   rw [← N8,hq];rfl
  have hrun:aB aD ((c::r).take (w+1+p))=w:=by rw [nQ (by omega)];exact hw
  have hdrop:((c::r).take (w+1+p)).drop w=46::q.take p:=by
   rw [List.drop_take,hq,show w+1+p - w=p+1 by omega];rfl
  have htt:((c::r).take (w+1+p)).take w=(c::r).take w:=by rw [List.take_take,OK (by omega)]
  have hrp:aB aD (q.take p)=p:=o5 (by omega)
  have hlp:(q.take p).length=p:=by rw [Nj];omega
  unfold fI
  simp only [hneg (w+1+p) (by omega),NV,if_false,hrun,hdrop,htt,List.tail_cons,hrp,hd1]
  have hfrac:(decide (1<(46::q.take p).length) && (decide ((46::q.take p).head? =some 46) && decide (p+1=(46::q.take p).length)))=true:=by
   simp only [Nq,hlp,List.head?_cons,decide_true,Ns,NI]
   simp;omega
  simp only [hfrac,if_true]
  have h5:(q.take p++ [48,48,48,48,48]).getD 4 0=48:=by
   rw [Ni,NS (by omega),hlp]
   rcases (by omega:p=1∨p=2∨p=3∨p=4) with rfl|rfl|rfl|rfl<;>rfl
  have h6:(q.take p++ [48,48,48,48,48]).take 4=q.take p++List.replicate (4 - p) 48:=by
   rw [List.take_append,hlp,NE (by omega)]
   rcases (by omega:p=1∨p=2∨p=3∨p=4) with rfl|rfl|rfl|rfl<;>rfl
  rw [if_neg (by simp [h0])]
  simp only [h5,h6]
  rw [if_neg (show ¬ (53:Int)≤48 by decide),Int.add_zero,NC]
theorem rU (l:List Int):eL l=(ju l).map fun x=>(⟨1,x.1,av,aL,0⟩,x.2):=by
 unfold eL ju
 dsimp only
 split
 ·
  rfl
 ·
  rename_i h
  have h0:aB aD l≠0:=fun e=>h (.inl e)
  have h4:bO (l.drop (aB aD l))≤4:=by
   rcases Ow 4 (bO (l.drop (aB aD l))) with h4|h4
   ·
    exact absurd (.inr h4) h
   ·
    exact h4
  rw [zC rfl rfl h0 h4]
  split
  ·
   rfl
  ·
   rfl
theorem xS (m:List Int):jE (34::34::m)=(jE m).map (34:: ·):=by
 rw [jE.eq_def]
 simp
theorem yd: ∀ (n:Nat) (l:List Int),l.length≤n→jn l=(bZ l).bind fun k=>(jE (l.take k)).map fun t=>(t,k+1):=by
 intro n
 induction n with
 |zero=>intro l h;have:l= []:=Nw (by omega);subst this;rfl
 |succ n ih=>
  intro l h
  cases l with
  |nil=>rfl
  |cons c r=>
   simp only [Nq] at h
   by_cases hc:c=34
   ·
    subst hc
    cases r with
    |nil=>rfl
    |cons d r' =>
     simp only [Nq] at h
     by_cases hd:d=34
     ·
      subst hd
      rw [jn.eq_def,bZ.eq_def]
      simp only [ne_eq,not_true,if_false,if_true]
      rw [ih r' (by omega)]
      cases hk:bZ r' with
      |none=>rfl
      |some k=>
       simp only [NW,Option.bind_some]
       rw [NN,NN,xS]
       cases jE (r'.take k)<;>rfl
     ·
      rw [jn.eq_def,bZ.eq_def]
      simp [hd,jE]
   ·
    rw [jn.eq_def,jy hc]
    simp only [ne_eq,hc,not_false_eq_true,if_true]
    rw [ih r (by omega)]
    cases hk:bZ r with
    |none=>rfl
    |some k=>
     simp only [NW,Option.bind_some]
     rw [NN,o4 hc]
     cases jE (r.take k)<;>rfl
theorem EL: ∀ (n:Nat) (l:List Int) (k:Nat),l.length≤n→bZ l=some k→l[k]? =some 34∧ ∃ t,jE (l.take k)=some t∧t.length≤k:=by
 intro n
 induction n with
 |zero=>intro l k h hk;have:l= []:=Nw (by omega);subst this;cases hk
 |succ n ih=>
  intro l k h hk
  cases l with
  |nil=>cases hk
  |cons c r=>
   simp only [Nq] at h
   by_cases hc:c=34
   ·
    subst hc
    cases r with
    |nil=>cases hk;exact ⟨rfl,[],rfl,MZ _⟩
    |cons d r' =>
     simp only [Nq] at h
     by_cases hd:d=34
     ·
      subst hd
      rw [bZ.eq_def] at hk
      simp only [ne_eq,not_true,if_false,if_true] at hk
      cases hk' :bZ r' with
      |none=>rw [hk'] at hk;cases hk
      |some j=>
       rw [hk'] at hk
       cases hk
       obtain ⟨h1,t,h2,h3⟩:=ih r' j (by omega) hk'
       refine ⟨h1,34::t,?_,by simp only [Nq];omega⟩
       rw [NN,NN,xS,h2];rfl
     ·
      rw [bZ.eq_def] at hk
      simp [hd] at hk
      subst hk
      exact ⟨rfl,[],rfl,MZ _⟩
   ·
    rw [jy hc] at hk
    cases hk' :bZ r with
    |none=>rw [hk'] at hk;cases hk
    |some j=>
     rw [hk'] at hk
     cases hk
     obtain ⟨h1,t,h2,h3⟩:=ih r j (by omega) hk'
     refine ⟨h1,c::t,?_,by simp only [Nq];omega⟩
     rw [NN,o4 hc,h2];rfl
theorem FU {r:List Int} (hp:(34::r).all (fun c=>bn c)=true) (hl:r.length≤256):ll (34::r)=(jn r).map fun x=>(⟨2,0,mkB x.1,aL,0⟩,x.2+1):=by
 unfold ll
 rw [yd r.length r (MZ _)]
 simp only [Og,ne_eq,not_true,if_false,Pm,Oi]
 cases hk:bZ r with
 |none=>rfl
 |some k=>
  obtain ⟨h1,t,h2,h3⟩:=EL r.length r k (MZ _) hk
  obtain ⟨hkl,h1⟩:=Nh.1 h1
  have e1:(34::r).take (k+2)=34::r.take (k+1):=rfl
  have e2:r.take (k+1)=r.take k++ [34]:=by rw [M9 hkl,h1]
  have hall:(34::r.take (k+1)).all (fun c=>bn c)=true:=by
   rw [← e1]
   rw [N7] at hp ⊢
   exact fun x hx=>hp x (NX hx)
  have e3:fp (34::r.take (k+1))=(t,0):=by
   unfold fp
   rw [hall]
   rw [if_neg (by rw [e2];simp [List.getLast?_cons])]
   have:((34::r.take (k+1)).drop 1).dropLast=r.take k:=by rw [Pm,Oi,e2,PG]
   rw [this,h2]
   simp only
   rw [if_neg (by omega)]
  simp only [e1,e3,Option.bind_some,h2,NW]
  simp
theorem FM (l:List Int):upW l=(l.take (aB cB l)).map upC:=rfl
theorem MI (l:List Int):bR (upW l)=bR (l.take (aB cB l)):=by rw [FM,Iy]
def iG (l:List Int):Option (Tk × Nat):=match jw l with
 |some x=>some x
 |none=>gx l
theorem sU {l:List Int} (h:l.headD 0≠35): ∀ (ns:List (List Int)) (k:Int),(∀ s∈ns,s.head? =some 35)→jk l ns k=none
 | [],_,_=>rfl
 |s::r,k,hs=>by
  have h1:=hs s MY
  rw [jk,if_neg,sU h r _ fun s hs' =>hs s (M7 _ hs')]
  intro e
  cases s with
  |nil=>cases h1
  |cons a s=>
   cases h1
   cases l with
   |nil=>cases e
   |cons c l=>
    simp only [Nq,NN,NA,List.cons.injEq] at e
    simp only [Og] at h
    have:=e.1
    simp only [upC] at this
    split at this<;>omega
theorem kP {l:List Int} (h:l.headD 0≠35):jw l=none:=by
 unfold jw
 rw [sU h dh 1 (by decide)]
 rfl
def n9:List Int:= [60,62,43,45,42,47,94,38,61,37]
theorem rS {l:List Int} (h:l.headD 0∉n9): ∀ ns:List (List Int × Int),(∀ s∈ns,∃ c,s.1.head? =some c∧c∈n9)→opL l ns=none
 | [],_=>rfl
 |(s,k)::r,hs=>by
  obtain ⟨a,h1,h2⟩:=hs (s,k) MY
  rw [opL,if_neg,rS h r fun s hs' =>hs s (M7 _ hs')]
  intro e
  cases s with
  |nil=>cases h1
  |cons b s=>
   cases h1
   cases l with
   |nil=>cases e
   |cons c l=>
    simp only [Nq,NN,List.cons.injEq] at e
    simp only [Og] at h
    exact h (e.1 ▸ h2)
theorem mY {l:List Int} (h:l.headD 0∉n9) (h1:l.headD 0≠40) (h2:l.headD 0≠41) (h3:l.headD 0≠44):gx l=none:=by
 unfold gx
 rw [rS h dX (by decide)]
 simp only [h1,h2,h3,if_false]
theorem wN {l:List Int} (h:aD (l.headD 0)=false):eL l=none:=by
 unfold eL
 have:aB aD l=0:=by
  cases l with
  |nil=>rfl
  |cons c r=>simp only [Og] at h;simp [aB,h]
 simp [this]
theorem rz {l:List Int} (h:l.headD 0≠34):ll l=none:=by
 unfold ll
 rw [if_pos h]
theorem mT {l:List Int} (h:bH (l.headD 0)=false):fQ l=none:=by
 unfold fQ
 rw [if_pos h]
def bp (l:List Int):Option (Tk × Nat):=
 if aD (l.headD 0) then (ju l).map fun x=>(⟨1,x.1,av,aL,0⟩,x.2)
 else if l.headD 0=34 then (jn l.tail).map fun x=>(⟨2,0,mkB x.1,aL,0⟩,x.2+1)
 else if bH (l.headD 0) then fQ l
 else iG l
theorem pS (c:Int):c∈n9↔c=60∨c=62∨c=43∨c=45∨c=42∨c=47∨c=94∨c=38∨c=61∨c=37:=by simp [n9]
theorem DQ {l:List Int} (hp:l.all (fun c=>bn c)=true) (hl:l.length≤256):dH l=bp l:=by
 have hF:dH l=match eL l with
  |some x=>some x
  |none=>match ll l with
   |some x=>some x
   |none=>match fQ l with
    |some x=>some x
    |none=>iG l:=by
  unfold dH lu kO iG
  cases eL l<;>simp only [kO]
  cases ll l<;>simp only
  cases fQ l<;>simp only
  cases jw l<;>simp only
  cases gx l<;>rfl
 rw [hF]
 unfold bp
 by_cases h1:aD (l.headD 0)=true
 ·
  have h1' :=(dQ _).1 h1
  rw [if_pos h1,← rU,rz (by omega),mT ((JM _).2 (by omega)),iG,kP (by omega),mY (by rw [pS];omega) (by omega) (by omega) (by omega)]
  cases eL l<;>rfl
 ·
  rw [if_neg h1]
  have h1' :aD (l.headD 0)=false:=by simpa using h1
  rw [wN h1']
  by_cases h2:l.headD 0=34
  ·
   rw [if_pos h2]
   cases l with
   |nil=>cases h2
   |cons c r=>
    simp only [Og] at h2
    subst h2
    rw [FU hp (by simp only [Nq] at hl;omega),List.tail_cons,mT (by rw [Og];decide),iG,kP (by rw [Og];decide),mY (by rw [Og];decide) (by rw [Og];decide) (by rw [Og];decide) (by rw [Og];decide)]
    cases jn r<;>rfl
  ·
   rw [if_neg h2,rz h2]
   by_cases h3:bH (l.headD 0)=true
   ·
    have h3' :=(fZ _).1 h3
    rw [if_pos h3,iG,kP (by omega),mY (by rw [pS];omega) (by omega) (by omega) (by omega)]
    cases fQ l<;>rfl
   ·
    rw [if_neg h3,mT (by simpa using h3)]
theorem AK {l:List Int} (hp:l.all (fun c=>bn c)=true) (hl:l.length≤256): ∀ f i,aZ dH l f i=aZ bp l f i:=by
 intro f
 induction f with
 |zero=>intro i;rfl
 |succ f ih=>
  intro i
  simp only [aZ]
  have h1:(l.drop i).all (fun c=>bn c)=true:=by
   rw [N7] at hp ⊢
   exact fun x hx=>hp x (OQ hx)
  rw [DQ h1 (by rw [M6];omega)]
  simp only [ih]
theorem AJ (l:List Int):bF dH l=bF bp l:=by
 unfold bF
 split
 ·
  rfl
 ·
  rename_i hl
  cases h:l.findIdx? (fun c=> !bn c) with
  |some i=>rfl
  |none=>
   simp only
   rw [AK _ (by omega)]
   rw [Ov] at h
   rw [N7]
   intro x hx
   have:=h x hx
   simpa using this
end Go.SL
