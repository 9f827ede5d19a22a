/-
  Lemmas and walks, put together: D1 D2 D3 S1 S2 S3 S4 D4 W28 W29 W30.
-/
import Derived.Shelf.SlSortCmp.NoneTotal
import Derived.Test.YthefeclkaaocnaaGreatDoorKf14
set_option linter.unusedSimpArgs false
set_option linter.unusedVariables false
set_option maxRecDepth 20000
namespace Go.SL
open Go Go.Proofs
attribute [local irreducible] W WL WQ WG WA WX WLI WR WT VOp RW thn blk bF scp ba aZ bC FnAt FnIn FnP
def lf (a b:ByteArray):ByteArray × Bool:=if (ap a).take b.size=ap b then (sub a b.size a.size,true) else (a,false)
theorem Qc (a b:ByteArray) (ha:a.size≤1000000) (w:World):aD Tryz.prog 192 [.string a,.string b] w (.tuple #[.string (lf a b).1,.bool (lf a b).2]):=by
 refine ax Tryz.func192 rfl Tryz.ntmps192 rfl ?_
 have hp:=qQ a b
 unfold lf
 by_cases h:(ap a).take b.size=ap b
 ·
  rw [if_pos h]
  rw [decide_eq_true h] at hp
  have hb:b.size≤a.size:=by
   have:=congrArg List.length h
   rw [Ue,aw,aw] at this
   omega
  repeat' (first|(apply aa;exact rfl;exact rfl;(intro w hm;exact hp w))|refine sT ?_|refine sT2 ?_|refine sM fun _=> ?_|(refine sC ?_ ?_<;>intro hb<;>try omega)|fail)
  all_goals exact dc eIO rfl rfl rfl (.refl _) rfl
 ·
  rw [if_neg h]
  rw [decide_eq_false h] at hp
  repeat' (first|(apply aa;exact rfl;exact rfl;(intro w hm;exact hp w))|refine sT ?_|refine sT2 ?_|refine sM fun _=> ?_|(refine sC ?_ ?_<;>intro hb<;>try omega)|fail)
  all_goals exact dc eIO rfl rfl rfl (.refl _) rfl
theorem Oj (a b:ByteArray) (ha:a.size≤1000000) (w:World):aD Tryz.prog 151 [.string a,.string b] w (.tuple #[.string (lf a b).1,.bool (lf a b).2]):=by
 refine ax Tryz.func151 rfl Tryz.ntmps151 rfl ?_
 repeat' (first|(apply aa;exact rfl;exact rfl;(intro w hm;exact Qc a b ha w))|refine sT ?_|refine sM fun _=> ?_|(refine sC ?_ ?_<;>intro hb<;>try omega)|fail)
 all_goals exact dc eIO rfl rfl rfl (.refl _) rfl
def Po (b:ByteArray):Vl × Bool:=(bV,decide (b=az))
def xQ:ByteArray:=⟨#[39]⟩
def Pm (b:ByteArray):Vl × Bool:=(⟨3,0,(lf b xQ).1⟩,(lf b xQ).2)
def MC (b:ByteArray):Vl × Bool:=(jv ⟨3,0,b⟩,decide ((jv ⟨3,0,b⟩).kind=2))
def Gz (b:ByteArray):Vl × Bool:=(gY (jb b).1,decide ((jb b).2=0) && decide ((jb b).1≤5))
def Kk (b:ByteArray):Vl × Bool:=if (iB (ap b)).2=3 then (gY 3,true) else (x6 (iB (ap b)).1,decide ((iB (ap b)).2=0))
def DD (x:Vl × Bool):Value:= .tuple #[.agg (dV x.1).toArray,.bool x.2]
theorem Pn (b:ByteArray) (g:Nat) (w:World) (hr:Ro w g 0 [.string b]):aD Tryz.prog 193 [.pointer (some ⟨g,0,none⟩)] w (DD (Po b)):=by
 refine ax Tryz.func193 rfl Tryz.ntmps193 rfl ?_
 have hm:Mem w w []:=Mem.refl w
 repeat' (first|(rename_i g1;refine p6 (id:=1) 3 [.box g1 172 (dV bV)] (by kernel_rfl) (by kernel_rfl) rfl ?_)|(apply Dm;exact rfl;(intro D ht;apply aQ (o:=0) (off:=0);exact hr;exact rfl;exact rfl);exact fun _=>rfl)|(apply oE;exact rfl;exact rfl;exact pK;(iterate 3 exact rfl);decide;exact .refl _)|refine sT ?_|refine sG ?_|refine sM fun _=> ?_|(refine sC ?_ ?_<;>intro hb<;>try omega)|fail)
 all_goals ((refine jU ?_);rfl)
theorem Pk (b:ByteArray) (hb:b.size≤1000000) (g:Nat) (w:World) (hr:Ro w g 0 [.string b]):aD Tryz.prog 194 [.pointer (some ⟨g,0,none⟩)] w (DD (Pm b)):=by
 refine ax Tryz.func194 rfl Tryz.ntmps194 rfl ?_
 repeat' (first|(apply ak;exact rfl;apply aQ (o:=0) (off:=0);exact hr;exact rfl;exact rfl)|(apply aa;exact rfl;exact rfl;(intro w hm;exact Oj b xQ hb w))|refine sT ?_|refine sM fun _=> ?_|(refine sC ?_ ?_<;>intro hb<;>try omega)|fail)
 all_goals ((refine jU ?_);rfl)
theorem Pj (b:ByteArray) (hb:b.size≤1000000) (g:Nat) (w:World) (hr:Ro w g 0 [.string b]):aD Tryz.prog 195 [.pointer (some ⟨g,0,none⟩)] w (DD (MC b)):=by
 refine ax Tryz.func195 rfl Tryz.ntmps195 rfl ?_
 have hT:=fun w' =>LS ⟨3,0,b⟩ rfl hb w'
 unfold MC
 generalize jv ⟨3,0,b⟩=v at hT
 repeat' (first|(apply ak;exact rfl;apply aQ (o:=0) (off:=0);exact hr;exact rfl;exact rfl)|(apply aa;exact rfl;exact rfl;(intro w hm;exact hT w))|(rename_i g1 g2;refine rX (id:=2) (g:=g1) (T:=172) (xs' :=dV v) (R:= [.box g2 172 (dV v)]) (fun D=> [if D 4 then .int .u8 v.kind else .int .u8 0,if D 4 then .int .i64 v.num else .int .i64 0,if D 4 then .string v.text else .string az]) (by kernel_rfl) (by kernel_rfl) pK rfl (by intro D hD;simp [hD 4 (by decide),dV]) ?_)|refine sT ?_|refine sG ?_|refine sM fun _=> ?_|(refine sC ?_ ?_<;>intro hb<;>try omega)|fail)
 all_goals ((refine jU ?_);rfl)
theorem Ph (b:ByteArray) (hb:b.size≤1000000) (g:Nat) (w:World) (hr:Ro w g 0 [.string b]) (hW:Words w):aD Tryz.prog 197 [.pointer (some ⟨g,0,none⟩)] w (DD (Gz b)):=by
 refine ax Tryz.func197 rfl Tryz.ntmps197 rfl ?_
 unfold Gz
 have hC:=fun (w' :World) (h:Words w')=>Qt b hb w' h
 generalize jb b=x at hC
 obtain ⟨c,e⟩:=x
 repeat' (first|(apply ak;exact rfl;apply aQ (o:=0) (off:=0);exact hr;exact rfl;exact rfl)|(apply aa (f:=198);exact rfl;exact rfl;(intro w' hm';exact hC w' (hW.next hm')))|(apply aa (f:=199);exact rfl;exact rfl;(intro w' hm';exact od c w'))|refine sT ?_|refine sM fun _=> ?_|(refine sC ?_ ?_<;>intro hb<;>try omega)|fail)
 all_goals ((refine jU ?_);simp_all [DD,dV])
theorem Pe (b:ByteArray) (hb:b.size≤1000000) (g:Nat) (w:World) (hr:Ro w g 0 [.string b]):aD Tryz.prog 200 [.pointer (some ⟨g,0,none⟩)] w (DD (Kk b)):=by
 refine ax Tryz.func200 rfl Tryz.ntmps200 rfl ?_
 unfold Kk
 have hC:=fun (w' :World)=>vL b hb w'
 generalize iB (ap b)=x at hC
 obtain ⟨n,e⟩:=x
 repeat' (first|(apply ak;exact rfl;apply aQ (o:=0) (off:=0);exact hr;exact rfl;exact rfl)|(apply aa;exact rfl;exact rfl;(intro w hm;exact hC w))|(apply aa (f:=199);exact rfl;exact rfl;(intro w' hm';exact od 3 w'))|(apply aa (f:=202);exact rfl;exact rfl;(intro w' hm';exact Qr n w'))|refine sT ?_|refine sM fun _=> ?_|(refine sC ?_ ?_<;>intro hb<;>try omega)|fail)
 all_goals ((refine jU ?_);simp_all [DD,dV])
def JS:List Nat:= [193,194,195,197,200]
def xm:List (ByteArray→Vl × Bool):= [Po,Pm,MC,Gz,Kk]
def fJ (b:ByteArray):List (ByteArray→Vl × Bool)→Vl
 | []=>⟨3,0,b⟩
 |t::r=>if (t b).2 then (t b).1 else fJ b r
def uM (b:ByteArray):Vl:=fJ b xm
theorem MD (b:ByteArray) (hb:b.size≤1000000) (g k:Nat) (hk:k<5): ∃ f t,xm.drop k=t::xm.drop (k+1)∧(JS.map fun f=>Value.func (.func f) #[] #[.pointer (some ⟨g,0,none⟩)])[k]? =some (.func (.func f) #[] #[.pointer (some ⟨g,0,none⟩)])∧Callable Tryz.prog f∧
  ∀ w,Ro w g 0 [.string b]→Words w→aD Tryz.prog f [.pointer (some ⟨g,0,none⟩)] w (DD (t b)):=by
 rcases (by omega:k=0∨k=1∨k=2∨k=3∨k=4) with rfl|rfl|rfl|rfl|rfl
 ·
  exact ⟨_,_,rfl,rfl,inferInstance,fun w hr _=>Pn b g w hr⟩
 ·
  exact ⟨_,_,rfl,rfl,inferInstance,fun w hr _=>Pk b hb g w hr⟩
 ·
  exact ⟨_,_,rfl,rfl,inferInstance,fun w hr _=>Pj b hb g w hr⟩
 ·
  exact ⟨_,_,rfl,rfl,inferInstance,fun w hr hW=>Ph b hb g w hr hW⟩
 ·
  exact ⟨_,_,rfl,rfl,inferInstance,fun w hr _=>Pe b hb g w hr⟩
set_option maxHeartbeats 1000000 in
theorem FE (b:ByteArray) (hb:b.size≤1000000) (w:World) (hW:Words w):aD Tryz.prog 152 [.string b] w (.agg (dV (uM b)).toArray):=by
 refine ax Tryz.func152 rfl Tryz.ntmps152 rfl ?_
 repeat' (first|refine sT ?_|refine sS ?_|refine sM fun _=> ?_|(refine sC ?_ ?_<;>intro hb<;>try omega)|fail)
 rename_i g1 g2 g3
 refine ay [1,2,13,14] rfl (fun x:Nat × Vl=> [(4,.bool false),(15,.int .i64 (x.1:Int))]) (fun x=> [.own (some g3) 279 1 5 5 (JS.map fun f=>Value.func (.func f) #[] #[.pointer (some ⟨g1,0,none⟩)]),.box g2 172 (dV x.2),.box g1 9 [.string b]]) (fun x=>x.1≤5∧uM b=fJ b (xm.drop x.1)) (fun x=>5 - x.1) (0,bV) ⟨by omega,rfl⟩ sB mS ?_
 rintro ⟨k,v⟩ ⟨hk,hkt⟩
 dsimp only at hk hkt ⊢
 by_cases hk5:k<5
 ·
  obtain ⟨f,t,r1,r2,r3,r4⟩:=MD b hb g1 k hk5
  rw [r1,fJ] at hkt
  obtain ⟨⟨v',is⟩,ht⟩: ∃ x,t b=x:=⟨_,rfl⟩
  rw [ht] at hkt r4
  cases is with
  |true=>
   rw [if_pos rfl] at hkt
   repeat' (first|(apply ak;exact rfl;apply aj (j:=k);exact rfl;exact rfl;exact hk5)|(apply ak;exact rfl;apply bG (off:=0+k*1);exact rfl;exact pK;(rw [Uc,Va];exact r2))|(apply l9;exact rfl;exact rfl;exact r3;exact rfl;(intro w' hm;exact r4 w' (Ro.of_box hm pK) (hW.next hm)))|refine sT ?_|refine sS ?_|refine sN ?_|refine sM fun _=> ?_|(refine sC ?_ ?_<;>intro hb<;>try omega)|fail)
   all_goals (rw [hkt];(refine eRC ?_);rfl)
  |false=>
   rw [if_neg (by simp)] at hkt
   repeat' (first|(apply ak;exact rfl;apply aj (j:=k);exact rfl;exact rfl;exact hk5)|(apply ak;exact rfl;apply bG (off:=0+k*1);exact rfl;exact pK;(rw [Uc,Va];exact r2))|(apply l9;exact rfl;exact rfl;exact r3;exact rfl;(intro w' hm;exact r4 w' (Ro.of_box hm pK) (hW.next hm)))|refine sT ?_|refine sS ?_|refine sN ?_|refine sM fun _=> ?_|(refine sC ?_ ?_<;>intro hb<;>try omega)|fail)
   refine ⟨(k+1,v'),?_,(by first|omega|(dsimp only;omega)),sB,sB,mS⟩
   exact ⟨hk5,hkt⟩
 ·
  have e:k=5:=by omega
  subst e
  have hkt:uM b=⟨3,0,b⟩:=hkt
  rw [hkt]
  repeat' (first|refine sT ?_|refine sS ?_|refine sN ?_|refine sM fun _=> ?_|(refine sC ?_ ?_<;>intro hb<;>try omega)|fail)
  all_goals first|(exfalso;omega)|((refine eRC ?_);rfl)
theorem Se {a:ByteArray} {i:Nat} (h:i<a.size):jT (sub a i (i+1))=if bS (bat a i) then 0 else 4:=by
 have h1:ap (sub a i (i+1))= [bat a i]:=by
  rw [fg,bz h,WI]
  rfl
 have h2:(sub a i (i+1)).size=1:=by rw [cI a (by omega)];omega
 simp only [jT,h2,oY,h1]
 cases h:bS (bat a i)<;>simp [h]
structure Mn where
 formula:Bool
 v:Vl
 tree:List Nd
def eqB:ByteArray:=⟨#[61]⟩
def tN:Mn:=⟨false,bV,[]⟩
def ofP (b:ByteArray):Mn × Int × Int:=
 if 256<b.size then (tN,0,5)
 else match (ap b).findIdx? (fun c=> !bS c) with
  |some i=>(tN,(i:Int),4)
  |none=>
   if (lf b eqB).2=false then (⟨false,uM b,[]⟩,0,0)
   else match bX (bH dG (ap (lf b eqB).1)) ((lf b eqB).1.size:Int) with
    |(t,at_,e)=>if e≠0 then (tN,IntKind.i64.wrap (at_+1),e) else (⟨true,bV,t⟩,0,0)
def CK (m:Mn) (tv:Value):List Value:= [.bool m.formula,.int .u8 m.v.kind,.int .i64 m.v.num,.string m.v.text,tv]
def ofV (A:Option Nat) (cap:Nat) (r:Mn × Int × Int):Value:= .tuple #[.agg (CK r.1 (sl A r.1.tree.length cap)).toArray,.int .i64 r.2.1,.int .i64 r.2.2]
set_option maxHeartbeats 2000000 in
theorem QK (b:ByteArray) (w:World) (hW:Words w):FnAt Tryz.prog 106 [.string b] w fun v H=> ∃ A cap,v=ofV A cap (ofP b)∧H= [.own A 174 11 (ofP b).1.tree.length cap ((ofP b).1.tree.flatMap bR)]:=by
 refine ax Tryz.func106 rfl Tryz.ntmps106 rfl ?_
 refine aW 174 11 ?_
 unfold ofP
 by_cases hlen:256<b.size
 ·
  rw [if_pos hlen]
  repeat' (first|refine sT ?_|refine sS ?_|refine sT2 ?_|refine sM fun _=> ?_|(refine sC ?_ ?_<;>intro hb<;>try omega)|fail)
  all_goals first
   |(exfalso;omega)
   |exact gN (.inl rfl) rfl rfl pK rfl rfl rfl (H' := [.own none 174 11 0 0 []]) mS ⟨none,0,rfl,rfl⟩
 rw [if_neg hlen]
 repeat' (first|refine sT ?_|refine sS ?_|refine sT2 ?_|refine sM fun _=> ?_|(refine sC ?_ ?_<;>intro hb<;>try omega)|fail)
 all_goals try (exfalso;omega)
 rename_i g2
 refine ay [0,2,14] rfl (fun i:Nat=> [(15,.int .i64 (i:Int))]) (fun _=> [.box g2 192 [.bool false,.int .u8 0,.int .i64 0,.string az,.slice none 0 0],.own none 174 11 0 0 []]) (fun i=>i≤b.size∧ ∀ j,j<i→bS (bat b j)=true) (fun i=>b.size - i) 0 ⟨by omega,fun j h=>by omega⟩ sB mS ?_
 rintro i ⟨hi,hpl⟩
 by_cases hlt:i<b.size
 ·
  have hg:=Se hlt
  have hG:=fun w=>E5 (sub b i (i+1)) w
  rw [hg] at hG
  by_cases hc:bS (bat b i)=true
  ·
   rw [if_pos hc] at hG
   repeat' (first|(apply ak;exact rfl;apply gK;(iterate 3 exact rfl);exact ⟨by omega,by omega⟩)|(apply aa;exact rfl;exact rfl;(intro w hm;exact hG w))|refine sT ?_|refine sS ?_|refine sT2 ?_|refine sN ?_|refine sM fun _=> ?_|(refine sC ?_ ?_<;>intro hb<;>try omega)|fail)
   all_goals try (exfalso;omega)
   refine ⟨i+1,?_,(by first|omega|(dsimp only;omega)),sB,sB,mS⟩
   refine ⟨hlt,fun j hj=> ?_⟩
   rcases (by omega:j<i∨j=i) with h|rfl
   ·
    exact hpl j h
   ·
    exact hc
  ·
   rw [if_neg hc] at hG
   repeat' (first|(apply ak;exact rfl;apply gK;(iterate 3 exact rfl);exact ⟨by omega,by omega⟩)|(apply aa;exact rfl;exact rfl;(intro w hm;exact hG w))|refine sT ?_|refine sS ?_|refine sT2 ?_|refine sN ?_|refine sM fun _=> ?_|(refine sC ?_ ?_<;>intro hb<;>try omega)|fail)
   all_goals try (exfalso;omega)
   have hf:(ap b).findIdx? (fun c=> !bS c)=some i:=pO hlt (by simp [hc]) fun j hj=>by rw [hpl j hj];rfl
   rw [hf]
   exact gN (.inl rfl) rfl rfl pK rfl rfl rfl (H' := [.own none 174 11 0 0 []]) mS ⟨none,0,rfl,rfl⟩
 ·
  have e:i=b.size:=by omega
  subst e
  have hf:(ap b).findIdx? (fun c=> !bS c)=none:=nI fun j hj=>by rw [hpl j hj];rfl
  rw [hf]
  dsimp only
  have hcut:=fun w=>Oj b eqB (by omega) w
  obtain ⟨⟨rest,is⟩,hx⟩: ∃ x,lf b eqB=x:=⟨_,rfl⟩
  rw [hx] at hcut ⊢
  cases is with
  |false=>
   rw [if_pos rfl]
   repeat' (first|(apply aa;exact rfl;exact rfl;(intro w hm;exact hcut w))|(apply aa (f:=152);exact rfl;exact rfl;(intro w' hm';exact FE b (by omega) w' (hW.next hm')))|refine sT ?_|refine sS ?_|refine sT2 ?_|refine sN ?_|refine sM fun _=> ?_|(refine sC ?_ ?_<;>intro hb<;>try omega)|fail)
   all_goals try (exfalso;omega)
   exact gN (.inl rfl) rfl rfl pK rfl rfl rfl (H' := [.own none 174 11 0 0 []]) mS ⟨none,0,rfl,rfl⟩
  |true=>
   rw [if_neg (by simp)]
   dsimp only
   have hF:=fun (w' :World) (h:Words w')=>IV rest w' h _ rfl
   obtain ⟨⟨t,at0,e0⟩,hr⟩: ∃ x,bX (bH dG (ap rest)) (rest.size:Int)=x:=⟨_,rfl⟩
   simp only [hr,Ji] at hF
   rw [hr]
   dsimp only
   by_cases he:e0≠0
   ·
    rw [if_pos he]
    repeat' (first|(apply aa;exact rfl;exact rfl;(intro w hm;exact hcut w))|(apply aF (f:=153);exact rfl;exact rfl;(intro w' hm';exact hF w' (hW.next hm'));rintro _ _ ⟨A,cap,rfl,rfl⟩)|(apply ak;exact rfl;apply xc;exact rfl;exact rfl)|refine sT ?_|refine sS ?_|refine sT2 ?_|refine sN ?_|refine sM fun _=> ?_|(refine sC ?_ ?_<;>intro hb<;>try omega)|fail)
    all_goals try (exfalso;omega)
    exact gN (.inl rfl) rfl rfl pK rfl rfl rfl (H' := [.own none 174 11 0 0 []]) mS ⟨none,0,rfl,rfl⟩
   ·
    rw [if_neg he]
    repeat' (first|(apply aa;exact rfl;exact rfl;(intro w hm;exact hcut w))|(apply aF (f:=153);exact rfl;exact rfl;(intro w' hm';exact hF w' (hW.next hm'));rintro _ _ ⟨A,cap,rfl,rfl⟩)|(apply ak;exact rfl;apply xc;exact rfl;exact rfl)|refine sT ?_|refine sS ?_|refine sT2 ?_|refine sN ?_|refine sM fun _=> ?_|(refine sC ?_ ?_<;>intro hb<;>try omega)|fail)
    all_goals try (exfalso;omega)
    exact gN (.inl rfl) rfl rfl pK rfl rfl rfl (H' := [.own A 174 11 t.length cap (t.flatMap bR)]) mS ⟨A,cap,rfl,rfl⟩
def lX (a b:Rf):Int:=if bn a b then -1 else if bn b a then 1 else 0
end Go.SL
namespace Go.Proofs
open Go Go.Shelf Go.RowKit Go.Lib Go.Sort Go.SL
set_option maxHeartbeats 1000000 in
theorem Tryz.lessX (a b:Rf) (W:World):Calls Tryz.prog 60 #[.agg #[.int .i64 a.col,.int .i64 a.row],.agg #[.int .i64 b.col,.int .i64 b.row]] W fun e w' =>e= .returned (.bool (bn a b))∧ ∃ q os',w' =grow (W.drewN q) os' :=by
 go_enter Tryz.func60,Tryz.ntmps60
 go_wp2
 all_goals
  rename_i h
  go_ret
  refine ⟨?_,0,_,by rw [alloc_eq_grow,alloc_eq_grow,grow_grow];rfl⟩
  first
   |(congr 2;simp_all [bn];done)
   |(congr 2;simp only [bn];simp;omega)
   |trace_state
def Lays (W w' :World):Prop:= ∃ q os',w' =grow (W.drewN q) os'
theorem Lays.refl (W:World):Lays W W:=⟨0,#[],by simp [grow,World.drewN]⟩
theorem Lays.alloc {W X:World} (h:Lays W X) (o:Obj):Lays W (X.alloc o):=by
 obtain ⟨q,os,rfl⟩:=h
 refine ⟨q,os.push o,?_⟩
 show ({ W with heap:=(W.heap++os).push o,drawn:=W.drawn+q }:World)={ W with heap:=W.heap++os.push o,drawn:=W.drawn+q }
 rw [Array.append_push]
theorem Lays.grow {W X:World} (h:Lays W X) (q2:Nat) (os2:Array Obj):Lays W (Go.Sort.grow (X.drewN q2) os2):=by
 obtain ⟨q,os,rfl⟩:=h
 refine ⟨q+q2,os++os2,?_⟩
 show ({ W with heap:=(W.heap++os)++os2,drawn:=W.drawn+q+q2 }:World)={ W with heap:=W.heap++(os++os2),drawn:=W.drawn+(q+q2) }
 rw [Array.append_assoc,UV]
set_option maxHeartbeats 1000000 in
theorem Tryz.orderX (a b:Rf) (W:World):Calls Tryz.prog 88 #[.agg #[.int .i64 a.col,.int .i64 a.row],.agg #[.int .i64 b.col,.int .i64 b.row]] W fun e w' =>e= .returned (.int .i64 (lX a b))∧ ∃ q os',w' =grow (W.drewN q) os' :=by
 unfold lX
 have c1: ∀ q os,(grow (((W.alloc (Obj.cells #[Value.int IntKind.i64 a.col,Value.int IntKind.i64 a.row] 51)).alloc (Obj.cells #[Value.int IntKind.i64 b.col,Value.int IntKind.i64 b.row] 51)).drewN q) os).cell? ⟨W.heap.size,0,none⟩=some (.int .i64 a.col):=fun q os=>by
  refine cell_grown (by show W.heap.size<((W.heap.push _).push _).size;rw [U6,U6];omega) ?_ q os
  have e: ∀ o1 o2:Obj,((W.alloc o1).alloc o2).heap[W.heap.size]? =some o1:=fun o1 o2=>by
   show ((W.heap.push o1).push o2)[W.heap.size]? =_
   rw [Vh,if_neg (by rw [U6];omega),Vh,if_pos rfl]
  simp only [World.cell?,e]
  rfl
 have c2: ∀ q os,(grow (((W.alloc (Obj.cells #[Value.int IntKind.i64 a.col,Value.int IntKind.i64 a.row] 51)).alloc (Obj.cells #[Value.int IntKind.i64 b.col,Value.int IntKind.i64 b.row] 51)).drewN q) os).cell? ⟨W.heap.size,1,none⟩=some (.int .i64 a.row):=fun q os=>by
  refine cell_grown (by show W.heap.size<((W.heap.push _).push _).size;rw [U6,U6];omega) ?_ q os
  have e: ∀ o1 o2:Obj,((W.alloc o1).alloc o2).heap[W.heap.size]? =some o1:=fun o1 o2=>by
   show ((W.heap.push o1).push o2)[W.heap.size]? =_
   rw [Vh,if_neg (by rw [U6];omega),Vh,if_pos rfl]
  simp only [World.cell?,e]
  rfl
 have c3: ∀ q os,(grow (((W.alloc (Obj.cells #[Value.int IntKind.i64 a.col,Value.int IntKind.i64 a.row] 51)).alloc (Obj.cells #[Value.int IntKind.i64 b.col,Value.int IntKind.i64 b.row] 51)).drewN q) os).cell? ⟨W.heap.size+1,0,none⟩=some (.int .i64 b.col):=fun q os=>by
  refine cell_grown (by show W.heap.size+1<((W.heap.push _).push _).size;rw [U6,U6];omega) ?_ q os
  have e: ∀ o1 o2:Obj,((W.alloc o1).alloc o2).heap[W.heap.size+1]? =some o2:=fun o1 o2=>by
   show ((W.heap.push o1).push o2)[W.heap.size+1]? =_
   rw [Vh,if_pos (by rw [U6])]
  simp only [World.cell?,e]
  rfl
 have c4: ∀ q os,(grow (((W.alloc (Obj.cells #[Value.int IntKind.i64 a.col,Value.int IntKind.i64 a.row] 51)).alloc (Obj.cells #[Value.int IntKind.i64 b.col,Value.int IntKind.i64 b.row] 51)).drewN q) os).cell? ⟨W.heap.size+1,1,none⟩=some (.int .i64 b.row):=fun q os=>by
  refine cell_grown (by show W.heap.size+1<((W.heap.push _).push _).size;rw [U6,U6];omega) ?_ q os
  have e: ∀ o1 o2:Obj,((W.alloc o1).alloc o2).heap[W.heap.size+1]? =some o2:=fun o1 o2=>by
   show ((W.heap.push o1).push o2)[W.heap.size+1]? =_
   rw [Vh,if_pos (by rw [U6])]
  simp only [World.cell?,e]
  rfl
 go_enter Tryz.func88,Tryz.ntmps88
 go_wp2_with (go_at_call 60;refine (Tryz.lessX _ _ _).mono ?_;rintro e w' ⟨rfl,q,os,rfl⟩)
 all_goals
  go_ret
  exact ⟨rfl,by first|exact (((Lays.refl W).alloc _).alloc _).grow _ _|exact ((((Lays.refl W).alloc _).alloc _).grow _ _).grow _ _⟩
end Go.Proofs
namespace Go.Proofs
open Go Go.Shelf Go.RowKit Go.Lib Go.Sort Go.SL
def Tryz.sortRf_ren:Go.Shelf.Ren:=⟨fun|6=>87|15=>138|14=>137|28=>177|29=>178|20=>169|21=>170|22=>171|23=>172|24=>173|25=>174|26=>175|27=>176|46=>217|47=>218|48=>219|49=>220|50=>221|57=>271|n=>n,fun|22=>65|24=>51|25=>155|3=>3|39=>75|0=>0|53=>265|55=>34|4=>4|46=>258|45=>257|50=>262|5=>5|9=>9|66=>303|70=>307|76=>351|77=>352|n=>n,fun|n=>n⟩
theorem Tryz.sortRf:Go.Proofs.SlLaysF0.n6 Tryz.prog Tryz.sortRf_ren:={
 mixed:=by kernel_rfl
 f6:=⟨Tryz.f87.name,by decide,Tryz.func87.trans (congrArg some (by kernel_rfl))⟩
 f14:=⟨Tryz.f137.name,by decide,Tryz.func137.trans (congrArg some (by kernel_rfl))⟩
 f15:=Tryz.func138.trans (congrArg some (by kernel_rfl))
 f20:=⟨Tryz.f169.name,by decide,Tryz.func169.trans (congrArg some (by kernel_rfl))⟩
 f21:=⟨Tryz.f170.name,by decide,Tryz.func170.trans (congrArg some (by kernel_rfl))⟩
 f22:=⟨Tryz.f171.name,by decide,Tryz.func171.trans (congrArg some (by kernel_rfl))⟩
 f23:=⟨Tryz.f172.name,by decide,Tryz.func172.trans (congrArg some (by kernel_rfl))⟩
 f24:=⟨Tryz.f173.name,by decide,Tryz.func173.trans (congrArg some (by kernel_rfl))⟩
 f25:=⟨Tryz.f174.name,by decide,Tryz.func174.trans (congrArg some (by kernel_rfl))⟩
 f26:=⟨Tryz.f175.name,by decide,Tryz.func175.trans (congrArg some (by kernel_rfl))⟩
 f27:=⟨Tryz.f176.name,by decide,Tryz.func176.trans (congrArg some (by kernel_rfl))⟩
 f28:=Tryz.func177.trans (congrArg some (by kernel_rfl))
 f29:=Tryz.func178.trans (congrArg some (by kernel_rfl))
 f46:=⟨Tryz.f217.name,by decide,Tryz.func217.trans (congrArg some (by kernel_rfl))⟩
 f47:=Tryz.func218.trans (congrArg some (by kernel_rfl))
 f48:=Tryz.func219.trans (congrArg some (by kernel_rfl))
 f49:=⟨Tryz.f220.name,by decide,Tryz.func220.trans (congrArg some (by kernel_rfl))⟩
 f50:=⟨Tryz.f221.name,by decide,Tryz.func221.trans (congrArg some (by kernel_rfl))⟩
 f57:=⟨Tryz.f271.name,by decide,Tryz.func271.trans (congrArg some (by kernel_rfl))⟩
 t0:=Tryz.underlying0
 a0:=Tryz.isAgg0
 z0:=Tryz.sizeOf0
 v0:=Tryz.zeroValue0
 t3:=Tryz.underlying3
 a3:=Tryz.isAgg3
 z3:=Tryz.sizeOf3
 v3:=Tryz.zeroValue3
 t4:=Tryz.underlying4
 a4:=Tryz.isAgg4
 z4:=Tryz.sizeOf4
 v4:=Tryz.zeroValue4
 t5:=Tryz.underlying5
 a5:=Tryz.isAgg5
 z5:=Tryz.sizeOf5
 v5:=Tryz.zeroValue5
 t9:=Tryz.underlying9
 a9:=Tryz.isAgg9
 z9:=Tryz.sizeOf9
 v9:=Tryz.zeroValue9
 t22:=Tryz.underlying65
 a22:=Tryz.isAgg65
 z22:=Tryz.sizeOf65
 v22:=Tryz.zeroValue65
 t25:=Tryz.underlying155
 a25:=Tryz.isAgg155
 z25:=Tryz.sizeOf155
 v25:=Tryz.zeroValue155
 t39:=Tryz.underlying75
 a39:=Tryz.isAgg75
 z39:=Tryz.sizeOf75
 v39:=Tryz.zeroValue75
 t45:=Tryz.underlying257
 a45:=Tryz.isAgg257
 z45:=Tryz.sizeOf257
 v45:=Tryz.zeroValue257
 t46:=Tryz.underlying258
 a46:=Tryz.isAgg258
 z46:=Tryz.sizeOf258
 v46:=Tryz.zeroValue258
 t50:=Tryz.underlying262
 a50:=Tryz.isAgg262
 z50:=Tryz.sizeOf262
 v50:=Tryz.zeroValue262
 t53:=Tryz.underlying265
 a53:=Tryz.isAgg265
 z53:=Tryz.sizeOf265
 v53:=Tryz.zeroValue265
 t55:=Tryz.underlying34
 a55:=Tryz.isAgg34
 z55:=Tryz.sizeOf34
 v55:=Tryz.zeroValue34
 t66:=Tryz.underlying303
 a66:=Tryz.isAgg303
 z66:=Tryz.sizeOf303
 v66:=Tryz.zeroValue303
 t70:=Tryz.underlying307
 a70:=Tryz.isAgg307
 z70:=Tryz.sizeOf307
 v70:=Tryz.zeroValue307
 t76:=Tryz.underlying351
 a76:=Tryz.isAgg351
 z76:=Tryz.sizeOf351
 v76:=Tryz.zeroValue351
 t77:=Tryz.underlying352
 a77:=Tryz.isAgg352
 z77:=Tryz.sizeOf352
 v77:=Tryz.zeroValue352 }
theorem jn (x y:Rf):ltOf lX x y=bn x y:=by
 unfold ltOf lX
 cases h1:bn x y<;>cases h2:bn y x<;>simp
theorem ST:SWO (ltOf lX):={
 irrefl x:=by rw [jn];simp [bn]
 trans x y z h1 h2:=by rw [jn] at*;simp [bn] at*;omega
 ntrans x y z h1 h2:=by rw [jn] at*;simp [bn] at*;omega }
theorem QA (x y:Rf) (h1:ltOf lX x y=false) (h2:ltOf lX y x=false):x=y:=by
 rw [jn] at h1 h2
 obtain ⟨a,b⟩:=x
 obtain ⟨c,d⟩:=y
 simp [bn] at h1 h2
 simp
 omega
instance:Inhabited Rf:=⟨⟨0,0⟩⟩
theorem Tryz.sortRf_calls (blk off cap:Nat) (d:Array Rf) (w:World) (hH:HoldsK aC 2 w blk off d) (hblk:blk<w.heap.size) (hsz:d.size<4611686018427387904):
  Calls Tryz.prog 87 #[.slice (some ⟨blk,off,none⟩) d.size cap,.func (.func 88) #[] #[]] w fun e w' =>
   e= .returned (.tuple #[])∧ ∃ n os,w' =sortWorldK aC 2 w blk off n (d.toList.mergeSort fun x y=> !(ltOf lX) y x).toArray os:=by
 have eg: ∀ args w,(callFunc 88 args).run Tryz.prog w= .ok (.enter 88 args) w:=enters_of Tryz.func88 (by kernel_rfl) rfl
 exact AnyQ.slices_SortFunc_total Tryz.sortRf 2 (fun w=>by have h:=Tryz.underlying51;show (isAgg 51).run _ w=_;simp [isAgg,run_underlying h]) (fun w=>by obtain ⟨i,h1,h2⟩:=(inferInstance:Size Tryz.prog 51 2).out;show (Go.sizeOf 51).run _ w=_;simp [Go.sizeOf,typeInfo,h1,h2]) aC (fun _=>rfl) (fun x v hv=>by simp [aC] at hv;rcases hv with rfl|rfl<;>rfl) lX ST 88 #[] blk off cap d w eg (fun _ _ _ _ x y=>Tryz.orderX x y _) hH hblk hsz QA
end Go.Proofs
namespace Go.SL
open Go Go.Proofs Go.Sort Go.Shelf
def sortRf (L:List Rf):List Rf:=L.mergeSort fun x y=> !(bn y x)
theorem Fm (L:List Rf) (j:Nat) (h:j<L.length*2):(L.flatMap aC)[j]? =some ((flatK aC 2 L.toArray)[j]!):=by
 rw [get_flatK _ _ _ _ (by simpa using h)]
 have h1:j / 2<L.length:=by omega
 have h2:j % 2<2:=WU _ (by omega)
 have h3:=kG fj L (j / 2) (j % 2) h1 h2
 rw [show j / 2*2+j % 2=j by omega] at h3
 rw [h3]
 have h4:L.toArray[j / 2]! =L[j / 2]:=by simp [h1]
 rw [h4,TJ (by rw [fj];exact h2)]
 congr 1
 rw [getElem!_pos _ _ (by rw [fj];exact h2)]
theorem GN (w:World) (g n:Nat) (d:Array Rf) (os:Array Obj):w.grownBy (sortWorldK aC 2 w g 0 n d os) (some g):={
 os:=rfl
 tape:=rfl
 output:=rfl
 size:=by
  show w.heap.size≤((w.heap.modify g _)++os).size
  rw [WF,Vx]
  omega
 block k hk hne:=by
  show ((w.heap.modify g _)++os)[k]? =_
  rw [UO (by rw [Vx];exact hk),Vk,if_neg (fun e=>hne (by rw [e]))] }
theorem Ku (w:World) (g n:Nat) (d:Array Rf) (os:Array Obj) (c:Array Value) (T:TypeId) (fr:Nat × Nat) (h:w.heap[g]? =some (.cells c T fr)):
  (sortWorldK aC 2 w g 0 n d os).heap[g]? =some (.cells (putCells id 0 (flatK aC 2 d) c) T fr):=by
 have hlt:g<w.heap.size:=(Um.1 h).1
 show ((w.heap.modify g _)++os)[g]? =_
 rw [UO (by rw [Vx];exact hlt),Vk,if_pos rfl,h]
 rfl
theorem KK (L:List Rf) (xs junk:List Value) (hl:xs.length=L.length*2):putCells id 0 (flatK aC 2 L.toArray) (xs++junk).toArray=(L.flatMap aC++junk).toArray:=by
 have hfl:(L.flatMap aC).length=L.length*2:=aR fj L
 apply Wx
 intro j
 simp only [putCells,WS,UD,size_flatK,Vc,TW,true_and,Uc,U9]
 by_cases hj:j<L.length*2
 ·
  rw [Uh (by omega),Uh (by omega),Fm L j hj,TJ (by omega)]
  simp [hj]
 ·
  rw [Uj (by omega),Uj (by omega),hl,hfl]
  simp [hj]
theorem DU (L:List Rf) (g cap:Nat) (hL:L.length≤1000000) (R:List Blk) (w0:World):
  FnIn Tryz.prog 87 [sl (some g) L.length cap,.func (.func 88) #[] #[]] w0 (.own (some g) 51 2 L.length cap (L.flatMap aC)::R) fun v H=>v= .tuple #[]∧H= .own (some g) 51 2 L.length cap ((sortRf L).flatMap aC)::R:=by
 intro w hm
 obtain ⟨⟨h1,h2,h3,junk,h4,h5⟩,hk⟩:=hm.on _ TI
 have hlt:g<w.heap.size:=(Um.1 h5).1
 have hH:HoldsK aC 2 w g 0 L.toArray:=by
  intro j hj
  simp only [size_flatK,Vc] at hj
  have hc:(L.flatMap aC++junk).toArray[j]? =some (flatK aC 2 L.toArray)[j]! :=by
   rw [UD,Uh (by omega),Fm L j hj]
  constructor
  ·
   simp only [World.cell?,Uc,h5]
   exact hc
  ·
   simp [World.frozen?,h5]
 have hs:=Tryz.sortRf_calls g 0 cap L.toArray w hH hlt (by simp;omega)
 have hsz:L.toArray.size=L.length:=by simp
 rw [hsz] at hs
 refine hs.mono ?_
 rintro e w' ⟨rfl,n,os,rfl⟩
 have hlen:(sortRf L).length=L.length:=by simp [sortRf]
 have heq:(L.toArray.toList.mergeSort fun x y=> !(ltOf lX) y x)=sortRf L:=by
  simp only [sortRf,jn]
 rw [heq]
 refine ⟨_,_,rfl,hm.upd (GN _ _ _ _ _) (b' := .own (some g) 51 2 L.length cap ((sortRf L).flatMap aC)) ?_ fun k hk=> .inl hk,rfl,rfl⟩
 have hfl:((sortRf L).flatMap aC).length=L.length*2:=by rw [aR fj,hlen]
 refine ⟨hfl,h2,h3,junk,by rw [TG,hfl,← h1,← TG];exact h4,?_⟩
 rw [Ku _ _ _ _ _ _ _ _ h5,KK (sortRf L) _ _ (by rw [hlen];exact h1)]
theorem BN (L:List Rf) (A:Option Nat) (cap:Nat) (hL:L.length≤1000000) (R:List Blk) (w0:World):
  FnIn Tryz.prog 87 [sl A L.length cap,.func (.func 88) #[] #[]] w0 (.own A 51 2 L.length cap (L.flatMap aC)::R) fun v H=>v= .tuple #[]∧H= .own A 51 2 L.length cap ((sortRf L).flatMap aC)::R:=by
 cases A with
 |some g=>exact DU L g cap hL R w0
 |none=>
  intro w hm
  obtain ⟨⟨h1,h2,h3,h4⟩,_⟩:=hm.on _ TI
  obtain ⟨h5,h6⟩:=h4
  have hnil:L= []:=UW.1 h5
  subst hnil
  subst h6
  refine Calls.mono (AnyF.slices_SortFunc_none Tryz.sortRf none 0 _ w) ?_
  rintro e w' ⟨rfl,rfl⟩
  exact ⟨_,_,rfl,hm,rfl,by simp [sortRf]⟩
end Go.SL
namespace Go.SL
open Go Go.Proofs
attribute [local irreducible] W WL WQ WG WA WX WLI WR WT VOp RW thn blk bF scp ba aZ bC FnAt FnIn FnP
def aY (a:Rf):Value:= .agg (aC a).toArray
def gB (gg gm:Nat) (es:List (Rf × Value × Nat)) (clock:Nat):List Blk:= [.box gg 153 [.map (some gm)],.obj gm (aU aY es clock)]
def kZ (es:List (Rf × Value × Nat)):List Rf:=sortRf (es.map fun e=>e.1)
theorem u5 {L M:List Rf} (h:L.Perm M):sortRf L=sortRf M:=by
 have hp: ∀ L:List Rf,(sortRf L).Pairwise fun x y=>(!(bn y x))=true:=fun L=>
  WJ (le:=fun x y=> !(bn y x)) (fun a b c h1 h2=>by simp [bn] at*;omega) (fun a b=>by simp [bn];omega) L
 refine List.Perm.eq_of_pairwise (fun a b _ _ h1 h2=> ?_) (hp L) (hp M) (((V7 L _).trans h).trans (V7 M _).symm)
 exact QA a b (by rw [jn];simpa using h2) (by rw [jn];simpa using h1)
set_option maxHeartbeats 1000000 in
theorem vT (gg gm clock:Nat) (es:List (Rf × Value × Nat)) (hok:MapOk es clock) (hlen:es.length≤1000000) (R:List Blk) (w0:World):
  FnIn Tryz.prog 34 [.pointer (some ⟨gg,0,none⟩)] w0 (gB gg gm es clock++R) fun v H=> ∃ A cap,v=sl A es.length cap∧H= .own A 51 2 es.length cap ((kZ es).flatMap aC)::(gB gg gm es clock++R):=by
 refine cF Tryz.func34 rfl Tryz.ntmps34 rfl ?_
 refine aW 51 2 ?_
 repeat' (first|(apply ak;exact rfl;apply fU;exact rfl)|(apply rR (enc:=aY);exact rfl;exact rfl;exact pK;intro gi)|refine sT ?_|refine sS ?_|refine sM fun _=> ?_|(refine sC ?_ ?_<;>intro hb<;>try omega)|fail)
 refine ay [11] rfl (fun x:List (Rf × Value × Nat) × Option Nat × Nat=> [(3,sl x.2.1 x.1.length x.2.2)]) (fun x=> .obj gi (oh gm clock (x.1.map fun e=>e.2.2)):: .own x.2.1 51 2 x.1.length x.2.2 ((x.1.map fun e=>e.1).flatMap aC)::(gB gg gm es clock++R)) (fun x=>Vis es x.1) (fun x=>es.length - x.1.length) ([],none,0) (Vis.nil es) sB (.refl _) ?_
 rintro ⟨vis,A,cap⟩ hv
 dsimp only at hv ⊢
 have hvl:=hv.len
 have hml:(vis.map fun e=>e.1).length=vis.length:=Uf _
 have hS:=fun R' =>BN (vis.map fun e=>e.1) A cap (by omega) R' w0
 rw [hml] at hS
 repeat' (first|(apply uV (enc:=aY);exact rfl;exact rfl;exact pK;exact pK;exact hok;intro e he hne)|(intro hall)|(apply ak;exact rfl;apply Jd (enc:=aY);exact rfl;exact pK;exact pK;exact he;exact hok)|(apply bi;(iterate 3 exact rfl);(repeat first|exact .hd|apply Sel.tl|apply In.tl);(intro w hm;exact hm.cells_own (by (repeat first|exact .hd|apply Sel.tl|apply In.tl)));exact rfl;(simp [Value.oneCell',sl]);omega;(simp only [maxLen];omega);(intro A2 cap2 hA2))|(apply au (f:=87);exact rfl;exact rfl;exact FnIn.msub (hS _) (MSub.pick pK (MSub.refl _));rintro _ _ ⟨rfl,rfl⟩)|refine sT ?_|refine sS ?_|refine sM fun _=> ?_|(refine sC ?_ ?_<;>intro hb<;>try omega)|fail)
 ·
  refine ⟨(vis++ [e],A2,cap2),hv.step he hne,?_,?_,sB,?_⟩
  ·
   have:=hv.lt he hne
   simp only [TG,TH]
   omega
  ·
   simp only [TG,TH]
   exact sB
  ·
   simp only [UG,Ud,UQ,TG,TH,Ua,T9,Up,TR]
   exact mS
 ·
  have hperm:=hv.perm hok hall
  have hl:vis.length=es.length:=hperm.length_eq
  have hf:kZ es=sortRf (vis.map fun e=>e.1):=u5 (hperm.symm.map _)
  refine cA eIO rfl rfl (H' := .own A 51 2 es.length cap ((kZ es).flatMap aC)::(gB gg gm es clock++R)) ?_ ⟨A,cap,by rw [hl],rfl⟩
  rw [hf,← hl]
  exact mS
end Go.SL
namespace Go.SL
open Go Go.Proofs
attribute [local irreducible] W WL WQ WG WA VOp thn blk bF ba FnAt FnIn WLI
def iY (n:Nd) (i:Nat) (r:List Nd):Us:=match r with
 |m::_=>if m.kind=7∧46≤m.fn then ⟨n.rect,((i+1:Nat):Int),m.fn⟩ else ⟨n.rect, -1,0⟩
 | []=>⟨n.rect, -1,0⟩
def bZ:List Nd→Nat→List Us
 | [],_=> []
 |n::r,i=>bif eP n then iY n i r::bZ r (i+1) else bZ r (i+1)
def eu (L:List Nd):List Us:=bZ L 0
set_option maxHeartbeats 4000000 in
theorem My (L:List Nd) (tv:Value) (w0:World) (ht:Reads w0 tv L.length (L.flatMap bR)) (hlen:L.length≤1000000) (g:Nat):
  Seqs Tryz.prog 225 [.pointer (some ⟨g,0,none⟩)] w0 [.box g 86 [tv]] (eu L) (fun u=> [.agg (cV u).toArray]):=by
 obtain ⟨Al,cl,rfl,hl1,hl2,hl3⟩:=ht
 intro l I J H0 hy h0
 refine FnIn.msub (H' := .box g 86 [.slice Al L.length cl]::H0) ?_ (MSub.rot (MSub.refl _))
 refine cF Tryz.func225 rfl Tryz.ntmps225 rfl ?_
 repeat' (first|refine sT ?_|refine sM fun _=> ?_|(refine sC ?_ ?_<;>intro hb<;>try omega)|fail)
 refine jf (fun y:Nat × List Us × List Blk=> [(0,.func (.yield l) #[] #[]),(1,.pointer (some ⟨g,0,none⟩)),(6,.slice Al L.length cl),(7,.int .i64 (L.length:Int)),(8,.int .i64 (y.1:Int))])
  (fun y=> .box g 86 [.slice Al L.length cl]::y.2.2)
  (fun y=>y.1≤L.length∧eu L=y.2.1++bZ (L.drop y.1) y.1∧I y.2.1 y.2.2) (fun y=>L.length - y.1) (0,[],H0) ⟨by omega,rfl,h0⟩ ?_ ?_ ?_
 ·
  exact sB
 ·
  exact MSub.refl _
 rintro ⟨i,pre,H1⟩ ⟨hi,hus,hI⟩
 dsimp only at hi hus hI ⊢
 by_cases hlt:i<L.length
 ·
  obtain ⟨gl,ol,rfl,hrl⟩:=hl3 (by omega)
  have he:=hrl.elem dF i hlt
  rw [TN hlt,bZ] at hus
  generalize hn:L[i]=n at hus he
  have hran:=fun w=>KH n w
  have next: ∀ (us:List Us) (HU:List Blk),eu L=us++bZ (L.drop (i+1)) (i+1)→I us HU→i+1≤L.length∧eu L=us++bZ (L.drop (i+1)) (i+1)∧I us HU:=fun us HU h1 h2=>⟨hlt,h1,h2⟩
  generalize eP n=q at hus hran
  cases q
  ·
   rw [cond_false] at hus
   repeat' (first|(apply aa;exact rfl;exact rfl;(intro w hm;exact hran w))|refine sT ?_|refine sN ?_|refine sO ?_|refine sM fun _=> ?_|(refine sC ?_ ?_<;>intro hb<;>try omega)|fail)
   refine ⟨(i+1,pre,H1),next _ _ hus hI,(by dsimp only;omega),?_,?_⟩
   ·
    exact sB
   ·
    exact mS
  rw [cond_true] at hus
  by_cases hn1:i+1<L.length
  ·
   have he1:=hrl.elem dF (i+1) hn1
   have hd:=TN hn1
   generalize L[i+1]=m at he1 hd
   by_cases hrel:m.kind=7∧46≤m.fn
   ·
    have hu:iY n i (L.drop (i+1))=⟨n.rect,((i+1:Nat):Int),m.fn⟩:=by rw [hd];simp only [iY,if_pos hrel]
    rw [hu] at hus
    repeat' (first|(apply aa;exact rfl;exact rfl;(intro w hm;exact hran w))|(apply je (id:=7))|((with_reducible apply rX (id:=6) (T:=100) (fun D=> [.int .i64 n.rect.c1,.int .i64 n.rect.r1,.int .i64 n.rect.c2,.int .i64 n.rect.r2,.int .i64 (bif D 9 then ((i+1:Nat):Int) else -1),.int .u8 (bif D 11 then m.fn else 0)]) (xs' := [.int .i64 n.rect.c1,.int .i64 n.rect.r1,.int .i64 n.rect.c2,.int .i64 n.rect.r2,.int .i64 ((i+1:Nat):Int),.int .u8 m.fn]));kernel_rfl;kernel_rfl;exact .hd;exact rfl;(intro D hD;simp only [hD 9 (by decide),hD 11 (by decide),cond_true]))|(apply Dm;exact rfl;(intro D ht;first|(apply lp;exact rfl;exact rfl;(simp only [maxLen] at*;omega))|(apply aj;exact rfl;exact rfl;(first|assumption|omega))|(apply eH;exact rfl;assumption;exact rfl));exact fun _=>rfl)|refine sT ?_|refine sI ?_|refine sN ?_|refine sO ?_|refine sG ?_|refine sM fun _=> ?_|(refine sC ?_ ?_<;>intro hb<;>try omega)|fail)
    (with_reducible apply il)
    ·
     exact rfl
    ·
     exact rfl
    ·
     exact rfl
    ·
     exact MSub.app3
    ·
     exact fun w hm=>hy pre ⟨n.rect,((i+1:Nat):Int),m.fn⟩ _ hus H1 _ hI w hm
    intro bb H2 hq
    cases bb
    ·
     repeat' (first|refine sT ?_|refine sI ?_|refine sM fun _=> ?_|(refine sC ?_ ?_<;>intro hb<;>try omega)|fail)
     exact fL eIO Tryz.results225 (H' :=H2++ [.box g 86 [.slice (some ⟨gl,ol,none⟩) L.length cl]]) MSub.app3r ⟨H2,.inr ⟨_,hq⟩,MSub.refl _⟩
    ·
     repeat' (first|refine sT ?_|refine sI ?_|refine sN ?_|refine sM fun _=> ?_|(refine sC ?_ ?_<;>intro hb<;>try omega)|fail)
     refine ⟨(i+1,_,H2),next _ _ (hus.trans (by rw [List.append_assoc];rfl)) hq,(by dsimp only;omega),?_,?_⟩
     ·
      exact sB
     ·
      exact MSub.app3'
   ·
    have hu:iY n i (L.drop (i+1))=⟨n.rect, -1,0⟩:=by rw [hd];simp only [iY,if_neg hrel]
    rw [hu] at hus
    repeat' (first|(apply aa;exact rfl;exact rfl;(intro w hm;exact hran w))|(apply je (id:=7))|refine sT ?_|refine sI ?_|refine sN ?_|refine sO ?_|refine sM fun _=> ?_|(refine sC ?_ ?_<;>intro hb<;>try omega)|fail)
    all_goals
     (with_reducible apply il)
     ·
      exact rfl
     ·
      exact rfl
     ·
      exact rfl
     ·
      exact MSub.app3
     ·
      exact fun w hm=>hy pre ⟨n.rect, -1,0⟩ _ hus H1 _ hI w hm
     intro bb H2 hq
     cases bb
     ·
      repeat' (first|refine sT ?_|refine sI ?_|refine sM fun _=> ?_|(refine sC ?_ ?_<;>intro hb<;>try omega)|fail)
      exact fL eIO Tryz.results225 (H' :=H2++ [.box g 86 [.slice (some ⟨gl,ol,none⟩) L.length cl]]) MSub.app3r ⟨H2,.inr ⟨_,hq⟩,MSub.refl _⟩
     ·
      repeat' (first|refine sT ?_|refine sI ?_|refine sN ?_|refine sM fun _=> ?_|(refine sC ?_ ?_<;>intro hb<;>try omega)|fail)
      refine ⟨(i+1,_,H2),next _ _ (hus.trans (by rw [List.append_assoc];rfl)) hq,(by dsimp only;omega),?_,?_⟩
      ·
       exact sB
      ·
       exact MSub.app3'
  ·
   have hu:iY n i (L.drop (i+1))=⟨n.rect, -1,0⟩:=by rw [Uk (by omega)];rfl
   rw [hu] at hus
   repeat' (first|(apply aa;exact rfl;exact rfl;(intro w hm;exact hran w))|(apply je (id:=7))|refine sT ?_|refine sI ?_|refine sN ?_|refine sO ?_|refine sM fun _=> ?_|(refine sC ?_ ?_<;>intro hb<;>try omega)|fail)
   (with_reducible apply il)
   ·
    exact rfl
   ·
    exact rfl
   ·
    exact rfl
   ·
    exact MSub.app3
   ·
    exact fun w hm=>hy pre ⟨n.rect, -1,0⟩ _ hus H1 _ hI w hm
   intro bb H2 hq
   cases bb
   ·
    repeat' (first|refine sT ?_|refine sI ?_|refine sM fun _=> ?_|(refine sC ?_ ?_<;>intro hb<;>try omega)|fail)
    exact fL eIO Tryz.results225 (H' :=H2++ [.box g 86 [.slice (some ⟨gl,ol,none⟩) L.length cl]]) MSub.app3r ⟨H2,.inr ⟨_,hq⟩,MSub.refl _⟩
   ·
    repeat' (first|refine sT ?_|refine sI ?_|refine sN ?_|refine sM fun _=> ?_|(refine sC ?_ ?_<;>intro hb<;>try omega)|fail)
    refine ⟨(i+1,_,H2),next _ _ (hus.trans (by rw [List.append_assoc];rfl)) hq,(by dsimp only;omega),?_,?_⟩
    ·
     exact sB
    ·
     exact MSub.app3'
 ·
  have e:i=L.length:=by omega
  subst e
  rw [UB,bZ,TR] at hus
  repeat' (first|refine sT ?_|refine sM fun _=> ?_|(refine sC ?_ ?_<;>intro hb<;>try omega)|fail)
  refine fL (.inr rfl) Tryz.results225 (H' := .box g 86 [.slice Al L.length cl]::H1) mS ⟨H1,.inl (hus ▸ hI),?_⟩
  exact MSub.snoc .hd (MSub.refl _)
end Go.SL
namespace Go.SL
open Go Go.Proofs
attribute [local irreducible] W WL WQ WG WA VOp thn blk bF ba FnAt FnIn WLI WR WT bC gA cP dR
theorem Mz (A:Option Addr) (m c:Nat) (w:World):FnAt Tryz.prog 181 [.slice A m c] w fun v H=> ∃ g,v= .func (.func 225) #[] #[.pointer (some ⟨g,0,none⟩)]∧H= [.box g 86 [.slice A m c]]:=by
 refine ax Tryz.func181 rfl Tryz.ntmps181 rfl ?_
 repeat' (first|refine sT ?_|refine sM fun _=> ?_|(refine sC ?_ ?_<;>intro hb<;>try omega)|fail)
 refine cA (.inl rfl) Tryz.results181 rfl (MSub.refl _) ?_
 exact ⟨_,rfl,rfl⟩
def iX (L:List Nd):List Us × Int:=if dI L≠0 then ([],dI L) else (eu L,0)
theorem gC: ∀ (L:List Nd) (i:Nat),(bZ L i).length≤L.length
 | [],_=>TQ _
 |n::r,i=>by
  have:=gC r (i+1)
  unfold bZ
  cases eP n<;>simp<;>omega
theorem zS (L:List Nd):(eu L).length≤L.length:=gC L 0
theorem qo {α:Type} (f:α→List Value) (xs:List α) (x:α):(xs++ [x]).flatMap f=xs.flatMap f++f x:=by simp
set_option maxHeartbeats 4000000 in
theorem Qm (L:List Nd) (tv:Value) (w:World) (ht:Reads w tv L.length (L.flatMap bR)) (hlen:L.length≤1000000):
  FnAt Tryz.prog 141 [tv] w fun v H=> ∃ A cap,v= .tuple #[sl A (iX L).1.length cap,.int .i64 (iX L).2]∧H= [.own A 100 6 (iX L).1.length cap ((iX L).1.flatMap cV)]:=by
 have ht' :=ht
 obtain ⟨Al,cl,rfl,hl1,hl2,hl3⟩:=ht
 refine pL Tryz.func141 rfl Tryz.ntmps141 (by rfl) ?_
 have hck:=fun w0 (hm:Reads w0 (.slice Al L.length cl) L.length (L.flatMap bR))=>F4 L _ w0 hm
 unfold iX
 generalize dI L=e at hck
 refine oz ?_
 refine aW 100 6 ?_
 repeat' (first|(apply aa;exact rfl;exact rfl;(intro w' hm;exact hck w' (ht'.of_w0 hm)))|(apply aF;exact rfl;exact rfl;(intro w' hm;exact Mz _ _ _ w');(rintro v H' ⟨gu,rfl,rfl⟩))|refine sT ?_|refine sR ?_|refine sM fun _=> ?_|(refine sC ?_ ?_<;>intro hb<;>try omega)|(refine sCR ?_ ?_<;>intro hb<;>try omega)|fail)
 ·
  refine CJ ?_
  refine dc (.inl rfl) Tryz.results141 rfl rfl (H' := [.own none 100 6 0 0 []]) mS ⟨none,0,?_⟩
  rw [if_pos hb]
  exact ⟨rfl,rfl⟩
 rename_i gb
 rw [if_neg hb]
 have hul:=zS L
 refine rO (ps:= [14]) (us:=eu L) (encs:=fun u=> [.agg (cV u).toArray]) (Hc:= [.box gu 86 [.slice Al L.length cl]]) (HU0:= [.box gb 97 [.slice none 0 0],.own none 100 6 0 0 []]) rfl (fun _=>rfl) rfl (My L _ w ht' hlen gu)
  (fun pre HU=> ∃ A cap,HU= [.box gb 97 [sl A pre.length cap],.own A 100 6 pre.length cap (pre.flatMap cV)]) (fun _=>False) ?_ ⟨none,0,rfl⟩ ?_ ?_ ?_
 ·
  exact mS
 ·
  rintro l pre u post hus _ ⟨A,cap,rfl⟩ F F'
  have hlu:=congrArg List.length hus
  simp only [TG,TZ] at hlu
  change WR _ _ _ l _ _ ((14,Value.agg (cV u).toArray)::_) (.box gb 97 [sl A pre.length cap]:: .own A 100 6 pre.length cap (pre.flatMap cV)::F)
  repeat' (first|refine sT ?_|refine sR ?_|refine sM fun _=> ?_|(refine sC ?_ ?_<;>intro hb<;>try omega)|(refine sCR ?_ ?_<;>intro hb<;>try omega)|fail)
  rename_i g6
  refine pU ⟨[.box g6 100 (cV u),.box gb 97 [sl A pre.length cap],.own A 100 6 pre.length cap (pre.flatMap cV)],MSub.refl _,?_⟩
  change WR _ _ _ l _ _ _ (.box g6 100 (cV u):: .box gb 97 [sl A pre.length cap]:: .own A 100 6 pre.length cap (pre.flatMap cV)::F')
  repeat' (first|(apply bi;(iterate 3 exact rfl);(repeat first|exact .hd|apply Sel.tl|apply In.tl);(intro w hm;exact hm.cells_own (by (repeat first|exact .hd|apply Sel.tl|apply In.tl)));exact rfl;(simp [Value.oneCell',sl]);omega;(simp only [maxLen];omega);(intro A' cap' hA'))|refine sT ?_|refine sR ?_|refine sM fun _=> ?_|(refine sC ?_ ?_<;>intro hb<;>try omega)|(refine sCR ?_ ?_<;>intro hb<;>try omega)|fail)
  refine lz [.box gb 97 [sl A' (pre.length+1) cap'],.own A' 100 6 (pre.length+1) cap' (pre.flatMap cV++cV u)] ?_ ⟨A',cap',?_⟩
  ·
   change MSub (_::_::F') _
   exact mS
  ·
   rw [qo,TG]
   rfl
 ·
  rintro D _ ⟨A,cap,rfl⟩
  change bC _ _ _ _ _ (dH D:: .box gb 97 [sl A (eu L).length cap]:: .own A 100 6 (eu L).length cap ((eu L).flatMap cV)::_)
  repeat' (first|refine sT ?_|refine sR ?_|refine sM fun _=> ?_|(refine sC ?_ ?_<;>intro hb<;>try omega)|(refine sCR ?_ ?_<;>intro hb<;>try omega)|fail)
  refine pP .hd ?_
  refine dc (.inl rfl) Tryz.results141 rfl rfl (H' := [.own A 100 6 (eu L).length cap ((eu L).flatMap cV)]) mS ⟨A,cap,rfl,rfl⟩
 ·
  rintro D HU h
  exact h.elim
def rel (u:Us):Bool:=decide (0≤u.node)
def og (r:Rct) (u:Us):Bool:=(dZ u.rect r).2
end Go.SL
