/-
  Lemmas and walks, put together: D1 D2 D3 S1 S2 S3 S4 D4 W28 W29 W30 Gp D5 D6 D7 Gq D8 D9 D10 D11 D12 E2 K1 Lq Lr Q1 Q2 Q3 Q4 Q5 W15 W16 W17 Rw Lc R1 W31 W32 Tr Tr2 W18 W19 W20 W21 W22 Tr5 W36 W37 R2 R3 R4 R5 R6 R7 R8 R9 R10 R11 R12 Q6 Q7 Oq Q8 Q9 W33 W34 Lu Gu Q10 Q11 Q12 Q13 Q14 Q15 Ex L1 D13 G1a G1 L2 Lo Fd Fc.
-/
import Derived.Shelf.SlSortCmp.NoneTotal
import Derived.ChangeKeysEq
import Derived.Laws.Bits64
import Derived.OpenShut
import Derived.ProofKit
import Derived.Carry
import Derived.Deep.Slices
import Derived.LaidMore
import Derived.Lay
import Derived.SevenTiedAt
import Derived.Stop.Joined
import Derived.Test.YtljeomidcjpfmaaGreatDoorRows
import Derived.Test.YtljeomidcjpfmaaGreatDoorTie
import Derived.Test.YtljeomidcjpfmaaGreatDoorCards
import Derived.Test.YtljeomidcjpfmaaGreatDoorKb13
set_option linter.unusedSimpArgs false
set_option linter.unusedVariables false
set_option maxRecDepth 20000
namespace Go.SL
open Go Go.Proofs
attribute [local irreducible] W WL WQ WG WA WX WLI WR WT VOp RW thn blk cutP scp retP retPP endB FnAt FnIn FnP
def cutB (a b:ByteArray):ByteArray × Bool:=if (ints a).take b.size=ints b then (sub a b.size a.size,true) else (a,false)
theorem cut2_at (a b:ByteArray) (ha:a.size≤1000000) (w:World):Pure Tryz.prog 242 [.string a,.string b] w (.tuple #[.string (cutB a b).1,.bool (cutB a b).2]):=by
 refine fn_at Tryz.func242 rfl Tryz.ntmps242 rfl ?_
 have hp:=hasPrefix2_at a b
 unfold cutB
 by_cases h:(ints a).take b.size=ints b
 ·
  rw [if_pos h]
  rw [decide_eq_true h] at hp
  have hb:b.size≤a.size:=by
   have:=congrArg List.length h
   rw [List.length_take,ints_length,ints_length] at this
   omega
  repeat' (first|((with_reducible apply wl_callp);exact rfl;exact rfl;(intro w hm;exact hp w))|refine sT ?_|refine sT2 ?_|refine sM fun _=> ?_|(refine sC ?_ ?_<;>intro hb<;>try omega)|fail)
  all_goals exact ret2 eIO rfl rfl rfl (.refl _) rfl
 ·
  rw [if_neg h]
  rw [decide_eq_false h] at hp
  repeat' (first|((with_reducible apply wl_callp);exact rfl;exact rfl;(intro w hm;exact hp w))|refine sT ?_|refine sT2 ?_|refine sM fun _=> ?_|(refine sC ?_ ?_<;>intro hb<;>try omega)|fail)
  all_goals exact ret2 eIO rfl rfl rfl (.refl _) rfl
theorem cut_at (a b:ByteArray) (ha:a.size≤1000000) (w:World):Pure Tryz.prog 177 [.string a,.string b] w (.tuple #[.string (cutB a b).1,.bool (cutB a b).2]):=by
 refine fn_at Tryz.func177 rfl Tryz.ntmps177 rfl ?_
 repeat' (first|((with_reducible apply wl_callp);exact rfl;exact rfl;(intro w hm;exact cut2_at a b ha w))|refine sT ?_|refine sM fun _=> ?_|(refine sC ?_ ?_<;>intro hb<;>try omega)|fail)
 all_goals exact ret2 eIO rfl rfl rfl (.refl _) rfl
def try1 (b:ByteArray):Vl × Bool:=(zeroV,decide (b=emptyB))
def quoteB:ByteArray:=⟨#[39]⟩
def try2 (b:ByteArray):Vl × Bool:=(⟨3,0,(cutB b quoteB).1⟩,(cutB b quoteB).2)
def try3 (b:ByteArray):Vl × Bool:=(boolTextV ⟨3,0,b⟩,decide ((boolTextV ⟨3,0,b⟩).kind=2))
def try4 (b:ByteArray):Vl × Bool:=(failV (codeE b).1,decide ((codeE b).2=0) && decide ((codeE b).1≤5))
def try5 (b:ByteArray):Vl × Bool:=if (decL (ints b)).2=3 then (failV 3,true) else (makeV (decL (ints b)).1,decide ((decL (ints b)).2=0))
def tryV (x:Vl × Bool):Value:= .tuple #[.agg (encV x.1).toArray,.bool x.2]
theorem try1_at (b:ByteArray) (g:Nat) (w:World) (hr:Ro w g 0 [.string b]):Pure Tryz.prog 243 [.pointer (some ⟨g,0,none⟩)] w (tryV (try1 b)):=by
 refine fn_at Tryz.func243 rfl Tryz.ntmps243 rfl ?_
 have hm:Mem w w []:=Mem.refl w
 repeat' (first|(rename_i g1;refine w_drawL (id:=1) 3 [.box g1 173 (encV zeroV)] (by kernel_rfl) (by kernel_rfl) rfl ?_)|((with_reducible apply wg_v);exact rfl;(intro D ht;(with_reducible apply v_load_ro (o:=0) (off:=0));exact hr;exact rfl;exact rfl);exact fun _=>rfl)|((with_reducible apply wg_lput_box);exact rfl;exact rfl;exact pK;(iterate 3 exact rfl);decide;exact .refl _)|refine sT ?_|refine sG ?_|refine sM fun _=> ?_|(refine sC ?_ ?_<;>intro hb<;>try omega)|fail)
 all_goals ((refine eRCT ?_);rfl)
theorem try2_at (b:ByteArray) (hb:b.size≤1000000) (g:Nat) (w:World) (hr:Ro w g 0 [.string b]):Pure Tryz.prog 244 [.pointer (some ⟨g,0,none⟩)] w (tryV (try2 b)):=by
 refine fn_at Tryz.func244 rfl Tryz.ntmps244 rfl ?_
 repeat' (first|((with_reducible apply wl_v);exact rfl;(with_reducible apply v_load_ro (o:=0) (off:=0));exact hr;exact rfl;exact rfl)|((with_reducible apply wl_callp);exact rfl;exact rfl;(intro w hm;exact cut_at b quoteB hb w))|refine sT ?_|refine sM fun _=> ?_|(refine sC ?_ ?_<;>intro hb<;>try omega)|fail)
 all_goals ((refine eRCT ?_);rfl)
theorem try3_at (b:ByteArray) (hb:b.size≤1000000) (g:Nat) (w:World) (hr:Ro w g 0 [.string b]):Pure Tryz.prog 245 [.pointer (some ⟨g,0,none⟩)] w (tryV (try3 b)):=by
 refine fn_at Tryz.func245 rfl Tryz.ntmps245 rfl ?_
 have hT:=fun w' =>ToBool_at ⟨3,0,b⟩ rfl hb w'
 unfold try3
 generalize boolTextV ⟨3,0,b⟩=v at hT
 repeat' (first|((with_reducible apply wl_v);exact rfl;(with_reducible apply v_load_ro (o:=0) (off:=0));exact hr;exact rfl;exact rfl)|((with_reducible apply wl_callp);exact rfl;exact rfl;(intro w hm;exact hT w))|(rename_i g1 g2;refine w_drawB (id:=2) (g:=g1) (T:=173) (xs' :=encV v) (R:= [.box g2 173 (encV v)]) (fun D=> [if D 4 then .int .u8 v.kind else .int .u8 0,if D 4 then .int .i64 v.num else .int .i64 0,if D 4 then .string v.text else .string emptyB]) (by kernel_rfl) (by kernel_rfl) pK rfl (by intro D hD;simp [hD 4 (by decide),encV]) ?_)|refine sT ?_|refine sG ?_|refine sM fun _=> ?_|(refine sC ?_ ?_<;>intro hb<;>try omega)|fail)
 all_goals ((refine eRCT ?_);rfl)
theorem try4_at (b:ByteArray) (hb:b.size≤1000000) (g:Nat) (w:World) (hr:Ro w g 0 [.string b]) (hW:Words w):Pure Tryz.prog 247 [.pointer (some ⟨g,0,none⟩)] w (tryV (try4 b)):=by
 refine fn_at Tryz.func247 rfl Tryz.ntmps247 rfl ?_
 unfold try4
 have hC:=fun (w' :World) (h:Words w')=>Code_at b hb w' h
 generalize codeE b=x at hC
 obtain ⟨c,e⟩:=x
 repeat' (first|((with_reducible apply wl_v);exact rfl;(with_reducible apply v_load_ro (o:=0) (off:=0));exact hr;exact rfl;exact rfl)|((with_reducible apply wl_callp (f:=248));exact rfl;exact rfl;(intro w' hm';exact hC w' (hW.next hm')))|((with_reducible apply wl_callp (f:=249));exact rfl;exact rfl;(intro w' hm';exact Fail_at c w'))|refine sT ?_|refine sM fun _=> ?_|(refine sC ?_ ?_<;>intro hb<;>try omega)|fail)
 all_goals ((refine eRCT ?_);simp_all [tryV,encV])
theorem try5_at (b:ByteArray) (hb:b.size≤1000000) (g:Nat) (w:World) (hr:Ro w g 0 [.string b]):Pure Tryz.prog 250 [.pointer (some ⟨g,0,none⟩)] w (tryV (try5 b)):=by
 refine fn_at Tryz.func250 rfl Tryz.ntmps250 rfl ?_
 unfold try5
 have hC:=fun (w' :World)=>decParse_at b hb w'
 generalize decL (ints b)=x at hC
 obtain ⟨n,e⟩:=x
 repeat' (first|((with_reducible apply wl_v);exact rfl;(with_reducible apply v_load_ro (o:=0) (off:=0));exact hr;exact rfl;exact rfl)|((with_reducible apply wl_callp);exact rfl;exact rfl;(intro w hm;exact hC w))|((with_reducible apply wl_callp (f:=249));exact rfl;exact rfl;(intro w' hm';exact Fail_at 3 w'))|((with_reducible apply wl_callp (f:=252));exact rfl;exact rfl;(intro w' hm';exact Make_at n w'))|refine sT ?_|refine sM fun _=> ?_|(refine sC ?_ ?_<;>intro hb<;>try omega)|fail)
 all_goals ((refine eRCT ?_);simp_all [tryV,encV])
def constFs:List Nat:= [243,244,245,247,250]
def triesP:List (ByteArray→Vl × Bool):= [try1,try2,try3,try4,try5]
def constFrom (b:ByteArray):List (ByteArray→Vl × Bool)→Vl
 | []=>⟨3,0,b⟩
 |t::r=>if (t b).2 then (t b).1 else constFrom b r
def constP (b:ByteArray):Vl:=constFrom b triesP
theorem tries_at (b:ByteArray) (hb:b.size≤1000000) (g k:Nat) (hk:k<5): ∃ f t,triesP.drop k=t::triesP.drop (k+1)∧(constFs.map fun f=>Value.func (.func f) #[] #[.pointer (some ⟨g,0,none⟩)])[k]? =some (.func (.func f) #[] #[.pointer (some ⟨g,0,none⟩)])∧Callable Tryz.prog f∧
  ∀ w,Ro w g 0 [.string b]→Words w→Pure Tryz.prog f [.pointer (some ⟨g,0,none⟩)] w (tryV (t b)):=by
 rcases (by omega:k=0∨k=1∨k=2∨k=3∨k=4) with rfl|rfl|rfl|rfl|rfl
 ·
  exact ⟨_,_,rfl,rfl,inferInstance,fun w hr _=>try1_at b g w hr⟩
 ·
  exact ⟨_,_,rfl,rfl,inferInstance,fun w hr _=>try2_at b hb g w hr⟩
 ·
  exact ⟨_,_,rfl,rfl,inferInstance,fun w hr _=>try3_at b hb g w hr⟩
 ·
  exact ⟨_,_,rfl,rfl,inferInstance,fun w hr hW=>try4_at b hb g w hr hW⟩
 ·
  exact ⟨_,_,rfl,rfl,inferInstance,fun w hr _=>try5_at b hb g w hr⟩
set_option maxHeartbeats 1000000 in
theorem constant_at (b:ByteArray) (hb:b.size≤1000000) (w:World) (hW:Words w):Pure Tryz.prog 178 [.string b] w (.agg (encV (constP b)).toArray):=by
 refine fn_at Tryz.func178 rfl Tryz.ntmps178 rfl ?_
 repeat' (first|refine sT ?_|refine sS ?_|refine sM fun _=> ?_|(refine sC ?_ ?_<;>intro hb<;>try omega)|fail)
 rename_i g1 g2 g3
 refine w_loopK [1,2,13,14] rfl (fun x:Nat × Vl=> [(4,.bool false),(15,.int .i64 (x.1:Int))]) (fun x=> [.own (some g3) 346 1 5 5 (constFs.map fun f=>Value.func (.func f) #[] #[.pointer (some ⟨g1,0,none⟩)]),.box g2 173 (encV x.2),.box g1 9 [.string b]]) (fun x=>x.1≤5∧constP b=constFrom b (triesP.drop x.1)) (fun x=>5 - x.1) (0,zeroV) ⟨by omega,rfl⟩ sB mS ?_
 rintro ⟨k,v⟩ ⟨hk,hkt⟩
 dsimp only at hk hkt ⊢
 by_cases hk5:k<5
 ·
  obtain ⟨f,t,r1,r2,r3,r4⟩:=tries_at b hb g1 k hk5
  rw [r1,constFrom] at hkt
  obtain ⟨⟨v',is⟩,ht⟩: ∃ x,t b=x:=⟨_,rfl⟩
  rw [ht] at hkt r4
  cases is with
  |true=>
   rw [if_pos rfl] at hkt
   repeat' (first|((with_reducible apply wl_v);exact rfl;(with_reducible apply v_indexAddr (j:=k));exact rfl;exact rfl;exact hk5)|((with_reducible apply wl_v);exact rfl;(with_reducible apply v_load_own (off:=0+k*1));exact rfl;exact pK;(rw [Nat.zero_add,Nat.mul_one];exact r2))|((with_reducible apply wl_callvp);exact rfl;exact rfl;exact r3;exact rfl;(intro w' hm;exact r4 w' (Ro.of_box hm pK) (hW.next hm)))|refine sT ?_|refine sS ?_|refine sN ?_|refine sM fun _=> ?_|(refine sC ?_ ?_<;>intro hb<;>try omega)|fail)
   all_goals (rw [hkt];(refine eRC ?_);rfl)
  |false=>
   rw [if_neg (by simp)] at hkt
   repeat' (first|((with_reducible apply wl_v);exact rfl;(with_reducible apply v_indexAddr (j:=k));exact rfl;exact rfl;exact hk5)|((with_reducible apply wl_v);exact rfl;(with_reducible apply v_load_own (off:=0+k*1));exact rfl;exact pK;(rw [Nat.zero_add,Nat.mul_one];exact r2))|((with_reducible apply wl_callvp);exact rfl;exact rfl;exact r3;exact rfl;(intro w' hm;exact r4 w' (Ro.of_box hm pK) (hW.next hm)))|refine sT ?_|refine sS ?_|refine sN ?_|refine sM fun _=> ?_|(refine sC ?_ ?_<;>intro hb<;>try omega)|fail)
   refine ⟨(k+1,v'),?_,(by first|omega|(dsimp only;omega)),sB,sB,mS⟩
   exact ⟨hk5,hkt⟩
 ·
  have e:k=5:=by omega
  subst e
  have hkt:constP b=⟨3,0,b⟩:=hkt
  rw [hkt]
  repeat' (first|refine sT ?_|refine sS ?_|refine sN ?_|refine sM fun _=> ?_|(refine sC ?_ ?_<;>intro hb<;>try omega)|fail)
  all_goals first|(exfalso;omega)|((refine eRC ?_);rfl)
theorem glyph1 {a:ByteArray} {i:Nat} (h:i<a.size):glyphE (sub a i (i+1))=if plainC (bat a i) then 0 else 4:=by
 have h1:ints (sub a i (i+1))= [bat a i]:=by
  rw [ints_sub,bat_drop h,Nat.add_sub_cancel_left]
  rfl
 have h2:(sub a i (i+1)).size=1:=by rw [sub_size a (by omega)];omega
 simp only [glyphE,h2,plainB_ints,h1]
 cases h:plainC (bat a i)<;>simp [h]
structure Mn where
 formula:Bool
 v:Vl
 tree:List Nd
def eqB:ByteArray:=⟨#[61]⟩
def zeroMn:Mn:=⟨false,zeroV,[]⟩
def ofP (b:ByteArray):Mn × Int × Int:=
 if 256<b.size then (zeroMn,0,5)
 else match (ints b).findIdx? (fun c=> !plainC c) with
  |some i=>(zeroMn,(i:Int),4)
  |none=>
   if (cutB b eqB).2=false then (⟨false,constP b,[]⟩,0,0)
   else match formulaV (tokensV tokenP (ints (cutB b eqB).1)) ((cutB b eqB).1.size:Int) with
    |(t,at_,e)=>if e≠0 then (zeroMn,IntKind.i64.wrap (at_+1),e) else (⟨true,zeroV,t⟩,0,0)
def encM (m:Mn) (tv:Value):List Value:= [.bool m.formula,.int .u8 m.v.kind,.int .i64 m.v.num,.string m.v.text,tv]
def ofV (A:Option Nat) (cap:Nat) (r:Mn × Int × Int):Value:= .tuple #[.agg (encM r.1 (sl A r.1.tree.length cap)).toArray,.int .i64 r.2.1,.int .i64 r.2.2]
set_option maxHeartbeats 2000000 in
theorem Of_at (b:ByteArray) (w:World) (hW:Words w):FnAt Tryz.prog 108 [.string b] w fun v H=> ∃ A cap,v=ofV A cap (ofP b)∧H= [.own A 368 11 (ofP b).1.tree.length cap ((ofP b).1.tree.flatMap encN)]:=by
 refine fn_at Tryz.func108 rfl Tryz.ntmps108 rfl ?_
 refine w_nilrow 368 11 ?_
 unfold ofP
 by_cases hlen:256<b.size
 ·
  rw [if_pos hlen]
  repeat' (first|refine sT ?_|refine sS ?_|refine sT2 ?_|refine sM fun _=> ?_|(refine sC ?_ ?_<;>intro hb<;>try omega)|fail)
  all_goals first
   |(exfalso;omega)
   |exact retctt (.inl rfl) rfl rfl pK rfl rfl rfl (H' := [.own none 368 11 0 0 []]) mS ⟨none,0,rfl,rfl⟩
 rw [if_neg hlen]
 repeat' (first|refine sT ?_|refine sS ?_|refine sT2 ?_|refine sM fun _=> ?_|(refine sC ?_ ?_<;>intro hb<;>try omega)|fail)
 all_goals first|(exfalso;omega)|skip
 rename_i g2
 refine w_loopK [0,2,14] rfl (fun i:Nat=> [(15,.int .i64 (i:Int))]) (fun _=> [.box g2 176 [.bool false,.int .u8 0,.int .i64 0,.string emptyB,.slice none 0 0],.own none 368 11 0 0 []]) (fun i=>i≤b.size∧ ∀ j,j<i→plainC (bat b j)=true) (fun i=>b.size - i) 0 ⟨by omega,fun j h=>by omega⟩ sB mS ?_
 rintro i ⟨hi,hpl⟩
 by_cases hlt:i<b.size
 ·
  have hg:=glyph1 hlt
  have hG:=fun w=>glyph_at (sub b i (i+1)) w
  rw [hg] at hG
  by_cases hc:plainC (bat b i)=true
  ·
   rw [if_pos hc] at hG
   repeat' (first|((with_reducible apply wl_v);exact rfl;(with_reducible apply v_sub2);(iterate 3 exact rfl);exact ⟨by omega,by omega⟩)|((with_reducible apply wl_callp);exact rfl;exact rfl;(intro w hm;exact hG w))|refine sT ?_|refine sS ?_|refine sT2 ?_|refine sN ?_|refine sM fun _=> ?_|(refine sC ?_ ?_<;>intro hb<;>try omega)|fail)
   all_goals first|(exfalso;omega)|skip
   refine ⟨i+1,?_,(by first|omega|(dsimp only;omega)),sB,sB,mS⟩
   refine ⟨hlt,fun j hj=> ?_⟩
   rcases (by omega:j<i∨j=i) with h|rfl
   ·
    exact hpl j h
   ·
    exact hc
  ·
   rw [if_neg hc] at hG
   repeat' (first|((with_reducible apply wl_v);exact rfl;(with_reducible apply v_sub2);(iterate 3 exact rfl);exact ⟨by omega,by omega⟩)|((with_reducible apply wl_callp);exact rfl;exact rfl;(intro w hm;exact hG w))|refine sT ?_|refine sS ?_|refine sT2 ?_|refine sN ?_|refine sM fun _=> ?_|(refine sC ?_ ?_<;>intro hb<;>try omega)|fail)
   all_goals first|(exfalso;omega)|skip
   have hf:(ints b).findIdx? (fun c=> !plainC c)=some i:=find_bat hlt (by simp [hc]) fun j hj=>by rw [hpl j hj];rfl
   rw [hf]
   exact retctt (.inl rfl) rfl rfl pK rfl rfl rfl (H' := [.own none 368 11 0 0 []]) mS ⟨none,0,rfl,rfl⟩
 ·
  have e:i=b.size:=by omega
  subst e
  have hf:(ints b).findIdx? (fun c=> !plainC c)=none:=nofind_bat fun j hj=>by rw [hpl j hj];rfl
  rw [hf]
  dsimp only
  have hcut:=fun w=>cut_at b eqB (by omega) w
  obtain ⟨⟨rest,is⟩,hx⟩: ∃ x,cutB b eqB=x:=⟨_,rfl⟩
  rw [hx] at hcut ⊢
  cases is with
  |false=>
   rw [if_pos rfl]
   repeat' (first|((with_reducible apply wl_callp);exact rfl;exact rfl;(intro w hm;exact hcut w))|((with_reducible apply wl_callp (f:=178));exact rfl;exact rfl;(intro w' hm';exact constant_at b (by omega) w' (hW.next hm')))|refine sT ?_|refine sS ?_|refine sT2 ?_|refine sN ?_|refine sM fun _=> ?_|(refine sC ?_ ?_<;>intro hb<;>try omega)|fail)
   all_goals first|(exfalso;omega)|skip
   exact retctt (.inl rfl) rfl rfl pK rfl rfl rfl (H' := [.own none 368 11 0 0 []]) mS ⟨none,0,rfl,rfl⟩
  |true=>
   rw [if_neg (by simp)]
   dsimp only
   have hF:=fun (w' :World) (h:Words w')=>Formula_at rest w' h _ rfl
   obtain ⟨⟨t,at0,e0⟩,hr⟩: ∃ x,formulaV (tokensV tokenP (ints rest)) (rest.size:Int)=x:=⟨_,rfl⟩
   simp only [hr,treeV] at hF
   rw [hr]
   dsimp only
   by_cases he:e0≠0
   ·
    rw [if_pos he]
    repeat' (first|((with_reducible apply wl_callp);exact rfl;exact rfl;(intro w hm;exact hcut w))|((with_reducible apply wl_call (f:=179));exact rfl;exact rfl;(intro w' hm';exact hF w' (hW.next hm'));rintro _ _ ⟨A,cap,rfl,rfl⟩)|((with_reducible apply wl_v);exact rfl;(with_reducible apply v_addw);exact rfl;exact rfl)|refine sT ?_|refine sS ?_|refine sT2 ?_|refine sN ?_|refine sM fun _=> ?_|(refine sC ?_ ?_<;>intro hb<;>try omega)|fail)
    all_goals first|(exfalso;omega)|skip
    exact retctt (.inl rfl) rfl rfl pK rfl rfl rfl (H' := [.own none 368 11 0 0 []]) mS ⟨none,0,rfl,rfl⟩
   ·
    rw [if_neg he]
    repeat' (first|((with_reducible apply wl_callp);exact rfl;exact rfl;(intro w hm;exact hcut w))|((with_reducible apply wl_call (f:=179));exact rfl;exact rfl;(intro w' hm';exact hF w' (hW.next hm'));rintro _ _ ⟨A,cap,rfl,rfl⟩)|((with_reducible apply wl_v);exact rfl;(with_reducible apply v_addw);exact rfl;exact rfl)|refine sT ?_|refine sS ?_|refine sT2 ?_|refine sN ?_|refine sM fun _=> ?_|(refine sC ?_ ?_<;>intro hb<;>try omega)|fail)
    all_goals first|(exfalso;omega)|skip
    exact retctt (.inl rfl) rfl rfl pK rfl rfl rfl (H' := [.own A 368 11 t.length cap (t.flatMap encN)]) mS ⟨A,cap,rfl,rfl⟩
end Go.SL
namespace Go.SL
open Go Go.Proofs Go.Sort Go.Shelf
def sortRf (L:List Rf):List Rf:=L.mergeSort fun x y=> !(lessF y x)
end Go.SL
namespace Go.SL
open Go Go.Proofs
attribute [local irreducible] W WL WQ WG WA WX WLI WR WT VOp RW thn blk cutP scp retP retPP endB FnAt FnIn FnP
def keyF (a:Rf):Value:= .agg (encF a).toArray
def gB (gg gm:Nat) (es:List (Rf × Value × Nat)) (clock:Nat):List Blk:= [.box gg 171 [.map (some gm)],.obj gm (mobj keyF es clock)]
end Go.SL
namespace Go.SL
open Go Go.Proofs
attribute [local irreducible] W WL WQ WG WA VOp thn blk cutP retP FnAt FnIn WLI
def useOf (n:Nd) (i:Nat) (r:List Nd):Us:=match r with
 |m::_=>if m.kind=7∧46≤m.fn then ⟨n.rect,((i+1:Nat):Int),m.fn⟩ else ⟨n.rect, -1,0⟩
 | []=>⟨n.rect, -1,0⟩
def usesFrom:List Nd→Nat→List Us
 | [],_=> []
 |n::r,i=>bif rangesF n then useOf n i r::usesFrom r (i+1) else usesFrom r (i+1)
def usesF (L:List Nd):List Us:=usesFrom L 0
end Go.SL
namespace Go.SL
open Go Go.Proofs
attribute [local irreducible] W WL WQ WG WA VOp thn blk cutP retP FnAt FnIn WLI WR WT endB bodyB assignQ roundQ
def rel (u:Us):Bool:=decide (0≤u.node)
def touch (r:Rct) (u:Us):Bool:=(meetR u.rect r).2
end Go.SL
namespace Go.SL
open Go
abbrev Gr:=List (Rf × List Nd × List Us)
def keysG (G:Gr):List Rf:=G.map fun e=>e.1
def SortG (G:Gr):Prop:=G.Pairwise fun x y=>lessF x.1 y.1=true
def lookG (G:Gr) (a:Rf):Option (List Nd × List Us):=(G.find? fun e=>decide (e.1=a)).map fun e=>e.2
def treeG (G:Gr) (a:Rf):List Nd:=((lookG G a).map fun x=>x.1).getD []
def usesG (G:Gr) (a:Rf):List Us:=((lookG G a).map fun x=>x.2).getD []
def touchesU (us:List Us) (r:Rct):Bool:=us.any (touch r)
def usersG (G:Gr) (r:Rct):List Rf:=if rectE r≠0 then [] else (G.filter fun e=>touchesU e.2.2 r).map fun e=>e.1
theorem lessF_irr (a:Rf):lessF a a=false:=by simp [lessF]
theorem lessF_ne {a b:Rf} (h:lessF a b=true):a≠b:=by
 rintro rfl
 rw [lessF_irr] at h
 cases h
theorem SortG.nodup {G:Gr} (h:SortG G):(keysG G).Nodup:=by
 rw [keysG,List.Nodup,List.pairwise_map]
 exact h.imp fun h=>lessF_ne h
theorem lookG_some {G:Gr} (h:SortG G) {a:Rf} {x:List Nd × List Us}:lookG G a=some x↔(a,x)∈G:=by
 constructor
 ·
  intro hl
  obtain ⟨e,he,rfl⟩:=Option.map_eq_some_iff.1 hl
  have h1:=List.find?_some he
  have h2:=List.mem_of_find?_eq_some he
  simp only [decide_eq_true_eq] at h1
  subst h1
  exact h2
 ·
  intro hm
  have hn:=h.nodup
  cases hf:G.find? fun e=>decide (e.1=a) with
  |none=>
   rw [List.find?_eq_none] at hf
   exact absurd (hf _ hm) (by simp)
  |some e=>
   have h1:=List.find?_some hf
   have h2:=List.mem_of_find?_eq_some hf
   simp only [decide_eq_true_eq] at h1
   have:=inj_of_map (fun e:Rf × List Nd × List Us=>e.1) hn h2 hm h1
   rw [lookG,hf,this];rfl
theorem lookG_none {G:Gr} {a:Rf}:lookG G a=none↔ ∀ e∈G,e.1≠a:=by
 rw [lookG,Option.map_eq_none_iff,List.find?_eq_none]
 simp
end Go.SL
namespace Go.SL
open Go Go.Proofs
attribute [local irreducible] W WL WQ WG WA WX WLI WR WT WC VOp RW thn blk cutP scp retP retPP endB FnAt FnIn FnP ceP
theorem w_drawC0 {P:Program} {n:Fr} {w0:World} {Q:Post} {s:Slots} {H:List Blk} {l:List Oper} {id:Nat} (es ps:List Nat) (hm:P.follows .mixedOrders=true) (hB:Region.lexB .any l.toArray=true) (hch:chainB l es ps=true)
  (h:WC P n w0 l H es ps Q l 0 s H):W P n w0 (.region id l.toArray true) Q s H:=w_drawC es ps H hm hB hch (MSub.refl H) h
structure En where
 at_:Rf
 ta:Option Addr
 tc:Nat
 ua:Option Addr
 uc:Nat
 tree:List Nd
 uses:List Us
 born:Nat
def En.tv (e:En):Value:= .slice e.ta e.tree.length e.tc
def En.uv (e:En):Value:= .slice e.ua e.uses.length e.uc
def En.m (e:En):Rf × Value × Nat:=(e.at_,.agg #[e.tv,e.uv],e.born)
def rdIn (R:List Blk) (v:Value) (m:Nat) (xs:List Value):Prop:= ∀ w0 w,Mem w0 w R→Reads w v m xs
structure EnOk (R:List Blk) (e:En):Prop where
 tree:rdIn R e.tv e.tree.length (e.tree.flatMap encN)
 uses:rdIn R e.uv e.uses.length (e.uses.flatMap encU)
 tl:e.tree.length≤1000000
 ul:e.uses.length≤1000000
def zeroEn (a:Rf):En:=⟨a,none,0,none,0,[],[],0⟩
def findE (E:List En) (a:Rf):Option En:=E.find? fun e=>decide (e.at_=a)
def foundE (E:List En) (a:Rf):En:=(findE E a).getD (zeroEn a)
end Go.SL
namespace Go.SL
open Go
def En.abs (e:En):Rf × List Nd × List Us:=(e.at_,e.tree,e.uses)
structure GOk (R:List Blk) (E:List En) (clock:Nat) (G:Gr):Prop where
 ok:MapOk (E.map En.m) clock
 en: ∀ e∈E,EnOk R e
 rel: ∀ x,x∈E.map En.abs↔x∈G
 sort:SortG G
theorem GOk.look {R:List Blk} {E:List En} {clock:Nat} {G:Gr} (h:GOk R E clock G) (a:Rf):(findE E a).map (fun e=>(e.tree,e.uses))=lookG G a:=by
 cases hf:findE E a with
 |some e=>
  have h1:=List.find?_some hf
  simp only [decide_eq_true_eq] at h1
  have h2:(a,e.tree,e.uses)∈G:=by
   rw [← h.rel]
   refine List.mem_map.2 ⟨e,List.mem_of_find?_eq_some hf,?_⟩
   rw [← h1];rfl
  rw [(lookG_some h.sort).2 h2];rfl
 |none=>
  rw [findE,List.find?_eq_none] at hf
  symm
  rw [Option.map_none,lookG_none]
  intro x hx
  rw [← h.rel] at hx
  obtain ⟨e,he,rfl⟩:=List.mem_map.1 hx
  have:=hf e he
  simpa [En.abs] using this
theorem GOk.uses {R:List Blk} {E:List En} {clock:Nat} {G:Gr} (h:GOk R E clock G) (a:Rf):(foundE E a).uses=usesG G a:=by
 rw [usesG,← h.look a,foundE]
 cases findE E a<;>rfl
theorem GOk.tree {R:List Blk} {E:List En} {clock:Nat} {G:Gr} (h:GOk R E clock G) (a:Rf):(foundE E a).tree=treeG G a:=by
 rw [treeG,← h.look a,foundE]
 cases findE E a<;>rfl
end Go.SL
namespace Go.SL
open Go Go.Proofs
attribute [local irreducible] W WL WQ WG WA WX WLI WR WT WC VOp RW thn blk cutP scp retP retPP endB FnAt FnIn FnP ceP
structure Et where
 at_:Rf
 input:ByteArray
def encEt (e:Et):List Value:= [.int .i64 e.at_.col,.int .i64 e.at_.row,.string e.input]
theorem encEt_len (e:Et):(encEt e).length=3:=rfl
def zeroEt:Et:=⟨⟨0,0⟩,emptyB⟩
def faultOf (b:Option Rf) (e:Et):Int:=if e.at_.valid=false then 3 else if (match b with|some p=>lessF p e.at_|none=>true)=false then 12 else if e.input=emptyB then 2 else (ofP e.input).2.2
def checkFrom:Nat→Option Rf→List Et→Int × Int
 |_,_,[]=>(0,0)
 |i,b,e::r=>if faultOf b e≠0 then ((i:Int),faultOf b e) else checkFrom (i+1) (some e.at_) r
def checkEt (L:List Et):Int × Int:=checkFrom 0 none L
def befEt (L:List Et) (i:Nat):Option Rf:=if i=0 then none else (L[i - 1]?).map Et.at_
set_option maxHeartbeats 2000000 in
theorem entryCheck_at (L : List Et) (tv : Value) (w : World) (ht : Reads w tv L.length (L.flatMap encEt)) (hlen : L.length ≤ 1000000) (hW : Words w) :
    Pure Tryz.prog 72 [tv] w (.tuple #[.int .i64 (checkEt L).1, .int .i64 (checkEt L).2]) := by
  obtain ⟨Al, cl, rfl, hl1, hl2, hl3⟩ := ht
  refine fn_at Tryz.func72 rfl Tryz.ntmps72 rfl ?_
  repeat' (first | refine sT ?_ | refine sS ?_ | refine sM fun _ => ?_ | (refine sC ?_ ?_ <;> intro hb <;> try omega) | fail)
  refine w_loopK [0, 2, 3, 9, 10] rfl (fun i : Nat => [(11, .int .i64 (i : Int))]) (fun _ => []) (fun i => i ≤ L.length ∧ checkEt L = checkFrom i (befEt L i) (L.drop i)) (fun i => L.length - i) 0 ⟨by omega, rfl⟩ sB (.refl _) ?_
  rintro i ⟨hi, hck⟩
  by_cases hlt : i < L.length
  · obtain ⟨gl, ol, rfl, hrl⟩ := hl3 (by omega)
    have he := hrl.elem encEt_len i hlt
    have hprev : ∀ h : 0 < i, Ro w gl (ol + (i - 1) * 3) (encEt L[i - 1]) := fun h => hrl.elem encEt_len (i - 1) (by omega)
    have hbef : ∀ h : 0 < i, befEt L i = some L[i - 1].at_ := fun h => by unfold befEt; rw [if_neg (by omega), List.getElem?_eq_getElem (by omega)]; rfl
    have hbef0 : i = 0 → befEt L i = none := fun h => by unfold befEt; rw [if_pos h]
    have hnext : befEt L (i + 1) = some L[i].at_ := by unfold befEt; rw [if_neg (by omega), Nat.add_sub_cancel, List.getElem?_eq_getElem hlt]; rfl
    rw [List.drop_eq_getElem_cons hlt, checkFrom, ← hnext] at hck
    generalize L[i] = e at he hck
    have hV : ∀ w', Pure Tryz.prog 87 [.agg (encF e.at_).toArray] w' (.bool e.at_.valid) := fun w' => valid_at e.at_.col e.at_.row w'
    have hO := fun (w' : World) (H' : List Blk) (hm : Mem w w' H') => Of_at e.input w' (hW.next hm)
    by_cases h0 : 0 < i
    · have hp := hprev h0
      rw [hbef h0] at hck
      generalize L[i - 1] = b at hp hck
      have hL := fun w' => Less_at b.at_ e.at_ w'
      unfold faultOf at hck
      simp only at hck
      have hofV : ∀ (A : Option Nat) (cap : Nat), ofV A cap (ofP e.input) = .tuple #[.agg (encM (ofP e.input).1 (sl A (ofP e.input).1.tree.length cap)).toArray, .int .i64 (ofP e.input).2.1, .int .i64 (ofP e.input).2.2] := fun _ _ => rfl
      simp only [hofV] at hO
      generalize ofP e.input = o at hO hck
      obtain ⟨⟨f1, f2, f3⟩, oa, oe⟩ := o
      simp only [encM] at hO
      simp only at hck
      generalize e.at_.valid = vd at hV hck
      generalize lessF b.at_ e.at_ = ls at hL hck
      repeat' (first | ((with_reducible apply wl_v (d := 14)); exact rfl; (with_reducible apply v_indexAddr); exact rfl; exact rfl; exact hlt) | ((with_reducible apply wl_v (d := 15)); exact rfl; (with_reducible apply v_loadw_ro); exact rfl; exact he; exact rfl) | ((with_reducible apply wc_v (d := 29)); (iterate 3 exact rfl); (with_reducible apply v_loads_ro (o := ol + (i - 1) * 3) (off := 0) hp (ys := encF b.at_)); (iterate 3 exact rfl)) | ((with_reducible apply wl_callp); exact rfl; exact rfl; (intro w hm; exact hV w)) | ((with_reducible apply (w_drawC0 (id := 6) [11] [])); kernel_rfl; kernel_rfl; kernel_rfl) | ((with_reducible apply wc_v); (iterate 3 exact rfl); (with_reducible apply v_indexAddr (j := i - 1)); exact rfl; exact rfl; omega) | ((with_reducible apply wl_callp (f := 81)); exact rfl; exact rfl; (intro w' hm; exact hL w')) | ((with_reducible apply wl_call (f := 108)); exact rfl; exact rfl; (intro w' hm; exact hO w' _ hm); rintro _ _ ⟨A, cap, rfl, rfl⟩) | refine sT ?_ | refine sS ?_ | refine sW ?_ | refine sN ?_ | refine sWN ?_ | refine sM fun _ => ?_ | (refine sC ?_ ?_ <;> intro hb <;> try omega) | (refine sCW ?_ ?_ <;> intro hb <;> try omega) | fail)
      all_goals clear hofV
      all_goals first
        | (refine ret2 eIO rfl rfl rfl (.nil _) ?_; rw [hck]; simp_all [emptyB]; done)
        | (refine ⟨i + 1, ⟨hlt, ?_⟩, by omega, ?_, ?_, .nil _⟩
           · rw [hck]; simp_all [emptyB]
           · exact sB
           · exact sB)
    · have h00 : i = 0 := by omega
      rw [hbef0 h00] at hck
      unfold faultOf at hck
      simp only at hck
      have hofV : ∀ (A : Option Nat) (cap : Nat), ofV A cap (ofP e.input) = .tuple #[.agg (encM (ofP e.input).1 (sl A (ofP e.input).1.tree.length cap)).toArray, .int .i64 (ofP e.input).2.1, .int .i64 (ofP e.input).2.2] := fun _ _ => rfl
      simp only [hofV] at hO
      generalize ofP e.input = o at hO hck
      obtain ⟨⟨f1, f2, f3⟩, oa, oe⟩ := o
      simp only [encM] at hO
      simp only at hck
      generalize e.at_.valid = vd at hV hck
      repeat' (first | ((with_reducible apply wl_v (d := 14)); exact rfl; (with_reducible apply v_indexAddr); exact rfl; exact rfl; exact hlt) | ((with_reducible apply wl_v (d := 15)); exact rfl; (with_reducible apply v_loadw_ro); exact rfl; exact he; exact rfl) | ((with_reducible apply wl_callp); exact rfl; exact rfl; (intro w hm; exact hV w)) | ((with_reducible apply (w_drawC0 (id := 6) [11] [])); kernel_rfl; kernel_rfl; kernel_rfl) | ((with_reducible apply wl_call (f := 108)); exact rfl; exact rfl; (intro w' hm; exact hO w' _ hm); rintro _ _ ⟨A, cap, rfl, rfl⟩) | refine sT ?_ | refine sS ?_ | refine sW ?_ | refine sN ?_ | refine sWN ?_ | refine sM fun _ => ?_ | (refine sC ?_ ?_ <;> intro hb <;> try omega) | (refine sCW ?_ ?_ <;> intro hb <;> try omega) | fail)
      all_goals clear hofV
      all_goals first
        | (refine ret2 eIO rfl rfl rfl (.nil _) ?_; rw [hck]; simp_all [emptyB]; done)
        | (refine ⟨i + 1, ⟨hlt, ?_⟩, by omega, ?_, ?_, .nil _⟩
           · rw [hck]; simp_all [emptyB]
           · exact sB
           · exact sB)
  · have e2 : i = L.length := by omega
    subst e2
    rw [List.drop_length, checkFrom] at hck
    repeat' (first | refine sT ?_ | refine sS ?_ | refine sM fun _ => ?_ | (refine sC ?_ ?_ <;> intro hb <;> try omega) | fail)
    all_goals (refine ret2 eIO rfl rfl rfl (.nil _) ?_; rw [hck])
end Go.SL
namespace Go.SL
open Go Go.Proofs
instance:DecidableEq Et:=fun a b=>decidable_of_iff (a.at_=b.at_∧a.input=b.input) (by
 obtain ⟨a1,a2⟩:=a
 obtain ⟨b1,b2⟩:=b
 simp)
theorem et_eq {a b:Et}:a=b↔a.at_=b.at_∧a.input=b.input:=by
 obtain ⟨a1,a2⟩:=a
 obtain ⟨b1,b2⟩:=b
 simp
theorem run_eqEt (w:World) (d:Nat) (a b:Et):(Op.equalIn (d+5) 53 (.agg (encEt a).toArray) (.agg (encEt b).toArray)).run Tryz.prog w= .ok (decide (a=b)) w:=by
 rw [run_equalIn_agg w (d+4) 53 _ _ (by rw [Program.fieldsOf,Tryz.underlying53]) Tryz.stoodInHeld53]
 simp only [Program.fieldsOf,Tryz.underlying53]
 have hr: ∀ (a b:Rf) w,(Op.equalIn (d+4) 51 (.agg #[.int .i64 a.col,.int .i64 a.row]) (.agg #[.int .i64 b.col,.int .i64 b.row])).run Tryz.prog w= .ok (eqF a b) w:=fun a b w=>run_eqF w (d+1) a b
 simp [Op.eqFields,encEt,part,go_sem,beqL,beqI,hr]
 by_cases h1:eqF a.at_ b.at_=true<;>by_cases h2:a.input=b.input<;>simp [h1,h2,et_eq]<;>(rw [eqF_iff] at h1;exact h1)
section
variable {w0:World} {s:Slots} {H:List Blk} {ty t' :TypeId} {x y:Operand}
theorem v_neqEt {a b:Et} (hx:ev s x=some (.agg (encEt a).toArray)) (hy:ev s y=some (.agg (encEt b).toArray)):VOp Tryz.prog w0 s H (.binOp .neq 53 x y t') ty (.bool (!decide (a=b))):=fun ρ w _ _ _ _ hρ _=>by
 have h:=run_eqEt w 9995 a b
 simp only [Nat.reduceAdd] at h
 simp only [execOp,hρ x _ hx,hρ y _ hy,Sem.run_bind,run_eqGuard_agg w _ _ _ _ _ _ Tryz.eqGuardType53,Result.andThen_ok,run_neq_struct,h,Sem.run_pure]
end
end Go.SL
namespace Go.SL
open Go Go.Proofs
attribute [local irreducible] W WL WQ WG WA WX WLI WR WT WC VOp RW thn blk cutP scp retP retPP endB FnAt FnIn FnP ceP
section
variable {w0:World} {s:Slots} {H:List Blk} {ty t' :TypeId} {x y:Operand}
theorem v_eqlR_to {a b:Rct} {c:Bool} (h:decide (a=b)=c) (hx:ev s x=some (.agg (encR a).toArray)) (hy:ev s y=some (.agg (encR b).toArray)):VOp Tryz.prog w0 s H (.binOp .eql 33 x y t') ty (.bool c):=by
 have h1:=v_eqlR (w0:=w0) (H:=H) (ty:=ty) (t' :=t') hx hy
 rwa [eqR_dec,h] at h1
theorem v_neqR_to {a b:Rct} {c:Bool} (h:decide (a=b)=c) (hx:ev s x=some (.agg (encR a).toArray)) (hy:ev s y=some (.agg (encR b).toArray)):VOp Tryz.prog w0 s H (.binOp .neq 33 x y t') ty (.bool (!c)):=by
 have h1:=v_neqR (w0:=w0) (H:=H) (ty:=ty) (t' :=t') hx hy
 rwa [eqR_dec,h] at h1
theorem v_eqlF_to {a b:Rf} {c:Bool} (h:decide (a=b)=c) (hx:ev s x=some (.agg (encF a).toArray)) (hy:ev s y=some (.agg (encF b).toArray)):VOp Tryz.prog w0 s H (.binOp .eql 51 x y t') ty (.bool c):=by
 have h1:=v_eqlF (w0:=w0) (H:=H) (ty:=ty) (t' :=t') hx hy
 rwa [eqF_dec,h] at h1
end
end Go.SL
namespace Go.SL
open Go Go.Proofs
attribute [local irreducible] W WL WQ WG WA VOp thn blk cutP retP FnAt FnIn Held
def aT:List Nd:= [k2,k3,j7,k6]
section
variable (w:World) (tv:Value) (h:Reads w tv 4 (aT.flatMap encN))
include h
end
end Go.SL
namespace Go.SL
open Go
structure STree where
 ns:List Nd
 d:Nat
def STree.kind (S:STree):Int:=((S.ns.getLast?).map Nd.kind).getD 0
def fit1 (n:Nd) (i:Int) (k:Int):Bool:= !(decide (k=3) && !mayAt n i) && !(decide (n.kind=7) && releasedF n.fn && decide (k≠2) && decide (k≠3))
def fitsF (n:Nd):Int→List STree→Bool
 |_,[]=>true
 |i,S::r=>fit1 n i S.kind && fitsF n (i+1) r
def lastK (st:List STree) (k:Nat):List STree:=st.drop (st.length - k)
def depthF (top:List STree):Nat:=top.foldl (fun d S=>max d (S.d+1)) 1
def flatS (st:List STree):List Nd:=st.flatMap STree.ns
def nodeF (n:Nd) (top:List STree):STree:=⟨flatS top++ [n],depthF top⟩
def stepF (n:Nd) (st:List STree):Int ⊕ (List STree × List STree):=
 if fieldsE n≠0 then .inl (fieldsE n)
 else if (st.length:Int)<below n∨fitsF n 0 (lastK st (below n).toNat)=false then .inl 4
 else if 32<depthF (lastK st (below n).toNat) then .inl 9
 else .inr (st.take (st.length - (below n).toNat),lastK st (below n).toNat)
abbrev Hist:=List (List STree × STree)
def walkF:List Nd→List STree→Hist→Int × List STree × Hist
 | [],st,h=>(if st.length=1 then 0 else 4,st,h)
 |n::r,st,h=>match stepF n st with
  | .inl e=>(e,st,h)
  | .inr (lo,top)=>walkF r (lo++ [nodeF n top]) (h++ [(top,nodeF n top)])
inductive Good:STree→Prop
 |mk (n:Nd) (top:List STree) (hg: ∀ S∈top,Good S) (hf:fieldsE n=0) (hb:(top.length:Int)=Go.SL.below n) (hfit:fitsF n 0 top=true) (hd:depthF top≤32):Good (nodeF n top)
def rootsFrom:Nat→List STree→List Nat
 |_,[]=> []
 |o,S::r=>(o+S.ns.length - 1)::rootsFrom (o+S.ns.length) r
def lo (i:Nat) (x:List STree × STree):Nat:=i+1 - x.2.ns.length
def kidsH (i:Nat) (x:List STree × STree):List Nat:=rootsFrom (lo i x) x.1
structure Inv (dn:List Nd) (st:List STree) (h:Hist):Prop where
 flat:flatS st=dn
 good: ∀ S∈st,Good S
 len:h.length=dn.length
 node: ∀ i x,h[i]? =some x→ ∃ n,dn[i]? =some n∧x.2=nodeF n x.1∧(∀ T∈x.1,Good T)∧Good x.2∧x.2.ns.length≤i+1∧(dn.take (i+1)).drop (lo i x)=x.2.ns
 deep: ∀ x∈h,∃ S∈st,x.2.d≤S.d
 cut: ∀ a b,st=a++b→ ∀ j x,h[j]? =some x→(flatS a).length≤j→(flatS a).length≤lo j x
 lam: ∀ i j x y,h[i]? =some x→h[j]? =some y→j≤i→lo i x≤j→lo i x≤lo j y
 mid: ∀ i j x y,h[i]? =some x→h[j]? =some y→ ∀ k∈kidsH j y,k<i→i<j→k<lo i x
 up: ∀ k<h.length,k∈rootsFrom 0 st∨ ∃ j y,h[j]? =some y∧k∈kidsH j y
 apart: ∀ j y,h[j]? =some y→ ∀ k∈kidsH j y,k∉rootsFrom 0 st
 one: ∀ i j x y,h[i]? =some x→h[j]? =some y→ ∀ k,k∈kidsH i x→k∈kidsH j y→i=j
structure RootOk (st:List STree) (h:Hist):Prop where
 root: ∀ a S b,st=a++S::b→ ∃ top,h[(flatS a).length+S.ns.length - 1]? =some (top,S)
 kid: ∀ j y,h[j]? =some y→ ∀ a S b,y.1=a++S::b→ ∃ top,h[lo j y+(flatS a).length+S.ns.length - 1]? =some (top,S)
def setAll (o:List Int) (ks:List Nat) (v:Int):List Int:=ks.foldl (fun o k=>o.set k v) o
def parStep (o:List Int) (x:(List STree × STree) × Nat):List Int:=setAll (o++ [-1]) (kidsH x.2 x.1) (x.2:Int)
def parH (h:Hist):List Int:=h.zipIdx.foldl parStep []
structure ParOk (st:List STree) (h:Hist):Prop where
 len:(parH h).length=h.length
 kid: ∀ j y,h[j]? =some y→ ∀ k∈kidsH j y,(parH h)[k]? =some (j:Int)
 root: ∀ k∈rootsFrom 0 st,(parH h)[k]? =some (-1)
structure Whole (L:List Nd) (S:STree) (h:Hist):Prop where
 walk:walkF L [] []=(0,[S],h)
 ns:S.ns=L
 good:Good S
 inv:Inv L [S] h
 rootOk:RootOk [S] h
 parOk:ParOk [S] h
 pos:0<L.length
 last: ∃ top,h[L.length - 1]? =some (top,S)
end Go.SL
namespace Go.SL
open Go Go.Proofs Go.RowKit
section
variable {P:Program} {n:Fr} {w0:World} {Q:Post} {s:Slots} {H:List Blk} {ty:TypeId} {x y:Operand} {k:IntKind} {a b:Int} {t t' :TypeId}
theorem v_rem_to {c:Int} (hx:ev s x=some (.int k a)) (hy:ev s y=some (.int k b)) (h:b≠0) (hc:a.tmod b=c):VOp P w0 s H (.binOp .rem t x y t') ty (.int k c):=hc ▸ v_rem hx hy h
end
attribute [local irreducible] W WL WQ WG WA WX WLI WR WT WC VOp RW thn blk cutP scp retP retPP endB FnAt FnIn FnP ceP
end Go.SL
namespace Go.SL
open Go
structure EntOk (e:Rf × List Nd × List Us):Prop where
 at_:e.1.valid=true
 tree:checkE e.2.1=0
 uses:e.2.2=usesF e.2.1
 len:e.2.1.length≤256
structure GrOk (G:Gr):Prop where
 sort:SortG G
 ent: ∀ e∈G,EntOk e
def inB:ByteArray:=⟨#[61,65,49,43,66,49]⟩
def inC:ByteArray:=⟨#[61,68,83,85,77,40,66,49,58,66,51,41]⟩
def inD:ByteArray:=⟨#[61,73,70,69,82,82,79,82,40,65,51,44,48,41,43,49]⟩
end Go.SL
namespace Go.SL
open Go Go.Proofs Go.ChangeShapes Go.WideShapes Go.ChangeAt Go.RowKit Go.Deep
section
variable {H:Type} {enc:TypeId × Value→H} {P:Program} {w:World} {base:Nat} {spare:Nat→Bool} {held:Bool}
theorem post_of_below {f:Func} {s:ChangeSpec} {apart fresh handsOn again:Bool} {W W' :World} {args:Array Value} {v:Value} {ds gs:List (DataW H)} {before pa pv:List MemPlace}
  (hW:DataW.Whole enc P f.params.toList s.vars apart W args.toList ds gs before)
  (hres: ∀ (b:Nat) (sp:Nat→Bool) (hd:Bool),DataW.TrodAll enc P W' b sp hd f.resultTypes.toList (v.resultList f.resultTypes.size) (s.fn H (ds++gs)).results [])
  (hargs: ∀ sp:Nat→Bool,(∀ p∈before,sp p.block=true)→DataW.TrodAll enc P W' 0 sp true f.params.toList args.toList (s.fn H (ds++gs)).args pa)
  (hvars: ∀ sp:Nat→Bool,(∀ p∈before,sp p.block=true)→DataW.TrodVars enc P W' sp s.vars (s.fn H (ds++gs)).vars pv)
  (hps:before=pa++pv) (hb:Below W.heap.size W W')
  (hok: ∀ (j:Nat) (t:TypeId) (r:Value),f.resultTypes[j]? =some t→(v.resultList f.resultTypes.size)[j]? =some r→Value.okWide P W' .any 0 t r):
  s.post enc P f apart fresh handsOn again W args v W' :=by
 have hold: ∀ p∈before,(fun b=>decide (b<W.heap.size)) p.block=true:=fun p hp=>by simpa using hW.lt p hp
 refine ⟨ds,gs,before,[],pa,pv,hW,hres _ _ _,hargs _ hold,hvars _ hold,hb.frame _,fun _=> ?_⟩
 have hlt:=hW.lt
 obtain ⟨_,_,_,_,_,hz,hn⟩:=hW
 refine ⟨hok,_,_,([]++pa)++pv,⟨[]++pa,pv,trodAll_append (hargs _ (fun _ _=>rfl)) (hres _ _ _),hvars _ (fun _ _=>rfl),rfl,?_,?_⟩,?_⟩
 ·
  intro b off hp
  have hp' :MemPlace.cell b off∈before:=by rw [hps];simpa using hp
  have h1:=hz b off hp'
  have h2:=hlt _ hp'
  rw [← h1]
  exact hb.frozen h2
 ·
  intro ha
  have:=hn ha
  rw [hps] at this
  simpa using this
 ·
  intro p hp _
  rw [hps]
  simpa using hp
theorem trod_stays_of {t:TypeId} (hl:laidOutB P=true) (hr:P.readableRec t=true) (hrow:t<P.types.size) {W W' :World} {v:Value} {d:DataW H} {ps:List MemPlace} {sp:Nat→Bool}
  (h:DataW.Trod enc P W 0 (fun _=>true) true t v d ps) (hb:Below W.heap.size W W') (hlt: ∀ x∈ps,x.block<W.heap.size) (hs: ∀ x∈ps,sp x.block=true):DataW.Trod enc P W' 0 sp true t v d ps:=
 WideElems.Trod_stays hl hr hrow h (fun x hx=>hb.same (hlt x hx)) hs
end
theorem Try_own:ownKnob Tryz.prog.godebug=none:=by kernel_rfl
theorem Try_laidOut:laidOutB Tryz.prog=true:=by kernel_rfl
section
variable {H:Type} {enc:TypeId × Value→H} {w:World} {base:Nat} {spare:Nat→Bool} {held:Bool}
theorem cells_flat {α:Type} {enc:α→List Value} {m:Nat} (hm: ∀ a,(enc a).length=m) (w:World) (g o:Nat): ∀ (L:List α),(∀ (i:Nat) (a:α),L[i]? =some a→Cells w g (o+i*m) (enc a))→Cells w g o (L.flatMap enc):=by
 intro L h j v hv
 by_cases hm0:m=0
 ·
  have:(L.flatMap enc).length=0:=by rw [flat_length' hm,hm0,Nat.mul_zero]
  rw [List.getElem?_eq_none (by omega)] at hv
  cases hv
 have hlen:(L.flatMap enc).length=L.length*m:=flat_length' hm L
 have hj:j<(L.flatMap enc).length:=(List.getElem?_eq_some_iff.1 hv).1
 have hi:j / m<L.length:=by rw [Nat.div_lt_iff_lt_mul (by omega)];omega
 have hk:j % m<m:=Nat.mod_lt _ (by omega)
 have he:j / m*m+j % m=j:=by rw [Nat.mul_comm];exact Nat.div_add_mod j m
 have h1:=flat_cell hm L (j / m) (j % m) hi hk
 rw [he,hv] at h1
 have h2:=h (j / m) L[j / m] (List.getElem?_eq_getElem hi) (j % m) v h1.symm
 rw [show o+j / m*m+j % m=o+j by omega] at h2
 exact h2
theorem open_rows {α:Type} [Inhabited α] {encA:α→List Value} {ok:α→Prop} {P:Program} {t e m fuel:Nat} {cs:List Value} {x:DataW H × List MemPlace} (ht:P.underlying t=some (.slice e)) (hm:P.cellsOf e=m) (hm0:0<m) (hlenA: ∀ a,(encA a).length=m)
  (helem: ∀ (n:Nat) (cs:List Value) (y:DataW H × List MemPlace),DataW.trod enc P w 0 spare held n e cs=some y→ ∃ a,cs=encA a∧ok a) (h:DataW.trod enc P w 0 spare held fuel t cs=some x):
  ∃ (v:Value) (L:List α),cs= [v]∧Reads w v L.length (L.flatMap encA)∧ ∀ a∈L,ok a:=by
 rcases open_slice ht h with ⟨h0,_⟩|⟨a,len,cap,mm,n,D,Pl,h0,hb,hl,hmx,hmm,_,hx⟩
 ·
  exact ⟨_,[],h0,⟨none,0,rfl,Nat.le_refl _,Nat.zero_le _,fun h=>by cases h⟩,fun _ h=>by cases h⟩
 ·
  have hlm:len≤mm:=by rw [hmm];split<;>omega
  obtain ⟨F,hF⟩:=choose_lt (α:=α) (n:=len) (p:=fun i nd=>w.cells? 0 (a.add (i*m)) m=some (encA nd)∧ok nd) (fun i hi=>by
   obtain ⟨cs',h1,h2⟩:=hx i (by omega)
   rw [hm] at h1
   obtain ⟨nd,rfl,hw⟩:=helem _ _ _ h2
   exact ⟨nd,h1,hw⟩)
  have hlen:((List.range len).map F).length=len:=by simp
  refine ⟨_,(List.range len).map F,h0,⟨some a,cap,by rw [hlen],by omega,hmx,fun hpos=> ?_⟩,fun n hn=> ?_⟩
  rotate_left
  ·
   obtain ⟨i,hi,rfl⟩:=List.mem_map.1 hn
   exact (hF i (List.mem_range.1 hi)).2
  rw [hlen] at hpos
  obtain ⟨g,o,spot⟩:=a
  have hspot:spot=none:=by
   obtain ⟨_,_,h3⟩:=World.cells?_some (hF 0 (by omega)).1
   have h4' :=h3 0 hm0
   rw [List.getElem?_eq_getElem (by rw [hlenA];exact hm0)] at h4'
   have h4:=World.cell?_spot h4'
   simpa [Addr.add] using h4
  subst hspot
  have hcell: ∀ (i:Nat) (nd:α),((List.range len).map F)[i]? =some nd→Cells w g (o+i*m) (encA nd):=by
   intro i nd hnd k v hv
   have hil:i<len:=by have:=(List.getElem?_eq_some_iff.1 hnd).1;omega
   have hnd' :F i=nd:=by simpa [hil] using hnd
   subst hnd'
   have hk:k<m:=by have:=(List.getElem?_eq_some_iff.1 hv).1;rwa [hlenA] at this
   obtain ⟨_,_,h3⟩:=World.cells?_some (hF i hil).1
   have:=h3 k hk
   rw [hv,addr_add,addr_add] at this
   exact this
  refine ⟨g,o,rfl,?_,cells_flat hlenA w g o _ hcell⟩
  obtain ⟨u,hu⟩: ∃ u,(encA (F 0))[0]? =some u:=⟨_,List.getElem?_eq_getElem (by rw [hlenA];exact hm0)⟩
  have h5:=hcell 0 (F 0) (by simp [hpos]) 0 u hu
  simp only [World.cell?] at h5
  split at h5
  ·
   rename_i h6
   exact (Array.getElem?_eq_some_iff.1 h6).1
  ·
   cases h5
theorem trod_i {n:Nat} {c:Value} {x:DataW H × List MemPlace} (h:DataW.trod enc Tryz.prog w base spare held n 3 [c]=some x): ∃ a,c= .int .i64 a∧I64 a:=by
 obtain ⟨a0,q0,_,w0⟩:=DataW.trod_int Tryz.underlying3 h
 simp only [List.cons.injEq,and_true] at q0
 exact ⟨a0,q0,bounds_i64 w0⟩
def okF (a:Rf):Prop:=I64 a.col∧I64 a.row
def okR (r:Rct):Prop:=I64 r.c1∧I64 r.r1∧I64 r.c2∧I64 r.r2
set_option maxRecDepth 100000 in
theorem trod_ref {fuel:Nat} {cs:List Value} {x:DataW H × List MemPlace} (h:DataW.trod enc Tryz.prog w base spare held fuel 51 cs=some x): ∃ v:Rf,cs=encF v∧okF v:=by
 obtain ⟨xs,n,_,_,hlen,hxl,hf⟩:=DataW.trod_struct Tryz.underlying51 h
 have eS:Tryz.prog.cellsOf 51=2:=by kernel_rfl
 have eI:Tryz.prog.cellsOf 3=1:=by kernel_rfl
 rw [eS] at hlen
 match cs,hlen,xs,hxl with
 | [c0,c1],_,[x0,x1],_=>
  have h0:DataW.trod enc Tryz.prog w base spare held n 3 ((([c0,c1]:List Value).drop 0).take (Tryz.prog.cellsOf 3))=some x0:=hf 0 _ rfl
  rw [eI] at h0
  obtain ⟨a0,rfl,w0⟩:=trod_i (c:=c0) h0
  have h1:DataW.trod enc Tryz.prog w base spare held n 3 ((([Value.int .i64 a0,c1]:List Value).drop 1).take (Tryz.prog.cellsOf 3))=some x1:=hf 1 _ rfl
  rw [eI] at h1
  obtain ⟨a1,rfl,w1⟩:=trod_i (c:=c1) h1
  exact ⟨⟨a0,a1⟩,rfl,w0,w1⟩
set_option maxRecDepth 100000 in
theorem trod_rect {fuel:Nat} {cs:List Value} {x:DataW H × List MemPlace} (h:DataW.trod enc Tryz.prog w base spare held fuel 33 cs=some x): ∃ v:Rct,cs=encR v∧okR v:=by
 obtain ⟨xs,n,_,_,hlen,hxl,hf⟩:=DataW.trod_struct Tryz.underlying33 h
 have eS:Tryz.prog.cellsOf 33=4:=by kernel_rfl
 have eI:Tryz.prog.cellsOf 3=1:=by kernel_rfl
 rw [eS] at hlen
 match cs,hlen,xs,hxl with
 | [c0,c1,c2,c3],_,[x0,x1,x2,x3],_=>
  have h0:DataW.trod enc Tryz.prog w base spare held n 3 ((([c0,c1,c2,c3]:List Value).drop 0).take (Tryz.prog.cellsOf 3))=some x0:=hf 0 _ rfl
  rw [eI] at h0
  obtain ⟨a0,rfl,w0⟩:=trod_i (c:=c0) h0
  have h1:DataW.trod enc Tryz.prog w base spare held n 3 ((([Value.int .i64 a0,c1,c2,c3]:List Value).drop 1).take (Tryz.prog.cellsOf 3))=some x1:=hf 1 _ rfl
  rw [eI] at h1
  obtain ⟨a1,rfl,w1⟩:=trod_i (c:=c1) h1
  have h2:DataW.trod enc Tryz.prog w base spare held n 3 ((([Value.int .i64 a0,.int .i64 a1,c2,c3]:List Value).drop 2).take (Tryz.prog.cellsOf 3))=some x2:=hf 2 _ rfl
  rw [eI] at h2
  obtain ⟨a2,rfl,w2⟩:=trod_i (c:=c2) h2
  have h3:DataW.trod enc Tryz.prog w base spare held n 3 ((([Value.int .i64 a0,.int .i64 a1,.int .i64 a2,c3]:List Value).drop 3).take (Tryz.prog.cellsOf 3))=some x3:=hf 3 _ rfl
  rw [eI] at h3
  obtain ⟨a3,rfl,w3⟩:=trod_i (c:=c3) h3
  exact ⟨⟨a0,a1,a2,a3⟩,rfl,w0,w1,w2,w3⟩
instance:Inhabited Et:=⟨⟨⟨0,0⟩,emptyB⟩⟩
end
end Go.SL
namespace Go.SL
open Go Go.Proofs Go.Proofs.YtljeomidcjpfmaaGreatDoor Go.ChangeShapes Go.WideShapes Go.ChangeAt Go.RowKit Go.Deep
def wordsU:List (List UInt8):= [[],[35,68,73,86,47,48,33],[35,86,65,76,85,69,33],[35,78,85,77,33],[35,78,47,65],[35,82,69,70,33],[35,67,89,67,76,69,33],[35,68,69,78,73,69,68]]
def laidWs:List (String × DataW Unit):= [("louvre/val.words",Rows.laid_louvre_val_words)]
theorem wordsU_laid:(Rows.laid_louvre_val_words:DataW Unit)= .agg (wordsU.map fun l=> .lit (.string l)):=rfl
theorem wordsU_B:wordsB=wordsU.map fun l=>⟨l.toArray⟩:=rfl
set_option maxRecDepth 100000 in
theorem words_of_laid {W:World} (h:laidMetH Tryz.prog laidWs W):Words W:=by
 rw [MakeChecks.laidMetH_plain _ _ _ (by kernel_rfl)] at h
 obtain ⟨ps,⟨g,t,cs,fuel,p,q,hg,ht,hv,hd,_,_⟩,_⟩:=h
 obtain rfl:=Option.some.inj ((show Tryz.prog.globalNamed "louvre/val.words" =some 0 by kernel_rfl).symm.trans hg)
 obtain rfl:=Option.some.inj ((show (Tryz.prog.globals[0]?).map (·.type)=some 413 by kernel_rfl).symm.trans ht)
 rw [wordsU_laid] at hd
 obtain ⟨xs,m,_,ex,_,hl,hel⟩:=DataW.trod_array Tryz.underlying413 hd
 have cS:Tryz.prog.cellsOf 9=1:=by kernel_rfl
 have hcell: ∀ (j:Nat) (v:Value),(wordsB.map Value.string)[j]? =some v→W.cell? ⟨0,0+j,none⟩=some v:=by
  intro j v hjv
  have hj:j<8:=by
   have:=(List.getElem?_eq_some_iff.1 hjv).1
   simpa [wordsB] using this
  have hE:=hel j hj
  rw [cS,Nat.mul_one,List.getElem?_eq_getElem (by omega)] at hE
  obtain ⟨s,e1,e2,_⟩:=DataW.trod_string Tryz.underlying9 hE
  have e3:(xs.map (·.1))=wordsU.map fun l=> .lit (.string l):=(DataW.agg.inj (Prod.mk.inj ex).1).symm
  have hwl:wordsU.length=8:=rfl
  have e4:(xs.map (·.1))[j]? =(wordsU.map fun l=>(DataW.lit (.string l):DataW Unit))[j]? :=by rw [e3]
  obtain ⟨u,hu⟩: ∃ u,wordsU[j]? =some u:=⟨_,List.getElem?_eq_getElem (by rw [hwl];exact hj)⟩
  rw [List.getElem?_map,List.getElem?_map,List.getElem?_eq_getElem (by omega:j<xs.length),hu,e2] at e4
  simp only [Option.map_some,Option.some.injEq,DataW.lit.injEq,Lit.string.injEq] at e4
  have hs:s=⟨u.toArray⟩:=by
   obtain ⟨d⟩:=s
   subst e4
   rfl
  have hvv:v= .string s:=by
   rw [wordsU_B,List.map_map,List.getElem?_map,hu] at hjv
   simp only [Option.map_some,Option.some.injEq,Function.comp] at hjv
   rw [← hjv,hs]
  rw [hvv,Nat.zero_add,World.var?_cell hg hv j]
  have:cs.toList[j]? =some (.string s):=by
   have h0:((cs.toList.drop j).take 1)[0]? =some (.string s):=by rw [e1];rfl
   simpa using h0
  simpa using this
 refine ⟨?_,hcell⟩
 have h5:=hcell 0 _ rfl
 simp only [World.cell?] at h5
 split at h5
 ·
  rename_i h6
  exact (Array.getElem?_eq_some_iff.1 h6).1
 ·
  cases h5
end Go.SL
