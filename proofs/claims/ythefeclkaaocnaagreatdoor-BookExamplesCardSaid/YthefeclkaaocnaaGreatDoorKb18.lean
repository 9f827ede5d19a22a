/-
  Lemmas and walks, put together: Hf Hg Hj Sl33.
-/
import Derived.Test.YthefeclkaaocnaaGreatDoorKb17
set_option linter.unusedSimpArgs false
set_option linter.unusedVariables false
set_option maxRecDepth 20000
namespace Go.SL
open Go Go.Proofs
attribute [local irreducible] W WL WQ WG WA WX WLI WR WT WC WE VOp RW thn blk cutP scp retP retPP endB FnAt FnIn FnP ceP
section
variable {P:Program} {n:Fr} {w0:World} {Q:Post} {s:Slots} {H:List Blk} {l rest:List Oper} {ty:TypeId} {p:String} {af:Array Edge}
theorem v_toU {x:Operand} {a:Nat} {t t' :TypeId} {d:TypeDesc} [hs:Und P t d] [hd:Und P t' (.int .u64)] (hx:ev s x=some (.int .i64 (a:Nat))) (h:a≤maxLen):VOp P w0 s H (.convert t t' x) ty (.int .u64 (a:Nat)):=
 v_conv_to (k:= .i64) hx (by rw [IntKind.wrap_u64];simp only [maxLen] at h;omega)
theorem v_toI {x:Operand} {a:Nat} {t t' :TypeId} {d:TypeDesc} [hs:Und P t d] [hd:Und P t' (.int .i64)] (hx:ev s x=some (.int .u64 (a:Nat))) (h:a≤maxLen):VOp P w0 s H (.convert t t' x) ty (.int .i64 (a:Nat)):=
 v_conv_to (k:= .u64) hx (I64.wrap ⟨by omega,by simp only [maxLen] at h;omega⟩)
theorem v_half {x y:Operand} {a:Nat} {t t' :TypeId} (hx:ev s x=some (.int .u64 (a:Nat))) (hy:ev s y=some (.int .u64 1)):VOp P w0 s H (.binOp .shr t x y t') ty (.int .u64 ((a / 2:Nat):Int)):=by
 have h:=v_shr (P:=P) (w0:=w0) (H:=H) (ty:=ty) (t:=t) (t' :=t') (m:=1) hx hy rfl
 have e:((a:Int) / 2 ^ 1)=((a / 2:Nat):Int):=by omega
 rwa [e] at h
theorem v_mulN {x y:Operand} {a b:Nat} {t t' :TypeId} (hx:ev s x=some (.int .i64 (a:Nat))) (hy:ev s y=some (.int .i64 (b:Nat))) (ha:a*b≤maxLen):VOp P w0 s H (.binOp .mul t x y t') ty (.int .i64 ((a*b:Nat):Int)):=by
 rw [Int.natCast_mul]
 have e:((a:Int)*b)=((a*b:Nat):Int):=(Int.natCast_mul a b).symm
 exact v_mul hx hy ⟨by rw [e];omega,by rw [e];simp only [maxLen] at ha;omega⟩
end
set_option maxHeartbeats 16000000 in
theorem symZ_at (L:List Pz) (hL:InZ L) (lv:Value) (w:World) (hl:Reads w lv L.length (L.flatMap encPz)): ∀ (k a m b:Nat),b - a≤k→a<m→m<b→b≤L.length→ ∀ w',(∃ H',Mem w w' H')→
  Pure Tryz.prog 214 [lv,.int .i64 (a:Int),.int .i64 (m:Int),.int .i64 (b:Int),cmpV] w' (.tuple #[])
 |0,a,m,b,hk,h1,h2,_=>by omega
 |k+1,a,m,b,hk,h1,h2,h3=>by
  intro w' ⟨H',hm'⟩
  have hl' :=hl.of_w0 hm'
  have IH:=fun (a m b:Nat) (g1:b - a≤k) (g2:a<m) (g3:m<b) (g4:b≤L.length) (w2:World) (H2:List Blk) (hm2:Mem w' w2 H2)=>symZ_at L hL lv w' hl' k a m b g1 g2 g3 g4 w2 ⟨H2,hm2⟩
  have hl0:=hl'
  obtain ⟨Al,cl,rfl,hl1,hl2,hl3⟩:=hl'
  refine fn_at Tryz.func214 rfl Tryz.ntmps214 rfl ?_
  have hlen:=hL.len
  obtain ⟨gl,ol,rfl,hrl⟩:=hl3 (by omega)
  by_cases c1:m - a=1
  ·
   repeat' (first|refine sT ?_|refine sS ?_|refine sN ?_|refine sM fun _=> ?_|(refine sC ?_ ?_<;>intro hb<;>try omega)|fail)
   all_goals first|(exfalso;omega)|skip
   refine w_loopK [0,1,2,3,4,10] rfl (fun j:Nat=> [(11,.int .i64 (j:Int))]) (fun _=> []) (fun j=>m≤j∧j≤b) (fun j=>j - m) b ⟨by omega,by omega⟩ sB mS ?_
   rintro j ⟨hj1,hj2⟩
   by_cases hlt:m<j
   ·
    obtain ⟨z,hz,hc⟩:=hL.cmp (i:=a) (j:=(m+j) / 2) (by omega) (by omega)
    have r1:=hrl.elem encPz_len ((m+j) / 2) (by omega)
    have r2:=hrl.elem encPz_len a (by omega)
    generalize L[(m+j) / 2]'(by omega)=p at r1 hc
    generalize L[a]'(by omega)=q at r2 hc
    repeat' (first|((with_reducible apply wl_v);exact rfl;(with_reducible apply v_toU (a:=m+j));exact rfl;(simp only [maxLen];omega))|((with_reducible apply wl_v);exact rfl;(with_reducible apply v_half (a:=m+j));exact rfl;exact rfl)|((with_reducible apply wl_v);exact rfl;(with_reducible apply v_toI (a:=(m+j) / 2));exact rfl;(simp only [maxLen];omega))|((with_reducible apply w_draw (id:=5));kernel_rfl;kernel_rfl)|((with_reducible apply wq_v (d:=43));exact rfl;(with_reducible apply v_indexAddr (j:=(m+j) / 2));exact rfl;exact rfl;omega)|((with_reducible apply wq_v (d:=47));exact rfl;(with_reducible apply v_indexAddr (j:=a));exact rfl;exact rfl;omega)|((with_reducible apply wq_v (d:=44));exact rfl;(with_reducible apply v_loadw_ro (xs:=encPz p));exact rfl;exact r1;exact rfl)|((with_reducible apply wq_v (d:=48));exact rfl;(with_reducible apply v_loadw_ro (xs:=encPz q));exact rfl;exact r2;exact rfl)|((with_reducible apply wq_callvp);exact rfl;exact rfl;infer_instance;exact rfl;(intro w' _;exact hc w'))|refine sT ?_|refine sS ?_|refine sQ ?_|refine sN ?_|refine sNQ ?_|refine sD ?_|refine sM fun _=> ?_|(refine sC ?_ ?_<;>intro hb<;>try omega)|(refine sCQ ?_ ?_<;>intro hb<;>try omega)|fail)
    all_goals first
     |(exfalso;omega)
     |(refine ⟨(m+j) / 2,⟨by omega,by omega⟩,by omega,by exact sB,by exact sB,by exact mS⟩;done)
     |trace_state
   ·
    have e:j=m:=by omega
    subst e
    repeat' (first|refine sT ?_|refine sS ?_|refine sN ?_|refine sM fun _=> ?_|(refine sC ?_ ?_<;>intro hb<;>try omega)|fail)
    all_goals first|(exfalso;omega)|skip
    refine w_loopK [0,1,2,3,4,10] rfl (fun _:Unit=> [(13,.int .i64 (a:Int))]) (fun _=> []) (fun _=>True) (fun _=>0) () trivial sB mS ?_
    rintro _ _
    repeat' (first|refine sT ?_|refine sS ?_|refine sN ?_|refine sM fun _=> ?_|(refine sC ?_ ?_<;>intro hb<;>try omega)|fail)
    all_goals first
     |(exfalso;omega)
     |(exact ret0 eIO rfl (MSub.nil _) rfl)
     |trace_state
  by_cases c2:b - m=1
  ·
   repeat' (first|refine sT ?_|refine sS ?_|refine sN ?_|refine sM fun _=> ?_|(refine sC ?_ ?_<;>intro hb<;>try omega)|fail)
   all_goals first|(exfalso;omega)|skip
   refine w_loopK [0,1,2,3,4,15] rfl (fun i:Nat=> [(14,.int .i64 (i:Int))]) (fun _=> []) (fun i=>a≤i∧i≤m) (fun i=>m - i) a ⟨by omega,by omega⟩ sB mS ?_
   rintro i ⟨hi1,hi2⟩
   by_cases hlt:i<m
   ·
    obtain ⟨z,hz,hc⟩:=hL.cmp (i:=(i+m) / 2) (j:=m) (by omega) (by omega)
    have r1:=hrl.elem encPz_len m (by omega)
    have r2:=hrl.elem encPz_len ((i+m) / 2) (by omega)
    generalize L[m]'(by omega)=p at r1 hc
    generalize L[(i+m) / 2]'(by omega)=q at r2 hc
    repeat' (first|((with_reducible apply wl_v);exact rfl;(with_reducible apply v_toU (a:=i+m));exact rfl;(simp only [maxLen];omega))|((with_reducible apply wl_v);exact rfl;(with_reducible apply v_half (a:=i+m));exact rfl;exact rfl)|((with_reducible apply wl_v);exact rfl;(with_reducible apply v_toI (a:=(i+m) / 2));exact rfl;(simp only [maxLen];omega))|((with_reducible apply w_draw (id:=17));kernel_rfl;kernel_rfl)|((with_reducible apply wq_v (d:=95));exact rfl;(with_reducible apply v_indexAddr (j:=m));exact rfl;exact rfl;omega)|((with_reducible apply wq_v (d:=99));exact rfl;(with_reducible apply v_indexAddr (j:=(i+m) / 2));exact rfl;exact rfl;omega)|((with_reducible apply wq_v (d:=96));exact rfl;(with_reducible apply v_loadw_ro (xs:=encPz p));exact rfl;exact r1;exact rfl)|((with_reducible apply wq_v (d:=100));exact rfl;(with_reducible apply v_loadw_ro (xs:=encPz q));exact rfl;exact r2;exact rfl)|((with_reducible apply wq_callvp);exact rfl;exact rfl;infer_instance;exact rfl;(intro w' _;exact hc w'))|refine sT ?_|refine sS ?_|refine sQ ?_|refine sN ?_|refine sNQ ?_|refine sD ?_|refine sM fun _=> ?_|(refine sC ?_ ?_<;>intro hb<;>try omega)|(refine sCQ ?_ ?_<;>intro hb<;>try omega)|fail)
    all_goals first
     |(exfalso;simp at hb;omega)
     |(exfalso;omega)
     |(refine ⟨(i+m) / 2+1,⟨by omega,by omega⟩,by omega,by exact sB,by exact sB,by exact mS⟩;done)
     |trace_state
   ·
    have e:i=m:=by omega
    subst e
    repeat' (first|refine sT ?_|refine sS ?_|refine sN ?_|refine sM fun _=> ?_|(refine sC ?_ ?_<;>intro hb<;>try omega)|fail)
    all_goals first|(exfalso;omega)|skip
    refine w_loopK [0,1,2,3,4,14] rfl (fun _:Unit=> [(17,.int .i64 (i:Int))]) (fun _=> []) (fun _=>True) (fun _=>0) () trivial sB mS ?_
    rintro _ _
    repeat' (first|refine sT ?_|refine sS ?_|refine sN ?_|refine sM fun _=> ?_|(refine sC ?_ ?_<;>intro hb<;>try omega)|fail)
    all_goals first
     |(exfalso;omega)
     |(exact ret0 eIO rfl (MSub.nil _) rfl)
     |trace_state
  obtain ⟨d,hd⟩: ∃ d,d=(a+b) / 2:=⟨_,rfl⟩
  by_cases c3:d<m
  ·
   repeat' (first|((with_reducible apply wl_v (d:=132));exact rfl;(with_reducible apply v_toU (a:=a+b));exact rfl;(simp only [maxLen];omega))|((with_reducible apply wl_v (d:=133));exact rfl;(with_reducible apply v_half (a:=a+b));exact rfl;exact rfl)|((with_reducible apply wl_v (d:=134));exact rfl;(rw [← hd];(with_reducible apply v_toI (a:=d)));exact rfl;(simp only [maxLen];omega))|refine sT ?_|refine sS ?_|refine sN ?_|refine sM fun _=> ?_|(refine sC ?_ ?_<;>intro hb<;>try omega)|fail)
   all_goals first|(exfalso;omega)|skip
   refine w_loopK [0,1,2,3,4,18,19,21,22] rfl (fun st:Nat=> [(20,.int .i64 (st:Int))]) (fun _=> []) (fun st=>d+m - b≤st∧st≤d) (fun st=>d - st) (d+m - b) ⟨by omega,by omega⟩ sB mS ?_
   rintro st ⟨hs1,hs2⟩
   by_cases hlt:st<d
   ·
    obtain ⟨z,hz,hc⟩:=hL.cmp (i:=(st+d) / 2) (j:=d+m - 1 - (st+d) / 2) (by omega) (by omega)
    have r1:=hrl.elem encPz_len (d+m - 1 - (st+d) / 2) (by omega)
    have r2:=hrl.elem encPz_len ((st+d) / 2) (by omega)
    generalize L[d+m - 1 - (st+d) / 2]'(by omega)=p at r1 hc
    generalize L[(st+d) / 2]'(by omega)=q at r2 hc
    repeat' (first|((with_reducible apply wl_v);exact rfl;(with_reducible apply v_toU (a:=st+d));exact rfl;(simp only [maxLen];omega))|((with_reducible apply wl_v);exact rfl;(with_reducible apply v_half (a:=st+d));exact rfl;exact rfl)|((with_reducible apply wl_v);exact rfl;(with_reducible apply v_toI (a:=(st+d) / 2));exact rfl;(simp only [maxLen];omega))|((with_reducible apply w_draw (id:=35));kernel_rfl;kernel_rfl)|((with_reducible apply wq_v (d:=163));exact rfl;(with_reducible apply v_indexAddr (j:=d+m - 1 - (st+d) / 2));exact rfl;exact rfl;omega)|((with_reducible apply wq_v (d:=167));exact rfl;(with_reducible apply v_indexAddr (j:=(st+d) / 2));exact rfl;exact rfl;omega)|((with_reducible apply wq_v (d:=164));exact rfl;(with_reducible apply v_loadw_ro (xs:=encPz p));exact rfl;exact r1;exact rfl)|((with_reducible apply wq_v (d:=168));exact rfl;(with_reducible apply v_loadw_ro (xs:=encPz q));exact rfl;exact r2;exact rfl)|((with_reducible apply wq_callvp);exact rfl;exact rfl;infer_instance;exact rfl;(intro w' _;exact hc w'))|refine sT ?_|refine sS ?_|refine sQ ?_|refine sN ?_|refine sNQ ?_|refine sD ?_|refine sM fun _=> ?_|(refine sC ?_ ?_<;>intro hb<;>try omega)|(refine sCQ ?_ ?_<;>intro hb<;>try omega)|fail)
    all_goals first
     |(exfalso;simp at hb;omega)
     |(exfalso;omega)
     |(refine ⟨(st+d) / 2+1,⟨by omega,by omega⟩,by omega,by exact sB,by exact sB,by exact mS⟩;done)
     |trace_state
   ·
    have e:st=d:=by omega
    subst e
    repeat' (first|((with_reducible apply wl_v (d:=177));exact rfl;(with_reducible apply v_subN (a:=st+m) (b:=st));exact rfl;exact rfl;omega;(simp only [maxLen];omega))|((with_reducible apply wl_callp (f:=214));exact rfl;exact rfl;(intro w2 hm2;(first|exact IH st (st+m - st) b (by omega) (by omega) (by omega) h3 w2 _ hm2)))|refine sT ?_|refine sS ?_|refine sN ?_|refine sM fun _=> ?_|(refine sC ?_ ?_<;>intro hb<;>try omega)|fail)
    all_goals first
     |(exfalso;omega)
     |(exact ret0 eIO rfl (MSub.nil _) rfl)
     |trace_state
  ·
   repeat' (first|((with_reducible apply wl_v (d:=132));exact rfl;(with_reducible apply v_toU (a:=a+b));exact rfl;(simp only [maxLen];omega))|((with_reducible apply wl_v (d:=133));exact rfl;(with_reducible apply v_half (a:=a+b));exact rfl;exact rfl)|((with_reducible apply wl_v (d:=134));exact rfl;(rw [← hd];(with_reducible apply v_toI (a:=d)));exact rfl;(simp only [maxLen];omega))|refine sT ?_|refine sS ?_|refine sN ?_|refine sM fun _=> ?_|(refine sC ?_ ?_<;>intro hb<;>try omega)|fail)
   all_goals first|(exfalso;omega)|skip
   refine w_loopK [0,1,2,3,4,18,19,21,22] rfl (fun st:Nat=> [(20,.int .i64 (st:Int))]) (fun _=> []) (fun st=>a≤st∧st≤m) (fun st=>m - st) a ⟨by omega,by omega⟩ sB mS ?_
   rintro st ⟨hs1,hs2⟩
   by_cases hlt:st<m
   ·
    obtain ⟨z,hz,hc⟩:=hL.cmp (i:=(st+m) / 2) (j:=d+m - 1 - (st+m) / 2) (by omega) (by omega)
    have r1:=hrl.elem encPz_len (d+m - 1 - (st+m) / 2) (by omega)
    have r2:=hrl.elem encPz_len ((st+m) / 2) (by omega)
    generalize L[d+m - 1 - (st+m) / 2]'(by omega)=p at r1 hc
    generalize L[(st+m) / 2]'(by omega)=q at r2 hc
    repeat' (first|((with_reducible apply wl_v);exact rfl;(with_reducible apply v_toU (a:=st+m));exact rfl;(simp only [maxLen];omega))|((with_reducible apply wl_v);exact rfl;(with_reducible apply v_half (a:=st+m));exact rfl;exact rfl)|((with_reducible apply wl_v);exact rfl;(with_reducible apply v_toI (a:=(st+m) / 2));exact rfl;(simp only [maxLen];omega))|((with_reducible apply w_draw (id:=35));kernel_rfl;kernel_rfl)|((with_reducible apply wq_v (d:=163));exact rfl;(with_reducible apply v_indexAddr (j:=d+m - 1 - (st+m) / 2));exact rfl;exact rfl;omega)|((with_reducible apply wq_v (d:=167));exact rfl;(with_reducible apply v_indexAddr (j:=(st+m) / 2));exact rfl;exact rfl;omega)|((with_reducible apply wq_v (d:=164));exact rfl;(with_reducible apply v_loadw_ro (xs:=encPz p));exact rfl;exact r1;exact rfl)|((with_reducible apply wq_v (d:=168));exact rfl;(with_reducible apply v_loadw_ro (xs:=encPz q));exact rfl;exact r2;exact rfl)|((with_reducible apply wq_callvp);exact rfl;exact rfl;infer_instance;exact rfl;(intro w' _;exact hc w'))|refine sT ?_|refine sS ?_|refine sQ ?_|refine sN ?_|refine sNQ ?_|refine sD ?_|refine sM fun _=> ?_|(refine sC ?_ ?_<;>intro hb<;>try omega)|(refine sCQ ?_ ?_<;>intro hb<;>try omega)|fail)
    all_goals first
     |(exfalso;simp at hb;omega)
     |(exfalso;omega)
     |(refine ⟨(st+m) / 2+1,⟨by omega,by omega⟩,by omega,by exact sB,by exact sB,by exact mS⟩;done)
     |trace_state
   ·
    have e:st=m:=by omega
    subst e
    by_cases c4:st<d
    ·
     repeat' (first|((with_reducible apply wl_v (d:=177));exact rfl;(with_reducible apply v_subN (a:=d+st) (b:=st));exact rfl;exact rfl;omega;(simp only [maxLen];omega))|((with_reducible apply wl_callp (f:=214));exact rfl;exact rfl;(intro w2 hm2;exact IH a st d (by omega) (by omega) (by omega) (by omega) w2 _ hm2))|refine sT ?_|refine sS ?_|refine sN ?_|refine sM fun _=> ?_|(refine sC ?_ ?_<;>intro hb<;>try omega)|fail)
     all_goals first
      |(exfalso;omega)
      |(exact ret0 eIO rfl (MSub.nil _) rfl)
      |trace_state
    ·
     repeat' (first|((with_reducible apply wl_v (d:=177));exact rfl;(with_reducible apply v_subN (a:=d+st) (b:=st));exact rfl;exact rfl;omega;(simp only [maxLen];omega))|refine sT ?_|refine sS ?_|refine sN ?_|refine sM fun _=> ?_|(refine sC ?_ ?_<;>intro hb<;>try omega)|fail)
     all_goals first
      |(exfalso;omega)
      |(exact ret0 eIO rfl (MSub.nil _) rfl)
      |trace_state
set_option maxHeartbeats 16000000 in
theorem stableZ_at (L:List Pz) (hL:InZ L) (lv:Value) (w:World) (hl:Reads w lv L.length (L.flatMap encPz)):
  Pure Tryz.prog 167 [lv,.int .i64 (L.length:Int),cmpV] w (.tuple #[]):=by
 have hI:=fun (a b:Nat) (h1:b≤L.length) (h2:a≤L.length) (w2:World) (H2:List Blk) (hm:Mem w w2 H2)=>insZ_at L hL lv w2 (hl.of_w0 hm) a b h1 h2
 have hM:=fun (a m b:Nat) (h1:a<m) (h2:m<b) (h3:b≤L.length) (w2:World) (H2:List Blk) (hm:Mem w w2 H2)=>symZ_at L hL lv w hl (b - a) a m b (Nat.le_refl _) h1 h2 h3 w2 ⟨H2,hm⟩
 obtain ⟨Al,cl,rfl,hl1,hl2,hl3⟩:=hl
 refine fn_at Tryz.func167 rfl Tryz.ntmps167 rfl ?_
 have hlen:=hL.len
 repeat' (first|refine sT ?_|refine sS ?_|refine sN ?_|refine sM fun _=> ?_|(refine sC ?_ ?_<;>intro hb<;>try omega)|fail)
 refine w_loopK [0,1,2,6] rfl (fun a:Nat=> [(7,.int .i64 (a:Int)),(8,.int .i64 ((a+20:Nat):Int))]) (fun _=> []) (fun a=>a≤L.length) (fun a=>L.length - a) 0 (Nat.zero_le _) sB mS ?_
 rintro a ha
 by_cases hlt:a+20≤L.length
 ·
  repeat' (first|((with_reducible apply wl_callp (f:=213));exact rfl;exact rfl;(intro w2 hm2;exact hI a (a+20) hlt (by omega) w2 _ hm2))|((with_reducible apply wl_v (d:=22));exact rfl;(with_reducible apply v_addN (a:=a+20) (b:=20));exact rfl;exact rfl;(simp only [maxLen];omega))|refine sT ?_|refine sS ?_|refine sN ?_|refine sM fun _=> ?_|(refine sC ?_ ?_<;>intro hb<;>try omega)|fail)
  all_goals first
   |(exfalso;omega)
   |(refine ⟨a+20,hlt,by omega,by exact sB,by exact sB,by exact mS⟩;done)
   |trace_state
 ·
  repeat' (first|((with_reducible apply wl_callp (f:=213));exact rfl;exact rfl;(intro w2 hm2;exact hI a L.length (Nat.le_refl _) ha w2 _ hm2))|refine sT ?_|refine sS ?_|refine sN ?_|refine sM fun _=> ?_|(refine sC ?_ ?_<;>intro hb<;>try omega)|fail)
  all_goals first|(exfalso;omega)|skip
  refine w_loopK [0,1,2] rfl (fun s:Nat=> [(6,.int .i64 (s:Int))]) (fun _=> []) (fun s=>20≤s∧s≤2*L.length+20) (fun s=>2*L.length+20 - s) 20 ⟨by omega,by omega⟩ sB mS ?_
  rintro s ⟨hs1,hs2⟩
  by_cases hsl:s<L.length
  ·
   repeat' (first|((with_reducible apply wl_v (d:=32));exact rfl;(with_reducible apply v_mulN (a:=2) (b:=s));exact rfl;exact rfl;(simp only [maxLen];omega))|refine sT ?_|refine sS ?_|refine sN ?_|refine sM fun _=> ?_|(refine sC ?_ ?_<;>intro hb<;>try omega)|fail)
   all_goals first|(exfalso;omega)|skip
   refine w_loopK [0,1,2,6] rfl (fun a:Nat=> [(7,.int .i64 (a:Int)),(8,.int .i64 ((a+2*s:Nat):Int))]) (fun _=> []) (fun a=>a≤L.length) (fun a=>L.length - a) 0 (Nat.zero_le _) (by rw [Nat.zero_add];exact sB) mS ?_
   rintro a ha
   by_cases hla:a+2*s≤L.length
   ·
    repeat' (first|((with_reducible apply wl_v (d:=40));exact rfl;(with_reducible apply v_addN (a:=a) (b:=s));exact rfl;exact rfl;(simp only [maxLen];omega))|((with_reducible apply wl_callp (f:=214));exact rfl;exact rfl;(intro w2 hm2;exact hM a (a+s) (a+2*s) (by omega) (by omega) hla w2 _ hm2))|((with_reducible apply wl_v (d:=47));exact rfl;(with_reducible apply v_mulN (a:=2) (b:=s));exact rfl;exact rfl;(simp only [maxLen];omega))|((with_reducible apply wl_v (d:=48));exact rfl;(with_reducible apply v_addN (a:=a+2*s) (b:=2*s));exact rfl;exact rfl;(simp only [maxLen];omega))|refine sT ?_|refine sS ?_|refine sN ?_|refine sM fun _=> ?_|(refine sC ?_ ?_<;>intro hb<;>try omega)|fail)
    all_goals first
     |(exfalso;omega)
     |(refine ⟨a+2*s,hla,by omega,by exact sB,by exact sB,by exact mS⟩;done)
     |trace_state
   ·
    by_cases hlm:a+s<L.length
    ·
     repeat' (first|((with_reducible apply wl_v (d:=51));exact rfl;(with_reducible apply v_addN (a:=a) (b:=s));exact rfl;exact rfl;(simp only [maxLen];omega))|((with_reducible apply wl_callp (f:=214));exact rfl;exact rfl;(intro w2 hm2;exact hM a (a+s) L.length (by omega) hlm (Nat.le_refl _) w2 _ hm2))|((with_reducible apply wl_v (d:=62));exact rfl;(with_reducible apply v_mulN (a:=s) (b:=2));exact rfl;exact rfl;(simp only [maxLen];omega))|refine sT ?_|refine sS ?_|refine sN ?_|refine sM fun _=> ?_|(refine sC ?_ ?_<;>intro hb<;>try omega)|fail)
     all_goals first
      |(exfalso;omega)
      |(refine ⟨s*2,⟨by omega,by omega⟩,by omega,by exact sB,by exact sB,by exact mS⟩;done)
      |trace_state
    ·
     repeat' (first|((with_reducible apply wl_v (d:=51));exact rfl;(with_reducible apply v_addN (a:=a) (b:=s));exact rfl;exact rfl;(simp only [maxLen];omega))|((with_reducible apply wl_v (d:=62));exact rfl;(with_reducible apply v_mulN (a:=s) (b:=2));exact rfl;exact rfl;(simp only [maxLen];omega))|refine sT ?_|refine sS ?_|refine sN ?_|refine sM fun _=> ?_|(refine sC ?_ ?_<;>intro hb<;>try omega)|fail)
     all_goals first
      |(exfalso;omega)
      |(refine ⟨s*2,⟨by omega,by omega⟩,by omega,by exact sB,by exact sB,by exact mS⟩;done)
      |trace_state
  ·
   repeat' (first|refine sT ?_|refine sS ?_|refine sM fun _=> ?_|(refine sC ?_ ?_<;>intro hb<;>try omega)|fail)
   all_goals first
    |(exfalso;omega)
    |(exact ret0 eIO rfl (MSub.nil _) rfl)
    |trace_state
theorem sortStable_at (L:List Pz) (hL:InZ L) (lv:Value) (w:World) (hl:Reads w lv L.length (L.flatMap encPz)):
  Pure Tryz.prog 133 [lv,cmpV] w (.tuple #[]):=by
 have hS:=fun (w2:World) (H2:List Blk) (hm:Mem w w2 H2)=>stableZ_at L hL lv w2 (hl.of_w0 hm)
 obtain ⟨Al,cl,rfl,hl1,hl2,hl3⟩:=hl
 refine fn_at Tryz.func133 rfl Tryz.ntmps133 rfl ?_
 repeat' (first|((with_reducible apply wl_callp (f:=167));exact rfl;exact rfl;(intro w2 hm2;exact hS w2 _ hm2))|refine sT ?_|refine sM fun _=> ?_|(refine sC ?_ ?_<;>intro hb<;>try omega)|fail)
 exact ret0 eIO rfl (MSub.nil _) rfl
--
theorem grow_app {l m:List Pz} {p:Pz} (hm:m≠ []):l++growZ m p=growZ (l++m) p:=by
 have e:=List.dropLast_concat_getLast hm
 generalize hd:m.dropLast=d at e
 generalize m.getLast hm=q at e
 subst e
 unfold growZ
 rw [← List.append_assoc,List.getLast?_concat,List.getLast?_concat]
 dsimp only
 rw [List.dropLast_concat,List.dropLast_concat]
 split<;>simp
theorem grow_last {O:List Pz} {q p:Pz}:growZ (O++ [q]) p=if q.a=p.a∧q.b=p.b then O++ [⟨⟨q.rect.c1,q.rect.r1,p.rect.c2,q.rect.r2⟩,q.a,q.b⟩] else O++ [q]++ [p]:=by
 unfold growZ
 rw [List.getLast?_concat]
 dsimp only
 rw [List.dropLast_concat]
theorem row_len {A B:List Rl} {y:Int × Int} (xs:List (Int × Int)):(rowZ A B y xs).length≤xs.length:=by
 induction xs using snocRec with
 |h0=>exact Nat.le_refl _
 |h1 xs x ih=>
  rw [rowZ_snoc,List.length_append,List.length_singleton]
  generalize rowZ A B y xs=l at ih
  unfold growZ
  cases h:l.getLast? with
  |none=>simp
  |some q=>
   dsimp only
   split
   ·
    rw [List.length_append,List.length_dropLast,List.length_singleton];omega
   ·
    rw [List.length_append,List.length_singleton];omega
theorem row_none {A B:List Rl} {y:Int × Int}:rowZ A B y []= []:=rfl
def rowsTo (A B:List Rl) (ys xs:List (Int × Int)):List Pz:=ys.flatMap fun y=>rowZ A B y xs
theorem rowsTo_snoc {A B:List Rl} {ys xs:List (Int × Int)} {y:Int × Int}:rowsTo A B (ys++ [y]) xs=rowsTo A B ys xs++rowZ A B y xs:=by unfold rowsTo;simp
theorem rowsTo_len {A B:List Rl} {xs:List (Int × Int)}: ∀ ys:List (Int × Int),(rowsTo A B ys xs).length≤ys.length*xs.length
 | []=>by simp [rowsTo]
 |y::ys=>by
  have h1:=rowsTo_len (A:=A) (B:=B) (xs:=xs) ys
  have h2:=row_len (A:=A) (B:=B) (y:=y) xs
  unfold rowsTo at h1 ⊢
  rw [List.flatMap_cons,List.length_append,List.length_cons,Nat.succ_mul]
  omega
theorem row_c1 {A B:List Rl} {y:Int × Int} (xs:List (Int × Int)): ∀ q∈rowZ A B y xs,q.rect.r1=y.1∧ ∃ x∈xs,q.rect.c1=x.1:=by
 induction xs using snocRec with
 |h0=>intro q hq;cases hq
 |h1 xs x ih=>
  intro q hq
  rw [rowZ_snoc] at hq
  by_cases hn:rowZ A B y xs= []
  ·
   rw [hn] at hq
   have:q=partOf A B y x:=by simpa [growZ] using hq
   subst this
   exact ⟨rfl,x,by simp,rfl⟩
  ·
   have e:=List.dropLast_concat_getLast hn
   generalize (rowZ A B y xs).dropLast=d at e
   generalize (rowZ A B y xs).getLast hn=z at e
   rw [← e] at hq ih
   rw [grow_last] at hq
   have hz:=ih z (by simp)
   split at hq
   ·
    rcases List.mem_append.1 hq with hq|hq
    ·
     obtain ⟨h1,x',h2,h3⟩:=ih q (by simp [hq])
     exact ⟨h1,x',by simp [h2],h3⟩
    ·
     rw [List.mem_singleton.1 hq]
     obtain ⟨h1,x',h2,h3⟩:=hz
     exact ⟨h1,x',by simp [h2],h3⟩
   ·
    rcases List.mem_append.1 hq with hq|hq
    ·
     obtain ⟨h1,x',h2,h3⟩:=ih q hq
     exact ⟨h1,x',by simp [h2],h3⟩
    ·
     rw [List.mem_singleton.1 hq]
     exact ⟨rfl,x,by simp,rfl⟩
theorem parts_small {r:Rct} {A B:List Rl} (hrs:1≤r.c1∧r.c1≤r.c2∧r.c2≤1024∧1≤r.r1∧r.r1≤r.r2∧r.r2≤1024): ∀ p∈partsF r A B,smallZ p:=fun p hp=>by
 obtain ⟨y,hy,hp⟩:=List.mem_flatMap.1 hp
 obtain ⟨h1,x,hx,h2⟩:=row_c1 _ p hp
 have h3:=bands_mem hy
 have h4:=bands_mem hx
 unfold smallZ
 omega
set_option maxHeartbeats 16000000 in
theorem parts_at (r : Rct) (hr : rectOk r = true) (A B : List Rl) (la lb : Value) (w : World) (hla : Reads w la A.length (A.flatMap encRl)) (hlb : Reads w lb B.length (B.flatMap encRl)) (hA : A.length ≤ 200) (hB : B.length ≤ 200) :
    FnAt Tryz.prog 82 [.agg (encR r).toArray, la, lb] w fun v H => ∃ Ap cap, v = sl Ap (partsF r A B).length cap ∧ H = [.own Ap 145 6 (partsF r A B).length cap ((partsF r A B).flatMap encPz)] := by
  refine fn_at Tryz.func82 rfl Tryz.ntmps82 rfl ?_
  have hrs := rectOk_sides.1 hr
  have hZ : InZ (partsF r A B) := by
    refine ⟨parts_sorted r A B, parts_small hrs, ?_⟩
    have h1 := rowsTo_len (A := A) (B := B) (xs := bandsF r.c1 r.c2 (colsOf r A ++ colsOf r B)) (bandsF r.r1 r.r2 (rowsOf r A ++ rowsOf r B))
    have h2 := bandsF_len r.c1 r.c2 (colsOf r A ++ colsOf r B)
    have h3 := bandsF_len r.r1 r.r2 (rowsOf r A ++ rowsOf r B)
    have h4 := colsOf_len r A
    have h5 := colsOf_len r B
    have h6 := rowsOf_len r A
    have h7 := rowsOf_len r B
    rw [List.length_append] at h2 h3
    refine Nat.le_trans h1 (Nat.le_trans (Nat.mul_le_mul (show _ ≤ 801 by omega) (show _ ≤ 801 by omega)) (by decide))
  have hnA := fun (gr gc gw : Nat) => note_in r A la gr gc gw none none 0 0 [] [] [] w hla (by simp; omega) (by simp; omega)
  have hnB := fun (gr gc gw : Nat) (A1 A2 : Option Nat) (c1 c2 : Nat) => note_in r B lb gr gc gw A1 A2 c1 c2 (colsOf r A) (rowsOf r A) [] w hlb (by have := colsOf_len r A; omega) (by have := rowsOf_len r A; omega)
  have hcl : (colsOf r A ++ colsOf r B).length ≤ 400 := by have := colsOf_len r A; have := colsOf_len r B; rw [List.length_append]; omega
  have hwl : (rowsOf r A ++ rowsOf r B).length ≤ 400 := by have := rowsOf_len r A; have := rowsOf_len r B; rw [List.length_append]; omega
  have hcs : ∀ p ∈ colsOf r A ++ colsOf r B, 0 ≤ p.1 ∧ p.1 ≤ 100000 ∧ 0 ≤ p.2 ∧ p.2 ≤ 100000 := fun p hp => (List.mem_append.1 hp).elim (colsOf_small p) (colsOf_small p)
  have hws : ∀ p ∈ rowsOf r A ++ rowsOf r B, 0 ≤ p.1 ∧ p.1 ≤ 100000 ∧ 0 ≤ p.2 ∧ p.2 ≤ 100000 := fun p hp => (List.mem_append.1 hp).elim (rowsOf_small p) (rowsOf_small p)
  have hb1 := fun (w' : World) (lv : Value) (h : Reads w' lv _ _) => bands_at r.c1 r.c2 (colsOf r A ++ colsOf r B) lv w' h (by omega) (by omega) (by omega) hcs
  have hb2 := fun (w' : World) (lv : Value) (h : Reads w' lv _ _) => bands_at r.r1 r.r2 (rowsOf r A ++ rowsOf r B) lv w' h (by omega) (by omega) (by omega) hws
  have hxl := bandsF_len r.c1 r.c2 (colsOf r A ++ colsOf r B)
  have hyl := bandsF_len r.r1 r.r2 (rowsOf r A ++ rowsOf r B)
  have hpf : partsF r A B = rowsTo A B (bandsF r.r1 r.r2 (rowsOf r A ++ rowsOf r B)) (bandsF r.c1 r.c2 (colsOf r A ++ colsOf r B)) := rfl
  generalize partsF r A B = PZ at hZ hpf ⊢
  generalize hX : bandsF r.c1 r.c2 (colsOf r A ++ colsOf r B) = xB at hb1 hxl hpf
  generalize hY : bandsF r.r1 r.r2 (rowsOf r A ++ rowsOf r B) = yB at hb2 hyl hpf
  generalize hCO : colsOf r A ++ colsOf r B = CO at hb1 hcl hxl
  generalize hRO : rowsOf r A ++ rowsOf r B = RO at hb2 hwl hyl
  refine w_nilrow 143 2 ?_
  refine w_nilrow 143 2 ?_
  repeat' (first | ((with_reducible apply wl_callv (d := 21)); exact rfl; exact rfl; infer_instance; exact rfl; exact FnIn.msub (hnA _ _ _) (by simp only [pairB, List.append_eq, List.cons_append, List.nil_append]; exact mS); rintro _ _ ⟨rfl, A1, c1, A2, c2, rfl⟩) | ((with_reducible apply wl_callv (d := 24)); exact rfl; exact rfl; infer_instance; exact rfl; exact FnIn.msub (hnB _ _ _ A1 A2 c1 c2) (by simp only [pairB, List.append_eq, List.cons_append, List.nil_append]; exact mS); rintro _ _ ⟨rfl, A3, c3, A4, c4, rfl⟩) | refine sT ?_ | refine sS ?_ | refine sT2 ?_ | refine sM fun _ => ?_ | (refine sC ?_ ?_ <;> intro hb <;> try omega) | exact cT | fail)
  rename_i g3 g7 g8
  rw [hCO, hRO]
  simp only [pairB, List.append_eq, List.cons_append, List.nil_append]
  refine w_cut' (fun _ : Option Nat × Nat × Option Nat × Nat => [(1, la), (2, lb), (3, .pointer (some ⟨g3, 0, none⟩)), (7, .pointer (some ⟨g7, 0, none⟩)), (8, .pointer (some ⟨g8, 0, none⟩))]) (fun y => .box g7 210 [sl y.1 xB.length y.2.1] :: .own y.1 143 2 xB.length y.2.1 (xB.flatMap encBd) :: .box g8 210 [sl y.2.2.1 yB.length y.2.2.2] :: .own y.2.2.1 143 2 yB.length y.2.2.2 (yB.flatMap encBd) :: []) (fun _ => True) ?_ ?_
  · refine w_drawE (id := 5) [4, 5, 10, 11, 12, 13] [.box g3 33 (encR r)] 14 rfl rfl mS ?_
    repeat' (first | ((with_reducible apply we_v (i := 0)); (iterate 4 exact rfl); decide +kernel; decide +kernel; decide +kernel; (exact vC)) | ((with_reducible apply we_v (i := 1)); (iterate 4 exact rfl); decide +kernel; decide +kernel; decide +kernel; (exact vC)) | ((with_reducible apply we_v (i := 2)); (iterate 4 exact rfl); decide +kernel; decide +kernel; decide +kernel; (exact vC)) | ((with_reducible apply we_v (i := 3)); (iterate 4 exact rfl); decide +kernel; decide +kernel; decide +kernel; (exact vC)) | ((with_reducible apply we_v (i := 6)); (iterate 4 exact rfl); decide +kernel; decide +kernel; decide +kernel; (exact vC)) | ((with_reducible apply we_v (i := 7)); (iterate 4 exact rfl); decide +kernel; decide +kernel; decide +kernel; (exact vC)) | ((with_reducible apply we_v (i := 8)); (iterate 4 exact rfl); decide +kernel; decide +kernel; decide +kernel; (exact vC)) | ((with_reducible apply we_v (i := 9)); (iterate 4 exact rfl); decide +kernel; decide +kernel; decide +kernel; (exact vC)) | ((with_reducible apply we_two (i := 4) (j := 10)); (iterate 6 exact rfl); decide +kernel) | ((with_reducible apply we_two (i := 5) (j := 10)); (iterate 6 exact rfl); decide +kernel) | ((with_reducible apply we_two (i := 12) (j := 13)); (iterate 6 exact rfl); decide +kernel) | ((with_reducible apply we_one (i := 4)); (iterate 3 exact rfl); decide +kernel) | ((with_reducible apply we_one (i := 5)); (iterate 3 exact rfl); decide +kernel) | ((with_reducible apply we_one (i := 10)); (iterate 3 exact rfl); decide +kernel) | ((with_reducible apply we_one (i := 11)); (iterate 3 exact rfl); decide +kernel) | ((with_reducible apply we_one (i := 12)); (iterate 3 exact rfl); decide +kernel) | ((with_reducible apply we_one (i := 13)); (iterate 3 exact rfl); decide +kernel) | ((with_reducible apply wl_call (d := 30)); exact rfl; exact rfl; (intro w' hm; exact hb1 w' _ (Reads.of_own (A := A3) hm pK)); rintro _ _ ⟨A5, c5, rfl, rfl⟩) | ((with_reducible apply wl_call (d := 36)); exact rfl; exact rfl; (intro w' hm; exact hb2 w' _ (Reads.of_own (A := A4) hm pK)); rintro _ _ ⟨A6, c6, rfl, rfl⟩) | ((with_reducible apply we_done); decide +kernel) | ((with_reducible apply ce_n); (focus (exact mS; done))) | refine sT ?_ | refine sS ?_ | refine sT2 ?_ | refine sM fun _ => ?_ | (refine sC ?_ ?_ <;> intro hb <;> try omega) | exact cT | fail)
    all_goals first
      | (exfalso; omega)
      | (exact cut_n (A5, c5, A6, c6) trivial sB mS)
      | trace_state
  rintro ⟨A5, c5, A6, c6⟩ _
  dsimp only
  clear hnA hnB hb1 hb2 hX hY hCO hRO
  refine w_nilrow 145 6 ?_
  repeat' (first | refine sT ?_ | refine sS ?_ | refine sT2 ?_ | refine sM fun _ => ?_ | (refine sC ?_ ?_ <;> intro hb <;> try omega) | exact cT | fail)
  refine w_loopK [1, 2, 7, 37, 38] rfl (fun y : Nat × Option Nat × Nat => [(10, sl y.2.1 (rowsTo A B (yB.take y.1) xB).length y.2.2), (39, .int .i64 (y.1 : Int))]) (fun y => .own y.2.1 145 6 (rowsTo A B (yB.take y.1) xB).length y.2.2 ((rowsTo A B (yB.take y.1) xB).flatMap encPz) :: .box g7 210 [sl A5 xB.length c5] :: .own A5 143 2 xB.length c5 (xB.flatMap encBd) :: .own A6 143 2 yB.length c6 (yB.flatMap encBd) :: []) (fun y => y.1 ≤ yB.length) (fun y => yB.length - y.1) (0, none, 0) (Nat.zero_le _) sB mS ?_
  rintro ⟨j, Ao, co⟩ hj
  dsimp only at hj ⊢
  by_cases hjl : j < yB.length
  · refine w_some (A := A6) pK (by omega) fun g6 hA6 => ?_
    subst hA6
    have hrd : ((yB.flatMap encBd).drop (0 + j * 2)).take 2 = encBd yB[j] := by rw [Nat.zero_add]; exact flat_elem encBd_len yB j hjl
    have hsn := rowsTo_snoc (A := A) (B := B) (ys := yB.take j) (xs := xB) (y := yB[j])
    rw [← List.take_succ_eq_append_getElem hjl] at hsn
    have hpl : (rowsTo A B (yB.take j) xB).length ≤ 700000 := by
      have h1 := rowsTo_len (A := A) (B := B) (xs := xB) (yB.take j)
      refine Nat.le_trans h1 (Nat.le_trans (Nat.mul_le_mul (show _ ≤ 801 by rw [List.length_take]; omega) (show _ ≤ 801 by omega)) (by decide))
    generalize yB[j] = y at hrd hsn
    generalize rowsTo A B (yB.take j) xB = prev at hsn hpl ⊢
    repeat' (first | ((with_reducible apply wl_v (d := 41)); exact rfl; (with_reducible apply v_indexAddr (j := j)); exact rfl; exact rfl; exact hjl) | ((with_reducible apply wl_v (d := 42)); exact rfl; (with_reducible apply v_loads_own (ys := encBd y)); exact rfl; exact pK; exact hrd; exact rfl) | refine sT ?_ | refine sS ?_ | refine sT2 ?_ | refine sN ?_ | refine sM fun _ => ?_ | (refine sC ?_ ?_ <;> intro hb <;> try omega) | exact cT | fail)
    all_goals first | (exfalso; omega) | skip
    rename_i g12
    refine w_loopK [1, 2, 7, 12, 13, 37, 38, 39, 45, 46] rfl (fun z : Nat × Option Nat × Nat => [(10, sl z.2.1 (prev ++ rowZ A B y (xB.take z.1)).length z.2.2), (47, .int .i64 (z.1 : Int))]) (fun z => .own z.2.1 145 6 (prev ++ rowZ A B y (xB.take z.1)).length z.2.2 ((prev ++ rowZ A B y (xB.take z.1)).flatMap encPz) :: .box g12 143 (encBd y) :: .box g7 210 [sl A5 xB.length c5] :: .own A5 143 2 xB.length c5 (xB.flatMap encBd) :: .own (some g6) 143 2 yB.length c6 (yB.flatMap encBd) :: []) (fun z => z.1 ≤ xB.length) (fun z => xB.length - z.1) (0, Ao, co) (Nat.zero_le _) (by rw [List.take_zero, row_none, List.append_nil]; exact sB) (by rw [List.take_zero, row_none, List.append_nil]; exact mS) ?_
    rintro ⟨k, Az, cz⟩ hk
    dsimp only at hk ⊢
    by_cases hkl : k < xB.length
    · refine w_some (A := A5) pK (by omega) fun g5 hA5 => ?_
      subst hA5
      have hrx : ((xB.flatMap encBd).drop (0 + k * 2)).take 2 = encBd xB[k] := by rw [Nat.zero_add]; exact flat_elem encBd_len xB k hkl
      have hrn := rowZ_snoc (A := A) (B := B) (y := y) (xs := xB.take k) (x := xB[k])
      rw [← List.take_succ_eq_append_getElem hkl] at hrn
      have hcl2 := row_len (A := A) (B := B) (y := y) (xB.take k)
      rw [List.length_take] at hcl2
      generalize xB[k] = x at hrx hrn
      have hw1 := fun (w' : World) (H : List Blk) (hm : Mem w w' H) => which_at (gridR y x) A la w' (hla.of_w0 hm) (by omega)
      have hw2 := fun (w' : World) (H : List Blk) (hm : Mem w w' H) => which_at (gridR y x) B lb w' (hlb.of_w0 hm) (by omega)
      have hp : partOf A B y x = ⟨gridR y x, whichF (gridR y x) A, whichF (gridR y x) B⟩ := rfl
      rw [hp] at hrn
      generalize whichF (gridR y x) A = wa at hw1 hrn
      generalize whichF (gridR y x) B = wb at hw2 hrn
      clear hp
      repeat' (first | ((with_reducible apply wl_v (d := 49)); exact rfl; (with_reducible apply v_indexAddr (j := k)); exact rfl; exact rfl; exact hkl) | ((with_reducible apply wl_v (d := 50)); exact rfl; (with_reducible apply v_loads_own (ys := encBd x)); exact rfl; exact pK; exact hrx; exact rfl) | refine sT ?_ | refine sS ?_ | refine sT2 ?_ | refine sN ?_ | refine sM fun _ => ?_ | (refine sC ?_ ?_ <;> intro hb <;> try omega) | exact cT | fail)
      all_goals first | (exfalso; omega) | skip
      rename_i g15 g16
      generalize rowZ A B y (xB.take k) = cur at hrn hcl2 ⊢
      have hOl : (prev ++ cur).length ≤ 800000 := by rw [List.length_append]; omega
      refine w_drawL (id := 15) 10 (.box g16 145 (encPz ⟨gridR y x, wa, wb⟩) :: .own Az 145 6 (prev ++ cur).length cz ((prev ++ cur).flatMap encPz) :: .box g12 143 (encBd y) :: .box g7 210 [sl (some g5) xB.length c5] :: .own (some g5) 143 2 xB.length c5 (xB.flatMap encBd) :: .own (some g6) 143 2 yB.length c6 (yB.flatMap encBd) :: []) (by kernel_rfl) (by kernel_rfl) rfl ?_
      repeat' (first | ((with_reducible apply wg_lcallp (f' := 132) (f := 60)); exact rfl; decide +kernel; exact rfl; exact rfl; (intro w' hm; first | exact hw1 w' _ hm | exact hw2 w' _ hm)) | ((with_reducible apply wg_l (f := 60) (d := 69)); exact rfl; decide +kernel; exact rfl; (with_reducible apply v_buildAr); (iterate 5 exact rfl)) | ((with_reducible apply wg_lput_box); exact rfl; exact rfl; exact pK; (iterate 3 exact rfl); exact Nat.le_of_ble_eq_true rfl; exact mS) | refine sT ?_ | refine sS ?_ | refine sT2 ?_ | refine sG2 ?_ | refine sG ?_ | refine sM fun _ => ?_ | (refine sC ?_ ?_ <;> intro hb <;> try omega) | exact cT | fail)
      all_goals first | (exfalso; omega) | skip
      rcases Nat.eq_zero_or_pos cur.length with h0 | hpos
      · have hc0 : cur = [] := List.length_eq_zero_iff.1 h0
        subst hc0
        have hg : growZ [] (⟨gridR y x, wa, wb⟩ : Pz) = [⟨gridR y x, wa, wb⟩] := rfl
        rw [hg] at hrn
        rw [List.append_nil] at hOl ⊢
        repeat' (first | ((with_reducible apply w_draw (id := 17)); kernel_rfl; kernel_rfl) | ((with_reducible apply wl_append (d := 99) (A := Az) (m := 1)); (iterate 3 exact rfl); exact pK; (intro w hm; exact hm.cells_own pK); exact rfl; (simp [Value.oneCell', sl, encPz]); omega; (simp only [maxLen]; omega); (intro A' cap' hA')) | refine sT ?_ | refine sS ?_ | refine sQ ?_ | refine sT2 ?_ | refine sQ2 ?_ | refine sN ?_ | refine sNQ ?_ | refine sD ?_ | refine sM fun _ => ?_ | (refine sC ?_ ?_ <;> intro hb <;> try omega) | (refine sCQ ?_ ?_ <;> intro hb <;> try omega) | exact cT | fail)
        all_goals first
          | (exfalso; omega)
          | (refine ⟨(k + 1, A', cap'), hkl, by dsimp only; omega, ?_, by exact sB, ?_⟩
             · dsimp only; rw [hrn, List.length_append]; exact sB
             · dsimp only; rw [hrn, List.length_append, List.flatMap_append]; exact mS)
          | trace_state
      · have hne : cur ≠ [] := List.length_pos_iff.1 hpos
        have hga := grow_app (l := prev) (p := (⟨gridR y x, wa, wb⟩ : Pz)) hne
        rw [← hrn] at hga
        have hlt2 : prev.length < (prev ++ cur).length := by rw [List.length_append]; omega
        have hOe := List.dropLast_concat_getLast (l := prev ++ cur) (by simp [hne])
        generalize (prev ++ cur).dropLast = O at hOe
        generalize (prev ++ cur).getLast _ = q at hOe
        rw [← hOe] at hga hlt2 hOl ⊢
        rw [grow_last] at hga
        have hOn : (O ++ [q]).length = O.length + 1 := by simp
        rw [hOn] at hOl hlt2
        have hq2 : (((O ++ [q]).flatMap encPz).drop (0 + O.length * 6 + 4)).take 2 = encII (q.a, q.b) := by
          have h1 := flat_elem encPz_len (O ++ [q]) O.length (by simp)
          have h2 := congrArg (List.drop 4) h1
          rw [List.drop_take, List.drop_drop] at h2
          simp only [List.getElem_concat_length] at h2
          rw [Nat.zero_add]
          exact h2
        refine w_some (A := Az) pK (by omega) fun gz hAz => ?_
        subst hAz
        obtain ⟨c, hc⟩ : ∃ c, decide ((q.a, q.b) = (wa, wb)) = c := ⟨_, rfl⟩
        cases c with
        | true =>
          have hab : q.a = wa ∧ q.b = wb := by simpa using hc
          rw [if_pos hab] at hga
          have hset := flat_setc encPz_len (O ++ [q]) O.length 2 (by simp) (by decide) (.int .i64 x.2) ⟨⟨q.rect.c1, q.rect.r1, x.2, q.rect.r2⟩, q.a, q.b⟩ (by simp only [List.getElem_concat_length]; rfl)
          rw [List.set_append_right _ _ (Nat.le_refl _), Nat.sub_self, List.set_cons_zero] at hset
          have hOl3 : ((O ++ [q]).flatMap encPz).length = (O.length + 1) * 6 := by rw [flat_length' encPz_len, hOn]
          rw [hOn]
          repeat' (first | ((with_reducible apply w_draw (id := 17)); kernel_rfl; kernel_rfl) | ((with_reducible apply wq_v (d := 79)); exact rfl; (with_reducible apply v_predN (a := O.length + 1)); exact rfl; exact rfl; omega; (simp only [maxLen]; omega)) | ((with_reducible apply wq_v (d := 80)); exact rfl; (with_reducible apply v_indexAddr (j := O.length)); exact rfl; exact rfl; omega) | ((with_reducible apply wq_v (d := 82)); exact rfl; (with_reducible apply v_loads_own (ys := encII (q.a, q.b))); exact rfl; exact pK; exact hq2; exact rfl) | ((with_reducible apply wq_v (d := 85)); exact rfl; (with_reducible apply v_eqlII (a := (q.a, q.b)) (b := (wa, wb)) hc); exact rfl; exact rfl) | ((with_reducible apply wl_v (d := 89)); exact rfl; (with_reducible apply v_predN (a := O.length + 1)); exact rfl; exact rfl; omega; (simp only [maxLen]; omega)) | ((with_reducible apply wl_v (d := 93)); exact rfl; (with_reducible apply v_indexAddr (j := O.length)); exact rfl; exact rfl; omega) | ((with_reducible apply wl_store_own (v := .int .i64 x.2) (off := 0 + O.length * 6 + 2)); exact rfl; exact rfl; exact pK; exact rfl; (rw [hOl3]; omega); rw [Nat.zero_add, hset]) | refine sT ?_ | refine sS ?_ | refine sQ ?_ | refine sT2 ?_ | refine sQ2 ?_ | refine sN ?_ | refine sNQ ?_ | refine sD ?_ | refine sM fun _ => ?_ | (refine sC ?_ ?_ <;> intro hb <;> try omega) | (refine sCQ ?_ ?_ <;> intro hb <;> try omega) | exact cT | fail)
          all_goals first
            | (exfalso; omega)
            | (refine ⟨(k + 1, some gz, cz), hkl, by dsimp only; omega, ?_, by exact sB, ?_⟩
               · dsimp only; rw [hga, List.length_append]; exact sB
               · dsimp only; rw [hga, List.length_append]; exact mS)
            | trace_state
        | false =>
          have hab : ¬ (q.a = wa ∧ q.b = wb) := by simpa using hc
          rw [if_neg hab] at hga
          rw [hOn]
          repeat' (first | ((with_reducible apply w_draw (id := 17)); kernel_rfl; kernel_rfl) | ((with_reducible apply wq_v (d := 79)); exact rfl; (with_reducible apply v_predN (a := O.length + 1)); exact rfl; exact rfl; omega; (simp only [maxLen]; omega)) | ((with_reducible apply wq_v (d := 80)); exact rfl; (with_reducible apply v_indexAddr (j := O.length)); exact rfl; exact rfl; omega) | ((with_reducible apply wq_v (d := 82)); exact rfl; (with_reducible apply v_loads_own (ys := encII (q.a, q.b))); exact rfl; exact pK; exact hq2; exact rfl) | ((with_reducible apply wq_v (d := 85)); exact rfl; (with_reducible apply v_eqlII (a := (q.a, q.b)) (b := (wa, wb)) hc); exact rfl; exact rfl) | ((with_reducible apply wl_append (d := 99) (A := some gz) (m := 1)); (iterate 3 exact rfl); exact pK; (intro w hm; exact hm.cells_own pK); exact rfl; (simp [Value.oneCell', sl, encPz]); omega; (simp only [maxLen]; omega); (intro A' cap' hA')) | refine sT ?_ | refine sS ?_ | refine sQ ?_ | refine sT2 ?_ | refine sQ2 ?_ | refine sN ?_ | refine sNQ ?_ | refine sD ?_ | refine sM fun _ => ?_ | (refine sC ?_ ?_ <;> intro hb <;> try omega) | (refine sCQ ?_ ?_ <;> intro hb <;> try omega) | exact cT | fail)
          all_goals first
            | (exfalso; omega)
            | (refine ⟨(k + 1, A', cap'), hkl, by dsimp only; omega, ?_, by exact sB, ?_⟩
               · dsimp only; rw [hga, List.length_append, hOn]; exact sB
               · dsimp only; rw [hga, List.length_append, hOn, List.flatMap_append (xs := O ++ [q])]; exact mS)
            | trace_state
    · have e : k = xB.length := by omega
      subst e
      rw [List.take_length, ← hsn]
      repeat' (first | refine sT ?_ | refine sS ?_ | refine sT2 ?_ | refine sN ?_ | refine sM fun _ => ?_ | (refine sC ?_ ?_ <;> intro hb <;> try omega) | exact cT | fail)
      all_goals first
        | (exfalso; omega)
        | (refine ⟨(j + 1, Az, cz), hjl, by dsimp only; omega, by exact sB, by exact sB, by exact mS⟩; done)
        | trace_state
  · have e : j = yB.length := by omega
    subst e
    rw [List.take_length, ← hpf]
    have hS := fun (w' : World) (H : List Blk) (hm : Mem w w' H) (lv : Value) (h : Reads w' lv _ _) => sortStable_at PZ hZ lv w' h
    repeat' (first | ((with_reducible apply wl_callp (d := 103)); exact rfl; exact rfl; (intro w' hm; exact hS w' _ hm _ (Reads.of_own (A := Ao) hm pK))) | refine sT ?_ | refine sS ?_ | refine sT2 ?_ | refine sN ?_ | refine sM fun _ => ?_ | (refine sC ?_ ?_ <;> intro hb <;> try omega) | exact cT | fail)
    all_goals first
      | (exfalso; omega)
      | (exact ret1 eIO rfl rfl mS ⟨Ao, co, rfl, rfl⟩)
      | trace_state
end Go.SL
namespace Go.SL
open Go Go.RowKit
section
variable {P:Program} {n:Fr} {w0:World} {Q:Post} {s:Slots} {H S:List Blk} {l:List Oper} {L:Array Bool} {f:Nat} {ty:TypeId} {p:String} {af:Array Edge} {es:List Nat} {gu:Option (Nat × Bool)}
theorem we_three {i j k:Nat} {op op' op2:Op} {dst dst' dst2:Option Tmp} {ty' ty2:TypeId} {p' p2:String} {af' af2:Array Edge} {gu' gu2:Option (Nat × Bool)} (hi:l[i]? =some ⟨dst,op,ty,p,af,gu⟩) (hj:l[j]? =some ⟨dst',op',ty',p',af',gu'⟩) (hl:l[k]? =some ⟨dst2,op2,ty2,p2,af2,gu2⟩)
  (hg:gok l s gu=some true) (hg' :gok l s gu' =some true) (hg2:gok l s gu2=some true)
  (hk:es.contains i=true) (hk' :es.contains j=true) (hk2:es.contains k=true) (hr:Region.ready .any l.toArray L= [i,j,k])
  (h:WL P n w0 #[] [⟨dst,op,ty,p,af,none⟩] (ceP S (WE P n w0 l S es Q f (L.setIfInBounds i true))) s H)
  (h' :WL P n w0 #[] [⟨dst',op',ty',p',af',none⟩] (ceP S (WE P n w0 l S es Q f (L.setIfInBounds j true))) s H)
  (h2:WL P n w0 #[] [⟨dst2,op2,ty2,p2,af2,none⟩] (ceP S (WE P n w0 l S es Q f (L.setIfInBounds k true))) s H):WE P n w0 l S es Q (f+1) L s H:=by
 intro a w hs hm hS hcl
 refine ⟨hS,fun h0=>(by rw [hr] at h0;cases h0),fun x hx=> ?_⟩
 rw [hr] at hx
 rcases List.mem_cons.1 hx with e|hx
 ·
  subst e
  exact ⟨_,by simpa using hi,we_step hi hg hk (by rw [hr];simp) h a w hs hm hcl⟩
 ·
  rcases List.mem_cons.1 hx with e|hx
  ·
   subst e
   exact ⟨_,by simpa using hj,we_step hj hg' hk' (by rw [hr];simp) h' a w hs hm hcl⟩
  ·
   have e:x=k:=by simpa using hx
   subst e
   exact ⟨_,by simpa using hl,we_step hl hg2 hk2 (by rw [hr];simp) h2 a w hs hm hcl⟩
end
end Go.SL
