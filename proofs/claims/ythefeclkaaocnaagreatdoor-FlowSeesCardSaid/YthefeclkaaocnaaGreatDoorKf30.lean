/-
  Lemmas and walks, put together: Hf Hg Hj Sl33.
-/
import Derived.Test.YthefeclkaaocnaaGreatDoorKf29
set_option linter.unusedSimpArgs false
set_option linter.unusedVariables false
set_option maxRecDepth 20000
namespace Go.SL
open Go Go.Proofs
attribute [local irreducible] W WL WQ WG WA WX WLI WR WT WC WE VOp RW thn blk bF scp ba aZ bC FnAt FnIn FnP ceP
section
variable {P:Program} {n:Fr} {w0:World} {Q:ck} {s:aB} {H:List Blk} {l rest:List Oper} {ty:TypeId} {p:String} {af:Array Edge}
theorem zJ {x:Operand} {a:Nat} {t t' :TypeId} {d:TypeDesc} [hs:Und P t d] [hd:Und P t' (.int .u64)] (hx:ev s x=some (.int .i64 (a:Nat))) (h:a≤maxLen):VOp P w0 s H (.convert t t' x) ty (.int .u64 (a:Nat)):=
 bB (k:= .i64) hx (by rw [IntKind.wrap_u64];simp only [maxLen] at h;omega)
theorem zK {x:Operand} {a:Nat} {t t' :TypeId} {d:TypeDesc} [hs:Und P t d] [hd:Und P t' (.int .i64)] (hx:ev s x=some (.int .u64 (a:Nat))) (h:a≤maxLen):VOp P w0 s H (.convert t t' x) ty (.int .i64 (a:Nat)):=
 bB (k:= .u64) hx (I64.wrap ⟨by omega,by simp only [maxLen] at h;omega⟩)
theorem tU {x y:Operand} {a:Nat} {t t' :TypeId} (hx:ev s x=some (.int .u64 (a:Nat))) (hy:ev s y=some (.int .u64 1)):VOp P w0 s H (.binOp .shr t x y t') ty (.int .u64 ((a / 2:Nat):Int)):=by
 have h:=I9 (P:=P) (w0:=w0) (H:=H) (ty:=ty) (t:=t) (t' :=t') (m:=1) hx hy rfl
 have e:((a:Int) / 2 ^ 1)=((a / 2:Nat):Int):=by omega
 rwa [e] at h
theorem BH {x y:Operand} {a b:Nat} {t t' :TypeId} (hx:ev s x=some (.int .i64 (a:Nat))) (hy:ev s y=some (.int .i64 (b:Nat))) (ha:a*b≤maxLen):VOp P w0 s H (.binOp .mul t x y t') ty (.int .i64 ((a*b:Nat):Int)):=by
 rw [Int.natCast_mul]
 have e:((a:Int)*b)=((a*b:Nat):Int):=(Int.natCast_mul a b).symm
 exact zN hx hy ⟨by rw [e];omega,by rw [e];simp only [maxLen] at ha;omega⟩
end
set_option maxHeartbeats 16000000 in
theorem Jl (L:List Pz) (hL:InZ L) (lv:Value) (w:World) (hl:Reads w lv L.length (L.flatMap dK)): ∀ (k a m b:Nat),b - a≤k→a<m→m<b→b≤L.length→ ∀ w',(∃ H',Mem w w' H')→
  aD Tryz.prog 214 [lv,.int .i64 (a:Int),.int .i64 (m:Int),.int .i64 (b:Int),Qe] w' (.tuple #[])
 |0,a,m,b,hk,h1,h2,_=>by omega
 |k+1,a,m,b,hk,h1,h2,h3=>by
  intro w' ⟨H',hm'⟩
  have hl' :=hl.of_w0 hm'
  have IH:=fun (a m b:Nat) (g1:b - a≤k) (g2:a<m) (g3:m<b) (g4:b≤L.length) (w2:World) (H2:List Blk) (hm2:Mem w' w2 H2)=>Jl L hL lv w' hl' k a m b g1 g2 g3 g4 w2 ⟨H2,hm2⟩
  have hl0:=hl'
  obtain ⟨Al,cl,rfl,hl1,hl2,hl3⟩:=hl'
  refine ax Tryz.func214 rfl Tryz.ntmps214 rfl ?_
  have hlen:=hL.len
  obtain ⟨gl,ol,rfl,hrl⟩:=hl3 (by omega)
  by_cases c1:m - a=1
  ·
   repeat' (first|refine sT ?_|refine sS ?_|refine sN ?_|refine sM fun _=> ?_|(refine sC ?_ ?_<;>intro hb<;>try omega)|fail)
   all_goals try (exfalso;omega)
   refine ay [0,1,2,3,4,10] rfl (fun j:Nat=> [(11,.int .i64 (j:Int))]) (fun _=> []) (fun j=>m≤j∧j≤b) (fun j=>j - m) b ⟨by omega,by omega⟩ sB mS ?_
   rintro j ⟨hj1,hj2⟩
   by_cases hlt:m<j
   ·
    obtain ⟨z,hz,hc⟩:=hL.cmp (i:=a) (j:=(m+j) / 2) (by omega) (by omega)
    have r1:=hrl.elem dA ((m+j) / 2) (by omega)
    have r2:=hrl.elem dA a (by omega)
    generalize L[(m+j) / 2]'(by omega)=p at r1 hc
    generalize L[a]'(by omega)=q at r2 hc
    repeat' (first|(apply ak;exact rfl;apply zJ (a:=m+j);exact rfl;(simp only [maxLen];omega))|(apply ak;exact rfl;apply tU (a:=m+j);exact rfl;exact rfl)|(apply ak;exact rfl;apply zK (a:=(m+j) / 2);exact rfl;(simp only [maxLen];omega))|(apply iw (id:=5);kernel_rfl;kernel_rfl)|(apply aO (d:=43);exact rfl;apply aj (j:=(m+j) / 2);exact rfl;exact rfl;omega)|(apply aO (d:=47);exact rfl;apply aj (j:=a);exact rfl;exact rfl;omega)|(apply aO (d:=44);exact rfl;apply aP (xs:=dK p);exact rfl;exact r1;exact rfl)|(apply aO (d:=48);exact rfl;apply aP (xs:=dK q);exact rfl;exact r2;exact rfl)|(apply jc;exact rfl;exact rfl;infer_instance;exact rfl;(intro w' _;exact hc w'))|refine sT ?_|refine sS ?_|refine sQ ?_|refine sN ?_|refine sNQ ?_|refine sD ?_|refine sM fun _=> ?_|(refine sC ?_ ?_<;>intro hb<;>try omega)|(refine sCQ ?_ ?_<;>intro hb<;>try omega)|fail)
    all_goals first
     |(exfalso;omega)
     |(refine ⟨(m+j) / 2,⟨by omega,by omega⟩,by omega,by exact sB,by exact sB,by exact mS⟩;done)
     |trace_state
   ·
    have e:j=m:=by omega
    subst e
    repeat' (first|refine sT ?_|refine sS ?_|refine sN ?_|refine sM fun _=> ?_|(refine sC ?_ ?_<;>intro hb<;>try omega)|fail)
    all_goals try (exfalso;omega)
    refine ay [0,1,2,3,4,10] rfl (fun _:Unit=> [(13,.int .i64 (a:Int))]) (fun _=> []) (fun _=>True) (fun _=>0) () trivial sB mS ?_
    rintro _ _
    repeat' (first|refine sT ?_|refine sS ?_|refine sN ?_|refine sM fun _=> ?_|(refine sC ?_ ?_<;>intro hb<;>try omega)|fail)
    all_goals first
     |(exfalso;omega)
     |(exact fL eIO rfl (MSub.nil _) rfl)
     |trace_state
  by_cases c2:b - m=1
  ·
   repeat' (first|refine sT ?_|refine sS ?_|refine sN ?_|refine sM fun _=> ?_|(refine sC ?_ ?_<;>intro hb<;>try omega)|fail)
   all_goals try (exfalso;omega)
   refine ay [0,1,2,3,4,15] rfl (fun i:Nat=> [(14,.int .i64 (i:Int))]) (fun _=> []) (fun i=>a≤i∧i≤m) (fun i=>m - i) a ⟨by omega,by omega⟩ sB mS ?_
   rintro i ⟨hi1,hi2⟩
   by_cases hlt:i<m
   ·
    obtain ⟨z,hz,hc⟩:=hL.cmp (i:=(i+m) / 2) (j:=m) (by omega) (by omega)
    have r1:=hrl.elem dA m (by omega)
    have r2:=hrl.elem dA ((i+m) / 2) (by omega)
    generalize L[m]'(by omega)=p at r1 hc
    generalize L[(i+m) / 2]'(by omega)=q at r2 hc
    repeat' (first|(apply ak;exact rfl;apply zJ (a:=i+m);exact rfl;(simp only [maxLen];omega))|(apply ak;exact rfl;apply tU (a:=i+m);exact rfl;exact rfl)|(apply ak;exact rfl;apply zK (a:=(i+m) / 2);exact rfl;(simp only [maxLen];omega))|(apply iw (id:=17);kernel_rfl;kernel_rfl)|(apply aO (d:=95);exact rfl;apply aj (j:=m);exact rfl;exact rfl;omega)|(apply aO (d:=99);exact rfl;apply aj (j:=(i+m) / 2);exact rfl;exact rfl;omega)|(apply aO (d:=96);exact rfl;apply aP (xs:=dK p);exact rfl;exact r1;exact rfl)|(apply aO (d:=100);exact rfl;apply aP (xs:=dK q);exact rfl;exact r2;exact rfl)|(apply jc;exact rfl;exact rfl;infer_instance;exact rfl;(intro w' _;exact hc w'))|refine sT ?_|refine sS ?_|refine sQ ?_|refine sN ?_|refine sNQ ?_|refine sD ?_|refine sM fun _=> ?_|(refine sC ?_ ?_<;>intro hb<;>try omega)|(refine sCQ ?_ ?_<;>intro hb<;>try omega)|fail)
    all_goals first
     |(exfalso;simp at hb;omega)
     |(exfalso;omega)
     |(refine ⟨(i+m) / 2+1,⟨by omega,by omega⟩,by omega,by exact sB,by exact sB,by exact mS⟩;done)
     |trace_state
   ·
    have e:i=m:=by omega
    subst e
    repeat' (first|refine sT ?_|refine sS ?_|refine sN ?_|refine sM fun _=> ?_|(refine sC ?_ ?_<;>intro hb<;>try omega)|fail)
    all_goals try (exfalso;omega)
    refine ay [0,1,2,3,4,14] rfl (fun _:Unit=> [(17,.int .i64 (i:Int))]) (fun _=> []) (fun _=>True) (fun _=>0) () trivial sB mS ?_
    rintro _ _
    repeat' (first|refine sT ?_|refine sS ?_|refine sN ?_|refine sM fun _=> ?_|(refine sC ?_ ?_<;>intro hb<;>try omega)|fail)
    all_goals first
     |(exfalso;omega)
     |(exact fL eIO rfl (MSub.nil _) rfl)
     |trace_state
  obtain ⟨d,hd⟩: ∃ d,d=(a+b) / 2:=⟨_,rfl⟩
  by_cases c3:d<m
  ·
   repeat' (first|(apply ak (d:=132);exact rfl;apply zJ (a:=a+b);exact rfl;(simp only [maxLen];omega))|(apply ak (d:=133);exact rfl;apply tU (a:=a+b);exact rfl;exact rfl)|(apply ak (d:=134);exact rfl;(rw [← hd];apply zK (a:=d));exact rfl;(simp only [maxLen];omega))|refine sT ?_|refine sS ?_|refine sN ?_|refine sM fun _=> ?_|(refine sC ?_ ?_<;>intro hb<;>try omega)|fail)
   all_goals try (exfalso;omega)
   refine ay [0,1,2,3,4,18,19,21,22] rfl (fun st:Nat=> [(20,.int .i64 (st:Int))]) (fun _=> []) (fun st=>d+m - b≤st∧st≤d) (fun st=>d - st) (d+m - b) ⟨by omega,by omega⟩ sB mS ?_
   rintro st ⟨hs1,hs2⟩
   by_cases hlt:st<d
   ·
    obtain ⟨z,hz,hc⟩:=hL.cmp (i:=(st+d) / 2) (j:=d+m - 1 - (st+d) / 2) (by omega) (by omega)
    have r1:=hrl.elem dA (d+m - 1 - (st+d) / 2) (by omega)
    have r2:=hrl.elem dA ((st+d) / 2) (by omega)
    generalize L[d+m - 1 - (st+d) / 2]'(by omega)=p at r1 hc
    generalize L[(st+d) / 2]'(by omega)=q at r2 hc
    repeat' (first|(apply ak;exact rfl;apply zJ (a:=st+d);exact rfl;(simp only [maxLen];omega))|(apply ak;exact rfl;apply tU (a:=st+d);exact rfl;exact rfl)|(apply ak;exact rfl;apply zK (a:=(st+d) / 2);exact rfl;(simp only [maxLen];omega))|(apply iw (id:=35);kernel_rfl;kernel_rfl)|(apply aO (d:=163);exact rfl;apply aj (j:=d+m - 1 - (st+d) / 2);exact rfl;exact rfl;omega)|(apply aO (d:=167);exact rfl;apply aj (j:=(st+d) / 2);exact rfl;exact rfl;omega)|(apply aO (d:=164);exact rfl;apply aP (xs:=dK p);exact rfl;exact r1;exact rfl)|(apply aO (d:=168);exact rfl;apply aP (xs:=dK q);exact rfl;exact r2;exact rfl)|(apply jc;exact rfl;exact rfl;infer_instance;exact rfl;(intro w' _;exact hc w'))|refine sT ?_|refine sS ?_|refine sQ ?_|refine sN ?_|refine sNQ ?_|refine sD ?_|refine sM fun _=> ?_|(refine sC ?_ ?_<;>intro hb<;>try omega)|(refine sCQ ?_ ?_<;>intro hb<;>try omega)|fail)
    all_goals first
     |(exfalso;simp at hb;omega)
     |(exfalso;omega)
     |(refine ⟨(st+d) / 2+1,⟨by omega,by omega⟩,by omega,by exact sB,by exact sB,by exact mS⟩;done)
     |trace_state
   ·
    have e:st=d:=by omega
    subst e
    repeat' (first|(apply ak (d:=177);exact rfl;apply lT (a:=st+m) (b:=st);exact rfl;exact rfl;omega;(simp only [maxLen];omega))|(apply aa (f:=214);exact rfl;exact rfl;(intro w2 hm2;(first|exact IH st (st+m - st) b (by omega) (by omega) (by omega) h3 w2 _ hm2)))|refine sT ?_|refine sS ?_|refine sN ?_|refine sM fun _=> ?_|(refine sC ?_ ?_<;>intro hb<;>try omega)|fail)
    all_goals first
     |(exfalso;omega)
     |(exact fL eIO rfl (MSub.nil _) rfl)
     |trace_state
  ·
   repeat' (first|(apply ak (d:=132);exact rfl;apply zJ (a:=a+b);exact rfl;(simp only [maxLen];omega))|(apply ak (d:=133);exact rfl;apply tU (a:=a+b);exact rfl;exact rfl)|(apply ak (d:=134);exact rfl;(rw [← hd];apply zK (a:=d));exact rfl;(simp only [maxLen];omega))|refine sT ?_|refine sS ?_|refine sN ?_|refine sM fun _=> ?_|(refine sC ?_ ?_<;>intro hb<;>try omega)|fail)
   all_goals try (exfalso;omega)
   refine ay [0,1,2,3,4,18,19,21,22] rfl (fun st:Nat=> [(20,.int .i64 (st:Int))]) (fun _=> []) (fun st=>a≤st∧st≤m) (fun st=>m - st) a ⟨by omega,by omega⟩ sB mS ?_
   rintro st ⟨hs1,hs2⟩
   by_cases hlt:st<m
   ·
    obtain ⟨z,hz,hc⟩:=hL.cmp (i:=(st+m) / 2) (j:=d+m - 1 - (st+m) / 2) (by omega) (by omega)
    have r1:=hrl.elem dA (d+m - 1 - (st+m) / 2) (by omega)
    have r2:=hrl.elem dA ((st+m) / 2) (by omega)
    generalize L[d+m - 1 - (st+m) / 2]'(by omega)=p at r1 hc
    generalize L[(st+m) / 2]'(by omega)=q at r2 hc
    repeat' (first|(apply ak;exact rfl;apply zJ (a:=st+m);exact rfl;(simp only [maxLen];omega))|(apply ak;exact rfl;apply tU (a:=st+m);exact rfl;exact rfl)|(apply ak;exact rfl;apply zK (a:=(st+m) / 2);exact rfl;(simp only [maxLen];omega))|(apply iw (id:=35);kernel_rfl;kernel_rfl)|(apply aO (d:=163);exact rfl;apply aj (j:=d+m - 1 - (st+m) / 2);exact rfl;exact rfl;omega)|(apply aO (d:=167);exact rfl;apply aj (j:=(st+m) / 2);exact rfl;exact rfl;omega)|(apply aO (d:=164);exact rfl;apply aP (xs:=dK p);exact rfl;exact r1;exact rfl)|(apply aO (d:=168);exact rfl;apply aP (xs:=dK q);exact rfl;exact r2;exact rfl)|(apply jc;exact rfl;exact rfl;infer_instance;exact rfl;(intro w' _;exact hc w'))|refine sT ?_|refine sS ?_|refine sQ ?_|refine sN ?_|refine sNQ ?_|refine sD ?_|refine sM fun _=> ?_|(refine sC ?_ ?_<;>intro hb<;>try omega)|(refine sCQ ?_ ?_<;>intro hb<;>try omega)|fail)
    all_goals first
     |(exfalso;simp at hb;omega)
     |(exfalso;omega)
     |(refine ⟨(st+m) / 2+1,⟨by omega,by omega⟩,by omega,by exact sB,by exact sB,by exact mS⟩;done)
     |trace_state
   ·
    have e:st=m:=by omega
    subst e
    by_cases c4:st<d
    ·
     repeat' (first|(apply ak (d:=177);exact rfl;apply lT (a:=d+st) (b:=st);exact rfl;exact rfl;omega;(simp only [maxLen];omega))|(apply aa (f:=214);exact rfl;exact rfl;(intro w2 hm2;exact IH a st d (by omega) (by omega) (by omega) (by omega) w2 _ hm2))|refine sT ?_|refine sS ?_|refine sN ?_|refine sM fun _=> ?_|(refine sC ?_ ?_<;>intro hb<;>try omega)|fail)
     all_goals first
      |(exfalso;omega)
      |(exact fL eIO rfl (MSub.nil _) rfl)
      |trace_state
    ·
     repeat' (first|(apply ak (d:=177);exact rfl;apply lT (a:=d+st) (b:=st);exact rfl;exact rfl;omega;(simp only [maxLen];omega))|refine sT ?_|refine sS ?_|refine sN ?_|refine sM fun _=> ?_|(refine sC ?_ ?_<;>intro hb<;>try omega)|fail)
     all_goals first
      |(exfalso;omega)
      |(exact fL eIO rfl (MSub.nil _) rfl)
      |trace_state
set_option maxHeartbeats 16000000 in
theorem GM (L:List Pz) (hL:InZ L) (lv:Value) (w:World) (hl:Reads w lv L.length (L.flatMap dK)):
  aD Tryz.prog 167 [lv,.int .i64 (L.length:Int),Qe] w (.tuple #[]):=by
 have hI:=fun (a b:Nat) (h1:b≤L.length) (h2:a≤L.length) (w2:World) (H2:List Blk) (hm:Mem w w2 H2)=>PU L hL lv w2 (hl.of_w0 hm) a b h1 h2
 have hM:=fun (a m b:Nat) (h1:a<m) (h2:m<b) (h3:b≤L.length) (w2:World) (H2:List Blk) (hm:Mem w w2 H2)=>Jl L hL lv w hl (b - a) a m b (TQ _) h1 h2 h3 w2 ⟨H2,hm⟩
 obtain ⟨Al,cl,rfl,hl1,hl2,hl3⟩:=hl
 refine ax Tryz.func167 rfl Tryz.ntmps167 rfl ?_
 have hlen:=hL.len
 repeat' (first|refine sT ?_|refine sS ?_|refine sN ?_|refine sM fun _=> ?_|(refine sC ?_ ?_<;>intro hb<;>try omega)|fail)
 refine ay [0,1,2,6] rfl (fun a:Nat=> [(7,.int .i64 (a:Int)),(8,.int .i64 ((a+20:Nat):Int))]) (fun _=> []) (fun a=>a≤L.length) (fun a=>L.length - a) 0 (TW _) sB mS ?_
 rintro a ha
 by_cases hlt:a+20≤L.length
 ·
  repeat' (first|(apply aa (f:=213);exact rfl;exact rfl;(intro w2 hm2;exact hI a (a+20) hlt (by omega) w2 _ hm2))|(apply ak (d:=22);exact rfl;apply dP (a:=a+20) (b:=20);exact rfl;exact rfl;(simp only [maxLen];omega))|refine sT ?_|refine sS ?_|refine sN ?_|refine sM fun _=> ?_|(refine sC ?_ ?_<;>intro hb<;>try omega)|fail)
  all_goals first
   |(exfalso;omega)
   |(refine ⟨a+20,hlt,by omega,by exact sB,by exact sB,by exact mS⟩;done)
   |trace_state
 ·
  repeat' (first|(apply aa (f:=213);exact rfl;exact rfl;(intro w2 hm2;exact hI a L.length (TQ _) ha w2 _ hm2))|refine sT ?_|refine sS ?_|refine sN ?_|refine sM fun _=> ?_|(refine sC ?_ ?_<;>intro hb<;>try omega)|fail)
  all_goals try (exfalso;omega)
  refine ay [0,1,2] rfl (fun s:Nat=> [(6,.int .i64 (s:Int))]) (fun _=> []) (fun s=>20≤s∧s≤2*L.length+20) (fun s=>2*L.length+20 - s) 20 ⟨by omega,by omega⟩ sB mS ?_
  rintro s ⟨hs1,hs2⟩
  by_cases hsl:s<L.length
  ·
   repeat' (first|(apply ak (d:=32);exact rfl;apply BH (a:=2) (b:=s);exact rfl;exact rfl;(simp only [maxLen];omega))|refine sT ?_|refine sS ?_|refine sN ?_|refine sM fun _=> ?_|(refine sC ?_ ?_<;>intro hb<;>try omega)|fail)
   all_goals try (exfalso;omega)
   refine ay [0,1,2,6] rfl (fun a:Nat=> [(7,.int .i64 (a:Int)),(8,.int .i64 ((a+2*s:Nat):Int))]) (fun _=> []) (fun a=>a≤L.length) (fun a=>L.length - a) 0 (TW _) (by rw [Uc];exact sB) mS ?_
   rintro a ha
   by_cases hla:a+2*s≤L.length
   ·
    repeat' (first|(apply ak (d:=40);exact rfl;apply dP (a:=a) (b:=s);exact rfl;exact rfl;(simp only [maxLen];omega))|(apply aa (f:=214);exact rfl;exact rfl;(intro w2 hm2;exact hM a (a+s) (a+2*s) (by omega) (by omega) hla w2 _ hm2))|(apply ak (d:=47);exact rfl;apply BH (a:=2) (b:=s);exact rfl;exact rfl;(simp only [maxLen];omega))|(apply ak (d:=48);exact rfl;apply dP (a:=a+2*s) (b:=2*s);exact rfl;exact rfl;(simp only [maxLen];omega))|refine sT ?_|refine sS ?_|refine sN ?_|refine sM fun _=> ?_|(refine sC ?_ ?_<;>intro hb<;>try omega)|fail)
    all_goals first
     |(exfalso;omega)
     |(refine ⟨a+2*s,hla,by omega,by exact sB,by exact sB,by exact mS⟩;done)
     |trace_state
   ·
    by_cases hlm:a+s<L.length
    ·
     repeat' (first|(apply ak (d:=51);exact rfl;apply dP (a:=a) (b:=s);exact rfl;exact rfl;(simp only [maxLen];omega))|(apply aa (f:=214);exact rfl;exact rfl;(intro w2 hm2;exact hM a (a+s) L.length (by omega) hlm (TQ _) w2 _ hm2))|(apply ak (d:=62);exact rfl;apply BH (a:=s) (b:=2);exact rfl;exact rfl;(simp only [maxLen];omega))|refine sT ?_|refine sS ?_|refine sN ?_|refine sM fun _=> ?_|(refine sC ?_ ?_<;>intro hb<;>try omega)|fail)
     all_goals first
      |(exfalso;omega)
      |(refine ⟨s*2,⟨by omega,by omega⟩,by omega,by exact sB,by exact sB,by exact mS⟩;done)
      |trace_state
    ·
     repeat' (first|(apply ak (d:=51);exact rfl;apply dP (a:=a) (b:=s);exact rfl;exact rfl;(simp only [maxLen];omega))|(apply ak (d:=62);exact rfl;apply BH (a:=s) (b:=2);exact rfl;exact rfl;(simp only [maxLen];omega))|refine sT ?_|refine sS ?_|refine sN ?_|refine sM fun _=> ?_|(refine sC ?_ ?_<;>intro hb<;>try omega)|fail)
     all_goals first
      |(exfalso;omega)
      |(refine ⟨s*2,⟨by omega,by omega⟩,by omega,by exact sB,by exact sB,by exact mS⟩;done)
      |trace_state
  ·
   repeat' (first|refine sT ?_|refine sS ?_|refine sM fun _=> ?_|(refine sC ?_ ?_<;>intro hb<;>try omega)|fail)
   all_goals first
    |(exfalso;omega)
    |(exact fL eIO rfl (MSub.nil _) rfl)
    |trace_state
theorem zg (L:List Pz) (hL:InZ L) (lv:Value) (w:World) (hl:Reads w lv L.length (L.flatMap dK)):
  aD Tryz.prog 133 [lv,Qe] w (.tuple #[]):=by
 have hS:=fun (w2:World) (H2:List Blk) (hm:Mem w w2 H2)=>GM L hL lv w2 (hl.of_w0 hm)
 obtain ⟨Al,cl,rfl,hl1,hl2,hl3⟩:=hl
 refine ax Tryz.func133 rfl Tryz.ntmps133 rfl ?_
 repeat' (first|(apply aa (f:=167);exact rfl;exact rfl;(intro w2 hm2;exact hS w2 _ hm2))|refine sT ?_|refine sM fun _=> ?_|(refine sC ?_ ?_<;>intro hb<;>try omega)|fail)
 exact fL eIO rfl (MSub.nil _) rfl
--
theorem NU {l m:List Pz} {p:Pz} (hm:m≠ []):l++kY m p=kY (l++m) p:=by
 have e:=Vm hm
 generalize hd:m.dropLast=d at e
 generalize m.getLast hm=q at e
 subst e
 unfold kY
 rw [← TY,List.getLast?_concat,List.getLast?_concat]
 dsimp only
 rw [Wp,Wp]
 split<;>simp
theorem AL {O:List Pz} {q p:Pz}:kY (O++ [q]) p=if q.a=p.a∧q.b=p.b then O++ [⟨⟨q.rect.c1,q.rect.r1,p.rect.c2,q.rect.r2⟩,q.a,q.b⟩] else O++ [q]++ [p]:=by
 unfold kY
 rw [List.getLast?_concat]
 dsimp only
 rw [Wp]
theorem Jr {A B:List Rl} {y:Int × Int} (xs:List (Int × Int)):(kP A B y xs).length≤xs.length:=by
 induction xs using wB with
 |h0=>exact TQ _
 |h1 xs x ih=>
  rw [mA,TG,TH]
  generalize kP A B y xs=l at ih
  unfold kY
  cases h:l.getLast? with
  |none=>simp
  |some q=>
   dsimp only
   split
   ·
    rw [TG,List.length_dropLast,TH];omega
   ·
    rw [TG,TH];omega
theorem Ec {A B:List Rl} {y:Int × Int}:kP A B y []= []:=rfl
def jQ (A B:List Rl) (ys xs:List (Int × Int)):List Pz:=ys.flatMap fun y=>kP A B y xs
theorem Ea {A B:List Rl} {ys xs:List (Int × Int)} {y:Int × Int}:jQ A B (ys++ [y]) xs=jQ A B ys xs++kP A B y xs:=by unfold jQ;simp
theorem nu {A B:List Rl} {xs:List (Int × Int)}: ∀ ys:List (Int × Int),(jQ A B ys xs).length≤ys.length*xs.length
 | []=>by simp [jQ]
 |y::ys=>by
  have h1:=nu (A:=A) (B:=B) (xs:=xs) ys
  have h2:=Jr (A:=A) (B:=B) (y:=y) xs
  unfold jQ at h1 ⊢
  rw [T9,TG,TZ,Nat.succ_mul]
  omega
theorem RI {A B:List Rl} {y:Int × Int} (xs:List (Int × Int)): ∀ q∈kP A B y xs,q.rect.r1=y.1∧ ∃ x∈xs,q.rect.c1=x.1:=by
 induction xs using wB with
 |h0=>intro q hq;cases hq
 |h1 xs x ih=>
  intro q hq
  rw [mA] at hq
  by_cases hn:kP A B y xs= []
  ·
   rw [hn] at hq
   have:q=o6 A B y x:=by simpa [kY] using hq
   subst this
   exact ⟨rfl,x,by simp,rfl⟩
  ·
   have e:=Vm hn
   generalize (kP A B y xs).dropLast=d at e
   generalize (kP A B y xs).getLast hn=z at e
   rw [← e] at hq ih
   rw [AL] at hq
   have hz:=ih z (by simp)
   split at hq
   ·
    rcases Ub.1 hq with hq|hq
    ·
     obtain ⟨h1,x',h2,h3⟩:=ih q (by simp [hq])
     exact ⟨h1,x',by simp [h2],h3⟩
    ·
     rw [TX.1 hq]
     obtain ⟨h1,x',h2,h3⟩:=hz
     exact ⟨h1,x',by simp [h2],h3⟩
   ·
    rcases Ub.1 hq with hq|hq
    ·
     obtain ⟨h1,x',h2,h3⟩:=ih q hq
     exact ⟨h1,x',by simp [h2],h3⟩
    ·
     rw [TX.1 hq]
     exact ⟨rfl,x,by simp,rfl⟩
theorem EG {r:Rct} {A B:List Rl} (hrs:1≤r.c1∧r.c1≤r.c2∧r.c2≤1024∧1≤r.r1∧r.r1≤r.r2∧r.r2≤1024): ∀ p∈eK r A B,xx p:=fun p hp=>by
 obtain ⟨y,hy,hp⟩:=UM.1 hp
 obtain ⟨h1,x,hx,h2⟩:=RI _ p hp
 have h3:=fK hy
 have h4:=fK hx
 unfold xx
 omega
set_option maxHeartbeats 16000000 in
theorem M6 (r:Rct) (hr:aH r=true) (A B:List Rl) (la lb:Value) (w:World) (hla:Reads w la A.length (A.flatMap bM)) (hlb:Reads w lb B.length (B.flatMap bM)) (hA:A.length≤200) (hB:B.length≤200):
    FnAt Tryz.prog 82 [.agg (aN r).toArray,la,lb] w fun v H=> ∃ Ap cap,v=sl Ap (eK r A B).length cap∧H= [.own Ap 145 6 (eK r A B).length cap ((eK r A B).flatMap dK)]:=by
  refine ax Tryz.func82 rfl Tryz.ntmps82 rfl ?_
  have hrs:=fA.1 hr
  have hZ:InZ (eK r A B):=by
    refine ⟨Cb r A B,EG hrs,?_⟩
    have h1:=nu (A:=A) (B:=B) (xs:=cX r.c1 r.c2 (bg r A++bg r B)) (cX r.r1 r.r2 (bf r A++bf r B))
    have h2:=jw r.c1 r.c2 (bg r A++bg r B)
    have h3:=jw r.r1 r.r2 (bf r A++bf r B)
    have h4:=fG r A
    have h5:=fG r B
    have h6:=fw r A
    have h7:=fw r B
    rw [TG] at h2 h3
    refine Uo h1 (Uo (Nat.mul_le_mul (show _≤801 by omega) (show _≤801 by omega)) (by decide))
  have hnA:=fun (gr gc gw:Nat)=>JB r A la gr gc gw none none 0 0 [] [] [] w hla (by simp;omega) (by simp;omega)
  have hnB:=fun (gr gc gw:Nat) (A1 A2:Option Nat) (c1 c2:Nat)=>JB r B lb gr gc gw A1 A2 c1 c2 (bg r A) (bf r A) [] w hlb (by have:=fG r A;omega) (by have:=fw r A;omega)
  have hcl:(bg r A++bg r B).length≤400:=by have:=fG r A;have:=fG r B;rw [TG];omega
  have hwl:(bf r A++bf r B).length≤400:=by have:=fw r A;have:=fw r B;rw [TG];omega
  have hcs: ∀ p∈bg r A++bg r B,0≤p.1∧p.1≤100000∧0≤p.2∧p.2≤100000:=fun p hp=>(Ub.1 hp).elim (tG p) (tG p)
  have hws: ∀ p∈bf r A++bf r B,0≤p.1∧p.1≤100000∧0≤p.2∧p.2≤100000:=fun p hp=>(Ub.1 hp).elim (sA p) (sA p)
  have hb1:=fun (w' :World) (lv:Value) (h:Reads w' lv _ _)=>FN r.c1 r.c2 (bg r A++bg r B) lv w' h (by omega) (by omega) (by omega) hcs
  have hb2:=fun (w' :World) (lv:Value) (h:Reads w' lv _ _)=>FN r.r1 r.r2 (bf r A++bf r B) lv w' h (by omega) (by omega) (by omega) hws
  have hxl:=jw r.c1 r.c2 (bg r A++bg r B)
  have hyl:=jw r.r1 r.r2 (bf r A++bf r B)
  have hpf:eK r A B=jQ A B (cX r.r1 r.r2 (bf r A++bf r B)) (cX r.c1 r.c2 (bg r A++bg r B)):=rfl
  generalize eK r A B=PZ at hZ hpf ⊢
  generalize hX:cX r.c1 r.c2 (bg r A++bg r B)=xB at hb1 hxl hpf
  generalize hY:cX r.r1 r.r2 (bf r A++bf r B)=yB at hb2 hyl hpf
  generalize hCO:bg r A++bg r B=CO at hb1 hcl hxl
  generalize hRO:bf r A++bf r B=RO at hb2 hwl hyl
  refine aW 143 2 ?_
  refine aW 143 2 ?_
  repeat' (first|(apply ma (d:=21);exact rfl;exact rfl;infer_instance;exact rfl;exact FnIn.msub (hnA _ _ _) (by simp only [vp,TT,TK,TL];exact mS);rintro _ _ ⟨rfl,A1,c1,A2,c2,rfl⟩)|(apply ma (d:=24);exact rfl;exact rfl;infer_instance;exact rfl;exact FnIn.msub (hnB _ _ _ A1 A2 c1 c2) (by simp only [vp,TT,TK,TL];exact mS);rintro _ _ ⟨rfl,A3,c3,A4,c4,rfl⟩)|refine sT ?_|refine sS ?_|refine sT2 ?_|refine sM fun _=> ?_|(refine sC ?_ ?_<;>intro hb<;>try omega)|exact cT|fail)
  rename_i g3 g7 g8
  rw [hCO,hRO]
  simp only [vp,TT,TK,TL]
  refine q9 (fun _:Option Nat × Nat × Option Nat × Nat=> [(1,la),(2,lb),(3,.pointer (some ⟨g3,0,none⟩)),(7,.pointer (some ⟨g7,0,none⟩)),(8,.pointer (some ⟨g8,0,none⟩))]) (fun y=> .box g7 210 [sl y.1 xB.length y.2.1]:: .own y.1 143 2 xB.length y.2.1 (xB.flatMap dL):: .box g8 210 [sl y.2.2.1 yB.length y.2.2.2]:: .own y.2.2.1 143 2 yB.length y.2.2.2 (yB.flatMap dL):: []) (fun _=>True) ?_ ?_
  · refine ll (id:=5) [4,5,10,11,12,13] [.box g3 33 (aN r)] 14 rfl rfl mS ?_
    repeat' (first|(apply bY (i:=0);(iterate 4 exact rfl);decide+kernel;decide+kernel;decide+kernel;(exact vC))|(apply bY (i:=1);(iterate 4 exact rfl);decide+kernel;decide+kernel;decide+kernel;(exact vC))|(apply bY (i:=2);(iterate 4 exact rfl);decide+kernel;decide+kernel;decide+kernel;(exact vC))|(apply bY (i:=3);(iterate 4 exact rfl);decide+kernel;decide+kernel;decide+kernel;(exact vC))|(apply bY (i:=6);(iterate 4 exact rfl);decide+kernel;decide+kernel;decide+kernel;(exact vC))|(apply bY (i:=7);(iterate 4 exact rfl);decide+kernel;decide+kernel;decide+kernel;(exact vC))|(apply bY (i:=8);(iterate 4 exact rfl);decide+kernel;decide+kernel;decide+kernel;(exact vC))|(apply bY (i:=9);(iterate 4 exact rfl);decide+kernel;decide+kernel;decide+kernel;(exact vC))|(apply iq (i:=4) (j:=10);(iterate 6 exact rfl);decide+kernel)|(apply iq (i:=5) (j:=10);(iterate 6 exact rfl);decide+kernel)|(apply iq (i:=12) (j:=13);(iterate 6 exact rfl);decide+kernel)|(apply cG (i:=4);(iterate 3 exact rfl);decide+kernel)|(apply cG (i:=5);(iterate 3 exact rfl);decide+kernel)|(apply cG (i:=10);(iterate 3 exact rfl);decide+kernel)|(apply cG (i:=11);(iterate 3 exact rfl);decide+kernel)|(apply cG (i:=12);(iterate 3 exact rfl);decide+kernel)|(apply cG (i:=13);(iterate 3 exact rfl);decide+kernel)|(apply aF (d:=30);exact rfl;exact rfl;(intro w' hm;exact hb1 w' _ (Reads.of_own (A:=A3) hm pK));rintro _ _ ⟨A5,c5,rfl,rfl⟩)|(apply aF (d:=36);exact rfl;exact rfl;(intro w' hm;exact hb2 w' _ (Reads.of_own (A:=A4) hm pK));rintro _ _ ⟨A6,c6,rfl,rfl⟩)|(apply lj;decide+kernel)|(apply CN;(focus (exact mS;done)))|refine sT ?_|refine sS ?_|refine sT2 ?_|refine sM fun _=> ?_|(refine sC ?_ ?_<;>intro hb<;>try omega)|exact cT|fail)
    all_goals first
      |(exfalso;omega)
      |(exact cO (A5,c5,A6,c6) trivial sB mS)
      |trace_state
  rintro ⟨A5,c5,A6,c6⟩ _
  dsimp only
  clear hnA hnB hb1 hb2 hX hY hCO hRO
  refine aW 145 6 ?_
  repeat' (first|refine sT ?_|refine sS ?_|refine sT2 ?_|refine sM fun _=> ?_|(refine sC ?_ ?_<;>intro hb<;>try omega)|exact cT|fail)
  refine ay [1,2,7,37,38] rfl (fun y:Nat × Option Nat × Nat=> [(10,sl y.2.1 (jQ A B (yB.take y.1) xB).length y.2.2),(39,.int .i64 (y.1:Int))]) (fun y=> .own y.2.1 145 6 (jQ A B (yB.take y.1) xB).length y.2.2 ((jQ A B (yB.take y.1) xB).flatMap dK):: .box g7 210 [sl A5 xB.length c5]:: .own A5 143 2 xB.length c5 (xB.flatMap dL):: .own A6 143 2 yB.length c6 (yB.flatMap dL):: []) (fun y=>y.1≤yB.length) (fun y=>yB.length - y.1) (0,none,0) (TW _) sB mS ?_
  rintro ⟨j,Ao,co⟩ hj
  dsimp only at hj ⊢
  by_cases hjl:j<yB.length
  · refine bK (A:=A6) pK (by omega) fun g6 hA6=> ?_
    subst hA6
    have hrd:((yB.flatMap dL).drop (0+j*2)).take 2=dL yB[j]:=by rw [Uc];exact cf kI yB j hjl
    have hsn:=Ea (A:=A) (B:=B) (ys:=yB.take j) (xs:=xB) (y:=yB[j])
    rw [← TP hjl] at hsn
    have hpl:(jQ A B (yB.take j) xB).length≤700000:=by
      have h1:=nu (A:=A) (B:=B) (xs:=xB) (yB.take j)
      refine Uo h1 (Uo (Nat.mul_le_mul (show _≤801 by rw [Ue];omega) (show _≤801 by omega)) (by decide))
    generalize yB[j]=y at hrd hsn
    generalize jQ A B (yB.take j) xB=prev at hsn hpl ⊢
    repeat' (first|(apply ak (d:=41);exact rfl;apply aj (j:=j);exact rfl;exact rfl;exact hjl)|(apply ak (d:=42);exact rfl;apply aA (ys:=dL y);exact rfl;exact pK;exact hrd;exact rfl)|refine sT ?_|refine sS ?_|refine sT2 ?_|refine sN ?_|refine sM fun _=> ?_|(refine sC ?_ ?_<;>intro hb<;>try omega)|exact cT|fail)
    all_goals try (exfalso;omega)
    rename_i g12
    refine ay [1,2,7,12,13,37,38,39,45,46] rfl (fun z:Nat × Option Nat × Nat=> [(10,sl z.2.1 (prev++kP A B y (xB.take z.1)).length z.2.2),(47,.int .i64 (z.1:Int))]) (fun z=> .own z.2.1 145 6 (prev++kP A B y (xB.take z.1)).length z.2.2 ((prev++kP A B y (xB.take z.1)).flatMap dK):: .box g12 143 (dL y):: .box g7 210 [sl A5 xB.length c5]:: .own A5 143 2 xB.length c5 (xB.flatMap dL):: .own (some g6) 143 2 yB.length c6 (yB.flatMap dL):: []) (fun z=>z.1≤xB.length) (fun z=>xB.length - z.1) (0,Ao,co) (TW _) (by rw [U7,Ec,TR];exact sB) (by rw [U7,Ec,TR];exact mS) ?_
    rintro ⟨k,Az,cz⟩ hk
    dsimp only at hk ⊢
    by_cases hkl:k<xB.length
    · refine bK (A:=A5) pK (by omega) fun g5 hA5=> ?_
      subst hA5
      have hrx:((xB.flatMap dL).drop (0+k*2)).take 2=dL xB[k]:=by rw [Uc];exact cf kI xB k hkl
      have hrn:=mA (A:=A) (B:=B) (y:=y) (xs:=xB.take k) (x:=xB[k])
      rw [← TP hkl] at hrn
      have hcl2:=Jr (A:=A) (B:=B) (y:=y) (xB.take k)
      rw [Ue] at hcl2
      generalize xB[k]=x at hrx hrn
      have hw1:=fun (w' :World) (H:List Blk) (hm:Mem w w' H)=>Dl (gx y x) A la w' (hla.of_w0 hm) (by omega)
      have hw2:=fun (w' :World) (H:List Blk) (hm:Mem w w' H)=>Dl (gx y x) B lb w' (hlb.of_w0 hm) (by omega)
      have hp:o6 A B y x=⟨gx y x,jd (gx y x) A,jd (gx y x) B⟩:=rfl
      rw [hp] at hrn
      generalize jd (gx y x) A=wa at hw1 hrn
      generalize jd (gx y x) B=wb at hw2 hrn
      clear hp
      repeat' (first|(apply ak (d:=49);exact rfl;apply aj (j:=k);exact rfl;exact rfl;exact hkl)|(apply ak (d:=50);exact rfl;apply aA (ys:=dL x);exact rfl;exact pK;exact hrx;exact rfl)|refine sT ?_|refine sS ?_|refine sT2 ?_|refine sN ?_|refine sM fun _=> ?_|(refine sC ?_ ?_<;>intro hb<;>try omega)|exact cT|fail)
      all_goals try (exfalso;omega)
      rename_i g15 g16
      generalize kP A B y (xB.take k)=cur at hrn hcl2 ⊢
      have hOl:(prev++cur).length≤800000:=by rw [TG];omega
      refine p6 (id:=15) 10 (.box g16 145 (dK ⟨gx y x,wa,wb⟩):: .own Az 145 6 (prev++cur).length cz ((prev++cur).flatMap dK):: .box g12 143 (dL y):: .box g7 210 [sl (some g5) xB.length c5]:: .own (some g5) 143 2 xB.length c5 (xB.flatMap dL):: .own (some g6) 143 2 yB.length c6 (yB.flatMap dL):: []) (by kernel_rfl) (by kernel_rfl) rfl ?_
      repeat' (first|(apply J7 (f' :=132) (f:=60);exact rfl;decide+kernel;exact rfl;exact rfl;(intro w' hm;first|exact hw1 w' _ hm|exact hw2 w' _ hm))|(apply Dn (f:=60) (d:=69);exact rfl;decide+kernel;exact rfl;apply qa;(iterate 5 exact rfl))|(apply oE;exact rfl;exact rfl;exact pK;(iterate 3 exact rfl);exact WN rfl;exact mS)|refine sT ?_|refine sS ?_|refine sT2 ?_|refine sG2 ?_|refine sG ?_|refine sM fun _=> ?_|(refine sC ?_ ?_<;>intro hb<;>try omega)|exact cT|fail)
      all_goals try (exfalso;omega)
      rcases VD cur.length with h0|hpos
      · have hc0:cur= []:=UW.1 h0
        subst hc0
        have hg:kY [] (⟨gx y x,wa,wb⟩:Pz)= [⟨gx y x,wa,wb⟩]:=rfl
        rw [hg] at hrn
        rw [TR] at hOl ⊢
        repeat' (first|(apply iw (id:=17);kernel_rfl;kernel_rfl)|(apply bi (d:=99) (A:=Az) (m:=1);(iterate 3 exact rfl);exact pK;(intro w hm;exact hm.cells_own pK);exact rfl;(simp [Value.oneCell',sl,dK]);omega;(simp only [maxLen];omega);(intro A' cap' hA'))|refine sT ?_|refine sS ?_|refine sQ ?_|refine sT2 ?_|refine sQ2 ?_|refine sN ?_|refine sNQ ?_|refine sD ?_|refine sM fun _=> ?_|(refine sC ?_ ?_<;>intro hb<;>try omega)|(refine sCQ ?_ ?_<;>intro hb<;>try omega)|exact cT|fail)
        all_goals first
          |(exfalso;omega)
          | (refine ⟨(k + 1, A', cap'), hkl, by dsimp only; omega, ?_, by exact sB, ?_⟩
             · dsimp only;rw [hrn,List.length_append];exact sB
             · dsimp only;rw [hrn,List.length_append,List.flatMap_append];exact mS)
          |trace_state
      · have hne:cur≠ []:=UX.1 hpos
        have hga:=NU (l:=prev) (p:=(⟨gx y x,wa,wb⟩:Pz)) hne
        rw [← hrn] at hga
        have hlt2:prev.length<(prev++cur).length:=by rw [TG];omega
        have hOe:=Vm (l:=prev++cur) (by simp [hne])
        generalize (prev++cur).dropLast=O at hOe
        generalize (prev++cur).getLast _=q at hOe
        rw [← hOe] at hga hlt2 hOl ⊢
        rw [AL] at hga
        have hOn:(O++ [q]).length=O.length+1:=by simp
        rw [hOn] at hOl hlt2
        have hq2:(((O++ [q]).flatMap dK).drop (0+O.length*6+4)).take 2=mR (q.a,q.b):=by
          have h1:=cf dA (O++ [q]) O.length (by simp)
          have h2:=congrArg (List.drop 4) h1
          rw [List.drop_take,U0] at h2
          simp only [List.getElem_concat_length] at h2
          rw [Uc]
          exact h2
        refine bK (A:=Az) pK (by omega) fun gz hAz=> ?_
        subst hAz
        obtain ⟨c,hc⟩: ∃ c,decide ((q.a,q.b)=(wa,wb))=c:=⟨_,rfl⟩
        cases c with
        |true=>
          have hab:q.a=wa∧q.b=wb:=by simpa using hc
          rw [if_pos hab] at hga
          have hset:=uI dA (O++ [q]) O.length 2 (by simp) (by decide) (.int .i64 x.2) ⟨⟨q.rect.c1,q.rect.r1,x.2,q.rect.r2⟩,q.a,q.b⟩ (by simp only [List.getElem_concat_length];rfl)
          rw [VL _ _ (TQ _),Nat.sub_self,Ww] at hset
          have hOl3:((O++ [q]).flatMap dK).length=(O.length+1)*6:=by rw [aR dA,hOn]
          rw [hOn]
          repeat' (first|(apply iw (id:=17);kernel_rfl;kernel_rfl)|(apply aO (d:=79);exact rfl;apply di (a:=O.length+1);exact rfl;exact rfl;omega;(simp only [maxLen];omega))|(apply aO (d:=80);exact rfl;apply aj (j:=O.length);exact rfl;exact rfl;omega)|(apply aO (d:=82);exact rfl;apply aA (ys:=mR (q.a,q.b));exact rfl;exact pK;exact hq2;exact rfl)|(apply aO (d:=85);exact rfl;apply Jc (a:=(q.a,q.b)) (b:=(wa,wb)) hc;exact rfl;exact rfl)|(apply ak (d:=89);exact rfl;apply di (a:=O.length+1);exact rfl;exact rfl;omega;(simp only [maxLen];omega))|(apply ak (d:=93);exact rfl;apply aj (j:=O.length);exact rfl;exact rfl;omega)|(apply jZ (v:= .int .i64 x.2) (off:=0+O.length*6+2);exact rfl;exact rfl;exact pK;exact rfl;(rw [hOl3];omega);rw [Uc,hset])|refine sT ?_|refine sS ?_|refine sQ ?_|refine sT2 ?_|refine sQ2 ?_|refine sN ?_|refine sNQ ?_|refine sD ?_|refine sM fun _=> ?_|(refine sC ?_ ?_<;>intro hb<;>try omega)|(refine sCQ ?_ ?_<;>intro hb<;>try omega)|exact cT|fail)
          all_goals first
            |(exfalso;omega)
            | (refine ⟨(k + 1, some gz, cz), hkl, by dsimp only; omega, ?_, by exact sB, ?_⟩
               · dsimp only;rw [hga,List.length_append];exact sB
               · dsimp only;rw [hga,List.length_append];exact mS)
            |trace_state
        |false=>
          have hab: ¬ (q.a=wa∧q.b=wb):=by simpa using hc
          rw [if_neg hab] at hga
          rw [hOn]
          repeat' (first|(apply iw (id:=17);kernel_rfl;kernel_rfl)|(apply aO (d:=79);exact rfl;apply di (a:=O.length+1);exact rfl;exact rfl;omega;(simp only [maxLen];omega))|(apply aO (d:=80);exact rfl;apply aj (j:=O.length);exact rfl;exact rfl;omega)|(apply aO (d:=82);exact rfl;apply aA (ys:=mR (q.a,q.b));exact rfl;exact pK;exact hq2;exact rfl)|(apply aO (d:=85);exact rfl;apply Jc (a:=(q.a,q.b)) (b:=(wa,wb)) hc;exact rfl;exact rfl)|(apply bi (d:=99) (A:=some gz) (m:=1);(iterate 3 exact rfl);exact pK;(intro w hm;exact hm.cells_own pK);exact rfl;(simp [Value.oneCell',sl,dK]);omega;(simp only [maxLen];omega);(intro A' cap' hA'))|refine sT ?_|refine sS ?_|refine sQ ?_|refine sT2 ?_|refine sQ2 ?_|refine sN ?_|refine sNQ ?_|refine sD ?_|refine sM fun _=> ?_|(refine sC ?_ ?_<;>intro hb<;>try omega)|(refine sCQ ?_ ?_<;>intro hb<;>try omega)|exact cT|fail)
          all_goals first
            |(exfalso;omega)
            | (refine ⟨(k + 1, A', cap'), hkl, by dsimp only; omega, ?_, by exact sB, ?_⟩
               · dsimp only;rw [hga,List.length_append,hOn];exact sB
               · dsimp only;rw [hga,List.length_append,hOn,List.flatMap_append (xs:=O++ [q])];exact mS)
            |trace_state
    · have e:k=xB.length:=by omega
      subst e
      rw [Ux,← hsn]
      repeat' (first|refine sT ?_|refine sS ?_|refine sT2 ?_|refine sN ?_|refine sM fun _=> ?_|(refine sC ?_ ?_<;>intro hb<;>try omega)|exact cT|fail)
      all_goals first
        |(exfalso;omega)
        |(refine ⟨(j+1,Az,cz),hjl,by dsimp only;omega,by exact sB,by exact sB,by exact mS⟩;done)
        |trace_state
  · have e:j=yB.length:=by omega
    subst e
    rw [Ux,← hpf]
    have hS:=fun (w' :World) (H:List Blk) (hm:Mem w w' H) (lv:Value) (h:Reads w' lv _ _)=>zg PZ hZ lv w' h
    repeat' (first|(apply aa (d:=103);exact rfl;exact rfl;(intro w' hm;exact hS w' _ hm _ (Reads.of_own (A:=Ao) hm pK)))|refine sT ?_|refine sS ?_|refine sT2 ?_|refine sN ?_|refine sM fun _=> ?_|(refine sC ?_ ?_<;>intro hb<;>try omega)|exact cT|fail)
    all_goals first
      |(exfalso;omega)
      |(exact cA eIO rfl rfl mS ⟨Ao,co,rfl,rfl⟩)
      |trace_state
end Go.SL
namespace Go.SL
open Go Go.RowKit
section
variable {P:Program} {n:Fr} {w0:World} {Q:ck} {s:aB} {H S:List Blk} {l:List Oper} {L:Array Bool} {f:Nat} {ty:TypeId} {p:String} {af:Array Edge} {es:List Nat} {gu:Option (Nat × Bool)}
theorem Dp {i j k:Nat} {op op' op2:Op} {dst dst' dst2:Option Tmp} {ty' ty2:TypeId} {p' p2:String} {af' af2:Array Edge} {gu' gu2:Option (Nat × Bool)} (hi:l[i]? =some ⟨dst,op,ty,p,af,gu⟩) (hj:l[j]? =some ⟨dst',op',ty',p',af',gu'⟩) (hl:l[k]? =some ⟨dst2,op2,ty2,p2,af2,gu2⟩)
  (hg:gok l s gu=some true) (hg' :gok l s gu' =some true) (hg2:gok l s gu2=some true)
  (hk:es.contains i=true) (hk' :es.contains j=true) (hk2:es.contains k=true) (hr:Region.ready .any l.toArray L= [i,j,k])
  (h:WL P n w0 #[] [⟨dst,op,ty,p,af,none⟩] (ceP S (WE P n w0 l S es Q f (L.setIfInBounds i true))) s H)
  (h' :WL P n w0 #[] [⟨dst',op',ty',p',af',none⟩] (ceP S (WE P n w0 l S es Q f (L.setIfInBounds j true))) s H)
  (h2:WL P n w0 #[] [⟨dst2,op2,ty2,p2,af2,none⟩] (ceP S (WE P n w0 l S es Q f (L.setIfInBounds k true))) s H):WE P n w0 l S es Q (f+1) L s H:=by
 intro a w hs hm hS hcl
 refine ⟨hS,fun h0=>(by rw [hr] at h0;cases h0),fun x hx=> ?_⟩
 rw [hr] at hx
 rcases TS.1 hx with e|hx
 ·
  subst e
  exact ⟨_,by simpa using hi,pY hi hg hk (by rw [hr];simp) h a w hs hm hcl⟩
 ·
  rcases TS.1 hx with e|hx
  ·
   subst e
   exact ⟨_,by simpa using hj,pY hj hg' hk' (by rw [hr];simp) h' a w hs hm hcl⟩
  ·
   have e:x=k:=by simpa using hx
   subst e
   exact ⟨_,by simpa using hl,pY hl hg2 hk2 (by rw [hr];simp) h2 a w hs hm hcl⟩
end
end Go.SL
