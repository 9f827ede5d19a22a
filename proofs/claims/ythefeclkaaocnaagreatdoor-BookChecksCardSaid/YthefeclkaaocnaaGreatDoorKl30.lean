/-
  Lemmas and walks, put together: Hg.
-/
import Derived.Test.YthefeclkaaocnaaGreatDoorKl28
set_option linter.unusedSimpArgs false
set_option linter.unusedVariables false
set_option maxRecDepth 20000
namespace Go.SL
open Go Go.Proofs
attribute [local irreducible] W WL WQ WG WA WX WLI WR WT WC WE VOp RW thn blk bS scp bq bF cj aS FnIn FnP ceP
set_option maxHeartbeats 16000000 in
theorem Ai (L:List Pz) (hL:InZ L) (lv:Value) (w:World) (hl:Reads w lv L.length (L.flatMap cU)):
  ay Tryz.prog 167 [lv,.int .i64 (L.length:Int),I8] w (.tuple #[]):=by
 have hI:=fun (a b:Nat) (h1:b≤L.length) (h2:a≤L.length) (w2:World) (H2:List Blk) (hm:Mem w w2 H2)=>IM L hL lv w2 (hl.of_w0 hm) a b h1 h2
 have hM:=fun (a m b:Nat) (h1:a<m) (h2:m<b) (h3:b≤L.length) (w2:World) (H2:List Blk) (hm:Mem w w2 H2)=>Cw L hL lv w hl (b - a) a m b (LK _) h1 h2 h3 w2 ⟨H2,hm⟩
 obtain ⟨Al,cl,rfl,hl1,hl2,hl3⟩:=hl
 refine aq Tryz.func167 rfl Tryz.ntmps167 rfl ?_
 have hlen:=hL.len
 repeat' (first|refine sT ?_|refine sS ?_|refine sN ?_|refine sM fun _=> ?_|(refine sC ?_ ?_<;>intro hb<;>try omega)|fail)
 refine ax [0,1,2,6] rfl (fun a:Nat=> [(7,.int .i64 (a:Int)),(8,.int .i64 ((a+20:Nat):Int))]) (fun _=> []) (fun a=>a≤L.length) (fun a=>L.length - a) 0 (LS _) sB mS ?_
 rintro a ha
 by_cases hlt:a+20≤L.length
 ·
  repeat' (first|(apply aa (f:=213);exact rfl;exact rfl;(intro w2 hm2;exact hI a (a+20) hlt (by omega) w2 _ hm2))|(apply ak (d:=22);exact rfl;apply dc (a:=a+20) (b:=20);exact rfl;exact rfl;(simp only [maxLen];omega))|refine sT ?_|refine sS ?_|refine sN ?_|refine sM fun _=> ?_|(refine sC ?_ ?_<;>intro hb<;>try omega)|fail)
  all_goals first
   |(exfalso;omega)
   |(refine ⟨a+20,hlt,by omega,by exact sB,by exact sB,by exact mS⟩;done)
   |trace_state
 ·
  repeat' (first|(apply aa (f:=213);exact rfl;exact rfl;(intro w2 hm2;exact hI a L.length (LK _) ha w2 _ hm2))|refine sT ?_|refine sS ?_|refine sN ?_|refine sM fun _=> ?_|(refine sC ?_ ?_<;>intro hb<;>try omega)|fail)
  all_goals try (exfalso;omega)
  refine ax [0,1,2] rfl (fun s:Nat=> [(6,.int .i64 (s:Int))]) (fun _=> []) (fun s=>20≤s∧s≤2*L.length+20) (fun s=>2*L.length+20 - s) 20 ⟨by omega,by omega⟩ sB mS ?_
  rintro s ⟨hs1,hs2⟩
  by_cases hsl:s<L.length
  ·
   repeat' (first|(apply ak (d:=32);exact rfl;apply vG (a:=2) (b:=s);exact rfl;exact rfl;(simp only [maxLen];omega))|refine sT ?_|refine sS ?_|refine sN ?_|refine sM fun _=> ?_|(refine sC ?_ ?_<;>intro hb<;>try omega)|fail)
   all_goals try (exfalso;omega)
   refine ax [0,1,2,6] rfl (fun a:Nat=> [(7,.int .i64 (a:Int)),(8,.int .i64 ((a+2*s:Nat):Int))]) (fun _=> []) (fun a=>a≤L.length) (fun a=>L.length - a) 0 (LS _) (by rw [LZ];exact sB) mS ?_
   rintro a ha
   by_cases hla:a+2*s≤L.length
   ·
    repeat' (first|(apply ak (d:=40);exact rfl;apply dc (a:=a) (b:=s);exact rfl;exact rfl;(simp only [maxLen];omega))|(apply aa (f:=214);exact rfl;exact rfl;(intro w2 hm2;exact hM a (a+s) (a+2*s) (by omega) (by omega) hla w2 _ hm2))|(apply ak (d:=47);exact rfl;apply vG (a:=2) (b:=s);exact rfl;exact rfl;(simp only [maxLen];omega))|(apply ak (d:=48);exact rfl;apply dc (a:=a+2*s) (b:=2*s);exact rfl;exact rfl;(simp only [maxLen];omega))|refine sT ?_|refine sS ?_|refine sN ?_|refine sM fun _=> ?_|(refine sC ?_ ?_<;>intro hb<;>try omega)|fail)
    all_goals first
     |(exfalso;omega)
     |(refine ⟨a+2*s,hla,by omega,by exact sB,by exact sB,by exact mS⟩;done)
     |trace_state
   ·
    by_cases hlm:a+s<L.length
    ·
     repeat' (first|(apply ak (d:=51);exact rfl;apply dc (a:=a) (b:=s);exact rfl;exact rfl;(simp only [maxLen];omega))|(apply aa (f:=214);exact rfl;exact rfl;(intro w2 hm2;exact hM a (a+s) L.length (by omega) hlm (LK _) w2 _ hm2))|(apply ak (d:=62);exact rfl;apply vG (a:=s) (b:=2);exact rfl;exact rfl;(simp only [maxLen];omega))|refine sT ?_|refine sS ?_|refine sN ?_|refine sM fun _=> ?_|(refine sC ?_ ?_<;>intro hb<;>try omega)|fail)
     all_goals first
      |(exfalso;omega)
      |(refine ⟨s*2,⟨by omega,by omega⟩,by omega,by exact sB,by exact sB,by exact mS⟩;done)
      |trace_state
    ·
     repeat' (first|(apply ak (d:=51);exact rfl;apply dc (a:=a) (b:=s);exact rfl;exact rfl;(simp only [maxLen];omega))|(apply ak (d:=62);exact rfl;apply vG (a:=s) (b:=2);exact rfl;exact rfl;(simp only [maxLen];omega))|refine sT ?_|refine sS ?_|refine sN ?_|refine sM fun _=> ?_|(refine sC ?_ ?_<;>intro hb<;>try omega)|fail)
     all_goals first
      |(exfalso;omega)
      |(refine ⟨s*2,⟨by omega,by omega⟩,by omega,by exact sB,by exact sB,by exact mS⟩;done)
      |trace_state
  ·
   repeat' (first|refine sT ?_|refine sS ?_|refine sM fun _=> ?_|(refine sC ?_ ?_<;>intro hb<;>try omega)|fail)
   all_goals first
    |(exfalso;omega)
    |(exact gX eIO rfl (MSub.nil _) rfl)
    |trace_state
theorem tz (L:List Pz) (hL:InZ L) (lv:Value) (w:World) (hl:Reads w lv L.length (L.flatMap cU)):
  ay Tryz.prog 133 [lv,I8] w (.tuple #[]):=by
 have hS:=fun (w2:World) (H2:List Blk) (hm:Mem w w2 H2)=>Ai L hL lv w2 (hl.of_w0 hm)
 obtain ⟨Al,cl,rfl,hl1,hl2,hl3⟩:=hl
 refine aq Tryz.func133 rfl Tryz.ntmps133 rfl ?_
 repeat' (first|(apply aa (f:=167);exact rfl;exact rfl;(intro w2 hm2;exact hS w2 _ hm2))|refine sT ?_|refine sM fun _=> ?_|(refine sC ?_ ?_<;>intro hb<;>try omega)|fail)
 exact gX eIO rfl (MSub.nil _) rfl
end Go.SL
