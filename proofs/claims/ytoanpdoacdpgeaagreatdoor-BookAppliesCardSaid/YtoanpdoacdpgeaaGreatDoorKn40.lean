/-
  Lemmas and walks, put together: Ie.
-/
import Derived.Test.YtoanpdoacdpgeaaGreatDoorKn20
import Derived.Test.YtoanpdoacdpgeaaGreatDoorKn38
set_option linter.unusedSimpArgs false
set_option linter.unusedVariables false
set_option maxRecDepth 20000
namespace Go.SL
open Go Go.Proofs
attribute [local irreducible] W WL WQ WG WA WX WLI WR WT WC WE VOp RW thn blk bE scp ba bo bL aP FnIn FnP ceP
def ofS (u:Int):BitVec 64 × Int:=if u<0∨64≤u then (0#64,3) else (1#64<<<u.toNat,0)
theorem KE (u:Int) (lv:Value) (w:World) (hl:Reads w lv 1 [.int .i64 u]):ay Tryz.prog 103 [lv] w (.tuple #[vS (ofS u).1,.int .i64 (ofS u).2]):=by
 obtain ⟨Al,cl,rfl,hl1,hl2,hl3⟩:=hl
 obtain ⟨gl,ol,rfl,hrl⟩:=hl3 (by omega)
 have he1:=hrl.cellV 0 (v:= .int .i64 u) rfl
 refine aq Tryz.func103 rfl Tryz.ntmps103 rfl ?_
 by_cases h:u<0∨64≤u
 ·
  rw [ofS,if_pos h]
  repeat' (first|refine sT ?_|refine sS ?_|refine sO ?_|refine sM fun _=> ?_|(refine sC ?_ ?_<;>intro hb<;>try omega)|fail)
  refine ax [7,8] rfl (fun _:Unit=> [(4,.int .u64 0),(9,.int .i64 0)]) (fun _=> []) (fun _=>True) (fun _=>0) () trivial sB mS ?_
  rintro _ _
  repeat' (first|(apply ak;exact rfl;apply aj (j:=0);exact rfl;exact rfl;omega)|refine sT ?_|refine sS ?_|refine sO ?_|refine sM fun _=> ?_|(refine sC ?_ ?_<;>intro hb<;>try omega)|fail)
  all_goals first|(exfalso;omega)|((refine rT2 ?_);rfl)|trace_state
 ·
  rw [ofS,if_neg h]
  obtain ⟨m,rfl⟩: ∃ m:Nat,u=(m:Int):=⟨u.toNat,by omega⟩
  repeat' (first|refine sT ?_|refine sS ?_|refine sO ?_|refine sM fun _=> ?_|(refine sC ?_ ?_<;>intro hb<;>try omega)|fail)
  refine ax [7,8] rfl (fun i:Nat=> [(4,vS (if i=0 then 0#64 else 1#64<<<m)),(9,.int .i64 (i:Int))]) (fun _=> []) (fun i=>i≤1) (fun i=>1 - i) 0 (by omega) sB mS ?_
  rintro i hi
  rcases (by omega:i=0∨i=1) with rfl|rfl
  ·
   repeat' (first|(apply ak;exact rfl;apply aj (j:=0);exact rfl;exact rfl;omega)|(apply ak;exact rfl;apply wT (a:=1#64) (m:=m);exact rfl;exact rfl;omega)|(apply ak;exact rfl;apply dg (a:=0#64);exact rfl;exact rfl)|refine sT ?_|refine sS ?_|refine sN ?_|refine sO ?_|refine sM fun _=> ?_|(refine sC ?_ ?_<;>intro hb<;>try omega)|fail)
   all_goals first
    |(exfalso;omega)
    |(simp only [BitVec.zero_or];refine ⟨1,by omega,by omega,by exact sB,by exact sB,by exact mS⟩;done)
    |trace_state
  ·
   repeat' (first|refine sT ?_|refine sS ?_|refine sO ?_|refine sM fun _=> ?_|(refine sC ?_ ?_<;>intro hb<;>try omega)|fail)
   all_goals first|(exfalso;omega)|((refine rT2 ?_);rfl)|trace_state
def iG:Ev:=⟨0,0,0,aO,false,0#64⟩
def evT (x:Ox) (N:List Gn):Rct:=if x.kind=9 then ((N[x.idx.toNat]?).map Gn.rect).getD aO else x.rect
def evO (step:Int) (x:Ox) (dn:Bool) (L:List Rl) (N:List Gn):Ev × Int:=
 if jx x.kind=false then (iG,2)
 else if step<0∨opE x≠0∨x.user<0∨64≤x.user then (iG,2)
 else if (iF 64 L).2≠0 then (iG,(iF 64 L).2)
 else if (kB 64 N).2≠0 then (iG,(kB 64 N).2)
 else if x.kind=9∧(x.idx<0∨(N.length:Int)≤x.idx) then (iG,6)
 else if aI (evT x N)=false then (iG,3)
 else (⟨step,x.user,x.kind,evT x N,dn,(ovE (evT x N) L).1.2.2|||(ofS x.user).1⟩,0)
set_option maxHeartbeats 16000000 in
theorem Jc (step:Int) (x:Ox) (dn:Bool) (L:List Rl) (N:List Gn) (lv nv:Value) (w:World) (hl:Reads w lv L.length (L.flatMap aV)) (hn:Reads w nv N.length (N.flatMap aW)):
  ay Tryz.prog 42 [.int .i64 step,.agg (bi x).toArray,.bool dn,lv,nv] w (.tuple #[.agg (aN (evO step x dn L N).1).toArray,.int .i64 (evO step x dn L N).2]):=by
 have hacl:=fun (w' :World) (H:List Blk) (hm:Mem w w' H)=>mf 64 L lv w' (hl.of_w0 hm)
 have hgnt:=fun (w' :World) (H:List Blk) (hm:Mem w w' H)=>qG 64 N nv w' (hn.of_w0 hm)
 have hov:=fun (r:Rct) (w' :World) (H:List Blk) (hm:Mem w w' H)=>D7 r L lv w' (hl.of_w0 hm)
 obtain ⟨Al,cl,rfl,hl1,hl2,hl3⟩:=hl
 obtain ⟨An,cn,rfl,hn1,hn2,hn3⟩:=hn
 refine aq Tryz.func42 rfl Tryz.ntmps42 rfl ?_
 have hop:=fun w=>tq x w
 have hmu:=fun w=>nZ x w
 unfold evO
 generalize jx x.kind=mk at hmu ⊢
 generalize opE x=oe at hop ⊢
 generalize iF 64 L=ae at hacl ⊢
 generalize kB 64 N=ne at hgnt ⊢
 cases mk with
 |false=>
  rw [if_pos rfl]
  repeat' (first|(apply aa;exact rfl;exact rfl;(intro w hm;exact hop w))|(apply aa;exact rfl;exact rfl;(intro w hm;exact hmu w))|refine sT ?_|refine sS ?_|refine sM fun _=> ?_|(refine sC ?_ ?_<;>intro hb<;>try omega)|fail)
  all_goals first|(exfalso;omega)|((refine du ?_);rfl)|trace_state
 |true=>
  rw [if_neg (by decide)]
  by_cases h1:step<0∨oe≠0∨x.user<0∨64≤x.user
  ·
   rw [if_pos h1]
   repeat' (first|(apply aa;exact rfl;exact rfl;(intro w hm;exact hop w))|(apply aa;exact rfl;exact rfl;(intro w hm;exact hmu w))|refine sT ?_|refine sS ?_|refine sM fun _=> ?_|(refine sC ?_ ?_<;>intro hb<;>try omega)|fail)
   all_goals first|(exfalso;omega)|((refine du ?_);rfl)|trace_state
  rw [if_neg h1]
  by_cases h2:ae.2≠0
  ·
   rw [if_pos h2]
   repeat' (first|(apply aa;exact rfl;exact rfl;(intro w hm;exact hop w))|(apply aa;exact rfl;exact rfl;(intro w hm;exact hmu w))|(apply aa (f:=60);exact rfl;exact rfl;(intro w' hm;exact hacl w' _ hm))|refine sT ?_|refine sS ?_|refine sM fun _=> ?_|(refine sC ?_ ?_<;>intro hb<;>try omega)|fail)
   all_goals first|(exfalso;omega)|((refine du ?_);rfl)|trace_state
  rw [if_neg h2]
  by_cases h3:ne.2≠0
  ·
   rw [if_pos h3]
   repeat' (first|(apply aa;exact rfl;exact rfl;(intro w hm;exact hop w))|(apply aa;exact rfl;exact rfl;(intro w hm;exact hmu w))|(apply aa (f:=60);exact rfl;exact rfl;(intro w' hm;exact hacl w' _ hm))|(apply aa (f:=61);exact rfl;exact rfl;(intro w' hm;exact hgnt w' _ hm))|refine sT ?_|refine sS ?_|refine sM fun _=> ?_|(refine sC ?_ ?_<;>intro hb<;>try omega)|fail)
   all_goals first|(exfalso;omega)|((refine du ?_);rfl)|trace_state
  rw [if_neg h3]
  obtain ⟨sa,has⟩: ∃ sa,sa=ofS x.user:=⟨_,rfl⟩
  have hof:=fun (w' :World) (g:Nat) (H:List Blk) (hi:In (.own (some g) 3 1 1 1 [.int .i64 x.user]) H) (hm:Mem w w' H)=>KE x.user (.slice (some ⟨g,0,none⟩) 1 1) w' (Reads.of_own (A:=some g) hm hi)
  rw [← has] at hof ⊢
  by_cases h9:x.kind=9
  ·
   by_cases h4:x.idx<0∨(N.length:Int)≤x.idx
   ·
    rw [if_pos ⟨h9,h4⟩]
    repeat' (first|(apply aa;exact rfl;exact rfl;(intro w hm;exact hop w))|(apply aa;exact rfl;exact rfl;(intro w hm;exact hmu w))|(apply aa (f:=60);exact rfl;exact rfl;(intro w' hm;exact hacl w' _ hm))|(apply aa (f:=61);exact rfl;exact rfl;(intro w' hm;exact hgnt w' _ hm))|refine sT ?_|refine sS ?_|refine sM fun _=> ?_|(refine sC ?_ ?_<;>intro hb<;>try omega)|fail)
    all_goals first|(exfalso;omega)|((refine du ?_);rfl)|trace_state
   rw [if_neg (fun h=>h4 h.2)]
   obtain ⟨j,hj⟩: ∃ j:Nat,x.idx=(j:Int):=⟨x.idx.toNat,by omega⟩
   have hjl:j<N.length:=by omega
   obtain ⟨gn,on,rfl,hrn⟩:=hn3 (by omega)
   obtain ⟨hrr,_⟩:=Gn.ro (hrn.elem bW j hjl)
   have ht:evT x N=N[j].rect:=by unfold evT;rw [if_pos h9,hj,Ov,Nc hjl];rfl
   rw [ht]
   generalize N[j].rect=t at hrr ⊢
   have hre:=fun w=>gA t w
   have hov' :=hov t
   generalize ovE t L=ov at hov' ⊢
   by_cases h5:aI t=false
   ·
    rw [if_pos h5]
    have h6:eP t≠0:=fun h=>eO (by simpa using h) h5
    repeat' (first|(apply aa;exact rfl;exact rfl;(intro w hm;exact hop w))|(apply aa;exact rfl;exact rfl;(intro w hm;exact hmu w))|(apply aa;exact rfl;exact rfl;(intro w hm;exact hre w))|(apply aa (f:=60);exact rfl;exact rfl;(intro w' hm;exact hacl w' _ hm))|(apply aa (f:=61);exact rfl;exact rfl;(intro w' hm;exact hgnt w' _ hm))|(apply ak;exact rfl;apply aj (j:=j);exact rfl;(rw [hj];exact rfl);exact hjl)|refine sT ?_|refine sS ?_|refine sO ?_|refine sM fun _=> ?_|(refine sC ?_ ?_<;>intro hb<;>try omega)|fail)
    all_goals first|(exfalso;omega)|((refine du ?_);rfl)|trace_state
   ·
    rw [if_neg h5]
    repeat' (first|(apply aa;exact rfl;exact rfl;(intro w hm;exact hop w))|(apply aa;exact rfl;exact rfl;(intro w hm;exact hmu w))|(apply aa;exact rfl;exact rfl;(intro w hm;exact hre w))|(apply aa (f:=60);exact rfl;exact rfl;(intro w' hm;exact hacl w' _ hm))|(apply aa (f:=61);exact rfl;exact rfl;(intro w' hm;exact hgnt w' _ hm))|(apply aa (f:=102);exact rfl;exact rfl;(intro w' hm;exact hov' w' _ hm))|(apply aa (f:=103);exact rfl;exact rfl;(intro w' hm;exact hof w' _ _ pK hm))|(apply ak;exact rfl;apply aj (j:=j);exact rfl;(rw [hj];exact rfl);exact hjl)|(apply ak;exact rfl;apply dg;exact rfl;exact rfl)|refine sT ?_|refine sS ?_|refine sO ?_|refine sM fun _=> ?_|(refine sC ?_ ?_<;>intro hb<;>try omega)|fail)
    all_goals first|(exfalso;omega)|(exact absurd (gU hb) h5)|((refine du ?_);rfl)|trace_state
  ·
   rw [if_neg (fun h=>h9 h.1)]
   have ht:evT x N=x.rect:=by unfold evT;rw [if_neg h9]
   rw [ht]
   have hre:=fun w=>gA x.rect w
   have hov' :=hov x.rect
   generalize ovE x.rect L=ov at hov' ⊢
   by_cases h5:aI x.rect=false
   ·
    rw [if_pos h5]
    repeat' (first|(apply aa;exact rfl;exact rfl;(intro w hm;exact hop w))|(apply aa;exact rfl;exact rfl;(intro w hm;exact hmu w))|(apply aa;exact rfl;exact rfl;(intro w hm;exact hre w))|(apply aa (f:=60);exact rfl;exact rfl;(intro w' hm;exact hacl w' _ hm))|(apply aa (f:=61);exact rfl;exact rfl;(intro w' hm;exact hgnt w' _ hm))|refine sT ?_|refine sS ?_|refine sO ?_|refine sM fun _=> ?_|(refine sC ?_ ?_<;>intro hb<;>try omega)|fail)
    all_goals first|(exfalso;omega)|(exact absurd h5 (eO ‹_›))|((refine du ?_);rfl)|trace_state
   ·
    rw [if_neg h5]
    repeat' (first|(apply aa;exact rfl;exact rfl;(intro w hm;exact hop w))|(apply aa;exact rfl;exact rfl;(intro w hm;exact hmu w))|(apply aa;exact rfl;exact rfl;(intro w hm;exact hre w))|(apply aa (f:=60);exact rfl;exact rfl;(intro w' hm;exact hacl w' _ hm))|(apply aa (f:=61);exact rfl;exact rfl;(intro w' hm;exact hgnt w' _ hm))|(apply aa (f:=102);exact rfl;exact rfl;(intro w' hm;exact hov' w' _ hm))|(apply aa (f:=103);exact rfl;exact rfl;(intro w' hm;exact hof w' _ _ pK hm))|(apply ak;exact rfl;apply dg;exact rfl;exact rfl)|refine sT ?_|refine sS ?_|refine sO ?_|refine sM fun _=> ?_|(refine sC ?_ ?_<;>intro hb<;>try omega)|fail)
    all_goals first|(exfalso;omega)|(exact absurd (gU hb) h5)|((refine du ?_);rfl)|trace_state
end Go.SL
