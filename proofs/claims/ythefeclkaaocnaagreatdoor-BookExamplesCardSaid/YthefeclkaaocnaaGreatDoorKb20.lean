/-
  Lemmas and walks, put together: Ie If Ig Ih Sl37.
-/
import Derived.Test.YthefeclkaaocnaaGreatDoorKb19
set_option linter.unusedSimpArgs false
set_option linter.unusedVariables false
set_option maxRecDepth 20000
namespace Go.SL
open Go Go.Proofs
attribute [local irreducible] W WL WQ WG WA WX WLI WR WT WC WE VOp RW thn blk cutP scp retP retPP endB FnAt FnIn FnP ceP
def ofS (u:Int):BitVec 64 × Int:=if u<0∨64≤u then (0#64,3) else (1#64<<<u.toNat,0)
theorem Of18_at (u:Int) (lv:Value) (w:World) (hl:Reads w lv 1 [.int .i64 u]):Pure Tryz.prog 122 [lv] w (.tuple #[vS (ofS u).1,.int .i64 (ofS u).2]):=by
 obtain ⟨Al,cl,rfl,hl1,hl2,hl3⟩:=hl
 obtain ⟨gl,ol,rfl,hrl⟩:=hl3 (by omega)
 have he1:=hrl.cellV 0 (v:= .int .i64 u) rfl
 refine fn_at Tryz.func122 rfl Tryz.ntmps122 rfl ?_
 by_cases h:u<0∨64≤u
 ·
  rw [ofS,if_pos h]
  repeat' (first|refine sT ?_|refine sS ?_|refine sO ?_|refine sM fun _=> ?_|(refine sC ?_ ?_<;>intro hb<;>try omega)|fail)
  refine w_loopK [7,8] rfl (fun _:Unit=> [(4,.int .u64 0),(9,.int .i64 0)]) (fun _=> []) (fun _=>True) (fun _=>0) () trivial sB mS ?_
  rintro _ _
  repeat' (first|((with_reducible apply wl_v);exact rfl;(with_reducible apply v_indexAddr (j:=0));exact rfl;exact rfl;omega)|refine sT ?_|refine sS ?_|refine sO ?_|refine sM fun _=> ?_|(refine sC ?_ ?_<;>intro hb<;>try omega)|fail)
  all_goals first|(exfalso;omega)|((refine rT2 ?_);rfl)|trace_state
 ·
  rw [ofS,if_neg h]
  obtain ⟨m,rfl⟩: ∃ m:Nat,u=(m:Int):=⟨u.toNat,by omega⟩
  repeat' (first|refine sT ?_|refine sS ?_|refine sO ?_|refine sM fun _=> ?_|(refine sC ?_ ?_<;>intro hb<;>try omega)|fail)
  refine w_loopK [7,8] rfl (fun i:Nat=> [(4,vS (if i=0 then 0#64 else 1#64<<<m)),(9,.int .i64 (i:Int))]) (fun _=> []) (fun i=>i≤1) (fun i=>1 - i) 0 (by omega) sB mS ?_
  rintro i hi
  rcases (by omega:i=0∨i=1) with rfl|rfl
  ·
   repeat' (first|((with_reducible apply wl_v);exact rfl;(with_reducible apply v_indexAddr (j:=0));exact rfl;exact rfl;omega)|((with_reducible apply wl_v);exact rfl;(with_reducible apply v_shl64 (a:=1#64) (m:=m));exact rfl;exact rfl;omega)|((with_reducible apply wl_v);exact rfl;(with_reducible apply v_or64 (a:=0#64));exact rfl;exact rfl)|refine sT ?_|refine sS ?_|refine sN ?_|refine sO ?_|refine sM fun _=> ?_|(refine sC ?_ ?_<;>intro hb<;>try omega)|fail)
   all_goals first
    |(exfalso;omega)
    |(simp only [BitVec.zero_or];refine ⟨1,by omega,by omega,by exact sB,by exact sB,by exact mS⟩;done)
    |trace_state
  ·
   repeat' (first|refine sT ?_|refine sS ?_|refine sO ?_|refine sM fun _=> ?_|(refine sC ?_ ?_<;>intro hb<;>try omega)|fail)
   all_goals first|(exfalso;omega)|((refine rT2 ?_);rfl)|trace_state
def zeroEv:Ev:=⟨0,0,0,zeroR,false,0#64⟩
def evT (x:Ox) (N:List Gn):Rct:=if x.kind=9 then ((N[x.idx.toNat]?).map Gn.rect).getD zeroR else x.rect
def evO (step:Int) (x:Ox) (dn:Bool) (L:List Rl) (N:List Gn):Ev × Int:=
 if mutK x.kind=false then (zeroEv,2)
 else if step<0∨opE x≠0∨x.user<0∨64≤x.user then (zeroEv,2)
 else if (aclE 64 L).2≠0 then (zeroEv,(aclE 64 L).2)
 else if (gntE 64 N).2≠0 then (zeroEv,(gntE 64 N).2)
 else if x.kind=9∧(x.idx<0∨(N.length:Int)≤x.idx) then (zeroEv,6)
 else if rectOk (evT x N)=false then (zeroEv,3)
 else (⟨step,x.user,x.kind,evT x N,dn,(ovE (evT x N) L).1.2.2|||(ofS x.user).1⟩,0)
set_option maxHeartbeats 16000000 in
theorem Event_at (step:Int) (x:Ox) (dn:Bool) (L:List Rl) (N:List Gn) (lv nv:Value) (w:World) (hl:Reads w lv L.length (L.flatMap encRl)) (hn:Reads w nv N.length (N.flatMap encGn)):
  Pure Tryz.prog 56 [.int .i64 step,.agg (encOx x).toArray,.bool dn,lv,nv] w (.tuple #[.agg (encEv (evO step x dn L N).1).toArray,.int .i64 (evO step x dn L N).2]):=by
 have hacl:=fun (w' :World) (H:List Blk) (hm:Mem w w' H)=>aclCheck_at 64 L lv w' (hl.of_w0 hm)
 have hgnt:=fun (w' :World) (H:List Blk) (hm:Mem w w' H)=>gntCheck_at 64 N nv w' (hn.of_w0 hm)
 have hov:=fun (r:Rct) (w' :World) (H:List Blk) (hm:Mem w w' H)=>Over_at r L lv w' (hl.of_w0 hm)
 obtain ⟨Al,cl,rfl,hl1,hl2,hl3⟩:=hl
 obtain ⟨An,cn,rfl,hn1,hn2,hn3⟩:=hn
 refine fn_at Tryz.func56 rfl Tryz.ntmps56 rfl ?_
 have hop:=fun w=>opCheck_at x w
 have hmu:=fun w=>Mutates_at x w
 unfold evO
 generalize mutK x.kind=mk at hmu ⊢
 generalize opE x=oe at hop ⊢
 generalize aclE 64 L=ae at hacl ⊢
 generalize gntE 64 N=ne at hgnt ⊢
 cases mk with
 |false=>
  rw [if_pos rfl]
  repeat' (first|((with_reducible apply wl_callp);exact rfl;exact rfl;(intro w hm;exact hop w))|((with_reducible apply wl_callp);exact rfl;exact rfl;(intro w hm;exact hmu w))|refine sT ?_|refine sS ?_|refine sM fun _=> ?_|(refine sC ?_ ?_<;>intro hb<;>try omega)|fail)
  all_goals first|(exfalso;omega)|((refine eRCT ?_);rfl)|trace_state
 |true=>
  rw [if_neg (by decide)]
  by_cases h1:step<0∨oe≠0∨x.user<0∨64≤x.user
  ·
   rw [if_pos h1]
   repeat' (first|((with_reducible apply wl_callp);exact rfl;exact rfl;(intro w hm;exact hop w))|((with_reducible apply wl_callp);exact rfl;exact rfl;(intro w hm;exact hmu w))|refine sT ?_|refine sS ?_|refine sM fun _=> ?_|(refine sC ?_ ?_<;>intro hb<;>try omega)|fail)
   all_goals first|(exfalso;omega)|((refine eRCT ?_);rfl)|trace_state
  rw [if_neg h1]
  by_cases h2:ae.2≠0
  ·
   rw [if_pos h2]
   repeat' (first|((with_reducible apply wl_callp);exact rfl;exact rfl;(intro w hm;exact hop w))|((with_reducible apply wl_callp);exact rfl;exact rfl;(intro w hm;exact hmu w))|((with_reducible apply wl_callp (f:=51));exact rfl;exact rfl;(intro w' hm;exact hacl w' _ hm))|refine sT ?_|refine sS ?_|refine sM fun _=> ?_|(refine sC ?_ ?_<;>intro hb<;>try omega)|fail)
   all_goals first|(exfalso;omega)|((refine eRCT ?_);rfl)|trace_state
  rw [if_neg h2]
  by_cases h3:ne.2≠0
  ·
   rw [if_pos h3]
   repeat' (first|((with_reducible apply wl_callp);exact rfl;exact rfl;(intro w hm;exact hop w))|((with_reducible apply wl_callp);exact rfl;exact rfl;(intro w hm;exact hmu w))|((with_reducible apply wl_callp (f:=51));exact rfl;exact rfl;(intro w' hm;exact hacl w' _ hm))|((with_reducible apply wl_callp (f:=52));exact rfl;exact rfl;(intro w' hm;exact hgnt w' _ hm))|refine sT ?_|refine sS ?_|refine sM fun _=> ?_|(refine sC ?_ ?_<;>intro hb<;>try omega)|fail)
   all_goals first|(exfalso;omega)|((refine eRCT ?_);rfl)|trace_state
  rw [if_neg h3]
  obtain ⟨sa,has⟩: ∃ sa,sa=ofS x.user:=⟨_,rfl⟩
  have hof:=fun (w' :World) (g:Nat) (H:List Blk) (hi:In (.own (some g) 3 1 1 1 [.int .i64 x.user]) H) (hm:Mem w w' H)=>Of18_at x.user (.slice (some ⟨g,0,none⟩) 1 1) w' (Reads.of_own (A:=some g) hm hi)
  rw [← has] at hof ⊢
  by_cases h9:x.kind=9
  ·
   by_cases h4:x.idx<0∨(N.length:Int)≤x.idx
   ·
    rw [if_pos ⟨h9,h4⟩]
    repeat' (first|((with_reducible apply wl_callp);exact rfl;exact rfl;(intro w hm;exact hop w))|((with_reducible apply wl_callp);exact rfl;exact rfl;(intro w hm;exact hmu w))|((with_reducible apply wl_callp (f:=51));exact rfl;exact rfl;(intro w' hm;exact hacl w' _ hm))|((with_reducible apply wl_callp (f:=52));exact rfl;exact rfl;(intro w' hm;exact hgnt w' _ hm))|refine sT ?_|refine sS ?_|refine sM fun _=> ?_|(refine sC ?_ ?_<;>intro hb<;>try omega)|fail)
    all_goals first|(exfalso;omega)|((refine eRCT ?_);rfl)|trace_state
   rw [if_neg (fun h=>h4 h.2)]
   obtain ⟨j,hj⟩: ∃ j:Nat,x.idx=(j:Int):=⟨x.idx.toNat,by omega⟩
   have hjl:j<N.length:=by omega
   obtain ⟨gn,on,rfl,hrn⟩:=hn3 (by omega)
   obtain ⟨hrr,_⟩:=Gn.ro (hrn.elem encGn_len j hjl)
   have ht:evT x N=N[j].rect:=by unfold evT;rw [if_pos h9,hj,Int.toNat_natCast,List.getElem?_eq_getElem hjl];rfl
   rw [ht]
   generalize N[j].rect=t at hrr ⊢
   have hre:=fun w=>rect_at t w
   have hov' :=hov t
   generalize ovE t L=ov at hov' ⊢
   by_cases h5:rectOk t=false
   ·
    rw [if_pos h5]
    have h6:rectE t≠0:=fun h=>rectE_good (by simpa using h) h5
    repeat' (first|((with_reducible apply wl_callp);exact rfl;exact rfl;(intro w hm;exact hop w))|((with_reducible apply wl_callp);exact rfl;exact rfl;(intro w hm;exact hmu w))|((with_reducible apply wl_callp);exact rfl;exact rfl;(intro w hm;exact hre w))|((with_reducible apply wl_callp (f:=51));exact rfl;exact rfl;(intro w' hm;exact hacl w' _ hm))|((with_reducible apply wl_callp (f:=52));exact rfl;exact rfl;(intro w' hm;exact hgnt w' _ hm))|((with_reducible apply wl_v);exact rfl;(with_reducible apply v_indexAddr (j:=j));exact rfl;(rw [hj];exact rfl);exact hjl)|refine sT ?_|refine sS ?_|refine sO ?_|refine sM fun _=> ?_|(refine sC ?_ ?_<;>intro hb<;>try omega)|fail)
    all_goals first|(exfalso;omega)|((refine eRCT ?_);rfl)|trace_state
   ·
    rw [if_neg h5]
    repeat' (first|((with_reducible apply wl_callp);exact rfl;exact rfl;(intro w hm;exact hop w))|((with_reducible apply wl_callp);exact rfl;exact rfl;(intro w hm;exact hmu w))|((with_reducible apply wl_callp);exact rfl;exact rfl;(intro w hm;exact hre w))|((with_reducible apply wl_callp (f:=51));exact rfl;exact rfl;(intro w' hm;exact hacl w' _ hm))|((with_reducible apply wl_callp (f:=52));exact rfl;exact rfl;(intro w' hm;exact hgnt w' _ hm))|((with_reducible apply wl_callp (f:=30));exact rfl;exact rfl;(intro w' hm;exact hov' w' _ hm))|((with_reducible apply wl_callp (f:=122));exact rfl;exact rfl;(intro w' hm;exact hof w' _ _ pK hm))|((with_reducible apply wl_v);exact rfl;(with_reducible apply v_indexAddr (j:=j));exact rfl;(rw [hj];exact rfl);exact hjl)|((with_reducible apply wl_v);exact rfl;(with_reducible apply v_or64);exact rfl;exact rfl)|refine sT ?_|refine sS ?_|refine sO ?_|refine sM fun _=> ?_|(refine sC ?_ ?_<;>intro hb<;>try omega)|fail)
    all_goals first|(exfalso;omega)|(exact absurd (rectE_bad hb) h5)|((refine eRCT ?_);rfl)|trace_state
  ·
   rw [if_neg (fun h=>h9 h.1)]
   have ht:evT x N=x.rect:=by unfold evT;rw [if_neg h9]
   rw [ht]
   have hre:=fun w=>rect_at x.rect w
   have hov' :=hov x.rect
   generalize ovE x.rect L=ov at hov' ⊢
   by_cases h5:rectOk x.rect=false
   ·
    rw [if_pos h5]
    repeat' (first|((with_reducible apply wl_callp);exact rfl;exact rfl;(intro w hm;exact hop w))|((with_reducible apply wl_callp);exact rfl;exact rfl;(intro w hm;exact hmu w))|((with_reducible apply wl_callp);exact rfl;exact rfl;(intro w hm;exact hre w))|((with_reducible apply wl_callp (f:=51));exact rfl;exact rfl;(intro w' hm;exact hacl w' _ hm))|((with_reducible apply wl_callp (f:=52));exact rfl;exact rfl;(intro w' hm;exact hgnt w' _ hm))|refine sT ?_|refine sS ?_|refine sO ?_|refine sM fun _=> ?_|(refine sC ?_ ?_<;>intro hb<;>try omega)|fail)
    all_goals first|(exfalso;omega)|(exact absurd h5 (rectE_good ‹_›))|((refine eRCT ?_);rfl)|trace_state
   ·
    rw [if_neg h5]
    repeat' (first|((with_reducible apply wl_callp);exact rfl;exact rfl;(intro w hm;exact hop w))|((with_reducible apply wl_callp);exact rfl;exact rfl;(intro w hm;exact hmu w))|((with_reducible apply wl_callp);exact rfl;exact rfl;(intro w hm;exact hre w))|((with_reducible apply wl_callp (f:=51));exact rfl;exact rfl;(intro w' hm;exact hacl w' _ hm))|((with_reducible apply wl_callp (f:=52));exact rfl;exact rfl;(intro w' hm;exact hgnt w' _ hm))|((with_reducible apply wl_callp (f:=30));exact rfl;exact rfl;(intro w' hm;exact hov' w' _ hm))|((with_reducible apply wl_callp (f:=122));exact rfl;exact rfl;(intro w' hm;exact hof w' _ _ pK hm))|((with_reducible apply wl_v);exact rfl;(with_reducible apply v_or64);exact rfl;exact rfl)|refine sT ?_|refine sS ?_|refine sO ?_|refine sM fun _=> ?_|(refine sC ?_ ?_<;>intro hb<;>try omega)|fail)
    all_goals first|(exfalso;omega)|(exact absurd (rectE_bad hb) h5)|((refine eRCT ?_);rfl)|trace_state
structure Bk where
 users:Int
 ents:List Et
 rules:List Rl
 grants:List Gn
 log:List Ev
 rels:List Rv
 step:Int
structure Bv where
 ae:Option Addr
 ar:Option Addr
 ag:Option Addr
 al:Option Addr
 as_:Option Addr
 ce:Nat
 cr:Nat
 cg:Nat
 cl:Nat
 cs:Nat
def encBk (b:Bk) (x:Bv):List Value:= [.int .i64 b.users,.slice x.ae b.ents.length x.ce,.slice x.ar b.rules.length x.cr,.slice x.ag b.grants.length x.cg,.slice x.al b.log.length x.cl,.slice x.as_ b.rels.length x.cs,.int .i64 b.step]
structure BRd (w:World) (b:Bk) (x:Bv):Prop where
 e:Reads w (.slice x.ae b.ents.length x.ce) b.ents.length (b.ents.flatMap encEt)
 r:Reads w (.slice x.ar b.rules.length x.cr) b.rules.length (b.rules.flatMap encRl)
 g:Reads w (.slice x.ag b.grants.length x.cg) b.grants.length (b.grants.flatMap encGn)
 l:Reads w (.slice x.al b.log.length x.cl) b.log.length (b.log.flatMap encEv)
 s:Reads w (.slice x.as_ b.rels.length x.cs) b.rels.length (b.rels.flatMap encRv)
theorem BRd.of_w0 {w w' :World} {b:Bk} {x:Bv} {H:List Blk} (h:BRd w b x) (hm:Mem w w' H):BRd w' b x:=⟨h.e.of_w0 hm,h.r.of_w0 hm,h.g.of_w0 hm,h.l.of_w0 hm,h.s.of_w0 hm⟩
def lateE (s:Int) (L:List Ev):Bool:=if 0<L.length then decide (s≤((L[L.length - 1]?).map Ev.step).getD 0) else false
def lateR (s:Int) (L:List Rv):Bool:=if 0<L.length then decide (s≤((L[L.length - 1]?).map Rv.step).getD 0) else false
def bkE (b:Bk):Int:=
 if b.users<1∨64<b.users then 2
 else if (checkEt b.ents).2≠0 then (checkEt b.ents).2
 else if (aclE b.users b.rules).2≠0 then (aclE b.users b.rules).2
 else if (gntE b.users b.grants).2≠0 then (gntE b.users b.grants).2
 else if audE b.users b.log b.rels≠0 then audE b.users b.log b.rels
 else if b.step<0∨1099511627776<b.step then 2
 else if lateE b.step b.log=true then 2
 else if lateR b.step b.rels=true then 2 else 0
theorem Rv.ro1 {w:World} {g o:Nat} {r:Rv} (h:Ro w g o (encRv r)):Ro w g o [.int .i64 r.step]:=h.take (k:=1)
set_option maxHeartbeats 16000000 in
theorem bkCheck_at (b:Bk) (x:Bv) (w:World) (h:BRd w b x) (hW:Words w) (hlen:b.ents.length≤1000000):Pure Tryz.prog 12 [.agg (encBk b x).toArray] w (.int .i64 (bkE b)):=by
 have hent:=fun (w' :World) (H:List Blk) (hm:Mem w w' H)=>entryCheck_at b.ents _ w' (h.e.of_w0 hm) hlen (hW.next hm)
 have hacl:=fun (w' :World) (H:List Blk) (hm:Mem w w' H)=>aclCheck_at b.users b.rules _ w' (h.r.of_w0 hm)
 have hgnt:=fun (w' :World) (H:List Blk) (hm:Mem w w' H)=>gntCheck_at b.users b.grants _ w' (h.g.of_w0 hm)
 have haud:=fun (w' :World) (H:List Blk) (hm:Mem w w' H)=>audCheck_at b.users b.log b.rels _ _ w' (h.l.of_w0 hm) (h.s.of_w0 hm)
 refine fn_at Tryz.func12 rfl Tryz.ntmps12 rfl ?_
 unfold bkE
 obtain ⟨Al,cl,el,hl1,hl2,hl3⟩:=h.l
 obtain ⟨Am,cm,em,hm1,hm2,hm3⟩:=h.s
 have hl3' :0<b.log.length→ ∃ g o,x.al=some ⟨g,o,none⟩∧Ro w g o (b.log.flatMap encEv):=by
  cases el
  exact hl3
 have hm3' :0<b.rels.length→ ∃ g o,x.as_=some ⟨g,o,none⟩∧Ro w g o (b.rels.flatMap encRv):=by
  cases em
  exact hm3
 have hLm:b.log.length≤maxLen:=Nat.le_trans hl1 hl2
 have hMm:b.rels.length≤maxLen:=Nat.le_trans hm1 hm2
 clear hl1 hl2 hl3 hm1 hm2 hm3 el em
 generalize checkEt b.ents=ce at hent ⊢
 generalize aclE b.users b.rules=ae at hacl ⊢
 generalize gntE b.users b.grants=ge at hgnt ⊢
 generalize audE b.users b.log b.rels=ue at haud ⊢
 obtain ⟨us,E,RU,G,L,M,st⟩:=b
 obtain ⟨ae1,ar1,ag1,al1,as1,ce1,cr1,cg1,cl1,cs1⟩:=x
 dsimp only at*
 simp only [encBk] at*
 have hL:(L.length=0∧lateE st L=false)∨(0<L.length∧ ∃ g o s,al1=some ⟨g,o,none⟩∧Ro w g (o+(L.length - 1)*9) [.int .i64 s]∧lateE st L=decide (st≤s)):=by
  rcases Nat.eq_zero_or_pos L.length with h0|hp
  ·
   exact .inl ⟨h0,by unfold lateE;rw [if_neg (by omega)]⟩
  ·
   obtain ⟨g,o,e,hr⟩:=hl3' hp
   have hlt:L.length - 1<L.length:=by omega
   exact .inr ⟨hp,g,o,L[L.length - 1].step,e,(Ev.ro (hr.elem encEv_len (L.length - 1) hlt)).1,by unfold lateE;rw [if_pos hp,List.getElem?_eq_getElem hlt];rfl⟩
 have hM:(M.length=0∧lateR st M=false)∨(0<M.length∧ ∃ g o s,as1=some ⟨g,o,none⟩∧Ro w g (o+(M.length - 1)*11) [.int .i64 s]∧lateR st M=decide (st≤s)):=by
  rcases Nat.eq_zero_or_pos M.length with h0|hp
  ·
   exact .inl ⟨h0,by unfold lateR;rw [if_neg (by omega)]⟩
  ·
   obtain ⟨g,o,e,hr⟩:=hm3' hp
   have hlt:M.length - 1<M.length:=by omega
   exact .inr ⟨hp,g,o,M[M.length - 1].step,e,Rv.ro1 (hr.elem encRv_len (M.length - 1) hlt),by unfold lateR;rw [if_pos hp,List.getElem?_eq_getElem hlt];rfl⟩
 generalize lateE st L=le at hL ⊢
 generalize lateR st M=lr at hM ⊢
 clear hl3' hm3'
 generalize L.length=nl at*
 generalize M.length=nm at*
 generalize E.length=nE at*
 generalize RU.length=nR at*
 generalize G.length=nG at*
 rcases hL with ⟨hL,rfl⟩|⟨hL,g1,o1,s1,rfl,hr1,rfl⟩<;>rcases hM with ⟨hM,rfl⟩|⟨hM,g2,o2,s2,rfl,hr2,rfl⟩
 all_goals
  repeat' (first|((with_reducible apply wl_callp (f:=50));exact rfl;exact rfl;(intro w' hm;exact hent w' _ hm))|((with_reducible apply wl_callp (f:=51));exact rfl;exact rfl;(intro w' hm;exact hacl w' _ hm))|((with_reducible apply wl_callp (f:=52));exact rfl;exact rfl;(intro w' hm;exact hgnt w' _ hm))|((with_reducible apply wl_callp (f:=53));exact rfl;exact rfl;(intro w' hm;exact haud w' _ hm))|((with_reducible apply wq_v);exact rfl;(with_reducible apply v_predN);exact rfl;exact rfl;omega;(simp only [maxLen] at*;omega))|((with_reducible apply wq_v);exact rfl;(with_reducible apply v_indexAddr (j:=nl - 1));exact rfl;exact rfl;omega)|((with_reducible apply wq_v);exact rfl;(with_reducible apply v_indexAddr (j:=nm - 1));exact rfl;exact rfl;omega)|refine sT ?_|refine sS ?_|refine sQ ?_|refine sN ?_|refine sNQ ?_|refine sO ?_|refine sOQ ?_|refine sD ?_|refine sM fun _=> ?_|(refine sC ?_ ?_<;>intro hb<;>try omega)|(refine sCQ ?_ ?_<;>intro hb<;>try omega)|fail)
 all_goals first
  |(exfalso;omega)
  |((refine rT1 ?_);simp_all;done)
  |((refine rT1 ?_);simp_all;omega)
  |trace_state
instance fldRt0:FldT Tryz.prog 36 0 34 0:=⟨_,_,Tryz.underlying36,rfl,rfl,rfl⟩
instance fldRt1:FldT Tryz.prog 36 1 34 1:=⟨_,_,Tryz.underlying36,rfl,rfl,rfl⟩
instance fldRt2:FldT Tryz.prog 36 2 34 2:=⟨_,_,Tryz.underlying36,rfl,rfl,rfl⟩
theorem Ox.ro {w:World} {g o:Nat} {x:Ox} (h:Ro w g o (encOx x)):Ro w g (o+2) (encR x.rect)∧Ro w g (o+7) [vS x.rd,vS x.wr,vS x.ow]:=
 ⟨(h.drop (k:=2)).take (k:=4),(h.drop (k:=7)).take (k:=3)⟩
set_option maxHeartbeats 4000000 in
theorem bkOver_at (b:Bk) (x:Bv) (r:Rct) (gp gb:Nat) (w:World) (hp:Ro w gp 0 [.pointer (some ⟨gb,0,none⟩)]) (hbk:Ro w gb 0 (encBk b x)) (hr:BRd w b x):
  Pure Tryz.prog 155 [.agg (encR r).toArray,.pointer (some ⟨gp,0,none⟩)] w (.agg #[vS (ovE r b.rules).1.1,vS (ovE r b.rules).1.2.1,vS (ovE r b.rules).1.2.2]):=by
 refine fn_at Tryz.func155 rfl Tryz.ntmps155 rfl ?_
 have h1:=fun (w' :World) (H:List Blk) (hm:Mem w w' H)=>Over_at r b.rules _ w' (hr.r.of_w0 hm)
 generalize (ovE r b.rules).2=e at h1
 generalize (ovE r b.rules).1.1=s1 at h1 ⊢
 generalize (ovE r b.rules).1.2.1=s2 at h1 ⊢
 generalize (ovE r b.rules).1.2.2=s3 at h1 ⊢
 obtain ⟨us,E,RU,G,L,M,st⟩:=b
 obtain ⟨ae1,ar1,ag1,al1,as1,ce1,cr1,cg1,cl1,cs1⟩:=x
 dsimp only at*
 simp only [encBk] at hbk
 repeat' (first|refine sT ?_|refine sS ?_|refine sO ?_|refine sM fun _=> ?_|(refine sC ?_ ?_<;>intro hb<;>try omega)|fail)
 rename_i g2 g3
 refine w_drawE (id:=1) [5,9,10] [.box g2 33 (encR r),.box g3 36 [.int .u64 0,.int .u64 0,.int .u64 0]] 12 rfl rfl mS ?_
 repeat' (first|((with_reducible apply we_v (i:=1));(iterate 4 exact rfl);decide+kernel;decide+kernel;decide+kernel;(with_reducible apply v_load1_ro);exact rfl;exact hp)|((with_reducible apply we_v (i:=4));(iterate 4 exact rfl);decide+kernel;decide+kernel;decide+kernel;(with_reducible apply v_loadf_ro);exact rfl;exact hbk;exact rfl)|((with_reducible apply we_v (i:=0));(iterate 4 exact rfl);decide+kernel;decide+kernel;decide+kernel;(exact vC))|((with_reducible apply we_v (i:=2));(iterate 4 exact rfl);decide+kernel;decide+kernel;decide+kernel;(exact vC))|((with_reducible apply we_v (i:=3));(iterate 4 exact rfl);decide+kernel;decide+kernel;decide+kernel;(exact vC))|((with_reducible apply we_v (i:=6));(iterate 4 exact rfl);decide+kernel;decide+kernel;decide+kernel;(exact vC))|((with_reducible apply we_v (i:=7));(iterate 4 exact rfl);decide+kernel;decide+kernel;decide+kernel;(exact vC))|((with_reducible apply we_v (i:=8));(iterate 4 exact rfl);decide+kernel;decide+kernel;decide+kernel;(exact vC))|((with_reducible apply we_v (i:=11));(iterate 4 exact rfl);decide+kernel;decide+kernel;decide+kernel;((with_reducible apply v_assign);exact rfl))|((with_reducible apply we_two (i:=5) (j:=9));(iterate 6 exact rfl);decide+kernel)|((with_reducible apply we_one (i:=5));(iterate 3 exact rfl);decide+kernel)|((with_reducible apply we_one (i:=9));(iterate 3 exact rfl);decide+kernel)|((with_reducible apply we_one (i:=10));(iterate 3 exact rfl);decide+kernel)|((with_reducible apply we_done);decide+kernel)|((with_reducible apply ce_n);(focus (exact mS;done)))|((with_reducible apply wl_callp (f:=30));exact rfl;exact rfl;(intro w' hm;exact h1 w' _ hm))|refine sT ?_|refine sS ?_|refine sO ?_|refine sM fun _=> ?_|(refine sC ?_ ?_<;>intro hb<;>try omega)|fail)
 all_goals first
  |(exfalso;omega)
  |((refine eRC ?_);rfl)
  |trace_state
def rfsF (b:Bk) (o:Ox):Bool:=
 if o.kind=3∨o.kind=4 then !hasS (ovE o.rect b.rules).1.2.1 o.user
 else if o.kind=6 then !hasS (ovE o.rect b.rules).1.1 o.user
 else if o.kind=7∨o.kind=8 then !hasS (ovE o.rect b.rules).1.2.2 o.user
 else if o.kind=9 then (match b.grants[o.idx.toNat]? with|some g=>decide (g.by_≠o.user) && !hasS (ovE g.rect b.rules).1.2.2 o.user|none=>false)
 else false
set_option maxHeartbeats 16000000 in
theorem refused_at (b:Bk) (x:Bv) (o:Ox) (gb:Nat) (w:World) (hbk:Ro w gb 0 (encBk b x)) (hr:BRd w b x) (hi:o.kind=9→0≤o.idx∧o.idx<(b.grants.length:Int)):
  Pure Tryz.prog 118 [.pointer (some ⟨gb,0,none⟩),.agg (encOx o).toArray] w (.bool (rfsF b o)):=by
 refine fn_at Tryz.func118 rfl Tryz.ntmps118 rfl ?_
 have hO:=fun (r:Rct) (gp:Nat) (w' :World) (H:List Blk) (hi:In (.box gp 123 [.pointer (some ⟨gb,0,none⟩)]) H) (hm:Mem w w' H)=>bkOver_at b x r gp gb w' (Ro.of_box hm hi) (hbk.next hm) (hr.of_w0 hm)
 unfold rfsF
 have hH:=fun (s:BitVec 64) w' =>Has18_at s o.user w'
 by_cases k1:o.kind=3∨o.kind=4
 ·
  rw [if_pos k1]
  have hO1:=hO o.rect
  clear hO
  generalize (ovE o.rect b.rules).1.1=s1 at hO1 ⊢
  generalize (ovE o.rect b.rules).1.2.1=s2 at hO1 ⊢
  generalize (ovE o.rect b.rules).1.2.2=s3 at hO1 ⊢
  repeat' (first|((with_reducible apply w_drawC0 (id:=5) [3,7] []);kernel_rfl;kernel_rfl;kernel_rfl)|((with_reducible apply wc_v);(iterate 3 exact rfl);(with_reducible apply v_field);exact rfl;exact rfl)|((with_reducible apply wl_callvp (f:=155));exact rfl;exact rfl;infer_instance;exact rfl;(intro w' hm;exact hO1 _ w' _ pK hm))|((with_reducible apply wl_callp (f:=109));exact rfl;exact rfl;(intro w' _;exact hH _ w'))|refine sT ?_|refine sS ?_|refine sW ?_|refine sM fun _=> ?_|(refine sC ?_ ?_<;>intro hb<;>try omega)|(refine sCW ?_ ?_<;>intro hb<;>try omega)|fail)
  all_goals first|(exfalso;omega)|((refine rT1 ?_);rfl)|trace_state
 rw [if_neg k1]
 by_cases k2:o.kind=6
 ·
  rw [if_pos k2]
  have hO1:=hO o.rect
  clear hO
  generalize (ovE o.rect b.rules).1.1=s1 at hO1 ⊢
  generalize (ovE o.rect b.rules).1.2.1=s2 at hO1 ⊢
  generalize (ovE o.rect b.rules).1.2.2=s3 at hO1 ⊢
  repeat' (first|((with_reducible apply w_drawC0 (id:=7) [3,7] []);kernel_rfl;kernel_rfl;kernel_rfl)|((with_reducible apply wc_v);(iterate 3 exact rfl);(with_reducible apply v_field);exact rfl;exact rfl)|((with_reducible apply wl_callvp (f:=155));exact rfl;exact rfl;infer_instance;exact rfl;(intro w' hm;exact hO1 _ w' _ pK hm))|((with_reducible apply wl_callp (f:=109));exact rfl;exact rfl;(intro w' _;exact hH _ w'))|refine sT ?_|refine sS ?_|refine sW ?_|refine sM fun _=> ?_|(refine sC ?_ ?_<;>intro hb<;>try omega)|(refine sCW ?_ ?_<;>intro hb<;>try omega)|fail)
  all_goals first|(exfalso;omega)|((refine rT1 ?_);rfl)|trace_state
 rw [if_neg k2]
 by_cases k3:o.kind=7∨o.kind=8
 ·
  rw [if_pos k3]
  have hO1:=hO o.rect
  clear hO
  generalize (ovE o.rect b.rules).1.1=s1 at hO1 ⊢
  generalize (ovE o.rect b.rules).1.2.1=s2 at hO1 ⊢
  generalize (ovE o.rect b.rules).1.2.2=s3 at hO1 ⊢
  repeat' (first|((with_reducible apply w_drawC0 (id:=10) [3,7] []);kernel_rfl;kernel_rfl;kernel_rfl)|((with_reducible apply wc_v);(iterate 3 exact rfl);(with_reducible apply v_field);exact rfl;exact rfl)|((with_reducible apply wl_callvp (f:=155));exact rfl;exact rfl;infer_instance;exact rfl;(intro w' hm;exact hO1 _ w' _ pK hm))|((with_reducible apply wl_callp (f:=109));exact rfl;exact rfl;(intro w' _;exact hH _ w'))|refine sT ?_|refine sS ?_|refine sW ?_|refine sM fun _=> ?_|(refine sC ?_ ?_<;>intro hb<;>try omega)|(refine sCW ?_ ?_<;>intro hb<;>try omega)|fail)
  all_goals first|(exfalso;omega)|((refine rT1 ?_);rfl)|trace_state
 rw [if_neg k3]
 by_cases k4:o.kind=9
 ·
  rw [if_pos k4]
  obtain ⟨hi1,hi2⟩:=hi k4
  obtain ⟨j,hj⟩: ∃ j:Nat,o.idx=(j:Int):=⟨o.idx.toNat,by omega⟩
  have hjl:j<b.grants.length:=by omega
  rw [hj,Int.toNat_natCast,List.getElem?_eq_getElem hjl]
  have hg:=hr.g
  obtain ⟨ae1,ar1,ag1,al1,as1,ce1,cr1,cg1,cl1,cs1⟩:=x
  dsimp only at*
  obtain ⟨Ag,cg2,eg,hg1,hg2,hg3⟩:=hg
  cases eg
  obtain ⟨gg,og,rfl,hrg⟩:=hg3 (by omega)
  have he:=hrg.elem encGn_len j hjl
  generalize b.grants[j]=y at he ⊢
  have hO1:=hO y.rect
  clear hO
  generalize (ovE y.rect b.rules).1.1=s1 at hO1 ⊢
  generalize (ovE y.rect b.rules).1.2.1=s2 at hO1 ⊢
  generalize (ovE y.rect b.rules).1.2.2=s3 at hO1 ⊢
  obtain ⟨us,E,RU,G,L,M,st⟩:=b
  dsimp only at*
  simp only [encBk] at hbk
  repeat' (first|((with_reducible apply w_drawC0 (id:=12) [8,9] []);kernel_rfl;kernel_rfl;kernel_rfl)|((with_reducible apply w_drawC0 (id:=13) [9,13] []);kernel_rfl;kernel_rfl;kernel_rfl)|((with_reducible apply wc_v);(iterate 3 exact rfl);(with_reducible apply v_loadf_ro);exact rfl;exact hbk;exact rfl)|((with_reducible apply wc_v);(iterate 3 exact rfl);(with_reducible apply v_indexAddr (j:=j));exact rfl;(rw [hj];exact rfl);exact hjl)|((with_reducible apply wc_v);(iterate 3 exact rfl);(with_reducible apply v_loadw_ro);exact rfl;exact he;exact rfl)|((with_reducible apply wc_v);(iterate 3 exact rfl);(with_reducible apply v_field);exact rfl;exact rfl)|((with_reducible apply wl_callvp (f:=155));exact rfl;exact rfl;infer_instance;exact rfl;(intro w' hm;exact hO1 _ w' _ pK hm))|((with_reducible apply wl_callp (f:=109));exact rfl;exact rfl;(intro w' _;exact hH _ w'))|refine sT ?_|refine sS ?_|refine sW ?_|refine sM fun _=> ?_|(refine sC ?_ ?_<;>intro hb<;>try omega)|(refine sCW ?_ ?_<;>intro hb<;>try omega)|fail)
  all_goals first
   |(exfalso;omega)
   |((refine rT1 ?_);rw [decide_eq_false hb];rfl)
   |((refine rT1 ?_);rw [decide_eq_true hb];rfl)
   |trace_state
 rw [if_neg k4]
 repeat' (first|refine sT ?_|refine sS ?_|refine sM fun _=> ?_|(refine sC ?_ ?_<;>intro hb<;>try omega)|fail)
 all_goals first|(exfalso;omega)|((refine rT1 ?_);rfl)|trace_state
def areaF (r:Rct):Int:=if rectOk r=false then 0 else (r.c2 - r.c1+1)*(r.r2 - r.r1+1)
theorem rectArea_at (r:Rct) (w:World):Pure Tryz.prog 121 [.agg (encR r).toArray] w (.tuple #[.int .i64 (areaF r),.int .i64 (rectE r)]):=by
 refine fn_at Tryz.func121 rfl Tryz.ntmps121 rfl ?_
 have h1:=fun w=>rect_at r w
 unfold areaF
 by_cases h:rectOk r=false
 ·
  rw [if_pos h]
  have hne:rectE r≠0:=fun e=>rectE_good (by omega) h
  generalize rectE r=e at h1 hne ⊢
  repeat' (first|((with_reducible apply wl_callp);exact rfl;exact rfl;(intro w hm;exact h1 w))|refine sT ?_|refine sM fun _=> ?_|(refine sC ?_ ?_<;>intro hb<;>try omega)|fail)
  all_goals first|(exfalso;omega)|((refine rT2 ?_);rfl)|trace_state
 ·
  rw [if_neg h]
  have hz:rectE r=0:=by
   rcases Decidable.em (rectE r=0) with e|e
   ·
    exact e
   ·
    exact absurd (rectE_bad e) h
  rw [hz] at h1 ⊢
  have hb:1≤r.c1∧r.c1≤r.c2∧r.c2≤1024∧1≤r.r1∧r.r1≤r.r2∧r.r2≤1024:=by
   have:rectOk r=true:=by simpa using h
   simp only [rectOk,valid,Bool.and_eq_true,decide_eq_true_eq] at this
   omega
  have hm: -9223372036854775808≤(r.c2 - r.c1+1)*(r.r2 - r.r1+1)∧(r.c2 - r.c1+1)*(r.r2 - r.r1+1)≤9223372036854775807:=by
   have h1:(0:Int)≤(r.c2 - r.c1+1)*(r.r2 - r.r1+1):=Int.mul_nonneg (by omega) (by omega)
   have h2:(r.c2 - r.c1+1)*(r.r2 - r.r1+1)≤1024*1024:=Int.mul_le_mul (by omega) (by omega) (by omega) (by omega)
   omega
  repeat' (first|((with_reducible apply wl_callp);exact rfl;exact rfl;(intro w hm;exact h1 w))|((with_reducible apply wl_v);exact rfl;(with_reducible apply v_mul);exact rfl;exact rfl;exact hm)|refine sT ?_|refine sJ ?_|refine sM fun _=> ?_|(refine sC ?_ ?_<;>intro hb<;>try omega)|fail)
  all_goals first|(exfalso;omega)|((refine rT2 ?_);rfl)|trace_state
def revG (b:Bk) (o:Ox):Bool:=match b.grants[o.idx.toNat]? with|some g=>g.rev|none=>true
theorem revG_at {b:Bk} {o:Ox} {j:Nat} (hj:o.idx=(j:Int)) (hl:j<b.grants.length):revG b o=b.grants[j].rev:=by
 unfold revG
 rw [hj,Int.toNat_natCast,List.getElem?_eq_getElem hl]
def tst (b:Bk) (o:Ox):Nat→Bool
 |0=>decide (opE o≠0)
 |1=>decide (o.user<0)||decide (b.users≤o.user)
 |2=>(tgtO o).2 && decide (rectE (tgtO o).1≠0)
 |3=>decide ((o.rd|||o.wr|||o.ow|||o.to) &&& ~~~(allU b.users).1≠0#64)
 |4=>decide (o.kind=9) && (decide (o.idx<0)||decide ((b.grants.length:Int)≤o.idx)||revG b o)
 |5=>rfsF b o
 |6=>decide (o.kind=3) && decide ((ofP o.input).2.2≠0)
 |7=>(decide (o.kind=5) && decide (1024<areaF (tgtO o).1))||(decide (o.kind=7) && decide (64≤b.rules.length))||(decide (o.kind=8) && decide (64≤b.grants.length))
 |_=>false
def cdE (b:Bk) (o:Ox):Int × Int:=
 if tst b o 0 then (1,0) else if tst b o 1 then (2,0) else if tst b o 2 then (4,0) else if tst b o 3 then (2,0) else if tst b o 4 then (8,0)
 else if tst b o 5 then (5,0) else if tst b o 6 then (6,(ofP o.input).2.1) else if tst b o 7 then (7,0) else (0,0)
section
variable {b:Bk} {x:Bv} {o:Ox} {gb gp go:Nat} {w:World} (ho:Ro w go 0 (encOx o)) (hp:Ro w gp 0 [.pointer (some ⟨gb,0,none⟩)]) (hbk:Ro w gb 0 (encBk b x))
include ho
theorem code1_at:Pure Tryz.prog 111 [.pointer (some ⟨go,0,none⟩)] w (.bool (tst b o 0)):=by
 refine fn_at Tryz.func111 rfl Tryz.ntmps111 rfl ?_
 have h1:=fun w=>opCheck_at o w
 unfold tst
 generalize opE o=e at h1 ⊢
 repeat' (first|((with_reducible apply wl_callp);exact rfl;exact rfl;(intro w hm;exact h1 w))|refine sT ?_|refine sS ?_|refine sO ?_|refine sM fun _=> ?_|(refine sC ?_ ?_<;>intro hb<;>try omega)|fail)
 all_goals first|(exfalso;omega)|((refine rT1 ?_);simp;done)|((refine rT1 ?_);rfl)|trace_state
include hp hbk
theorem code2_at:Pure Tryz.prog 113 [.pointer (some ⟨go,0,none⟩),.pointer (some ⟨gp,0,none⟩)] w (.bool (tst b o 1)):=by
 refine fn_at Tryz.func113 rfl Tryz.ntmps113 rfl ?_
 unfold tst
 simp only [encOx] at ho
 simp only [encBk] at hbk
 repeat' (first|refine sT ?_|refine sS ?_|refine sQ ?_|refine sO ?_|refine sOQ ?_|refine sD ?_|refine sM fun _=> ?_|(refine sC ?_ ?_<;>intro hb<;>try omega)|(refine sCQ ?_ ?_<;>intro hb<;>try omega)|fail)
 all_goals first|(exfalso;omega)|((refine rT1 ?_);simp_all;done)|((refine rT1 ?_);simp_all;omega)|trace_state
omit hbk hp in
theorem code3_at {g8 g9:Nat} (h8:Ro w g8 0 (encR (tgtO o).1)) (h9:Ro w g9 0 [.bool (tgtO o).2]):Pure Tryz.prog 114 [.pointer (some ⟨g9,0,none⟩),.pointer (some ⟨g8,0,none⟩)] w (.bool (tst b o 2)):=by
 refine fn_at Tryz.func114 rfl Tryz.ntmps114 rfl ?_
 unfold tst
 have _hz:=ho
 clear _hz ho
 generalize (tgtO o).1=t at h8 ⊢
 generalize (tgtO o).2=c at h9 ⊢
 have h1:=fun w=>rect_at t w
 generalize rectE t=e at h1 ⊢
 cases c
 ·
  repeat' (first|((with_reducible apply wl_callp);exact rfl;exact rfl;(intro w hm;exact h1 w))|refine sT ?_|refine sS ?_|refine sO ?_|refine sM fun _=> ?_|(refine sC ?_ ?_<;>intro hb<;>try omega)|fail)
  all_goals first|(exfalso;omega)|((refine rT1 ?_);rfl)|trace_state
 ·
  repeat' (first|((with_reducible apply wl_callp);exact rfl;exact rfl;(intro w hm;exact h1 w))|refine sT ?_|refine sS ?_|refine sO ?_|refine sM fun _=> ?_|(refine sC ?_ ?_<;>intro hb<;>try omega)|fail)
  all_goals first|(exfalso;omega)|((refine rT1 ?_);simp;done)|((refine rT1 ?_);rfl)|trace_state
omit hbk hp in
theorem code4_at {g6:Nat} (h6:Ro w g6 0 [vS (allU b.users).1]):Pure Tryz.prog 115 [.pointer (some ⟨go,0,none⟩),.pointer (some ⟨g6,0,none⟩)] w (.bool (tst b o 3)):=by
 refine fn_at Tryz.func115 rfl Tryz.ntmps115 rfl ?_
 unfold tst
 generalize (allU b.users).1=a at h6 ⊢
 have ho7:=(Ox.ro ho).2
 simp only [encOx] at ho
 repeat' (first|((with_reducible apply wl_v);exact rfl;(with_reducible apply v_or64);exact rfl;exact rfl)|((with_reducible apply wl_v);exact rfl;(with_reducible apply v_andNot64 (b:=a));exact rfl;exact rfl)|((with_reducible apply wl_v);exact rfl;(with_reducible apply v_neq64 (b:=0#64));exact rfl;exact rfl)|refine sT ?_|refine sS ?_|refine sO ?_|refine sM fun _=> ?_|(refine sC ?_ ?_<;>intro hb<;>try omega)|fail)
 all_goals first|(exfalso;omega)|((refine rT1 ?_);simp;done)|((refine rT1 ?_);rfl)|trace_state
end
section
variable {b:Bk} {x:Bv} {o:Ox} {gb gp go:Nat} {w:World} (ho:Ro w go 0 (encOx o)) (hp:Ro w gp 0 [.pointer (some ⟨gb,0,none⟩)]) (hbk:Ro w gb 0 (encBk b x)) (hr:BRd w b x)
include ho hp hbk hr
set_option maxHeartbeats 4000000 in
theorem code5_at:Pure Tryz.prog 116 [.pointer (some ⟨go,0,none⟩),.pointer (some ⟨gp,0,none⟩)] w (.bool (tst b o 4)):=by
 refine fn_at Tryz.func116 rfl Tryz.ntmps116 rfl ?_
 have ht:tst b o 4=(decide (o.kind=9) && (decide (o.idx<0)||decide ((b.grants.length:Int)≤o.idx)||revG b o)):=rfl
 rw [ht]
 clear ht
 by_cases h1:o.kind=9∧0≤o.idx∧o.idx<(b.grants.length:Int)
 ·
  obtain ⟨h9,hi1,hi2⟩:=h1
  obtain ⟨j,hj⟩: ∃ j:Nat,o.idx=(j:Int):=⟨o.idx.toNat,by omega⟩
  have hjl:j<b.grants.length:=by omega
  rw [revG_at hj hjl,decide_eq_true h9,decide_eq_false (show ¬ o.idx<0 by omega),decide_eq_false (show ¬ (b.grants.length:Int)≤o.idx by omega),Bool.true_and,Bool.false_or,Bool.false_or]
  have hg:=hr.g
  obtain ⟨ae1,ar1,ag1,al1,as1,ce1,cr1,cg1,cl1,cs1⟩:=x
  dsimp only at*
  obtain ⟨Ag,cg2,eg,hg1,hg2,hg3⟩:=hg
  cases eg
  obtain ⟨gg,og,rfl,hrg⟩:=hg3 (by omega)
  obtain ⟨_,_,_,_,he⟩:=Gn.ro (hrg.elem encGn_len j hjl)
  generalize b.grants[j].rev=rv at he ⊢
  obtain ⟨us,E,RU,G,L,M,st⟩:=b
  dsimp only at*
  simp only [encBk] at hbk
  simp only [encOx] at ho
  clear hr
  repeat' (first|((with_reducible apply wq_v);exact rfl;(with_reducible apply v_load_ro (o:=0) (off:=0));exact ho;exact rfl;exact rfl)|((with_reducible apply wq_v);exact rfl;(with_reducible apply v_indexAddr (j:=j));exact rfl;(rw [← hj];exact rfl);exact hjl)|((with_reducible apply wq_v);exact rfl;(with_reducible apply v_load1_ro);exact rfl;exact he)|refine sT ?_|refine sS ?_|refine sQ ?_|refine sO ?_|refine sOQ ?_|refine sD ?_|refine sM fun _=> ?_|(refine sC ?_ ?_<;>intro hb<;>try omega)|(refine sCQ ?_ ?_<;>intro hb<;>try omega)|fail)
  all_goals first|(exfalso;omega)|((refine rT1 ?_);rfl)|((refine rT1 ?_);simp_all;done)|trace_state
 ·
  have he:(decide (o.kind=9) && (decide (o.idx<0)||decide ((b.grants.length:Int)≤o.idx)||revG b o))=decide (o.kind=9):=by
   by_cases h9:o.kind=9
   ·
    by_cases hi:o.idx<0
    ·
     simp [hi]
    ·
     have:(b.grants.length:Int)≤o.idx:=by
      have:=fun h=>h1 ⟨h9,h⟩
      omega
     simp [this]
   ·
    simp [h9]
  rw [he]
  clear he
  obtain ⟨us,E,RU,G,L,M,st⟩:=b
  dsimp only at*
  simp only [encBk] at hbk
  simp only [encOx] at ho
  clear hr
  repeat' (first|((with_reducible apply wq_v);exact rfl;(with_reducible apply v_load_ro (o:=0) (off:=0));exact ho;exact rfl;exact rfl)|refine sT ?_|refine sS ?_|refine sQ ?_|refine sO ?_|refine sOQ ?_|refine sD ?_|refine sM fun _=> ?_|(refine sC ?_ ?_<;>intro hb<;>try omega)|(refine sCQ ?_ ?_<;>intro hb<;>try omega)|fail)
  all_goals first|(exfalso;omega)|((refine rT1 ?_);simp_all;done)|trace_state
omit hp hbk hr in
theorem code6_at (h: ∀ w' H,Mem w w' H→Pure Tryz.prog 118 [.pointer (some ⟨gb,0,none⟩),.agg (encOx o).toArray] w' (.bool (rfsF b o))) (hp:Ro w gp 0 [.pointer (some ⟨gb,0,none⟩)]):Pure Tryz.prog 117 [.pointer (some ⟨gp,0,none⟩),.pointer (some ⟨go,0,none⟩)] w (.bool (tst b o 5)):=by
 refine fn_at Tryz.func117 rfl Tryz.ntmps117 rfl ?_
 have ht:tst b o 5=rfsF b o:=rfl
 rw [ht]
 generalize rfsF b o=c at h ⊢
 repeat' (first|((with_reducible apply wl_callp (f:=118));exact rfl;exact rfl;(intro w' hm;exact h w' _ hm))|refine sT ?_|refine sS ?_|refine sO ?_|refine sM fun _=> ?_|(refine sC ?_ ?_<;>intro hb<;>try omega)|fail)
 all_goals first|(exfalso;omega)|((refine rT1 ?_);rfl)|trace_state
set_option maxHeartbeats 4000000 in
theorem code8_at {g8:Nat} (h8:Ro w g8 0 (encR (tgtO o).1)):Pure Tryz.prog 120 [.pointer (some ⟨g8,0,none⟩),.pointer (some ⟨go,0,none⟩),.pointer (some ⟨gp,0,none⟩)] w (.bool (tst b o 7)):=by
 refine fn_at Tryz.func120 rfl Tryz.ntmps120 rfl ?_
 have ht:tst b o 7=((decide (o.kind=5) && decide (1024<areaF (tgtO o).1))||(decide (o.kind=7) && decide (64≤b.rules.length))||(decide (o.kind=8) && decide (64≤b.grants.length))):=rfl
 rw [ht]
 clear ht
 have hA:=fun w=>rectArea_at (tgtO o).1 w
 generalize areaF (tgtO o).1=ar at hA ⊢
 generalize (tgtO o).1=t at h8 hA
 obtain ⟨us,E,RU,G,L,M,st⟩:=b
 dsimp only at*
 simp only [encBk] at hbk
 simp only [encOx] at ho
 clear hr
 repeat' (first|((with_reducible apply wl_v);exact rfl;(with_reducible apply v_load_ro (o:=0) (off:=0));exact ho;exact rfl;exact rfl)|((with_reducible apply wl_callp);exact rfl;exact rfl;(intro w hm;exact hA w))|refine sT ?_|refine sS ?_|refine sQ ?_|refine sO ?_|refine sOQ ?_|refine sD ?_|refine sM fun _=> ?_|(refine sC ?_ ?_<;>intro hb<;>try omega)|(refine sCQ ?_ ?_<;>intro hb<;>try omega)|fail)
 all_goals first|(exfalso;omega)|((refine rT1 ?_);simp_all;done)|((refine rT1 ?_);simp_all;omega)|trace_state
end
section
variable {b:Bk} {o:Ox} {go gat:Nat} {w0:World} {H:List Blk}
set_option maxHeartbeats 4000000 in
theorem code7_in (hW:Words w0) (hgo:In (.box go 41 (encOx o)) H):FnIn Tryz.prog 119 [.pointer (some ⟨go,0,none⟩),.pointer (some ⟨gat,0,none⟩)] w0 (.box gat 3 [.int .i64 0]::H) fun v H' =>v= .bool (tst b o 6)∧H' = .box gat 3 [.int .i64 (if tst b o 6 then (ofP o.input).2.1 else 0)]::H:=by
 refine fn_in Tryz.func119 rfl Tryz.ntmps119 rfl ?_
 have ht:tst b o 6=(decide (o.kind=3) && decide ((ofP o.input).2.2≠0)):=rfl
 rw [ht]
 clear ht
 have hO:=fun (w' :World) (H' :List Blk) (hm:Mem w0 w' H')=>Of_at o.input w' (hW.next hm)
 generalize ofP o.input=r at hO ⊢
 obtain ⟨⟨fm,v,t⟩,at_,e⟩:=r
 simp only [ofV,encM] at hO
 dsimp only at*
 by_cases h3:o.kind=3
 ·
  rw [decide_eq_true h3,Bool.true_and]
  by_cases he:e≠0
  ·
   rw [decide_eq_true he,if_pos rfl]
   repeat' (first|((with_reducible apply wl_v);exact rfl;(with_reducible apply v_load_box);exact rfl;exact .tl hgo;exact rfl)|((with_reducible apply wl_call (f:=106));exact rfl;exact rfl;(intro w' hm;exact hO w' _ hm);rintro _ _ ⟨A,cap,rfl,rfl⟩)|refine sT ?_|refine sS ?_|refine sM fun _=> ?_|(refine sC ?_ ?_<;>intro hb<;>try omega)|fail)
   all_goals first|(exfalso;omega)|(exact ret1 eIO rfl rfl (H' := .box gat 3 [.int .i64 at_]::H) mS ⟨congrArg Value.bool (by first|rfl|(simp [he];done)),rfl⟩)|trace_state
  ·
   rw [decide_eq_false he,if_neg (by decide)]
   repeat' (first|((with_reducible apply wl_v);exact rfl;(with_reducible apply v_load_box);exact rfl;exact .tl hgo;exact rfl)|((with_reducible apply wl_call (f:=106));exact rfl;exact rfl;(intro w' hm;exact hO w' _ hm);rintro _ _ ⟨A,cap,rfl,rfl⟩)|refine sT ?_|refine sS ?_|refine sM fun _=> ?_|(refine sC ?_ ?_<;>intro hb<;>try omega)|fail)
   all_goals first|(exfalso;omega)|(exact ret1 eIO rfl rfl (H' := .box gat 3 [.int .i64 0]::H) mS ⟨congrArg Value.bool (by first|rfl|(simp [he];done)),rfl⟩)|trace_state
 ·
  rw [decide_eq_false h3,Bool.false_and,if_neg (by decide)]
  repeat' (first|((with_reducible apply wl_v);exact rfl;(with_reducible apply v_load_box);exact rfl;exact .tl hgo;exact rfl)|refine sT ?_|refine sS ?_|refine sM fun _=> ?_|(refine sC ?_ ?_<;>intro hb<;>try omega)|fail)
  all_goals first|(exfalso;omega)|(exact ret1 eIO rfl rfl (H' := .box gat 3 [.int .i64 0]::H) mS ⟨rfl,rfl⟩)|trace_state
end
end Go.SL
namespace Go.SL
open Go Go.RowKit
section
variable {P:Program} {n:Fr} {w0:World} {Q:Post} {s:Slots} {H:List Blk} {rest:List Oper} {ty:TypeId} {p:String} {af:Array Edge}
theorem wl_appendG {d t e n' m c' g2 o2 sz by_:Nat} {B:Option Addr} {x y:Operand} {xs news:List Value} {ops:Array Oper} [ht:Und P t (.slice e)] [he:Elem P e sz by_] (hn:Nat.blt d n.sz=true)
  (hx:ev s x=some (.slice B n' n')) (hy:ev s y=some (.slice (some ⟨g2,o2,none⟩) m c')) (hread: ∀ w,Mem w0 w H→Reads w (.slice B n' n') n' xs) (hxl:xs.length=n' *sz)
  (hnews: ∀ w,Mem w0 w H→Cells w g2 o2 news) (hl:news.length=m*sz) (h1: ∀ u∈news,u.oneCell' =true) (hm0:0<m) (hby:(n' +m)*by_≤140737488355328) (h63:n' +m≤maxLen)
  (k: ∀ g' cap',WL P n w0 ops rest Q ((d,sl (some g') (n' +m) cap')::s) (.own (some g') e sz (n' +m) cap' (xs++news)::H)):
  WL P n w0 ops (⟨some d,.call { callee:= .builtin .append,args:= #[x,y],argTypes:= #[t,t] },ty,p,af,none⟩::rest) Q s H:=by
 intro a w hs hm
 obtain ⟨i,z,i1,i2,i3,i4,i5,i6⟩:=he.out
 subst i2
 subst i3
 have hsrc:Src P i.size t (.slice (some ⟨g2,o2,none⟩) m c') m news w:=Src.ofSlice w ht.out ⟨g2,o2,none⟩ m c' news hl (fun j u hu=>by rw [addr_add];exact hnews w hm j u hu) h1
 obtain ⟨B',c2,hB,_,_,hrd⟩:=hread w hm
 cases hB
 have hold:(Builtin.firstCells i.size n' (.slice B n' n')).run P w.drew= .ok xs.toArray w.drew:=by
  rcases Nat.eq_zero_or_pos n' with rfl|hpos
  ·
   have e0:xs= []:=List.eq_nil_of_length_eq_zero (by rw [hxl,Nat.zero_mul])
   subst e0
   cases B with
   |none=>exact run_firstCells_none w.drew i.size 0 0 0
   |some b=>exact run_firstCells_some w.drew i.size 0 b 0 0 [] (by simp) (fun j u hu=>by simp at hu)
  ·
   obtain ⟨g,o,rfl,hro⟩:=hrd hpos
   refine run_firstCells_some w.drew i.size n' ⟨g,o,none⟩ n' n' _ hxl fun j u hu=> ?_
   rw [addr_add]
   exact hro.cells j u hu
 have hfits:Builtin.nextslicecap (n' +m) n' *i.bytes≤281474976710656:=growslice_fits (by omega) hby
 have hr:=run_append_grow_src (P:=P) w t t ty e i z ht.out i1 i4 B n' n' xs hold (.slice (some ⟨g2,o2,none⟩) m c') m news hsrc (by omega) (by simp only [maxLen] at h63;omega) hfits
 have hge:=grownCap_ge w (n' +m) n' e
 have hcm2:grownCap w (n' +m) n' e≤maxLen:=grownCap_le_maxLen w (n' +m) n' e (by omega)
 have hlen2:(xs++news).length=(n' +m)*i.size:=by rw [List.length_append,hxl,hl,Nat.add_mul]
 refine wpList_plain rfl fun K hK=> ?_
 unfold Oper.wp execOp
 simp only [resolve,invoke,builtin,Sem.run_bind,Sem.run_pure,Result.andThen_ok,List.map_toArray,List.map_cons,List.map_nil,hs.eval x _ hx,hs.eval y _ hy,hr,Oper.upon]
 refine hK _ _ (k w.heap.size _ _ _ (hs.put (Nat.blt_eq ▸ hn) _) ?_)
 refine hm.new ⟨rfl,rfl,rfl,by simp,fun k hk _=>heap_alloc_old w.drew _ hk⟩ ⟨hlen2,hge,hcm2,(Builtin.zeroCells z.cells (grownCap w (n' +m) n' e - (n' +m))).toList,?_,?_⟩ fun k hk=> ?_
 ·
  rw [List.length_append,hlen2,Array.length_toList,size_zeroCells,i5,← Nat.add_mul]
  congr 1
  omega
 ·
  rw [show (xs++news++(Builtin.zeroCells z.cells (grownCap w (n' +m) n' e - (n' +m))).toList).toArray=(xs++news).toArray++Builtin.zeroCells z.cells (grownCap w (n' +m) n' e - (n' +m)) by apply Array.ext';simp]
  exact heap_alloc_new w.drew _
 ·
  cases hk
  exact Nat.le_refl _
end
end Go.SL
