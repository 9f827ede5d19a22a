/-
  Lemmas and walks, put together: Id Ie If Fo.
-/
import Derived.Test.YthefeclkaaocnaaGreatDoorKj27
set_option linter.unusedSimpArgs false
set_option linter.unusedVariables false
set_option maxRecDepth 20000
namespace Go.SL
open Go Go.Proofs
attribute [local irreducible] W WL WQ WG WA WX WLI WR WT WC WE VOp RW thn blk bG scp bg bi bT aQ FnIn FnP ceP
def eu (all:BitVec 64):Int→List Ev→Int
 |_,[]=>0
 |last,x::l=>if x.step≤last then 12 else if (dh x.kind && eU all x.user)=false then 2 else if aF x.rect=false then 3 else if (decide (x.to &&& ~~~all=0#64) && eU x.to x.user)=false then 2 else eu all x.step l
def HQ (all:BitVec 64) (x:Rv):Bool:=decide (0≤x.call.node) && decide (x.call.node<256) && decide (46≤x.fn) && decide (x.fn≤50) && decide (0≤x.grant) && decide (x.grant<64) && decide (x.to &&& ~~~all=0#64)
def fG (all:BitVec 64):Int→List Rv→Int
 |_,[]=>0
 |last,x::l=>if x.step<last then 12 else if (x.call.at_.valid && aF x.rect)=false then 3 else if HQ all x=false then 2 else fG all x.step l
def qZ (u:Int) (L:List Ev) (M:List Rv):Int:=
 if u<0∨64<u∨u=0 then 2 else if eu (db u).1 (-1) L≠0 then eu (db u).1 (-1) L else fG (db u).1 (-1) M
theorem wF {r:Rct}:aF r=false↔dU r≠0:=⟨fun h=>by rw [dU,h];decide,iy⟩
theorem Ev.ro {w:World} {g o:Nat} {r:Ev} (h:Ro w g o (aL r)):Ro w g o [.int .i64 r.step]∧Ro w g (o+1) [.int .i64 r.user]∧Ro w g (o+2) [.int .u8 r.kind]∧Ro w g (o+3) (bQ r.rect)∧Ro w g (o+7) [.bool r.done]∧Ro w g (o+8) [vS r.to]:=
 ⟨h.take (k:=1),(h.drop (k:=1)).take (k:=1),(h.drop (k:=2)).take (k:=1),(h.drop (k:=3)).take (k:=4),(h.drop (k:=7)).take (k:=1),h.drop (k:=8)⟩
def kO (L:List Ev) (i:Nat):Int:=if i=0 then -1 else ((L[i - 1]?).map Ev.step).getD 0
def kN (L:List Rv) (i:Nat):Int:=if i=0 then -1 else ((L[i - 1]?).map Rv.step).getD 0
set_option maxHeartbeats 8000000 in
theorem Bp (u:Int) (L:List Ev) (M:List Rv) (lv mv:Value) (w:World) (hl:Reads w lv L.length (L.flatMap aL)) (hm:Reads w mv M.length (M.flatMap bU)):ax Tryz.prog 53 [.int .i64 u,lv,mv] w (.int .i64 (qZ u L M)):=by
 obtain ⟨Al,cl,rfl,hl1,hl2,hl3⟩:=hl
 obtain ⟨Am,cm,rfl,hm1,hm2,hm3⟩:=hm
 refine aq Tryz.func53 rfl Tryz.ntmps53 rfl ?_
 have hA:=fun w=>yO u w
 unfold qZ
 have hE:(db u).2=if u<0∨64<u then 3 else 0:=by unfold db;split<;>rfl
 obtain ⟨sa,has⟩: ∃ sa,sa=(db u).1:=⟨_,rfl⟩
 rw [← has,hE] at hA
 rw [← has]
 by_cases h1:u<0∨64<u∨u=0
 ·
  rw [if_pos h1]
  by_cases h2:u<0∨64<u
  ·
   rw [if_pos h2] at hA
   repeat' (first|(apply aa;exact rfl;exact rfl;(intro w hm;exact hA w))|refine sT ?_|refine sM fun _=> ?_|(refine sC ?_ ?_<;>intro hb<;>try omega)|fail)
   all_goals first|(exfalso;omega)|((refine rT1 ?_);rfl)|trace_state
  ·
   rw [if_neg h2] at hA
   repeat' (first|(apply aa;exact rfl;exact rfl;(intro w hm;exact hA w))|refine sT ?_|refine sM fun _=> ?_|(refine sC ?_ ?_<;>intro hb<;>try omega)|fail)
   all_goals first|(exfalso;omega)|((refine rT1 ?_);rfl)|trace_state
 rw [if_neg h1]
 rw [if_neg (by omega)] at hA
 repeat' (first|(apply aa;exact rfl;exact rfl;(intro w hm;exact hA w))|refine sT ?_|refine sM fun _=> ?_|(refine sC ?_ ?_<;>intro hb<;>try omega)|fail)
 all_goals try (exfalso;omega)
 obtain ⟨ef,hef⟩: ∃ ef,eu sa (-1) L=ef:=⟨_,rfl⟩
 rw [hef]
 refine ay [0,1,2,7,25,26] rfl (fun i:Nat=> [(9,.int .i64 (kO L i)),(27,.int .i64 (i:Int))]) (fun _=> []) (fun i=>i≤L.length∧ef=eu sa (kO L i) (L.drop i)) (fun i=>L.length - i) 0 ⟨NY _,hef.symm⟩ sB mS ?_
 rintro i ⟨hi,hrec⟩
 by_cases hlt:i<L.length
 ·
  obtain ⟨gl,ol,rfl,hrl⟩:=hl3 (by omega)
  have he1:=hrl.elem bw i hlt
  have hnext:kO L (i+1)=L[i].step:=by unfold kO;rw [if_neg (by omega),Pa,NE hlt];rfl
  rw [NL hlt,eu] at hrec
  generalize kO L i=last at hrec
  generalize L[i]=r at hnext he1 hrec
  have hck:=fun w=>gR r.rect w
  have hhs:=fun w=>qw sa r.user w
  have hht:=fun w=>qw r.to r.user w
  have hmu:=fun w=>BA r.kind w
  simp only [wF] at hrec
  generalize dU r.rect=re at hck hrec
  clear has
  generalize dh r.kind=mk at hmu hrec
  generalize eU sa r.user=hb1 at hhs hrec
  generalize eU r.to r.user=hb2 at hht hrec
  repeat' (first|(apply ak;exact rfl;apply aA;exact rfl;exact he1;exact rfl)|(apply aa;exact rfl;exact rfl;(intro w hm;exact hmu w))|(apply aa (f:=109);exact rfl;exact rfl;(intro w' _;first|exact hhs w' |exact hht w'))|(apply aa;exact rfl;exact rfl;(intro w hm;exact hck w))|(apply ak;exact rfl;apply dY (b:=sa);exact rfl;exact rfl)|(apply ak;exact rfl;apply iM (b:=0#64);exact rfl;exact rfl)|refine sT ?_|refine sS ?_|refine sN ?_|refine sO ?_|refine sM fun _=> ?_|(refine sC ?_ ?_<;>intro hb<;>try omega)|fail)
  all_goals try (have hnl: ¬ r.step≤last:=by omega)
  all_goals first
   |(exfalso;omega)
   |(refine ⟨i+1,⟨hlt,?_⟩,by omega,by (try simp only [hnext]);exact sB,by (try simp only [hnext]);exact sB,by exact mS⟩;rw [hnext];simp_all;done)
   |((refine rT1 ?_);simp_all;done)
   |trace_state
 ·
  have e:i=L.length:=by omega
  subst e
  rw [NW,eu] at hrec
  subst hrec
  rw [if_neg (by decide)]
  obtain ⟨rf,hrf⟩: ∃ rf,fG sa (-1) M=rf:=⟨_,rfl⟩
  rw [hrf]
  repeat' (first|refine sT ?_|refine sM fun _=> ?_|(refine sC ?_ ?_<;>intro hb<;>try omega)|fail)
  refine ay [0,2,7,71,72] rfl (fun i:Nat=> [(9,.int .i64 (kN M i)),(73,.int .i64 (i:Int))]) (fun _=> []) (fun i=>i≤M.length∧rf=fG sa (kN M i) (M.drop i)) (fun i=>M.length - i) 0 ⟨NY _,hrf.symm⟩ sB mS ?_
  rintro i ⟨hi,hrec⟩
  by_cases hlt:i<M.length
  ·
   obtain ⟨gm,om,rfl,hrm⟩:=hm3 (by omega)
   have he1:=hrm.elem eF i hlt
   have hnext:kN M (i+1)=M[i].step:=by unfold kN;rw [if_neg (by omega),Pa,NE hlt];rfl
   rw [NL hlt,fG] at hrec
   generalize kN M i=last at hrec
   generalize M[i]=r at hnext he1 hrec
   have hck:=fun w=>gR r.rect w
   have hV: ∀ w',ax Tryz.prog 64 [.agg (cu r.call.at_).toArray] w' (.bool r.call.at_.valid):=fun w' =>jL r.call.at_.col r.call.at_.row w'
   have hok:HQ sa r=false↔(r.call.node<0∨256≤r.call.node∨r.fn<46∨50<r.fn∨r.grant<0∨64≤r.grant∨r.to &&& ~~~sa≠0#64):=by
    simp only [HQ,OQ,decide_eq_false_iff_not,Int.not_le,Int.not_lt,or_assoc]
   simp only [hok] at hrec
   clear hok
   simp only [OQ,wF] at hrec
   generalize dU r.rect=re at hck hrec
   clear has
   generalize r.call.at_.valid=vd at hV hrec
   by_cases h12:r.step<last
   ·
    rw [if_pos h12] at hrec
    repeat' (first|(apply ak;exact rfl;apply aA;exact rfl;exact he1;exact rfl)|(apply aa;exact rfl;exact rfl;(intro w hm;exact hV w))|(apply aa;exact rfl;exact rfl;(intro w hm;exact hck w))|(apply ak;exact rfl;apply dY (b:=sa);exact rfl;exact rfl)|(apply ak;exact rfl;apply iM (b:=0#64);exact rfl;exact rfl)|refine sT ?_|refine sS ?_|refine sN ?_|refine sO ?_|refine sM fun _=> ?_|(refine sC ?_ ?_<;>intro hb<;>try omega)|fail)
    all_goals first|(exfalso;omega)|((refine rT1 ?_);rw [hrec];done)|trace_state
   rw [if_neg h12] at hrec
   by_cases h3:vd=false∨re≠0
   ·
    rw [if_pos h3] at hrec
    repeat' (first|(apply ak;exact rfl;apply aA;exact rfl;exact he1;exact rfl)|(apply aa;exact rfl;exact rfl;(intro w hm;exact hV w))|(apply aa;exact rfl;exact rfl;(intro w hm;exact hck w))|(apply ak;exact rfl;apply dY (b:=sa);exact rfl;exact rfl)|(apply ak;exact rfl;apply iM (b:=0#64);exact rfl;exact rfl)|refine sT ?_|refine sS ?_|refine sN ?_|refine sO ?_|refine sM fun _=> ?_|(refine sC ?_ ?_<;>intro hb<;>try omega)|fail)
    all_goals first
     |(exfalso;omega)
     |(exfalso;rcases h3 with h3|h3<;>simp_all;done)
     |((refine rT1 ?_);rw [hrec];done)
     |trace_state
   rw [if_neg h3] at hrec
   obtain ⟨h31,h32⟩:=not_or.1 h3
   have h31:vd=true:=by simpa using h31
   have h32:re=0:=by omega
   subst h31;subst h32
   by_cases hD:r.call.node<0∨256≤r.call.node∨r.fn<46∨50<r.fn∨r.grant<0∨64≤r.grant∨r.to &&& ~~~sa≠0#64
   ·
    rw [if_pos hD] at hrec
    repeat' (first|(apply ak;exact rfl;apply aA;exact rfl;exact he1;exact rfl)|(apply aa;exact rfl;exact rfl;(intro w hm;exact hV w))|(apply aa;exact rfl;exact rfl;(intro w hm;exact hck w))|(apply ak;exact rfl;apply dY (b:=sa);exact rfl;exact rfl)|(apply ak;exact rfl;apply iM (b:=0#64);exact rfl;exact rfl)|refine sT ?_|refine sS ?_|refine sN ?_|refine sO ?_|refine sM fun _=> ?_|(refine sC ?_ ?_<;>intro hb<;>try omega)|fail)
    all_goals first
     |(exfalso;omega)
     |((refine rT1 ?_);rw [hrec];done)
     |(exfalso;rcases hD with h|h|h|h|h|h|h<;>first|omega|exact absurd ‹_› h)
     |trace_state
   ·
    rw [if_neg hD] at hrec
    repeat' (first|(apply ak;exact rfl;apply aA;exact rfl;exact he1;exact rfl)|(apply aa;exact rfl;exact rfl;(intro w hm;exact hV w))|(apply aa;exact rfl;exact rfl;(intro w hm;exact hck w))|(apply ak;exact rfl;apply dY (b:=sa);exact rfl;exact rfl)|(apply ak;exact rfl;apply iM (b:=0#64);exact rfl;exact rfl)|refine sT ?_|refine sS ?_|refine sN ?_|refine sO ?_|refine sM fun _=> ?_|(refine sC ?_ ?_<;>intro hb<;>try omega)|fail)
    all_goals first
     |(exfalso;omega)
     |(exfalso;exact hD (.inr (.inr (.inr (.inr (.inr (.inr hb)))))))
     |(refine ⟨i+1,⟨hlt,?_⟩,by omega,by (try simp only [hnext]);exact sB,by (try simp only [hnext]);exact sB,by exact mS⟩;rw [hnext,hrec];done)
     |trace_state
  ·
   have e:i=M.length:=by omega
   subst e
   rw [NW,fG] at hrec
   subst hrec
   repeat' (first|refine sT ?_|refine sM fun _=> ?_|(refine sC ?_ ?_<;>intro hb<;>try omega)|fail)
   all_goals first|(exfalso;omega)|((refine rT1 ?_);rfl)|trace_state
def ofS (u:Int):BitVec 64 × Int:=if u<0∨64≤u then (0#64,3) else (1#64<<<u.toNat,0)
theorem Lm (u:Int) (lv:Value) (w:World) (hl:Reads w lv 1 [.int .i64 u]):ax Tryz.prog 122 [lv] w (.tuple #[vS (ofS u).1,.int .i64 (ofS u).2]):=by
 obtain ⟨Al,cl,rfl,hl1,hl2,hl3⟩:=hl
 obtain ⟨gl,ol,rfl,hrl⟩:=hl3 (by omega)
 have he1:=hrl.cellV 0 (v:= .int .i64 u) rfl
 refine aq Tryz.func122 rfl Tryz.ntmps122 rfl ?_
 by_cases h:u<0∨64≤u
 ·
  rw [ofS,if_pos h]
  repeat' (first|refine sT ?_|refine sS ?_|refine sO ?_|refine sM fun _=> ?_|(refine sC ?_ ?_<;>intro hb<;>try omega)|fail)
  refine ay [7,8] rfl (fun _:Unit=> [(4,.int .u64 0),(9,.int .i64 0)]) (fun _=> []) (fun _=>True) (fun _=>0) () trivial sB mS ?_
  rintro _ _
  repeat' (first|(apply ak;exact rfl;apply aj (j:=0);exact rfl;exact rfl;omega)|refine sT ?_|refine sS ?_|refine sO ?_|refine sM fun _=> ?_|(refine sC ?_ ?_<;>intro hb<;>try omega)|fail)
  all_goals first|(exfalso;omega)|((refine rT2 ?_);rfl)|trace_state
 ·
  rw [ofS,if_neg h]
  obtain ⟨m,rfl⟩: ∃ m:Nat,u=(m:Int):=⟨u.toNat,by omega⟩
  repeat' (first|refine sT ?_|refine sS ?_|refine sO ?_|refine sM fun _=> ?_|(refine sC ?_ ?_<;>intro hb<;>try omega)|fail)
  refine ay [7,8] rfl (fun i:Nat=> [(4,vS (if i=0 then 0#64 else 1#64<<<m)),(9,.int .i64 (i:Int))]) (fun _=> []) (fun i=>i≤1) (fun i=>1 - i) 0 (by omega) sB mS ?_
  rintro i hi
  rcases (by omega:i=0∨i=1) with rfl|rfl
  ·
   repeat' (first|(apply ak;exact rfl;apply aj (j:=0);exact rfl;exact rfl;omega)|(apply ak;exact rfl;apply xD (a:=1#64) (m:=m);exact rfl;exact rfl;omega)|(apply ak;exact rfl;apply qE (a:=0#64);exact rfl;exact rfl)|refine sT ?_|refine sS ?_|refine sN ?_|refine sO ?_|refine sM fun _=> ?_|(refine sC ?_ ?_<;>intro hb<;>try omega)|fail)
   all_goals first
    |(exfalso;omega)
    |(simp only [BitVec.zero_or];refine ⟨1,by omega,by omega,by exact sB,by exact sB,by exact mS⟩;done)
    |trace_state
  ·
   repeat' (first|refine sT ?_|refine sS ?_|refine sO ?_|refine sM fun _=> ?_|(refine sC ?_ ?_<;>intro hb<;>try omega)|fail)
   all_goals first|(exfalso;omega)|((refine rT2 ?_);rfl)|trace_state
def jb:Ev:=⟨0,0,0,aM,false,0#64⟩
def evT (x:Ox) (N:List Gn):Rct:=if x.kind=9 then ((N[x.idx.toNat]?).map Gn.rect).getD aM else x.rect
def evO (step:Int) (x:Ox) (dn:Bool) (L:List Rl) (N:List Gn):Ev × Int:=
 if dh x.kind=false then (jb,2)
 else if step<0∨opE x≠0∨x.user<0∨64≤x.user then (jb,2)
 else if (eL 64 L).2≠0 then (jb,(eL 64 L).2)
 else if (kR 64 N).2≠0 then (jb,(kR 64 N).2)
 else if x.kind=9∧(x.idx<0∨(N.length:Int)≤x.idx) then (jb,6)
 else if aF (evT x N)=false then (jb,3)
 else (⟨step,x.user,x.kind,evT x N,dn,(ovE (evT x N) L).1.2.2|||(ofS x.user).1⟩,0)
set_option maxHeartbeats 16000000 in
theorem JW (step:Int) (x:Ox) (dn:Bool) (L:List Rl) (N:List Gn) (lv nv:Value) (w:World) (hl:Reads w lv L.length (L.flatMap bn)) (hn:Reads w nv N.length (N.flatMap bA)):
  ax Tryz.prog 56 [.int .i64 step,.agg (bu x).toArray,.bool dn,lv,nv] w (.tuple #[.agg (aL (evO step x dn L N).1).toArray,.int .i64 (evO step x dn L N).2]):=by
 have hacl:=fun (w' :World) (H:List Blk) (hm:Mem w w' H)=>ky 64 L lv w' (hl.of_w0 hm)
 have hgnt:=fun (w' :World) (H:List Blk) (hm:Mem w w' H)=>rI 64 N nv w' (hn.of_w0 hm)
 have hov:=fun (r:Rct) (w' :World) (H:List Blk) (hm:Mem w w' H)=>yF r L lv w' (hl.of_w0 hm)
 obtain ⟨Al,cl,rfl,hl1,hl2,hl3⟩:=hl
 obtain ⟨An,cn,rfl,hn1,hn2,hn3⟩:=hn
 refine aq Tryz.func56 rfl Tryz.ntmps56 rfl ?_
 have hop:=fun w=>uq x w
 have hmu:=fun w=>px x w
 unfold evO
 generalize dh x.kind=mk at hmu ⊢
 generalize opE x=oe at hop ⊢
 generalize eL 64 L=ae at hacl ⊢
 generalize kR 64 N=ne at hgnt ⊢
 cases mk with
 |false=>
  rw [if_pos rfl]
  repeat' (first|(apply aa;exact rfl;exact rfl;(intro w hm;exact hop w))|(apply aa;exact rfl;exact rfl;(intro w hm;exact hmu w))|refine sT ?_|refine sS ?_|refine sM fun _=> ?_|(refine sC ?_ ?_<;>intro hb<;>try omega)|fail)
  all_goals first|(exfalso;omega)|((refine eV ?_);rfl)|trace_state
 |true=>
  rw [if_neg (by decide)]
  by_cases h1:step<0∨oe≠0∨x.user<0∨64≤x.user
  ·
   rw [if_pos h1]
   repeat' (first|(apply aa;exact rfl;exact rfl;(intro w hm;exact hop w))|(apply aa;exact rfl;exact rfl;(intro w hm;exact hmu w))|refine sT ?_|refine sS ?_|refine sM fun _=> ?_|(refine sC ?_ ?_<;>intro hb<;>try omega)|fail)
   all_goals first|(exfalso;omega)|((refine eV ?_);rfl)|trace_state
  rw [if_neg h1]
  by_cases h2:ae.2≠0
  ·
   rw [if_pos h2]
   repeat' (first|(apply aa;exact rfl;exact rfl;(intro w hm;exact hop w))|(apply aa;exact rfl;exact rfl;(intro w hm;exact hmu w))|(apply aa (f:=51);exact rfl;exact rfl;(intro w' hm;exact hacl w' _ hm))|refine sT ?_|refine sS ?_|refine sM fun _=> ?_|(refine sC ?_ ?_<;>intro hb<;>try omega)|fail)
   all_goals first|(exfalso;omega)|((refine eV ?_);rfl)|trace_state
  rw [if_neg h2]
  by_cases h3:ne.2≠0
  ·
   rw [if_pos h3]
   repeat' (first|(apply aa;exact rfl;exact rfl;(intro w hm;exact hop w))|(apply aa;exact rfl;exact rfl;(intro w hm;exact hmu w))|(apply aa (f:=51);exact rfl;exact rfl;(intro w' hm;exact hacl w' _ hm))|(apply aa (f:=52);exact rfl;exact rfl;(intro w' hm;exact hgnt w' _ hm))|refine sT ?_|refine sS ?_|refine sM fun _=> ?_|(refine sC ?_ ?_<;>intro hb<;>try omega)|fail)
   all_goals first|(exfalso;omega)|((refine eV ?_);rfl)|trace_state
  rw [if_neg h3]
  obtain ⟨sa,has⟩: ∃ sa,sa=ofS x.user:=⟨_,rfl⟩
  have hof:=fun (w' :World) (g:Nat) (H:List Blk) (hi:In (.own (some g) 3 1 1 1 [.int .i64 x.user]) H) (hm:Mem w w' H)=>Lm x.user (.slice (some ⟨g,0,none⟩) 1 1) w' (Reads.of_own (A:=some g) hm hi)
  rw [← has] at hof ⊢
  by_cases h9:x.kind=9
  ·
   by_cases h4:x.idx<0∨(N.length:Int)≤x.idx
   ·
    rw [if_pos ⟨h9,h4⟩]
    repeat' (first|(apply aa;exact rfl;exact rfl;(intro w hm;exact hop w))|(apply aa;exact rfl;exact rfl;(intro w hm;exact hmu w))|(apply aa (f:=51);exact rfl;exact rfl;(intro w' hm;exact hacl w' _ hm))|(apply aa (f:=52);exact rfl;exact rfl;(intro w' hm;exact hgnt w' _ hm))|refine sT ?_|refine sS ?_|refine sM fun _=> ?_|(refine sC ?_ ?_<;>intro hb<;>try omega)|fail)
    all_goals first|(exfalso;omega)|((refine eV ?_);rfl)|trace_state
   rw [if_neg (fun h=>h4 h.2)]
   obtain ⟨j,hj⟩: ∃ j:Nat,x.idx=(j:Int):=⟨x.idx.toNat,by omega⟩
   have hjl:j<N.length:=by omega
   obtain ⟨gn,on,rfl,hrn⟩:=hn3 (by omega)
   obtain ⟨hrr,_⟩:=Gn.ro (hrn.elem cX j hjl)
   have ht:evT x N=N[j].rect:=by unfold evT;rw [if_pos h9,hj,OZ,NE hjl];rfl
   rw [ht]
   generalize N[j].rect=t at hrr ⊢
   have hre:=fun w=>gR t w
   have hov' :=hov t
   generalize ovE t L=ov at hov' ⊢
   by_cases h5:aF t=false
   ·
    rw [if_pos h5]
    have h6:dU t≠0:=fun h=>fg (by simpa using h) h5
    repeat' (first|(apply aa;exact rfl;exact rfl;(intro w hm;exact hop w))|(apply aa;exact rfl;exact rfl;(intro w hm;exact hmu w))|(apply aa;exact rfl;exact rfl;(intro w hm;exact hre w))|(apply aa (f:=51);exact rfl;exact rfl;(intro w' hm;exact hacl w' _ hm))|(apply aa (f:=52);exact rfl;exact rfl;(intro w' hm;exact hgnt w' _ hm))|(apply ak;exact rfl;apply aj (j:=j);exact rfl;(rw [hj];exact rfl);exact hjl)|refine sT ?_|refine sS ?_|refine sO ?_|refine sM fun _=> ?_|(refine sC ?_ ?_<;>intro hb<;>try omega)|fail)
    all_goals first|(exfalso;omega)|((refine eV ?_);rfl)|trace_state
   ·
    rw [if_neg h5]
    repeat' (first|(apply aa;exact rfl;exact rfl;(intro w hm;exact hop w))|(apply aa;exact rfl;exact rfl;(intro w hm;exact hmu w))|(apply aa;exact rfl;exact rfl;(intro w hm;exact hre w))|(apply aa (f:=51);exact rfl;exact rfl;(intro w' hm;exact hacl w' _ hm))|(apply aa (f:=52);exact rfl;exact rfl;(intro w' hm;exact hgnt w' _ hm))|(apply aa (f:=30);exact rfl;exact rfl;(intro w' hm;exact hov' w' _ hm))|(apply aa (f:=122);exact rfl;exact rfl;(intro w' hm;exact hof w' _ _ pK hm))|(apply ak;exact rfl;apply aj (j:=j);exact rfl;(rw [hj];exact rfl);exact hjl)|(apply ak;exact rfl;apply qE;exact rfl;exact rfl)|refine sT ?_|refine sS ?_|refine sO ?_|refine sM fun _=> ?_|(refine sC ?_ ?_<;>intro hb<;>try omega)|fail)
    all_goals first|(exfalso;omega)|(exact absurd (iy hb) h5)|((refine eV ?_);rfl)|trace_state
  ·
   rw [if_neg (fun h=>h9 h.1)]
   have ht:evT x N=x.rect:=by unfold evT;rw [if_neg h9]
   rw [ht]
   have hre:=fun w=>gR x.rect w
   have hov' :=hov x.rect
   generalize ovE x.rect L=ov at hov' ⊢
   by_cases h5:aF x.rect=false
   ·
    rw [if_pos h5]
    repeat' (first|(apply aa;exact rfl;exact rfl;(intro w hm;exact hop w))|(apply aa;exact rfl;exact rfl;(intro w hm;exact hmu w))|(apply aa;exact rfl;exact rfl;(intro w hm;exact hre w))|(apply aa (f:=51);exact rfl;exact rfl;(intro w' hm;exact hacl w' _ hm))|(apply aa (f:=52);exact rfl;exact rfl;(intro w' hm;exact hgnt w' _ hm))|refine sT ?_|refine sS ?_|refine sO ?_|refine sM fun _=> ?_|(refine sC ?_ ?_<;>intro hb<;>try omega)|fail)
    all_goals first|(exfalso;omega)|(exact absurd h5 (fg ‹_›))|((refine eV ?_);rfl)|trace_state
   ·
    rw [if_neg h5]
    repeat' (first|(apply aa;exact rfl;exact rfl;(intro w hm;exact hop w))|(apply aa;exact rfl;exact rfl;(intro w hm;exact hmu w))|(apply aa;exact rfl;exact rfl;(intro w hm;exact hre w))|(apply aa (f:=51);exact rfl;exact rfl;(intro w' hm;exact hacl w' _ hm))|(apply aa (f:=52);exact rfl;exact rfl;(intro w' hm;exact hgnt w' _ hm))|(apply aa (f:=30);exact rfl;exact rfl;(intro w' hm;exact hov' w' _ hm))|(apply aa (f:=122);exact rfl;exact rfl;(intro w' hm;exact hof w' _ _ pK hm))|(apply ak;exact rfl;apply qE;exact rfl;exact rfl)|refine sT ?_|refine sS ?_|refine sO ?_|refine sM fun _=> ?_|(refine sC ?_ ?_<;>intro hb<;>try omega)|fail)
    all_goals first|(exfalso;omega)|(exact absurd (iy hb) h5)|((refine eV ?_);rfl)|trace_state
structure Bk where
 users:Int
 ents:List Et
 rules:List Rl
 grants:List Gn
 log:List Ev
 rels:List Rv
 step:Int
structure Bv where
 ae:Option Addr
 ar:Option Addr
 ag:Option Addr
 al:Option Addr
 as_:Option Addr
 ce:Nat
 cr:Nat
 cg:Nat
 cl:Nat
 cs:Nat
def aW (b:Bk) (x:Bv):List Value:= [.int .i64 b.users,.slice x.ae b.ents.length x.ce,.slice x.ar b.rules.length x.cr,.slice x.ag b.grants.length x.cg,.slice x.al b.log.length x.cl,.slice x.as_ b.rels.length x.cs,.int .i64 b.step]
structure BRd (w:World) (b:Bk) (x:Bv):Prop where
 e:Reads w (.slice x.ae b.ents.length x.ce) b.ents.length (b.ents.flatMap aJ)
 r:Reads w (.slice x.ar b.rules.length x.cr) b.rules.length (b.rules.flatMap bn)
 g:Reads w (.slice x.ag b.grants.length x.cg) b.grants.length (b.grants.flatMap bA)
 l:Reads w (.slice x.al b.log.length x.cl) b.log.length (b.log.flatMap aL)
 s:Reads w (.slice x.as_ b.rels.length x.cs) b.rels.length (b.rels.flatMap bU)
theorem BRd.of_w0 {w w' :World} {b:Bk} {x:Bv} {H:List Blk} (h:BRd w b x) (hm:Mem w w' H):BRd w' b x:=⟨h.e.of_w0 hm,h.r.of_w0 hm,h.g.of_w0 hm,h.l.of_w0 hm,h.s.of_w0 hm⟩
def iZ (s:Int) (L:List Ev):Bool:=if 0<L.length then decide (s≤((L[L.length - 1]?).map Ev.step).getD 0) else false
def lC (s:Int) (L:List Rv):Bool:=if 0<L.length then decide (s≤((L[L.length - 1]?).map Rv.step).getD 0) else false
def bkE (b:Bk):Int:=
 if b.users<1∨64<b.users then 2
 else if (fA b.ents).2≠0 then (fA b.ents).2
 else if (eL b.users b.rules).2≠0 then (eL b.users b.rules).2
 else if (kR b.users b.grants).2≠0 then (kR b.users b.grants).2
 else if qZ b.users b.log b.rels≠0 then qZ b.users b.log b.rels
 else if b.step<0∨1099511627776<b.step then 2
 else if iZ b.step b.log=true then 2
 else if lC b.step b.rels=true then 2 else 0
theorem Rv.ro1 {w:World} {g o:Nat} {r:Rv} (h:Ro w g o (bU r)):Ro w g o [.int .i64 r.step]:=h.take (k:=1)
set_option maxHeartbeats 16000000 in
theorem iF (b:Bk) (x:Bv) (w:World) (h:BRd w b x) (hW:Words w) (hlen:b.ents.length≤1000000):ax Tryz.prog 12 [.agg (aW b x).toArray] w (.int .i64 (bkE b)):=by
 have hent:=fun (w' :World) (H:List Blk) (hm:Mem w w' H)=>vM b.ents _ w' (h.e.of_w0 hm) hlen (hW.next hm)
 have hacl:=fun (w' :World) (H:List Blk) (hm:Mem w w' H)=>ky b.users b.rules _ w' (h.r.of_w0 hm)
 have hgnt:=fun (w' :World) (H:List Blk) (hm:Mem w w' H)=>rI b.users b.grants _ w' (h.g.of_w0 hm)
 have haud:=fun (w' :World) (H:List Blk) (hm:Mem w w' H)=>Bp b.users b.log b.rels _ _ w' (h.l.of_w0 hm) (h.s.of_w0 hm)
 refine aq Tryz.func12 rfl Tryz.ntmps12 rfl ?_
 unfold bkE
 obtain ⟨Al,cl,el,hl1,hl2,hl3⟩:=h.l
 obtain ⟨Am,cm,em,hm1,hm2,hm3⟩:=h.s
 have hl3' :0<b.log.length→ ∃ g o,x.al=some ⟨g,o,none⟩∧Ro w g o (b.log.flatMap aL):=by
  cases el
  exact hl3
 have hm3' :0<b.rels.length→ ∃ g o,x.as_=some ⟨g,o,none⟩∧Ro w g o (b.rels.flatMap bU):=by
  cases em
  exact hm3
 have hLm:b.log.length≤maxLen:=Ok hl1 hl2
 have hMm:b.rels.length≤maxLen:=Ok hm1 hm2
 clear hl1 hl2 hl3 hm1 hm2 hm3 el em
 generalize fA b.ents=ce at hent ⊢
 generalize eL b.users b.rules=ae at hacl ⊢
 generalize kR b.users b.grants=ge at hgnt ⊢
 generalize qZ b.users b.log b.rels=ue at haud ⊢
 obtain ⟨us,E,RU,G,L,M,st⟩:=b
 obtain ⟨ae1,ar1,ag1,al1,as1,ce1,cr1,cg1,cl1,cs1⟩:=x
 dsimp only at*
 simp only [aW] at*
 have hL:(L.length=0∧iZ st L=false)∨(0<L.length∧ ∃ g o s,al1=some ⟨g,o,none⟩∧Ro w g (o+(L.length - 1)*9) [.int .i64 s]∧iZ st L=decide (st≤s)):=by
  rcases OJ L.length with h0|hp
  ·
   exact .inl ⟨h0,by unfold iZ;rw [if_neg (by omega)]⟩
  ·
   obtain ⟨g,o,e,hr⟩:=hl3' hp
   have hlt:L.length - 1<L.length:=by omega
   exact .inr ⟨hp,g,o,L[L.length - 1].step,e,(Ev.ro (hr.elem bw (L.length - 1) hlt)).1,by unfold iZ;rw [if_pos hp,NE hlt];rfl⟩
 have hM:(M.length=0∧lC st M=false)∨(0<M.length∧ ∃ g o s,as1=some ⟨g,o,none⟩∧Ro w g (o+(M.length - 1)*11) [.int .i64 s]∧lC st M=decide (st≤s)):=by
  rcases OJ M.length with h0|hp
  ·
   exact .inl ⟨h0,by unfold lC;rw [if_neg (by omega)]⟩
  ·
   obtain ⟨g,o,e,hr⟩:=hm3' hp
   have hlt:M.length - 1<M.length:=by omega
   exact .inr ⟨hp,g,o,M[M.length - 1].step,e,Rv.ro1 (hr.elem eF (M.length - 1) hlt),by unfold lC;rw [if_pos hp,NE hlt];rfl⟩
 generalize iZ st L=le at hL ⊢
 generalize lC st M=lr at hM ⊢
 clear hl3' hm3'
 generalize L.length=nl at*
 generalize M.length=nm at*
 generalize E.length=nE at*
 generalize RU.length=nR at*
 generalize G.length=nG at*
 rcases hL with ⟨hL,rfl⟩|⟨hL,g1,o1,s1,rfl,hr1,rfl⟩<;>rcases hM with ⟨hM,rfl⟩|⟨hM,g2,o2,s2,rfl,hr2,rfl⟩
 all_goals
  repeat' (first|(apply aa (f:=50);exact rfl;exact rfl;(intro w' hm;exact hent w' _ hm))|(apply aa (f:=51);exact rfl;exact rfl;(intro w' hm;exact hacl w' _ hm))|(apply aa (f:=52);exact rfl;exact rfl;(intro w' hm;exact hgnt w' _ hm))|(apply aa (f:=53);exact rfl;exact rfl;(intro w' hm;exact haud w' _ hm))|(apply aK;exact rfl;apply dM;exact rfl;exact rfl;omega;(simp only [maxLen] at*;omega))|(apply aK;exact rfl;apply aj (j:=nl - 1);exact rfl;exact rfl;omega)|(apply aK;exact rfl;apply aj (j:=nm - 1);exact rfl;exact rfl;omega)|refine sT ?_|refine sS ?_|refine sQ ?_|refine sN ?_|refine sNQ ?_|refine sO ?_|refine sOQ ?_|refine sD ?_|refine sM fun _=> ?_|(refine sC ?_ ?_<;>intro hb<;>try omega)|(refine sCQ ?_ ?_<;>intro hb<;>try omega)|fail)
 all_goals first
  |(exfalso;omega)
  |((refine rT1 ?_);simp_all;done)
  |((refine rT1 ?_);simp_all;omega)
  |trace_state
end Go.SL
namespace Go.SL
open Go Go.Proofs Go.ChangeShapes Go.WideShapes Go.ChangeAt Go.RowKit Go.Deep
section
variable {H:Type} {enc:TypeId × Value→H} {w:World} {base:Nat} {spare:Nat→Bool} {held:Bool}
theorem rj {P:Program} {e:TypeId} {d:DataW H} {n:Nat} (hn:n∈d.weights P e): ∀ {ds:List (DataW H)},d∈ds→n∈DataW.weightsAll P e ds
 | [],h=>by cases h
 |x::r,h=>by
  rw [DataW.weightsAll]
  rcases NS.1 h with rfl|h
  ·
   exact P3 _ hn
  ·
   exact PW _ (rj hn h)
theorem jN {n:Nat} {c:Value} {x:DataW H × List MemPlace} (h:DataW.trod enc Tryz.prog w base spare held n 34 [c]=some x): ∃ a:BitVec 64,c=vS a:=by
 obtain ⟨a0,q0,_,w0⟩:=DataW.trod_int Tryz.underlying34 h
 simp only [List.cons.injEq,and_true] at q0
 have w1:0≤a0∧a0≤18446744073709551615:=by
  simp [Lit.wf] at w0
  exact w0
 refine ⟨BitVec.ofNat 64 a0.toNat,?_⟩
 subst q0
 unfold vS
 rw [BitVec.toNat_ofNat]
 congr 1
 omega
theorem pL {n:Nat} {c:Value} {x:DataW H × List MemPlace} (h:DataW.trod enc Tryz.prog w base spare held n 5 [c]=some x): ∃ a:Int,c= .int .u8 a:=by
 obtain ⟨a0,q0,_,w0⟩:=DataW.trod_int Tryz.underlying5 h
 simp only [List.cons.injEq,and_true] at q0
 exact ⟨a0,q0⟩
theorem HG {n:Nat} {c:Value} {x:DataW H × List MemPlace} (h:DataW.trod enc Tryz.prog w base spare held n 4 [c]=some x): ∃ a:Bool,c= .bool a:=by
 obtain ⟨a0,q0,_⟩:=DataW.trod_bool Tryz.underlying4 h
 simp only [List.cons.injEq,and_true] at q0
 exact ⟨a0,q0⟩
set_option maxRecDepth 100000 in
theorem zg {fuel:Nat} {cs:List Value} {x:DataW H × List MemPlace} (h:DataW.trod enc Tryz.prog w base spare held fuel 53 cs=some x): ∃ v:Et,cs=aJ v∧v.input.size∈x.1.weights Tryz.prog 53:=by
 obtain ⟨xs,n,_,rfl,hlen,hxl,hf⟩:=DataW.trod_struct Tryz.underlying53 h
 have eS:Tryz.prog.cellsOf 53=3:=by kernel_rfl
 have eI:Tryz.prog.cellsOf 51=2:=by kernel_rfl
 have eT:Tryz.prog.cellsOf 9=1:=by kernel_rfl
 rw [eS] at hlen
 match cs,hlen,xs,hxl with
 | [c0,c1,c2],_,[x0,x1],_=>
  have h0:DataW.trod enc Tryz.prog w base spare held n 51 ((([c0,c1,c2]:List Value).drop 0).take (Tryz.prog.cellsOf 51))=some x0:=hf 0 _ rfl
  rw [eI] at h0
  obtain ⟨a,q,wa⟩:=tN (cs:= [c0,c1]) h0
  simp only [cu,List.cons.injEq,and_true] at q
  obtain ⟨rfl,rfl⟩:=q
  have h2:DataW.trod enc Tryz.prog w base spare held n 9 ((([Value.int .i64 a.col,.int .i64 a.row,c2]:List Value).drop 2).take (Tryz.prog.cellsOf 9))=some x1:=hf 1 _ rfl
  rw [eT] at h2
  obtain ⟨a2,q2,q3,_⟩:=DataW.trod_string Tryz.underlying9 h2
  simp only [P8,O4,OI,Pj,List.cons.injEq,and_true] at q2
  subst q2
  subst q3
  refine ⟨⟨a,a2⟩,rfl,?_⟩
  simp [DataW.weights,Tryz.underlying53,DataW.weightsEach]
def Jp (x:BitVec 64 × BitVec 64 × BitVec 64):List Value:= [vS x.1,vS x.2.1,vS x.2.2]
set_option maxRecDepth 100000 in
theorem rm {fuel:Nat} {cs:List Value} {x:DataW H × List MemPlace} (h:DataW.trod enc Tryz.prog w base spare held fuel 36 cs=some x): ∃ v:BitVec 64 × BitVec 64 × BitVec 64,cs=Jp v:=by
 obtain ⟨xs,n,_,_,hlen,hxl,hf⟩:=DataW.trod_struct Tryz.underlying36 h
 have eS:Tryz.prog.cellsOf 36=3:=by kernel_rfl
 have e_s:Tryz.prog.cellsOf 34=1:=by kernel_rfl
 rw [eS] at hlen
 match cs,hlen,xs,hxl with
 | [c0,c1,c2],_,[x0,x1,x2],_=>
  have h0:DataW.trod enc Tryz.prog w base spare held n 34 ((([c0,c1,c2]:List Value).drop 0).take (Tryz.prog.cellsOf 34))=some x0:=hf 0 _ rfl
  rw [e_s] at h0
  obtain ⟨a0,rfl⟩:=jN (c:=c0) h0
  have h1:DataW.trod enc Tryz.prog w base spare held n 34 ((([(vS a0:Value),c1,c2]:List Value).drop 1).take (Tryz.prog.cellsOf 34))=some x1:=hf 1 _ rfl
  rw [e_s] at h1
  obtain ⟨a1,rfl⟩:=jN (c:=c1) h1
  have h2:DataW.trod enc Tryz.prog w base spare held n 34 ((([(vS a0:Value),(vS a1:Value),c2]:List Value).drop 2).take (Tryz.prog.cellsOf 34))=some x2:=hf 2 _ rfl
  rw [e_s] at h2
  obtain ⟨a2,rfl⟩:=jN (c:=c2) h2
  exact ⟨⟨a0,a1,a2⟩,rfl⟩
set_option maxRecDepth 100000 in
theorem Fs {fuel:Nat} {cs:List Value} {x:DataW H × List MemPlace} (h:DataW.trod enc Tryz.prog w base spare held fuel 68 cs=some x): ∃ v:Cl,cs=Bb v:=by
 obtain ⟨xs,n,_,_,hlen,hxl,hf⟩:=DataW.trod_struct Tryz.underlying68 h
 have eS:Tryz.prog.cellsOf 68=3:=by kernel_rfl
 have e_F:Tryz.prog.cellsOf 51=2:=by kernel_rfl
 have e_i:Tryz.prog.cellsOf 3=1:=by kernel_rfl
 rw [eS] at hlen
 match cs,hlen,xs,hxl with
 | [c0,c1,c2],_,[x0,x1],_=>
  have h0:DataW.trod enc Tryz.prog w base spare held n 51 ((([c0,c1,c2]:List Value).drop 0).take (Tryz.prog.cellsOf 51))=some x0:=hf 0 _ rfl
  rw [e_F] at h0
  obtain ⟨a0,q,_⟩:=tN (cs:= [c0,c1]) h0
  simp only [cu,List.cons.injEq,and_true] at q
  obtain ⟨rfl,rfl⟩:=q
  have h1:DataW.trod enc Tryz.prog w base spare held n 3 ((([(.int .i64 a0.col:Value),(.int .i64 a0.row:Value),c2]:List Value).drop 2).take (Tryz.prog.cellsOf 3))=some x1:=hf 1 _ rfl
  rw [e_i] at h1
  obtain ⟨a1,rfl,_⟩:=fF (c:=c2) h1
  exact ⟨⟨a0,a1⟩,rfl⟩
set_option maxRecDepth 100000 in
theorem Fq {fuel:Nat} {cs:List Value} {x:DataW H × List MemPlace} (h:DataW.trod enc Tryz.prog w base spare held fuel 38 cs=some x): ∃ v:Rl,cs=bn v:=by
 obtain ⟨xs,n,_,_,hlen,hxl,hf⟩:=DataW.trod_struct Tryz.underlying38 h
 have eS:Tryz.prog.cellsOf 38=7:=by kernel_rfl
 have e_R:Tryz.prog.cellsOf 33=4:=by kernel_rfl
 have e_T:Tryz.prog.cellsOf 36=3:=by kernel_rfl
 rw [eS] at hlen
 match cs,hlen,xs,hxl with
 | [c0,c1,c2,c3,c4,c5,c6],_,[x0,x1],_=>
  have h0:DataW.trod enc Tryz.prog w base spare held n 33 ((([c0,c1,c2,c3,c4,c5,c6]:List Value).drop 0).take (Tryz.prog.cellsOf 33))=some x0:=hf 0 _ rfl
  rw [e_R] at h0
  obtain ⟨a0,q,_⟩:=lh (cs:= [c0,c1,c2,c3]) h0
  simp only [bQ,List.cons.injEq,and_true] at q
  obtain ⟨rfl,rfl,rfl,rfl⟩:=q
  have h1:DataW.trod enc Tryz.prog w base spare held n 36 ((([(.int .i64 a0.c1:Value),(.int .i64 a0.r1:Value),(.int .i64 a0.c2:Value),(.int .i64 a0.r2:Value),c4,c5,c6]:List Value).drop 4).take (Tryz.prog.cellsOf 36))=some x1:=hf 1 _ rfl
  rw [e_T] at h1
  obtain ⟨a1,q⟩:=rm (cs:= [c4,c5,c6]) h1
  simp only [Jp,List.cons.injEq,and_true] at q
  obtain ⟨rfl,rfl,rfl⟩:=q
  exact ⟨⟨a0,a1.1,a1.2.1,a1.2.2⟩,rfl⟩
set_option maxRecDepth 100000 in
theorem Cf {fuel:Nat} {cs:List Value} {x:DataW H × List MemPlace} (h:DataW.trod enc Tryz.prog w base spare held fuel 56 cs=some x): ∃ v:Gn,cs=bA v:=by
 obtain ⟨xs,n,_,_,hlen,hxl,hf⟩:=DataW.trod_struct Tryz.underlying56 h
 have eS:Tryz.prog.cellsOf 56=8:=by kernel_rfl
 have e_R:Tryz.prog.cellsOf 33=4:=by kernel_rfl
 have e_b:Tryz.prog.cellsOf 4=1:=by kernel_rfl
 have e_c:Tryz.prog.cellsOf 5=1:=by kernel_rfl
 have e_i:Tryz.prog.cellsOf 3=1:=by kernel_rfl
 have e_s:Tryz.prog.cellsOf 34=1:=by kernel_rfl
 rw [eS] at hlen
 match cs,hlen,xs,hxl with
 | [c0,c1,c2,c3,c4,c5,c6,c7],_,[x0,x1,x2,x3,x4],_=>
  have h0:DataW.trod enc Tryz.prog w base spare held n 33 ((([c0,c1,c2,c3,c4,c5,c6,c7]:List Value).drop 0).take (Tryz.prog.cellsOf 33))=some x0:=hf 0 _ rfl
  rw [e_R] at h0
  obtain ⟨a0,q,_⟩:=lh (cs:= [c0,c1,c2,c3]) h0
  simp only [bQ,List.cons.injEq,and_true] at q
  obtain ⟨rfl,rfl,rfl,rfl⟩:=q
  have h1:DataW.trod enc Tryz.prog w base spare held n 5 ((([(.int .i64 a0.c1:Value),(.int .i64 a0.r1:Value),(.int .i64 a0.c2:Value),(.int .i64 a0.r2:Value),c4,c5,c6,c7]:List Value).drop 4).take (Tryz.prog.cellsOf 5))=some x1:=hf 1 _ rfl
  rw [e_c] at h1
  obtain ⟨a1,rfl⟩:=pL (c:=c4) h1
  have h2:DataW.trod enc Tryz.prog w base spare held n 34 ((([(.int .i64 a0.c1:Value),(.int .i64 a0.r1:Value),(.int .i64 a0.c2:Value),(.int .i64 a0.r2:Value),(.int .u8 a1:Value),c5,c6,c7]:List Value).drop 5).take (Tryz.prog.cellsOf 34))=some x2:=hf 2 _ rfl
  rw [e_s] at h2
  obtain ⟨a2,rfl⟩:=jN (c:=c5) h2
  have h3:DataW.trod enc Tryz.prog w base spare held n 3 ((([(.int .i64 a0.c1:Value),(.int .i64 a0.r1:Value),(.int .i64 a0.c2:Value),(.int .i64 a0.r2:Value),(.int .u8 a1:Value),(vS a2:Value),c6,c7]:List Value).drop 6).take (Tryz.prog.cellsOf 3))=some x3:=hf 3 _ rfl
  rw [e_i] at h3
  obtain ⟨a3,rfl,_⟩:=fF (c:=c6) h3
  have h4:DataW.trod enc Tryz.prog w base spare held n 4 ((([(.int .i64 a0.c1:Value),(.int .i64 a0.r1:Value),(.int .i64 a0.c2:Value),(.int .i64 a0.r2:Value),(.int .u8 a1:Value),(vS a2:Value),(.int .i64 a3:Value),c7]:List Value).drop 7).take (Tryz.prog.cellsOf 4))=some x4:=hf 4 _ rfl
  rw [e_b] at h4
  obtain ⟨a4,rfl⟩:=HG (c:=c7) h4
  exact ⟨⟨a0,a1,a2,a3,a4⟩,rfl⟩
set_option maxRecDepth 100000 in
theorem Cg {fuel:Nat} {cs:List Value} {x:DataW H × List MemPlace} (h:DataW.trod enc Tryz.prog w base spare held fuel 48 cs=some x): ∃ v:Ev,cs=aL v:=by
 obtain ⟨xs,n,_,_,hlen,hxl,hf⟩:=DataW.trod_struct Tryz.underlying48 h
 have eS:Tryz.prog.cellsOf 48=9:=by kernel_rfl
 have e_R:Tryz.prog.cellsOf 33=4:=by kernel_rfl
 have e_b:Tryz.prog.cellsOf 4=1:=by kernel_rfl
 have e_c:Tryz.prog.cellsOf 5=1:=by kernel_rfl
 have e_i:Tryz.prog.cellsOf 3=1:=by kernel_rfl
 have e_s:Tryz.prog.cellsOf 34=1:=by kernel_rfl
 rw [eS] at hlen
 match cs,hlen,xs,hxl with
 | [c0,c1,c2,c3,c4,c5,c6,c7,c8],_,[x0,x1,x2,x3,x4,x5],_=>
  have h0:DataW.trod enc Tryz.prog w base spare held n 3 ((([c0,c1,c2,c3,c4,c5,c6,c7,c8]:List Value).drop 0).take (Tryz.prog.cellsOf 3))=some x0:=hf 0 _ rfl
  rw [e_i] at h0
  obtain ⟨a0,rfl,_⟩:=fF (c:=c0) h0
  have h1:DataW.trod enc Tryz.prog w base spare held n 3 ((([(.int .i64 a0:Value),c1,c2,c3,c4,c5,c6,c7,c8]:List Value).drop 1).take (Tryz.prog.cellsOf 3))=some x1:=hf 1 _ rfl
  rw [e_i] at h1
  obtain ⟨a1,rfl,_⟩:=fF (c:=c1) h1
  have h2:DataW.trod enc Tryz.prog w base spare held n 5 ((([(.int .i64 a0:Value),(.int .i64 a1:Value),c2,c3,c4,c5,c6,c7,c8]:List Value).drop 2).take (Tryz.prog.cellsOf 5))=some x2:=hf 2 _ rfl
  rw [e_c] at h2
  obtain ⟨a2,rfl⟩:=pL (c:=c2) h2
  have h3:DataW.trod enc Tryz.prog w base spare held n 33 ((([(.int .i64 a0:Value),(.int .i64 a1:Value),(.int .u8 a2:Value),c3,c4,c5,c6,c7,c8]:List Value).drop 3).take (Tryz.prog.cellsOf 33))=some x3:=hf 3 _ rfl
  rw [e_R] at h3
  obtain ⟨a3,q,_⟩:=lh (cs:= [c3,c4,c5,c6]) h3
  simp only [bQ,List.cons.injEq,and_true] at q
  obtain ⟨rfl,rfl,rfl,rfl⟩:=q
  have h4:DataW.trod enc Tryz.prog w base spare held n 4 ((([(.int .i64 a0:Value),(.int .i64 a1:Value),(.int .u8 a2:Value),(.int .i64 a3.c1:Value),(.int .i64 a3.r1:Value),(.int .i64 a3.c2:Value),(.int .i64 a3.r2:Value),c7,c8]:List Value).drop 7).take (Tryz.prog.cellsOf 4))=some x4:=hf 4 _ rfl
  rw [e_b] at h4
  obtain ⟨a4,rfl⟩:=HG (c:=c7) h4
  have h5:DataW.trod enc Tryz.prog w base spare held n 34 ((([(.int .i64 a0:Value),(.int .i64 a1:Value),(.int .u8 a2:Value),(.int .i64 a3.c1:Value),(.int .i64 a3.r1:Value),(.int .i64 a3.c2:Value),(.int .i64 a3.r2:Value),(.bool a4:Value),c8]:List Value).drop 8).take (Tryz.prog.cellsOf 34))=some x5:=hf 5 _ rfl
  rw [e_s] at h5
  obtain ⟨a5,rfl⟩:=jN (c:=c8) h5
  exact ⟨⟨a0,a1,a2,a3,a4,a5⟩,rfl⟩
set_option maxRecDepth 100000 in
theorem xI {fuel:Nat} {cs:List Value} {x:DataW H × List MemPlace} (h:DataW.trod enc Tryz.prog w base spare held fuel 70 cs=some x): ∃ v:Rv,cs=bU v:=by
 obtain ⟨xs,n,_,_,hlen,hxl,hf⟩:=DataW.trod_struct Tryz.underlying70 h
 have eS:Tryz.prog.cellsOf 70=11:=by kernel_rfl
 have e_C:Tryz.prog.cellsOf 68=3:=by kernel_rfl
 have e_R:Tryz.prog.cellsOf 33=4:=by kernel_rfl
 have e_c:Tryz.prog.cellsOf 5=1:=by kernel_rfl
 have e_i:Tryz.prog.cellsOf 3=1:=by kernel_rfl
 have e_s:Tryz.prog.cellsOf 34=1:=by kernel_rfl
 rw [eS] at hlen
 match cs,hlen,xs,hxl with
 | [c0,c1,c2,c3,c4,c5,c6,c7,c8,c9,c10],_,[x0,x1,x2,x3,x4,x5],_=>
  have h0:DataW.trod enc Tryz.prog w base spare held n 3 ((([c0,c1,c2,c3,c4,c5,c6,c7,c8,c9,c10]:List Value).drop 0).take (Tryz.prog.cellsOf 3))=some x0:=hf 0 _ rfl
  rw [e_i] at h0
  obtain ⟨a0,rfl,_⟩:=fF (c:=c0) h0
  have h1:DataW.trod enc Tryz.prog w base spare held n 68 ((([(.int .i64 a0:Value),c1,c2,c3,c4,c5,c6,c7,c8,c9,c10]:List Value).drop 1).take (Tryz.prog.cellsOf 68))=some x1:=hf 1 _ rfl
  rw [e_C] at h1
  obtain ⟨a1,q⟩:=Fs (cs:= [c1,c2,c3]) h1
  simp only [Bb,List.cons.injEq,and_true] at q
  obtain ⟨rfl,rfl,rfl⟩:=q
  have h2:DataW.trod enc Tryz.prog w base spare held n 5 ((([(.int .i64 a0:Value),(.int .i64 a1.at_.col:Value),(.int .i64 a1.at_.row:Value),(.int .i64 a1.node:Value),c4,c5,c6,c7,c8,c9,c10]:List Value).drop 4).take (Tryz.prog.cellsOf 5))=some x2:=hf 2 _ rfl
  rw [e_c] at h2
  obtain ⟨a2,rfl⟩:=pL (c:=c4) h2
  have h3:DataW.trod enc Tryz.prog w base spare held n 33 ((([(.int .i64 a0:Value),(.int .i64 a1.at_.col:Value),(.int .i64 a1.at_.row:Value),(.int .i64 a1.node:Value),(.int .u8 a2:Value),c5,c6,c7,c8,c9,c10]:List Value).drop 5).take (Tryz.prog.cellsOf 33))=some x3:=hf 3 _ rfl
  rw [e_R] at h3
  obtain ⟨a3,q,_⟩:=lh (cs:= [c5,c6,c7,c8]) h3
  simp only [bQ,List.cons.injEq,and_true] at q
  obtain ⟨rfl,rfl,rfl,rfl⟩:=q
  have h4:DataW.trod enc Tryz.prog w base spare held n 3 ((([(.int .i64 a0:Value),(.int .i64 a1.at_.col:Value),(.int .i64 a1.at_.row:Value),(.int .i64 a1.node:Value),(.int .u8 a2:Value),(.int .i64 a3.c1:Value),(.int .i64 a3.r1:Value),(.int .i64 a3.c2:Value),(.int .i64 a3.r2:Value),c9,c10]:List Value).drop 9).take (Tryz.prog.cellsOf 3))=some x4:=hf 4 _ rfl
  rw [e_i] at h4
  obtain ⟨a4,rfl,_⟩:=fF (c:=c9) h4
  have h5:DataW.trod enc Tryz.prog w base spare held n 34 ((([(.int .i64 a0:Value),(.int .i64 a1.at_.col:Value),(.int .i64 a1.at_.row:Value),(.int .i64 a1.node:Value),(.int .u8 a2:Value),(.int .i64 a3.c1:Value),(.int .i64 a3.r1:Value),(.int .i64 a3.c2:Value),(.int .i64 a3.r2:Value),(.int .i64 a4:Value),c10]:List Value).drop 10).take (Tryz.prog.cellsOf 34))=some x5:=hf 5 _ rfl
  rw [e_s] at h5
  obtain ⟨a5,rfl⟩:=jN (c:=c10) h5
  exact ⟨⟨a0,a1,a2,a3,a4,a5⟩,rfl⟩
instance:Inhabited Rl:=⟨⟨⟨0,0,0,0⟩,0#64,0#64,0#64⟩⟩
instance:Inhabited Gn:=⟨⟨⟨0,0,0,0⟩,0,0#64,0,false⟩⟩
instance:Inhabited Ev:=⟨⟨0,0,0,⟨0,0,0,0⟩,false,0#64⟩⟩
instance:Inhabited Rv:=⟨⟨0,⟨⟨0,0⟩,0⟩,0,⟨0,0,0,0⟩,0,0#64⟩⟩
theorem CU {fuel:Nat} {cs:List Value} {x:DataW H × List MemPlace} (h:DataW.trod enc Tryz.prog w 0 spare held fuel 22 cs=some x):
  ∃ (v:Value) (L:List Et),cs= [v]∧Reads w v L.length (L.flatMap aJ)∧ ∀ a∈L,a.input.size∈x.1.weights Tryz.prog 22:=by
 have hm:Tryz.prog.cellsOf 53=3:=by kernel_rfl
 have ht:=Tryz.underlying22
 rcases open_slice ht h with ⟨h0,_⟩|⟨a,len,cap,mm,n,D,Pl,h0,hb,hl,hmx,hmm,hxe,hx⟩
 ·
  exact ⟨_,[],h0,⟨none,0,rfl,NJ _,NY _,fun h=>by cases h⟩,fun _ h=>by cases h⟩
 ·
  have hlm:len≤mm:=by rw [hmm];split<;>omega
  obtain ⟨F,hF⟩:=choose_lt (α:=Et) (n:=len) (p:=fun i nd=>w.cells? 0 (a.add (i*3)) 3=some (aJ nd)∧nd.input.size∈(D i).weights Tryz.prog 53) (fun i hi=>by
   obtain ⟨cs',h1,h2⟩:=hx i (by omega)
   rw [hm] at h1
   obtain ⟨nd,rfl,hw⟩:=zg h2
   exact ⟨nd,h1,hw⟩)
  have hlen:((List.range len).map F).length=len:=by simp
  refine ⟨_,(List.range len).map F,h0,⟨some a,cap,by rw [hlen],by omega,hmx,fun hpos=> ?_⟩,fun n hn=> ?_⟩
  rotate_left
  ·
   obtain ⟨i,hi,rfl⟩:=Pu.1 hn
   have h1:=(hF i (List.mem_range.1 hi)).2
   rw [hxe]
   simp only [DataW.weights,ht]
   exact NQ _ (P3 _ (rj h1 (Pu.2 ⟨i,hi,rfl⟩)))
  rw [hlen] at hpos
  obtain ⟨g,o,spot⟩:=a
  have hspot:spot=none:=by
   obtain ⟨_,_,h3⟩:=World.cells?_some (hF 0 (by omega)).1
   have h4' :=h3 0 (by decide)
   rw [NE (by rw [bo];decide)] at h4'
   have h4:=World.cell?_spot h4'
   simpa [Addr.add] using h4
  subst hspot
  have hcell: ∀ (i:Nat) (nd:Et),((List.range len).map F)[i]? =some nd→Cells w g (o+i*3) (aJ nd):=by
   intro i nd hnd k v hv
   have hil:i<len:=by have:=(NV.1 hnd).1;omega
   have hnd' :F i=nd:=by simpa [hil] using hnd
   subst hnd'
   have hk:k<3:=by have:=(NV.1 hv).1;rwa [bo] at this
   obtain ⟨_,_,h3⟩:=World.cells?_some (hF i hil).1
   have:=h3 k hk
   rw [hv,cH,cH] at this
   exact this
  refine ⟨g,o,rfl,?_,u6 bo w g o _ hcell⟩
  obtain ⟨u,hu⟩: ∃ u,(aJ (F 0))[0]? =some u:=⟨_,NE (by rw [bo];decide)⟩
  have h5:=hcell 0 (F 0) (by simp [hpos]) 0 u hu
  simp only [World.cell?] at h5
  split at h5
  ·
   rename_i h6
   exact (Oz.1 h6).1
  ·
   cases h5
theorem mT {v:Value} {m:Nat} {xs:List Value} (h:Reads w v m xs): ∃ A c,v= .slice A m c:=by
 obtain ⟨A,c,e,_⟩:=h
 exact ⟨A,c,e⟩
set_option maxRecDepth 100000 in
theorem FQ {v:Value} {d:DataW H} {p:List MemPlace} {base' :Nat} (hv:Value.okWide Tryz.prog w .any base' 28 v) (h:DataW.Trod enc Tryz.prog w 0 spare held 28 v d p): ∃ (b:Bk) (x:Bv),v= .agg (aW b x).toArray∧BRd w b x∧ ∀ e∈b.ents,e.input.size∈d.weights Tryz.prog 28:=by
 obtain ⟨fuel,hf⟩:=h
 obtain ⟨cs,rfl,_⟩:=okWide_struct Tryz.underlying28 hv
 have hcs:(Value.agg cs).cells.toList=cs.toList:=by simp [Value.cells]
 rw [hcs] at hf
 obtain ⟨xs,n,_,hd,hlen,hxl,hg⟩:=DataW.trod_struct Tryz.underlying28 hf
 have eS:Tryz.prog.cellsOf 28=7:=by kernel_rfl
 have e_i:Tryz.prog.cellsOf 3=1:=by kernel_rfl
 have e_e:Tryz.prog.cellsOf 22=1:=by kernel_rfl
 have e_r:Tryz.prog.cellsOf 23=1:=by kernel_rfl
 have e_g:Tryz.prog.cellsOf 24=1:=by kernel_rfl
 have e_l:Tryz.prog.cellsOf 25=1:=by kernel_rfl
 have e_s:Tryz.prog.cellsOf 26=1:=by kernel_rfl
 rw [eS] at hlen
 obtain ⟨cl,rfl⟩: ∃ cl,cs=cl.toArray:=⟨cs.toList,by simp⟩
 simp only [P7] at hlen hg
 match cl,hlen,xs,hxl with
 | [c0,c1,c2,c3,c4,c5,c6],_,[x0,x1,x2,x3,x4,x5,x6],_=>
  have h0:DataW.trod enc Tryz.prog w 0 spare held n 3 ((([c0,c1,c2,c3,c4,c5,c6]:List Value).drop 0).take (Tryz.prog.cellsOf 3))=some x0:=hg 0 _ rfl
  have h1:DataW.trod enc Tryz.prog w 0 spare held n 22 ((([c0,c1,c2,c3,c4,c5,c6]:List Value).drop 1).take (Tryz.prog.cellsOf 22))=some x1:=hg 1 _ rfl
  have h2:DataW.trod enc Tryz.prog w 0 spare held n 23 ((([c0,c1,c2,c3,c4,c5,c6]:List Value).drop 2).take (Tryz.prog.cellsOf 23))=some x2:=hg 2 _ rfl
  have h3:DataW.trod enc Tryz.prog w 0 spare held n 24 ((([c0,c1,c2,c3,c4,c5,c6]:List Value).drop 3).take (Tryz.prog.cellsOf 24))=some x3:=hg 3 _ rfl
  have h4:DataW.trod enc Tryz.prog w 0 spare held n 25 ((([c0,c1,c2,c3,c4,c5,c6]:List Value).drop 4).take (Tryz.prog.cellsOf 25))=some x4:=hg 4 _ rfl
  have h5:DataW.trod enc Tryz.prog w 0 spare held n 26 ((([c0,c1,c2,c3,c4,c5,c6]:List Value).drop 5).take (Tryz.prog.cellsOf 26))=some x5:=hg 5 _ rfl
  have h6:DataW.trod enc Tryz.prog w 0 spare held n 3 ((([c0,c1,c2,c3,c4,c5,c6]:List Value).drop 6).take (Tryz.prog.cellsOf 3))=some x6:=hg 6 _ rfl
  rw [e_i] at h0 h6
  rw [e_e] at h1
  rw [e_r] at h2
  rw [e_g] at h3
  rw [e_l] at h4
  rw [e_s] at h5
  obtain ⟨us,rfl,_⟩:=fF (c:=c0) h0
  obtain ⟨st,rfl,_⟩:=fF (c:=c6) h6
  obtain ⟨v1,L1,q1,r1,w1⟩:=CU (cs:= [c1]) h1
  obtain ⟨v2,L2,q2,r2,_⟩:=lw (ok:=fun _:Rl=>True) Tryz.underlying23 (by kernel_rfl) (by decide) cK (fun _ _ _ h=>let ⟨a,e⟩:=Fq h;⟨a,e,trivial⟩) (cs:= [c2]) h2
  obtain ⟨v3,L3,q3,r3,_⟩:=lw (ok:=fun _:Gn=>True) Tryz.underlying24 (by kernel_rfl) (by decide) cX (fun _ _ _ h=>let ⟨a,e⟩:=Cf h;⟨a,e,trivial⟩) (cs:= [c3]) h3
  obtain ⟨v4,L4,q4,r4,_⟩:=lw (ok:=fun _:Ev=>True) Tryz.underlying25 (by kernel_rfl) (by decide) bw (fun _ _ _ h=>let ⟨a,e⟩:=Cg h;⟨a,e,trivial⟩) (cs:= [c4]) h4
  obtain ⟨v5,L5,q5,r5,_⟩:=lw (ok:=fun _:Rv=>True) Tryz.underlying26 (by kernel_rfl) (by decide) eF (fun _ _ _ h=>let ⟨a,e⟩:=xI h;⟨a,e,trivial⟩) (cs:= [c5]) h5
  simp only [List.cons.injEq,and_true] at q1 q2 q3 q4 q5
  subst q1;subst q2;subst q3;subst q4;subst q5
  obtain ⟨A1,k1,rfl⟩:=mT r1
  obtain ⟨A2,k2,rfl⟩:=mT r2
  obtain ⟨A3,k3,rfl⟩:=mT r3
  obtain ⟨A4,k4,rfl⟩:=mT r4
  obtain ⟨A5,k5,rfl⟩:=mT r5
  refine ⟨⟨us,L1,L2,L3,L4,L5,st⟩,⟨A1,A2,A3,A4,A5,k1,k2,k3,k4,k5⟩,rfl,⟨r1,r2,r3,r4,r5⟩,fun e he=> ?_⟩
  have h7:=w1 e he
  have hd1:d=DataW.agg [x0.1,x1.1,x2.1,x3.1,x4.1,x5.1,x6.1]:=congrArg Prod.fst hd
  rw [hd1]
  simp only [DataW.weights,Tryz.underlying28,Ow,Pe,DataW.weightsEach]
  exact PW _ (P3 _ h7)
end
end Go.SL
