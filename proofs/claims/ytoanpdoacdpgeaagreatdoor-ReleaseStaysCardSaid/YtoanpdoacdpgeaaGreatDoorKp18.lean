/-
  Lemmas and walks, put together: Ro He Ic Ha Hl Hf Hb Id Hg If.
-/
import Derived.Test.YtoanpdoacdpgeaaGreatDoorKp16
import Derived.Test.YtoanpdoacdpgeaaGreatDoorKp17
set_option linter.unusedSimpArgs false
set_option linter.unusedVariables false
set_option maxRecDepth 20000
namespace Go.SL
open Go Go.Proofs
attribute [local irreducible] W WL WQ WG WA WX WLI WR WT WC WE VOp RW thn blk bF scp aR bk bJ aL FnIn FnP ceP
theorem ud {G:Gr} (hG:GrOk G) (d:Rf):(iO G d).length≤1000:=QC (Gu hG d) (by decide)
def H7 (p q:Pz):Int:=if p.rect.r1≠q.rect.r1 then p.rect.r1 - q.rect.r1 else p.rect.c1 - q.rect.c1
def ur (p:Pz):Prop:=0≤p.rect.r1∧p.rect.r1≤100000∧0≤p.rect.c1∧p.rect.c1≤100000
theorem Nl (p q:Pz) (hp:ur p) (hq:ur q) (w:World):ay Tryz.prog 185 [.agg (dc p).toArray,.agg (dc q).toArray] w (.int .i64 (H7 p q)):=by
 refine aq Tryz.func185 rfl Tryz.ntmps185 rfl ?_
 obtain ⟨h1,h2,h3,h4⟩:=hp
 obtain ⟨h5,h6,h7,h8⟩:=hq
 repeat' (first|refine sT ?_|refine sJ ?_|refine sM fun _=> ?_|(refine sC ?_ ?_<;>intro hb<;>try omega)|fail)
 all_goals first
  |(exfalso;omega)
  |((refine rT1 ?_);rw [H7,if_pos hb];done)
  |((refine rT1 ?_);rw [H7,if_neg (fun h=>h hb)];done)
  |((refine rT1 ?_);rw [H7,if_neg (fun h=>hb h)];done)
structure InZ (L:List Pz):Prop where
 sort:L.Pairwise Kj
 small: ∀ p∈L,ur p
 len:L.length≤1000000
theorem InZ.cmp {L:List Pz} (h:InZ L) {i j:Nat} (hij:i≤j) (hj:j<L.length): ∃ z:Int,0≤z∧ ∀ w,ay Tryz.prog 185 [.agg (dc L[j]).toArray,.agg (dc (L[i]'(by omega))).toArray] w (.int .i64 z):=by
 refine ⟨_,?_,fun w=>Nl _ _ (h.small _ (Re hj)) (h.small _ (Re _)) w⟩
 by_cases e:i=j
 ·
  subst e;simp [H7]
 ·
  have:=List.pairwise_iff_getElem.1 h.sort i j (by omega) hj (by omega)
  unfold H7
  rcases this with h1|⟨h1,h2⟩
  ·
   rw [if_pos (by omega)];omega
  ·
   rw [if_neg (by omega)];omega
abbrev Nm:Value:= .func (.func 185) #[] #[]
set_option maxHeartbeats 4000000 in
theorem MN (L:List Pz) (hL:InZ L) (lv:Value) (w:World) (hl:Reads w lv L.length (L.flatMap dc)) (a b:Nat) (hb:b≤L.length) (ha:a≤L.length):
  ay Tryz.prog 279 [lv,.int .i64 (a:Int),.int .i64 (b:Int),Nm] w (.tuple #[]):=by
 obtain ⟨Al,cl,rfl,hl1,hl2,hl3⟩:=hl
 refine aq Tryz.func279 rfl Tryz.ntmps279 rfl ?_
 have hlen:=hL.len
 repeat' (first|refine sT ?_|refine sS ?_|refine sN ?_|refine sM fun _=> ?_|(refine sC ?_ ?_<;>intro hb<;>try omega)|fail)
 refine ax [0,1,2,3] rfl (fun i:Nat=> [(8,.int .i64 (i:Int))]) (fun _=> []) (fun i=>a+1≤i∧i≤max b (a+1)) (fun i=>max b (a+1) - i) (a+1) ⟨Qq _,by omega⟩ sB mS ?_
 rintro i ⟨hi,hi2⟩
 by_cases hlt:i<b
 ·
  obtain ⟨gl,ol,rfl,hrl⟩:=hl3 (by omega)
  obtain ⟨z,hz,hc⟩:=hL.cmp (i:=i - 1) (j:=i) (by omega) (by omega)
  have h1:=hrl.elem cU i (by omega)
  have h2:=hrl.elem cU (i - 1) (by omega)
  generalize L[i]'(by omega)=p at h1 hc
  generalize L[i - 1]'(by omega)=q at h2 hc
  repeat' (first|refine sT ?_|refine sS ?_|refine sN ?_|refine sM fun _=> ?_|(refine sC ?_ ?_<;>intro hb<;>try omega)|fail)
  all_goals try (exfalso;omega)
  refine ax [0,1,2,3,8] rfl (fun _:Unit=> [(9,.int .i64 (i:Int))]) (fun _=> []) (fun _=>True) (fun _=>0) () trivial sB mS ?_
  rintro _ _
  repeat' (first|(apply gF (id:=4);kernel_rfl;kernel_rfl)|(apply aS (d:=25);exact rfl;apply aj (j:=i);exact rfl;exact rfl;omega)|(apply aS (d:=30);exact rfl;apply aj (j:=i - 1);exact rfl;exact rfl;omega)|(apply aS (d:=26);exact rfl;apply aB (xs:=dc p);exact rfl;exact h1;exact rfl)|(apply aS (d:=31);exact rfl;apply aB (xs:=dc q);exact rfl;exact h2;exact rfl)|(apply gV;exact rfl;exact rfl;infer_instance;exact rfl;(intro w' _;exact hc w'))|refine sT ?_|refine sS ?_|refine sQ ?_|refine sN ?_|refine sNQ ?_|refine sO ?_|refine sOQ ?_|refine sD ?_|refine sM fun _=> ?_|(refine sC ?_ ?_<;>intro hb<;>try omega)|(refine sCQ ?_ ?_<;>intro hb<;>try omega)|fail)
  all_goals first
   |(exfalso;omega)
   |(refine ⟨i+1,⟨by omega,by omega⟩,by omega,by exact sB,by exact sB,by exact mS⟩;done)
 ·
  repeat' (first|refine sT ?_|refine sS ?_|refine sM fun _=> ?_|(refine sC ?_ ?_<;>intro hb<;>try omega)|fail)
  all_goals first
   |(exfalso;omega)
   |(exact fM eIO rfl (MSub.nil _) rfl)
def kw (k:Int):Bool:=decide (k=3)||decide (k=4)||decide (k=7)||decide (k=8)||decide (k=9)
def GN (k:Int):Bool:=decide (k=3)||decide (k=4)||decide (k=5)||decide (k=6)||decide (k=7)||decide (k=8)
def qB (k:Int):Ox:=⟨k,0,aM,av,0#64,0#64,0#64,0,0#64,0⟩
def kr (x:Ox):Rct × Bool:=if GN x.kind then (x.rect,true) else (aM,false)
def mF (x:Ox):Ox:=
 if x.kind<1∨10<x.kind then qB x.kind
 else ⟨x.kind,x.user,(kr x).1,if x.kind=3 then x.input else av,if x.kind=7 then x.rd else 0#64,if x.kind=7 then x.wr else 0#64,if x.kind=7 then x.ow else 0#64,if x.kind=8 then x.fns else 0,if x.kind=8 then x.to else 0#64,if x.kind=9 then x.idx else 0⟩
def opE (x:Ox):Int:=
 if x.kind<1∨10<x.kind∨x≠mF x then 4
 else if x.kind=3∨x.kind=6 then (if x.rect.c1=x.rect.c2∧x.rect.r1=x.rect.r2 then (if gO x.input≠0 then 4 else 0) else 4)
 else if x.kind=8 then (if x.fns<1∨31<x.fns then 4 else 0) else 0
theorem pE (x:Ox) (w:World):ay Tryz.prog 41 [.agg (bN x).toArray] w (.bool (kw x.kind)):=by
 refine aq Tryz.func41 rfl Tryz.ntmps41 rfl ?_
 repeat' (first|refine sT ?_|refine sS ?_|refine sM fun _=> ?_|(refine sC ?_ ?_<;>intro hb<;>try omega)|fail)
 all_goals first
  |(exfalso;omega)
  |((refine rT1 ?_);simp_all [kw];done)
theorem CG (k:Int) (w:World):ay Tryz.prog 41 [.agg (bN (qB k)).toArray] w (.bool (kw k)):=pE (qB k) w
theorem yc (x:Ox) (w:World):ay Tryz.prog 88 [.agg (bN x).toArray] w (.tuple #[.agg (bK (kr x).1).toArray,.bool (kr x).2]):=by
 refine aq Tryz.func88 rfl Tryz.ntmps88 rfl ?_
 by_cases h:GN x.kind=true
 ·
  rw [kr,if_pos h]
  repeat' (first|refine sT ?_|refine sS ?_|refine sM fun _=> ?_|(refine sC ?_ ?_<;>intro hb<;>try omega)|fail)
  all_goals first
   |(exfalso;omega)
   |((refine eJ ?_);rfl)
   |(exfalso;simp_all [GN];done)
 ·
  rw [kr,if_neg h]
  repeat' (first|refine sT ?_|refine sS ?_|refine sM fun _=> ?_|(refine sC ?_ ?_<;>intro hb<;>try omega)|fail)
  all_goals first
   |(exfalso;omega)
   |(exfalso;simp_all [GN];done)
   |((refine eJ ?_);rfl)
set_option maxHeartbeats 4000000 in
theorem Ls (x:Ox) (w:World):ay Tryz.prog 133 [.agg (bN x).toArray] w (.agg (bN (mF x)).toArray):=by
 refine aq Tryz.func133 rfl Tryz.ntmps133 rfl ?_
 have hT:=fun w=>yc x w
 unfold mF
 obtain ⟨⟨t,tb⟩,ht⟩: ∃ t,kr x=t:=⟨_,rfl⟩
 rw [ht] at hT ⊢
 by_cases h8:x.kind=8
 ·
  repeat' (first|(apply aa;exact rfl;exact rfl;(intro w hm;exact hT w))|refine sT ?_|refine sS ?_|refine sM fun _=> ?_|(refine sC ?_ ?_<;>intro hb<;>try omega)|fail)
  all_goals try (exfalso;omega)
  rename_i g1 g2 g3 _ _ _ _
  refine jc (id:=12) [5,7] [] [.box g1 37 (bN x)] (by kernel_rfl) (by kernel_rfl) (by kernel_rfl) mS ?_
  repeat' (first|refine sT ?_|refine sS ?_|refine sW ?_|refine sM fun _=> ?_|(refine sC ?_ ?_<;>intro hb<;>try omega)|(refine sCW ?_ ?_<;>intro hb<;>try omega)|fail)
  all_goals first
   |(exfalso;omega)
   |((refine eRC ?_);rw [if_neg (by omega)];simp_all [bN,av,vS];done)
 ·
  repeat' (first|(apply aa;exact rfl;exact rfl;(intro w hm;exact hT w))|refine sT ?_|refine sS ?_|refine sM fun _=> ?_|(refine sC ?_ ?_<;>intro hb<;>try omega)|fail)
  all_goals first
   |(exfalso;omega)
   |((refine eRC ?_);rw [if_pos (by omega)];simp_all [bN,qB,aM,av,vS];done)
   |((refine eRC ?_);rw [if_neg (by omega)];simp_all [bN,av,vS];done)
set_option maxHeartbeats 4000000 in
theorem uM (x:Ox) (w:World):ay Tryz.prog 90 [.agg (bN x).toArray] w (.int .i64 (opE x)):=by
 refine aq Tryz.func90 rfl Tryz.ntmps90 rfl ?_
 have hP:=fun w=>Ls x w
 have hG:=fun w=>vg x.input w
 unfold opE
 obtain ⟨c,hc⟩: ∃ c,EC x (mF x)=c:=⟨_,rfl⟩
 have hc' :x≠mF x↔c=false:=by
  rw [← hc,← TM,Cg]
 simp only [hc']
 clear hc'
 generalize gO x.input=ge at hG
 generalize mF x=p at hP hc
 repeat' (first|(apply bX (id:=1) [11] [];kernel_rfl;kernel_rfl;kernel_rfl)|(apply di;(iterate 3 exact rfl);apply LZ (b:=p);exact rfl;exact rfl)|(apply aa (f:=133);exact rfl;exact rfl;(intro w' _;exact hP w'))|(apply aa;exact rfl;exact rfl;(intro w hm;exact hG w))|refine sT ?_|refine sS ?_|refine sW ?_|refine sM fun _=> ?_|(refine sC ?_ ?_<;>intro hb<;>try omega)|(refine sCW ?_ ?_<;>intro hb<;>try omega)|fail)
 all_goals first
  |(exfalso;omega)
  |((refine rT1 ?_);simp_all;done)
  |((refine rT1 ?_);simp_all;omega)
def cY (n:Int):BitVec 64 × Int:=if n<0∨64<n then (0#64,3) else (zx n.toNat,0)
theorem zG (n:Int) (w:World):ay Tryz.prog 87 [.int .i64 n] w (.tuple #[vS (cY n).1,.int .i64 (cY n).2]):=by
 refine aq Tryz.func87 rfl Tryz.ntmps87 rfl ?_
 by_cases h:n<0∨64<n
 ·
  rw [cY,if_pos h]
  repeat' (first|refine sT ?_|refine sM fun _=> ?_|(refine sC ?_ ?_<;>intro hb<;>try omega)|fail)
  all_goals first|(exfalso;omega)|((refine rT2 ?_);rfl)
 ·
  rw [cY,if_neg h]
  obtain ⟨m,rfl⟩: ∃ m:Nat,n=(m:Int):=⟨n.toNat,by omega⟩
  repeat' (first|(apply ak;exact rfl;apply yF (a:=1#64) (m:=m);exact rfl;exact rfl;omega)|(apply ak;exact rfl;apply LV (b:=1#64);exact rfl;exact rfl)|refine sT ?_|refine sM fun _=> ?_|(refine sC ?_ ?_<;>intro hb<;>try omega)|fail)
  all_goals first|(exfalso;omega)|((refine rT2 ?_);rfl)
theorem nB (x:BitVec 64) (u:Int) (w:World):ay Tryz.prog 118 [vS x,.int .i64 u] w (.bool (fX x u)):=by
 refine aq Tryz.func118 rfl Tryz.ntmps118 rfl ?_
 by_cases h:0≤u∧u<64
 ·
  obtain ⟨m,rfl⟩: ∃ m:Nat,u=(m:Int):=⟨u.toNat,by omega⟩
  have hs:=Mr x m
  have he:fX x (m:Int)=x.getLsbD m:=by simp [fX];omega
  rw [he]
  repeat' (first|(apply ak;exact rfl;apply LX (a:=x) (m:=m);exact rfl;exact rfl;omega)|(apply ak;exact rfl;apply sZ (b:=1#64);exact rfl;exact rfl)|(apply ak;exact rfl;apply Fe (b:=1#64);exact rfl;exact rfl)|refine sT ?_|refine sM fun _=> ?_|(refine sC ?_ ?_<;>intro hb<;>try omega)|fail)
  all_goals first|(exfalso;omega)|((refine rT1 ?_);exact congrArg Value.bool hs)
 ·
  have he:fX x u=false:=by
   unfold fX
   by_cases h1:0≤u
   ·
    have h2: ¬ u<64:=fun h2=>h ⟨h1,h2⟩
    simp [h2]
   ·
    simp [h1]
  rw [he]
  repeat' (first|refine sT ?_|refine sM fun _=> ?_|(refine sC ?_ ?_<;>intro hb<;>try omega)|fail)
  all_goals first|(exfalso;omega)|((refine rT1 ?_);rfl)
theorem IG (L:List (BitVec 64)) (lv:Value) (w:World) (hl:Reads w lv L.length (L.map vS)):ay Tryz.prog 142 [lv] w (vS (sA L)):=by
 obtain ⟨Al,cl,rfl,hl1,hl2,hl3⟩:=hl
 refine aq Tryz.func142 rfl Tryz.ntmps142 rfl ?_
 repeat' (first|refine sT ?_|refine sM fun _=> ?_|(refine sC ?_ ?_<;>intro hb<;>try omega)|fail)
 refine ax [6,7] rfl (fun i:Nat=> [(3,vS (sA (L.take i))),(8,.int .i64 (i:Int))]) (fun _=> []) (fun i=>i≤L.length) (fun i=>L.length - i) 0 (Qt _) sB mS ?_
 rintro i hi
 by_cases hlt:i<L.length
 ·
  obtain ⟨gl,ol,rfl,hrl⟩:=hl3 (by omega)
  have he1:=hrl.cellV i (v:=vS L[i]) (by rw [QX,Ql hlt];rfl)
  have hs:sA (L.take (i+1))=sA (L.take i) &&& L[i]:=by rw [Qv hlt,Iv]
  repeat' (first|(apply ak;exact rfl;apply sZ;exact rfl;exact rfl)|refine sT ?_|refine sN ?_|refine sO ?_|refine sM fun _=> ?_|(refine sC ?_ ?_<;>intro hb<;>try omega)|fail)
  all_goals first
   |(exfalso;omega)
   |(refine ⟨i+1,hlt,by omega,?_,by exact sB,by exact mS⟩;rw [hs];exact sB)
 ·
  have e:i=L.length:=by omega
  subst e
  repeat' (first|refine sT ?_|refine sM fun _=> ?_|(refine sC ?_ ?_<;>intro hb<;>try omega)|fail)
  all_goals first
   |(exfalso;omega)
   |((refine rT1 ?_);rw [Rx])
theorem ik {r:Rct} (h:dC r≠0):aJ r=false:=by
 cases hq:aJ r
 ·
  rfl
 ·
  exact absurd (by rw [dC,hq];rfl) h
theorem eV {r:Rct} (h: ¬ dC r≠0): ¬ aJ r=false:=fun hq=>h (by rw [dC,hq];decide)
def mA:Rct:=⟨1,1,1024,1024⟩
def eH (u:Int):List Rl→Int→Int × Int
 | [],_=>(0,0)
 |r::L,i=>if aJ r.rect=false then (i,3) else if (r.read|||r.write|||r.own) &&& ~~~(cY u).1≠0#64 then (i,2) else eH u L (i+1)
def ed (u:Int) (L:List Rl):Int × Int:=
 if u<0∨64<u∨u=0∨L= [] then (0,2) else if 64<L.length then (64,5) else if (L.head?.map (·.rect))≠some mA then (0,2) else eH u L 0
theorem JA (w:World):ay Tryz.prog 117 [] w (.agg (bK mA).toArray):=by
 refine aq Tryz.func117 rfl Tryz.ntmps117 rfl ?_
 repeat' (first|refine sT ?_|refine sM fun _=> ?_|(refine sC ?_ ?_<;>intro hb<;>try omega)|fail)
 (refine eRC ?_)
 rfl
theorem Rl.ro {w:World} {g o:Nat} {r:Rl} (h:Ro w g o (bw r)):Ro w g o (bK r.rect)∧Ro w g (o+4) [vS r.read]∧Ro w g (o+5) [vS r.write]∧Ro w g (o+6) [vS r.own]∧Ro w g (o+4) [vS r.read,vS r.write,vS r.own]:=
 ⟨h.take (k:=4),(h.drop (k:=4)).take (k:=1),(h.drop (k:=5)).take (k:=1),h.drop (k:=6),h.drop (k:=4)⟩
set_option maxHeartbeats 4000000 in
theorem iU (u:Int) (L:List Rl) (lv:Value) (w:World) (hl:Reads w lv L.length (L.flatMap bw)):ay Tryz.prog 60 [.int .i64 u,lv] w (.tuple #[.int .i64 (ed u L).1,.int .i64 (ed u L).2]):=by
 obtain ⟨Al,cl,rfl,hl1,hl2,hl3⟩:=hl
 refine aq Tryz.func60 rfl Tryz.ntmps60 rfl ?_
 have hA:=fun w=>zG u w
 unfold ed
 have hE:(cY u).2=if u<0∨64<u then 3 else 0:=by unfold cY;split<;>rfl
 by_cases h1:u<0∨64<u∨u=0∨L= []
 ·
  rw [if_pos h1]
  generalize cY u=ae at hA hE
  obtain ⟨sa,ee⟩:=ae
  dsimp only at hA hE
  subst hE
  have h1' : ¬ (u<0∨64<u)→u≠0→L.length=0:=fun h2 h3=>by
   rcases h1 with h|h|h|h
   ·
    exact absurd (.inl h) h2
   ·
    exact absurd (.inr h) h2
   ·
    exact absurd h h3
   ·
    rw [h];rfl
  clear h1
  by_cases h2:u<0∨64<u
  ·
   rw [if_pos h2] at hA
   repeat' (first|(apply aa;exact rfl;exact rfl;(intro w hm;exact hA w))|refine sT ?_|refine sM fun _=> ?_|(refine sC ?_ ?_<;>intro hb<;>try omega)|fail)
   all_goals first|(exfalso;omega)|((refine rT2 ?_);rfl)
  ·
   rw [if_neg h2] at hA
   have h3:=h1' h2
   repeat' (first|(apply aa;exact rfl;exact rfl;(intro w hm;exact hA w))|refine sT ?_|refine sM fun _=> ?_|(refine sC ?_ ?_<;>intro hb<;>try omega)|fail)
   all_goals first|(exfalso;omega)|((refine rT2 ?_);rfl)
 rw [if_neg h1]
 have hu: ¬ (u<0∨64<u)∧u≠0:=⟨fun h=>h1 (h.elim .inl fun h=> .inr (.inl h)),fun h=>h1 (.inr (.inr (.inl h)))⟩
 have hpos:0<L.length:=RQ.2 fun h=>h1 (.inr (.inr (.inr h)))
 rw [if_neg hu.1] at hE
 rw [hE] at hA
 obtain ⟨sa,has⟩: ∃ sa,sa=(cY u).1:=⟨_,rfl⟩
 rw [← has] at hA
 obtain ⟨gl,ol,rfl,hrl⟩:=hl3 hpos
 by_cases h64:64<L.length
 ·
  rw [if_pos h64]
  repeat' (first|(apply aa;exact rfl;exact rfl;(intro w hm;exact hA w))|refine sT ?_|refine sM fun _=> ?_|(refine sC ?_ ?_<;>intro hb<;>try omega)|fail)
  all_goals first|(exfalso;omega)|((refine rT2 ?_);rfl)
 rw [if_neg h64]
 obtain ⟨h0a,_⟩:=Rl.ro (hrl.elem dA 0 hpos)
 have hsh:=fun w=>JA w
 have hhd:L.head?.map (·.rect)=some L[0].rect:=by rw [List.head?_eq_getElem?,Ql hpos];rfl
 rw [hhd]
 obtain ⟨c,hc⟩: ∃ c,decide (L[0].rect=mA)=c:=⟨_,rfl⟩
 have hcs:(some L[0].rect≠some mA)↔c=false:=by rw [← hc];simp
 generalize L[0].rect=r0 at h0a hc hcs ⊢
 simp only [hcs]
 clear hhd hcs
 cases c with
 |false=>
  repeat' (first|(apply aa;exact rfl;exact rfl;(intro w hm;exact hA w))|(apply dK (f:=117);exact rfl;exact rfl;(intro w' _;exact hsh w'))|(apply aS;exact rfl;apply aj (j:=0);exact rfl;exact rfl;exact hpos)|(apply aS;exact rfl;apply aB (xs:=bK r0);exact rfl;exact h0a;exact rfl)|(apply aS;exact rfl;apply nH hc;exact rfl;exact rfl)|refine sT ?_|refine sQ ?_|refine sN ?_|refine sNQ ?_|refine sO ?_|refine sOQ ?_|refine sD ?_|refine sM fun _=> ?_|(refine sC ?_ ?_<;>intro hb<;>try omega)|(refine sCQ ?_ ?_<;>intro hb<;>try omega)|fail)
  all_goals first|(exfalso;omega)|((refine rT2 ?_);rfl)
 |true=>
  repeat' (first|(apply aa;exact rfl;exact rfl;(intro w hm;exact hA w))|(apply dK (f:=117);exact rfl;exact rfl;(intro w' _;exact hsh w'))|(apply aS;exact rfl;apply aj (j:=0);exact rfl;exact rfl;exact hpos)|(apply aS;exact rfl;apply aB (xs:=bK r0);exact rfl;exact h0a;exact rfl)|(apply aS;exact rfl;apply nH hc;exact rfl;exact rfl)|refine sT ?_|refine sQ ?_|refine sN ?_|refine sNQ ?_|refine sO ?_|refine sOQ ?_|refine sD ?_|refine sM fun _=> ?_|(refine sC ?_ ?_<;>intro hb<;>try omega)|(refine sCQ ?_ ?_<;>intro hb<;>try omega)|fail)
  all_goals try (exfalso;omega)
  refine ax [1,6,37,38] rfl (fun i:Nat=> [(39,.int .i64 (i:Int))]) (fun _=> []) (fun i=>i≤L.length∧eH u L 0=eH u (L.drop i) (i:Int)) (fun i=>L.length - i) 0 ⟨Qt _,rfl⟩ sB mS ?_
  rintro i ⟨hi,hrec⟩
  by_cases hlt:i<L.length
  ·
   have he1:=hrl.elem dA i hlt
   rw [Qs hlt,eH,← has] at hrec
   generalize L[i]=r at hrec he1
   have hck:=fun w=>fR r.rect w
   repeat' (first|(apply aa;exact rfl;exact rfl;(intro w hm;exact hck w))|(apply ak;exact rfl;apply oT;exact rfl;exact rfl)|(apply ak;exact rfl;apply dU (b:=sa);exact rfl;exact rfl)|(apply ak;exact rfl;apply gG (b:=0#64);exact rfl;exact rfl)|refine sT ?_|refine sN ?_|refine sO ?_|refine sM fun _=> ?_|(refine sC ?_ ?_<;>intro hb<;>try omega)|fail)
   all_goals first
    |(exfalso;omega)
    |((refine rT2 ?_);rw [if_neg (by decide),hrec,if_pos (ik hb)];done)
    |((refine rT2 ?_);rw [if_neg (by decide),hrec,if_neg (eV ‹_›),if_pos hb];done)
    |(refine ⟨i+1,⟨hlt,by rw [hrec,if_neg (eV ‹_›),if_neg (fun h=>h hb)];rfl⟩,by omega,by exact sB,by exact sB,by exact mS⟩;done)
  ·
   have e:i=L.length:=by omega
   subst e
   rw [Rk,eH] at hrec
   rw [if_neg (by decide),hrec]
   repeat' (first|refine sT ?_|refine sM fun _=> ?_|(refine sC ?_ ?_<;>intro hb<;>try omega)|fail)
   all_goals first|(exfalso;omega)|((refine rT2 ?_);rfl)
set_option maxHeartbeats 4000000 in
theorem ML (a:Rf) (L:List Rl) (lv:Value) (w:World) (hl:Reads w lv L.length (L.flatMap bw)) (hb:L.length≤1000000) (hpos:0<L.length):ay Tryz.prog 203 [.agg (bf a).toArray,lv] w (.int .i64 (gN L a:Int)):=by
 obtain ⟨Al,cl,rfl,hl1,hl2,hl3⟩:=hl
 refine aq Tryz.func203 rfl Tryz.ntmps203 rfl ?_
 repeat' (first|refine sT ?_|refine sS ?_|refine sN ?_|refine sM fun _=> ?_|(refine sC ?_ ?_<;>intro hb<;>try omega)|fail)
 rename_i g2
 obtain ⟨gl,ol,rfl,hrl⟩:=hl3 (by omega)
 refine ax [1,2] rfl (fun i:Nat=> [(5,.int .i64 (i:Int))]) (fun _=> [.box g2 50 (bf a)]) (fun i=>i<L.length∧gN L a=rJ a L (i+1)) (fun i=>i) (L.length - 1) ⟨by omega,by rw [TG (by omega)];rfl⟩ sB mS ?_
 rintro i ⟨hi,hrec⟩
 rw [rJ,Ql hi] at hrec
 simp only [Ry,SF] at hrec
 have hIn:=fun w=>LA L[i].rect a w
 obtain ⟨h0a,_⟩:=Rl.ro (hrl.elem dA i hi)
 obtain ⟨c,hcc⟩: ∃ c,eX L[i].rect a=c:=⟨_,rfl⟩
 simp only [hcc] at hIn hrec
 clear hcc
 generalize L[i].rect=x at h0a hIn
 by_cases hi0:i=0
 ·
  subst hi0
  have e:gN L a=0:=by rw [hrec];cases c<;>rfl
  rw [e]
  repeat' (first|refine sT ?_|refine sS ?_|refine sM fun _=> ?_|(refine sC ?_ ?_<;>intro hb<;>try omega)|fail)
  all_goals first|(exfalso;omega)|((refine rT1 ?_);rfl)
 ·
  cases c
  ·
   rw [if_neg (by decide)] at hrec
   repeat' (first|(apply aS;exact rfl;apply aj (j:=i);exact rfl;exact rfl;exact hi)|(apply dK (f:=45);exact rfl;exact rfl;(intro w' _;exact hIn w'))|refine sT ?_|refine sS ?_|refine sQ ?_|refine sN ?_|refine sNQ ?_|refine sO ?_|refine sOQ ?_|refine sD ?_|refine sM fun _=> ?_|(refine sC ?_ ?_<;>intro hb<;>try omega)|(refine sCQ ?_ ?_<;>intro hb<;>try omega)|fail)
   all_goals first
    |(exfalso;omega)
    |(refine ⟨i - 1,⟨by omega,by rw [TG (by omega)];exact hrec⟩,by omega,by exact sB,by exact sB,by exact mS⟩;done)
  ·
   rw [if_pos rfl] at hrec
   rw [hrec]
   repeat' (first|(apply aS;exact rfl;apply aj (j:=i);exact rfl;exact rfl;exact hi)|(apply dK (f:=45);exact rfl;exact rfl;(intro w' _;exact hIn w'))|refine sT ?_|refine sS ?_|refine sQ ?_|refine sN ?_|refine sNQ ?_|refine sO ?_|refine sOQ ?_|refine sD ?_|refine sM fun _=> ?_|(refine sC ?_ ?_<;>intro hb<;>try omega)|(refine sCQ ?_ ?_<;>intro hb<;>try omega)|fail)
   all_goals first|(exfalso;omega)|((refine rT1 ?_);rfl)
def rY (a:Rf) (L:List Rl):Int × Int:=if a.valid=false then (0,3) else if (ed 64 L).2≠0 then (0,(ed 64 L).2) else ((gN L a:Int),0)
theorem FZ {L:List Rl} (h: ¬ (ed 64 L).2≠0):0<L.length∧L.length≤64:=by
 unfold ed at h
 split at h
 ·
  exact absurd (by decide) h
 ·
  rename_i h1
  have hn:L≠ []:=fun e=>h1 (.inr (.inr (.inr e)))
  split at h
  ·
   exact absurd (by decide) h
  ·
   exact ⟨RQ.2 hn,by omega⟩
theorem EN (a:Rf) (L:List Rl) (lv:Value) (w:World) (hl:Reads w lv L.length (L.flatMap bw)):ay Tryz.prog 156 [.agg (bf a).toArray,lv] w (.tuple #[.int .i64 (rY a L).1,.int .i64 (rY a L).2]):=by
 refine aq Tryz.func156 rfl Tryz.ntmps156 rfl ?_
 have h1:=fun w=>jy a.col a.row w
 have h2:=fun (w' :World) (H:List Blk) (hm:Mem w w' H)=>iU 64 L lv w' (hl.of_w0 hm)
 have h3:=fun (hp:0<L.length) (hb:L.length≤64) (w' :World) (H:List Blk) (hm:Mem w w' H)=>ML a L lv w' (hl.of_w0 hm) (by omega) hp
 have hv:a.valid=valid a.col a.row:=rfl
 unfold rY
 rw [hv]
 generalize valid a.col a.row=b at h1
 by_cases hc:(ed 64 L).2≠0
 ·
  rw [if_pos hc]
  cases b
  all_goals
   repeat' (first|(apply aa;exact rfl;exact rfl;(intro w hm;exact h1 w))|(apply aa (f:=60);exact rfl;exact rfl;(intro w' hm;exact h2 w' _ hm))|refine sT ?_|refine sM fun _=> ?_|(refine sC ?_ ?_<;>intro hb<;>try omega)|fail)
  all_goals first|(exfalso;omega)|((refine rT2 ?_);rfl)
 ·
  obtain ⟨hp,hb⟩:=FZ hc
  have h3:=h3 hp hb
  rw [if_neg hc]
  have hc0:(ed 64 L).2=0:=by omega
  rw [hc0] at h2
  cases b
  all_goals
   repeat' (first|(apply aa;exact rfl;exact rfl;(intro w hm;exact h1 w))|(apply aa (f:=60);exact rfl;exact rfl;(intro w' hm;exact h2 w' _ hm))|(apply aa (f:=203);exact rfl;exact rfl;(intro w' hm;exact h3 w' _ hm))|refine sT ?_|refine sM fun _=> ?_|(refine sC ?_ ?_<;>intro hb<;>try omega)|fail)
  all_goals first|(exfalso;omega)|((refine rT2 ?_);rfl)
def atR (a:Rf) (L:List Rl):BitVec 64 × BitVec 64 × BitVec 64:=match L[gN L a]? with|some x=>(x.read,x.write,x.own)|none=>(0#64,0#64,0#64)
def atE (a:Rf) (L:List Rl):(BitVec 64 × BitVec 64 × BitVec 64) × Int:=if (rY a L).2≠0 then ((0#64,0#64,0#64),(rY a L).2) else (atR a L,0)
theorem LP {a:Rf} {L:List Rl} (h: ¬ (rY a L).2≠0):a.valid=true∧(rY a L).1=gN L a∧ ∃ h:gN L a<L.length,atR a L=((L[gN L a]'h).read,(L[gN L a]'h).write,(L[gN L a]'h).own):=by
 unfold rY at h ⊢
 split at h
 ·
  exact absurd (by decide) h
 ·
  rename_i hv
  split at h
  ·
   rename_i h2;exact absurd h2 h
  ·
   rename_i h2
   have hp:=(FZ h2).1
   have hlt:=Ks (a:=a) (L:=L) (RQ.1 hp)
   refine ⟨by simpa using hv,?_,hlt,?_⟩
   ·
    simp only [hv,h2,QZ,if_false];rfl
   ·
    unfold atR;rw [Ql hlt]
set_option maxHeartbeats 1000000 in
theorem NF (a:Rf) (L:List Rl) (lv:Value) (w:World) (hl:Reads w lv L.length (L.flatMap bw)):ay Tryz.prog 124 [.agg (bf a).toArray,lv] w (.tuple #[.agg #[vS (atE a L).1.1,vS (atE a L).1.2.1,vS (atE a L).1.2.2],.int .i64 (atE a L).2]):=by
 refine aq Tryz.func124 rfl Tryz.ntmps124 rfl ?_
 have h1:=fun (w' :World) (H:List Blk) (hm:Mem w w' H)=>EN a L lv w' (hl.of_w0 hm)
 unfold atE
 by_cases hc:(rY a L).2≠0
 ·
  rw [if_pos hc]
  repeat' (first|(apply aa (f:=156);exact rfl;exact rfl;(intro w' hm;exact h1 w' _ hm))|refine sT ?_|refine sM fun _=> ?_|(refine sC ?_ ?_<;>intro hb<;>try omega)|fail)
  all_goals first
   |(exfalso;omega)
   |((refine eJ ?_);rfl)
 ·
  rw [if_neg hc]
  obtain ⟨_,h2,hlt,h3⟩:=LP hc
  have hc0:(rY a L).2=0:=by omega
  rw [h2,hc0] at h1
  rw [h3]
  obtain ⟨Al,cl,rfl,hl1,hl2,hl3⟩:=hl
  obtain ⟨gl,ol,rfl,hrl⟩:=hl3 (by omega)
  obtain ⟨_,_,_,_,hrr⟩:=Rl.ro (hrl.elem dA _ hlt)
  generalize L[gN L a]'hlt=x at hrr
  generalize gN L a=i at h1 hlt hrr
  repeat' (first|(apply aa (f:=156);exact rfl;exact rfl;(intro w' hm;exact h1 w' _ hm))|(apply ak (d:=20);exact rfl;apply aj (j:=i);exact rfl;exact rfl;exact hlt)|(apply ak (d:=22);exact rfl;apply aB (xs:= [vS x.read,vS x.write,vS x.own]);exact rfl;exact hrr;exact rfl)|refine sT ?_|refine sN ?_|refine sO ?_|refine sM fun _=> ?_|(refine sC ?_ ?_<;>intro hb<;>try omega)|fail)
  all_goals first
   |(exfalso;omega)
   |((refine eJ ?_);rfl)
section
variable {P:Program} {n:Fr} {w0:World} {Q:bR} {s:az} {H:List Blk} {l rest:List Oper} {ty:TypeId} {p:String} {af:Array Edge}
theorem wU {x:Operand} {a:Nat} {t t' :TypeId} {d:TypeDesc} [hs:Und P t d] [hd:Und P t' (.int .u64)] (hx:ev s x=some (.int .i64 (a:Nat))) (h:a≤maxLen):VOp P w0 s H (.convert t t' x) ty (.int .u64 (a:Nat)):=
 bP (k:= .i64) hx (by rw [IntKind.wrap_u64];simp only [maxLen] at h;omega)
theorem wV {x:Operand} {a:Nat} {t t' :TypeId} {d:TypeDesc} [hs:Und P t d] [hd:Und P t' (.int .i64)] (hx:ev s x=some (.int .u64 (a:Nat))) (h:a≤maxLen):VOp P w0 s H (.convert t t' x) ty (.int .i64 (a:Nat)):=
 bP (k:= .u64) hx (I64.wrap ⟨by omega,by simp only [maxLen] at h;omega⟩)
theorem qJ {x y:Operand} {a:Nat} {t t' :TypeId} (hx:ev s x=some (.int .u64 (a:Nat))) (hy:ev s y=some (.int .u64 1)):VOp P w0 s H (.binOp .shr t x y t') ty (.int .u64 ((a / 2:Nat):Int)):=by
 have h:=Fa (P:=P) (w0:=w0) (H:=H) (ty:=ty) (t:=t) (t' :=t') (m:=1) hx hy rfl
 have e:((a:Int) / 2 ^ 1)=((a / 2:Nat):Int):=by omega
 rwa [e] at h
theorem yG {x y:Operand} {a b:Nat} {t t' :TypeId} (hx:ev s x=some (.int .i64 (a:Nat))) (hy:ev s y=some (.int .i64 (b:Nat))) (ha:a*b≤maxLen):VOp P w0 s H (.binOp .mul t x y t') ty (.int .i64 ((a*b:Nat):Int)):=by
 rw [Int.natCast_mul]
 have e:((a:Int)*b)=((a*b:Nat):Int):=(Int.natCast_mul a b).symm
 exact tV hx hy ⟨by rw [e];omega,by rw [e];simp only [maxLen] at ha;omega⟩
end
set_option maxHeartbeats 16000000 in
theorem Fq (L:List Pz) (hL:InZ L) (lv:Value) (w:World) (hl:Reads w lv L.length (L.flatMap dc)): ∀ (k a m b:Nat),b - a≤k→a<m→m<b→b≤L.length→ ∀ w',(∃ H',Mem w w' H')→
  ay Tryz.prog 280 [lv,.int .i64 (a:Int),.int .i64 (m:Int),.int .i64 (b:Int),Nm] w' (.tuple #[])
 |0,a,m,b,hk,h1,h2,_=>by omega
 |k+1,a,m,b,hk,h1,h2,h3=>by
  intro w' ⟨H',hm'⟩
  have hl' :=hl.of_w0 hm'
  have IH:=fun (a m b:Nat) (g1:b - a≤k) (g2:a<m) (g3:m<b) (g4:b≤L.length) (w2:World) (H2:List Blk) (hm2:Mem w' w2 H2)=>Fq L hL lv w' hl' k a m b g1 g2 g3 g4 w2 ⟨H2,hm2⟩
  have hl0:=hl'
  obtain ⟨Al,cl,rfl,hl1,hl2,hl3⟩:=hl'
  refine aq Tryz.func280 rfl Tryz.ntmps280 rfl ?_
  have hlen:=hL.len
  obtain ⟨gl,ol,rfl,hrl⟩:=hl3 (by omega)
  by_cases c1:m - a=1
  ·
   repeat' (first|refine sT ?_|refine sS ?_|refine sN ?_|refine sM fun _=> ?_|(refine sC ?_ ?_<;>intro hb<;>try omega)|fail)
   all_goals try (exfalso;omega)
   refine ax [0,1,2,3,4,10] rfl (fun j:Nat=> [(11,.int .i64 (j:Int))]) (fun _=> []) (fun j=>m≤j∧j≤b) (fun j=>j - m) b ⟨by omega,by omega⟩ sB mS ?_
   rintro j ⟨hj1,hj2⟩
   by_cases hlt:m<j
   ·
    obtain ⟨z,hz,hc⟩:=hL.cmp (i:=a) (j:=(m+j) / 2) (by omega) (by omega)
    have r1:=hrl.elem cU ((m+j) / 2) (by omega)
    have r2:=hrl.elem cU a (by omega)
    generalize L[(m+j) / 2]'(by omega)=p at r1 hc
    generalize L[a]'(by omega)=q at r2 hc
    repeat' (first|(apply ak;exact rfl;apply wU (a:=m+j);exact rfl;(simp only [maxLen];omega))|(apply ak;exact rfl;apply qJ (a:=m+j);exact rfl;exact rfl)|(apply ak;exact rfl;apply wV (a:=(m+j) / 2);exact rfl;(simp only [maxLen];omega))|(apply gF (id:=5);kernel_rfl;kernel_rfl)|(apply aS (d:=43);exact rfl;apply aj (j:=(m+j) / 2);exact rfl;exact rfl;omega)|(apply aS (d:=47);exact rfl;apply aj (j:=a);exact rfl;exact rfl;omega)|(apply aS (d:=44);exact rfl;apply aB (xs:=dc p);exact rfl;exact r1;exact rfl)|(apply aS (d:=48);exact rfl;apply aB (xs:=dc q);exact rfl;exact r2;exact rfl)|(apply gV;exact rfl;exact rfl;infer_instance;exact rfl;(intro w' _;exact hc w'))|refine sT ?_|refine sS ?_|refine sQ ?_|refine sN ?_|refine sNQ ?_|refine sD ?_|refine sM fun _=> ?_|(refine sC ?_ ?_<;>intro hb<;>try omega)|(refine sCQ ?_ ?_<;>intro hb<;>try omega)|fail)
    all_goals first
     |(exfalso;omega)
     |(refine ⟨(m+j) / 2,⟨by omega,by omega⟩,by omega,by exact sB,by exact sB,by exact mS⟩;done)
   ·
    have e:j=m:=by omega
    subst e
    repeat' (first|refine sT ?_|refine sS ?_|refine sN ?_|refine sM fun _=> ?_|(refine sC ?_ ?_<;>intro hb<;>try omega)|fail)
    all_goals try (exfalso;omega)
    refine ax [0,1,2,3,4,10] rfl (fun _:Unit=> [(13,.int .i64 (a:Int))]) (fun _=> []) (fun _=>True) (fun _=>0) () trivial sB mS ?_
    rintro _ _
    repeat' (first|refine sT ?_|refine sS ?_|refine sN ?_|refine sM fun _=> ?_|(refine sC ?_ ?_<;>intro hb<;>try omega)|fail)
    all_goals first
     |(exfalso;omega)
     |(exact fM eIO rfl (MSub.nil _) rfl)
  by_cases c2:b - m=1
  ·
   repeat' (first|refine sT ?_|refine sS ?_|refine sN ?_|refine sM fun _=> ?_|(refine sC ?_ ?_<;>intro hb<;>try omega)|fail)
   all_goals try (exfalso;omega)
   refine ax [0,1,2,3,4,15] rfl (fun i:Nat=> [(14,.int .i64 (i:Int))]) (fun _=> []) (fun i=>a≤i∧i≤m) (fun i=>m - i) a ⟨by omega,by omega⟩ sB mS ?_
   rintro i ⟨hi1,hi2⟩
   by_cases hlt:i<m
   ·
    obtain ⟨z,hz,hc⟩:=hL.cmp (i:=(i+m) / 2) (j:=m) (by omega) (by omega)
    have r1:=hrl.elem cU m (by omega)
    have r2:=hrl.elem cU ((i+m) / 2) (by omega)
    generalize L[m]'(by omega)=p at r1 hc
    generalize L[(i+m) / 2]'(by omega)=q at r2 hc
    repeat' (first|(apply ak;exact rfl;apply wU (a:=i+m);exact rfl;(simp only [maxLen];omega))|(apply ak;exact rfl;apply qJ (a:=i+m);exact rfl;exact rfl)|(apply ak;exact rfl;apply wV (a:=(i+m) / 2);exact rfl;(simp only [maxLen];omega))|(apply gF (id:=17);kernel_rfl;kernel_rfl)|(apply aS (d:=95);exact rfl;apply aj (j:=m);exact rfl;exact rfl;omega)|(apply aS (d:=99);exact rfl;apply aj (j:=(i+m) / 2);exact rfl;exact rfl;omega)|(apply aS (d:=96);exact rfl;apply aB (xs:=dc p);exact rfl;exact r1;exact rfl)|(apply aS (d:=100);exact rfl;apply aB (xs:=dc q);exact rfl;exact r2;exact rfl)|(apply gV;exact rfl;exact rfl;infer_instance;exact rfl;(intro w' _;exact hc w'))|refine sT ?_|refine sS ?_|refine sQ ?_|refine sN ?_|refine sNQ ?_|refine sD ?_|refine sM fun _=> ?_|(refine sC ?_ ?_<;>intro hb<;>try omega)|(refine sCQ ?_ ?_<;>intro hb<;>try omega)|fail)
    all_goals first
     |(exfalso;simp at hb;omega)
     |(exfalso;omega)
     |(refine ⟨(i+m) / 2+1,⟨by omega,by omega⟩,by omega,by exact sB,by exact sB,by exact mS⟩;done)
   ·
    have e:i=m:=by omega
    subst e
    repeat' (first|refine sT ?_|refine sS ?_|refine sN ?_|refine sM fun _=> ?_|(refine sC ?_ ?_<;>intro hb<;>try omega)|fail)
    all_goals try (exfalso;omega)
    refine ax [0,1,2,3,4,14] rfl (fun _:Unit=> [(17,.int .i64 (i:Int))]) (fun _=> []) (fun _=>True) (fun _=>0) () trivial sB mS ?_
    rintro _ _
    repeat' (first|refine sT ?_|refine sS ?_|refine sN ?_|refine sM fun _=> ?_|(refine sC ?_ ?_<;>intro hb<;>try omega)|fail)
    all_goals first
     |(exfalso;omega)
     |(exact fM eIO rfl (MSub.nil _) rfl)
  obtain ⟨d,hd⟩: ∃ d,d=(a+b) / 2:=⟨_,rfl⟩
  by_cases c3:d<m
  ·
   repeat' (first|(apply ak (d:=132);exact rfl;apply wU (a:=a+b);exact rfl;(simp only [maxLen];omega))|(apply ak (d:=133);exact rfl;apply qJ (a:=a+b);exact rfl;exact rfl)|(apply ak (d:=134);exact rfl;(rw [← hd];apply wV (a:=d));exact rfl;(simp only [maxLen];omega))|refine sT ?_|refine sS ?_|refine sN ?_|refine sM fun _=> ?_|(refine sC ?_ ?_<;>intro hb<;>try omega)|fail)
   all_goals try (exfalso;omega)
   refine ax [0,1,2,3,4,18,19,21,22] rfl (fun st:Nat=> [(20,.int .i64 (st:Int))]) (fun _=> []) (fun st=>d+m - b≤st∧st≤d) (fun st=>d - st) (d+m - b) ⟨by omega,by omega⟩ sB mS ?_
   rintro st ⟨hs1,hs2⟩
   by_cases hlt:st<d
   ·
    obtain ⟨z,hz,hc⟩:=hL.cmp (i:=(st+d) / 2) (j:=d+m - 1 - (st+d) / 2) (by omega) (by omega)
    have r1:=hrl.elem cU (d+m - 1 - (st+d) / 2) (by omega)
    have r2:=hrl.elem cU ((st+d) / 2) (by omega)
    generalize L[d+m - 1 - (st+d) / 2]'(by omega)=p at r1 hc
    generalize L[(st+d) / 2]'(by omega)=q at r2 hc
    repeat' (first|(apply ak;exact rfl;apply wU (a:=st+d);exact rfl;(simp only [maxLen];omega))|(apply ak;exact rfl;apply qJ (a:=st+d);exact rfl;exact rfl)|(apply ak;exact rfl;apply wV (a:=(st+d) / 2);exact rfl;(simp only [maxLen];omega))|(apply gF (id:=35);kernel_rfl;kernel_rfl)|(apply aS (d:=163);exact rfl;apply aj (j:=d+m - 1 - (st+d) / 2);exact rfl;exact rfl;omega)|(apply aS (d:=167);exact rfl;apply aj (j:=(st+d) / 2);exact rfl;exact rfl;omega)|(apply aS (d:=164);exact rfl;apply aB (xs:=dc p);exact rfl;exact r1;exact rfl)|(apply aS (d:=168);exact rfl;apply aB (xs:=dc q);exact rfl;exact r2;exact rfl)|(apply gV;exact rfl;exact rfl;infer_instance;exact rfl;(intro w' _;exact hc w'))|refine sT ?_|refine sS ?_|refine sQ ?_|refine sN ?_|refine sNQ ?_|refine sD ?_|refine sM fun _=> ?_|(refine sC ?_ ?_<;>intro hb<;>try omega)|(refine sCQ ?_ ?_<;>intro hb<;>try omega)|fail)
    all_goals first
     |(exfalso;simp at hb;omega)
     |(exfalso;omega)
     |(refine ⟨(st+d) / 2+1,⟨by omega,by omega⟩,by omega,by exact sB,by exact sB,by exact mS⟩;done)
   ·
    have e:st=d:=by omega
    subst e
    repeat' (first|(apply ak (d:=177);exact rfl;apply kn (a:=st+m) (b:=st);exact rfl;exact rfl;omega;(simp only [maxLen];omega))|(apply aa (f:=280);exact rfl;exact rfl;(intro w2 hm2;(first|exact IH st (st+m - st) b (by omega) (by omega) (by omega) h3 w2 _ hm2)))|refine sT ?_|refine sS ?_|refine sN ?_|refine sM fun _=> ?_|(refine sC ?_ ?_<;>intro hb<;>try omega)|fail)
    all_goals first
     |(exfalso;omega)
     |(exact fM eIO rfl (MSub.nil _) rfl)
  ·
   repeat' (first|(apply ak (d:=132);exact rfl;apply wU (a:=a+b);exact rfl;(simp only [maxLen];omega))|(apply ak (d:=133);exact rfl;apply qJ (a:=a+b);exact rfl;exact rfl)|(apply ak (d:=134);exact rfl;(rw [← hd];apply wV (a:=d));exact rfl;(simp only [maxLen];omega))|refine sT ?_|refine sS ?_|refine sN ?_|refine sM fun _=> ?_|(refine sC ?_ ?_<;>intro hb<;>try omega)|fail)
   all_goals try (exfalso;omega)
   refine ax [0,1,2,3,4,18,19,21,22] rfl (fun st:Nat=> [(20,.int .i64 (st:Int))]) (fun _=> []) (fun st=>a≤st∧st≤m) (fun st=>m - st) a ⟨by omega,by omega⟩ sB mS ?_
   rintro st ⟨hs1,hs2⟩
   by_cases hlt:st<m
   ·
    obtain ⟨z,hz,hc⟩:=hL.cmp (i:=(st+m) / 2) (j:=d+m - 1 - (st+m) / 2) (by omega) (by omega)
    have r1:=hrl.elem cU (d+m - 1 - (st+m) / 2) (by omega)
    have r2:=hrl.elem cU ((st+m) / 2) (by omega)
    generalize L[d+m - 1 - (st+m) / 2]'(by omega)=p at r1 hc
    generalize L[(st+m) / 2]'(by omega)=q at r2 hc
    repeat' (first|(apply ak;exact rfl;apply wU (a:=st+m);exact rfl;(simp only [maxLen];omega))|(apply ak;exact rfl;apply qJ (a:=st+m);exact rfl;exact rfl)|(apply ak;exact rfl;apply wV (a:=(st+m) / 2);exact rfl;(simp only [maxLen];omega))|(apply gF (id:=35);kernel_rfl;kernel_rfl)|(apply aS (d:=163);exact rfl;apply aj (j:=d+m - 1 - (st+m) / 2);exact rfl;exact rfl;omega)|(apply aS (d:=167);exact rfl;apply aj (j:=(st+m) / 2);exact rfl;exact rfl;omega)|(apply aS (d:=164);exact rfl;apply aB (xs:=dc p);exact rfl;exact r1;exact rfl)|(apply aS (d:=168);exact rfl;apply aB (xs:=dc q);exact rfl;exact r2;exact rfl)|(apply gV;exact rfl;exact rfl;infer_instance;exact rfl;(intro w' _;exact hc w'))|refine sT ?_|refine sS ?_|refine sQ ?_|refine sN ?_|refine sNQ ?_|refine sD ?_|refine sM fun _=> ?_|(refine sC ?_ ?_<;>intro hb<;>try omega)|(refine sCQ ?_ ?_<;>intro hb<;>try omega)|fail)
    all_goals first
     |(exfalso;simp at hb;omega)
     |(exfalso;omega)
     |(refine ⟨(st+m) / 2+1,⟨by omega,by omega⟩,by omega,by exact sB,by exact sB,by exact mS⟩;done)
   ·
    have e:st=m:=by omega
    subst e
    by_cases c4:st<d
    ·
     repeat' (first|(apply ak (d:=177);exact rfl;apply kn (a:=d+st) (b:=st);exact rfl;exact rfl;omega;(simp only [maxLen];omega))|(apply aa (f:=280);exact rfl;exact rfl;(intro w2 hm2;exact IH a st d (by omega) (by omega) (by omega) (by omega) w2 _ hm2))|refine sT ?_|refine sS ?_|refine sN ?_|refine sM fun _=> ?_|(refine sC ?_ ?_<;>intro hb<;>try omega)|fail)
     all_goals first
      |(exfalso;omega)
      |(exact fM eIO rfl (MSub.nil _) rfl)
    ·
     repeat' (first|(apply ak (d:=177);exact rfl;apply kn (a:=d+st) (b:=st);exact rfl;exact rfl;omega;(simp only [maxLen];omega))|refine sT ?_|refine sS ?_|refine sN ?_|refine sM fun _=> ?_|(refine sC ?_ ?_<;>intro hb<;>try omega)|fail)
     all_goals first
      |(exfalso;omega)
      |(exact fM eIO rfl (MSub.nil _) rfl)
theorem IJ (a b:Rct) (w:World):ay Tryz.prog 232 [.agg (bK a).toArray,.agg (bK b).toArray] w (.bool (jp a b)):=by
 refine aq Tryz.func232 rfl Tryz.ntmps232 rfl ?_
 have hM:=fun w=>F2 a b w
 unfold jp
 obtain ⟨c,hc⟩: ∃ c,decide ((dO a b).1=a)=c:=⟨_,rfl⟩
 rw [hc]
 generalize dO a b=m at hM hc
 obtain ⟨mr,mb⟩:=m
 dsimp only at hM hc ⊢
 cases mb
 ·
  repeat' (first|(apply aa;exact rfl;exact rfl;(intro w hm;exact hM w))|refine sT ?_|refine sM fun _=> ?_|(refine sC ?_ ?_<;>intro hb<;>try omega)|fail)
  all_goals first|(exfalso;omega)|((refine rT1 ?_);rfl)
 ·
  repeat' (first|(apply aa;exact rfl;exact rfl;(intro w hm;exact hM w))|(apply ak;exact rfl;apply wZ hc;exact rfl;exact rfl)|refine sT ?_|refine sM fun _=> ?_|(refine sC ?_ ?_<;>intro hb<;>try omega)|fail)
  all_goals first|(exfalso;omega)|((refine rT1 ?_);rfl)
set_option maxHeartbeats 4000000 in
theorem zQ (r:Rct) (L:List Rl) (lv:Value) (w:World) (hl:Reads w lv L.length (L.flatMap bw)) (hb:L.length≤1000000):ay Tryz.prog 183 [.agg (bK r).toArray,lv] w (.int .i64 (gW r L:Int)):=by
 obtain ⟨Al,cl,rfl,hl1,hl2,hl3⟩:=hl
 refine aq Tryz.func183 rfl Tryz.ntmps183 rfl ?_
 by_cases h0:L.length=0
 ·
  have e:gW r L=0:=by rw [gW,h0];rfl
  rw [e]
  repeat' (first|refine sT ?_|refine sS ?_|refine sJ ?_|refine sM fun _=> ?_|(refine sC ?_ ?_<;>intro hb<;>try omega)|fail)
  rename_i g2
  refine ax [1,2] rfl (fun _:Unit=> [(5,.int .i64 (-1))]) (fun _=> [.box g2 32 (bK r)]) (fun _=>True) (fun _=>0) () trivial (by rw [h0];exact sB) mS ?_
  rintro _ _
  repeat' (first|refine sT ?_|refine sS ?_|refine sJ ?_|refine sM fun _=> ?_|(refine sC ?_ ?_<;>intro hb<;>try omega)|fail)
  all_goals first|(exfalso;omega)|((refine rT1 ?_);rfl)
 repeat' (first|refine sT ?_|refine sS ?_|refine sN ?_|refine sM fun _=> ?_|(refine sC ?_ ?_<;>intro hb<;>try omega)|fail)
 rename_i g2
 obtain ⟨gl,ol,rfl,hrl⟩:=hl3 (by omega)
 refine ax [1,2] rfl (fun i:Nat=> [(5,.int .i64 (i:Int))]) (fun _=> [.box g2 32 (bK r)]) (fun i=>i<L.length∧gW r L=l5 r L (i+1)) (fun i=>i) (L.length - 1) ⟨by omega,by rw [TG (by omega)];rfl⟩ sB mS ?_
 rintro i ⟨hi,hrec⟩
 rw [l5,Ql hi] at hrec
 simp only [Ry,SF] at hrec
 have hIn:=fun w=>IJ r L[i].rect w
 obtain ⟨h0a,_⟩:=Rl.ro (hrl.elem dA i hi)
 obtain ⟨c,hcc⟩: ∃ c,jp r L[i].rect=c:=⟨_,rfl⟩
 simp only [hcc] at hIn hrec
 clear hcc
 generalize L[i].rect=x at h0a hIn
 by_cases hi0:i=0
 ·
  subst hi0
  have e:gW r L=0:=by rw [hrec];cases c<;>rfl
  rw [e]
  repeat' (first|refine sT ?_|refine sS ?_|refine sM fun _=> ?_|(refine sC ?_ ?_<;>intro hb<;>try omega)|fail)
  all_goals first|(exfalso;omega)|((refine rT1 ?_);rfl)
 ·
  cases c
  ·
   rw [if_neg (by decide)] at hrec
   repeat' (first|(apply aS;exact rfl;apply aj (j:=i);exact rfl;exact rfl;exact hi)|(apply dK (f:=232);exact rfl;exact rfl;(intro w' _;exact hIn w'))|refine sT ?_|refine sS ?_|refine sQ ?_|refine sN ?_|refine sNQ ?_|refine sO ?_|refine sOQ ?_|refine sD ?_|refine sM fun _=> ?_|(refine sC ?_ ?_<;>intro hb<;>try omega)|(refine sCQ ?_ ?_<;>intro hb<;>try omega)|fail)
   all_goals first
    |(exfalso;omega)
    |(refine ⟨i - 1,⟨by omega,by rw [TG (by omega)];exact hrec⟩,by omega,by exact sB,by exact sB,by exact mS⟩;done)
  ·
   rw [if_pos rfl] at hrec
   rw [hrec]
   repeat' (first|(apply aS;exact rfl;apply aj (j:=i);exact rfl;exact rfl;exact hi)|(apply dK (f:=232);exact rfl;exact rfl;(intro w' _;exact hIn w'))|refine sT ?_|refine sS ?_|refine sQ ?_|refine sN ?_|refine sNQ ?_|refine sO ?_|refine sOQ ?_|refine sD ?_|refine sM fun _=> ?_|(refine sC ?_ ?_<;>intro hb<;>try omega)|(refine sCQ ?_ ?_<;>intro hb<;>try omega)|fail)
   all_goals first|(exfalso;omega)|((refine rT1 ?_);rfl)
def mL (fns fn:Int):Bool:=decide (46≤fn) && decide (fn≤50) && decide (Go.bits .and .u8 (fns / 2 ^ (fn - 46).toNat) 1=1)
theorem Lw (fns fn:Int) (w:World):ay Tryz.prog 205 [.int .u8 fns,.int .u8 fn] w (.bool (mL fns fn)):=by
 refine aq Tryz.func205 rfl Tryz.ntmps205 rfl ?_
 by_cases h:46≤fn∧fn≤50
 ·
  obtain ⟨m,hm⟩: ∃ m:Nat,fn=46+(m:Int):=⟨(fn - 46).toNat,by omega⟩
  have he:mL fns fn=decide (Go.bits .and .u8 (fns / 2 ^ m) 1=1):=by
   unfold mL
   rw [decide_eq_true h.1,decide_eq_true h.2,show (fn - 46).toNat=m by omega,QS,QS]
  rw [he]
  have hsub:IntKind.u8.wrap (fn - 46)=(m:Int):=by rw [IntKind.wrap_u8];omega
  repeat' (first|(apply ak;exact rfl;apply wW (c:=(m:Int));exact rfl;exact rfl;exact hsub)|(apply ak;exact rfl;apply Fa (m:=m);exact rfl;exact rfl;(simp [IntKind.bits];omega))|(apply ak;exact rfl;apply Oo;exact rfl;exact rfl)|refine sT ?_|refine sM fun _=> ?_|(refine sC ?_ ?_<;>intro hb<;>try omega)|fail)
  all_goals first|(exfalso;omega)|((refine rT1 ?_);rfl)
 ·
  have he:mL fns fn=false:=by
   unfold mL
   by_cases h1:46≤fn
   ·
    have h2: ¬ fn≤50:=fun h2=>h ⟨h1,h2⟩
    simp [h2]
   ·
    simp [h1]
  rw [he]
  repeat' (first|refine sT ?_|refine sM fun _=> ?_|(refine sC ?_ ?_<;>intro hb<;>try omega)|fail)
  all_goals first|(exfalso;omega)|((refine rT1 ?_);rfl)
def Eo (u:Int) (g:Gn):Bool:=decide (1≤g.fns) && decide (g.fns≤31) && decide (g.to &&& ~~~(cY u).1=0#64) && fX (cY u).1 g.by_
def fS (u:Int):List Gn→Int→Int × Int
 | [],_=>(0,0)
 |g::L,i=>if aJ g.rect=false then (i,3) else if Eo u g=false then (i,2) else fS u L (i+1)
def jH (u:Int) (L:List Gn):Int × Int:=
 if u<0∨64<u∨u=0 then (0,2) else if 64<L.length then (64,5) else fS u L 0
theorem Gn.ro {w:World} {g o:Nat} {r:Gn} (h:Ro w g o (bn r)):Ro w g o (bK r.rect)∧Ro w g (o+4) [.int .u8 r.fns]∧Ro w g (o+5) [vS r.to]∧Ro w g (o+6) [.int .i64 r.by_]∧Ro w g (o+7) [.bool r.rev]:=
 ⟨h.take (k:=4),(h.drop (k:=4)).take (k:=1),(h.drop (k:=5)).take (k:=1),(h.drop (k:=6)).take (k:=1),h.drop (k:=7)⟩
set_option maxHeartbeats 4000000 in
theorem mZ (u:Int) (L:List Gn) (lv:Value) (w:World) (hl:Reads w lv L.length (L.flatMap bn)):ay Tryz.prog 61 [.int .i64 u,lv] w (.tuple #[.int .i64 (jH u L).1,.int .i64 (jH u L).2]):=by
 obtain ⟨Al,cl,rfl,hl1,hl2,hl3⟩:=hl
 refine aq Tryz.func61 rfl Tryz.ntmps61 rfl ?_
 have hA:=fun w=>zG u w
 unfold jH
 have hE:(cY u).2=if u<0∨64<u then 3 else 0:=by unfold cY;split<;>rfl
 obtain ⟨sa,has⟩: ∃ sa,sa=(cY u).1:=⟨_,rfl⟩
 rw [← has,hE] at hA
 by_cases h1:u<0∨64<u∨u=0
 ·
  rw [if_pos h1]
  by_cases h2:u<0∨64<u
  ·
   rw [if_pos h2] at hA
   repeat' (first|(apply aa;exact rfl;exact rfl;(intro w hm;exact hA w))|refine sT ?_|refine sM fun _=> ?_|(refine sC ?_ ?_<;>intro hb<;>try omega)|fail)
   all_goals first|(exfalso;omega)|((refine rT2 ?_);rfl)
  ·
   rw [if_neg h2] at hA
   repeat' (first|(apply aa;exact rfl;exact rfl;(intro w hm;exact hA w))|refine sT ?_|refine sM fun _=> ?_|(refine sC ?_ ?_<;>intro hb<;>try omega)|fail)
   all_goals first|(exfalso;omega)|((refine rT2 ?_);rfl)
 rw [if_neg h1]
 rw [if_neg (by omega)] at hA
 by_cases h64:64<L.length
 ·
  rw [if_pos h64]
  repeat' (first|(apply aa;exact rfl;exact rfl;(intro w hm;exact hA w))|refine sT ?_|refine sM fun _=> ?_|(refine sC ?_ ?_<;>intro hb<;>try omega)|fail)
  all_goals first|(exfalso;omega)|((refine rT2 ?_);rfl)
 rw [if_neg h64]
 repeat' (first|(apply aa;exact rfl;exact rfl;(intro w hm;exact hA w))|refine sT ?_|refine sM fun _=> ?_|(refine sC ?_ ?_<;>intro hb<;>try omega)|fail)
 all_goals try (exfalso;omega)
 refine ax [1,6,23,24] rfl (fun i:Nat=> [(25,.int .i64 (i:Int))]) (fun _=> []) (fun i=>i≤L.length∧fS u L 0=fS u (L.drop i) (i:Int)) (fun i=>L.length - i) 0 ⟨Qt _,rfl⟩ sB mS ?_
 rintro i ⟨hi,hrec⟩
 by_cases hlt:i<L.length
 ·
  obtain ⟨gl,ol,rfl,hrl⟩:=hl3 (by omega)
  have he1:=hrl.elem dg i hlt
  rw [Qs hlt,fS,Eo,← has] at hrec
  generalize L[i]=r at hrec he1
  have hck:=fun w=>fR r.rect w
  have hhs:=fun w=>nB sa r.by_ w
  generalize fX sa r.by_=hb at hhs hrec
  repeat' (first|(apply aa;exact rfl;exact rfl;(intro w hm;exact hck w))|(apply aa;exact rfl;exact rfl;(intro w hm;exact hhs w))|(apply ak;exact rfl;apply dU (b:=sa);exact rfl;exact rfl)|(apply ak;exact rfl;apply gG (b:=0#64);exact rfl;exact rfl)|refine sT ?_|refine sN ?_|refine sO ?_|refine sM fun _=> ?_|(refine sC ?_ ?_<;>intro hb<;>try omega)|fail)
  all_goals first
   |(exfalso;omega)
   |((refine rT2 ?_);rw [hrec,if_pos (ik hb)];done)
   |((refine rT2 ?_);rw [hrec,if_neg (eV ‹_›),if_pos (by first|(rw [decide_eq_false (show ¬ (1:Int)≤r.fns by omega)];rfl)|(rw [decide_eq_false (show ¬ r.fns≤(31:Int) by omega),Rn];rfl)|(rw [decide_eq_false hb,Rn];rfl)|(rw [hb,Rn]))];done)
   |(refine ⟨i+1,⟨hlt,by rw [hrec,if_neg (eV ‹_›),if_neg (by simp_all)];rfl⟩,by omega,by exact sB,by exact sB,by exact mS⟩;done)
 ·
  have e:i=L.length:=by omega
  subst e
  rw [Rk,fS] at hrec
  rw [hrec]
  repeat' (first|refine sT ?_|refine sM fun _=> ?_|(refine sC ?_ ?_<;>intro hb<;>try omega)|fail)
  all_goals first|(exfalso;omega)|((refine rT2 ?_);rfl)
def dZ (all:BitVec 64):Int→List Ev→Int
 |_,[]=>0
 |last,x::l=>if x.step≤last then 12 else if (kw x.kind && fX all x.user)=false then 2 else if aJ x.rect=false then 3 else if (decide (x.to &&& ~~~all=0#64) && fX x.to x.user)=false then 2 else dZ all x.step l
def JE (all:BitVec 64) (x:Rv):Bool:=decide (0≤x.call.node) && decide (x.call.node<256) && decide (46≤x.fn) && decide (x.fn≤50) && decide (0≤x.grant) && decide (x.grant<64) && decide (x.to &&& ~~~all=0#64)
def fE (all:BitVec 64):Int→List Rv→Int
 |_,[]=>0
 |last,x::l=>if x.step<last then 12 else if (x.call.at_.valid && aJ x.rect)=false then 3 else if JE all x=false then 2 else fE all x.step l
def ri (u:Int) (L:List Ev) (M:List Rv):Int:=
 if u<0∨64<u∨u=0 then 2 else if dZ (cY u).1 (-1) L≠0 then dZ (cY u).1 (-1) L else fE (cY u).1 (-1) M
theorem xq {r:Rct}:aJ r=false↔dC r≠0:=⟨fun h=>by rw [dC,h];decide,ik⟩
theorem Ev.ro {w:World} {g o:Nat} {r:Ev} (h:Ro w g o (aZ r)):Ro w g o [.int .i64 r.step]∧Ro w g (o+1) [.int .i64 r.user]∧Ro w g (o+2) [.int .u8 r.kind]∧Ro w g (o+3) (bK r.rect)∧Ro w g (o+7) [.bool r.done]∧Ro w g (o+8) [vS r.to]:=
 ⟨h.take (k:=1),(h.drop (k:=1)).take (k:=1),(h.drop (k:=2)).take (k:=1),(h.drop (k:=3)).take (k:=4),(h.drop (k:=7)).take (k:=1),h.drop (k:=8)⟩
def kz (L:List Ev) (i:Nat):Int:=if i=0 then -1 else ((L[i - 1]?).map Ev.step).getD 0
def ky (L:List Rv) (i:Nat):Int:=if i=0 then -1 else ((L[i - 1]?).map Rv.step).getD 0
set_option maxHeartbeats 8000000 in
theorem Cz (u:Int) (L:List Ev) (M:List Rv) (lv mv:Value) (w:World) (hl:Reads w lv L.length (L.flatMap aZ)) (hm:Reads w mv M.length (M.flatMap aX)):ay Tryz.prog 62 [.int .i64 u,lv,mv] w (.int .i64 (ri u L M)):=by
 obtain ⟨Al,cl,rfl,hl1,hl2,hl3⟩:=hl
 obtain ⟨Am,cm,rfl,hm1,hm2,hm3⟩:=hm
 refine aq Tryz.func62 rfl Tryz.ntmps62 rfl ?_
 have hA:=fun w=>zG u w
 unfold ri
 have hE:(cY u).2=if u<0∨64<u then 3 else 0:=by unfold cY;split<;>rfl
 obtain ⟨sa,has⟩: ∃ sa,sa=(cY u).1:=⟨_,rfl⟩
 rw [← has,hE] at hA
 rw [← has]
 by_cases h1:u<0∨64<u∨u=0
 ·
  rw [if_pos h1]
  by_cases h2:u<0∨64<u
  ·
   rw [if_pos h2] at hA
   repeat' (first|(apply aa;exact rfl;exact rfl;(intro w hm;exact hA w))|refine sT ?_|refine sM fun _=> ?_|(refine sC ?_ ?_<;>intro hb<;>try omega)|fail)
   all_goals first|(exfalso;omega)|((refine rT1 ?_);rfl)
  ·
   rw [if_neg h2] at hA
   repeat' (first|(apply aa;exact rfl;exact rfl;(intro w hm;exact hA w))|refine sT ?_|refine sM fun _=> ?_|(refine sC ?_ ?_<;>intro hb<;>try omega)|fail)
   all_goals first|(exfalso;omega)|((refine rT1 ?_);rfl)
 rw [if_neg h1]
 rw [if_neg (by omega)] at hA
 repeat' (first|(apply aa;exact rfl;exact rfl;(intro w hm;exact hA w))|refine sT ?_|refine sM fun _=> ?_|(refine sC ?_ ?_<;>intro hb<;>try omega)|fail)
 all_goals try (exfalso;omega)
 obtain ⟨ef,hef⟩: ∃ ef,dZ sa (-1) L=ef:=⟨_,rfl⟩
 rw [hef]
 refine ax [0,1,2,7,25,26] rfl (fun i:Nat=> [(9,.int .i64 (kz L i)),(27,.int .i64 (i:Int))]) (fun _=> []) (fun i=>i≤L.length∧ef=dZ sa (kz L i) (L.drop i)) (fun i=>L.length - i) 0 ⟨Qt _,hef.symm⟩ sB mS ?_
 rintro i ⟨hi,hrec⟩
 by_cases hlt:i<L.length
 ·
  obtain ⟨gl,ol,rfl,hrl⟩:=hl3 (by omega)
  have he1:=hrl.elem iB i hlt
  have hnext:kz L (i+1)=L[i].step:=by unfold kz;rw [if_neg (by omega),RZ,Ql hlt];rfl
  rw [Qs hlt,dZ] at hrec
  generalize kz L i=last at hrec
  generalize L[i]=r at hnext he1 hrec
  have hck:=fun w=>fR r.rect w
  have hhs:=fun w=>nB sa r.user w
  have hht:=fun w=>nB r.to r.user w
  have hmu:=fun w=>CG r.kind w
  simp only [xq] at hrec
  generalize dC r.rect=re at hck hrec
  clear has
  generalize kw r.kind=mk at hmu hrec
  generalize fX sa r.user=hb1 at hhs hrec
  generalize fX r.to r.user=hb2 at hht hrec
  repeat' (first|(apply ak;exact rfl;apply aB;exact rfl;exact he1;exact rfl)|(apply aa;exact rfl;exact rfl;(intro w hm;exact hmu w))|(apply aa (f:=118);exact rfl;exact rfl;(intro w' _;first|exact hhs w' |exact hht w'))|(apply aa;exact rfl;exact rfl;(intro w hm;exact hck w))|(apply ak;exact rfl;apply dU (b:=sa);exact rfl;exact rfl)|(apply ak;exact rfl;apply gG (b:=0#64);exact rfl;exact rfl)|refine sT ?_|refine sS ?_|refine sN ?_|refine sO ?_|refine sM fun _=> ?_|(refine sC ?_ ?_<;>intro hb<;>try omega)|fail)
  all_goals try (have hnl: ¬ r.step≤last:=by omega)
  all_goals first
   |(exfalso;omega)
   |(refine ⟨i+1,⟨hlt,?_⟩,by omega,by (try simp only [hnext]);exact sB,by (try simp only [hnext]);exact sB,by exact mS⟩;rw [hnext];simp_all;done)
   |((refine rT1 ?_);simp_all;done)
 ·
  have e:i=L.length:=by omega
  subst e
  rw [Rk,dZ] at hrec
  subst hrec
  rw [if_neg (by decide)]
  obtain ⟨rf,hrf⟩: ∃ rf,fE sa (-1) M=rf:=⟨_,rfl⟩
  rw [hrf]
  repeat' (first|refine sT ?_|refine sM fun _=> ?_|(refine sC ?_ ?_<;>intro hb<;>try omega)|fail)
  refine ax [0,2,7,71,72] rfl (fun i:Nat=> [(9,.int .i64 (ky M i)),(73,.int .i64 (i:Int))]) (fun _=> []) (fun i=>i≤M.length∧rf=fE sa (ky M i) (M.drop i)) (fun i=>M.length - i) 0 ⟨Qt _,hrf.symm⟩ sB mS ?_
  rintro i ⟨hi,hrec⟩
  by_cases hlt:i<M.length
  ·
   obtain ⟨gm,om,rfl,hrm⟩:=hm3 (by omega)
   have he1:=hrm.elem dS i hlt
   have hnext:ky M (i+1)=M[i].step:=by unfold ky;rw [if_neg (by omega),RZ,Ql hlt];rfl
   rw [Qs hlt,fE] at hrec
   generalize ky M i=last at hrec
   generalize M[i]=r at hnext he1 hrec
   have hck:=fun w=>fR r.rect w
   have hV: ∀ w',ay Tryz.prog 71 [.agg (bf r.call.at_).toArray] w' (.bool r.call.at_.valid):=fun w' =>jy r.call.at_.col r.call.at_.row w'
   have hok:JE sa r=false↔(r.call.node<0∨256≤r.call.node∨r.fn<46∨50<r.fn∨r.grant<0∨64≤r.grant∨r.to &&& ~~~sa≠0#64):=by
    simp only [JE,RF,decide_eq_false_iff_not,Int.not_le,Int.not_lt,or_assoc]
   simp only [hok] at hrec
   clear hok
   simp only [RF,xq] at hrec
   generalize dC r.rect=re at hck hrec
   clear has
   generalize r.call.at_.valid=vd at hV hrec
   by_cases h12:r.step<last
   ·
    rw [if_pos h12] at hrec
    repeat' (first|(apply ak;exact rfl;apply aB;exact rfl;exact he1;exact rfl)|(apply aa;exact rfl;exact rfl;(intro w hm;exact hV w))|(apply aa;exact rfl;exact rfl;(intro w hm;exact hck w))|(apply ak;exact rfl;apply dU (b:=sa);exact rfl;exact rfl)|(apply ak;exact rfl;apply gG (b:=0#64);exact rfl;exact rfl)|refine sT ?_|refine sS ?_|refine sN ?_|refine sO ?_|refine sM fun _=> ?_|(refine sC ?_ ?_<;>intro hb<;>try omega)|fail)
    all_goals first|(exfalso;omega)|((refine rT1 ?_);rw [hrec];done)
   rw [if_neg h12] at hrec
   by_cases h3:vd=false∨re≠0
   ·
    rw [if_pos h3] at hrec
    repeat' (first|(apply ak;exact rfl;apply aB;exact rfl;exact he1;exact rfl)|(apply aa;exact rfl;exact rfl;(intro w hm;exact hV w))|(apply aa;exact rfl;exact rfl;(intro w hm;exact hck w))|(apply ak;exact rfl;apply dU (b:=sa);exact rfl;exact rfl)|(apply ak;exact rfl;apply gG (b:=0#64);exact rfl;exact rfl)|refine sT ?_|refine sS ?_|refine sN ?_|refine sO ?_|refine sM fun _=> ?_|(refine sC ?_ ?_<;>intro hb<;>try omega)|fail)
    all_goals first
     |(exfalso;omega)
     |(exfalso;rcases h3 with h3|h3<;>simp_all;done)
     |((refine rT1 ?_);rw [hrec];done)
   rw [if_neg h3] at hrec
   obtain ⟨h31,h32⟩:=not_or.1 h3
   have h31:vd=true:=by simpa using h31
   have h32:re=0:=by omega
   subst h31;subst h32
   by_cases hD:r.call.node<0∨256≤r.call.node∨r.fn<46∨50<r.fn∨r.grant<0∨64≤r.grant∨r.to &&& ~~~sa≠0#64
   ·
    rw [if_pos hD] at hrec
    repeat' (first|(apply ak;exact rfl;apply aB;exact rfl;exact he1;exact rfl)|(apply aa;exact rfl;exact rfl;(intro w hm;exact hV w))|(apply aa;exact rfl;exact rfl;(intro w hm;exact hck w))|(apply ak;exact rfl;apply dU (b:=sa);exact rfl;exact rfl)|(apply ak;exact rfl;apply gG (b:=0#64);exact rfl;exact rfl)|refine sT ?_|refine sS ?_|refine sN ?_|refine sO ?_|refine sM fun _=> ?_|(refine sC ?_ ?_<;>intro hb<;>try omega)|fail)
    all_goals first
     |(exfalso;omega)
     |((refine rT1 ?_);rw [hrec];done)
     |(exfalso;rcases hD with h|h|h|h|h|h|h<;>first|omega|exact absurd ‹_› h)
   ·
    rw [if_neg hD] at hrec
    repeat' (first|(apply ak;exact rfl;apply aB;exact rfl;exact he1;exact rfl)|(apply aa;exact rfl;exact rfl;(intro w hm;exact hV w))|(apply aa;exact rfl;exact rfl;(intro w hm;exact hck w))|(apply ak;exact rfl;apply dU (b:=sa);exact rfl;exact rfl)|(apply ak;exact rfl;apply gG (b:=0#64);exact rfl;exact rfl)|refine sT ?_|refine sS ?_|refine sN ?_|refine sO ?_|refine sM fun _=> ?_|(refine sC ?_ ?_<;>intro hb<;>try omega)|fail)
    all_goals first
     |(exfalso;omega)
     |(exfalso;exact hD (.inr (.inr (.inr (.inr (.inr (.inr hb)))))))
     |(refine ⟨i+1,⟨hlt,?_⟩,by omega,by (try simp only [hnext]);exact sB,by (try simp only [hnext]);exact sB,by exact mS⟩;rw [hnext,hrec];done)
  ·
   have e:i=M.length:=by omega
   subst e
   rw [Rk,fE] at hrec
   subst hrec
   repeat' (first|refine sT ?_|refine sM fun _=> ?_|(refine sC ?_ ?_<;>intro hb<;>try omega)|fail)
   all_goals first|(exfalso;omega)|((refine rT1 ?_);rfl)
set_option maxHeartbeats 16000000 in
theorem Dt (L:List Pz) (hL:InZ L) (lv:Value) (w:World) (hl:Reads w lv L.length (L.flatMap dc)):
  ay Tryz.prog 233 [lv,.int .i64 (L.length:Int),Nm] w (.tuple #[]):=by
 have hI:=fun (a b:Nat) (h1:b≤L.length) (h2:a≤L.length) (w2:World) (H2:List Blk) (hm:Mem w w2 H2)=>MN L hL lv w2 (hl.of_w0 hm) a b h1 h2
 have hM:=fun (a m b:Nat) (h1:a<m) (h2:m<b) (h3:b≤L.length) (w2:World) (H2:List Blk) (hm:Mem w w2 H2)=>Fq L hL lv w hl (b - a) a m b (Qq _) h1 h2 h3 w2 ⟨H2,hm⟩
 obtain ⟨Al,cl,rfl,hl1,hl2,hl3⟩:=hl
 refine aq Tryz.func233 rfl Tryz.ntmps233 rfl ?_
 have hlen:=hL.len
 repeat' (first|refine sT ?_|refine sS ?_|refine sN ?_|refine sM fun _=> ?_|(refine sC ?_ ?_<;>intro hb<;>try omega)|fail)
 refine ax [0,1,2,6] rfl (fun a:Nat=> [(7,.int .i64 (a:Int)),(8,.int .i64 ((a+20:Nat):Int))]) (fun _=> []) (fun a=>a≤L.length) (fun a=>L.length - a) 0 (Qt _) sB mS ?_
 rintro a ha
 by_cases hlt:a+20≤L.length
 ·
  repeat' (first|(apply aa (f:=279);exact rfl;exact rfl;(intro w2 hm2;exact hI a (a+20) hlt (by omega) w2 _ hm2))|(apply ak (d:=22);exact rfl;apply dm (a:=a+20) (b:=20);exact rfl;exact rfl;(simp only [maxLen];omega))|refine sT ?_|refine sS ?_|refine sN ?_|refine sM fun _=> ?_|(refine sC ?_ ?_<;>intro hb<;>try omega)|fail)
  all_goals first
   |(exfalso;omega)
   |(refine ⟨a+20,hlt,by omega,by exact sB,by exact sB,by exact mS⟩;done)
 ·
  repeat' (first|(apply aa (f:=279);exact rfl;exact rfl;(intro w2 hm2;exact hI a L.length (Qq _) ha w2 _ hm2))|refine sT ?_|refine sS ?_|refine sN ?_|refine sM fun _=> ?_|(refine sC ?_ ?_<;>intro hb<;>try omega)|fail)
  all_goals try (exfalso;omega)
  refine ax [0,1,2] rfl (fun s:Nat=> [(6,.int .i64 (s:Int))]) (fun _=> []) (fun s=>20≤s∧s≤2*L.length+20) (fun s=>2*L.length+20 - s) 20 ⟨by omega,by omega⟩ sB mS ?_
  rintro s ⟨hs1,hs2⟩
  by_cases hsl:s<L.length
  ·
   repeat' (first|(apply ak (d:=32);exact rfl;apply yG (a:=2) (b:=s);exact rfl;exact rfl;(simp only [maxLen];omega))|refine sT ?_|refine sS ?_|refine sN ?_|refine sM fun _=> ?_|(refine sC ?_ ?_<;>intro hb<;>try omega)|fail)
   all_goals try (exfalso;omega)
   refine ax [0,1,2,6] rfl (fun a:Nat=> [(7,.int .i64 (a:Int)),(8,.int .i64 ((a+2*s:Nat):Int))]) (fun _=> []) (fun a=>a≤L.length) (fun a=>L.length - a) 0 (Qt _) (by rw [QG];exact sB) mS ?_
   rintro a ha
   by_cases hla:a+2*s≤L.length
   ·
    repeat' (first|(apply ak (d:=40);exact rfl;apply dm (a:=a) (b:=s);exact rfl;exact rfl;(simp only [maxLen];omega))|(apply aa (f:=280);exact rfl;exact rfl;(intro w2 hm2;exact hM a (a+s) (a+2*s) (by omega) (by omega) hla w2 _ hm2))|(apply ak (d:=47);exact rfl;apply yG (a:=2) (b:=s);exact rfl;exact rfl;(simp only [maxLen];omega))|(apply ak (d:=48);exact rfl;apply dm (a:=a+2*s) (b:=2*s);exact rfl;exact rfl;(simp only [maxLen];omega))|refine sT ?_|refine sS ?_|refine sN ?_|refine sM fun _=> ?_|(refine sC ?_ ?_<;>intro hb<;>try omega)|fail)
    all_goals first
     |(exfalso;omega)
     |(refine ⟨a+2*s,hla,by omega,by exact sB,by exact sB,by exact mS⟩;done)
   ·
    by_cases hlm:a+s<L.length
    ·
     repeat' (first|(apply ak (d:=51);exact rfl;apply dm (a:=a) (b:=s);exact rfl;exact rfl;(simp only [maxLen];omega))|(apply aa (f:=280);exact rfl;exact rfl;(intro w2 hm2;exact hM a (a+s) L.length (by omega) hlm (Qq _) w2 _ hm2))|(apply ak (d:=62);exact rfl;apply yG (a:=s) (b:=2);exact rfl;exact rfl;(simp only [maxLen];omega))|refine sT ?_|refine sS ?_|refine sN ?_|refine sM fun _=> ?_|(refine sC ?_ ?_<;>intro hb<;>try omega)|fail)
     all_goals first
      |(exfalso;omega)
      |(refine ⟨s*2,⟨by omega,by omega⟩,by omega,by exact sB,by exact sB,by exact mS⟩;done)
    ·
     repeat' (first|(apply ak (d:=51);exact rfl;apply dm (a:=a) (b:=s);exact rfl;exact rfl;(simp only [maxLen];omega))|(apply ak (d:=62);exact rfl;apply yG (a:=s) (b:=2);exact rfl;exact rfl;(simp only [maxLen];omega))|refine sT ?_|refine sS ?_|refine sN ?_|refine sM fun _=> ?_|(refine sC ?_ ?_<;>intro hb<;>try omega)|fail)
     all_goals first
      |(exfalso;omega)
      |(refine ⟨s*2,⟨by omega,by omega⟩,by omega,by exact sB,by exact sB,by exact mS⟩;done)
  ·
   repeat' (first|refine sT ?_|refine sS ?_|refine sM fun _=> ?_|(refine sC ?_ ?_<;>intro hb<;>try omega)|fail)
   all_goals first
    |(exfalso;omega)
    |(exact fM eIO rfl (MSub.nil _) rfl)
theorem wB (L:List Pz) (hL:InZ L) (lv:Value) (w:World) (hl:Reads w lv L.length (L.flatMap dc)):
  ay Tryz.prog 184 [lv,Nm] w (.tuple #[]):=by
 have hS:=fun (w2:World) (H2:List Blk) (hm:Mem w w2 H2)=>Dt L hL lv w2 (hl.of_w0 hm)
 obtain ⟨Al,cl,rfl,hl1,hl2,hl3⟩:=hl
 refine aq Tryz.func184 rfl Tryz.ntmps184 rfl ?_
 repeat' (first|(apply aa (f:=233);exact rfl;exact rfl;(intro w2 hm2;exact hS w2 _ hm2))|refine sT ?_|refine sM fun _=> ?_|(refine sC ?_ ?_<;>intro hb<;>try omega)|fail)
 exact fM eIO rfl (MSub.nil _) rfl
structure Bk where
 users:Int
 ents:List Et
 rules:List Rl
 grants:List Gn
 log:List Ev
 rels:List Rv
 step:Int
structure Bv where
 ae:Option Addr
 ar:Option Addr
 ag:Option Addr
 al:Option Addr
 as_:Option Addr
 ce:Nat
 cr:Nat
 cg:Nat
 cl:Nat
 cs:Nat
def bo (b:Bk) (x:Bv):List Value:= [.int .i64 b.users,.slice x.ae b.ents.length x.ce,.slice x.ar b.rules.length x.cr,.slice x.ag b.grants.length x.cg,.slice x.al b.log.length x.cl,.slice x.as_ b.rels.length x.cs,.int .i64 b.step]
structure BRd (w:World) (b:Bk) (x:Bv):Prop where
 e:Reads w (.slice x.ae b.ents.length x.ce) b.ents.length (b.ents.flatMap aK)
 r:Reads w (.slice x.ar b.rules.length x.cr) b.rules.length (b.rules.flatMap bw)
 g:Reads w (.slice x.ag b.grants.length x.cg) b.grants.length (b.grants.flatMap bn)
 l:Reads w (.slice x.al b.log.length x.cl) b.log.length (b.log.flatMap aZ)
 s:Reads w (.slice x.as_ b.rels.length x.cs) b.rels.length (b.rels.flatMap aX)
theorem BRd.of_w0 {w w' :World} {b:Bk} {x:Bv} {H:List Blk} (h:BRd w b x) (hm:Mem w w' H):BRd w' b x:=⟨h.e.of_w0 hm,h.r.of_w0 hm,h.g.of_w0 hm,h.l.of_w0 hm,h.s.of_w0 hm⟩
def iQ (s:Int) (L:List Ev):Bool:=if 0<L.length then decide (s≤((L[L.length - 1]?).map Ev.step).getD 0) else false
def kX (s:Int) (L:List Rv):Bool:=if 0<L.length then decide (s≤((L[L.length - 1]?).map Rv.step).getD 0) else false
def bkE (b:Bk):Int:=
 if b.users<1∨64<b.users then 2
 else if (cN b.ents).2≠0 then (cN b.ents).2
 else if (ed b.users b.rules).2≠0 then (ed b.users b.rules).2
 else if (jH b.users b.grants).2≠0 then (jH b.users b.grants).2
 else if ri b.users b.log b.rels≠0 then ri b.users b.log b.rels
 else if b.step<0∨1099511627776<b.step then 2
 else if iQ b.step b.log=true then 2
 else if kX b.step b.rels=true then 2 else 0
theorem Rv.ro1 {w:World} {g o:Nat} {r:Rv} (h:Ro w g o (aX r)):Ro w g o [.int .i64 r.step]:=h.take (k:=1)
set_option maxHeartbeats 16000000 in
theorem vW (b:Bk) (x:Bv) (w:World) (h:BRd w b x) (hW:Words w) (hlen:b.ents.length≤1000000):ay Tryz.prog 15 [.agg (bo b x).toArray] w (.int .i64 (bkE b)):=by
 have hent:=fun (w' :World) (H:List Blk) (hm:Mem w w' H)=>oI b.ents _ w' (h.e.of_w0 hm) hlen (hW.next hm)
 have hacl:=fun (w' :World) (H:List Blk) (hm:Mem w w' H)=>iU b.users b.rules _ w' (h.r.of_w0 hm)
 have hgnt:=fun (w' :World) (H:List Blk) (hm:Mem w w' H)=>mZ b.users b.grants _ w' (h.g.of_w0 hm)
 have haud:=fun (w' :World) (H:List Blk) (hm:Mem w w' H)=>Cz b.users b.log b.rels _ _ w' (h.l.of_w0 hm) (h.s.of_w0 hm)
 refine aq Tryz.func15 rfl Tryz.ntmps15 rfl ?_
 unfold bkE
 obtain ⟨Al,cl,el,hl1,hl2,hl3⟩:=h.l
 obtain ⟨Am,cm,em,hm1,hm2,hm3⟩:=h.s
 have hl3' :0<b.log.length→ ∃ g o,x.al=some ⟨g,o,none⟩∧Ro w g o (b.log.flatMap aZ):=by
  cases el
  exact hl3
 have hm3' :0<b.rels.length→ ∃ g o,x.as_=some ⟨g,o,none⟩∧Ro w g o (b.rels.flatMap aX):=by
  cases em
  exact hm3
 have hLm:b.log.length≤maxLen:=QC hl1 hl2
 have hMm:b.rels.length≤maxLen:=QC hm1 hm2
 clear hl1 hl2 hl3 hm1 hm2 hm3 el em
 generalize cN b.ents=ce at hent ⊢
 generalize ed b.users b.rules=ae at hacl ⊢
 generalize jH b.users b.grants=ge at hgnt ⊢
 generalize ri b.users b.log b.rels=ue at haud ⊢
 obtain ⟨us,E,RU,G,L,M,st⟩:=b
 obtain ⟨ae1,ar1,ag1,al1,as1,ce1,cr1,cg1,cl1,cs1⟩:=x
 dsimp only at*
 simp only [bo] at*
 have hL:(L.length=0∧iQ st L=false)∨(0<L.length∧ ∃ g o s,al1=some ⟨g,o,none⟩∧Ro w g (o+(L.length - 1)*9) [.int .i64 s]∧iQ st L=decide (st≤s)):=by
  rcases Rz L.length with h0|hp
  ·
   exact .inl ⟨h0,by unfold iQ;rw [if_neg (by omega)]⟩
  ·
   obtain ⟨g,o,e,hr⟩:=hl3' hp
   have hlt:L.length - 1<L.length:=by omega
   exact .inr ⟨hp,g,o,L[L.length - 1].step,e,(Ev.ro (hr.elem iB (L.length - 1) hlt)).1,by unfold iQ;rw [if_pos hp,Ql hlt];rfl⟩
 have hM:(M.length=0∧kX st M=false)∨(0<M.length∧ ∃ g o s,as1=some ⟨g,o,none⟩∧Ro w g (o+(M.length - 1)*11) [.int .i64 s]∧kX st M=decide (st≤s)):=by
  rcases Rz M.length with h0|hp
  ·
   exact .inl ⟨h0,by unfold kX;rw [if_neg (by omega)]⟩
  ·
   obtain ⟨g,o,e,hr⟩:=hm3' hp
   have hlt:M.length - 1<M.length:=by omega
   exact .inr ⟨hp,g,o,M[M.length - 1].step,e,Rv.ro1 (hr.elem dS (M.length - 1) hlt),by unfold kX;rw [if_pos hp,Ql hlt];rfl⟩
 generalize iQ st L=le at hL ⊢
 generalize kX st M=lr at hM ⊢
 clear hl3' hm3'
 generalize L.length=nl at*
 generalize M.length=nm at*
 generalize E.length=nE at*
 generalize RU.length=nR at*
 generalize G.length=nG at*
 rcases hL with ⟨hL,rfl⟩|⟨hL,g1,o1,s1,rfl,hr1,rfl⟩<;>rcases hM with ⟨hM,rfl⟩|⟨hM,g2,o2,s2,rfl,hr2,rfl⟩
 all_goals
  repeat' (first|(apply aa (f:=59);exact rfl;exact rfl;(intro w' hm;exact hent w' _ hm))|(apply aa (f:=60);exact rfl;exact rfl;(intro w' hm;exact hacl w' _ hm))|(apply aa (f:=61);exact rfl;exact rfl;(intro w' hm;exact hgnt w' _ hm))|(apply aa (f:=62);exact rfl;exact rfl;(intro w' hm;exact haud w' _ hm))|(apply aS;exact rfl;apply dI;exact rfl;exact rfl;omega;(simp only [maxLen] at*;omega))|(apply aS;exact rfl;apply aj (j:=nl - 1);exact rfl;exact rfl;omega)|(apply aS;exact rfl;apply aj (j:=nm - 1);exact rfl;exact rfl;omega)|refine sT ?_|refine sS ?_|refine sQ ?_|refine sN ?_|refine sNQ ?_|refine sO ?_|refine sOQ ?_|refine sD ?_|refine sM fun _=> ?_|(refine sC ?_ ?_<;>intro hb<;>try omega)|(refine sCQ ?_ ?_<;>intro hb<;>try omega)|fail)
 all_goals first
  |(exfalso;omega)
  |((refine rT1 ?_);simp_all;done)
  |((refine rT1 ?_);simp_all;omega)
end Go.SL
