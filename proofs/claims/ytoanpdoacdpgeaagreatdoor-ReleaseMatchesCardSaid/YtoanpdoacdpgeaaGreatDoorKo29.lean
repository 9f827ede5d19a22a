/-
  Lemmas and walks, put together: Oc Vb Vm Ud Oa Vg Ob Vd Ve.
-/
import Derived.Test.YtoanpdoacdpgeaaGreatDoorKo24
import Derived.Test.YtoanpdoacdpgeaaGreatDoorKo27
import Derived.Test.YtoanpdoacdpgeaaGreatDoorKo28
set_option linter.unusedSimpArgs false
set_option linter.unusedVariables false
set_option maxRecDepth 20000
namespace Go.SL
open Go
structure BkOk (b:Bk):Prop where
 u:1≤b.users∧b.users≤64
 e:(dM b.ents).2=0
 r:(eP b.users b.rules).2=0
 g:(i9 b.users b.grants).2=0
 l:tI b.users b.log b.rels=0
 s:0≤b.step∧b.step≤1099511627776
 le:pS b.step b.log=false
 lr:pR b.step b.rels=false
theorem xA {b:Bk}:bkE b=0↔BkOk b:=by
 constructor
 ·
  intro h
  unfold bkE at h
  split at h
  ·
   cases h
  split at h
  ·
   rename_i h2;exact absurd h h2
  split at h
  ·
   rename_i h2;exact absurd h h2
  split at h
  ·
   rename_i h2;exact absurd h h2
  split at h
  ·
   rename_i h2;exact absurd h h2
  split at h
  ·
   cases h
  split at h
  ·
   cases h
  split at h
  ·
   cases h
  exact ⟨by omega,by omega,by omega,by omega,by omega,by omega,by simp_all,by simp_all⟩
 ·
  intro h
  have h1:=h.u
  have h2:=h.s
  unfold bkE
  rw [if_neg (by omega),if_neg (by rw [h.e];decide),if_neg (by rw [h.r];decide),if_neg (by rw [h.g];decide),if_neg (by rw [h.l];decide),if_neg (by omega),if_neg (by rw [h.le];decide),if_neg (by rw [h.lr];decide)]
def WiU (u:Int) (x:BitVec 64):Prop:=x &&& ~~~(eB u).1=0#64
theorem P6 (x:BitVec 64):WiU 64 x:=by
 unfold WiU
 rw [show ~~~(eB 64).1=0#64 by decide+kernel,BitVec.and_zero]
theorem uA {u:Int}: ∀ {L:List Rl} {i:Int},(gM u L i).2=0↔ ∀ r∈L,aO r.rect=true∧WiU u (r.read|||r.write|||r.own)
 | [],_=>⟨fun _ _ h=>(by cases h),fun _=>rfl⟩
 |r::L,i=>by
  rw [gM]
  split
  ·
   rename_i h
   exact ⟨fun h=>(by cases h),fun h2=>by rw [(h2 r QY).1] at h;cases h⟩
  split
  ·
   rename_i h
   exact ⟨fun h=>(by cases h),fun h2=>absurd (h2 r QY).2 h⟩
  ·
   rename_i h1 h2
   rw [uA (L:=L)]
   refine ⟨fun h r' hr=> ?_,fun h r' hr=>h r' (Rq _ hr)⟩
   rcases Rs.1 hr with rfl|hr
   ·
    exact ⟨by simpa using h1,Classical.not_not.1 h2⟩
   ·
    exact h r' hr
theorem uY {u:Int} {L:List Rl}:(eP u L).2=0↔(1≤u∧u≤64)∧L≠ []∧L.length≤64∧L.head?.map (fun x=>x.rect)=some nA∧ ∀ r∈L,aO r.rect=true∧WiU u (r.read|||r.write|||r.own):=by
 unfold eP
 split
 ·
  rename_i h
  refine ⟨fun h=>(by cases h),fun h2=> ?_⟩
  rcases h with h|h|h|h
  ·
   omega
  ·
   omega
  ·
   omega
  ·
   exact absurd h h2.2.1
 rename_i h1
 have hL:L≠ []:=fun e=>h1 (.inr (.inr (.inr e)))
 have hu:1≤u∧u≤64:=by omega
 split
 ·
  exact ⟨fun h=>(by cases h),fun h2=>by omega⟩
 split
 ·
  rename_i h3;exact ⟨fun h=>(by cases h),fun h2=>absurd h2.2.2.2.1 h3⟩
 ·
  rename_i h2 h3
  rw [uA]
  exact ⟨fun h=>⟨hu,hL,by omega,Decidable.not_not.1 h3,h⟩,fun h=>h.2.2.2.2⟩
theorem Mx {u:Int} {L:List Rl} (h:(eP u L).2=0):(eP 64 L).2=0:=by
 rw [uY] at h ⊢
 exact ⟨by decide,h.2.1,h.2.2.1,h.2.2.2.1,fun r hr=>⟨(h.2.2.2.2 r hr).1,P6 _⟩⟩
theorem uk {u:Int}: ∀ {L:List Gn} {i:Int},(gK u L i).2=0↔ ∀ g∈L,aO g.rect=true∧FV u g=true
 | [],_=>⟨fun _ _ h=>(by cases h),fun _=>rfl⟩
 |r::L,i=>by
  rw [gK]
  split
  ·
   rename_i h
   exact ⟨fun h=>(by cases h),fun h2=>by rw [(h2 r QY).1] at h;cases h⟩
  split
  ·
   rename_i h
   exact ⟨fun h=>(by cases h),fun h2=>by rw [(h2 r QY).2] at h;cases h⟩
  ·
   rename_i h1 h2
   rw [uk (L:=L)]
   refine ⟨fun h r' hr=> ?_,fun h r' hr=>h r' (Rq _ hr)⟩
   rcases Rs.1 hr with rfl|hr
   ·
    exact ⟨by simpa using h1,by simpa using h2⟩
   ·
    exact h r' hr
theorem o8 {u:Int} {L:List Gn}:(i9 u L).2=0↔(1≤u∧u≤64)∧L.length≤64∧ ∀ g∈L,aO g.rect=true∧FV u g=true:=by
 unfold i9
 split
 ·
  exact ⟨fun h=>(by cases h),fun h2=>by omega⟩
 split
 ·
  exact ⟨fun h=>(by cases h),fun h2=>by omega⟩
 ·
  rw [uk]
  exact ⟨fun h=>⟨by omega,by omega,h⟩,fun h=>h.2.2⟩
theorem LV {u:Int} (hu:1≤u∧u≤64) {g:Gn}:FV u g=true↔(1≤g.fns∧g.fns≤31)∧WiU u g.to∧0≤g.by_∧g.by_<u:=by
 unfold FV
 rw [wW (by omega)]
 simp only [Rk,decide_eq_true_eq,and_assoc]
 exact Iff.rfl
def ur (last:Int):List Ev→Int
 | []=>last
 |x::l=>ur x.step l
theorem DL: ∀ (L:List Ev) (last:Int),ur last L=if L.length=0 then last else ((L[L.length - 1]?).map Ev.step).getD 0
 | [],_=>rfl
 | [x],_=>rfl
 |x::y::L,last=>by
  have ih:=DL (y::L) x.step
  rw [show ur last (x::y::L)=ur x.step (y::L) from rfl,ih]
  simp
theorem HY {u:Int} {L:List Ev} {M:List Rv}:tI u L M=0↔(1≤u∧u≤64)∧fM (eB u).1 (-1) L=0∧fX (eB u).1 (-1) M=0:=by
 unfold tI
 split
 ·
  exact ⟨fun h=>(by cases h),fun h=>by omega⟩
 split
 ·
  rename_i h;exact ⟨fun h2=>absurd h2 h,fun h2=>absurd h2.2.1 h⟩
 ·
  exact ⟨fun h=>⟨by omega,by omega,h⟩,fun h=>h.2.2⟩
def iD (b:Bk) (a:Rf) (u:Us) (rd:BitVec 64) (i:Nat):List Rv:=match b.grants[i]? with
 |some g=>if g.to≠0#64 then [⟨b.step - 1,⟨a,u.node⟩,u.fn,u.rect,(i:Int),rd⟩] else []
 |none=> []
def df (b:Bk) (a:Rf) (rd:BitVec 64) (u:Us):List Rv:=if u.node<0 then [] else (iE u.fn u.rect b.rules b.grants).2.1.flatMap (iD b a u rd)
def mU (b:Bk) (G:Gr) (a:Rf):List Rv:=(gk G a).flatMap (df b a (atE a b.rules).1.1)
def y5 (b:Bk) (G:Gr):List Rv:=(bW G).flatMap (mU b G)
def grB (b:Bk):Gr:=(uI b.ents).1.getD []
def cE (b:Bk):List Rv:=y5 b (grB b)
theorem NF {L:List Et} (h:(dM L).2=0): ∃ G,uI L=(some G,0)∧GrOk G∧G.length≤L.length:=by
 rcases LA L with ⟨e,he,h2⟩|h2
 ·
  rw [AC,if_neg (by rw [h];decide)] at h2
  exact absurd (congrArg Prod.fst h2) (by simp)
 ·
  exact h2
theorem FU {b:Bk} (h:BkOk b):uI b.ents=(some (grB b),0)∧GrOk (grB b)∧(grB b).length≤b.ents.length:=by
 obtain ⟨G,h1,h2,h3⟩:=NF h.e
 have:grB b=G:=by unfold grB;rw [h1];rfl
 rw [this];exact ⟨h1,h2,h3⟩
def Km (b:Bk) (M:List Rv):Bk:=⟨b.users,b.ents,b.rules,b.grants,b.log,b.rels++M,b.step⟩
def Lt (b:Bk):Bk:=Km b (ep (cE b) b.rels)
def Cw (fn:Int) (r:Rct) (L:List Rl):List Gn→Nat→List Nat
 | [],_=> []
 |g::G,i=>bif Nz fn r L g then i::Cw fn r L G (i+1) else Cw fn r L G (i+1)
theorem v8 {fn:Int} {r:Rct} {L:List Rl}: ∀ (G:List Gn) (i:Nat),(bH fn r L G i).map (fun x=>x.1)=Cw fn r L G i
 | [],_=>rfl
 |g::G,i=>by
  have h:nI fn r L g=Nz fn r L g:=by unfold nI Nz rE;rw [Py]
  rw [bH,Cw,h]
  cases Nz fn r L g
  ·
   exact v8 G (i+1)
  ·
   exact congrArg (i:: ·) (v8 G (i+1))
def byC (fn:Int) (r:Rct) (L:List Rl) (G:List Gn):List Nat:=
 if fn<46∨50<fn then [] else if gV r≠0 then [] else if (eP 64 L).2≠0 then [] else if (i9 64 G).2≠0 then [] else Cw fn r L G 0
theorem PV {fn:Int} {r:Rct} {L:List Rl} {G:List Gn}:(iE fn r L G).2.1=byC fn r L G:=by
 unfold iE byC
 rw [v8]
 repeat' split
 all_goals rfl
def lvC (b:Bk) (G:Gr):List Rv:=(bW G).flatMap fun a=>(gk G a).flatMap fun u=>if u.node<0 then [] else (byC u.fn u.rect b.rules b.grants).flatMap (iD b a u (atE a b.rules).1.1)
theorem PM (b:Bk) (G:Gr):y5 b G=lvC b G:=by
 have h: ∀ a,df b a (atE a b.rules).1.1=fun u=>if u.node<0 then [] else (byC u.fn u.rect b.rules b.grants).flatMap (iD b a u (atE a b.rules).1.1):=fun a=>funext fun u=>by unfold df;rw [PV]
 unfold y5 lvC mU
 simp only [h]
theorem NI {b:Bk} {G:Gr} {e:Int} {l:List Rv} (h:uI b.ents=(some G,e)) (h2:lvC b G=l):cE b=l:=by
 unfold cE grB
 rw [h,← h2,← PM]
 rfl
def Qv:Gn:=⟨⟨2,1,2,3⟩,1,2#64,0,false⟩
def oF:Bk:=⟨3,ze,bkR,[Qv],[],[],1⟩
def AV:Rv:=⟨0,⟨⟨1,3⟩,1⟩,46,⟨2,1,2,3⟩,0,7#64⟩
set_option maxRecDepth 100000 in
theorem L6:bkE oF=0:=by decide+kernel
set_option maxRecDepth 100000 in
theorem JA:cE oF= [AV]:=NI LY (by decide+kernel)
end Go.SL
namespace Go.SL
open Go Go.Proofs
attribute [local irreducible] W WL WQ WG WA WX WLI WR WT WC WE VOp RW thn blk bp scp aR ba bE aF FnIn FnP ceP
theorem xZ (r:Rct) (L:List Rl) (lv:Value) (w:World) (hl:Reads w lv L.length (L.flatMap bM)):aA Tryz.prog 148 [.agg (bL r).toArray,lv] w (.int .i64 (eZ r L)):=by
 have hR:=fun w=>gU r w
 have hC:=fun (w' :World) (H:List Blk) (hm:Mem w w' H)=>jh 64 L lv w' (hl.of_w0 hm)
 obtain ⟨Al,cl,rfl, -⟩:=hl
 refine aq Tryz.func148 rfl Tryz.ntmps148 rfl ?_
 unfold eZ
 generalize eP 64 L=ae at hC ⊢
 cases hr:aO r with
 |false=>
  rw [hr] at hR
  rw [if_pos rfl]
  repeat' (first|(apply aa;exact rfl;exact rfl;(intro w hm;exact hR w))|refine sT ?_|refine sS ?_|refine sM fun _=> ?_|(refine sC ?_ ?_<;>intro hb<;>try omega)|fail)
  all_goals first|(exfalso;omega)|((refine rT1 ?_);rfl)
 |true=>
  rw [hr] at hR
  rw [if_neg (by decide)]
  repeat' (first|(apply aa;exact rfl;exact rfl;(intro w hm;exact hR w))|(apply aa (f:=34);exact rfl;exact rfl;(intro w' hm;exact hC w' _ hm))|refine sT ?_|refine sS ?_|refine sM fun _=> ?_|(refine sC ?_ ?_<;>intro hb<;>try omega)|fail)
  all_goals first|(exfalso;omega)|((refine rT1 ?_);rfl)
theorem wA {r:Rct} {L:List Rl} (h:eZ r L=0) (f:Rl→BitVec 64):yd f r L=jU ((Ah r L).map fun a=>(L[cR L a]?.map f).getD 0#64):=by
 unfold eZ at h
 split at h
 ·
  cases h
 ·
  rename_i hr
  exact (Pw (by simpa using hr) fun R hR=>((uY.1 h).2.2.2.2 R hR).1).symm
set_option maxHeartbeats 16000000 in
theorem Ad (r:Rct) (L:List Rl) (lv:Value) (w:World) (hl:Reads w lv L.length (L.flatMap bM)):
    aA Tryz.prog 111 [.agg (bL r).toArray,lv] w (.tuple #[.agg #[vS (ovE r L).1.1,vS (ovE r L).1.2.1,vS (ovE r L).1.2.2],.int .i64 (ovE r L).2]):=by
  have hck:=fun (w' :World) (H:List Blk) (hm:Mem w w' H)=>xZ r L lv w' (hl.of_w0 hm)
  have hl0:=hl
  obtain ⟨Al,cl,rfl,hl1,hl2,hl3⟩:=hl
  refine aq Tryz.func111 rfl Tryz.ntmps111 rfl ?_
  unfold ovE
  by_cases hc:eZ r L≠0
  · rw [if_pos hc]
    repeat' (first|(apply aa (f:=148);exact rfl;exact rfl;(intro w' hm;exact hck w' _ hm))|refine sT ?_|refine sS ?_|refine sM fun _=> ?_|(refine sC ?_ ?_<;>intro hb<;>try omega)|fail)
    all_goals first
      |(exfalso;omega)
      |((refine jb ?_);rfl)
  rw [if_neg hc]
  obtain ⟨hr,hne,hlen⟩:=zn hc
  have hc0:eZ r L=0:=by omega
  rw [hc0] at hck
  rw [wA hc0,wA hc0,wA hc0]
  have hacl:(eP 64 L).2=0:=by
    unfold eZ at hc0
    rw [if_neg (by rw [hr];decide)] at hc0;exact hc0
  have hall:=fun w=>tW 64 w
  rw [show (eB 64).1=BitVec.allOnes 64 by decide+kernel,show (eB 64).2=0 by decide+kernel] at hall
  have hP:=fun (w' :World) (H:List Blk) (hm:Mem w w' H)=>wn r L _ w' (hl0.of_w0 hm) hr (fun R hR=>((uY.1 hacl).2.2.2.2 R hR).1) (by omega)
  have hLa:=fun (a:Rf) (w' :World) (H:List Blk) (hm:Mem w w' H)=>rr a L _ w' (hl0.of_w0 hm)
  generalize Ah r L=PZ at hP ⊢
  repeat' (first|(apply aa (f:=148);exact rfl;exact rfl;(intro w' hm;exact hck w' _ hm))|(apply aa;exact rfl;exact rfl;(intro w hm;exact hall w))|(apply ay (f:=149);exact rfl;exact rfl;(intro w' hm;exact hP w' _ hm);rintro _ _ ⟨Ap,cp,rfl,rfl⟩)|refine sT ?_|refine sS ?_|refine sM fun _=> ?_|(refine sC ?_ ?_<;>intro hb<;>try omega)|fail)
  all_goals try (exfalso;omega)
  rename_i g2 g4 g9
  refine aw [1,4,9,10] rfl (fun i:Nat=> [(11,.int .i64 (i:Int))]) (fun i=> [.box g9 35 [vS (jU ((PZ.take i).map fun a=>(L[cR L a]?.map (fun x=>x.read)).getD 0#64)),vS (jU ((PZ.take i).map fun a=>(L[cR L a]?.map (fun x=>x.write)).getD 0#64)),vS (jU ((PZ.take i).map fun a=>(L[cR L a]?.map (fun x=>x.own)).getD 0#64))],.own Ap 50 2 PZ.length cp (PZ.flatMap aS),.box g4 35 [vS 0#64,vS 0#64,vS 0#64]]) (fun i=>i≤PZ.length) (fun i=>PZ.length - i) 0 (Rd _) sB mS ?_
  rintro i hi
  try dsimp only at hi ⊢
  refine Kr (A:=Ap) pK fun q1 q2 q3=> ?_
  by_cases hlt:i<PZ.length
  · refine dN (A:=Ap) pK (by omega) fun gp hAp=> ?_
    subst hAp
    have hread:=Qt hlt
    have hstep: ∀ f:Rl→BitVec 64,jU ((PZ.take (i+1)).map fun a=>(L[cR L a]?.map f).getD 0#64)=jU ((PZ.take i).map fun a=>(L[cR L a]?.map f).getD 0#64) &&& ((L[cR L PZ[i]]?.map f).getD 0#64):=fun f=>by
      rw [Ra hlt,RM,RA,Sq,zu]
    have hkl:=wR (a:=PZ[i]) hne
    have hLi:=hLa PZ[i]
    generalize PZ[i]=a at hread hstep hkl hLi
    generalize cR L a=k at hstep hkl hLi
    obtain ⟨gl,ol,rfl,hrl⟩:=hl3 (by omega)
    obtain ⟨_,_,_,_,hrr⟩:=Rl.ro (hrl.elem bV k hkl)
    have hstep: ∀ f:Rl→BitVec 64,jU ((PZ.take (i+1)).map fun a=>(L[cR L a]?.map f).getD 0#64)=jU ((PZ.take i).map fun a=>(L[cR L a]?.map f).getD 0#64) &&& f L[k]:=fun f=>by
      rw [hstep,QV hkl];rfl
    have s1:=hstep fun x=>x.read
    have s2:=hstep fun x=>x.write
    have s3:=hstep fun x=>x.own
    generalize L[k]=x at hrr s1 s2 s3
    generalize jU ((PZ.take i).map fun a=>(L[cR L a]?.map (fun x=>x.read)).getD 0#64)=o1 at s1 ⊢
    generalize jU ((PZ.take i).map fun a=>(L[cR L a]?.map (fun x=>x.write)).getD 0#64)=o2 at s2 ⊢
    generalize jU ((PZ.take i).map fun a=>(L[cR L a]?.map (fun x=>x.own)).getD 0#64)=o3 at s3 ⊢
    repeat' (first|(apply ak (d:=40);exact rfl;apply aj (j:=i);exact rfl;exact rfl;exact hlt)|(apply ak (d:=41);exact rfl;apply aW (ys:=aS a);exact rfl;exact pK;exact hread;exact rfl)|(apply aa (f:=150);exact rfl;exact rfl;(intro w' hm;exact hLi w' _ hm))|(apply ak (d:=44);exact rfl;apply aj (j:=k);exact rfl;exact rfl;exact hkl)|(apply ak (d:=46);exact rfl;apply aC;exact rfl;exact hrr;exact rfl)|(apply ak;exact rfl;apply qM;exact rfl;exact rfl)|refine sT ?_|refine sS ?_|refine sN ?_|refine sM fun _=> ?_|(refine sC ?_ ?_<;>intro hb<;>try omega)|fail)
    all_goals first
      |(exfalso;omega)
      | (refine ⟨i + 1, hlt, by omega, by exact sB, by exact sB, ?_⟩
         rw [s1,s2,s3]
         exact mS)
  · have e:i=PZ.length:=by omega
    subst e
    rw [RJ]
    repeat' (first|refine sT ?_|refine sS ?_|refine sN ?_|refine sM fun _=> ?_|(refine sC ?_ ?_<;>intro hb<;>try omega)|fail)
    all_goals first
      |(exfalso;omega)
      |((refine jb ?_);rfl)
theorem Ok (x:BitVec 64) (m:Nat) (h:m<64):(x &&& 1#64<<<m=0#64)↔x.getLsbD m=false:=by
 have hb: ∀ m:Fin 64,∀ i:Fin 64,(1#64<<<m.val).getLsbD i.val=decide (i.val=m.val):=by decide+kernel
 constructor
 ·
  intro e
  have h1:(x &&& 1#64<<<m).getLsbD m=false:=by rw [e];simp
  rw [TP,hb ⟨m,h⟩ ⟨m,h⟩] at h1
  simpa using h1
 ·
  intro e
  apply TQ
  intro i hi
  rw [TP,hb ⟨m,h⟩ ⟨i,hi⟩]
  by_cases e2:i=m
  ·
   subst e2;rw [e];simp
  ·
   simp [e2]
theorem Af (u:Int) (w:World):aA Tryz.prog 110 [.int .i64 u] w (.bool (decide (0≤u) && decide (u<64))):=by
 refine aq Tryz.func110 rfl Tryz.ntmps110 rfl ?_
 repeat' (first|refine sT ?_|refine sM fun _=> ?_|(refine sC ?_ ?_<;>intro hb<;>try omega)|fail)
 all_goals first|(exfalso;omega)|((refine rT1 ?_);simp;omega)|((refine rT1 ?_);simp_all;done)
theorem tX (x:BitVec 64) (u:Int) (w:World):aA Tryz.prog 145 [vS x,.int .i64 u] w (.bool (jz x u)):=by
 refine aq Tryz.func145 rfl Tryz.ntmps145 rfl ?_
 have hU:=fun w=>Af u w
 by_cases h:0≤u∧u<64
 ·
  obtain ⟨m,rfl⟩: ∃ m:Nat,u=(m:Int):=⟨u.toNat,by omega⟩
  have hm:m<64:=by omega
  have hB:=fun w=>yR m (by omega) w
  have hs:=Ok x m hm
  have he:jz x (m:Int)=x.getLsbD m:=by simp [jz];omega
  rw [he]
  rw [decide_eq_true h.1,decide_eq_true h.2] at hU
  cases hx:x.getLsbD m
  ·
   have hz:=hs.2 hx
   repeat' (first|(apply aa;exact rfl;exact rfl;(intro w hm;exact hU w))|(apply aa;exact rfl;exact rfl;(intro w hm;exact hB w))|(apply ak;exact rfl;apply qM (b:=1#64<<<m);exact rfl;exact rfl)|(apply ak;exact rfl;apply je (b:=0#64);exact rfl;exact rfl)|refine sT ?_|refine sM fun _=> ?_|(refine sC ?_ ?_<;>intro hb<;>try omega)|fail)
   all_goals first|(exfalso;omega)|((refine rT1 ?_);simp [hz];done)
  ·
   have hz: ¬ (x &&& 1#64<<<m=0#64):=fun e=>by rw [hs.1 e] at hx;cases hx
   repeat' (first|(apply aa;exact rfl;exact rfl;(intro w hm;exact hU w))|(apply aa;exact rfl;exact rfl;(intro w hm;exact hB w))|(apply ak;exact rfl;apply qM (b:=1#64<<<m);exact rfl;exact rfl)|(apply ak;exact rfl;apply je (b:=0#64);exact rfl;exact rfl)|refine sT ?_|refine sM fun _=> ?_|(refine sC ?_ ?_<;>intro hb<;>try omega)|fail)
   all_goals first|(exfalso;omega)|((refine rT1 ?_);simp [hz];done)
 ·
  have he:jz x u=false:=by
   unfold jz
   by_cases h1:0≤u
   ·
    have h2: ¬ u<64:=fun h2=>h ⟨h1,h2⟩
    simp [h2]
   ·
    simp [h1]
  have hf:(decide (0≤u) && decide (u<64))=false:=by
   rw [← T9,Rk,decide_eq_true_eq,decide_eq_true_eq];exact h
  rw [hf] at hU
  rw [he]
  repeat' (first|(apply aa;exact rfl;exact rfl;(intro w hm;exact hU w))|refine sT ?_|refine sM fun _=> ?_|(refine sC ?_ ?_<;>intro hb<;>try omega)|fail)
  all_goals first|(exfalso;omega)|((refine rT1 ?_);rfl)
theorem CI (x:Ox) (w:World):aA Tryz.prog 49 [.agg (HS x).toArray] w (.bool (ye x.kind)):=by
 refine aq Tryz.func49 rfl Tryz.ntmps49 rfl ?_
 repeat' (first|refine sT ?_|refine sS ?_|refine sM fun _=> ?_|(refine sC ?_ ?_<;>intro hb<;>try omega)|fail)
 all_goals first
  |(exfalso;omega)
  |((refine rT1 ?_);simp_all [ye];done)
theorem z8 (k:Int) (w:World):aA Tryz.prog 49 [.agg (HS (zx k)).toArray] w (.bool (ye k)):=CI (zx k) w
theorem Ae (a:Rf) (w:World):aA Tryz.prog 72 [.agg (aS a).toArray] w (.bool a.valid):=by
 refine aq Tryz.func72 rfl Tryz.ntmps72 rfl ?_
 have h:a.valid=true↔(1≤a.col∧a.col≤1024∧1≤a.row∧a.row≤1024):=by
  show valid a.col a.row=true↔_
  rw [Iv]
 by_cases hk:a.valid=true
 ·
  have hk2:=h.1 hk
  rw [hk]
  repeat' (first|refine sT ?_|refine sM fun _=> ?_|(refine sC ?_ ?_<;>intro hb<;>try omega)|fail)
  all_goals first|(exfalso;omega)|((refine rT1 ?_);simp;omega)|((refine rT1 ?_);rfl)
 ·
  have hk2:=fun x=>hk (h.2 x)
  rw [show a.valid=false by simpa using hk]
  repeat' (first|refine sT ?_|refine sM fun _=> ?_|(refine sC ?_ ?_<;>intro hb<;>try omega)|fail)
  all_goals first|(exfalso;omega)|((refine rT1 ?_);rfl)|((refine rT1 ?_);exact congrArg Value.bool (decide_eq_false fun hz=>hk2 ⟨by omega,by omega,by omega,by omega⟩))
theorem nK (fn:Int) (w:World):aA Tryz.prog 152 [.int .u8 fn] w (.bool (decide (46≤fn) && decide (fn≤50))):=by
 refine aq Tryz.func152 rfl Tryz.ntmps152 rfl ?_
 repeat' (first|refine sT ?_|refine sM fun _=> ?_|(refine sC ?_ ?_<;>intro hb<;>try omega)|fail)
 all_goals first|(exfalso;omega)|((refine rT1 ?_);simp;omega)|((refine rT1 ?_);simp_all;done)
def qz (all:BitVec 64) (last:Int) (x:Ev):Int:=
 if x.step≤last then 12 else if (ye x.kind && jz all x.user)=false then 2 else if aO x.rect=false then 3 else if (decide (x.to &&& ~~~all=0#64) && jz x.to x.user)=false then 2 else 0
theorem qA (all:BitVec 64) (last:Int) (x:Ev) (l:List Ev):fM all last (x::l)=if qz all last x≠0 then qz all last x else fM all x.step l:=by
 rw [fM,qz]
 split
 ·
  rfl
 split
 ·
  rfl
 split
 ·
  rfl
 split<;>rfl
def qg (all:BitVec 64) (last:Int) (x:Rv):Int:=
 if x.step<last then 12 else if (x.call.at_.valid && aO x.rect)=false then 3 else if KT all x=false then 2 else 0
theorem qh (all:BitVec 64) (last:Int) (x:Rv) (l:List Rv):fX all last (x::l)=if qg all last x≠0 then qg all last x else fX all x.step l:=by
 rw [fX,qg]
 split
 ·
  rfl
 split
 ·
  rfl
 split<;>rfl
set_option maxHeartbeats 4000000 in
theorem F4 (u:Int) (hu: ¬ (u<0∨64<u∨u=0)) (last:Int) (x:Ev) (w:World):aA Tryz.prog 120 [.int .i64 u,.int .i64 last,.agg (dK x).toArray] w (.int .i64 (qz (eB u).1 last x)):=by
 refine aq Tryz.func120 rfl Tryz.ntmps120 rfl ?_
 have hM:=fun w=>z8 x.kind w
 have hR:=fun w=>gU x.rect w
 have hW:=fun w=>jK x.to u w
 have hH:=fun w=>tX x.to x.user w
 unfold qz
 rw [wW hu]
 generalize ye x.kind=mk at hM ⊢
 generalize aO x.rect=ro at hR ⊢
 generalize jz x.to x.user=hs at hH ⊢
 generalize (eB u).1=sa at hW ⊢
 generalize decide (x.to &&& ~~~sa=0#64)=wi at hW ⊢
 repeat' (first|(apply aa;exact rfl;exact rfl;(intro w hm;exact hM w))|(apply aa;exact rfl;exact rfl;(intro w hm;exact hR w))|(apply aa;exact rfl;exact rfl;(intro w hm;exact hW w))|(apply aa;exact rfl;exact rfl;(intro w hm;exact hH w))|refine sT ?_|refine sS ?_|refine sM fun _=> ?_|(refine sC ?_ ?_<;>intro hb<;>try omega)|fail)
 all_goals first
  |(exfalso;omega)
  |((refine rT1 ?_);simp_all;done)
  |((refine rT1 ?_);simp_all;omega)
set_option maxHeartbeats 4000000 in
theorem zX (u:Int) (last:Int) (x:Rv) (w:World):aA Tryz.prog 121 [.int .i64 u,.int .i64 last,.agg (aJ x).toArray] w (.int .i64 (qg (eB u).1 last x)):=by
 refine aq Tryz.func121 rfl Tryz.ntmps121 rfl ?_
 have hA:=fun w=>Ae x.call.at_ w
 have hR:=fun w=>gU x.rect w
 have hL:=fun w=>nK x.fn w
 have hW:=fun w=>jK x.to u w
 unfold qg KT
 generalize x.call.at_.valid=va at hA ⊢
 generalize aO x.rect=ro at hR ⊢
 generalize (eB u).1=sa at hW ⊢
 generalize decide (x.to &&& ~~~sa=0#64)=wi at hW ⊢
 repeat' (first|(apply aa;exact rfl;exact rfl;(intro w hm;exact hA w))|(apply aa;exact rfl;exact rfl;(intro w hm;exact hR w))|(apply aa;exact rfl;exact rfl;(intro w hm;exact hL w))|(apply aa;exact rfl;exact rfl;(intro w hm;exact hW w))|refine sT ?_|refine sS ?_|refine sM fun _=> ?_|(refine sC ?_ ?_<;>intro hb<;>try omega)|fail)
 all_goals first
  |(exfalso;omega)
  |((refine rT1 ?_);simp_all;done)
  |((refine rT1 ?_);simp_all;omega)
set_option maxHeartbeats 8000000 in
theorem xX (u:Int) (L:List Ev) (M:List Rv) (lv mv:Value) (w:World) (hl:Reads w lv L.length (L.flatMap dK)) (hm:Reads w mv M.length (M.flatMap aJ)):aA Tryz.prog 65 [.int .i64 u,lv,mv] w (.int .i64 (tI u L M)):=by
 obtain ⟨Al,cl,rfl,hl1,hl2,hl3⟩:=hl
 obtain ⟨Am,cm,rfl,hm1,hm2,hm3⟩:=hm
 refine aq Tryz.func65 rfl Tryz.ntmps65 rfl ?_
 unfold tI
 by_cases h1:u<0∨64<u∨u=0
 ·
  rw [if_pos h1]
  repeat' (first|refine sT ?_|refine sM fun _=> ?_|(refine sC ?_ ?_<;>intro hb<;>try omega)|fail)
  all_goals first|(exfalso;omega)|((refine rT1 ?_);rfl)
 rw [if_neg h1]
 have hE:=fun last (x:Ev) w=>F4 u h1 last x w
 have hR:=fun last (x:Rv) w=>zX u last x w
 generalize (eB u).1=sa at hE hR ⊢
 obtain ⟨ef,hef⟩: ∃ ef,fM sa (-1) L=ef:=⟨_,rfl⟩
 rw [hef]
 repeat' (first|refine sT ?_|refine sS ?_|refine sM fun _=> ?_|(refine sC ?_ ?_<;>intro hb<;>try omega)|fail)
 all_goals try (exfalso;omega)
 refine aw [0,1,2] rfl (fun i:Nat=> [(7,.int .i64 (lp L i)),(8,.int .i64 (i:Int))]) (fun _=> []) (fun i=>i≤L.length∧ef=fM sa (lp L i) (L.drop i)) (fun i=>L.length - i) 0 ⟨Rd _,hef.symm⟩ sB mS ?_
 rintro i ⟨hi,hrec⟩
 by_cases hlt:i<L.length
 ·
  obtain ⟨gl,ol,rfl,hrl⟩:=hl3 (by omega)
  have he1:=hrl.elem fS i hlt
  have hnext:lp L (i+1)=L[i].step:=by unfold lp;rw [if_neg (by omega),ST,QV hlt];rfl
  rw [Rc hlt,qA] at hrec
  generalize lp L i=last at hrec
  generalize L[i]=r at hnext he1 hrec
  have hE1:=fun w=>hE last r w
  have hs:=(Ev.ro he1).1
  generalize qz sa last r=e1 at hE1 hrec
  repeat' (first|(apply ak;exact rfl;apply aj (j:=i);exact rfl;exact rfl;omega)|(apply ak;exact rfl;apply aC;exact rfl;exact he1;exact rfl)|(apply aa;exact rfl;exact rfl;(intro w hm;exact hE1 w))|refine sT ?_|refine sS ?_|refine sN ?_|refine sO ?_|refine sM fun _=> ?_|(refine sC ?_ ?_<;>intro hb<;>try omega)|fail)
  all_goals first
   |(exfalso;omega)
   |(rw [if_pos hb] at hrec;(refine rT1 ?_);rw [hrec,if_pos hb];done)
   |(rw [if_neg (by omega)] at hrec;refine ⟨i+1,⟨hlt,?_⟩,by omega,by (try simp only [hnext]);exact sB,by (try simp only [hnext]);exact sB,by exact mS⟩;rw [hnext];exact hrec)
 ·
  have e:i=L.length:=by omega
  subst e
  rw [RK,fM] at hrec
  subst hrec
  rw [if_neg (by decide)]
  obtain ⟨rf,hrf⟩: ∃ rf,fX sa (-1) M=rf:=⟨_,rfl⟩
  rw [hrf]
  repeat' (first|refine sT ?_|refine sS ?_|refine sM fun _=> ?_|(refine sC ?_ ?_<;>intro hb<;>try omega)|fail)
  refine aw [0,2] rfl (fun i:Nat=> [(7,.int .i64 (lm M i)),(10,.int .i64 (i:Int))]) (fun _=> []) (fun i=>i≤M.length∧rf=fX sa (lm M i) (M.drop i)) (fun i=>M.length - i) 0 ⟨Rd _,hrf.symm⟩ sB mS ?_
  rintro i ⟨hi,hrec⟩
  by_cases hlt:i<M.length
  ·
   obtain ⟨gm,om,rfl,hrm⟩:=hm3 (by omega)
   have he1:=hrm.elem cQ i hlt
   have hnext:lm M (i+1)=M[i].step:=by unfold lm;rw [if_neg (by omega),ST,QV hlt];rfl
   rw [Rc hlt,qh] at hrec
   generalize lm M i=last at hrec
   generalize M[i]=r at hnext he1 hrec
   have hE1:=fun w=>hR last r w
   have hs:=Rv.ro1 he1
   generalize qg sa last r=e1 at hE1 hrec
   repeat' (first|(apply ak;exact rfl;apply aj (j:=i);exact rfl;exact rfl;omega)|(apply ak;exact rfl;apply aC;exact rfl;exact he1;exact rfl)|(apply aa;exact rfl;exact rfl;(intro w hm;exact hE1 w))|refine sT ?_|refine sS ?_|refine sN ?_|refine sO ?_|refine sM fun _=> ?_|(refine sC ?_ ?_<;>intro hb<;>try omega)|fail)
   all_goals first
    |(exfalso;omega)
    |(rw [if_pos hb] at hrec;(refine rT1 ?_);rw [hrec];done)
    |(rw [if_neg (by omega)] at hrec;refine ⟨i+1,⟨hlt,?_⟩,by omega,by (try simp only [hnext]);exact sB,by (try simp only [hnext]);exact sB,by exact mS⟩;rw [hnext];exact hrec)
  ·
   have e:i=M.length:=by omega
   subst e
   rw [RK,fX] at hrec
   subst hrec
   repeat' (first|refine sT ?_|refine sS ?_|refine sM fun _=> ?_|(refine sC ?_ ?_<;>intro hb<;>try omega)|fail)
   all_goals first|(exfalso;omega)|((refine rT1 ?_);rfl)
theorem uG (a:Rf) (L:List Rl) (lv:Value) (w:World) (hl:Reads w lv L.length (L.flatMap bM)) (hL:(eP 64 L).2=0) (ha:a.valid=true):aA Tryz.prog 129 [.agg (aS a).toArray,lv] w (vS (atE a L).1.1):=by
 have hLi:=fun (w' :World) (H:List Blk) (hm:Mem w w' H)=>rr a L _ w' (hl.of_w0 hm)
 rw [(Ms hL ha).1]
 unfold FO
 have hkl:=wR (a:=a) (uY.1 hL).2.1
 generalize cR L a=k at hLi hkl ⊢
 rw [QV hkl,Sm,S5]
 obtain ⟨Al,cl,rfl,hl1,hl2,hl3⟩:=hl
 obtain ⟨gl,ol,rfl,hrl⟩:=hl3 (by omega)
 obtain ⟨_,_,_,_,hrr⟩:=Rl.ro (hrl.elem bV k hkl)
 generalize L[k]=x at hrr
 refine aq Tryz.func129 rfl Tryz.ntmps129 rfl ?_
 repeat' (first|(apply aa (f:=150);exact rfl;exact rfl;(intro w' hm;exact hLi w' _ hm))|(apply ak;exact rfl;apply aj (j:=k);exact rfl;exact rfl;exact hkl)|(apply ak;exact rfl;apply dE (off:=0);exact rfl;exact hrr;exact rfl)|refine sT ?_|refine sS ?_|refine sM fun _=> ?_|(refine sC ?_ ?_<;>intro hb<;>try omega)|fail)
 all_goals first|(exfalso;omega)|((refine rT1 ?_);rfl)
section
variable {w0:World} {s:az} {H:List Blk} {ty t' :TypeId} {x y:Operand}
theorem EO {a b:Cl} {c:Bool} (h:qB a b=c) (hx:ev s x=some (.agg (rR a).toArray)) (hy:ev s y=some (.agg (rR b).toArray)):VOp Tryz.prog w0 s H (.binOp .eql 60 x y t') ty (.bool c):=h ▸ M9 hx hy
theorem yD {P:Program} {k:IntKind} {a b:Int} {c:Bool} {t:TypeId} (h:decide (a=b)=c) (hx:ev s x=some (.int k a)) (hy:ev s y=some (.int k b)):VOp P w0 s H (.binOp .eql t x y t') ty (.bool c):=h ▸ GW hx hy
end
theorem PY (a b:Rv):decide (abt a=abt b)=(qB a.call b.call && (decide (a.fn=b.fn) && (decide (a.rect=b.rect) && decide (a.grant=b.grant)))):=by
 rw [RQ]
 simp only [Rk,decide_eq_true_eq,rO,abt,Ky.mk.injEq]
set_option maxHeartbeats 4000000 in
theorem z7 (a b:Rv) (w:World):aA Tryz.prog 131 [.agg (aJ a).toArray,.agg (aJ b).toArray] w (.bool (decide (abt a=abt b))):=by
 refine aq Tryz.func131 rfl Tryz.ntmps131 rfl ?_
 rw [PY]
 obtain ⟨c1,h1⟩: ∃ c,qB a.call b.call=c:=⟨_,rfl⟩
 obtain ⟨c2,h2⟩: ∃ c,decide (a.fn=b.fn)=c:=⟨_,rfl⟩
 obtain ⟨c3,h3⟩: ∃ c,decide (a.rect=b.rect)=c:=⟨_,rfl⟩
 obtain ⟨c4,h4⟩: ∃ c,decide (a.grant=b.grant)=c:=⟨_,rfl⟩
 rw [h1,h2,h3,h4]
 repeat' (first|(apply ak;exact rfl;apply EO h1;exact rfl;exact rfl)|(apply ak;exact rfl;apply oT h3;exact rfl;exact rfl)|(apply ak;exact rfl;apply yD (k:= .u8) h2;exact rfl;exact rfl)|(apply ak;exact rfl;apply yD (k:= .i64) h4;exact rfl;exact rfl)|refine sT ?_|refine sS ?_|refine sM fun _=> ?_|(refine sC ?_ ?_<;>intro hb<;>try omega)|fail)
 all_goals first|(exfalso;omega)|((refine rT1 ?_);simp [*];done)|((refine rT1 ?_);rfl)
theorem LH {M:List Rv} {x:Rv} {k:Nat} (h:k<M.length):decide (abt x∈(M.take (k+1)).map abt)=(decide (abt x∈(M.take k).map abt)||decide (abt x=abt M[k])):=by
 rw [Ra h,RM,RQ]
 simp only [Ru,RA,Sq,Rp,Td,decide_eq_true_eq]
set_option maxHeartbeats 8000000 in
theorem jx (L M:List Rv) (lv mv:Value) (w:World) (hl:Reads w lv L.length (L.flatMap aJ)) (hm:Reads w mv M.length (M.flatMap aJ)) (hL:L.length≤100000000):
    aF Tryz.prog 82 [lv,mv] w fun v H=> ∃ A cap,v=sl A (ep L M).length cap∧H= [.own A 62 11 (ep L M).length cap ((ep L M).flatMap aJ)]:=by
  obtain ⟨Al,cl,rfl,hl1,hl2,hl3⟩:=hl
  obtain ⟨Am,cm,rfl,hm1,hm2,hm3⟩:=hm
  refine aq Tryz.func82 rfl Tryz.ntmps82 rfl ?_
  refine aB 62 11 ?_
  repeat' (first|refine sT ?_|refine sS ?_|refine sM fun _=> ?_|(refine sC ?_ ?_<;>intro hb<;>try omega)|fail)
  refine aw [0,1] rfl (fun y:Nat × Option Nat × Nat=> [(5,sl y.2.1 (ep (L.take y.1) M).length y.2.2),(6,.int .i64 (y.1:Int))]) (fun y=> [.own y.2.1 62 11 (ep (L.take y.1) M).length y.2.2 ((ep (L.take y.1) M).flatMap aJ)]) (fun y=>y.1≤L.length) (fun y=>L.length - y.1) (0,none,0) (Rd _) sB mS ?_
  rintro ⟨i,A,c⟩ hi
  dsimp only at hi ⊢
  by_cases hlt:i<L.length
  · obtain ⟨gl,ol,rfl,hrl⟩:=hl3 (by omega)
    have he:=hrl.elem cQ i hlt
    have hn:=wH (M:=M) hlt
    have hml:=o5 (L.take i) M
    rw [RF] at hml
    generalize ep (L.take i) M=N at hn hml
    have hnx:=fun k (h:k<M.length)=>LH (x:=L[i]) h
    have hend:decide (abt L[i]∈(M.take M.length).map abt)=decide (abt L[i]∈M.map abt):=by rw [RJ]
    generalize L[i]=x at he hn hnx hend
    repeat' (first|refine sT ?_|refine sS ?_|refine sM fun _=> ?_|(refine sC ?_ ?_<;>intro hb<;>try omega)|fail)
    refine aw [0,1,5,6] rfl (fun k:Nat=> [(7,.bool (decide (abt x∈(M.take k).map abt))),(8,.int .i64 (k:Int))]) (fun _=> [.own A 62 11 N.length c (N.flatMap aJ)]) (fun k=>k≤M.length) (fun k=>M.length - k) 0 (Rd _) (by simp only [Sj,Sq,SK,decide_false];exact sB) mS ?_
    rintro k hk
    try dsimp only at hk ⊢
    by_cases hlk:k<M.length
    · obtain ⟨gm,om,rfl,hrm⟩:=hm3 (by omega)
      have hem:=hrm.elem cQ k hlk
      have hnk:=hnx k hlk
      generalize decide (abt x∈(M.take k).map abt)=d1 at hnk ⊢
      generalize M[k]=z at hem hnk
      have hS:=fun w=>z7 x z w
      generalize decide (abt x=abt z)=d2 at hS hnk
      cases d1
      all_goals
        repeat' (first|(apply aK;exact rfl;apply aj (j:=i);exact rfl;exact rfl;exact hlt)|(apply aK;exact rfl;apply aj (j:=k);exact rfl;exact rfl;exact hlk)|(apply aK;exact rfl;apply aC;exact rfl;exact he;exact rfl)|(apply aK;exact rfl;apply aC;exact rfl;exact hem;exact rfl)|(apply cB (f:=131);exact rfl;exact rfl;(intro w' _;exact hS w'))|refine sT ?_|refine sS ?_|refine sQ ?_|refine sN ?_|refine sNQ ?_|refine sD ?_|refine sM fun _=> ?_|(refine sC ?_ ?_<;>intro hb<;>try omega)|(refine sCQ ?_ ?_<;>intro hb<;>try omega)|fail)
      all_goals first
        |(exfalso;omega)
        |(refine ⟨k+1,hlk,by omega,by rw [hnk];exact sB,by exact sB,by exact mS⟩;done)
    · have e:k=M.length:=by omega
      subst e
      rw [hend]
      by_cases hx:abt x∈M.map abt
      · rw [if_pos hx] at hn
        rw [decide_eq_true hx]
        repeat' (first|refine sT ?_|refine sS ?_|refine sN ?_|refine sM fun _=> ?_|(refine sC ?_ ?_<;>intro hb<;>try omega)|fail)
        all_goals first
          |(exfalso;omega)
          |(refine ⟨(i+1,A,c),hlt,by dsimp only;omega,by dsimp only;rw [hn];exact sB,by exact sB,by dsimp only;rw [hn];exact mS⟩;done)
      · rw [if_neg hx] at hn
        rw [decide_eq_false hx]
        repeat' (first|(apply ak;exact rfl;apply aj (j:=i);exact rfl;exact rfl;exact hlt)|(apply ak;exact rfl;apply aC;exact rfl;exact he;exact rfl)|(apply aQ (A:=A) (m:=1);(iterate 3 exact rfl);exact pK;(intro w hm;exact hm.cells_own pK);exact rfl;(intro u hu;simp [aJ] at hu;rcases hu with rfl|rfl|rfl|rfl|rfl|rfl|rfl|rfl|rfl|rfl|rfl<;>rfl);omega;(simp only [maxLen];omega);(intro A' cap' hA'))|refine sT ?_|refine sS ?_|refine sN ?_|refine sM fun _=> ?_|(refine sC ?_ ?_<;>intro hb<;>try omega)|fail)
        all_goals first
          |(exfalso;omega)
          | (refine ⟨(i + 1, A', cap'), hlt, by dsimp only; omega, ?_, ?_, ?_⟩
             · dsimp only;rw [hn,List.length_append];exact sB
             · exact sB
             · dsimp only;rw [hn,List.length_append,List.flatMap_append,List.flatMap_cons,List.flatMap_nil,List.append_nil];exact mS)
  · have e:i=L.length:=by omega
    subst e
    rw [RJ]
    repeat' (first|refine sT ?_|refine sS ?_|refine sM fun _=> ?_|(refine sC ?_ ?_<;>intro hb<;>try omega)|fail)
    all_goals first
      |(exfalso;omega)
      |(refine cA eIO rfl rfl mS ⟨A,c,rfl,rfl⟩;done)
theorem DE {all:BitVec 64}: ∀ {L:List Ev} {last:Int},fM all last L=0→ ∀ x∈L,x.step≤ur last L
 | [],_,_,x,hx=>by cases hx
 |y::L,last,h,x,hx=>by
  rw [qA] at h
  split at h
  ·
   rename_i h2;exact absurd h h2
  have hmono: ∀ {L:List Ev} {a:Int},fM all a L=0→a≤ur a L:=by
   intro L
   induction L with
   |nil=>intro a _;exact SQ _
   |cons z L ih=>
    intro a h
    rw [qA] at h
    split at h
    ·
     rename_i h2;exact absurd h h2
    rename_i h2
    have h3:=ih h
    have h4: ¬ z.step≤a:=fun h5=>by
     have h6:=Classical.not_not.1 h2
     unfold qz at h6
     rw [if_pos h5] at h6
     cases h6
    show a≤ur z.step L
    omega
  show x.step≤ur y.step L
  rcases Rs.1 hx with rfl|hx
  ·
   exact hmono h
  ·
   exact DE h x hx
def uq (last:Int):List Rv→Int
 | []=>last
 |x::l=>uq x.step l
theorem DK: ∀ (L:List Rv) (last:Int),uq last L=if L.length=0 then last else ((L[L.length - 1]?).map Rv.step).getD 0
 | [],_=>rfl
 | [x],_=>rfl
 |x::y::L,last=>by
  have ih:=DK (y::L) x.step
  rw [show uq last (x::y::L)=uq x.step (y::L) from rfl,ih]
  simp
theorem Cn {all:BitVec 64}: ∀ {L:List Rv} {last:Int},fX all last L=0→ ∀ x∈L,x.step≤uq last L
 | [],_,_,x,hx=>by cases hx
 |y::L,last,h,x,hx=>by
  rw [qh] at h
  split at h
  ·
   rename_i h2;exact absurd h h2
  have hmono: ∀ {L:List Rv} {a:Int},fX all a L=0→a≤uq a L:=by
   intro L
   induction L with
   |nil=>intro a _;exact SQ _
   |cons z L ih=>
    intro a h
    rw [qh] at h
    split at h
    ·
     rename_i h2;exact absurd h h2
    rename_i h2
    have h3:=ih h
    have h4: ¬ z.step<a:=fun h5=>by
     have h6:=Classical.not_not.1 h2
     unfold qg at h6
     rw [if_pos h5] at h6
     cases h6
    show a≤uq z.step L
    omega
  show x.step≤uq y.step L
  rcases Rs.1 hx with rfl|hx
  ·
   exact hmono h
  ·
   exact Cn h x hx
theorem Jo {all:BitVec 64} {s:Int} {L:List Ev} (h:fM all (-1) L=0):pS s L=false↔ ∀ x∈L,x.step<s:=by
 have h1:=DE h
 rw [DL] at h1
 unfold pS
 by_cases hl:0<L.length
 ·
  rw [if_pos hl,decide_eq_false_iff_not]
  rw [if_neg (by omega)] at h1
  constructor
  ·
   intro h2 x hx
   have:=h1 x hx
   omega
  ·
   intro h2 h3
   have hlt:L.length - 1<L.length:=by omega
   have h4:=h2 _ (RN hlt)
   rw [QV hlt] at h3
   simp only [Sm,S5] at h3
   omega
 ·
  rw [if_neg hl]
  have:L= []:=SR.1 (by omega)
  subst this
  simp
theorem Jl {all:BitVec 64} {s:Int} {L:List Rv} (h:fX all (-1) L=0):pR s L=false↔ ∀ x∈L,x.step<s:=by
 have h1:=Cn h
 rw [DK] at h1
 unfold pR
 by_cases hl:0<L.length
 ·
  rw [if_pos hl,decide_eq_false_iff_not]
  rw [if_neg (by omega)] at h1
  constructor
  ·
   intro h2 x hx
   have:=h1 x hx
   omega
  ·
   intro h2 h3
   have hlt:L.length - 1<L.length:=by omega
   have h4:=h2 _ (RN hlt)
   rw [QV hlt] at h3
   simp only [Sm,S5] at h3
   omega
 ·
  rw [if_neg hl]
  have:L= []:=SR.1 (by omega)
  subst this
  simp
set_option maxHeartbeats 16000000 in
theorem gF (b:Bk) (x:Bv) (w:World) (h:BRd w b x) (hlen:b.ents.length≤1000000):aA Tryz.prog 16 [.agg (aY b x).toArray] w (.int .i64 (bkE b)):=by
 have hent:=fun (w' :World) (H:List Blk) (hm:Mem w w' H)=>pL b.ents _ w' (h.e.of_w0 hm) hlen
 have hacl:=fun (w' :World) (H:List Blk) (hm:Mem w w' H)=>jh b.users b.rules _ w' (h.r.of_w0 hm)
 have hgnt:=fun (w' :World) (H:List Blk) (hm:Mem w w' H)=>lj b.users b.grants _ w' (h.g.of_w0 hm)
 have haud:=fun (w' :World) (H:List Blk) (hm:Mem w w' H)=>xX b.users b.log b.rels _ _ w' (h.l.of_w0 hm) (h.s.of_w0 hm)
 refine aq Tryz.func16 rfl Tryz.ntmps16 rfl ?_
 unfold bkE
 obtain ⟨Al,cl,el,hl1,hl2,hl3⟩:=h.l
 obtain ⟨Am,cm,em,hm1,hm2,hm3⟩:=h.s
 have hl3' :0<b.log.length→ ∃ g o,x.al=some ⟨g,o,none⟩∧Ro w g o (b.log.flatMap dK):=by
  cases el
  exact hl3
 have hm3' :0<b.rels.length→ ∃ g o,x.as_=some ⟨g,o,none⟩∧Ro w g o (b.rels.flatMap aJ):=by
  cases em
  exact hm3
 have hLm:b.log.length≤maxLen:=RB hl1 hl2
 have hMm:b.rels.length≤maxLen:=RB hm1 hm2
 clear hl1 hl2 hl3 hm1 hm2 hm3 el em
 have hlE:=fun (hz:tI b.users b.log b.rels=0)=>Jo (s:=b.step) (HY.1 hz).2.1
 have hlR:=fun (hz:tI b.users b.log b.rels=0)=>Jl (s:=b.step) (HY.1 hz).2.2
 generalize dM b.ents=ce at hent ⊢
 generalize eP b.users b.rules=ae at hacl ⊢
 generalize i9 b.users b.grants=ge at hgnt ⊢
 generalize tI b.users b.log b.rels=ue at haud hlE hlR ⊢
 obtain ⟨us,E,RU,G,L,M,st⟩:=b
 obtain ⟨ae1,ar1,ag1,al1,as1,ce1,cr1,cg1,cl1,cs1⟩:=x
 dsimp only at*
 simp only [aY] at*
 generalize pS st L=le at hlE ⊢
 generalize pR st M=lr at hlR ⊢
 repeat' (first|(apply aa (f:=63);exact rfl;exact rfl;(intro w' hm;exact hent w' _ hm))|(apply aa (f:=34);exact rfl;exact rfl;(intro w' hm;exact hacl w' _ hm))|(apply aa (f:=64);exact rfl;exact rfl;(intro w' hm;exact hgnt w' _ hm))|(apply aa (f:=65);exact rfl;exact rfl;(intro w' hm;exact haud w' _ hm))|refine sT ?_|refine sS ?_|refine sN ?_|refine sM fun _=> ?_|(refine sC ?_ ?_<;>intro hb<;>try omega)|fail)
 all_goals first
  |(exfalso;omega)
  |((refine rT1 ?_);simp_all;done)
  |((refine rT1 ?_);simp_all;omega)
  |skip
 rename_i g1 _ _ _ _ _ _ _
 have hue:ue=0:=Decidable.not_not.1 (show ¬ (ue≠0) by assumption)
 have hlE1:=hlE hue
 have hlR1:=hlR hue
 rw [if_neg (by omega),if_neg (show ¬ (ce.2≠0) by assumption),if_neg (show ¬ (ae.2≠0) by assumption),if_neg (show ¬ (ge.2≠0) by assumption),if_neg (show ¬ (ue≠0) by assumption),if_neg (by omega)]
 clear hlE hlR hent hacl hgnt haud
 refine aw [1] rfl (fun i:Nat=> [(10,.int .i64 (i:Int))]) (fun _=> [.box g1 28 [.int .i64 us,.slice ae1 E.length ce1,.slice ar1 RU.length cr1,.slice ag1 G.length cg1,.slice al1 L.length cl1,.slice as1 M.length cs1,.int .i64 st]]) (fun i=>i≤L.length∧ ∀ j (h:j<L.length),j<i→L[j].step<st) (fun i=>L.length - i) 0 ⟨Rd _,fun j _ h=>absurd h (Nat.not_lt_zero _)⟩ sB mS ?_
 rintro i ⟨hi,hall⟩
 by_cases hlt:i<L.length
 ·
  obtain ⟨gl,ol,rfl,hrl⟩:=hl3' (by omega)
  have he:=(Ev.ro (hrl.elem fS i hlt)).1
  have hnx:L[i].step<st→ ∀ j (h:j<L.length),j<i+1→L[j].step<st:=fun hs j hj hji=>by
   by_cases e:j=i
   ·
    subst e;exact hs
   ·
    exact hall j hj (by omega)
  have hbad:st≤L[i].step→le=true:=fun hs=>by
   cases hle:le with
   |true=>rfl
   |false=>exact absurd (hlE1.1 hle _ (RN hlt)) (by omega)
  generalize L[i].step=sp at he hnx hbad
  repeat' (first|(apply aK;exact rfl;apply aj (j:=i);exact rfl;exact rfl;exact hlt)|refine sT ?_|refine sS ?_|refine sQ ?_|refine sN ?_|refine sNQ ?_|refine sO ?_|refine sOQ ?_|refine sD ?_|refine sM fun _=> ?_|(refine sC ?_ ?_<;>intro hb<;>try omega)|(refine sCQ ?_ ?_<;>intro hb<;>try omega)|fail)
  all_goals first
   |(exfalso;omega)
   |((refine rT1 ?_);rw [if_pos (hbad (by omega))];done)
   |(refine ⟨i+1,⟨hlt,hnx (by omega)⟩,by omega,by exact sB,by exact sB,by exact mS⟩;done)
 have hle:le=false:=hlE1.2 fun x hx=>by
  obtain ⟨j,hj,rfl⟩:=SW hx
  exact hall j hj (by omega)
 rw [hle,if_neg (by decide)]
 repeat' (first|refine sT ?_|refine sS ?_|refine sN ?_|refine sM fun _=> ?_|(refine sC ?_ ?_<;>intro hb<;>try omega)|fail)
 all_goals try (exfalso;omega)
 refine aw [1] rfl (fun i:Nat=> [(11,.int .i64 (i:Int))]) (fun _=> [.box g1 28 [.int .i64 us,.slice ae1 E.length ce1,.slice ar1 RU.length cr1,.slice ag1 G.length cg1,.slice al1 L.length cl1,.slice as1 M.length cs1,.int .i64 st]]) (fun i=>i≤M.length∧ ∀ j (h:j<M.length),j<i→M[j].step<st) (fun i=>M.length - i) 0 ⟨Rd _,fun j _ h=>absurd h (Nat.not_lt_zero _)⟩ sB mS ?_
 rintro k ⟨hk,hall2⟩
 by_cases hltk:k<M.length
 ·
  obtain ⟨gm,om,rfl,hrm⟩:=hm3' (by omega)
  have he:=Rv.ro1 (hrm.elem cQ k hltk)
  have hnx:M[k].step<st→ ∀ j (h:j<M.length),j<k+1→M[j].step<st:=fun hs j hj hji=>by
   by_cases e:j=k
   ·
    subst e;exact hs
   ·
    exact hall2 j hj (by omega)
  have hbad:st≤M[k].step→lr=true:=fun hs=>by
   cases hlr:lr with
   |true=>rfl
   |false=>exact absurd (hlR1.1 hlr _ (RN hltk)) (by omega)
  generalize M[k].step=sp at he hnx hbad
  repeat' (first|(apply aK;exact rfl;apply aj (j:=k);exact rfl;exact rfl;exact hltk)|refine sT ?_|refine sS ?_|refine sQ ?_|refine sN ?_|refine sNQ ?_|refine sO ?_|refine sOQ ?_|refine sD ?_|refine sM fun _=> ?_|(refine sC ?_ ?_<;>intro hb<;>try omega)|(refine sCQ ?_ ?_<;>intro hb<;>try omega)|fail)
  all_goals first
   |(exfalso;omega)
   |((refine rT1 ?_);rw [if_pos (hbad (by omega))];done)
   |(refine ⟨k+1,⟨hltk,hnx (by omega)⟩,by omega,by exact sB,by exact sB,by exact mS⟩;done)
 have hlr:lr=false:=hlR1.2 fun x hx=>by
  obtain ⟨j,hj,rfl⟩:=SW hx
  exact hall2 j hj (by omega)
 rw [hlr,if_neg (by decide)]
 repeat' (first|refine sT ?_|refine sS ?_|refine sN ?_|refine sM fun _=> ?_|(refine sC ?_ ?_<;>intro hb<;>try omega)|fail)
 all_goals first|(exfalso;omega)|((refine rT1 ?_);rfl)
theorem ja {α β:Type} {f:α→List β} {m:Nat}: ∀ {l:List α},(∀ x∈l,(f x).length≤m)→(l.flatMap f).length≤l.length*m
 | [],_=>Rd _
 |a::l,h=>by
  have h1:=h a QY
  have h2:=ja (l:=l) (m:=m) (f:=f) fun x hx=>h x (Rq _ hx)
  rw [Rm,QT,Rx,Nat.succ_mul]
  omega
theorem v7 (b:Bk) (a:Rf) (u:Us) (rd:BitVec 64) (i:Nat):(iD b a u rd i).length≤1:=by
 unfold iD
 split
 ·
  split<;>simp
 ·
  simp
theorem tz (fn:Int) (r:Rct) (L:List Rl) (G:List Gn):(iE fn r L G).2.1.length≤G.length:=by
 have:=kK fn r L G 0
 unfold iE
 split
 ·
  exact Rd _
 split
 ·
  exact Rd _
 split
 ·
  exact Rd _
 split
 ·
  exact Rd _
 ·
  rw [RP];exact this
theorem qk (fn:Int) (r:Rct) (L:List Rl): ∀ (G:List Gn) (i:Nat),∀ x∈bH fn r L G i,x.1<i+G.length
 | [],_,x,h=>by cases h
 |g::G,i,x,h=>by
  rw [bH] at h
  rw [Rx]
  cases hq:nI fn r L g with
  |true=>
   rw [hq,cond_true] at h
   rcases Rs.1 h with rfl|h
   ·
    dsimp only;omega
   ·
    have:=qk fn r L G (i+1) x h;omega
  |false=>
   rw [hq,cond_false] at h
   have:=qk fn r L G (i+1) x h;omega
theorem Dt {fn:Int} {r:Rct} {L:List Rl} {G:List Gn}: ∀ i∈(iE fn r L G).2.1,i<G.length:=by
 intro i hi
 unfold iE at hi
 split at hi
 ·
  cases hi
 split at hi
 ·
  cases hi
 split at hi
 ·
  cases hi
 split at hi
 ·
  cases hi
 ·
  obtain ⟨x,hx,rfl⟩:=RG.1 hi
  have:=qk fn r L G 0 x hx
  omega
theorem s9 (b:Bk) (a:Rf) (rd:BitVec 64) (u:Us) (hg:b.grants.length≤64):(df b a rd u).length≤64:=by
 unfold df
 split
 ·
  exact Rd _
 ·
  have h1:=ja (l:=(iE u.fn u.rect b.rules b.grants).2.1) (f:=iD b a u rd) (m:=1) fun x _=>v7 b a u rd x
  have h2:=tz u.fn u.rect b.rules b.grants
  omega
theorem y6 (b:Bk) (G:Gr) (hG:GrOk G) (a:Rf) (hg:b.grants.length≤64):(mU b G a).length≤64000:=by
 have h1:=ja (l:=gk G a) (f:=df b a (atE a b.rules).1.1) (m:=64) fun u _=>s9 b a _ u hg
 have h2:=qd hG a
 exact RB h1 (RB (SC 64 h2) (by decide))
structure Rdu (gg:Nat) (G:Gr) (B:List Blk) (w0:World):Prop where
 fm: ∀ H,MSub B H→FnIn Tryz.prog 123 [.pointer (some ⟨gg,0,none⟩)] w0 H fun v H' => ∃ A cap,v=sl A (bW G).length cap∧H' = .own A 50 2 (bW G).length cap ((bW G).flatMap aS)::H
 us: ∀ d H,MSub B H→FnIn Tryz.prog 125 [.pointer (some ⟨gg,0,none⟩),mY d] w0 H fun v H' => ∃ A cap,v=sl A (gk G d).length cap∧H' = .own A 159 6 (gk G d).length cap ((gk G d).flatMap dI)::H
theorem GOk.rdu {R:List Blk} {E:List En} {clock:Nat} {G:Gr} (h:GOk R E clock G) (hl:G.length≤900) (gg gm:Nat) (w0:World):Rdu gg G (gB gg gm (E.map En.m) clock++R) w0:=
 ⟨fun _ hs=>h.formulas_any gg gm hs w0 hl,fun d _ hs=>h.uses_any gg gm hs w0 d⟩
theorem o9 {α β:Type} {F:α→List β} {L:List α} {i:Nat} (h:i<L.length):(L.take (i+1)).flatMap F=(L.take i).flatMap F++F L[i]:=by
 rw [Ra h,Rn,Rm,Ry,QZ]
theorem tA {α β:Type} {F:α→List β} {L:List α} {m:Nat} (i:Nat) (h: ∀ a∈L,(F a).length≤m):((L.take i).flatMap F).length≤L.length*m:=
 RB (ja fun x hx=>h x (Sy hx)) (SC m (by rw [RF];exact Nat.min_le_right _ _))
section
variable {P:Program} {w0:World} {s:az} {H:List Blk} {ty:TypeId}
theorem mg {c:Bool} {x y:Operand} {a b:BitVec 64} {t t' :TypeId} (h:decide (a≠b)=c) (hx:ev s x=some (vS a)) (hy:ev s y=some (vS b)):VOp P w0 s H (.binOp .neq t x y t') ty (.bool c):=by
 have h1:=je (P:=P) (w0:=w0) (H:=H) (ty:=ty) (t:=t) (t' :=t') hx hy
 rwa [show (!decide (a=b))=c by rw [← h];simp] at h1
end
theorem Hr {b:Bk} {a:Rf} {u:Us} {rd:BitVec 64} {q:Nat} (h:q<b.grants.length) {c:Bool} (hc:decide (b.grants[q].to≠0#64)=c):iD b a u rd q=if c=true then [⟨b.step - 1,⟨a,u.node⟩,u.fn,u.rect,(q:Int),rd⟩] else []:=by
 unfold iD
 rw [QV h]
 dsimp only
 subst hc
 simp only [decide_eq_true_eq]
theorem G8 {s:Int} (h:0≤s∧s≤1099511627776):IntKind.i64.wrap (s - 1)=s - 1:=by rw [IntKind.wrap_i64];omega
set_option maxHeartbeats 32000000 in
theorem vY (b:Bk) (x:Bv) (w:World) (h:BRd w b x) (hbo:BkOk b) (hW:Words w) (hlen:b.ents.length≤900):
  aF Tryz.prog 79 [.agg (aY b x).toArray] w fun v H=> ∃ A cap,v=sl A (cE b).length cap∧H= [.own A 62 11 (cE b).length cap ((cE b).flatMap aJ)]:=by
 obtain ⟨hgr,hGo,hGl⟩:=FU hbo
 have hN: ∀ (w' :World) (H:List Blk),Mem w w' H→aF Tryz.prog 122 [.slice x.ae b.ents.length x.ce] w' fun v H=> ∃ gg gm E clock R,v= .tuple #[.pointer (some ⟨gg,0,none⟩),.int .i64 0]∧H=gB gg gm (E.map En.m) clock++R∧GOk R E clock (grB b):=by
  intro w' H hm
  have h1:=P2 b.ents _ w' (h.e.of_w0 hm) (by omega) (hW.next hm)
  rw [hgr] at h1
  exact h1
 have hAt:=fun (a:Rf) (w' :World) (H:List Blk) (hm:Mem w w' H)=>OD a b.rules _ w' (h.r.of_w0 hm)
 have hg64:=(o8.1 hbo.g).2.1
 have hFo:=fun (u:Us) (w' :World) (H:List Blk) (hm:Mem w w' H)=>P4 u.fn u.rect b.rules b.grants _ _ w' (h.r.of_w0 hm) (h.g.of_w0 hm) (by omega)
 have hst:=G8 ⟨(rX (show ¬ bkE b≠0 by rw [xA.2 hbo];decide)).1,(rX (show ¬ bkE b≠0 by rw [xA.2 hbo];decide)).2.1⟩
 have hcl:=fun a=>y6 b (grB b) hGo a hg64
 have hul:=fun a rd u=>s9 b a rd u hg64
 have hg:=h.g
 have hUl:=fun a=>qd hGo a
 unfold cE y5
 have hlc: ∀ a,mU b (grB b) a=(gk (grB b) a).flatMap (df b a (atE a b.rules).1.1):=fun _=>rfl
 have hkl:(bW (grB b)).length≤900:=by rw [bW,RP];omega
 generalize grB b=G at hN hGl hcl hUl hlc hkl hGo ⊢
 have hpl:=fun i=>tA (F:=mU b G) (L:=bW G) i fun a _=>hcl a
 refine aq Tryz.func79 rfl Tryz.ntmps79 rfl ?_
 refine aB 62 11 ?_
 repeat' (first|(apply ay (f:=122);exact rfl;exact rfl;(intro w' hm;exact hN w' _ hm);rintro _ _ ⟨gg,gm,E,clock,Rb,rfl,rfl,hA⟩)|refine sT ?_|refine sS ?_|refine sM fun _=> ?_|(refine sC ?_ ?_<;>intro hb<;>try omega)|fail)
 all_goals try (exfalso;omega)
 rename_i g1
 have hR:=hA.rdu (by omega) gg gm w
 refine MM (.box g1 28 (aY b x):: .own none 62 11 0 0 []::(gB gg gm (E.map En.m) clock++Rb)) (by first|exact MSub.of_perm (Sc (l₂:= [_,_]))|(simp only [Rj,QU,QW];exact mS)) ?_
 generalize gB gg gm (E.map En.m) clock++Rb=B at hR ⊢
 have hFm:=hR.fm
 have hUs:=hR.us
 clear hR hA hN
 repeat' (first|(apply ax (f:=123);exact rfl;exact rfl;exact hFm _ mS;rintro _ _ ⟨Ac,cap,rfl,rfl⟩)|refine sT ?_|refine sS ?_|refine sM fun _=> ?_|(refine sC ?_ ?_<;>intro hb<;>try omega)|fail)
 all_goals try (exfalso;omega)
 clear hFm
 refine aw [1,3,24,25] rfl (fun y:Nat × Option Nat × Nat=> [(5,sl y.2.1 (((bW G).take y.1).flatMap (mU b G)).length y.2.2),(26,.int .i64 (y.1:Int))]) (fun y=> .own y.2.1 62 11 (((bW G).take y.1).flatMap (mU b G)).length y.2.2 ((((bW G).take y.1).flatMap (mU b G)).flatMap aJ):: .own Ac 50 2 (bW G).length cap ((bW G).flatMap aS):: .box g1 28 (aY b x)::B) (fun y=>y.1≤(bW G).length) (fun y=>(bW G).length - y.1) (0,none,0) (Rd _) sB mS ?_
 rintro ⟨i,A,c⟩ hi
 dsimp only at hi ⊢
 by_cases hlt:i<(bW G).length
 ·
  refine dN (A:=Ac) pK (by omega) fun gc hAc=> ?_
  subst hAc
  have hread:=Qt hlt
  have hnx:=o9 (F:=mU b G) hlt
  have hpl:=hpl i
  have hav:=y7 hGo (RN hlt)
  rw [hlc] at hnx
  generalize (bW G)[i]=a at hread hnx hav
  generalize ((bW G).take i).flatMap (mU b G)=X at hnx hpl ⊢
  have hAt:=hAt a
  rw [(Ms (Mx hbo.r) hav).2] at hAt
  have hUs:=hUs a
  have hUl:=hUl a
  have hul:=hul a (atE a b.rules).1.1
  generalize (atE a b.rules).1.1=rd at hAt hnx hul
  generalize (atE a b.rules).1.2.1=wr at hAt
  generalize (atE a b.rules).1.2.2=ow at hAt
  clear hlc
  generalize gk G a=U at hUs hUl hnx
  have hpu:=fun k=>tA (F:=df b a rd) (L:=U) k fun u _=>hul u
  have hxl:X.length≤57600000:=RB hpl (SC 64000 hkl)
  have hpu2: ∀ k,((U.take k).flatMap (df b a rd)).length≤64000:=fun k=>RB (hpu k) (SC 64 hUl)
  repeat' (first|(apply ak (d:=28);exact rfl;apply aj (j:=i);exact rfl;exact rfl;exact hlt)|(apply ak (d:=29);exact rfl;apply aW (ys:=aS a);exact rfl;exact pK;exact hread;exact rfl)|(apply aa (f:=124);exact rfl;exact rfl;(intro w' hm;exact hAt w' _ hm))|(apply ax (f:=125);exact rfl;exact rfl;exact hUs _ mS;rintro _ _ ⟨Au,cu,rfl,rfl⟩)|refine sT ?_|refine sS ?_|refine sN ?_|refine sM fun _=> ?_|(refine sC ?_ ?_<;>intro hb<;>try omega)|fail)
  all_goals try (exfalso;omega)
  rename_i g7 g8
  refine aw [1,3,24,25,26,7,8,39,40] rfl (fun y:Nat × Option Nat × Nat=> [(5,sl y.2.1 (X++(U.take y.1).flatMap (df b a rd)).length y.2.2),(41,.int .i64 (y.1:Int))]) (fun y=> .own y.2.1 62 11 (X++(U.take y.1).flatMap (df b a rd)).length y.2.2 ((X++(U.take y.1).flatMap (df b a rd)).flatMap aJ):: .own Au 159 6 U.length cu (U.flatMap dI):: .box g7 50 (aS a):: .box g8 35 [vS rd,vS wr,vS ow]:: .own (some gc) 50 2 (bW G).length cap ((bW G).flatMap aS):: .box g1 28 (aY b x)::B) (fun y=>y.1≤U.length) (fun y=>U.length - y.1) (0,A,c) (Rd _) (by simp only [Sj,Ry,QZ];exact sB) (by simp only [Sj,Ry,QZ];exact mS) ?_
  clear hUs
  rintro ⟨k,A,c⟩ hk
  dsimp only at hk ⊢
  by_cases hlk:k<U.length
  ·
   refine dN (A:=Au) pK (by omega) fun gu hAu=> ?_
   subst hAu
   have hreadu:=Qs hlk
   have hnk:=o9 (F:=df b a rd) hlk
   have hpu2:=hpu2 k
   generalize U[k]=u at hreadu hnk
   have hnk2:X++(U.take (k+1)).flatMap (df b a rd)=(X++(U.take k).flatMap (df b a rd))++df b a rd u:=by rw [hnk,Rz]
   have hyl:(X++(U.take k).flatMap (df b a rd)).length≤57664000:=by rw [QT];omega
   generalize X++(U.take k).flatMap (df b a rd)=Y at hnk2 hyl ⊢
   clear hnk
   have hFo:=hFo u
   have hby:=Dt (fn:=u.fn) (r:=u.rect) (L:=b.rules) (G:=b.grants)
   have hbl:=tz u.fn u.rect b.rules b.grants
   rw [show df b a rd u=if u.node<0 then [] else (iE u.fn u.rect b.rules b.grants).2.1.flatMap (iD b a u rd) from rfl] at hnk2
   by_cases hng:u.node<0
   ·
    rw [if_pos hng,QZ] at hnk2
    repeat' (first|(apply ak (d:=43);exact rfl;apply aj (j:=k);exact rfl;exact rfl;exact hlk)|(apply ak (d:=44);exact rfl;apply aW (ys:=dI u);exact rfl;exact pK;exact hreadu;exact rfl)|refine sT ?_|refine sS ?_|refine sN ?_|refine sM fun _=> ?_|(refine sC ?_ ?_<;>intro hb<;>try omega)|fail)
    all_goals first
     |(exfalso;omega)
     |(refine ⟨(k+1,A,c),hlk,by dsimp only;omega,by simp only [hnk2];exact sB,by exact sB,by simp only [hnk2];exact mS⟩;done)
   rw [if_neg hng] at hnk2
   generalize (iE u.fn u.rect b.rules b.grants).2.1=BY at hFo hnk2 hby hbl
   generalize (iE u.fn u.rect b.rules b.grants).1=f1 at hFo
   generalize (iE u.fn u.rect b.rules b.grants).2.2=f3 at hFo
   have hpb:=fun j=>tA (F:=iD b a u rd) (L:=BY) (m:=1) j fun q _=>v7 b a u rd q
   repeat' (first|(apply ak (d:=43);exact rfl;apply aj (j:=k);exact rfl;exact rfl;exact hlk)|(apply ak (d:=44);exact rfl;apply aW (ys:=dI u);exact rfl;exact pK;exact hreadu;exact rfl)|(apply ay (f:=126);exact rfl;exact rfl;(intro w' hm;exact hFo w' _ hm);rintro _ _ ⟨Ab,cb,rfl,rfl⟩)|refine sT ?_|refine sS ?_|refine sN ?_|refine sM fun _=> ?_|(refine sC ?_ ?_<;>intro hb<;>try omega)|fail)
   all_goals try (exfalso;omega)
   rename_i g11
   refine aw [1,3,24,25,26,7,8,39,40,41,11,61,62] rfl (fun y:Nat × Option Nat × Nat=> [(5,sl y.2.1 (Y++(BY.take y.1).flatMap (iD b a u rd)).length y.2.2),(63,.int .i64 (y.1:Int))]) (fun y=> .own y.2.1 62 11 (Y++(BY.take y.1).flatMap (iD b a u rd)).length y.2.2 ((Y++(BY.take y.1).flatMap (iD b a u rd)).flatMap aJ):: .own Ab 3 1 BY.length cb (cU BY):: .box g11 159 (dI u):: .own (some gu) 159 6 U.length cu (U.flatMap dI):: .box g7 50 (aS a):: .box g8 35 [vS rd,vS wr,vS ow]:: .own (some gc) 50 2 (bW G).length cap ((bW G).flatMap aS):: .box g1 28 (aY b x)::B) (fun y=>y.1≤BY.length) (fun y=>BY.length - y.1) (0,A,c) (Rd _) (by simp only [Sj,Ry,QZ];exact sB) (by simp only [Sj,Ry,QZ];exact mS) ?_
   rintro ⟨j,A,c⟩ hj
   dsimp only at hj ⊢
   by_cases hlj:j<BY.length
   ·
    refine dN (A:=Ab) pK (by omega) fun gb hAb=> ?_
    subst hAb
    have hreadb:=y8 hlj
    have hnj:=o9 (F:=iD b a u rd) hlj
    have hpb:=hpb j
    have hql:=hby BY[j] (RN hlj)
    generalize BY[j]=q at hreadb hnj hql
    obtain ⟨An,cn,hgv,hg1,hg2,hg3⟩:=hg
    obtain ⟨gn,on,rfl,hrn⟩:=hg3 (by omega)
    have hto:=(Gn.ro (hrn.elem eO q hql)).2.2.1
    obtain ⟨cc,hcc⟩: ∃ cc,decide (b.grants[q].to≠0#64)=cc:=⟨_,rfl⟩
    rw [Hr hql hcc] at hnj
    have hnj2:Y++(BY.take (j+1)).flatMap (iD b a u rd)=(Y++(BY.take j).flatMap (iD b a u rd))++(if cc=true then [⟨b.step - 1,⟨a,u.node⟩,u.fn,u.rect,(q:Int),rd⟩] else []):=by rw [hnj,Rz]
    have hzl:(Y++(BY.take j).flatMap (iD b a u rd)).length≤57664100:=by rw [QT];omega
    generalize Y++(BY.take j).flatMap (iD b a u rd)=Z at hnj2 hzl ⊢
    clear hnj
    generalize b.grants[q].to=to_ at hto hcc
    cases cc with
    |false=>
     rw [if_neg (by decide),QZ] at hnj2
     repeat' (first|(apply ak (d:=65);exact rfl;apply aj (j:=j);exact rfl;exact rfl;exact hlj)|(apply ak (d:=66);exact rfl;apply aV;exact rfl;exact pK;first|exact hreadb|(rw [show 0+j*1=j by omega];exact hreadb))|(apply ak (d:=70);exact rfl;apply aj (j:=q);first|exact rfl|exact congrArg some hgv;exact rfl;exact hql)|(apply ak (d:=72);exact rfl;apply fE;exact rfl;exact hto)|(apply ak (d:=73);exact rfl;apply mg hcc;exact rfl;exact rfl)|refine sT ?_|refine sS ?_|refine sN ?_|refine sM fun _=> ?_|(refine sC ?_ ?_<;>intro hb<;>try omega)|fail)
     all_goals first
      |(exfalso;omega)
      |(refine ⟨(j+1,A,c),hlj,by dsimp only;omega,by simp only [hnj2];exact sB,by exact sB,by simp only [hnj2];exact mS⟩;done)
    |true=>
     rw [if_pos rfl] at hnj2
     repeat' (first|(apply ak (d:=65);exact rfl;apply aj (j:=j);exact rfl;exact rfl;exact hlj)|(apply ak (d:=66);exact rfl;apply aV;exact rfl;exact pK;first|exact hreadb|(rw [show 0+j*1=j by omega];exact hreadb))|(apply ak (d:=70);exact rfl;apply aj (j:=q);first|exact rfl|exact congrArg some hgv;exact rfl;exact hql)|(apply ak (d:=72);exact rfl;apply fE;exact rfl;exact hto)|(apply ak (d:=73);exact rfl;apply mg hcc;exact rfl;exact rfl)|(apply ak (d:=77);exact rfl;apply oQ (c:=b.step - 1);exact rfl;exact rfl;exact hst)|(apply aQ (d:=91) (A:=A) (m:=1);(iterate 3 exact rfl);exact pK;(intro w hm;exact hm.cells_own pK);exact rfl;(intro u hu;simp [aJ] at hu;rcases hu with rfl|rfl|rfl|rfl|rfl|rfl|rfl|rfl|rfl|rfl|rfl<;>rfl);omega;(simp only [maxLen];omega);(intro A' cap' hA'))|refine sT ?_|refine sS ?_|refine sN ?_|refine sM fun _=> ?_|(refine sC ?_ ?_<;>intro hb<;>try omega)|fail)
     all_goals first
      |(exfalso;omega)
      |(refine ⟨(j+1,A',cap'),hlj,by dsimp only;omega,by simp only [hnj2,List.length_append,List.length_singleton];exact sB,by exact sB,by simp only [hnj2,List.length_append,List.length_singleton,List.flatMap_append,List.flatMap_cons,List.flatMap_nil,List.append_nil];exact mS⟩;done)
   ·
    have e:j=BY.length:=by omega
    subst e
    rw [RJ]
    repeat' (first|refine sT ?_|refine sS ?_|refine sN ?_|refine sM fun _=> ?_|(refine sC ?_ ?_<;>intro hb<;>try omega)|fail)
    all_goals first
     |(exfalso;omega)
     |(refine ⟨(k+1,A,c),hlk,by dsimp only;omega,by simp only [hnk2];exact sB,by exact sB,by simp only [hnk2];exact mS⟩;done)
  ·
   have e:k=U.length:=by omega
   subst e
   rw [RJ]
   repeat' (first|refine sT ?_|refine sS ?_|refine sN ?_|refine sM fun _=> ?_|(refine sC ?_ ?_<;>intro hb<;>try omega)|fail)
   all_goals first
    |(exfalso;omega)
    |(refine ⟨(i+1,A,c),hlt,by dsimp only;omega,by simp only [hnx];exact sB,by exact sB,by simp only [hnx];exact mS⟩;done)
 ·
  have e:i=(bW G).length:=by omega
  subst e
  rw [RJ]
  repeat' (first|refine sT ?_|refine sS ?_|refine sM fun _=> ?_|(refine sC ?_ ?_<;>intro hb<;>try omega)|fail)
  all_goals first
   |(exfalso;omega)
   |(refine cA eIO rfl rfl mS ⟨A,c,rfl,rfl⟩;done)
theorem lW {b:Bk} (hbo:BkOk b) (hlen:b.ents.length≤900):(cE b).length≤57600000:=by
 obtain ⟨_,hGo,hGl⟩:=FU hbo
 have h1:=ja (l:=bW (grB b)) (f:=mU b (grB b)) (m:=64000) fun a _=>y6 b (grB b) hGo a (o8.1 hbo.g).2.1
 have h2:(bW (grB b)).length≤900:=by rw [bW,RP];omega
 exact RB h1 (SC 64000 h2)
theorem Oj {a k:Nat} (ha:a<32) (hk:k<5):Go.bits .and .u8 ((a:Int) / 2 ^ k) 1=((a:Int) / 2 ^ k).tmod 2:=by
 have h: ∀ a:Fin 32,∀ k:Fin 5,Go.bits .and .u8 ((a.val:Int) / 2 ^ k.val) 1=((a.val:Int) / 2 ^ k.val).tmod 2:=by decide+kernel
 exact h ⟨a,ha⟩ ⟨k,hk⟩
theorem xY (fns fn:Int) (hf:0≤fns∧fns<32) (w:World):aA Tryz.prog 161 [.int .u8 fns,.int .u8 fn] w (.bool (iz fns fn)):=by
 refine aq Tryz.func161 rfl Tryz.ntmps161 rfl ?_
 have hR:=fun w=>nK fn w
 by_cases h:46≤fn∧fn≤50
 ·
  obtain ⟨m,hm⟩: ∃ m:Nat,fn=46+(m:Int):=⟨(fn - 46).toNat,by omega⟩
  obtain ⟨a,rfl⟩: ∃ a:Nat,fns=(a:Int):=⟨fns.toNat,by omega⟩
  have he:iz (a:Int) fn=decide (((a:Int) / 2 ^ m).tmod 2=1):=by
   unfold iz
   rw [decide_eq_true h.1,decide_eq_true h.2,show (fn - 46).toNat=m by omega,Oj (by omega) (by omega),RX,RX]
  rw [he]
  rw [decide_eq_true h.1,decide_eq_true h.2] at hR
  have hsub:IntKind.u8.wrap (fn - 46)=(m:Int):=by rw [IntKind.wrap_u8];omega
  repeat' (first|(apply aa;exact rfl;exact rfl;(intro w hm;exact hR w))|(apply ak;exact rfl;apply oQ (c:=(m:Int));exact rfl;exact rfl;exact hsub)|(apply ak;exact rfl;apply BL (m:=m);exact rfl;exact rfl;(simp [IntKind.bits];omega))|(apply ak;exact rfl;apply OE (b:=2);exact rfl;exact rfl;exact (by decide))|refine sT ?_|refine sM fun _=> ?_|(refine sC ?_ ?_<;>intro hb<;>try omega)|fail)
  all_goals first|(exfalso;omega)|((refine rT1 ?_);rfl)
 ·
  have he:iz fns fn=false:=by
   unfold iz
   by_cases h1:46≤fn
   ·
    have h2: ¬ fn≤50:=fun h2=>h ⟨h1,h2⟩
    simp [h2]
   ·
    simp [h1]
  rw [he]
  rw [show (decide (46≤fn) && decide (fn≤50))=false by rw [← T9,Rk,decide_eq_true_eq,decide_eq_true_eq];exact h] at hR
  repeat' (first|(apply aa;exact rfl;exact rfl;(intro w hm;exact hR w))|refine sT ?_|refine sM fun _=> ?_|(refine sC ?_ ?_<;>intro hb<;>try omega)|fail)
  all_goals first|(exfalso;omega)|((refine rT1 ?_);rfl)
def wO (g:Gn) (L:List Rl):Bool × Int:=if (i9 64 [g]).2≠0 then (false,(i9 64 [g]).2) else if (ovE g.rect L).2≠0 then (false,(ovE g.rect L).2) else (rE g L,0)
set_option maxHeartbeats 8000000 in
theorem Aa (g:Gn) (L:List Rl) (lv:Value) (w:World) (hl:Reads w lv L.length (L.flatMap bM)):aA Tryz.prog 160 [.agg (bX g).toArray,lv] w (.tuple #[.bool (wO g L).1,.int .i64 (wO g L).2]):=by
 refine aq Tryz.func160 rfl Tryz.ntmps160 rfl ?_
 have h0:=fun (w' :World) (H:List Blk) (gx:Nat) (hi:In (.own (some gx) 56 8 1 1 (bX g)) H) (hm:Mem w w' H)=>lj 64 [g] (.slice (some ⟨gx,0,none⟩) 1 1) w' (Reads.of_own (A:=some gx) hm hi)
 have h1:=fun (w' :World) (H:List Blk) (hm:Mem w w' H)=>Ad g.rect L lv w' (hl.of_w0 hm)
 have h2:=fun w=>tX (ovE g.rect L).1.2.2 g.by_ w
 unfold wO rE
 generalize i9 64 [g]=ge at h0 ⊢
 obtain ⟨g1,g2⟩:=ge
 generalize (ovE g.rect L).2=e at h1 ⊢
 generalize (ovE g.rect L).1.1=s1 at h1
 generalize (ovE g.rect L).1.2.1=s2 at h1
 generalize (ovE g.rect L).1.2.2=s3 at h1 h2 ⊢
 generalize jz s3 g.by_=b at h2 ⊢
 dsimp only at h0 ⊢
 by_cases hg:g2≠0
 ·
  rw [if_pos hg]
  repeat' (first|(apply aa (f:=64);exact rfl;exact rfl;(intro w' hm;exact h0 w' _ _ pK hm))|refine sT ?_|refine sS ?_|refine sM fun _=> ?_|(refine sC ?_ ?_<;>intro hb<;>try omega)|fail)
  all_goals first|(exfalso;omega)|((refine rT2 ?_);rfl)
 rw [if_neg hg]
 by_cases hov:e≠0
 ·
  rw [if_pos hov]
  repeat' (first|(apply aa (f:=64);exact rfl;exact rfl;(intro w' hm;exact h0 w' _ _ pK hm))|(apply aa (f:=111);exact rfl;exact rfl;(intro w' hm;exact h1 w' _ hm))|refine sT ?_|refine sS ?_|refine sM fun _=> ?_|(refine sC ?_ ?_<;>intro hb<;>try omega)|fail)
  all_goals first|(exfalso;omega)|((refine rT2 ?_);rfl)
 rw [if_neg hov]
 cases hrv:g.rev
 all_goals
  repeat' (first|(apply aa (f:=64);exact rfl;exact rfl;(intro w' hm;exact h0 w' _ _ pK hm))|(apply aa (f:=111);exact rfl;exact rfl;(intro w' hm;exact h1 w' _ hm))|(apply aa;exact rfl;exact rfl;(intro w hm;exact h2 w))|refine sT ?_|refine sS ?_|refine sM fun _=> ?_|(refine sC ?_ ?_<;>intro hb<;>try omega)|fail)
 all_goals first|(exfalso;omega)|((refine rT2 ?_);rfl)|(exact absurd hrv (by rw [hb];decide))
theorem Jh {g:Gn} {L:List Rl} {N:List Gn} (hL:(eP 64 L).2=0) (hN:(i9 64 N).2=0) (hg:g∈N):wO g L=(rE g L,0):=by
 have h1:=o8.1 hN
 have h2:=h1.2.2 g hg
 have h3:(i9 64 [g]).2=0:=o8.2 ⟨by omega,by simp,fun x hx=>by rw [Rp.1 hx];exact h2⟩
 have h4:(ovE g.rect L).2=0:=by
  unfold ovE
  have hc:eZ g.rect L=0:=by
   unfold eZ
   rw [if_neg (by rw [h2.1];decide)]
   exact hL
  rw [if_neg (by rw [hc];decide)]
 unfold wO
 rw [if_neg (by rw [h3];decide),if_neg (by rw [h4];decide)]
theorem FQ (l:List Nat) (x:Nat):cU (l++ [x])=cU l++ [.int .i64 (x:Int)]:=by simp [cU]
theorem rl {fn:Int} {r:Rct} {L:List Rl}: ∀ (G:List Gn) (s i:Nat) (h:i<G.length),bH fn r L (G.take (i+1)) s=if nI fn r L G[i]=true then bH fn r L (G.take i) s++ [(s+i,G[i])] else bH fn r L (G.take i) s
 | [],_,_,h=>absurd h (Nat.not_lt_zero _)
 |g::G,s,0,_=>by
  simp only [Sl,Sj,bH,List.getElem_cons_zero,Tj,QW]
  cases nI fn r L g<;>simp
 |g::G,s,i+1,h=>by
  have h' :i<G.length:=by simpa using h
  have ih:=rl (fn:=fn) (r:=r) (L:=L) G (s+1) i h'
  rw [Sl,Sl,bH,bH,ih,List.getElem_cons_succ,show s+1+i=s+(i+1) by omega]
  cases nI fn r L g<;>cases hh:nI fn r L G[i]<;>simp
set_option maxHeartbeats 16000000 in
theorem CJ (fn:Int) (r:Rct) (L:List Rl) (G:List Gn) (lv gv:Value) (w:World) (hl:Reads w lv L.length (L.flatMap bM)) (hg:Reads w gv G.length (G.flatMap bX)):
  aF Tryz.prog 128 [.int .u8 fn,.agg (bL r).toArray,lv,gv] w fun v H=> ∃ A cap,v= .tuple #[vS (iE fn r L G).1,sl A (iE fn r L G).2.1.length cap,.int .i64 (iE fn r L G).2.2]∧H= [.own A 3 1 (iE fn r L G).2.1.length cap (cU (iE fn r L G).2.1)]:=by
 have h1:=fun w=>nK fn w
 have h2:=fun w=>gU r w
 have h3:=fun (w' :World) (H:List Blk) (hm:Mem w w' H)=>jh 64 L lv w' (hl.of_w0 hm)
 have h4:=fun (w' :World) (H:List Blk) (hm:Mem w w' H)=>lj 64 G gv w' (hg.of_w0 hm)
 have h5:=fun (g:Gn) (w' :World) (H:List Blk) (hm:Mem w w' H)=>Aa g L lv w' (hl.of_w0 hm)
 obtain ⟨Al,cl,rfl,hl1,hl2,hl3⟩:=hl
 obtain ⟨Ag,cg,rfl,hg1,hg2,hg3⟩:=hg
 refine aq Tryz.func128 rfl Tryz.ntmps128 rfl ?_
 refine aB 3 1 ?_
 unfold iE
 have hrx:gV r≠0↔aO r=false:=sZ.symm
 by_cases k1:fn<46∨50<fn
 ·
  rw [if_pos k1]
  rw [show (decide (46≤fn) && decide (fn≤50))=false by rw [← T9,Rk,decide_eq_true_eq,decide_eq_true_eq];omega] at h1
  clear h2 h3 h4 h5 hrx
  repeat' (first|(apply aa;exact rfl;exact rfl;(intro w hm;exact h1 w))|refine sT ?_|refine sS ?_|refine sM fun _=> ?_|(refine sC ?_ ?_<;>intro hb<;>try omega)|fail)
  all_goals first|(exfalso;omega)|(exact li eIO rfl rfl rfl rfl (H' := [.own none 3 1 0 0 []]) mS ⟨none,0,rfl,rfl⟩)
 rw [if_neg k1]
 rw [show (decide (46≤fn) && decide (fn≤50))=true by rw [Rk,decide_eq_true_eq,decide_eq_true_eq];omega] at h1
 by_cases k2:gV r≠0
 ·
  rw [if_pos k2]
  rw [hrx.1 k2] at h2
  repeat' (first|(apply aa;exact rfl;exact rfl;(intro w hm;exact h1 w))|(apply aa;exact rfl;exact rfl;(intro w hm;exact h2 w))|refine sT ?_|refine sS ?_|refine sM fun _=> ?_|(refine sC ?_ ?_<;>intro hb<;>try omega)|fail)
  all_goals first|(exfalso;omega)|(exact li eIO rfl rfl rfl rfl (H' := [.own none 3 1 0 0 []]) mS ⟨none,0,rfl,rfl⟩)
 rw [if_neg k2]
 rw [show aO r=true by cases hq:aO r with|true=>rfl|false=>exact absurd (hrx.2 hq) k2] at h2
 clear hrx
 by_cases k3:(eP 64 L).2≠0
 ·
  rw [if_pos k3]
  generalize eP 64 L=ae at h3 k3 ⊢
  repeat' (first|(apply aa;exact rfl;exact rfl;(intro w hm;exact h1 w))|(apply aa;exact rfl;exact rfl;(intro w hm;exact h2 w))|(apply aa (f:=34);exact rfl;exact rfl;(intro w' hm;exact h3 w' _ hm))|refine sT ?_|refine sS ?_|refine sM fun _=> ?_|(refine sC ?_ ?_<;>intro hb<;>try omega)|fail)
  all_goals first|(exfalso;omega)|(exact li eIO rfl rfl rfl rfl (H' := [.own none 3 1 0 0 []]) mS ⟨none,0,rfl,rfl⟩)
 rw [if_neg k3]
 have k3' :(eP 64 L).2=0:=by omega
 by_cases k4:(i9 64 G).2≠0
 ·
  rw [if_pos k4]
  rw [k3'] at h3
  generalize i9 64 G=ge at h4 k4 ⊢
  generalize (eP 64 L).1=ae1 at h3
  repeat' (first|(apply aa;exact rfl;exact rfl;(intro w hm;exact h1 w))|(apply aa;exact rfl;exact rfl;(intro w hm;exact h2 w))|(apply aa (f:=34);exact rfl;exact rfl;(intro w' hm;exact h3 w' _ hm))|(apply aa (f:=64);exact rfl;exact rfl;(intro w' hm;exact h4 w' _ hm))|refine sT ?_|refine sS ?_|refine sM fun _=> ?_|(refine sC ?_ ?_<;>intro hb<;>try omega)|fail)
  all_goals first|(exfalso;omega)|(exact li eIO rfl rfl rfl rfl (H' := [.own none 3 1 0 0 []]) mS ⟨none,0,rfl,rfl⟩)
 rw [if_neg k4]
 have k4' :(i9 64 G).2=0:=by omega
 have hlv:=fun (g:Gn) (hm:g∈G)=>Jh (L:=L) k3' k4' hm
 have hgi:=o8.1 k4'
 have hgn:G.length≤64:=hgi.2.1
 have hfn: ∀ g∈G,0≤g.fns∧g.fns<32:=fun g hm=>by
  have:=((LV (by decide)).1 (hgi.2.2 g hm).2).1
  omega
 rw [k3'] at h3
 rw [k4'] at h4
 generalize (eP 64 L).1=ae1 at h3
 generalize (i9 64 G).1=ge1 at h4
 repeat' (first|(apply aa;exact rfl;exact rfl;(intro w hm;exact h1 w))|(apply aa;exact rfl;exact rfl;(intro w hm;exact h2 w))|(apply aa (f:=34);exact rfl;exact rfl;(intro w' hm;exact h3 w' _ hm))|(apply aa (f:=64);exact rfl;exact rfl;(intro w' hm;exact h4 w' _ hm))|refine sT ?_|refine sS ?_|refine sM fun _=> ?_|(refine sC ?_ ?_<;>intro hb<;>try omega)|fail)
 all_goals try (exfalso;omega)
 rename_i g5
 refine aw [0,2,3,5] rfl (fun y:Nat × Option Nat × Nat=> [(15,vS (orS ((bH fn r L (G.take y.1) 0).map fun x=>x.2.to))),(16,sl y.2.1 (bH fn r L (G.take y.1) 0).length y.2.2),(17,.int .i64 (y.1:Int))]) (fun y=> [.own y.2.1 3 1 (bH fn r L (G.take y.1) 0).length y.2.2 (cU ((bH fn r L (G.take y.1) 0).map fun x=>x.1)),.box g5 32 (bL r)]) (fun y=>y.1≤G.length) (fun y=>G.length - y.1) (0,none,0) (Rd _) sB mS ?_
 rintro ⟨i,A,c⟩ hi
 dsimp only at hi ⊢
 by_cases hlt:i<G.length
 ·
  obtain ⟨gg,og,rfl,hrg⟩:=hg3 (by omega)
  have he:=hrg.elem eO i hlt
  have hnx:=rl (fn:=fn) (r:=r) (L:=L) G 0 i hlt
  have hle:=kK fn r L (G.take i) 0
  rw [RF] at hle
  have hlv:=hlv G[i] (RN hlt)
  have hfn:=hfn G[i] (RN hlt)
  rw [Rt] at hnx
  generalize bH fn r L (G.take i) 0=M at hnx hle ⊢
  have h5:=h5 G[i]
  rw [hlv] at h5
  clear hlv
  generalize G[i]=g at he hnx h5 hfn
  have hN:=fun w=>xY g.fns fn hfn w
  unfold nI at hnx
  obtain ⟨c1,hc1⟩: ∃ c,decide (g.rect=r)=c:=⟨_,rfl⟩
  rw [hc1] at hnx
  generalize iz g.fns fn=c2 at hN hnx
  generalize rE g L=c3 at h5 hnx
  cases c3
  all_goals try cases c1
  all_goals try cases c2
  all_goals simp only [Si,Sh,RX,Sr,if_true,if_false,Sa] at hnx
  all_goals
   repeat' (first|(apply ak;exact rfl;apply aj (j:=i);exact rfl;exact rfl;exact hlt)|(apply ak;exact rfl;apply aC;exact rfl;exact he;exact rfl)|(apply aa (f:=160);exact rfl;exact rfl;(intro w' hm;exact h5 w' _ hm))|(apply aa (f:=161);exact rfl;exact rfl;(intro w' _;exact hN w'))|(apply ak (d:=64);exact rfl;apply oT hc1;exact rfl;exact rfl)|(apply ak (d:=75);exact rfl;apply zN (b:=g.to);exact rfl;exact rfl)|(apply aQ;(iterate 3 exact rfl);(repeat first|exact .hd|apply Sel.tl|apply In.tl);(intro w hm;exact hm.cells_own (by (repeat first|exact .hd|apply Sel.tl|apply In.tl)));exact rfl;(simp [Value.oneCell',sl]);omega;(simp only [maxLen];omega);(intro A' cap' hA'))|refine sT ?_|refine sS ?_|refine sN ?_|refine sM fun _=> ?_|(refine sC ?_ ?_<;>intro hb<;>try omega)|fail)
  all_goals first
   |(exfalso;omega)
   |(refine ⟨(i+1,A',cap'),hlt,by dsimp only;omega,by simp only [hnx,List.map_append,List.map_cons,List.map_nil,CX,List.length_append,List.length_singleton];exact sB,by exact sB,by simp only [hnx,List.map_append,List.map_cons,List.map_nil,FQ,List.length_append,List.length_singleton];exact mS⟩;done)
   |(refine ⟨(i+1,A,c),hlt,by dsimp only;omega,by dsimp only;rw [hnx];exact sB,by exact sB,by dsimp only;rw [hnx];exact mS⟩;done)
 ·
  have e:i=G.length:=by omega
  subst e
  rw [RJ]
  repeat' (first|refine sT ?_|refine sS ?_|refine sM fun _=> ?_|(refine sC ?_ ?_<;>intro hb<;>try omega)|fail)
  all_goals first
   |(exfalso;omega)
   |(exact li eIO rfl rfl rfl rfl (H' := [.own A 3 1 (bH fn r L G 0).length c (cU ((bH fn r L G 0).map fun x=>x.1))]) mS ⟨A,c,by simp only [RP],by simp only [RP]⟩)
end Go.SL
