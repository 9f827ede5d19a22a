/-
  Lemmas and walks, put together: Hk Ia Hu Hv Ib.
-/
import Derived.Test.YthefeclkaaocnaaGreatDoorKl31
set_option linter.unusedSimpArgs false
set_option linter.unusedVariables false
set_option maxRecDepth 20000
namespace Go.SL
open Go Go.Proofs
attribute [local irreducible] W WL WQ WG WA WX WLI WR WT WC WE VOp RW thn blk bS scp bq bF cj aS FnIn FnP ceP
--
def jA (r:Rct) (L:List Rl):Int:=if bi r=false then 3 else (jY 64 L).2
theorem Eo (r:Rct) (L:List Rl) (lv:Value) (w:World) (hl:Reads w lv L.length (L.flatMap bh)):ay Tryz.prog 81 [.agg (bO r).toArray,lv] w (.int .i64 (jA r L)):=by
 refine aq Tryz.func81 rfl Tryz.ntmps81 rfl ?_
 have h1:=fun w=>fS r w
 have h2:=fun (w' :World) (H:List Blk) (hm:Mem w w' H)=>lF 64 L lv w' (hl.of_w0 hm)
 unfold jA
 repeat' (first|(apply aa;exact rfl;exact rfl;(intro w hm;exact h1 w))|(apply aa (f:=51);exact rfl;exact rfl;(intro w' hm;exact h2 w' _ hm))|refine sT ?_|refine sM fun _=> ?_|(refine sC ?_ ?_<;>intro hb<;>try omega)|fail)
 all_goals first
  |(exfalso;omega)
  |((refine rT1 ?_);rw [if_pos (gA hb)];done)
  |((refine rT1 ?_);rw [if_neg (eu hb)];done)
  |trace_state
def ovE (r:Rct) (L:List Rl):(BitVec 64 × BitVec 64 × BitVec 64) × Int:=
 if jA r L≠0 then ((0#64,0#64,0#64),jA r L) else ((DT (fun x=>x.read) r L,DT (fun x=>x.write) r L,DT (fun x=>x.own) r L),0)
theorem Em {r:Rct} {L:List Rl} (h: ¬ jA r L≠0):bi r=true∧L≠ []∧L.length≤64:=by
 unfold jA at h
 split at h
 ·
  exact absurd (by decide) h
 ·
  rename_i hr
  refine ⟨by simpa using hr,?_⟩
  unfold jY at h
  split at h
  ·
   exact absurd (by decide) h
  ·
   rename_i h1
   have hn:L≠ []:=fun e=>h1 (.inr (.inr (.inr e)))
   split at h
   ·
    exact absurd (by decide) h
   ·
    exact ⟨hn,by omega⟩
def byN (f:Rl→BitVec 64) (L:List Rl) (p:Pz):BitVec 64:=(L[p.a]?.map f).getD 0#64
theorem v6 (f:Rl→BitVec 64) (r:Rct) (L:List Rl):DT f r L=tP ((dI r L []).map (byN f L)):=rfl
set_option maxHeartbeats 16000000 in
theorem CX (r:Rct) (L:List Rl) (lv:Value) (w:World) (hl:Reads w lv L.length (L.flatMap bh)):
  ay Tryz.prog 30 [.agg (bO r).toArray,lv] w (.tuple #[.agg #[vS (ovE r L).1.1,vS (ovE r L).1.2.1,vS (ovE r L).1.2.2],.int .i64 (ovE r L).2]):=by
 refine aq Tryz.func30 rfl Tryz.ntmps30 rfl ?_
 have hck:=fun (w' :World) (H:List Blk) (hm:Mem w w' H)=>Eo r L lv w' (hl.of_w0 hm)
 unfold ovE
 by_cases hc:jA r L≠0
 ·
  rw [if_pos hc]
  repeat' (first|(apply aa (f:=81);exact rfl;exact rfl;(intro w' hm;exact hck w' _ hm))|refine sT ?_|refine sT2 ?_|refine sM fun _=> ?_|(refine sC ?_ ?_<;>intro hb<;>try omega)|fail)
  all_goals first
   |(exfalso;omega)
   |((refine eK ?_);rfl)
   |trace_state
 rw [if_neg hc]
 obtain ⟨hr,hne,hlen⟩:=Em hc
 have hP:=fun (w' :World) (H:List Blk) (hm:Mem w w' H)=>FO r hr L [] lv (.slice none 0 0) w' (hl.of_w0 hm) (DJ w') (by omega) (by simp)
 have hpa: ∀ p∈dI r L [],p.a<L.length:=fun p hp=>by
  have h1:p.a∈(dI r L []).map (·.a):=Nk.2 ⟨p,hp,rfl⟩
  obtain ⟨y,x,_,h2⟩:=IB.1 h1
  rw [h2]
  exact De hne
 have hpl:(dI r L []).length≤1000000:=by
  have h1:=ko (A:=L) (B:= []) (xs:=cH r.c1 r.c2 (aY r L++aY r [])) (cH r.r1 r.r2 (aX r L++aX r []))
  have h2:=gI r.c1 r.c2 (aY r L++aY r [])
  have h3:=gI r.r1 r.r2 (aX r L++aX r [])
  have h4:=dL r L
  have h5:=dL r []
  have h6:=dG r L
  have h7:=dG r []
  rw [LC] at h2 h3
  rw [NK] at h5 h7
  exact Ma h1 (Ma (Nat.mul_le_mul (show _≤801 by omega) (show _≤801 by omega)) (by decide))
 rw [v6,v6,v6]
 have hc0:jA r L=0:=by omega
 rw [hc0] at hck
 generalize dI r L []=PZ at hP hpa hpl ⊢
 refine aJ 34 1 ?_
 refine aJ 34 1 ?_
 refine aJ 34 1 ?_
 repeat' (first|(apply aa (f:=81);exact rfl;exact rfl;(intro w' hm;exact hck w' _ hm))|(apply aG (f:=82);exact rfl;exact rfl;(intro w' hm;exact hP w' _ hm);rintro _ _ ⟨Ap,cp,rfl,rfl⟩)|refine sT ?_|refine sS ?_|refine sT2 ?_|refine sM fun _=> ?_|(refine sC ?_ ?_<;>intro hb<;>try omega)|fail)
 all_goals try (exfalso;omega)
 rename_i g2 g4
 refine ax [1,4,22,23] rfl (fun y:Nat × (Option Nat × Nat) × (Option Nat × Nat) × (Option Nat × Nat)=> [(7,sl y.2.1.1 y.1 y.2.1.2),(8,sl y.2.2.1.1 y.1 y.2.2.1.2),(9,sl y.2.2.2.1 y.1 y.2.2.2.2),(24,.int .i64 (y.1:Int))]) (fun y=> .own y.2.1.1 34 1 y.1 y.2.1.2 (((PZ.take y.1).map (byN (fun x=>x.read) L)).map vS):: .own y.2.2.1.1 34 1 y.1 y.2.2.1.2 (((PZ.take y.1).map (byN (fun x=>x.write) L)).map vS):: .own y.2.2.2.1 34 1 y.1 y.2.2.2.2 (((PZ.take y.1).map (byN (fun x=>x.own) L)).map vS):: .own Ap 145 6 PZ.length cp (PZ.flatMap cU):: .box g4 36 [vS 0#64,vS 0#64,vS 0#64]:: []) (fun y=>y.1≤PZ.length) (fun y=>PZ.length - y.1) (0,(none,0),(none,0),(none,0)) (LS _) sB mS ?_
 rintro ⟨i,⟨A7,c7⟩,⟨A8,c8⟩,⟨A9,c9⟩⟩ hi
 dsimp only at hi ⊢
 by_cases hlt:i<PZ.length
 ·
  refine dP (A:=Ap) pK (by omega) fun gp hAp=> ?_
  subst hAp
  have hrd:((PZ.flatMap cU).drop (0+i*6)).take 6=cU PZ[i]:=by rw [LZ];exact eJ cL PZ i hlt
  have hpi:=hpa _ (Mw hlt)
  have hsr: ∀ f:Rl→BitVec 64,((PZ.take (i+1)).map (byN f L)).map vS=((PZ.take i).map (byN f L)).map vS++ [vS (f (L[PZ[i].a]'hpi))]:=fun f=>by
   rw [LQ hlt,MT,MT]
   simp [byN,hpi]
  generalize PZ[i]=p at hrd hpi hsr
  have hl' :=hl
  obtain ⟨Al,cl,hlv,hl1,hl2,hl3⟩:=hl'
  subst hlv
  obtain ⟨gl,ol,rfl,hrl⟩:=hl3 (by omega)
  obtain ⟨_,_,_,_,hrr⟩:=Rl.ro (hrl.elem bX p.a hpi)
  generalize L[p.a]'hpi=x at hrr hsr
  repeat' (first|(apply ak (d:=26);exact rfl;apply aj (j:=i);exact rfl;exact rfl;exact hlt)|(apply ak (d:=27);exact rfl;apply aR (ys:=cU p);exact rfl;exact pK;exact hrd;exact rfl)|(apply ak (d:=32);exact rfl;apply aj (j:=p.a);exact rfl;exact rfl;exact hpi)|refine sT ?_|refine sS ?_|refine sT2 ?_|refine sN ?_|refine sO ?_|refine sM fun _=> ?_|(refine sC ?_ ?_<;>intro hb<;>try omega)|fail)
  all_goals try (exfalso;omega)
  rename_i g11 g12
  refine vw (id:=9) [3,4,8,9,13,14] [.box g12 36 [vS x.read,vS x.write,vS x.own]] 18 rfl rfl mS ?_
  repeat' (first|(apply fM (i:=0);(iterate 4 exact rfl);decide+kernel;decide+kernel;decide+kernel;(exact vC))|(apply fM (i:=1);(iterate 4 exact rfl);decide+kernel;decide+kernel;decide+kernel;(exact vC))|(apply fM (i:=2);(iterate 4 exact rfl);decide+kernel;decide+kernel;decide+kernel;(exact vC))|(apply fM (i:=5);(iterate 4 exact rfl);decide+kernel;decide+kernel;decide+kernel;(exact vC))|(apply fM (i:=6);(iterate 4 exact rfl);decide+kernel;decide+kernel;decide+kernel;(exact vC))|(apply fM (i:=7);(iterate 4 exact rfl);decide+kernel;decide+kernel;decide+kernel;(exact vC))|(apply fM (i:=10);(iterate 4 exact rfl);decide+kernel;decide+kernel;decide+kernel;(exact vC))|(apply fM (i:=11);(iterate 4 exact rfl);decide+kernel;decide+kernel;decide+kernel;(exact vC))|(apply fM (i:=12);(iterate 4 exact rfl);decide+kernel;decide+kernel;decide+kernel;(exact vC))|(apply fM (i:=15);(iterate 4 exact rfl);decide+kernel;decide+kernel;decide+kernel;(apply kR;exact rfl))|(apply fM (i:=16);(iterate 4 exact rfl);decide+kernel;decide+kernel;decide+kernel;(apply kR;exact rfl))|(apply fM (i:=17);(iterate 4 exact rfl);decide+kernel;decide+kernel;decide+kernel;(apply kR;exact rfl))|(apply w6 (i:=3) (j:=8) (k:=13);(iterate 9 exact rfl);decide+kernel)|(apply w6 (i:=4) (j:=8) (k:=13);(iterate 9 exact rfl);decide+kernel)|(apply jq (i:=3) (j:=13);(iterate 6 exact rfl);decide+kernel)|(apply jq (i:=3) (j:=8);(iterate 6 exact rfl);decide+kernel)|(apply jq (i:=8) (j:=13);(iterate 6 exact rfl);decide+kernel)|(apply jq (i:=4) (j:=13);(iterate 6 exact rfl);decide+kernel)|(apply jq (i:=4) (j:=8);(iterate 6 exact rfl);decide+kernel)|(apply jq (i:=9) (j:=13);(iterate 6 exact rfl);decide+kernel)|(apply fB (i:=3);(iterate 3 exact rfl);decide+kernel)|(apply fB (i:=4);(iterate 3 exact rfl);decide+kernel)|(apply fB (i:=8);(iterate 3 exact rfl);decide+kernel)|(apply fB (i:=9);(iterate 3 exact rfl);decide+kernel)|(apply fB (i:=13);(iterate 3 exact rfl);decide+kernel)|(apply fB (i:=14);(iterate 3 exact rfl);decide+kernel)|(apply cI (d:=39) (A:=A7) (m:=1);(iterate 3 exact rfl);exact pK;(intro w hm;exact hm.cells_own pK);exact rfl;(simp [Value.oneCell',sl]);omega;(simp only [maxLen];omega);(intro B7 b7 hB7))|(apply cI (d:=44) (A:=A8) (m:=1);(iterate 3 exact rfl);exact pK;(intro w hm;exact hm.cells_own pK);exact rfl;(simp [Value.oneCell',sl]);omega;(simp only [maxLen];omega);(intro B8 b8 hB8))|(apply cI (d:=49) (A:=A9) (m:=1);(iterate 3 exact rfl);exact pK;(intro w hm;exact hm.cells_own pK);exact rfl;(simp [Value.oneCell',sl]);omega;(simp only [maxLen];omega);(intro B9 b9 hB9))|(apply vu;decide+kernel)|(apply Jc;(focus (exact mS;done)))|refine sT ?_|refine sS ?_|refine sT2 ?_|refine sN ?_|refine sM fun _=> ?_|(refine sC ?_ ?_<;>intro hb<;>try omega)|fail)
  all_goals first
   |(exfalso;omega)
   |(refine ⟨(i+1,(B7,b7),(B8,b8),(B9,b9)),hlt,by dsimp only;omega,by exact sB,by exact sB,?_⟩;dsimp only;rw [hsr,hsr,hsr];exact mS)
   |trace_state
 ·
  have e:i=PZ.length:=by omega
  subst e
  rw [MI]
  have hM:=fun (f:Rl→BitVec 64) (w' :World) (lv:Value) (h:Reads w' lv PZ.length ((PZ.map (byN f L)).map vS))=>EE (PZ.map (byN f L)) lv w' (by rw [MF];exact h)
  repeat' (first|(apply aa (d:=52);exact rfl;exact rfl;(intro w' hm;exact hM (fun x=>x.read) w' _ (Reads.of_own (A:=A7) hm pK)))|(apply aa (d:=54);exact rfl;exact rfl;(intro w' hm;exact hM (fun x=>x.write) w' _ (Reads.of_own (A:=A8) hm pK)))|(apply aa (d:=56);exact rfl;exact rfl;(intro w' hm;exact hM (fun x=>x.own) w' _ (Reads.of_own (A:=A9) hm pK)))|refine sT ?_|refine sS ?_|refine sT2 ?_|refine sM fun _=> ?_|(refine sC ?_ ?_<;>intro hb<;>try omega)|fail)
  all_goals first
   |(exfalso;omega)
   |((refine eK ?_);rfl)
   |trace_state
end Go.SL
namespace Go.SL
open Go Go.Proofs
structure Cl where
 at_:Rf
 node:Int
def ze (x:Cl):List Value:= [.int .i64 x.at_.col,.int .i64 x.at_.row,.int .i64 x.node]
structure Ev where
 step:Int
 user:Int
 kind:Int
 rect:Rct
 done:Bool
 to:BitVec 64
def aQ (x:Ev):List Value:= [.int .i64 x.step,.int .i64 x.user,.int .u8 x.kind,.int .i64 x.rect.c1,.int .i64 x.rect.r1,.int .i64 x.rect.c2,.int .i64 x.rect.r2,.bool x.done,vS x.to]
theorem cX (x:Ev):(aQ x).length=9:=rfl
structure Rv where
 step:Int
 call:Cl
 fn:Int
 rect:Rct
 grant:Int
 to:BitVec 64
def bu (x:Rv):List Value:= [.int .i64 x.step,.int .i64 x.call.at_.col,.int .i64 x.call.at_.row,.int .i64 x.call.node,.int .u8 x.fn,.int .i64 x.rect.c1,.int .i64 x.rect.r1,.int .i64 x.rect.c2,.int .i64 x.rect.r2,.int .i64 x.grant,vS x.to]
theorem cW (x:Rv):(bu x).length=11:=rfl
structure Ox where
 kind:Int
 user:Int
 rect:Rct
 input:ByteArray
 rd:BitVec 64
 wr:BitVec 64
 ow:BitVec 64
 fns:Int
 to:BitVec 64
 idx:Int
def bL (x:Ox):List Value:= [.int .u8 x.kind,.int .i64 x.user,.int .i64 x.rect.c1,.int .i64 x.rect.r1,.int .i64 x.rect.c2,.int .i64 x.rect.r2,.string x.input,vS x.rd,vS x.wr,vS x.ow,.int .u8 x.fns,vS x.to,.int .i64 x.idx]
theorem kn (x y:BitVec 64):((x.toNat:Int)=(y.toNat:Int))=(x=y):=propext ⟨fun h=>NS (by omega),fun h=>h ▸ rfl⟩
theorem kg (x y:BitVec 64):(x.toNat=y.toNat)=(x=y):=propext ⟨fun h=>NS h,fun h=>h ▸ rfl⟩
theorem xG (w:World) (d:Nat) (a1 a2 a3 b1 b2 b3:BitVec 64):(Op.equalIn (d+3) 36 (.agg #[.int .u64 (a1.toNat:Int),.int .u64 (a2.toNat:Int),.int .u64 (a3.toNat:Int)]) (.agg #[.int .u64 (b1.toNat:Int),.int .u64 (b2.toNat:Int),.int .u64 (b3.toNat:Int)])).run Tryz.prog w= .ok (decide (a1=b1) && decide (a2=b2) && decide (a3=b3)) w:=by
 rw [run_equalIn_agg w (d+2) 36 _ _ (by rw [Program.fieldsOf,Tryz.underlying36]) Tryz.stoodInHeld36]
 simp only [Program.fieldsOf,Tryz.underlying36]
 simp [Op.eqFields,part,go_sem,oh,p8,kn,kg]
 by_cases h1:a1=b1
 rotate_left
 ·
  simp [h1]
 by_cases h2:a2=b2
 rotate_left
 ·
  simp [h1,h2]
 by_cases h3:a3=b3<;>simp [h1,h2,h3]
def Br (a b:Rl):Bool:=eqR a.rect b.rect && (decide (a.read=b.read) && decide (a.write=b.write) && decide (a.own=b.own))
theorem yX {a b:Rl}:Br a b=true↔a=b:=by
 obtain ⟨a0,a1,a2,a3⟩:=a
 obtain ⟨b0,b1,b2,b3⟩:=b
 simp [Br,iG,iH,and_assoc]
instance:DecidableEq Rl:=fun a b=>decidable_of_iff (Br a b=true) yX
theorem yY (a b:Rl):Br a b=decide (a=b):=by
 rw [Mp,yX,decide_eq_true_iff]
theorem FB (w:World) (d:Nat) (a b:Rl):(Op.equalIn (d+5) 38 (.agg (bh a).toArray) (.agg (bh b).toArray)).run Tryz.prog w= .ok (Br a b) w:=by
 rw [run_equalIn_agg w (d+4) 38 _ _ (by rw [Program.fieldsOf,Tryz.underlying38]) Tryz.stoodInHeld38]
 simp only [Program.fieldsOf,Tryz.underlying38]
 have hq_R: ∀ w,(Op.equalIn (d+4) 33 (.agg #[.int .i64 a.rect.c1,.int .i64 a.rect.r1,.int .i64 a.rect.c2,.int .i64 a.rect.r2]) (.agg #[.int .i64 b.rect.c1,.int .i64 b.rect.r1,.int .i64 b.rect.c2,.int .i64 b.rect.r2])).run Tryz.prog w= .ok (eqR a.rect b.rect) w:=fun w=>ja w (d+1) a.rect b.rect
 have hq_T: ∀ w,(Op.equalIn (d+4) 36 (.agg #[.int .u64 (a.read.toNat:Int),.int .u64 (a.write.toNat:Int),.int .u64 (a.own.toNat:Int)]) (.agg #[.int .u64 (b.read.toNat:Int),.int .u64 (b.write.toNat:Int),.int .u64 (b.own.toNat:Int)])).run Tryz.prog w= .ok (decide (a.read=b.read) && decide (a.write=b.write) && decide (a.own=b.own)) w:=fun w=>xG w (d+1) a.read a.write a.own b.read b.write b.own
 simp [Op.eqFields,bh,vS,part,go_sem,oh,p8,kn,kg,Br,hq_R,hq_T]
 by_cases h1:eqR a.rect b.rect=true
 rotate_left
 ·
  simp [h1]
 by_cases h2:a.read=b.read
 rotate_left
 ·
  simp [h1,h2]
 by_cases h3:a.write=b.write
 rotate_left
 ·
  simp [h1,h2,h3]
 by_cases h4:a.own=b.own
 rotate_left
 ·
  simp [h1,h2,h3,h4]
 simp [h1,h2,h3,h4]
def Bu (a b:Gn):Bool:=eqR a.rect b.rect && decide (a.fns=b.fns) && decide (a.to=b.to) && decide (a.by_=b.by_) && decide (a.rev=b.rev)
theorem y4 {a b:Gn}:Bu a b=true↔a=b:=by
 obtain ⟨a0,a1,a2,a3,a4⟩:=a
 obtain ⟨b0,b1,b2,b3,b4⟩:=b
 simp [Bu,iG,iH,and_assoc]
instance:DecidableEq Gn:=fun a b=>decidable_of_iff (Bu a b=true) y4
theorem y5 (a b:Gn):Bu a b=decide (a=b):=by
 rw [Mp,y4,decide_eq_true_iff]
theorem FE (w:World) (d:Nat) (a b:Gn):(Op.equalIn (d+5) 56 (.agg (bg a).toArray) (.agg (bg b).toArray)).run Tryz.prog w= .ok (Bu a b) w:=by
 rw [run_equalIn_agg w (d+4) 56 _ _ (by rw [Program.fieldsOf,Tryz.underlying56]) Tryz.stoodInHeld56]
 simp only [Program.fieldsOf,Tryz.underlying56]
 have hq_R: ∀ w,(Op.equalIn (d+4) 33 (.agg #[.int .i64 a.rect.c1,.int .i64 a.rect.r1,.int .i64 a.rect.c2,.int .i64 a.rect.r2]) (.agg #[.int .i64 b.rect.c1,.int .i64 b.rect.r1,.int .i64 b.rect.c2,.int .i64 b.rect.r2])).run Tryz.prog w= .ok (eqR a.rect b.rect) w:=fun w=>ja w (d+1) a.rect b.rect
 simp [Op.eqFields,bg,vS,part,go_sem,oh,p8,kn,kg,Bu,hq_R]
 by_cases h1:eqR a.rect b.rect=true
 rotate_left
 ·
  simp [h1]
 by_cases h2:a.fns=b.fns
 rotate_left
 ·
  simp [h1,h2]
 by_cases h3:a.to=b.to
 rotate_left
 ·
  simp [h1,h2,h3]
 by_cases h4:a.by_=b.by_
 rotate_left
 ·
  simp [h1,h2,h3,h4]
 by_cases h5:a.rev=b.rev
 rotate_left
 ·
  simp [h1,h2,h3,h4,h5]
 simp [h1,h2,h3,h4,h5]
def Bx (a b:Cl):Bool:=eqF a.at_ b.at_ && decide (a.node=b.node)
theorem Gy {a b:Cl}:Bx a b=true↔a=b:=by
 obtain ⟨a0,a1⟩:=a
 obtain ⟨b0,b1⟩:=b
 simp [Bx,iG,iH,and_assoc]
theorem FH (w:World) (d:Nat) (a b:Cl):(Op.equalIn (d+5) 68 (.agg (ze a).toArray) (.agg (ze b).toArray)).run Tryz.prog w= .ok (Bx a b) w:=by
 rw [run_equalIn_agg w (d+4) 68 _ _ (by rw [Program.fieldsOf,Tryz.underlying68]) Tryz.stoodInHeld68]
 simp only [Program.fieldsOf,Tryz.underlying68]
 have hq_F: ∀ w,(Op.equalIn (d+4) 51 (.agg #[.int .i64 a.at_.col,.int .i64 a.at_.row]) (.agg #[.int .i64 b.at_.col,.int .i64 b.at_.row])).run Tryz.prog w= .ok (eqF a.at_ b.at_) w:=fun w=>qh w (d+1) a.at_ b.at_
 simp [Op.eqFields,ze,vS,part,go_sem,oh,p8,kn,kg,Bx,hq_F]
 by_cases h1:eqF a.at_ b.at_=true
 rotate_left
 ·
  simp [h1]
 by_cases h2:a.node=b.node
 rotate_left
 ·
  simp [h1,h2]
 simp [h1,h2]
def Bw (a b:Ev):Bool:=decide (a.step=b.step) && decide (a.user=b.user) && decide (a.kind=b.kind) && eqR a.rect b.rect && decide (a.done=b.done) && decide (a.to=b.to)
theorem y6 {a b:Ev}:Bw a b=true↔a=b:=by
 obtain ⟨a0,a1,a2,a3,a4,a5⟩:=a
 obtain ⟨b0,b1,b2,b3,b4,b5⟩:=b
 simp [Bw,iG,iH,and_assoc]
instance:DecidableEq Ev:=fun a b=>decidable_of_iff (Bw a b=true) y6
theorem y7 (a b:Ev):Bw a b=decide (a=b):=by
 rw [Mp,y6,decide_eq_true_iff]
theorem FF (w:World) (d:Nat) (a b:Ev):(Op.equalIn (d+5) 48 (.agg (aQ a).toArray) (.agg (aQ b).toArray)).run Tryz.prog w= .ok (Bw a b) w:=by
 rw [run_equalIn_agg w (d+4) 48 _ _ (by rw [Program.fieldsOf,Tryz.underlying48]) Tryz.stoodInHeld48]
 simp only [Program.fieldsOf,Tryz.underlying48]
 have hq_R: ∀ w,(Op.equalIn (d+4) 33 (.agg #[.int .i64 a.rect.c1,.int .i64 a.rect.r1,.int .i64 a.rect.c2,.int .i64 a.rect.r2]) (.agg #[.int .i64 b.rect.c1,.int .i64 b.rect.r1,.int .i64 b.rect.c2,.int .i64 b.rect.r2])).run Tryz.prog w= .ok (eqR a.rect b.rect) w:=fun w=>ja w (d+1) a.rect b.rect
 simp [Op.eqFields,aQ,vS,part,go_sem,oh,p8,kn,kg,Bw,hq_R]
 by_cases h1:a.step=b.step
 rotate_left
 ·
  simp [h1]
 by_cases h2:a.user=b.user
 rotate_left
 ·
  simp [h1,h2]
 by_cases h3:a.kind=b.kind
 rotate_left
 ·
  simp [h1,h2,h3]
 by_cases h4:eqR a.rect b.rect=true
 rotate_left
 ·
  simp [h1,h2,h3,h4]
 by_cases h5:a.done=b.done
 rotate_left
 ·
  simp [h1,h2,h3,h4,h5]
 by_cases h6:a.to=b.to
 rotate_left
 ·
  simp [h1,h2,h3,h4,h5,h6]
 simp [h1,h2,h3,h4,h5,h6]
def Bp (a b:Rv):Bool:=decide (a.step=b.step) && Bx a.call b.call && decide (a.fn=b.fn) && eqR a.rect b.rect && decide (a.grant=b.grant) && decide (a.to=b.to)
theorem yU {a b:Rv}:Bp a b=true↔a=b:=by
 obtain ⟨a0,a1,a2,a3,a4,a5⟩:=a
 obtain ⟨b0,b1,b2,b3,b4,b5⟩:=b
 simp [Bp,iG,iH,Gy,and_assoc]
instance:DecidableEq Rv:=fun a b=>decidable_of_iff (Bp a b=true) yU
theorem yV (a b:Rv):Bp a b=decide (a=b):=by
 rw [Mp,yU,decide_eq_true_iff]
theorem FA (w:World) (d:Nat) (a b:Rv):(Op.equalIn (d+7) 70 (.agg (bu a).toArray) (.agg (bu b).toArray)).run Tryz.prog w= .ok (Bp a b) w:=by
 rw [run_equalIn_agg w (d+6) 70 _ _ (by rw [Program.fieldsOf,Tryz.underlying70]) Tryz.stoodInHeld70]
 simp only [Program.fieldsOf,Tryz.underlying70]
 have hq_C: ∀ w,(Op.equalIn (d+6) 68 (.agg #[.int .i64 a.call.at_.col,.int .i64 a.call.at_.row,.int .i64 a.call.node]) (.agg #[.int .i64 b.call.at_.col,.int .i64 b.call.at_.row,.int .i64 b.call.node])).run Tryz.prog w= .ok (Bx a.call b.call) w:=fun w=>FH w (d+1) a.call b.call
 have hq_R: ∀ w,(Op.equalIn (d+6) 33 (.agg #[.int .i64 a.rect.c1,.int .i64 a.rect.r1,.int .i64 a.rect.c2,.int .i64 a.rect.r2]) (.agg #[.int .i64 b.rect.c1,.int .i64 b.rect.r1,.int .i64 b.rect.c2,.int .i64 b.rect.r2])).run Tryz.prog w= .ok (eqR a.rect b.rect) w:=fun w=>ja w (d+3) a.rect b.rect
 simp [Op.eqFields,bu,vS,part,go_sem,oh,p8,kn,kg,Bp,hq_C,hq_R]
 by_cases h1:a.step=b.step
 rotate_left
 ·
  simp [h1]
 by_cases h2:Bx a.call b.call=true
 rotate_left
 ·
  simp [h1,h2]
 by_cases h3:a.fn=b.fn
 rotate_left
 ·
  simp [h1,h2,h3]
 by_cases h4:eqR a.rect b.rect=true
 rotate_left
 ·
  simp [h1,h2,h3,h4]
 by_cases h5:a.grant=b.grant
 rotate_left
 ·
  simp [h1,h2,h3,h4,h5]
 by_cases h6:a.to=b.to
 rotate_left
 ·
  simp [h1,h2,h3,h4,h5,h6]
 simp [h1,h2,h3,h4,h5,h6]
def Bs (a b:Ox):Bool:=decide (a.kind=b.kind) && decide (a.user=b.user) && eqR a.rect b.rect && decide (a.input=b.input) && (decide (a.rd=b.rd) && decide (a.wr=b.wr) && decide (a.ow=b.ow)) && decide (a.fns=b.fns) && decide (a.to=b.to) && decide (a.idx=b.idx)
theorem yZ {a b:Ox}:Bs a b=true↔a=b:=by
 obtain ⟨a0,a1,a2,a3,a4,a5,a6,a7,a8,a9⟩:=a
 obtain ⟨b0,b1,b2,b3,b4,b5,b6,b7,b8,b9⟩:=b
 simp [Bs,iG,iH,and_assoc]
instance:DecidableEq Ox:=fun a b=>decidable_of_iff (Bs a b=true) yZ
theorem FC (w:World) (d:Nat) (a b:Ox):(Op.equalIn (d+5) 41 (.agg (bL a).toArray) (.agg (bL b).toArray)).run Tryz.prog w= .ok (Bs a b) w:=by
 rw [run_equalIn_agg w (d+4) 41 _ _ (by rw [Program.fieldsOf,Tryz.underlying41]) Tryz.stoodInHeld41]
 simp only [Program.fieldsOf,Tryz.underlying41]
 have hq_R: ∀ w,(Op.equalIn (d+4) 33 (.agg #[.int .i64 a.rect.c1,.int .i64 a.rect.r1,.int .i64 a.rect.c2,.int .i64 a.rect.r2]) (.agg #[.int .i64 b.rect.c1,.int .i64 b.rect.r1,.int .i64 b.rect.c2,.int .i64 b.rect.r2])).run Tryz.prog w= .ok (eqR a.rect b.rect) w:=fun w=>ja w (d+1) a.rect b.rect
 have hq_T: ∀ w,(Op.equalIn (d+4) 36 (.agg #[.int .u64 (a.rd.toNat:Int),.int .u64 (a.wr.toNat:Int),.int .u64 (a.ow.toNat:Int)]) (.agg #[.int .u64 (b.rd.toNat:Int),.int .u64 (b.wr.toNat:Int),.int .u64 (b.ow.toNat:Int)])).run Tryz.prog w= .ok (decide (a.rd=b.rd) && decide (a.wr=b.wr) && decide (a.ow=b.ow)) w:=fun w=>xG w (d+1) a.rd a.wr a.ow b.rd b.wr b.ow
 simp [Op.eqFields,bL,vS,part,go_sem,oh,p8,kn,kg,Bs,hq_R,hq_T]
 by_cases h1:a.kind=b.kind
 rotate_left
 ·
  simp [h1]
 by_cases h2:a.user=b.user
 rotate_left
 ·
  simp [h1,h2]
 by_cases h3:eqR a.rect b.rect=true
 rotate_left
 ·
  simp [h1,h2,h3]
 by_cases h4:a.input=b.input
 rotate_left
 ·
  simp [h1,h2,h3,h4]
 by_cases h5:a.rd=b.rd
 rotate_left
 ·
  simp [h1,h2,h3,h4,h5]
 by_cases h6:a.wr=b.wr
 rotate_left
 ·
  simp [h1,h2,h3,h4,h5,h6]
 by_cases h7:a.ow=b.ow
 rotate_left
 ·
  simp [h1,h2,h3,h4,h5,h6,h7]
 by_cases h8:a.fns=b.fns
 rotate_left
 ·
  simp [h1,h2,h3,h4,h5,h6,h7,h8]
 by_cases h9:a.to=b.to
 rotate_left
 ·
  simp [h1,h2,h3,h4,h5,h6,h7,h8,h9]
 by_cases h10:a.idx=b.idx
 rotate_left
 ·
  simp [h1,h2,h3,h4,h5,h6,h7,h8,h9,h10]
 simp [h1,h2,h3,h4,h5,h6,h7,h8,h9,h10]
section
variable {w0:World} {s:az} {H:List Blk} {ty t' :TypeId} {x y:Operand}
theorem Ck {a b:Rl} (hx:ev s x=some (.agg (bh a).toArray)) (hy:ev s y=some (.agg (bh b).toArray)):VOp Tryz.prog w0 s H (.binOp .neq 38 x y t') ty (.bool (!Br a b)):=fun ρ w _ _ _ _ hρ _=>by
 have h:=FB w 9995 a b
 simp only [Nat.reduceAdd] at h
 simp only [execOp,hρ x _ hx,hρ y _ hy,Sem.run_bind,run_eqGuard_agg w _ _ _ _ _ _ Tryz.eqGuardType38,Result.andThen_ok,run_neq_struct,h,Sem.run_pure]
theorem Cm {a b:Gn} (hx:ev s x=some (.agg (bg a).toArray)) (hy:ev s y=some (.agg (bg b).toArray)):VOp Tryz.prog w0 s H (.binOp .neq 56 x y t') ty (.bool (!Bu a b)):=fun ρ w _ _ _ _ hρ _=>by
 have h:=FE w 9995 a b
 simp only [Nat.reduceAdd] at h
 simp only [execOp,hρ x _ hx,hρ y _ hy,Sem.run_bind,run_eqGuard_agg w _ _ _ _ _ _ Tryz.eqGuardType56,Result.andThen_ok,run_neq_struct,h,Sem.run_pure]
theorem Cn {a b:Ev} (hx:ev s x=some (.agg (aQ a).toArray)) (hy:ev s y=some (.agg (aQ b).toArray)):VOp Tryz.prog w0 s H (.binOp .neq 48 x y t') ty (.bool (!Bw a b)):=fun ρ w _ _ _ _ hρ _=>by
 have h:=FF w 9995 a b
 simp only [Nat.reduceAdd] at h
 simp only [execOp,hρ x _ hx,hρ y _ hy,Sem.run_bind,run_eqGuard_agg w _ _ _ _ _ _ Tryz.eqGuardType48,Result.andThen_ok,run_neq_struct,h,Sem.run_pure]
theorem Cj {a b:Rv} (hx:ev s x=some (.agg (bu a).toArray)) (hy:ev s y=some (.agg (bu b).toArray)):VOp Tryz.prog w0 s H (.binOp .neq 70 x y t') ty (.bool (!Bp a b)):=fun ρ w _ _ _ _ hρ _=>by
 have h:=FA w 9993 a b
 simp only [Nat.reduceAdd] at h
 simp only [execOp,hρ x _ hx,hρ y _ hy,Sem.run_bind,run_eqGuard_agg w _ _ _ _ _ _ Tryz.eqGuardType70,Result.andThen_ok,run_neq_struct,h,Sem.run_pure]
theorem HO {a b:Ox} (hx:ev s x=some (.agg (bL a).toArray)) (hy:ev s y=some (.agg (bL b).toArray)):VOp Tryz.prog w0 s H (.binOp .neq 41 x y t') ty (.bool (!Bs a b)):=fun ρ w _ _ _ _ hρ _=>by
 have h:=FC w 9995 a b
 simp only [Nat.reduceAdd] at h
 simp only [execOp,hρ x _ hx,hρ y _ hy,Sem.run_bind,run_eqGuard_agg w _ _ _ _ _ _ Tryz.eqGuardType41,Result.andThen_ok,run_neq_struct,h,Sem.run_pure]
end
theorem sn (L:List Rl): ∀ u∈L.flatMap bh,u.oneCell' =true:=fun u hu=>by
 obtain ⟨a,_,h⟩:=MM.1 hu
 simp only [bh,L7,Nn,or_false] at h
 rcases h with rfl|rfl|rfl|rfl|rfl|rfl|rfl<;>rfl
theorem sr (L:List Ev): ∀ u∈L.flatMap aQ,u.oneCell' =true:=fun u hu=>by
 obtain ⟨a,_,h⟩:=MM.1 hu
 simp only [aQ,L7,Nn,or_false] at h
 rcases h with rfl|rfl|rfl|rfl|rfl|rfl|rfl|rfl|rfl<;>rfl
theorem sm (L:List Rv): ∀ u∈L.flatMap bu,u.oneCell' =true:=fun u hu=>by
 obtain ⟨a,_,h⟩:=MM.1 hu
 simp only [bu,L7,Nn,or_false] at h
 rcases h with rfl|rfl|rfl|rfl|rfl|rfl|rfl|rfl|rfl|rfl|rfl<;>rfl
end Go.SL
namespace Go.SL
open Go
def wE (lo hi:Int) (ps:List (Int × Int)):List (Int × Int):=dC ((fq (qo (cR lo ps))).filter fun x=>decide (lo≤x) && decide (x≤hi)) hi
theorem Eu:cH=wE:=by funext lo hi ps;unfold cH wE su;rw [Ft]
def AZ (r:Rct) (A B:List Rl):List Pz:=(wE r.r1 r.r2 (aX r A++aX r B)).flatMap fun y=>iS A B y (wE r.c1 r.c2 (aY r A++aY r B))
theorem DQ:dI=AZ:=by funext r A B;unfold dI AZ;rw [Eu]
def yo (f:Rl→BitVec 64) (r:Rct) (L:List Rl):BitVec 64:=tP ((AZ r L []).map fun p=>(L[p.a]?.map f).getD 0#64)
theorem FR:DT=yo:=by funext f r L;unfold DT yo;rw [DQ]
def ovC (r:Rct) (L:List Rl):(BitVec 64 × BitVec 64 × BitVec 64) × Int:=
 if jA r L≠0 then ((0#64,0#64,0#64),jA r L) else ((yo (fun x=>x.read) r L,yo (fun x=>x.write) r L,yo (fun x=>x.own) r L),0)
theorem Ka:ovE=ovC:=by funext r L;unfold ovE ovC;rw [FR]
def bkR:List Rl:= [⟨⟨1,1,1024,1024⟩,7#64,7#64,1#64⟩,⟨⟨2,1,2,3⟩,1#64,1#64,1#64⟩]
def bkN:List Gn:= [⟨⟨2,1,2,3⟩,1,2#64,0,false⟩]
set_option maxRecDepth 100000
end Go.SL
namespace Go.SL
open Go Go.Proofs
attribute [local irreducible] W WL WQ WG WA WX WLI WR WT WC WE VOp RW thn blk bS scp bq bF cj aS FnIn FnP ceP uY ou oS
def Gt:List Et:= [⟨⟨1,1⟩,⟨#[53]⟩⟩,⟨⟨2,1⟩,⟨#[49,48]⟩⟩,⟨⟨1,2⟩,inB⟩,⟨⟨2,2⟩,⟨#[50,48]⟩⟩,⟨⟨1,3⟩,inC⟩,⟨⟨1,4⟩,inD⟩]
theorem q9 (w:World):ay Tryz.prog 105 [] w (.agg (bO ⟨1,1,1024,1024⟩).toArray):=by
 refine aq Tryz.func105 rfl Tryz.ntmps105 rfl ?_
 repeat' (first|refine sT ?_|refine sM fun _=> ?_|(refine sC ?_ ?_<;>intro hb<;>try omega)|fail)
 (refine eRC ?_)
 rfl
set_option maxHeartbeats 4000000 in
theorem EH (w:World):aS Tryz.prog 49 [] w fun v H=> ∃ ge gr gn,v= .tuple #[.slice (some ⟨ge,0,none⟩) 6 6,.slice (some ⟨gr,0,none⟩) 2 2,.slice (some ⟨gn,0,none⟩) 1 1]∧H= [.own (some ge) 53 3 6 6 (Gt.flatMap aH),.own (some gr) 38 7 2 2 (bkR.flatMap bh),.own (some gn) 56 8 1 1 (bkN.flatMap bg)]:=by
 refine aq Tryz.func49 rfl Tryz.ntmps49 rfl ?_
 repeat' (first|(apply bK (id:=3) [0,6] [];kernel_rfl;kernel_rfl;kernel_rfl)|(apply bK (id:=4) [4] [];kernel_rfl;kernel_rfl;kernel_rfl)|(apply aa (f:=105);exact rfl;exact rfl;(intro w' _;exact q9 w'))|refine sT ?_|refine sS ?_|refine sW ?_|refine sM fun _=> ?_|(refine sC ?_ ?_<;>intro hb<;>try omega)|(refine sCW ?_ ?_<;>intro hb<;>try omega)|fail)
 rename_i ge gr gn
 exact lX eIO rfl rfl rfl rfl (H' := [.own (some ge) 53 3 6 6 (Gt.flatMap aH),.own (some gr) 38 7 2 2 (bkR.flatMap bh),.own (some gn) 56 8 1 1 (bkN.flatMap bg)]) mS ⟨ge,gr,gn,rfl,rfl⟩
theorem sq (L:List Gn): ∀ u∈L.flatMap bg,u.oneCell' =true:=fun u hu=>by
 obtain ⟨a,_,h⟩:=MM.1 hu
 simp only [bg,L7,Nn,or_false] at h
 rcases h with rfl|rfl|rfl|rfl|rfl|rfl|rfl|rfl<;>rfl
theorem tR (L:List Gn) (tv:Value) (w:World) (ht:Reads w tv L.length (L.flatMap bg)) (hlen:L.length≤1000000):
  aS Tryz.prog 46 [tv] w fun v H=> ∃ A cap,v=sl A L.length cap∧H= [.own A 56 8 L.length cap (L.flatMap bg)]:=by
 refine aq Tryz.func46 rfl Tryz.ntmps46 rfl ?_
 have hl:(L.flatMap bg).length=L.length*8:=aD bR L
 refine aJ 56 8 ?_
 repeat' (first|(apply cy (n' :=0) (c:=0) (A:=none) (m:=L.length);(iterate 3 exact rfl);exact pK;(intro w hm;exact ht.of_w0 hm);exact hl;exact sq L;omega;(simp only [maxLen];omega);intro A' cap' hA)|refine sT ?_|refine sM fun _=> ?_|(refine sC ?_ ?_<;>intro hb<;>try omega)|fail)
 exact cQ (.inl rfl) Tryz.results46 rfl (H' := [.own A' 56 8 (0+L.length) cap' ([]++L.flatMap bg)]) mS ⟨A',cap',by rw [LZ],by rw [LZ];rfl⟩
end Go.SL
namespace Go.SL
open Go Go.Proofs
attribute [local irreducible] W WL WQ WG WA WX WLI WR WT WC WE VOp RW thn blk bS scp bq bF cj aS FnIn FnP ceP
theorem B6 (L:List Et) (tv:Value) (w:World) (ht:Reads w tv L.length (L.flatMap aH)) (hlen:L.length≤1000000):
  aS Tryz.prog 76 [tv] w fun v H=> ∃ A cap,v=sl A L.length cap∧H= [.own A 53 3 L.length cap (L.flatMap aH)]:=by
 have ht' :=ht
 obtain ⟨At,ct,rfl,ht1,ht2,ht3⟩:=ht
 refine aq Tryz.func76 rfl Tryz.ntmps76 rfl ?_
 have hl:(L.flatMap aH).length=L.length*3:=aD aW L
 refine aJ 53 3 ?_
 repeat' (first|(apply ak;exact rfl;apply kQ;exact rfl)|(apply dx;exact rfl;intro gb)|(apply cy (n' :=0) (c:=0) (A:=some _) (m:=L.length);(iterate 3 exact rfl);exact pK;(intro w hm;exact ht'.of_w0 hm);exact hl;exact mV L;omega;(simp only [maxLen];omega);intro A' cap' hA)|refine sT ?_|refine sM fun _=> ?_|(refine sC ?_ ?_<;>intro hb<;>try omega)|fail)
 ·
  have e:L.length=0:=by
   rcases Mx L.length with h|h
   ·
    exact h
   ·
    obtain ⟨g,o,rfl,_⟩:=ht3 h
    cases hb
  have e' :L= []:=Me e
  subst e'
  exact cQ (.inl rfl) Tryz.results76 rfl (.refl _) ⟨none,0,rfl,rfl⟩
 ·
  exact cQ (.inl rfl) Tryz.results76 rfl (H' := [.own A' 53 3 (0+L.length) cap' ([]++L.flatMap aH)]) mS ⟨A',cap',by rw [LZ],by rw [LZ];rfl⟩
theorem BW (L:List Rl) (tv:Value) (w:World) (ht:Reads w tv L.length (L.flatMap bh)) (hlen:L.length≤1000000):
  aS Tryz.prog 77 [tv] w fun v H=> ∃ A cap,v=sl A L.length cap∧H= [.own A 38 7 L.length cap (L.flatMap bh)]:=by
 have ht' :=ht
 obtain ⟨At,ct,rfl,ht1,ht2,ht3⟩:=ht
 refine aq Tryz.func77 rfl Tryz.ntmps77 rfl ?_
 have hl:(L.flatMap bh).length=L.length*7:=aD bX L
 refine aJ 38 7 ?_
 repeat' (first|(apply ak;exact rfl;apply kQ;exact rfl)|(apply dx;exact rfl;intro gb)|(apply cy (n' :=0) (c:=0) (A:=some _) (m:=L.length);(iterate 3 exact rfl);exact pK;(intro w hm;exact ht'.of_w0 hm);exact hl;exact sn L;omega;(simp only [maxLen];omega);intro A' cap' hA)|refine sT ?_|refine sM fun _=> ?_|(refine sC ?_ ?_<;>intro hb<;>try omega)|fail)
 ·
  have e:L.length=0:=by
   rcases Mx L.length with h|h
   ·
    exact h
   ·
    obtain ⟨g,o,rfl,_⟩:=ht3 h
    cases hb
  have e' :L= []:=Me e
  subst e'
  exact cQ (.inl rfl) Tryz.results77 rfl (.refl _) ⟨none,0,rfl,rfl⟩
 ·
  exact cQ (.inl rfl) Tryz.results77 rfl (H' := [.own A' 38 7 (0+L.length) cap' ([]++L.flatMap bh)]) mS ⟨A',cap',by rw [LZ],by rw [LZ];rfl⟩
theorem BX (L:List Gn) (tv:Value) (w:World) (ht:Reads w tv L.length (L.flatMap bg)) (hlen:L.length≤1000000):
  aS Tryz.prog 78 [tv] w fun v H=> ∃ A cap,v=sl A L.length cap∧H= [.own A 56 8 L.length cap (L.flatMap bg)]:=by
 have ht' :=ht
 obtain ⟨At,ct,rfl,ht1,ht2,ht3⟩:=ht
 refine aq Tryz.func78 rfl Tryz.ntmps78 rfl ?_
 have hl:(L.flatMap bg).length=L.length*8:=aD bR L
 refine aJ 56 8 ?_
 repeat' (first|(apply ak;exact rfl;apply kQ;exact rfl)|(apply dx;exact rfl;intro gb)|(apply cy (n' :=0) (c:=0) (A:=some _) (m:=L.length);(iterate 3 exact rfl);exact pK;(intro w hm;exact ht'.of_w0 hm);exact hl;exact sq L;omega;(simp only [maxLen];omega);intro A' cap' hA)|refine sT ?_|refine sM fun _=> ?_|(refine sC ?_ ?_<;>intro hb<;>try omega)|fail)
 ·
  have e:L.length=0:=by
   rcases Mx L.length with h|h
   ·
    exact h
   ·
    obtain ⟨g,o,rfl,_⟩:=ht3 h
    cases hb
  have e' :L= []:=Me e
  subst e'
  exact cQ (.inl rfl) Tryz.results78 rfl (.refl _) ⟨none,0,rfl,rfl⟩
 ·
  exact cQ (.inl rfl) Tryz.results78 rfl (H' := [.own A' 56 8 (0+L.length) cap' ([]++L.flatMap bg)]) mS ⟨A',cap',by rw [LZ],by rw [LZ];rfl⟩
theorem BZ (L:List Ev) (tv:Value) (w:World) (ht:Reads w tv L.length (L.flatMap aQ)) (hlen:L.length≤1000000):
  aS Tryz.prog 79 [tv] w fun v H=> ∃ A cap,v=sl A L.length cap∧H= [.own A 48 9 L.length cap (L.flatMap aQ)]:=by
 have ht' :=ht
 obtain ⟨At,ct,rfl,ht1,ht2,ht3⟩:=ht
 refine aq Tryz.func79 rfl Tryz.ntmps79 rfl ?_
 have hl:(L.flatMap aQ).length=L.length*9:=aD cX L
 refine aJ 48 9 ?_
 repeat' (first|(apply ak;exact rfl;apply kQ;exact rfl)|(apply dx;exact rfl;intro gb)|(apply cy (n' :=0) (c:=0) (A:=some _) (m:=L.length);(iterate 3 exact rfl);exact pK;(intro w hm;exact ht'.of_w0 hm);exact hl;exact sr L;omega;(simp only [maxLen];omega);intro A' cap' hA)|refine sT ?_|refine sM fun _=> ?_|(refine sC ?_ ?_<;>intro hb<;>try omega)|fail)
 ·
  have e:L.length=0:=by
   rcases Mx L.length with h|h
   ·
    exact h
   ·
    obtain ⟨g,o,rfl,_⟩:=ht3 h
    cases hb
  have e' :L= []:=Me e
  subst e'
  exact cQ (.inl rfl) Tryz.results79 rfl (.refl _) ⟨none,0,rfl,rfl⟩
 ·
  exact cQ (.inl rfl) Tryz.results79 rfl (H' := [.own A' 48 9 (0+L.length) cap' ([]++L.flatMap aQ)]) mS ⟨A',cap',by rw [LZ],by rw [LZ];rfl⟩
theorem BV (L:List Rv) (tv:Value) (w:World) (ht:Reads w tv L.length (L.flatMap bu)) (hlen:L.length≤1000000):
  aS Tryz.prog 80 [tv] w fun v H=> ∃ A cap,v=sl A L.length cap∧H= [.own A 70 11 L.length cap (L.flatMap bu)]:=by
 have ht' :=ht
 obtain ⟨At,ct,rfl,ht1,ht2,ht3⟩:=ht
 refine aq Tryz.func80 rfl Tryz.ntmps80 rfl ?_
 have hl:(L.flatMap bu).length=L.length*11:=aD cW L
 refine aJ 70 11 ?_
 repeat' (first|(apply ak;exact rfl;apply kQ;exact rfl)|(apply dx;exact rfl;intro gb)|(apply cy (n' :=0) (c:=0) (A:=some _) (m:=L.length);(iterate 3 exact rfl);exact pK;(intro w hm;exact ht'.of_w0 hm);exact hl;exact sm L;omega;(simp only [maxLen];omega);intro A' cap' hA)|refine sT ?_|refine sM fun _=> ?_|(refine sC ?_ ?_<;>intro hb<;>try omega)|fail)
 ·
  have e:L.length=0:=by
   rcases Mx L.length with h|h
   ·
    exact h
   ·
    obtain ⟨g,o,rfl,_⟩:=ht3 h
    cases hb
  have e' :L= []:=Me e
  subst e'
  exact cQ (.inl rfl) Tryz.results80 rfl (.refl _) ⟨none,0,rfl,rfl⟩
 ·
  exact cQ (.inl rfl) Tryz.results80 rfl (H' := [.own A' 70 11 (0+L.length) cap' ([]++L.flatMap bu)]) mS ⟨A',cap',by rw [LZ],by rw [LZ];rfl⟩
theorem BT (L M:List Et) (lv mv:Value) (w:World) (hl:Reads w lv L.length (L.flatMap aH)) (hm:Reads w mv M.length (M.flatMap aH)):
  ay Tryz.prog 69 [lv,mv] w (.bool (decide (L=M))):=by
 obtain ⟨Al,cl,rfl,hl1,hl2,hl3⟩:=hl
 obtain ⟨Am,cm,rfl,hm1,hm2,hm3⟩:=hm
 refine aq Tryz.func69 rfl Tryz.ntmps69 rfl ?_
 by_cases hlen:L.length=M.length
 ·
  repeat' (first|refine sT ?_|refine sS ?_|refine sM fun _=> ?_|(refine sC ?_ ?_<;>intro hb<;>try omega)|fail)
  refine ax [0,1,12] rfl (fun i:Nat=> [(13,.int .i64 (i:Int))]) (fun _=> []) (fun i=>i≤L.length∧decide (L=M)=decide (L.drop i=M.drop i)) (fun i=>L.length - i) 0 ⟨by omega,rfl⟩ ?_ ?_ ?_
  ·
   exact sB
  ·
   exact mS
  ·
   rintro i ⟨hi,hrec⟩
   by_cases hlt:i<L.length
   ·
    have hlt2:i<M.length:=by omega
    obtain ⟨gl,ol,rfl,hrl⟩:=hl3 (by omega)
    obtain ⟨gm,om,rfl,hrm⟩:=hm3 (by omega)
    have he1:=hrl.elem aW i hlt
    have he2:=hrm.elem aW i hlt2
    rw [gR hlt hlt2] at hrec
    repeat' (first|(apply aK;exact rfl;apply aj;exact rfl;exact rfl;(first|exact hlt|exact hlt2))|(apply aK;exact rfl;apply aA;exact rfl;(first|exact he1|exact he2);exact rfl)|(apply aK;exact rfl;apply Co;exact rfl;exact rfl)|(apply ak;exact rfl;apply dr;exact rfl;exact rfl;(simp only [maxLen] at*;omega))|refine sT ?_|refine sS ?_|refine sQ ?_|refine sD ?_|refine sM fun _=> ?_|(refine sC ?_ ?_<;>intro hb<;>try omega)|(refine sCQ ?_ ?_<;>intro hb<;>try omega)|fail)
    all_goals first
     |(exfalso;omega)
     |((refine rT1 ?_);rw [hrec];simp_all;done)
     |(refine ⟨i+1,⟨by omega,?_⟩,by omega,by exact sB,by exact sB,by exact mS⟩;rw [hrec];simp_all;done)
     |trace_state
   ·
    have e:i=L.length:=by omega
    subst e
    repeat' (first|refine sT ?_|refine sS ?_|refine sM fun _=> ?_|(refine sC ?_ ?_<;>intro hb<;>try omega)|fail)
    (refine rT1 ?_)
    rw [hrec,LU,hlen,LU]
    rfl
 ·
  repeat' (first|refine sT ?_|refine sS ?_|refine sM fun _=> ?_|(refine sC ?_ ?_<;>intro hb<;>try omega)|fail)
  (refine rT1 ?_)
  rw [decide_eq_false]
  intro e
  exact hlen (congrArg List.length e)
theorem BQ (L M:List Rl) (lv mv:Value) (w:World) (hl:Reads w lv L.length (L.flatMap bh)) (hm:Reads w mv M.length (M.flatMap bh)):
  ay Tryz.prog 70 [lv,mv] w (.bool (decide (L=M))):=by
 obtain ⟨Al,cl,rfl,hl1,hl2,hl3⟩:=hl
 obtain ⟨Am,cm,rfl,hm1,hm2,hm3⟩:=hm
 refine aq Tryz.func70 rfl Tryz.ntmps70 rfl ?_
 by_cases hlen:L.length=M.length
 ·
  repeat' (first|refine sT ?_|refine sS ?_|refine sM fun _=> ?_|(refine sC ?_ ?_<;>intro hb<;>try omega)|fail)
  refine ax [0,1,12] rfl (fun i:Nat=> [(13,.int .i64 (i:Int))]) (fun _=> []) (fun i=>i≤L.length∧decide (L=M)=decide (L.drop i=M.drop i)) (fun i=>L.length - i) 0 ⟨by omega,rfl⟩ ?_ ?_ ?_
  ·
   exact sB
  ·
   exact mS
  ·
   rintro i ⟨hi,hrec⟩
   by_cases hlt:i<L.length
   ·
    have hlt2:i<M.length:=by omega
    obtain ⟨gl,ol,rfl,hrl⟩:=hl3 (by omega)
    obtain ⟨gm,om,rfl,hrm⟩:=hm3 (by omega)
    have he1:=hrl.elem bX i hlt
    have he2:=hrm.elem bX i hlt2
    rw [gR hlt hlt2,← yY] at hrec
    repeat' (first|(apply aK;exact rfl;apply aj;exact rfl;exact rfl;(first|exact hlt|exact hlt2))|(apply aK;exact rfl;apply aA;exact rfl;(first|exact he1|exact he2);exact rfl)|(apply aK;exact rfl;apply Ck;exact rfl;exact rfl)|(apply ak;exact rfl;apply dr;exact rfl;exact rfl;(simp only [maxLen] at*;omega))|refine sT ?_|refine sS ?_|refine sQ ?_|refine sD ?_|refine sM fun _=> ?_|(refine sC ?_ ?_<;>intro hb<;>try omega)|(refine sCQ ?_ ?_<;>intro hb<;>try omega)|fail)
    all_goals first
     |(exfalso;omega)
     |((refine rT1 ?_);rw [hrec];simp_all;done)
     |(refine ⟨i+1,⟨by omega,?_⟩,by omega,by exact sB,by exact sB,by exact mS⟩;rw [hrec];simp_all;done)
     |trace_state
   ·
    have e:i=L.length:=by omega
    subst e
    repeat' (first|refine sT ?_|refine sS ?_|refine sM fun _=> ?_|(refine sC ?_ ?_<;>intro hb<;>try omega)|fail)
    (refine rT1 ?_)
    rw [hrec,LU,hlen,LU]
    rfl
 ·
  repeat' (first|refine sT ?_|refine sS ?_|refine sM fun _=> ?_|(refine sC ?_ ?_<;>intro hb<;>try omega)|fail)
  (refine rT1 ?_)
  rw [decide_eq_false]
  intro e
  exact hlen (congrArg List.length e)
theorem BR (L M:List Gn) (lv mv:Value) (w:World) (hl:Reads w lv L.length (L.flatMap bg)) (hm:Reads w mv M.length (M.flatMap bg)):
  ay Tryz.prog 71 [lv,mv] w (.bool (decide (L=M))):=by
 obtain ⟨Al,cl,rfl,hl1,hl2,hl3⟩:=hl
 obtain ⟨Am,cm,rfl,hm1,hm2,hm3⟩:=hm
 refine aq Tryz.func71 rfl Tryz.ntmps71 rfl ?_
 by_cases hlen:L.length=M.length
 ·
  repeat' (first|refine sT ?_|refine sS ?_|refine sM fun _=> ?_|(refine sC ?_ ?_<;>intro hb<;>try omega)|fail)
  refine ax [0,1,12] rfl (fun i:Nat=> [(13,.int .i64 (i:Int))]) (fun _=> []) (fun i=>i≤L.length∧decide (L=M)=decide (L.drop i=M.drop i)) (fun i=>L.length - i) 0 ⟨by omega,rfl⟩ ?_ ?_ ?_
  ·
   exact sB
  ·
   exact mS
  ·
   rintro i ⟨hi,hrec⟩
   by_cases hlt:i<L.length
   ·
    have hlt2:i<M.length:=by omega
    obtain ⟨gl,ol,rfl,hrl⟩:=hl3 (by omega)
    obtain ⟨gm,om,rfl,hrm⟩:=hm3 (by omega)
    have he1:=hrl.elem bR i hlt
    have he2:=hrm.elem bR i hlt2
    rw [gR hlt hlt2,← y5] at hrec
    repeat' (first|(apply aK;exact rfl;apply aj;exact rfl;exact rfl;(first|exact hlt|exact hlt2))|(apply aK;exact rfl;apply aA;exact rfl;(first|exact he1|exact he2);exact rfl)|(apply aK;exact rfl;apply Cm;exact rfl;exact rfl)|(apply ak;exact rfl;apply dr;exact rfl;exact rfl;(simp only [maxLen] at*;omega))|refine sT ?_|refine sS ?_|refine sQ ?_|refine sD ?_|refine sM fun _=> ?_|(refine sC ?_ ?_<;>intro hb<;>try omega)|(refine sCQ ?_ ?_<;>intro hb<;>try omega)|fail)
    all_goals first
     |(exfalso;omega)
     |((refine rT1 ?_);rw [hrec];simp_all;done)
     |(refine ⟨i+1,⟨by omega,?_⟩,by omega,by exact sB,by exact sB,by exact mS⟩;rw [hrec];simp_all;done)
     |trace_state
   ·
    have e:i=L.length:=by omega
    subst e
    repeat' (first|refine sT ?_|refine sS ?_|refine sM fun _=> ?_|(refine sC ?_ ?_<;>intro hb<;>try omega)|fail)
    (refine rT1 ?_)
    rw [hrec,LU,hlen,LU]
    rfl
 ·
  repeat' (first|refine sT ?_|refine sS ?_|refine sM fun _=> ?_|(refine sC ?_ ?_<;>intro hb<;>try omega)|fail)
  (refine rT1 ?_)
  rw [decide_eq_false]
  intro e
  exact hlen (congrArg List.length e)
theorem BS (L M:List Ev) (lv mv:Value) (w:World) (hl:Reads w lv L.length (L.flatMap aQ)) (hm:Reads w mv M.length (M.flatMap aQ)):
  ay Tryz.prog 72 [lv,mv] w (.bool (decide (L=M))):=by
 obtain ⟨Al,cl,rfl,hl1,hl2,hl3⟩:=hl
 obtain ⟨Am,cm,rfl,hm1,hm2,hm3⟩:=hm
 refine aq Tryz.func72 rfl Tryz.ntmps72 rfl ?_
 by_cases hlen:L.length=M.length
 ·
  repeat' (first|refine sT ?_|refine sS ?_|refine sM fun _=> ?_|(refine sC ?_ ?_<;>intro hb<;>try omega)|fail)
  refine ax [0,1,12] rfl (fun i:Nat=> [(13,.int .i64 (i:Int))]) (fun _=> []) (fun i=>i≤L.length∧decide (L=M)=decide (L.drop i=M.drop i)) (fun i=>L.length - i) 0 ⟨by omega,rfl⟩ ?_ ?_ ?_
  ·
   exact sB
  ·
   exact mS
  ·
   rintro i ⟨hi,hrec⟩
   by_cases hlt:i<L.length
   ·
    have hlt2:i<M.length:=by omega
    obtain ⟨gl,ol,rfl,hrl⟩:=hl3 (by omega)
    obtain ⟨gm,om,rfl,hrm⟩:=hm3 (by omega)
    have he1:=hrl.elem cX i hlt
    have he2:=hrm.elem cX i hlt2
    rw [gR hlt hlt2,← y7] at hrec
    repeat' (first|(apply aK;exact rfl;apply aj;exact rfl;exact rfl;(first|exact hlt|exact hlt2))|(apply aK;exact rfl;apply aA;exact rfl;(first|exact he1|exact he2);exact rfl)|(apply aK;exact rfl;apply Cn;exact rfl;exact rfl)|(apply ak;exact rfl;apply dr;exact rfl;exact rfl;(simp only [maxLen] at*;omega))|refine sT ?_|refine sS ?_|refine sQ ?_|refine sD ?_|refine sM fun _=> ?_|(refine sC ?_ ?_<;>intro hb<;>try omega)|(refine sCQ ?_ ?_<;>intro hb<;>try omega)|fail)
    all_goals first
     |(exfalso;omega)
     |((refine rT1 ?_);rw [hrec];simp_all;done)
     |(refine ⟨i+1,⟨by omega,?_⟩,by omega,by exact sB,by exact sB,by exact mS⟩;rw [hrec];simp_all;done)
     |trace_state
   ·
    have e:i=L.length:=by omega
    subst e
    repeat' (first|refine sT ?_|refine sS ?_|refine sM fun _=> ?_|(refine sC ?_ ?_<;>intro hb<;>try omega)|fail)
    (refine rT1 ?_)
    rw [hrec,LU,hlen,LU]
    rfl
 ·
  repeat' (first|refine sT ?_|refine sS ?_|refine sM fun _=> ?_|(refine sC ?_ ?_<;>intro hb<;>try omega)|fail)
  (refine rT1 ?_)
  rw [decide_eq_false]
  intro e
  exact hlen (congrArg List.length e)
theorem BP (L M:List Rv) (lv mv:Value) (w:World) (hl:Reads w lv L.length (L.flatMap bu)) (hm:Reads w mv M.length (M.flatMap bu)):
  ay Tryz.prog 73 [lv,mv] w (.bool (decide (L=M))):=by
 obtain ⟨Al,cl,rfl,hl1,hl2,hl3⟩:=hl
 obtain ⟨Am,cm,rfl,hm1,hm2,hm3⟩:=hm
 refine aq Tryz.func73 rfl Tryz.ntmps73 rfl ?_
 by_cases hlen:L.length=M.length
 ·
  repeat' (first|refine sT ?_|refine sS ?_|refine sM fun _=> ?_|(refine sC ?_ ?_<;>intro hb<;>try omega)|fail)
  refine ax [0,1,12] rfl (fun i:Nat=> [(13,.int .i64 (i:Int))]) (fun _=> []) (fun i=>i≤L.length∧decide (L=M)=decide (L.drop i=M.drop i)) (fun i=>L.length - i) 0 ⟨by omega,rfl⟩ ?_ ?_ ?_
  ·
   exact sB
  ·
   exact mS
  ·
   rintro i ⟨hi,hrec⟩
   by_cases hlt:i<L.length
   ·
    have hlt2:i<M.length:=by omega
    obtain ⟨gl,ol,rfl,hrl⟩:=hl3 (by omega)
    obtain ⟨gm,om,rfl,hrm⟩:=hm3 (by omega)
    have he1:=hrl.elem cW i hlt
    have he2:=hrm.elem cW i hlt2
    rw [gR hlt hlt2,← yV] at hrec
    repeat' (first|(apply aK;exact rfl;apply aj;exact rfl;exact rfl;(first|exact hlt|exact hlt2))|(apply aK;exact rfl;apply aA;exact rfl;(first|exact he1|exact he2);exact rfl)|(apply aK;exact rfl;apply Cj;exact rfl;exact rfl)|(apply ak;exact rfl;apply dr;exact rfl;exact rfl;(simp only [maxLen] at*;omega))|refine sT ?_|refine sS ?_|refine sQ ?_|refine sD ?_|refine sM fun _=> ?_|(refine sC ?_ ?_<;>intro hb<;>try omega)|(refine sCQ ?_ ?_<;>intro hb<;>try omega)|fail)
    all_goals first
     |(exfalso;omega)
     |((refine rT1 ?_);rw [hrec];simp_all;done)
     |(refine ⟨i+1,⟨by omega,?_⟩,by omega,by exact sB,by exact sB,by exact mS⟩;rw [hrec];simp_all;done)
     |trace_state
   ·
    have e:i=L.length:=by omega
    subst e
    repeat' (first|refine sT ?_|refine sS ?_|refine sM fun _=> ?_|(refine sC ?_ ?_<;>intro hb<;>try omega)|fail)
    (refine rT1 ?_)
    rw [hrec,LU,hlen,LU]
    rfl
 ·
  repeat' (first|refine sT ?_|refine sS ?_|refine sM fun _=> ?_|(refine sC ?_ ?_<;>intro hb<;>try omega)|fail)
  (refine rT1 ?_)
  rw [decide_eq_false]
  intro e
  exact hlen (congrArg List.length e)
end Go.SL
