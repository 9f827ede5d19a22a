/-
  Lemmas and walks, put together: Ia Jj.
-/
import Derived.Test.YtoanpdoacdpgeaaGreatDoorKn16
set_option linter.unusedSimpArgs false
set_option linter.unusedVariables false
set_option maxRecDepth 20000
namespace Go.SL
open Go Go.Proofs
structure Cl where
 at_:Rf
 node:Int
def Ai (x:Cl):List Value:= [.int .i64 x.at_.col,.int .i64 x.at_.row,.int .i64 x.node]
structure Ev where
 step:Int
 user:Int
 kind:Int
 rect:Rct
 done:Bool
 to:BitVec 64
def aN (x:Ev):List Value:= [.int .i64 x.step,.int .i64 x.user,.int .u8 x.kind,.int .i64 x.rect.c1,.int .i64 x.rect.r1,.int .i64 x.rect.c2,.int .i64 x.rect.r2,.bool x.done,vS x.to]
theorem fk (x:Ev):(aN x).length=9:=rfl
structure Rv where
 step:Int
 call:Cl
 fn:Int
 rect:Rct
 grant:Int
 to:BitVec 64
def bD (x:Rv):List Value:= [.int .i64 x.step,.int .i64 x.call.at_.col,.int .i64 x.call.at_.row,.int .i64 x.call.node,.int .u8 x.fn,.int .i64 x.rect.c1,.int .i64 x.rect.r1,.int .i64 x.rect.c2,.int .i64 x.rect.r2,.int .i64 x.grant,vS x.to]
theorem fj (x:Rv):(bD x).length=11:=rfl
structure Ox where
 kind:Int
 user:Int
 rect:Rct
 input:ByteArray
 rd:BitVec 64
 wr:BitVec 64
 ow:BitVec 64
 fns:Int
 to:BitVec 64
 idx:Int
def bi (x:Ox):List Value:= [.int .u8 x.kind,.int .i64 x.user,.int .i64 x.rect.c1,.int .i64 x.rect.r1,.int .i64 x.rect.c2,.int .i64 x.rect.r2,.string x.input,vS x.rd,vS x.wr,vS x.ow,.int .u8 x.fns,vS x.to,.int .i64 x.idx]
theorem Fx (x:Ox):(bi x).length=13:=rfl
theorem kJ (x y:BitVec 64):((x.toNat:Int)=(y.toNat:Int))=(x=y):=propext ⟨fun h=>PL (by omega),fun h=>h ▸ rfl⟩
theorem kI (x y:BitVec 64):(x.toNat=y.toNat)=(x=y):=propext ⟨fun h=>PL h,fun h=>h ▸ rfl⟩
theorem yV (w:World) (d:Nat) (a1 a2 a3 b1 b2 b3:BitVec 64):(Op.equalIn (d+3) 35 (.agg #[.int .u64 (a1.toNat:Int),.int .u64 (a2.toNat:Int),.int .u64 (a3.toNat:Int)]) (.agg #[.int .u64 (b1.toNat:Int),.int .u64 (b2.toNat:Int),.int .u64 (b3.toNat:Int)])).run Tryz.prog w= .ok (decide (a1=b1) && decide (a2=b2) && decide (a3=b3)) w:=by
 rw [run_equalIn_agg w (d+2) 35 _ _ (by rw [Program.fieldsOf,Tryz.underlying35]) Tryz.stoodInHeld35]
 simp only [Program.fieldsOf,Tryz.underlying35]
 simp [Op.eqFields,part,go_sem,py,q9,kJ,kI]
 by_cases h1:a1=b1
 rotate_left
 ·
  simp [h1]
 by_cases h2:a2=b2
 rotate_left
 ·
  simp [h1,h2]
 by_cases h3:a3=b3<;>simp [h1,h2,h3]
def CH (a b:Rl):Bool:=eqR a.rect b.rect && (decide (a.read=b.read) && decide (a.write=b.write) && decide (a.own=b.own))
theorem z7 {a b:Rl}:CH a b=true↔a=b:=by
 obtain ⟨a0,a1,a2,a3⟩:=a
 obtain ⟨b0,b1,b2,b3⟩:=b
 simp [CH,iZ,i9,and_assoc]
instance:DecidableEq Rl:=fun a b=>decidable_of_iff (CH a b=true) z7
theorem Iq (a b:Rl):CH a b=decide (a=b):=by
 rw [NL,z7,decide_eq_true_iff]
theorem GQ (w:World) (d:Nat) (a b:Rl):(Op.equalIn (d+5) 54 (.agg (aV a).toArray) (.agg (aV b).toArray)).run Tryz.prog w= .ok (CH a b) w:=by
 rw [run_equalIn_agg w (d+4) 54 _ _ (by rw [Program.fieldsOf,Tryz.underlying54]) Tryz.stoodInHeld54]
 simp only [Program.fieldsOf,Tryz.underlying54]
 have hq_R: ∀ w,(Op.equalIn (d+4) 32 (.agg #[.int .i64 a.rect.c1,.int .i64 a.rect.r1,.int .i64 a.rect.c2,.int .i64 a.rect.r2]) (.agg #[.int .i64 b.rect.c1,.int .i64 b.rect.r1,.int .i64 b.rect.c2,.int .i64 b.rect.r2])).run Tryz.prog w= .ok (eqR a.rect b.rect) w:=fun w=>jA w (d+1) a.rect b.rect
 have hq_T: ∀ w,(Op.equalIn (d+4) 35 (.agg #[.int .u64 (a.read.toNat:Int),.int .u64 (a.write.toNat:Int),.int .u64 (a.own.toNat:Int)]) (.agg #[.int .u64 (b.read.toNat:Int),.int .u64 (b.write.toNat:Int),.int .u64 (b.own.toNat:Int)])).run Tryz.prog w= .ok (decide (a.read=b.read) && decide (a.write=b.write) && decide (a.own=b.own)) w:=fun w=>yV w (d+1) a.read a.write a.own b.read b.write b.own
 simp [Op.eqFields,aV,vS,part,go_sem,py,q9,kJ,kI,CH,hq_R,hq_T]
 by_cases h1:eqR a.rect b.rect=true
 rotate_left
 ·
  simp [h1]
 by_cases h2:a.read=b.read
 rotate_left
 ·
  simp [h1,h2]
 by_cases h3:a.write=b.write
 rotate_left
 ·
  simp [h1,h2,h3]
 by_cases h4:a.own=b.own
 rotate_left
 ·
  simp [h1,h2,h3,h4]
 simp [h1,h2,h3,h4]
def CI (a b:Gn):Bool:=eqR a.rect b.rect && decide (a.fns=b.fns) && decide (a.to=b.to) && decide (a.by_=b.by_) && decide (a.rev=b.rev)
theorem Aa {a b:Gn}:CI a b=true↔a=b:=by
 obtain ⟨a0,a1,a2,a3,a4⟩:=a
 obtain ⟨b0,b1,b2,b3,b4⟩:=b
 simp [CI,iZ,i9,and_assoc]
instance:DecidableEq Gn:=fun a b=>decidable_of_iff (CI a b=true) Aa
theorem Iu (a b:Gn):CI a b=decide (a=b):=by
 rw [NL,Aa,decide_eq_true_iff]
theorem GU (w:World) (d:Nat) (a b:Gn):(Op.equalIn (d+5) 56 (.agg (aW a).toArray) (.agg (aW b).toArray)).run Tryz.prog w= .ok (CI a b) w:=by
 rw [run_equalIn_agg w (d+4) 56 _ _ (by rw [Program.fieldsOf,Tryz.underlying56]) Tryz.stoodInHeld56]
 simp only [Program.fieldsOf,Tryz.underlying56]
 have hq_R: ∀ w,(Op.equalIn (d+4) 32 (.agg #[.int .i64 a.rect.c1,.int .i64 a.rect.r1,.int .i64 a.rect.c2,.int .i64 a.rect.r2]) (.agg #[.int .i64 b.rect.c1,.int .i64 b.rect.r1,.int .i64 b.rect.c2,.int .i64 b.rect.r2])).run Tryz.prog w= .ok (eqR a.rect b.rect) w:=fun w=>jA w (d+1) a.rect b.rect
 simp [Op.eqFields,aW,vS,part,go_sem,py,q9,kJ,kI,CI,hq_R]
 by_cases h1:eqR a.rect b.rect=true
 rotate_left
 ·
  simp [h1]
 by_cases h2:a.fns=b.fns
 rotate_left
 ·
  simp [h1,h2]
 by_cases h3:a.to=b.to
 rotate_left
 ·
  simp [h1,h2,h3]
 by_cases h4:a.by_=b.by_
 rotate_left
 ·
  simp [h1,h2,h3,h4]
 by_cases h5:a.rev=b.rev
 rotate_left
 ·
  simp [h1,h2,h3,h4,h5]
 simp [h1,h2,h3,h4,h5]
def CK (a b:Cl):Bool:=eqF a.at_ b.at_ && decide (a.node=b.node)
theorem Iw {a b:Cl}:CK a b=true↔a=b:=by
 obtain ⟨a0,a1⟩:=a
 obtain ⟨b0,b1⟩:=b
 simp [CK,iZ,i9,and_assoc]
theorem GY (w:World) (d:Nat) (a b:Cl):(Op.equalIn (d+5) 60 (.agg (Ai a).toArray) (.agg (Ai b).toArray)).run Tryz.prog w= .ok (CK a b) w:=by
 rw [run_equalIn_agg w (d+4) 60 _ _ (by rw [Program.fieldsOf,Tryz.underlying60]) Tryz.stoodInHeld60]
 simp only [Program.fieldsOf,Tryz.underlying60]
 have hq_F: ∀ w,(Op.equalIn (d+4) 50 (.agg #[.int .i64 a.at_.col,.int .i64 a.at_.row]) (.agg #[.int .i64 b.at_.col,.int .i64 b.at_.row])).run Tryz.prog w= .ok (eqF a.at_ b.at_) w:=fun w=>rp w (d+1) a.at_ b.at_
 simp [Op.eqFields,Ai,vS,part,go_sem,py,q9,kJ,kI,CK,hq_F]
 by_cases h1:eqF a.at_ b.at_=true
 rotate_left
 ·
  simp [h1]
 by_cases h2:a.node=b.node
 rotate_left
 ·
  simp [h1,h2]
 simp [h1,h2]
def CJ (a b:Ev):Bool:=decide (a.step=b.step) && decide (a.user=b.user) && decide (a.kind=b.kind) && eqR a.rect b.rect && decide (a.done=b.done) && decide (a.to=b.to)
theorem Ac {a b:Ev}:CJ a b=true↔a=b:=by
 obtain ⟨a0,a1,a2,a3,a4,a5⟩:=a
 obtain ⟨b0,b1,b2,b3,b4,b5⟩:=b
 simp [CJ,iZ,i9,and_assoc]
instance:DecidableEq Ev:=fun a b=>decidable_of_iff (CJ a b=true) Ac
theorem Iv (a b:Ev):CJ a b=decide (a=b):=by
 rw [NL,Ac,decide_eq_true_iff]
theorem GV (w:World) (d:Nat) (a b:Ev):(Op.equalIn (d+5) 58 (.agg (aN a).toArray) (.agg (aN b).toArray)).run Tryz.prog w= .ok (CJ a b) w:=by
 rw [run_equalIn_agg w (d+4) 58 _ _ (by rw [Program.fieldsOf,Tryz.underlying58]) Tryz.stoodInHeld58]
 simp only [Program.fieldsOf,Tryz.underlying58]
 have hq_R: ∀ w,(Op.equalIn (d+4) 32 (.agg #[.int .i64 a.rect.c1,.int .i64 a.rect.r1,.int .i64 a.rect.c2,.int .i64 a.rect.r2]) (.agg #[.int .i64 b.rect.c1,.int .i64 b.rect.r1,.int .i64 b.rect.c2,.int .i64 b.rect.r2])).run Tryz.prog w= .ok (eqR a.rect b.rect) w:=fun w=>jA w (d+1) a.rect b.rect
 simp [Op.eqFields,aN,vS,part,go_sem,py,q9,kJ,kI,CJ,hq_R]
 by_cases h1:a.step=b.step
 rotate_left
 ·
  simp [h1]
 by_cases h2:a.user=b.user
 rotate_left
 ·
  simp [h1,h2]
 by_cases h3:a.kind=b.kind
 rotate_left
 ·
  simp [h1,h2,h3]
 by_cases h4:eqR a.rect b.rect=true
 rotate_left
 ·
  simp [h1,h2,h3,h4]
 by_cases h5:a.done=b.done
 rotate_left
 ·
  simp [h1,h2,h3,h4,h5]
 by_cases h6:a.to=b.to
 rotate_left
 ·
  simp [h1,h2,h3,h4,h5,h6]
 simp [h1,h2,h3,h4,h5,h6]
def CG (a b:Rv):Bool:=decide (a.step=b.step) && CK a.call b.call && decide (a.fn=b.fn) && eqR a.rect b.rect && decide (a.grant=b.grant) && decide (a.to=b.to)
theorem z6 {a b:Rv}:CG a b=true↔a=b:=by
 obtain ⟨a0,a1,a2,a3,a4,a5⟩:=a
 obtain ⟨b0,b1,b2,b3,b4,b5⟩:=b
 simp [CG,iZ,i9,Iw,and_assoc]
instance:DecidableEq Rv:=fun a b=>decidable_of_iff (CG a b=true) z6
theorem Ip (a b:Rv):CG a b=decide (a=b):=by
 rw [NL,z6,decide_eq_true_iff]
theorem GP (w:World) (d:Nat) (a b:Rv):(Op.equalIn (d+7) 62 (.agg (bD a).toArray) (.agg (bD b).toArray)).run Tryz.prog w= .ok (CG a b) w:=by
 rw [run_equalIn_agg w (d+6) 62 _ _ (by rw [Program.fieldsOf,Tryz.underlying62]) Tryz.stoodInHeld62]
 simp only [Program.fieldsOf,Tryz.underlying62]
 have hq_C: ∀ w,(Op.equalIn (d+6) 60 (.agg #[.int .i64 a.call.at_.col,.int .i64 a.call.at_.row,.int .i64 a.call.node]) (.agg #[.int .i64 b.call.at_.col,.int .i64 b.call.at_.row,.int .i64 b.call.node])).run Tryz.prog w= .ok (CK a.call b.call) w:=fun w=>GY w (d+1) a.call b.call
 have hq_R: ∀ w,(Op.equalIn (d+6) 32 (.agg #[.int .i64 a.rect.c1,.int .i64 a.rect.r1,.int .i64 a.rect.c2,.int .i64 a.rect.r2]) (.agg #[.int .i64 b.rect.c1,.int .i64 b.rect.r1,.int .i64 b.rect.c2,.int .i64 b.rect.r2])).run Tryz.prog w= .ok (eqR a.rect b.rect) w:=fun w=>jA w (d+3) a.rect b.rect
 simp [Op.eqFields,bD,vS,part,go_sem,py,q9,kJ,kI,CG,hq_C,hq_R]
 by_cases h1:a.step=b.step
 rotate_left
 ·
  simp [h1]
 by_cases h2:CK a.call b.call=true
 rotate_left
 ·
  simp [h1,h2]
 by_cases h3:a.fn=b.fn
 rotate_left
 ·
  simp [h1,h2,h3]
 by_cases h4:eqR a.rect b.rect=true
 rotate_left
 ·
  simp [h1,h2,h3,h4]
 by_cases h5:a.grant=b.grant
 rotate_left
 ·
  simp [h1,h2,h3,h4,h5]
 by_cases h6:a.to=b.to
 rotate_left
 ·
  simp [h1,h2,h3,h4,h5,h6]
 simp [h1,h2,h3,h4,h5,h6]
def z8 (a b:Ox):Bool:=decide (a.kind=b.kind) && decide (a.user=b.user) && eqR a.rect b.rect && decide (a.input=b.input) && (decide (a.rd=b.rd) && decide (a.wr=b.wr) && decide (a.ow=b.ow)) && decide (a.fns=b.fns) && decide (a.to=b.to) && decide (a.idx=b.idx)
theorem tX {a b:Ox}:z8 a b=true↔a=b:=by
 obtain ⟨a0,a1,a2,a3,a4,a5,a6,a7,a8,a9⟩:=a
 obtain ⟨b0,b1,b2,b3,b4,b5,b6,b7,b8,b9⟩:=b
 simp [z8,iZ,i9,and_assoc]
instance:DecidableEq Ox:=fun a b=>decidable_of_iff (z8 a b=true) tX
theorem GR (w:World) (d:Nat) (a b:Ox):(Op.equalIn (d+5) 37 (.agg (bi a).toArray) (.agg (bi b).toArray)).run Tryz.prog w= .ok (z8 a b) w:=by
 rw [run_equalIn_agg w (d+4) 37 _ _ (by rw [Program.fieldsOf,Tryz.underlying37]) Tryz.stoodInHeld37]
 simp only [Program.fieldsOf,Tryz.underlying37]
 have hq_R: ∀ w,(Op.equalIn (d+4) 32 (.agg #[.int .i64 a.rect.c1,.int .i64 a.rect.r1,.int .i64 a.rect.c2,.int .i64 a.rect.r2]) (.agg #[.int .i64 b.rect.c1,.int .i64 b.rect.r1,.int .i64 b.rect.c2,.int .i64 b.rect.r2])).run Tryz.prog w= .ok (eqR a.rect b.rect) w:=fun w=>jA w (d+1) a.rect b.rect
 have hq_T: ∀ w,(Op.equalIn (d+4) 35 (.agg #[.int .u64 (a.rd.toNat:Int),.int .u64 (a.wr.toNat:Int),.int .u64 (a.ow.toNat:Int)]) (.agg #[.int .u64 (b.rd.toNat:Int),.int .u64 (b.wr.toNat:Int),.int .u64 (b.ow.toNat:Int)])).run Tryz.prog w= .ok (decide (a.rd=b.rd) && decide (a.wr=b.wr) && decide (a.ow=b.ow)) w:=fun w=>yV w (d+1) a.rd a.wr a.ow b.rd b.wr b.ow
 simp [Op.eqFields,bi,vS,part,go_sem,py,q9,kJ,kI,z8,hq_R,hq_T]
 by_cases h1:a.kind=b.kind
 rotate_left
 ·
  simp [h1]
 by_cases h2:a.user=b.user
 rotate_left
 ·
  simp [h1,h2]
 by_cases h3:eqR a.rect b.rect=true
 rotate_left
 ·
  simp [h1,h2,h3]
 by_cases h4:a.input=b.input
 rotate_left
 ·
  simp [h1,h2,h3,h4]
 by_cases h5:a.rd=b.rd
 rotate_left
 ·
  simp [h1,h2,h3,h4,h5]
 by_cases h6:a.wr=b.wr
 rotate_left
 ·
  simp [h1,h2,h3,h4,h5,h6]
 by_cases h7:a.ow=b.ow
 rotate_left
 ·
  simp [h1,h2,h3,h4,h5,h6,h7]
 by_cases h8:a.fns=b.fns
 rotate_left
 ·
  simp [h1,h2,h3,h4,h5,h6,h7,h8]
 by_cases h9:a.to=b.to
 rotate_left
 ·
  simp [h1,h2,h3,h4,h5,h6,h7,h8,h9]
 by_cases h10:a.idx=b.idx
 rotate_left
 ·
  simp [h1,h2,h3,h4,h5,h6,h7,h8,h9,h10]
 simp [h1,h2,h3,h4,h5,h6,h7,h8,h9,h10]
section
variable {w0:World} {s:az} {H:List Blk} {ty t' :TypeId} {x y:Operand}
theorem JC {a b:Rl} (hx:ev s x=some (.agg (aV a).toArray)) (hy:ev s y=some (.agg (aV b).toArray)):VOp Tryz.prog w0 s H (.binOp .neq 54 x y t') ty (.bool (!CH a b)):=fun ρ w _ _ _ _ hρ _=>by
 have h:=GQ w 9995 a b
 simp only [Nat.reduceAdd] at h
 simp only [execOp,hρ x _ hx,hρ y _ hy,Sem.run_bind,run_eqGuard_agg w _ _ _ _ _ _ Tryz.eqGuardType54,Result.andThen_ok,run_neq_struct,h,Sem.run_pure]
theorem JD {a b:Gn} (hx:ev s x=some (.agg (aW a).toArray)) (hy:ev s y=some (.agg (aW b).toArray)):VOp Tryz.prog w0 s H (.binOp .neq 56 x y t') ty (.bool (!CI a b)):=fun ρ w _ _ _ _ hρ _=>by
 have h:=GU w 9995 a b
 simp only [Nat.reduceAdd] at h
 simp only [execOp,hρ x _ hx,hρ y _ hy,Sem.run_bind,run_eqGuard_agg w _ _ _ _ _ _ Tryz.eqGuardType56,Result.andThen_ok,run_neq_struct,h,Sem.run_pure]
theorem JE {a b:Ev} (hx:ev s x=some (.agg (aN a).toArray)) (hy:ev s y=some (.agg (aN b).toArray)):VOp Tryz.prog w0 s H (.binOp .neq 58 x y t') ty (.bool (!CJ a b)):=fun ρ w _ _ _ _ hρ _=>by
 have h:=GV w 9995 a b
 simp only [Nat.reduceAdd] at h
 simp only [execOp,hρ x _ hx,hρ y _ hy,Sem.run_bind,run_eqGuard_agg w _ _ _ _ _ _ Tryz.eqGuardType58,Result.andThen_ok,run_neq_struct,h,Sem.run_pure]
theorem JB {a b:Rv} (hx:ev s x=some (.agg (bD a).toArray)) (hy:ev s y=some (.agg (bD b).toArray)):VOp Tryz.prog w0 s H (.binOp .neq 62 x y t') ty (.bool (!CG a b)):=fun ρ w _ _ _ _ hρ _=>by
 have h:=GP w 9993 a b
 simp only [Nat.reduceAdd] at h
 simp only [execOp,hρ x _ hx,hρ y _ hy,Sem.run_bind,run_eqGuard_agg w _ _ _ _ _ _ Tryz.eqGuardType62,Result.andThen_ok,run_neq_struct,h,Sem.run_pure]
theorem wU {a b:Ox} (hx:ev s x=some (.agg (bi a).toArray)) (hy:ev s y=some (.agg (bi b).toArray)):VOp Tryz.prog w0 s H (.binOp .neq 37 x y t') ty (.bool (!z8 a b)):=fun ρ w _ _ _ _ hρ _=>by
 have h:=GR w 9995 a b
 simp only [Nat.reduceAdd] at h
 simp only [execOp,hρ x _ hx,hρ y _ hy,Sem.run_bind,run_eqGuard_agg w _ _ _ _ _ _ Tryz.eqGuardType37,Result.andThen_ok,run_neq_struct,h,Sem.run_pure]
end
theorem uf (L:List Rl): ∀ u∈L.flatMap aV,u.oneCell' =true:=fun u hu=>by
 obtain ⟨a,_,h⟩:=NU.1 hu
 simp only [aV,NA,OL,or_false] at h
 rcases h with rfl|rfl|rfl|rfl|rfl|rfl|rfl<;>rfl
theorem uh (L:List Ev): ∀ u∈L.flatMap aN,u.oneCell' =true:=fun u hu=>by
 obtain ⟨a,_,h⟩:=NU.1 hu
 simp only [aN,NA,OL,or_false] at h
 rcases h with rfl|rfl|rfl|rfl|rfl|rfl|rfl|rfl|rfl<;>rfl
theorem ud (L:List Rv): ∀ u∈L.flatMap bD,u.oneCell' =true:=fun u hu=>by
 obtain ⟨a,_,h⟩:=NU.1 hu
 simp only [bD,NA,OL,or_false] at h
 rcases h with rfl|rfl|rfl|rfl|rfl|rfl|rfl|rfl|rfl|rfl|rfl<;>rfl
end Go.SL
namespace Go.SL
open Go Go.Proofs
attribute [local irreducible] W WL WQ WG WA WX WLI WR WT WC WE VOp RW thn blk bE scp ba bo bL aP FnIn FnP ceP
theorem AV (L M:List Ev) (lv mv:Value) (w:World) (hl:Reads w lv L.length (L.flatMap aN)) (hm:Reads w mv M.length (M.flatMap aN)):
  ay Tryz.prog 56 [lv,mv] w (.bool (decide (L=M))):=by
 obtain ⟨Al,cl,rfl,hl1,hl2,hl3⟩:=hl
 obtain ⟨Am,cm,rfl,hm1,hm2,hm3⟩:=hm
 refine aq Tryz.func56 rfl Tryz.ntmps56 rfl ?_
 by_cases hlen:L.length=M.length
 ·
  repeat' (first|refine sT ?_|refine sS ?_|refine sM fun _=> ?_|(refine sC ?_ ?_<;>intro hb<;>try omega)|fail)
  refine fq (fun i:Nat=> [(0,.slice Al L.length cl),(1,.slice Am M.length cm),(5,.int .i64 (i:Int))]) (fun _=> []) (fun i=>i≤L.length∧decide (L=M)=decide (L.drop i=M.drop i)) (fun i=>L.length - i) 0 ⟨by omega,rfl⟩ ?_ ?_ ?_
  ·
   exact sB
  ·
   exact mS
  ·
   rintro i ⟨hi,hrec⟩
   by_cases hlt:i<L.length
   ·
    have hlt2:i<M.length:=by omega
    obtain ⟨gl,ol,rfl,hrl⟩:=hl3 (by omega)
    obtain ⟨gm,om,rfl,hrm⟩:=hm3 (by omega)
    have he1:=hrl.elem fk i hlt
    have he2:=hrm.elem fk i hlt2
    rw [o6 hlt hlt2,← Iv] at hrec
    repeat' (first|(apply aS;exact rfl;apply aj;exact rfl;exact rfl;(first|exact hlt|exact hlt2))|(apply aS;exact rfl;apply aA;exact rfl;(first|exact he1|exact he2);exact rfl)|(apply aS;exact rfl;apply JE;exact rfl;exact rfl)|(apply ak;exact rfl;apply gj;exact rfl;exact rfl;(simp only [maxLen] at*;omega))|refine sT ?_|refine sS ?_|refine sQ ?_|refine sD ?_|refine sM fun _=> ?_|(refine sC ?_ ?_<;>intro hb<;>try omega)|(refine sCQ ?_ ?_<;>intro hb<;>try omega)|fail)
    all_goals first
     |(exfalso;omega)
     |((refine rT1 ?_);rw [hrec];simp_all;done)
     |(refine ⟨i+1,⟨by omega,?_⟩,by omega,by exact sB,by exact mS⟩;rw [hrec];simp_all;done)
     |trace_state
   ·
    have e:i=L.length:=by omega
    subst e
    repeat' (first|refine sT ?_|refine sS ?_|refine sM fun _=> ?_|(refine sC ?_ ?_<;>intro hb<;>try omega)|fail)
    (refine rT1 ?_)
    rw [hrec,NF,hlen,NF]
    rfl
 ·
  repeat' (first|refine sT ?_|refine sS ?_|refine sM fun _=> ?_|(refine sC ?_ ?_<;>intro hb<;>try omega)|fail)
  (refine rT1 ?_)
  rw [decide_eq_false]
  intro e
  exact hlen (congrArg List.length e)
theorem AU (L M:List Gn) (lv mv:Value) (w:World) (hl:Reads w lv L.length (L.flatMap aW)) (hm:Reads w mv M.length (M.flatMap aW)):
  ay Tryz.prog 55 [lv,mv] w (.bool (decide (L=M))):=by
 obtain ⟨Al,cl,rfl,hl1,hl2,hl3⟩:=hl
 obtain ⟨Am,cm,rfl,hm1,hm2,hm3⟩:=hm
 refine aq Tryz.func55 rfl Tryz.ntmps55 rfl ?_
 by_cases hlen:L.length=M.length
 ·
  repeat' (first|refine sT ?_|refine sS ?_|refine sM fun _=> ?_|(refine sC ?_ ?_<;>intro hb<;>try omega)|fail)
  refine fq (fun i:Nat=> [(0,.slice Al L.length cl),(1,.slice Am M.length cm),(5,.int .i64 (i:Int))]) (fun _=> []) (fun i=>i≤L.length∧decide (L=M)=decide (L.drop i=M.drop i)) (fun i=>L.length - i) 0 ⟨by omega,rfl⟩ ?_ ?_ ?_
  ·
   exact sB
  ·
   exact mS
  ·
   rintro i ⟨hi,hrec⟩
   by_cases hlt:i<L.length
   ·
    have hlt2:i<M.length:=by omega
    obtain ⟨gl,ol,rfl,hrl⟩:=hl3 (by omega)
    obtain ⟨gm,om,rfl,hrm⟩:=hm3 (by omega)
    have he1:=hrl.elem bW i hlt
    have he2:=hrm.elem bW i hlt2
    rw [o6 hlt hlt2,← Iu] at hrec
    repeat' (first|(apply aS;exact rfl;apply aj;exact rfl;exact rfl;(first|exact hlt|exact hlt2))|(apply aS;exact rfl;apply aA;exact rfl;(first|exact he1|exact he2);exact rfl)|(apply aS;exact rfl;apply JD;exact rfl;exact rfl)|(apply ak;exact rfl;apply gj;exact rfl;exact rfl;(simp only [maxLen] at*;omega))|refine sT ?_|refine sS ?_|refine sQ ?_|refine sD ?_|refine sM fun _=> ?_|(refine sC ?_ ?_<;>intro hb<;>try omega)|(refine sCQ ?_ ?_<;>intro hb<;>try omega)|fail)
    all_goals first
     |(exfalso;omega)
     |((refine rT1 ?_);rw [hrec];simp_all;done)
     |(refine ⟨i+1,⟨by omega,?_⟩,by omega,by exact sB,by exact mS⟩;rw [hrec];simp_all;done)
     |trace_state
   ·
    have e:i=L.length:=by omega
    subst e
    repeat' (first|refine sT ?_|refine sS ?_|refine sM fun _=> ?_|(refine sC ?_ ?_<;>intro hb<;>try omega)|fail)
    (refine rT1 ?_)
    rw [hrec,NF,hlen,NF]
    rfl
 ·
  repeat' (first|refine sT ?_|refine sS ?_|refine sM fun _=> ?_|(refine sC ?_ ?_<;>intro hb<;>try omega)|fail)
  (refine rT1 ?_)
  rw [decide_eq_false]
  intro e
  exact hlen (congrArg List.length e)
end Go.SL
