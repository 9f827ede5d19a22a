/-
  Lemmas and walks, put together: Ia Ho Pl4 Pl5 Pl6 Pf Sl36 Rj Rk Pl7 Rl Rm Rn Ro Hp Mp Hq Pf2 Hr Hs Ht Hu Hv Ib Ic.
-/
import Derived.Test.YthefeclkaaocnaaGreatDoorKj26
set_option linter.unusedSimpArgs false
set_option linter.unusedVariables false
set_option maxRecDepth 20000
namespace Go.SL
open Go Go.Proofs
structure Cl where
 at_:Rf
 node:Int
def Bb (x:Cl):List Value:= [.int .i64 x.at_.col,.int .i64 x.at_.row,.int .i64 x.node]
structure Ev where
 step:Int
 user:Int
 kind:Int
 rect:Rct
 done:Bool
 to:BitVec 64
def aL (x:Ev):List Value:= [.int .i64 x.step,.int .i64 x.user,.int .u8 x.kind,.int .i64 x.rect.c1,.int .i64 x.rect.r1,.int .i64 x.rect.c2,.int .i64 x.rect.r2,.bool x.done,vS x.to]
theorem bw (x:Ev):(aL x).length=9:=rfl
structure Rv where
 step:Int
 call:Cl
 fn:Int
 rect:Rct
 grant:Int
 to:BitVec 64
def bU (x:Rv):List Value:= [.int .i64 x.step,.int .i64 x.call.at_.col,.int .i64 x.call.at_.row,.int .i64 x.call.node,.int .u8 x.fn,.int .i64 x.rect.c1,.int .i64 x.rect.r1,.int .i64 x.rect.c2,.int .i64 x.rect.r2,.int .i64 x.grant,vS x.to]
theorem eF (x:Rv):(bU x).length=11:=rfl
structure Ox where
 kind:Int
 user:Int
 rect:Rct
 input:ByteArray
 rd:BitVec 64
 wr:BitVec 64
 ow:BitVec 64
 fns:Int
 to:BitVec 64
 idx:Int
def bu (x:Ox):List Value:= [.int .u8 x.kind,.int .i64 x.user,.int .i64 x.rect.c1,.int .i64 x.rect.r1,.int .i64 x.rect.c2,.int .i64 x.rect.r2,.string x.input,vS x.rd,vS x.wr,vS x.ow,.int .u8 x.fns,vS x.to,.int .i64 x.idx]
theorem lT (x y:BitVec 64):((x.toNat:Int)=(y.toNat:Int))=(x=y):=propext ⟨fun h=>PM (by omega),fun h=>h ▸ rfl⟩
theorem lS (x y:BitVec 64):(x.toNat=y.toNat)=(x=y):=propext ⟨fun h=>PM h,fun h=>h ▸ rfl⟩
theorem tW (w:World) (d:Nat) (a1 a2 a3 b1 b2 b3:BitVec 64):(Op.equalIn (d+3) 36 (.agg #[.int .u64 (a1.toNat:Int),.int .u64 (a2.toNat:Int),.int .u64 (a3.toNat:Int)]) (.agg #[.int .u64 (b1.toNat:Int),.int .u64 (b2.toNat:Int),.int .u64 (b3.toNat:Int)])).run Tryz.prog w= .ok (decide (a1=b1) && decide (a2=b2) && decide (a3=b3)) w:=by
 rw [run_equalIn_agg w (d+2) 36 _ _ (by rw [Program.fieldsOf,Tryz.underlying36]) Tryz.stoodInHeld36]
 simp only [Program.fieldsOf,Tryz.underlying36]
 simp [Op.eqFields,part,go_sem,qo,si,lT,lS]
 by_cases h1:a1=b1
 rotate_left
 ·
  simp [h1]
 by_cases h2:a2=b2
 rotate_left
 ·
  simp [h1,h2]
 by_cases h3:a3=b3<;>simp [h1,h2,h3]
def Di (a b:Rl):Bool:=eqR a.rect b.rect && (decide (a.read=b.read) && decide (a.write=b.write) && decide (a.own=b.own))
theorem AQ {a b:Rl}:Di a b=true↔a=b:=by
 obtain ⟨a0,a1,a2,a3⟩:=a
 obtain ⟨b0,b1,b2,b3⟩:=b
 simp [Di,jy,jz,and_assoc]
instance:DecidableEq Rl:=fun a b=>decidable_of_iff (Di a b=true) AQ
theorem AR (a b:Rl):Di a b=decide (a=b):=by
 rw [Om,AQ,decide_eq_true_iff]
theorem HT (w:World) (d:Nat) (a b:Rl):(Op.equalIn (d+5) 38 (.agg (bn a).toArray) (.agg (bn b).toArray)).run Tryz.prog w= .ok (Di a b) w:=by
 rw [run_equalIn_agg w (d+4) 38 _ _ (by rw [Program.fieldsOf,Tryz.underlying38]) Tryz.stoodInHeld38]
 simp only [Program.fieldsOf,Tryz.underlying38]
 have hq_R: ∀ w,(Op.equalIn (d+4) 33 (.agg #[.int .i64 a.rect.c1,.int .i64 a.rect.r1,.int .i64 a.rect.c2,.int .i64 a.rect.r2]) (.agg #[.int .i64 b.rect.c1,.int .i64 b.rect.r1,.int .i64 b.rect.c2,.int .i64 b.rect.r2])).run Tryz.prog w= .ok (eqR a.rect b.rect) w:=fun w=>j6 w (d+1) a.rect b.rect
 have hq_T: ∀ w,(Op.equalIn (d+4) 36 (.agg #[.int .u64 (a.read.toNat:Int),.int .u64 (a.write.toNat:Int),.int .u64 (a.own.toNat:Int)]) (.agg #[.int .u64 (b.read.toNat:Int),.int .u64 (b.write.toNat:Int),.int .u64 (b.own.toNat:Int)])).run Tryz.prog w= .ok (decide (a.read=b.read) && decide (a.write=b.write) && decide (a.own=b.own)) w:=fun w=>tW w (d+1) a.read a.write a.own b.read b.write b.own
 simp [Op.eqFields,bn,vS,part,go_sem,qo,si,lT,lS,Di,hq_R,hq_T]
 by_cases h1:eqR a.rect b.rect=true
 rotate_left
 ·
  simp [h1]
 by_cases h2:a.read=b.read
 rotate_left
 ·
  simp [h1,h2]
 by_cases h3:a.write=b.write
 rotate_left
 ·
  simp [h1,h2,h3]
 by_cases h4:a.own=b.own
 rotate_left
 ·
  simp [h1,h2,h3,h4]
 simp [h1,h2,h3,h4]
def Dk (a b:Gn):Bool:=eqR a.rect b.rect && decide (a.fns=b.fns) && decide (a.to=b.to) && decide (a.by_=b.by_) && decide (a.rev=b.rev)
theorem AV {a b:Gn}:Dk a b=true↔a=b:=by
 obtain ⟨a0,a1,a2,a3,a4⟩:=a
 obtain ⟨b0,b1,b2,b3,b4⟩:=b
 simp [Dk,jy,jz,and_assoc]
instance:DecidableEq Gn:=fun a b=>decidable_of_iff (Dk a b=true) AV
theorem AW (a b:Gn):Dk a b=decide (a=b):=by
 rw [Om,AV,decide_eq_true_iff]
theorem HX (w:World) (d:Nat) (a b:Gn):(Op.equalIn (d+5) 56 (.agg (bA a).toArray) (.agg (bA b).toArray)).run Tryz.prog w= .ok (Dk a b) w:=by
 rw [run_equalIn_agg w (d+4) 56 _ _ (by rw [Program.fieldsOf,Tryz.underlying56]) Tryz.stoodInHeld56]
 simp only [Program.fieldsOf,Tryz.underlying56]
 have hq_R: ∀ w,(Op.equalIn (d+4) 33 (.agg #[.int .i64 a.rect.c1,.int .i64 a.rect.r1,.int .i64 a.rect.c2,.int .i64 a.rect.r2]) (.agg #[.int .i64 b.rect.c1,.int .i64 b.rect.r1,.int .i64 b.rect.c2,.int .i64 b.rect.r2])).run Tryz.prog w= .ok (eqR a.rect b.rect) w:=fun w=>j6 w (d+1) a.rect b.rect
 simp [Op.eqFields,bA,vS,part,go_sem,qo,si,lT,lS,Dk,hq_R]
 by_cases h1:eqR a.rect b.rect=true
 rotate_left
 ·
  simp [h1]
 by_cases h2:a.fns=b.fns
 rotate_left
 ·
  simp [h1,h2]
 by_cases h3:a.to=b.to
 rotate_left
 ·
  simp [h1,h2,h3]
 by_cases h4:a.by_=b.by_
 rotate_left
 ·
  simp [h1,h2,h3,h4]
 by_cases h5:a.rev=b.rev
 rotate_left
 ·
  simp [h1,h2,h3,h4,h5]
 simp [h1,h2,h3,h4,h5]
def Dm (a b:Cl):Bool:=eqF a.at_ b.at_ && decide (a.node=b.node)
theorem Jk {a b:Cl}:Dm a b=true↔a=b:=by
 obtain ⟨a0,a1⟩:=a
 obtain ⟨b0,b1⟩:=b
 simp [Dm,jy,jz,and_assoc]
theorem H4 (w:World) (d:Nat) (a b:Cl):(Op.equalIn (d+5) 68 (.agg (Bb a).toArray) (.agg (Bb b).toArray)).run Tryz.prog w= .ok (Dm a b) w:=by
 rw [run_equalIn_agg w (d+4) 68 _ _ (by rw [Program.fieldsOf,Tryz.underlying68]) Tryz.stoodInHeld68]
 simp only [Program.fieldsOf,Tryz.underlying68]
 have hq_F: ∀ w,(Op.equalIn (d+4) 51 (.agg #[.int .i64 a.at_.col,.int .i64 a.at_.row]) (.agg #[.int .i64 b.at_.col,.int .i64 b.at_.row])).run Tryz.prog w= .ok (eqF a.at_ b.at_) w:=fun w=>sw w (d+1) a.at_ b.at_
 simp [Op.eqFields,Bb,vS,part,go_sem,qo,si,lT,lS,Dm,hq_F]
 by_cases h1:eqF a.at_ b.at_=true
 rotate_left
 ·
  simp [h1]
 by_cases h2:a.node=b.node
 rotate_left
 ·
  simp [h1,h2]
 simp [h1,h2]
def Dl (a b:Ev):Bool:=decide (a.step=b.step) && decide (a.user=b.user) && decide (a.kind=b.kind) && eqR a.rect b.rect && decide (a.done=b.done) && decide (a.to=b.to)
theorem AX {a b:Ev}:Dl a b=true↔a=b:=by
 obtain ⟨a0,a1,a2,a3,a4,a5⟩:=a
 obtain ⟨b0,b1,b2,b3,b4,b5⟩:=b
 simp [Dl,jy,jz,and_assoc]
instance:DecidableEq Ev:=fun a b=>decidable_of_iff (Dl a b=true) AX
theorem AY (a b:Ev):Dl a b=decide (a=b):=by
 rw [Om,AX,decide_eq_true_iff]
theorem HY (w:World) (d:Nat) (a b:Ev):(Op.equalIn (d+5) 48 (.agg (aL a).toArray) (.agg (aL b).toArray)).run Tryz.prog w= .ok (Dl a b) w:=by
 rw [run_equalIn_agg w (d+4) 48 _ _ (by rw [Program.fieldsOf,Tryz.underlying48]) Tryz.stoodInHeld48]
 simp only [Program.fieldsOf,Tryz.underlying48]
 have hq_R: ∀ w,(Op.equalIn (d+4) 33 (.agg #[.int .i64 a.rect.c1,.int .i64 a.rect.r1,.int .i64 a.rect.c2,.int .i64 a.rect.r2]) (.agg #[.int .i64 b.rect.c1,.int .i64 b.rect.r1,.int .i64 b.rect.c2,.int .i64 b.rect.r2])).run Tryz.prog w= .ok (eqR a.rect b.rect) w:=fun w=>j6 w (d+1) a.rect b.rect
 simp [Op.eqFields,aL,vS,part,go_sem,qo,si,lT,lS,Dl,hq_R]
 by_cases h1:a.step=b.step
 rotate_left
 ·
  simp [h1]
 by_cases h2:a.user=b.user
 rotate_left
 ·
  simp [h1,h2]
 by_cases h3:a.kind=b.kind
 rotate_left
 ·
  simp [h1,h2,h3]
 by_cases h4:eqR a.rect b.rect=true
 rotate_left
 ·
  simp [h1,h2,h3,h4]
 by_cases h5:a.done=b.done
 rotate_left
 ·
  simp [h1,h2,h3,h4,h5]
 by_cases h6:a.to=b.to
 rotate_left
 ·
  simp [h1,h2,h3,h4,h5,h6]
 simp [h1,h2,h3,h4,h5,h6]
def Dh (a b:Rv):Bool:=decide (a.step=b.step) && Dm a.call b.call && decide (a.fn=b.fn) && eqR a.rect b.rect && decide (a.grant=b.grant) && decide (a.to=b.to)
theorem AO {a b:Rv}:Dh a b=true↔a=b:=by
 obtain ⟨a0,a1,a2,a3,a4,a5⟩:=a
 obtain ⟨b0,b1,b2,b3,b4,b5⟩:=b
 simp [Dh,jy,jz,Jk,and_assoc]
instance:DecidableEq Rv:=fun a b=>decidable_of_iff (Dh a b=true) AO
theorem AP (a b:Rv):Dh a b=decide (a=b):=by
 rw [Om,AO,decide_eq_true_iff]
theorem HS (w:World) (d:Nat) (a b:Rv):(Op.equalIn (d+7) 70 (.agg (bU a).toArray) (.agg (bU b).toArray)).run Tryz.prog w= .ok (Dh a b) w:=by
 rw [run_equalIn_agg w (d+6) 70 _ _ (by rw [Program.fieldsOf,Tryz.underlying70]) Tryz.stoodInHeld70]
 simp only [Program.fieldsOf,Tryz.underlying70]
 have hq_C: ∀ w,(Op.equalIn (d+6) 68 (.agg #[.int .i64 a.call.at_.col,.int .i64 a.call.at_.row,.int .i64 a.call.node]) (.agg #[.int .i64 b.call.at_.col,.int .i64 b.call.at_.row,.int .i64 b.call.node])).run Tryz.prog w= .ok (Dm a.call b.call) w:=fun w=>H4 w (d+1) a.call b.call
 have hq_R: ∀ w,(Op.equalIn (d+6) 33 (.agg #[.int .i64 a.rect.c1,.int .i64 a.rect.r1,.int .i64 a.rect.c2,.int .i64 a.rect.r2]) (.agg #[.int .i64 b.rect.c1,.int .i64 b.rect.r1,.int .i64 b.rect.c2,.int .i64 b.rect.r2])).run Tryz.prog w= .ok (eqR a.rect b.rect) w:=fun w=>j6 w (d+3) a.rect b.rect
 simp [Op.eqFields,bU,vS,part,go_sem,qo,si,lT,lS,Dh,hq_C,hq_R]
 by_cases h1:a.step=b.step
 rotate_left
 ·
  simp [h1]
 by_cases h2:Dm a.call b.call=true
 rotate_left
 ·
  simp [h1,h2]
 by_cases h3:a.fn=b.fn
 rotate_left
 ·
  simp [h1,h2,h3]
 by_cases h4:eqR a.rect b.rect=true
 rotate_left
 ·
  simp [h1,h2,h3,h4]
 by_cases h5:a.grant=b.grant
 rotate_left
 ·
  simp [h1,h2,h3,h4,h5]
 by_cases h6:a.to=b.to
 rotate_left
 ·
  simp [h1,h2,h3,h4,h5,h6]
 simp [h1,h2,h3,h4,h5,h6]
def Dj (a b:Ox):Bool:=decide (a.kind=b.kind) && decide (a.user=b.user) && eqR a.rect b.rect && decide (a.input=b.input) && (decide (a.rd=b.rd) && decide (a.wr=b.wr) && decide (a.ow=b.ow)) && decide (a.fns=b.fns) && decide (a.to=b.to) && decide (a.idx=b.idx)
theorem AU {a b:Ox}:Dj a b=true↔a=b:=by
 obtain ⟨a0,a1,a2,a3,a4,a5,a6,a7,a8,a9⟩:=a
 obtain ⟨b0,b1,b2,b3,b4,b5,b6,b7,b8,b9⟩:=b
 simp [Dj,jy,jz,and_assoc]
instance:DecidableEq Ox:=fun a b=>decidable_of_iff (Dj a b=true) AU
theorem HV (w:World) (d:Nat) (a b:Ox):(Op.equalIn (d+5) 41 (.agg (bu a).toArray) (.agg (bu b).toArray)).run Tryz.prog w= .ok (Dj a b) w:=by
 rw [run_equalIn_agg w (d+4) 41 _ _ (by rw [Program.fieldsOf,Tryz.underlying41]) Tryz.stoodInHeld41]
 simp only [Program.fieldsOf,Tryz.underlying41]
 have hq_R: ∀ w,(Op.equalIn (d+4) 33 (.agg #[.int .i64 a.rect.c1,.int .i64 a.rect.r1,.int .i64 a.rect.c2,.int .i64 a.rect.r2]) (.agg #[.int .i64 b.rect.c1,.int .i64 b.rect.r1,.int .i64 b.rect.c2,.int .i64 b.rect.r2])).run Tryz.prog w= .ok (eqR a.rect b.rect) w:=fun w=>j6 w (d+1) a.rect b.rect
 have hq_T: ∀ w,(Op.equalIn (d+4) 36 (.agg #[.int .u64 (a.rd.toNat:Int),.int .u64 (a.wr.toNat:Int),.int .u64 (a.ow.toNat:Int)]) (.agg #[.int .u64 (b.rd.toNat:Int),.int .u64 (b.wr.toNat:Int),.int .u64 (b.ow.toNat:Int)])).run Tryz.prog w= .ok (decide (a.rd=b.rd) && decide (a.wr=b.wr) && decide (a.ow=b.ow)) w:=fun w=>tW w (d+1) a.rd a.wr a.ow b.rd b.wr b.ow
 simp [Op.eqFields,bu,vS,part,go_sem,qo,si,lT,lS,Dj,hq_R,hq_T]
 by_cases h1:a.kind=b.kind
 rotate_left
 ·
  simp [h1]
 by_cases h2:a.user=b.user
 rotate_left
 ·
  simp [h1,h2]
 by_cases h3:eqR a.rect b.rect=true
 rotate_left
 ·
  simp [h1,h2,h3]
 by_cases h4:a.input=b.input
 rotate_left
 ·
  simp [h1,h2,h3,h4]
 by_cases h5:a.rd=b.rd
 rotate_left
 ·
  simp [h1,h2,h3,h4,h5]
 by_cases h6:a.wr=b.wr
 rotate_left
 ·
  simp [h1,h2,h3,h4,h5,h6]
 by_cases h7:a.ow=b.ow
 rotate_left
 ·
  simp [h1,h2,h3,h4,h5,h6,h7]
 by_cases h8:a.fns=b.fns
 rotate_left
 ·
  simp [h1,h2,h3,h4,h5,h6,h7,h8]
 by_cases h9:a.to=b.to
 rotate_left
 ·
  simp [h1,h2,h3,h4,h5,h6,h7,h8,h9]
 by_cases h10:a.idx=b.idx
 rotate_left
 ·
  simp [h1,h2,h3,h4,h5,h6,h7,h8,h9,h10]
 simp [h1,h2,h3,h4,h5,h6,h7,h8,h9,h10]
section
variable {w0:World} {s:az} {H:List Blk} {ty t' :TypeId} {x y:Operand}
theorem Ee {a b:Rl} (hx:ev s x=some (.agg (bn a).toArray)) (hy:ev s y=some (.agg (bn b).toArray)):VOp Tryz.prog w0 s H (.binOp .neq 38 x y t') ty (.bool (!Di a b)):=fun ρ w _ _ _ _ hρ _=>by
 have h:=HT w 9995 a b
 simp only [Nat.reduceAdd] at h
 simp only [execOp,hρ x _ hx,hρ y _ hy,Sem.run_bind,run_eqGuard_agg w _ _ _ _ _ _ Tryz.eqGuardType38,Result.andThen_ok,run_neq_struct,h,Sem.run_pure]
theorem Ef {a b:Gn} (hx:ev s x=some (.agg (bA a).toArray)) (hy:ev s y=some (.agg (bA b).toArray)):VOp Tryz.prog w0 s H (.binOp .neq 56 x y t') ty (.bool (!Dk a b)):=fun ρ w _ _ _ _ hρ _=>by
 have h:=HX w 9995 a b
 simp only [Nat.reduceAdd] at h
 simp only [execOp,hρ x _ hx,hρ y _ hy,Sem.run_bind,run_eqGuard_agg w _ _ _ _ _ _ Tryz.eqGuardType56,Result.andThen_ok,run_neq_struct,h,Sem.run_pure]
theorem Eg {a b:Ev} (hx:ev s x=some (.agg (aL a).toArray)) (hy:ev s y=some (.agg (aL b).toArray)):VOp Tryz.prog w0 s H (.binOp .neq 48 x y t') ty (.bool (!Dl a b)):=fun ρ w _ _ _ _ hρ _=>by
 have h:=HY w 9995 a b
 simp only [Nat.reduceAdd] at h
 simp only [execOp,hρ x _ hx,hρ y _ hy,Sem.run_bind,run_eqGuard_agg w _ _ _ _ _ _ Tryz.eqGuardType48,Result.andThen_ok,run_neq_struct,h,Sem.run_pure]
theorem Ed {a b:Rv} (hx:ev s x=some (.agg (bU a).toArray)) (hy:ev s y=some (.agg (bU b).toArray)):VOp Tryz.prog w0 s H (.binOp .neq 70 x y t') ty (.bool (!Dh a b)):=fun ρ w _ _ _ _ hρ _=>by
 have h:=HS w 9993 a b
 simp only [Nat.reduceAdd] at h
 simp only [execOp,hρ x _ hx,hρ y _ hy,Sem.run_bind,run_eqGuard_agg w _ _ _ _ _ _ Tryz.eqGuardType70,Result.andThen_ok,run_neq_struct,h,Sem.run_pure]
theorem J9 {a b:Ox} (hx:ev s x=some (.agg (bu a).toArray)) (hy:ev s y=some (.agg (bu b).toArray)):VOp Tryz.prog w0 s H (.binOp .neq 41 x y t') ty (.bool (!Dj a b)):=fun ρ w _ _ _ _ hρ _=>by
 have h:=HV w 9995 a b
 simp only [Nat.reduceAdd] at h
 simp only [execOp,hρ x _ hx,hρ y _ hy,Sem.run_bind,run_eqGuard_agg w _ _ _ _ _ _ Tryz.eqGuardType41,Result.andThen_ok,run_neq_struct,h,Sem.run_pure]
end
theorem Dp (L:List Rl): ∀ u∈L.flatMap bn,u.oneCell' =true:=fun u hu=>by
 obtain ⟨a,_,h⟩:=OL.1 hu
 simp only [bn,NS,PI,or_false] at h
 rcases h with rfl|rfl|rfl|rfl|rfl|rfl|rfl<;>rfl
theorem Dr (L:List Ev): ∀ u∈L.flatMap aL,u.oneCell' =true:=fun u hu=>by
 obtain ⟨a,_,h⟩:=OL.1 hu
 simp only [aL,NS,PI,or_false] at h
 rcases h with rfl|rfl|rfl|rfl|rfl|rfl|rfl|rfl|rfl<;>rfl
theorem Dn (L:List Rv): ∀ u∈L.flatMap bU,u.oneCell' =true:=fun u hu=>by
 obtain ⟨a,_,h⟩:=OL.1 hu
 simp only [bU,NS,PI,or_false] at h
 rcases h with rfl|rfl|rfl|rfl|rfl|rfl|rfl|rfl|rfl|rfl|rfl<;>rfl
end Go.SL
namespace Go.SL
open Go Go.Proofs
attribute [local irreducible] W WL WQ WG WA WX WLI WR WT WC WE VOp RW thn blk bG scp bg bi bT aQ FnIn FnP ceP
structure Rdr (gg:Nat) (G:Gr) (B:List Blk) (w0:World):Prop where
 g:GrOk G
 l:G.length≤900
 ur: ∀ r H,MSub B H→FnIn Tryz.prog 139 [.pointer (some ⟨gg,0,none⟩),.agg (bQ r).toArray] w0 H fun v H' => ∃ A cap,v=sl A (Cc G r).length cap∧H' = .own A 51 2 (Cc G r).length cap ((Cc G r).flatMap cu)::H
 fm: ∀ H,MSub B H→FnIn Tryz.prog 34 [.pointer (some ⟨gg,0,none⟩)] w0 H fun v H' => ∃ A cap,v=sl A (Aj G).length cap∧H' = .own A 51 2 (Aj G).length cap ((Aj G).flatMap cu)::H
 us: ∀ d H,MSub B H→FnIn Tryz.prog 42 [.pointer (some ⟨gg,0,none⟩),Nh d] w0 H fun v H' => ∃ A cap,v=sl A (za G d).length cap∧H' = .own A 100 6 (za G d).length cap ((za G d).flatMap Nm)::H
end Go.SL
namespace Go.SL
open Go
def yx (lo hi:Int) (ps:List (Int × Int)):List (Int × Int):=dK ((fY (sK (dl lo ps))).filter fun x=>decide (lo≤x) && decide (x≤hi)) hi
theorem Gl:cE=yx:=by funext lo hi ps;unfold cE yx uZ;rw [HM]
def CS (r:Rct) (A B:List Rl):List Pz:=(yx r.r1 r.r2 (aS r A++aS r B)).flatMap fun y=>jR A B y (yx r.c1 r.c2 (aU r A++aU r B))
theorem FK:dJ=CS:=by funext r A B;unfold dJ CS;rw [Gl]
def zZ (f:Rl→BitVec 64) (r:Rct) (L:List Rl):BitVec 64:=sj ((CS r L []).map fun p=>(L[p.a]?.map f).getD 0#64)
theorem Iy:uk=zZ:=by funext f r L;unfold uk zZ;rw [FK]
def ovC (r:Rct) (L:List Rl):(BitVec 64 × BitVec 64 × BitVec 64) × Int:=
 if jk r L≠0 then ((0#64,0#64,0#64),jk r L) else ((zZ (fun x=>x.read) r L,zZ (fun x=>x.write) r L,zZ (fun x=>x.own) r L),0)
theorem Mg:ovE=ovC:=by funext r L;unfold ovE ovC;rw [Iy]
def bkR:List Rl:= [⟨⟨1,1,1024,1024⟩,7#64,7#64,1#64⟩,⟨⟨2,1,2,3⟩,1#64,1#64,1#64⟩]
def bkN:List Gn:= [⟨⟨2,1,2,3⟩,1,2#64,0,false⟩]
set_option maxRecDepth 100000
end Go.SL
namespace Go.SL
open Go Go.Proofs
attribute [local irreducible] W WL WQ WG WA WX WLI WR WT WC WE VOp RW thn blk bG scp bg bi bT aQ FnIn FnP ceP ve oq o7
def Jc:List Et:= [⟨⟨1,1⟩,⟨#[53]⟩⟩,⟨⟨2,1⟩,⟨#[49,48]⟩⟩,⟨⟨1,2⟩,inB⟩,⟨⟨2,2⟩,⟨#[50,48]⟩⟩,⟨⟨1,3⟩,inC⟩,⟨⟨1,4⟩,inD⟩]
theorem tU (w:World):ax Tryz.prog 105 [] w (.agg (bQ ⟨1,1,1024,1024⟩).toArray):=by
 refine aq Tryz.func105 rfl Tryz.ntmps105 rfl ?_
 repeat' (first|refine sT ?_|refine sM fun _=> ?_|(refine sC ?_ ?_<;>intro hb<;>try omega)|fail)
 (refine eRC ?_)
 rfl
set_option maxHeartbeats 4000000 in
theorem GH (w:World):aQ Tryz.prog 49 [] w fun v H=> ∃ ge gr gn,v= .tuple #[.slice (some ⟨ge,0,none⟩) 6 6,.slice (some ⟨gr,0,none⟩) 2 2,.slice (some ⟨gn,0,none⟩) 1 1]∧H= [.own (some ge) 53 3 6 6 (Jc.flatMap aJ),.own (some gr) 38 7 2 2 (bkR.flatMap bn),.own (some gn) 56 8 1 1 (bkN.flatMap bA)]:=by
 refine aq Tryz.func49 rfl Tryz.ntmps49 rfl ?_
 repeat' (first|(apply bZ (id:=3) [0,6] [];kernel_rfl;kernel_rfl;kernel_rfl)|(apply bZ (id:=4) [4] [];kernel_rfl;kernel_rfl;kernel_rfl)|(apply aa (f:=105);exact rfl;exact rfl;(intro w' _;exact tU w'))|refine sT ?_|refine sS ?_|refine sW ?_|refine sM fun _=> ?_|(refine sC ?_ ?_<;>intro hb<;>try omega)|(refine sCW ?_ ?_<;>intro hb<;>try omega)|fail)
 rename_i ge gr gn
 exact ou eIO rfl rfl rfl rfl (H' := [.own (some ge) 53 3 6 6 (Jc.flatMap aJ),.own (some gr) 38 7 2 2 (bkR.flatMap bn),.own (some gn) 56 8 1 1 (bkN.flatMap bA)]) mS ⟨ge,gr,gn,rfl,rfl⟩
theorem Dq (L:List Gn): ∀ u∈L.flatMap bA,u.oneCell' =true:=fun u hu=>by
 obtain ⟨a,_,h⟩:=OL.1 hu
 simp only [bA,NS,PI,or_false] at h
 rcases h with rfl|rfl|rfl|rfl|rfl|rfl|rfl|rfl<;>rfl
end Go.SL
namespace Go.SL
open Go Go.Proofs
attribute [local irreducible] W WL WQ WG WA WX WLI WR WT WC WE VOp RW thn blk bG scp bg bi bT aQ FnIn FnP ceP
theorem DT (L:List Et) (tv:Value) (w:World) (ht:Reads w tv L.length (L.flatMap aJ)) (hlen:L.length≤1000000):
  aQ Tryz.prog 76 [tv] w fun v H=> ∃ A cap,v=sl A L.length cap∧H= [.own A 53 3 L.length cap (L.flatMap aJ)]:=by
 have ht' :=ht
 obtain ⟨At,ct,rfl,ht1,ht2,ht3⟩:=ht
 refine aq Tryz.func76 rfl Tryz.ntmps76 rfl ?_
 have hl:(L.flatMap aJ).length=L.length*3:=aI bo L
 refine aP 53 3 ?_
 repeat' (first|(apply ak;exact rfl;apply mM;exact rfl)|(apply dP;exact rfl;intro gb)|(apply eW (n' :=0) (c:=0) (A:=some _) (m:=L.length);(iterate 3 exact rfl);exact pK;(intro w hm;exact ht'.of_w0 hm);exact hl;exact uX L;omega;(simp only [maxLen];omega);intro A' cap' hA)|refine sT ?_|refine sM fun _=> ?_|(refine sC ?_ ?_<;>intro hb<;>try omega)|fail)
 ·
  have e:L.length=0:=by
   rcases OJ L.length with h|h
   ·
    exact h
   ·
    obtain ⟨g,o,rfl,_⟩:=ht3 h
    cases hb
  have e' :L= []:=Oo e
  subst e'
  exact dF (.inl rfl) Tryz.results76 rfl (.refl _) ⟨none,0,rfl,rfl⟩
 ·
  exact dF (.inl rfl) Tryz.results76 rfl (H' := [.own A' 53 3 (0+L.length) cap' ([]++L.flatMap aJ)]) mS ⟨A',cap',by rw [N7],by rw [N7];rfl⟩
theorem DQ (L:List Rl) (tv:Value) (w:World) (ht:Reads w tv L.length (L.flatMap bn)) (hlen:L.length≤1000000):
  aQ Tryz.prog 77 [tv] w fun v H=> ∃ A cap,v=sl A L.length cap∧H= [.own A 38 7 L.length cap (L.flatMap bn)]:=by
 have ht' :=ht
 obtain ⟨At,ct,rfl,ht1,ht2,ht3⟩:=ht
 refine aq Tryz.func77 rfl Tryz.ntmps77 rfl ?_
 have hl:(L.flatMap bn).length=L.length*7:=aI cK L
 refine aP 38 7 ?_
 repeat' (first|(apply ak;exact rfl;apply mM;exact rfl)|(apply dP;exact rfl;intro gb)|(apply eW (n' :=0) (c:=0) (A:=some _) (m:=L.length);(iterate 3 exact rfl);exact pK;(intro w hm;exact ht'.of_w0 hm);exact hl;exact Dp L;omega;(simp only [maxLen];omega);intro A' cap' hA)|refine sT ?_|refine sM fun _=> ?_|(refine sC ?_ ?_<;>intro hb<;>try omega)|fail)
 ·
  have e:L.length=0:=by
   rcases OJ L.length with h|h
   ·
    exact h
   ·
    obtain ⟨g,o,rfl,_⟩:=ht3 h
    cases hb
  have e' :L= []:=Oo e
  subst e'
  exact dF (.inl rfl) Tryz.results77 rfl (.refl _) ⟨none,0,rfl,rfl⟩
 ·
  exact dF (.inl rfl) Tryz.results77 rfl (H' := [.own A' 38 7 (0+L.length) cap' ([]++L.flatMap bn)]) mS ⟨A',cap',by rw [N7],by rw [N7];rfl⟩
theorem DR (L:List Gn) (tv:Value) (w:World) (ht:Reads w tv L.length (L.flatMap bA)) (hlen:L.length≤1000000):
  aQ Tryz.prog 78 [tv] w fun v H=> ∃ A cap,v=sl A L.length cap∧H= [.own A 56 8 L.length cap (L.flatMap bA)]:=by
 have ht' :=ht
 obtain ⟨At,ct,rfl,ht1,ht2,ht3⟩:=ht
 refine aq Tryz.func78 rfl Tryz.ntmps78 rfl ?_
 have hl:(L.flatMap bA).length=L.length*8:=aI cX L
 refine aP 56 8 ?_
 repeat' (first|(apply ak;exact rfl;apply mM;exact rfl)|(apply dP;exact rfl;intro gb)|(apply eW (n' :=0) (c:=0) (A:=some _) (m:=L.length);(iterate 3 exact rfl);exact pK;(intro w hm;exact ht'.of_w0 hm);exact hl;exact Dq L;omega;(simp only [maxLen];omega);intro A' cap' hA)|refine sT ?_|refine sM fun _=> ?_|(refine sC ?_ ?_<;>intro hb<;>try omega)|fail)
 ·
  have e:L.length=0:=by
   rcases OJ L.length with h|h
   ·
    exact h
   ·
    obtain ⟨g,o,rfl,_⟩:=ht3 h
    cases hb
  have e' :L= []:=Oo e
  subst e'
  exact dF (.inl rfl) Tryz.results78 rfl (.refl _) ⟨none,0,rfl,rfl⟩
 ·
  exact dF (.inl rfl) Tryz.results78 rfl (H' := [.own A' 56 8 (0+L.length) cap' ([]++L.flatMap bA)]) mS ⟨A',cap',by rw [N7],by rw [N7];rfl⟩
theorem DS (L:List Ev) (tv:Value) (w:World) (ht:Reads w tv L.length (L.flatMap aL)) (hlen:L.length≤1000000):
  aQ Tryz.prog 79 [tv] w fun v H=> ∃ A cap,v=sl A L.length cap∧H= [.own A 48 9 L.length cap (L.flatMap aL)]:=by
 have ht' :=ht
 obtain ⟨At,ct,rfl,ht1,ht2,ht3⟩:=ht
 refine aq Tryz.func79 rfl Tryz.ntmps79 rfl ?_
 have hl:(L.flatMap aL).length=L.length*9:=aI bw L
 refine aP 48 9 ?_
 repeat' (first|(apply ak;exact rfl;apply mM;exact rfl)|(apply dP;exact rfl;intro gb)|(apply eW (n' :=0) (c:=0) (A:=some _) (m:=L.length);(iterate 3 exact rfl);exact pK;(intro w hm;exact ht'.of_w0 hm);exact hl;exact Dr L;omega;(simp only [maxLen];omega);intro A' cap' hA)|refine sT ?_|refine sM fun _=> ?_|(refine sC ?_ ?_<;>intro hb<;>try omega)|fail)
 ·
  have e:L.length=0:=by
   rcases OJ L.length with h|h
   ·
    exact h
   ·
    obtain ⟨g,o,rfl,_⟩:=ht3 h
    cases hb
  have e' :L= []:=Oo e
  subst e'
  exact dF (.inl rfl) Tryz.results79 rfl (.refl _) ⟨none,0,rfl,rfl⟩
 ·
  exact dF (.inl rfl) Tryz.results79 rfl (H' := [.own A' 48 9 (0+L.length) cap' ([]++L.flatMap aL)]) mS ⟨A',cap',by rw [N7],by rw [N7];rfl⟩
theorem DP (L:List Rv) (tv:Value) (w:World) (ht:Reads w tv L.length (L.flatMap bU)) (hlen:L.length≤1000000):
  aQ Tryz.prog 80 [tv] w fun v H=> ∃ A cap,v=sl A L.length cap∧H= [.own A 70 11 L.length cap (L.flatMap bU)]:=by
 have ht' :=ht
 obtain ⟨At,ct,rfl,ht1,ht2,ht3⟩:=ht
 refine aq Tryz.func80 rfl Tryz.ntmps80 rfl ?_
 have hl:(L.flatMap bU).length=L.length*11:=aI eF L
 refine aP 70 11 ?_
 repeat' (first|(apply ak;exact rfl;apply mM;exact rfl)|(apply dP;exact rfl;intro gb)|(apply eW (n' :=0) (c:=0) (A:=some _) (m:=L.length);(iterate 3 exact rfl);exact pK;(intro w hm;exact ht'.of_w0 hm);exact hl;exact Dn L;omega;(simp only [maxLen];omega);intro A' cap' hA)|refine sT ?_|refine sM fun _=> ?_|(refine sC ?_ ?_<;>intro hb<;>try omega)|fail)
 ·
  have e:L.length=0:=by
   rcases OJ L.length with h|h
   ·
    exact h
   ·
    obtain ⟨g,o,rfl,_⟩:=ht3 h
    cases hb
  have e' :L= []:=Oo e
  subst e'
  exact dF (.inl rfl) Tryz.results80 rfl (.refl _) ⟨none,0,rfl,rfl⟩
 ·
  exact dF (.inl rfl) Tryz.results80 rfl (H' := [.own A' 70 11 (0+L.length) cap' ([]++L.flatMap bU)]) mS ⟨A',cap',by rw [N7],by rw [N7];rfl⟩
theorem DM (L M:List Et) (lv mv:Value) (w:World) (hl:Reads w lv L.length (L.flatMap aJ)) (hm:Reads w mv M.length (M.flatMap aJ)):
  ax Tryz.prog 69 [lv,mv] w (.bool (decide (L=M))):=by
 obtain ⟨Al,cl,rfl,hl1,hl2,hl3⟩:=hl
 obtain ⟨Am,cm,rfl,hm1,hm2,hm3⟩:=hm
 refine aq Tryz.func69 rfl Tryz.ntmps69 rfl ?_
 by_cases hlen:L.length=M.length
 ·
  repeat' (first|refine sT ?_|refine sS ?_|refine sM fun _=> ?_|(refine sC ?_ ?_<;>intro hb<;>try omega)|fail)
  refine ay [0,1,12] rfl (fun i:Nat=> [(13,.int .i64 (i:Int))]) (fun _=> []) (fun i=>i≤L.length∧decide (L=M)=decide (L.drop i=M.drop i)) (fun i=>L.length - i) 0 ⟨by omega,rfl⟩ ?_ ?_ ?_
  ·
   exact sB
  ·
   exact mS
  ·
   rintro i ⟨hi,hrec⟩
   by_cases hlt:i<L.length
   ·
    have hlt2:i<M.length:=by omega
    obtain ⟨gl,ol,rfl,hrl⟩:=hl3 (by omega)
    obtain ⟨gm,om,rfl,hrm⟩:=hm3 (by omega)
    have he1:=hrl.elem bo i hlt
    have he2:=hrm.elem bo i hlt2
    rw [iT hlt hlt2] at hrec
    repeat' (first|(apply aK;exact rfl;apply aj;exact rfl;exact rfl;(first|exact hlt|exact hlt2))|(apply aK;exact rfl;apply aA;exact rfl;(first|exact he1|exact he2);exact rfl)|(apply aK;exact rfl;apply Eh;exact rfl;exact rfl)|(apply ak;exact rfl;apply dg;exact rfl;exact rfl;(simp only [maxLen] at*;omega))|refine sT ?_|refine sS ?_|refine sQ ?_|refine sD ?_|refine sM fun _=> ?_|(refine sC ?_ ?_<;>intro hb<;>try omega)|(refine sCQ ?_ ?_<;>intro hb<;>try omega)|fail)
    all_goals first
     |(exfalso;omega)
     |((refine rT1 ?_);rw [hrec];simp_all;done)
     |(refine ⟨i+1,⟨by omega,?_⟩,by omega,by exact sB,by exact sB,by exact mS⟩;rw [hrec];simp_all;done)
     |trace_state
   ·
    have e:i=L.length:=by omega
    subst e
    repeat' (first|refine sT ?_|refine sS ?_|refine sM fun _=> ?_|(refine sC ?_ ?_<;>intro hb<;>try omega)|fail)
    (refine rT1 ?_)
    rw [hrec,NW,hlen,NW]
    rfl
 ·
  repeat' (first|refine sT ?_|refine sS ?_|refine sM fun _=> ?_|(refine sC ?_ ?_<;>intro hb<;>try omega)|fail)
  (refine rT1 ?_)
  rw [decide_eq_false]
  intro e
  exact hlen (congrArg List.length e)
theorem DJ (L M:List Rl) (lv mv:Value) (w:World) (hl:Reads w lv L.length (L.flatMap bn)) (hm:Reads w mv M.length (M.flatMap bn)):
  ax Tryz.prog 70 [lv,mv] w (.bool (decide (L=M))):=by
 obtain ⟨Al,cl,rfl,hl1,hl2,hl3⟩:=hl
 obtain ⟨Am,cm,rfl,hm1,hm2,hm3⟩:=hm
 refine aq Tryz.func70 rfl Tryz.ntmps70 rfl ?_
 by_cases hlen:L.length=M.length
 ·
  repeat' (first|refine sT ?_|refine sS ?_|refine sM fun _=> ?_|(refine sC ?_ ?_<;>intro hb<;>try omega)|fail)
  refine ay [0,1,12] rfl (fun i:Nat=> [(13,.int .i64 (i:Int))]) (fun _=> []) (fun i=>i≤L.length∧decide (L=M)=decide (L.drop i=M.drop i)) (fun i=>L.length - i) 0 ⟨by omega,rfl⟩ ?_ ?_ ?_
  ·
   exact sB
  ·
   exact mS
  ·
   rintro i ⟨hi,hrec⟩
   by_cases hlt:i<L.length
   ·
    have hlt2:i<M.length:=by omega
    obtain ⟨gl,ol,rfl,hrl⟩:=hl3 (by omega)
    obtain ⟨gm,om,rfl,hrm⟩:=hm3 (by omega)
    have he1:=hrl.elem cK i hlt
    have he2:=hrm.elem cK i hlt2
    rw [iT hlt hlt2,← AR] at hrec
    repeat' (first|(apply aK;exact rfl;apply aj;exact rfl;exact rfl;(first|exact hlt|exact hlt2))|(apply aK;exact rfl;apply aA;exact rfl;(first|exact he1|exact he2);exact rfl)|(apply aK;exact rfl;apply Ee;exact rfl;exact rfl)|(apply ak;exact rfl;apply dg;exact rfl;exact rfl;(simp only [maxLen] at*;omega))|refine sT ?_|refine sS ?_|refine sQ ?_|refine sD ?_|refine sM fun _=> ?_|(refine sC ?_ ?_<;>intro hb<;>try omega)|(refine sCQ ?_ ?_<;>intro hb<;>try omega)|fail)
    all_goals first
     |(exfalso;omega)
     |((refine rT1 ?_);rw [hrec];simp_all;done)
     |(refine ⟨i+1,⟨by omega,?_⟩,by omega,by exact sB,by exact sB,by exact mS⟩;rw [hrec];simp_all;done)
     |trace_state
   ·
    have e:i=L.length:=by omega
    subst e
    repeat' (first|refine sT ?_|refine sS ?_|refine sM fun _=> ?_|(refine sC ?_ ?_<;>intro hb<;>try omega)|fail)
    (refine rT1 ?_)
    rw [hrec,NW,hlen,NW]
    rfl
 ·
  repeat' (first|refine sT ?_|refine sS ?_|refine sM fun _=> ?_|(refine sC ?_ ?_<;>intro hb<;>try omega)|fail)
  (refine rT1 ?_)
  rw [decide_eq_false]
  intro e
  exact hlen (congrArg List.length e)
theorem DK (L M:List Gn) (lv mv:Value) (w:World) (hl:Reads w lv L.length (L.flatMap bA)) (hm:Reads w mv M.length (M.flatMap bA)):
  ax Tryz.prog 71 [lv,mv] w (.bool (decide (L=M))):=by
 obtain ⟨Al,cl,rfl,hl1,hl2,hl3⟩:=hl
 obtain ⟨Am,cm,rfl,hm1,hm2,hm3⟩:=hm
 refine aq Tryz.func71 rfl Tryz.ntmps71 rfl ?_
 by_cases hlen:L.length=M.length
 ·
  repeat' (first|refine sT ?_|refine sS ?_|refine sM fun _=> ?_|(refine sC ?_ ?_<;>intro hb<;>try omega)|fail)
  refine ay [0,1,12] rfl (fun i:Nat=> [(13,.int .i64 (i:Int))]) (fun _=> []) (fun i=>i≤L.length∧decide (L=M)=decide (L.drop i=M.drop i)) (fun i=>L.length - i) 0 ⟨by omega,rfl⟩ ?_ ?_ ?_
  ·
   exact sB
  ·
   exact mS
  ·
   rintro i ⟨hi,hrec⟩
   by_cases hlt:i<L.length
   ·
    have hlt2:i<M.length:=by omega
    obtain ⟨gl,ol,rfl,hrl⟩:=hl3 (by omega)
    obtain ⟨gm,om,rfl,hrm⟩:=hm3 (by omega)
    have he1:=hrl.elem cX i hlt
    have he2:=hrm.elem cX i hlt2
    rw [iT hlt hlt2,← AW] at hrec
    repeat' (first|(apply aK;exact rfl;apply aj;exact rfl;exact rfl;(first|exact hlt|exact hlt2))|(apply aK;exact rfl;apply aA;exact rfl;(first|exact he1|exact he2);exact rfl)|(apply aK;exact rfl;apply Ef;exact rfl;exact rfl)|(apply ak;exact rfl;apply dg;exact rfl;exact rfl;(simp only [maxLen] at*;omega))|refine sT ?_|refine sS ?_|refine sQ ?_|refine sD ?_|refine sM fun _=> ?_|(refine sC ?_ ?_<;>intro hb<;>try omega)|(refine sCQ ?_ ?_<;>intro hb<;>try omega)|fail)
    all_goals first
     |(exfalso;omega)
     |((refine rT1 ?_);rw [hrec];simp_all;done)
     |(refine ⟨i+1,⟨by omega,?_⟩,by omega,by exact sB,by exact sB,by exact mS⟩;rw [hrec];simp_all;done)
     |trace_state
   ·
    have e:i=L.length:=by omega
    subst e
    repeat' (first|refine sT ?_|refine sS ?_|refine sM fun _=> ?_|(refine sC ?_ ?_<;>intro hb<;>try omega)|fail)
    (refine rT1 ?_)
    rw [hrec,NW,hlen,NW]
    rfl
 ·
  repeat' (first|refine sT ?_|refine sS ?_|refine sM fun _=> ?_|(refine sC ?_ ?_<;>intro hb<;>try omega)|fail)
  (refine rT1 ?_)
  rw [decide_eq_false]
  intro e
  exact hlen (congrArg List.length e)
theorem DL (L M:List Ev) (lv mv:Value) (w:World) (hl:Reads w lv L.length (L.flatMap aL)) (hm:Reads w mv M.length (M.flatMap aL)):
  ax Tryz.prog 72 [lv,mv] w (.bool (decide (L=M))):=by
 obtain ⟨Al,cl,rfl,hl1,hl2,hl3⟩:=hl
 obtain ⟨Am,cm,rfl,hm1,hm2,hm3⟩:=hm
 refine aq Tryz.func72 rfl Tryz.ntmps72 rfl ?_
 by_cases hlen:L.length=M.length
 ·
  repeat' (first|refine sT ?_|refine sS ?_|refine sM fun _=> ?_|(refine sC ?_ ?_<;>intro hb<;>try omega)|fail)
  refine ay [0,1,12] rfl (fun i:Nat=> [(13,.int .i64 (i:Int))]) (fun _=> []) (fun i=>i≤L.length∧decide (L=M)=decide (L.drop i=M.drop i)) (fun i=>L.length - i) 0 ⟨by omega,rfl⟩ ?_ ?_ ?_
  ·
   exact sB
  ·
   exact mS
  ·
   rintro i ⟨hi,hrec⟩
   by_cases hlt:i<L.length
   ·
    have hlt2:i<M.length:=by omega
    obtain ⟨gl,ol,rfl,hrl⟩:=hl3 (by omega)
    obtain ⟨gm,om,rfl,hrm⟩:=hm3 (by omega)
    have he1:=hrl.elem bw i hlt
    have he2:=hrm.elem bw i hlt2
    rw [iT hlt hlt2,← AY] at hrec
    repeat' (first|(apply aK;exact rfl;apply aj;exact rfl;exact rfl;(first|exact hlt|exact hlt2))|(apply aK;exact rfl;apply aA;exact rfl;(first|exact he1|exact he2);exact rfl)|(apply aK;exact rfl;apply Eg;exact rfl;exact rfl)|(apply ak;exact rfl;apply dg;exact rfl;exact rfl;(simp only [maxLen] at*;omega))|refine sT ?_|refine sS ?_|refine sQ ?_|refine sD ?_|refine sM fun _=> ?_|(refine sC ?_ ?_<;>intro hb<;>try omega)|(refine sCQ ?_ ?_<;>intro hb<;>try omega)|fail)
    all_goals first
     |(exfalso;omega)
     |((refine rT1 ?_);rw [hrec];simp_all;done)
     |(refine ⟨i+1,⟨by omega,?_⟩,by omega,by exact sB,by exact sB,by exact mS⟩;rw [hrec];simp_all;done)
     |trace_state
   ·
    have e:i=L.length:=by omega
    subst e
    repeat' (first|refine sT ?_|refine sS ?_|refine sM fun _=> ?_|(refine sC ?_ ?_<;>intro hb<;>try omega)|fail)
    (refine rT1 ?_)
    rw [hrec,NW,hlen,NW]
    rfl
 ·
  repeat' (first|refine sT ?_|refine sS ?_|refine sM fun _=> ?_|(refine sC ?_ ?_<;>intro hb<;>try omega)|fail)
  (refine rT1 ?_)
  rw [decide_eq_false]
  intro e
  exact hlen (congrArg List.length e)
theorem DI (L M:List Rv) (lv mv:Value) (w:World) (hl:Reads w lv L.length (L.flatMap bU)) (hm:Reads w mv M.length (M.flatMap bU)):
  ax Tryz.prog 73 [lv,mv] w (.bool (decide (L=M))):=by
 obtain ⟨Al,cl,rfl,hl1,hl2,hl3⟩:=hl
 obtain ⟨Am,cm,rfl,hm1,hm2,hm3⟩:=hm
 refine aq Tryz.func73 rfl Tryz.ntmps73 rfl ?_
 by_cases hlen:L.length=M.length
 ·
  repeat' (first|refine sT ?_|refine sS ?_|refine sM fun _=> ?_|(refine sC ?_ ?_<;>intro hb<;>try omega)|fail)
  refine ay [0,1,12] rfl (fun i:Nat=> [(13,.int .i64 (i:Int))]) (fun _=> []) (fun i=>i≤L.length∧decide (L=M)=decide (L.drop i=M.drop i)) (fun i=>L.length - i) 0 ⟨by omega,rfl⟩ ?_ ?_ ?_
  ·
   exact sB
  ·
   exact mS
  ·
   rintro i ⟨hi,hrec⟩
   by_cases hlt:i<L.length
   ·
    have hlt2:i<M.length:=by omega
    obtain ⟨gl,ol,rfl,hrl⟩:=hl3 (by omega)
    obtain ⟨gm,om,rfl,hrm⟩:=hm3 (by omega)
    have he1:=hrl.elem eF i hlt
    have he2:=hrm.elem eF i hlt2
    rw [iT hlt hlt2,← AP] at hrec
    repeat' (first|(apply aK;exact rfl;apply aj;exact rfl;exact rfl;(first|exact hlt|exact hlt2))|(apply aK;exact rfl;apply aA;exact rfl;(first|exact he1|exact he2);exact rfl)|(apply aK;exact rfl;apply Ed;exact rfl;exact rfl)|(apply ak;exact rfl;apply dg;exact rfl;exact rfl;(simp only [maxLen] at*;omega))|refine sT ?_|refine sS ?_|refine sQ ?_|refine sD ?_|refine sM fun _=> ?_|(refine sC ?_ ?_<;>intro hb<;>try omega)|(refine sCQ ?_ ?_<;>intro hb<;>try omega)|fail)
    all_goals first
     |(exfalso;omega)
     |((refine rT1 ?_);rw [hrec];simp_all;done)
     |(refine ⟨i+1,⟨by omega,?_⟩,by omega,by exact sB,by exact sB,by exact mS⟩;rw [hrec];simp_all;done)
     |trace_state
   ·
    have e:i=L.length:=by omega
    subst e
    repeat' (first|refine sT ?_|refine sS ?_|refine sM fun _=> ?_|(refine sC ?_ ?_<;>intro hb<;>try omega)|fail)
    (refine rT1 ?_)
    rw [hrec,NW,hlen,NW]
    rfl
 ·
  repeat' (first|refine sT ?_|refine sS ?_|refine sM fun _=> ?_|(refine sC ?_ ?_<;>intro hb<;>try omega)|fail)
  (refine rT1 ?_)
  rw [decide_eq_false]
  intro e
  exact hlen (congrArg List.length e)
def dh (k:Int):Bool:=decide (k=3)||decide (k=4)||decide (k=7)||decide (k=8)||decide (k=9)
def FC (k:Int):Bool:=decide (k=3)||decide (k=4)||decide (k=5)||decide (k=6)||decide (k=7)||decide (k=8)
def qx (k:Int):Ox:=⟨k,0,aM,au,0#64,0#64,0#64,0,0#64,0⟩
def kM (x:Ox):Rct × Bool:=if FC x.kind then (x.rect,true) else (aM,false)
def mY (x:Ox):Ox:=
 if x.kind<1∨10<x.kind then qx x.kind
 else ⟨x.kind,x.user,(kM x).1,if x.kind=3 then x.input else au,if x.kind=7 then x.rd else 0#64,if x.kind=7 then x.wr else 0#64,if x.kind=7 then x.ow else 0#64,if x.kind=8 then x.fns else 0,if x.kind=8 then x.to else 0#64,if x.kind=9 then x.idx else 0⟩
def opE (x:Ox):Int:=
 if x.kind<1∨10<x.kind∨x≠mY x then 4
 else if x.kind=3∨x.kind=6 then (if x.rect.c1=x.rect.c2∧x.rect.r1=x.rect.r2 then (if gT x.input≠0 then 4 else 0) else 4)
 else if x.kind=8 then (if x.fns<1∨31<x.fns then 4 else 0) else 0
theorem px (x:Ox) (w:World):ax Tryz.prog 55 [.agg (bu x).toArray] w (.bool (dh x.kind)):=by
 refine aq Tryz.func55 rfl Tryz.ntmps55 rfl ?_
 repeat' (first|refine sT ?_|refine sS ?_|refine sM fun _=> ?_|(refine sC ?_ ?_<;>intro hb<;>try omega)|fail)
 all_goals first
  |(exfalso;omega)
  |((refine rT1 ?_);simp_all [dh];done)
  |trace_state
theorem BA (k:Int) (w:World):ax Tryz.prog 55 [.agg (bu (qx k)).toArray] w (.bool (dh k)):=px (qx k) w
theorem xg (x:Ox) (w:World):ax Tryz.prog 110 [.agg (bu x).toArray] w (.tuple #[.agg (bQ (kM x).1).toArray,.bool (kM x).2]):=by
 refine aq Tryz.func110 rfl Tryz.ntmps110 rfl ?_
 by_cases h:FC x.kind=true
 ·
  rw [kM,if_pos h]
  repeat' (first|refine sT ?_|refine sS ?_|refine sM fun _=> ?_|(refine sC ?_ ?_<;>intro hb<;>try omega)|fail)
  all_goals first
   |(exfalso;omega)
   |((refine eV ?_);rfl)
   |(exfalso;simp_all [FC];done)
   |trace_state
 ·
  rw [kM,if_neg h]
  repeat' (first|refine sT ?_|refine sS ?_|refine sM fun _=> ?_|(refine sC ?_ ?_<;>intro hb<;>try omega)|fail)
  all_goals first
   |(exfalso;omega)
   |(exfalso;simp_all [FC];done)
   |((refine eV ?_);rfl)
   |trace_state
set_option maxHeartbeats 4000000 in
theorem JT (x:Ox) (w:World):ax Tryz.prog 154 [.agg (bu x).toArray] w (.agg (bu (mY x)).toArray):=by
 refine aq Tryz.func154 rfl Tryz.ntmps154 rfl ?_
 have hT:=fun w=>xg x w
 unfold mY
 obtain ⟨⟨t,tb⟩,ht⟩: ∃ t,kM x=t:=⟨_,rfl⟩
 rw [ht] at hT ⊢
 by_cases h8:x.kind=8
 ·
  repeat' (first|(apply aa;exact rfl;exact rfl;(intro w hm;exact hT w))|refine sT ?_|refine sS ?_|refine sM fun _=> ?_|(refine sC ?_ ?_<;>intro hb<;>try omega)|fail)
  all_goals try (exfalso;omega)
  rename_i g1 g2 g3 _ _ _ _
  refine dX (id:=12) [5,7] [] [.box g1 41 (bu x)] (by kernel_rfl) (by kernel_rfl) (by kernel_rfl) mS ?_
  repeat' (first|refine sT ?_|refine sS ?_|refine sW ?_|refine sM fun _=> ?_|(refine sC ?_ ?_<;>intro hb<;>try omega)|(refine sCW ?_ ?_<;>intro hb<;>try omega)|fail)
  all_goals first
   |(exfalso;omega)
   |((refine eRC ?_);rw [if_neg (by omega)];simp_all [bu,au,vS];done)
   |trace_state
 ·
  repeat' (first|(apply aa;exact rfl;exact rfl;(intro w hm;exact hT w))|refine sT ?_|refine sS ?_|refine sM fun _=> ?_|(refine sC ?_ ?_<;>intro hb<;>try omega)|fail)
  all_goals first
   |(exfalso;omega)
   |((refine eRC ?_);rw [if_pos (by omega)];simp_all [bu,qx,aM,au,vS];done)
   |((refine eRC ?_);rw [if_neg (by omega)];simp_all [bu,au,vS];done)
   |trace_state
set_option maxHeartbeats 4000000 in
theorem uq (x:Ox) (w:World):ax Tryz.prog 112 [.agg (bu x).toArray] w (.int .i64 (opE x)):=by
 refine aq Tryz.func112 rfl Tryz.ntmps112 rfl ?_
 have hP:=fun w=>JT x w
 have hG:=fun w=>uL x.input w
 unfold opE
 obtain ⟨c,hc⟩: ∃ c,Dj x (mY x)=c:=⟨_,rfl⟩
 have hc' :x≠mY x↔c=false:=by
  rw [← hc,← Bool.not_eq_true,AU]
 simp only [hc']
 clear hc'
 generalize gT x.input=ge at hG
 generalize mY x=p at hP hc
 repeat' (first|(apply bZ (id:=1) [11] [];kernel_rfl;kernel_rfl;kernel_rfl)|(apply cC;(iterate 3 exact rfl);apply J9 (b:=p);exact rfl;exact rfl)|(apply aa (f:=154);exact rfl;exact rfl;(intro w' _;exact hP w'))|(apply aa;exact rfl;exact rfl;(intro w hm;exact hG w))|refine sT ?_|refine sS ?_|refine sW ?_|refine sM fun _=> ?_|(refine sC ?_ ?_<;>intro hb<;>try omega)|(refine sCW ?_ ?_<;>intro hb<;>try omega)|fail)
 all_goals first
  |(exfalso;omega)
  |((refine rT1 ?_);simp_all;done)
  |((refine rT1 ?_);simp_all;omega)
  |trace_state
end Go.SL
