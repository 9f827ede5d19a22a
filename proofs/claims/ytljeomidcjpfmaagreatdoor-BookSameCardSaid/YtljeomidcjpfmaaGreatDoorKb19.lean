/-
  Lemmas and walks, put together: Ia Ho Pl4 Pl5 Pl6 Pf Sl36 Rj Rk Pl7 Rl Rm Rn Ro Hp Mp Hq Pf2 Hr Hs Ht Hu Hv Ib Ic.
-/
import Derived.Test.YtljeomidcjpfmaaGreatDoorKb18
set_option linter.unusedSimpArgs false
set_option linter.unusedVariables false
set_option maxRecDepth 20000
namespace Go.SL
open Go Go.Proofs
structure Cl where
 at_:Rf
 node:Int
def encCl (x:Cl):List Value:= [.int .i64 x.at_.col,.int .i64 x.at_.row,.int .i64 x.node]
structure Ev where
 step:Int
 user:Int
 kind:Int
 rect:Rct
 done:Bool
 to:BitVec 64
def encEv (x:Ev):List Value:= [.int .i64 x.step,.int .i64 x.user,.int .u8 x.kind,.int .i64 x.rect.c1,.int .i64 x.rect.r1,.int .i64 x.rect.c2,.int .i64 x.rect.r2,.bool x.done,vS x.to]
theorem encEv_len (x:Ev):(encEv x).length=9:=rfl
structure Rv where
 step:Int
 call:Cl
 fn:Int
 rect:Rct
 grant:Int
 to:BitVec 64
def encRv (x:Rv):List Value:= [.int .i64 x.step,.int .i64 x.call.at_.col,.int .i64 x.call.at_.row,.int .i64 x.call.node,.int .u8 x.fn,.int .i64 x.rect.c1,.int .i64 x.rect.r1,.int .i64 x.rect.c2,.int .i64 x.rect.r2,.int .i64 x.grant,vS x.to]
theorem encRv_len (x:Rv):(encRv x).length=11:=rfl
structure Ox where
 kind:Int
 user:Int
 rect:Rct
 input:ByteArray
 rd:BitVec 64
 wr:BitVec 64
 ow:BitVec 64
 fns:Int
 to:BitVec 64
 idx:Int
def encOx (x:Ox):List Value:= [.int .u8 x.kind,.int .i64 x.user,.int .i64 x.rect.c1,.int .i64 x.rect.r1,.int .i64 x.rect.c2,.int .i64 x.rect.r2,.string x.input,vS x.rd,vS x.wr,vS x.ow,.int .u8 x.fns,vS x.to,.int .i64 x.idx]
theorem set_eqI (x y:BitVec 64):((x.toNat:Int)=(y.toNat:Int))=(x=y):=propext ⟨fun h=>BitVec.eq_of_toNat_eq (by omega),fun h=>h ▸ rfl⟩
theorem set_eqN (x y:BitVec 64):(x.toNat=y.toNat)=(x=y):=propext ⟨fun h=>BitVec.eq_of_toNat_eq h,fun h=>h ▸ rfl⟩
theorem run_eqRt (w:World) (d:Nat) (a1 a2 a3 b1 b2 b3:BitVec 64):(Op.equalIn (d+3) 36 (.agg #[.int .u64 (a1.toNat:Int),.int .u64 (a2.toNat:Int),.int .u64 (a3.toNat:Int)]) (.agg #[.int .u64 (b1.toNat:Int),.int .u64 (b2.toNat:Int),.int .u64 (b3.toNat:Int)])).run Tryz.prog w= .ok (decide (a1=b1) && decide (a2=b2) && decide (a3=b3)) w:=by
 rw [run_equalIn_agg w (d+2) 36 _ _ (by rw [Program.fieldsOf,Tryz.underlying36]) Tryz.stoodInHeld36]
 simp only [Program.fieldsOf,Tryz.underlying36]
 simp [Op.eqFields,part,go_sem,beqL,beqI,set_eqI,set_eqN]
 by_cases h1:a1=b1
 rotate_left
 ·
  simp [h1]
 by_cases h2:a2=b2
 rotate_left
 ·
  simp [h1,h2]
 by_cases h3:a3=b3<;>simp [h1,h2,h3]
def eqRl (a b:Rl):Bool:=eqR a.rect b.rect && (decide (a.read=b.read) && decide (a.write=b.write) && decide (a.own=b.own))
theorem eqRl_iff {a b:Rl}:eqRl a b=true↔a=b:=by
 obtain ⟨a0,a1,a2,a3⟩:=a
 obtain ⟨b0,b1,b2,b3⟩:=b
 simp [eqRl,eqR_iff,eqF_iff,and_assoc]
instance:DecidableEq Rl:=fun a b=>decidable_of_iff (eqRl a b=true) eqRl_iff
theorem eqRl_dec (a b:Rl):eqRl a b=decide (a=b):=by
 rw [Bool.eq_iff_iff,eqRl_iff,decide_eq_true_iff]
theorem run_eqRl (w:World) (d:Nat) (a b:Rl):(Op.equalIn (d+5) 38 (.agg (encRl a).toArray) (.agg (encRl b).toArray)).run Tryz.prog w= .ok (eqRl a b) w:=by
 rw [run_equalIn_agg w (d+4) 38 _ _ (by rw [Program.fieldsOf,Tryz.underlying38]) Tryz.stoodInHeld38]
 simp only [Program.fieldsOf,Tryz.underlying38]
 have hq_R: ∀ w,(Op.equalIn (d+4) 33 (.agg #[.int .i64 a.rect.c1,.int .i64 a.rect.r1,.int .i64 a.rect.c2,.int .i64 a.rect.r2]) (.agg #[.int .i64 b.rect.c1,.int .i64 b.rect.r1,.int .i64 b.rect.c2,.int .i64 b.rect.r2])).run Tryz.prog w= .ok (eqR a.rect b.rect) w:=fun w=>run_eqR w (d+1) a.rect b.rect
 have hq_T: ∀ w,(Op.equalIn (d+4) 36 (.agg #[.int .u64 (a.read.toNat:Int),.int .u64 (a.write.toNat:Int),.int .u64 (a.own.toNat:Int)]) (.agg #[.int .u64 (b.read.toNat:Int),.int .u64 (b.write.toNat:Int),.int .u64 (b.own.toNat:Int)])).run Tryz.prog w= .ok (decide (a.read=b.read) && decide (a.write=b.write) && decide (a.own=b.own)) w:=fun w=>run_eqRt w (d+1) a.read a.write a.own b.read b.write b.own
 simp [Op.eqFields,encRl,vS,part,go_sem,beqL,beqI,set_eqI,set_eqN,eqRl,hq_R,hq_T]
 by_cases h1:eqR a.rect b.rect=true
 rotate_left
 ·
  simp [h1]
 by_cases h2:a.read=b.read
 rotate_left
 ·
  simp [h1,h2]
 by_cases h3:a.write=b.write
 rotate_left
 ·
  simp [h1,h2,h3]
 by_cases h4:a.own=b.own
 rotate_left
 ·
  simp [h1,h2,h3,h4]
 simp [h1,h2,h3,h4]
def eqGn (a b:Gn):Bool:=eqR a.rect b.rect && decide (a.fns=b.fns) && decide (a.to=b.to) && decide (a.by_=b.by_) && decide (a.rev=b.rev)
theorem eqGn_iff {a b:Gn}:eqGn a b=true↔a=b:=by
 obtain ⟨a0,a1,a2,a3,a4⟩:=a
 obtain ⟨b0,b1,b2,b3,b4⟩:=b
 simp [eqGn,eqR_iff,eqF_iff,and_assoc]
instance:DecidableEq Gn:=fun a b=>decidable_of_iff (eqGn a b=true) eqGn_iff
theorem eqGn_dec (a b:Gn):eqGn a b=decide (a=b):=by
 rw [Bool.eq_iff_iff,eqGn_iff,decide_eq_true_iff]
theorem run_eqGn (w:World) (d:Nat) (a b:Gn):(Op.equalIn (d+5) 56 (.agg (encGn a).toArray) (.agg (encGn b).toArray)).run Tryz.prog w= .ok (eqGn a b) w:=by
 rw [run_equalIn_agg w (d+4) 56 _ _ (by rw [Program.fieldsOf,Tryz.underlying56]) Tryz.stoodInHeld56]
 simp only [Program.fieldsOf,Tryz.underlying56]
 have hq_R: ∀ w,(Op.equalIn (d+4) 33 (.agg #[.int .i64 a.rect.c1,.int .i64 a.rect.r1,.int .i64 a.rect.c2,.int .i64 a.rect.r2]) (.agg #[.int .i64 b.rect.c1,.int .i64 b.rect.r1,.int .i64 b.rect.c2,.int .i64 b.rect.r2])).run Tryz.prog w= .ok (eqR a.rect b.rect) w:=fun w=>run_eqR w (d+1) a.rect b.rect
 simp [Op.eqFields,encGn,vS,part,go_sem,beqL,beqI,set_eqI,set_eqN,eqGn,hq_R]
 by_cases h1:eqR a.rect b.rect=true
 rotate_left
 ·
  simp [h1]
 by_cases h2:a.fns=b.fns
 rotate_left
 ·
  simp [h1,h2]
 by_cases h3:a.to=b.to
 rotate_left
 ·
  simp [h1,h2,h3]
 by_cases h4:a.by_=b.by_
 rotate_left
 ·
  simp [h1,h2,h3,h4]
 by_cases h5:a.rev=b.rev
 rotate_left
 ·
  simp [h1,h2,h3,h4,h5]
 simp [h1,h2,h3,h4,h5]
def eqCl (a b:Cl):Bool:=eqF a.at_ b.at_ && decide (a.node=b.node)
theorem eqCl_iff {a b:Cl}:eqCl a b=true↔a=b:=by
 obtain ⟨a0,a1⟩:=a
 obtain ⟨b0,b1⟩:=b
 simp [eqCl,eqR_iff,eqF_iff,and_assoc]
theorem run_eqCl (w:World) (d:Nat) (a b:Cl):(Op.equalIn (d+5) 64 (.agg (encCl a).toArray) (.agg (encCl b).toArray)).run Tryz.prog w= .ok (eqCl a b) w:=by
 rw [run_equalIn_agg w (d+4) 64 _ _ (by rw [Program.fieldsOf,Tryz.underlying64]) Tryz.stoodInHeld64]
 simp only [Program.fieldsOf,Tryz.underlying64]
 have hq_F: ∀ w,(Op.equalIn (d+4) 51 (.agg #[.int .i64 a.at_.col,.int .i64 a.at_.row]) (.agg #[.int .i64 b.at_.col,.int .i64 b.at_.row])).run Tryz.prog w= .ok (eqF a.at_ b.at_) w:=fun w=>run_eqF w (d+1) a.at_ b.at_
 simp [Op.eqFields,encCl,vS,part,go_sem,beqL,beqI,set_eqI,set_eqN,eqCl,hq_F]
 by_cases h1:eqF a.at_ b.at_=true
 rotate_left
 ·
  simp [h1]
 by_cases h2:a.node=b.node
 rotate_left
 ·
  simp [h1,h2]
 simp [h1,h2]
def eqEv (a b:Ev):Bool:=decide (a.step=b.step) && decide (a.user=b.user) && decide (a.kind=b.kind) && eqR a.rect b.rect && decide (a.done=b.done) && decide (a.to=b.to)
theorem eqEv_iff {a b:Ev}:eqEv a b=true↔a=b:=by
 obtain ⟨a0,a1,a2,a3,a4,a5⟩:=a
 obtain ⟨b0,b1,b2,b3,b4,b5⟩:=b
 simp [eqEv,eqR_iff,eqF_iff,and_assoc]
instance:DecidableEq Ev:=fun a b=>decidable_of_iff (eqEv a b=true) eqEv_iff
theorem eqEv_dec (a b:Ev):eqEv a b=decide (a=b):=by
 rw [Bool.eq_iff_iff,eqEv_iff,decide_eq_true_iff]
theorem run_eqEv (w:World) (d:Nat) (a b:Ev):(Op.equalIn (d+5) 48 (.agg (encEv a).toArray) (.agg (encEv b).toArray)).run Tryz.prog w= .ok (eqEv a b) w:=by
 rw [run_equalIn_agg w (d+4) 48 _ _ (by rw [Program.fieldsOf,Tryz.underlying48]) Tryz.stoodInHeld48]
 simp only [Program.fieldsOf,Tryz.underlying48]
 have hq_R: ∀ w,(Op.equalIn (d+4) 33 (.agg #[.int .i64 a.rect.c1,.int .i64 a.rect.r1,.int .i64 a.rect.c2,.int .i64 a.rect.r2]) (.agg #[.int .i64 b.rect.c1,.int .i64 b.rect.r1,.int .i64 b.rect.c2,.int .i64 b.rect.r2])).run Tryz.prog w= .ok (eqR a.rect b.rect) w:=fun w=>run_eqR w (d+1) a.rect b.rect
 simp [Op.eqFields,encEv,vS,part,go_sem,beqL,beqI,set_eqI,set_eqN,eqEv,hq_R]
 by_cases h1:a.step=b.step
 rotate_left
 ·
  simp [h1]
 by_cases h2:a.user=b.user
 rotate_left
 ·
  simp [h1,h2]
 by_cases h3:a.kind=b.kind
 rotate_left
 ·
  simp [h1,h2,h3]
 by_cases h4:eqR a.rect b.rect=true
 rotate_left
 ·
  simp [h1,h2,h3,h4]
 by_cases h5:a.done=b.done
 rotate_left
 ·
  simp [h1,h2,h3,h4,h5]
 by_cases h6:a.to=b.to
 rotate_left
 ·
  simp [h1,h2,h3,h4,h5,h6]
 simp [h1,h2,h3,h4,h5,h6]
def eqRv (a b:Rv):Bool:=decide (a.step=b.step) && eqCl a.call b.call && decide (a.fn=b.fn) && eqR a.rect b.rect && decide (a.grant=b.grant) && decide (a.to=b.to)
theorem eqRv_iff {a b:Rv}:eqRv a b=true↔a=b:=by
 obtain ⟨a0,a1,a2,a3,a4,a5⟩:=a
 obtain ⟨b0,b1,b2,b3,b4,b5⟩:=b
 simp [eqRv,eqR_iff,eqF_iff,eqCl_iff,and_assoc]
instance:DecidableEq Rv:=fun a b=>decidable_of_iff (eqRv a b=true) eqRv_iff
theorem eqRv_dec (a b:Rv):eqRv a b=decide (a=b):=by
 rw [Bool.eq_iff_iff,eqRv_iff,decide_eq_true_iff]
theorem run_eqRv (w:World) (d:Nat) (a b:Rv):(Op.equalIn (d+7) 66 (.agg (encRv a).toArray) (.agg (encRv b).toArray)).run Tryz.prog w= .ok (eqRv a b) w:=by
 rw [run_equalIn_agg w (d+6) 66 _ _ (by rw [Program.fieldsOf,Tryz.underlying66]) Tryz.stoodInHeld66]
 simp only [Program.fieldsOf,Tryz.underlying66]
 have hq_C: ∀ w,(Op.equalIn (d+6) 64 (.agg #[.int .i64 a.call.at_.col,.int .i64 a.call.at_.row,.int .i64 a.call.node]) (.agg #[.int .i64 b.call.at_.col,.int .i64 b.call.at_.row,.int .i64 b.call.node])).run Tryz.prog w= .ok (eqCl a.call b.call) w:=fun w=>run_eqCl w (d+1) a.call b.call
 have hq_R: ∀ w,(Op.equalIn (d+6) 33 (.agg #[.int .i64 a.rect.c1,.int .i64 a.rect.r1,.int .i64 a.rect.c2,.int .i64 a.rect.r2]) (.agg #[.int .i64 b.rect.c1,.int .i64 b.rect.r1,.int .i64 b.rect.c2,.int .i64 b.rect.r2])).run Tryz.prog w= .ok (eqR a.rect b.rect) w:=fun w=>run_eqR w (d+3) a.rect b.rect
 simp [Op.eqFields,encRv,vS,part,go_sem,beqL,beqI,set_eqI,set_eqN,eqRv,hq_C,hq_R]
 by_cases h1:a.step=b.step
 rotate_left
 ·
  simp [h1]
 by_cases h2:eqCl a.call b.call=true
 rotate_left
 ·
  simp [h1,h2]
 by_cases h3:a.fn=b.fn
 rotate_left
 ·
  simp [h1,h2,h3]
 by_cases h4:eqR a.rect b.rect=true
 rotate_left
 ·
  simp [h1,h2,h3,h4]
 by_cases h5:a.grant=b.grant
 rotate_left
 ·
  simp [h1,h2,h3,h4,h5]
 by_cases h6:a.to=b.to
 rotate_left
 ·
  simp [h1,h2,h3,h4,h5,h6]
 simp [h1,h2,h3,h4,h5,h6]
def eqOx (a b:Ox):Bool:=decide (a.kind=b.kind) && decide (a.user=b.user) && eqR a.rect b.rect && decide (a.input=b.input) && (decide (a.rd=b.rd) && decide (a.wr=b.wr) && decide (a.ow=b.ow)) && decide (a.fns=b.fns) && decide (a.to=b.to) && decide (a.idx=b.idx)
theorem eqOx_iff {a b:Ox}:eqOx a b=true↔a=b:=by
 obtain ⟨a0,a1,a2,a3,a4,a5,a6,a7,a8,a9⟩:=a
 obtain ⟨b0,b1,b2,b3,b4,b5,b6,b7,b8,b9⟩:=b
 simp [eqOx,eqR_iff,eqF_iff,and_assoc]
instance:DecidableEq Ox:=fun a b=>decidable_of_iff (eqOx a b=true) eqOx_iff
theorem run_eqOx (w:World) (d:Nat) (a b:Ox):(Op.equalIn (d+5) 41 (.agg (encOx a).toArray) (.agg (encOx b).toArray)).run Tryz.prog w= .ok (eqOx a b) w:=by
 rw [run_equalIn_agg w (d+4) 41 _ _ (by rw [Program.fieldsOf,Tryz.underlying41]) Tryz.stoodInHeld41]
 simp only [Program.fieldsOf,Tryz.underlying41]
 have hq_R: ∀ w,(Op.equalIn (d+4) 33 (.agg #[.int .i64 a.rect.c1,.int .i64 a.rect.r1,.int .i64 a.rect.c2,.int .i64 a.rect.r2]) (.agg #[.int .i64 b.rect.c1,.int .i64 b.rect.r1,.int .i64 b.rect.c2,.int .i64 b.rect.r2])).run Tryz.prog w= .ok (eqR a.rect b.rect) w:=fun w=>run_eqR w (d+1) a.rect b.rect
 have hq_T: ∀ w,(Op.equalIn (d+4) 36 (.agg #[.int .u64 (a.rd.toNat:Int),.int .u64 (a.wr.toNat:Int),.int .u64 (a.ow.toNat:Int)]) (.agg #[.int .u64 (b.rd.toNat:Int),.int .u64 (b.wr.toNat:Int),.int .u64 (b.ow.toNat:Int)])).run Tryz.prog w= .ok (decide (a.rd=b.rd) && decide (a.wr=b.wr) && decide (a.ow=b.ow)) w:=fun w=>run_eqRt w (d+1) a.rd a.wr a.ow b.rd b.wr b.ow
 simp [Op.eqFields,encOx,vS,part,go_sem,beqL,beqI,set_eqI,set_eqN,eqOx,hq_R,hq_T]
 by_cases h1:a.kind=b.kind
 rotate_left
 ·
  simp [h1]
 by_cases h2:a.user=b.user
 rotate_left
 ·
  simp [h1,h2]
 by_cases h3:eqR a.rect b.rect=true
 rotate_left
 ·
  simp [h1,h2,h3]
 by_cases h4:a.input=b.input
 rotate_left
 ·
  simp [h1,h2,h3,h4]
 by_cases h5:a.rd=b.rd
 rotate_left
 ·
  simp [h1,h2,h3,h4,h5]
 by_cases h6:a.wr=b.wr
 rotate_left
 ·
  simp [h1,h2,h3,h4,h5,h6]
 by_cases h7:a.ow=b.ow
 rotate_left
 ·
  simp [h1,h2,h3,h4,h5,h6,h7]
 by_cases h8:a.fns=b.fns
 rotate_left
 ·
  simp [h1,h2,h3,h4,h5,h6,h7,h8]
 by_cases h9:a.to=b.to
 rotate_left
 ·
  simp [h1,h2,h3,h4,h5,h6,h7,h8,h9]
 by_cases h10:a.idx=b.idx
 rotate_left
 ·
  simp [h1,h2,h3,h4,h5,h6,h7,h8,h9,h10]
 simp [h1,h2,h3,h4,h5,h6,h7,h8,h9,h10]
section
variable {w0:World} {s:Slots} {H:List Blk} {ty t' :TypeId} {x y:Operand}
theorem v_neqRl {a b:Rl} (hx:ev s x=some (.agg (encRl a).toArray)) (hy:ev s y=some (.agg (encRl b).toArray)):VOp Tryz.prog w0 s H (.binOp .neq 38 x y t') ty (.bool (!eqRl a b)):=fun ρ w _ _ _ _ hρ _=>by
 have h:=run_eqRl w 9995 a b
 simp only [Nat.reduceAdd] at h
 simp only [execOp,hρ x _ hx,hρ y _ hy,Sem.run_bind,run_eqGuard_agg w _ _ _ _ _ _ Tryz.eqGuardType38,Result.andThen_ok,run_neq_struct,h,Sem.run_pure]
theorem v_neqGn {a b:Gn} (hx:ev s x=some (.agg (encGn a).toArray)) (hy:ev s y=some (.agg (encGn b).toArray)):VOp Tryz.prog w0 s H (.binOp .neq 56 x y t') ty (.bool (!eqGn a b)):=fun ρ w _ _ _ _ hρ _=>by
 have h:=run_eqGn w 9995 a b
 simp only [Nat.reduceAdd] at h
 simp only [execOp,hρ x _ hx,hρ y _ hy,Sem.run_bind,run_eqGuard_agg w _ _ _ _ _ _ Tryz.eqGuardType56,Result.andThen_ok,run_neq_struct,h,Sem.run_pure]
theorem v_neqEv {a b:Ev} (hx:ev s x=some (.agg (encEv a).toArray)) (hy:ev s y=some (.agg (encEv b).toArray)):VOp Tryz.prog w0 s H (.binOp .neq 48 x y t') ty (.bool (!eqEv a b)):=fun ρ w _ _ _ _ hρ _=>by
 have h:=run_eqEv w 9995 a b
 simp only [Nat.reduceAdd] at h
 simp only [execOp,hρ x _ hx,hρ y _ hy,Sem.run_bind,run_eqGuard_agg w _ _ _ _ _ _ Tryz.eqGuardType48,Result.andThen_ok,run_neq_struct,h,Sem.run_pure]
theorem v_neqRv {a b:Rv} (hx:ev s x=some (.agg (encRv a).toArray)) (hy:ev s y=some (.agg (encRv b).toArray)):VOp Tryz.prog w0 s H (.binOp .neq 66 x y t') ty (.bool (!eqRv a b)):=fun ρ w _ _ _ _ hρ _=>by
 have h:=run_eqRv w 9993 a b
 simp only [Nat.reduceAdd] at h
 simp only [execOp,hρ x _ hx,hρ y _ hy,Sem.run_bind,run_eqGuard_agg w _ _ _ _ _ _ Tryz.eqGuardType66,Result.andThen_ok,run_neq_struct,h,Sem.run_pure]
theorem v_neqOx {a b:Ox} (hx:ev s x=some (.agg (encOx a).toArray)) (hy:ev s y=some (.agg (encOx b).toArray)):VOp Tryz.prog w0 s H (.binOp .neq 41 x y t') ty (.bool (!eqOx a b)):=fun ρ w _ _ _ _ hρ _=>by
 have h:=run_eqOx w 9995 a b
 simp only [Nat.reduceAdd] at h
 simp only [execOp,hρ x _ hx,hρ y _ hy,Sem.run_bind,run_eqGuard_agg w _ _ _ _ _ _ Tryz.eqGuardType41,Result.andThen_ok,run_neq_struct,h,Sem.run_pure]
end
theorem encRls_one (L:List Rl): ∀ u∈L.flatMap encRl,u.oneCell' =true:=fun u hu=>by
 obtain ⟨a,_,h⟩:=List.mem_flatMap.1 hu
 simp only [encRl,List.mem_cons,List.not_mem_nil,or_false] at h
 rcases h with rfl|rfl|rfl|rfl|rfl|rfl|rfl<;>rfl
theorem encEvs_one (L:List Ev): ∀ u∈L.flatMap encEv,u.oneCell' =true:=fun u hu=>by
 obtain ⟨a,_,h⟩:=List.mem_flatMap.1 hu
 simp only [encEv,List.mem_cons,List.not_mem_nil,or_false] at h
 rcases h with rfl|rfl|rfl|rfl|rfl|rfl|rfl|rfl|rfl<;>rfl
theorem encRvs_one (L:List Rv): ∀ u∈L.flatMap encRv,u.oneCell' =true:=fun u hu=>by
 obtain ⟨a,_,h⟩:=List.mem_flatMap.1 hu
 simp only [encRv,List.mem_cons,List.not_mem_nil,or_false] at h
 rcases h with rfl|rfl|rfl|rfl|rfl|rfl|rfl|rfl|rfl|rfl|rfl<;>rfl
end Go.SL
namespace Go.SL
open Go Go.Proofs
attribute [local irreducible] W WL WQ WG WA WX WLI WR WT WC WE VOp RW thn blk cutP scp retP retPP endB FnAt FnIn FnP ceP
structure Rdr (gg:Nat) (G:Gr) (B:List Blk) (w0:World):Prop where
 g:GrOk G
 l:G.length≤900
 ur: ∀ r H,MSub B H→FnIn Tryz.prog 185 [.pointer (some ⟨gg,0,none⟩),.agg (encR r).toArray] w0 H fun v H' => ∃ A cap,v=sl A (usersG G r).length cap∧H' = .own A 51 2 (usersG G r).length cap ((usersG G r).flatMap encF)::H
 fm: ∀ H,MSub B H→FnIn Tryz.prog 165 [.pointer (some ⟨gg,0,none⟩)] w0 H fun v H' => ∃ A cap,v=sl A (keysG G).length cap∧H' = .own A 51 2 (keysG G).length cap ((keysG G).flatMap encF)::H
 us: ∀ d H,MSub B H→FnIn Tryz.prog 117 [.pointer (some ⟨gg,0,none⟩),keyF d] w0 H fun v H' => ∃ A cap,v=sl A (usesG G d).length cap∧H' = .own A 200 6 (usesG G d).length cap ((usesG G d).flatMap encU)::H
section
variable {gg:Nat} {G:Gr} {B F:List Blk} {w0:World} (h:Rdr gg G B w0) (hB:MSub B F)
include h hB
end
end Go.SL
namespace Go.SL
open Go
def bandsC (lo hi:Int) (ps:List (Int × Int)):List (Int × Int):=pairsI ((cmpN (insortI (beginsI lo ps))).filter fun x=>decide (lo≤x) && decide (x≤hi)) hi
theorem bandsC_eq:bandsF=bandsC:=by funext lo hi ps;unfold bandsF bandsC cutsI;rw [sortI_eq]
def partsC (r:Rct) (A B:List Rl):List Pz:=(bandsC r.r1 r.r2 (rowsOf r A++rowsOf r B)).flatMap fun y=>rowZ A B y (bandsC r.c1 r.c2 (colsOf r A++colsOf r B))
theorem partsC_eq:partsF=partsC:=by funext r A B;unfold partsF partsC;rw [bandsC_eq]
def ovByC (f:Rl→BitVec 64) (r:Rct) (L:List Rl):BitVec 64:=andS ((partsC r L []).map fun p=>(L[p.a]?.map f).getD 0#64)
theorem ovByC_eq:ovBy=ovByC:=by funext f r L;unfold ovBy ovByC;rw [partsC_eq]
def ovC (r:Rct) (L:List Rl):(BitVec 64 × BitVec 64 × BitVec 64) × Int:=
 if checkZ r L≠0 then ((0#64,0#64,0#64),checkZ r L) else ((ovByC (fun x=>x.read) r L,ovByC (fun x=>x.write) r L,ovByC (fun x=>x.own) r L),0)
theorem ovC_eq:ovE=ovC:=by funext r L;unfold ovE ovC;rw [ovByC_eq]
def bkR:List Rl:= [⟨⟨1,1,1024,1024⟩,7#64,7#64,1#64⟩,⟨⟨2,1,2,3⟩,1#64,1#64,1#64⟩]
def bkN:List Gn:= [⟨⟨2,1,2,3⟩,1,2#64,0,false⟩]
set_option maxRecDepth 100000
end Go.SL
namespace Go.SL
open Go Go.Proofs
section
variable {w0:World} {s:Slots} {H:List Blk} {ty t' :TypeId} {x y:Operand}
end
attribute [local irreducible] W WL WQ WG WA WX WLI WR WT WC WE VOp RW thn blk cutP scp retP retPP endB FnAt FnIn FnP ceP bodyB assignQ roundQ
def flowL:List Et:= [⟨⟨1,1⟩,⟨#[53]⟩⟩,⟨⟨2,1⟩,⟨#[49,48]⟩⟩,⟨⟨1,2⟩,inB⟩,⟨⟨2,2⟩,⟨#[50,48]⟩⟩,⟨⟨1,3⟩,inC⟩,⟨⟨1,4⟩,inD⟩]
theorem sheet19_at (w:World):Pure Tryz.prog 113 [] w (.agg (encR ⟨1,1,1024,1024⟩).toArray):=by
 refine fn_at Tryz.func113 rfl Tryz.ntmps113 rfl ?_
 repeat' (first|refine sT ?_|refine sM fun _=> ?_|(refine sC ?_ ?_<;>intro hb<;>try omega)|fail)
 (refine eRC ?_)
 rfl
set_option maxHeartbeats 4000000 in
theorem Book27_at (w:World):FnAt Tryz.prog 45 [] w fun v H=> ∃ ge gr gn,v= .tuple #[.slice (some ⟨ge,0,none⟩) 6 6,.slice (some ⟨gr,0,none⟩) 2 2,.slice (some ⟨gn,0,none⟩) 1 1]∧H= [.own (some ge) 53 3 6 6 (flowL.flatMap encEt),.own (some gr) 38 7 2 2 (bkR.flatMap encRl),.own (some gn) 56 8 1 1 (bkN.flatMap encGn)]:=by
 refine fn_at Tryz.func45 rfl Tryz.ntmps45 rfl ?_
 repeat' (first|((with_reducible apply w_drawC0 (id:=3) [0,6] []);kernel_rfl;kernel_rfl;kernel_rfl)|((with_reducible apply w_drawC0 (id:=4) [4] []);kernel_rfl;kernel_rfl;kernel_rfl)|((with_reducible apply wl_callp (f:=113));exact rfl;exact rfl;(intro w' _;exact sheet19_at w'))|refine sT ?_|refine sS ?_|refine sW ?_|refine sM fun _=> ?_|(refine sC ?_ ?_<;>intro hb<;>try omega)|(refine sCW ?_ ?_<;>intro hb<;>try omega)|fail)
 rename_i ge gr gn
 exact ret3 eIO rfl rfl rfl rfl (H' := [.own (some ge) 53 3 6 6 (flowL.flatMap encEt),.own (some gr) 38 7 2 2 (bkR.flatMap encRl),.own (some gn) 56 8 1 1 (bkN.flatMap encGn)]) mS ⟨ge,gr,gn,rfl,rfl⟩
theorem encGns_one (L:List Gn): ∀ u∈L.flatMap encGn,u.oneCell' =true:=fun u hu=>by
 obtain ⟨a,_,h⟩:=List.mem_flatMap.1 hu
 simp only [encGn,List.mem_cons,List.not_mem_nil,or_false] at h
 rcases h with rfl|rfl|rfl|rfl|rfl|rfl|rfl|rfl<;>rfl
end Go.SL
namespace Go.SL
open Go Go.Proofs
attribute [local irreducible] W WL WQ WG WA WX WLI WR WT WC WE VOp RW thn blk cutP scp retP retPP endB FnAt FnIn FnP ceP
theorem CloneEt_at (L:List Et) (tv:Value) (w:World) (ht:Reads w tv L.length (L.flatMap encEt)) (hlen:L.length≤1000000):
  FnAt Tryz.prog 89 [tv] w fun v H=> ∃ A cap,v=sl A L.length cap∧H= [.own A 53 3 L.length cap (L.flatMap encEt)]:=by
 have ht' :=ht
 obtain ⟨At,ct,rfl,ht1,ht2,ht3⟩:=ht
 refine fn_at Tryz.func89 rfl Tryz.ntmps89 rfl ?_
 have hl:(L.flatMap encEt).length=L.length*3:=flat_length' encEt_len L
 refine w_nilrow 53 3 ?_
 repeat' (first|((with_reducible apply wl_v);exact rfl;(with_reducible apply v_eqlnil);exact rfl)|((with_reducible apply wl_buildSlice0);exact rfl;intro gb)|((with_reducible apply wl_appendR (n' :=0) (c:=0) (A:=some _) (m:=L.length));(iterate 3 exact rfl);exact pK;(intro w hm;exact ht'.of_w0 hm);exact hl;exact encEts_one L;omega;(simp only [maxLen];omega);intro A' cap' hA)|refine sT ?_|refine sM fun _=> ?_|(refine sC ?_ ?_<;>intro hb<;>try omega)|fail)
 ·
  have e:L.length=0:=by
   rcases Nat.eq_zero_or_pos L.length with h|h
   ·
    exact h
   ·
    obtain ⟨g,o,rfl,_⟩:=ht3 h
    cases hb
  have e' :L= []:=List.eq_nil_of_length_eq_zero e
  subst e'
  exact ret1 (.inl rfl) Tryz.results89 rfl (.refl _) ⟨none,0,rfl,rfl⟩
 ·
  exact ret1 (.inl rfl) Tryz.results89 rfl (H' := [.own A' 53 3 (0+L.length) cap' ([]++L.flatMap encEt)]) mS ⟨A',cap',by rw [Nat.zero_add],by rw [Nat.zero_add];rfl⟩
theorem CloneRl_at (L:List Rl) (tv:Value) (w:World) (ht:Reads w tv L.length (L.flatMap encRl)) (hlen:L.length≤1000000):
  FnAt Tryz.prog 90 [tv] w fun v H=> ∃ A cap,v=sl A L.length cap∧H= [.own A 38 7 L.length cap (L.flatMap encRl)]:=by
 have ht' :=ht
 obtain ⟨At,ct,rfl,ht1,ht2,ht3⟩:=ht
 refine fn_at Tryz.func90 rfl Tryz.ntmps90 rfl ?_
 have hl:(L.flatMap encRl).length=L.length*7:=flat_length' encRl_len L
 refine w_nilrow 38 7 ?_
 repeat' (first|((with_reducible apply wl_v);exact rfl;(with_reducible apply v_eqlnil);exact rfl)|((with_reducible apply wl_buildSlice0);exact rfl;intro gb)|((with_reducible apply wl_appendR (n' :=0) (c:=0) (A:=some _) (m:=L.length));(iterate 3 exact rfl);exact pK;(intro w hm;exact ht'.of_w0 hm);exact hl;exact encRls_one L;omega;(simp only [maxLen];omega);intro A' cap' hA)|refine sT ?_|refine sM fun _=> ?_|(refine sC ?_ ?_<;>intro hb<;>try omega)|fail)
 ·
  have e:L.length=0:=by
   rcases Nat.eq_zero_or_pos L.length with h|h
   ·
    exact h
   ·
    obtain ⟨g,o,rfl,_⟩:=ht3 h
    cases hb
  have e' :L= []:=List.eq_nil_of_length_eq_zero e
  subst e'
  exact ret1 (.inl rfl) Tryz.results90 rfl (.refl _) ⟨none,0,rfl,rfl⟩
 ·
  exact ret1 (.inl rfl) Tryz.results90 rfl (H' := [.own A' 38 7 (0+L.length) cap' ([]++L.flatMap encRl)]) mS ⟨A',cap',by rw [Nat.zero_add],by rw [Nat.zero_add];rfl⟩
theorem CloneGn_at (L:List Gn) (tv:Value) (w:World) (ht:Reads w tv L.length (L.flatMap encGn)) (hlen:L.length≤1000000):
  FnAt Tryz.prog 91 [tv] w fun v H=> ∃ A cap,v=sl A L.length cap∧H= [.own A 56 8 L.length cap (L.flatMap encGn)]:=by
 have ht' :=ht
 obtain ⟨At,ct,rfl,ht1,ht2,ht3⟩:=ht
 refine fn_at Tryz.func91 rfl Tryz.ntmps91 rfl ?_
 have hl:(L.flatMap encGn).length=L.length*8:=flat_length' encGn_len L
 refine w_nilrow 56 8 ?_
 repeat' (first|((with_reducible apply wl_v);exact rfl;(with_reducible apply v_eqlnil);exact rfl)|((with_reducible apply wl_buildSlice0);exact rfl;intro gb)|((with_reducible apply wl_appendR (n' :=0) (c:=0) (A:=some _) (m:=L.length));(iterate 3 exact rfl);exact pK;(intro w hm;exact ht'.of_w0 hm);exact hl;exact encGns_one L;omega;(simp only [maxLen];omega);intro A' cap' hA)|refine sT ?_|refine sM fun _=> ?_|(refine sC ?_ ?_<;>intro hb<;>try omega)|fail)
 ·
  have e:L.length=0:=by
   rcases Nat.eq_zero_or_pos L.length with h|h
   ·
    exact h
   ·
    obtain ⟨g,o,rfl,_⟩:=ht3 h
    cases hb
  have e' :L= []:=List.eq_nil_of_length_eq_zero e
  subst e'
  exact ret1 (.inl rfl) Tryz.results91 rfl (.refl _) ⟨none,0,rfl,rfl⟩
 ·
  exact ret1 (.inl rfl) Tryz.results91 rfl (H' := [.own A' 56 8 (0+L.length) cap' ([]++L.flatMap encGn)]) mS ⟨A',cap',by rw [Nat.zero_add],by rw [Nat.zero_add];rfl⟩
theorem CloneEv_at (L:List Ev) (tv:Value) (w:World) (ht:Reads w tv L.length (L.flatMap encEv)) (hlen:L.length≤1000000):
  FnAt Tryz.prog 92 [tv] w fun v H=> ∃ A cap,v=sl A L.length cap∧H= [.own A 48 9 L.length cap (L.flatMap encEv)]:=by
 have ht' :=ht
 obtain ⟨At,ct,rfl,ht1,ht2,ht3⟩:=ht
 refine fn_at Tryz.func92 rfl Tryz.ntmps92 rfl ?_
 have hl:(L.flatMap encEv).length=L.length*9:=flat_length' encEv_len L
 refine w_nilrow 48 9 ?_
 repeat' (first|((with_reducible apply wl_v);exact rfl;(with_reducible apply v_eqlnil);exact rfl)|((with_reducible apply wl_buildSlice0);exact rfl;intro gb)|((with_reducible apply wl_appendR (n' :=0) (c:=0) (A:=some _) (m:=L.length));(iterate 3 exact rfl);exact pK;(intro w hm;exact ht'.of_w0 hm);exact hl;exact encEvs_one L;omega;(simp only [maxLen];omega);intro A' cap' hA)|refine sT ?_|refine sM fun _=> ?_|(refine sC ?_ ?_<;>intro hb<;>try omega)|fail)
 ·
  have e:L.length=0:=by
   rcases Nat.eq_zero_or_pos L.length with h|h
   ·
    exact h
   ·
    obtain ⟨g,o,rfl,_⟩:=ht3 h
    cases hb
  have e' :L= []:=List.eq_nil_of_length_eq_zero e
  subst e'
  exact ret1 (.inl rfl) Tryz.results92 rfl (.refl _) ⟨none,0,rfl,rfl⟩
 ·
  exact ret1 (.inl rfl) Tryz.results92 rfl (H' := [.own A' 48 9 (0+L.length) cap' ([]++L.flatMap encEv)]) mS ⟨A',cap',by rw [Nat.zero_add],by rw [Nat.zero_add];rfl⟩
theorem CloneRv_at (L:List Rv) (tv:Value) (w:World) (ht:Reads w tv L.length (L.flatMap encRv)) (hlen:L.length≤1000000):
  FnAt Tryz.prog 93 [tv] w fun v H=> ∃ A cap,v=sl A L.length cap∧H= [.own A 66 11 L.length cap (L.flatMap encRv)]:=by
 have ht' :=ht
 obtain ⟨At,ct,rfl,ht1,ht2,ht3⟩:=ht
 refine fn_at Tryz.func93 rfl Tryz.ntmps93 rfl ?_
 have hl:(L.flatMap encRv).length=L.length*11:=flat_length' encRv_len L
 refine w_nilrow 66 11 ?_
 repeat' (first|((with_reducible apply wl_v);exact rfl;(with_reducible apply v_eqlnil);exact rfl)|((with_reducible apply wl_buildSlice0);exact rfl;intro gb)|((with_reducible apply wl_appendR (n' :=0) (c:=0) (A:=some _) (m:=L.length));(iterate 3 exact rfl);exact pK;(intro w hm;exact ht'.of_w0 hm);exact hl;exact encRvs_one L;omega;(simp only [maxLen];omega);intro A' cap' hA)|refine sT ?_|refine sM fun _=> ?_|(refine sC ?_ ?_<;>intro hb<;>try omega)|fail)
 ·
  have e:L.length=0:=by
   rcases Nat.eq_zero_or_pos L.length with h|h
   ·
    exact h
   ·
    obtain ⟨g,o,rfl,_⟩:=ht3 h
    cases hb
  have e' :L= []:=List.eq_nil_of_length_eq_zero e
  subst e'
  exact ret1 (.inl rfl) Tryz.results93 rfl (.refl _) ⟨none,0,rfl,rfl⟩
 ·
  exact ret1 (.inl rfl) Tryz.results93 rfl (H' := [.own A' 66 11 (0+L.length) cap' ([]++L.flatMap encRv)]) mS ⟨A',cap',by rw [Nat.zero_add],by rw [Nat.zero_add];rfl⟩
theorem EqualEt_at (L M:List Et) (lv mv:Value) (w:World) (hl:Reads w lv L.length (L.flatMap encEt)) (hm:Reads w mv M.length (M.flatMap encEt)):
  Pure Tryz.prog 94 [lv,mv] w (.bool (decide (L=M))):=by
 obtain ⟨Al,cl,rfl,hl1,hl2,hl3⟩:=hl
 obtain ⟨Am,cm,rfl,hm1,hm2,hm3⟩:=hm
 refine fn_at Tryz.func94 rfl Tryz.ntmps94 rfl ?_
 by_cases hlen:L.length=M.length
 ·
  repeat' (first|refine sT ?_|refine sS ?_|refine sM fun _=> ?_|(refine sC ?_ ?_<;>intro hb<;>try omega)|fail)
  refine w_loopK [0,1,12] rfl (fun i:Nat=> [(13,.int .i64 (i:Int))]) (fun _=> []) (fun i=>i≤L.length∧decide (L=M)=decide (L.drop i=M.drop i)) (fun i=>L.length - i) 0 ⟨by omega,rfl⟩ ?_ ?_ ?_
  ·
   exact sB
  ·
   exact mS
  ·
   rintro i ⟨hi,hrec⟩
   by_cases hlt:i<L.length
   ·
    have hlt2:i<M.length:=by omega
    obtain ⟨gl,ol,rfl,hrl⟩:=hl3 (by omega)
    obtain ⟨gm,om,rfl,hrm⟩:=hm3 (by omega)
    have he1:=hrl.elem encEt_len i hlt
    have he2:=hrm.elem encEt_len i hlt2
    rw [eq_drop hlt hlt2] at hrec
    repeat' (first|((with_reducible apply wq_v);exact rfl;(with_reducible apply v_indexAddr);exact rfl;exact rfl;(first|exact hlt|exact hlt2))|((with_reducible apply wq_v);exact rfl;(with_reducible apply v_loadw_ro);exact rfl;(first|exact he1|exact he2);exact rfl)|((with_reducible apply wq_v);exact rfl;(with_reducible apply v_neqEt);exact rfl;exact rfl)|((with_reducible apply wl_v);exact rfl;(with_reducible apply v_succN);exact rfl;exact rfl;(simp only [maxLen] at*;omega))|refine sT ?_|refine sS ?_|refine sQ ?_|refine sD ?_|refine sM fun _=> ?_|(refine sC ?_ ?_<;>intro hb<;>try omega)|(refine sCQ ?_ ?_<;>intro hb<;>try omega)|fail)
    all_goals first
     |(exfalso;omega)
     |((refine rT1 ?_);rw [hrec];simp_all;done)
     |(refine ⟨i+1,⟨by omega,?_⟩,by omega,by exact sB,by exact sB,by exact mS⟩;rw [hrec];simp_all;done)
     |trace_state
   ·
    have e:i=L.length:=by omega
    subst e
    repeat' (first|refine sT ?_|refine sS ?_|refine sM fun _=> ?_|(refine sC ?_ ?_<;>intro hb<;>try omega)|fail)
    (refine rT1 ?_)
    rw [hrec,List.drop_length,hlen,List.drop_length]
    rfl
 ·
  repeat' (first|refine sT ?_|refine sS ?_|refine sM fun _=> ?_|(refine sC ?_ ?_<;>intro hb<;>try omega)|fail)
  (refine rT1 ?_)
  rw [decide_eq_false]
  intro e
  exact hlen (congrArg List.length e)
theorem EqualRl_at (L M:List Rl) (lv mv:Value) (w:World) (hl:Reads w lv L.length (L.flatMap encRl)) (hm:Reads w mv M.length (M.flatMap encRl)):
  Pure Tryz.prog 95 [lv,mv] w (.bool (decide (L=M))):=by
 obtain ⟨Al,cl,rfl,hl1,hl2,hl3⟩:=hl
 obtain ⟨Am,cm,rfl,hm1,hm2,hm3⟩:=hm
 refine fn_at Tryz.func95 rfl Tryz.ntmps95 rfl ?_
 by_cases hlen:L.length=M.length
 ·
  repeat' (first|refine sT ?_|refine sS ?_|refine sM fun _=> ?_|(refine sC ?_ ?_<;>intro hb<;>try omega)|fail)
  refine w_loopK [0,1,12] rfl (fun i:Nat=> [(13,.int .i64 (i:Int))]) (fun _=> []) (fun i=>i≤L.length∧decide (L=M)=decide (L.drop i=M.drop i)) (fun i=>L.length - i) 0 ⟨by omega,rfl⟩ ?_ ?_ ?_
  ·
   exact sB
  ·
   exact mS
  ·
   rintro i ⟨hi,hrec⟩
   by_cases hlt:i<L.length
   ·
    have hlt2:i<M.length:=by omega
    obtain ⟨gl,ol,rfl,hrl⟩:=hl3 (by omega)
    obtain ⟨gm,om,rfl,hrm⟩:=hm3 (by omega)
    have he1:=hrl.elem encRl_len i hlt
    have he2:=hrm.elem encRl_len i hlt2
    rw [eq_drop hlt hlt2,← eqRl_dec] at hrec
    repeat' (first|((with_reducible apply wq_v);exact rfl;(with_reducible apply v_indexAddr);exact rfl;exact rfl;(first|exact hlt|exact hlt2))|((with_reducible apply wq_v);exact rfl;(with_reducible apply v_loadw_ro);exact rfl;(first|exact he1|exact he2);exact rfl)|((with_reducible apply wq_v);exact rfl;(with_reducible apply v_neqRl);exact rfl;exact rfl)|((with_reducible apply wl_v);exact rfl;(with_reducible apply v_succN);exact rfl;exact rfl;(simp only [maxLen] at*;omega))|refine sT ?_|refine sS ?_|refine sQ ?_|refine sD ?_|refine sM fun _=> ?_|(refine sC ?_ ?_<;>intro hb<;>try omega)|(refine sCQ ?_ ?_<;>intro hb<;>try omega)|fail)
    all_goals first
     |(exfalso;omega)
     |((refine rT1 ?_);rw [hrec];simp_all;done)
     |(refine ⟨i+1,⟨by omega,?_⟩,by omega,by exact sB,by exact sB,by exact mS⟩;rw [hrec];simp_all;done)
     |trace_state
   ·
    have e:i=L.length:=by omega
    subst e
    repeat' (first|refine sT ?_|refine sS ?_|refine sM fun _=> ?_|(refine sC ?_ ?_<;>intro hb<;>try omega)|fail)
    (refine rT1 ?_)
    rw [hrec,List.drop_length,hlen,List.drop_length]
    rfl
 ·
  repeat' (first|refine sT ?_|refine sS ?_|refine sM fun _=> ?_|(refine sC ?_ ?_<;>intro hb<;>try omega)|fail)
  (refine rT1 ?_)
  rw [decide_eq_false]
  intro e
  exact hlen (congrArg List.length e)
theorem EqualGn_at (L M:List Gn) (lv mv:Value) (w:World) (hl:Reads w lv L.length (L.flatMap encGn)) (hm:Reads w mv M.length (M.flatMap encGn)):
  Pure Tryz.prog 96 [lv,mv] w (.bool (decide (L=M))):=by
 obtain ⟨Al,cl,rfl,hl1,hl2,hl3⟩:=hl
 obtain ⟨Am,cm,rfl,hm1,hm2,hm3⟩:=hm
 refine fn_at Tryz.func96 rfl Tryz.ntmps96 rfl ?_
 by_cases hlen:L.length=M.length
 ·
  repeat' (first|refine sT ?_|refine sS ?_|refine sM fun _=> ?_|(refine sC ?_ ?_<;>intro hb<;>try omega)|fail)
  refine w_loopK [0,1,12] rfl (fun i:Nat=> [(13,.int .i64 (i:Int))]) (fun _=> []) (fun i=>i≤L.length∧decide (L=M)=decide (L.drop i=M.drop i)) (fun i=>L.length - i) 0 ⟨by omega,rfl⟩ ?_ ?_ ?_
  ·
   exact sB
  ·
   exact mS
  ·
   rintro i ⟨hi,hrec⟩
   by_cases hlt:i<L.length
   ·
    have hlt2:i<M.length:=by omega
    obtain ⟨gl,ol,rfl,hrl⟩:=hl3 (by omega)
    obtain ⟨gm,om,rfl,hrm⟩:=hm3 (by omega)
    have he1:=hrl.elem encGn_len i hlt
    have he2:=hrm.elem encGn_len i hlt2
    rw [eq_drop hlt hlt2,← eqGn_dec] at hrec
    repeat' (first|((with_reducible apply wq_v);exact rfl;(with_reducible apply v_indexAddr);exact rfl;exact rfl;(first|exact hlt|exact hlt2))|((with_reducible apply wq_v);exact rfl;(with_reducible apply v_loadw_ro);exact rfl;(first|exact he1|exact he2);exact rfl)|((with_reducible apply wq_v);exact rfl;(with_reducible apply v_neqGn);exact rfl;exact rfl)|((with_reducible apply wl_v);exact rfl;(with_reducible apply v_succN);exact rfl;exact rfl;(simp only [maxLen] at*;omega))|refine sT ?_|refine sS ?_|refine sQ ?_|refine sD ?_|refine sM fun _=> ?_|(refine sC ?_ ?_<;>intro hb<;>try omega)|(refine sCQ ?_ ?_<;>intro hb<;>try omega)|fail)
    all_goals first
     |(exfalso;omega)
     |((refine rT1 ?_);rw [hrec];simp_all;done)
     |(refine ⟨i+1,⟨by omega,?_⟩,by omega,by exact sB,by exact sB,by exact mS⟩;rw [hrec];simp_all;done)
     |trace_state
   ·
    have e:i=L.length:=by omega
    subst e
    repeat' (first|refine sT ?_|refine sS ?_|refine sM fun _=> ?_|(refine sC ?_ ?_<;>intro hb<;>try omega)|fail)
    (refine rT1 ?_)
    rw [hrec,List.drop_length,hlen,List.drop_length]
    rfl
 ·
  repeat' (first|refine sT ?_|refine sS ?_|refine sM fun _=> ?_|(refine sC ?_ ?_<;>intro hb<;>try omega)|fail)
  (refine rT1 ?_)
  rw [decide_eq_false]
  intro e
  exact hlen (congrArg List.length e)
theorem EqualEv_at (L M:List Ev) (lv mv:Value) (w:World) (hl:Reads w lv L.length (L.flatMap encEv)) (hm:Reads w mv M.length (M.flatMap encEv)):
  Pure Tryz.prog 97 [lv,mv] w (.bool (decide (L=M))):=by
 obtain ⟨Al,cl,rfl,hl1,hl2,hl3⟩:=hl
 obtain ⟨Am,cm,rfl,hm1,hm2,hm3⟩:=hm
 refine fn_at Tryz.func97 rfl Tryz.ntmps97 rfl ?_
 by_cases hlen:L.length=M.length
 ·
  repeat' (first|refine sT ?_|refine sS ?_|refine sM fun _=> ?_|(refine sC ?_ ?_<;>intro hb<;>try omega)|fail)
  refine w_loopK [0,1,12] rfl (fun i:Nat=> [(13,.int .i64 (i:Int))]) (fun _=> []) (fun i=>i≤L.length∧decide (L=M)=decide (L.drop i=M.drop i)) (fun i=>L.length - i) 0 ⟨by omega,rfl⟩ ?_ ?_ ?_
  ·
   exact sB
  ·
   exact mS
  ·
   rintro i ⟨hi,hrec⟩
   by_cases hlt:i<L.length
   ·
    have hlt2:i<M.length:=by omega
    obtain ⟨gl,ol,rfl,hrl⟩:=hl3 (by omega)
    obtain ⟨gm,om,rfl,hrm⟩:=hm3 (by omega)
    have he1:=hrl.elem encEv_len i hlt
    have he2:=hrm.elem encEv_len i hlt2
    rw [eq_drop hlt hlt2,← eqEv_dec] at hrec
    repeat' (first|((with_reducible apply wq_v);exact rfl;(with_reducible apply v_indexAddr);exact rfl;exact rfl;(first|exact hlt|exact hlt2))|((with_reducible apply wq_v);exact rfl;(with_reducible apply v_loadw_ro);exact rfl;(first|exact he1|exact he2);exact rfl)|((with_reducible apply wq_v);exact rfl;(with_reducible apply v_neqEv);exact rfl;exact rfl)|((with_reducible apply wl_v);exact rfl;(with_reducible apply v_succN);exact rfl;exact rfl;(simp only [maxLen] at*;omega))|refine sT ?_|refine sS ?_|refine sQ ?_|refine sD ?_|refine sM fun _=> ?_|(refine sC ?_ ?_<;>intro hb<;>try omega)|(refine sCQ ?_ ?_<;>intro hb<;>try omega)|fail)
    all_goals first
     |(exfalso;omega)
     |((refine rT1 ?_);rw [hrec];simp_all;done)
     |(refine ⟨i+1,⟨by omega,?_⟩,by omega,by exact sB,by exact sB,by exact mS⟩;rw [hrec];simp_all;done)
     |trace_state
   ·
    have e:i=L.length:=by omega
    subst e
    repeat' (first|refine sT ?_|refine sS ?_|refine sM fun _=> ?_|(refine sC ?_ ?_<;>intro hb<;>try omega)|fail)
    (refine rT1 ?_)
    rw [hrec,List.drop_length,hlen,List.drop_length]
    rfl
 ·
  repeat' (first|refine sT ?_|refine sS ?_|refine sM fun _=> ?_|(refine sC ?_ ?_<;>intro hb<;>try omega)|fail)
  (refine rT1 ?_)
  rw [decide_eq_false]
  intro e
  exact hlen (congrArg List.length e)
theorem EqualRv_at (L M:List Rv) (lv mv:Value) (w:World) (hl:Reads w lv L.length (L.flatMap encRv)) (hm:Reads w mv M.length (M.flatMap encRv)):
  Pure Tryz.prog 98 [lv,mv] w (.bool (decide (L=M))):=by
 obtain ⟨Al,cl,rfl,hl1,hl2,hl3⟩:=hl
 obtain ⟨Am,cm,rfl,hm1,hm2,hm3⟩:=hm
 refine fn_at Tryz.func98 rfl Tryz.ntmps98 rfl ?_
 by_cases hlen:L.length=M.length
 ·
  repeat' (first|refine sT ?_|refine sS ?_|refine sM fun _=> ?_|(refine sC ?_ ?_<;>intro hb<;>try omega)|fail)
  refine w_loopK [0,1,12] rfl (fun i:Nat=> [(13,.int .i64 (i:Int))]) (fun _=> []) (fun i=>i≤L.length∧decide (L=M)=decide (L.drop i=M.drop i)) (fun i=>L.length - i) 0 ⟨by omega,rfl⟩ ?_ ?_ ?_
  ·
   exact sB
  ·
   exact mS
  ·
   rintro i ⟨hi,hrec⟩
   by_cases hlt:i<L.length
   ·
    have hlt2:i<M.length:=by omega
    obtain ⟨gl,ol,rfl,hrl⟩:=hl3 (by omega)
    obtain ⟨gm,om,rfl,hrm⟩:=hm3 (by omega)
    have he1:=hrl.elem encRv_len i hlt
    have he2:=hrm.elem encRv_len i hlt2
    rw [eq_drop hlt hlt2,← eqRv_dec] at hrec
    repeat' (first|((with_reducible apply wq_v);exact rfl;(with_reducible apply v_indexAddr);exact rfl;exact rfl;(first|exact hlt|exact hlt2))|((with_reducible apply wq_v);exact rfl;(with_reducible apply v_loadw_ro);exact rfl;(first|exact he1|exact he2);exact rfl)|((with_reducible apply wq_v);exact rfl;(with_reducible apply v_neqRv);exact rfl;exact rfl)|((with_reducible apply wl_v);exact rfl;(with_reducible apply v_succN);exact rfl;exact rfl;(simp only [maxLen] at*;omega))|refine sT ?_|refine sS ?_|refine sQ ?_|refine sD ?_|refine sM fun _=> ?_|(refine sC ?_ ?_<;>intro hb<;>try omega)|(refine sCQ ?_ ?_<;>intro hb<;>try omega)|fail)
    all_goals first
     |(exfalso;omega)
     |((refine rT1 ?_);rw [hrec];simp_all;done)
     |(refine ⟨i+1,⟨by omega,?_⟩,by omega,by exact sB,by exact sB,by exact mS⟩;rw [hrec];simp_all;done)
     |trace_state
   ·
    have e:i=L.length:=by omega
    subst e
    repeat' (first|refine sT ?_|refine sS ?_|refine sM fun _=> ?_|(refine sC ?_ ?_<;>intro hb<;>try omega)|fail)
    (refine rT1 ?_)
    rw [hrec,List.drop_length,hlen,List.drop_length]
    rfl
 ·
  repeat' (first|refine sT ?_|refine sS ?_|refine sM fun _=> ?_|(refine sC ?_ ?_<;>intro hb<;>try omega)|fail)
  (refine rT1 ?_)
  rw [decide_eq_false]
  intro e
  exact hlen (congrArg List.length e)
def mutK (k:Int):Bool:=decide (k=3)||decide (k=4)||decide (k=7)||decide (k=8)||decide (k=9)
def rngK (k:Int):Bool:=decide (k=3)||decide (k=4)||decide (k=5)||decide (k=6)||decide (k=7)||decide (k=8)
def zeroOx (k:Int):Ox:=⟨k,0,zeroR,emptyB,0#64,0#64,0#64,0,0#64,0⟩
def tgtO (x:Ox):Rct × Bool:=if rngK x.kind then (x.rect,true) else (zeroR,false)
def plainO (x:Ox):Ox:=
 if x.kind<1∨10<x.kind then zeroOx x.kind
 else ⟨x.kind,x.user,(tgtO x).1,if x.kind=3 then x.input else emptyB,if x.kind=7 then x.rd else 0#64,if x.kind=7 then x.wr else 0#64,if x.kind=7 then x.ow else 0#64,if x.kind=8 then x.fns else 0,if x.kind=8 then x.to else 0#64,if x.kind=9 then x.idx else 0⟩
def opE (x:Ox):Int:=
 if x.kind<1∨10<x.kind∨x≠plainO x then 4
 else if x.kind=3∨x.kind=6 then (if x.rect.c1=x.rect.c2∧x.rect.r1=x.rect.r2 then (if glyphE x.input≠0 then 4 else 0) else 4)
 else if x.kind=8 then (if x.fns<1∨31<x.fns then 4 else 0) else 0
theorem Mutates_at (x:Ox) (w:World):Pure Tryz.prog 77 [.agg (encOx x).toArray] w (.bool (mutK x.kind)):=by
 refine fn_at Tryz.func77 rfl Tryz.ntmps77 rfl ?_
 repeat' (first|refine sT ?_|refine sS ?_|refine sM fun _=> ?_|(refine sC ?_ ?_<;>intro hb<;>try omega)|fail)
 all_goals first
  |(exfalso;omega)
  |((refine rT1 ?_);simp_all [mutK];done)
  |trace_state
theorem Mutates0_at (k:Int) (w:World):Pure Tryz.prog 77 [.agg (encOx (zeroOx k)).toArray] w (.bool (mutK k)):=Mutates_at (zeroOx k) w
theorem Target_at (x:Ox) (w:World):Pure Tryz.prog 148 [.agg (encOx x).toArray] w (.tuple #[.agg (encR (tgtO x).1).toArray,.bool (tgtO x).2]):=by
 refine fn_at Tryz.func148 rfl Tryz.ntmps148 rfl ?_
 by_cases h:rngK x.kind=true
 ·
  rw [tgtO,if_pos h]
  repeat' (first|refine sT ?_|refine sS ?_|refine sM fun _=> ?_|(refine sC ?_ ?_<;>intro hb<;>try omega)|fail)
  all_goals first
   |(exfalso;omega)
   |((refine eRCT ?_);rfl)
   |(exfalso;simp_all [rngK];done)
   |trace_state
 ·
  rw [tgtO,if_neg h]
  repeat' (first|refine sT ?_|refine sS ?_|refine sM fun _=> ?_|(refine sC ?_ ?_<;>intro hb<;>try omega)|fail)
  all_goals first
   |(exfalso;omega)
   |(exfalso;simp_all [rngK];done)
   |((refine eRCT ?_);rfl)
   |trace_state
set_option maxHeartbeats 4000000 in
theorem Plain_at (x:Ox) (w:World):Pure Tryz.prog 214 [.agg (encOx x).toArray] w (.agg (encOx (plainO x)).toArray):=by
 refine fn_at Tryz.func214 rfl Tryz.ntmps214 rfl ?_
 have hT:=fun w=>Target_at x w
 unfold plainO
 obtain ⟨⟨t,tb⟩,ht⟩: ∃ t,tgtO x=t:=⟨_,rfl⟩
 rw [ht] at hT ⊢
 by_cases h8:x.kind=8
 ·
  repeat' (first|((with_reducible apply wl_callp);exact rfl;exact rfl;(intro w hm;exact hT w))|refine sT ?_|refine sS ?_|refine sM fun _=> ?_|(refine sC ?_ ?_<;>intro hb<;>try omega)|fail)
  all_goals first|(exfalso;omega)|skip
  rename_i g1 g2 g3 _ _ _ _
  refine w_drawC (id:=12) [5,7] [] [.box g1 41 (encOx x)] (by kernel_rfl) (by kernel_rfl) (by kernel_rfl) mS ?_
  repeat' (first|refine sT ?_|refine sS ?_|refine sW ?_|refine sM fun _=> ?_|(refine sC ?_ ?_<;>intro hb<;>try omega)|(refine sCW ?_ ?_<;>intro hb<;>try omega)|fail)
  all_goals first
   |(exfalso;omega)
   |((refine eRC ?_);rw [if_neg (by omega)];simp_all [encOx,emptyB,vS];done)
   |trace_state
 ·
  repeat' (first|((with_reducible apply wl_callp);exact rfl;exact rfl;(intro w hm;exact hT w))|refine sT ?_|refine sS ?_|refine sM fun _=> ?_|(refine sC ?_ ?_<;>intro hb<;>try omega)|fail)
  all_goals first
   |(exfalso;omega)
   |((refine eRC ?_);rw [if_pos (by omega)];simp_all [encOx,zeroOx,zeroR,emptyB,vS];done)
   |((refine eRC ?_);rw [if_neg (by omega)];simp_all [encOx,emptyB,vS];done)
   |trace_state
set_option maxHeartbeats 4000000 in
theorem opCheck_at (x:Ox) (w:World):Pure Tryz.prog 150 [.agg (encOx x).toArray] w (.int .i64 (opE x)):=by
 refine fn_at Tryz.func150 rfl Tryz.ntmps150 rfl ?_
 have hP:=fun w=>Plain_at x w
 have hG:=fun w=>glyph_at x.input w
 unfold opE
 obtain ⟨c,hc⟩: ∃ c,eqOx x (plainO x)=c:=⟨_,rfl⟩
 have hc' :x≠plainO x↔c=false:=by
  rw [← hc,← Bool.not_eq_true,eqOx_iff]
 simp only [hc']
 clear hc'
 generalize glyphE x.input=ge at hG
 generalize plainO x=p at hP hc
 repeat' (first|((with_reducible apply w_drawC0 (id:=1) [11] []);kernel_rfl;kernel_rfl;kernel_rfl)|((with_reducible apply wc_v);(iterate 3 exact rfl);(with_reducible apply v_neqOx (b:=p));exact rfl;exact rfl)|((with_reducible apply wl_callp (f:=214));exact rfl;exact rfl;(intro w' _;exact hP w'))|((with_reducible apply wl_callp);exact rfl;exact rfl;(intro w hm;exact hG w))|refine sT ?_|refine sS ?_|refine sW ?_|refine sM fun _=> ?_|(refine sC ?_ ?_<;>intro hb<;>try omega)|(refine sCW ?_ ?_<;>intro hb<;>try omega)|fail)
 all_goals first
  |(exfalso;omega)
  |((refine rT1 ?_);simp_all;done)
  |((refine rT1 ?_);simp_all;omega)
  |trace_state
end Go.SL
