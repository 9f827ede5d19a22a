/-
  Lemmas and walks, put together: E1.
-/
import Derived.Test.YthefeclkaaocnaaGreatDoorKl04
import Derived.Test.YthefeclkaaocnaaGreatDoorKl07
set_option linter.unusedSimpArgs false
set_option linter.unusedVariables false
set_option maxRecDepth 20000
namespace Go.SL
open Go Go.Proofs
theorem Cy (w:World) (d:Nat) (a b:Vl):(Op.equalIn (d+3) 172 (.agg (cY a).toArray) (.agg (cY b).toArray)).run Tryz.prog w= .ok (eqV a b) w:=by
 rw [run_equalIn_agg w (d+2) 172 _ _ (by rw [Program.fieldsOf,Tryz.underlying172]) Tryz.stoodInHeld172]
 simp only [Program.fieldsOf,Tryz.underlying172]
 simp [Op.eqFields,cY,part,go_sem,oh,p8,eqV]
 by_cases h1:a.kind=b.kind<;>by_cases h2:a.num=b.num<;>by_cases h3:a.text=b.text<;>simp [h1,h2,h3]
theorem ja (w:World) (d:Nat) (a b:Rct):(Op.equalIn (d+3) 33 (.agg (bO a).toArray) (.agg (bO b).toArray)).run Tryz.prog w= .ok (eqR a b) w:=by
 rw [run_equalIn_agg w (d+2) 33 _ _ (by rw [Program.fieldsOf,Tryz.underlying33]) Tryz.stoodInHeld33]
 simp only [Program.fieldsOf,Tryz.underlying33]
 simp [Op.eqFields,bO,part,go_sem,oh,p8,eqR]
 by_cases h1:a.c1=b.c1<;>by_cases h2:a.r1=b.r1<;>by_cases h3:a.c2=b.c2<;>by_cases h4:a.r2=b.r2<;>simp [h1,h2,h3,h4]
theorem qh (w:World) (d:Nat) (a b:Rf):(Op.equalIn (d+3) 51 (.agg (cB a).toArray) (.agg (cB b).toArray)).run Tryz.prog w= .ok (eqF a b) w:=by
 rw [run_equalIn_agg w (d+2) 51 _ _ (by rw [Program.fieldsOf,Tryz.underlying51]) Tryz.stoodInHeld51]
 simp only [Program.fieldsOf,Tryz.underlying51]
 simp [Op.eqFields,cB,part,go_sem,oh,p8,eqF]
 by_cases h1:a.col=b.col<;>by_cases h2:a.row=b.row<;>simp [h1,h2]
theorem Cz (w:World) (d:Nat) (a b:Nd):(Op.equalIn (d+5) 174 (.agg (bY a).toArray) (.agg (bY b).toArray)).run Tryz.prog w= .ok (eqN a b) w:=by
 rw [run_equalIn_agg w (d+4) 174 _ _ (by rw [Program.fieldsOf,Tryz.underlying174]) Tryz.stoodInHeld174]
 simp only [Program.fieldsOf,Tryz.underlying174]
 have hv: ∀ w,(Op.equalIn (d+4) 172 (.agg #[.int .u8 a.v.kind,.int .i64 a.v.num,.string a.v.text]) (.agg #[.int .u8 b.v.kind,.int .i64 b.v.num,.string b.v.text])).run Tryz.prog w= .ok (eqV a.v b.v) w:=fun w=>Cy w (d+1) a.v b.v
 have hr: ∀ w,(Op.equalIn (d+4) 33 (.agg #[.int .i64 a.rect.c1,.int .i64 a.rect.r1,.int .i64 a.rect.c2,.int .i64 a.rect.r2]) (.agg #[.int .i64 b.rect.c1,.int .i64 b.rect.r1,.int .i64 b.rect.c2,.int .i64 b.rect.r2])).run Tryz.prog w= .ok (eqR a.rect b.rect) w:=fun w=>ja w (d+1) a.rect b.rect
 simp [Op.eqFields,bY,part,go_sem,oh,p8,eqN,hv,hr]
 by_cases h1:a.kind=b.kind<;>by_cases h2:eqV a.v b.v=true<;>by_cases h3:eqR a.rect b.rect=true<;>by_cases h4:a.op=b.op<;>by_cases h5:a.fn=b.fn<;>by_cases h6:a.n=b.n<;>simp [h1,h2,h3,h4,h5,h6]
section
variable {w0:World} {s:az} {H:List Blk} {ty t' :TypeId} {x y:Operand}
theorem zX {a b:Vl} (hx:ev s x=some (.agg (cY a).toArray)) (hy:ev s y=some (.agg (cY b).toArray)):VOp Tryz.prog w0 s H (.binOp .eql 172 x y t') ty (.bool (eqV a b)):=fun ρ w _ _ _ _ hρ _=>by
 have h:=Cy w 9997 a b
 simp only [Nat.reduceAdd] at h
 simp only [execOp,hρ x _ hx,hρ y _ hy,Sem.run_bind,run_eqGuard_agg w _ _ _ _ _ _ Tryz.eqGuardType172,Result.andThen_ok,run_eql_struct,h,Sem.run_pure]
theorem JY {a b:Rct} (hx:ev s x=some (.agg (bO a).toArray)) (hy:ev s y=some (.agg (bO b).toArray)):VOp Tryz.prog w0 s H (.binOp .eql 33 x y t') ty (.bool (eqR a b)):=fun ρ w _ _ _ _ hρ _=>by
 have h:=ja w 9997 a b
 simp only [Nat.reduceAdd] at h
 simp only [execOp,hρ x _ hx,hρ y _ hy,Sem.run_bind,run_eqGuard_agg w _ _ _ _ _ _ Tryz.eqGuardType33,Result.andThen_ok,run_eql_struct,h,Sem.run_pure]
theorem JT {a b:Rct} (hx:ev s x=some (.agg (bO a).toArray)) (hy:ev s y=some (.agg (bO b).toArray)):VOp Tryz.prog w0 s H (.binOp .neq 33 x y t') ty (.bool (!eqR a b)):=fun ρ w _ _ _ _ hρ _=>by
 have h:=ja w 9997 a b
 simp only [Nat.reduceAdd] at h
 simp only [execOp,hρ x _ hx,hρ y _ hy,Sem.run_bind,run_eqGuard_agg w _ _ _ _ _ _ Tryz.eqGuardType33,Result.andThen_ok,run_neq_struct,h,Sem.run_pure]
theorem Ff {a b:Rf} (hx:ev s x=some (.agg (cB a).toArray)) (hy:ev s y=some (.agg (cB b).toArray)):VOp Tryz.prog w0 s H (.binOp .eql 51 x y t') ty (.bool (eqF a b)):=fun ρ w _ _ _ _ hρ _=>by
 have h:=qh w 9997 a b
 simp only [Nat.reduceAdd] at h
 simp only [execOp,hρ x _ hx,hρ y _ hy,Sem.run_bind,run_eqGuard_agg w _ _ _ _ _ _ Tryz.eqGuardType51,Result.andThen_ok,run_eql_struct,h,Sem.run_pure]
theorem JU {a b:Rf} (hx:ev s x=some (.agg (cB a).toArray)) (hy:ev s y=some (.agg (cB b).toArray)):VOp Tryz.prog w0 s H (.binOp .neq 51 x y t') ty (.bool (!eqF a b)):=fun ρ w _ _ _ _ hρ _=>by
 have h:=qh w 9997 a b
 simp only [Nat.reduceAdd] at h
 simp only [execOp,hρ x _ hx,hρ y _ hy,Sem.run_bind,run_eqGuard_agg w _ _ _ _ _ _ Tryz.eqGuardType51,Result.andThen_ok,run_neq_struct,h,Sem.run_pure]
theorem JZ {a b:Nd} (hx:ev s x=some (.agg (bY a).toArray)) (hy:ev s y=some (.agg (bY b).toArray)):VOp Tryz.prog w0 s H (.binOp .eql 174 x y t') ty (.bool (eqN a b)):=fun ρ w _ _ _ _ hρ _=>by
 have h:=Cz w 9995 a b
 simp only [Nat.reduceAdd] at h
 simp only [execOp,hρ x _ hx,hρ y _ hy,Sem.run_bind,run_eqGuard_agg w _ _ _ _ _ _ Tryz.eqGuardType174,Result.andThen_ok,run_eql_struct,h,Sem.run_pure]
theorem qJ {a b:Nd} (hx:ev s x=some (.agg (bY a).toArray)) (hy:ev s y=some (.agg (bY b).toArray)):VOp Tryz.prog w0 s H (.binOp .neq 174 x y t') ty (.bool (!eqN a b)):=fun ρ w _ _ _ _ hρ _=>by
 have h:=Cz w 9995 a b
 simp only [Nat.reduceAdd] at h
 simp only [execOp,hρ x _ hx,hρ y _ hy,Sem.run_bind,run_eqGuard_agg w _ _ _ _ _ _ Tryz.eqGuardType174,Result.andThen_ok,run_neq_struct,h,Sem.run_pure]
end
end Go.SL
