/-
  Lemmas and walks, put together: Fo Fp Ih Ij.
-/
import Derived.Test.YthefeclkaaocnaaGreatDoorKl33
set_option linter.unusedSimpArgs false
set_option linter.unusedVariables false
set_option maxRecDepth 20000
namespace Go.SL
open Go Go.Proofs Go.ChangeShapes Go.WideShapes Go.ChangeAt Go.RowKit Go.Deep
section
variable {H:Type} {enc:TypeId × Value→H} {w:World} {base:Nat} {spare:Nat→Bool} {held:Bool}
theorem pu {P:Program} {e:TypeId} {d:DataW H} {n:Nat} (hn:n∈d.weights P e): ∀ {ds:List (DataW H)},d∈ds→n∈DataW.weightsAll P e ds
 | [],h=>by cases h
 |x::r,h=>by
  rw [DataW.weightsAll]
  rcases L7.1 h with rfl|h
  ·
   exact NB _ hn
  ·
   exact NQ _ (pu hn h)
theorem jH {n:Nat} {c:Value} {x:DataW H × List MemPlace} (h:DataW.trod enc Tryz.prog w base spare held n 34 [c]=some x): ∃ a:BitVec 64,c=vS a:=by
 obtain ⟨a0,q0,_,w0⟩:=DataW.trod_int Tryz.underlying34 h
 simp only [List.cons.injEq,and_true] at q0
 have w1:0≤a0∧a0≤18446744073709551615:=by
  simp [Lit.wf] at w0
  exact w0
 refine ⟨BitVec.ofNat 64 a0.toNat,?_⟩
 subst q0
 unfold vS
 rw [BitVec.toNat_ofNat]
 congr 1
 omega
theorem vJ {n:Nat} {c:Value} {x:DataW H × List MemPlace} (h:DataW.trod enc Tryz.prog w base spare held n 5 [c]=some x): ∃ a:Int,c= .int .u8 a:=by
 obtain ⟨a0,q0,_,w0⟩:=DataW.trod_int Tryz.underlying5 h
 simp only [List.cons.injEq,and_true] at q0
 exact ⟨a0,q0⟩
theorem Fl {n:Nat} {c:Value} {x:DataW H × List MemPlace} (h:DataW.trod enc Tryz.prog w base spare held n 4 [c]=some x): ∃ a:Bool,c= .bool a:=by
 obtain ⟨a0,q0,_⟩:=DataW.trod_bool Tryz.underlying4 h
 simp only [List.cons.injEq,and_true] at q0
 exact ⟨a0,q0⟩
set_option maxRecDepth 100000 in
theorem xq {fuel:Nat} {cs:List Value} {x:DataW H × List MemPlace} (h:DataW.trod enc Tryz.prog w base spare held fuel 53 cs=some x): ∃ v:Et,cs=aH v∧v.input.size∈x.1.weights Tryz.prog 53:=by
 obtain ⟨xs,n,_,rfl,hlen,hxl,hf⟩:=DataW.trod_struct Tryz.underlying53 h
 have eS:Tryz.prog.cellsOf 53=3:=by kernel_rfl
 have eI:Tryz.prog.cellsOf 51=2:=by kernel_rfl
 have eT:Tryz.prog.cellsOf 9=1:=by kernel_rfl
 rw [eS] at hlen
 match cs,hlen,xs,hxl with
 | [c0,c1,c2],_,[x0,x1],_=>
  have h0:DataW.trod enc Tryz.prog w base spare held n 51 ((([c0,c1,c2]:List Value).drop 0).take (Tryz.prog.cellsOf 51))=some x0:=hf 0 _ rfl
  rw [eI] at h0
  obtain ⟨a,q,wa⟩:=qU (cs:= [c0,c1]) h0
  simp only [cB,List.cons.injEq,and_true] at q
  obtain ⟨rfl,rfl⟩:=q
  have h2:DataW.trod enc Tryz.prog w base spare held n 9 ((([Value.int .i64 a.col,.int .i64 a.row,c2]:List Value).drop 2).take (Tryz.prog.cellsOf 9))=some x1:=hf 1 _ rfl
  rw [eT] at h2
  obtain ⟨a2,q2,q3,_⟩:=DataW.trod_string Tryz.underlying9 h2
  simp only [NG,MP,Mz,M0,List.cons.injEq,and_true] at q2
  subst q2
  subst q3
  refine ⟨⟨a,a2⟩,rfl,?_⟩
  simp [DataW.weights,Tryz.underlying53,DataW.weightsEach]
def Jy (x:BitVec 64 × BitVec 64 × BitVec 64):List Value:= [vS x.1,vS x.2.1,vS x.2.2]
set_option maxRecDepth 100000 in
theorem xp {fuel:Nat} {cs:List Value} {x:DataW H × List MemPlace} (h:DataW.trod enc Tryz.prog w base spare held fuel 36 cs=some x): ∃ v:BitVec 64 × BitVec 64 × BitVec 64,cs=Jy v:=by
 obtain ⟨xs,n,_,_,hlen,hxl,hf⟩:=DataW.trod_struct Tryz.underlying36 h
 have eS:Tryz.prog.cellsOf 36=3:=by kernel_rfl
 have e_s:Tryz.prog.cellsOf 34=1:=by kernel_rfl
 rw [eS] at hlen
 match cs,hlen,xs,hxl with
 | [c0,c1,c2],_,[x0,x1,x2],_=>
  have h0:DataW.trod enc Tryz.prog w base spare held n 34 ((([c0,c1,c2]:List Value).drop 0).take (Tryz.prog.cellsOf 34))=some x0:=hf 0 _ rfl
  rw [e_s] at h0
  obtain ⟨a0,rfl⟩:=jH (c:=c0) h0
  have h1:DataW.trod enc Tryz.prog w base spare held n 34 ((([(vS a0:Value),c1,c2]:List Value).drop 1).take (Tryz.prog.cellsOf 34))=some x1:=hf 1 _ rfl
  rw [e_s] at h1
  obtain ⟨a1,rfl⟩:=jH (c:=c1) h1
  have h2:DataW.trod enc Tryz.prog w base spare held n 34 ((([(vS a0:Value),(vS a1:Value),c2]:List Value).drop 2).take (Tryz.prog.cellsOf 34))=some x2:=hf 2 _ rfl
  rw [e_s] at h2
  obtain ⟨a2,rfl⟩:=jH (c:=c2) h2
  exact ⟨⟨a0,a1,a2⟩,rfl⟩
set_option maxRecDepth 100000 in
theorem Dv {fuel:Nat} {cs:List Value} {x:DataW H × List MemPlace} (h:DataW.trod enc Tryz.prog w base spare held fuel 68 cs=some x): ∃ v:Cl,cs=ze v:=by
 obtain ⟨xs,n,_,_,hlen,hxl,hf⟩:=DataW.trod_struct Tryz.underlying68 h
 have eS:Tryz.prog.cellsOf 68=3:=by kernel_rfl
 have e_F:Tryz.prog.cellsOf 51=2:=by kernel_rfl
 have e_i:Tryz.prog.cellsOf 3=1:=by kernel_rfl
 rw [eS] at hlen
 match cs,hlen,xs,hxl with
 | [c0,c1,c2],_,[x0,x1],_=>
  have h0:DataW.trod enc Tryz.prog w base spare held n 51 ((([c0,c1,c2]:List Value).drop 0).take (Tryz.prog.cellsOf 51))=some x0:=hf 0 _ rfl
  rw [e_F] at h0
  obtain ⟨a0,q,_⟩:=qU (cs:= [c0,c1]) h0
  simp only [cB,List.cons.injEq,and_true] at q
  obtain ⟨rfl,rfl⟩:=q
  have h1:DataW.trod enc Tryz.prog w base spare held n 3 ((([(.int .i64 a0.col:Value),(.int .i64 a0.row:Value),c2]:List Value).drop 2).take (Tryz.prog.cellsOf 3))=some x1:=hf 1 _ rfl
  rw [e_i] at h1
  obtain ⟨a1,rfl,_⟩:=fO (c:=c2) h1
  exact ⟨⟨a0,a1⟩,rfl⟩
set_option maxRecDepth 100000 in
theorem Du {fuel:Nat} {cs:List Value} {x:DataW H × List MemPlace} (h:DataW.trod enc Tryz.prog w base spare held fuel 38 cs=some x): ∃ v:Rl,cs=bh v:=by
 obtain ⟨xs,n,_,_,hlen,hxl,hf⟩:=DataW.trod_struct Tryz.underlying38 h
 have eS:Tryz.prog.cellsOf 38=7:=by kernel_rfl
 have e_R:Tryz.prog.cellsOf 33=4:=by kernel_rfl
 have e_T:Tryz.prog.cellsOf 36=3:=by kernel_rfl
 rw [eS] at hlen
 match cs,hlen,xs,hxl with
 | [c0,c1,c2,c3,c4,c5,c6],_,[x0,x1],_=>
  have h0:DataW.trod enc Tryz.prog w base spare held n 33 ((([c0,c1,c2,c3,c4,c5,c6]:List Value).drop 0).take (Tryz.prog.cellsOf 33))=some x0:=hf 0 _ rfl
  rw [e_R] at h0
  obtain ⟨a0,q,_⟩:=lQ (cs:= [c0,c1,c2,c3]) h0
  simp only [bO,List.cons.injEq,and_true] at q
  obtain ⟨rfl,rfl,rfl,rfl⟩:=q
  have h1:DataW.trod enc Tryz.prog w base spare held n 36 ((([(.int .i64 a0.c1:Value),(.int .i64 a0.r1:Value),(.int .i64 a0.c2:Value),(.int .i64 a0.r2:Value),c4,c5,c6]:List Value).drop 4).take (Tryz.prog.cellsOf 36))=some x1:=hf 1 _ rfl
  rw [e_T] at h1
  obtain ⟨a1,q⟩:=xp (cs:= [c4,c5,c6]) h1
  simp only [Jy,List.cons.injEq,and_true] at q
  obtain ⟨rfl,rfl,rfl⟩:=q
  exact ⟨⟨a0,a1.1,a1.2.1,a1.2.2⟩,rfl⟩
set_option maxRecDepth 100000 in
theorem z7 {fuel:Nat} {cs:List Value} {x:DataW H × List MemPlace} (h:DataW.trod enc Tryz.prog w base spare held fuel 56 cs=some x): ∃ v:Gn,cs=bg v:=by
 obtain ⟨xs,n,_,_,hlen,hxl,hf⟩:=DataW.trod_struct Tryz.underlying56 h
 have eS:Tryz.prog.cellsOf 56=8:=by kernel_rfl
 have e_R:Tryz.prog.cellsOf 33=4:=by kernel_rfl
 have e_b:Tryz.prog.cellsOf 4=1:=by kernel_rfl
 have e_c:Tryz.prog.cellsOf 5=1:=by kernel_rfl
 have e_i:Tryz.prog.cellsOf 3=1:=by kernel_rfl
 have e_s:Tryz.prog.cellsOf 34=1:=by kernel_rfl
 rw [eS] at hlen
 match cs,hlen,xs,hxl with
 | [c0,c1,c2,c3,c4,c5,c6,c7],_,[x0,x1,x2,x3,x4],_=>
  have h0:DataW.trod enc Tryz.prog w base spare held n 33 ((([c0,c1,c2,c3,c4,c5,c6,c7]:List Value).drop 0).take (Tryz.prog.cellsOf 33))=some x0:=hf 0 _ rfl
  rw [e_R] at h0
  obtain ⟨a0,q,_⟩:=lQ (cs:= [c0,c1,c2,c3]) h0
  simp only [bO,List.cons.injEq,and_true] at q
  obtain ⟨rfl,rfl,rfl,rfl⟩:=q
  have h1:DataW.trod enc Tryz.prog w base spare held n 5 ((([(.int .i64 a0.c1:Value),(.int .i64 a0.r1:Value),(.int .i64 a0.c2:Value),(.int .i64 a0.r2:Value),c4,c5,c6,c7]:List Value).drop 4).take (Tryz.prog.cellsOf 5))=some x1:=hf 1 _ rfl
  rw [e_c] at h1
  obtain ⟨a1,rfl⟩:=vJ (c:=c4) h1
  have h2:DataW.trod enc Tryz.prog w base spare held n 34 ((([(.int .i64 a0.c1:Value),(.int .i64 a0.r1:Value),(.int .i64 a0.c2:Value),(.int .i64 a0.r2:Value),(.int .u8 a1:Value),c5,c6,c7]:List Value).drop 5).take (Tryz.prog.cellsOf 34))=some x2:=hf 2 _ rfl
  rw [e_s] at h2
  obtain ⟨a2,rfl⟩:=jH (c:=c5) h2
  have h3:DataW.trod enc Tryz.prog w base spare held n 3 ((([(.int .i64 a0.c1:Value),(.int .i64 a0.r1:Value),(.int .i64 a0.c2:Value),(.int .i64 a0.r2:Value),(.int .u8 a1:Value),(vS a2:Value),c6,c7]:List Value).drop 6).take (Tryz.prog.cellsOf 3))=some x3:=hf 3 _ rfl
  rw [e_i] at h3
  obtain ⟨a3,rfl,_⟩:=fO (c:=c6) h3
  have h4:DataW.trod enc Tryz.prog w base spare held n 4 ((([(.int .i64 a0.c1:Value),(.int .i64 a0.r1:Value),(.int .i64 a0.c2:Value),(.int .i64 a0.r2:Value),(.int .u8 a1:Value),(vS a2:Value),(.int .i64 a3:Value),c7]:List Value).drop 7).take (Tryz.prog.cellsOf 4))=some x4:=hf 4 _ rfl
  rw [e_b] at h4
  obtain ⟨a4,rfl⟩:=Fl (c:=c7) h4
  exact ⟨⟨a0,a1,a2,a3,a4⟩,rfl⟩
set_option maxRecDepth 100000 in
theorem z8 {fuel:Nat} {cs:List Value} {x:DataW H × List MemPlace} (h:DataW.trod enc Tryz.prog w base spare held fuel 48 cs=some x): ∃ v:Ev,cs=aQ v:=by
 obtain ⟨xs,n,_,_,hlen,hxl,hf⟩:=DataW.trod_struct Tryz.underlying48 h
 have eS:Tryz.prog.cellsOf 48=9:=by kernel_rfl
 have e_R:Tryz.prog.cellsOf 33=4:=by kernel_rfl
 have e_b:Tryz.prog.cellsOf 4=1:=by kernel_rfl
 have e_c:Tryz.prog.cellsOf 5=1:=by kernel_rfl
 have e_i:Tryz.prog.cellsOf 3=1:=by kernel_rfl
 have e_s:Tryz.prog.cellsOf 34=1:=by kernel_rfl
 rw [eS] at hlen
 match cs,hlen,xs,hxl with
 | [c0,c1,c2,c3,c4,c5,c6,c7,c8],_,[x0,x1,x2,x3,x4,x5],_=>
  have h0:DataW.trod enc Tryz.prog w base spare held n 3 ((([c0,c1,c2,c3,c4,c5,c6,c7,c8]:List Value).drop 0).take (Tryz.prog.cellsOf 3))=some x0:=hf 0 _ rfl
  rw [e_i] at h0
  obtain ⟨a0,rfl,_⟩:=fO (c:=c0) h0
  have h1:DataW.trod enc Tryz.prog w base spare held n 3 ((([(.int .i64 a0:Value),c1,c2,c3,c4,c5,c6,c7,c8]:List Value).drop 1).take (Tryz.prog.cellsOf 3))=some x1:=hf 1 _ rfl
  rw [e_i] at h1
  obtain ⟨a1,rfl,_⟩:=fO (c:=c1) h1
  have h2:DataW.trod enc Tryz.prog w base spare held n 5 ((([(.int .i64 a0:Value),(.int .i64 a1:Value),c2,c3,c4,c5,c6,c7,c8]:List Value).drop 2).take (Tryz.prog.cellsOf 5))=some x2:=hf 2 _ rfl
  rw [e_c] at h2
  obtain ⟨a2,rfl⟩:=vJ (c:=c2) h2
  have h3:DataW.trod enc Tryz.prog w base spare held n 33 ((([(.int .i64 a0:Value),(.int .i64 a1:Value),(.int .u8 a2:Value),c3,c4,c5,c6,c7,c8]:List Value).drop 3).take (Tryz.prog.cellsOf 33))=some x3:=hf 3 _ rfl
  rw [e_R] at h3
  obtain ⟨a3,q,_⟩:=lQ (cs:= [c3,c4,c5,c6]) h3
  simp only [bO,List.cons.injEq,and_true] at q
  obtain ⟨rfl,rfl,rfl,rfl⟩:=q
  have h4:DataW.trod enc Tryz.prog w base spare held n 4 ((([(.int .i64 a0:Value),(.int .i64 a1:Value),(.int .u8 a2:Value),(.int .i64 a3.c1:Value),(.int .i64 a3.r1:Value),(.int .i64 a3.c2:Value),(.int .i64 a3.r2:Value),c7,c8]:List Value).drop 7).take (Tryz.prog.cellsOf 4))=some x4:=hf 4 _ rfl
  rw [e_b] at h4
  obtain ⟨a4,rfl⟩:=Fl (c:=c7) h4
  have h5:DataW.trod enc Tryz.prog w base spare held n 34 ((([(.int .i64 a0:Value),(.int .i64 a1:Value),(.int .u8 a2:Value),(.int .i64 a3.c1:Value),(.int .i64 a3.r1:Value),(.int .i64 a3.c2:Value),(.int .i64 a3.r2:Value),(.bool a4:Value),c8]:List Value).drop 8).take (Tryz.prog.cellsOf 34))=some x5:=hf 5 _ rfl
  rw [e_s] at h5
  obtain ⟨a5,rfl⟩:=jH (c:=c8) h5
  exact ⟨⟨a0,a1,a2,a3,a4,a5⟩,rfl⟩
set_option maxRecDepth 100000 in
theorem vK {fuel:Nat} {cs:List Value} {x:DataW H × List MemPlace} (h:DataW.trod enc Tryz.prog w base spare held fuel 70 cs=some x): ∃ v:Rv,cs=bu v:=by
 obtain ⟨xs,n,_,_,hlen,hxl,hf⟩:=DataW.trod_struct Tryz.underlying70 h
 have eS:Tryz.prog.cellsOf 70=11:=by kernel_rfl
 have e_C:Tryz.prog.cellsOf 68=3:=by kernel_rfl
 have e_R:Tryz.prog.cellsOf 33=4:=by kernel_rfl
 have e_c:Tryz.prog.cellsOf 5=1:=by kernel_rfl
 have e_i:Tryz.prog.cellsOf 3=1:=by kernel_rfl
 have e_s:Tryz.prog.cellsOf 34=1:=by kernel_rfl
 rw [eS] at hlen
 match cs,hlen,xs,hxl with
 | [c0,c1,c2,c3,c4,c5,c6,c7,c8,c9,c10],_,[x0,x1,x2,x3,x4,x5],_=>
  have h0:DataW.trod enc Tryz.prog w base spare held n 3 ((([c0,c1,c2,c3,c4,c5,c6,c7,c8,c9,c10]:List Value).drop 0).take (Tryz.prog.cellsOf 3))=some x0:=hf 0 _ rfl
  rw [e_i] at h0
  obtain ⟨a0,rfl,_⟩:=fO (c:=c0) h0
  have h1:DataW.trod enc Tryz.prog w base spare held n 68 ((([(.int .i64 a0:Value),c1,c2,c3,c4,c5,c6,c7,c8,c9,c10]:List Value).drop 1).take (Tryz.prog.cellsOf 68))=some x1:=hf 1 _ rfl
  rw [e_C] at h1
  obtain ⟨a1,q⟩:=Dv (cs:= [c1,c2,c3]) h1
  simp only [ze,List.cons.injEq,and_true] at q
  obtain ⟨rfl,rfl,rfl⟩:=q
  have h2:DataW.trod enc Tryz.prog w base spare held n 5 ((([(.int .i64 a0:Value),(.int .i64 a1.at_.col:Value),(.int .i64 a1.at_.row:Value),(.int .i64 a1.node:Value),c4,c5,c6,c7,c8,c9,c10]:List Value).drop 4).take (Tryz.prog.cellsOf 5))=some x2:=hf 2 _ rfl
  rw [e_c] at h2
  obtain ⟨a2,rfl⟩:=vJ (c:=c4) h2
  have h3:DataW.trod enc Tryz.prog w base spare held n 33 ((([(.int .i64 a0:Value),(.int .i64 a1.at_.col:Value),(.int .i64 a1.at_.row:Value),(.int .i64 a1.node:Value),(.int .u8 a2:Value),c5,c6,c7,c8,c9,c10]:List Value).drop 5).take (Tryz.prog.cellsOf 33))=some x3:=hf 3 _ rfl
  rw [e_R] at h3
  obtain ⟨a3,q,_⟩:=lQ (cs:= [c5,c6,c7,c8]) h3
  simp only [bO,List.cons.injEq,and_true] at q
  obtain ⟨rfl,rfl,rfl,rfl⟩:=q
  have h4:DataW.trod enc Tryz.prog w base spare held n 3 ((([(.int .i64 a0:Value),(.int .i64 a1.at_.col:Value),(.int .i64 a1.at_.row:Value),(.int .i64 a1.node:Value),(.int .u8 a2:Value),(.int .i64 a3.c1:Value),(.int .i64 a3.r1:Value),(.int .i64 a3.c2:Value),(.int .i64 a3.r2:Value),c9,c10]:List Value).drop 9).take (Tryz.prog.cellsOf 3))=some x4:=hf 4 _ rfl
  rw [e_i] at h4
  obtain ⟨a4,rfl,_⟩:=fO (c:=c9) h4
  have h5:DataW.trod enc Tryz.prog w base spare held n 34 ((([(.int .i64 a0:Value),(.int .i64 a1.at_.col:Value),(.int .i64 a1.at_.row:Value),(.int .i64 a1.node:Value),(.int .u8 a2:Value),(.int .i64 a3.c1:Value),(.int .i64 a3.r1:Value),(.int .i64 a3.c2:Value),(.int .i64 a3.r2:Value),(.int .i64 a4:Value),c10]:List Value).drop 10).take (Tryz.prog.cellsOf 34))=some x5:=hf 5 _ rfl
  rw [e_s] at h5
  obtain ⟨a5,rfl⟩:=jH (c:=c10) h5
  exact ⟨⟨a0,a1,a2,a3,a4,a5⟩,rfl⟩
instance:Inhabited Rl:=⟨⟨⟨0,0,0,0⟩,0#64,0#64,0#64⟩⟩
instance:Inhabited Gn:=⟨⟨⟨0,0,0,0⟩,0,0#64,0,false⟩⟩
instance:Inhabited Ev:=⟨⟨0,0,0,⟨0,0,0,0⟩,false,0#64⟩⟩
instance:Inhabited Rv:=⟨⟨0,⟨⟨0,0⟩,0⟩,0,⟨0,0,0,0⟩,0,0#64⟩⟩
theorem Bb {fuel:Nat} {cs:List Value} {x:DataW H × List MemPlace} (h:DataW.trod enc Tryz.prog w 0 spare held fuel 22 cs=some x):
  ∃ (v:Value) (L:List Et),cs= [v]∧Reads w v L.length (L.flatMap aH)∧ ∀ a∈L,a.input.size∈x.1.weights Tryz.prog 22:=by
 have hm:Tryz.prog.cellsOf 53=3:=by kernel_rfl
 have ht:=Tryz.underlying22
 rcases open_slice ht h with ⟨h0,_⟩|⟨a,len,cap,mm,n,D,Pl,h0,hb,hl,hmx,hmm,hxe,hx⟩
 ·
  exact ⟨_,[],h0,⟨none,0,rfl,LK _,LS _,fun h=>by cases h⟩,fun _ h=>by cases h⟩
 ·
  have hlm:len≤mm:=by rw [hmm];split<;>omega
  obtain ⟨F,hF⟩:=choose_lt (α:=Et) (n:=len) (p:=fun i nd=>w.cells? 0 (a.add (i*3)) 3=some (aH nd)∧nd.input.size∈(D i).weights Tryz.prog 53) (fun i hi=>by
   obtain ⟨cs',h1,h2⟩:=hx i (by omega)
   rw [hm] at h1
   obtain ⟨nd,rfl,hw⟩:=xq h2
   exact ⟨nd,h1,hw⟩)
  have hlen:((List.range len).map F).length=len:=by simp
  refine ⟨_,(List.range len).map F,h0,⟨some a,cap,by rw [hlen],by omega,hmx,fun hpos=> ?_⟩,fun n hn=> ?_⟩
  rotate_left
  ·
   obtain ⟨i,hi,rfl⟩:=Nk.1 hn
   have h1:=(hF i (List.mem_range.1 hi)).2
   rw [hxe]
   simp only [DataW.weights,ht]
   exact LX _ (NB _ (pu h1 (Nk.2 ⟨i,hi,rfl⟩)))
  rw [hlen] at hpos
  obtain ⟨g,o,spot⟩:=a
  have hspot:spot=none:=by
   obtain ⟨_,_,h3⟩:=World.cells?_some (hF 0 (by omega)).1
   have h4' :=h3 0 (by decide)
   rw [LF (by rw [aW];decide)] at h4'
   have h4:=World.cell?_spot h4'
   simpa [Addr.add] using h4
  subst hspot
  have hcell: ∀ (i:Nat) (nd:Et),((List.range len).map F)[i]? =some nd→Cells w g (o+i*3) (aH nd):=by
   intro i nd hnd k v hv
   have hil:i<len:=by have:=(LV.1 hnd).1;omega
   have hnd' :F i=nd:=by simpa [hil] using hnd
   subst hnd'
   have hk:k<3:=by have:=(LV.1 hv).1;rwa [aW] at this
   obtain ⟨_,_,h3⟩:=World.cells?_some (hF i hil).1
   have:=h3 k hk
   rw [hv,cw,cw] at this
   exact this
  refine ⟨g,o,rfl,?_,sx aW w g o _ hcell⟩
  obtain ⟨u,hu⟩: ∃ u,(aH (F 0))[0]? =some u:=⟨_,LF (by rw [aW];decide)⟩
  have h5:=hcell 0 (F 0) (by simp [hpos]) 0 u hu
  simp only [World.cell?] at h5
  split at h5
  ·
   rename_i h6
   exact (Mb.1 h6).1
  ·
   cases h5
theorem kV {v:Value} {m:Nat} {xs:List Value} (h:Reads w v m xs): ∃ A c,v= .slice A m c:=by
 obtain ⟨A,c,e,_⟩:=h
 exact ⟨A,c,e⟩
set_option maxRecDepth 100000 in
theorem uD {v:Value} {d:DataW H} {p:List MemPlace} {base' :Nat} (hv:Value.okWide Tryz.prog w .any base' 28 v) (h:DataW.Trod enc Tryz.prog w 0 spare held 28 v d p): ∃ (b:Bk) (x:Bv),v= .agg (aP b x).toArray∧BRd w b x∧ ∀ e∈b.ents,e.input.size∈d.weights Tryz.prog 28:=by
 obtain ⟨fuel,hf⟩:=h
 obtain ⟨cs,rfl,_⟩:=okWide_struct Tryz.underlying28 hv
 have hcs:(Value.agg cs).cells.toList=cs.toList:=by simp [Value.cells]
 rw [hcs] at hf
 obtain ⟨xs,n,_,hd,hlen,hxl,hg⟩:=DataW.trod_struct Tryz.underlying28 hf
 have eS:Tryz.prog.cellsOf 28=7:=by kernel_rfl
 have e_i:Tryz.prog.cellsOf 3=1:=by kernel_rfl
 have e_e:Tryz.prog.cellsOf 22=1:=by kernel_rfl
 have e_r:Tryz.prog.cellsOf 23=1:=by kernel_rfl
 have e_g:Tryz.prog.cellsOf 24=1:=by kernel_rfl
 have e_l:Tryz.prog.cellsOf 25=1:=by kernel_rfl
 have e_s:Tryz.prog.cellsOf 26=1:=by kernel_rfl
 rw [eS] at hlen
 obtain ⟨cl,rfl⟩: ∃ cl,cs=cl.toArray:=⟨cs.toList,by simp⟩
 simp only [NF] at hlen hg
 match cl,hlen,xs,hxl with
 | [c0,c1,c2,c3,c4,c5,c6],_,[x0,x1,x2,x3,x4,x5,x6],_=>
  have h0:DataW.trod enc Tryz.prog w 0 spare held n 3 ((([c0,c1,c2,c3,c4,c5,c6]:List Value).drop 0).take (Tryz.prog.cellsOf 3))=some x0:=hg 0 _ rfl
  have h1:DataW.trod enc Tryz.prog w 0 spare held n 22 ((([c0,c1,c2,c3,c4,c5,c6]:List Value).drop 1).take (Tryz.prog.cellsOf 22))=some x1:=hg 1 _ rfl
  have h2:DataW.trod enc Tryz.prog w 0 spare held n 23 ((([c0,c1,c2,c3,c4,c5,c6]:List Value).drop 2).take (Tryz.prog.cellsOf 23))=some x2:=hg 2 _ rfl
  have h3:DataW.trod enc Tryz.prog w 0 spare held n 24 ((([c0,c1,c2,c3,c4,c5,c6]:List Value).drop 3).take (Tryz.prog.cellsOf 24))=some x3:=hg 3 _ rfl
  have h4:DataW.trod enc Tryz.prog w 0 spare held n 25 ((([c0,c1,c2,c3,c4,c5,c6]:List Value).drop 4).take (Tryz.prog.cellsOf 25))=some x4:=hg 4 _ rfl
  have h5:DataW.trod enc Tryz.prog w 0 spare held n 26 ((([c0,c1,c2,c3,c4,c5,c6]:List Value).drop 5).take (Tryz.prog.cellsOf 26))=some x5:=hg 5 _ rfl
  have h6:DataW.trod enc Tryz.prog w 0 spare held n 3 ((([c0,c1,c2,c3,c4,c5,c6]:List Value).drop 6).take (Tryz.prog.cellsOf 3))=some x6:=hg 6 _ rfl
  rw [e_i] at h0 h6
  rw [e_e] at h1
  rw [e_r] at h2
  rw [e_g] at h3
  rw [e_l] at h4
  rw [e_s] at h5
  obtain ⟨us,rfl,_⟩:=fO (c:=c0) h0
  obtain ⟨st,rfl,_⟩:=fO (c:=c6) h6
  obtain ⟨v1,L1,q1,r1,w1⟩:=Bb (cs:= [c1]) h1
  obtain ⟨v2,L2,q2,r2,_⟩:=jQ (ok:=fun _:Rl=>True) Tryz.underlying23 (by kernel_rfl) (by decide) bX (fun _ _ _ h=>let ⟨a,e⟩:=Du h;⟨a,e,trivial⟩) (cs:= [c2]) h2
  obtain ⟨v3,L3,q3,r3,_⟩:=jQ (ok:=fun _:Gn=>True) Tryz.underlying24 (by kernel_rfl) (by decide) bR (fun _ _ _ h=>let ⟨a,e⟩:=z7 h;⟨a,e,trivial⟩) (cs:= [c3]) h3
  obtain ⟨v4,L4,q4,r4,_⟩:=jQ (ok:=fun _:Ev=>True) Tryz.underlying25 (by kernel_rfl) (by decide) cX (fun _ _ _ h=>let ⟨a,e⟩:=z8 h;⟨a,e,trivial⟩) (cs:= [c4]) h4
  obtain ⟨v5,L5,q5,r5,_⟩:=jQ (ok:=fun _:Rv=>True) Tryz.underlying26 (by kernel_rfl) (by decide) cW (fun _ _ _ h=>let ⟨a,e⟩:=vK h;⟨a,e,trivial⟩) (cs:= [c5]) h5
  simp only [List.cons.injEq,and_true] at q1 q2 q3 q4 q5
  subst q1;subst q2;subst q3;subst q4;subst q5
  obtain ⟨A1,k1,rfl⟩:=kV r1
  obtain ⟨A2,k2,rfl⟩:=kV r2
  obtain ⟨A3,k3,rfl⟩:=kV r3
  obtain ⟨A4,k4,rfl⟩:=kV r4
  obtain ⟨A5,k5,rfl⟩:=kV r5
  refine ⟨⟨us,L1,L2,L3,L4,L5,st⟩,⟨A1,A2,A3,A4,A5,k1,k2,k3,k4,k5⟩,rfl,⟨r1,r2,r3,r4,r5⟩,fun e he=> ?_⟩
  have h7:=w1 e he
  have hd1:d=DataW.agg [x0.1,x1.1,x2.1,x3.1,x4.1,x5.1,x6.1]:=congrArg Prod.fst hd
  rw [hd1]
  simp only [DataW.weights,Tryz.underlying28,Mh,MX,DataW.weightsEach]
  exact NQ _ (NB _ h7)
end
section
variable {H:Type} {enc:TypeId × Value→H} {w:World} {base:Nat} {spare:Nat→Bool} {held:Bool}
set_option maxRecDepth 100000 in
theorem DV {v:Value} {d:DataW H} {p:List MemPlace} (hv:Value.okWide Tryz.prog w .any base 65 v) (h:DataW.Trod enc Tryz.prog w 0 spare held 65 v d p): ∃ L:List Rf,Reads w v L.length (L.flatMap cB)∧ ∀ a∈L,okF a:=
 DW Tryz.underlying65 (by kernel_rfl) (by decide) GD (fun _ _ _ h=>qU h) hv h
end
end Go.SL
namespace Go.SL
open Go Go.Proofs
attribute [local irreducible] W WL WQ WG WA WX WLI WR WT WC WE VOp RW thn blk bS scp bq bF cj aS FnIn FnP ceP
def zr (r:Rct):Int:=if bi r=false then 0 else (r.c2 - r.c1+1)*(r.r2 - r.r1+1)
theorem x7 (r:Rct) (w:World):ay Tryz.prog 121 [.agg (bO r).toArray] w (.tuple #[.int .i64 (zr r),.int .i64 (dS r)]):=by
 refine aq Tryz.func121 rfl Tryz.ntmps121 rfl ?_
 have h1:=fun w=>fS r w
 unfold zr
 by_cases h:bi r=false
 ·
  rw [if_pos h]
  have hne:dS r≠0:=fun e=>eu (by omega) h
  generalize dS r=e at h1 hne ⊢
  repeat' (first|(apply aa;exact rfl;exact rfl;(intro w hm;exact h1 w))|refine sT ?_|refine sM fun _=> ?_|(refine sC ?_ ?_<;>intro hb<;>try omega)|fail)
  all_goals first|(exfalso;omega)|((refine rT2 ?_);rfl)|trace_state
 ·
  rw [if_neg h]
  have hz:dS r=0:=by
   rcases Decidable.em (dS r=0) with e|e
   ·
    exact e
   ·
    exact absurd (gA e) h
  rw [hz] at h1 ⊢
  have hb:1≤r.c1∧r.c1≤r.c2∧r.c2≤1024∧1≤r.r1∧r.r1≤r.r2∧r.r2≤1024:=by
   have:bi r=true:=by simpa using h
   simp only [bi,valid,LM,decide_eq_true_eq] at this
   omega
  have hm: -9223372036854775808≤(r.c2 - r.c1+1)*(r.r2 - r.r1+1)∧(r.c2 - r.c1+1)*(r.r2 - r.r1+1)≤9223372036854775807:=by
   have h1:(0:Int)≤(r.c2 - r.c1+1)*(r.r2 - r.r1+1):=Int.mul_nonneg (by omega) (by omega)
   have h2:(r.c2 - r.c1+1)*(r.r2 - r.r1+1)≤1024*1024:=Int.mul_le_mul (by omega) (by omega) (by omega) (by omega)
   omega
  repeat' (first|(apply aa;exact rfl;exact rfl;(intro w hm;exact h1 w))|(apply ak;exact rfl;apply qK;exact rfl;exact rfl;exact hm)|refine sT ?_|refine sJ ?_|refine sM fun _=> ?_|(refine sC ?_ ?_<;>intro hb<;>try omega)|fail)
  all_goals first|(exfalso;omega)|((refine rT2 ?_);rfl)|trace_state
def DH (b:Bk) (o:Ox):Bool:=match b.grants[o.idx.toNat]? with|some g=>g.rev|none=>true
theorem Iw {b:Bk} {o:Ox} {j:Nat} (hj:o.idx=(j:Int)) (hl:j<b.grants.length):DH b o=b.grants[j].rev:=by
 unfold DH
 rw [hj,MY,LF hl]
def tst (b:Bk) (o:Ox):Nat→Bool
 |0=>decide (opE o≠0)
 |1=>decide (o.user<0)||decide (b.users≤o.user)
 |2=>(jI o).2 && decide (dS (jI o).1≠0)
 |3=>decide ((o.rd|||o.wr|||o.ow|||o.to) &&& ~~~(dq b.users).1≠0#64)
 |4=>decide (o.kind=9) && (decide (o.idx<0)||decide ((b.grants.length:Int)≤o.idx)||DH b o)
 |5=>DG b o
 |6=>decide (o.kind=3) && decide ((ofP o.input).2.2≠0)
 |7=>(decide (o.kind=5) && decide (1024<zr (jI o).1))||(decide (o.kind=7) && decide (64≤b.rules.length))||(decide (o.kind=8) && decide (64≤b.grants.length))
 |_=>false
def cdE (b:Bk) (o:Ox):Int × Int:=
 if tst b o 0 then (1,0) else if tst b o 1 then (2,0) else if tst b o 2 then (4,0) else if tst b o 3 then (2,0) else if tst b o 4 then (8,0)
 else if tst b o 5 then (5,0) else if tst b o 6 then (6,(ofP o.input).2.1) else if tst b o 7 then (7,0) else (0,0)
section
variable {b:Bk} {x:Bv} {o:Ox} {gb gp go:Nat} {w:World} (ho:Ro w go 0 (bL o)) (hp:Ro w gp 0 [.pointer (some ⟨gb,0,none⟩)]) (hbk:Ro w gb 0 (aP b x))
include ho
theorem GR:ay Tryz.prog 111 [.pointer (some ⟨go,0,none⟩)] w (.bool (tst b o 0)):=by
 refine aq Tryz.func111 rfl Tryz.ntmps111 rfl ?_
 have h1:=fun w=>rA o w
 unfold tst
 generalize opE o=e at h1 ⊢
 repeat' (first|(apply aa;exact rfl;exact rfl;(intro w hm;exact h1 w))|refine sT ?_|refine sS ?_|refine sO ?_|refine sM fun _=> ?_|(refine sC ?_ ?_<;>intro hb<;>try omega)|fail)
 all_goals first|(exfalso;omega)|((refine rT1 ?_);simp;done)|((refine rT1 ?_);rfl)|trace_state
include hp hbk
theorem GQ:ay Tryz.prog 113 [.pointer (some ⟨go,0,none⟩),.pointer (some ⟨gp,0,none⟩)] w (.bool (tst b o 1)):=by
 refine aq Tryz.func113 rfl Tryz.ntmps113 rfl ?_
 unfold tst
 simp only [bL] at ho
 simp only [aP] at hbk
 repeat' (first|refine sT ?_|refine sS ?_|refine sQ ?_|refine sO ?_|refine sOQ ?_|refine sD ?_|refine sM fun _=> ?_|(refine sC ?_ ?_<;>intro hb<;>try omega)|(refine sCQ ?_ ?_<;>intro hb<;>try omega)|fail)
 all_goals first|(exfalso;omega)|((refine rT1 ?_);simp_all;done)|((refine rT1 ?_);simp_all;omega)|trace_state
omit hbk hp in
theorem GP {g8 g9:Nat} (h8:Ro w g8 0 (bO (jI o).1)) (h9:Ro w g9 0 [.bool (jI o).2]):ay Tryz.prog 114 [.pointer (some ⟨g9,0,none⟩),.pointer (some ⟨g8,0,none⟩)] w (.bool (tst b o 2)):=by
 refine aq Tryz.func114 rfl Tryz.ntmps114 rfl ?_
 unfold tst
 have _hz:=ho
 clear _hz ho
 generalize (jI o).1=t at h8 ⊢
 generalize (jI o).2=c at h9 ⊢
 have h1:=fun w=>fS t w
 generalize dS t=e at h1 ⊢
 cases c
 ·
  repeat' (first|(apply aa;exact rfl;exact rfl;(intro w hm;exact h1 w))|refine sT ?_|refine sS ?_|refine sO ?_|refine sM fun _=> ?_|(refine sC ?_ ?_<;>intro hb<;>try omega)|fail)
  all_goals first|(exfalso;omega)|((refine rT1 ?_);rfl)|trace_state
 ·
  repeat' (first|(apply aa;exact rfl;exact rfl;(intro w hm;exact h1 w))|refine sT ?_|refine sS ?_|refine sO ?_|refine sM fun _=> ?_|(refine sC ?_ ?_<;>intro hb<;>try omega)|fail)
  all_goals first|(exfalso;omega)|((refine rT1 ?_);simp;done)|((refine rT1 ?_);rfl)|trace_state
omit hbk hp in
theorem GN {g6:Nat} (h6:Ro w g6 0 [vS (dq b.users).1]):ay Tryz.prog 115 [.pointer (some ⟨go,0,none⟩),.pointer (some ⟨g6,0,none⟩)] w (.bool (tst b o 3)):=by
 refine aq Tryz.func115 rfl Tryz.ntmps115 rfl ?_
 unfold tst
 generalize (dq b.users).1=a at h6 ⊢
 have ho7:=(Ox.ro ho).2
 simp only [bL] at ho
 repeat' (first|(apply ak;exact rfl;apply oL;exact rfl;exact rfl)|(apply ak;exact rfl;apply dE (b:=a);exact rfl;exact rfl)|(apply ak;exact rfl;apply gJ (b:=0#64);exact rfl;exact rfl)|refine sT ?_|refine sS ?_|refine sO ?_|refine sM fun _=> ?_|(refine sC ?_ ?_<;>intro hb<;>try omega)|fail)
 all_goals first|(exfalso;omega)|((refine rT1 ?_);simp;done)|((refine rT1 ?_);rfl)|trace_state
end
section
variable {b:Bk} {x:Bv} {o:Ox} {gb gp go:Nat} {w:World} (ho:Ro w go 0 (bL o)) (hp:Ro w gp 0 [.pointer (some ⟨gb,0,none⟩)]) (hbk:Ro w gb 0 (aP b x)) (hr:BRd w b x)
include ho hp hbk hr
set_option maxHeartbeats 4000000 in
theorem GM:ay Tryz.prog 116 [.pointer (some ⟨go,0,none⟩),.pointer (some ⟨gp,0,none⟩)] w (.bool (tst b o 4)):=by
 refine aq Tryz.func116 rfl Tryz.ntmps116 rfl ?_
 have ht:tst b o 4=(decide (o.kind=9) && (decide (o.idx<0)||decide ((b.grants.length:Int)≤o.idx)||DH b o)):=rfl
 rw [ht]
 clear ht
 by_cases h1:o.kind=9∧0≤o.idx∧o.idx<(b.grants.length:Int)
 ·
  obtain ⟨h9,hi1,hi2⟩:=h1
  obtain ⟨j,hj⟩: ∃ j:Nat,o.idx=(j:Int):=⟨o.idx.toNat,by omega⟩
  have hjl:j<b.grants.length:=by omega
  rw [Iw hj hjl,decide_eq_true h9,decide_eq_false (show ¬ o.idx<0 by omega),decide_eq_false (show ¬ (b.grants.length:Int)≤o.idx by omega),Mi,Bool.false_or,Bool.false_or]
  have hg:=hr.g
  obtain ⟨ae1,ar1,ag1,al1,as1,ce1,cr1,cg1,cl1,cs1⟩:=x
  dsimp only at*
  obtain ⟨Ag,cg2,eg,hg1,hg2,hg3⟩:=hg
  cases eg
  obtain ⟨gg,og,rfl,hrg⟩:=hg3 (by omega)
  obtain ⟨_,_,_,_,he⟩:=Gn.ro (hrg.elem bR j hjl)
  generalize b.grants[j].rev=rv at he ⊢
  obtain ⟨us,E,RU,G,L,M,st⟩:=b
  dsimp only at*
  simp only [aP] at hbk
  simp only [bL] at ho
  clear hr
  repeat' (first|(apply aK;exact rfl;apply aI (o:=0) (off:=0);exact ho;exact rfl;exact rfl)|(apply aK;exact rfl;apply aj (j:=j);exact rfl;(rw [← hj];exact rfl);exact hjl)|(apply aK;exact rfl;apply iP;exact rfl;exact he)|refine sT ?_|refine sS ?_|refine sQ ?_|refine sO ?_|refine sOQ ?_|refine sD ?_|refine sM fun _=> ?_|(refine sC ?_ ?_<;>intro hb<;>try omega)|(refine sCQ ?_ ?_<;>intro hb<;>try omega)|fail)
  all_goals first|(exfalso;omega)|((refine rT1 ?_);rfl)|((refine rT1 ?_);simp_all;done)|trace_state
 ·
  have he:(decide (o.kind=9) && (decide (o.idx<0)||decide ((b.grants.length:Int)≤o.idx)||DH b o))=decide (o.kind=9):=by
   by_cases h9:o.kind=9
   ·
    by_cases hi:o.idx<0
    ·
     simp [hi]
    ·
     have:(b.grants.length:Int)≤o.idx:=by
      have:=fun h=>h1 ⟨h9,h⟩
      omega
     simp [this]
   ·
    simp [h9]
  rw [he]
  clear he
  obtain ⟨us,E,RU,G,L,M,st⟩:=b
  dsimp only at*
  simp only [aP] at hbk
  simp only [bL] at ho
  clear hr
  repeat' (first|(apply aK;exact rfl;apply aI (o:=0) (off:=0);exact ho;exact rfl;exact rfl)|refine sT ?_|refine sS ?_|refine sQ ?_|refine sO ?_|refine sOQ ?_|refine sD ?_|refine sM fun _=> ?_|(refine sC ?_ ?_<;>intro hb<;>try omega)|(refine sCQ ?_ ?_<;>intro hb<;>try omega)|fail)
  all_goals first|(exfalso;omega)|((refine rT1 ?_);simp_all;done)|trace_state
omit hp hbk hr in
theorem GL (h: ∀ w' H,Mem w w' H→ay Tryz.prog 118 [.pointer (some ⟨gb,0,none⟩),.agg (bL o).toArray] w' (.bool (DG b o))) (hp:Ro w gp 0 [.pointer (some ⟨gb,0,none⟩)]):ay Tryz.prog 117 [.pointer (some ⟨gp,0,none⟩),.pointer (some ⟨go,0,none⟩)] w (.bool (tst b o 5)):=by
 refine aq Tryz.func117 rfl Tryz.ntmps117 rfl ?_
 have ht:tst b o 5=DG b o:=rfl
 rw [ht]
 generalize DG b o=c at h ⊢
 repeat' (first|(apply aa (f:=118);exact rfl;exact rfl;(intro w' hm;exact h w' _ hm))|refine sT ?_|refine sS ?_|refine sO ?_|refine sM fun _=> ?_|(refine sC ?_ ?_<;>intro hb<;>try omega)|fail)
 all_goals first|(exfalso;omega)|((refine rT1 ?_);rfl)|trace_state
set_option maxHeartbeats 4000000 in
theorem GJ {g8:Nat} (h8:Ro w g8 0 (bO (jI o).1)):ay Tryz.prog 120 [.pointer (some ⟨g8,0,none⟩),.pointer (some ⟨go,0,none⟩),.pointer (some ⟨gp,0,none⟩)] w (.bool (tst b o 7)):=by
 refine aq Tryz.func120 rfl Tryz.ntmps120 rfl ?_
 have ht:tst b o 7=((decide (o.kind=5) && decide (1024<zr (jI o).1))||(decide (o.kind=7) && decide (64≤b.rules.length))||(decide (o.kind=8) && decide (64≤b.grants.length))):=rfl
 rw [ht]
 clear ht
 have hA:=fun w=>x7 (jI o).1 w
 generalize zr (jI o).1=ar at hA ⊢
 generalize (jI o).1=t at h8 hA
 obtain ⟨us,E,RU,G,L,M,st⟩:=b
 dsimp only at*
 simp only [aP] at hbk
 simp only [bL] at ho
 clear hr
 repeat' (first|(apply ak;exact rfl;apply aI (o:=0) (off:=0);exact ho;exact rfl;exact rfl)|(apply aa;exact rfl;exact rfl;(intro w hm;exact hA w))|refine sT ?_|refine sS ?_|refine sQ ?_|refine sO ?_|refine sOQ ?_|refine sD ?_|refine sM fun _=> ?_|(refine sC ?_ ?_<;>intro hb<;>try omega)|(refine sCQ ?_ ?_<;>intro hb<;>try omega)|fail)
 all_goals first|(exfalso;omega)|((refine rT1 ?_);simp_all;done)|((refine rT1 ?_);simp_all;omega)|trace_state
end
section
variable {b:Bk} {o:Ox} {go gat:Nat} {w0:World} {H:List Blk}
set_option maxHeartbeats 4000000 in
theorem GK (hW:Words w0) (hgo:In (.box go 41 (bL o)) H):FnIn Tryz.prog 119 [.pointer (some ⟨go,0,none⟩),.pointer (some ⟨gat,0,none⟩)] w0 (.box gat 3 [.int .i64 0]::H) fun v H' =>v= .bool (tst b o 6)∧H' = .box gat 3 [.int .i64 (if tst b o 6 then (ofP o.input).2.1 else 0)]::H:=by
 refine dM Tryz.func119 rfl Tryz.ntmps119 rfl ?_
 have ht:tst b o 6=(decide (o.kind=3) && decide ((ofP o.input).2.2≠0)):=rfl
 rw [ht]
 clear ht
 have hO:=fun (w' :World) (H' :List Blk) (hm:Mem w0 w' H')=>JA o.input w' (hW.next hm)
 generalize ofP o.input=r at hO ⊢
 obtain ⟨⟨fm,v,t⟩,at_,e⟩:=r
 simp only [ofV,zb] at hO
 dsimp only at*
 by_cases h3:o.kind=3
 ·
  rw [decide_eq_true h3,Mi]
  by_cases he:e≠0
  ·
   rw [decide_eq_true he,if_pos rfl]
   repeat' (first|(apply ak;exact rfl;apply di;exact rfl;exact .tl hgo;exact rfl)|(apply aG (f:=106);exact rfl;exact rfl;(intro w' hm;exact hO w' _ hm);rintro _ _ ⟨A,cap,rfl,rfl⟩)|refine sT ?_|refine sS ?_|refine sM fun _=> ?_|(refine sC ?_ ?_<;>intro hb<;>try omega)|fail)
   all_goals first|(exfalso;omega)|(exact cQ eIO rfl rfl (H' := .box gat 3 [.int .i64 at_]::H) mS ⟨congrArg Value.bool (by first|rfl|(simp [he];done)),rfl⟩)|trace_state
  ·
   rw [decide_eq_false he,if_neg (by decide)]
   repeat' (first|(apply ak;exact rfl;apply di;exact rfl;exact .tl hgo;exact rfl)|(apply aG (f:=106);exact rfl;exact rfl;(intro w' hm;exact hO w' _ hm);rintro _ _ ⟨A,cap,rfl,rfl⟩)|refine sT ?_|refine sS ?_|refine sM fun _=> ?_|(refine sC ?_ ?_<;>intro hb<;>try omega)|fail)
   all_goals first|(exfalso;omega)|(exact cQ eIO rfl rfl (H' := .box gat 3 [.int .i64 0]::H) mS ⟨congrArg Value.bool (by first|rfl|(simp [he];done)),rfl⟩)|trace_state
 ·
  rw [decide_eq_false h3,Mu,if_neg (by decide)]
  repeat' (first|(apply ak;exact rfl;apply di;exact rfl;exact .tl hgo;exact rfl)|refine sT ?_|refine sS ?_|refine sM fun _=> ?_|(refine sC ?_ ?_<;>intro hb<;>try omega)|fail)
  all_goals first|(exfalso;omega)|(exact cQ eIO rfl rfl (H' := .box gat 3 [.int .i64 0]::H) mS ⟨rfl,rfl⟩)|trace_state
end
theorem zm (o:Ox) (e:Et) (go:Nat) (w:World) (ho:Ro w go 0 (bL o)):ay Tryz.prog 58 [.agg (aH e).toArray,.pointer (some ⟨go,0,none⟩)] w (.bool (lZ o.rect e.at_)):=by
 refine aq Tryz.func58 rfl Tryz.ntmps58 rfl ?_
 have h1:=fun w=>Kw o.rect e.at_ w
 generalize lZ o.rect e.at_=c at h1 ⊢
 have ho2:=(Ox.ro ho).1
 repeat' (first|(apply aa;exact rfl;exact rfl;(intro w hm;exact h1 w))|refine sT ?_|refine sO ?_|refine sM fun _=> ?_|(refine sC ?_ ?_<;>intro hb<;>try omega)|fail)
 all_goals first|(exfalso;omega)|((refine rT1 ?_);rfl)|trace_state
theorem Iy {L:List Et} {k:Nat} (h:k<L.length):((L.flatMap aH).drop (0+k*3)).take 3=aH L[k]:=by
 rw [LZ];exact eJ aW L k h
section
variable (L:List Et) (o:Ox) (go:Nat) (cap:Nat) (R:List Blk) (w0:World)
def iX (o:Ox) (e:Et):Bool:= !lZ o.rect e.at_
def Gi (o:Ox) (L:List Et):Int:=match L.findIdx? (fun e=>lZ o.rect e.at_) with|some i=>(i:Int)|none=> -1
theorem uF {o:Ox} {L:List Et} {i:Nat} (h:i<L.length) (hq:lZ o.rect L[i].at_=true) (hno: ∀ j (h:j<L.length),j<i→lZ o.rect L[j].at_=false):Gi o L=(i:Int)∧L.filter (iX o)=L.take i++(L.drop (i+1)).filter (iX o):=by
 constructor
 ·
  have:L.findIdx? (fun e=>lZ o.rect e.at_)=some i:=by
   rw [M6]
   exact ⟨h,hq,fun j hj=>by simpa using hno j (by omega) hj⟩
  unfold Gi;rw [this]
 ·
  have h1:(L.take i).filter (iX o)=L.take i:=List.filter_eq_self.2 fun e he=>by
   obtain ⟨j,hj,rfl⟩:=NV.1 he
   rw [LP] at hj
   rw [N9]
   simp [iX,hno j (by omega) (by omega)]
  conv=>lhs;rw [← MA i L]
  rw [List.filter_append,h1,LJ h,List.filter_cons,if_neg (by simp [iX,hq])]
theorem uG {o:Ox} {L:List Et} (hno: ∀ j (h:j<L.length),lZ o.rect L[j].at_=false):Gi o L= -1∧L.filter (iX o)=L:=by
 constructor
 ·
  have:L.findIdx? (fun e=>lZ o.rect e.at_)=none:=by
   rw [MU]
   intro e he
   obtain ⟨j,hj,rfl⟩:=NV.1 he
   exact hno j hj
  unfold Gi;rw [this]
 ·
  refine List.filter_eq_self.2 fun e he=> ?_
  obtain ⟨j,hj,rfl⟩:=NV.1 he
  simp [iX,hno j hj]
theorem Gg (B:Option Addr) (cap:Nat) (fv:Value) (F:List Blk) (w0:World):
  FnIn Tryz.prog 123 [.slice B 0 cap,fv] w0 F fun v H=>v= .int .i64 (-1)∧H=F:=by
 refine dM Tryz.func123 rfl Tryz.ntmps123 rfl ?_
 repeat' (first|refine sT ?_|refine sS ?_|refine sM fun _=> ?_|(refine sC ?_ ?_<;>intro hb<;>try omega)|fail)
 refine ax [7] rfl (fun _:Unit=> [(8,.int .i64 0)]) (fun _=>F) (fun _=>True) (fun _=>0) () trivial sB mS ?_
 rintro _ _
 repeat' (first|refine sT ?_|refine sS ?_|refine sM fun _=> ?_|(refine sC ?_ ?_<;>intro hb<;>try omega)|fail)
 all_goals first
  |(exfalso;omega)
  |(refine cQ eIO rfl rfl (.refl _) ?_;exact ⟨rfl,rfl⟩)
  |trace_state
set_option maxHeartbeats 4000000 in
theorem IP (g:Nat) (hL:L.length≤1000000) (hgo:In (.box go 41 (bL o)) R):
    FnIn Tryz.prog 123 [.slice (some ⟨g,0,none⟩) L.length cap,.func (.func 58) #[] #[.pointer (some ⟨go,0,none⟩)]] w0 (.own (some g) 53 3 L.length cap (L.flatMap aH)::R) fun v H=>v= .int .i64 (Gi o L)∧H= .own (some g) 53 3 L.length cap (L.flatMap aH)::R:=by
  refine dM Tryz.func123 rfl Tryz.ntmps123 rfl ?_
  have hP:=fun (e:Et) (w' :World) (H:List Blk) (hi:In (.box go 41 (bL o)) H) (hm:Mem w0 w' H)=>zm o e go w' (Ro.of_box hm hi)
  repeat' (first|refine sT ?_|refine sS ?_|refine sM fun _=> ?_|(refine sC ?_ ?_<;>intro hb<;>try omega)|fail)
  refine ax [0,1,7] rfl (fun i:Nat=> [(8,.int .i64 (i:Int))]) (fun _=> .own (some g) 53 3 L.length cap (L.flatMap aH)::R) (fun i=>i≤L.length∧ ∀ j (h:j<L.length),j<i→lZ o.rect L[j].at_=false) (fun i=>L.length - i) 0 ⟨by omega,fun j _ h=>by omega⟩ sB mS ?_
  rintro i ⟨hi,hno⟩
  by_cases hlt:i<L.length
  · have hr1:=Iy hlt
    have hP1:=hP L[i]
    obtain ⟨c,hc⟩: ∃ c,lZ o.rect L[i].at_=c:=⟨_,rfl⟩
    rw [hc] at hP1
    cases c
    · repeat' (first|(apply ak;exact rfl;apply aj (j:=i);exact rfl;exact rfl;omega)|(apply ak;exact rfl;apply aR;exact rfl;exact pK;exact hr1;exact rfl)|(apply bC (f:=58);exact rfl;exact rfl;infer_instance;exact rfl;(intro w' hm;exact hP1 w' _ (.tl hgo) hm))|refine sT ?_|refine sS ?_|refine sN ?_|refine sM fun _=> ?_|(refine sC ?_ ?_<;>intro hb<;>try omega)|fail)
      all_goals first
        |(exfalso;omega)
        | (refine ⟨i + 1, ⟨hlt, fun j hj hji => ?_⟩, by omega, by exact sB, by exact sB, by exact mS⟩
           rcases (by omega:j<i∨j=i) with h|rfl
           · exact hno j hj h
           · exact hc)
        |trace_state
    · repeat' (first|(apply ak;exact rfl;apply aj (j:=i);exact rfl;exact rfl;omega)|(apply ak;exact rfl;apply aR;exact rfl;exact pK;exact hr1;exact rfl)|(apply bC (f:=58);exact rfl;exact rfl;infer_instance;exact rfl;(intro w' hm;exact hP1 w' _ (.tl hgo) hm))|refine sT ?_|refine sS ?_|refine sN ?_|refine sM fun _=> ?_|(refine sC ?_ ?_<;>intro hb<;>try omega)|fail)
      all_goals first
        |(exfalso;omega)
        |(refine cQ eIO rfl rfl (.refl _) ?_;rw [(uF hlt hc hno).1];exact ⟨rfl,rfl⟩)
        |trace_state
  · have e:=(uG (o:=o) (L:=L) fun j hj=>hno j hj (by omega)).1
    repeat' (first|refine sT ?_|refine sS ?_|refine sM fun _=> ?_|(refine sC ?_ ?_<;>intro hb<;>try omega)|fail)
    all_goals first
      |(exfalso;omega)
      |(refine cQ eIO rfl rfl (.refl _) ?_;rw [e];exact ⟨rfl,rfl⟩)
      |trace_state
set_option maxHeartbeats 8000000 in
theorem I3 (A:Option Nat) (hL:L.length≤1000000) (hgo:In (.box go 41 (bL o)) R):
    FnIn Tryz.prog 57 [sl A L.length cap,.func (.func 58) #[] #[.pointer (some ⟨go,0,none⟩)]] w0 (.own A 53 3 L.length cap (L.flatMap aH)::R) fun v H=>v=sl A (L.filter (iX o)).length cap∧H= .own A 53 3 (L.filter (iX o)).length cap ((L.filter (iX o)).flatMap aH)::R:=by
  refine dM Tryz.func57 rfl Tryz.ntmps57 rfl ?_
  refine JM (A:=A) .hd fun hle=> ?_
  rcases Mx L.length with h0|hpos
  · have e:L= []:=Me h0
    subst e
    have hI:=Gg (A.map fun g=>⟨g,0,none⟩) cap (.func (.func 58) #[] #[.pointer (some ⟨go,0,none⟩)]) (.own A 53 3 0 cap []::R) w0
    repeat' (first|(apply aw (f:=123);exact rfl;exact rfl;exact hI;rintro _ _ ⟨rfl,rfl⟩)|refine sT ?_|refine sS ?_|refine sN ?_|refine sM fun _=> ?_|(refine sC ?_ ?_<;>intro hb<;>try omega)|fail)
    all_goals first
      |(exfalso;omega)
      |(refine cQ eIO rfl rfl (.refl _) ?_;exact ⟨rfl,rfl⟩)
      |trace_state
  · refine dP (A:=A) .hd hpos fun g hA=> ?_
    subst hA
    have hP:=fun (e:Et) (w' :World) (H:List Blk) (hi:In (.box go 41 (bL o)) H) (hm:Mem w0 w' H)=>zm o e go w' (Ro.of_box hm hi)
    have hI:=IP L o go cap R w0 g hL hgo
    rcases hfi:L.findIdx? (fun e=>lZ o.rect e.at_) with _|k
    · have hno: ∀ j (h:j<L.length),lZ o.rect L[j].at_=false:=fun j hj=>by
        simpa using MU.1 hfi L[j] (Mw hj)
      obtain ⟨e1,e2⟩:=uG (o:=o) (L:=L) hno
      rw [e1] at hI
      rw [e2]
      repeat' (first|(apply aw (f:=123);exact rfl;exact rfl;exact hI;rintro _ _ ⟨rfl,rfl⟩)|refine sT ?_|refine sS ?_|refine sN ?_|refine sM fun _=> ?_|(refine sC ?_ ?_<;>intro hb<;>try omega)|fail)
      all_goals first
        |(exfalso;omega)
        |(refine cQ eIO rfl rfl (.refl _) ?_;exact ⟨rfl,rfl⟩)
        |trace_state
    · obtain ⟨hkl,hq,hno⟩:=M6.1 hfi
      obtain ⟨e1,e2⟩:=uF (o:=o) (L:=L) hkl hq fun j hj hjk=>by simpa using hno j hjk
      rw [e1] at hI
      rw [e2]
      repeat' (first|(apply aw (f:=123);exact rfl;exact rfl;exact hI;rintro _ _ ⟨rfl,rfl⟩)|refine sT ?_|refine sS ?_|refine sN ?_|refine sM fun _=> ?_|(refine sC ?_ ?_<;>intro hb<;>try omega)|fail)
      all_goals try (exfalso;omega)
      refine ax [0,1] rfl (fun y:Nat × Nat × List Et=> [(6,.int .i64 (y.1:Int)),(5,.int .i64 (y.2.1:Int))]) (fun y=> .own (some g) 53 3 L.length cap (y.2.2.flatMap aH)::R) (fun y=>k+1≤y.1∧y.1≤L.length∧y.2.1<y.1∧y.2.2.length=L.length∧y.2.2.take y.2.1=L.take k++((L.drop (k+1)).take (y.1 - (k+1))).filter (iX o)∧ ∀ j,y.1≤j→y.2.2[j]? =L[j]?) (fun y=>L.length - y.1) (k+1,k,L) ⟨LK _,by omega,Nw k,rfl,by simp,fun _ _=>rfl⟩ sB mS ?_
      rintro ⟨j,i,ys⟩ ⟨hj1,hj2,hij,hyl,hyt,hyj⟩
      dsimp only at hj1 hj2 hij hyl hyt hyj ⊢
      by_cases hlt:j<L.length
      · have hjy:j<ys.length:=by omega
        have hr1:=Iy (L:=ys) hjy
        have he1:ys[j]=L[j]:=by
          have:=hyj j (by omega)
          rw [LF hjy,LF hlt] at this
          exact Option.some.inj this
        rw [he1] at hr1
        have hst:((L.drop (k+1)).take (j+1 - (k+1))).filter (iX o)=((L.drop (k+1)).take (j - (k+1))).filter (iX o)++(if iX o L[j] then [L[j]] else []):=by
          rw [show j+1 - (k+1)=j - (k+1)+1 by omega,LQ (by rw [LL];omega),List.filter_append,List.getElem_drop]
          congr 1
          rw [show L[k+1+(j - (k+1))]'(by omega)=L[j] by congr 1;omega,List.filter_cons,List.filter_nil]
        have hP1:=hP L[j]
        obtain ⟨c,hc⟩: ∃ c,lZ o.rect L[j].at_=c:=⟨_,rfl⟩
        rw [hc] at hP1
        cases c with
        |true=>
          rw [if_neg (by simp [iX,hc]),LN] at hst
          repeat' (first|(apply ak;exact rfl;apply aj (j:=j);exact rfl;exact rfl;omega)|(apply ak;exact rfl;apply aR;exact rfl;exact pK;exact hr1;exact rfl)|(apply bC (f:=58);exact rfl;exact rfl;infer_instance;exact rfl;(intro w' hm;exact hP1 w' _ (.tl (.tl hgo)) hm))|refine sT ?_|refine sS ?_|refine sN ?_|refine sM fun _=> ?_|(refine sC ?_ ?_<;>intro hb<;>try omega)|fail)
          all_goals first
            |(exfalso;omega)
            |(refine ⟨(j+1,i,ys),⟨by dsimp only;omega,by dsimp only;omega,by dsimp only;omega,hyl,by dsimp only;rw [hyt,hst],fun t ht=>hyj t (by dsimp only at ht;omega)⟩,by dsimp only;omega,by exact sB,by exact sB,by exact mS⟩;done)
            |trace_state
        |false=>
          rw [if_pos (by simp [iX,hc])] at hst
          have hput:=yM aW ys i (by omega) L[j]
          repeat' (first|(apply ak;exact rfl;apply aj (j:=j);exact rfl;exact rfl;omega)|(apply ak;exact rfl;apply aj (j:=i);exact rfl;exact rfl;omega)|(apply ak;exact rfl;apply aR;exact rfl;exact pK;exact hr1;exact rfl)|(apply bC (f:=58);exact rfl;exact rfl;infer_instance;exact rfl;(intro w' hm;exact hP1 w' _ (.tl (.tl hgo)) hm))|(apply fA (vs:=aH L[j]) (off:=0+i*3);exact rfl;exact rfl;exact pK;exact rfl;exact rfl;(intro u hu;simp [aH] at hu;rcases hu with rfl|rfl|rfl<;>rfl);(rw [aD aW,hyl];omega);rw [LZ,hput])|refine sT ?_|refine sS ?_|refine sN ?_|refine sM fun _=> ?_|(refine sC ?_ ?_<;>intro hb<;>try omega)|fail)
          all_goals first
            |(exfalso;omega)
            | (refine ⟨(j + 1, i + 1, ys.set i L[j]), ⟨by dsimp only; omega, by dsimp only; omega, by dsimp only; omega, by dsimp only; rw [List.length_set, hyl], ?_, fun t ht => ?_⟩, by dsimp only; omega, by exact sB, by exact sB, by exact mS⟩
               · dsimp only
                 rw [LQ (by rw [NJ];omega),List.take_set_of_le (LK _),hyt,List.getElem_set_self,hst,Mk]
               · dsimp only at ht ⊢
                 rw [List.getElem?_set_ne (by omega)]
                 exact hyj t (by omega))
            |trace_state
      · have hjl:j=L.length:=by omega
        have htk:(L.drop (k+1)).take (L.length - (k+1))=L.drop (k+1):=Mm (by rw [LL];exact LK _)
        rw [hjl,htk] at hyt
        have hcl:(L.take k++(L.drop (k+1)).filter (iX o)).length=i:=by rw [← hyt,LP,hyl];omega
        have hiL:i<L.length:=by omega
        repeat' (first|(apply ak;exact rfl;apply oK (lo:=i);exact rfl;exact rfl;omega;exact hle)|(apply wX (sz:=3) (k:=i) (n' :=L.length);exact rfl;omega;exact pK;(intro u hu;simp [Value.cells] at hu;rcases hu with rfl|rfl<;>rfl);exact rfl)|(apply ak;exact rfl;apply ub (hi:=i);exact rfl;exact rfl;omega)|refine sT ?_|refine sS ?_|refine sN ?_|refine sM fun _=> ?_|(refine sC ?_ ?_<;>intro hb<;>try omega)|fail)
        all_goals first
          |(exfalso;omega)
          | (refine cQ eIO rfl rfl (H' := .own (some g) 53 3 i cap ((ys.flatMap aH).take (i * 3)) :: R) mS ?_
             rw [iK aW,hyt,hcl]
             exact ⟨rfl,rfl⟩)
          |trace_state
end
end Go.SL
