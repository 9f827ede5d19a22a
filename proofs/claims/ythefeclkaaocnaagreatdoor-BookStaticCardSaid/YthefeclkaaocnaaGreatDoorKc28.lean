/-
  Lemmas and walks, put together: Fo Fp Na Ng Nf Ig.
-/
import Derived.Test.YthefeclkaaocnaaGreatDoorKc27
set_option linter.unusedSimpArgs false
set_option linter.unusedVariables false
set_option maxRecDepth 20000
namespace Go.SL
open Go Go.Proofs Go.ChangeShapes Go.WideShapes Go.ChangeAt Go.RowKit Go.Deep
section
variable {H:Type} {enc:TypeId × Value→H} {w:World} {base:Nat} {spare:Nat→Bool} {held:Bool}
theorem pI {P:Program} {e:TypeId} {d:DataW H} {n:Nat} (hn:n∈d.weights P e): ∀ {ds:List (DataW H)},d∈ds→n∈DataW.weightsAll P e ds
 | [],h=>by cases h
 |x::r,h=>by
  rw [DataW.weightsAll]
  rcases M8.1 h with rfl|h
  ·
   exact Pe _ hn
  ·
   exact O9 _ (pI hn h)
theorem jb {n:Nat} {c:Value} {x:DataW H × List MemPlace} (h:DataW.trod enc Tryz.prog w base spare held n 34 [c]=some x): ∃ a:BitVec 64,c=vS a:=by
 obtain ⟨a0,q0,_,w0⟩:=DataW.trod_int Tryz.underlying34 h
 simp only [List.cons.injEq,and_true] at q0
 have w1:0≤a0∧a0≤18446744073709551615:=by
  simp [Lit.wf] at w0
  exact w0
 refine ⟨BitVec.ofNat 64 a0.toNat,?_⟩
 subst q0
 unfold vS
 rw [BitVec.toNat_ofNat]
 congr 1
 omega
theorem nD {n:Nat} {c:Value} {x:DataW H × List MemPlace} (h:DataW.trod enc Tryz.prog w base spare held n 5 [c]=some x): ∃ a:Int,c= .int .u8 a:=by
 obtain ⟨a0,q0,_,w0⟩:=DataW.trod_int Tryz.underlying5 h
 simp only [List.cons.injEq,and_true] at q0
 exact ⟨a0,q0⟩
theorem FQ {n:Nat} {c:Value} {x:DataW H × List MemPlace} (h:DataW.trod enc Tryz.prog w base spare held n 4 [c]=some x): ∃ a:Bool,c= .bool a:=by
 obtain ⟨a0,q0,_⟩:=DataW.trod_bool Tryz.underlying4 h
 simp only [List.cons.injEq,and_true] at q0
 exact ⟨a0,q0⟩
set_option maxRecDepth 100000 in
theorem xV {fuel:Nat} {cs:List Value} {x:DataW H × List MemPlace} (h:DataW.trod enc Tryz.prog w base spare held fuel 53 cs=some x): ∃ v:Et,cs=aJ v∧v.input.size∈x.1.weights Tryz.prog 53:=by
 obtain ⟨xs,n,_,rfl,hlen,hxl,hf⟩:=DataW.trod_struct Tryz.underlying53 h
 have eS:Tryz.prog.cellsOf 53=3:=by kernel_rfl
 have eI:Tryz.prog.cellsOf 51=2:=by kernel_rfl
 have eT:Tryz.prog.cellsOf 9=1:=by kernel_rfl
 rw [eS] at hlen
 match cs,hlen,xs,hxl with
 | [c0,c1,c2],_,[x0,x1],_=>
  have h0:DataW.trod enc Tryz.prog w base spare held n 51 ((([c0,c1,c2]:List Value).drop 0).take (Tryz.prog.cellsOf 51))=some x0:=hf 0 _ rfl
  rw [eI] at h0
  obtain ⟨a,q,wa⟩:=xU (cs:= [c0,c1]) h0
  simp only [db,List.cons.injEq,and_true] at q
  obtain ⟨rfl,rfl⟩:=q
  have h2:DataW.trod enc Tryz.prog w base spare held n 9 ((([Value.int .i64 a.col,.int .i64 a.row,c2]:List Value).drop 2).take (Tryz.prog.cellsOf 9))=some x1:=hf 1 _ rfl
  rw [eT] at h2
  obtain ⟨a2,q2,q3,_⟩:=DataW.trod_string Tryz.underlying9 h2
  simp only [Pm,Oi,NN,OB,List.cons.injEq,and_true] at q2
  subst q2
  subst q3
  refine ⟨⟨a,a2⟩,rfl,?_⟩
  simp [DataW.weights,Tryz.underlying53,DataW.weightsEach]
def HM (x:BitVec 64 × BitVec 64 × BitVec 64):List Value:= [vS x.1,vS x.2.1,vS x.2.2]
set_option maxRecDepth 100000 in
theorem pM {fuel:Nat} {cs:List Value} {x:DataW H × List MemPlace} (h:DataW.trod enc Tryz.prog w base spare held fuel 36 cs=some x): ∃ v:BitVec 64 × BitVec 64 × BitVec 64,cs=HM v:=by
 obtain ⟨xs,n,_,_,hlen,hxl,hf⟩:=DataW.trod_struct Tryz.underlying36 h
 have eS:Tryz.prog.cellsOf 36=3:=by kernel_rfl
 have e_s:Tryz.prog.cellsOf 34=1:=by kernel_rfl
 rw [eS] at hlen
 match cs,hlen,xs,hxl with
 | [c0,c1,c2],_,[x0,x1,x2],_=>
  have h0:DataW.trod enc Tryz.prog w base spare held n 34 ((([c0,c1,c2]:List Value).drop 0).take (Tryz.prog.cellsOf 34))=some x0:=hf 0 _ rfl
  rw [e_s] at h0
  obtain ⟨a0,rfl⟩:=jb (c:=c0) h0
  have h1:DataW.trod enc Tryz.prog w base spare held n 34 ((([(vS a0:Value),c1,c2]:List Value).drop 1).take (Tryz.prog.cellsOf 34))=some x1:=hf 1 _ rfl
  rw [e_s] at h1
  obtain ⟨a1,rfl⟩:=jb (c:=c1) h1
  have h2:DataW.trod enc Tryz.prog w base spare held n 34 ((([(vS a0:Value),(vS a1:Value),c2]:List Value).drop 2).take (Tryz.prog.cellsOf 34))=some x2:=hf 2 _ rfl
  rw [e_s] at h2
  obtain ⟨a2,rfl⟩:=jb (c:=c2) h2
  exact ⟨⟨a0,a1,a2⟩,rfl⟩
set_option maxRecDepth 100000 in
theorem DN {fuel:Nat} {cs:List Value} {x:DataW H × List MemPlace} (h:DataW.trod enc Tryz.prog w base spare held fuel 68 cs=some x): ∃ v:Cl,cs=Ku v:=by
 obtain ⟨xs,n,_,_,hlen,hxl,hf⟩:=DataW.trod_struct Tryz.underlying68 h
 have eS:Tryz.prog.cellsOf 68=3:=by kernel_rfl
 have e_F:Tryz.prog.cellsOf 51=2:=by kernel_rfl
 have e_i:Tryz.prog.cellsOf 3=1:=by kernel_rfl
 rw [eS] at hlen
 match cs,hlen,xs,hxl with
 | [c0,c1,c2],_,[x0,x1],_=>
  have h0:DataW.trod enc Tryz.prog w base spare held n 51 ((([c0,c1,c2]:List Value).drop 0).take (Tryz.prog.cellsOf 51))=some x0:=hf 0 _ rfl
  rw [e_F] at h0
  obtain ⟨a0,q,_⟩:=xU (cs:= [c0,c1]) h0
  simp only [db,List.cons.injEq,and_true] at q
  obtain ⟨rfl,rfl⟩:=q
  have h1:DataW.trod enc Tryz.prog w base spare held n 3 ((([(.int .i64 a0.col:Value),(.int .i64 a0.row:Value),c2]:List Value).drop 2).take (Tryz.prog.cellsOf 3))=some x1:=hf 1 _ rfl
  rw [e_i] at h1
  obtain ⟨a1,rfl,_⟩:=eX (c:=c2) h1
  exact ⟨⟨a0,a1⟩,rfl⟩
set_option maxRecDepth 100000 in
theorem DM {fuel:Nat} {cs:List Value} {x:DataW H × List MemPlace} (h:DataW.trod enc Tryz.prog w base spare held fuel 38 cs=some x): ∃ v:Rl,cs=bf v:=by
 obtain ⟨xs,n,_,_,hlen,hxl,hf⟩:=DataW.trod_struct Tryz.underlying38 h
 have eS:Tryz.prog.cellsOf 38=7:=by kernel_rfl
 have e_R:Tryz.prog.cellsOf 33=4:=by kernel_rfl
 have e_T:Tryz.prog.cellsOf 36=3:=by kernel_rfl
 rw [eS] at hlen
 match cs,hlen,xs,hxl with
 | [c0,c1,c2,c3,c4,c5,c6],_,[x0,x1],_=>
  have h0:DataW.trod enc Tryz.prog w base spare held n 33 ((([c0,c1,c2,c3,c4,c5,c6]:List Value).drop 0).take (Tryz.prog.cellsOf 33))=some x0:=hf 0 _ rfl
  rw [e_R] at h0
  obtain ⟨a0,q,_⟩:=jV (cs:= [c0,c1,c2,c3]) h0
  simp only [bK,List.cons.injEq,and_true] at q
  obtain ⟨rfl,rfl,rfl,rfl⟩:=q
  have h1:DataW.trod enc Tryz.prog w base spare held n 36 ((([(.int .i64 a0.c1:Value),(.int .i64 a0.r1:Value),(.int .i64 a0.c2:Value),(.int .i64 a0.r2:Value),c4,c5,c6]:List Value).drop 4).take (Tryz.prog.cellsOf 36))=some x1:=hf 1 _ rfl
  rw [e_T] at h1
  obtain ⟨a1,q⟩:=pM (cs:= [c4,c5,c6]) h1
  simp only [HM,List.cons.injEq,and_true] at q
  obtain ⟨rfl,rfl,rfl⟩:=q
  exact ⟨⟨a0,a1.1,a1.2.1,a1.2.2⟩,rfl⟩
set_option maxRecDepth 100000 in
theorem AG {fuel:Nat} {cs:List Value} {x:DataW H × List MemPlace} (h:DataW.trod enc Tryz.prog w base spare held fuel 56 cs=some x): ∃ v:Gn,cs=bg v:=by
 obtain ⟨xs,n,_,_,hlen,hxl,hf⟩:=DataW.trod_struct Tryz.underlying56 h
 have eS:Tryz.prog.cellsOf 56=8:=by kernel_rfl
 have e_R:Tryz.prog.cellsOf 33=4:=by kernel_rfl
 have e_b:Tryz.prog.cellsOf 4=1:=by kernel_rfl
 have e_c:Tryz.prog.cellsOf 5=1:=by kernel_rfl
 have e_i:Tryz.prog.cellsOf 3=1:=by kernel_rfl
 have e_s:Tryz.prog.cellsOf 34=1:=by kernel_rfl
 rw [eS] at hlen
 match cs,hlen,xs,hxl with
 | [c0,c1,c2,c3,c4,c5,c6,c7],_,[x0,x1,x2,x3,x4],_=>
  have h0:DataW.trod enc Tryz.prog w base spare held n 33 ((([c0,c1,c2,c3,c4,c5,c6,c7]:List Value).drop 0).take (Tryz.prog.cellsOf 33))=some x0:=hf 0 _ rfl
  rw [e_R] at h0
  obtain ⟨a0,q,_⟩:=jV (cs:= [c0,c1,c2,c3]) h0
  simp only [bK,List.cons.injEq,and_true] at q
  obtain ⟨rfl,rfl,rfl,rfl⟩:=q
  have h1:DataW.trod enc Tryz.prog w base spare held n 5 ((([(.int .i64 a0.c1:Value),(.int .i64 a0.r1:Value),(.int .i64 a0.c2:Value),(.int .i64 a0.r2:Value),c4,c5,c6,c7]:List Value).drop 4).take (Tryz.prog.cellsOf 5))=some x1:=hf 1 _ rfl
  rw [e_c] at h1
  obtain ⟨a1,rfl⟩:=nD (c:=c4) h1
  have h2:DataW.trod enc Tryz.prog w base spare held n 34 ((([(.int .i64 a0.c1:Value),(.int .i64 a0.r1:Value),(.int .i64 a0.c2:Value),(.int .i64 a0.r2:Value),(.int .u8 a1:Value),c5,c6,c7]:List Value).drop 5).take (Tryz.prog.cellsOf 34))=some x2:=hf 2 _ rfl
  rw [e_s] at h2
  obtain ⟨a2,rfl⟩:=jb (c:=c5) h2
  have h3:DataW.trod enc Tryz.prog w base spare held n 3 ((([(.int .i64 a0.c1:Value),(.int .i64 a0.r1:Value),(.int .i64 a0.c2:Value),(.int .i64 a0.r2:Value),(.int .u8 a1:Value),(vS a2:Value),c6,c7]:List Value).drop 6).take (Tryz.prog.cellsOf 3))=some x3:=hf 3 _ rfl
  rw [e_i] at h3
  obtain ⟨a3,rfl,_⟩:=eX (c:=c6) h3
  have h4:DataW.trod enc Tryz.prog w base spare held n 4 ((([(.int .i64 a0.c1:Value),(.int .i64 a0.r1:Value),(.int .i64 a0.c2:Value),(.int .i64 a0.r2:Value),(.int .u8 a1:Value),(vS a2:Value),(.int .i64 a3:Value),c7]:List Value).drop 7).take (Tryz.prog.cellsOf 4))=some x4:=hf 4 _ rfl
  rw [e_b] at h4
  obtain ⟨a4,rfl⟩:=FQ (c:=c7) h4
  exact ⟨⟨a0,a1,a2,a3,a4⟩,rfl⟩
set_option maxRecDepth 100000 in
theorem AH {fuel:Nat} {cs:List Value} {x:DataW H × List MemPlace} (h:DataW.trod enc Tryz.prog w base spare held fuel 48 cs=some x): ∃ v:Ev,cs=aO v:=by
 obtain ⟨xs,n,_,_,hlen,hxl,hf⟩:=DataW.trod_struct Tryz.underlying48 h
 have eS:Tryz.prog.cellsOf 48=9:=by kernel_rfl
 have e_R:Tryz.prog.cellsOf 33=4:=by kernel_rfl
 have e_b:Tryz.prog.cellsOf 4=1:=by kernel_rfl
 have e_c:Tryz.prog.cellsOf 5=1:=by kernel_rfl
 have e_i:Tryz.prog.cellsOf 3=1:=by kernel_rfl
 have e_s:Tryz.prog.cellsOf 34=1:=by kernel_rfl
 rw [eS] at hlen
 match cs,hlen,xs,hxl with
 | [c0,c1,c2,c3,c4,c5,c6,c7,c8],_,[x0,x1,x2,x3,x4,x5],_=>
  have h0:DataW.trod enc Tryz.prog w base spare held n 3 ((([c0,c1,c2,c3,c4,c5,c6,c7,c8]:List Value).drop 0).take (Tryz.prog.cellsOf 3))=some x0:=hf 0 _ rfl
  rw [e_i] at h0
  obtain ⟨a0,rfl,_⟩:=eX (c:=c0) h0
  have h1:DataW.trod enc Tryz.prog w base spare held n 3 ((([(.int .i64 a0:Value),c1,c2,c3,c4,c5,c6,c7,c8]:List Value).drop 1).take (Tryz.prog.cellsOf 3))=some x1:=hf 1 _ rfl
  rw [e_i] at h1
  obtain ⟨a1,rfl,_⟩:=eX (c:=c1) h1
  have h2:DataW.trod enc Tryz.prog w base spare held n 5 ((([(.int .i64 a0:Value),(.int .i64 a1:Value),c2,c3,c4,c5,c6,c7,c8]:List Value).drop 2).take (Tryz.prog.cellsOf 5))=some x2:=hf 2 _ rfl
  rw [e_c] at h2
  obtain ⟨a2,rfl⟩:=nD (c:=c2) h2
  have h3:DataW.trod enc Tryz.prog w base spare held n 33 ((([(.int .i64 a0:Value),(.int .i64 a1:Value),(.int .u8 a2:Value),c3,c4,c5,c6,c7,c8]:List Value).drop 3).take (Tryz.prog.cellsOf 33))=some x3:=hf 3 _ rfl
  rw [e_R] at h3
  obtain ⟨a3,q,_⟩:=jV (cs:= [c3,c4,c5,c6]) h3
  simp only [bK,List.cons.injEq,and_true] at q
  obtain ⟨rfl,rfl,rfl,rfl⟩:=q
  have h4:DataW.trod enc Tryz.prog w base spare held n 4 ((([(.int .i64 a0:Value),(.int .i64 a1:Value),(.int .u8 a2:Value),(.int .i64 a3.c1:Value),(.int .i64 a3.r1:Value),(.int .i64 a3.c2:Value),(.int .i64 a3.r2:Value),c7,c8]:List Value).drop 7).take (Tryz.prog.cellsOf 4))=some x4:=hf 4 _ rfl
  rw [e_b] at h4
  obtain ⟨a4,rfl⟩:=FQ (c:=c7) h4
  have h5:DataW.trod enc Tryz.prog w base spare held n 34 ((([(.int .i64 a0:Value),(.int .i64 a1:Value),(.int .u8 a2:Value),(.int .i64 a3.c1:Value),(.int .i64 a3.r1:Value),(.int .i64 a3.c2:Value),(.int .i64 a3.r2:Value),(.bool a4:Value),c8]:List Value).drop 8).take (Tryz.prog.cellsOf 34))=some x5:=hf 5 _ rfl
  rw [e_s] at h5
  obtain ⟨a5,rfl⟩:=jb (c:=c8) h5
  exact ⟨⟨a0,a1,a2,a3,a4,a5⟩,rfl⟩
set_option maxRecDepth 100000 in
theorem wu {fuel:Nat} {cs:List Value} {x:DataW H × List MemPlace} (h:DataW.trod enc Tryz.prog w base spare held fuel 70 cs=some x): ∃ v:Rv,cs=ck v:=by
 obtain ⟨xs,n,_,_,hlen,hxl,hf⟩:=DataW.trod_struct Tryz.underlying70 h
 have eS:Tryz.prog.cellsOf 70=11:=by kernel_rfl
 have e_C:Tryz.prog.cellsOf 68=3:=by kernel_rfl
 have e_R:Tryz.prog.cellsOf 33=4:=by kernel_rfl
 have e_c:Tryz.prog.cellsOf 5=1:=by kernel_rfl
 have e_i:Tryz.prog.cellsOf 3=1:=by kernel_rfl
 have e_s:Tryz.prog.cellsOf 34=1:=by kernel_rfl
 rw [eS] at hlen
 match cs,hlen,xs,hxl with
 | [c0,c1,c2,c3,c4,c5,c6,c7,c8,c9,c10],_,[x0,x1,x2,x3,x4,x5],_=>
  have h0:DataW.trod enc Tryz.prog w base spare held n 3 ((([c0,c1,c2,c3,c4,c5,c6,c7,c8,c9,c10]:List Value).drop 0).take (Tryz.prog.cellsOf 3))=some x0:=hf 0 _ rfl
  rw [e_i] at h0
  obtain ⟨a0,rfl,_⟩:=eX (c:=c0) h0
  have h1:DataW.trod enc Tryz.prog w base spare held n 68 ((([(.int .i64 a0:Value),c1,c2,c3,c4,c5,c6,c7,c8,c9,c10]:List Value).drop 1).take (Tryz.prog.cellsOf 68))=some x1:=hf 1 _ rfl
  rw [e_C] at h1
  obtain ⟨a1,q⟩:=DN (cs:= [c1,c2,c3]) h1
  simp only [Ku,List.cons.injEq,and_true] at q
  obtain ⟨rfl,rfl,rfl⟩:=q
  have h2:DataW.trod enc Tryz.prog w base spare held n 5 ((([(.int .i64 a0:Value),(.int .i64 a1.at_.col:Value),(.int .i64 a1.at_.row:Value),(.int .i64 a1.node:Value),c4,c5,c6,c7,c8,c9,c10]:List Value).drop 4).take (Tryz.prog.cellsOf 5))=some x2:=hf 2 _ rfl
  rw [e_c] at h2
  obtain ⟨a2,rfl⟩:=nD (c:=c4) h2
  have h3:DataW.trod enc Tryz.prog w base spare held n 33 ((([(.int .i64 a0:Value),(.int .i64 a1.at_.col:Value),(.int .i64 a1.at_.row:Value),(.int .i64 a1.node:Value),(.int .u8 a2:Value),c5,c6,c7,c8,c9,c10]:List Value).drop 5).take (Tryz.prog.cellsOf 33))=some x3:=hf 3 _ rfl
  rw [e_R] at h3
  obtain ⟨a3,q,_⟩:=jV (cs:= [c5,c6,c7,c8]) h3
  simp only [bK,List.cons.injEq,and_true] at q
  obtain ⟨rfl,rfl,rfl,rfl⟩:=q
  have h4:DataW.trod enc Tryz.prog w base spare held n 3 ((([(.int .i64 a0:Value),(.int .i64 a1.at_.col:Value),(.int .i64 a1.at_.row:Value),(.int .i64 a1.node:Value),(.int .u8 a2:Value),(.int .i64 a3.c1:Value),(.int .i64 a3.r1:Value),(.int .i64 a3.c2:Value),(.int .i64 a3.r2:Value),c9,c10]:List Value).drop 9).take (Tryz.prog.cellsOf 3))=some x4:=hf 4 _ rfl
  rw [e_i] at h4
  obtain ⟨a4,rfl,_⟩:=eX (c:=c9) h4
  have h5:DataW.trod enc Tryz.prog w base spare held n 34 ((([(.int .i64 a0:Value),(.int .i64 a1.at_.col:Value),(.int .i64 a1.at_.row:Value),(.int .i64 a1.node:Value),(.int .u8 a2:Value),(.int .i64 a3.c1:Value),(.int .i64 a3.r1:Value),(.int .i64 a3.c2:Value),(.int .i64 a3.r2:Value),(.int .i64 a4:Value),c10]:List Value).drop 10).take (Tryz.prog.cellsOf 34))=some x5:=hf 5 _ rfl
  rw [e_s] at h5
  obtain ⟨a5,rfl⟩:=jb (c:=c10) h5
  exact ⟨⟨a0,a1,a2,a3,a4,a5⟩,rfl⟩
instance:Inhabited Rl:=⟨⟨⟨0,0,0,0⟩,0#64,0#64,0#64⟩⟩
instance:Inhabited Gn:=⟨⟨⟨0,0,0,0⟩,0,0#64,0,false⟩⟩
instance:Inhabited Ev:=⟨⟨0,0,0,⟨0,0,0,0⟩,false,0#64⟩⟩
instance:Inhabited Rv:=⟨⟨0,⟨⟨0,0⟩,0⟩,0,⟨0,0,0,0⟩,0,0#64⟩⟩
theorem BB {fuel:Nat} {cs:List Value} {x:DataW H × List MemPlace} (h:DataW.trod enc Tryz.prog w 0 spare held fuel 22 cs=some x):
  ∃ (v:Value) (L:List Et),cs= [v]∧Reads w v L.length (L.flatMap aJ)∧ ∀ a∈L,a.input.size∈x.1.weights Tryz.prog 22:=by
 have hm:Tryz.prog.cellsOf 53=3:=by kernel_rfl
 have ht:=Tryz.underlying22
 rcases open_slice ht h with ⟨h0,_⟩|⟨a,len,cap,mm,n,D,Pl,h0,hb,hl,hmx,hmm,hxe,hx⟩
 ·
  exact ⟨_,[],h0,⟨none,0,rfl,MZ _,Nl _,fun h=>by cases h⟩,fun _ h=>by cases h⟩
 ·
  have hlm:len≤mm:=by rw [hmm];split<;>omega
  obtain ⟨F,hF⟩:=choose_lt (α:=Et) (n:=len) (p:=fun i nd=>w.cells? 0 (a.add (i*3)) 3=some (aJ nd)∧nd.input.size∈(D i).weights Tryz.prog 53) (fun i hi=>by
   obtain ⟨cs',h1,h2⟩:=hx i (by omega)
   rw [hm] at h1
   obtain ⟨nd,rfl,hw⟩:=xV h2
   exact ⟨nd,h1,hw⟩)
  have hlen:((List.range len).map F).length=len:=by simp
  refine ⟨_,(List.range len).map F,h0,⟨some a,cap,by rw [hlen],by omega,hmx,fun hpos=> ?_⟩,fun n hn=> ?_⟩
  rotate_left
  ·
   obtain ⟨i,hi,rfl⟩:=OM.1 hn
   have h1:=(hF i (List.mem_range.1 hi)).2
   rw [hxe]
   simp only [DataW.weights,ht]
   exact M7 _ (Pe _ (pI h1 (OM.2 ⟨i,hi,rfl⟩)))
  rw [hlen] at hpos
  obtain ⟨g,o,spot⟩:=a
  have hspot:spot=none:=by
   obtain ⟨_,_,h3⟩:=World.cells?_some (hF 0 (by omega)).1
   have h4' :=h3 0 (by decide)
   rw [MV (by rw [bC];decide)] at h4'
   have h4:=World.cell?_spot h4'
   simpa [Addr.add] using h4
  subst hspot
  have hcell: ∀ (i:Nat) (nd:Et),((List.range len).map F)[i]? =some nd→Cells w g (o+i*3) (aJ nd):=by
   intro i nd hnd k v hv
   have hil:i<len:=by have:=(Nh.1 hnd).1;omega
   have hnd' :F i=nd:=by simpa [hil] using hnd
   subst hnd'
   have hk:k<3:=by have:=(Nh.1 hv).1;rwa [bC] at this
   obtain ⟨_,_,h3⟩:=World.cells?_some (hF i hil).1
   have:=h3 k hk
   rw [hv,cw,cw] at this
   exact this
  refine ⟨g,o,rfl,?_,tB bC w g o _ hcell⟩
  obtain ⟨u,hu⟩: ∃ u,(aJ (F 0))[0]? =some u:=⟨_,MV (by rw [bC];decide)⟩
  have h5:=hcell 0 (F 0) (by simp [hpos]) 0 u hu
  simp only [World.cell?] at h5
  split at h5
  ·
   rename_i h6
   exact (Nv.1 h6).1
  ·
   cases h5
theorem lm {v:Value} {m:Nat} {xs:List Value} (h:Reads w v m xs): ∃ A c,v= .slice A m c:=by
 obtain ⟨A,c,e,_⟩:=h
 exact ⟨A,c,e⟩
set_option maxRecDepth 100000 in
theorem uZ {v:Value} {d:DataW H} {p:List MemPlace} {base' :Nat} (hv:Value.okWide Tryz.prog w .any base' 28 v) (h:DataW.Trod enc Tryz.prog w 0 spare held 28 v d p): ∃ (b:Bk) (x:Bv),v= .agg (bG b x).toArray∧BRd w b x∧ ∀ e∈b.ents,e.input.size∈d.weights Tryz.prog 28:=by
 obtain ⟨fuel,hf⟩:=h
 obtain ⟨cs,rfl,_⟩:=okWide_struct Tryz.underlying28 hv
 have hcs:(Value.agg cs).cells.toList=cs.toList:=by simp [Value.cells]
 rw [hcs] at hf
 obtain ⟨xs,n,_,hd,hlen,hxl,hg⟩:=DataW.trod_struct Tryz.underlying28 hf
 have eS:Tryz.prog.cellsOf 28=7:=by kernel_rfl
 have e_i:Tryz.prog.cellsOf 3=1:=by kernel_rfl
 have e_e:Tryz.prog.cellsOf 22=1:=by kernel_rfl
 have e_r:Tryz.prog.cellsOf 23=1:=by kernel_rfl
 have e_g:Tryz.prog.cellsOf 24=1:=by kernel_rfl
 have e_l:Tryz.prog.cellsOf 25=1:=by kernel_rfl
 have e_s:Tryz.prog.cellsOf 26=1:=by kernel_rfl
 rw [eS] at hlen
 obtain ⟨cl,rfl⟩: ∃ cl,cs=cl.toArray:=⟨cs.toList,by simp⟩
 simp only [Pk] at hlen hg
 match cl,hlen,xs,hxl with
 | [c0,c1,c2,c3,c4,c5,c6],_,[x0,x1,x2,x3,x4,x5,x6],_=>
  have h0:DataW.trod enc Tryz.prog w 0 spare held n 3 ((([c0,c1,c2,c3,c4,c5,c6]:List Value).drop 0).take (Tryz.prog.cellsOf 3))=some x0:=hg 0 _ rfl
  have h1:DataW.trod enc Tryz.prog w 0 spare held n 22 ((([c0,c1,c2,c3,c4,c5,c6]:List Value).drop 1).take (Tryz.prog.cellsOf 22))=some x1:=hg 1 _ rfl
  have h2:DataW.trod enc Tryz.prog w 0 spare held n 23 ((([c0,c1,c2,c3,c4,c5,c6]:List Value).drop 2).take (Tryz.prog.cellsOf 23))=some x2:=hg 2 _ rfl
  have h3:DataW.trod enc Tryz.prog w 0 spare held n 24 ((([c0,c1,c2,c3,c4,c5,c6]:List Value).drop 3).take (Tryz.prog.cellsOf 24))=some x3:=hg 3 _ rfl
  have h4:DataW.trod enc Tryz.prog w 0 spare held n 25 ((([c0,c1,c2,c3,c4,c5,c6]:List Value).drop 4).take (Tryz.prog.cellsOf 25))=some x4:=hg 4 _ rfl
  have h5:DataW.trod enc Tryz.prog w 0 spare held n 26 ((([c0,c1,c2,c3,c4,c5,c6]:List Value).drop 5).take (Tryz.prog.cellsOf 26))=some x5:=hg 5 _ rfl
  have h6:DataW.trod enc Tryz.prog w 0 spare held n 3 ((([c0,c1,c2,c3,c4,c5,c6]:List Value).drop 6).take (Tryz.prog.cellsOf 3))=some x6:=hg 6 _ rfl
  rw [e_i] at h0 h6
  rw [e_e] at h1
  rw [e_r] at h2
  rw [e_g] at h3
  rw [e_l] at h4
  rw [e_s] at h5
  obtain ⟨us,rfl,_⟩:=eX (c:=c0) h0
  obtain ⟨st,rfl,_⟩:=eX (c:=c6) h6
  obtain ⟨v1,L1,q1,r1,w1⟩:=BB (cs:= [c1]) h1
  obtain ⟨v2,L2,q2,r2,_⟩:=mi (ok:=fun _:Rl=>True) Tryz.underlying23 (by kernel_rfl) (by decide) dg (fun _ _ _ h=>let ⟨a,e⟩:=DM h;⟨a,e,trivial⟩) (cs:= [c2]) h2
  obtain ⟨v3,L3,q3,r3,_⟩:=mi (ok:=fun _:Gn=>True) Tryz.underlying24 (by kernel_rfl) (by decide) cW (fun _ _ _ h=>let ⟨a,e⟩:=AG h;⟨a,e,trivial⟩) (cs:= [c3]) h3
  obtain ⟨v4,L4,q4,r4,_⟩:=mi (ok:=fun _:Ev=>True) Tryz.underlying25 (by kernel_rfl) (by decide) eP (fun _ _ _ h=>let ⟨a,e⟩:=AH h;⟨a,e,trivial⟩) (cs:= [c4]) h4
  obtain ⟨v5,L5,q5,r5,_⟩:=mi (ok:=fun _:Rv=>True) Tryz.underlying26 (by kernel_rfl) (by decide) gR (fun _ _ _ h=>let ⟨a,e⟩:=wu h;⟨a,e,trivial⟩) (cs:= [c5]) h5
  simp only [List.cons.injEq,and_true] at q1 q2 q3 q4 q5
  subst q1;subst q2;subst q3;subst q4;subst q5
  obtain ⟨A1,k1,rfl⟩:=lm r1
  obtain ⟨A2,k2,rfl⟩:=lm r2
  obtain ⟨A3,k3,rfl⟩:=lm r3
  obtain ⟨A4,k4,rfl⟩:=lm r4
  obtain ⟨A5,k5,rfl⟩:=lm r5
  refine ⟨⟨us,L1,L2,L3,L4,L5,st⟩,⟨A1,A2,A3,A4,A5,k1,k2,k3,k4,k5⟩,rfl,⟨r1,r2,r3,r4,r5⟩,fun e he=> ?_⟩
  have h7:=w1 e he
  have hd1:d=DataW.agg [x0.1,x1.1,x2.1,x3.1,x4.1,x5.1,x6.1]:=congrArg Prod.fst hd
  rw [hd1]
  simp only [DataW.weights,Tryz.underlying28,NA,Oz,DataW.weightsEach]
  exact O9 _ (Pe _ h7)
end
section
variable {H:Type} {enc:TypeId × Value→H} {w:World} {base:Nat} {spare:Nat→Bool} {held:Bool}
set_option maxRecDepth 100000 in
theorem Jq {fuel:Nat} {cs:List Value} {x:DataW H × List MemPlace} (h:DataW.trod enc Tryz.prog w base spare held fuel 41 cs=some x): ∃ v:Ox,cs=bE v:=by
 obtain ⟨xs,n,_,_,hlen,hxl,hf⟩:=DataW.trod_struct Tryz.underlying41 h
 have eS:Tryz.prog.cellsOf 41=13:=by kernel_rfl
 have e_R:Tryz.prog.cellsOf 33=4:=by kernel_rfl
 have e_T:Tryz.prog.cellsOf 36=3:=by kernel_rfl
 have e_c:Tryz.prog.cellsOf 5=1:=by kernel_rfl
 have e_i:Tryz.prog.cellsOf 3=1:=by kernel_rfl
 have e_s:Tryz.prog.cellsOf 34=1:=by kernel_rfl
 have e_t:Tryz.prog.cellsOf 9=1:=by kernel_rfl
 rw [eS] at hlen
 match cs,hlen,xs,hxl with
 | [c0,c1,c2,c3,c4,c5,c6,c7,c8,c9,c10,c11,c12],_,[x0,x1,x2,x3,x4,x5,x6,x7],_=>
  have h0:DataW.trod enc Tryz.prog w base spare held n 5 ((([c0,c1,c2,c3,c4,c5,c6,c7,c8,c9,c10,c11,c12]:List Value).drop 0).take (Tryz.prog.cellsOf 5))=some x0:=hf 0 _ rfl
  rw [e_c] at h0
  obtain ⟨a0,rfl⟩:=nD (c:=c0) h0
  have h1:DataW.trod enc Tryz.prog w base spare held n 3 ((([(.int .u8 a0:Value),c1,c2,c3,c4,c5,c6,c7,c8,c9,c10,c11,c12]:List Value).drop 1).take (Tryz.prog.cellsOf 3))=some x1:=hf 1 _ rfl
  rw [e_i] at h1
  obtain ⟨a1,rfl,_⟩:=eX (c:=c1) h1
  have h2:DataW.trod enc Tryz.prog w base spare held n 33 ((([(.int .u8 a0:Value),(.int .i64 a1:Value),c2,c3,c4,c5,c6,c7,c8,c9,c10,c11,c12]:List Value).drop 2).take (Tryz.prog.cellsOf 33))=some x2:=hf 2 _ rfl
  rw [e_R] at h2
  obtain ⟨a2,q,_⟩:=jV (cs:= [c2,c3,c4,c5]) h2
  simp only [bK,List.cons.injEq,and_true] at q
  obtain ⟨rfl,rfl,rfl,rfl⟩:=q
  have h3:DataW.trod enc Tryz.prog w base spare held n 9 ((([(.int .u8 a0:Value),(.int .i64 a1:Value),(.int .i64 a2.c1:Value),(.int .i64 a2.r1:Value),(.int .i64 a2.c2:Value),(.int .i64 a2.r2:Value),c6,c7,c8,c9,c10,c11,c12]:List Value).drop 6).take (Tryz.prog.cellsOf 9))=some x3:=hf 3 _ rfl
  rw [e_t] at h3
  obtain ⟨a3,rfl⟩:=KY (c:=c6) h3
  have h4:DataW.trod enc Tryz.prog w base spare held n 36 ((([(.int .u8 a0:Value),(.int .i64 a1:Value),(.int .i64 a2.c1:Value),(.int .i64 a2.r1:Value),(.int .i64 a2.c2:Value),(.int .i64 a2.r2:Value),(.string a3:Value),c7,c8,c9,c10,c11,c12]:List Value).drop 7).take (Tryz.prog.cellsOf 36))=some x4:=hf 4 _ rfl
  rw [e_T] at h4
  obtain ⟨a4,q⟩:=pM (cs:= [c7,c8,c9]) h4
  simp only [HM,List.cons.injEq,and_true] at q
  obtain ⟨rfl,rfl,rfl⟩:=q
  have h5:DataW.trod enc Tryz.prog w base spare held n 5 ((([(.int .u8 a0:Value),(.int .i64 a1:Value),(.int .i64 a2.c1:Value),(.int .i64 a2.r1:Value),(.int .i64 a2.c2:Value),(.int .i64 a2.r2:Value),(.string a3:Value),(vS a4.1:Value),(vS a4.2.1:Value),(vS a4.2.2:Value),c10,c11,c12]:List Value).drop 10).take (Tryz.prog.cellsOf 5))=some x5:=hf 5 _ rfl
  rw [e_c] at h5
  obtain ⟨a5,rfl⟩:=nD (c:=c10) h5
  have h6:DataW.trod enc Tryz.prog w base spare held n 34 ((([(.int .u8 a0:Value),(.int .i64 a1:Value),(.int .i64 a2.c1:Value),(.int .i64 a2.r1:Value),(.int .i64 a2.c2:Value),(.int .i64 a2.r2:Value),(.string a3:Value),(vS a4.1:Value),(vS a4.2.1:Value),(vS a4.2.2:Value),(.int .u8 a5:Value),c11,c12]:List Value).drop 11).take (Tryz.prog.cellsOf 34))=some x6:=hf 6 _ rfl
  rw [e_s] at h6
  obtain ⟨a6,rfl⟩:=jb (c:=c11) h6
  have h7:DataW.trod enc Tryz.prog w base spare held n 3 ((([(.int .u8 a0:Value),(.int .i64 a1:Value),(.int .i64 a2.c1:Value),(.int .i64 a2.r1:Value),(.int .i64 a2.c2:Value),(.int .i64 a2.r2:Value),(.string a3:Value),(vS a4.1:Value),(vS a4.2.1:Value),(vS a4.2.2:Value),(.int .u8 a5:Value),(vS a6:Value),c12]:List Value).drop 12).take (Tryz.prog.cellsOf 3))=some x7:=hf 7 _ rfl
  rw [e_i] at h7
  obtain ⟨a7,rfl,_⟩:=eX (c:=c12) h7
  exact ⟨⟨a0,a1,a2,a3,a4.1,a4.2.1,a4.2.2,a5,a6,a7⟩,rfl⟩
set_option maxRecDepth 100000 in
theorem JH {v:Value} {d:DataW H} {p:List MemPlace} (hv:Value.okWide Tryz.prog w .any base 41 v) (h:DataW.Trod enc Tryz.prog w 0 spare held 41 v d p): ∃ o:Ox,v= .agg (bE o).toArray:=by
 obtain ⟨fuel,hf⟩:=h
 obtain ⟨cs,rfl,_⟩:=okWide_struct Tryz.underlying41 hv
 obtain ⟨r,e⟩:=Jq hf
 exact ⟨r,by rw [← e];simp [Value.cells]⟩
end
end Go.SL
namespace Go.SL
open Go
theorem EZ {L:List Rl} (h:(fP 64 L).2=0): ∀ R∈L,aG R.rect=true:=by
 unfold fP at h
 split at h
 ·
  cases h
 split at h
 ·
  cases h
 split at h
 ·
  cases h
 have hf: ∀ (M:List Rl) (i:Int),(dZ 64 M i).2=0→ ∀ R∈M,aG R.rect=true:=by
  intro M
  induction M with
  |nil=>intro _ _ R hR;cases hR
  |cons r M ih=>
   intro i hi R hR
   rw [dZ] at hi
   split at hi
   ·
    cases hi
   rename_i h1
   split at hi
   ·
    cases hi
   rcases M8.1 hR with rfl|hR
   ·
    simpa using h1
   ·
    exact ih _ hi R hR
 exact hf L 0 h
def GR (f:Rl→BitVec 64) (L:List Rl) (a:Rf):BitVec 64:=(L[Dd L a]?.map f).getD 0#64
theorem K9 {L:List Rl} (h:(fP 64 L).2=0) {r:Rct} (hr:aG r=true):ovE r L=((rR (fun x=>x.read) r L,rR (fun x=>x.write) r L,rR (fun x=>x.own) r L),0):=by
 have hz:iC r L=0:=by
  unfold iC
  rw [if_neg (by rw [hr];decide)];exact h
 unfold ovE
 rw [if_neg (by rw [hz];decide)]
theorem H9 {x:BitVec 64} {i:Nat} (h:x.getLsbD i=true):i<64:=by
 refine Nat.lt_of_not_le fun hn=> ?_
 rw [BitVec.getLsbD_of_ge _ _ hn] at h
 cases h
theorem JE {L:List Rl} (h:(fP 64 L).2=0) {r:Rct} (hr:aG r=true) {i:Nat} (hi:i<64):(ovE r L).1.2.2.getLsbD i=true↔ ∀ a,eM r a=true→(GR (fun x=>x.own) L a).getLsbD i=true:=by
 rw [K9 h hr]
 exact Gk hr (EZ h) hi
theorem if4 (c1 c2 c3:Prop) [Decidable c1] [Decidable c2] [Decidable c3] (z:Int):(if c1 then (3:Int) else if c2 then 12 else if c3 then 2 else z)=0↔ ¬ c1∧ ¬ c2∧ ¬ c3∧z=0:=by
 by_cases h1:c1
 ·
  rw [if_pos h1];exact ⟨fun h=>(by cases h),fun h=>absurd h1 h.1⟩
 by_cases h2:c2
 ·
  rw [if_neg h1,if_pos h2];exact ⟨fun h=>(by cases h),fun h=>absurd h2 h.2.1⟩
 by_cases h3:c3
 ·
  rw [if_neg h1,if_neg h2,if_pos h3];exact ⟨fun h=>(by cases h),fun h=>absurd h3 h.2.2.1⟩
 ·
  rw [if_neg h1,if_neg h2,if_neg h3];exact ⟨fun h=>⟨h1,h2,h3,h⟩,fun h=>h.2.2.2⟩
def Gy (e:Et):Prop:=e.at_.valid=true∧e.input≠av∧(ofP e.input).2.2=0
theorem vu {b:Option Rf} {e:Et}:gh b e=0↔(∀ p,b=some p→bJ p e.at_=true)∧Gy e:=by
 cases b with
 |none=>
  unfold gh Gy
  rw [if4]
  constructor
  ·
   rintro ⟨h1,_,h3,h4⟩;exact ⟨fun p hp=>(by cases hp),by simpa using h1,h3,h4⟩
  ·
   rintro ⟨_,h1,h3,h4⟩;exact ⟨by rw [h1];decide,by simp,h3,h4⟩
 |some p=>
  unfold gh Gy
  rw [if4]
  constructor
  ·
   rintro ⟨h1,h2,h3,h4⟩;exact ⟨fun q hq=>by cases hq;simpa using h2,by simpa using h1,h3,h4⟩
  ·
   rintro ⟨h2,h1,h3,h4⟩;exact ⟨by rw [h1];decide,by simpa using h2 p rfl,h3,h4⟩
end Go.SL
namespace Go.SL
open Go Go.Proofs
attribute [local irreducible] W WL WQ WG WA WX WLI WR WT WC WE VOp RW thn blk bL scp bi bz bY aQ FnIn FnP ceP
instance fldRt0:FldT Tryz.prog 36 0 34 0:=⟨_,_,Tryz.underlying36,rfl,rfl,rfl⟩
instance fldRt1:FldT Tryz.prog 36 1 34 1:=⟨_,_,Tryz.underlying36,rfl,rfl,rfl⟩
instance fldRt2:FldT Tryz.prog 36 2 34 2:=⟨_,_,Tryz.underlying36,rfl,rfl,rfl⟩
theorem Ox.ro {w:World} {g o:Nat} {x:Ox} (h:Ro w g o (bE x)):Ro w g (o+2) (bK x.rect)∧Ro w g (o+7) [vS x.rd,vS x.wr,vS x.ow]:=
 ⟨(h.drop (k:=2)).take (k:=4),(h.drop (k:=7)).take (k:=3)⟩
set_option maxHeartbeats 4000000 in
theorem EQ (b:Bk) (x:Bv) (r:Rct) (gp gb:Nat) (w:World) (hp:Ro w gp 0 [.pointer (some ⟨gb,0,none⟩)]) (hbk:Ro w gb 0 (bG b x)) (hr:BRd w b x):
  ax Tryz.prog 155 [.agg (bK r).toArray,.pointer (some ⟨gp,0,none⟩)] w (.agg #[vS (ovE r b.rules).1.1,vS (ovE r b.rules).1.2.1,vS (ovE r b.rules).1.2.2]):=by
 refine aq Tryz.func155 rfl Tryz.ntmps155 rfl ?_
 have h1:=fun (w' :World) (H:List Blk) (hm:Mem w w' H)=>Dn r b.rules _ w' (hr.r.of_w0 hm)
 generalize (ovE r b.rules).2=e at h1
 generalize (ovE r b.rules).1.1=s1 at h1 ⊢
 generalize (ovE r b.rules).1.2.1=s2 at h1 ⊢
 generalize (ovE r b.rules).1.2.2=s3 at h1 ⊢
 obtain ⟨us,E,RU,G,L,M,st⟩:=b
 obtain ⟨ae1,ar1,ag1,al1,as1,ce1,cr1,cg1,cl1,cs1⟩:=x
 dsimp only at*
 simp only [bG] at hbk
 repeat' (first|refine sT ?_|refine sS ?_|refine sO ?_|refine sM fun _=> ?_|(refine sC ?_ ?_<;>intro hb<;>try omega)|fail)
 rename_i g2 g3
 refine wg (id:=1) [5,9,10] [.box g2 33 (bK r),.box g3 36 [.int .u64 0,.int .u64 0,.int .u64 0]] 12 rfl rfl mS ?_
 repeat' (first|(apply fS (i:=1);(iterate 4 exact rfl);decide+kernel;decide+kernel;decide+kernel;apply kz;exact rfl;exact hp)|(apply fS (i:=4);(iterate 4 exact rfl);decide+kernel;decide+kernel;decide+kernel;apply di;exact rfl;exact hbk;exact rfl)|(apply fS (i:=0);(iterate 4 exact rfl);decide+kernel;decide+kernel;decide+kernel;(exact vC))|(apply fS (i:=2);(iterate 4 exact rfl);decide+kernel;decide+kernel;decide+kernel;(exact vC))|(apply fS (i:=3);(iterate 4 exact rfl);decide+kernel;decide+kernel;decide+kernel;(exact vC))|(apply fS (i:=6);(iterate 4 exact rfl);decide+kernel;decide+kernel;decide+kernel;(exact vC))|(apply fS (i:=7);(iterate 4 exact rfl);decide+kernel;decide+kernel;decide+kernel;(exact vC))|(apply fS (i:=8);(iterate 4 exact rfl);decide+kernel;decide+kernel;decide+kernel;(exact vC))|(apply fS (i:=11);(iterate 4 exact rfl);decide+kernel;decide+kernel;decide+kernel;(apply lh;exact rfl))|(apply jC (i:=5) (j:=9);(iterate 6 exact rfl);decide+kernel)|(apply fH (i:=5);(iterate 3 exact rfl);decide+kernel)|(apply fH (i:=9);(iterate 3 exact rfl);decide+kernel)|(apply fH (i:=10);(iterate 3 exact rfl);decide+kernel)|(apply v7;decide+kernel)|(apply J8;(focus (exact mS;done)))|(apply aa (f:=30);exact rfl;exact rfl;(intro w' hm;exact h1 w' _ hm))|refine sT ?_|refine sS ?_|refine sO ?_|refine sM fun _=> ?_|(refine sC ?_ ?_<;>intro hb<;>try omega)|fail)
 all_goals first
  |(exfalso;omega)
  |((refine eRC ?_);rfl)
  |trace_state
def D0 (b:Bk) (o:Ox):Bool:=
 if o.kind=3∨o.kind=4 then !fA (ovE o.rect b.rules).1.2.1 o.user
 else if o.kind=6 then !fA (ovE o.rect b.rules).1.1 o.user
 else if o.kind=7∨o.kind=8 then !fA (ovE o.rect b.rules).1.2.2 o.user
 else if o.kind=9 then (match b.grants[o.idx.toNat]? with|some g=>decide (g.by_≠o.user) && !fA (ovE g.rect b.rules).1.2.2 o.user|none=>false)
 else false
set_option maxHeartbeats 16000000 in
theorem rI (b:Bk) (x:Bv) (o:Ox) (gb:Nat) (w:World) (hbk:Ro w gb 0 (bG b x)) (hr:BRd w b x) (hi:o.kind=9→0≤o.idx∧o.idx<(b.grants.length:Int)):
  ax Tryz.prog 118 [.pointer (some ⟨gb,0,none⟩),.agg (bE o).toArray] w (.bool (D0 b o)):=by
 refine aq Tryz.func118 rfl Tryz.ntmps118 rfl ?_
 have hO:=fun (r:Rct) (gp:Nat) (w' :World) (H:List Blk) (hi:In (.box gp 123 [.pointer (some ⟨gb,0,none⟩)]) H) (hm:Mem w w' H)=>EQ b x r gp gb w' (Ro.of_box hm hi) (hbk.next hm) (hr.of_w0 hm)
 unfold D0
 have hH:=fun (s:BitVec 64) w' =>oP s o.user w'
 by_cases k1:o.kind=3∨o.kind=4
 ·
  rw [if_pos k1]
  have hO1:=hO o.rect
  clear hO
  generalize (ovE o.rect b.rules).1.1=s1 at hO1 ⊢
  generalize (ovE o.rect b.rules).1.2.1=s2 at hO1 ⊢
  generalize (ovE o.rect b.rules).1.2.2=s3 at hO1 ⊢
  repeat' (first|(apply bS (id:=5) [3,7] [];kernel_rfl;kernel_rfl;kernel_rfl)|(apply dO;(iterate 3 exact rfl);apply cH;exact rfl;exact rfl)|(apply bA (f:=155);exact rfl;exact rfl;infer_instance;exact rfl;(intro w' hm;exact hO1 _ w' _ pK hm))|(apply aa (f:=109);exact rfl;exact rfl;(intro w' _;exact hH _ w'))|refine sT ?_|refine sS ?_|refine sW ?_|refine sM fun _=> ?_|(refine sC ?_ ?_<;>intro hb<;>try omega)|(refine sCW ?_ ?_<;>intro hb<;>try omega)|fail)
  all_goals first|(exfalso;omega)|((refine rT1 ?_);rfl)|trace_state
 rw [if_neg k1]
 by_cases k2:o.kind=6
 ·
  rw [if_pos k2]
  have hO1:=hO o.rect
  clear hO
  generalize (ovE o.rect b.rules).1.1=s1 at hO1 ⊢
  generalize (ovE o.rect b.rules).1.2.1=s2 at hO1 ⊢
  generalize (ovE o.rect b.rules).1.2.2=s3 at hO1 ⊢
  repeat' (first|(apply bS (id:=7) [3,7] [];kernel_rfl;kernel_rfl;kernel_rfl)|(apply dO;(iterate 3 exact rfl);apply cH;exact rfl;exact rfl)|(apply bA (f:=155);exact rfl;exact rfl;infer_instance;exact rfl;(intro w' hm;exact hO1 _ w' _ pK hm))|(apply aa (f:=109);exact rfl;exact rfl;(intro w' _;exact hH _ w'))|refine sT ?_|refine sS ?_|refine sW ?_|refine sM fun _=> ?_|(refine sC ?_ ?_<;>intro hb<;>try omega)|(refine sCW ?_ ?_<;>intro hb<;>try omega)|fail)
  all_goals first|(exfalso;omega)|((refine rT1 ?_);rfl)|trace_state
 rw [if_neg k2]
 by_cases k3:o.kind=7∨o.kind=8
 ·
  rw [if_pos k3]
  have hO1:=hO o.rect
  clear hO
  generalize (ovE o.rect b.rules).1.1=s1 at hO1 ⊢
  generalize (ovE o.rect b.rules).1.2.1=s2 at hO1 ⊢
  generalize (ovE o.rect b.rules).1.2.2=s3 at hO1 ⊢
  repeat' (first|(apply bS (id:=10) [3,7] [];kernel_rfl;kernel_rfl;kernel_rfl)|(apply dO;(iterate 3 exact rfl);apply cH;exact rfl;exact rfl)|(apply bA (f:=155);exact rfl;exact rfl;infer_instance;exact rfl;(intro w' hm;exact hO1 _ w' _ pK hm))|(apply aa (f:=109);exact rfl;exact rfl;(intro w' _;exact hH _ w'))|refine sT ?_|refine sS ?_|refine sW ?_|refine sM fun _=> ?_|(refine sC ?_ ?_<;>intro hb<;>try omega)|(refine sCW ?_ ?_<;>intro hb<;>try omega)|fail)
  all_goals first|(exfalso;omega)|((refine rT1 ?_);rfl)|trace_state
 rw [if_neg k3]
 by_cases k4:o.kind=9
 ·
  rw [if_pos k4]
  obtain ⟨hi1,hi2⟩:=hi k4
  obtain ⟨j,hj⟩: ∃ j:Nat,o.idx=(j:Int):=⟨o.idx.toNat,by omega⟩
  have hjl:j<b.grants.length:=by omega
  rw [hj,Om,MV hjl]
  have hg:=hr.g
  obtain ⟨ae1,ar1,ag1,al1,as1,ce1,cr1,cg1,cl1,cs1⟩:=x
  dsimp only at*
  obtain ⟨Ag,cg2,eg,hg1,hg2,hg3⟩:=hg
  cases eg
  obtain ⟨gg,og,rfl,hrg⟩:=hg3 (by omega)
  have he:=hrg.elem cW j hjl
  generalize b.grants[j]=y at he ⊢
  have hO1:=hO y.rect
  clear hO
  generalize (ovE y.rect b.rules).1.1=s1 at hO1 ⊢
  generalize (ovE y.rect b.rules).1.2.1=s2 at hO1 ⊢
  generalize (ovE y.rect b.rules).1.2.2=s3 at hO1 ⊢
  obtain ⟨us,E,RU,G,L,M,st⟩:=b
  dsimp only at*
  simp only [bG] at hbk
  repeat' (first|(apply bS (id:=12) [8,9] [];kernel_rfl;kernel_rfl;kernel_rfl)|(apply bS (id:=13) [9,13] [];kernel_rfl;kernel_rfl;kernel_rfl)|(apply dO;(iterate 3 exact rfl);apply di;exact rfl;exact hbk;exact rfl)|(apply dO;(iterate 3 exact rfl);apply ak (j:=j);exact rfl;(rw [hj];exact rfl);exact hjl)|(apply dO;(iterate 3 exact rfl);apply aA;exact rfl;exact he;exact rfl)|(apply dO;(iterate 3 exact rfl);apply cH;exact rfl;exact rfl)|(apply bA (f:=155);exact rfl;exact rfl;infer_instance;exact rfl;(intro w' hm;exact hO1 _ w' _ pK hm))|(apply aa (f:=109);exact rfl;exact rfl;(intro w' _;exact hH _ w'))|refine sT ?_|refine sS ?_|refine sW ?_|refine sM fun _=> ?_|(refine sC ?_ ?_<;>intro hb<;>try omega)|(refine sCW ?_ ?_<;>intro hb<;>try omega)|fail)
  all_goals first
   |(exfalso;omega)
   |((refine rT1 ?_);rw [decide_eq_false hb];rfl)
   |((refine rT1 ?_);rw [decide_eq_true hb];rfl)
   |trace_state
 rw [if_neg k4]
 repeat' (first|refine sT ?_|refine sS ?_|refine sM fun _=> ?_|(refine sC ?_ ?_<;>intro hb<;>try omega)|fail)
 all_goals first|(exfalso;omega)|((refine rT1 ?_);rfl)|trace_state
end Go.SL
