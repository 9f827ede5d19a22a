/-
  Lemmas and walks, put together: Fo Fp.
-/
import Derived.Test.YtoanpdoacdpgeaaGreatDoorKp18
set_option linter.unusedSimpArgs false
set_option linter.unusedVariables false
set_option maxRecDepth 20000
namespace Go.SL
open Go Go.Proofs Go.ChangeShapes Go.WideShapes Go.ChangeAt Go.RowKit Go.Deep
section
variable {H:Type} {enc:TypeId × Value→H} {w:World} {base:Nat} {spare:Nat→Bool} {held:Bool}
theorem rm {P:Program} {e:TypeId} {d:DataW H} {n:Nat} (hn:n∈d.weights P e): ∀ {ds:List (DataW H)},d∈ds→n∈DataW.weightsAll P e ds
 | [],h=>by cases h
 |x::r,h=>by
  rw [DataW.weightsAll]
  rcases Qx.1 h with rfl|h
  ·
   exact S9 _ hn
  ·
   exact SY _ (rm hn h)
theorem jA {n:Nat} {c:Value} {x:DataW H × List MemPlace} (h:DataW.trod enc Tryz.prog w base spare held n 33 [c]=some x): ∃ a:BitVec 64,c=vS a:=by
 obtain ⟨a0,q0,_,w0⟩:=DataW.trod_int Tryz.underlying33 h
 simp only [List.cons.injEq,and_true] at q0
 have w1:0≤a0∧a0≤18446744073709551615:=by
  simp [Lit.wf] at w0
  exact w0
 refine ⟨BitVec.ofNat 64 a0.toNat,?_⟩
 subst q0
 unfold vS
 rw [BitVec.toNat_ofNat]
 congr 1
 omega
theorem pL {n:Nat} {c:Value} {x:DataW H × List MemPlace} (h:DataW.trod enc Tryz.prog w base spare held n 5 [c]=some x): ∃ a:Int,c= .int .u8 a:=by
 obtain ⟨a0,q0,_,w0⟩:=DataW.trod_int Tryz.underlying5 h
 simp only [List.cons.injEq,and_true] at q0
 exact ⟨a0,q0⟩
theorem Jv {n:Nat} {c:Value} {x:DataW H × List MemPlace} (h:DataW.trod enc Tryz.prog w base spare held n 4 [c]=some x): ∃ a:Bool,c= .bool a:=by
 obtain ⟨a0,q0,_⟩:=DataW.trod_bool Tryz.underlying4 h
 simp only [List.cons.injEq,and_true] at q0
 exact ⟨a0,q0⟩
set_option maxRecDepth 100000 in
theorem Ad {fuel:Nat} {cs:List Value} {x:DataW H × List MemPlace} (h:DataW.trod enc Tryz.prog w base spare held fuel 52 cs=some x): ∃ v:Et,cs=aK v∧v.input.size∈x.1.weights Tryz.prog 52:=by
 obtain ⟨xs,n,_,rfl,hlen,hxl,hf⟩:=DataW.trod_struct Tryz.underlying52 h
 have eS:Tryz.prog.cellsOf 52=3:=by kernel_rfl
 have eI:Tryz.prog.cellsOf 50=2:=by kernel_rfl
 have eT:Tryz.prog.cellsOf 9=1:=by kernel_rfl
 rw [eS] at hlen
 match cs,hlen,xs,hxl with
 | [c0,c1,c2],_,[x0,x1],_=>
  have h0:DataW.trod enc Tryz.prog w base spare held n 50 ((([c0,c1,c2]:List Value).drop 0).take (Tryz.prog.cellsOf 50))=some x0:=hf 0 _ rfl
  rw [eI] at h0
  obtain ⟨a,q,wa⟩:=Aa (cs:= [c0,c1]) h0
  simp only [bf,List.cons.injEq,and_true] at q
  obtain ⟨rfl,rfl⟩:=q
  have h2:DataW.trod enc Tryz.prog w base spare held n 9 ((([Value.int .i64 a.col,.int .i64 a.row,c2]:List Value).drop 2).take (Tryz.prog.cellsOf 9))=some x1:=hf 1 _ rfl
  rw [eT] at h2
  obtain ⟨a2,q2,q3,_⟩:=DataW.trod_string Tryz.underlying9 h2
  simp only [Tg,RM,RA,RI,List.cons.injEq,and_true] at q2
  subst q2
  subst q3
  refine ⟨⟨a,a2⟩,rfl,?_⟩
  simp [DataW.weights,Tryz.underlying52,DataW.weightsEach]
def KV (x:BitVec 64 × BitVec 64 × BitVec 64):List Value:= [vS x.1,vS x.2.1,vS x.2.2]
set_option maxRecDepth 100000 in
theorem rr {fuel:Nat} {cs:List Value} {x:DataW H × List MemPlace} (h:DataW.trod enc Tryz.prog w base spare held fuel 35 cs=some x): ∃ v:BitVec 64 × BitVec 64 × BitVec 64,cs=KV v:=by
 obtain ⟨xs,n,_,_,hlen,hxl,hf⟩:=DataW.trod_struct Tryz.underlying35 h
 have eS:Tryz.prog.cellsOf 35=3:=by kernel_rfl
 have e_s:Tryz.prog.cellsOf 33=1:=by kernel_rfl
 rw [eS] at hlen
 match cs,hlen,xs,hxl with
 | [c0,c1,c2],_,[x0,x1,x2],_=>
  have h0:DataW.trod enc Tryz.prog w base spare held n 33 ((([c0,c1,c2]:List Value).drop 0).take (Tryz.prog.cellsOf 33))=some x0:=hf 0 _ rfl
  rw [e_s] at h0
  obtain ⟨a0,rfl⟩:=jA (c:=c0) h0
  have h1:DataW.trod enc Tryz.prog w base spare held n 33 ((([(vS a0:Value),c1,c2]:List Value).drop 1).take (Tryz.prog.cellsOf 33))=some x1:=hf 1 _ rfl
  rw [e_s] at h1
  obtain ⟨a1,rfl⟩:=jA (c:=c1) h1
  have h2:DataW.trod enc Tryz.prog w base spare held n 33 ((([(vS a0:Value),(vS a1:Value),c2]:List Value).drop 2).take (Tryz.prog.cellsOf 33))=some x2:=hf 2 _ rfl
  rw [e_s] at h2
  obtain ⟨a2,rfl⟩:=jA (c:=c2) h2
  exact ⟨⟨a0,a1,a2⟩,rfl⟩
set_option maxRecDepth 100000 in
theorem Gy {fuel:Nat} {cs:List Value} {x:DataW H × List MemPlace} (h:DataW.trod enc Tryz.prog w base spare held fuel 60 cs=some x): ∃ v:Cl,cs=Cm v:=by
 obtain ⟨xs,n,_,_,hlen,hxl,hf⟩:=DataW.trod_struct Tryz.underlying60 h
 have eS:Tryz.prog.cellsOf 60=3:=by kernel_rfl
 have e_F:Tryz.prog.cellsOf 50=2:=by kernel_rfl
 have e_i:Tryz.prog.cellsOf 3=1:=by kernel_rfl
 rw [eS] at hlen
 match cs,hlen,xs,hxl with
 | [c0,c1,c2],_,[x0,x1],_=>
  have h0:DataW.trod enc Tryz.prog w base spare held n 50 ((([c0,c1,c2]:List Value).drop 0).take (Tryz.prog.cellsOf 50))=some x0:=hf 0 _ rfl
  rw [e_F] at h0
  obtain ⟨a0,q,_⟩:=Aa (cs:= [c0,c1]) h0
  simp only [bf,List.cons.injEq,and_true] at q
  obtain ⟨rfl,rfl⟩:=q
  have h1:DataW.trod enc Tryz.prog w base spare held n 3 ((([(.int .i64 a0.col:Value),(.int .i64 a0.row:Value),c2]:List Value).drop 2).take (Tryz.prog.cellsOf 3))=some x1:=hf 1 _ rfl
  rw [e_i] at h1
  obtain ⟨a1,rfl,_⟩:=fD (c:=c2) h1
  exact ⟨⟨a0,a1⟩,rfl⟩
set_option maxRecDepth 100000 in
theorem Gx {fuel:Nat} {cs:List Value} {x:DataW H × List MemPlace} (h:DataW.trod enc Tryz.prog w base spare held fuel 54 cs=some x): ∃ v:Rl,cs=bw v:=by
 obtain ⟨xs,n,_,_,hlen,hxl,hf⟩:=DataW.trod_struct Tryz.underlying54 h
 have eS:Tryz.prog.cellsOf 54=7:=by kernel_rfl
 have e_R:Tryz.prog.cellsOf 32=4:=by kernel_rfl
 have e_T:Tryz.prog.cellsOf 35=3:=by kernel_rfl
 rw [eS] at hlen
 match cs,hlen,xs,hxl with
 | [c0,c1,c2,c3,c4,c5,c6],_,[x0,x1],_=>
  have h0:DataW.trod enc Tryz.prog w base spare held n 32 ((([c0,c1,c2,c3,c4,c5,c6]:List Value).drop 0).take (Tryz.prog.cellsOf 32))=some x0:=hf 0 _ rfl
  rw [e_R] at h0
  obtain ⟨a0,q,_⟩:=kK (cs:= [c0,c1,c2,c3]) h0
  simp only [bK,List.cons.injEq,and_true] at q
  obtain ⟨rfl,rfl,rfl,rfl⟩:=q
  have h1:DataW.trod enc Tryz.prog w base spare held n 35 ((([(.int .i64 a0.c1:Value),(.int .i64 a0.r1:Value),(.int .i64 a0.c2:Value),(.int .i64 a0.r2:Value),c4,c5,c6]:List Value).drop 4).take (Tryz.prog.cellsOf 35))=some x1:=hf 1 _ rfl
  rw [e_T] at h1
  obtain ⟨a1,q⟩:=rr (cs:= [c4,c5,c6]) h1
  simp only [KV,List.cons.injEq,and_true] at q
  obtain ⟨rfl,rfl,rfl⟩:=q
  exact ⟨⟨a0,a1.1,a1.2.1,a1.2.2⟩,rfl⟩
set_option maxRecDepth 100000 in
theorem Dj {fuel:Nat} {cs:List Value} {x:DataW H × List MemPlace} (h:DataW.trod enc Tryz.prog w base spare held fuel 56 cs=some x): ∃ v:Gn,cs=bn v:=by
 obtain ⟨xs,n,_,_,hlen,hxl,hf⟩:=DataW.trod_struct Tryz.underlying56 h
 have eS:Tryz.prog.cellsOf 56=8:=by kernel_rfl
 have e_R:Tryz.prog.cellsOf 32=4:=by kernel_rfl
 have e_b:Tryz.prog.cellsOf 4=1:=by kernel_rfl
 have e_c:Tryz.prog.cellsOf 5=1:=by kernel_rfl
 have e_i:Tryz.prog.cellsOf 3=1:=by kernel_rfl
 have e_s:Tryz.prog.cellsOf 33=1:=by kernel_rfl
 rw [eS] at hlen
 match cs,hlen,xs,hxl with
 | [c0,c1,c2,c3,c4,c5,c6,c7],_,[x0,x1,x2,x3,x4],_=>
  have h0:DataW.trod enc Tryz.prog w base spare held n 32 ((([c0,c1,c2,c3,c4,c5,c6,c7]:List Value).drop 0).take (Tryz.prog.cellsOf 32))=some x0:=hf 0 _ rfl
  rw [e_R] at h0
  obtain ⟨a0,q,_⟩:=kK (cs:= [c0,c1,c2,c3]) h0
  simp only [bK,List.cons.injEq,and_true] at q
  obtain ⟨rfl,rfl,rfl,rfl⟩:=q
  have h1:DataW.trod enc Tryz.prog w base spare held n 5 ((([(.int .i64 a0.c1:Value),(.int .i64 a0.r1:Value),(.int .i64 a0.c2:Value),(.int .i64 a0.r2:Value),c4,c5,c6,c7]:List Value).drop 4).take (Tryz.prog.cellsOf 5))=some x1:=hf 1 _ rfl
  rw [e_c] at h1
  obtain ⟨a1,rfl⟩:=pL (c:=c4) h1
  have h2:DataW.trod enc Tryz.prog w base spare held n 33 ((([(.int .i64 a0.c1:Value),(.int .i64 a0.r1:Value),(.int .i64 a0.c2:Value),(.int .i64 a0.r2:Value),(.int .u8 a1:Value),c5,c6,c7]:List Value).drop 5).take (Tryz.prog.cellsOf 33))=some x2:=hf 2 _ rfl
  rw [e_s] at h2
  obtain ⟨a2,rfl⟩:=jA (c:=c5) h2
  have h3:DataW.trod enc Tryz.prog w base spare held n 3 ((([(.int .i64 a0.c1:Value),(.int .i64 a0.r1:Value),(.int .i64 a0.c2:Value),(.int .i64 a0.r2:Value),(.int .u8 a1:Value),(vS a2:Value),c6,c7]:List Value).drop 6).take (Tryz.prog.cellsOf 3))=some x3:=hf 3 _ rfl
  rw [e_i] at h3
  obtain ⟨a3,rfl,_⟩:=fD (c:=c6) h3
  have h4:DataW.trod enc Tryz.prog w base spare held n 4 ((([(.int .i64 a0.c1:Value),(.int .i64 a0.r1:Value),(.int .i64 a0.c2:Value),(.int .i64 a0.r2:Value),(.int .u8 a1:Value),(vS a2:Value),(.int .i64 a3:Value),c7]:List Value).drop 7).take (Tryz.prog.cellsOf 4))=some x4:=hf 4 _ rfl
  rw [e_b] at h4
  obtain ⟨a4,rfl⟩:=Jv (c:=c7) h4
  exact ⟨⟨a0,a1,a2,a3,a4⟩,rfl⟩
set_option maxRecDepth 100000 in
theorem Dk {fuel:Nat} {cs:List Value} {x:DataW H × List MemPlace} (h:DataW.trod enc Tryz.prog w base spare held fuel 58 cs=some x): ∃ v:Ev,cs=aZ v:=by
 obtain ⟨xs,n,_,_,hlen,hxl,hf⟩:=DataW.trod_struct Tryz.underlying58 h
 have eS:Tryz.prog.cellsOf 58=9:=by kernel_rfl
 have e_R:Tryz.prog.cellsOf 32=4:=by kernel_rfl
 have e_b:Tryz.prog.cellsOf 4=1:=by kernel_rfl
 have e_c:Tryz.prog.cellsOf 5=1:=by kernel_rfl
 have e_i:Tryz.prog.cellsOf 3=1:=by kernel_rfl
 have e_s:Tryz.prog.cellsOf 33=1:=by kernel_rfl
 rw [eS] at hlen
 match cs,hlen,xs,hxl with
 | [c0,c1,c2,c3,c4,c5,c6,c7,c8],_,[x0,x1,x2,x3,x4,x5],_=>
  have h0:DataW.trod enc Tryz.prog w base spare held n 3 ((([c0,c1,c2,c3,c4,c5,c6,c7,c8]:List Value).drop 0).take (Tryz.prog.cellsOf 3))=some x0:=hf 0 _ rfl
  rw [e_i] at h0
  obtain ⟨a0,rfl,_⟩:=fD (c:=c0) h0
  have h1:DataW.trod enc Tryz.prog w base spare held n 3 ((([(.int .i64 a0:Value),c1,c2,c3,c4,c5,c6,c7,c8]:List Value).drop 1).take (Tryz.prog.cellsOf 3))=some x1:=hf 1 _ rfl
  rw [e_i] at h1
  obtain ⟨a1,rfl,_⟩:=fD (c:=c1) h1
  have h2:DataW.trod enc Tryz.prog w base spare held n 5 ((([(.int .i64 a0:Value),(.int .i64 a1:Value),c2,c3,c4,c5,c6,c7,c8]:List Value).drop 2).take (Tryz.prog.cellsOf 5))=some x2:=hf 2 _ rfl
  rw [e_c] at h2
  obtain ⟨a2,rfl⟩:=pL (c:=c2) h2
  have h3:DataW.trod enc Tryz.prog w base spare held n 32 ((([(.int .i64 a0:Value),(.int .i64 a1:Value),(.int .u8 a2:Value),c3,c4,c5,c6,c7,c8]:List Value).drop 3).take (Tryz.prog.cellsOf 32))=some x3:=hf 3 _ rfl
  rw [e_R] at h3
  obtain ⟨a3,q,_⟩:=kK (cs:= [c3,c4,c5,c6]) h3
  simp only [bK,List.cons.injEq,and_true] at q
  obtain ⟨rfl,rfl,rfl,rfl⟩:=q
  have h4:DataW.trod enc Tryz.prog w base spare held n 4 ((([(.int .i64 a0:Value),(.int .i64 a1:Value),(.int .u8 a2:Value),(.int .i64 a3.c1:Value),(.int .i64 a3.r1:Value),(.int .i64 a3.c2:Value),(.int .i64 a3.r2:Value),c7,c8]:List Value).drop 7).take (Tryz.prog.cellsOf 4))=some x4:=hf 4 _ rfl
  rw [e_b] at h4
  obtain ⟨a4,rfl⟩:=Jv (c:=c7) h4
  have h5:DataW.trod enc Tryz.prog w base spare held n 33 ((([(.int .i64 a0:Value),(.int .i64 a1:Value),(.int .u8 a2:Value),(.int .i64 a3.c1:Value),(.int .i64 a3.r1:Value),(.int .i64 a3.c2:Value),(.int .i64 a3.r2:Value),(.bool a4:Value),c8]:List Value).drop 8).take (Tryz.prog.cellsOf 33))=some x5:=hf 5 _ rfl
  rw [e_s] at h5
  obtain ⟨a5,rfl⟩:=jA (c:=c8) h5
  exact ⟨⟨a0,a1,a2,a3,a4,a5⟩,rfl⟩
set_option maxRecDepth 100000 in
theorem yH {fuel:Nat} {cs:List Value} {x:DataW H × List MemPlace} (h:DataW.trod enc Tryz.prog w base spare held fuel 62 cs=some x): ∃ v:Rv,cs=aX v:=by
 obtain ⟨xs,n,_,_,hlen,hxl,hf⟩:=DataW.trod_struct Tryz.underlying62 h
 have eS:Tryz.prog.cellsOf 62=11:=by kernel_rfl
 have e_C:Tryz.prog.cellsOf 60=3:=by kernel_rfl
 have e_R:Tryz.prog.cellsOf 32=4:=by kernel_rfl
 have e_c:Tryz.prog.cellsOf 5=1:=by kernel_rfl
 have e_i:Tryz.prog.cellsOf 3=1:=by kernel_rfl
 have e_s:Tryz.prog.cellsOf 33=1:=by kernel_rfl
 rw [eS] at hlen
 match cs,hlen,xs,hxl with
 | [c0,c1,c2,c3,c4,c5,c6,c7,c8,c9,c10],_,[x0,x1,x2,x3,x4,x5],_=>
  have h0:DataW.trod enc Tryz.prog w base spare held n 3 ((([c0,c1,c2,c3,c4,c5,c6,c7,c8,c9,c10]:List Value).drop 0).take (Tryz.prog.cellsOf 3))=some x0:=hf 0 _ rfl
  rw [e_i] at h0
  obtain ⟨a0,rfl,_⟩:=fD (c:=c0) h0
  have h1:DataW.trod enc Tryz.prog w base spare held n 60 ((([(.int .i64 a0:Value),c1,c2,c3,c4,c5,c6,c7,c8,c9,c10]:List Value).drop 1).take (Tryz.prog.cellsOf 60))=some x1:=hf 1 _ rfl
  rw [e_C] at h1
  obtain ⟨a1,q⟩:=Gy (cs:= [c1,c2,c3]) h1
  simp only [Cm,List.cons.injEq,and_true] at q
  obtain ⟨rfl,rfl,rfl⟩:=q
  have h2:DataW.trod enc Tryz.prog w base spare held n 5 ((([(.int .i64 a0:Value),(.int .i64 a1.at_.col:Value),(.int .i64 a1.at_.row:Value),(.int .i64 a1.node:Value),c4,c5,c6,c7,c8,c9,c10]:List Value).drop 4).take (Tryz.prog.cellsOf 5))=some x2:=hf 2 _ rfl
  rw [e_c] at h2
  obtain ⟨a2,rfl⟩:=pL (c:=c4) h2
  have h3:DataW.trod enc Tryz.prog w base spare held n 32 ((([(.int .i64 a0:Value),(.int .i64 a1.at_.col:Value),(.int .i64 a1.at_.row:Value),(.int .i64 a1.node:Value),(.int .u8 a2:Value),c5,c6,c7,c8,c9,c10]:List Value).drop 5).take (Tryz.prog.cellsOf 32))=some x3:=hf 3 _ rfl
  rw [e_R] at h3
  obtain ⟨a3,q,_⟩:=kK (cs:= [c5,c6,c7,c8]) h3
  simp only [bK,List.cons.injEq,and_true] at q
  obtain ⟨rfl,rfl,rfl,rfl⟩:=q
  have h4:DataW.trod enc Tryz.prog w base spare held n 3 ((([(.int .i64 a0:Value),(.int .i64 a1.at_.col:Value),(.int .i64 a1.at_.row:Value),(.int .i64 a1.node:Value),(.int .u8 a2:Value),(.int .i64 a3.c1:Value),(.int .i64 a3.r1:Value),(.int .i64 a3.c2:Value),(.int .i64 a3.r2:Value),c9,c10]:List Value).drop 9).take (Tryz.prog.cellsOf 3))=some x4:=hf 4 _ rfl
  rw [e_i] at h4
  obtain ⟨a4,rfl,_⟩:=fD (c:=c9) h4
  have h5:DataW.trod enc Tryz.prog w base spare held n 33 ((([(.int .i64 a0:Value),(.int .i64 a1.at_.col:Value),(.int .i64 a1.at_.row:Value),(.int .i64 a1.node:Value),(.int .u8 a2:Value),(.int .i64 a3.c1:Value),(.int .i64 a3.r1:Value),(.int .i64 a3.c2:Value),(.int .i64 a3.r2:Value),(.int .i64 a4:Value),c10]:List Value).drop 10).take (Tryz.prog.cellsOf 33))=some x5:=hf 5 _ rfl
  rw [e_s] at h5
  obtain ⟨a5,rfl⟩:=jA (c:=c10) h5
  exact ⟨⟨a0,a1,a2,a3,a4,a5⟩,rfl⟩
instance:Inhabited Rl:=⟨⟨⟨0,0,0,0⟩,0#64,0#64,0#64⟩⟩
instance:Inhabited Gn:=⟨⟨⟨0,0,0,0⟩,0,0#64,0,false⟩⟩
instance:Inhabited Ev:=⟨⟨0,0,0,⟨0,0,0,0⟩,false,0#64⟩⟩
instance:Inhabited Rv:=⟨⟨0,⟨⟨0,0⟩,0⟩,0,⟨0,0,0,0⟩,0,0#64⟩⟩
theorem D0 {fuel:Nat} {cs:List Value} {x:DataW H × List MemPlace} (h:DataW.trod enc Tryz.prog w 0 spare held fuel 22 cs=some x):
  ∃ (v:Value) (L:List Et),cs= [v]∧Reads w v L.length (L.flatMap aK)∧ ∀ a∈L,a.input.size∈x.1.weights Tryz.prog 22:=by
 have hm:Tryz.prog.cellsOf 52=3:=by kernel_rfl
 have ht:=Tryz.underlying22
 rcases open_slice ht h with ⟨h0,_⟩|⟨a,len,cap,mm,n,D,Pl,h0,hb,hl,hmx,hmm,hxe,hx⟩
 ·
  exact ⟨_,[],h0,⟨none,0,rfl,Qq _,Qt _,fun h=>by cases h⟩,fun _ h=>by cases h⟩
 ·
  have hlm:len≤mm:=by rw [hmm];split<;>omega
  obtain ⟨F,hF⟩:=choose_lt (α:=Et) (n:=len) (p:=fun i nd=>w.cells? 0 (a.add (i*3)) 3=some (aK nd)∧nd.input.size∈(D i).weights Tryz.prog 52) (fun i hi=>by
   obtain ⟨cs',h1,h2⟩:=hx i (by omega)
   rw [hm] at h1
   obtain ⟨nd,rfl,hw⟩:=Ad h2
   exact ⟨nd,h1,hw⟩)
  have hlen:((List.range len).map F).length=len:=by simp
  refine ⟨_,(List.range len).map F,h0,⟨some a,cap,by rw [hlen],by omega,hmx,fun hpos=> ?_⟩,fun n hn=> ?_⟩
  rotate_left
  ·
   obtain ⟨i,hi,rfl⟩:=QT.1 hn
   have h1:=(hF i (List.mem_range.1 hi)).2
   rw [hxe]
   simp only [DataW.weights,ht]
   exact Qw _ (S9 _ (rm h1 (QT.2 ⟨i,hi,rfl⟩)))
  rw [hlen] at hpos
  obtain ⟨g,o,spot⟩:=a
  have hspot:spot=none:=by
   obtain ⟨_,_,h3⟩:=World.cells?_some (hF 0 (by omega)).1
   have h4' :=h3 0 (by decide)
   rw [Ql (by rw [bz];decide)] at h4'
   have h4:=World.cell?_spot h4'
   simpa [Addr.add] using h4
  subst hspot
  have hcell: ∀ (i:Nat) (nd:Et),((List.range len).map F)[i]? =some nd→Cells w g (o+i*3) (aK nd):=by
   intro i nd hnd k v hv
   have hil:i<len:=by have:=(QB.1 hnd).1;omega
   have hnd' :F i=nd:=by simpa [hil] using hnd
   subst hnd'
   have hk:k<3:=by have:=(QB.1 hv).1;rwa [bz] at this
   obtain ⟨_,_,h3⟩:=World.cells?_some (hF i hil).1
   have:=h3 k hk
   rw [hv,cH,cH] at this
   exact this
  refine ⟨g,o,rfl,?_,vQ bz w g o _ hcell⟩
  obtain ⟨u,hu⟩: ∃ u,(aK (F 0))[0]? =some u:=⟨_,Ql (by rw [bz];decide)⟩
  have h5:=hcell 0 (F 0) (by simp [hpos]) 0 u hu
  simp only [World.cell?] at h5
  split at h5
  ·
   rename_i h6
   exact (QQ.1 h6).1
  ·
   cases h5
theorem mz {v:Value} {m:Nat} {xs:List Value} (h:Reads w v m xs): ∃ A c,v= .slice A m c:=by
 obtain ⟨A,c,e,_⟩:=h
 exact ⟨A,c,e⟩
set_option maxRecDepth 100000 in
theorem Hq {v:Value} {d:DataW H} {p:List MemPlace} {base' :Nat} (hv:Value.okWide Tryz.prog w .any base' 28 v) (h:DataW.Trod enc Tryz.prog w 0 spare held 28 v d p): ∃ (b:Bk) (x:Bv),v= .agg (bo b x).toArray∧BRd w b x∧ ∀ e∈b.ents,e.input.size∈d.weights Tryz.prog 28:=by
 obtain ⟨fuel,hf⟩:=h
 obtain ⟨cs,rfl,_⟩:=okWide_struct Tryz.underlying28 hv
 have hcs:(Value.agg cs).cells.toList=cs.toList:=by simp [Value.cells]
 rw [hcs] at hf
 obtain ⟨xs,n,_,hd,hlen,hxl,hg⟩:=DataW.trod_struct Tryz.underlying28 hf
 have eS:Tryz.prog.cellsOf 28=7:=by kernel_rfl
 have e_i:Tryz.prog.cellsOf 3=1:=by kernel_rfl
 have e_e:Tryz.prog.cellsOf 22=1:=by kernel_rfl
 have e_r:Tryz.prog.cellsOf 23=1:=by kernel_rfl
 have e_g:Tryz.prog.cellsOf 24=1:=by kernel_rfl
 have e_l:Tryz.prog.cellsOf 25=1:=by kernel_rfl
 have e_s:Tryz.prog.cellsOf 26=1:=by kernel_rfl
 rw [eS] at hlen
 obtain ⟨cl,rfl⟩: ∃ cl,cs=cl.toArray:=⟨cs.toList,by simp⟩
 simp only [Tf] at hlen hg
 match cl,hlen,xs,hxl with
 | [c0,c1,c2,c3,c4,c5,c6],_,[x0,x1,x2,x3,x4,x5,x6],_=>
  have h0:DataW.trod enc Tryz.prog w 0 spare held n 3 ((([c0,c1,c2,c3,c4,c5,c6]:List Value).drop 0).take (Tryz.prog.cellsOf 3))=some x0:=hg 0 _ rfl
  have h1:DataW.trod enc Tryz.prog w 0 spare held n 22 ((([c0,c1,c2,c3,c4,c5,c6]:List Value).drop 1).take (Tryz.prog.cellsOf 22))=some x1:=hg 1 _ rfl
  have h2:DataW.trod enc Tryz.prog w 0 spare held n 23 ((([c0,c1,c2,c3,c4,c5,c6]:List Value).drop 2).take (Tryz.prog.cellsOf 23))=some x2:=hg 2 _ rfl
  have h3:DataW.trod enc Tryz.prog w 0 spare held n 24 ((([c0,c1,c2,c3,c4,c5,c6]:List Value).drop 3).take (Tryz.prog.cellsOf 24))=some x3:=hg 3 _ rfl
  have h4:DataW.trod enc Tryz.prog w 0 spare held n 25 ((([c0,c1,c2,c3,c4,c5,c6]:List Value).drop 4).take (Tryz.prog.cellsOf 25))=some x4:=hg 4 _ rfl
  have h5:DataW.trod enc Tryz.prog w 0 spare held n 26 ((([c0,c1,c2,c3,c4,c5,c6]:List Value).drop 5).take (Tryz.prog.cellsOf 26))=some x5:=hg 5 _ rfl
  have h6:DataW.trod enc Tryz.prog w 0 spare held n 3 ((([c0,c1,c2,c3,c4,c5,c6]:List Value).drop 6).take (Tryz.prog.cellsOf 3))=some x6:=hg 6 _ rfl
  rw [e_i] at h0 h6
  rw [e_e] at h1
  rw [e_r] at h2
  rw [e_g] at h3
  rw [e_l] at h4
  rw [e_s] at h5
  obtain ⟨us,rfl,_⟩:=fD (c:=c0) h0
  obtain ⟨st,rfl,_⟩:=fD (c:=c6) h6
  obtain ⟨v1,L1,q1,r1,w1⟩:=D0 (cs:= [c1]) h1
  obtain ⟨v2,L2,q2,r2,_⟩:=nQ (ok:=fun _:Rl=>True) Tryz.underlying23 (by kernel_rfl) (by decide) dA (fun _ _ _ h=>let ⟨a,e⟩:=Gx h;⟨a,e,trivial⟩) (cs:= [c2]) h2
  obtain ⟨v3,L3,q3,r3,_⟩:=nQ (ok:=fun _:Gn=>True) Tryz.underlying24 (by kernel_rfl) (by decide) dg (fun _ _ _ h=>let ⟨a,e⟩:=Dj h;⟨a,e,trivial⟩) (cs:= [c3]) h3
  obtain ⟨v4,L4,q4,r4,_⟩:=nQ (ok:=fun _:Ev=>True) Tryz.underlying25 (by kernel_rfl) (by decide) iB (fun _ _ _ h=>let ⟨a,e⟩:=Dk h;⟨a,e,trivial⟩) (cs:= [c4]) h4
  obtain ⟨v5,L5,q5,r5,_⟩:=nQ (ok:=fun _:Rv=>True) Tryz.underlying26 (by kernel_rfl) (by decide) dS (fun _ _ _ h=>let ⟨a,e⟩:=yH h;⟨a,e,trivial⟩) (cs:= [c5]) h5
  simp only [List.cons.injEq,and_true] at q1 q2 q3 q4 q5
  subst q1;subst q2;subst q3;subst q4;subst q5
  obtain ⟨A1,k1,rfl⟩:=mz r1
  obtain ⟨A2,k2,rfl⟩:=mz r2
  obtain ⟨A3,k3,rfl⟩:=mz r3
  obtain ⟨A4,k4,rfl⟩:=mz r4
  obtain ⟨A5,k5,rfl⟩:=mz r5
  refine ⟨⟨us,L1,L2,L3,L4,L5,st⟩,⟨A1,A2,A3,A4,A5,k1,k2,k3,k4,k5⟩,rfl,⟨r1,r2,r3,r4,r5⟩,fun e he=> ?_⟩
  have h7:=w1 e he
  have hd1:d=DataW.agg [x0.1,x1.1,x2.1,x3.1,x4.1,x5.1,x6.1]:=congrArg Prod.fst hd
  rw [hd1]
  simp only [DataW.weights,Tryz.underlying28,QL,RG,DataW.weightsEach]
  exact SY _ (S9 _ h7)
end
section
variable {H:Type} {enc:TypeId × Value→H} {w:World} {base:Nat} {spare:Nat→Bool} {held:Bool}
set_option maxRecDepth 100000 in
theorem Ml {fuel:Nat} {cs:List Value} {x:DataW H × List MemPlace} (h:DataW.trod enc Tryz.prog w base spare held fuel 37 cs=some x): ∃ v:Ox,cs=bN v:=by
 obtain ⟨xs,n,_,_,hlen,hxl,hf⟩:=DataW.trod_struct Tryz.underlying37 h
 have eS:Tryz.prog.cellsOf 37=13:=by kernel_rfl
 have e_R:Tryz.prog.cellsOf 32=4:=by kernel_rfl
 have e_T:Tryz.prog.cellsOf 35=3:=by kernel_rfl
 have e_c:Tryz.prog.cellsOf 5=1:=by kernel_rfl
 have e_i:Tryz.prog.cellsOf 3=1:=by kernel_rfl
 have e_s:Tryz.prog.cellsOf 33=1:=by kernel_rfl
 have e_t:Tryz.prog.cellsOf 9=1:=by kernel_rfl
 rw [eS] at hlen
 match cs,hlen,xs,hxl with
 | [c0,c1,c2,c3,c4,c5,c6,c7,c8,c9,c10,c11,c12],_,[x0,x1,x2,x3,x4,x5,x6,x7],_=>
  have h0:DataW.trod enc Tryz.prog w base spare held n 5 ((([c0,c1,c2,c3,c4,c5,c6,c7,c8,c9,c10,c11,c12]:List Value).drop 0).take (Tryz.prog.cellsOf 5))=some x0:=hf 0 _ rfl
  rw [e_c] at h0
  obtain ⟨a0,rfl⟩:=pL (c:=c0) h0
  have h1:DataW.trod enc Tryz.prog w base spare held n 3 ((([(.int .u8 a0:Value),c1,c2,c3,c4,c5,c6,c7,c8,c9,c10,c11,c12]:List Value).drop 1).take (Tryz.prog.cellsOf 3))=some x1:=hf 1 _ rfl
  rw [e_i] at h1
  obtain ⟨a1,rfl,_⟩:=fD (c:=c1) h1
  have h2:DataW.trod enc Tryz.prog w base spare held n 32 ((([(.int .u8 a0:Value),(.int .i64 a1:Value),c2,c3,c4,c5,c6,c7,c8,c9,c10,c11,c12]:List Value).drop 2).take (Tryz.prog.cellsOf 32))=some x2:=hf 2 _ rfl
  rw [e_R] at h2
  obtain ⟨a2,q,_⟩:=kK (cs:= [c2,c3,c4,c5]) h2
  simp only [bK,List.cons.injEq,and_true] at q
  obtain ⟨rfl,rfl,rfl,rfl⟩:=q
  have h3:DataW.trod enc Tryz.prog w base spare held n 9 ((([(.int .u8 a0:Value),(.int .i64 a1:Value),(.int .i64 a2.c1:Value),(.int .i64 a2.r1:Value),(.int .i64 a2.c2:Value),(.int .i64 a2.r2:Value),c6,c7,c8,c9,c10,c11,c12]:List Value).drop 6).take (Tryz.prog.cellsOf 9))=some x3:=hf 3 _ rfl
  rw [e_t] at h3
  obtain ⟨a3,rfl⟩:=Ov (c:=c6) h3
  have h4:DataW.trod enc Tryz.prog w base spare held n 35 ((([(.int .u8 a0:Value),(.int .i64 a1:Value),(.int .i64 a2.c1:Value),(.int .i64 a2.r1:Value),(.int .i64 a2.c2:Value),(.int .i64 a2.r2:Value),(.string a3:Value),c7,c8,c9,c10,c11,c12]:List Value).drop 7).take (Tryz.prog.cellsOf 35))=some x4:=hf 4 _ rfl
  rw [e_T] at h4
  obtain ⟨a4,q⟩:=rr (cs:= [c7,c8,c9]) h4
  simp only [KV,List.cons.injEq,and_true] at q
  obtain ⟨rfl,rfl,rfl⟩:=q
  have h5:DataW.trod enc Tryz.prog w base spare held n 5 ((([(.int .u8 a0:Value),(.int .i64 a1:Value),(.int .i64 a2.c1:Value),(.int .i64 a2.r1:Value),(.int .i64 a2.c2:Value),(.int .i64 a2.r2:Value),(.string a3:Value),(vS a4.1:Value),(vS a4.2.1:Value),(vS a4.2.2:Value),c10,c11,c12]:List Value).drop 10).take (Tryz.prog.cellsOf 5))=some x5:=hf 5 _ rfl
  rw [e_c] at h5
  obtain ⟨a5,rfl⟩:=pL (c:=c10) h5
  have h6:DataW.trod enc Tryz.prog w base spare held n 33 ((([(.int .u8 a0:Value),(.int .i64 a1:Value),(.int .i64 a2.c1:Value),(.int .i64 a2.r1:Value),(.int .i64 a2.c2:Value),(.int .i64 a2.r2:Value),(.string a3:Value),(vS a4.1:Value),(vS a4.2.1:Value),(vS a4.2.2:Value),(.int .u8 a5:Value),c11,c12]:List Value).drop 11).take (Tryz.prog.cellsOf 33))=some x6:=hf 6 _ rfl
  rw [e_s] at h6
  obtain ⟨a6,rfl⟩:=jA (c:=c11) h6
  have h7:DataW.trod enc Tryz.prog w base spare held n 3 ((([(.int .u8 a0:Value),(.int .i64 a1:Value),(.int .i64 a2.c1:Value),(.int .i64 a2.r1:Value),(.int .i64 a2.c2:Value),(.int .i64 a2.r2:Value),(.string a3:Value),(vS a4.1:Value),(vS a4.2.1:Value),(vS a4.2.2:Value),(.int .u8 a5:Value),(vS a6:Value),c12]:List Value).drop 12).take (Tryz.prog.cellsOf 3))=some x7:=hf 7 _ rfl
  rw [e_i] at h7
  obtain ⟨a7,rfl,_⟩:=fD (c:=c12) h7
  exact ⟨⟨a0,a1,a2,a3,a4.1,a4.2.1,a4.2.2,a5,a6,a7⟩,rfl⟩
set_option maxRecDepth 100000 in
theorem MD {v:Value} {d:DataW H} {p:List MemPlace} (hv:Value.okWide Tryz.prog w .any base 37 v) (h:DataW.Trod enc Tryz.prog w 0 spare held 37 v d p): ∃ o:Ox,v= .agg (bN o).toArray:=by
 obtain ⟨fuel,hf⟩:=h
 obtain ⟨cs,rfl,_⟩:=okWide_struct Tryz.underlying37 hv
 obtain ⟨r,e⟩:=Ml hf
 exact ⟨r,by rw [← e];simp [Value.cells]⟩
end
end Go.SL
