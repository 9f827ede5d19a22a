/-
  Lemmas and walks, put together: Fo.
-/
import Derived.Test.YthgjiibbmkiplaaGreatDoorKw20
import Derived.Test.YthgjiibbmkiplaaGreatDoorKw25
set_option linter.unusedSimpArgs false
set_option linter.unusedVariables false
set_option maxRecDepth 20000
namespace Go.SL
open Go Go.Proofs Go.ChangeShapes Go.WideShapes Go.ChangeAt Go.RowKit Go.Deep
section
variable {H:Type} {enc:TypeId × Value→H} {w:World} {base:Nat} {spare:Nat→Bool} {held:Bool}
theorem u6 {P:Program} {e:TypeId} {d:DataW H} {n:Nat} (hn:n∈d.weights P e): ∀ {ds:List (DataW H)},d∈ds→n∈DataW.weightsAll P e ds
 | [],h=>by cases h
 |x::r,h=>by
  rw [DataW.weightsAll];rcases Xt.1 h with rfl|h
  ·exact Xw _ hn
  ·exact XB _ (u6 hn h)
theorem l5 {n:Nat} {c:Value} {x:DataW H × List MemPlace} (h:DataW.trod enc Tryz.prog w base spare held n 57 [c]=some x): ∃ a:BitVec 64,c=vS a:=by
 obtain ⟨a0,q0,_,w0⟩:=DataW.trod_int Tryz.underlying57 h;simp only [List.cons.injEq,and_true] at q0;have w1:0≤a0∧a0≤18446744073709551615:=by
  simp [Lit.wf] at w0;exact w0
 refine ⟨BitVec.ofNat 64 a0.toNat,?_⟩;subst q0;unfold vS;rw [BitVec.toNat_ofNat];congr 1;omega
theorem CK {n:Nat} {c:Value} {x:DataW H × List MemPlace} (h:DataW.trod enc Tryz.prog w base spare held n 5 [c]=some x): ∃ a:Int,c= .int .u8 a:=by
 obtain ⟨a0,q0,_,w0⟩:=DataW.trod_int Tryz.underlying5 h;simp only [List.cons.injEq,and_true] at q0;exact ⟨a0,q0⟩
theorem NX {n:Nat} {c:Value} {x:DataW H × List MemPlace} (h:DataW.trod enc Tryz.prog w base spare held n 4 [c]=some x): ∃ a:Bool,c= .bool a:=by
 obtain ⟨a0,q0,_⟩:=DataW.trod_bool Tryz.underlying4 h;simp only [List.cons.injEq,and_true] at q0;exact ⟨a0,q0⟩
set_option maxRecDepth 100000 in
theorem EY {fuel:Nat} {cs:List Value} {x:DataW H × List MemPlace} (h:DataW.trod enc Tryz.prog w base spare held fuel 79 cs=some x): ∃ v:Et,cs=bN v∧v.input.size∈x.1.weights Tryz.prog 79:=by
 obtain ⟨xs,n,_,rfl,hlen,hxl,hf⟩:=DataW.trod_struct Tryz.underlying79 h;have eS:Tryz.prog.cellsOf 79=3:=by kernel_rfl
 have eI:Tryz.prog.cellsOf 34=2:=by kernel_rfl
 have eT:Tryz.prog.cellsOf 9=1:=by kernel_rfl
 rw [eS] at hlen
 match cs,hlen,xs,hxl with
 | [c0,c1,c2],_,[x0,x1],_=>
  have h0:DataW.trod enc Tryz.prog w base spare held n 34 ((([c0,c1,c2]:List Value).drop 0).take (Tryz.prog.cellsOf 34))=some x0:=hf 0 _ rfl;rw [eI] at h0;obtain ⟨a,q,wa⟩:=sw (cs:= [c0,c1]) h0;simp only [aq,List.cons.injEq,and_true] at q;obtain ⟨rfl,rfl⟩:=q;have h2:DataW.trod enc Tryz.prog w base spare held n 9 ((([Value.int .i64 a.col,.int .i64 a.row,c2]:List Value).drop 2).take (Tryz.prog.cellsOf 9))=some x1:=hf 1 _ rfl;rw [eT] at h2;obtain ⟨a2,q2,q3,_⟩:=DataW.trod_string Tryz.underlying9 h2;simp only [aaa,Zl,List.take_succ_cons,YF,List.cons.injEq,and_true] at q2;subst q2;subst q3;refine ⟨⟨a,a2⟩,rfl,?_⟩;simp [DataW.weights,Tryz.underlying79,DataW.weightsEach]
def TB (x:BitVec 64 × BitVec 64 × BitVec 64):List Value:= [vS x.1,vS x.2.1,vS x.2.2]
set_option maxRecDepth 100000 in
theorem EX {fuel:Nat} {cs:List Value} {x:DataW H × List MemPlace} (h:DataW.trod enc Tryz.prog w base spare held fuel 135 cs=some x): ∃ v:BitVec 64 × BitVec 64 × BitVec 64,cs=TB v:=by
 obtain ⟨xs,n,_,_,hlen,hxl,hf⟩:=DataW.trod_struct Tryz.underlying135 h;have eS:Tryz.prog.cellsOf 135=3:=by kernel_rfl
 have e_s:Tryz.prog.cellsOf 57=1:=by kernel_rfl
 rw [eS] at hlen
 match cs,hlen,xs,hxl with
 | [c0,c1,c2],_,[x0,x1,x2],_=>
  have h0:DataW.trod enc Tryz.prog w base spare held n 57 ((([c0,c1,c2]:List Value).drop 0).take (Tryz.prog.cellsOf 57))=some x0:=hf 0 _ rfl;rw [e_s] at h0;obtain ⟨a0,rfl⟩:=l5 (c:=c0) h0;have h1:DataW.trod enc Tryz.prog w base spare held n 57 ((([(vS a0:Value),c1,c2]:List Value).drop 1).take (Tryz.prog.cellsOf 57))=some x1:=hf 1 _ rfl;rw [e_s] at h1;obtain ⟨a1,rfl⟩:=l5 (c:=c1) h1;have h2:DataW.trod enc Tryz.prog w base spare held n 57 ((([(vS a0:Value),(vS a1:Value),c2]:List Value).drop 2).take (Tryz.prog.cellsOf 57))=some x2:=hf 2 _ rfl;rw [e_s] at h2;obtain ⟨a2,rfl⟩:=l5 (c:=c2) h2;exact ⟨⟨a0,a1,a2⟩,rfl⟩
set_option maxRecDepth 100000 in
theorem Lm {fuel:Nat} {cs:List Value} {x:DataW H × List MemPlace} (h:DataW.trod enc Tryz.prog w base spare held fuel 98 cs=some x): ∃ v:Cl,cs=dr v:=by
 obtain ⟨xs,n,_,_,hlen,hxl,hf⟩:=DataW.trod_struct Tryz.underlying98 h;have eS:Tryz.prog.cellsOf 98=3:=by kernel_rfl
 have e_F:Tryz.prog.cellsOf 34=2:=by kernel_rfl
 have e_i:Tryz.prog.cellsOf 3=1:=by kernel_rfl
 rw [eS] at hlen
 match cs,hlen,xs,hxl with
 | [c0,c1,c2],_,[x0,x1],_=>
  have h0:DataW.trod enc Tryz.prog w base spare held n 34 ((([c0,c1,c2]:List Value).drop 0).take (Tryz.prog.cellsOf 34))=some x0:=hf 0 _ rfl;rw [e_F] at h0;obtain ⟨a0,q,_⟩:=sw (cs:= [c0,c1]) h0;simp only [aq,List.cons.injEq,and_true] at q;obtain ⟨rfl,rfl⟩:=q;have h1:DataW.trod enc Tryz.prog w base spare held n 3 ((([(.int .i64 a0.col:Value),(.int .i64 a0.row:Value),c2]:List Value).drop 2).take (Tryz.prog.cellsOf 3))=some x1:=hf 1 _ rfl;rw [e_i] at h1;obtain ⟨a1,rfl,_⟩:=iT (c:=c2) h1;exact ⟨⟨a0,a1⟩,rfl⟩
set_option maxRecDepth 100000 in
theorem Ll {fuel:Nat} {cs:List Value} {x:DataW H × List MemPlace} (h:DataW.trod enc Tryz.prog w base spare held fuel 137 cs=some x): ∃ v:Rl,cs=bQ v:=by
 obtain ⟨xs,n,_,_,hlen,hxl,hf⟩:=DataW.trod_struct Tryz.underlying137 h;have eS:Tryz.prog.cellsOf 137=7:=by kernel_rfl
 have e_R:Tryz.prog.cellsOf 31=4:=by kernel_rfl
 have e_T:Tryz.prog.cellsOf 135=3:=by kernel_rfl
 rw [eS] at hlen
 match cs,hlen,xs,hxl with
 | [c0,c1,c2,c3,c4,c5,c6],_,[x0,x1],_=>
  have h0:DataW.trod enc Tryz.prog w base spare held n 31 ((([c0,c1,c2,c3,c4,c5,c6]:List Value).drop 0).take (Tryz.prog.cellsOf 31))=some x0:=hf 0 _ rfl;rw [e_R] at h0;obtain ⟨a0,q,_⟩:=p7 (cs:= [c0,c1,c2,c3]) h0;simp only [ay,List.cons.injEq,and_true] at q;obtain ⟨rfl,rfl,rfl,rfl⟩:=q;have h1:DataW.trod enc Tryz.prog w base spare held n 135 ((([(.int .i64 a0.c1:Value),(.int .i64 a0.r1:Value),(.int .i64 a0.c2:Value),(.int .i64 a0.r2:Value),c4,c5,c6]:List Value).drop 4).take (Tryz.prog.cellsOf 135))=some x1:=hf 1 _ rfl;rw [e_T] at h1;obtain ⟨a1,q⟩:=EX (cs:= [c4,c5,c6]) h1;simp only [TB,List.cons.injEq,and_true] at q;obtain ⟨rfl,rfl,rfl⟩:=q;exact ⟨⟨a0,a1.1,a1.2.1,a1.2.2⟩,rfl⟩
set_option maxRecDepth 100000 in
theorem Ik {fuel:Nat} {cs:List Value} {x:DataW H × List MemPlace} (h:DataW.trod enc Tryz.prog w base spare held fuel 76 cs=some x): ∃ v:Gn,cs=cD v:=by
 obtain ⟨xs,n,_,_,hlen,hxl,hf⟩:=DataW.trod_struct Tryz.underlying76 h;have eS:Tryz.prog.cellsOf 76=8:=by kernel_rfl
 have e_R:Tryz.prog.cellsOf 31=4:=by kernel_rfl
 have e_b:Tryz.prog.cellsOf 4=1:=by kernel_rfl
 have e_c:Tryz.prog.cellsOf 5=1:=by kernel_rfl
 have e_i:Tryz.prog.cellsOf 3=1:=by kernel_rfl
 have e_s:Tryz.prog.cellsOf 57=1:=by kernel_rfl
 rw [eS] at hlen
 match cs,hlen,xs,hxl with
 | [c0,c1,c2,c3,c4,c5,c6,c7],_,[x0,x1,x2,x3,x4],_=>
  have h0:DataW.trod enc Tryz.prog w base spare held n 31 ((([c0,c1,c2,c3,c4,c5,c6,c7]:List Value).drop 0).take (Tryz.prog.cellsOf 31))=some x0:=hf 0 _ rfl;rw [e_R] at h0;obtain ⟨a0,q,_⟩:=p7 (cs:= [c0,c1,c2,c3]) h0;simp only [ay,List.cons.injEq,and_true] at q;obtain ⟨rfl,rfl,rfl,rfl⟩:=q;have h1:DataW.trod enc Tryz.prog w base spare held n 5 ((([(.int .i64 a0.c1:Value),(.int .i64 a0.r1:Value),(.int .i64 a0.c2:Value),(.int .i64 a0.r2:Value),c4,c5,c6,c7]:List Value).drop 4).take (Tryz.prog.cellsOf 5))=some x1:=hf 1 _ rfl;rw [e_c] at h1;obtain ⟨a1,rfl⟩:=CK (c:=c4) h1;have h2:DataW.trod enc Tryz.prog w base spare held n 57 ((([(.int .i64 a0.c1:Value),(.int .i64 a0.r1:Value),(.int .i64 a0.c2:Value),(.int .i64 a0.r2:Value),(.int .u8 a1:Value),c5,c6,c7]:List Value).drop 5).take (Tryz.prog.cellsOf 57))=some x2:=hf 2 _ rfl;rw [e_s] at h2;obtain ⟨a2,rfl⟩:=l5 (c:=c5) h2;have h3:DataW.trod enc Tryz.prog w base spare held n 3 ((([(.int .i64 a0.c1:Value),(.int .i64 a0.r1:Value),(.int .i64 a0.c2:Value),(.int .i64 a0.r2:Value),(.int .u8 a1:Value),(vS a2:Value),c6,c7]:List Value).drop 6).take (Tryz.prog.cellsOf 3))=some x3:=hf 3 _ rfl;rw [e_i] at h3;obtain ⟨a3,rfl,_⟩:=iT (c:=c6) h3;have h4:DataW.trod enc Tryz.prog w base spare held n 4 ((([(.int .i64 a0.c1:Value),(.int .i64 a0.r1:Value),(.int .i64 a0.c2:Value),(.int .i64 a0.r2:Value),(.int .u8 a1:Value),(vS a2:Value),(.int .i64 a3:Value),c7]:List Value).drop 7).take (Tryz.prog.cellsOf 4))=some x4:=hf 4 _ rfl;rw [e_b] at h4;obtain ⟨a4,rfl⟩:=NX (c:=c7) h4;exact ⟨⟨a0,a1,a2,a3,a4⟩,rfl⟩
set_option maxRecDepth 100000 in
theorem Il {fuel:Nat} {cs:List Value} {x:DataW H × List MemPlace} (h:DataW.trod enc Tryz.prog w base spare held fuel 147 cs=some x): ∃ v:Ev,cs=fF v:=by
 obtain ⟨xs,n,_,_,hlen,hxl,hf⟩:=DataW.trod_struct Tryz.underlying147 h;have eS:Tryz.prog.cellsOf 147=9:=by kernel_rfl
 have e_R:Tryz.prog.cellsOf 31=4:=by kernel_rfl
 have e_b:Tryz.prog.cellsOf 4=1:=by kernel_rfl
 have e_c:Tryz.prog.cellsOf 5=1:=by kernel_rfl
 have e_i:Tryz.prog.cellsOf 3=1:=by kernel_rfl
 have e_s:Tryz.prog.cellsOf 57=1:=by kernel_rfl
 rw [eS] at hlen
 match cs,hlen,xs,hxl with
 | [c0,c1,c2,c3,c4,c5,c6,c7,c8],_,[x0,x1,x2,x3,x4,x5],_=>
  have h0:DataW.trod enc Tryz.prog w base spare held n 3 ((([c0,c1,c2,c3,c4,c5,c6,c7,c8]:List Value).drop 0).take (Tryz.prog.cellsOf 3))=some x0:=hf 0 _ rfl;rw [e_i] at h0;obtain ⟨a0,rfl,_⟩:=iT (c:=c0) h0;have h1:DataW.trod enc Tryz.prog w base spare held n 3 ((([(.int .i64 a0:Value),c1,c2,c3,c4,c5,c6,c7,c8]:List Value).drop 1).take (Tryz.prog.cellsOf 3))=some x1:=hf 1 _ rfl;rw [e_i] at h1;obtain ⟨a1,rfl,_⟩:=iT (c:=c1) h1;have h2:DataW.trod enc Tryz.prog w base spare held n 5 ((([(.int .i64 a0:Value),(.int .i64 a1:Value),c2,c3,c4,c5,c6,c7,c8]:List Value).drop 2).take (Tryz.prog.cellsOf 5))=some x2:=hf 2 _ rfl;rw [e_c] at h2;obtain ⟨a2,rfl⟩:=CK (c:=c2) h2;have h3:DataW.trod enc Tryz.prog w base spare held n 31 ((([(.int .i64 a0:Value),(.int .i64 a1:Value),(.int .u8 a2:Value),c3,c4,c5,c6,c7,c8]:List Value).drop 3).take (Tryz.prog.cellsOf 31))=some x3:=hf 3 _ rfl;rw [e_R] at h3;obtain ⟨a3,q,_⟩:=p7 (cs:= [c3,c4,c5,c6]) h3;simp only [ay,List.cons.injEq,and_true] at q;obtain ⟨rfl,rfl,rfl,rfl⟩:=q;have h4:DataW.trod enc Tryz.prog w base spare held n 4 ((([(.int .i64 a0:Value),(.int .i64 a1:Value),(.int .u8 a2:Value),(.int .i64 a3.c1:Value),(.int .i64 a3.r1:Value),(.int .i64 a3.c2:Value),(.int .i64 a3.r2:Value),c7,c8]:List Value).drop 7).take (Tryz.prog.cellsOf 4))=some x4:=hf 4 _ rfl;rw [e_b] at h4;obtain ⟨a4,rfl⟩:=NX (c:=c7) h4;have h5:DataW.trod enc Tryz.prog w base spare held n 57 ((([(.int .i64 a0:Value),(.int .i64 a1:Value),(.int .u8 a2:Value),(.int .i64 a3.c1:Value),(.int .i64 a3.r1:Value),(.int .i64 a3.c2:Value),(.int .i64 a3.r2:Value),(.bool a4:Value),c8]:List Value).drop 8).take (Tryz.prog.cellsOf 57))=some x5:=hf 5 _ rfl;rw [e_s] at h5;obtain ⟨a5,rfl⟩:=l5 (c:=c8) h5;exact ⟨⟨a0,a1,a2,a3,a4,a5⟩,rfl⟩
set_option maxRecDepth 100000 in
theorem CL {fuel:Nat} {cs:List Value} {x:DataW H × List MemPlace} (h:DataW.trod enc Tryz.prog w base spare held fuel 149 cs=some x): ∃ v:Rv,cs=fE v:=by
 obtain ⟨xs,n,_,_,hlen,hxl,hf⟩:=DataW.trod_struct Tryz.underlying149 h;have eS:Tryz.prog.cellsOf 149=11:=by kernel_rfl
 have e_C:Tryz.prog.cellsOf 98=3:=by kernel_rfl
 have e_R:Tryz.prog.cellsOf 31=4:=by kernel_rfl
 have e_c:Tryz.prog.cellsOf 5=1:=by kernel_rfl
 have e_i:Tryz.prog.cellsOf 3=1:=by kernel_rfl
 have e_s:Tryz.prog.cellsOf 57=1:=by kernel_rfl
 rw [eS] at hlen
 match cs,hlen,xs,hxl with
 | [c0,c1,c2,c3,c4,c5,c6,c7,c8,c9,c10],_,[x0,x1,x2,x3,x4,x5],_=>
  have h0:DataW.trod enc Tryz.prog w base spare held n 3 ((([c0,c1,c2,c3,c4,c5,c6,c7,c8,c9,c10]:List Value).drop 0).take (Tryz.prog.cellsOf 3))=some x0:=hf 0 _ rfl;rw [e_i] at h0;obtain ⟨a0,rfl,_⟩:=iT (c:=c0) h0;have h1:DataW.trod enc Tryz.prog w base spare held n 98 ((([(.int .i64 a0:Value),c1,c2,c3,c4,c5,c6,c7,c8,c9,c10]:List Value).drop 1).take (Tryz.prog.cellsOf 98))=some x1:=hf 1 _ rfl;rw [e_C] at h1;obtain ⟨a1,q⟩:=Lm (cs:= [c1,c2,c3]) h1;simp only [dr,List.cons.injEq,and_true] at q;obtain ⟨rfl,rfl,rfl⟩:=q;have h2:DataW.trod enc Tryz.prog w base spare held n 5 ((([(.int .i64 a0:Value),(.int .i64 a1.at_.col:Value),(.int .i64 a1.at_.row:Value),(.int .i64 a1.node:Value),c4,c5,c6,c7,c8,c9,c10]:List Value).drop 4).take (Tryz.prog.cellsOf 5))=some x2:=hf 2 _ rfl;rw [e_c] at h2;obtain ⟨a2,rfl⟩:=CK (c:=c4) h2;have h3:DataW.trod enc Tryz.prog w base spare held n 31 ((([(.int .i64 a0:Value),(.int .i64 a1.at_.col:Value),(.int .i64 a1.at_.row:Value),(.int .i64 a1.node:Value),(.int .u8 a2:Value),c5,c6,c7,c8,c9,c10]:List Value).drop 5).take (Tryz.prog.cellsOf 31))=some x3:=hf 3 _ rfl;rw [e_R] at h3;obtain ⟨a3,q,_⟩:=p7 (cs:= [c5,c6,c7,c8]) h3;simp only [ay,List.cons.injEq,and_true] at q;obtain ⟨rfl,rfl,rfl,rfl⟩:=q;have h4:DataW.trod enc Tryz.prog w base spare held n 3 ((([(.int .i64 a0:Value),(.int .i64 a1.at_.col:Value),(.int .i64 a1.at_.row:Value),(.int .i64 a1.node:Value),(.int .u8 a2:Value),(.int .i64 a3.c1:Value),(.int .i64 a3.r1:Value),(.int .i64 a3.c2:Value),(.int .i64 a3.r2:Value),c9,c10]:List Value).drop 9).take (Tryz.prog.cellsOf 3))=some x4:=hf 4 _ rfl;rw [e_i] at h4;obtain ⟨a4,rfl,_⟩:=iT (c:=c9) h4;have h5:DataW.trod enc Tryz.prog w base spare held n 57 ((([(.int .i64 a0:Value),(.int .i64 a1.at_.col:Value),(.int .i64 a1.at_.row:Value),(.int .i64 a1.node:Value),(.int .u8 a2:Value),(.int .i64 a3.c1:Value),(.int .i64 a3.r1:Value),(.int .i64 a3.c2:Value),(.int .i64 a3.r2:Value),(.int .i64 a4:Value),c10]:List Value).drop 10).take (Tryz.prog.cellsOf 57))=some x5:=hf 5 _ rfl;rw [e_s] at h5;obtain ⟨a5,rfl⟩:=l5 (c:=c10) h5;exact ⟨⟨a0,a1,a2,a3,a4,a5⟩,rfl⟩
instance iN13:Inhabited Rl:=⟨⟨⟨0,0,0,0⟩,0#64,0#64,0#64⟩⟩
instance iN14:Inhabited Gn:=⟨⟨⟨0,0,0,0⟩,0,0#64,0,false⟩⟩
instance iN15:Inhabited Ev:=⟨⟨0,0,0,⟨0,0,0,0⟩,false,0#64⟩⟩
instance iN16:Inhabited Rv:=⟨⟨0,⟨⟨0,0⟩,0⟩,0,⟨0,0,0,0⟩,0,0#64⟩⟩
theorem IU {fuel:Nat} {cs:List Value} {x:DataW H × List MemPlace} (h:DataW.trod enc Tryz.prog w 0 spare held fuel 22 cs=some x):
 ∃ (v:Value) (L:List Et),cs= [v]∧Reads w v L.length (L.flatMap bN)∧ ∀ a∈L,a.input.size∈x.1.weights Tryz.prog 22:=by
 have hm:Tryz.prog.cellsOf 79=3:=by kernel_rfl
 have ht:=Tryz.underlying22;rcases open_slice ht h with ⟨h0,_⟩|⟨a,len,cap,mm,n,D,Pl,h0,hb,hl,hmx,hmm,hxe,hx⟩
 ·exact ⟨_,[],h0,⟨none,0,rfl,Xy _,Xn _,fun h=>by cases h⟩,fun _ h=>by cases h⟩
 ·have hlm:len≤mm:=by rw [hmm];split<;>omega
  obtain ⟨F,hF⟩:=choose_lt (α:=Et) (n:=len) (p:=fun i nd=>w.cells? 0 (a.add (i*3)) 3=some (bN nd)∧nd.input.size∈(D i).weights Tryz.prog 79) (fun i hi=>by
   obtain ⟨cs',h1,h2⟩:=hx i (by omega);rw [hm] at h1;obtain ⟨nd,rfl,hw⟩:=EY h2;exact ⟨nd,h1,hw⟩)
  have hlen:((List.range len).map F).length=len:=by simp
  refine ⟨_,(List.range len).map F,h0,⟨some a,cap,by rw [hlen],by omega,hmx,fun hpos=> ?_⟩,fun n hn=> ?_⟩
  rotate_left
  ·obtain ⟨i,hi,rfl⟩:=Xu.1 hn;have h1:=(hF i (ZN.1 hi)).2;rw [hxe];simp only [DataW.weights,ht];exact Xp _ (Xw _ (u6 h1 (Xu.2 ⟨i,hi,rfl⟩)))
  rw [hlen] at hpos;obtain ⟨g,o,spot⟩:=a;have hspot:spot=none:=by
   obtain ⟨_,_,h3⟩:=World.cells?_some (hF 0 (by omega)).1;have h4' :=h3 0 (by decide);rw [Xf (by rw [dx];decide)] at h4';have h4:=World.cell?_spot h4';simpa [Addr.add] using h4
  subst hspot;have hcell: ∀ (i:Nat) (nd:Et),((List.range len).map F)[i]? =some nd→Cells w g (o+i*3) (bN nd):=by
   intro i nd hnd k v hv;have hil:i<len:=by have:=(XJ.1 hnd).1;omega
   have hnd' :F i=nd:=by simpa [hil] using hnd
   subst hnd';have hk:k<3:=by have:=(XJ.1 hv).1;rwa [dx] at this
   obtain ⟨_,_,h3⟩:=World.cells?_some (hF i hil).1;have:=h3 k hk;rw [hv,cH,cH] at this;exact this
  refine ⟨g,o,rfl,?_,zf dx w g o _ hcell⟩;obtain ⟨u,hu⟩: ∃ u,(bN (F 0))[0]? =some u:=⟨_,Xf (by rw [dx];decide)⟩;have h5:=hcell 0 (F 0) (by simp [hpos]) 0 u hu;simp only [World.cell?] at h5;split at h5
  ·rename_i h6;exact (XK.1 h6).1
  ·cases h5
theorem oK {v:Value} {m:Nat} {xs:List Value} (h:Reads w v m xs): ∃ A c,v= .slice A m c:=by
 obtain ⟨A,c,e,_⟩:=h;exact ⟨A,c,e⟩
set_option maxRecDepth 100000 in
theorem qh {v:Value} {d:DataW H} {p:List MemPlace} {base' :Nat} (hv:Value.okWide Tryz.prog w .any base' 28 v) (h:DataW.Trod enc Tryz.prog w 0 spare held 28 v d p): ∃ (b:Bk) (x:Bv),v= .agg (bg b x).toArray∧BRd w b x∧ ∀ e∈b.ents,e.input.size∈d.weights Tryz.prog 28:=by
 obtain ⟨fuel,hf⟩:=h;obtain ⟨cs,rfl,_⟩:=okWide_struct Tryz.underlying28 hv;have hcs:(Value.agg cs).cells.toList=cs.toList:=by simp [Value.cells]
 rw [hcs] at hf;obtain ⟨xs,n,_,hd,hlen,hxl,hg⟩:=DataW.trod_struct Tryz.underlying28 hf;have eS:Tryz.prog.cellsOf 28=7:=by kernel_rfl
 have e_i:Tryz.prog.cellsOf 3=1:=by kernel_rfl
 have e_e:Tryz.prog.cellsOf 22=1:=by kernel_rfl
 have e_r:Tryz.prog.cellsOf 23=1:=by kernel_rfl
 have e_g:Tryz.prog.cellsOf 24=1:=by kernel_rfl
 have e_l:Tryz.prog.cellsOf 25=1:=by kernel_rfl
 have e_s:Tryz.prog.cellsOf 26=1:=by kernel_rfl
 rw [eS] at hlen;obtain ⟨cl,rfl⟩: ∃ cl,cs=cl.toArray:=⟨cs.toList,by simp⟩;simp only [ZB] at hlen hg
 match cl,hlen,xs,hxl with
 | [c0,c1,c2,c3,c4,c5,c6],_,[x0,x1,x2,x3,x4,x5,x6],_=>
  have h0:DataW.trod enc Tryz.prog w 0 spare held n 3 ((([c0,c1,c2,c3,c4,c5,c6]:List Value).drop 0).take (Tryz.prog.cellsOf 3))=some x0:=hg 0 _ rfl;have h1:DataW.trod enc Tryz.prog w 0 spare held n 22 ((([c0,c1,c2,c3,c4,c5,c6]:List Value).drop 1).take (Tryz.prog.cellsOf 22))=some x1:=hg 1 _ rfl;have h2:DataW.trod enc Tryz.prog w 0 spare held n 23 ((([c0,c1,c2,c3,c4,c5,c6]:List Value).drop 2).take (Tryz.prog.cellsOf 23))=some x2:=hg 2 _ rfl;have h3:DataW.trod enc Tryz.prog w 0 spare held n 24 ((([c0,c1,c2,c3,c4,c5,c6]:List Value).drop 3).take (Tryz.prog.cellsOf 24))=some x3:=hg 3 _ rfl;have h4:DataW.trod enc Tryz.prog w 0 spare held n 25 ((([c0,c1,c2,c3,c4,c5,c6]:List Value).drop 4).take (Tryz.prog.cellsOf 25))=some x4:=hg 4 _ rfl;have h5:DataW.trod enc Tryz.prog w 0 spare held n 26 ((([c0,c1,c2,c3,c4,c5,c6]:List Value).drop 5).take (Tryz.prog.cellsOf 26))=some x5:=hg 5 _ rfl;have h6:DataW.trod enc Tryz.prog w 0 spare held n 3 ((([c0,c1,c2,c3,c4,c5,c6]:List Value).drop 6).take (Tryz.prog.cellsOf 3))=some x6:=hg 6 _ rfl;rw [e_i] at h0 h6;rw [e_e] at h1;rw [e_r] at h2;rw [e_g] at h3;rw [e_l] at h4;rw [e_s] at h5;obtain ⟨us,rfl,_⟩:=iT (c:=c0) h0;obtain ⟨st,rfl,_⟩:=iT (c:=c6) h6;obtain ⟨v1,L1,q1,r1,w1⟩:=IU (cs:= [c1]) h1;obtain ⟨v2,L2,q2,r2,_⟩:=mi (ok:=fun _:Rl=>True) Tryz.underlying23 (by kernel_rfl) (by decide) dw (fun _ _ _ h=>let ⟨a,e⟩:=Ll h;⟨a,e,trivial⟩) (cs:= [c2]) h2;obtain ⟨v3,L3,q3,r3,_⟩:=mi (ok:=fun _:Gn=>True) Tryz.underlying24 (by kernel_rfl) (by decide) jy (fun _ _ _ h=>let ⟨a,e⟩:=Ik h;⟨a,e,trivial⟩) (cs:= [c3]) h3;obtain ⟨v4,L4,q4,r4,_⟩:=mi (ok:=fun _:Ev=>True) Tryz.underlying25 (by kernel_rfl) (by decide) mP (fun _ _ _ h=>let ⟨a,e⟩:=Il h;⟨a,e,trivial⟩) (cs:= [c4]) h4;obtain ⟨v5,L5,q5,r5,_⟩:=mi (ok:=fun _:Rv=>True) Tryz.underlying26 (by kernel_rfl) (by decide) mM (fun _ _ _ h=>let ⟨a,e⟩:=CL h;⟨a,e,trivial⟩) (cs:= [c5]) h5;simp only [List.cons.injEq,and_true] at q1 q2 q3 q4 q5;subst q1;subst q2;subst q3;subst q4;subst q5;obtain ⟨A1,k1,rfl⟩:=oK r1;obtain ⟨A2,k2,rfl⟩:=oK r2;obtain ⟨A3,k3,rfl⟩:=oK r3;obtain ⟨A4,k4,rfl⟩:=oK r4;obtain ⟨A5,k5,rfl⟩:=oK r5;refine ⟨⟨us,L1,L2,L3,L4,L5,st⟩,⟨A1,A2,A3,A4,A5,k1,k2,k3,k4,k5⟩,rfl,⟨r1,r2,r3,r4,r5⟩,fun e he=> ?_⟩;have h7:=w1 e he;have hd1:d=DataW.agg [x0.1,x1.1,x2.1,x3.1,x4.1,x5.1,x6.1]:=congrArg Prod.fst hd;rw [hd1];simp only [DataW.weights,Tryz.underlying28,XD,XR,DataW.weightsEach];exact XB _ (Xw _ h7)
end
end Go.SL
