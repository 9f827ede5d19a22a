/-
  Lemmas and walks, put together: If Fo Fp Fq.
-/
import Derived.Test.YtoanpdoacdpgeaaGreatDoorKn28
import Derived.Test.YtoanpdoacdpgeaaGreatDoorKn34
import Derived.Test.YtoanpdoacdpgeaaGreatDoorKn35
set_option linter.unusedSimpArgs false
set_option linter.unusedVariables false
set_option maxRecDepth 20000
namespace Go.SL
open Go Go.Proofs
attribute [local irreducible] W WL WQ WG WA WX WLI WR WT WC WE VOp RW thn blk bE scp ba bo bL aP FnIn FnP ceP
structure Bk where
 users:Int
 ents:List Et
 rules:List Rl
 grants:List Gn
 log:List Ev
 rels:List Rv
 step:Int
structure Bv where
 ae:Option Addr
 ar:Option Addr
 ag:Option Addr
 al:Option Addr
 as_:Option Addr
 ce:Nat
 cr:Nat
 cg:Nat
 cl:Nat
 cs:Nat
def aU (b:Bk) (x:Bv):List Value:= [.int .i64 b.users,.slice x.ae b.ents.length x.ce,.slice x.ar b.rules.length x.cr,.slice x.ag b.grants.length x.cg,.slice x.al b.log.length x.cl,.slice x.as_ b.rels.length x.cs,.int .i64 b.step]
structure BRd (w:World) (b:Bk) (x:Bv):Prop where
 e:Reads w (.slice x.ae b.ents.length x.ce) b.ents.length (b.ents.flatMap aB)
 r:Reads w (.slice x.ar b.rules.length x.cr) b.rules.length (b.rules.flatMap aV)
 g:Reads w (.slice x.ag b.grants.length x.cg) b.grants.length (b.grants.flatMap aW)
 l:Reads w (.slice x.al b.log.length x.cl) b.log.length (b.log.flatMap aN)
 s:Reads w (.slice x.as_ b.rels.length x.cs) b.rels.length (b.rels.flatMap bD)
theorem BRd.of_w0 {w w' :World} {b:Bk} {x:Bv} {H:List Blk} (h:BRd w b x) (hm:Mem w w' H):BRd w' b x:=⟨h.e.of_w0 hm,h.r.of_w0 hm,h.g.of_w0 hm,h.l.of_w0 hm,h.s.of_w0 hm⟩
def m8 (s:Int) (L:List Ev):Bool:=if 0<L.length then decide (s≤((L[L.length - 1]?).map Ev.step).getD 0) else false
def m7 (s:Int) (L:List Rv):Bool:=if 0<L.length then decide (s≤((L[L.length - 1]?).map Rv.step).getD 0) else false
def bkE (b:Bk):Int:=
 if b.users<1∨64<b.users then 2
 else if (gG b.ents).2≠0 then (gG b.ents).2
 else if (iF b.users b.rules).2≠0 then (iF b.users b.rules).2
 else if (kB b.users b.grants).2≠0 then (kB b.users b.grants).2
 else if qd b.users b.log b.rels≠0 then qd b.users b.log b.rels
 else if b.step<0∨1099511627776<b.step then 2
 else if m8 b.step b.log=true then 2
 else if m7 b.step b.rels=true then 2 else 0
theorem Rv.ro1 {w:World} {g o:Nat} {r:Rv} (h:Ro w g o (bD r)):Ro w g o [.int .i64 r.step]:=h.take (k:=1)
set_option maxHeartbeats 16000000 in
theorem uA (b:Bk) (x:Bv) (w:World) (h:BRd w b x) (hW:Words w) (hlen:b.ents.length≤1000000):ay Tryz.prog 15 [.agg (aU b x).toArray] w (.int .i64 (bkE b)):=by
 have hent:=fun (w' :World) (H:List Blk) (hm:Mem w w' H)=>u6 b.ents _ w' (h.e.of_w0 hm) hlen (hW.next hm)
 have hacl:=fun (w' :World) (H:List Blk) (hm:Mem w w' H)=>mf b.users b.rules _ w' (h.r.of_w0 hm)
 have hgnt:=fun (w' :World) (H:List Blk) (hm:Mem w w' H)=>qG b.users b.grants _ w' (h.g.of_w0 hm)
 have haud:=fun (w' :World) (H:List Blk) (hm:Mem w w' H)=>AH b.users b.log b.rels _ _ w' (h.l.of_w0 hm) (h.s.of_w0 hm)
 refine aq Tryz.func15 rfl Tryz.ntmps15 rfl ?_
 unfold bkE
 obtain ⟨Al,cl,el,hl1,hl2,hl3⟩:=h.l
 obtain ⟨Am,cm,em,hm1,hm2,hm3⟩:=h.s
 have hl3' :0<b.log.length→ ∃ g o,x.al=some ⟨g,o,none⟩∧Ro w g o (b.log.flatMap aN):=by
  cases el
  exact hl3
 have hm3' :0<b.rels.length→ ∃ g o,x.as_=some ⟨g,o,none⟩∧Ro w g o (b.rels.flatMap bD):=by
  cases em
  exact hm3
 have hLm:b.log.length≤maxLen:=Nz hl1 hl2
 have hMm:b.rels.length≤maxLen:=Nz hm1 hm2
 clear hl1 hl2 hl3 hm1 hm2 hm3 el em
 generalize gG b.ents=ce at hent ⊢
 generalize iF b.users b.rules=ae at hacl ⊢
 generalize kB b.users b.grants=ge at hgnt ⊢
 generalize qd b.users b.log b.rels=ue at haud ⊢
 obtain ⟨us,E,RU,G,L,M,st⟩:=b
 obtain ⟨ae1,ar1,ag1,al1,as1,ce1,cr1,cg1,cl1,cs1⟩:=x
 dsimp only at*
 simp only [aU] at*
 have hL:(L.length=0∧m8 st L=false)∨(0<L.length∧ ∃ g o s,al1=some ⟨g,o,none⟩∧Ro w g (o+(L.length - 1)*9) [.int .i64 s]∧m8 st L=decide (st≤s)):=by
  rcases N9 L.length with h0|hp
  ·
   exact .inl ⟨h0,by unfold m8;rw [if_neg (by omega)]⟩
  ·
   obtain ⟨g,o,e,hr⟩:=hl3' hp
   have hlt:L.length - 1<L.length:=by omega
   exact .inr ⟨hp,g,o,L[L.length - 1].step,e,(Ev.ro (hr.elem fk (L.length - 1) hlt)).1,by unfold m8;rw [if_pos hp,Nc hlt];rfl⟩
 have hM:(M.length=0∧m7 st M=false)∨(0<M.length∧ ∃ g o s,as1=some ⟨g,o,none⟩∧Ro w g (o+(M.length - 1)*11) [.int .i64 s]∧m7 st M=decide (st≤s)):=by
  rcases N9 M.length with h0|hp
  ·
   exact .inl ⟨h0,by unfold m7;rw [if_neg (by omega)]⟩
  ·
   obtain ⟨g,o,e,hr⟩:=hm3' hp
   have hlt:M.length - 1<M.length:=by omega
   exact .inr ⟨hp,g,o,M[M.length - 1].step,e,Rv.ro1 (hr.elem fj (M.length - 1) hlt),by unfold m7;rw [if_pos hp,Nc hlt];rfl⟩
 generalize m8 st L=le at hL ⊢
 generalize m7 st M=lr at hM ⊢
 clear hl3' hm3'
 generalize L.length=nl at*
 generalize M.length=nm at*
 generalize E.length=nE at*
 generalize RU.length=nR at*
 generalize G.length=nG at*
 rcases hL with ⟨hL,rfl⟩|⟨hL,g1,o1,s1,rfl,hr1,rfl⟩<;>rcases hM with ⟨hM,rfl⟩|⟨hM,g2,o2,s2,rfl,hr2,rfl⟩
 all_goals
  repeat' (first|(apply aa (f:=59);exact rfl;exact rfl;(intro w' hm;exact hent w' _ hm))|(apply aa (f:=60);exact rfl;exact rfl;(intro w' hm;exact hacl w' _ hm))|(apply aa (f:=61);exact rfl;exact rfl;(intro w' hm;exact hgnt w' _ hm))|(apply aa (f:=62);exact rfl;exact rfl;(intro w' hm;exact haud w' _ hm))|(apply aS;exact rfl;apply dG;exact rfl;exact rfl;omega;(simp only [maxLen] at*;omega))|(apply aS;exact rfl;apply aj (j:=nl - 1);exact rfl;exact rfl;omega)|(apply aS;exact rfl;apply aj (j:=nm - 1);exact rfl;exact rfl;omega)|refine sT ?_|refine sS ?_|refine sQ ?_|refine sN ?_|refine sNQ ?_|refine sO ?_|refine sOQ ?_|refine sD ?_|refine sM fun _=> ?_|(refine sC ?_ ?_<;>intro hb<;>try omega)|(refine sCQ ?_ ?_<;>intro hb<;>try omega)|fail)
 all_goals first
  |(exfalso;omega)
  |((refine rT1 ?_);simp_all;done)
  |((refine rT1 ?_);simp_all;omega)
  |trace_state
end Go.SL
namespace Go.SL
open Go Go.Proofs Go.ChangeShapes Go.WideShapes Go.ChangeAt Go.RowKit Go.Deep
section
variable {H:Type} {enc:TypeId × Value→H} {w:World} {base:Nat} {spare:Nat→Bool} {held:Bool}
theorem qh {P:Program} {e:TypeId} {d:DataW H} {n:Nat} (hn:n∈d.weights P e): ∀ {ds:List (DataW H)},d∈ds→n∈DataW.weightsAll P e ds
 | [],h=>by cases h
 |x::r,h=>by
  rw [DataW.weightsAll]
  rcases NA.1 h with rfl|h
  ·
   exact Ps _ hn
  ·
   exact PK _ (qh hn h)
theorem jl {n:Nat} {c:Value} {x:DataW H × List MemPlace} (h:DataW.trod enc Tryz.prog w base spare held n 33 [c]=some x): ∃ a:BitVec 64,c=vS a:=by
 obtain ⟨a0,q0,_,w0⟩:=DataW.trod_int Tryz.underlying33 h
 simp only [List.cons.injEq,and_true] at q0
 have w1:0≤a0∧a0≤18446744073709551615:=by
  simp [Lit.wf] at w0
  exact w0
 refine ⟨BitVec.ofNat 64 a0.toNat,?_⟩
 subst q0
 unfold vS
 rw [BitVec.toNat_ofNat]
 congr 1
 omega
theorem oz {n:Nat} {c:Value} {x:DataW H × List MemPlace} (h:DataW.trod enc Tryz.prog w base spare held n 5 [c]=some x): ∃ a:Int,c= .int .u8 a:=by
 obtain ⟨a0,q0,_,w0⟩:=DataW.trod_int Tryz.underlying5 h
 simp only [List.cons.injEq,and_true] at q0
 exact ⟨a0,q0⟩
theorem GF {n:Nat} {c:Value} {x:DataW H × List MemPlace} (h:DataW.trod enc Tryz.prog w base spare held n 4 [c]=some x): ∃ a:Bool,c= .bool a:=by
 obtain ⟨a0,q0,_⟩:=DataW.trod_bool Tryz.underlying4 h
 simp only [List.cons.injEq,and_true] at q0
 exact ⟨a0,q0⟩
set_option maxRecDepth 100000 in
theorem yJ {fuel:Nat} {cs:List Value} {x:DataW H × List MemPlace} (h:DataW.trod enc Tryz.prog w base spare held fuel 52 cs=some x): ∃ v:Et,cs=aB v∧v.input.size∈x.1.weights Tryz.prog 52:=by
 obtain ⟨xs,n,_,rfl,hlen,hxl,hf⟩:=DataW.trod_struct Tryz.underlying52 h
 have eS:Tryz.prog.cellsOf 52=3:=by kernel_rfl
 have eI:Tryz.prog.cellsOf 50=2:=by kernel_rfl
 have eT:Tryz.prog.cellsOf 9=1:=by kernel_rfl
 rw [eS] at hlen
 match cs,hlen,xs,hxl with
 | [c0,c1,c2],_,[x0,x1],_=>
  have h0:DataW.trod enc Tryz.prog w base spare held n 50 ((([c0,c1,c2]:List Value).drop 0).take (Tryz.prog.cellsOf 50))=some x0:=hf 0 _ rfl
  rw [eI] at h0
  obtain ⟨a,q,wa⟩:=yI (cs:= [c0,c1]) h0
  simp only [cw,List.cons.injEq,and_true] at q
  obtain ⟨rfl,rfl⟩:=q
  have h2:DataW.trod enc Tryz.prog w base spare held n 9 ((([Value.int .i64 a.col,.int .i64 a.row,c2]:List Value).drop 2).take (Tryz.prog.cellsOf 9))=some x1:=hf 1 _ rfl
  rw [eT] at h2
  obtain ⟨a2,q2,q3,_⟩:=DataW.trod_string Tryz.underlying9 h2
  simp only [PA,OC,Oe,OA,List.cons.injEq,and_true] at q2
  subst q2
  subst q3
  refine ⟨⟨a,a2⟩,rfl,?_⟩
  simp [DataW.weights,Tryz.underlying52,DataW.weightsEach]
def Iz (x:BitVec 64 × BitVec 64 × BitVec 64):List Value:= [vS x.1,vS x.2.1,vS x.2.2]
set_option maxRecDepth 100000 in
theorem qm {fuel:Nat} {cs:List Value} {x:DataW H × List MemPlace} (h:DataW.trod enc Tryz.prog w base spare held fuel 35 cs=some x): ∃ v:BitVec 64 × BitVec 64 × BitVec 64,cs=Iz v:=by
 obtain ⟨xs,n,_,_,hlen,hxl,hf⟩:=DataW.trod_struct Tryz.underlying35 h
 have eS:Tryz.prog.cellsOf 35=3:=by kernel_rfl
 have e_s:Tryz.prog.cellsOf 33=1:=by kernel_rfl
 rw [eS] at hlen
 match cs,hlen,xs,hxl with
 | [c0,c1,c2],_,[x0,x1,x2],_=>
  have h0:DataW.trod enc Tryz.prog w base spare held n 33 ((([c0,c1,c2]:List Value).drop 0).take (Tryz.prog.cellsOf 33))=some x0:=hf 0 _ rfl
  rw [e_s] at h0
  obtain ⟨a0,rfl⟩:=jl (c:=c0) h0
  have h1:DataW.trod enc Tryz.prog w base spare held n 33 ((([(vS a0:Value),c1,c2]:List Value).drop 1).take (Tryz.prog.cellsOf 33))=some x1:=hf 1 _ rfl
  rw [e_s] at h1
  obtain ⟨a1,rfl⟩:=jl (c:=c1) h1
  have h2:DataW.trod enc Tryz.prog w base spare held n 33 ((([(vS a0:Value),(vS a1:Value),c2]:List Value).drop 2).take (Tryz.prog.cellsOf 33))=some x2:=hf 2 _ rfl
  rw [e_s] at h2
  obtain ⟨a2,rfl⟩:=jl (c:=c2) h2
  exact ⟨⟨a0,a1,a2⟩,rfl⟩
set_option maxRecDepth 100000 in
theorem ED {fuel:Nat} {cs:List Value} {x:DataW H × List MemPlace} (h:DataW.trod enc Tryz.prog w base spare held fuel 60 cs=some x): ∃ v:Cl,cs=Ai v:=by
 obtain ⟨xs,n,_,_,hlen,hxl,hf⟩:=DataW.trod_struct Tryz.underlying60 h
 have eS:Tryz.prog.cellsOf 60=3:=by kernel_rfl
 have e_F:Tryz.prog.cellsOf 50=2:=by kernel_rfl
 have e_i:Tryz.prog.cellsOf 3=1:=by kernel_rfl
 rw [eS] at hlen
 match cs,hlen,xs,hxl with
 | [c0,c1,c2],_,[x0,x1],_=>
  have h0:DataW.trod enc Tryz.prog w base spare held n 50 ((([c0,c1,c2]:List Value).drop 0).take (Tryz.prog.cellsOf 50))=some x0:=hf 0 _ rfl
  rw [e_F] at h0
  obtain ⟨a0,q,_⟩:=yI (cs:= [c0,c1]) h0
  simp only [cw,List.cons.injEq,and_true] at q
  obtain ⟨rfl,rfl⟩:=q
  have h1:DataW.trod enc Tryz.prog w base spare held n 3 ((([(.int .i64 a0.col:Value),(.int .i64 a0.row:Value),c2]:List Value).drop 2).take (Tryz.prog.cellsOf 3))=some x1:=hf 1 _ rfl
  rw [e_i] at h1
  obtain ⟨a1,rfl,_⟩:=fw (c:=c2) h1
  exact ⟨⟨a0,a1⟩,rfl⟩
set_option maxRecDepth 100000 in
theorem EC {fuel:Nat} {cs:List Value} {x:DataW H × List MemPlace} (h:DataW.trod enc Tryz.prog w base spare held fuel 54 cs=some x): ∃ v:Rl,cs=aV v:=by
 obtain ⟨xs,n,_,_,hlen,hxl,hf⟩:=DataW.trod_struct Tryz.underlying54 h
 have eS:Tryz.prog.cellsOf 54=7:=by kernel_rfl
 have e_R:Tryz.prog.cellsOf 32=4:=by kernel_rfl
 have e_T:Tryz.prog.cellsOf 35=3:=by kernel_rfl
 rw [eS] at hlen
 match cs,hlen,xs,hxl with
 | [c0,c1,c2,c3,c4,c5,c6],_,[x0,x1],_=>
  have h0:DataW.trod enc Tryz.prog w base spare held n 32 ((([c0,c1,c2,c3,c4,c5,c6]:List Value).drop 0).take (Tryz.prog.cellsOf 32))=some x0:=hf 0 _ rfl
  rw [e_R] at h0
  obtain ⟨a0,q,_⟩:=j8 (cs:= [c0,c1,c2,c3]) h0
  simp only [bH,List.cons.injEq,and_true] at q
  obtain ⟨rfl,rfl,rfl,rfl⟩:=q
  have h1:DataW.trod enc Tryz.prog w base spare held n 35 ((([(.int .i64 a0.c1:Value),(.int .i64 a0.r1:Value),(.int .i64 a0.c2:Value),(.int .i64 a0.r2:Value),c4,c5,c6]:List Value).drop 4).take (Tryz.prog.cellsOf 35))=some x1:=hf 1 _ rfl
  rw [e_T] at h1
  obtain ⟨a1,q⟩:=qm (cs:= [c4,c5,c6]) h1
  simp only [Iz,List.cons.injEq,and_true] at q
  obtain ⟨rfl,rfl,rfl⟩:=q
  exact ⟨⟨a0,a1.1,a1.2.1,a1.2.2⟩,rfl⟩
set_option maxRecDepth 100000 in
theorem BC {fuel:Nat} {cs:List Value} {x:DataW H × List MemPlace} (h:DataW.trod enc Tryz.prog w base spare held fuel 56 cs=some x): ∃ v:Gn,cs=aW v:=by
 obtain ⟨xs,n,_,_,hlen,hxl,hf⟩:=DataW.trod_struct Tryz.underlying56 h
 have eS:Tryz.prog.cellsOf 56=8:=by kernel_rfl
 have e_R:Tryz.prog.cellsOf 32=4:=by kernel_rfl
 have e_b:Tryz.prog.cellsOf 4=1:=by kernel_rfl
 have e_c:Tryz.prog.cellsOf 5=1:=by kernel_rfl
 have e_i:Tryz.prog.cellsOf 3=1:=by kernel_rfl
 have e_s:Tryz.prog.cellsOf 33=1:=by kernel_rfl
 rw [eS] at hlen
 match cs,hlen,xs,hxl with
 | [c0,c1,c2,c3,c4,c5,c6,c7],_,[x0,x1,x2,x3,x4],_=>
  have h0:DataW.trod enc Tryz.prog w base spare held n 32 ((([c0,c1,c2,c3,c4,c5,c6,c7]:List Value).drop 0).take (Tryz.prog.cellsOf 32))=some x0:=hf 0 _ rfl
  rw [e_R] at h0
  obtain ⟨a0,q,_⟩:=j8 (cs:= [c0,c1,c2,c3]) h0
  simp only [bH,List.cons.injEq,and_true] at q
  obtain ⟨rfl,rfl,rfl,rfl⟩:=q
  have h1:DataW.trod enc Tryz.prog w base spare held n 5 ((([(.int .i64 a0.c1:Value),(.int .i64 a0.r1:Value),(.int .i64 a0.c2:Value),(.int .i64 a0.r2:Value),c4,c5,c6,c7]:List Value).drop 4).take (Tryz.prog.cellsOf 5))=some x1:=hf 1 _ rfl
  rw [e_c] at h1
  obtain ⟨a1,rfl⟩:=oz (c:=c4) h1
  have h2:DataW.trod enc Tryz.prog w base spare held n 33 ((([(.int .i64 a0.c1:Value),(.int .i64 a0.r1:Value),(.int .i64 a0.c2:Value),(.int .i64 a0.r2:Value),(.int .u8 a1:Value),c5,c6,c7]:List Value).drop 5).take (Tryz.prog.cellsOf 33))=some x2:=hf 2 _ rfl
  rw [e_s] at h2
  obtain ⟨a2,rfl⟩:=jl (c:=c5) h2
  have h3:DataW.trod enc Tryz.prog w base spare held n 3 ((([(.int .i64 a0.c1:Value),(.int .i64 a0.r1:Value),(.int .i64 a0.c2:Value),(.int .i64 a0.r2:Value),(.int .u8 a1:Value),(vS a2:Value),c6,c7]:List Value).drop 6).take (Tryz.prog.cellsOf 3))=some x3:=hf 3 _ rfl
  rw [e_i] at h3
  obtain ⟨a3,rfl,_⟩:=fw (c:=c6) h3
  have h4:DataW.trod enc Tryz.prog w base spare held n 4 ((([(.int .i64 a0.c1:Value),(.int .i64 a0.r1:Value),(.int .i64 a0.c2:Value),(.int .i64 a0.r2:Value),(.int .u8 a1:Value),(vS a2:Value),(.int .i64 a3:Value),c7]:List Value).drop 7).take (Tryz.prog.cellsOf 4))=some x4:=hf 4 _ rfl
  rw [e_b] at h4
  obtain ⟨a4,rfl⟩:=GF (c:=c7) h4
  exact ⟨⟨a0,a1,a2,a3,a4⟩,rfl⟩
set_option maxRecDepth 100000 in
theorem BD {fuel:Nat} {cs:List Value} {x:DataW H × List MemPlace} (h:DataW.trod enc Tryz.prog w base spare held fuel 58 cs=some x): ∃ v:Ev,cs=aN v:=by
 obtain ⟨xs,n,_,_,hlen,hxl,hf⟩:=DataW.trod_struct Tryz.underlying58 h
 have eS:Tryz.prog.cellsOf 58=9:=by kernel_rfl
 have e_R:Tryz.prog.cellsOf 32=4:=by kernel_rfl
 have e_b:Tryz.prog.cellsOf 4=1:=by kernel_rfl
 have e_c:Tryz.prog.cellsOf 5=1:=by kernel_rfl
 have e_i:Tryz.prog.cellsOf 3=1:=by kernel_rfl
 have e_s:Tryz.prog.cellsOf 33=1:=by kernel_rfl
 rw [eS] at hlen
 match cs,hlen,xs,hxl with
 | [c0,c1,c2,c3,c4,c5,c6,c7,c8],_,[x0,x1,x2,x3,x4,x5],_=>
  have h0:DataW.trod enc Tryz.prog w base spare held n 3 ((([c0,c1,c2,c3,c4,c5,c6,c7,c8]:List Value).drop 0).take (Tryz.prog.cellsOf 3))=some x0:=hf 0 _ rfl
  rw [e_i] at h0
  obtain ⟨a0,rfl,_⟩:=fw (c:=c0) h0
  have h1:DataW.trod enc Tryz.prog w base spare held n 3 ((([(.int .i64 a0:Value),c1,c2,c3,c4,c5,c6,c7,c8]:List Value).drop 1).take (Tryz.prog.cellsOf 3))=some x1:=hf 1 _ rfl
  rw [e_i] at h1
  obtain ⟨a1,rfl,_⟩:=fw (c:=c1) h1
  have h2:DataW.trod enc Tryz.prog w base spare held n 5 ((([(.int .i64 a0:Value),(.int .i64 a1:Value),c2,c3,c4,c5,c6,c7,c8]:List Value).drop 2).take (Tryz.prog.cellsOf 5))=some x2:=hf 2 _ rfl
  rw [e_c] at h2
  obtain ⟨a2,rfl⟩:=oz (c:=c2) h2
  have h3:DataW.trod enc Tryz.prog w base spare held n 32 ((([(.int .i64 a0:Value),(.int .i64 a1:Value),(.int .u8 a2:Value),c3,c4,c5,c6,c7,c8]:List Value).drop 3).take (Tryz.prog.cellsOf 32))=some x3:=hf 3 _ rfl
  rw [e_R] at h3
  obtain ⟨a3,q,_⟩:=j8 (cs:= [c3,c4,c5,c6]) h3
  simp only [bH,List.cons.injEq,and_true] at q
  obtain ⟨rfl,rfl,rfl,rfl⟩:=q
  have h4:DataW.trod enc Tryz.prog w base spare held n 4 ((([(.int .i64 a0:Value),(.int .i64 a1:Value),(.int .u8 a2:Value),(.int .i64 a3.c1:Value),(.int .i64 a3.r1:Value),(.int .i64 a3.c2:Value),(.int .i64 a3.r2:Value),c7,c8]:List Value).drop 7).take (Tryz.prog.cellsOf 4))=some x4:=hf 4 _ rfl
  rw [e_b] at h4
  obtain ⟨a4,rfl⟩:=GF (c:=c7) h4
  have h5:DataW.trod enc Tryz.prog w base spare held n 33 ((([(.int .i64 a0:Value),(.int .i64 a1:Value),(.int .u8 a2:Value),(.int .i64 a3.c1:Value),(.int .i64 a3.r1:Value),(.int .i64 a3.c2:Value),(.int .i64 a3.r2:Value),(.bool a4:Value),c8]:List Value).drop 8).take (Tryz.prog.cellsOf 33))=some x5:=hf 5 _ rfl
  rw [e_s] at h5
  obtain ⟨a5,rfl⟩:=jl (c:=c8) h5
  exact ⟨⟨a0,a1,a2,a3,a4,a5⟩,rfl⟩
set_option maxRecDepth 100000 in
theorem wW {fuel:Nat} {cs:List Value} {x:DataW H × List MemPlace} (h:DataW.trod enc Tryz.prog w base spare held fuel 62 cs=some x): ∃ v:Rv,cs=bD v:=by
 obtain ⟨xs,n,_,_,hlen,hxl,hf⟩:=DataW.trod_struct Tryz.underlying62 h
 have eS:Tryz.prog.cellsOf 62=11:=by kernel_rfl
 have e_C:Tryz.prog.cellsOf 60=3:=by kernel_rfl
 have e_R:Tryz.prog.cellsOf 32=4:=by kernel_rfl
 have e_c:Tryz.prog.cellsOf 5=1:=by kernel_rfl
 have e_i:Tryz.prog.cellsOf 3=1:=by kernel_rfl
 have e_s:Tryz.prog.cellsOf 33=1:=by kernel_rfl
 rw [eS] at hlen
 match cs,hlen,xs,hxl with
 | [c0,c1,c2,c3,c4,c5,c6,c7,c8,c9,c10],_,[x0,x1,x2,x3,x4,x5],_=>
  have h0:DataW.trod enc Tryz.prog w base spare held n 3 ((([c0,c1,c2,c3,c4,c5,c6,c7,c8,c9,c10]:List Value).drop 0).take (Tryz.prog.cellsOf 3))=some x0:=hf 0 _ rfl
  rw [e_i] at h0
  obtain ⟨a0,rfl,_⟩:=fw (c:=c0) h0
  have h1:DataW.trod enc Tryz.prog w base spare held n 60 ((([(.int .i64 a0:Value),c1,c2,c3,c4,c5,c6,c7,c8,c9,c10]:List Value).drop 1).take (Tryz.prog.cellsOf 60))=some x1:=hf 1 _ rfl
  rw [e_C] at h1
  obtain ⟨a1,q⟩:=ED (cs:= [c1,c2,c3]) h1
  simp only [Ai,List.cons.injEq,and_true] at q
  obtain ⟨rfl,rfl,rfl⟩:=q
  have h2:DataW.trod enc Tryz.prog w base spare held n 5 ((([(.int .i64 a0:Value),(.int .i64 a1.at_.col:Value),(.int .i64 a1.at_.row:Value),(.int .i64 a1.node:Value),c4,c5,c6,c7,c8,c9,c10]:List Value).drop 4).take (Tryz.prog.cellsOf 5))=some x2:=hf 2 _ rfl
  rw [e_c] at h2
  obtain ⟨a2,rfl⟩:=oz (c:=c4) h2
  have h3:DataW.trod enc Tryz.prog w base spare held n 32 ((([(.int .i64 a0:Value),(.int .i64 a1.at_.col:Value),(.int .i64 a1.at_.row:Value),(.int .i64 a1.node:Value),(.int .u8 a2:Value),c5,c6,c7,c8,c9,c10]:List Value).drop 5).take (Tryz.prog.cellsOf 32))=some x3:=hf 3 _ rfl
  rw [e_R] at h3
  obtain ⟨a3,q,_⟩:=j8 (cs:= [c5,c6,c7,c8]) h3
  simp only [bH,List.cons.injEq,and_true] at q
  obtain ⟨rfl,rfl,rfl,rfl⟩:=q
  have h4:DataW.trod enc Tryz.prog w base spare held n 3 ((([(.int .i64 a0:Value),(.int .i64 a1.at_.col:Value),(.int .i64 a1.at_.row:Value),(.int .i64 a1.node:Value),(.int .u8 a2:Value),(.int .i64 a3.c1:Value),(.int .i64 a3.r1:Value),(.int .i64 a3.c2:Value),(.int .i64 a3.r2:Value),c9,c10]:List Value).drop 9).take (Tryz.prog.cellsOf 3))=some x4:=hf 4 _ rfl
  rw [e_i] at h4
  obtain ⟨a4,rfl,_⟩:=fw (c:=c9) h4
  have h5:DataW.trod enc Tryz.prog w base spare held n 33 ((([(.int .i64 a0:Value),(.int .i64 a1.at_.col:Value),(.int .i64 a1.at_.row:Value),(.int .i64 a1.node:Value),(.int .u8 a2:Value),(.int .i64 a3.c1:Value),(.int .i64 a3.r1:Value),(.int .i64 a3.c2:Value),(.int .i64 a3.r2:Value),(.int .i64 a4:Value),c10]:List Value).drop 10).take (Tryz.prog.cellsOf 33))=some x5:=hf 5 _ rfl
  rw [e_s] at h5
  obtain ⟨a5,rfl⟩:=jl (c:=c10) h5
  exact ⟨⟨a0,a1,a2,a3,a4,a5⟩,rfl⟩
instance:Inhabited Rl:=⟨⟨⟨0,0,0,0⟩,0#64,0#64,0#64⟩⟩
instance:Inhabited Gn:=⟨⟨⟨0,0,0,0⟩,0,0#64,0,false⟩⟩
instance:Inhabited Ev:=⟨⟨0,0,0,⟨0,0,0,0⟩,false,0#64⟩⟩
instance:Inhabited Rv:=⟨⟨0,⟨⟨0,0⟩,0⟩,0,⟨0,0,0,0⟩,0,0#64⟩⟩
theorem Cp {fuel:Nat} {cs:List Value} {x:DataW H × List MemPlace} (h:DataW.trod enc Tryz.prog w 0 spare held fuel 22 cs=some x):
  ∃ (v:Value) (L:List Et),cs= [v]∧Reads w v L.length (L.flatMap aB)∧ ∀ a∈L,a.input.size∈x.1.weights Tryz.prog 22:=by
 have hm:Tryz.prog.cellsOf 52=3:=by kernel_rfl
 have ht:=Tryz.underlying22
 rcases open_slice ht h with ⟨h0,_⟩|⟨a,len,cap,mm,n,D,Pl,h0,hb,hl,hmx,hmm,hxe,hx⟩
 ·
  exact ⟨_,[],h0,⟨none,0,rfl,Ni _,Ns _,fun h=>by cases h⟩,fun _ h=>by cases h⟩
 ·
  have hlm:len≤mm:=by rw [hmm];split<;>omega
  obtain ⟨F,hF⟩:=choose_lt (α:=Et) (n:=len) (p:=fun i nd=>w.cells? 0 (a.add (i*3)) 3=some (aB nd)∧nd.input.size∈(D i).weights Tryz.prog 52) (fun i hi=>by
   obtain ⟨cs',h1,h2⟩:=hx i (by omega)
   rw [hm] at h1
   obtain ⟨nd,rfl,hw⟩:=yJ h2
   exact ⟨nd,h1,hw⟩)
  have hlen:((List.range len).map F).length=len:=by simp
  refine ⟨_,(List.range len).map F,h0,⟨some a,cap,by rw [hlen],by omega,hmx,fun hpos=> ?_⟩,fun n hn=> ?_⟩
  rotate_left
  ·
   obtain ⟨i,hi,rfl⟩:=OQ.1 hn
   have h1:=(hF i (List.mem_range.1 hi)).2
   rw [hxe]
   simp only [DataW.weights,ht]
   exact Nv _ (Ps _ (qh h1 (OQ.2 ⟨i,hi,rfl⟩)))
  rw [hlen] at hpos
  obtain ⟨g,o,spot⟩:=a
  have hspot:spot=none:=by
   obtain ⟨_,_,h3⟩:=World.cells?_some (hF 0 (by omega)).1
   have h4' :=h3 0 (by decide)
   rw [Nc (by rw [bg];decide)] at h4'
   have h4:=World.cell?_spot h4'
   simpa [Addr.add] using h4
  subst hspot
  have hcell: ∀ (i:Nat) (nd:Et),((List.range len).map F)[i]? =some nd→Cells w g (o+i*3) (aB nd):=by
   intro i nd hnd k v hv
   have hil:i<len:=by have:=(Nw.1 hnd).1;omega
   have hnd' :F i=nd:=by simpa [hil] using hnd
   subst hnd'
   have hk:k<3:=by have:=(Nw.1 hv).1;rwa [bg] at this
   obtain ⟨_,_,h3⟩:=World.cells?_some (hF i hil).1
   have:=h3 k hk
   rw [hv,cE,cE] at this
   exact this
  refine ⟨g,o,rfl,?_,uo bg w g o _ hcell⟩
  obtain ⟨u,hu⟩: ∃ u,(aB (F 0))[0]? =some u:=⟨_,Nc (by rw [bg];decide)⟩
  have h5:=hcell 0 (F 0) (by simp [hpos]) 0 u hu
  simp only [World.cell?] at h5
  split at h5
  ·
   rename_i h6
   exact (NH.1 h6).1
  ·
   cases h5
theorem lG {v:Value} {m:Nat} {xs:List Value} (h:Reads w v m xs): ∃ A c,v= .slice A m c:=by
 obtain ⟨A,c,e,_⟩:=h
 exact ⟨A,c,e⟩
set_option maxRecDepth 100000 in
theorem E4 {v:Value} {d:DataW H} {p:List MemPlace} {base' :Nat} (hv:Value.okWide Tryz.prog w .any base' 28 v) (h:DataW.Trod enc Tryz.prog w 0 spare held 28 v d p): ∃ (b:Bk) (x:Bv),v= .agg (aU b x).toArray∧BRd w b x∧ ∀ e∈b.ents,e.input.size∈d.weights Tryz.prog 28:=by
 obtain ⟨fuel,hf⟩:=h
 obtain ⟨cs,rfl,_⟩:=okWide_struct Tryz.underlying28 hv
 have hcs:(Value.agg cs).cells.toList=cs.toList:=by simp [Value.cells]
 rw [hcs] at hf
 obtain ⟨xs,n,_,hd,hlen,hxl,hg⟩:=DataW.trod_struct Tryz.underlying28 hf
 have eS:Tryz.prog.cellsOf 28=7:=by kernel_rfl
 have e_i:Tryz.prog.cellsOf 3=1:=by kernel_rfl
 have e_e:Tryz.prog.cellsOf 22=1:=by kernel_rfl
 have e_r:Tryz.prog.cellsOf 23=1:=by kernel_rfl
 have e_g:Tryz.prog.cellsOf 24=1:=by kernel_rfl
 have e_l:Tryz.prog.cellsOf 25=1:=by kernel_rfl
 have e_s:Tryz.prog.cellsOf 26=1:=by kernel_rfl
 rw [eS] at hlen
 obtain ⟨cl,rfl⟩: ∃ cl,cs=cl.toArray:=⟨cs.toList,by simp⟩
 simp only [Py] at hlen hg
 match cl,hlen,xs,hxl with
 | [c0,c1,c2,c3,c4,c5,c6],_,[x0,x1,x2,x3,x4,x5,x6],_=>
  have h0:DataW.trod enc Tryz.prog w 0 spare held n 3 ((([c0,c1,c2,c3,c4,c5,c6]:List Value).drop 0).take (Tryz.prog.cellsOf 3))=some x0:=hg 0 _ rfl
  have h1:DataW.trod enc Tryz.prog w 0 spare held n 22 ((([c0,c1,c2,c3,c4,c5,c6]:List Value).drop 1).take (Tryz.prog.cellsOf 22))=some x1:=hg 1 _ rfl
  have h2:DataW.trod enc Tryz.prog w 0 spare held n 23 ((([c0,c1,c2,c3,c4,c5,c6]:List Value).drop 2).take (Tryz.prog.cellsOf 23))=some x2:=hg 2 _ rfl
  have h3:DataW.trod enc Tryz.prog w 0 spare held n 24 ((([c0,c1,c2,c3,c4,c5,c6]:List Value).drop 3).take (Tryz.prog.cellsOf 24))=some x3:=hg 3 _ rfl
  have h4:DataW.trod enc Tryz.prog w 0 spare held n 25 ((([c0,c1,c2,c3,c4,c5,c6]:List Value).drop 4).take (Tryz.prog.cellsOf 25))=some x4:=hg 4 _ rfl
  have h5:DataW.trod enc Tryz.prog w 0 spare held n 26 ((([c0,c1,c2,c3,c4,c5,c6]:List Value).drop 5).take (Tryz.prog.cellsOf 26))=some x5:=hg 5 _ rfl
  have h6:DataW.trod enc Tryz.prog w 0 spare held n 3 ((([c0,c1,c2,c3,c4,c5,c6]:List Value).drop 6).take (Tryz.prog.cellsOf 3))=some x6:=hg 6 _ rfl
  rw [e_i] at h0 h6
  rw [e_e] at h1
  rw [e_r] at h2
  rw [e_g] at h3
  rw [e_l] at h4
  rw [e_s] at h5
  obtain ⟨us,rfl,_⟩:=fw (c:=c0) h0
  obtain ⟨st,rfl,_⟩:=fw (c:=c6) h6
  obtain ⟨v1,L1,q1,r1,w1⟩:=Cp (cs:= [c1]) h1
  obtain ⟨v2,L2,q2,r2,_⟩:=ku (ok:=fun _:Rl=>True) Tryz.underlying23 (by kernel_rfl) (by decide) cI (fun _ _ _ h=>let ⟨a,e⟩:=EC h;⟨a,e,trivial⟩) (cs:= [c2]) h2
  obtain ⟨v3,L3,q3,r3,_⟩:=ku (ok:=fun _:Gn=>True) Tryz.underlying24 (by kernel_rfl) (by decide) bW (fun _ _ _ h=>let ⟨a,e⟩:=BC h;⟨a,e,trivial⟩) (cs:= [c3]) h3
  obtain ⟨v4,L4,q4,r4,_⟩:=ku (ok:=fun _:Ev=>True) Tryz.underlying25 (by kernel_rfl) (by decide) fk (fun _ _ _ h=>let ⟨a,e⟩:=BD h;⟨a,e,trivial⟩) (cs:= [c4]) h4
  obtain ⟨v5,L5,q5,r5,_⟩:=ku (ok:=fun _:Rv=>True) Tryz.underlying26 (by kernel_rfl) (by decide) fj (fun _ _ _ h=>let ⟨a,e⟩:=wW h;⟨a,e,trivial⟩) (cs:= [c5]) h5
  simp only [List.cons.injEq,and_true] at q1 q2 q3 q4 q5
  subst q1;subst q2;subst q3;subst q4;subst q5
  obtain ⟨A1,k1,rfl⟩:=lG r1
  obtain ⟨A2,k2,rfl⟩:=lG r2
  obtain ⟨A3,k3,rfl⟩:=lG r3
  obtain ⟨A4,k4,rfl⟩:=lG r4
  obtain ⟨A5,k5,rfl⟩:=lG r5
  refine ⟨⟨us,L1,L2,L3,L4,L5,st⟩,⟨A1,A2,A3,A4,A5,k1,k2,k3,k4,k5⟩,rfl,⟨r1,r2,r3,r4,r5⟩,fun e he=> ?_⟩
  have h7:=w1 e he
  have hd1:d=DataW.agg [x0.1,x1.1,x2.1,x3.1,x4.1,x5.1,x6.1]:=congrArg Prod.fst hd
  rw [hd1]
  simp only [DataW.weights,Tryz.underlying28,NM,OD,DataW.weightsEach]
  exact PK _ (Ps _ h7)
end
section
variable {H:Type} {enc:TypeId × Value→H} {w:World} {base:Nat} {spare:Nat→Bool} {held:Bool}
set_option maxRecDepth 100000 in
theorem JT {fuel:Nat} {cs:List Value} {x:DataW H × List MemPlace} (h:DataW.trod enc Tryz.prog w base spare held fuel 37 cs=some x): ∃ v:Ox,cs=bi v:=by
 obtain ⟨xs,n,_,_,hlen,hxl,hf⟩:=DataW.trod_struct Tryz.underlying37 h
 have eS:Tryz.prog.cellsOf 37=13:=by kernel_rfl
 have e_R:Tryz.prog.cellsOf 32=4:=by kernel_rfl
 have e_T:Tryz.prog.cellsOf 35=3:=by kernel_rfl
 have e_c:Tryz.prog.cellsOf 5=1:=by kernel_rfl
 have e_i:Tryz.prog.cellsOf 3=1:=by kernel_rfl
 have e_s:Tryz.prog.cellsOf 33=1:=by kernel_rfl
 have e_t:Tryz.prog.cellsOf 9=1:=by kernel_rfl
 rw [eS] at hlen
 match cs,hlen,xs,hxl with
 | [c0,c1,c2,c3,c4,c5,c6,c7,c8,c9,c10,c11,c12],_,[x0,x1,x2,x3,x4,x5,x6,x7],_=>
  have h0:DataW.trod enc Tryz.prog w base spare held n 5 ((([c0,c1,c2,c3,c4,c5,c6,c7,c8,c9,c10,c11,c12]:List Value).drop 0).take (Tryz.prog.cellsOf 5))=some x0:=hf 0 _ rfl
  rw [e_c] at h0
  obtain ⟨a0,rfl⟩:=oz (c:=c0) h0
  have h1:DataW.trod enc Tryz.prog w base spare held n 3 ((([(.int .u8 a0:Value),c1,c2,c3,c4,c5,c6,c7,c8,c9,c10,c11,c12]:List Value).drop 1).take (Tryz.prog.cellsOf 3))=some x1:=hf 1 _ rfl
  rw [e_i] at h1
  obtain ⟨a1,rfl,_⟩:=fw (c:=c1) h1
  have h2:DataW.trod enc Tryz.prog w base spare held n 32 ((([(.int .u8 a0:Value),(.int .i64 a1:Value),c2,c3,c4,c5,c6,c7,c8,c9,c10,c11,c12]:List Value).drop 2).take (Tryz.prog.cellsOf 32))=some x2:=hf 2 _ rfl
  rw [e_R] at h2
  obtain ⟨a2,q,_⟩:=j8 (cs:= [c2,c3,c4,c5]) h2
  simp only [bH,List.cons.injEq,and_true] at q
  obtain ⟨rfl,rfl,rfl,rfl⟩:=q
  have h3:DataW.trod enc Tryz.prog w base spare held n 9 ((([(.int .u8 a0:Value),(.int .i64 a1:Value),(.int .i64 a2.c1:Value),(.int .i64 a2.r1:Value),(.int .i64 a2.c2:Value),(.int .i64 a2.r2:Value),c6,c7,c8,c9,c10,c11,c12]:List Value).drop 6).take (Tryz.prog.cellsOf 9))=some x3:=hf 3 _ rfl
  rw [e_t] at h3
  obtain ⟨a3,rfl⟩:=Ls (c:=c6) h3
  have h4:DataW.trod enc Tryz.prog w base spare held n 35 ((([(.int .u8 a0:Value),(.int .i64 a1:Value),(.int .i64 a2.c1:Value),(.int .i64 a2.r1:Value),(.int .i64 a2.c2:Value),(.int .i64 a2.r2:Value),(.string a3:Value),c7,c8,c9,c10,c11,c12]:List Value).drop 7).take (Tryz.prog.cellsOf 35))=some x4:=hf 4 _ rfl
  rw [e_T] at h4
  obtain ⟨a4,q⟩:=qm (cs:= [c7,c8,c9]) h4
  simp only [Iz,List.cons.injEq,and_true] at q
  obtain ⟨rfl,rfl,rfl⟩:=q
  have h5:DataW.trod enc Tryz.prog w base spare held n 5 ((([(.int .u8 a0:Value),(.int .i64 a1:Value),(.int .i64 a2.c1:Value),(.int .i64 a2.r1:Value),(.int .i64 a2.c2:Value),(.int .i64 a2.r2:Value),(.string a3:Value),(vS a4.1:Value),(vS a4.2.1:Value),(vS a4.2.2:Value),c10,c11,c12]:List Value).drop 10).take (Tryz.prog.cellsOf 5))=some x5:=hf 5 _ rfl
  rw [e_c] at h5
  obtain ⟨a5,rfl⟩:=oz (c:=c10) h5
  have h6:DataW.trod enc Tryz.prog w base spare held n 33 ((([(.int .u8 a0:Value),(.int .i64 a1:Value),(.int .i64 a2.c1:Value),(.int .i64 a2.r1:Value),(.int .i64 a2.c2:Value),(.int .i64 a2.r2:Value),(.string a3:Value),(vS a4.1:Value),(vS a4.2.1:Value),(vS a4.2.2:Value),(.int .u8 a5:Value),c11,c12]:List Value).drop 11).take (Tryz.prog.cellsOf 33))=some x6:=hf 6 _ rfl
  rw [e_s] at h6
  obtain ⟨a6,rfl⟩:=jl (c:=c11) h6
  have h7:DataW.trod enc Tryz.prog w base spare held n 3 ((([(.int .u8 a0:Value),(.int .i64 a1:Value),(.int .i64 a2.c1:Value),(.int .i64 a2.r1:Value),(.int .i64 a2.c2:Value),(.int .i64 a2.r2:Value),(.string a3:Value),(vS a4.1:Value),(vS a4.2.1:Value),(vS a4.2.2:Value),(.int .u8 a5:Value),(vS a6:Value),c12]:List Value).drop 12).take (Tryz.prog.cellsOf 3))=some x7:=hf 7 _ rfl
  rw [e_i] at h7
  obtain ⟨a7,rfl,_⟩:=fw (c:=c12) h7
  exact ⟨⟨a0,a1,a2,a3,a4.1,a4.2.1,a4.2.2,a5,a6,a7⟩,rfl⟩
end
instance:Inhabited Ox:=⟨⟨0,0,⟨0,0,0,0⟩,⟨#[]⟩,0#64,0#64,0#64,0,0#64,0⟩⟩
section
variable {H:Type} {enc:TypeId × Value→H} {w:World} {base:Nat} {spare:Nat→Bool} {held:Bool}
set_option maxRecDepth 100000 in
theorem Hw {v:Value} {d:DataW H} {p:List MemPlace} (hv:Value.okWide Tryz.prog w .any base 29 v) (h:DataW.Trod enc Tryz.prog w 0 spare held 29 v d p): ∃ L:List Ox,Reads w v L.length (L.flatMap bi):=by
 obtain ⟨L,h1,_⟩:=E3 (ok:=fun _:Ox=>True) Tryz.underlying29 (by kernel_rfl) (by decide) Fx (fun _ _ _ h=>let ⟨a,e⟩:=JT h;⟨a,e,trivial⟩) hv h
 exact ⟨L,h1⟩
end
end Go.SL
