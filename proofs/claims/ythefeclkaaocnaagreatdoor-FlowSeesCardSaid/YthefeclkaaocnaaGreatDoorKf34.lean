/-
  Lemmas and walks, put together: Hu Hv Ib Ic Id Ie If Fo Fp Na Ig Ih Sl37 Ij Ik Il Ii Im Ja Nb Ng Hw Hx Hy.
-/
import Derived.Test.YthefeclkaaocnaaGreatDoorKf33
set_option linter.unusedSimpArgs false
set_option linter.unusedVariables false
set_option maxRecDepth 20000
namespace Go.SL
open Go
def CT (lo hi:Int) (ps:List (Int × Int)):List (Int × Int):=eL ((gZ (wG (dJ lo ps))).filter fun x=>decide (lo≤x) && decide (x≤hi)) hi
theorem LK:cX=CT:=by funext lo hi ps;unfold cX CT yN;rw [MI]
def HT (r:Rct) (A B:List Rl):List Pz:=(CT r.r1 r.r2 (bf r A++bf r B)).flatMap fun y=>kP A B y (CT r.c1 r.c2 (bg r A++bg r B))
theorem KN:eK=HT:=by funext r A B;unfold eK HT;rw [LK]
def EK (f:Rl→BitVec 64) (r:Rct) (L:List Rl):BitVec 64:=wq ((HT r L []).map fun p=>(L[p.a]?.map f).getD 0#64)
theorem Nj:lW=EK:=by funext f r L;unfold lW EK;rw [KN]
def ovC (r:Rct) (L:List Rl):(BitVec 64 × BitVec 64 × BitVec 64) × Int:=
 if iT r L≠0 then ((0#64,0#64,0#64),iT r L) else ((EK (fun x=>x.read) r L,EK (fun x=>x.write) r L,EK (fun x=>x.own) r L),0)
theorem M9:ovE=ovC:=by funext r L;unfold ovE ovC;rw [Nj]
def PF (fn:Int) (r:Rct) (L:List Rl) (g:Gn):Bool:=decide (g.rect=r) && (o7 g.fns fn && (!g.rev && v8 (ovC g.rect L).1.2.2 g.by_))
def oW (fn:Int) (r:Rct) (L:List Rl):List Gn→List (BitVec 64)
 | []=> []
 |g::G=>bif PF fn r L g then g.to::oW fn r L G else oW fn r L G
theorem oV {fn:Int} {r:Rct} {L:List Rl}: ∀ (G:List Gn) (i:Nat),(cJ fn r L G i).map (fun x=>x.2.to)=oW fn r L G
 | [],_=>rfl
 |g::G,i=>by
  have h:xE fn r L g=PF fn r L g:=by unfold xE PF vw;rw [M9]
  rw [cJ,oW,h]
  cases PF fn r L g
  ·
   exact oV G (i+1)
  ·
   exact congrArg (g.to:: ·) (oV G (i+1))
def Sf (fn:Int) (r:Rct) (L:List Rl) (G:List Gn):BitVec 64:=
 if fn<46∨50<fn then 0#64 else if dY r≠0 then 0#64 else if (dw 64 L).2≠0 then 0#64 else if (gQ 64 G).2≠0 then 0#64 else orS (oW fn r L G)
theorem P0 {fn:Int} {r:Rct} {L:List Rl} {G:List Gn}:(dO fn r L G).1=Sf fn r L G:=by
 unfold dO Sf
 rw [oV]
 repeat' split
 all_goals rfl
def lwC (L:List Rl) (N:List Gn):Lw:=⟨fun c=>(atE c L).1.1,fun r=>(ovC r L).1.1,fun u=>if u.node<0 then 0#64 else Sf u.fn u.rect L N⟩
theorem NC {L:List Rl} {N:List Gn}:aI L N=lwC L N:=by
 unfold aI lwC
 rw [M9]
 congr 1
 funext u
 rw [P0]
def itL (G:Gr) (w:Lw):Nat→Rf→BitVec 64
 |0=>w.rd
 |n+1=>fun c=>eO G w (itL G w n) (aK G c) (w.rd c)
theorem NQ {G:Gr} {w:Lw} {i:Nat}: ∀ (n:Nat) {c:Rf},seesP G w i c→(itL G w n c).getLsbD i=true
 |0,_,h=>h.out.1
 |n+1,c,h=>by
  rw [itL,ed]
  refine ⟨h.out.1,fun x hx=> ?_⟩
  rcases h.out.2 x hx with h1|⟨h1,h2⟩
  ·
   exact .inl h1
  ·
   exact .inr ⟨h1,fun f hf hh=>NQ n (h2 f hf hh)⟩
theorem JJ {G:Gr} {w:Lw} {n:Nat} (h: ∀ c∈aq G,itL G w (n+1) c=itL G w n c) {a:Rf}:dr G w a=itL G w (n+1) a:=jN fun i=>by
 rw [iQ]
 refine ⟨NQ (n+1),fun hi=> ?_⟩
 refine ⟨fun d=>(itL G w (n+1) d).getLsbD i=true,hi,fun d hd=> ?_⟩
 have hd2:(eO G w (itL G w n) (aK G d) (w.rd d)).getLsbD i=true:=hd
 rw [ed] at hd2
 refine ⟨hd2.1,fun x hx=> ?_⟩
 rcases hd2.2 x hx with h1|⟨h1,h2⟩
 ·
  exact .inl h1
 ·
  exact .inr ⟨h1,fun f hf hh=>by dsimp only;rw [h f hf];exact h2 f hf hh⟩
def bkR:List Rl:= [⟨⟨1,1,1024,1024⟩,7#64,7#64,1#64⟩,⟨⟨2,1,2,3⟩,1#64,1#64,1#64⟩]
def bkN:List Gn:= [⟨⟨2,1,2,3⟩,1,2#64,0,false⟩]
set_option maxRecDepth 100000
theorem Sk: ∀ c∈aq exG,itL exG (lwC bkR bkN) 3 c=itL exG (lwC bkR bkN) 2 c:=by decide+kernel
theorem Qi: ∀ c∈aq exG,itL exG (lwC bkR []) 3 c=itL exG (lwC bkR []) 2 c:=by decide+kernel
theorem Sj {a:Rf}:dr exG (aI bkR bkN) a=itL exG (lwC bkR bkN) 3 a:=by rw [NC];exact JJ Sk
theorem Qh {a:Rf}:dr exG (aI bkR []) a=itL exG (lwC bkR []) 3 a:=by rw [NC];exact JJ Qi
theorem Tn:zq exG bkR bkN ⟨1,4⟩=(3#64,0):=by rw [zq,Sj];decide+kernel
theorem Tp:zq exG bkR [] ⟨1,4⟩=(1#64,0):=by rw [zq,Qh];decide+kernel
end Go.SL
namespace Go.SL
open Go Go.Proofs
attribute [local irreducible] W WL WQ WG WA WX WLI WR WT WC WE VOp RW thn blk bF scp ba aZ bC FnAt FnIn FnP ceP gA cP dR
def AU:List Et:= [⟨⟨1,1⟩,⟨#[53]⟩⟩,⟨⟨2,1⟩,⟨#[49,48]⟩⟩,⟨⟨1,2⟩,inB⟩,⟨⟨2,2⟩,⟨#[50,48]⟩⟩,⟨⟨1,3⟩,inC⟩,⟨⟨1,4⟩,inD⟩]
theorem NZ:rA AU=(some exG,0):=by decide+kernel
theorem xz (w:World):aD Tryz.prog 105 [] w (.agg (aN ⟨1,1,1024,1024⟩).toArray):=by
 refine ax Tryz.func105 rfl Tryz.ntmps105 rfl ?_
 repeat' (first|refine sT ?_|refine sM fun _=> ?_|(refine sC ?_ ?_<;>intro hb<;>try omega)|fail)
 (refine eRC ?_)
 rfl
set_option maxHeartbeats 4000000 in
theorem L5 (w:World):FnAt Tryz.prog 49 [] w fun v H=> ∃ ge gr gn,v= .tuple #[.slice (some ⟨ge,0,none⟩) 6 6,.slice (some ⟨gr,0,none⟩) 2 2,.slice (some ⟨gn,0,none⟩) 1 1]∧H= [.own (some ge) 53 3 6 6 (AU.flatMap du),.own (some gr) 38 7 2 2 (bkR.flatMap bM),.own (some gn) 56 8 1 1 (bkN.flatMap bp)]:=by
 refine ax Tryz.func49 rfl Tryz.ntmps49 rfl ?_
 repeat' (first|(apply eW (id:=3) [0,6] [];kernel_rfl;kernel_rfl;kernel_rfl)|(apply eW (id:=4) [4] [];kernel_rfl;kernel_rfl;kernel_rfl)|(apply aa (f:=105);exact rfl;exact rfl;(intro w' _;exact xz w'))|refine sT ?_|refine sS ?_|refine sW ?_|refine sM fun _=> ?_|(refine sC ?_ ?_<;>intro hb<;>try omega)|(refine sCW ?_ ?_<;>intro hb<;>try omega)|fail)
 rename_i ge gr gn
 exact qu eIO rfl rfl rfl rfl (H' := [.own (some ge) 53 3 6 6 (AU.flatMap du),.own (some gr) 38 7 2 2 (bkR.flatMap bM),.own (some gn) 56 8 1 1 (bkN.flatMap bp)]) mS ⟨ge,gr,gn,rfl,rfl⟩
end Go.SL
namespace Go.SL
open Go Go.Proofs
attribute [local irreducible] W WL WQ WG WA WX WLI WR WT WC WE VOp RW thn blk bF scp ba aZ bC FnAt FnIn FnP ceP
structure Bk where
 users:Int
 ents:List Et
 rules:List Rl
 grants:List Gn
 log:List Ev
 rels:List Rv
 step:Int
structure Bv where
 ae:Option Addr
 ar:Option Addr
 ag:Option Addr
 al:Option Addr
 as_:Option Addr
 ce:Nat
 cr:Nat
 cg:Nat
 cl:Nat
 cs:Nat
def TF (b:Bk) (x:Bv):List Value:= [.int .i64 b.users,.slice x.ae b.ents.length x.ce,.slice x.ar b.rules.length x.cr,.slice x.ag b.grants.length x.cg,.slice x.al b.log.length x.cl,.slice x.as_ b.rels.length x.cs,.int .i64 b.step]
structure BRd (w:World) (b:Bk) (x:Bv):Prop where
 e:Reads w (.slice x.ae b.ents.length x.ce) b.ents.length (b.ents.flatMap du)
 r:Reads w (.slice x.ar b.rules.length x.cr) b.rules.length (b.rules.flatMap bM)
 g:Reads w (.slice x.ag b.grants.length x.cg) b.grants.length (b.grants.flatMap bp)
 l:Reads w (.slice x.al b.log.length x.cl) b.log.length (b.log.flatMap Tf)
 s:Reads w (.slice x.as_ b.rels.length x.cs) b.rels.length (b.rels.flatMap Te)
end Go.SL
namespace Go.SL
open Go Go.Proofs Go.ChangeShapes Go.WideShapes Go.ChangeAt Go.RowKit Go.Deep
section
variable {H:Type} {enc:TypeId × Value→H} {w:World} {base:Nat} {spare:Nat→Bool} {held:Bool}
theorem si {n:Nat} {c:Value} {x:DataW H × List MemPlace} (h:DataW.trod enc Tryz.prog w base spare held n 34 [c]=some x): ∃ a:BitVec 64,c=vS a:=by
 obtain ⟨a0,q0,_,w0⟩:=DataW.trod_int Tryz.underlying34 h
 simp only [List.cons.injEq,and_true] at q0
 have w1:0≤a0∧a0≤18446744073709551615:=by
  simp [Lit.wf] at w0
  exact w0
 refine ⟨BitVec.ofNat 64 a0.toNat,?_⟩
 subst q0
 unfold vS
 rw [BitVec.toNat_ofNat]
 congr 1
 omega
theorem Pp {n:Nat} {c:Value} {x:DataW H × List MemPlace} (h:DataW.trod enc Tryz.prog w base spare held n 5 [c]=some x): ∃ a:Int,c= .int .u8 a:=by
 obtain ⟨a0,q0,_,w0⟩:=DataW.trod_int Tryz.underlying5 h
 simp only [List.cons.injEq,and_true] at q0
 exact ⟨a0,q0⟩
theorem RE {n:Nat} {c:Value} {x:DataW H × List MemPlace} (h:DataW.trod enc Tryz.prog w base spare held n 4 [c]=some x): ∃ a:Bool,c= .bool a:=by
 obtain ⟨a0,q0,_⟩:=DataW.trod_bool Tryz.underlying4 h
 simp only [List.cons.injEq,and_true] at q0
 exact ⟨a0,q0⟩
def QG (x:BitVec 64 × BitVec 64 × BitVec 64):List Value:= [vS x.1,vS x.2.1,vS x.2.2]
set_option maxRecDepth 100000 in
theorem DE {fuel:Nat} {cs:List Value} {x:DataW H × List MemPlace} (h:DataW.trod enc Tryz.prog w base spare held fuel 36 cs=some x): ∃ v:BitVec 64 × BitVec 64 × BitVec 64,cs=QG v:=by
 obtain ⟨xs,n,_,_,hlen,hxl,hf⟩:=DataW.trod_struct Tryz.underlying36 h
 have eS:Tryz.prog.cellsOf 36=3:=by kernel_rfl
 have e_s:Tryz.prog.cellsOf 34=1:=by kernel_rfl
 rw [eS] at hlen
 match cs,hlen,xs,hxl with
 | [c0,c1,c2],_,[x0,x1,x2],_=>
  have h0:DataW.trod enc Tryz.prog w base spare held n 34 ((([c0,c1,c2]:List Value).drop 0).take (Tryz.prog.cellsOf 34))=some x0:=hf 0 _ rfl
  rw [e_s] at h0
  obtain ⟨a0,rfl⟩:=si (c:=c0) h0
  have h1:DataW.trod enc Tryz.prog w base spare held n 34 ((([(vS a0:Value),c1,c2]:List Value).drop 1).take (Tryz.prog.cellsOf 34))=some x1:=hf 1 _ rfl
  rw [e_s] at h1
  obtain ⟨a1,rfl⟩:=si (c:=c1) h1
  have h2:DataW.trod enc Tryz.prog w base spare held n 34 ((([(vS a0:Value),(vS a1:Value),c2]:List Value).drop 2).take (Tryz.prog.cellsOf 34))=some x2:=hf 2 _ rfl
  rw [e_s] at h2
  obtain ⟨a2,rfl⟩:=si (c:=c2) h2
  exact ⟨⟨a0,a1,a2⟩,rfl⟩
set_option maxRecDepth 100000 in
theorem Kl {fuel:Nat} {cs:List Value} {x:DataW H × List MemPlace} (h:DataW.trod enc Tryz.prog w base spare held fuel 38 cs=some x): ∃ v:Rl,cs=bM v:=by
 obtain ⟨xs,n,_,_,hlen,hxl,hf⟩:=DataW.trod_struct Tryz.underlying38 h
 have eS:Tryz.prog.cellsOf 38=7:=by kernel_rfl
 have e_R:Tryz.prog.cellsOf 33=4:=by kernel_rfl
 have e_T:Tryz.prog.cellsOf 36=3:=by kernel_rfl
 rw [eS] at hlen
 match cs,hlen,xs,hxl with
 | [c0,c1,c2,c3,c4,c5,c6],_,[x0,x1],_=>
  have h0:DataW.trod enc Tryz.prog w base spare held n 33 ((([c0,c1,c2,c3,c4,c5,c6]:List Value).drop 0).take (Tryz.prog.cellsOf 33))=some x0:=hf 0 _ rfl
  rw [e_R] at h0
  obtain ⟨a0,q,_⟩:=zX (cs:= [c0,c1,c2,c3]) h0
  simp only [aN,List.cons.injEq,and_true] at q
  obtain ⟨rfl,rfl,rfl,rfl⟩:=q
  have h1:DataW.trod enc Tryz.prog w base spare held n 36 ((([(.int .i64 a0.c1:Value),(.int .i64 a0.r1:Value),(.int .i64 a0.c2:Value),(.int .i64 a0.r2:Value),c4,c5,c6]:List Value).drop 4).take (Tryz.prog.cellsOf 36))=some x1:=hf 1 _ rfl
  rw [e_T] at h1
  obtain ⟨a1,q⟩:=DE (cs:= [c4,c5,c6]) h1
  simp only [QG,List.cons.injEq,and_true] at q
  obtain ⟨rfl,rfl,rfl⟩:=q
  exact ⟨⟨a0,a1.1,a1.2.1,a1.2.2⟩,rfl⟩
set_option maxRecDepth 100000 in
theorem xk {fuel:Nat} {cs:List Value} {x:DataW H × List MemPlace} (h:DataW.trod enc Tryz.prog w base spare held fuel 56 cs=some x): ∃ v:Gn,cs=bp v:=by
 obtain ⟨xs,n,_,_,hlen,hxl,hf⟩:=DataW.trod_struct Tryz.underlying56 h
 have eS:Tryz.prog.cellsOf 56=8:=by kernel_rfl
 have e_R:Tryz.prog.cellsOf 33=4:=by kernel_rfl
 have e_b:Tryz.prog.cellsOf 4=1:=by kernel_rfl
 have e_c:Tryz.prog.cellsOf 5=1:=by kernel_rfl
 have e_i:Tryz.prog.cellsOf 3=1:=by kernel_rfl
 have e_s:Tryz.prog.cellsOf 34=1:=by kernel_rfl
 rw [eS] at hlen
 match cs,hlen,xs,hxl with
 | [c0,c1,c2,c3,c4,c5,c6,c7],_,[x0,x1,x2,x3,x4],_=>
  have h0:DataW.trod enc Tryz.prog w base spare held n 33 ((([c0,c1,c2,c3,c4,c5,c6,c7]:List Value).drop 0).take (Tryz.prog.cellsOf 33))=some x0:=hf 0 _ rfl
  rw [e_R] at h0
  obtain ⟨a0,q,_⟩:=zX (cs:= [c0,c1,c2,c3]) h0
  simp only [aN,List.cons.injEq,and_true] at q
  obtain ⟨rfl,rfl,rfl,rfl⟩:=q
  have h1:DataW.trod enc Tryz.prog w base spare held n 5 ((([(.int .i64 a0.c1:Value),(.int .i64 a0.r1:Value),(.int .i64 a0.c2:Value),(.int .i64 a0.r2:Value),c4,c5,c6,c7]:List Value).drop 4).take (Tryz.prog.cellsOf 5))=some x1:=hf 1 _ rfl
  rw [e_c] at h1
  obtain ⟨a1,rfl⟩:=Pp (c:=c4) h1
  have h2:DataW.trod enc Tryz.prog w base spare held n 34 ((([(.int .i64 a0.c1:Value),(.int .i64 a0.r1:Value),(.int .i64 a0.c2:Value),(.int .i64 a0.r2:Value),(.int .u8 a1:Value),c5,c6,c7]:List Value).drop 5).take (Tryz.prog.cellsOf 34))=some x2:=hf 2 _ rfl
  rw [e_s] at h2
  obtain ⟨a2,rfl⟩:=si (c:=c5) h2
  have h3:DataW.trod enc Tryz.prog w base spare held n 3 ((([(.int .i64 a0.c1:Value),(.int .i64 a0.r1:Value),(.int .i64 a0.c2:Value),(.int .i64 a0.r2:Value),(.int .u8 a1:Value),(vS a2:Value),c6,c7]:List Value).drop 6).take (Tryz.prog.cellsOf 3))=some x3:=hf 3 _ rfl
  rw [e_i] at h3
  obtain ⟨a3,rfl,_⟩:=rj (c:=c6) h3
  have h4:DataW.trod enc Tryz.prog w base spare held n 4 ((([(.int .i64 a0.c1:Value),(.int .i64 a0.r1:Value),(.int .i64 a0.c2:Value),(.int .i64 a0.r2:Value),(.int .u8 a1:Value),(vS a2:Value),(.int .i64 a3:Value),c7]:List Value).drop 7).take (Tryz.prog.cellsOf 4))=some x4:=hf 4 _ rfl
  rw [e_b] at h4
  obtain ⟨a4,rfl⟩:=RE (c:=c7) h4
  exact ⟨⟨a0,a1,a2,a3,a4⟩,rfl⟩
instance:Inhabited Rl:=⟨⟨⟨0,0,0,0⟩,0#64,0#64,0#64⟩⟩
instance:Inhabited Gn:=⟨⟨⟨0,0,0,0⟩,0,0#64,0,false⟩⟩
end
section
variable {H:Type} {enc:TypeId × Value→H} {w:World} {base:Nat} {spare:Nat→Bool} {held:Bool}
set_option maxRecDepth 100000 in
theorem nH {v:Value} {d:DataW H} {p:List MemPlace} (hv:Value.okWide Tryz.prog w .any base 23 v) (h:DataW.Trod enc Tryz.prog w 0 spare held 23 v d p): ∃ L:List Rl,Reads w v L.length (L.flatMap bM):=by
 obtain ⟨L,h1,_⟩:=qf (ok:=fun _:Rl=>True) Tryz.underlying23 (by kernel_rfl) (by decide) dz (fun _ _ _ h=>let ⟨a,e⟩:=Kl h;⟨a,e,trivial⟩) hv h
 exact ⟨L,h1⟩
set_option maxRecDepth 100000 in
theorem lI {v:Value} {d:DataW H} {p:List MemPlace} (hv:Value.okWide Tryz.prog w .any base 24 v) (h:DataW.Trod enc Tryz.prog w 0 spare held 24 v d p): ∃ L:List Gn,Reads w v L.length (L.flatMap bp):=by
 obtain ⟨L,h1,_⟩:=qf (ok:=fun _:Gn=>True) Tryz.underlying24 (by kernel_rfl) (by decide) mT (fun _ _ _ h=>let ⟨a,e⟩:=xk h;⟨a,e,trivial⟩) hv h
 exact ⟨L,h1⟩
end
end Go.SL
namespace Go.SL
open Go
theorem oK (n:Nd) (i:Nat) (r:List Nd):(iY n i r).node= -1∨((iY n i r).node=(i:Int)+1∧ ∃ m∈r,m.kind=7∧46≤m.fn∧(iY n i r).fn=m.fn):=by
 unfold iY
 cases r with
 |nil=>exact .inl rfl
 |cons m q=>
  dsimp only
  split
  ·
   rename_i h
   exact .inr ⟨by dsimp only;omega,m,List.mem_cons_self,h.1,h.2,rfl⟩
  ·
   exact .inl rfl
theorem qD: ∀ (L:List Nd) (i:Nat),∀ u∈bZ L i,u.node<0∨(i:Int)<u.node
 | [],_,u,h=>by cases h
 |n::r,i,u,h=>by
  have ih:=qD r (i+1) u
  rw [bZ] at h
  have h2:u=iY n i r∨u∈bZ r (i+1):=by
   cases hr:eP n with
   |false=>rw [hr,cond_false] at h;exact .inr h
   |true=>rw [hr,cond_true] at h;exact TS.1 h
  rcases h2 with rfl|h2
  ·
   rcases oK n i r with h3|⟨h3,_⟩
   ·
    exact .inl (by omega)
   ·
    exact .inr (by omega)
  ·
   rcases ih h2 with h3|h3
   ·
    exact .inl h3
   ·
    exact .inr (by omega)
theorem uY: ∀ (L:List Nd) (i:Nat),∀ u∈bZ L i,0≤u.node→ ∃ n∈L,n.kind=7∧46≤n.fn∧u.fn=n.fn
 | [],_,u,h,_=>by cases h
 |n::r,i,u,h,hp=>by
  have ih:=uY r (i+1) u
  rw [bZ] at h
  have h2:u=iY n i r∨u∈bZ r (i+1):=by
   cases hr:eP n with
   |false=>rw [hr,cond_false] at h;exact .inr h
   |true=>rw [hr,cond_true] at h;exact TS.1 h
  rcases h2 with rfl|h2
  ·
   rcases oK n i r with h3|⟨_,m,h4,h5,h6,h7⟩
   ·
    omega
   ·
    exact ⟨m,TM _ h4,h5,h6,h7⟩
  ·
   obtain ⟨m,h4,h5⟩:=ih h2 hp
   exact ⟨m,TM _ h4,h5⟩
theorem qE: ∀ (L:List Nd) (i:Nat),∀ u∈bZ L i,0≤u.node→(bZ L i).find? (jR u.node)=some u
 | [],_,u,h,_=>by cases h
 |n::r,i,u,h,hp=>by
  have ih:=qE r (i+1) u
  have hnd:=qD r (i+1) u
  rw [bZ] at h ⊢
  cases hr:eP n with
  |false=>rw [hr,cond_false] at h;rw [cond_false];exact ih h hp
  |true=>
   rw [hr,cond_true] at h
   rw [cond_true,List.find?_cons]
   by_cases hc:jR u.node (iY n i r)=true
   ·
    rw [hc]
    rcases TS.1 h with rfl|h
    ·
     rfl
    ·
     exfalso
     simp only [jR,TU,decide_eq_true_eq] at hc
     have h4:=hnd h
     rcases oK n i r with h3|⟨h3,_⟩<;>omega
   ·
    rcases TS.1 h with rfl|h
    ·
     exact absurd (by simp [jR,hp]) hc
    ·
     rw [V5] at hc;rw [hc];exact ih h hp
theorem Li {n:Nd} (h:bE n=0) (k:n.kind=7):n.fn≤50:=by
 unfold bE at h
 split at h
 ·
  cases h
 rw [if_neg (by simp [k])] at h
 split at h
 ·
  rename_i h2;exact absurd h h2
 rename_i h2
 refine Int.not_lt.1 fun hlt=>h2 ?_
 unfold fp cU
 rw [if_neg (by omega),if_neg (by omega),if_neg (by omega),if_neg (by omega),if_neg (by omega),if_neg (by omega),if_neg (by simp;omega)]
 decide
theorem zQ {G:Gr} (hG:GrOk G) {c:Rf} {u:Us} (hu:u∈aK G c) (hp:0≤u.node):46≤u.fn∧u.fn≤50∧(aK G c).find? (jR u.node)=some u:=by
 obtain ⟨e,he,h1,h2⟩:=r9 hu
 have hk:=hG.ent e he
 rw [← h2,hk.uses] at hu ⊢
 obtain ⟨n,hn,k7,k46,kf⟩:=uY _ _ u hu hp
 have h50:=Li (tI hk.tree n hn) k7
 exact ⟨by omega,by omega,qE _ _ u hu hp⟩
theorem jg {G:Gr} (hG:GrOk G) {c:Rf} {u:Us} (hu:u∈aK G c):dY u.rect=0:=by
 obtain ⟨e,he,h1,h2⟩:=r9 hu
 rw [dY,(hG.ent e he).rect u (by rw [h2];exact hu)];rfl
theorem K4 {G:Gr} {w:Lw} {c:Rf}:dr G w c=eO G w (dr G w) (aK G c) (w.rd c):=jN fun i=>by
 rw [iQ,ed,Af]
 simp only [iQ]
end Go.SL
namespace Go.SL
open Go Go.Proofs
attribute [local irreducible] W WL WQ WG WA WX WLI WR WT WC WE VOp RW thn blk bF scp ba aZ bC FnAt FnIn FnP ceP
theorem LN (n:Nat) (h:n<64):CW (n+1)=CW n|||1#64<<<n:=by
 have h1: ∀ n:Fin 64,CW (n.val+1)=CW n.val|||1#64<<<n.val:=by decide+kernel
 exact h1 ⟨n,h⟩
theorem KG (m:Nat) (h:m≤64) (w:World):aD Tryz.prog 208 [.int .i64 (m:Int)] w (vS (1#64<<<m)):=by
 refine ax Tryz.func208 rfl Tryz.ntmps208 rfl ?_
 repeat' (first|(apply ak;exact rfl;apply bB (c:=(m:Int));exact rfl;(simp only [IntKind.wrap_u64];omega))|(apply ak;exact rfl;apply Jb (a:=1#64) (m:=m);exact rfl;exact rfl;omega)|refine sT ?_|refine sM fun _=> ?_|(refine sC ?_ ?_<;>intro hb<;>try omega)|fail)
 all_goals first|(exfalso;omega)|((refine rT1 ?_);rfl)|trace_state
theorem Er (u:Int) (w:World):aD Tryz.prog 156 [.int .i64 u] w (.tuple #[vS (jP u).1,.int .i64 (jP u).2]):=by
 refine ax Tryz.func156 rfl Tryz.ntmps156 rfl ?_
 by_cases h:u<0∨64<u
 ·
  rw [jP,if_pos h]
  repeat' (first|refine sT ?_|refine sM fun _=> ?_|(refine sC ?_ ?_<;>intro hb<;>try omega)|fail)
  all_goals first|(exfalso;omega)|((refine rT2 ?_);rfl)|trace_state
 ·
  rw [jP,if_neg h]
  obtain ⟨m,rfl⟩: ∃ m:Nat,u=(m:Int):=⟨u.toNat,by omega⟩
  rw [VY]
  repeat' (first|refine sT ?_|refine sS ?_|refine sM fun _=> ?_|(refine sC ?_ ?_<;>intro hb<;>try omega)|fail)
  all_goals try (exfalso;omega)
  refine ay [0] rfl (fun i:Nat=> [(4,vS (CW i)),(5,.int .i64 (i:Int))]) (fun _=> []) (fun i=>i≤m) (fun i=>m - i) 0 (by omega) sB mS ?_
  rintro i hi
  by_cases hlt:i<m
  ·
   have hB:=fun w=>KG i (by omega) w
   have hs:=LN i (by omega)
   repeat' (first|(apply aa;exact rfl;exact rfl;(intro w hm;exact hB w))|(apply ak;exact rfl;apply rf (a:=CW i);exact rfl;exact rfl)|refine sT ?_|refine sS ?_|refine sN ?_|refine sM fun _=> ?_|(refine sC ?_ ?_<;>intro hb<;>try omega)|fail)
   all_goals first
    |(exfalso;omega)
    |(rw [← hs];refine ⟨i+1,hlt,by omega,by exact sB,by exact sB,by exact mS⟩;done)
    |trace_state
  ·
   have e:i=m:=by omega
   subst e
   repeat' (first|refine sT ?_|refine sS ?_|refine sM fun _=> ?_|(refine sC ?_ ?_<;>intro hb<;>try omega)|fail)
   all_goals first|(exfalso;omega)|((refine rT2 ?_);rfl)|trace_state
theorem sH (x:BitVec 64) (u:Int) (w:World):aD Tryz.prog 125 [vS x,.int .i64 u] w (.bool (decide (x &&& ~~~(jP u).1=0#64))):=by
 refine ax Tryz.func125 rfl Tryz.ntmps125 rfl ?_
 have h1:=fun w=>Er u w
 generalize (jP u).1=a at h1 ⊢
 generalize (jP u).2=e at h1
 repeat' (first|(apply aa;exact rfl;exact rfl;(intro w hm;exact h1 w))|(apply ak;exact rfl;apply m9 (b:=a);exact rfl;exact rfl)|(apply ak;exact rfl;apply p9 (b:=0#64);exact rfl;exact rfl)|refine sT ?_|refine sM fun _=> ?_|(refine sC ?_ ?_<;>intro hb<;>try omega)|fail)
 all_goals first|(exfalso;omega)|((refine rT1 ?_);rfl)|trace_state
theorem vg (r:Rct) (w:World):aD Tryz.prog 124 [.agg (aN r).toArray] w (.bool (aH r)):=by
 refine ax Tryz.func124 rfl Tryz.ntmps124 rfl ?_
 have h:aH r=true↔(1≤r.c1∧r.c1≤r.c2∧r.c2≤1024∧1≤r.r1∧r.r1≤r.r2∧r.r2≤1024):=by
  simp only [aH,valid,TU,decide_eq_true_eq]
  omega
 by_cases hk:aH r=true
 ·
  have hk2:=h.1 hk
  rw [hk]
  repeat' (first|refine sT ?_|refine sM fun _=> ?_|(refine sC ?_ ?_<;>intro hb<;>try omega)|fail)
  all_goals first|(exfalso;omega)|((refine rT1 ?_);simp;omega)|((refine rT1 ?_);rfl)|trace_state
 ·
  have hk2:=fun a=>hk (h.2 a)
  rw [show aH r=false by simpa using hk]
  repeat' (first|refine sT ?_|refine sM fun _=> ?_|(refine sC ?_ ?_<;>intro hb<;>try omega)|fail)
  all_goals first|(exfalso;omega)|((refine rT1 ?_);rfl)|((refine rT1 ?_);exact congrArg Value.bool (decide_eq_false fun hz=>hk2 ⟨by omega,by omega,by omega,by omega,by omega,by omega⟩))|trace_state
theorem Nl (a b c s:BitVec 64):((a|||b|||c) &&& s=0#64)↔(a &&& s=0#64∧b &&& s=0#64∧c &&& s=0#64):=by
 have h: ∀ x:BitVec 64,(x=0#64)↔ ∀ i,x.getLsbD i=false:=fun x=>⟨fun h i=>by rw [h];simp,fun h=>VT fun i _=>by rw [h i];simp⟩
 simp only [h,VO,WD,U3,Bool.or_eq_false_iff]
 constructor
 ·
  intro hh
  refine ⟨fun i=> ?_,fun i=> ?_,fun i=> ?_⟩<;>rcases hh i with ⟨⟨h1,h2⟩,h3⟩|h1<;>simp_all
 ·
  rintro ⟨h1,h2,h3⟩ i
  rcases h1 i with a|a
  ·
   rcases h2 i with b|b
   ·
    rcases h3 i with c|c
    ·
     exact .inl ⟨⟨a,b⟩,c⟩
    ·
     exact .inr c
   ·
    exact .inr b
  ·
   exact .inr a
theorem Tq (r:Rl) (a:BitVec 64):((r.read|||r.write|||r.own) &&& ~~~a≠0#64)↔(r.read &&& ~~~a≠0#64∨r.write &&& ~~~a≠0#64∨r.own &&& ~~~a≠0#64):=by
 rw [ne_eq,Nl]
 constructor
 ·
  intro h
  by_cases h1:r.read &&& ~~~a=0#64
  ·
   by_cases h2:r.write &&& ~~~a=0#64
   ·
    exact .inr (.inr fun h3=>h ⟨h1,h2,h3⟩)
   ·
    exact .inr (.inl h2)
  ·
   exact .inl h1
 ·
  rintro (h|h|h) ⟨h1,h2,h3⟩
  ·
   exact h h1
  ·
   exact h h2
  ·
   exact h h3
set_option maxHeartbeats 8000000 in
theorem qN (u:Int) (L:List Rl) (lv:Value) (w:World) (hl:Reads w lv L.length (L.flatMap bM)):aD Tryz.prog 65 [.int .i64 u,lv] w (.tuple #[.int .i64 (dw u L).1,.int .i64 (dw u L).2]):=by
 obtain ⟨Al,cl,rfl,hl1,hl2,hl3⟩:=hl
 refine ax Tryz.func65 rfl Tryz.ntmps65 rfl ?_
 unfold dw
 by_cases h1:u<0∨64<u∨u=0∨L= []
 ·
  rw [if_pos h1]
  have h1' :u<1∨64<u∨L.length=0:=by
   rcases h1 with h|h|h|h
   ·
    exact .inl (by omega)
   ·
    exact .inr (.inl h)
   ·
    exact .inl (by omega)
   ·
    exact .inr (.inr (by rw [h];rfl))
  repeat' (first|refine sT ?_|refine sM fun _=> ?_|(refine sC ?_ ?_<;>intro hb<;>try omega)|fail)
  all_goals first|(exfalso;omega)|((refine rT2 ?_);rfl)|trace_state
 rw [if_neg h1]
 have hne:0<L.length:=by
  rcases VD L.length with h|h
  ·
   exact absurd (.inr (.inr (.inr (US h)))) h1
  ·
   exact h
 by_cases h64:64<L.length
 ·
  rw [if_pos h64]
  repeat' (first|refine sT ?_|refine sM fun _=> ?_|(refine sC ?_ ?_<;>intro hb<;>try omega)|fail)
  all_goals first|(exfalso;omega)|((refine rT2 ?_);rfl)|trace_state
 rw [if_neg h64]
 obtain ⟨gl,ol,rfl,hrl⟩:=hl3 hne
 have hS:=fun w=>xz w
 obtain ⟨h0a,_⟩:=Rl.ro (hrl.elem dz 0 hne)
 have hhd:L.head?.map (·.rect)=some L[0].rect:=by rw [Wh,TJ hne];rfl
 rw [hhd]
 by_cases hsh:some L[0].rect≠some rl
 ·
  rw [if_pos hsh]
  have hc:decide (L[0].rect=rl)=false:=decide_eq_false fun e=>hsh (congrArg some e)
  generalize L[0].rect=r0 at h0a hc
  repeat' (first|(apply eW (id:=5) [4] [];kernel_rfl;kernel_rfl;kernel_rfl)|(apply eG;(iterate 3 exact rfl);apply aj (j:=0);exact rfl;exact rfl;omega)|(apply eG;(iterate 3 exact rfl);apply aP;exact rfl;exact h0a;exact rfl)|(apply eG;(iterate 3 exact rfl);apply kA hc;exact rfl;exact rfl)|(apply aa (f:=105);exact rfl;exact rfl;(intro w' _;exact hS w'))|refine sT ?_|refine sS ?_|refine sW ?_|refine sO ?_|refine sM fun _=> ?_|(refine sC ?_ ?_<;>intro hb<;>try omega)|(refine sCW ?_ ?_<;>intro hb<;>try omega)|fail)
  all_goals first|(exfalso;omega)|((refine rT2 ?_);rfl)|trace_state
 rw [if_neg hsh]
 have hc:decide (L[0].rect=rl)=true:=decide_eq_true (Option.some.inj (Decidable.not_not.1 hsh))
 obtain ⟨ac,hac⟩: ∃ ac,eR u L 0=ac:=⟨_,rfl⟩
 rw [hac]
 generalize L[0].rect=r0 at h0a hc
 repeat' (first|(apply eW (id:=5) [4] [];kernel_rfl;kernel_rfl;kernel_rfl)|(apply eG;(iterate 3 exact rfl);apply aj (j:=0);exact rfl;exact rfl;omega)|(apply eG;(iterate 3 exact rfl);apply aP;exact rfl;exact h0a;exact rfl)|(apply eG;(iterate 3 exact rfl);apply kA hc;exact rfl;exact rfl)|(apply aa (f:=105);exact rfl;exact rfl;(intro w' _;exact hS w'))|refine sT ?_|refine sS ?_|refine sW ?_|refine sO ?_|refine sM fun _=> ?_|(refine sC ?_ ?_<;>intro hb<;>try omega)|(refine sCW ?_ ?_<;>intro hb<;>try omega)|fail)
 all_goals try (exfalso;omega)
 refine ay [0,1] rfl (fun i:Nat=> [(6,.int .i64 (i:Int))]) (fun _=> []) (fun i=>i≤L.length∧ac=eR u (L.drop i) (i:Int)) (fun i=>L.length - i) 0 ⟨by omega,hac.symm⟩ sB mS ?_
 rintro i ⟨hi,hrec⟩
 by_cases hlt:i<L.length
 ·
  obtain ⟨hr1,_,_,_,hr2⟩:=Rl.ro (hrl.elem dz i hlt)
  rw [TN hlt,eR] at hrec
  simp only [Tq] at hrec
  generalize L[i]=r at hr1 hr2 hrec
  have hR:=fun w=>vg r.rect w
  have hW:=fun (x:BitVec 64) w=>sH x u w
  generalize aH r.rect=ro at hR hrec
  generalize (jP u).1=sa at hW hrec
  by_cases h3:ro=false
  ·
   rw [if_pos h3] at hrec
   subst h3
   repeat' (first|(apply ak;exact rfl;apply aj (j:=i);exact rfl;exact rfl;omega)|(apply aa;exact rfl;exact rfl;(intro w hm;exact hR w))|refine sT ?_|refine sS ?_|refine sO ?_|refine sM fun _=> ?_|(refine sC ?_ ?_<;>intro hb<;>try omega)|fail)
   all_goals first|(exfalso;omega)|((refine rT2 ?_);rw [hrec];done)|trace_state
  rw [if_neg h3] at hrec
  have h3' :ro=true:=by simpa using h3
  subst h3'
  by_cases h4:r.read &&& ~~~sa≠0#64∨r.write &&& ~~~sa≠0#64∨r.own &&& ~~~sa≠0#64
  ·
   rw [if_pos h4] at hrec
   repeat' (first|(apply ak;exact rfl;apply aj (j:=i);exact rfl;exact rfl;omega)|(apply ak;exact rfl;apply aP;exact rfl;exact hr2;exact rfl)|(apply aa;exact rfl;exact rfl;(intro w hm;exact hR w))|(apply aa (f:=125);exact rfl;exact rfl;(intro w' _;exact hW _ w'))|refine sT ?_|refine sS ?_|refine sO ?_|refine sM fun _=> ?_|(refine sC ?_ ?_<;>intro hb<;>try omega)|fail)
   all_goals first
    |(exfalso;omega)
    |((refine rT2 ?_);rw [hrec];done)
    |(exfalso;rcases h4 with h|h|h<;>exact h (by assumption))
    |trace_state
  ·
   rw [if_neg h4] at hrec
   repeat' (first|(apply ak;exact rfl;apply aj (j:=i);exact rfl;exact rfl;omega)|(apply ak;exact rfl;apply aP;exact rfl;exact hr2;exact rfl)|(apply aa;exact rfl;exact rfl;(intro w hm;exact hR w))|(apply aa (f:=125);exact rfl;exact rfl;(intro w' _;exact hW _ w'))|refine sT ?_|refine sS ?_|refine sN ?_|refine sO ?_|refine sM fun _=> ?_|(refine sC ?_ ?_<;>intro hb<;>try omega)|fail)
   all_goals first
    |(exfalso;omega)
    |(exfalso;exact h4 (by first|exact .inl (by assumption)|exact .inr (.inl (by assumption))|exact .inr (.inr (by assumption))))
    |(refine ⟨i+1,⟨hlt,by rw [hrec];rfl⟩,by omega,by exact sB,by exact sB,by exact mS⟩;done)
    |trace_state
 ·
  have e:i=L.length:=by omega
  subst e
  rw [UB,eR] at hrec
  rw [hrec]
  repeat' (first|refine sT ?_|refine sS ?_|refine sM fun _=> ?_|(refine sC ?_ ?_<;>intro hb<;>try omega)|fail)
  all_goals first|(exfalso;omega)|((refine rT2 ?_);rfl)|trace_state
theorem Ow (n:Nat) (h:n≤64) (i:Nat):(CW n).getLsbD i=decide (i<n):=by
 have h1: ∀ n:Fin 65,∀ i:Fin 64,(CW n.val).getLsbD i.val=decide (i.val<n.val):=by decide+kernel
 by_cases hi:i<64
 ·
  exact h1 ⟨n,by omega⟩ ⟨i,hi⟩
 ·
  rw [BitVec.getLsbD_of_ge _ _ (by omega),decide_eq_false (by omega)]
theorem NS {u b:Int} (h: ¬ (u<0∨64<u∨u=0)):v8 (jP u).1 b=(decide (0≤b) && decide (b<u)):=by
 unfold jP v8
 rw [if_neg (by omega)]
 rw [Ow _ (by omega),Uy]
 simp only [TU,decide_eq_true_eq]
 omega
set_option maxHeartbeats 8000000 in
theorem zl (u:Int) (L:List Gn) (lv:Value) (w:World) (hl:Reads w lv L.length (L.flatMap bp)):aD Tryz.prog 67 [.int .i64 u,lv] w (.tuple #[.int .i64 (gQ u L).1,.int .i64 (gQ u L).2]):=by
 obtain ⟨Al,cl,rfl,hl1,hl2,hl3⟩:=hl
 refine ax Tryz.func67 rfl Tryz.ntmps67 rfl ?_
 unfold gQ
 by_cases h1:u<0∨64<u∨u=0
 ·
  rw [if_pos h1]
  repeat' (first|refine sT ?_|refine sM fun _=> ?_|(refine sC ?_ ?_<;>intro hb<;>try omega)|fail)
  all_goals first|(exfalso;omega)|((refine rT2 ?_);rfl)|trace_state
 rw [if_neg h1]
 by_cases h64:64<L.length
 ·
  rw [if_pos h64]
  repeat' (first|refine sT ?_|refine sM fun _=> ?_|(refine sC ?_ ?_<;>intro hb<;>try omega)|fail)
  all_goals first|(exfalso;omega)|((refine rT2 ?_);rfl)|trace_state
 rw [if_neg h64]
 obtain ⟨ac,hac⟩: ∃ ac,ic u L 0=ac:=⟨_,rfl⟩
 rw [hac]
 repeat' (first|refine sT ?_|refine sS ?_|refine sM fun _=> ?_|(refine sC ?_ ?_<;>intro hb<;>try omega)|fail)
 all_goals try (exfalso;omega)
 refine ay [0,1] rfl (fun i:Nat=> [(6,.int .i64 (i:Int))]) (fun _=> []) (fun i=>i≤L.length∧ac=ic u (L.drop i) (i:Int)) (fun i=>L.length - i) 0 ⟨by omega,hac.symm⟩ sB mS ?_
 rintro i ⟨hi,hrec⟩
 by_cases hlt:i<L.length
 ·
  obtain ⟨gl,ol,rfl,hrl⟩:=hl3 (by omega)
  have he1:=hrl.elem mT i hlt
  rw [TN hlt,ic,Sd,NS h1] at hrec
  generalize L[i]=r at he1 hrec
  have hR:=fun w=>vg r.rect w
  have hW:=fun w=>sH r.to u w
  generalize aH r.rect=ro at hR hrec
  generalize (jP u).1=sa at hW hrec
  obtain ⟨wi,hwi⟩: ∃ wi,decide (r.to &&& ~~~sa=0#64)=wi:=⟨_,rfl⟩
  rw [hwi] at hW hrec
  cases ro with
  |false=>
   rw [if_pos rfl] at hrec
   repeat' (first|(apply ak;exact rfl;apply aj (j:=i);exact rfl;exact rfl;omega)|(apply aa;exact rfl;exact rfl;(intro w hm;exact hR w))|refine sT ?_|refine sS ?_|refine sO ?_|refine sM fun _=> ?_|(refine sC ?_ ?_<;>intro hb<;>try omega)|fail)
   all_goals first|(exfalso;omega)|((refine rT2 ?_);rw [hrec];done)|trace_state
  |true=>
   rw [if_neg (by decide)] at hrec
   by_cases hg:1≤r.fns∧r.fns≤31∧wi=true∧0≤r.by_∧r.by_<u
   ·
    obtain ⟨g1,g2,rfl,g4,g5⟩:=hg
    rw [decide_eq_true g1,decide_eq_true g2,decide_eq_true g4,decide_eq_true g5] at hrec
    rw [if_neg (by decide)] at hrec
    repeat' (first|(apply ak;exact rfl;apply aj (j:=i);exact rfl;exact rfl;omega)|(apply aa;exact rfl;exact rfl;(intro w hm;exact hR w))|(apply aa;exact rfl;exact rfl;(intro w hm;exact hW w))|refine sT ?_|refine sS ?_|refine sN ?_|refine sO ?_|refine sM fun _=> ?_|(refine sC ?_ ?_<;>intro hb<;>try omega)|fail)
    all_goals first
     |(exfalso;omega)
     |(refine ⟨i+1,⟨hlt,by rw [hrec];rfl⟩,by omega,by exact sB,by exact sB,by exact mS⟩;done)
     |trace_state
   ·
    rw [if_pos (by rw [← V5,TU,TU,TU,TU,decide_eq_true_eq,decide_eq_true_eq,decide_eq_true_eq,decide_eq_true_eq];rintro ⟨⟨⟨a1,a2⟩,a3⟩,a4,a5⟩;exact hg ⟨a1,a2,a3,a4,a5⟩)] at hrec
    cases wi
    all_goals
     repeat' (first|(apply ak;exact rfl;apply aj (j:=i);exact rfl;exact rfl;omega)|(apply aa;exact rfl;exact rfl;(intro w hm;exact hR w))|(apply aa;exact rfl;exact rfl;(intro w hm;exact hW w))|refine sT ?_|refine sS ?_|refine sN ?_|refine sO ?_|refine sM fun _=> ?_|(refine sC ?_ ?_<;>intro hb<;>try omega)|fail)
    all_goals first
     |(exfalso;omega)
     |(exfalso;exact hg ⟨by omega,by omega,rfl,by omega,by omega⟩)
     |((refine rT2 ?_);rw [hrec];done)
     |trace_state
 ·
  have e:i=L.length:=by omega
  subst e
  rw [UB,ic] at hrec
  rw [hrec]
  repeat' (first|refine sT ?_|refine sS ?_|refine sM fun _=> ?_|(refine sC ?_ ?_<;>intro hb<;>try omega)|fail)
  all_goals first|(exfalso;omega)|((refine rT2 ?_);rfl)|trace_state
def ud (L:List Et) (R:List Rl) (N:List Gn):Bool:=
 decide (L.length≤40) && (decide (R.length≤10)||(decide ((dw 64 R).2≠0) && decide (R.length≤66))) && (decide (N.length≤10)||(decide (64<N.length) && decide (N.length<70)))
theorem z8 {L:List Et} {R:List Rl} {N:List Gn} (h:ud L R N=true):L.length≤40∧R.length≤66∧N.length<70:=by
 simp only [ud,TU,Vo,decide_eq_true_eq] at h
 omega
set_option maxHeartbeats 8000000 in
theorem IM (L:List Et) (R:List Rl) (N:List Gn) (lv rv nv:Value) (w:World) (hl:Reads w lv L.length (L.flatMap du)) (hr:Reads w rv R.length (R.flatMap bM)) (hn:Reads w nv N.length (N.flatMap bp)):aD Tryz.prog 85 [lv,rv,nv] w (.bool (ud L R N)):=by
 have h1:=fun (w' :World) (H:List Blk) (hm:Mem w w' H)=>qN 64 R _ w' (hr.of_w0 hm)
 obtain ⟨Al,cl,rfl,hl1,hl2,hl3⟩:=hl
 obtain ⟨Ar,cr,rfl,hr1,hr2,hr3⟩:=hr
 obtain ⟨An,cn,rfl,hn1,hn2,hn3⟩:=hn
 refine ax Tryz.func85 rfl Tryz.ntmps85 rfl ?_
 unfold ud
 generalize dw 64 R=ae at h1 ⊢
 clear hl3 hr3 hn3
 generalize L.length=nL at*
 generalize R.length=nR at*
 generalize N.length=nN at*
 repeat' (first|(apply aa (f:=65);exact rfl;exact rfl;(intro w' hm;exact h1 w' _ hm))|refine sT ?_|refine sS ?_|refine sM fun _=> ?_|(refine sC ?_ ?_<;>intro hb<;>try omega)|fail)
 all_goals first
  |(exfalso;omega)
  |((refine rT1 ?_);refine congrArg Value.bool (Uy.2 ?_);simp only [TU,Vo,decide_eq_true_eq,Ur,true_iff,false_iff];omega)
  |trace_state
theorem EN (L:List Et):(∃ e,e≠0∧rA L=(none,e))∨ ∃ G,rA L=(some G,0)∧GrOk G∧G.length≤L.length:=by
 rw [Cj]
 split
 ·
  rename_i h;exact .inl ⟨_,h,rfl⟩
 ·
  refine .inr ⟨_,rfl,E9 L yf,?_⟩
  have:=AR L []
  rw [U2] at this
  omega
def tz (L:List Et) (R:List Rl) (N:List Gn):Bool:=ud L R N && (decide ((dw 64 R).2=0) && (decide ((gQ 64 N).2=0) && decide ((rA L).2=0)))
theorem pI {L:List Et} {R:List Rl} {N:List Gn} (h:tz L R N=true):L.length≤40∧R.length≤66∧N.length<70∧(dw 64 R).2=0∧(gQ 64 N).2=0∧ ∃ G,rA L=(some G,0)∧GrOk G∧G.length≤40:=by
 simp only [tz,TU,decide_eq_true_eq] at h
 obtain ⟨h1,h2,h3,h4⟩:=h
 obtain ⟨k1,k2,k3⟩:=z8 h1
 refine ⟨k1,k2,k3,h2,h3,?_⟩
 rcases EN L with ⟨e,he,hn⟩|⟨G,hn,hG,hl⟩
 ·
  rw [hn] at h4;exact absurd h4 he
 ·
  exact ⟨G,hn,hG,by omega⟩
set_option maxHeartbeats 8000000 in
theorem mN (L:List Et) (R:List Rl) (N:List Gn) (lv rv nv:Value) (w:World) (hl:Reads w lv L.length (L.flatMap du)) (hr:Reads w rv R.length (R.flatMap bM)) (hn:Reads w nv N.length (N.flatMap bp)):aD Tryz.prog 32 [lv,rv,nv] w (.bool (tz L R N)):=by
 have h0:=fun (w' :World) (H:List Blk) (hm:Mem w w' H)=>IM L R N lv rv nv w' (hl.of_w0 hm) (hr.of_w0 hm) (hn.of_w0 hm)
 have h1:=fun (w' :World) (H:List Blk) (hm:Mem w w' H)=>qN 64 R rv w' (hr.of_w0 hm)
 have h2:=fun (w' :World) (H:List Blk) (hm:Mem w w' H)=>zl 64 N nv w' (hn.of_w0 hm)
 refine ax Tryz.func32 rfl Tryz.ntmps32 rfl ?_
 unfold tz
 generalize (dw 64 R).1=n1 at h1
 generalize (dw 64 R).2=e1 at h1 ⊢
 generalize (gQ 64 N).1=n2 at h2
 generalize (gQ 64 N).2=e2 at h2 ⊢
 cases hs:ud L R N with
 |false=>
  rw [hs] at h0
  rw [Bool.false_and]
  obtain ⟨Al,cl,rfl, -⟩:=hl
  obtain ⟨Ar,cr,rfl, -⟩:=hr
  obtain ⟨An,cn,rfl, -⟩:=hn
  repeat' (first|(apply aa (f:=85);exact rfl;exact rfl;(intro w' hm;exact h0 w' _ hm))|refine sT ?_|refine sS ?_|refine sM fun _=> ?_|(refine sC ?_ ?_<;>intro hb<;>try omega)|fail)
  all_goals first|(exfalso;omega)|((refine rT1 ?_);rfl)|trace_state
 |true=>
  rw [hs] at h0
  rw [VB]
  have hk:=(z8 hs).1
  have h3:=fun (w' :World) (H:List Blk) (hm:Mem w w' H)=>PH L lv w' (hl.of_w0 hm) (by omega)
  obtain ⟨Al,cl,rfl, -⟩:=hl
  obtain ⟨Ar,cr,rfl, -⟩:=hr
  obtain ⟨An,cn,rfl, -⟩:=hn
  rcases EN L with ⟨e,he,hn⟩|⟨G,hn, -, -⟩
  ·
   rw [hn] at h3 ⊢
   repeat' (first|(apply aa (f:=85);exact rfl;exact rfl;(intro w' hm;exact h0 w' _ hm))|(apply aa (f:=65);exact rfl;exact rfl;(intro w' hm;exact h1 w' _ hm))|(apply aa (f:=67);exact rfl;exact rfl;(intro w' hm;exact h2 w' _ hm))|(apply aF (f:=86);exact rfl;exact rfl;(intro w' hm;exact h3 w' _ hm);(rintro v H' ⟨rfl,rfl⟩))|refine sT ?_|refine sS ?_|refine sM fun _=> ?_|(refine sC ?_ ?_<;>intro hb<;>try omega)|fail)
   all_goals first
    |(exfalso;omega)
    |((refine rT1 ?_);refine congrArg Value.bool (Uy.2 ?_);simp only [TU,decide_eq_true_eq,Ur,true_iff,false_iff];omega)
    |trace_state
  ·
   rw [hn] at h3 ⊢
   repeat' (first|(apply aa (f:=85);exact rfl;exact rfl;(intro w' hm;exact h0 w' _ hm))|(apply aa (f:=65);exact rfl;exact rfl;(intro w' hm;exact h1 w' _ hm))|(apply aa (f:=67);exact rfl;exact rfl;(intro w' hm;exact h2 w' _ hm))|(apply aF (f:=86);exact rfl;exact rfl;(intro w' hm;exact h3 w' _ hm);(rintro v H' ⟨gr,A2,c2,Q,R2,rfl,rfl,hB⟩))|refine sT ?_|refine sS ?_|refine sM fun _=> ?_|(refine sC ?_ ?_<;>intro hb<;>try omega)|fail)
   all_goals first
    |(exfalso;omega)
    |((refine rT1 ?_);simp [*];done)
    |((refine rT1 ?_);refine congrArg Value.bool (Uy.2 ?_);simp only [TU,decide_eq_true_eq,Ur,true_iff,false_iff];omega)
    |trace_state
theorem qi (L:List Et) {G:Gr} (hG:rA L=(some G,0)) (hk:L.length≤40) (lv:Value) (w:World) (hl:Reads w lv L.length (L.flatMap du)) (hW:Words w):FnAt Tryz.prog 33 [lv] w fun v H=> ∃ gg gm E clock R,v= .pointer (some ⟨gg,0,none⟩)∧H=gB gg gm (E.map En.m) clock++R∧GOk R E clock G:=by
 have hN: ∀ (w' :World) (H:List Blk),Mem w w' H→FnAt Tryz.prog 39 [lv] w' fun v H=> ∃ gg gm E clock R,v= .tuple #[.pointer (some ⟨gg,0,none⟩),.int .i64 0]∧H=gB gg gm (E.map En.m) clock++R∧GOk R E clock G:=by
  intro w' H hm
  have h1:=IQ L lv w' (hl.of_w0 hm) (by omega) (hW.next hm)
  rw [hG] at h1
  exact h1
 obtain ⟨Al,cl,rfl, -⟩:=hl
 refine ax Tryz.func33 rfl Tryz.ntmps33 rfl ?_
 repeat' (first|(apply aF (f:=39);exact rfl;exact rfl;(intro w' hm;exact hN w' _ hm);rintro _ _ ⟨gg,gm,E,clock,R,rfl,rfl,hA⟩)|refine sT ?_|refine sS ?_|refine sM fun _=> ?_|(refine sC ?_ ?_<;>intro hb<;>try omega)|fail)
 all_goals first
  |(exfalso;omega)
  |exact cA eIO rfl rfl (H' :=gB gg gm (E.map En.m) clock++R) (MSub.appL _ _) ⟨gg,gm,E,clock,R,rfl,rfl,hA⟩
  |trace_state
end Go.SL
namespace Go.SL
open Go
def lY (f:Rl→BitVec 64) (L:List Rl) (a:Rf):BitVec 64:=(L[gh L a]?.map f).getD 0#64
theorem uP {L:List Rl} (h:(dw 64 L).2=0) {a:Rf} (ha:a.valid=true):(atE a L).1.1=lY (fun x=>x.read) L a∧(atE a L).2=0:=by
 have hw:(rU a L).2=0:=by
  unfold rU
  rw [if_neg (by rw [ha];decide),if_neg (by rw [h];decide)]
 unfold atE
 rw [if_neg (by rw [hw];decide)]
 refine ⟨?_,rfl⟩
 unfold atR lY
 cases L[gh L a]? <;>rfl
end Go.SL
namespace Go.SL
open Go Go.Proofs
attribute [local irreducible] W WL WQ WG WA WX WLI WR WT WC WE VOp RW thn blk bF scp ba aZ bC FnAt FnIn FnP ceP gA cP dR
theorem KV (X:List Blk) (e a b:Blk):MSub (a::b::X) (X++ [e,a,b]):=
 ⟨[e],(Ut (l₁:=X) (l₂:= [e,a,b])).trans (Ut (l₁:= [e]) (l₂:=a::b::X))⟩
theorem tM {a:Rf} {gg:Nat} {G:Gr} {B F:List Blk} {w0:World} {L:List Rl} {N:List Gn} {x:BitVec 64} {e:Int} (h:zq G L N a=(x,e)) (R:Rdr gg G B w0) (hB:MSub B F) (Al An:Option Addr) (cl cn:Nat) (hl: ∀ w',Mem w0 w' F→Reads w' (.slice Al L.length cl) L.length (L.flatMap bM)) (hn: ∀ w',Mem w0 w' F→Reads w' (.slice An N.length cn) N.length (N.flatMap bp)) (hN:N.length≤1000000):
  FnIn Tryz.prog 35 [.pointer (some ⟨gg,0,none⟩),aY a,.slice Al L.length cl,.slice An N.length cn] w0 F fun v H' =>v= .tuple #[vS x,.int .i64 e]∧H' =F:=by
 have h1:=OI a gg G B F w0 R hB L N Al An cl cn hl hn hN
 rw [h] at h1
 exact h1
set_option maxHeartbeats 4000000 in
theorem n9 (w:World) (hW:Words w):aD Tryz.prog 37 [] w (.bool true):=by
 have hN: ∀ (w' :World) (H:List Blk) (tv:Value),Mem w w' H→Reads w' tv AU.length (AU.flatMap du)→FnAt Tryz.prog 39 [tv] w' fun v H=> ∃ gg gm E clock R,v= .tuple #[.pointer (some ⟨gg,0,none⟩),.int .i64 0]∧H=gB gg gm (E.map En.m) clock++R∧GOk R E clock exG:=by
  intro w' H tv hm ht
  have h1:=IQ AU tv w' ht (by decide) (hW.next hm)
  rw [NZ] at h1
  exact h1
 refine ax Tryz.func37 rfl Tryz.ntmps37 rfl ?_
 repeat' (first|(apply aF (f:=49);exact rfl;exact rfl;(intro w' hm;exact L5 w');rintro _ _ ⟨ge,gr,gn,rfl,rfl⟩)|(apply aF (f:=39);exact rfl;exact rfl;(intro w' hm;exact hN w' _ _ hm (Reads.of_own (A:=some _) hm pK));rintro _ _ ⟨gg,gm,E,clock,R,rfl,rfl,hG⟩;refine pW (.own (some gr) 38 7 2 2 (bkR.flatMap bM):: .own (some gn) 56 8 1 1 (bkN.flatMap bp)::(gB gg gm (E.map En.m) clock++R)) (KV _ _ _ _) ?_)|(apply au (d:=30);exact rfl;exact rfl;exact tM Tn (hG.rdr N7 (by decide) gg gm w) (MSub.drop .hd (MSub.drop .hd (MSub.refl _))) (some ⟨gr,0,none⟩) (some ⟨gn,0,none⟩) 2 1 (fun w' hm=>Reads.of_own (A:=some gr) hm .hd) (fun w' hm=>Reads.of_own (A:=some gn) hm (.tl .hd)) (by decide);rintro _ _ ⟨rfl,rfl⟩)|(apply au (d:=37);exact rfl;exact rfl;exact tM Tp (hG.rdr N7 (by decide) gg gm w) (MSub.drop .hd (MSub.drop .hd (MSub.refl _))) (some ⟨gr,0,none⟩) none 2 0 (fun w' hm=>Reads.of_own (A:=some gr) hm .hd) (fun w' hm=>qd w') (by decide);rintro _ _ ⟨rfl,rfl⟩)|(apply ak;exact rfl;apply p9 (b:=3#64);exact rfl;exact rfl)|(apply ak;exact rfl;apply p9 (b:=1#64);exact rfl;exact rfl)|refine sT ?_|refine sS ?_|refine sM fun _=> ?_|(refine sC ?_ ?_<;>intro hb<;>try omega)|fail)
 all_goals first
  |(exfalso;omega)
  |((refine rT1 ?_);rfl)
  |trace_state
section
variable {a:Rf} {gg:Nat} {G:Gr} {B F:List Blk} {w0:World} {L:List Rl} {N:List Gn} {x:BitVec 64} {e:Int} (R:Rdr gg G B w0) (hB:MSub B F) (Al An:Option Addr) (cl cn:Nat) (hl: ∀ w',Mem w0 w' F→Reads w' (.slice Al L.length cl) L.length (L.flatMap bM)) (hn: ∀ w',Mem w0 w' F→Reads w' (.slice An N.length cn) N.length (N.flatMap bp)) (hN:N.length≤1000000)
include R hB hl hn hN
theorem FW {r:Rct} (h:KD G L N r=(x,e)):FnIn Tryz.prog 43 [.pointer (some ⟨gg,0,none⟩),.agg (aN r).toArray,.slice Al L.length cl,.slice An N.length cn] w0 F fun v H' =>v= .tuple #[vS x,.int .i64 e]∧H' =F:=by
 have h1:=OE r gg G B F w0 R hB L N Al An cl cn hl hn hN
 rw [h] at h1
 exact h1
theorem Qv {n:Int} (h:LI G L N a n=(x,e)):FnIn Tryz.prog 45 [.pointer (some ⟨gg,0,none⟩),.agg #[.int .i64 a.col,.int .i64 a.row,.int .i64 n],.slice Al L.length cl,.slice An N.length cn] w0 F fun v H' =>v= .tuple #[vS x,.int .i64 e]∧H' =F:=by
 have h1:=Qw a n gg G B F w0 R hB L N Al An cl cn hl hn hN
 rw [h] at h1
 exact h1
end
end Go.SL
