/-
  Lemmas and walks, put together: Ik Il Ii.
-/
import Derived.Test.YthefeclkaaocnaaGreatDoorKj29
set_option linter.unusedSimpArgs false
set_option linter.unusedVariables false
set_option maxRecDepth 20000
namespace Go.SL
open Go Go.Proofs
attribute [local irreducible] W WL WQ WG WA WX WLI WR WT WC WE VOp RW thn blk bG scp bg bi bT aQ FnIn FnP ceP
structure Bo where
 e:Option Nat
 r:Option Nat
 g:Option Nat
 l:Option Nat
 s:Option Nat
 ce:Nat
 cr:Nat
 cg:Nat
 cl:Nat
 cs:Nat
def adr (A:Option Nat):Option Addr:=A.map fun g=>⟨g,0,none⟩
def Bo.v (a:Bo):Bv:=⟨adr a.e,adr a.r,adr a.g,adr a.l,adr a.s,a.ce,a.cr,a.cg,a.cl,a.cs⟩
def bz (b:Bk) (a:Bo):List Blk:= [.own a.e 53 3 b.ents.length a.ce (b.ents.flatMap aJ),.own a.r 38 7 b.rules.length a.cr (b.rules.flatMap bn),.own a.g 56 8 b.grants.length a.cg (b.grants.flatMap bA),.own a.l 48 9 b.log.length a.cl (b.log.flatMap aL),.own a.s 70 11 b.rels.length a.cs (b.rels.flatMap bU)]
theorem BRd.of_rows {w0 w:World} {H:List Blk} {b:Bk} {a:Bo} (hm:Mem w0 w H) (h1:In (.own a.e 53 3 b.ents.length a.ce (b.ents.flatMap aJ)) H) (h2:In (.own a.r 38 7 b.rules.length a.cr (b.rules.flatMap bn)) H) (h3:In (.own a.g 56 8 b.grants.length a.cg (b.grants.flatMap bA)) H) (h4:In (.own a.l 48 9 b.log.length a.cl (b.log.flatMap aL)) H) (h5:In (.own a.s 70 11 b.rels.length a.cs (b.rels.flatMap bU)) H):BRd w b a.v:=
 ⟨Reads.of_own (A:=a.e) hm h1,Reads.of_own (A:=a.r) hm h2,Reads.of_own (A:=a.g) hm h3,Reads.of_own (A:=a.l) hm h4,Reads.of_own (A:=a.s) hm h5⟩
structure Small (b:Bk):Prop where
 e:b.ents.length≤1000000
 r:b.rules.length≤1000000
 g:b.grants.length≤1000000
 l:b.log.length≤1000000
 s:b.rels.length≤1000000
set_option maxHeartbeats 4000000 in
theorem Gk (b:Bk) (x:Bv) (w:World) (h:BRd w b x) (hs:Small b):aQ Tryz.prog 28 [.agg (aW b x).toArray] w fun v H=> ∃ a:Bo,v= .agg (aW b a.v).toArray∧H=bz b a:=by
 refine aq Tryz.func28 rfl Tryz.ntmps28 rfl ?_
 have h1:=fun (w' :World) (H:List Blk) (hm:Mem w w' H)=>DT b.ents _ w' (h.e.of_w0 hm) hs.e
 have h2:=fun (w' :World) (H:List Blk) (hm:Mem w w' H)=>DQ b.rules _ w' (h.r.of_w0 hm) hs.r
 have h3:=fun (w' :World) (H:List Blk) (hm:Mem w w' H)=>DR b.grants _ w' (h.g.of_w0 hm) hs.g
 have h4:=fun (w' :World) (H:List Blk) (hm:Mem w w' H)=>DS b.log _ w' (h.l.of_w0 hm) hs.l
 have h5:=fun (w' :World) (H:List Blk) (hm:Mem w w' H)=>DP b.rels _ w' (h.s.of_w0 hm) hs.s
 repeat' (first|(apply aG (f:=76);exact rfl;exact rfl;(intro w' hm;exact h1 w' _ hm);rintro _ _ ⟨A1,c1,rfl,rfl⟩)|(apply aG (f:=77);exact rfl;exact rfl;(intro w' hm;exact h2 w' _ hm);rintro _ _ ⟨A2,c2,rfl,rfl⟩)|(apply aG (f:=78);exact rfl;exact rfl;(intro w' hm;exact h3 w' _ hm);rintro _ _ ⟨A3,c3,rfl,rfl⟩)|(apply aG (f:=79);exact rfl;exact rfl;(intro w' hm;exact h4 w' _ hm);rintro _ _ ⟨A4,c4,rfl,rfl⟩)|(apply aG (f:=80);exact rfl;exact rfl;(intro w' hm;exact h5 w' _ hm);rintro _ _ ⟨A5,c5,rfl,rfl⟩)|refine sT ?_|refine sS ?_|refine sM fun _=> ?_|(refine sC ?_ ?_<;>intro hb<;>try omega)|fail)
 exact zz (.inl rfl) rfl rfl pK rfl (H' :=bz b ⟨A1,A2,A3,A4,A5,c1,c2,c3,c4,c5⟩) (by unfold bz;exact mS) ⟨⟨A1,A2,A3,A4,A5,c1,c2,c3,c4,c5⟩,rfl,rfl⟩
def F7 (a b:Bk):Bool:=decide (a.users=b.users) && decide (a.step=b.step) && decide (a.ents=b.ents) && decide (a.rules=b.rules) && decide (a.grants=b.grants) && decide (a.log=b.log) && decide (a.rels=b.rels)
theorem Jl {a b:Bk}:F7 a b=true↔a=b:=by
 obtain ⟨a1,a2,a3,a4,a5,a6,a7⟩:=a
 obtain ⟨b1,b2,b3,b4,b5,b6,b7⟩:=b
 simp only [F7,NK,decide_eq_true_eq,Bk.mk.injEq]
 exact ⟨fun ⟨⟨⟨⟨⟨⟨h1,h2⟩,h3⟩,h4⟩,h5⟩,h6⟩,h7⟩=>⟨h1,h3,h4,h5,h6,h7,h2⟩,fun ⟨h1,h3,h4,h5,h6,h7,h2⟩=>⟨⟨⟨⟨⟨⟨h1,h2⟩,h3⟩,h4⟩,h5⟩,h6⟩,h7⟩⟩
set_option maxHeartbeats 8000000 in
theorem Dy (a b:Bk) (x y:Bv) (w:World) (h:BRd w a x) (k:BRd w b y):ax Tryz.prog 25 [.agg (aW a x).toArray,.agg (aW b y).toArray] w (.bool (F7 a b)):=by
 refine aq Tryz.func25 rfl Tryz.ntmps25 rfl ?_
 have h1:=fun (w' :World) (H:List Blk) (hm:Mem w w' H)=>DM a.ents b.ents _ _ w' (h.e.of_w0 hm) (k.e.of_w0 hm)
 have h2:=fun (w' :World) (H:List Blk) (hm:Mem w w' H)=>DJ a.rules b.rules _ _ w' (h.r.of_w0 hm) (k.r.of_w0 hm)
 have h3:=fun (w' :World) (H:List Blk) (hm:Mem w w' H)=>DK a.grants b.grants _ _ w' (h.g.of_w0 hm) (k.g.of_w0 hm)
 have h4:=fun (w' :World) (H:List Blk) (hm:Mem w w' H)=>DL a.log b.log _ _ w' (h.l.of_w0 hm) (k.l.of_w0 hm)
 have h5:=fun (w' :World) (H:List Blk) (hm:Mem w w' H)=>DI a.rels b.rels _ _ w' (h.s.of_w0 hm) (k.s.of_w0 hm)
 unfold F7
 generalize decide (a.ents=b.ents)=c1 at h1 ⊢
 generalize decide (a.rules=b.rules)=c2 at h2 ⊢
 generalize decide (a.grants=b.grants)=c3 at h3 ⊢
 generalize decide (a.log=b.log)=c4 at h4 ⊢
 generalize decide (a.rels=b.rels)=c5 at h5 ⊢
 repeat' (first|(apply aa (f:=69);exact rfl;exact rfl;(intro w' hm;exact h1 w' _ hm))|(apply aa (f:=70);exact rfl;exact rfl;(intro w' hm;exact h2 w' _ hm))|(apply aa (f:=71);exact rfl;exact rfl;(intro w' hm;exact h3 w' _ hm))|(apply aa (f:=72);exact rfl;exact rfl;(intro w' hm;exact h4 w' _ hm))|(apply aa (f:=73);exact rfl;exact rfl;(intro w' hm;exact h5 w' _ hm))|refine sT ?_|refine sS ?_|refine sM fun _=> ?_|(refine sC ?_ ?_<;>intro hb<;>try omega)|fail)
 all_goals first
  |(exfalso;omega)
  |((refine rT1 ?_);simp_all;done)
  |trace_state
def mf (a:Rf) (L:List Et):ByteArray:=match L.find? (fun e=>decide (e.at_=a)) with|some e=>e.input|none=>au
def Au (b:Bk) (a:Rf):ByteArray × Int:=if bkE b≠0 then (au,bkE b) else if a.valid=false then (au,3) else (mf a b.ents,0)
set_option maxHeartbeats 8000000 in
theorem pw (b:Bk) (x:Bv) (a:Rf) (w:World) (h:BRd w b x) (hW:Words w) (hlen:b.ents.length≤1000000):ax Tryz.prog 19 [.agg (aW b x).toArray,.agg (cu a).toArray] w (.tuple #[.string (Au b a).1,.int .i64 (Au b a).2]):=by
 refine aq Tryz.func19 rfl Tryz.ntmps19 rfl ?_
 have hC:=fun (w' :World) (H:List Blk) (hm:Mem w w' H)=>iF b x w' (h.of_w0 hm) (hW.next hm) hlen
 have hV: ∀ w',ax Tryz.prog 64 [.agg (cu a).toArray] w' (.bool a.valid):=fun w' =>jL a.col a.row w'
 unfold Au
 generalize bkE b=e at hC ⊢
 by_cases he:e≠0
 ·
  rw [if_pos he]
  repeat' (first|(apply aa (f:=12);exact rfl;exact rfl;(intro w' hm;exact hC w' _ hm))|refine sT ?_|refine sS ?_|refine sM fun _=> ?_|(refine sC ?_ ?_<;>intro hb<;>try omega)|fail)
  all_goals first|(exfalso;omega)|((refine rT2 ?_);rfl)|trace_state
 rw [if_neg he]
 cases hv:a.valid
 ·
  rw [if_pos rfl]
  rw [hv] at hV
  repeat' (first|(apply aa (f:=12);exact rfl;exact rfl;(intro w' hm;exact hC w' _ hm))|(apply aa;exact rfl;exact rfl;(intro w hm;exact hV w))|refine sT ?_|refine sS ?_|refine sM fun _=> ?_|(refine sC ?_ ?_<;>intro hb<;>try omega)|fail)
  all_goals first|(exfalso;omega)|((refine rT2 ?_);rfl)|trace_state
 rw [if_neg (by decide)]
 rw [hv] at hV
 have hx:=h.e
 obtain ⟨us,E,RU,G,L,M,st⟩:=b
 obtain ⟨ae1,ar1,ag1,al1,as1,ce1,cr1,cg1,cl1,cs1⟩:=x
 dsimp only at*
 obtain ⟨Ae,ce2,ee,he1,he2,he3⟩:=hx
 cases ee
 simp only [aW] at hC ⊢
 repeat' (first|(apply aa (f:=12);exact rfl;exact rfl;(intro w' hm;exact hC w' _ hm))|(apply aa;exact rfl;exact rfl;(intro w hm;exact hV w))|refine sT ?_|refine sS ?_|refine sM fun _=> ?_|(refine sC ?_ ?_<;>intro hb<;>try omega)|fail)
 all_goals try (exfalso;omega)
 rename_i g2 g3
 refine ay [3,18,19] rfl (fun i:Nat=> [(20,.int .i64 (i:Int))]) (fun _=> [.box g3 51 (cu a)]) (fun i=>i≤E.length∧mf a E=mf a (E.drop i)) (fun i=>E.length - i) 0 ⟨by omega,rfl⟩ sB mS ?_
 rintro i ⟨hi,hrec⟩
 by_cases hlt:i<E.length
 ·
  obtain ⟨ge,oe,rfl,hre⟩:=he3 (by omega)
  have hre1:=hre.elem bo i hlt
  have hin:mf a (E.drop i)=if E[i].at_=a then E[i].input else mf a (E.drop (i+1)):=by
   rw [NL hlt,mf,P0]
   by_cases hh:E[i].at_=a
   ·
    rw [decide_eq_true hh,if_pos hh]
   ·
    rw [decide_eq_false hh,if_neg hh];rfl
  rw [hin] at hrec
  clear hin
  generalize E[i]=y at hre1 hrec
  obtain ⟨c,hc⟩: ∃ c,decide (y.at_=a)=c:=⟨_,rfl⟩
  cases c with
  |true=>
   rw [if_pos (by simpa using hc)] at hrec
   rw [hrec]
   repeat' (first|(apply ak;exact rfl;apply aj (j:=i);exact rfl;exact rfl;exact hlt)|(apply ak;exact rfl;apply aA;exact rfl;exact hre1;exact rfl)|(apply ak;exact rfl;apply wn hc;exact rfl;exact rfl)|refine sT ?_|refine sS ?_|refine sN ?_|refine sM fun _=> ?_|(refine sC ?_ ?_<;>intro hb<;>try omega)|fail)
   all_goals first|(exfalso;omega)|((refine rT2 ?_);rfl)|trace_state
  |false=>
   rw [if_neg (by simpa using hc)] at hrec
   repeat' (first|(apply ak;exact rfl;apply aj (j:=i);exact rfl;exact rfl;exact hlt)|(apply ak;exact rfl;apply aA;exact rfl;exact hre1;exact rfl)|(apply ak;exact rfl;apply wn hc;exact rfl;exact rfl)|refine sT ?_|refine sS ?_|refine sN ?_|refine sM fun _=> ?_|(refine sC ?_ ?_<;>intro hb<;>try omega)|fail)
   all_goals first
    |(exfalso;omega)
    |(refine ⟨i+1,⟨hlt,hrec⟩,by omega,by exact sB,by exact sB,by exact mS⟩;done)
    |trace_state
 ·
  have e:i=E.length:=by omega
  subst e
  rw [NW] at hrec
  rw [hrec]
  repeat' (first|refine sT ?_|refine sS ?_|refine sM fun _=> ?_|(refine sC ?_ ?_<;>intro hb<;>try omega)|fail)
  all_goals first|(exfalso;omega)|((refine rT2 ?_);rfl)|trace_state
end Go.SL
namespace Go.SL
open Go Go.Proofs
attribute [local irreducible] W WL WQ WG WA WX WLI WR WT WC WE RW thn blk bG scp bg bi bT aQ FnIn FnP ceP
section
variable {P:Program} {w0:World} {s:az} {H:List Blk} {ty:TypeId}
theorem G7 {t e hi m c sz:Nat} {A:Option Nat} {x q r:Operand} {k k' :IntKind} [ht:Und P t (.slice e)] [hz:Size P e sz] (hx:ev s x=some (sl A m c)) (hq:ev s q=some (.int k (hi:Nat))) (hr:ev s r=some (.int k' (hi:Nat))) (h2:hi≤c):
  VOp P w0 s H (.slice t x none (some q) (some r)) ty (sl A hi hi):=fun ρ w _ _ _ _ hρ _=>by
 obtain ⟨i,hi1,hi2⟩:=hz.out
 have e2:((hi:Nat):Int)≤((c:Nat):Int):=by omega
 have e3:((0:Nat):Int)≤((hi:Nat):Int):=by omega
 have e4:(A.map fun g=>(⟨g,0,none⟩:Addr)).map (·.add 0)=A.map fun g=>⟨g,0,none⟩:=by cases A<;>simp [cH]
 unfold sl at hx ⊢
 simp [execOp,hρ x _ hx,hρ q _ hq,hρ r _ hr,Instr.sliceAt,run_underlying ht.out,Instr.slice,Instr.sliceBounds,Instr.sliceBound,asIntOf,sizeOf,typeInfo,hi1,h2]
 intro _
 cases A<;>simp [cH]
end
attribute [local irreducible] VOp
theorem FF {w0 w:World} {H:List Blk} {A:Option Nat} {cap i:Nat} {L:List Et} (hm:Mem w0 w H) (hi:In (.own A 53 3 L.length cap (L.flatMap aJ)) H) (h:i≤L.length):Reads w (sl A i i) i ((L.take i).flatMap aJ):=by
 have h1:=Reads.of_own hm hi
 obtain ⟨A',c',e,h2,h3,h4⟩:=h1
 unfold sl at e
 cases e
 refine ⟨_,_,rfl,NJ _,by omega,fun hp=> ?_⟩
 obtain ⟨g,o,e,hr⟩:=h4 (by omega)
 refine ⟨g,o,e,?_⟩
 rw [← jF bo]
 exact hr.take
set_option maxHeartbeats 8000000 in
theorem F4 (L:List Et) (i:Nat) (hi:i≤L.length) (x:Et) (A:Option Nat) (cap:Nat) (hL:L.length≤1000000) (w0:World) (R:List Blk):
  FnIn Tryz.prog 61 [sl A L.length cap,.int .i64 (i:Int),.agg (aJ x).toArray] w0 (.own A 53 3 L.length cap (L.flatMap aJ)::R) fun v H=> ∃ A' c,v=sl A' (L.length+1) c∧H= .own A' 53 3 (L.length+1) c ((L.take i++x::L.drop i).flatMap aJ)::R:=by
 refine eC Tryz.func61 rfl Tryz.ntmps61 rfl ?_
 refine LO (A:=A) .hd fun hle=> ?_
 repeat' (first|refine sT ?_|refine sS ?_|refine sM fun _=> ?_|(refine sC ?_ ?_<;>intro hb<;>try omega)|fail)
 rename_i g5
 have hrd:=fun (w:World) (H:List Blk) (hi2:In (.own A 53 3 L.length cap (L.flatMap aJ)) H) (hm:Mem w0 w H)=>FF hm hi2 hi
 have hdr:(((L.flatMap aJ).drop (i*3)).take ((L.length - i)*3))=(L.drop i).flatMap aJ:=by
  rw [lH bo]
  exact N9 (by rw [aI bo,NP];exact NJ _)
 have hrd2:=fun (w:World) (H:List Blk) (hi2:In (.own A 53 3 L.length cap (L.flatMap aJ)) H) (hm:Mem w0 w H)=>hdr ▸ (Reads.of_own hm hi2).cut (lo:=i) (hi:=L.length) hi (NJ _)
 refine dX (id:=1) [5,6,10] [] [.box g5 53 (aJ x),.own A 53 3 L.length cap (L.flatMap aJ)] (by kernel_rfl) (by kernel_rfl) (by kernel_rfl) mS ?_
 repeat' (first|(apply cC (d:=10);(iterate 3 exact rfl);apply G7 (hi:=i);(iterate 3 exact rfl);omega)|(apply cC (d:=16);(iterate 3 exact rfl);apply lO (lo:=i) (hi:=L.length);exact rfl;exact ⟨_,rfl⟩;exact rfl;exact hi;exact hle)|(apply BQ (d:=13) (n' :=i) (m:=1);(iterate 3 exact rfl);(intro w hm;exact hrd w _ pK hm);exact aI bo _|>.trans (by rw [NZ];congr 1;omega);(intro w hm;exact hm.cells_own pK);exact rfl;(intro u hu;simp [aJ] at hu;rcases hu with rfl|rfl|rfl<;>rfl);omega;omega;(simp only [maxLen];omega);intro g13 c13)|(apply eW (d:=17) (n' :=i+1) (m:=L.length - i);(iterate 3 exact rfl);exact pK;(intro w hm;exact hrd2 w _ pK hm);(rw [aI bo,NP]);exact uX _;omega;(simp only [maxLen];omega);intro A17 c17 h17)|refine sT ?_|refine sS ?_|refine sW ?_|refine sM fun _=> ?_|(refine sC ?_ ?_<;>intro hb<;>try omega)|(refine sCW ?_ ?_<;>intro hb<;>try omega)|fail)
 have e1:i+1+(L.length - i)=L.length+1:=by omega
 have e2:(L.take i++x::L.drop i).flatMap aJ=(L.take i).flatMap aJ++ [.int .i64 x.at_.col,.int .i64 x.at_.row,.string x.input]++(L.drop i).flatMap aJ:=by
  rw [NR,NU,OA]
  rfl
 rw [e2,e1]
 exact dF (.inl rfl) rfl rfl (H' := .own A17 53 3 (L.length+1) c17 ((L.take i).flatMap aJ++ [.int .i64 x.at_.col,.int .i64 x.at_.row,.string x.input]++(L.drop i).flatMap aJ)::R) mS ⟨A17,c17,rfl,rfl⟩
end Go.SL
namespace Go.SL
open Go Go.Proofs
attribute [local irreducible] W WL WQ WG WA WX WLI WR WT WC WE VOp RW thn blk bG scp bg bi bT aQ FnIn FnP ceP
def MX:Nat→Int
 |0=>1|1=>2|2=>4|3=>2|4=>8|5=>5|6=>6|_=>7
theorem Mz {b:Bk} {o:Ox} {i:Nat} (hi:i<8) (h:tst b o i=true) (hno: ∀ j,j<i→tst b o j=false):cdE b o=(MX i,if i=6 then (ofP o.input).2.1 else 0):=by
 rcases (by omega:i=0∨i=1∨i=2∨i=3∨i=4∨i=5∨i=6∨i=7) with rfl|rfl|rfl|rfl|rfl|rfl|rfl|rfl
 ·
  unfold cdE;rw [h];rfl
 ·
  unfold cdE;rw [hno 0 (by omega),h];rfl
 ·
  unfold cdE;rw [hno 0 (by omega),hno 1 (by omega),h];rfl
 ·
  unfold cdE;rw [hno 0 (by omega),hno 1 (by omega),hno 2 (by omega),h];rfl
 ·
  unfold cdE;rw [hno 0 (by omega),hno 1 (by omega),hno 2 (by omega),hno 3 (by omega),h];rfl
 ·
  unfold cdE;rw [hno 0 (by omega),hno 1 (by omega),hno 2 (by omega),hno 3 (by omega),hno 4 (by omega),h];rfl
 ·
  unfold cdE;rw [hno 0 (by omega),hno 1 (by omega),hno 2 (by omega),hno 3 (by omega),hno 4 (by omega),hno 5 (by omega),h];rfl
 ·
  unfold cdE;rw [hno 0 (by omega),hno 1 (by omega),hno 2 (by omega),hno 3 (by omega),hno 4 (by omega),hno 5 (by omega),hno 6 (by omega),h];rfl
theorem My {b:Bk} {o:Ox} (hno: ∀ j,j<8→tst b o j=false):cdE b o=(0,0):=by
 unfold cdE
 rw [hno 0 (by omega),hno 1 (by omega),hno 2 (by omega),hno 3 (by omega),hno 4 (by omega),hno 5 (by omega),hno 6 (by omega),hno 7 (by omega)]
 rfl
theorem LZ {b:Bk} {o:Ox} (h:tst b o 4=false) (h9:o.kind=9):0≤o.idx∧o.idx<(b.grants.length:Int):=by
 have ht:tst b o 4=(decide (o.kind=9) && (decide (o.idx<0)||decide ((b.grants.length:Int)≤o.idx)||FD b o)):=rfl
 rw [ht,decide_eq_true h9,O8,PA,PA,decide_eq_false_iff_not,decide_eq_false_iff_not] at h
 omega
theorem Gc {b:Bk} {o:Ox} {go gat:Nat} {w0:World} {H T:List Blk} (hW:Words w0) (hs:Sel (.box gat 3 [.int .i64 0]) H T) (hgo:In (.box go 41 (bu o)) T):
  FnIn Tryz.prog 119 [.pointer (some ⟨go,0,none⟩),.pointer (some ⟨gat,0,none⟩)] w0 H fun v H' =>v= .bool (tst b o 6)∧H' = .box gat 3 [.int .i64 (if tst b o 6 then (ofP o.input).2.1 else 0)]::T:=
 FnIn.msub (Jw hW hgo) (MSub.pick hs (MSub.refl _))
set_option maxHeartbeats 16000000 in
theorem K8 (b:Bk) (x:Bv) (o:Ox) (gb:Nat) (w:World) (hbk:Ro w gb 0 (aW b x)) (hr:BRd w b x) (hW:Words w):ax Tryz.prog 54 [.pointer (some ⟨gb,0,none⟩),.agg (bu o).toArray] w (.tuple #[.int .u8 (cdE b o).1,.int .i64 (cdE b o).2]):=by
 refine aq Tryz.func54 rfl Tryz.ntmps54 rfl ?_
 have hA:=fun w=>yO b.users w
 have hT:=fun w=>xg o w
 have hbk' :=hbk
 simp only [aW] at hbk
 repeat' (first|(apply ak;exact rfl;apply cI;exact rfl;exact hbk;exact rfl)|(apply ak;exact rfl;apply aH (o:=0) (off:=0);exact hbk;exact rfl;exact rfl)|(apply aa;exact rfl;exact rfl;(intro w hm;exact hA w))|(apply aa;exact rfl;exact rfl;(intro w hm;exact hT w))|refine sT ?_|refine sS ?_|refine sM fun _=> ?_|(refine sC ?_ ?_<;>intro hb<;>try omega)|fail)
 rename_i g2 g3 g6 g8 g9 g10 gs
 have hR:=fun (h5:tst b o 4=false) (w' :World) (H:List Blk) (hm:Mem w w' H)=>tY b x o gb w' (hbk'.next hm) (hr.of_w0 hm) (LZ h5)
 refine ay [2,3,6,8,9,10,42,43] rfl (fun i:Nat=> [(44,.int .i64 (i:Int))]) (fun _=> [.own (some gs) 200 2 8 8 [.int .u8 1,.func (.func 111) #[] #[.pointer (some ⟨g3,0,none⟩)],.int .u8 2,.func (.func 113) #[] #[.pointer (some ⟨g3,0,none⟩),.pointer (some ⟨g2,0,none⟩)],.int .u8 4,.func (.func 114) #[] #[.pointer (some ⟨g9,0,none⟩),.pointer (some ⟨g8,0,none⟩)],.int .u8 2,.func (.func 115) #[] #[.pointer (some ⟨g3,0,none⟩),.pointer (some ⟨g6,0,none⟩)],.int .u8 8,.func (.func 116) #[] #[.pointer (some ⟨g3,0,none⟩),.pointer (some ⟨g2,0,none⟩)],.int .u8 5,.func (.func 117) #[] #[.pointer (some ⟨g2,0,none⟩),.pointer (some ⟨g3,0,none⟩)],.int .u8 6,.func (.func 119) #[] #[.pointer (some ⟨g3,0,none⟩),.pointer (some ⟨g10,0,none⟩)],.int .u8 7,.func (.func 120) #[] #[.pointer (some ⟨g8,0,none⟩),.pointer (some ⟨g3,0,none⟩),.pointer (some ⟨g2,0,none⟩)]],.box g10 3 [.int .i64 0],.box g9 4 [.bool (kM o).2],.box g8 33 (bQ (kM o).1),.box g6 34 [vS (db b.users).1],.box g3 41 (bu o),.box g2 123 [.pointer (some ⟨gb,0,none⟩)]]) (fun i=>i≤8∧ ∀ j,j<i→tst b o j=false) (fun i=>8 - i) 0 ⟨by omega,fun j h=>by omega⟩ sB mS ?_
 rintro i ⟨hi,hno⟩
 by_cases hlt:i<8
 ·
  obtain ⟨c,hc⟩: ∃ c,tst b o i=c:=⟨_,rfl⟩
  have hcd:c=true→cdE b o=(MX i,if i=6 then (ofP o.input).2.1 else 0):=fun e=>Mz hlt (hc.trans e) hno
  have hnx:c=false→ ∀ j,j<i+1→tst b o j=false:=fun e j hj=>by
   rcases (by omega:j<i∨j=i) with h|rfl
   ·
    exact hno j h
   ·
    exact hc.trans e
  rcases (by omega:i=0∨i=1∨i=2∨i=3∨i=4∨i=5∨i=6∨i=7) with rfl|rfl|rfl|rfl|rfl|rfl|rfl|rfl
  ·
   cases c
   all_goals
    repeat' (first|(apply ak;exact rfl;apply aj (j:=0);exact rfl;exact rfl;omega)|(apply ak;exact rfl;apply aR;exact rfl;exact pK;exact rfl;exact rfl)|(apply bH (f:=111);exact rfl;exact rfl;infer_instance;exact rfl;(intro w' hm;exact hc ▸ JD (b:=b) (go:=g3) (Ro.of_box hm pK)))|refine sT ?_|refine sS ?_|refine sQ ?_|refine sN ?_|refine sNQ ?_|refine sD ?_|refine sM fun _=> ?_|(refine sC ?_ ?_<;>intro hb<;>try omega)|(refine sCQ ?_ ?_<;>intro hb<;>try omega)|fail)
   all_goals first
    |(exfalso;omega)
    |(refine ⟨1,⟨by omega,hnx rfl⟩,by omega,by exact sB,by exact sB,by exact mS⟩;done)
    |((refine rT2 ?_);rw [hcd rfl];rfl)
    |trace_state
  ·
   cases c
   all_goals
    repeat' (first|(apply ak;exact rfl;apply aj (j:=1);exact rfl;exact rfl;omega)|(apply ak;exact rfl;apply aR;exact rfl;exact pK;exact rfl;exact rfl)|(apply bH (f:=113);exact rfl;exact rfl;infer_instance;exact rfl;(intro w' hm;exact hc ▸ JC (go:=g3) (gp:=g2) (Ro.of_box hm pK) (Ro.of_box hm pK) (hbk'.next hm)))|refine sT ?_|refine sS ?_|refine sQ ?_|refine sN ?_|refine sNQ ?_|refine sD ?_|refine sM fun _=> ?_|(refine sC ?_ ?_<;>intro hb<;>try omega)|(refine sCQ ?_ ?_<;>intro hb<;>try omega)|fail)
   all_goals first
    |(exfalso;omega)
    |(refine ⟨2,⟨by omega,hnx rfl⟩,by omega,by exact sB,by exact sB,by exact mS⟩;done)
    |((refine rT2 ?_);rw [hcd rfl];rfl)
    |trace_state
  ·
   cases c
   all_goals
    repeat' (first|(apply ak;exact rfl;apply aj (j:=2);exact rfl;exact rfl;omega)|(apply ak;exact rfl;apply aR;exact rfl;exact pK;exact rfl;exact rfl)|(apply bH (f:=114);exact rfl;exact rfl;infer_instance;exact rfl;(intro w' hm;exact hc ▸ JB (b:=b) (go:=g3) (g8:=g8) (g9:=g9) (Ro.of_box hm pK) (Ro.of_box hm pK) (Ro.of_box hm pK)))|refine sT ?_|refine sS ?_|refine sQ ?_|refine sN ?_|refine sNQ ?_|refine sD ?_|refine sM fun _=> ?_|(refine sC ?_ ?_<;>intro hb<;>try omega)|(refine sCQ ?_ ?_<;>intro hb<;>try omega)|fail)
   all_goals first
    |(exfalso;omega)
    |(refine ⟨3,⟨by omega,hnx rfl⟩,by omega,by exact sB,by exact sB,by exact mS⟩;done)
    |((refine rT2 ?_);rw [hcd rfl];rfl)
    |trace_state
  ·
   cases c
   all_goals
    repeat' (first|(apply ak;exact rfl;apply aj (j:=3);exact rfl;exact rfl;omega)|(apply ak;exact rfl;apply aR;exact rfl;exact pK;exact rfl;exact rfl)|(apply bH (f:=115);exact rfl;exact rfl;infer_instance;exact rfl;(intro w' hm;exact hc ▸ JA (b:=b) (go:=g3) (g6:=g6) (Ro.of_box hm pK) (Ro.of_box hm pK)))|refine sT ?_|refine sS ?_|refine sQ ?_|refine sN ?_|refine sNQ ?_|refine sD ?_|refine sM fun _=> ?_|(refine sC ?_ ?_<;>intro hb<;>try omega)|(refine sCQ ?_ ?_<;>intro hb<;>try omega)|fail)
   all_goals first
    |(exfalso;omega)
    |(refine ⟨4,⟨by omega,hnx rfl⟩,by omega,by exact sB,by exact sB,by exact mS⟩;done)
    |((refine rT2 ?_);rw [hcd rfl];rfl)
    |trace_state
  ·
   cases c
   all_goals
    repeat' (first|(apply ak;exact rfl;apply aj (j:=4);exact rfl;exact rfl;omega)|(apply ak;exact rfl;apply aR;exact rfl;exact pK;exact rfl;exact rfl)|(apply bH (f:=116);exact rfl;exact rfl;infer_instance;exact rfl;(intro w' hm;exact hc ▸ Jz (go:=g3) (gp:=g2) (Ro.of_box hm pK) (Ro.of_box hm pK) (hbk'.next hm) (hr.of_w0 hm)))|refine sT ?_|refine sS ?_|refine sQ ?_|refine sN ?_|refine sNQ ?_|refine sD ?_|refine sM fun _=> ?_|(refine sC ?_ ?_<;>intro hb<;>try omega)|(refine sCQ ?_ ?_<;>intro hb<;>try omega)|fail)
   all_goals first
    |(exfalso;omega)
    |(refine ⟨5,⟨by omega,hnx rfl⟩,by omega,by exact sB,by exact sB,by exact mS⟩;done)
    |((refine rT2 ?_);rw [hcd rfl];rfl)
    |trace_state
  ·
   cases c
   all_goals
    repeat' (first|(apply ak;exact rfl;apply aj (j:=5);exact rfl;exact rfl;omega)|(apply ak;exact rfl;apply aR;exact rfl;exact pK;exact rfl;exact rfl)|(apply bH (f:=117);exact rfl;exact rfl;infer_instance;exact rfl;(intro w' hm;exact hc ▸ Jy (b:=b) (gb:=gb) (gp:=g2) (go:=g3) (Ro.of_box hm pK) (fun w2 H2 hm2=>tY b x o gb w2 ((hbk'.next hm).next hm2) ((hr.of_w0 hm).of_w0 hm2) (LZ (hno 4 (by omega)))) (Ro.of_box hm pK)))|refine sT ?_|refine sS ?_|refine sQ ?_|refine sN ?_|refine sNQ ?_|refine sD ?_|refine sM fun _=> ?_|(refine sC ?_ ?_<;>intro hb<;>try omega)|(refine sCQ ?_ ?_<;>intro hb<;>try omega)|fail)
   all_goals first
    |(exfalso;omega)
    |(refine ⟨6,⟨by omega,hnx rfl⟩,by omega,by exact sB,by exact sB,by exact mS⟩;done)
    |((refine rT2 ?_);rw [hcd rfl];rfl)
    |trace_state
  ·
   cases c
   all_goals
    repeat' (first|(apply ak;exact rfl;apply aj (j:=6);exact rfl;exact rfl;omega)|(apply ak;exact rfl;apply aR;exact rfl;exact pK;exact rfl;exact rfl)|(apply lc (f:=119);exact rfl;exact rfl;infer_instance;exact rfl;exact hc ▸ Gc (b:=b) (o:=o) (go:=g3) (gat:=g10) hW pK pK;rintro _ _ ⟨rfl,rfl⟩)|refine sT ?_|refine sS ?_|refine sQ ?_|refine sN ?_|refine sNQ ?_|refine sD ?_|refine sM fun _=> ?_|(refine sC ?_ ?_<;>intro hb<;>try omega)|(refine sCQ ?_ ?_<;>intro hb<;>try omega)|fail)
   all_goals first
    |(exfalso;omega)
    |(refine ⟨7,⟨by omega,hnx rfl⟩,by omega,by exact sB,by exact sB,by exact mS⟩;done)
    |((refine rT2 ?_);rw [hcd rfl];rfl)
    |trace_state
  ·
   cases c
   all_goals
    repeat' (first|(apply ak;exact rfl;apply aj (j:=7);exact rfl;exact rfl;omega)|(apply ak;exact rfl;apply aR;exact rfl;exact pK;exact rfl;exact rfl)|(apply bH (f:=120);exact rfl;exact rfl;infer_instance;exact rfl;(intro w' hm;exact hc ▸ Jv (go:=g3) (gp:=g2) (g8:=g8) (Ro.of_box hm pK) (Ro.of_box hm pK) (hbk'.next hm) (hr.of_w0 hm) (Ro.of_box hm pK)))|refine sT ?_|refine sS ?_|refine sQ ?_|refine sN ?_|refine sNQ ?_|refine sD ?_|refine sM fun _=> ?_|(refine sC ?_ ?_<;>intro hb<;>try omega)|(refine sCQ ?_ ?_<;>intro hb<;>try omega)|fail)
   all_goals first
    |(exfalso;omega)
    |(refine ⟨8,⟨by omega,hnx rfl⟩,by omega,by exact sB,by exact sB,by exact mS⟩;done)
    |((refine rT2 ?_);rw [hcd rfl];rfl)
    |trace_state
 ·
  have e:i=8:=by omega
  subst e
  rw [My hno]
  repeat' (first|refine sT ?_|refine sS ?_|refine sM fun _=> ?_|(refine sC ?_ ?_<;>intro hb<;>try omega)|fail)
  all_goals first|(exfalso;omega)|((refine rT2 ?_);rfl)|trace_state
end Go.SL
