/-
  Lemmas and walks, put together: R3 R4 R5 R6.
-/
import Derived.Laws.Bits64
import Derived.Test.YtlnecnbfmnfigaaGreatDoorKu23
set_option linter.unusedSimpArgs false
set_option linter.unusedVariables false
set_option maxRecDepth 20000
namespace Go.SL
open Go Go.Proofs Go.RowKit
section
variable {P:Program} {n:Fr} {w0:World} {Q:cd} {s:aB} {H:List Blk} {ty:TypeId} {x y:Operand} {k:IntKind} {a b:Int} {t t' :TypeId}
theorem N7 (hx:ev s x=some (.int k a)) (hy:ev s y=some (.int k b)) (h:b≠0):VOp P w0 s H (.binOp .quo t x y t') ty (.int k (k.wrap (a.tdiv b))):=fun ρ w _ _ _ _ hρ _=>by
 simp [execOp,hρ x _ hx,hρ y _ hy,eqGuard,binOp,Op.intDiv,h]
theorem nk {c:Int} (hx:ev s x=some (.int k a)) (hy:ev s y=some (.int k b)) (h:b≠0) (hc:k.wrap (a.tdiv b)=c):VOp P w0 s H (.binOp .quo t x y t') ty (.int k c):=hc ▸ N7 hx hy h
theorem lR {c:Int} (hx:ev s x=some (.int k a)) (hy:ev s y=some (.int k b)) (h:b≠0) (hc:a.tmod b=c):VOp P w0 s H (.binOp .rem t x y t') ty (.int k c):=hc ▸ N0 hx hy h
theorem gT {c:Int} (hx:ev s x=some (.int k a)) (hy:ev s y=some (.int k b)) (hc:k.wrap (a*b)=c):VOp P w0 s H (.binOp .mul t x y t') ty (.int k c):=hc ▸ DF hx hy
end
attribute [local irreducible] W WL WQ WG WA WX WLI WR WT WC VOp RW thn blk bZ scp bA bV ck FnAt FnIn FnP ceP
def fV (v:Int):List Value:= [.int .u64 (v / 18446744073709551616),.int .u64 (v % 18446744073709551616)]
theorem lN {v:Int} (h0:0≤v) (h:v<18446744073709551616):fV v= [.int .u64 0,.int .u64 v]:=by
 unfold fV
 rw [Int.ediv_eq_zero_of_lt h0 h,Int.emod_eq_of_lt h0 h]
theorem tZ (x y:Int) (hx:0≤x) (hy:0≤y) (h:x+y<340282366920938463463374607431768211456) (w:World):aF Tryz.prog 254 [.agg (fV x).toArray,.agg (fV y).toArray] w (.agg (fV (x+y)).toArray):=by
 refine aA Tryz.func254 rfl Tryz.ntmps254 rfl ?_
 obtain ⟨xh,hxh⟩: ∃ z,x / 18446744073709551616=z:=⟨_,rfl⟩
 obtain ⟨xl,hxl⟩: ∃ z,x % 18446744073709551616=z:=⟨_,rfl⟩
 obtain ⟨yh,hyh⟩: ∃ z,y / 18446744073709551616=z:=⟨_,rfl⟩
 obtain ⟨yl,hyl⟩: ∃ z,y % 18446744073709551616=z:=⟨_,rfl⟩
 unfold fV
 rw [hxh,hxl,hyh,hyl]
 obtain ⟨l,hlw⟩: ∃ z,IntKind.u64.wrap (xl+yl)=z:=⟨_,rfl⟩
 obtain ⟨h1,hhw⟩: ∃ z,IntKind.u64.wrap (xh+yh)=z:=⟨_,rfl⟩
 have hl2:=hlw
 have hh2:=hhw
 rw [IntKind.wrap_u64] at hl2 hh2
 have h11:IntKind.u64.wrap (h1+1)=(h1+1) % 18446744073709551616:=IntKind.wrap_u64 _
 repeat' (first|(apply aj (d:=11);exact rfl;apply eC;exact rfl;exact rfl;exact hlw)|(apply aj (d:=16);exact rfl;apply eC;exact rfl;exact rfl;exact hhw)|(apply aj (d:=22);exact rfl;apply eC;exact rfl;exact rfl;exact h11)|refine sT ?_|refine sM fun _=> ?_|(refine sC ?_ ?_<;>intro hb<;>try omega)|fail)
 all_goals
  (refine eRC ?_)
  have e1:(x+y) % 18446744073709551616=l:=by omega
  rw [e1]
  congr 4
  omega
set_option maxHeartbeats 1000000 in
theorem DX (u:Int) (h0:0≤u) (h1:u<18446744073709551616) (w:World):aF Tryz.prog 255 [.int .u64 u,.int .u64 10] w (.agg (fV (10*u)).toArray):=by
 refine aA Tryz.func255 rfl Tryz.ntmps255 rfl ?_
 obtain ⟨al,hal⟩: ∃ z,u % 4294967296=z:=⟨_,rfl⟩
 obtain ⟨ah,hah⟩: ∃ z,u / 4294967296=z:=⟨_,rfl⟩
 have b1:0≤al∧al<4294967296:=by omega
 have b2:0≤ah∧ah<4294967296:=by omega
 have t1:u.tmod 4294967296=al:=by rw [Int.tmod_eq_emod_of_nonneg h0];exact hal
 have t2:IntKind.u64.wrap (u.tdiv 4294967296)=ah:=by rw [SF h0,hah,IntKind.wrap_u64];omega
 have t3:(10:Int).tmod 4294967296=10:=by decide
 have t4:IntKind.u64.wrap ((10:Int).tdiv 4294967296)=0:=by decide
 have m1:IntKind.u64.wrap (ah*0)=0:=by rw [Int.mul_zero];decide
 have m2:IntKind.u64.wrap (al*10)=al*10:=by rw [IntKind.wrap_u64];omega
 have m3:IntKind.u64.wrap (ah*10)=ah*10:=by rw [IntKind.wrap_u64];omega
 have q3:IntKind.u64.wrap ((ah*10).tdiv 4294967296)=ah*10 / 4294967296:=by rw [SF (by omega),IntKind.wrap_u64];omega
 have r3:(ah*10).tmod 4294967296=ah*10 % 4294967296:=Int.tmod_eq_emod_of_nonneg (by omega)
 have m4:IntKind.u64.wrap (ah*10 % 4294967296*4294967296)=ah*10 % 4294967296*4294967296:=by rw [IntKind.wrap_u64];omega
 have m5:IntKind.u64.wrap (al*0)=0:=by rw [Int.mul_zero];decide
 have q5:IntKind.u64.wrap ((0:Int).tdiv 4294967296)=0:=by decide
 have r5:(0:Int).tmod 4294967296=0:=by decide
 have m6:IntKind.u64.wrap ((0:Int)*4294967296)=0:=by decide
 have e1:fV (al*10)= [.int .u64 0,.int .u64 (al*10)]:=lN (by omega) (by omega)
 have e2:fV (ah*10*4294967296)= [.int .u64 (ah*10 / 4294967296),.int .u64 (ah*10 % 4294967296*4294967296)]:=by
  have ea:ah*10*4294967296 / 18446744073709551616=ah*10 / 4294967296:=by omega
  have eb:ah*10*4294967296 % 18446744073709551616=ah*10 % 4294967296*4294967296:=by omega
  rw [fV,ea,eb]
 have e3:fV 0= [.int .u64 0,.int .u64 0]:=lN (by omega) (by omega)
 have p1:=fun w=>tZ (al*10) (ah*10*4294967296) (by omega) (by omega) (by omega) w
 have p2:=fun w=>tZ (al*10+ah*10*4294967296) 0 (by omega) (by omega) (by omega) w
 rw [e1,e2] at p1
 rw [e3,Int.add_zero] at p2
 have e4:al*10+ah*10*4294967296=10*u:=by omega
 rw [e4] at p1 p2
 have hb: ∀ c:Int,(4294967296:Int)≠0:=fun _=>by decide
 repeat' (first|(apply aj (d:=11);exact rfl;apply lR;exact rfl;exact rfl;exact hb 0;exact t1)|(apply aj (d:=13);exact rfl;apply nk;exact rfl;exact rfl;exact hb 0;exact t2)|(apply aj (d:=15);exact rfl;apply lR;exact rfl;exact rfl;exact hb 0;exact t3)|(apply aj (d:=17);exact rfl;apply nk;exact rfl;exact rfl;exact hb 0;exact t4)|(apply aj (d:=20);exact rfl;apply gT;exact rfl;exact rfl;exact m1)|(apply aj (d:=23);exact rfl;apply gT;exact rfl;exact rfl;exact m2)|(apply aj (d:=28);exact rfl;apply gT;exact rfl;exact rfl;exact m3)|(apply aj (d:=29);exact rfl;apply nk;exact rfl;exact rfl;exact hb 0;exact q3)|(apply aj (d:=32);exact rfl;apply gT;exact rfl;exact rfl;exact m3)|(apply aj (d:=33);exact rfl;apply lR;exact rfl;exact rfl;exact hb 0;exact r3)|(apply aj (d:=34);exact rfl;apply gT;exact rfl;exact rfl;exact m4)|(apply aj (d:=40);exact rfl;apply gT;exact rfl;exact rfl;exact m5)|(apply aj (d:=41);exact rfl;apply nk;exact rfl;exact rfl;exact hb 0;exact q5)|(apply aj (d:=44);exact rfl;apply gT;exact rfl;exact rfl;exact m5)|(apply aj (d:=45);exact rfl;apply lR;exact rfl;exact rfl;exact hb 0;exact r5)|(apply aj (d:=46);exact rfl;apply gT;exact rfl;exact rfl;exact m6)|(apply aa (d:=36);exact rfl;exact rfl;(intro w' hm;exact p1 w'))|(apply aa (d:=48);exact rfl;exact rfl;(intro w' hm;exact p2 w'))|refine sT ?_|refine sM fun _=> ?_|(refine sC ?_ ?_<;>intro hb<;>try omega)|fail)
 (refine eRC ?_)
 rfl
theorem mH (v:Int) (neg:Bool) (h0:0≤v) (h1:v<340282366920938463463374607431768211456) (w:World):aF Tryz.prog 256 [.agg (fV v).toArray,.bool neg] w (.tuple #[.int .i64 (if cQ<v then 0 else if neg then -v else v),.bool (decide (v≤cQ))]):=by
 refine aA Tryz.func256 rfl Tryz.ntmps256 rfl ?_
 have hm:cQ=9223372036854775807:=rfl
 by_cases hv:v≤cQ
 ·
  rw [if_neg (by omega),decide_eq_true hv,lN h0 (by omega)]
  have hw:IntKind.i64.wrap v=v:=p9 h0 hv
  cases neg
  ·
   repeat' (first|(apply aj;exact rfl;apply cU;exact rfl;exact hw)|refine sT ?_|refine sM fun _=> ?_|(refine sC ?_ ?_<;>intro hb<;>try omega)|fail)
   all_goals first|(exfalso;omega)|((refine rT2 ?_);rfl)
  ·
   repeat' (first|(apply aj;exact rfl;apply cU;exact rfl;exact hw)|(apply aj;exact rfl;apply MJ;exact rfl;exact ⟨by omega,by omega⟩)|refine sT ?_|refine sM fun _=> ?_|(refine sC ?_ ?_<;>intro hb<;>try omega)|fail)
   all_goals first|(exfalso;omega)|((refine rT2 ?_);rfl)
 ·
  rw [if_pos (by omega),decide_eq_false hv]
  unfold fV
  obtain ⟨vh,hvh⟩: ∃ z,v / 18446744073709551616=z:=⟨_,rfl⟩
  obtain ⟨vl,hvl⟩: ∃ z,v % 18446744073709551616=z:=⟨_,rfl⟩
  rw [hvh,hvl]
  repeat' (first|refine sT ?_|refine sM fun _=> ?_|(refine sC ?_ ?_<;>intro hb<;>try omega)|fail)
  all_goals first|(exfalso;omega)|((refine rT2 ?_);rfl)
theorem qz (a:ByteArray) (ha:a.size≤1000000) (i0:Nat) (w:World):aF Tryz.prog 253 [.string a,.int .i64 (i0:Int)] w (.int .i64 ((i0+aI aJ ((ap a).drop i0):Nat):Int)):=by
 refine aA Tryz.func253 rfl Tryz.ntmps253 rfl ?_
 have hl:=au a
 by_cases hbig:a.size≤i0
 ·
  rw [qw (by omega),QW]
  repeat' (first|refine sT ?_|refine sS ?_|refine sT2 ?_|refine sM fun _=> ?_|(refine sC ?_ ?_<;>intro hb<;>try omega)|fail)
  refine ax [0] rfl (fun _:Unit=> [(1,.int .i64 (i0:Int))]) (fun _=> []) (fun _=>True) (fun _=>0) () trivial sB (.refl _) ?_
  rintro ⟨⟩ -
  repeat' (first|refine sT ?_|refine sS ?_|refine sT2 ?_|refine sM fun _=> ?_|(refine sC ?_ ?_<;>intro hb<;>try omega)|fail)
  all_goals first|(exfalso;omega)|((refine rT1 ?_);rfl)
 obtain ⟨X,hX⟩: ∃ X,i0+aI aJ ((ap a).drop i0)=X:=⟨_,rfl⟩
 rw [hX]
 repeat' (first|refine sT ?_|refine sS ?_|refine sT2 ?_|refine sM fun _=> ?_|(refine sC ?_ ?_<;>intro hb<;>try omega)|fail)
 refine ax [0] rfl (fun i:Nat=> [(1,.int .i64 (i:Int))]) (fun _=> []) (fun i=>i≤a.size∧X=i+aI aJ ((ap a).drop i)) (fun i=>a.size - i) i0 ⟨by omega,hX.symm⟩ sB (.refl _) ?_
 rintro i ⟨hi,hx⟩
 by_cases hlt:i<a.size
 ·
  rw [bn hlt,aI] at hx
  have hd:=eU (bat a i)
  repeat' (first|(apply aj;exact rfl;apply ba (j:=i);exact rfl;exact rfl;exact hlt)|refine sT ?_|refine sS ?_|refine sT2 ?_|refine sN ?_|refine sM fun _=> ?_|(refine sC ?_ ?_<;>intro hb<;>try omega)|fail)
  all_goals first
   |(refine ⟨i+1,⟨hlt,?_⟩,by omega,sB,sB,.nil _⟩;rw [hx,if_pos (hd.2 ⟨by assumption,by assumption⟩)];omega)
   |((refine rT1 ?_);rw [hx,if_neg (fun h=>by have:=hd.1 h;omega)];rfl)
 ·
  have e:i=a.size:=by omega
  subst e
  rw [qw (by omega),QW] at hx
  repeat' (first|refine sT ?_|refine sS ?_|refine sT2 ?_|refine sM fun _=> ?_|(refine sC ?_ ?_<;>intro hb<;>try omega)|fail)
  all_goals first|(exfalso;omega)|((refine rT1 ?_);rw [hx])
end Go.SL
namespace Go.SL
open Go Go.Proofs
attribute [local irreducible] W WL WQ WG WA WX WLI WR WT WC VOp RW thn blk bZ scp bA bV ck FnAt FnIn FnP ceP
structure DecP (l:List Int) (neg:Bool) (fr n:Nat) (D:List Int) (r:Int):Prop where
 negE:neg=decide (l.head? =some 45)
 frE:fr=if neg then 1 else 0
 nE:n=aI aJ (l.drop fr)
 pos:n≠0
 len:D.length=n+4
 at1: ∀ k,k<n→D[k]? =l[fr+k]?
 at2: ∀ k,n≤k→k<n+4→D[k]? =some (l.getD (fr+k+1) 48)
 rnd:r=l.getD (fr+n+5) 48
 end_: ∀ k,fr+n<k→k<l.length→aJ (l.getD k 0)=true
 res:gR l=if cQ<bJ D 0+(if 53≤r then 1 else 0) then (0,3) else (if neg then -(bJ D 0+(if 53≤r then 1 else 0)) else bJ D 0+(if 53≤r then 1 else 0),0)
theorem EX (l:List Int) (i k:Nat) (d:Int):(l.drop i).getD k d=l.getD (i+k) d:=by
 rw [PE,PE,Qi]
theorem DecP.dig {l:List Int} {neg:Bool} {fr n:Nat} {D:List Int} {r:Int} (h:DecP l neg fr n D r) {k:Nat} {c:Int} (hk:D[k]? =some c):48≤c∧c≤57:=by
 have hlt:k<n+4:=by
  have:=(Pk.1 hk).1
  rw [h.len] at this;exact this
 rcases Qm k n with h1|h1
 ·
  rw [h.at1 k h1] at hk
  refine (eU c).1 (kw (l.drop fr) k c (by rw [← h.nE];exact h1) ?_)
  rw [Qi];exact hk
 ·
  rw [h.at2 k h1 hlt] at hk
  injection hk with hk
  rcases Qm (fr+k+1) l.length with h2|h2
  ·
   have:=h.end_ (fr+k+1) (by omega) h2
   rw [PE,O5 h2] at this hk
   simp only [Option.getD_some] at this hk
   rw [hk] at this
   exact (eU c).1 this
  ·
   rw [PE,P5 h2] at hk
   simp only [Option.getD_none] at hk
   omega
theorem Ih (l:List Int) (neg:Bool) (hneg:neg=decide (l.head? =some 45)) (fr:Nat) (hfr:fr=if neg then 1 else 0) (n:Nat) (hn:n=aI aJ (l.drop fr)) (e:Nat) (he:e=if l[fr+n]? =some 46 then fr+n+1+aI aJ (l.drop (fr+n+1)) else fr+n):
  ((n=0∨e≠l.length∨e=fr+n+1)∧gR l=(0,4))∨(n≠0∧e=l.length∧e≠fr+n+1∧ ∃ D r,DecP l neg fr n D r):=by
 have hls:(if neg then l.tail else l)=l.drop fr:=by
  subst hfr
  cases neg<;>simp
 have hnl:n≤(l.drop fr).length:=hn ▸ co aJ _
 rw [Pp] at hnl
 have hfl:fr≤l.length:=by
  subst hfr
  cases neg with
  |false=>simp
  |true=>
   have:l.head? =some 45:=of_decide_eq_true hneg.symm
   cases l with
   |nil=>cases this
   |cons=>simp
 obtain ⟨rest,hrest⟩: ∃ rest,(l.drop fr).drop n=rest:=⟨_,rfl⟩
 have hr2:l.drop (fr+n)=rest:=by rw [← Qy];exact hrest
 have hrl:rest.length=l.length - (fr+n):=by rw [← hr2,Pp]
 have hhead:rest.head? =l[fr+n]? :=by rw [← hr2,List.head?_drop]
 have htail:rest.tail=l.drop (fr+n+1):=by rw [← hr2,RU]
 have hrt:aI aJ rest.tail≤rest.tail.length:=co _ _
 rw [Su] at hrt
 rw [← hhead,← htail] at he
 obtain ⟨q,hq⟩: ∃ q,aI aJ rest.tail=q:=⟨_,rfl⟩
 rw [hq] at he hrt
 have hdec: ∀ fc,(decide (1<rest.length) && (decide (rest.head? =some 46) && decide (q+1=rest.length)))=fc→gR l=if n=0∨(fc=false∧rest≠ []) then (0,4)
   else if cQ<bJ ((l.drop fr).take n++((if fc then rest.tail else [])++ [48,48,48,48,48]).take 4) 0+(if 53≤((if fc then rest.tail else [])++ [48,48,48,48,48]).getD 4 0 then 1 else 0) then (0,3)
   else (if neg then -(bJ ((l.drop fr).take n++((if fc then rest.tail else [])++ [48,48,48,48,48]).take 4) 0+(if 53≤((if fc then rest.tail else [])++ [48,48,48,48,48]).getD 4 0 then 1 else 0)) else bJ ((l.drop fr).take n++((if fc then rest.tail else [])++ [48,48,48,48,48]).take 4) 0+(if 53≤((if fc then rest.tail else [])++ [48,48,48,48,48]).getD 4 0 then 1 else 0),0):=by
  intro fc hfc
  unfold gR
  rw [← hneg]
  simp only [hls,← hn,hrest,hq,hfc]
 by_cases h0:n=0
 ·
  left
  refine ⟨.inl h0,?_⟩
  rw [hdec _ rfl,if_pos (.inl h0)]
 by_cases h46:rest.head? =some 46
 ·
  rw [if_pos h46] at he
  have hpos:0<rest.length:=by
   cases rest with
   |nil=>cases h46
   |cons=>simp
  by_cases hfin:1<rest.length∧q+1=rest.length
  ·
   right
   refine ⟨h0,by omega,by omega,?_⟩
   have hfrac:(decide (1<rest.length) && (decide (rest.head? =some 46) && decide (q+1=rest.length)))=true:=by simp [h46,hfin.1,hfin.2]
   have hd:=hdec _ hfrac
   simp only [if_true] at hd
   rw [if_neg (by simp [h0])] at hd
   have hall: ∀ k,fr+n<k→k<l.length→aJ (l.getD k 0)=true:=fun k h1 h2=>by
    obtain ⟨j,rfl⟩: ∃ j,k=fr+n+1+j:=⟨k - (fr+n+1),by omega⟩
    have hj:j<aI aJ rest.tail:=by omega
    refine kw rest.tail j _ hj ?_
    rw [htail,Qi,PE,O5 h2];rfl
   have hp5: ∀ k,k<5→(rest.tail++ [48,48,48,48,48])[k]? =some (l.getD (fr+n+k+1) 48):=fun k hk=>by
    rw [show fr+n+k+1=fr+n+1+k by omega,← EX,← htail]
    rw [PE]
    rcases Qm k rest.tail.length with h|h
    ·
     rw [PJ h,O5 h];rfl
    ·
     rw [PQ h,P5 h]
     have:k - rest.tail.length<5:=by omega
     rcases (by omega:k - rest.tail.length=0∨k - rest.tail.length=1∨k - rest.tail.length=2∨k - rest.tail.length=3∨k - rest.tail.length=4) with h|h|h|h|h<;>rw [h]<;>rfl
   refine ⟨(l.drop fr).take n++(rest.tail++ [48,48,48,48,48]).take 4,(rest.tail++ [48,48,48,48,48]).getD 4 0,hneg,hfr,hn,h0,?_,?_,?_,?_,hall,hd⟩
   ·
    simp only [O2,Pr,Pp,Pe,Qh]
    omega
   ·
    intro k hk
    rw [PJ (by simp;omega),QC hk,Qi]
   ·
    intro k h1 h2
    rw [PQ (by simp;omega)]
    rw [Pr,Pp,QX (by omega),QC (by omega),hp5 _ (by omega)]
    congr 2;omega
   ·
    rw [PE,hp5 4 (by omega)];rfl
  ·
   left
   have hfrac:(decide (1<rest.length) && (decide (rest.head? =some 46) && decide (q+1=rest.length)))=false:=by
    simp only [h46,decide_true,PZ,QF,decide_eq_false_iff_not]
    omega
   refine ⟨by omega,?_⟩
   rw [hdec _ hfrac,if_pos (.inr ⟨rfl,fun h=>by rw [h] at hpos;exact Nat.lt_irrefl _ hpos⟩)]
 ·
  rw [if_neg h46] at he
  have hfrac:(decide (1<rest.length) && (decide (rest.head? =some 46) && decide (q+1=rest.length)))=false:=by simp [h46]
  have hd:=hdec _ hfrac
  simp only [PH,if_false] at hd
  by_cases hnil:rest= []
  ·
   right
   have hlen:fr+n=l.length:=by rw [hnil] at hrl;simp at hrl;omega
   refine ⟨h0,by omega,by omega,?_⟩
   rw [if_neg (by simp [h0,hnil])] at hd
   have hp5: ∀ k,k<5→(([]:List Int)++ [48,48,48,48,48])[k]? =some (l.getD (fr+n+k+1) 48):=fun k hk=>by
    have e0:l.getD (fr+n+k+1) 48=48:=by rw [PE,P5 (by omega)];rfl
    rw [e0]
    rcases (by omega:k=0∨k=1∨k=2∨k=3∨k=4) with h|h|h|h|h<;>rw [h]<;>rfl
   refine ⟨(l.drop fr).take n++(([]:List Int)++ [48,48,48,48,48]).take 4,(([]:List Int)++ [48,48,48,48,48]).getD 4 0,hneg,hfr,hn,h0,?_,?_,?_,?_,fun k h1 h2=>by omega,hd⟩
   ·
    simp;omega
   ·
    intro k hk
    rw [PJ (by simp;omega),QC hk,Qi]
   ·
    intro k h1 h2
    rw [PQ (by simp;omega)]
    rw [Pr,Pp,QX (by omega),QC (by omega),hp5 _ (by omega)]
    congr 2;omega
   ·
    rw [PE,hp5 4 (by omega)];rfl
  ·
   left
   have:0<rest.length:=RG.2 hnil
   refine ⟨by omega,?_⟩
   rw [hd,if_pos (.inr ⟨trivial,hnil⟩)]
theorem vS {D:List Int} {k:Nat} {c:Int} (h:D[k]? =some c):bJ (D.take (k+1)) 0=10*bJ (D.take k) 0+(c - 48):=by
 obtain ⟨h1,rfl⟩:=Pk.1 h
 rw [Po h1,pT]
theorem o8 {D:List Int} (hd: ∀ (k:Nat) c,D[k]? =some c→48≤c∧c≤57) (k:Nat):0≤bJ (D.take k) 0∧bJ (D.take k) 0≤bJ D 0:=by
 have h48: ∀ c∈D,48≤c:=fun c hc=>by
  obtain ⟨i,hi,rfl⟩:=P1 hc
  exact (hd i _ (O5 hi)).1
 have h1:0≤bJ (D.take k) 0:=lX _ (fun c hc=>h48 c (P2 hc)) (QZ _)
 refine ⟨h1,?_⟩
 conv=>rhs;rw [← PP k D,qH]
 exact lX _ (fun c hc=>h48 c (QA hc)) h1
set_option maxHeartbeats 2000000 in
theorem Hr (a:ByteArray) (ha:a.size≤1000000) (w:World):aF Tryz.prog 212 [.string a] w (.tuple #[.int .i64 (gR (ap a)).1,.int .i64 (gR (ap a)).2]):=by
  refine aA Tryz.func212 rfl Tryz.ntmps212 rfl ?_
  have hl:=au a
  have hm:cQ=9223372036854775807:=rfl
  obtain ⟨neg,hneg⟩: ∃ neg,neg=decide ((ap a).head? =some 45):=⟨_,rfl⟩
  have hb0:=qM a 45
  obtain ⟨fr,hfr⟩: ∃ fr,fr=if neg then 1 else 0:=⟨_,rfl⟩
  obtain ⟨n,hn⟩: ∃ n,n=aI aJ ((ap a).drop fr):=⟨_,rfl⟩
  obtain ⟨e,he⟩: ∃ e,e=if (ap a)[fr+n]? =some 46 then fr+n+1+aI aJ ((ap a).drop (fr+n+1)) else fr+n:=⟨_,rfl⟩
  have hcase:=Ih (ap a) neg hneg fr hfr n hn e he
  have hfrl:fr≤a.size:=by
    rw [hfr]
    cases neg with
    |false=>exact Pb _
    |true=>have:=(hb0.1 (of_decide_eq_true hneg.symm)).1;simp only [if_true];omega
  have hnl:fr+n≤a.size:=by
    have:=co aJ ((ap a).drop fr)
    rw [Pp] at this
    omega
  have hD1:=qz a ha fr
  rw [← hn] at hD1
  have hD2:=qz a ha (fr+n+1)
  have hyes:0<a.size→bat a 0=45→fr=1:=fun h1 h2=>by
    have:neg=true:=by rw [hneg];exact decide_eq_true (hb0.2 ⟨h1,h2⟩)
    rw [hfr,this];rfl
  have hno:(0<a.size→bat a 0≠45)→fr=0:=fun h=>by
    have:neg=false:=by rw [hneg];exact decide_eq_false (fun h' =>h (hb0.1 h').1 (hb0.1 h').2)
    rw [hfr,this];rfl
  have hnegE:decide ((fr:Int)=1)=neg:=by
    rw [hfr]
    cases neg<;>rfl
  have h46: ∀ j,j<a.size→((ap a)[j]? =some 46↔bat a j=46):=fun j hj=>by rw [gK hj];simp
  have h46' :a.size≤fr+n→ ¬ (ap a)[fr+n]? =some 46:=fun h=>by rw [P5 (by omega)];simp
  repeat' (first|(refine zk (id:=2) (ι:=Unit) (fun _=> [(0,.string a),(4,.int .i64 (fr:Int))]) (fun _=> []) (fun _=>True) ?_ ?_)|refine sT ?_|refine sS ?_|refine sT2 ?_|refine sM fun _=> ?_|(refine sC ?_ ?_<;>intro hb<;>try omega)|exact cT|fail)
  · rw [hyes (by omega) (by assumption)]
    refine cL (()) ?_ sB mS
    trivial
  · rw [hno (fun _=>by assumption)]
    refine cL (()) ?_ sB mS
    trivial
  · rw [hno (fun h=>by omega)]
    refine cL (()) ?_ sB mS
    trivial
  rintro ⟨⟩ -
  repeat' (first|(apply aa (d:=22);exact rfl;exact rfl;(intro w' hm;exact hD1 w'))|(refine zk (id:=6) (ι:=Unit) (fun _=> [(0,.string a),(4,.int .i64 (fr:Int)),(5,.int .i64 ((fr+n:Nat):Int)),(6,.int .i64 (e:Int))]) (fun _=> []) (fun _=>True) ?_ ?_)|(apply aj;exact rfl;apply ba (j:=fr+n);exact rfl;exact rfl;omega)|(apply aa (d:=37);exact rfl;exact rfl;(intro w' hm;exact hD2 w'))|refine sT ?_|refine sS ?_|refine sT2 ?_|refine sN ?_|refine sM fun _=> ?_|(refine sC ?_ ?_<;>intro hb<;>try omega)|exact cT|fail)
  · rw [he,if_pos ((h46 _ (by omega)).2 (by assumption))]
    refine cL (()) ?_ sB mS
    trivial
  · rw [he,if_neg (fun h=>absurd ((h46 _ (by omega)).1 h) (by assumption))]
    refine cL (()) ?_ sB mS
    trivial
  · rw [he,if_neg (h46' (by omega))]
    refine cL (()) ?_ sB mS
    trivial
  rintro ⟨⟩ -
  clear hD1 hD2 hyes hno h46 h46' hb0
  rcases hcase with ⟨hbad,hd⟩|⟨h0,he1,he2,D,r,hP⟩
  · repeat' (first|refine sT ?_|refine sS ?_|refine sT2 ?_|refine sN ?_|refine sM fun _=> ?_|(refine sC ?_ ?_<;>intro hb<;>try omega)|exact cT|fail)
    all_goals first
      |((refine rT2 ?_);rw [hd];done)
      |(exfalso;omega)
  have hD4:=hP.len
  have hat: ∀ i,fr≤i→i<fr+n+5→i≠fr+n→ ∃ c,D[if i<fr+n then i - fr else i - fr - 1]? =some c∧48≤c∧c≤57∧(i<a.size→bat a i=c)∧(a.size≤i→c=48):=fun i h1 h2 h3=>by
    by_cases h:i<fr+n
    · rw [if_pos h]
      have hk:=hP.at1 (i - fr) (by omega)
      rw [show fr+(i - fr)=i by omega,gK (by omega)] at hk
      exact ⟨_,hk,(hP.dig hk).1,(hP.dig hk).2,fun _=>rfl,fun h=>by omega⟩
    · rw [if_neg h]
      have hk:=hP.at2 (i - fr - 1) (by omega) (by omega)
      rw [show fr+(i - fr - 1)+1=i by omega] at hk
      refine ⟨_,hk,(hP.dig hk).1,(hP.dig hk).2,fun h4=> ?_,fun h4=> ?_⟩
      · rw [PE,gK h4];rfl
      · rw [PE,P5 (by omega)];rfl
  have hge:=o8 (fun k c h=>hP.dig (k:=k) h)
  have hres:=hP.res
  have hr:=hP.rnd
  repeat' (first|refine sT ?_|refine sS ?_|refine sT2 ?_|refine sN ?_|refine sM fun _=> ?_|(refine sC ?_ ?_<;>intro hb<;>try omega)|exact cT|fail)
  all_goals try (exfalso;omega)
  rename_i g7
  refine ax [0,4,5,7] rfl (fun i:Nat=> [(8,.int .i64 (i:Int))]) (fun i=> [.box g7 342 (fV (bJ (D.take (if i≤fr+n then i - fr else i - fr - 1)) 0))]) (fun i=>fr≤i∧i≤fr+n+5∧bJ (D.take (if i≤fr+n then i - fr else i - fr - 1)) 0≤10*cQ+9) (fun i=>fr+n+5 - i) fr ⟨by omega,by omega,?_⟩ sB ?_ ?_
  · rw [if_pos (by omega),Nat.sub_self,Qj];decide
  · rw [if_pos (by omega),Nat.sub_self,Qj]
    exact .refl _
  rintro i ⟨h1,h2,h3⟩
  obtain ⟨k,hk⟩: ∃ k,(if i≤fr+n then i - fr else i - fr - 1)=k:=⟨_,rfl⟩
  rw [hk] at h3 ⊢
  have hgk:=hge k
  obtain ⟨V,hV⟩: ∃ V,bJ (D.take k) 0=V:=⟨_,rfl⟩
  rw [hV] at h3 hgk ⊢
  by_cases hend:i=fr+n+5
  · have hVD:V=bJ D 0:=by
      rw [← hV,PM]
      rw [hD4,← hk,if_neg (by omega)];omega
    have hsi:=fun v neg h h' w=>mH v neg h h' w
    subst hend
    have hpl: ∀ w,aF Tryz.prog 254 [.agg (fV V).toArray,.agg #[.int .u64 0,.int .u64 1]] w (.agg (fV (V+1)).toArray):=fun w=>by
      have:=tZ V 1 hgk.1 (by omega) (by omega) w
      rwa [lN (v:=1) (by omega) (by omega)] at this
    have hS0:=fun w=>mH V neg hgk.1 (by omega) w
    have hS1:=fun w=>mH (V+1) neg (by omega) (by omega) w
    rw [← hVD] at hres
    have hrin:fr+n+5<a.size→bat a (fr+n+5)=r:=fun hin=>by
      rw [hr,PE,gK hin];rfl
    have hrout:a.size≤fr+n+5→r=48:=fun h=>by
      rw [hr,PE,P5 (by omega)];rfl
    clear hr hP hat hge hV hVD
    repeat' (first|(apply aj (d:=57);exact rfl;apply fC (b:=5);exact rfl;exact rfl;(simp only [maxLen] at*;omega))|(apply aj (d:=93);exact rfl;apply fC (b:=5);exact rfl;exact rfl;(simp only [maxLen] at*;omega))|(apply aj (d:=100);exact rfl;apply fC (b:=5);exact rfl;exact rfl;(simp only [maxLen] at*;omega))|(apply aj (d:=101);exact rfl;apply ba (j:=fr+n+5);exact rfl;exact rfl;omega)|(rw [hrin (by omega)])|(apply aa (f:=254);exact rfl;exact rfl;(intro w' hm;exact hpl w'))|(rw [hnegE])|(apply aa (f:=256);exact rfl;exact rfl;(intro w' hm;first|exact hS1 w' |exact hS0 w'))|refine sT ?_|refine sS ?_|refine sT2 ?_|refine sN ?_|refine sM fun _=> ?_|(refine sC ?_ ?_<;>intro hb<;>try omega)|exact cT|fail)
    all_goals first
      |(exfalso;omega)
      | ((refine rT2 ?_)
         rw [hres]
         by_cases h53:53≤r
         · rw [if_pos h53]
           first|(exfalso;omega)|(rw [if_pos (by omega)];done)|(have hnb: ¬ cQ<V+1:=(by omega);simp only [if_neg hnb];done)
         · rw [if_neg h53,Int.add_zero]
           first|(exfalso;omega)|(rw [if_pos (by omega)];done)|(have hnb: ¬ cQ<V:=(by omega);simp only [if_neg hnb];done))
  · have hlt5:i<fr+n+5:=by omega
    have hgeD:=hgk.2
    by_cases hbig:cQ<V
    · have hout:gR (ap a)=(0,3):=by
        rw [hres,if_pos]
        split<;>omega
      obtain ⟨vh,hvh⟩: ∃ z,V / 18446744073709551616=z:=⟨_,rfl⟩
      obtain ⟨vl,hvl⟩: ∃ z,V % 18446744073709551616=z:=⟨_,rfl⟩
      have hat' :=hat i h1 hlt5
      unfold fV
      rw [hvh,hvl]
      clear hres hP hat hge
      repeat' (first|(apply aj (d:=57);exact rfl;apply fC (b:=5);exact rfl;exact rfl;(simp only [maxLen] at*;omega))|(apply aj (d:=72);exact rfl;apply ba (j:=i);exact rfl;exact rfl;omega)|(apply aj (d:=73);exact rfl;apply dU (c:=bat a i - 48);exact rfl;exact rfl;(obtain ⟨c,_,hc1,hc2,hc3,_⟩:=hat' (by omega);rw [hc3 (by omega)];exact fa (by omega) (by omega)))|(apply aj (d:=74);exact rfl;apply DL;exact rfl)|refine sT ?_|refine sS ?_|refine sT2 ?_|refine sN ?_|refine sM fun _=> ?_|(refine sC ?_ ?_<;>intro hb<;>try omega)|exact cT|fail)
      all_goals first
        |(exfalso;omega)
        |((refine rT2 ?_);rw [hout];done)
    · have hsm:fV V= [.int .u64 0,.int .u64 V]:=lN hgk.1 (by omega)
      by_cases hip:i=fr+n
      · subst hip
        rw [hsm]
        repeat' (first|(apply aj (d:=57);exact rfl;apply fC (b:=5);exact rfl;exact rfl;(simp only [maxLen] at*;omega))|(apply aj (d:=60);exact rfl;apply fC (b:=1);exact rfl;exact rfl;(simp only [maxLen] at*;omega))|refine sT ?_|refine sS ?_|refine sT2 ?_|refine sN ?_|refine sM fun _=> ?_|(refine sC ?_ ?_<;>intro hb<;>try omega)|exact cT|fail)
        all_goals first
          |(exfalso;omega)
          |skip
        have hk2:(if fr+n+1≤fr+n then fr+n+1 - fr else fr+n+1 - fr - 1)=k:=by
          rw [← hk,if_neg (by omega),if_pos (by omega)];omega
        refine ⟨fr+n+1,⟨by omega,by omega,?_⟩,by omega,sB,sB,?_⟩
        · rw [hk2,hV];exact h3
        · rw [hk2,hV,hsm]
          exact mS
      · obtain ⟨c,hc0,hc1,hc2,hc3,hc4⟩:=hat i h1 hlt5 hip
        have hkk:(if i<fr+n then i - fr else i - fr - 1)=k:=by
          rw [← hk]
          by_cases h:i<fr+n
          · rw [if_pos h,if_pos (by omega)]
          · rw [if_neg h,if_neg (by omega)]
        have hk2:(if i+1≤fr+n then i+1 - fr else i+1 - fr - 1)=k+1:=by
          rw [← hkk]
          by_cases h:i<fr+n
          · rw [if_pos h,if_pos (by omega)];omega
          · rw [if_neg h,if_neg (by omega)];omega
        rw [hkk] at hc0
        have hnext:=vS hc0
        rw [hV] at hnext
        obtain ⟨d,hd⟩: ∃ d,c - 48=d:=⟨_,rfl⟩
        rw [hd] at hnext
        have hT:=fun w=>DX V hgk.1 (by omega) w
        have hP2: ∀ w,aF Tryz.prog 254 [.agg (fV (10*V)).toArray,.agg #[.int .u64 0,.int .u64 d]] w (.agg (fV (10*V+d)).toArray):=fun w=>by
          have:=tZ (10*V) d (by omega) (by omega) (by omega) w
          rwa [lN (v:=d) (by omega) (by omega)] at this
        have hend2: ∀ (s:aB) (H:List Blk),Sub [(8,.int .i64 ((i+1:Nat):Int))] s→Sub [(0,.string a),(4,.int .i64 (fr:Int)),(5,.int .i64 ((fr+n:Nat):Int)),(7,.pointer (some ⟨g7,0,none⟩))] s→MSub [.box g7 342 (fV (10*V+d))] H→ ∃ i',(fr≤i' ∧i' ≤fr+n+5∧bJ (D.take (if i' ≤fr+n then i' - fr else i' - fr - 1)) 0≤10*cQ+9)∧fr+n+5 - i' <fr+n+5 - i∧Sub [(8,.int .i64 (i' :Int))] s∧Sub [(0,.string a),(4,.int .i64 (fr:Int)),(5,.int .i64 ((fr+n:Nat):Int)),(7,.pointer (some ⟨g7,0,none⟩))] s∧MSub [.box g7 342 (fV (bJ (D.take (if i' ≤fr+n then i' - fr else i' - fr - 1)) 0))] H:=fun s H a1 a2 a3=>by
          refine ⟨i+1,⟨by omega,by omega,?_⟩,by omega,a1,a2,?_⟩
          · rw [hk2,hnext];omega
          · rw [hk2,hnext];exact a3
        clear hres hP hat hge hr
        rw [hsm]
        by_cases hin:i<a.size
        · have hbc:=hc3 hin
          repeat' (first|(apply aj (d:=57);exact rfl;apply fC (b:=5);exact rfl;exact rfl;(simp only [maxLen] at*;omega))|(apply aj (d:=60);exact rfl;apply fC (b:=1);exact rfl;exact rfl;(simp only [maxLen] at*;omega))|(apply aj (d:=72);exact rfl;apply ba (j:=i);exact rfl;exact rfl;exact hin)|(rw [hbc])|(apply aj (d:=73);exact rfl;apply dU (c:=d);exact rfl;exact rfl;(rw [hd];exact fa (by omega) (by omega)))|(apply aj (d:=74);exact rfl;apply cU (c:=d);exact rfl;(rw [IntKind.wrap_u64];omega))|(apply aa (f:=255);exact rfl;exact rfl;(intro w' hm;exact hT w'))|(apply aa (f:=254);exact rfl;exact rfl;(intro w' hm;exact hP2 w'))|refine sT ?_|refine sS ?_|refine sT2 ?_|refine sN ?_|refine sM fun _=> ?_|(refine sC ?_ ?_<;>intro hb<;>try omega)|exact cT|fail)
          all_goals first
            |(exfalso;omega)
            |exact hend2 _ _ sB sB mS
        · have hd0:d=0:=by have:=hc4 (by omega);omega
          subst hd0
          repeat' (first|(apply aj (d:=57);exact rfl;apply fC (b:=5);exact rfl;exact rfl;(simp only [maxLen] at*;omega))|(apply aj (d:=60);exact rfl;apply fC (b:=1);exact rfl;exact rfl;(simp only [maxLen] at*;omega))|(apply aa (f:=255);exact rfl;exact rfl;(intro w' hm;exact hT w'))|(apply aa (f:=254);exact rfl;exact rfl;(intro w' hm;exact hP2 w'))|refine sT ?_|refine sS ?_|refine sT2 ?_|refine sN ?_|refine sM fun _=> ?_|(refine sC ?_ ?_<;>intro hb<;>try omega)|exact cT|fail)
          all_goals first
            |(exfalso;omega)
            |exact hend2 _ _ sB sB mS
theorem jk (p:Int→Bool): ∀ l:List Int,l.takeWhile p=l.take (aI p l)∧l.dropWhile p=l.drop (aI p l)
 | []=>⟨rfl,rfl⟩
 |c::r=>by
  simp only [List.takeWhile_cons,List.dropWhile_cons,aI]
  split
  ·
   exact ⟨by rw [(jk p r).1];rfl,by rw [(jk p r).2];rfl⟩
  ·
   exact ⟨rfl,rfl⟩
theorem zA (a:ByteArray) (ha:a.size≤1000000) (h0:0<a.size) (hlet: ∀ c∈ap a,cf c=true) (w:World):aF Tryz.prog 350 [.string a] w (.tuple #[.int .i64 (if 1024<bC (ap a) 0 then 0 else bC (ap a) 0),.int .i64 (if 1024<bC (ap a) 0 then 3 else 0)]):=by
 refine aA Tryz.func350 rfl Tryz.ntmps350 rfl ?_
 have hl:=au a
 have hpos:=mQ (ap a) hlet (QZ 0) (.inl (fun h=>by rw [h] at hl;simp at hl;omega))
 obtain ⟨X,hX⟩: ∃ X,bC (ap a) 0=X:=⟨_,rfl⟩
 rw [hX] at hpos ⊢
 repeat' (first|refine sT ?_|refine sS ?_|refine sT2 ?_|refine sM fun _=> ?_|(refine sC ?_ ?_<;>intro hb<;>try omega)|fail)
 refine ax [0] rfl (fun x:Nat × Int=> [(5,.int .i64 (x.1:Int)),(4,.int .i64 x.2)]) (fun _=> []) (fun x=>x.1≤a.size∧0≤x.2∧x.2≤1025∧X=bC ((ap a).drop x.1) x.2) (fun x=>a.size - x.1) (0,0) ⟨by simp,by simp,by simp,hX.symm⟩ sB (.refl _) ?_
 rintro ⟨i,v⟩ ⟨hi,hv0,hv1,hx⟩
 dsimp only at hi hv0 hv1 hx ⊢
 by_cases hlt:i<a.size
 ·
  have hc:=hlet (bat a i) (Qs (gK hlt))
  have hok:=sm a i
  rw [bn hlt,bC] at hx
  have hN:=fun w=>pN (bat a i) hok.1 hok.2 w
  have hN1:CA (bat a i)=upC (bat a i) - 64:=by rw [CA,if_pos hc]
  have hN2:1≤upC (bat a i) - 64∧upC (bat a i) - 64≤26:=by
   have:=(iy _).1 hc
   unfold upC
   split<;>omega
  rw [hN1] at hN
  obtain ⟨d,hd⟩: ∃ d,upC (bat a i) - 64=d:=⟨_,rfl⟩
  rw [hd] at hx hN hN2
  repeat' (first|(apply aj (d:=14);exact rfl;apply ba (j:=i);exact rfl;exact rfl;exact hlt)|(apply aj (d:=21);exact rfl;apply ba (j:=i);exact rfl;exact rfl;exact hlt)|(apply aa (f:=349);exact rfl;exact rfl;(intro w' hm;exact hN w'))|(apply aj (d:=18);exact rfl;apply Be;exact rfl;exact rfl;exact ⟨by omega,by omega⟩)|(apply aj (d:=23);exact rfl;apply kZ;exact rfl;exact rfl;exact ⟨by omega,by omega⟩)|refine sT ?_|refine sS ?_|refine sT2 ?_|refine sN ?_|refine sM fun _=> ?_|(refine sC ?_ ?_<;>intro hb<;>try omega)|fail)
  all_goals first
   |(exfalso;omega)
   |(rw [zO];exact ⟨(i+1,min (26*v+d) 1025),⟨hlt,by dsimp only;omega,by dsimp only;omega,hx⟩,by dsimp only;omega,sB,sB,.nil _⟩)
 ·
  have e:i=a.size:=by omega
  subst e
  rw [PA (by omega),bC] at hx
  subst hx
  repeat' (first|refine sT ?_|refine sS ?_|refine sT2 ?_|refine sM fun _=> ?_|(refine sC ?_ ?_<;>intro hb<;>try omega)|fail)
  all_goals first
   |(exfalso;omega)
   |((refine rT2 ?_);first|(rw [if_pos (by omega),if_pos (by omega)])|(rw [if_neg (by omega),if_neg (by omega)]))
theorem Ir (l:List Int):cF l=if l.take (aI cf l)= []∨l.drop (aI cf l)= []∨(l.drop (aI cf l)).head? =some 48∨(l.drop (aI cf l)).all aJ=false then (0,0,4)
  else if 1024<bC (l.take (aI cf l)) 0∨1024<m8 (l.drop (aI cf l)) 0 then (0,0,3) else (bC (l.take (aI cf l)) 0,m8 (l.drop (aI cf l)) 0,0):=by
 unfold cF
 rw [(jk cf l).1,(jk cf l).2]
theorem Cz {c:Int}:(0<CA c)↔cf c=true:=by
 unfold CA upC
 cases h:cf c with
 |false=>simp
 |true=>
  have:=(iy c).1 h
  simp only [if_true,iff_true]
  by_cases h2:97≤c∧c≤122
  ·
   rw [if_pos h2];omega
  ·
   rw [if_neg h2];omega
set_option maxHeartbeats 1000000 in
theorem EA (a:ByteArray) (ha:a.size≤100000) (w:World):aF Tryz.prog 337 [.string a] w (.tuple #[.agg (aw ⟨(cF (ap a)).1,(cF (ap a)).2.1⟩).toArray,.int .i64 (cF (ap a)).2.2]):=by
 refine aA Tryz.func337 rfl Tryz.ntmps337 rfl ?_
 have hl:=au a
 have hA:=Ir (ap a)
 obtain ⟨A,hAr⟩: ∃ A,aI cf (ap a)=A:=⟨_,rfl⟩
 have hAle:A≤a.size:=by have:=co cf (ap a);omega
 rw [hAr] at hA
 repeat' (first|refine sT ?_|refine sS ?_|refine sT2 ?_|refine sM fun _=> ?_|(refine sC ?_ ?_<;>intro hb<;>try omega)|fail)
 rename_i g2
 refine ax [0,2] rfl (fun i:Nat=> [(4,.int .i64 (i:Int))]) (fun _=> [.box g2 24 [.int .i64 0,.int .i64 0]]) (fun i=>i≤a.size∧A=i+aI cf ((ap a).drop i)) (fun i=>a.size - i) 0 ⟨by omega,by rw [Qt,Pn,hAr]⟩ sB (.refl _) ?_
 rintro i ⟨hi,hx⟩
 by_cases hlt:i<a.size∧cf (bat a i)=true
 ·
  have hok:=sm a i
  have hN:=fun w=>pN (bat a i) hok.1 hok.2 w
  have hp:=Cz.2 hlt.2
  rw [bn hlt.1,aI,if_pos hlt.2] at hx
  repeat' (first|(apply aj (d:=16);exact rfl;apply ba (j:=i);exact rfl;exact rfl;omega)|(apply aa (f:=349);exact rfl;exact rfl;(intro w' hm;exact hN w'))|refine sT ?_|refine sS ?_|refine sT2 ?_|refine sN ?_|refine sM fun _=> ?_|(refine sC ?_ ?_<;>intro hb<;>try omega)|fail)
  all_goals first
   |(exfalso;omega)
   |exact ⟨i+1,⟨by omega,by omega⟩,by omega,sB,sB,.refl _⟩
 have hAi:A=i:=by
  rw [hx]
  by_cases h:i<a.size
  ·
   rw [bn h,aI,if_neg (fun h2=>hlt ⟨h,h2⟩)];rfl
  ·
   rw [qw (by omega)];rfl
 subst hAi
 have hexit:A<a.size→CA (bat a A)≤0:=fun h=>by
  have: ¬ 0<CA (bat a A):=fun h2=>hlt ⟨h,Cz.1 h2⟩
  omega
 have hN:=fun w=>pN (bat a A) (sm a A).1 (sm a A).2 w
 have htk:(ap a).take A= []↔A=0:=by
  rw [List.take_eq_nil_iff]
  constructor
  ·
   rintro (h|h)
   ·
    exact h
   ·
    rw [h] at hl;simp at hl;omega
  ·
   exact .inl
 have hdr:(ap a).drop A= []↔A=a.size:=by rw [Sy];omega
 have hhd:A<a.size→(((ap a).drop A).head? =some 48↔bat a A=48):=fun h=>by rw [bn h];simp
 by_cases hbad:A=0∨A=a.size∨bat a A=48
 ·
  have hres:cF (ap a)=(0,0,4):=by
   rw [hA,if_pos]
   rcases hbad with h|h|h
   ·
    exact .inl (htk.2 h)
   ·
    exact .inr (.inl (hdr.2 h))
   ·
    by_cases hA2:A<a.size
    ·
     exact .inr (.inr (.inl ((hhd hA2).2 h)))
    ·
     exact .inr (.inl (hdr.2 (by omega)))
  rw [hres]
  repeat' (first|(apply aj (d:=16);exact rfl;apply ba (j:=A);exact rfl;exact rfl;omega)|(apply aj (d:=33);exact rfl;apply ba (j:=A);exact rfl;exact rfl;omega)|(apply aa (f:=349);exact rfl;exact rfl;(intro w' hm;exact hN w'))|refine sT ?_|refine sS ?_|refine sT2 ?_|refine sN ?_|refine sM fun _=> ?_|(refine sC ?_ ?_<;>intro hb<;>try omega)|fail)
  all_goals first
   |(exfalso;omega)
   |((refine lI ?_);rfl)
 have hA1:0<A:=by omega
 have hA2:A<a.size:=by omega
 have hn48:bat a A≠48:=fun h=>hbad (.inr (.inr h))
 simp only [htk,hdr,hhd hA2,show ¬ A=0 by omega,show ¬ A=a.size by omega,hn48,false_or] at hA
 repeat' (first|(apply aj (d:=16);exact rfl;apply ba (j:=A);exact rfl;exact rfl;omega)|(apply aj (d:=33);exact rfl;apply ba (j:=A);exact rfl;exact rfl;omega)|(apply aa (f:=349);exact rfl;exact rfl;(intro w' hm;exact hN w'))|refine sT ?_|refine sS ?_|refine sT2 ?_|refine sN ?_|refine sM fun _=> ?_|(refine sC ?_ ?_<;>intro hb<;>try omega)|fail)
 all_goals try (exfalso;omega)
 refine ax [0,2,4] rfl (fun x:Nat × Int=> [(6,.int .i64 (x.1:Int)),(5,.int .i64 x.2)]) (fun _=> [.box g2 24 [.int .i64 0,.int .i64 0]]) (fun x=>A≤x.1∧x.1≤a.size∧0≤x.2∧x.2≤1025∧m8 ((ap a).drop A) 0=m8 ((ap a).drop x.1) x.2∧((ap a).drop A).all aJ=((ap a).drop x.1).all aJ) (fun x=>a.size - x.1) (A,0) ⟨by simp,by dsimp only;omega,by simp,by simp,rfl,rfl⟩ sB (.refl _) ?_
 rintro ⟨i,v⟩ ⟨hi0,hi,hv0,hv1,hr,hall⟩
 dsimp only at hi0 hi hv0 hv1 hr hall ⊢
 by_cases hlt2:i<a.size
 ·
  have hok:=sm a i
  rw [bn hlt2] at hr hall
  rw [m8] at hr
  rw [QN] at hall
  have hd:=eU (bat a i)
  by_cases hdg:aJ (bat a i)=true
  ·
   obtain ⟨hd1,hd2⟩:=hd.1 hdg
   rw [hdg,PZ] at hall
   obtain ⟨d,hdd⟩: ∃ d,bat a i - 48=d:=⟨_,rfl⟩
   rw [hdd] at hr
   repeat' (first|(apply aj (d:=46);exact rfl;apply ba (j:=i);exact rfl;exact rfl;exact hlt2)|(apply aj (d:=51);exact rfl;apply ba (j:=i);exact rfl;exact rfl;exact hlt2)|(apply aj (d:=59);exact rfl;apply ba (j:=i);exact rfl;exact rfl;exact hlt2)|(apply aj (d:=56);exact rfl;apply Be;exact rfl;exact rfl;exact ⟨by omega,by omega⟩)|(apply aj (d:=60);exact rfl;apply dU (c:=d);exact rfl;exact rfl;(rw [hdd];exact fa (by omega) (by omega)))|(apply aj (d:=61);exact rfl;apply cU (c:=d);exact rfl;exact I64.wrap ⟨by omega,by omega⟩)|(apply aj (d:=62);exact rfl;apply kZ;exact rfl;exact rfl;exact ⟨by omega,by omega⟩)|refine sT ?_|refine sS ?_|refine sT2 ?_|refine sN ?_|refine sM fun _=> ?_|(refine sC ?_ ?_<;>intro hb<;>try omega)|fail)
   all_goals first
    |(exfalso;omega)
    |(rw [zO];exact ⟨(i+1,min (10*v+d) 1025),⟨by dsimp only;omega,hlt2,by dsimp only;omega,by dsimp only;omega,hr,hall⟩,by dsimp only;omega,sB,sB,.refl _⟩)
  ·
   have hdf:aJ (bat a i)=false:=by simpa using hdg
   rw [hdf,Qa] at hall
   rw [if_pos hall] at hA
   have hno: ¬ (48≤bat a i∧bat a i≤57):=fun h=>hdg (hd.2 h)
   rw [hA]
   repeat' (first|(apply aj (d:=46);exact rfl;apply ba (j:=i);exact rfl;exact rfl;exact hlt2)|(apply aj (d:=51);exact rfl;apply ba (j:=i);exact rfl;exact rfl;exact hlt2)|(apply aj (d:=59);exact rfl;apply ba (j:=i);exact rfl;exact rfl;exact hlt2)|(apply aj (d:=56);exact rfl;apply Be;exact rfl;exact rfl;exact ⟨by omega,by omega⟩)|refine sT ?_|refine sS ?_|refine sT2 ?_|refine sN ?_|refine sM fun _=> ?_|(refine sC ?_ ?_<;>intro hb<;>try omega)|fail)
   all_goals first
    |(exfalso;omega)
    |((refine lI ?_);rfl)
 ·
  have e2:i=a.size:=by omega
  subst e2
  have e3:(ap a).drop a.size= []:=PA (by omega)
  rw [e3,List.all_nil] at hall
  rw [e3,m8] at hr
  rw [hall,hr] at hA
  simp only [Bool.true_eq_false,if_false] at hA
  have hsub:ap (sub a 0 A)=(ap a).take A:=ud a A
  have hC:=fun w=>zA (sub a 0 A) (by rw [cD a hAle];omega) (by rw [cD a hAle];omega) (fun c hc=>by
   rw [hsub] at hc
   obtain ⟨k,hk⟩:=Sl.1 hc
   have hkl:k<A:=by
    have:=(Pk.1 hk).1
    rw [Pr] at this;omega
   rw [QC hkl] at hk
   exact kw (ap a) k c (by omega) hk) w
  rw [hsub] at hC
  generalize bC ((ap a).take A) 0=L at hC hA
  rw [hA]
  repeat' (first|(apply aj (d:=67);exact rfl;apply DD (hi:=A);exact rfl;exact rfl;exact hAle)|(apply aa (f:=350);exact rfl;exact rfl;(intro w' hm;exact hC w'))|refine sT ?_|refine sS ?_|refine sT2 ?_|refine sN ?_|refine sM fun _=> ?_|(refine sC ?_ ?_<;>intro hb<;>try omega)|fail)
  all_goals
   (refine lI ?_)
   by_cases h1:1024<L<;>by_cases h2:1024<v<;>first|(exfalso;simp only [h1,if_true,if_false] at*;omega)|(simp only [h1,h2,if_true,if_false,or_true,true_or,or_self];rfl)
end Go.SL
