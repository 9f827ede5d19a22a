/-
  Lemmas and walks, put together: R3.
-/
import Derived.Test.YtoanpdoacdpgeaaGreatDoorKn27
set_option linter.unusedSimpArgs false
set_option linter.unusedVariables false
set_option maxRecDepth 20000
namespace Go.SL
open Go Go.Proofs Go.RowKit
section
variable {P:Program} {n:Fr} {w0:World} {Q:bQ} {s:az} {H:List Blk} {ty:TypeId} {x y:Operand} {k:IntKind} {a b:Int} {t t' :TypeId}
theorem Mk (hx:ev s x=some (.int k a)) (hy:ev s y=some (.int k b)) (h:b≠0):VOp P w0 s H (.binOp .quo t x y t') ty (.int k (k.wrap (a.tdiv b))):=fun ρ w _ _ _ _ hρ _=>by
 simp [execOp,hρ x _ hx,hρ y _ hy,eqGuard,binOp,Op.intDiv,h]
theorem lw {c:Int} (hx:ev s x=some (.int k a)) (hy:ev s y=some (.int k b)) (h:b≠0) (hc:k.wrap (a.tdiv b)=c):VOp P w0 s H (.binOp .quo t x y t') ty (.int k c):=hc ▸ Mk hx hy h
theorem oq {c:Int} (hx:ev s x=some (.int k a)) (hy:ev s y=some (.int k b)) (h:b≠0) (hc:a.tmod b=c):VOp P w0 s H (.binOp .rem t x y t') ty (.int k c):=hc ▸ Mj hx hy h
theorem fX {c:Int} (hx:ev s x=some (.int k a)) (hy:ev s y=some (.int k b)) (hc:k.wrap (a*b)=c):VOp P w0 s H (.binOp .mul t x y t') ty (.int k c):=hc ▸ Bs hx hy
end
attribute [local irreducible] W WL WQ WG WA WX WLI WR WT WC VOp RW thn blk bE scp ba bo bL aP FnIn FnP ceP
def fp (v:Int):List Value:= [.int .u64 (v / 18446744073709551616),.int .u64 (v % 18446744073709551616)]
theorem j5 {v:Int} (h0:0≤v) (h:v<18446744073709551616):fp v= [.int .u64 0,.int .u64 v]:=by
 unfold fp
 rw [Int.ediv_eq_zero_of_lt h0 h,Int.emod_eq_of_lt h0 h]
theorem rq (x y:Int) (hx:0≤x) (hy:0≤y) (h:x+y<340282366920938463463374607431768211456) (w:World):ay Tryz.prog 236 [.agg (fp x).toArray,.agg (fp y).toArray] w (.agg (fp (x+y)).toArray):=by
 refine aq Tryz.func236 rfl Tryz.ntmps236 rfl ?_
 obtain ⟨xh,hxh⟩: ∃ z,x / 18446744073709551616=z:=⟨_,rfl⟩
 obtain ⟨xl,hxl⟩: ∃ z,x % 18446744073709551616=z:=⟨_,rfl⟩
 obtain ⟨yh,hyh⟩: ∃ z,y / 18446744073709551616=z:=⟨_,rfl⟩
 obtain ⟨yl,hyl⟩: ∃ z,y % 18446744073709551616=z:=⟨_,rfl⟩
 unfold fp
 rw [hxh,hxl,hyh,hyl]
 obtain ⟨l,hlw⟩: ∃ z,IntKind.u64.wrap (xl+yl)=z:=⟨_,rfl⟩
 obtain ⟨h1,hhw⟩: ∃ z,IntKind.u64.wrap (xh+yh)=z:=⟨_,rfl⟩
 have hl2:=hlw
 have hh2:=hhw
 rw [IntKind.wrap_u64] at hl2 hh2
 have h11:IntKind.u64.wrap (h1+1)=(h1+1) % 18446744073709551616:=IntKind.wrap_u64 _
 repeat' (first|(apply ak (d:=11);exact rfl;apply dK;exact rfl;exact rfl;exact hlw)|(apply ak (d:=16);exact rfl;apply dK;exact rfl;exact rfl;exact hhw)|(apply ak (d:=22);exact rfl;apply dK;exact rfl;exact rfl;exact h11)|refine sT ?_|refine sM fun _=> ?_|(refine sC ?_ ?_<;>intro hb<;>try omega)|fail)
 all_goals
  (refine eRC ?_)
  have e1:(x+y) % 18446744073709551616=l:=by omega
  rw [e1]
  congr 4
  omega
set_option maxHeartbeats 1000000 in
theorem BK (u:Int) (h0:0≤u) (h1:u<18446744073709551616) (w:World):ay Tryz.prog 237 [.int .u64 u,.int .u64 10] w (.agg (fp (10*u)).toArray):=by
 refine aq Tryz.func237 rfl Tryz.ntmps237 rfl ?_
 obtain ⟨al,hal⟩: ∃ z,u % 4294967296=z:=⟨_,rfl⟩
 obtain ⟨ah,hah⟩: ∃ z,u / 4294967296=z:=⟨_,rfl⟩
 have b1:0≤al∧al<4294967296:=by omega
 have b2:0≤ah∧ah<4294967296:=by omega
 have t1:u.tmod 4294967296=al:=by rw [Int.tmod_eq_emod_of_nonneg h0];exact hal
 have t2:IntKind.u64.wrap (u.tdiv 4294967296)=ah:=by rw [PV h0,hah,IntKind.wrap_u64];omega
 have t3:(10:Int).tmod 4294967296=10:=by decide
 have t4:IntKind.u64.wrap ((10:Int).tdiv 4294967296)=0:=by decide
 have m1:IntKind.u64.wrap (ah*0)=0:=by rw [Int.mul_zero];decide
 have m2:IntKind.u64.wrap (al*10)=al*10:=by rw [IntKind.wrap_u64];omega
 have m3:IntKind.u64.wrap (ah*10)=ah*10:=by rw [IntKind.wrap_u64];omega
 have q3:IntKind.u64.wrap ((ah*10).tdiv 4294967296)=ah*10 / 4294967296:=by rw [PV (by omega),IntKind.wrap_u64];omega
 have r3:(ah*10).tmod 4294967296=ah*10 % 4294967296:=Int.tmod_eq_emod_of_nonneg (by omega)
 have m4:IntKind.u64.wrap (ah*10 % 4294967296*4294967296)=ah*10 % 4294967296*4294967296:=by rw [IntKind.wrap_u64];omega
 have m5:IntKind.u64.wrap (al*0)=0:=by rw [Int.mul_zero];decide
 have q5:IntKind.u64.wrap ((0:Int).tdiv 4294967296)=0:=by decide
 have r5:(0:Int).tmod 4294967296=0:=by decide
 have m6:IntKind.u64.wrap ((0:Int)*4294967296)=0:=by decide
 have e1:fp (al*10)= [.int .u64 0,.int .u64 (al*10)]:=j5 (by omega) (by omega)
 have e2:fp (ah*10*4294967296)= [.int .u64 (ah*10 / 4294967296),.int .u64 (ah*10 % 4294967296*4294967296)]:=by
  have ea:ah*10*4294967296 / 18446744073709551616=ah*10 / 4294967296:=by omega
  have eb:ah*10*4294967296 % 18446744073709551616=ah*10 % 4294967296*4294967296:=by omega
  rw [fp,ea,eb]
 have e3:fp 0= [.int .u64 0,.int .u64 0]:=j5 (by omega) (by omega)
 have p1:=fun w=>rq (al*10) (ah*10*4294967296) (by omega) (by omega) (by omega) w
 have p2:=fun w=>rq (al*10+ah*10*4294967296) 0 (by omega) (by omega) (by omega) w
 rw [e1,e2] at p1
 rw [e3,P9] at p2
 have e4:al*10+ah*10*4294967296=10*u:=by omega
 rw [e4] at p1 p2
 have hb: ∀ c:Int,(4294967296:Int)≠0:=fun _=>by decide
 repeat' (first|(apply ak (d:=11);exact rfl;apply oq;exact rfl;exact rfl;exact hb 0;exact t1)|(apply ak (d:=13);exact rfl;apply lw;exact rfl;exact rfl;exact hb 0;exact t2)|(apply ak (d:=15);exact rfl;apply oq;exact rfl;exact rfl;exact hb 0;exact t3)|(apply ak (d:=17);exact rfl;apply lw;exact rfl;exact rfl;exact hb 0;exact t4)|(apply ak (d:=20);exact rfl;apply fX;exact rfl;exact rfl;exact m1)|(apply ak (d:=23);exact rfl;apply fX;exact rfl;exact rfl;exact m2)|(apply ak (d:=28);exact rfl;apply fX;exact rfl;exact rfl;exact m3)|(apply ak (d:=29);exact rfl;apply lw;exact rfl;exact rfl;exact hb 0;exact q3)|(apply ak (d:=32);exact rfl;apply fX;exact rfl;exact rfl;exact m3)|(apply ak (d:=33);exact rfl;apply oq;exact rfl;exact rfl;exact hb 0;exact r3)|(apply ak (d:=34);exact rfl;apply fX;exact rfl;exact rfl;exact m4)|(apply ak (d:=40);exact rfl;apply fX;exact rfl;exact rfl;exact m5)|(apply ak (d:=41);exact rfl;apply lw;exact rfl;exact rfl;exact hb 0;exact q5)|(apply ak (d:=44);exact rfl;apply fX;exact rfl;exact rfl;exact m5)|(apply ak (d:=45);exact rfl;apply oq;exact rfl;exact rfl;exact hb 0;exact r5)|(apply ak (d:=46);exact rfl;apply fX;exact rfl;exact rfl;exact m6)|(apply aa (d:=36);exact rfl;exact rfl;(intro w' hm;exact p1 w'))|(apply aa (d:=48);exact rfl;exact rfl;(intro w' hm;exact p2 w'))|refine sT ?_|refine sM fun _=> ?_|(refine sC ?_ ?_<;>intro hb<;>try omega)|fail)
 (refine eRC ?_)
 rfl
theorem kL (v:Int) (neg:Bool) (h0:0≤v) (h1:v<340282366920938463463374607431768211456) (w:World):ay Tryz.prog 238 [.agg (fp v).toArray,.bool neg] w (.tuple #[.int .i64 (if cC<v then 0 else if neg then -v else v),.bool (decide (v≤cC))]):=by
 refine aq Tryz.func238 rfl Tryz.ntmps238 rfl ?_
 have hm:cC=9223372036854775807:=rfl
 by_cases hv:v≤cC
 ·
  rw [if_neg (by omega),decide_eq_true hv,j5 h0 (by omega)]
  have hw:IntKind.i64.wrap v=v:=n9 h0 hv
  cases neg
  ·
   repeat' (first|(apply ak;exact rfl;apply bP;exact rfl;exact hw)|refine sT ?_|refine sM fun _=> ?_|(refine sC ?_ ?_<;>intro hb<;>try omega)|fail)
   all_goals first|(exfalso;omega)|((refine rT2 ?_);rfl)
  ·
   repeat' (first|(apply ak;exact rfl;apply bP;exact rfl;exact hw)|(apply ak;exact rfl;apply KL;exact rfl;exact ⟨by omega,by omega⟩)|refine sT ?_|refine sM fun _=> ?_|(refine sC ?_ ?_<;>intro hb<;>try omega)|fail)
   all_goals first|(exfalso;omega)|((refine rT2 ?_);rfl)
 ·
  rw [if_pos (by omega),decide_eq_false hv]
  unfold fp
  obtain ⟨vh,hvh⟩: ∃ z,v / 18446744073709551616=z:=⟨_,rfl⟩
  obtain ⟨vl,hvl⟩: ∃ z,v % 18446744073709551616=z:=⟨_,rfl⟩
  rw [hvh,hvl]
  repeat' (first|refine sT ?_|refine sM fun _=> ?_|(refine sC ?_ ?_<;>intro hb<;>try omega)|fail)
  all_goals first|(exfalso;omega)|((refine rT2 ?_);rfl)
theorem oM (a:ByteArray) (ha:a.size≤1000000) (i0:Nat) (w:World):ay Tryz.prog 235 [.string a,.int .i64 (i0:Int)] w (.int .i64 ((i0+aF aH ((ap a).drop i0):Nat):Int)):=by
 refine aq Tryz.func235 rfl Tryz.ntmps235 rfl ?_
 have hl:=av a
 by_cases hbig:a.size≤i0
 ·
  rw [oI (by omega),O2]
  repeat' (first|refine sT ?_|refine sS ?_|refine sT2 ?_|refine sM fun _=> ?_|(refine sC ?_ ?_<;>intro hb<;>try omega)|fail)
  refine ax [0] rfl (fun _:Unit=> [(1,.int .i64 (i0:Int))]) (fun _=> []) (fun _=>True) (fun _=>0) () trivial sB (.refl _) ?_
  rintro ⟨⟩ -
  repeat' (first|refine sT ?_|refine sS ?_|refine sT2 ?_|refine sM fun _=> ?_|(refine sC ?_ ?_<;>intro hb<;>try omega)|fail)
  all_goals first|(exfalso;omega)|((refine rT1 ?_);rfl)
 obtain ⟨X,hX⟩: ∃ X,i0+aF aH ((ap a).drop i0)=X:=⟨_,rfl⟩
 rw [hX]
 repeat' (first|refine sT ?_|refine sS ?_|refine sT2 ?_|refine sM fun _=> ?_|(refine sC ?_ ?_<;>intro hb<;>try omega)|fail)
 refine ax [0] rfl (fun i:Nat=> [(1,.int .i64 (i:Int))]) (fun _=> []) (fun i=>i≤a.size∧X=i+aF aH ((ap a).drop i)) (fun i=>a.size - i) i0 ⟨by omega,hX.symm⟩ sB (.refl _) ?_
 rintro i ⟨hi,hx⟩
 by_cases hlt:i<a.size
 ·
  rw [bk hlt,aF] at hx
  have hd:=d9 (bat a i)
  repeat' (first|(apply ak;exact rfl;apply aZ (j:=i);exact rfl;exact rfl;exact hlt)|refine sT ?_|refine sS ?_|refine sT2 ?_|refine sN ?_|refine sM fun _=> ?_|(refine sC ?_ ?_<;>intro hb<;>try omega)|fail)
  all_goals first
   |(refine ⟨i+1,⟨hlt,?_⟩,by omega,sB,sB,.nil _⟩;rw [hx,if_pos (hd.2 ⟨by assumption,by assumption⟩)];omega)
   |((refine rT1 ?_);rw [hx,if_neg (fun h=>by have:=hd.1 h;omega)];rfl)
 ·
  have e:i=a.size:=by omega
  subst e
  rw [oI (by omega),O2] at hx
  repeat' (first|refine sT ?_|refine sS ?_|refine sT2 ?_|refine sM fun _=> ?_|(refine sC ?_ ?_<;>intro hb<;>try omega)|fail)
  all_goals first|(exfalso;omega)|((refine rT1 ?_);rw [hx])
end Go.SL
