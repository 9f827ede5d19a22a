/-
  Lemmas and walks, put together: Rw R3 L1 Fd.
-/
import Derived.Test.YtpoafcnhplbkmaaGreatDoorRows
import Derived.Test.YtpoafcnhplbkmaaGreatDoorKs14
set_option linter.unusedSimpArgs false
set_option linter.unusedVariables false
set_option maxRecDepth 20000
set_option maxHeartbeats 16000000
namespace Go.SL
open Go
theorem sq: ∀ (l:List Int) {v:Int},(∀ c∈l,48≤c)→0≤v→0≤bE l v
 | [],_,_,h=>h
 |c::r,v,hl,h=>by
  rw [bE];refine sq r (fun d hd=>hl d (Rh _ hd)) ?_;have:=hl c QY;omega
theorem l6 {p:Int→Bool}: ∀ {l:List Int} {c:Int},c∈l.take (aG p l)→p c=true
 | [],_,h=>by cases h
 |d::r,c,h=>by
  rw [aG] at h;split at h
  ·rename_i hd;rw [SA] at h;rcases RF.1 h with rfl|h
   ·exact hd
   ·exact l6 h
  ·cases h
theorem Df {l:List Int} {v:Int} {n:Nat} (h:lC l=some (v,n)):0≤v:=by
 unfold lC at h;dsimp only at h;split at h
 ·cases h
 ·split at h
  ·cases h
  ·cases h;refine sq _ (fun c hc=> ?_) (TG _);rw [Rz,Rz] at hc;rcases hc with (hc|hc)|hc
   ·have:=l6 hc;rw [fC] at this;exact this.1
   ·have hp:bZ (l.drop (aG aH l))=0∨ ∃ r,l.drop (aG aH l)=46::r∧bZ (l.drop (aG aH l))=aG aH r:=by
     by_cases h0:bZ (l.drop (aG aH l))=0
     ·exact .inl h0
     ·exact .inr (ow h0)
    rcases hp with hp|⟨r,hr,hp⟩
    ·rw [hp] at hc;cases hc
    ·have hr' :l.drop (aG aH l+1)=r:=by rw [← Uh,hr];rfl
     rw [hr',hp] at hc;have:=l6 hc;rw [fC] at this;exact this.1
   ·rw [List.eq_of_mem_replicate hc];decide
theorem zh (l:List Int): ∀ (ns:List (List Int)) {i c:Int} {n:Nat},0≤i→kV l ns i=some (c,n)→0≤c
 | [],_,_,_,_,h=>by cases h
 |s::r,i,c,n,hi,h=>by
  rw [kV] at h;split at h
  ·cases h;exact hi
  ·exact zh l r (by omega) h
theorem Hj (l:List Int): ∀ (ns:List (List Int × Int)) {c:Int} {n:Nat},opL l ns=some (c,n)→ ∃ s∈ns,s.2=c
 | [],_,_,h=>by cases h
 |(s,k)::r,c,n,h=>by
  rw [opL] at h;split at h
  ·cases h;exact ⟨_,QY,rfl⟩
  ·obtain ⟨x,hx,he⟩:=Hj l r h;exact ⟨x,Rh _ hx,he⟩
theorem IA {l:List Int} {t:Tk} {n:Nat} (h:jQ l=some (t,n)):0≤t.num:=by
 unfold jQ at h;split at h
 ·rename_i x hx;cases h;unfold lI at hx;obtain ⟨⟨c,m⟩,hy,hz⟩:=Sr.1 hx;cases hz;exact zh l _ (by decide) hy
 ·unfold i9 at h;split at h
  ·rename_i hx;cases h;obtain ⟨s,hs,he⟩:=Hj l _ hx;have: ∀ s∈fK,0≤s.2:=by decide
   exact he ▸ this s hs
  ·split at h
   ·cases h;simp
   ·split at h
    ·cases h;simp
    ·split at h
     ·cases h;simp
     ·cases h
theorem HR {l:List Int} {t:Tk} {n:Nat} (h:iI l=some (t,n)):0≤t.num:=by
 unfold iI at h;split at h
 ·cases h
 ·split at h
  ·cases h;simp
  ·split at h
   ·cases h;simp
   ·split at h
    ·cases h;simp
    ·split at h
     ·cases h
     ·split at h
      ·cases h;simp
      ·cases h;simp
theorem EU {l:List Int} {t:Tk} {n:Nat} (h:bC l=some (t,n)):0≤t.num:=by
 unfold bC at h;split at h
 ·obtain ⟨⟨v,m⟩,hy,hx⟩:=Sr.1 h;cases hx;exact Df hy
 ·split at h
  ·obtain ⟨x,_,hx⟩:=Sr.1 h;cases hx;simp
  ·split at h
   ·exact HR h
   ·exact IA h
theorem BV {l:List Int}: ∀ (f i:Nat) (r:List Tk),bk bC l f i= .ok r→ ∀ t∈r,0≤t.num:=by
 intro f
 induction f with
 |zero=>intro i r h;cases h;exact fun _ h=>by cases h
 |succ f ih=>
  intro i r h;simp only [bk] at h;split at h
  ·cases h;exact fun _ h=>by cases h
  ·split at h
   ·exact ih _ _ h
   ·split at h
    ·cases h
    ·rename_i t n ht
     cases hr:bk bC l f (i+n) with
     |error e=>rw [hr] at h;cases h
     |ok r' =>
      rw [hr] at h;cases h;intro u hu;rcases RF.1 hu with rfl|hu
      ·have:=EU ht;exact this
      ·exact ih _ _ hr u hu
theorem tB (l:List Int): ∀ t∈(bq bC l).1,0≤t.num:=by
 unfold bq;split
 ·exact fun _ h=>by cases h
 ·split
  ·exact fun _ h=>by cases h
  ·split
   ·rename_i r hr;exact BV _ _ _ hr
   ·exact fun _ h=>by cases h
def Wf (p:PS):Prop:=(∀ t∈p.l,0≤t.num)∧ ∀ n∈p.out,wfN n
theorem Wf.skip {p:PS} (h:Wf p):Wf p.skip:=⟨fun t ht=>h.1 t (List.mem_of_mem_tail ht),h.2⟩
theorem Wf.put {p:PS} (h:Wf p) {n:Nd} (hn:wfN n):Wf (p.put n):=⟨h.1,fun m hm=>by
 rcases Rz.1 hm with hm|hm
 ·exact h.2 m hm
 ·rw [Rd.1 hm];exact hn⟩
theorem NK {fin:Int} {l:List Tk} (h: ∀ t∈l,0≤t.num):0≤(hdT fin l).num:=by
 cases l with
 |nil=>exact TG _
 |cons t r=>exact h t QY
theorem oP (k:Int) (r:Rct) (o:Int):wfN ⟨k,bK,r,o,0,0⟩:=⟨by simp [bK],TG 0,by simp⟩
theorem OP {t:Tk} (h:0≤t.num):wfN (nA t):=by
 unfold nA;refine ⟨?_,TG 0,by simp⟩;simp only;split
 ·simp only;omega
 ·split
  ·simp
  ·split
   ·simp only;omega
   ·simp only;omega
theorem ut (b:ByteArray):0≤(aY b).1∧(aY b).1≤255:=by
 have hb1:=jy dC b 0 (by omega);rw [jw] at hb1;unfold aY;split
 ·dsimp only;omega
 ·dsimp only;omega
theorem xm {fin:Int} {name:Tk} {fn:Int} {n m:Nat} {p p' :PS} (h:dz fin name fn n p=some (.ok (m,p'))) (hw:Wf p) (h0:0≤fn) (h1:fn≤255):Wf p' :=by
 unfold dz at h;dsimp only at h;split at h
 ·cases h
 ·split at h
  ·cases h
  ·split at h
   ·cases h
   ·cases h;exact hw.skip.put ⟨by simp [bK],h0,h1⟩
theorem zY (fin:Int): ∀ (f:Nat) (j:Job) (p:PS) (n:Nat) (p' :PS),bw fin f j p=some (.ok (n,p'))→Wf p→Wf p'
 |0,_,_,_,_,h,_=>by cases h
 |f+1,j,p,n,p',h,hw=>by
  have ih:=zY fin f
  cases j with
  |level k=>
   rw [bw] at h;split at h
   ·exact ih _ _ _ _ h hw
   ·obtain ⟨n1,p1,h1,h2⟩:=cE h;exact ih _ _ _ _ h2 (ih _ _ _ _ h1 hw)
  |loop k=>
   rw [bw] at h;try dsimp only at h
   split at h
   ·obtain ⟨n1,p1,h1,h2⟩:=cE h;exact ih _ _ _ _ h2 ((ih _ _ _ _ h1 hw.skip).put (oP _ _ _))
   ·cases h;exact hw
  |sign=>
   rw [bw] at h;try dsimp only at h
   split at h
   ·obtain ⟨n1,p1,h1,h2⟩:=cE h;cases h2;exact (ih _ _ _ _ h1 hw.skip).put (oP _ _ _)
   ·obtain ⟨n1,p1,h1,h2⟩:=cE h;split at h2
    ·obtain ⟨n2,p2,h3,h4⟩:=cE h2;cases h4;exact (ih _ _ _ _ h3 (ih _ _ _ _ h1 hw).skip).put (oP _ _ _)
    ·cases h2;exact ih _ _ _ _ h1 hw
  |pct=>
   rw [bw] at h;obtain ⟨n1,p1,h1,h2⟩:=cE h;exact ih _ _ _ _ h2 (ih _ _ _ _ h1 hw)
  |pctl=>
   rw [bw] at h;try dsimp only at h
   split at h
   ·exact ih _ _ _ _ h (hw.skip.put (oP _ _ _))
   ·cases h;exact hw
  |prim=>
   rw [bw] at h;try dsimp only at h
   split at h
   ·cases h;exact hw.skip.put (OP (NK hw.1))
   ·split at h
    ·cases h;exact hw.skip.put (oP _ _ _)
    ·split at h
     ·obtain ⟨n1,p1,h1,h2⟩:=cE h;split at h2
      ·cases h2
      ·cases h2;exact (ih _ _ _ _ h1 hw.skip).skip
     ·split at h
      ·split at h
       ·cases h
       ·have hb:=ut (hdT fin p.l).text;split at h
        ·cases h
        ·split at h
         ·exact xm h hw.skip.skip hb.1 hb.2
         ·obtain ⟨n1,p1,h1,h2⟩:=cE h;exact xm h2 (ih _ _ _ _ h1 hw.skip.skip) hb.1 hb.2
      ·cases h
  |args fn i=>
   rw [bw] at h;try dsimp only at h
   have hgo: ∀ p0:PS,Wf p0→(if (hdT fin p0.l).kind=11 then bw fin f (.args fn (i+1)) p0.skip else some (.ok (i+1,p0)))=some (.ok (n,p'))→Wf p' :=by
    intro p0 hw0 h0;split at h0
    ·exact ih _ _ _ _ h0 hw0.skip
    ·cases h0;exact hw0
   split at h
   ·obtain ⟨n1,p1,h1,h2⟩:=cE h;exact hgo p1 (ih _ _ _ _ h1 hw) h2
   ·split at h
    ·cases h
    ·exact hgo _ (hw.skip.put (oP _ _ _)) h
end Go.SL
namespace Go.SL
open Go Go.Proofs Go.RowKit
section
variable {P:Program} {n:Fr} {w0:World} {Q:bS} {s:az} {H:List Blk} {ty:TypeId} {x y:Operand} {k:IntKind} {a b:Int} {t t' :TypeId}
theorem P6 (hx:ev s x=some (.int k a)) (hy:ev s y=some (.int k b)) (h:b≠0):VOp P w0 s H (.binOp .quo t x y t') ty (.int k (k.wrap (a.tdiv b))):=fun ρ w _ _ _ _ hρ _=>by
 simp [execOp,hρ x _ hx,hρ y _ hy,eqGuard,binOp,Op.intDiv,h]
theorem jB {c:Int} (hx:ev s x=some (.int k a)) (hy:ev s y=some (.int k b)) (h:b≠0) (hc:k.wrap (a.tdiv b)=c):VOp P w0 s H (.binOp .quo t x y t') ty (.int k c):=hc ▸ P6 hx hy h
theorem l3 {c:Int} (hx:ev s x=some (.int k a)) (hy:ev s y=some (.int k b)) (h:b≠0) (hc:a.tmod b=c):VOp P w0 s H (.binOp .rem t x y t') ty (.int k c):=hc ▸ P5 hx hy h
theorem iD {c:Int} (hx:ev s x=some (.int k a)) (hy:ev s y=some (.int k b)) (hc:k.wrap (a*b)=c):VOp P w0 s H (.binOp .mul t x y t') ty (.int k c):=hc ▸ EJ hx hy
end
attribute [local irreducible] W WL WQ WG WA WX WLI WR WT WC VOp RW thn blk bH scp aV bz bP FnAt FnIn FnP ceP
def gL (v:Int):List Value:= [.int .u64 (v / 18446744073709551616),.int .u64 (v % 18446744073709551616)]
theorem lY {v:Int} (h0:0≤v) (h:v<18446744073709551616):gL v= [.int .u64 0,.int .u64 v]:=by
 unfold gL;rw [Int.ediv_eq_zero_of_lt h0 h,Int.emod_eq_of_lt h0 h]
theorem uK (x y:Int) (hx:0≤x) (hy:0≤y) (h:x+y<340282366920938463463374607431768211456) (w:World):aC Tryz.prog 256 [.agg (gL x).toArray,.agg (gL y).toArray] w (.agg (gL (x+y)).toArray):=by
 refine ay Tryz.func256 rfl Tryz.ntmps256 rfl ?_;obtain ⟨xh,hxh⟩: ∃ z,x / 18446744073709551616=z:=⟨_,rfl⟩;obtain ⟨xl,hxl⟩: ∃ z,x % 18446744073709551616=z:=⟨_,rfl⟩;obtain ⟨yh,hyh⟩: ∃ z,y / 18446744073709551616=z:=⟨_,rfl⟩;obtain ⟨yl,hyl⟩: ∃ z,y % 18446744073709551616=z:=⟨_,rfl⟩;unfold gL;rw [hxh,hxl,hyh,hyl];obtain ⟨l,hlw⟩: ∃ z,IntKind.u64.wrap (xl+yl)=z:=⟨_,rfl⟩;obtain ⟨h1,hhw⟩: ∃ z,IntKind.u64.wrap (xh+yh)=z:=⟨_,rfl⟩;have hl2:=hlw;have hh2:=hhw;rw [IntKind.wrap_u64] at hl2 hh2;have h11:IntKind.u64.wrap (h1+1)=(h1+1) % 18446744073709551616:=IntKind.wrap_u64 _;repeat' (first|(apply ai (d:=11);exact rfl;apply eP;exact rfl;exact rfl;exact hlw)|(apply ai (d:=16);exact rfl;apply eP;exact rfl;exact rfl;exact hhw)|(apply ai (d:=22);exact rfl;apply eP;exact rfl;exact rfl;exact h11)|refine sT ?_|refine sM fun _=>?_|(refine sC ?_ ?_<;>intro hb<;>try omega)|fail)
 all_goals
  (refine eRC ?_);have e1:(x+y) % 18446744073709551616=l:=by omega
  rw [e1];congr 4;omega
theorem EX (u:Int) (h0:0≤u) (h1:u<18446744073709551616) (w:World):aC Tryz.prog 257 [.int .u64 u,.int .u64 10] w (.agg (gL (10*u)).toArray):=by
 refine ay Tryz.func257 rfl Tryz.ntmps257 rfl ?_;obtain ⟨al,hal⟩: ∃ z,u % 4294967296=z:=⟨_,rfl⟩;obtain ⟨ah,hah⟩: ∃ z,u / 4294967296=z:=⟨_,rfl⟩;have b1:0≤al∧al<4294967296:=by omega
 have b2:0≤ah∧ah<4294967296:=by omega
 have t1:u.tmod 4294967296=al:=by rw [Int.tmod_eq_emod_of_nonneg h0];exact hal
 have t2:IntKind.u64.wrap (u.tdiv 4294967296)=ah:=by rw [UK h0,hah,IntKind.wrap_u64];omega
 have t3:(10:Int).tmod 4294967296=10:=by decide
 have t4:IntKind.u64.wrap ((10:Int).tdiv 4294967296)=0:=by decide
 have m1:IntKind.u64.wrap (ah*0)=0:=by rw [Int.mul_zero];decide
 have m2:IntKind.u64.wrap (al*10)=al*10:=by rw [IntKind.wrap_u64];omega
 have m3:IntKind.u64.wrap (ah*10)=ah*10:=by rw [IntKind.wrap_u64];omega
 have q3:IntKind.u64.wrap ((ah*10).tdiv 4294967296)=ah*10 / 4294967296:=by rw [UK (by omega),IntKind.wrap_u64];omega
 have r3:(ah*10).tmod 4294967296=ah*10 % 4294967296:=Int.tmod_eq_emod_of_nonneg (by omega);have m4:IntKind.u64.wrap (ah*10 % 4294967296*4294967296)=ah*10 % 4294967296*4294967296:=by rw [IntKind.wrap_u64];omega
 have m5:IntKind.u64.wrap (al*0)=0:=by rw [Int.mul_zero];decide
 have q5:IntKind.u64.wrap ((0:Int).tdiv 4294967296)=0:=by decide
 have r5:(0:Int).tmod 4294967296=0:=by decide
 have m6:IntKind.u64.wrap ((0:Int)*4294967296)=0:=by decide
 have e1:gL (al*10)= [.int .u64 0,.int .u64 (al*10)]:=lY (by omega) (by omega);have e2:gL (ah*10*4294967296)= [.int .u64 (ah*10 / 4294967296),.int .u64 (ah*10 % 4294967296*4294967296)]:=by
  have ea:ah*10*4294967296 / 18446744073709551616=ah*10 / 4294967296:=by omega
  have eb:ah*10*4294967296 % 18446744073709551616=ah*10 % 4294967296*4294967296:=by omega
  rw [gL,ea,eb]
 have e3:gL 0= [.int .u64 0,.int .u64 0]:=lY (by omega) (by omega);have p1:=fun w=>uK (al*10) (ah*10*4294967296) (by omega) (by omega) (by omega) w;have p2:=fun w=>uK (al*10+ah*10*4294967296) 0 (by omega) (by omega) (by omega) w;rw [e1,e2] at p1;rw [e3,Int.add_zero] at p2;have e4:al*10+ah*10*4294967296=10*u:=by omega
 rw [e4] at p1 p2;have hb: ∀ c:Int,(4294967296:Int)≠0:=fun _=>by decide
 repeat' (first|(apply ai (d:=11);exact rfl;apply l3;exact rfl;exact rfl;exact hb 0;exact t1)|(apply ai (d:=13);exact rfl;apply jB;exact rfl;exact rfl;exact hb 0;exact t2)|(apply ai (d:=15);exact rfl;apply l3;exact rfl;exact rfl;exact hb 0;exact t3)|(apply ai (d:=17);exact rfl;apply jB;exact rfl;exact rfl;exact hb 0;exact t4)|(apply ai (d:=20);exact rfl;apply iD;exact rfl;exact rfl;exact m1)|(apply ai (d:=23);exact rfl;apply iD;exact rfl;exact rfl;exact m2)|(apply ai (d:=28);exact rfl;apply iD;exact rfl;exact rfl;exact m3)|(apply ai (d:=29);exact rfl;apply jB;exact rfl;exact rfl;exact hb 0;exact q3)|(apply ai (d:=32);exact rfl;apply iD;exact rfl;exact rfl;exact m3)|(apply ai (d:=33);exact rfl;apply l3;exact rfl;exact rfl;exact hb 0;exact r3)|(apply ai (d:=34);exact rfl;apply iD;exact rfl;exact rfl;exact m4)|(apply ai (d:=40);exact rfl;apply iD;exact rfl;exact rfl;exact m5)|(apply ai (d:=41);exact rfl;apply jB;exact rfl;exact rfl;exact hb 0;exact q5)|(apply ai (d:=44);exact rfl;apply iD;exact rfl;exact rfl;exact m5)|(apply ai (d:=45);exact rfl;apply l3;exact rfl;exact rfl;exact hb 0;exact r5)|(apply ai (d:=46);exact rfl;apply iD;exact rfl;exact rfl;exact m6)|(apply aa (d:=36);exact rfl;exact rfl;(intro w' hm;exact p1 w'))|(apply aa (d:=48);exact rfl;exact rfl;(intro w' hm;exact p2 w'))|refine sT ?_|refine sM fun _=>?_|(refine sC ?_ ?_<;>intro hb<;>try omega)|fail)
 (refine eRC ?_)
 rfl
theorem m8 (v:Int) (neg:Bool) (h0:0≤v) (h1:v<340282366920938463463374607431768211456) (w:World):aC Tryz.prog 258 [.agg (gL v).toArray,.bool neg] w (.tuple #[.int .i64 (if cN<v then 0 else if neg then -v else v),.bool (decide (v≤cN))]):=by
 refine ay Tryz.func258 rfl Tryz.ntmps258 rfl ?_;have hm:cN=9223372036854775807:=rfl;by_cases hv:v≤cN
 ·rw [if_neg (by omega),decide_eq_true hv,lY h0 (by omega)];have hw:IntKind.i64.wrap v=v:=qz h0 hv;cases neg
  ·repeat' (first|(apply ai;exact rfl;apply cR;exact rfl;exact hw)|refine sT ?_|refine sM fun _=>?_|(refine sC ?_ ?_<;>intro hb<;>try omega)|fail)
   all_goals first|(exfalso;omega)|((refine rT2 ?_);rfl)
  ·repeat' (first|(apply ai;exact rfl;apply cR;exact rfl;exact hw)|(apply ai;exact rfl;apply Oz;exact rfl;exact ⟨by omega,by omega⟩)|refine sT ?_|refine sM fun _=>?_|(refine sC ?_ ?_<;>intro hb<;>try omega)|fail)
   all_goals first|(exfalso;omega)|((refine rT2 ?_);rfl)
 ·rw [if_pos (by omega),decide_eq_false hv];unfold gL;obtain ⟨vh,hvh⟩: ∃ z,v / 18446744073709551616=z:=⟨_,rfl⟩;obtain ⟨vl,hvl⟩: ∃ z,v % 18446744073709551616=z:=⟨_,rfl⟩;rw [hvh,hvl];repeat' (first|refine sT ?_|refine sM fun _=>?_|(refine sC ?_ ?_<;>intro hb<;>try omega)|fail)
  all_goals first|(exfalso;omega)|((refine rT2 ?_);rfl)
theorem qN (a:ByteArray) (ha:a.size≤1000000) (i0:Nat) (w:World):aC Tryz.prog 255 [.string a,.int .i64 (i0:Int)] w (.int .i64 ((i0+aG aH ((ap a).drop i0):Nat):Int)):=by
 refine ay Tryz.func255 rfl Tryz.ntmps255 rfl ?_;have hl:=av a;by_cases hbig:a.size≤i0
 ·rw [qK (by omega),Tw];repeat' (first|refine zZF ?_|refine sM fun _=>?_|(refine sC ?_ ?_<;>intro hb<;>try omega)|fail)
  refine aw [0] rfl (fun _:Unit=> [(1,.int .i64 (i0:Int))]) (fun _=> []) (fun _=>True) (fun _=>0) () trivial sB (.refl _) ?_;rintro ⟨⟩ -;repeat' (first|refine zZF ?_|refine sM fun _=>?_|(refine sC ?_ ?_<;>intro hb<;>try omega)|fail)
  all_goals first|(exfalso;omega)|((refine rT1 ?_);rfl)
 obtain ⟨X,hX⟩: ∃ X,i0+aG aH ((ap a).drop i0)=X:=⟨_,rfl⟩;rw [hX];repeat' (first|refine zZF ?_|refine sM fun _=>?_|(refine sC ?_ ?_<;>intro hb<;>try omega)|fail)
 refine aw [0] rfl (fun i:Nat=> [(1,.int .i64 (i:Int))]) (fun _=> []) (fun i=>i≤a.size∧X=i+aG aH ((ap a).drop i)) (fun i=>a.size - i) i0 ⟨by omega,hX.symm⟩ sB (.refl _) ?_;rintro i ⟨hi,hx⟩;by_cases hlt:i<a.size
 ·rw [bi hlt,aG] at hx;have hd:=fC (bat a i);repeat' (first|(apply ai;exact rfl;apply aX (j:=i);exact rfl;exact rfl;exact hlt)|refine zZC ?_|refine sM fun _=>?_|(refine sC ?_ ?_<;>intro hb<;>try omega)|fail)
  all_goals first
   |(refine ⟨i+1,⟨hlt,?_⟩,by omega,sB,sB,.nil _⟩;rw [hx,if_pos (hd.2 ⟨by assumption,by assumption⟩)];omega)
   |((refine rT1 ?_);rw [hx,if_neg (fun h=>by have:=hd.1 h;omega)];rfl)
 ·have e:i=a.size:=by omega
  subst e;rw [qK (by omega),Tw] at hx;repeat' (first|refine zZF ?_|refine sM fun _=>?_|(refine sC ?_ ?_<;>intro hb<;>try omega)|fail)
  all_goals first|(exfalso;omega)|((refine rT1 ?_);rw [hx])
end Go.SL
namespace Go.SL
open Go Go.Proofs
attribute [local irreducible] W WL WQ WG WA WX WLI WR WT WC VOp RW thn blk bH scp aV bz bP FnAt FnIn FnP ceP
structure Pu where
 col:Int
 row:Int
 input:ByteArray
def tX (p:Pu):List Value:= [.int .i64 p.col,.int .i64 p.row,.string p.input]
theorem zk (p:Pu):(tX p).length=3:=rfl
def Aw (i n:Int):Int:=if n<1 then 0 else (i.tmod n+n).tmod n
def Pu.ref (p:Pu):Rf:=⟨1+Aw p.col 5,1+Aw p.row 7⟩
theorem wH (i:Int) {n:Int} (h:1≤n):0≤Aw i n∧Aw i n<n:=by
 unfold Aw;rw [if_neg (by omega)];have h1:=Uv i (show 0<n by omega);have h2: -n<i.tmod n:=by
  have:=Uv (-i) (show 0<n by omega);rw [Int.neg_tmod] at this;omega
 exact ⟨Int.tmod_nonneg _ (by omega),Uv _ (by omega)⟩
theorem Pu.range (p:Pu):1≤p.ref.col∧p.ref.col≤5∧1≤p.ref.row∧p.ref.row≤7:=by
 have h1:=wH p.col (n:=5) (by decide);have h2:=wH p.row (n:=7) (by decide);simp only [Pu.ref];omega
theorem Ll (i n:Int) (h1:1≤n) (h2:n≤100) (w:World):aC Tryz.prog 95 [.int .i64 i,.int .i64 n] w (.int .i64 (Aw i n)):=by
 refine ay Tryz.func95 rfl Tryz.ntmps95 rfl ?_;have h3:=Uv i (show 0<n by omega);have h4: -n<i.tmod n:=by
  have:=Uv (-i) (show 0<n by omega);rw [Int.neg_tmod] at this;omega
 repeat' (first|(apply ai (d:=9);exact rfl;apply l3 (c:=i.tmod n);exact rfl;exact rfl;omega;exact rfl)|(apply ai (d:=11);exact rfl;apply lh;exact rfl;exact rfl;exact ⟨by omega,by omega⟩)|(apply ai (d:=13);exact rfl;apply l3 (c:=(i.tmod n+n).tmod n);exact rfl;exact rfl;omega;exact rfl)|refine zZB ?_|refine sM fun _=>?_|(refine sC ?_ ?_<;>intro hb<;>try omega)|fail)
 all_goals first
  |(exfalso;omega)
  |((refine rT1 ?_);rw [Aw,if_neg (by omega)])
theorem Np (p:Pu) (w:World):aC Tryz.prog 48 [.agg (tX p).toArray] w (.agg (aB p.ref).toArray):=by
 refine ay Tryz.func48 rfl Tryz.ntmps48 rfl ?_;have h5:=fun w=>Ll p.col 5 (by decide) (by decide) w;have h7:=fun w=>Ll p.row 7 (by decide) (by decide) w;have hr:=p.range;simp only [Pu.ref] at hr;unfold Pu.ref;generalize Aw p.col 5=c at h5 hr;generalize Aw p.row 7=r at h7 hr;repeat' (first|refine zZB ?_|refine sM fun _=>?_|(refine sC ?_ ?_<;>intro hb<;>try omega)|fail)
 rename_i g1 g2;refine gy (id:=1) [2,6,9] [] [.box g1 104 (tX p)] (by kernel_rfl) (by kernel_rfl) (by kernel_rfl) mS ?_;repeat' (first|(apply vg;(iterate 4 exact rfl);(intro w hm;exact h5 w))|(apply vg;(iterate 4 exact rfl);(intro w hm;exact h7 w))|refine sT ?_|refine sS ?_|refine sW ?_|refine sJ ?_|refine sWJ ?_|refine sM fun _=>?_|(refine sC ?_ ?_<;>intro hb<;>try omega)|(refine sCW ?_ ?_<;>intro hb<;>try omega)|fail)
 all_goals ((refine eRC ?_);rfl)
end Go.SL
namespace Go.SL
open Go Go.Proofs Go.ChangeShapes Go.WideShapes Go.ChangeAt Go.RowKit Go.Deep
section
variable {H:Type} {enc:TypeId × Value→H} {P:Program} {w:World} {base:Nat} {spare:Nat→Bool} {held:Bool}
theorem x8 {f:Func} {s:ChangeSpec} {apart fresh handsOn again:Bool} {W W' :World} {args:Array Value} {v:Value} {ds gs:List (DataW H)} {before pa pv:List MemPlace}
 (hW:DataW.Whole enc P f.params.toList s.vars apart W args.toList ds gs before)
 (hres: ∀ (b:Nat) (sp:Nat→Bool) (hd:Bool),DataW.TrodAll enc P W' b sp hd f.resultTypes.toList (v.resultList f.resultTypes.size) (s.fn H (ds++gs)).results [])
 (hargs: ∀ sp:Nat→Bool,(∀ p∈before,sp p.block=true)→DataW.TrodAll enc P W' 0 sp true f.params.toList args.toList (s.fn H (ds++gs)).args pa)
 (hvars: ∀ sp:Nat→Bool,(∀ p∈before,sp p.block=true)→DataW.TrodVars enc P W' sp s.vars (s.fn H (ds++gs)).vars pv)
 (hps:before=pa++pv) (hb:Below W.heap.size W W')
 (hok: ∀ (j:Nat) (t:TypeId) (r:Value),f.resultTypes[j]? =some t→(v.resultList f.resultTypes.size)[j]? =some r→Value.okWide P W' .any 0 t r):
 s.post enc P f apart fresh handsOn again W args v W' :=by
 have hold: ∀ p∈before,(fun b=>decide (b<W.heap.size)) p.block=true:=fun p hp=>by simpa using hW.lt p hp
 refine ⟨ds,gs,before,[],pa,pv,hW,hres _ _ _,hargs _ hold,hvars _ hold,hb.frame _,fun _=> ?_⟩;have hlt:=hW.lt;obtain ⟨_,_,_,_,_,hz,hn⟩:=hW;refine ⟨hok,_,_,([]++pa)++pv,⟨[]++pa,pv,trodAll_append (hargs _ (fun _ _=>rfl)) (hres _ _ _),hvars _ (fun _ _=>rfl),rfl,?_,?_⟩,?_⟩
 ·intro b off hp;have hp' :MemPlace.cell b off∈before:=by rw [hps];simpa using hp
  have h1:=hz b off hp';have h2:=hlt _ hp';rw [← h1];exact hb.frozen h2
 ·intro ha;have:=hn ha;rw [hps] at this;simpa using this
 ·intro p hp _;rw [hps];simpa using hp
theorem xS {t:TypeId} (hl:laidOutB P=true) (hr:P.readableRec t=true) (hrow:t<P.types.size) {W W' :World} {v:Value} {d:DataW H} {ps:List MemPlace} {sp:Nat→Bool}
 (h:DataW.Trod enc P W 0 (fun _=>true) true t v d ps) (hb:Below W.heap.size W W') (hlt: ∀ x∈ps,x.block<W.heap.size) (hs: ∀ x∈ps,sp x.block=true):DataW.Trod enc P W' 0 sp true t v d ps:=
 WideElems.Trod_stays hl hr hrow h (fun x hx=>hb.same (hlt x hx)) hs
end
theorem Oh:ownKnob Tryz.prog.godebug=none:=by kernel_rfl
theorem ud:laidOutB Tryz.prog=true:=by kernel_rfl
section
variable {H:Type} {enc:TypeId × Value→H} {w:World} {base:Nat} {spare:Nat→Bool} {held:Bool}
theorem Gg {α:Type} {enc:α→List Value} {m:Nat} (hm: ∀ a,(enc a).length=m) (w:World) (g o:Nat): ∀ (L:List α),(∀ (i:Nat) (a:α),L[i]? =some a→Cells w g (o+i*m) (enc a))→Cells w g o (L.flatMap enc):=by
 intro L h j v hv;by_cases hm0:m=0
 ·have:(L.flatMap enc).length=0:=by rw [bR hm,hm0,Nat.mul_zero]
  rw [Ry (by omega)] at hv;cases hv
 have hlen:(L.flatMap enc).length=L.length*m:=bR hm L;have hj:j<(L.flatMap enc).length:=(Rm.1 hv).1;have hi:j / m<L.length:=by rw [Nat.div_lt_iff_lt_mul (by omega)];omega
 have hk:j % m<m:=Nat.mod_lt _ (by omega);have he:j / m*m+j % m=j:=by rw [Nat.mul_comm];exact Nat.div_add_mod j m
 have h1:=sH hm L (j / m) (j % m) hi hk;rw [he,hv] at h1;have h2:=h (j / m) L[j / m] (QU hi) (j % m) v h1.symm;rw [show o+j / m*m+j % m=o+j by omega] at h2;exact h2
theorem I4 {α:Type} [Inhabited α] {encA:α→List Value} {ok:α→Prop} {P:Program} {t e m fuel:Nat} {cs:List Value} {x:DataW H × List MemPlace} (ht:P.underlying t=some (.slice e)) (hm:P.cellsOf e=m) (hm0:0<m) (hlenA: ∀ a,(encA a).length=m)
 (helem: ∀ (n:Nat) (cs:List Value) (y:DataW H × List MemPlace),DataW.trod enc P w 0 spare held n e cs=some y→ ∃ a,cs=encA a∧ok a) (h:DataW.trod enc P w 0 spare held fuel t cs=some x):
 ∃ (v:Value) (L:List α),cs= [v]∧Reads w v L.length (L.flatMap encA)∧ ∀ a∈L,ok a:=by
 rcases open_slice ht h with ⟨h0,_⟩|⟨a,len,cap,mm,n,D,Pl,h0,hb,hl,hmx,hmm,_,hx⟩
 ·exact ⟨_,[],h0,⟨none,0,rfl,Rg _,QZ _,fun h=>by cases h⟩,fun _ h=>by cases h⟩
 ·have hlm:len≤mm:=by rw [hmm];split<;>omega
  obtain ⟨F,hF⟩:=choose_lt (α:=α) (n:=len) (p:=fun i nd=>w.cells? 0 (a.add (i*m)) m=some (encA nd)∧ok nd) (fun i hi=>by
   obtain ⟨cs',h1,h2⟩:=hx i (by omega);rw [hm] at h1;obtain ⟨nd,rfl,hw⟩:=helem _ _ _ h2;exact ⟨nd,h1,hw⟩)
  have hlen:((List.range len).map F).length=len:=by simp
  refine ⟨_,(List.range len).map F,h0,⟨some a,cap,by rw [hlen],by omega,hmx,fun hpos=> ?_⟩,fun n hn=> ?_⟩
  rotate_left
  ·obtain ⟨i,hi,rfl⟩:=RG.1 hn;exact (hF i (RH.1 hi)).2
  rw [hlen] at hpos;obtain ⟨g,o,spot⟩:=a;have hspot:spot=none:=by
   obtain ⟨_,_,h3⟩:=World.cells?_some (hF 0 (by omega)).1;have h4' :=h3 0 hm0;rw [QU (by rw [hlenA];exact hm0)] at h4';have h4:=World.cell?_spot h4';simpa [Addr.add] using h4
  subst hspot;have hcell: ∀ (i:Nat) (nd:α),((List.range len).map F)[i]? =some nd→Cells w g (o+i*m) (encA nd):=by
   intro i nd hnd k v hv;have hil:i<len:=by have:=(Rm.1 hnd).1;omega
   have hnd' :F i=nd:=by simpa [hil] using hnd
   subst hnd';have hk:k<m:=by have:=(Rm.1 hv).1;rwa [hlenA] at this
   obtain ⟨_,_,h3⟩:=World.cells?_some (hF i hil).1;have:=h3 k hk;rw [hv,dr,dr] at this;exact this
  refine ⟨g,o,rfl,?_,Gg hlenA w g o _ hcell⟩;obtain ⟨u,hu⟩: ∃ u,(encA (F 0))[0]? =some u:=⟨_,QU (by rw [hlenA];exact hm0)⟩;have h5:=hcell 0 (F 0) (by simp [hpos]) 0 u hu;simp only [World.cell?] at h5;split at h5
  ·rename_i h6;exact (RQ.1 h6).1
  ·cases h5
theorem KA {n:Nat} {c:Value} {x:DataW H × List MemPlace} (h:DataW.trod enc Tryz.prog w base spare held n 3 [c]=some x): ∃ a,c= .int .i64 a∧I64 a:=by
 obtain ⟨a0,q0,_,w0⟩:=DataW.trod_int Tryz.underlying3 h;simp only [List.cons.injEq,and_true] at q0;exact ⟨a0,q0,bounds_i64 w0⟩
theorem O8 {n:Nat} {c:Value} {x:DataW H × List MemPlace} (h:DataW.trod enc Tryz.prog w base spare held n 9 [c]=some x): ∃ a,c= .string a:=by
 obtain ⟨a0,q0,_⟩:=DataW.trod_string Tryz.underlying9 h;simp only [List.cons.injEq,and_true] at q0;exact ⟨a0,q0⟩
def Qv (p:Pu):Prop:=I64 p.col∧I64 p.row
set_option maxRecDepth 100000 in
theorem Kz {fuel:Nat} {cs:List Value} {x:DataW H × List MemPlace} (h:DataW.trod enc Tryz.prog w base spare held fuel 104 cs=some x): ∃ v:Pu,cs=tX v∧Qv v:=by
 obtain ⟨xs,n,_,_,hlen,hxl,hf⟩:=DataW.trod_struct Tryz.underlying104 h;have eS:Tryz.prog.cellsOf 104=3:=by kernel_rfl
 have eI:Tryz.prog.cellsOf 3=1:=by kernel_rfl
 have eT:Tryz.prog.cellsOf 9=1:=by kernel_rfl
 rw [eS] at hlen
 match cs,hlen,xs,hxl with
 | [c0,c1,c2],_,[x0,x1,x2],_=>
  have h0:DataW.trod enc Tryz.prog w base spare held n 3 ((([c0,c1,c2]:List Value).drop 0).take (Tryz.prog.cellsOf 3))=some x0:=hf 0 _ rfl;rw [eI] at h0;obtain ⟨a0,rfl,w0⟩:=KA (c:=c0) h0;have h1:DataW.trod enc Tryz.prog w base spare held n 3 ((([Value.int .i64 a0,c1,c2]:List Value).drop 1).take (Tryz.prog.cellsOf 3))=some x1:=hf 1 _ rfl;rw [eI] at h1;obtain ⟨a1,rfl,w1⟩:=KA (c:=c1) h1;have h2:DataW.trod enc Tryz.prog w base spare held n 9 ((([Value.int .i64 a0,.int .i64 a1,c2]:List Value).drop 2).take (Tryz.prog.cellsOf 9))=some x2:=hf 2 _ rfl;rw [eT] at h2;obtain ⟨a2,rfl⟩:=O8 (c:=c2) h2;exact ⟨⟨a0,a1,a2⟩,rfl,w0,w1⟩
instance iN498:Inhabited Pu:=⟨⟨0,0,ax⟩⟩
set_option maxRecDepth 100000 in
theorem I6 {α:Type} [Inhabited α] {encA:α→List Value} {ok:α→Prop} {t e m:Nat} {v:Value} {d:DataW H} {p:List MemPlace} (ht:Tryz.prog.underlying t=some (.slice e)) (hm:Tryz.prog.cellsOf e=m) (hm0:0<m) (hlenA: ∀ a,(encA a).length=m)
 (helem: ∀ (n:Nat) (cs:List Value) (y:DataW H × List MemPlace),DataW.trod enc Tryz.prog w 0 spare held n e cs=some y→ ∃ a,cs=encA a∧ok a)
 (hv:Value.okWide Tryz.prog w .any base t v) (h:DataW.Trod enc Tryz.prog w 0 spare held t v d p): ∃ L:List α,Reads w v L.length (L.flatMap encA)∧ ∀ a∈L,ok a:=by
 obtain ⟨fuel,hf⟩:=h;have hc:v.cells.toList= [v]:=by
  obtain ⟨a,n,c,rfl⟩:=okWide_slice ht hv
  rfl
 rw [hc] at hf;obtain ⟨v',L,q,h1,h2⟩:=I4 ht hm hm0 hlenA helem hf;simp only [List.cons.injEq,and_true] at q;subst q;exact ⟨L,h1,h2⟩
set_option maxRecDepth 100000 in
theorem I5 {v:Value} {d:DataW H} {p:List MemPlace} (hv:Value.okWide Tryz.prog w .any base 39 v) (h:DataW.Trod enc Tryz.prog w 0 spare held 39 v d p): ∃ L:List Pu,Reads w v L.length (L.flatMap tX)∧ ∀ a∈L,Qv a:=
 I6 Tryz.underlying39 (by kernel_rfl) (by decide) zk (fun _ _ _ h=>Kz h) hv h
end
end Go.SL
