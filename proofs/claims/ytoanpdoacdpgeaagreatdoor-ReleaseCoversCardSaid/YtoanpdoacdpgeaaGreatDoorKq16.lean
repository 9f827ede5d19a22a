/-
  Lemmas and walks, put together: Rw R3 R2 R5 R7 R8.
-/
import Derived.Test.YtoanpdoacdpgeaaGreatDoorKq15
set_option linter.unusedSimpArgs false
set_option linter.unusedVariables false
set_option maxRecDepth 20000
namespace Go.SL
open Go
theorem rJ: ∀ (l:List Int) {v:Int},(∀ c∈l,48≤c)→0≤v→0≤bw l v
 | [],_,_,h=>h
 |c::r,v,hl,h=>by
  rw [bw]
  refine rJ r (fun d hd=>hl d (Rc _ hd)) ?_
  have:=hl c QT
  omega
theorem kW {p:Int→Bool}: ∀ {l:List Int} {c:Int},c∈l.take (aC p l)→p c=true
 | [],_,h=>by cases h
 |d::r,c,h=>by
  rw [aC] at h
  split at h
  ·
   rename_i hd
   rw [Sg] at h
   rcases Rd.1 h with rfl|h
   ·
    exact hd
   ·
    exact kW h
  ·
   cases h
theorem BH {l:List Int} {v:Int} {n:Nat} (h:ku l=some (v,n)):0≤v:=by
 unfold ku at h
 dsimp only at h
 split at h
 ·
  cases h
 ·
  split at h
  ·
   cases h
  ·
   cases h
   refine rJ _ (fun c hc=> ?_) (Ss _)
   rw [Rs,Rs] at hc
   rcases hc with (hc|hc)|hc
   ·
    have:=kW hc
    rw [eD] at this
    exact this.1
   ·
    have hp:bZ (l.drop (aC aF l))=0∨ ∃ r,l.drop (aC aF l)=46::r∧bZ (l.drop (aC aF l))=aC aF r:=by
     by_cases h0:bZ (l.drop (aC aF l))=0
     ·
      exact .inl h0
     ·
      exact .inr (mX h0)
    rcases hp with hp|⟨r,hr,hp⟩
    ·
     rw [hp] at hc;cases hc
    ·
     have hr' :l.drop (aC aF l+1)=r:=by rw [← TF,hr];rfl
     rw [hr',hp] at hc
     have:=kW hc
     rw [eD] at this
     exact this.1
   ·
    rw [List.eq_of_mem_replicate hc];decide
theorem xZ (l:List Int): ∀ (ns:List (List Int)) {i c:Int} {n:Nat},0≤i→jU l ns i=some (c,n)→0≤c
 | [],_,_,_,_,h=>by cases h
 |s::r,i,c,n,hi,h=>by
  rw [jU] at h
  split at h
  ·
   cases h;exact hi
  ·
   exact xZ l r (by omega) h
theorem F3 (l:List Int): ∀ (ns:List (List Int × Int)) {c:Int} {n:Nat},opL l ns=some (c,n)→ ∃ s∈ns,s.2=c
 | [],_,_,h=>by cases h
 |(s,k)::r,c,n,h=>by
  rw [opL] at h
  split at h
  ·
   cases h;exact ⟨_,QT,rfl⟩
  ·
   obtain ⟨x,hx,he⟩:=F3 l r h
   exact ⟨x,Rc _ hx,he⟩
theorem Hr {l:List Int} {t:Tk} {n:Nat} (h:ji l=some (t,n)):0≤t.num:=by
 unfold ji at h
 split at h
 ·
  rename_i x hx
  cases h
  unfold kw at hx
  obtain ⟨⟨c,m⟩,hy,hz⟩:=Sa.1 hx
  cases hz
  exact xZ l _ (by decide) hy
 ·
  unfold gU at h
  split at h
  ·
   rename_i hx
   cases h
   obtain ⟨s,hs,he⟩:=F3 l _ hx
   have: ∀ s∈eO,0≤s.2:=by decide
   exact he ▸ this s hs
  ·
   split at h
   ·
    cases h;simp
   ·
    split at h
    ·
     cases h;simp
    ·
     split at h
     ·
      cases h;simp
     ·
      cases h
theorem GD {l:List Int} {t:Tk} {n:Nat} (h:gD l=some (t,n)):0≤t.num:=by
 unfold gD at h
 split at h
 ·
  cases h
 ·
  split at h
  ·
   cases h;simp
  ·
   split at h
   ·
    cases h;simp
   ·
    split at h
    ·
     cases h;simp
    ·
     split at h
     ·
      cases h
     ·
      split at h
      ·
       cases h;simp
      ·
       cases h;simp
theorem DA {l:List Int} {t:Tk} {n:Nat} (h:bG l=some (t,n)):0≤t.num:=by
 unfold bG at h
 split at h
 ·
  obtain ⟨⟨v,m⟩,hy,hx⟩:=Sa.1 h
  cases hx
  exact BH hy
 ·
  split at h
  ·
   obtain ⟨x,_,hx⟩:=Sa.1 h
   cases hx;simp
  ·
   split at h
   ·
    exact GD h
   ·
    exact Hr h
theorem Aw {l:List Int}: ∀ (f i:Nat) (r:List Tk),bk bG l f i= .ok r→ ∀ t∈r,0≤t.num:=by
 intro f
 induction f with
 |zero=>intro i r h;cases h;exact fun _ h=>by cases h
 |succ f ih=>
  intro i r h
  simp only [bk] at h
  split at h
  ·
   cases h;exact fun _ h=>by cases h
  ·
   split at h
   ·
    exact ih _ _ h
   ·
    split at h
    ·
     cases h
    ·
     rename_i t n ht
     cases hr:bk bG l f (i+n) with
     |error e=>rw [hr] at h;cases h
     |ok r' =>
      rw [hr] at h
      cases h
      intro u hu
      rcases Rd.1 hu with rfl|hu
      ·
       have:=DA ht
       exact this
      ·
       exact ih _ _ hr u hu
theorem Av (l:List Int): ∀ t∈(bC bG l).1,0≤t.num:=by
 unfold bC
 split
 ·
  exact fun _ h=>by cases h
 ·
  split
  ·
   exact fun _ h=>by cases h
  ·
   split
   ·
    rename_i r hr
    exact Aw _ _ _ hr
   ·
    exact fun _ h=>by cases h
def Wf (p:PS):Prop:=(∀ t∈p.l,0≤t.num)∧ ∀ n∈p.out,wfN n
theorem Wf.skip {p:PS} (h:Wf p):Wf p.skip:=⟨fun t ht=>h.1 t (List.mem_of_mem_tail ht),h.2⟩
theorem Wf.put {p:PS} (h:Wf p) {n:Nd} (hn:wfN n):Wf (p.put n):=⟨h.1,fun m hm=>by
 rcases Rs.1 hm with hm|hm
 ·
  exact h.2 m hm
 ·
  rw [RA.1 hm];exact hn⟩
theorem Nv {fin:Int} {l:List Tk} (h: ∀ t∈l,0≤t.num):0≤(hdT fin l).num:=by
 cases l with
 |nil=>exact Ss _
 |cons t r=>exact h t QT
theorem nU (k:Int) (r:Rct) (o:Int):wfN ⟨k,bD,r,o,0,0⟩:=⟨by simp [bD],Ss 0,by simp⟩
theorem OC {t:Tk} (h:0≤t.num):wfN (l3 t):=by
 unfold l3
 refine ⟨?_,Ss 0,by simp⟩
 simp only
 split
 ·
  simp only;omega
 ·
  split
  ·
   simp
  ·
   split
   ·
    simp only;omega
   ·
    simp only;omega
theorem tH (b:ByteArray):0≤(ba b).1∧(ba b).1≤255:=by
 have hb1:=iQ cZ b 0 (by omega)
 rw [iO] at hb1
 unfold ba
 split
 ·
  dsimp only;omega
 ·
  dsimp only;omega
theorem wm {fin:Int} {name:Tk} {fn:Int} {n m:Nat} {p p' :PS} (h:cV fin name fn n p=some (.ok (m,p'))) (hw:Wf p) (h0:0≤fn) (h1:fn≤255):Wf p' :=by
 unfold cV at h
 dsimp only at h
 split at h
 ·
  cases h
 ·
  split at h
  ·
   cases h
  ·
   split at h
   ·
    cases h
   ·
    cases h
    exact hw.skip.put ⟨by simp [bD],h0,h1⟩
theorem FU (fin:Int): ∀ (f:Nat) (j:Job) (p:PS) (n:Nat) (p' :PS),bq fin f j p=some (.ok (n,p'))→Wf p→Wf p'
 |0,_,_,_,_,h,_=>by cases h
 |f+1,j,p,n,p',h,hw=>by
  have ih:=FU fin f
  cases j with
  |level k=>
   rw [bq] at h
   split at h
   ·
    exact ih _ _ _ _ h hw
   ·
    obtain ⟨n1,p1,h1,h2⟩:=cw h
    exact ih _ _ _ _ h2 (ih _ _ _ _ h1 hw)
  |loop k=>
   rw [bq] at h
   try dsimp only at h
   split at h
   ·
    obtain ⟨n1,p1,h1,h2⟩:=cw h
    exact ih _ _ _ _ h2 ((ih _ _ _ _ h1 hw.skip).put (nU _ _ _))
   ·
    cases h;exact hw
  |sign=>
   rw [bq] at h
   try dsimp only at h
   split at h
   ·
    obtain ⟨n1,p1,h1,h2⟩:=cw h
    cases h2
    exact (ih _ _ _ _ h1 hw.skip).put (nU _ _ _)
   ·
    obtain ⟨n1,p1,h1,h2⟩:=cw h
    split at h2
    ·
     obtain ⟨n2,p2,h3,h4⟩:=cw h2
     cases h4
     exact (ih _ _ _ _ h3 (ih _ _ _ _ h1 hw).skip).put (nU _ _ _)
    ·
     cases h2
     exact ih _ _ _ _ h1 hw
  |pct=>
   rw [bq] at h
   obtain ⟨n1,p1,h1,h2⟩:=cw h
   exact ih _ _ _ _ h2 (ih _ _ _ _ h1 hw)
  |pctl=>
   rw [bq] at h
   try dsimp only at h
   split at h
   ·
    exact ih _ _ _ _ h (hw.skip.put (nU _ _ _))
   ·
    cases h;exact hw
  |prim=>
   rw [bq] at h
   try dsimp only at h
   split at h
   ·
    cases h
    exact hw.skip.put (OC (Nv hw.1))
   ·
    split at h
    ·
     cases h
     exact hw.skip.put (nU _ _ _)
    ·
     split at h
     ·
      obtain ⟨n1,p1,h1,h2⟩:=cw h
      split at h2
      ·
       cases h2
      ·
       cases h2
       exact (ih _ _ _ _ h1 hw.skip).skip
     ·
      split at h
      ·
       split at h
       ·
        cases h
       ·
        have hb:=tH (hdT fin p.l).text
        split at h
        ·
         cases h
        ·
         split at h
         ·
          exact wm h hw.skip.skip hb.1 hb.2
         ·
          obtain ⟨n1,p1,h1,h2⟩:=cw h
          exact wm h2 (ih _ _ _ _ h1 hw.skip.skip) hb.1 hb.2
      ·
       cases h
  |args fn i=>
   rw [bq] at h
   try dsimp only at h
   have hgo: ∀ p0:PS,Wf p0→(if (hdT fin p0.l).kind=11 then bq fin f (.args fn (i+1)) p0.skip else some (.ok (i+1,p0)))=some (.ok (n,p'))→Wf p' :=by
    intro p0 hw0 h0
    split at h0
    ·
     exact ih _ _ _ _ h0 hw0.skip
    ·
     cases h0;exact hw0
   split at h
   ·
    obtain ⟨n1,p1,h1,h2⟩:=cw h
    exact hgo p1 (ih _ _ _ _ h1 hw) h2
   ·
    split at h
    ·
     cases h
    ·
     exact hgo _ (hw.skip.put (nU _ _ _)) h
end Go.SL
namespace Go.SL
open Go Go.Proofs Go.RowKit
section
variable {P:Program} {n:Fr} {w0:World} {Q:bU} {s:az} {H:List Blk} {ty:TypeId} {x y:Operand} {k:IntKind} {a b:Int} {t t' :TypeId}
theorem P4 (hx:ev s x=some (.int k a)) (hy:ev s y=some (.int k b)) (h:b≠0):VOp P w0 s H (.binOp .quo t x y t') ty (.int k (k.wrap (a.tdiv b))):=fun ρ w _ _ _ _ hρ _=>by
 simp [execOp,hρ x _ hx,hρ y _ hy,eqGuard,binOp,Op.intDiv,h]
theorem mE {c:Int} (hx:ev s x=some (.int k a)) (hy:ev s y=some (.int k b)) (h:b≠0) (hc:k.wrap (a.tdiv b)=c):VOp P w0 s H (.binOp .quo t x y t') ty (.int k c):=hc ▸ P4 hx hy h
theorem pX {c:Int} (hx:ev s x=some (.int k a)) (hy:ev s y=some (.int k b)) (h:b≠0) (hc:a.tmod b=c):VOp P w0 s H (.binOp .rem t x y t') ty (.int k c):=hc ▸ P3 hx hy h
theorem gj {c:Int} (hx:ev s x=some (.int k a)) (hy:ev s y=some (.int k b)) (hc:k.wrap (a*b)=c):VOp P w0 s H (.binOp .mul t x y t') ty (.int k c):=hc ▸ Dk hx hy
end
attribute [local irreducible] W WL WQ WG WA WX WLI WR WT WC VOp RW thn blk bE scp aV bo bI aK FnIn FnP ceP
def fE (v:Int):List Value:= [.int .u64 (v / 18446744073709551616),.int .u64 (v % 18446744073709551616)]
theorem kR {v:Int} (h0:0≤v) (h:v<18446744073709551616):fE v= [.int .u64 0,.int .u64 v]:=by
 unfold fE
 rw [Int.ediv_eq_zero_of_lt h0 h,Int.emod_eq_of_lt h0 h]
theorem tT (x y:Int) (hx:0≤x) (hy:0≤y) (h:x+y<340282366920938463463374607431768211456) (w:World):ay Tryz.prog 236 [.agg (fE x).toArray,.agg (fE y).toArray] w (.agg (fE (x+y)).toArray):=by
 refine aq Tryz.func236 rfl Tryz.ntmps236 rfl ?_
 obtain ⟨xh,hxh⟩: ∃ z,x / 18446744073709551616=z:=⟨_,rfl⟩
 obtain ⟨xl,hxl⟩: ∃ z,x % 18446744073709551616=z:=⟨_,rfl⟩
 obtain ⟨yh,hyh⟩: ∃ z,y / 18446744073709551616=z:=⟨_,rfl⟩
 obtain ⟨yl,hyl⟩: ∃ z,y % 18446744073709551616=z:=⟨_,rfl⟩
 unfold fE
 rw [hxh,hxl,hyh,hyl]
 obtain ⟨l,hlw⟩: ∃ z,IntKind.u64.wrap (xl+yl)=z:=⟨_,rfl⟩
 obtain ⟨h1,hhw⟩: ∃ z,IntKind.u64.wrap (xh+yh)=z:=⟨_,rfl⟩
 have hl2:=hlw
 have hh2:=hhw
 rw [IntKind.wrap_u64] at hl2 hh2
 have h11:IntKind.u64.wrap (h1+1)=(h1+1) % 18446744073709551616:=IntKind.wrap_u64 _
 repeat' (first|(apply ak (d:=11);exact rfl;apply dQ;exact rfl;exact rfl;exact hlw)|(apply ak (d:=16);exact rfl;apply dQ;exact rfl;exact rfl;exact hhw)|(apply ak (d:=22);exact rfl;apply dQ;exact rfl;exact rfl;exact h11)|refine sT ?_|refine sM fun _=> ?_|(refine sC ?_ ?_<;>intro hb<;>try omega)|fail)
 all_goals
  (refine eRC ?_)
  have e1:(x+y) % 18446744073709551616=l:=by omega
  rw [e1]
  congr 4
  omega
set_option maxHeartbeats 1000000 in
theorem DD (u:Int) (h0:0≤u) (h1:u<18446744073709551616) (w:World):ay Tryz.prog 237 [.int .u64 u,.int .u64 10] w (.agg (fE (10*u)).toArray):=by
 refine aq Tryz.func237 rfl Tryz.ntmps237 rfl ?_
 obtain ⟨al,hal⟩: ∃ z,u % 4294967296=z:=⟨_,rfl⟩
 obtain ⟨ah,hah⟩: ∃ z,u / 4294967296=z:=⟨_,rfl⟩
 have b1:0≤al∧al<4294967296:=by omega
 have b2:0≤ah∧ah<4294967296:=by omega
 have t1:u.tmod 4294967296=al:=by rw [Int.tmod_eq_emod_of_nonneg h0];exact hal
 have t2:IntKind.u64.wrap (u.tdiv 4294967296)=ah:=by rw [Ub h0,hah,IntKind.wrap_u64];omega
 have t3:(10:Int).tmod 4294967296=10:=by decide
 have t4:IntKind.u64.wrap ((10:Int).tdiv 4294967296)=0:=by decide
 have m1:IntKind.u64.wrap (ah*0)=0:=by rw [Int.mul_zero];decide
 have m2:IntKind.u64.wrap (al*10)=al*10:=by rw [IntKind.wrap_u64];omega
 have m3:IntKind.u64.wrap (ah*10)=ah*10:=by rw [IntKind.wrap_u64];omega
 have q3:IntKind.u64.wrap ((ah*10).tdiv 4294967296)=ah*10 / 4294967296:=by rw [Ub (by omega),IntKind.wrap_u64];omega
 have r3:(ah*10).tmod 4294967296=ah*10 % 4294967296:=Int.tmod_eq_emod_of_nonneg (by omega)
 have m4:IntKind.u64.wrap (ah*10 % 4294967296*4294967296)=ah*10 % 4294967296*4294967296:=by rw [IntKind.wrap_u64];omega
 have m5:IntKind.u64.wrap (al*0)=0:=by rw [Int.mul_zero];decide
 have q5:IntKind.u64.wrap ((0:Int).tdiv 4294967296)=0:=by decide
 have r5:(0:Int).tmod 4294967296=0:=by decide
 have m6:IntKind.u64.wrap ((0:Int)*4294967296)=0:=by decide
 have e1:fE (al*10)= [.int .u64 0,.int .u64 (al*10)]:=kR (by omega) (by omega)
 have e2:fE (ah*10*4294967296)= [.int .u64 (ah*10 / 4294967296),.int .u64 (ah*10 % 4294967296*4294967296)]:=by
  have ea:ah*10*4294967296 / 18446744073709551616=ah*10 / 4294967296:=by omega
  have eb:ah*10*4294967296 % 18446744073709551616=ah*10 % 4294967296*4294967296:=by omega
  rw [fE,ea,eb]
 have e3:fE 0= [.int .u64 0,.int .u64 0]:=kR (by omega) (by omega)
 have p1:=fun w=>tT (al*10) (ah*10*4294967296) (by omega) (by omega) (by omega) w
 have p2:=fun w=>tT (al*10+ah*10*4294967296) 0 (by omega) (by omega) (by omega) w
 rw [e1,e2] at p1
 rw [e3,Int.add_zero] at p2
 have e4:al*10+ah*10*4294967296=10*u:=by omega
 rw [e4] at p1 p2
 have hb: ∀ c:Int,(4294967296:Int)≠0:=fun _=>by decide
 repeat' (first|(apply ak (d:=11);exact rfl;apply pX;exact rfl;exact rfl;exact hb 0;exact t1)|(apply ak (d:=13);exact rfl;apply mE;exact rfl;exact rfl;exact hb 0;exact t2)|(apply ak (d:=15);exact rfl;apply pX;exact rfl;exact rfl;exact hb 0;exact t3)|(apply ak (d:=17);exact rfl;apply mE;exact rfl;exact rfl;exact hb 0;exact t4)|(apply ak (d:=20);exact rfl;apply gj;exact rfl;exact rfl;exact m1)|(apply ak (d:=23);exact rfl;apply gj;exact rfl;exact rfl;exact m2)|(apply ak (d:=28);exact rfl;apply gj;exact rfl;exact rfl;exact m3)|(apply ak (d:=29);exact rfl;apply mE;exact rfl;exact rfl;exact hb 0;exact q3)|(apply ak (d:=32);exact rfl;apply gj;exact rfl;exact rfl;exact m3)|(apply ak (d:=33);exact rfl;apply pX;exact rfl;exact rfl;exact hb 0;exact r3)|(apply ak (d:=34);exact rfl;apply gj;exact rfl;exact rfl;exact m4)|(apply ak (d:=40);exact rfl;apply gj;exact rfl;exact rfl;exact m5)|(apply ak (d:=41);exact rfl;apply mE;exact rfl;exact rfl;exact hb 0;exact q5)|(apply ak (d:=44);exact rfl;apply gj;exact rfl;exact rfl;exact m5)|(apply ak (d:=45);exact rfl;apply pX;exact rfl;exact rfl;exact hb 0;exact r5)|(apply ak (d:=46);exact rfl;apply gj;exact rfl;exact rfl;exact m6)|(apply aa (d:=36);exact rfl;exact rfl;(intro w' hm;exact p1 w'))|(apply aa (d:=48);exact rfl;exact rfl;(intro w' hm;exact p2 w'))|refine sT ?_|refine sM fun _=> ?_|(refine sC ?_ ?_<;>intro hb<;>try omega)|fail)
 (refine eRC ?_)
 rfl
theorem lQ (v:Int) (neg:Bool) (h0:0≤v) (h1:v<340282366920938463463374607431768211456) (w:World):ay Tryz.prog 238 [.agg (fE v).toArray,.bool neg] w (.tuple #[.int .i64 (if cI<v then 0 else if neg then -v else v),.bool (decide (v≤cI))]):=by
 refine aq Tryz.func238 rfl Tryz.ntmps238 rfl ?_
 have hm:cI=9223372036854775807:=rfl
 by_cases hv:v≤cI
 ·
  rw [if_neg (by omega),decide_eq_true hv,kR h0 (by omega)]
  have hw:IntKind.i64.wrap v=v:=pQ h0 hv
  cases neg
  ·
   repeat' (first|(apply ak;exact rfl;apply bW;exact rfl;exact hw)|refine sT ?_|refine sM fun _=> ?_|(refine sC ?_ ?_<;>intro hb<;>try omega)|fail)
   all_goals first|(exfalso;omega)|((refine rT2 ?_);rfl)
  ·
   repeat' (first|(apply ak;exact rfl;apply bW;exact rfl;exact hw)|(apply ak;exact rfl;apply Ol;exact rfl;exact ⟨by omega,by omega⟩)|refine sT ?_|refine sM fun _=> ?_|(refine sC ?_ ?_<;>intro hb<;>try omega)|fail)
   all_goals first|(exfalso;omega)|((refine rT2 ?_);rfl)
 ·
  rw [if_pos (by omega),decide_eq_false hv]
  unfold fE
  obtain ⟨vh,hvh⟩: ∃ z,v / 18446744073709551616=z:=⟨_,rfl⟩
  obtain ⟨vl,hvl⟩: ∃ z,v % 18446744073709551616=z:=⟨_,rfl⟩
  rw [hvh,hvl]
  repeat' (first|refine sT ?_|refine sM fun _=> ?_|(refine sC ?_ ?_<;>intro hb<;>try omega)|fail)
  all_goals first|(exfalso;omega)|((refine rT2 ?_);rfl)
theorem qh (a:ByteArray) (ha:a.size≤1000000) (i0:Nat) (w:World):ay Tryz.prog 235 [.string a,.int .i64 (i0:Int)] w (.int .i64 ((i0+aC aF ((ap a).drop i0):Nat):Int)):=by
 refine aq Tryz.func235 rfl Tryz.ntmps235 rfl ?_
 have hl:=au a
 by_cases hbig:a.size≤i0
 ·
  rw [qd (by omega),Ta]
  repeat' (first|refine sT ?_|refine sS ?_|refine sT2 ?_|refine sM fun _=> ?_|(refine sC ?_ ?_<;>intro hb<;>try omega)|fail)
  refine ax [0] rfl (fun _:Unit=> [(1,.int .i64 (i0:Int))]) (fun _=> []) (fun _=>True) (fun _=>0) () trivial sB (.refl _) ?_
  rintro ⟨⟩ -
  repeat' (first|refine sT ?_|refine sS ?_|refine sT2 ?_|refine sM fun _=> ?_|(refine sC ?_ ?_<;>intro hb<;>try omega)|fail)
  all_goals first|(exfalso;omega)|((refine rT1 ?_);rfl)
 obtain ⟨X,hX⟩: ∃ X,i0+aC aF ((ap a).drop i0)=X:=⟨_,rfl⟩
 rw [hX]
 repeat' (first|refine sT ?_|refine sS ?_|refine sT2 ?_|refine sM fun _=> ?_|(refine sC ?_ ?_<;>intro hb<;>try omega)|fail)
 refine ax [0] rfl (fun i:Nat=> [(1,.int .i64 (i:Int))]) (fun _=> []) (fun i=>i≤a.size∧X=i+aC aF ((ap a).drop i)) (fun i=>a.size - i) i0 ⟨by omega,hX.symm⟩ sB (.refl _) ?_
 rintro i ⟨hi,hx⟩
 by_cases hlt:i<a.size
 ·
  rw [bi hlt,aC] at hx
  have hd:=eD (bat a i)
  repeat' (first|(apply ak;exact rfl;apply aZ (j:=i);exact rfl;exact rfl;exact hlt)|refine sT ?_|refine sS ?_|refine sT2 ?_|refine sN ?_|refine sM fun _=> ?_|(refine sC ?_ ?_<;>intro hb<;>try omega)|fail)
  all_goals first
   |(refine ⟨i+1,⟨hlt,?_⟩,by omega,sB,sB,.nil _⟩;rw [hx,if_pos (hd.2 ⟨by assumption,by assumption⟩)];omega)
   |((refine rT1 ?_);rw [hx,if_neg (fun h=>by have:=hd.1 h;omega)];rfl)
 ·
  have e:i=a.size:=by omega
  subst e
  rw [qd (by omega),Ta] at hx
  repeat' (first|refine sT ?_|refine sS ?_|refine sT2 ?_|refine sM fun _=> ?_|(refine sC ?_ ?_<;>intro hb<;>try omega)|fail)
  all_goals first|(exfalso;omega)|((refine rT1 ?_);rw [hx])
end Go.SL
namespace Go.SL
open Go Go.Proofs
attribute [local irreducible] W WL WQ WG WA WX WLI WR WT WC VOp RW thn blk bE scp aV bo bI aK FnIn FnP ceP
theorem AX (b:Bool) (w:World):ay Tryz.prog 189 [.bool b] w (.agg (dA (lL b)).toArray):=by
 refine aq Tryz.func189 rfl Tryz.ntmps189 rfl ?_
 repeat' (first|refine sT ?_|refine sM fun _=> ?_|(refine sC ?_ ?_<;>intro hb<;>try omega)|fail)
 all_goals ((refine eRC ?_);simp_all [lL,dA,av])
theorem pw (c:Int) (w:World):ay Tryz.prog 191 [.int .i64 c] w (.agg (dA (fR c)).toArray):=by
 refine aq Tryz.func191 rfl Tryz.ntmps191 rfl ?_
 repeat' (first|refine sT ?_|refine sM fun _=> ?_|(refine sC ?_ ?_<;>intro hb<;>try omega)|fail)
 all_goals ((refine eRC ?_);simp only [fR];(first|rw [if_pos (by omega)]|rw [if_neg (by omega)]);rfl)
theorem DV (n:Int) (h: -9223372036854775808≤n) (w:World):ay Tryz.prog 193 [.int .i64 n] w (.agg (dA (vE n)).toArray):=by
 refine aq Tryz.func193 rfl Tryz.ntmps193 rfl ?_
 have hf: ∀ w,ay Tryz.prog 191 [.int .i64 3] w (.agg #[.int .u8 4,.int .i64 3,.string av]):=fun w=>pw 3 w
 repeat' (first|(apply aa;exact rfl;exact rfl;(intro w hm;exact hf w))|refine sT ?_|refine sM fun _=> ?_|(refine sC ?_ ?_<;>intro hb<;>try omega)|fail)
 ·
  (refine eRC ?_)
  rw [vE,if_pos (by omega)];rfl
 ·
  (refine eRC ?_)
  rw [vE,if_neg (by omega)];rfl
def NF (c:Int):ByteArray:=if 1≤c∧c≤7 then cD.getD c.toNat av else av
theorem xE (c:Int) (w:World):ay Tryz.prog 234 [.int .i64 c] w (.string (NF c)):=by
 refine aq Tryz.func234 rfl Tryz.ntmps234 rfl ?_
 repeat' (first|refine sT ?_|refine sS ?_|refine sM fun _=> ?_|(refine sC ?_ ?_<;>intro hb<;>try omega)|fail)
 all_goals first
  |((refine rT1 ?_);subst_vars;rfl)
  |((refine rT1 ?_);rw [NF,if_neg (by omega)];rfl)
theorem DZ (a:ByteArray) (ha:a.size≤1000000) (w:World):ay Tryz.prog 190 [.string a] w (.tuple #[.int .i64 (gW a).1,.int .i64 (gW a).2]):=by
  refine aq Tryz.func190 rfl Tryz.ntmps190 rfl ?_
  have hU:=fun w=>j8 a ha w
  unfold gW
  generalize upB a=u at hU
  obtain ⟨X,hX⟩: ∃ X,iZ u (cD.drop 1) 1=X:=⟨_,rfl⟩
  rw [hX]
  repeat' (first|refine sT ?_|refine sS ?_|refine sM fun _=> ?_|(refine sC ?_ ?_<;>intro hb<;>try omega)|fail)
  refine ax [0,2,3] rfl (fun i:Nat=> [(4,.int .i64 ((i:Int)+1))]) (fun _=> []) (fun i=>i≤7∧X=iZ u (cD.drop (i+1)) ((i:Int)+1)) (fun i=>7 - i) 0 ⟨by omega,hX.symm⟩ sB (.refl _) ?_
  rintro i ⟨hi,hc⟩
  by_cases hlt:i<7
  · rw [rY (by omega),iZ] at hc
    have hN: ∀ w,ay Tryz.prog 234 [.int .i64 ((i:Int)+1)] w (.string (cD.getD (i+1) av)):=fun w=>by
      have:=xE ((i:Int)+1) w
      rw [NF,if_pos (by omega)] at this
      exact this
    generalize cD.getD (i+1) av=x at hN hc
    repeat' (first|(apply aa (f:=234);exact rfl;exact rfl;(intro w' hm;exact hN w'))|(apply aa;exact rfl;exact rfl;(intro w hm;exact hU w))|refine sT ?_|refine sS ?_|refine sJ ?_|refine sM fun _=> ?_|(refine sC ?_ ?_<;>intro hb<;>try omega)|fail)
    all_goals first
      |(refine eY eIO rfl rfl rfl (.nil _) ?_;rw [hc,if_pos (by assumption)];done)
      | (refine ⟨i + 1, ⟨by omega, ?_⟩, by omega, ?_, ?_, .nil _⟩
         · rw [hc,if_neg (by assumption)];rfl
         · exact sB
         · exact sB)
  · have e:i=7:=by omega
    subst e
    repeat' (first|refine sT ?_|refine sS ?_|refine sM fun _=> ?_|(refine sC ?_ ?_<;>intro hb<;>try omega)|fail)
    all_goals (refine eY eIO rfl rfl rfl (.nil _) ?_;rw [hc];rfl)
theorem DS (c:Int) (h1:1≤c) (h2:c≤5) (w:World):ay Tryz.prog 321 [.agg (dA ⟨4,c,av⟩).toArray] w (.string (cD.getD c.toNat av)):=by
 refine aq Tryz.func321 rfl Tryz.ntmps321 rfl ?_
 have he:decide ((⟨4,c,av⟩:Vl)=fR 7)=false:=by rw [← Gg];simp [eqV,fR];omega
 have hv:o8 ⟨4,c,av⟩=0:=by
  have h6:decide (c≤6)=true:=decide_eq_true (by omega)
  simp [o8,uq,h1,h6]
 have hc:=fun w=>xD ⟨4,c,av⟩ (by dsimp only;omega) w
 rw [hv] at hc
 have hN:=fun w=>xE c w
 rw [show NF c=cD.getD c.toNat av from if_pos ⟨h1,by omega⟩] at hN
 repeat' (first|(apply (cj (id:=1) [1] []);kernel_rfl;kernel_rfl;kernel_rfl)|(apply aa;exact rfl;exact rfl;(intro w hm;exact pw 7 w))|(apply da;(iterate 3 exact rfl);apply GS (a:=⟨4,c,av⟩) (b:=fR 7) he;exact rfl;exact rfl)|(apply aa;exact rfl;exact rfl;(intro w hm;exact hc w))|(apply aa;exact rfl;exact rfl;(intro w hm;exact hN w))|refine sT ?_|refine sW ?_|refine sM fun _=> ?_|(refine sC ?_ ?_<;>intro hb<;>try omega)|(refine sCW ?_ ?_<;>intro hb<;>try omega)|fail)
 all_goals ((refine rT1 ?_);rfl)
theorem vw {D:List Int} {k:Nat} {c:Int} (h:D[k]? =some c):bw (D.take (k+1)) 0=10*bw (D.take k) 0+(c - 48):=by
 obtain ⟨h1,rfl⟩:=Rn.1 h
 rw [Rg h1,py]
theorem oR {D:List Int} (hd: ∀ (k:Nat) c,D[k]? =some c→48≤c∧c≤57) (k:Nat):0≤bw (D.take k) 0∧bw (D.take k) 0≤bw D 0:=by
 have h48: ∀ c∈D,48≤c:=fun c hc=>by
  obtain ⟨i,hi,rfl⟩:=SJ hc
  exact (hd i _ (QQ hi)).1
 have h1:0≤bw (D.take k) 0:=lj _ (fun c hc=>h48 c (Sj hc)) (Ss _)
 refine ⟨h1,?_⟩
 conv=>rhs;rw [← Si k D,qp]
 exact lj _ (fun c hc=>h48 c (S5 hc)) h1
set_option maxHeartbeats 2000000 in
theorem HE (a:ByteArray) (ha:a.size≤1000000) (w:World):ay Tryz.prog 192 [.string a] w (.tuple #[.int .i64 (f4 (ap a)).1,.int .i64 (f4 (ap a)).2]):=by
  refine aq Tryz.func192 rfl Tryz.ntmps192 rfl ?_
  have hl:=au a
  have hm:cI=9223372036854775807:=rfl
  obtain ⟨neg,hneg⟩: ∃ neg,neg=decide ((ap a).head? =some 45):=⟨_,rfl⟩
  have hb0:=qx a 45
  obtain ⟨fr,hfr⟩: ∃ fr,fr=if neg then 1 else 0:=⟨_,rfl⟩
  obtain ⟨n,hn⟩: ∃ n,n=aC aF ((ap a).drop fr):=⟨_,rfl⟩
  obtain ⟨e,he⟩: ∃ e,e=if (ap a)[fr+n]? =some 46 then fr+n+1+aC aF ((ap a).drop (fr+n+1)) else fr+n:=⟨_,rfl⟩
  have hcase:=IM (ap a) neg hneg fr hfr n hn e he
  have hfrl:fr≤a.size:=by
    rw [hfr]
    cases neg with
    |false=>exact QX _
    |true=>have:=(hb0.1 (of_decide_eq_true hneg.symm)).1;simp only [if_true];omega
  have hnl:fr+n≤a.size:=by
    have:=bY aF ((ap a).drop fr)
    rw [Rk] at this
    omega
  have hD1:=qh a ha fr
  rw [← hn] at hD1
  have hD2:=qh a ha (fr+n+1)
  have hyes:0<a.size→bat a 0=45→fr=1:=fun h1 h2=>by
    have:neg=true:=by rw [hneg];exact decide_eq_true (hb0.2 ⟨h1,h2⟩)
    rw [hfr,this];rfl
  have hno:(0<a.size→bat a 0≠45)→fr=0:=fun h=>by
    have:neg=false:=by rw [hneg];exact decide_eq_false (fun h' =>h (hb0.1 h').1 (hb0.1 h').2)
    rw [hfr,this];rfl
  have hnegE:decide ((fr:Int)=1)=neg:=by
    rw [hfr]
    cases neg<;>rfl
  have h46: ∀ j,j<a.size→((ap a)[j]? =some 46↔bat a j=46):=fun j hj=>by rw [fW hj];simp
  have h46' :a.size≤fr+n→ ¬ (ap a)[fr+n]? =some 46:=fun h=>by rw [Sn (by omega)];simp
  repeat' (first|(refine yI (id:=2) (ι:=Unit) (fun _=> [(0,.string a),(4,.int .i64 (fr:Int))]) (fun _=> []) (fun _=>True) ?_ ?_)|refine sT ?_|refine sS ?_|refine sT2 ?_|refine sM fun _=> ?_|(refine sC ?_ ?_<;>intro hb<;>try omega)|exact cT|fail)
  · rw [hyes (by omega) (by assumption)]
    refine cC (()) ?_ sB mS
    trivial
  · rw [hno (fun _=>by assumption)]
    refine cC (()) ?_ sB mS
    trivial
  · rw [hno (fun h=>by omega)]
    refine cC (()) ?_ sB mS
    trivial
  rintro ⟨⟩ -
  repeat' (first|(apply aa (d:=22);exact rfl;exact rfl;(intro w' hm;exact hD1 w'))|(refine yI (id:=6) (ι:=Unit) (fun _=> [(0,.string a),(4,.int .i64 (fr:Int)),(5,.int .i64 ((fr+n:Nat):Int)),(6,.int .i64 (e:Int))]) (fun _=> []) (fun _=>True) ?_ ?_)|(apply ak;exact rfl;apply aZ (j:=fr+n);exact rfl;exact rfl;omega)|(apply aa (d:=37);exact rfl;exact rfl;(intro w' hm;exact hD2 w'))|refine sT ?_|refine sS ?_|refine sT2 ?_|refine sN ?_|refine sM fun _=> ?_|(refine sC ?_ ?_<;>intro hb<;>try omega)|exact cT|fail)
  · rw [he,if_pos ((h46 _ (by omega)).2 (by assumption))]
    refine cC (()) ?_ sB mS
    trivial
  · rw [he,if_neg (fun h=>absurd ((h46 _ (by omega)).1 h) (by assumption))]
    refine cC (()) ?_ sB mS
    trivial
  · rw [he,if_neg (h46' (by omega))]
    refine cC (()) ?_ sB mS
    trivial
  rintro ⟨⟩ -
  clear hD1 hD2 hyes hno h46 h46' hb0
  rcases hcase with ⟨hbad,hd⟩|⟨h0,he1,he2,D,r,hP⟩
  · repeat' (first|refine sT ?_|refine sS ?_|refine sT2 ?_|refine sN ?_|refine sM fun _=> ?_|(refine sC ?_ ?_<;>intro hb<;>try omega)|exact cT|fail)
    all_goals first
      |((refine rT2 ?_);rw [hd];done)
      |(exfalso;omega)
  have hD4:=hP.len
  have hat: ∀ i,fr≤i→i<fr+n+5→i≠fr+n→ ∃ c,D[if i<fr+n then i - fr else i - fr - 1]? =some c∧48≤c∧c≤57∧(i<a.size→bat a i=c)∧(a.size≤i→c=48):=fun i h1 h2 h3=>by
    by_cases h:i<fr+n
    · rw [if_pos h]
      have hk:=hP.at1 (i - fr) (by omega)
      rw [show fr+(i - fr)=i by omega,fW (by omega)] at hk
      exact ⟨_,hk,(hP.dig hk).1,(hP.dig hk).2,fun _=>rfl,fun h=>by omega⟩
    · rw [if_neg h]
      have hk:=hP.at2 (i - fr - 1) (by omega) (by omega)
      rw [show fr+(i - fr - 1)+1=i by omega] at hk
      refine ⟨_,hk,(hP.dig hk).1,(hP.dig hk).2,fun h4=> ?_,fun h4=> ?_⟩
      · rw [Ru,fW h4];rfl
      · rw [Ru,Sn (by omega)];rfl
  have hge:=oR (fun k c h=>hP.dig (k:=k) h)
  have hres:=hP.res
  have hr:=hP.rnd
  repeat' (first|refine sT ?_|refine sS ?_|refine sT2 ?_|refine sN ?_|refine sM fun _=> ?_|(refine sC ?_ ?_<;>intro hb<;>try omega)|exact cT|fail)
  all_goals try (exfalso;omega)
  rename_i g7
  refine ax [0,4,5,7] rfl (fun i:Nat=> [(8,.int .i64 (i:Int))]) (fun i=> [.box g7 286 (fE (bw (D.take (if i≤fr+n then i - fr else i - fr - 1)) 0))]) (fun i=>fr≤i∧i≤fr+n+5∧bw (D.take (if i≤fr+n then i - fr else i - fr - 1)) 0≤10*cI+9) (fun i=>fr+n+5 - i) fr ⟨by omega,by omega,?_⟩ sB ?_ ?_
  · rw [if_pos (by omega),Nat.sub_self,Su];decide
  · rw [if_pos (by omega),Nat.sub_self,Su]
    exact .refl _
  rintro i ⟨h1,h2,h3⟩
  obtain ⟨k,hk⟩: ∃ k,(if i≤fr+n then i - fr else i - fr - 1)=k:=⟨_,rfl⟩
  rw [hk] at h3 ⊢
  have hgk:=hge k
  obtain ⟨V,hV⟩: ∃ V,bw (D.take k) 0=V:=⟨_,rfl⟩
  rw [hV] at h3 hgk ⊢
  by_cases hend:i=fr+n+5
  · have hVD:V=bw D 0:=by
      rw [← hV,RS]
      rw [hD4,← hk,if_neg (by omega)];omega
    have hsi:=fun v neg h h' w=>lQ v neg h h' w
    subst hend
    have hpl: ∀ w,ay Tryz.prog 236 [.agg (fE V).toArray,.agg #[.int .u64 0,.int .u64 1]] w (.agg (fE (V+1)).toArray):=fun w=>by
      have:=tT V 1 hgk.1 (by omega) (by omega) w
      rwa [kR (v:=1) (by omega) (by omega)] at this
    have hS0:=fun w=>lQ V neg hgk.1 (by omega) w
    have hS1:=fun w=>lQ (V+1) neg (by omega) (by omega) w
    rw [← hVD] at hres
    have hrin:fr+n+5<a.size→bat a (fr+n+5)=r:=fun hin=>by
      rw [hr,Ru,fW hin];rfl
    have hrout:a.size≤fr+n+5→r=48:=fun h=>by
      rw [hr,Ru,Sn (by omega)];rfl
    clear hr hP hat hge hV hVD
    repeat' (first|(apply ak (d:=57);exact rfl;apply dE (b:=5);exact rfl;exact rfl;(simp only [maxLen] at*;omega))|(apply ak (d:=93);exact rfl;apply dE (b:=5);exact rfl;exact rfl;(simp only [maxLen] at*;omega))|(apply ak (d:=100);exact rfl;apply dE (b:=5);exact rfl;exact rfl;(simp only [maxLen] at*;omega))|(apply ak (d:=101);exact rfl;apply aZ (j:=fr+n+5);exact rfl;exact rfl;omega)|(rw [hrin (by omega)])|(apply aa (f:=236);exact rfl;exact rfl;(intro w' hm;exact hpl w'))|(rw [hnegE])|(apply aa (f:=238);exact rfl;exact rfl;(intro w' hm;first|exact hS1 w' |exact hS0 w'))|refine sT ?_|refine sS ?_|refine sT2 ?_|refine sN ?_|refine sM fun _=> ?_|(refine sC ?_ ?_<;>intro hb<;>try omega)|exact cT|fail)
    all_goals first
      |(exfalso;omega)
      | ((refine rT2 ?_)
         rw [hres]
         by_cases h53:53≤r
         · rw [if_pos h53]
           first|(exfalso;omega)|(rw [if_pos (by omega)];done)|(have hnb: ¬ cI<V+1:=(by omega);simp only [if_neg hnb];done)
         · rw [if_neg h53,Int.add_zero]
           first|(exfalso;omega)|(rw [if_pos (by omega)];done)|(have hnb: ¬ cI<V:=(by omega);simp only [if_neg hnb];done))
  · have hlt5:i<fr+n+5:=by omega
    have hgeD:=hgk.2
    by_cases hbig:cI<V
    · have hout:f4 (ap a)=(0,3):=by
        rw [hres,if_pos]
        split<;>omega
      obtain ⟨vh,hvh⟩: ∃ z,V / 18446744073709551616=z:=⟨_,rfl⟩
      obtain ⟨vl,hvl⟩: ∃ z,V % 18446744073709551616=z:=⟨_,rfl⟩
      have hat' :=hat i h1 hlt5
      unfold fE
      rw [hvh,hvl]
      clear hres hP hat hge
      repeat' (first|(apply ak (d:=57);exact rfl;apply dE (b:=5);exact rfl;exact rfl;(simp only [maxLen] at*;omega))|(apply ak (d:=72);exact rfl;apply aZ (j:=i);exact rfl;exact rfl;omega)|(apply ak (d:=73);exact rfl;apply dF (c:=bat a i - 48);exact rfl;exact rfl;(obtain ⟨c,_,hc1,hc2,hc3,_⟩:=hat' (by omega);rw [hc3 (by omega)];exact wrap_u8 (by omega) (by omega)))|(apply ak (d:=74);exact rfl;apply Dt;exact rfl)|refine sT ?_|refine sS ?_|refine sT2 ?_|refine sN ?_|refine sM fun _=> ?_|(refine sC ?_ ?_<;>intro hb<;>try omega)|exact cT|fail)
      all_goals first
        |(exfalso;omega)
        |((refine rT2 ?_);rw [hout];done)
    · have hsm:fE V= [.int .u64 0,.int .u64 V]:=kR hgk.1 (by omega)
      by_cases hip:i=fr+n
      · subst hip
        rw [hsm]
        repeat' (first|(apply ak (d:=57);exact rfl;apply dE (b:=5);exact rfl;exact rfl;(simp only [maxLen] at*;omega))|(apply ak (d:=60);exact rfl;apply dE (b:=1);exact rfl;exact rfl;(simp only [maxLen] at*;omega))|refine sT ?_|refine sS ?_|refine sT2 ?_|refine sN ?_|refine sM fun _=> ?_|(refine sC ?_ ?_<;>intro hb<;>try omega)|exact cT|fail)
        all_goals first
          |(exfalso;omega)
          |skip
        have hk2:(if fr+n+1≤fr+n then fr+n+1 - fr else fr+n+1 - fr - 1)=k:=by
          rw [← hk,if_neg (by omega),if_pos (by omega)];omega
        refine ⟨fr+n+1,⟨by omega,by omega,?_⟩,by omega,sB,sB,?_⟩
        · rw [hk2,hV];exact h3
        · rw [hk2,hV,hsm]
          exact mS
      · obtain ⟨c,hc0,hc1,hc2,hc3,hc4⟩:=hat i h1 hlt5 hip
        have hkk:(if i<fr+n then i - fr else i - fr - 1)=k:=by
          rw [← hk]
          by_cases h:i<fr+n
          · rw [if_pos h,if_pos (by omega)]
          · rw [if_neg h,if_neg (by omega)]
        have hk2:(if i+1≤fr+n then i+1 - fr else i+1 - fr - 1)=k+1:=by
          rw [← hkk]
          by_cases h:i<fr+n
          · rw [if_pos h,if_pos (by omega)];omega
          · rw [if_neg h,if_neg (by omega)];omega
        rw [hkk] at hc0
        have hnext:=vw hc0
        rw [hV] at hnext
        obtain ⟨d,hd⟩: ∃ d,c - 48=d:=⟨_,rfl⟩
        rw [hd] at hnext
        have hT:=fun w=>DD V hgk.1 (by omega) w
        have hP2: ∀ w,ay Tryz.prog 236 [.agg (fE (10*V)).toArray,.agg #[.int .u64 0,.int .u64 d]] w (.agg (fE (10*V+d)).toArray):=fun w=>by
          have:=tT (10*V) d (by omega) (by omega) (by omega) w
          rwa [kR (v:=d) (by omega) (by omega)] at this
        have hend2: ∀ (s:az) (H:List Blk),Sub [(8,.int .i64 ((i+1:Nat):Int))] s→Sub [(0,.string a),(4,.int .i64 (fr:Int)),(5,.int .i64 ((fr+n:Nat):Int)),(7,.pointer (some ⟨g7,0,none⟩))] s→MSub [.box g7 286 (fE (10*V+d))] H→ ∃ i',(fr≤i' ∧i' ≤fr+n+5∧bw (D.take (if i' ≤fr+n then i' - fr else i' - fr - 1)) 0≤10*cI+9)∧fr+n+5 - i' <fr+n+5 - i∧Sub [(8,.int .i64 (i' :Int))] s∧Sub [(0,.string a),(4,.int .i64 (fr:Int)),(5,.int .i64 ((fr+n:Nat):Int)),(7,.pointer (some ⟨g7,0,none⟩))] s∧MSub [.box g7 286 (fE (bw (D.take (if i' ≤fr+n then i' - fr else i' - fr - 1)) 0))] H:=fun s H a1 a2 a3=>by
          refine ⟨i+1,⟨by omega,by omega,?_⟩,by omega,a1,a2,?_⟩
          · rw [hk2,hnext];omega
          · rw [hk2,hnext];exact a3
        clear hres hP hat hge hr
        rw [hsm]
        by_cases hin:i<a.size
        · have hbc:=hc3 hin
          repeat' (first|(apply ak (d:=57);exact rfl;apply dE (b:=5);exact rfl;exact rfl;(simp only [maxLen] at*;omega))|(apply ak (d:=60);exact rfl;apply dE (b:=1);exact rfl;exact rfl;(simp only [maxLen] at*;omega))|(apply ak (d:=72);exact rfl;apply aZ (j:=i);exact rfl;exact rfl;exact hin)|(rw [hbc])|(apply ak (d:=73);exact rfl;apply dF (c:=d);exact rfl;exact rfl;(rw [hd];exact wrap_u8 (by omega) (by omega)))|(apply ak (d:=74);exact rfl;apply bW (c:=d);exact rfl;(rw [IntKind.wrap_u64];omega))|(apply aa (f:=237);exact rfl;exact rfl;(intro w' hm;exact hT w'))|(apply aa (f:=236);exact rfl;exact rfl;(intro w' hm;exact hP2 w'))|refine sT ?_|refine sS ?_|refine sT2 ?_|refine sN ?_|refine sM fun _=> ?_|(refine sC ?_ ?_<;>intro hb<;>try omega)|exact cT|fail)
          all_goals first
            |(exfalso;omega)
            |exact hend2 _ _ sB sB mS
        · have hd0:d=0:=by have:=hc4 (by omega);omega
          subst hd0
          repeat' (first|(apply ak (d:=57);exact rfl;apply dE (b:=5);exact rfl;exact rfl;(simp only [maxLen] at*;omega))|(apply ak (d:=60);exact rfl;apply dE (b:=1);exact rfl;exact rfl;(simp only [maxLen] at*;omega))|(apply aa (f:=237);exact rfl;exact rfl;(intro w' hm;exact hT w'))|(apply aa (f:=236);exact rfl;exact rfl;(intro w' hm;exact hP2 w'))|refine sT ?_|refine sS ?_|refine sT2 ?_|refine sN ?_|refine sM fun _=> ?_|(refine sC ?_ ?_<;>intro hb<;>try omega)|exact cT|fail)
          all_goals first
            |(exfalso;omega)
            |exact hend2 _ _ sB sB mS
def TokR (i:Nat) (o:Option (Tk × Nat)) (v:Value):Prop:=match o with
 |some (t,n)=>v= .tuple #[.agg (bg { t with at_:=(i:Int) }).toArray,.int .i64 ((i+n:Nat):Int),.bool true]
 |none=> ∃ (t:Tk) (e:Int),v= .tuple #[.agg (bg t).toArray,.int .i64 e,.bool false]
theorem gM {p:Int→Bool} {a:ByteArray} {i:Nat} (h:i<a.size):aC p ((ap a).drop i)=if p (bat a i) then aC p ((ap a).drop (i+1))+1 else 0:=by
 rw [bi h,aC]
theorem AO {p:Int→Bool} {l:List Int} {n:Nat} (h:n=aC p l) {c:Int} (hc:c∈l.take n):p c=true:=by
 obtain ⟨k,hk,rfl⟩:=SJ hc
 rw [Rq] at hk
 rw [Ug]
 exact jM l k _ (by omega) (QQ (by omega))
set_option maxHeartbeats 4000000 in
theorem yX (a:ByteArray) (ha:a.size≤256) (i:Nat) (hi:i<a.size) (hdi:aF (bat a i)=true) (w:World):
    aK Tryz.prog 282 [.string a,.int .i64 (i:Int)] w fun v H=>H= []∧TokR i ((ku ((ap a).drop i)).map fun x=>(⟨1,x.1,av,aL,0⟩,x.2)) v:=by
  refine aq Tryz.func282 rfl Tryz.ntmps282 rfl ?_
  have hl:=au a
  have hm:cI=9223372036854775807:=rfl
  obtain ⟨W1,hW1⟩: ∃ W1,aC aF ((ap a).drop i)=W1:=⟨_,rfl⟩
  have hw0:W1≠0:=by rw [← hW1,gM hi,if_pos hdi];omega
  have hwl:i+W1≤a.size:=by
    have:=bY aF ((ap a).drop i)
    rw [Rk] at this
    omega
  obtain ⟨p,hp⟩: ∃ p,bZ ((ap a).drop (i+W1))=p:=⟨_,rfl⟩
  have hnum:ku ((ap a).drop i)=if 4<p then none else if cI<bw (((ap a).drop i).take W1++((ap a).drop (i+W1+1)).take p++List.replicate (4 - p) 48) 0 then none else some (bw (((ap a).drop i).take W1++((ap a).drop (i+W1+1)).take p++List.replicate (4 - p) 48) 0,if p=0 then W1 else W1+1+p):=by
    unfold ku
    simp only [hW1,Sw,hp]
    by_cases h4:4<p
    · rw [if_pos (.inr h4),if_pos h4]
    · rw [if_neg (by omega),if_neg h4]
      rfl
  rw [hnum]
  clear hnum
  have hD:=fun j w=>mR a (by omega) j w
  repeat' (first|refine sT ?_|refine sS ?_|refine sT2 ?_|refine sM fun _=> ?_|(refine sC ?_ ?_<;>intro hb<;>try omega)|exact cT|fail)
  rename_i g4 g7
  refine ax [0,1,4,7] rfl (fun j:Nat=> [(8,.int .i64 ((i+j:Nat):Int))]) (fun _=> [.box g7 228 (bg ⟨1,0,av,aL,i⟩),.box g4 228 (bg cY)]) (fun j=>j≤W1∧W1=j+aC aF ((ap a).drop (i+j))) (fun j=>W1 - j) 0 ⟨by omega,by rw [Ta,hW1];omega⟩ sB mS ?_
  rintro j ⟨hj,hx⟩
  by_cases hjw:j<W1
  · have hji:i+j<a.size:=by omega
    have hdj:aF (bat a (i+j))=true:=by
      rw [gM hji] at hx
      split at hx
      · assumption
      · omega
    have hx2:W1=(j+1)+aC aF ((ap a).drop (i+(j+1))):=by
      rw [gM hji,if_pos hdj] at hx
      rw [← SN i j 1];omega
    have hDj:=fun w=>hD (i+j) w
    rw [hdj] at hDj
    repeat' (first|(apply aa (f:=281);exact rfl;exact rfl;(intro w' hm;exact hDj w'))|refine sT ?_|refine sS ?_|refine sT2 ?_|refine sN ?_|refine sM fun _=> ?_|(refine sC ?_ ?_<;>intro hb<;>try omega)|exact cT|fail)
    exact ⟨j+1,⟨hjw,hx2⟩,by omega,sB,sB,.refl _⟩
  have ejw:j=W1:=by omega
  subst ejw
  have hdj:aF (bat a (i+j))=false:=by
    by_cases hji:i+j<a.size
    · rw [gM hji] at hx
      split at hx
      · omega
      · rename_i h;simpa using h
    · rw [iS (by omega)];rfl
  have hDj:=fun w=>hD (i+j) w
  rw [hdj] at hDj
  have hDk:=fun w=>hD (i+j+1) w
  have hp1:i+j<a.size→bat a (i+j)=46→p=aC aF ((ap a).drop (i+j+1)):=fun h1 h2=>by
    rw [← hp,bi h1,h2];rfl
  have hp2:(i+j<a.size→bat a (i+j)≠46)→p=0:=fun h=>by
    rw [← hp]
    by_cases h1:i+j<a.size
    · rw [bi h1];exact lU (h h1)
    · rw [Ry (by omega)];rfl
  have hp0:aF (bat a (i+j+1))=false→aC aF ((ap a).drop (i+j+1))=0:=fun h=>by
    by_cases h1:i+j+1<a.size
    · rw [gM h1,if_neg (by rw [h];simp)]
    · exact qd (by omega)
  have hpl:p≠0→i+j+1+p≤a.size:=fun h=>by
    by_cases h1:i+j<a.size∧bat a (i+j)=46
    · have:=hp1 h1.1 h1.2
      have h2:=bY aF ((ap a).drop (i+j+1))
      rw [Rk] at h2
      omega
    · exact absurd (hp2 fun h3 h4=>h1 ⟨h3,h4⟩) h
  obtain ⟨E,hE⟩: ∃ E,(if p=0 then j else j+1+p)=E:=⟨_,rfl⟩
  repeat' (first|(apply aa (d:=20);exact rfl;exact rfl;(intro w' hm;exact hDj w'))|(apply ak (d:=26);exact rfl;apply fF (lo:=i) (hi:=i+j);(iterate 3 exact rfl);exact ⟨by omega,by omega⟩)|(refine yI (id:=6) (ι:=ByteArray) (fun pl=> [(0,.string a),(1,.int .i64 (i:Int)),(4,.pointer (some ⟨g4,0,none⟩)),(7,.pointer (some ⟨g7,0,none⟩)),(8,.int .i64 ((i+E:Nat):Int)),(9,.string (sub a i (i+j))),(10,.string pl)]) (fun _=> [.box g7 228 (bg ⟨1,0,av,aL,i⟩),.box g4 228 (bg cY)]) (fun pl=>ap pl=((ap a).drop (i+j+1)).take p) ?_ ?_)|(apply ak (d:=34);exact rfl;apply aZ (j:=i+j);exact rfl;exact rfl;omega)|(apply aa (d:=41);exact rfl;exact rfl;(intro w' hm;exact hDk w'))|refine sT ?_|refine sS ?_|refine sT2 ?_|refine sN ?_|refine sM fun _=> ?_|(refine sC ?_ ?_<;>intro hb<;>try omega)|exact cT|fail)
  · -- the places
    have hdd:aF (bat a (i+j+1))=true:=by assumption
    have e46:bat a (i+j)=46:=by assumption
    have hpp:=hp1 (by omega) e46
    have hp0' :p≠0:=by
      rw [hpp]
      by_cases h1:i+j+1<a.size
      · rw [gM h1,if_pos hdd];omega
      · rw [iS (by omega)] at hdd;simp [aF] at hdd
    rw [if_neg hp0'] at hE
    subst hE
    refine ax [0,1,4,7,9,10,11] rfl (fun k:Nat=> [(8,.int .i64 ((i+j+1+k:Nat):Int))]) (fun _=> [.box g7 228 (bg ⟨1,0,av,aL,i⟩),.box g4 228 (bg cY)]) (fun k=>k≤p∧p=k+aC aF ((ap a).drop (i+j+1+k))) (fun k=>p - k) 0 ⟨by omega,by rw [Ta,RB];exact hpp⟩ sB mS ?_
    rintro k ⟨hk,hkx⟩
    have hpl' :=hpl hp0'
    by_cases hkp:k<p
    · have hki:i+j+1+k<a.size:=by omega
      have hdk:aF (bat a (i+j+1+k))=true:=by
        rw [gM hki] at hkx
        split at hkx
        · assumption
        · omega
      have hkx2:p=(k+1)+aC aF ((ap a).drop (i+j+1+(k+1))):=by
        rw [gM hki,if_pos hdk] at hkx
        rw [← SN _ k 1];omega
      have hDl:=fun w=>hD (i+j+1+k) w
      rw [hdk] at hDl
      repeat' (first|(apply aa (d:=48);exact rfl;exact rfl;(intro w' hm;exact hDl w'))|refine sT ?_|refine sS ?_|refine sT2 ?_|refine sN ?_|refine sM fun _=> ?_|(refine sC ?_ ?_<;>intro hb<;>try omega)|exact cT|fail)
      exact ⟨k+1,⟨hkp,hkx2⟩,by omega,sB,sB,.refl _⟩
    have ekp:k=p:=by omega
    subst ekp
    have hdk:aF (bat a (i+j+1+k))=false:=by
      by_cases hki:i+j+1+k<a.size
      · rw [gM hki] at hkx
        split at hkx
        · omega
        · rename_i h;simpa using h
      · rw [iS (by omega)];rfl
    have hDl:=fun w=>hD (i+j+1+k) w
    rw [hdk] at hDl
    have es:ap (sub a (i+j+1) (i+j+1+k))=((ap a).drop (i+j+1)).take k:=by
      rw [dV];congr 1;omega
    rw [show i+(j+1+k)=i+j+1+k by omega]
    repeat' (first|(apply aa (d:=48);exact rfl;exact rfl;(intro w' hm;exact hDl w'))|(apply ak (d:=54);exact rfl;apply fF (lo:=i+j+1) (hi:=i+j+1+k);(iterate 3 exact rfl);exact ⟨by omega,by omega⟩)|refine sT ?_|refine sS ?_|refine sT2 ?_|refine sN ?_|refine sM fun _=> ?_|(refine sC ?_ ?_<;>intro hb<;>try omega)|exact cT|fail)
    refine cC (sub a (i+j+1) (i+j+1+k)) es sB mS
  · -- a dot without a digit
    have hdd:aF (bat a (i+j+1))=false:=by assumption
    have hpp:=(hp1 (by omega) (by assumption)).trans (hp0 hdd)
    rw [if_pos hpp] at hE
    subst hE hpp
    refine cC av rfl sB mS
  · have hpp:=hp2 (fun _=>by assumption)
    rw [if_pos hpp] at hE
    subst hE hpp
    refine cC av rfl sB mS
  · have hpp:=hp2 (fun h=>by omega)
    rw [if_pos hpp] at hE
    subst hE hpp
    refine cC av rfl sB mS
  rintro pl hpl2
  have hps:pl.size=p:=by
    rw [← au,hpl2,Rq,Rk,hl]
    by_cases h:p=0
    · omega
    · have:=hpl h;omega
  clear hp1 hp2 hp0 hD hDj hDk
  by_cases h4:4<p
  · rw [if_pos h4]
    repeat' (first|refine sT ?_|refine sS ?_|refine sT2 ?_|refine sN ?_|refine sM fun _=> ?_|(refine sC ?_ ?_<;>intro hb<;>try omega)|exact cT|fail)
    all_goals first
      |(exfalso;omega)
      |(refine fI (.inl rfl) rfl rfl pK rfl rfl rfl (MSub.nil _) ?_;exact ⟨rfl,⟨1,0,av,aL,i⟩,_,rfl⟩)
  rw [if_neg h4]
  repeat' (first|refine sT ?_|refine sS ?_|refine sT2 ?_|refine sN ?_|refine sM fun _=> ?_|(refine sC ?_ ?_<;>intro hb<;>try omega)|exact cT|fail)
  all_goals try (exfalso;omega)
  refine ax [0,1,4,7,8,9] rfl (fun q:ByteArray × Nat=> [(10,.string q.1)]) (fun _=> [.box g7 228 (bg ⟨1,0,av,aL,i⟩),.box g4 228 (bg cY)]) (fun q=>ap q.1=((ap a).drop (i+j+1)).take p++List.replicate q.2 48∧p+q.2≤4∧q.1.size=p+q.2) (fun q=>4 - q.2) (pl,0) ⟨by rw [hpl2];simp,by dsimp only;omega,hps⟩ sB mS ?_
  rintro ⟨q,z⟩ ⟨hq1,hq2,hq3⟩
  dsimp only at hq1 hq2 hq3 ⊢
  by_cases hz:p+z<4
  · obtain ⟨B,hB⟩: ∃ B,B=q++({ data:= #[48] }:ByteArray):=⟨_,rfl⟩
    have hB1:ap B=((ap a).drop (i+j+1)).take p++List.replicate (z+1) 48:=by
      rw [hB,gA,hq1,List.replicate_succ',Rx];rfl
    have hB2:B.size=p+(z+1):=by
      rw [hB,Tf,hq3];rfl
    repeat' (first|(apply ak (d:=63);exact rfl;apply jz (c:=B);exact rfl;exact rfl;exact hB.symm;(simp only [hq3];have:({ data:= #[48] }:ByteArray).size=1:=rfl;omega))|refine sT ?_|refine sS ?_|refine sT2 ?_|refine sN ?_|refine sM fun _=> ?_|(refine sC ?_ ?_<;>intro hb<;>try omega)|exact cT|fail)
    all_goals first
      |(exfalso;omega)
      |exact ⟨(B,z+1),⟨hB1,by dsimp only;omega,hB2⟩,by dsimp only;omega,sB,sB,.refl _⟩
  have ez:z=4 - p:=by omega
  subst ez
  obtain ⟨X,hX⟩: ∃ X,X=sub a i (i+j)++q:=⟨_,rfl⟩
  obtain ⟨D,hD⟩: ∃ D,D=((ap a).drop i).take j++((ap a).drop (i+j+1)).take p++List.replicate (4 - p) 48:=⟨_,rfl⟩
  have hXD:ap X=D:=by
    rw [hX,gA,dV,hq1,hD,← Rx]
    congr 3;omega
  rw [← hD]
  have hsz1:(sub a i (i+j)).size=j:=by rw [ck a (by omega)];omega
  have hXs:X.size=j+4:=by rw [hX,Tf,hsz1,hq3];omega
  have hDl:D.length=j+4:=by rw [← hXD,au,hXs]
  have hdig: ∀ (k:Nat) c,D[k]? =some c→48≤c∧c≤57:=fun k c hk=>by
    have hc:=SQ hk
    rw [hD,Rs,Rs] at hc
    refine (eD c).1 ?_
    rcases hc with (hc|hc)|hc
    · exact AO hW1.symm hc
    · by_cases h0:p=0
      · rw [h0] at hc;simp at hc
      · obtain ⟨r,hr,hr2⟩:=mX (l:=(ap a).drop (i+j)) (by rw [hp];exact h0)
        rw [hp] at hr2
        have:(ap a).drop (i+j+1)=r:=by rw [← Sw,hr];rfl
        rw [this] at hc
        exact AO hr2 hc
    · rw [List.eq_of_mem_replicate hc];rfl
  repeat' (first|(apply ak (d:=66);exact rfl;apply jz (c:=X);exact rfl;exact rfl;exact hX.symm;omega)|refine sT ?_|refine sS ?_|refine sT2 ?_|refine sN ?_|refine sM fun _=> ?_|(refine sC ?_ ?_<;>intro hb<;>try omega)|exact cT|fail)
  all_goals try (exfalso;omega)
  have hge:=oR hdig
  refine ax [0,1,4,7,8,12] rfl (fun k:Nat=> [(13,.int .i64 (k:Int))]) (fun k=> [.box g7 228 (bg ⟨1,bw (D.take k) 0,av,aL,i⟩),.box g4 228 (bg cY)]) (fun k=>k≤j+4∧bw (D.take k) 0≤cI) (fun k=>j+4 - k) 0 ⟨by omega,by rw [Su];decide⟩ sB mS ?_
  rintro k ⟨hk1,hk2⟩
  have hgk:=hge k
  by_cases hkl:k<j+4
  · obtain ⟨c,hc⟩: ∃ c,D[k]? =some c:=⟨_,QQ (by omega)⟩
    have hcd:=hdig k c hc
    have hbc:bat X k=c:=by
      have:=fW (a:=X) (i:=k) (by omega)
      rw [hXD,hc] at this
      exact (Option.some.inj this).symm
    have hnx:=vw hc
    have hgk1:=hge (k+1)
    obtain ⟨V,hV⟩: ∃ V,bw (D.take k) 0=V:=⟨_,rfl⟩
    rw [hV] at hk2 hgk hnx ⊢
    have hq10:IntKind.i64.wrap ((9223372036854775807 - (c - 48)).tdiv 10)=(9223372036854775807 - (c - 48)) / 10:=by
      rw [Ub (by omega)]
      exact I64.wrap ⟨by omega,by omega⟩
    rw [show bg ⟨1,V,av,aL,i⟩= [.int .u8 1,.int .i64 V,.string av,.int .i64 0,.int .i64 0,.int .i64 0,.int .i64 0,.int .i64 (i:Int)] from rfl]
    repeat' (first|(apply ak (d:=75);exact rfl;apply aZ (j:=k);exact rfl;exact rfl;omega)|(rw [hbc])|(apply ak (d:=76);exact rfl;apply dF (c:=c - 48);exact rfl;exact rfl;(exact wrap_u8 (by omega) (by omega)))|(apply ak (d:=77);exact rfl;apply bW (c:=c - 48);exact rfl;exact I64.wrap ⟨by omega,by omega⟩)|(apply ak (d:=81);exact rfl;apply JE;exact rfl;exact rfl;exact ⟨by omega,by omega⟩)|(apply ak (d:=82);exact rfl;apply mE;exact rfl;exact rfl;exact (by decide);exact hq10)|(apply ak (d:=87);exact rfl;apply ux;exact rfl;exact rfl;exact ⟨by omega,by omega⟩)|(apply ak (d:=89);exact rfl;apply eV;exact rfl;exact rfl;exact ⟨by omega,by omega⟩)|refine sT ?_|refine sS ?_|refine sT2 ?_|refine sN ?_|refine sM fun _=> ?_|(refine sC ?_ ?_<;>intro hb<;>try omega)|exact cT|fail)
    all_goals first
      |(rw [if_pos (show cI<bw D 0 by omega)];refine fI (.inl rfl) rfl rfl pK rfl rfl rfl (MSub.nil _) ?_;exact ⟨rfl,⟨1,V,av,aL,i⟩,_,rfl⟩)
      | (have hle : 10 * V + (c - 48) ≤ cI := (by omega)
         rw [← hnx] at hle
         refine ⟨k+1,⟨by omega,hle⟩,by omega,sB,sB,?_⟩
         rw [hnx]
         exact mS)
  · have ek:k=j+4:=by omega
    subst ek
    rw [RS (by omega)] at hk2 hgk ⊢
    repeat' (first|refine sT ?_|refine sS ?_|refine sT2 ?_|refine sN ?_|refine sM fun _=> ?_|(refine sC ?_ ?_<;>intro hb<;>try omega)|exact cT|fail)
    all_goals first
      |(exfalso;omega)
      |(rw [if_neg (by omega),hE];refine fI (.inl rfl) rfl rfl pK rfl rfl rfl (MSub.nil _) ?_;exact ⟨rfl,rfl⟩)
theorem qJ {a:ByteArray} {i:Nat} (h:a.size≤i):(ap a).drop i= []:=Ry (by rw [au];exact h)
set_option maxHeartbeats 2000000 in
theorem DQ (a:ByteArray) (ha:a.size≤256) (i:Nat) (hi:i<a.size) (w:World):
  aK Tryz.prog 283 [.string a,.int .i64 (i:Int)] w fun v H=>H= []∧TokR i ((j0 ((ap a).drop (i+1))).map fun x=>(⟨2,0,mkB x.1,aL,0⟩,x.2+1)) v:=by
 refine aq Tryz.func283 rfl Tryz.ntmps283 rfl ?_
 have hl:=au a
 obtain ⟨X,hX⟩: ∃ X,j0 ((ap a).drop (i+1))=X:=⟨_,rfl⟩
 rw [hX]
 repeat' (first|refine sT ?_|refine sS ?_|refine sT2 ?_|refine sN ?_|refine sM fun _=> ?_|(refine sC ?_ ?_<;>intro hb<;>try omega)|fail)
 rename_i g4 g7
 refine ax [0,1,4,7] rfl (fun x:Nat × ByteArray=> [(8,.int .i64 (x.1:Int))]) (fun x=> [.box g7 228 (bg ⟨2,0,x.2,aL,i⟩),.box g4 228 (bg cY)]) (fun x=>i+1≤x.1∧x.1≤a.size∧x.2.size≤x.1∧X=(j0 ((ap a).drop x.1)).map fun y=>(ap x.2++y.1,y.2+(x.1 - (i+1)))) (fun x=>a.size - x.1) (i+1,av) ⟨QV _,hi,QX _,by rw [hX];cases X<;>simp [vT]⟩ sB mS ?_
 rintro ⟨k,T⟩ ⟨hk1,hk2,hT,hXk⟩
 dsimp only at hk1 hk2 hT hXk ⊢
 rw [show bg ⟨2,0,T,aL,i⟩= [.int .u8 2,.int .i64 0,.string T,.int .i64 0,.int .i64 0,.int .i64 0,.int .i64 0,.int .i64 (i:Int)] from rfl]
 by_cases hend:k=a.size
 ·
  subst hend
  rw [qJ (QV _)] at hXk
  simp only [j0,Ul] at hXk
  subst hXk
  repeat' (first|refine sT ?_|refine sS ?_|refine sT2 ?_|refine sN ?_|refine sM fun _=> ?_|(refine sC ?_ ?_<;>intro hb<;>try omega)|fail)
  all_goals first
   |(exfalso;omega)
   |((refine cJ ?_);exact ⟨rfl,⟨2,0,T,aL,i⟩,_,rfl⟩)
 have hlt:k<a.size:=by omega
 rw [bi hlt,j0.eq_def] at hXk
 dsimp only at hXk
 obtain ⟨T1,hT1⟩: ∃ T1,T1=T++sub a k (k+1):=⟨_,rfl⟩
 obtain ⟨T2,hT2⟩: ∃ T2,T2=T++({ data:= #[34] }:ByteArray):=⟨_,rfl⟩
 have hs1:(sub a k (k+1)).size=1:=by rw [ck a (by omega)];omega
 have hs2:({ data:= #[34] }:ByteArray).size=1:=rfl
 have hT1s:T1.size=T.size+1:=by rw [hT1,Tf,hs1]
 have hT2s:T2.size=T.size+1:=by rw [hT2,Tf,hs2]
 have hT1i:ap T1=ap T++ [bat a k]:=by rw [hT1,gA,dV,bi hlt,show k+1 - k=1 by omega];rfl
 have hT2i:ap T2=ap T++ [34]:=by rw [hT2,gA];rfl
 repeat' (first|(refine iL (id:=6) [9] [1] [Blk.box g4 228 (bg cY)] (by kernel_rfl) (by kernel_rfl) (by kernel_rfl) mS ?_)|(apply ak;exact rfl;apply aZ (j:=k);exact rfl;exact rfl;omega)|(apply ak;exact rfl;apply aZ (j:=k+1);exact rfl;exact rfl;omega)|(apply da (d:=29);(iterate 3 exact rfl);apply fF (lo:=k) (hi:=k+1);(iterate 3 exact rfl);exact ⟨by omega,by omega⟩)|(apply da (d:=30);(iterate 3 exact rfl);apply jz (c:=T1);exact rfl;exact rfl;exact hT1.symm;omega)|(apply ak (d:=46);exact rfl;apply jz (c:=T2);exact rfl;exact rfl;exact hT2.symm;omega)|refine sT ?_|refine sS ?_|refine sW ?_|refine sT2 ?_|refine sW2 ?_|refine sN ?_|refine sWN ?_|refine sM fun _=> ?_|(refine sC ?_ ?_<;>intro hb<;>try omega)|(refine sCW ?_ ?_<;>intro hb<;>try omega)|fail)
 ·
  rw [if_pos (by assumption),TR] at hXk
  refine ⟨(k+1,T1),⟨by dsimp only;omega,hlt,by dsimp only;omega,?_⟩,by dsimp only;omega,sB,sB,by exact mS⟩
  rw [hXk]
  congr 1
  funext y
  simp only [Function.comp,hT1i,Rx,List.singleton_append]
  congr 1
  omega
 ·
  have h34:bat a (k+1)=34:=by assumption
  rw [if_neg (by assumption),bi (by omega),h34] at hXk
  simp only [if_true,TR] at hXk
  refine ⟨(k+1+1,T2),⟨by dsimp only;omega,by dsimp only;omega,by dsimp only;omega,?_⟩,by dsimp only;omega,sB,sB,by exact mS⟩
  rw [hXk]
  congr 1
  funext y
  simp only [Function.comp,hT2i,Rx,List.singleton_append]
  congr 1
  omega
 ·
  have h34: ¬ bat a (k+1)=34:=by assumption
  rw [if_neg (by assumption),bi (by omega)] at hXk
  simp only [if_neg h34,Se,QW] at hXk
  subst hXk
  (refine cJ ?_)
  refine ⟨rfl,?_⟩
  simp only [Se,TokR,ll]
  rw [show i+(1+(k - (i+1))+1)=k+1 by omega]
  rfl
 ·
  rw [if_neg (by assumption),qJ (by omega)] at hXk
  simp only [Se,QW] at hXk
  subst hXk
  (refine cJ ?_)
  refine ⟨rfl,?_⟩
  simp only [Se,TokR,ll]
  rw [show i+(1+(k - (i+1))+1)=k+1 by omega]
  rfl
end Go.SL
